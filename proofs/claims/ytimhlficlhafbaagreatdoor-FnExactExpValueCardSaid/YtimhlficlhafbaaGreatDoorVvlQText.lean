-- Cut by prune.py.
import Derived.Test.YtimhlficlhafbaaGreatDoorVvlQTree
namespace Go.Proofs.YtimhlficlhafbaaGreatDoor.QText
open RowKit Pv YtimhlficlhafbaaGreatDoorW.PrintWords YtimhlficlhafbaaGreatDoorW.PrintLast QStr QGenR QRule QTree
def tx (T:List (List UInt8)) (k:Int):List UInt8:=T.getD k.toNat []
abbrev zE:IEx:=⟨0,⟨#[]⟩,[]⟩
def kd_ (es:List IEx) (k:Int):Int:=(es.getD k.toNat zE).f0
def side (es:List IEx) (T:List (List UInt8)) (k:Int):List UInt8:=if 5≤kd_ es k∧kd_ es k≤7 then 40 :: (tx T k ++ [41])else tx T k
def sgn (k:Int):UInt8:=if k=5 then 43 else if k=6 then 45 else 42
def one (es:List IEx) (e:IEx) (T:List (List UInt8)):List UInt8 :=
 if e.f0=2 then [95]else if e.f0=4 then(if e.f2=[]then L e.f1 else L e.f1 ++ 40 :: (Lib.join (e.f2.map (tx T)) [44,32] ++ [41]))
 else if 5≤e.f0∧e.f0≤7 then side es T (rd e.f2 0) ++ 32 :: sgn e.f0 :: 32 :: side es T (rd e.f2 1)else L e.f1
def bld (es:List IEx):Nat→List (List UInt8)
 | 0=>[]
 | i + 1=>bld es i ++ [one es (es.getD i zE) (bld es i)]
theorem bld_len (es:List IEx):∀ i,(bld es i).length=i
 | 0=>rfl
 | i + 1=>by
  show(bld es i ++ [one es (es.getD i zE) (bld es i)]).length=i + 1
  rw [List.length_append,bld_len es i]
  rfl
theorem bld_at (es:List IEx) (j:Nat):∀ n,j < n→(bld es n).getD j []=one es (es.getD j zE) (bld es j)
 | 0,h=>absurd h (Nat.not_lt_zero j)
 | n + 1,h=>by
  show(bld es n ++ [one es (es.getD n zE) (bld es n)]).getD j []=_
  have hl:=bld_len es n
  rw [List.getD_eq_getElem?_getD]
  by_cases e:j < n
  ·rw [List.getElem?_append_left (by omega),← List.getD_eq_getElem?_getD,bld_at es j n e]
  ·obtain rfl:j=n:=by omega
   rw [List.getElem?_append_right (by omega),hl,Nat.sub_self]
   rfl
theorem tx_bld (es:List IEx) (n m:Nat) (k:Int) (h0:0≤k) (h:k < (n:Int)) (hm:n≤m):tx (bld es m) k=tx (bld es n) k:=by
 unfold tx
 rw [bld_at es k.toNat m (by omega),bld_at es k.toNat n (by omega)]
def EOk (i:Int) (e:IEx):Prop:=InR i e.f2∧1≤e.f0∧e.f0≤7∧(5≤e.f0→e.f2.length=2)∧(e.f0≤3→e.f2.length=0)
def EsOk (es:List IEx):Prop:=∀ i (h:i < es.length),EOk (i:Int) es[i]
theorem getD_in (es:List IEx) (i:Nat) (h:i < es.length):es.getD i zE=es[i]:=by
 rw [List.getD_eq_getElem?_getD,List.getElem?_eq_getElem h]
 rfl
theorem rd_mem {ks:List Int} {j:Nat} (h:j < ks.length):rd ks (j:Int)∈ks:=by
 rw [rdN_get ks j h]
 exact List.getElem_mem h
theorem one_congr (es:List IEx) (e:IEx) (i:Int) (he:EOk i e) (T U:List (List UInt8)) (h:∀ k∈e.f2,tx T k=tx U k):one es e T=one es e U:=by
 unfold one
 by_cases h2:e.f0=2
 ·rw [if_pos h2,if_pos h2]
 ·rw [if_neg h2,if_neg h2]
  by_cases h4:e.f0=4
  ·rw [if_pos h4,if_pos h4,List.map_congr_left h]
  ·rw [if_neg h4,if_neg h4]
   by_cases h5:5≤e.f0∧e.f0≤7
   ·have hl:=he.2.2.2.1 h5.1
    have e0:=h _ (rd_mem (ks:=e.f2) (j:=0) (by omega))
    have e1:=h _ (rd_mem (ks:=e.f2) (j:=1) (by omega))
    rw [if_pos h5,if_pos h5]
    unfold side
    rw [show(0:Int)=((0:Nat):Int)from rfl,show(1:Int)=((1:Nat):Int)from rfl,e0,e1]
   ·rw [if_neg h5,if_neg h5]
def txs (es:List IEx):List (List UInt8):=bld es es.length
theorem txs_len (es:List IEx):(txs es).length=es.length:=bld_len es _
theorem txs_at (es:List IEx) (h:EsOk es) (i:Nat) (hi:i < es.length):tx (txs es) (i:Int)=one es es[i] (txs es):=by
 unfold txs
 show(bld es es.length).getD i []=_
 rw [bld_at es i _ hi,getD_in es i hi]
 exact one_congr es _ _ (h i hi) _ _ (fun k hk=>by
  have:=(h i hi).1 k hk
  exact(tx_bld es i es.length k this.1 this.2 (by omega)).symm)
def sm (T:List (List UInt8)):List Int→Nat
 | []=>0
 | k :: r=>(tx T k).length + sm T r
theorem lens_sm (T:List (List UInt8)):∀ ks:List Int,Lib.lens (ks.map (tx T))=sm T ks
 | []=>rfl
 | k :: r=>by
  have ih:=lens_sm T r
  unfold Lib.lens at ih ⊢
  rw [List.map_cons,List.map_cons,List.sum_cons,ih]
  rfl
theorem join_le (T:List (List UInt8)) (ks:List Int):(Lib.join (ks.map (tx T)) [44,32]).length≤sm T ks + 2 * ks.length:=by
 cases ks with
 | nil=>exact Nat.zero_le _
 | cons k r =>
  rw [List.map_cons,Lib.join_cons,List.length_append,Lib.joinTail_length,lens_sm,List.length_map]
  show(tx T k).length + (2 * r.length + sm T r)≤(tx T k).length + sm T r + 2 * (r.length + 1)
  omega
theorem join_mem (T:List (List UInt8)):∀(ks:List Int) (k:Int),k∈ks→(tx T k).length≤(Lib.join (ks.map (tx T)) [44,32]).length:=by
 have hs:∀(ks:List Int) (k:Int),k∈ks→(tx T k).length≤sm T ks:=by
  intro ks
  induction ks with
  | nil=>intro k h;cases h
  | cons x r ih =>
   intro k h
   show(tx T k).length≤(tx T x).length + sm T r
   rcases List.mem_cons.1 h with rfl|h
   ·omega
   ·have:=ih k h
    omega
 intro ks k h
 cases ks with
 | nil=>cases h
 | cons x r =>
  rw [List.map_cons,Lib.join_cons,List.length_append,Lib.joinTail_length,lens_sm]
  rcases List.mem_cons.1 h with rfl|h
  ·omega
  ·have:=hs r k h
   omega
theorem two {ks:List Int} (h:ks.length=2):ks=[rd ks 0,rd ks 1]:=by
 match ks,h with
 | [a,b],_=>rfl
theorem side_le (es:List IEx) (T:List (List UInt8)) (k:Int):(tx T k).length≤(side es T k).length∧(side es T k).length≤(tx T k).length + 2:=by
 unfold side
 by_cases h:5≤kd_ es k∧kd_ es k≤7
 ·rw [if_pos h,List.length_cons,List.length_append]
  exact⟨by omega,by simp⟩
 ·rw [if_neg h]
  exact⟨by omega,by omega⟩
theorem one_le (es:List IEx) (e:IEx) (i:Int) (he:EOk i e) (T:List (List UInt8)):(one es e T).length≤e.f1.size + sm T e.f2 + 2 * e.f2.length + 8:=by
 have hf:(L e.f1).length=e.f1.size:=L_length _
 unfold one
 by_cases h2:e.f0=2
 ·rw [if_pos h2]
  show 1≤_
  omega
 ·rw [if_neg h2]
  by_cases h4:e.f0=4
  ·rw [if_pos h4]
   by_cases h0:e.f2=[]
   ·rw [if_pos h0]
    omega
   ·have:=join_le T e.f2
    rw [if_neg h0,List.length_append,List.length_cons,List.length_append]
    show _ + (_ + 1 + 1)≤_
    omega
  ·rw [if_neg h4]
   by_cases h5:5≤e.f0∧e.f0≤7
   ·have hl:=he.2.2.2.1 h5.1
    have s0:=side_le es T (rd e.f2 0)
    have s1:=side_le es T (rd e.f2 1)
    have hs:sm T e.f2=(tx T (rd e.f2 0)).length + ((tx T (rd e.f2 1)).length + 0):=by
     conv=>lhs;rw [two hl]
     rfl
    rw [if_pos h5,List.length_append,List.length_cons,List.length_cons,List.length_cons]
    omega
   ·rw [if_neg h5]
    omega
theorem one_mem (es:List IEx) (e:IEx) (i:Int) (he:EOk i e) (T:List (List UInt8)) (k:Int) (hk:k∈e.f2):(tx T k).length≤(one es e T).length:=by
 have hne:e.f2≠[]:=fun h=>by rw [h]at hk;cases hk
 have hl0:e.f2.length≠0:=fun h=>hne (List.length_eq_zero_iff.1 h)
 have h3:¬ e.f0≤3:=fun h=>hl0 (he.2.2.2.2 h)
 unfold one
 rw [if_neg (by omega)]
 by_cases h4:e.f0=4
 ·have:=join_mem T e.f2 k hk
  rw [if_pos h4,if_neg hne,List.length_append,List.length_cons,List.length_append]
  omega
 ·have h5:5≤e.f0∧e.f0≤7:=⟨by omega,he.2.2.1⟩
  have hl:=he.2.2.2.1 h5.1
  have s0:=side_le es T (rd e.f2 0)
  have s1:=side_le es T (rd e.f2 1)
  rw [if_neg h4,if_pos h5,List.length_append,List.length_cons,List.length_cons,List.length_cons]
  rw [two hl]at hk
  rcases List.mem_cons.1 hk with rfl|hk
  ·omega
  ·rcases List.mem_cons.1 hk with rfl|hk
   ·omega
   ·cases hk
def kids (es:List IEx):Nat→List Int
 | 0=>[]
 | i + 1=>kids es i ++ (es.getD i zE).f2
theorem kids_in (es:List IEx) (h:EsOk es):∀ i,i≤es.length→InR (i:Int) (kids es i)
 | 0,_=>inR_nil _
 | i + 1,hi=>by
  intro k hk
  rcases List.mem_append.1 hk with hk|hk
  ·have:=kids_in es h i (by omega) k hk
   omega
  ·rw [getD_in es i (by omega)]at hk
   have:=(h i (by omega)).1 k hk
   omega
theorem kids_mem (es:List IEx):∀ i,∀ k∈kids es i,∃ j,∃ _:j < i,k∈(es.getD j zE).f2
 | 0,k,hk=>by cases hk
 | i + 1,k,hk=>by
  rcases List.mem_append.1 hk with hk|hk
  ·obtain⟨j,hj,h⟩:=kids_mem es i k hk
   exact⟨j,by omega,h⟩
  ·exact⟨i,by omega,hk⟩
def us0 (es:List IEx):List Int:=List.replicate es.length 0
theorem us0_len (es:List IEx):(us0 es).length=es.length:=List.length_replicate
theorem us0_at (es:List IEx) (j:Nat):(us0 es).getD j 0=0:=by
 unfold us0
 rw [List.getD_eq_getElem?_getD,List.getElem?_replicate]
 by_cases h:j < es.length
 ·rw [if_pos h]
  rfl
 ·rw [if_neg h]
  rfl
theorem sm_take (T:List (List UInt8)) (i:Nat):∀ ks,InR (i:Int) ks→i≤T.length→sumW ((T.take i).map List.length) ks=sm T ks
 | [],_,_=>rfl
 | k :: r,h,hi=>by
  obtain⟨h1,h2⟩:=inR_cons.1 h
  have ih:=sm_take T i r h2 hi
  have hk:k.toNat < i:=by omega
  show((T.take i).map List.length).getD k.toNat 0 + sumW ((T.take i).map List.length) r=(tx T k).length + sm T r
  rw [ih]
  unfold tx
  rw [List.getD_eq_getElem?_getD,List.getD_eq_getElem?_getD,List.getElem?_map,List.getElem?_take_of_lt hk,List.getElem?_eq_getElem (by omega)]
  rfl
theorem tree_phi (es:List IEx) (h:EsOk es) (hw:∀ e∈es,e.f1.size≤1048576∧e.f2.length≤1048576) (hu:∀ j,(incs (us0 es) (kids es es.length)).getD j 0≤1) :
  ∀ i,i≤es.length→phi (incs (us0 es) (kids es i)) (((txs es).take i).map List.length)≤i * 4194304
 | 0,_=>by
  rw [List.take_zero]
  exact Nat.le_of_eq (phi_nil _)
 | i + 1,hi=>by
  have ih:=tree_phi es h hw hu i (by omega)
  have hlt:i < es.length:=by omega
  have hT:=txs_len es
  have hk1:=kids_in es h i (by omega)
  have hk2:InR (i:Int) es[i].f2:=(h i hlt).1
  have hul:(incs (us0 es) (kids es i)).length=es.length:=by rw [incs_len,us0_len]
  have hle:∀ m,m≤es.length→∀ j,(incs (us0 es) (kids es m)).getD j 0≤1:=by
   intro m hm
   induction hd:es.length - m generalizing m with
   | zero =>
    obtain rfl:m=es.length:=by omega
    exact hu
   | succ d ihd =>
    intro j
    have h1:=ihd (m + 1) (by omega) (by omega) j
    have h2:incs (us0 es) (kids es (m + 1))=incs (incs (us0 es) (kids es m)) (es.getD m zE).f2:=incs_app _ _ _
    rw [h2]at h1
    have h3:=incs_le (es.getD m zE).f2 (incs (us0 es) (kids es m)) j (by
     rw [incs_len,us0_len,getD_in es m (by omega)]
     exact inR_le (h m (by omega)).1 (by omega))
    omega
  have h0:∀ j,0≤(incs (us0 es) (kids es i)).getD j 0:=fun j=>by
   have:=incs_le (kids es i) (us0 es) j (by rw [us0_len];exact inR_le hk1 (by omega))
   rw [us0_at]at this
   exact this
  have hE:incs (us0 es) (kids es (i + 1))=incs (incs (us0 es) (kids es i)) es[i].f2:=by
   show incs (us0 es) (kids es i ++ (es.getD i zE).f2)=_
   rw [incs_app,getD_in es i hlt]
  have hp:=phi_incs (((txs es).take i).map List.length) es[i].f2 (incs (us0 es) (kids es i)) (by rw [List.length_map,List.length_take,hT,Nat.min_eq_left (by omega)];exact hk2) (by rw [List.length_map,List.length_take,hul];omega) h0 (fun j=>by rw [← hE];exact hle (i + 1) hi j)
  rw [sm_take (txs es) i es[i].f2 hk2 (by omega)]at hp
  have hz:(incs (us0 es) (kids es (i + 1))).getD i 0=0:=by
   rw [incs_same _ _ _ (by rw [us0_len];exact inR_le (kids_in es h (i + 1) hi) (by omega)) (fun hm=>by
    rcases List.mem_append.1 hm with hm|hm
    ·have:=hk1 _ hm
     omega
    ·rw [getD_in es i hlt]at hm
     have:=hk2 _ hm
     omega),us0_at]
  have hs:=phi_snoc (((txs es).take i).map List.length) (incs (us0 es) (kids es (i + 1))) (tx (txs es) (i:Int)).length (by rw [List.length_map,List.length_take,incs_len,us0_len];omega) (by rw [List.length_map,List.length_take,hT,Nat.min_eq_left (by omega)];exact hz)
  have ht:((txs es).take (i + 1)).map List.length=((txs es).take i).map List.length ++ [(tx (txs es) (i:Int)).length]:=by
   rw [List.take_succ_eq_append_getElem (by omega),List.map_append]
   unfold tx
   rw [show((i:Int)).toNat=i from rfl,List.getD_eq_getElem?_getD,List.getElem?_eq_getElem (by omega)]
   rfl
  rw [ht,hs,hE]
  have h1:=one_le es es[i] (i:Int) (h i hlt) (txs es)
  rw [← txs_at es h i hlt]at h1
  have h2:=hw es[i] (List.getElem_mem hlt)
  omega
theorem tree_bound (es:List IEx) (h:EsOk es) (hn:es.length≤60) (hw:∀ e∈es,e.f1.size≤1048576∧e.f2.length≤1048576) (hu:∀ j,(incs (us0 es) (kids es es.length)).getD j 0≤1) (i:Nat) (hi:i < es.length):(tx (txs es) (i:Int)).length≤536870912:=by
 have hp:=tree_phi es h hw hu i (by omega)
 have hT:=txs_len es
 have hle:∀ j,(incs (incs (us0 es) (kids es i)) es[i].f2).getD j 0≤1:=by
  have:∀ m,m≤es.length→∀ j,(incs (us0 es) (kids es m)).getD j 0≤1:=by
   intro m hm
   induction hd:es.length - m generalizing m with
   | zero =>
    obtain rfl:m=es.length:=by omega
    exact hu
   | succ d ihd =>
    intro j
    have h1:=ihd (m + 1) (by omega) (by omega) j
    have h2:incs (us0 es) (kids es (m + 1))=incs (incs (us0 es) (kids es m)) (es.getD m zE).f2:=incs_app _ _ _
    rw [h2]at h1
    have h3:=incs_le (es.getD m zE).f2 (incs (us0 es) (kids es m)) j (by
     rw [incs_len,us0_len,getD_in es m (by omega)]
     exact inR_le (h m (by omega)).1 (by omega))
    omega
  have h2:incs (us0 es) (kids es (i + 1))=incs (incs (us0 es) (kids es i)) es[i].f2:=by
   show incs (us0 es) (kids es i ++ (es.getD i zE).f2)=_
   rw [incs_app,getD_in es i hi]
  rw [← h2]
  exact this (i + 1) (by omega)
 have hk1:=kids_in es h i (by omega)
 have h0:∀ j,0≤(incs (us0 es) (kids es i)).getD j 0:=fun j=>by
  have:=incs_le (kids es i) (us0 es) j (by rw [us0_len];exact inR_le hk1 (by omega))
  rw [us0_at]at this
  exact this
 have hq:=phi_incs (((txs es).take i).map List.length) es[i].f2 (incs (us0 es) (kids es i)) (by rw [List.length_map,List.length_take,hT,Nat.min_eq_left (by omega)];exact(h i hi).1) (by rw [List.length_map,List.length_take,incs_len,us0_len];omega) h0 hle
 rw [sm_take (txs es) i es[i].f2 (h i hi).1 (by omega)]at hq
 have h1:=one_le es es[i] (i:Int) (h i hi) (txs es)
 rw [← txs_at es h i hi]at h1
 have h2:=hw es[i] (List.getElem_mem hi)
 have h3:i * 4194304≤60 * 4194304:=Nat.mul_le_mul_right _ (by omega)
 omega
end Go.Proofs.YtimhlficlhafbaaGreatDoor.QText
