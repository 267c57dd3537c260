-- Cut by prune.py.
import Derived.Test.YtimhlficlhafbaaGreatDoorVvlQPrs
import Derived.Test.YtimhlficlhafbaaGreatDoorVvlQScan
import Derived.Test.YtimhlficlhafbaaGreatDoorVvlQNumb
namespace Go.Proofs.YtimhlficlhafbaaGreatDoor.QKind
open RowKit Pv YtimhlficlhafbaaGreatDoorW.PrintWords YtimhlficlhafbaaGreatDoorW.PrintLast QStr QTm QPrs QScan QNumb
theorem sym_l (s:List UInt8) (hs:s.length≤281474976710656):∀(d i k:Nat),i + d + 1=s.length→d < k→z6_.l0 k (B s) (i:Int)=some (if((s.drop i).take d).all isSy=true then 2 else 0)
 | 0,i,k,hd,hk=>by
  obtain⟨k,rfl⟩:∃ m,k=m + 1:=⟨k - 1,by omega⟩
  rw [z6_.l0,show((i:Int) + 1)=((i + 1:Nat):Int)by omega,wrap_nat (by omega),if_neg (by rw [y24];omega),List.take_zero]
  rfl
 | d + 1,i,k,hd,hk=>by
  obtain⟨k,rfl⟩:∃ m,k=m + 1:=⟨k - 1,by omega⟩
  have hlt:i < s.length:=by omega
  have h256:=lt256 s[i]
  rw [z6_.l0,show((i:Int) + 1)=((i + 1:Nat):Int)by omega,wrap_nat (by omega),if_pos (by rw [y24];omega),if_pos (by omega),if_pos (by rw [y24];omega),bt_B s i hlt,wrapS (by omega) (by omega),between_f,Option.bind_some,
   List.drop_eq_getElem_cons hlt,List.take_succ_cons,List.all_cons,sym_l s hs d (i + 1) k (by omega) (by omega)]
  by_cases h1:32≤s[i].toNat∧s[i].toNat≤126
  ·rw [if_pos (by simp only [decide_eq_true_eq];omega)]
   by_cases h34:s[i]=34
   ·rw [if_pos (by rw [h34];rfl),if_neg (by rw [h34];simp [isSy])]
   ·rw [if_neg (show ¬((_:Int)=34)from QScan.u8_ne (b:=34) h34)]
    by_cases h92:s[i]=92
    ·rw [if_pos (by rw [h92];rfl),if_neg (by rw [h92];simp [isSy])]
    ·rw [if_neg (show ¬((_:Int)=92)from QScan.u8_ne (b:=92) h92)]
     have h34':s[i].toNat≠34:=fun e=>h34 (UInt8.toNat_inj.1 e)
     have h92':s[i].toNat≠92:=fun e=>h92 (UInt8.toNat_inj.1 e)
     have hy:isSy s[i]=true:=by
      simp only [isSy,Bool.and_eq_true,decide_eq_true_eq]
      exact⟨⟨h1,h34'⟩,h92'⟩
     rw [hy,Bool.true_and]
  ·rw [if_neg (by simp only [decide_eq_true_eq];omega),if_neg]
   simp only [isSy,Bool.and_eq_true,decide_eq_true_eq]
   omega
theorem sym_shape {s:List UInt8} (h0:s.head?=some 34) (h2:2≤s.length) (hl:s.getLast?=some 34):s=34 :: ((s.drop 1).take (s.length - 2) ++ [34]):=by
 cases s with
 | nil=>simp at h2
 | cons c r =>
  simp only [List.head?_cons,Option.some.injEq]at h0
  subst h0
  simp only [List.drop_succ_cons,List.drop_zero,List.length_cons]
  congr 1
  have hr:r≠[]:=by intro h;subst h;simp at h2
  have hlast:r.getLast hr=34:=by
   rw [List.getLast?_cons]at hl
   simp only [Option.some.injEq]at hl
   rw [List.getLast?_eq_some_getLast hr]at hl
   exact hl
  have h3:=List.dropLast_concat_getLast hr
  rw [hlast]at h3
  rw [show r.length + 1 - 2=r.length - 1 by omega,← List.dropLast_eq_take]
  exact h3.symm
theorem args_l (qs:List (List UInt8)) (hq:qs.length≤281474976710656) (K:Nat) (IH:∀ q∈qs,∀ k,4 * q.length + 80 < k→z6_.f k (B q)=some (kd (prs q))) (hK:∀ q∈qs,4 * q.length + 82 + qs.length < K) (hK2:qs.length < K) :
  ∀(d i:Nat),i≤qs.length→qs.length - i=d→z6_.l1 (K - i) (qs.map B) (i:Int)=some (if(qs.drop i).all (fun q=>(prs q).isSome)=true then 3 else 0)
 | 0,i,hi,hd=>by
  obtain⟨k,hk⟩:∃ m,K - i=m + 1:=⟨K - i - 1,by omega⟩
  have e:i=qs.length:=by omega
  rw [hk,z6_.l1,if_neg (by rw [List.length_map];omega),e,List.drop_length]
  rfl
 | d + 1,i,hi,hd=>by
  have hlt:i < qs.length:=by omega
  have hm:=List.getElem_mem hlt
  have hKi:=hK _ hm
  obtain⟨k,hk⟩:∃ m,K - i=m + 1:=⟨K - i - 1,by omega⟩
  have hrd:rdOf ByteArray.empty (qs.map B) (i:Int)=B qs[i]:=by
   unfold rdOf
   rw [show((i:Int)).toNat=i from rfl,List.getD_eq_getElem?_getD,List.getElem?_eq_getElem (by rw [List.length_map];exact hlt)]
   simp
  rw [hk,z6_.l1,if_pos (by rw [List.length_map];omega),if_pos (by omega),hrd,IH _ hm k (by omega),Option.bind_some,List.drop_eq_getElem_cons hlt,List.all_cons,
   show((i:Int) + 1)=((i + 1:Nat):Int)by omega,wrap_nat (by omega),show k=K - (i + 1)by omega,args_l qs hq K IH hK hK2 d (i + 1) (by omega) (by omega)]
  cases hp:prs qs[i]with
  | none=>rfl
  | some t =>
   have:=kind_pos t
   rw [if_neg (by simp only [kd];omega),Option.isSome_some,Bool.true_and]
theorem joinC_rnd:∀(ts:List Tm) (a:Tm),joinC ((a :: ts).map rnd) ++ [41]=rnd a ++ rndT ts
 | [],a=>by rw [rndT_nil];rfl
 | b :: ts,a=>by
  have:=joinC_rnd ts b
  rw [List.map_cons,joinC_cons _ _ (by simp),rndT_cons,List.append_assoc,List.cons_append,this]
theorem joinC_len:∀(qs:List (List UInt8)),∀ q∈qs,q.length + qs.length≤(joinC qs).length + 1
 | [],q,h=>by cases h
 | [a],q,h=>by
  rw [List.mem_singleton.1 h]
  simp [joinC]
 | a :: b :: r,q,h=>by
  rw [joinC_cons a (b :: r) (by simp)]
  simp only [List.length_append,List.length_cons]
  rcases List.mem_cons.1 h with rfl|h
  ·have:=joinC_len (b :: r) b (by simp)
   simp only [List.length_cons]at this
   omega
  ·have:=joinC_len (b :: r) q h
   simp only [List.length_cons]at this
   omega
theorem all_prs:∀(qs:List (List UInt8)),qs.all (fun q=>(prs q).isSome)=true→∃ ts,OkL ts∧qs=ts.map rnd
 | [],_=>⟨[],okL_nil,rfl⟩
 | q :: qs,h=>by
  rw [List.all_cons,Bool.and_eq_true]at h
  obtain⟨ts,h1,h2⟩:=all_prs qs h.2
  obtain⟨t,ht⟩:=Option.isSome_iff_exists.1 h.1
  obtain⟨h3,h4,_⟩:=prs_some.1 ht
  exact⟨t :: ts,(okL_cons t ts).2 ⟨h3,h1⟩,by rw [h2,← h4];rfl⟩
theorem rndT_len:∀(ts:List Tm),∀ t∈ts,(rnd t).length < (rndT ts).length
 | [],t,h=>by cases h
 | a :: ts,t,h=>by
  rw [rndT_cons,List.length_cons,List.length_append]
  rcases List.mem_cons.1 h with rfl|h
  ·omega
  ·have:=rndT_len ts t h
   omega
theorem con_len {nm:List UInt8} {ts:List Tm}:∀ t∈ts,(rnd t).length < (rnd (.con nm ts)).length:=by
 intro t ht
 rw [rnd_con]
 cases ts with
 | nil=>cases ht
 | cons a ts =>
  have:=rndT_len (a :: ts) t ht
  rw [rndT_cons]at this
  rw [rndA_cons,List.length_append]
  simp only [List.length_cons]at this ⊢
  omega
theorem prs_con_front {nm:List UInt8} {ts:List Tm} (h:Ok (.con nm ts)):(rnd (.con nm ts)).head?≠some 34:=by
 rw [ok_con]at h
 obtain⟨_,c,r,rfl,hc,_⟩:=h.1
 rw [rnd_con]
 simp only [List.cons_append,List.head?_cons,ne_eq,Option.some.injEq]
 intro e
 subst e
 revert hc
 decide
theorem spec_kind:∀(n:Nat) (s:List UInt8),s.length=n→s.length≤1099511627776→∀ k,4 * s.length + 80 < k→z6_.f k (B s)=some (kd (prs s)):=by
 intro n
 induction n using Nat.strongRecOn with
 | _ n ih =>
  intro s hn hs k hk
  obtain⟨k,rfl⟩:∃ m,k=m + 3:=⟨k - 3,by omega⟩
  rw [z6_.f,toList_B,y24]
  by_cases h0:s=[]
  ·rw [if_pos h0,z6_.j0,if_pos rfl,h0,prs_nil]
   rfl
  rw [if_neg h0]
  have hpos:=List.length_pos_iff.2 h0
  by_cases h200:200 < s.length
  ·rw [show decide ((s.length:Int) > 200)=true by simp only [decide_eq_true_eq];omega,z6_.j0,if_pos rfl,prs_long h200]
   rfl
  rw [show decide ((s.length:Int) > 200)=false by simp only [decide_eq_false_iff_not];omega,z6_.j0,if_neg (by simp),number_f s (by omega) (k + 1) (by omega),Option.bind_some]
  cases hnum:(numB s).2 with
  | true =>
   obtain⟨h1,h2,h3⟩:=numB_true hnum
   rw [if_pos rfl,prs_some.2 ⟨(ok_num _).2 ⟨h1,h2⟩,by rw [rnd_num];exact h3.symm,by omega⟩]
   rfl
  | false =>
  rw [if_neg (by simp),if_pos (by rw [y24];omega)]
  have hnn:∀ v,prs s≠some (.num v):=by
   intro v hv
   obtain⟨h1,h2,_⟩:=prs_some.1 hv
   rw [ok_num]at h1
   rw [rnd_num]at h2
   rw [← h2,numB_itoa v h1]at hnum
   cases hnum
  have hb:bt (B s) 0=(((s.head h0).toNat:Nat):Int):=by
   cases s with
   | nil=>exact absurd rfl h0
   | cons c r=>exact bt_B (c :: r) 0 (by simp)
  rw [hb]
  clear hb
  by_cases h34:s.head h0=34
  ·have hhd:s.head?=some 34:=by rw [List.head?_eq_some_head h0,h34]
   have hnc:∀ nm ts,prs s≠some (.con nm ts):=by
    intro nm ts hv
    obtain⟨h1,h2,_⟩:=prs_some.1 hv
    apply prs_con_front h1
    rw [h2,hhd]
   have hno:(∀ b,prs s≠some (.sym b))→kd (prs s)=0:=by
    intro h
    rw [kd_zero]
    cases hp:prs s with
    | none=>rfl
    | some t =>
     cases t with
     | num v=>exact absurd hp (hnn v)
     | sym b=>exact absurd hp (h b)
     | con nm ts=>exact absurd hp (hnc nm ts)
   rw [if_pos (by rw [h34];rfl),between_f,Option.bind_some]
   by_cases h22:2≤s.length∧s.length≤22
   ·have hlastlt:s.length - 1 < s.length:=by omega
    have hw:wrap64 ((s.length:Int) - 1)=((s.length - 1:Nat):Int):=by rw [wrapS (by omega) (by omega)];omega
    have p1:(0:Int)≤((s.length - 1:Nat):Int):=Int.natCast_nonneg _
    have p2:((s.length - 1:Nat):Int) < (s.length:Int):=by clear hw;omega
    have hlast:s.getLast?=some s[s.length - 1]:=by rw [List.getLast?_eq_getElem?,List.getElem?_eq_getElem hlastlt]
    rw [if_pos (by simp only [decide_eq_true_eq];clear hw;rw [y24];omega),y24,hw,if_pos p1,if_pos p2,bt_B s _ hlastlt]
    clear hw
    by_cases hl34:s[s.length - 1]=34
    ·rw [show((((s[s.length - 1]).toNat:Nat):Int) != 34)=false by rw [hl34];rfl,z6_.j1,if_neg (by simp)]
     have hsl:=sym_l s (by omega) (s.length - 2) 1 k (by omega) (by omega)
     rw [hl34]at hlast
     have hsh:=sym_shape hhd h22.1 hlast
     refine hsl.trans ?_
     have hbl:((s.drop 1).take (s.length - 2)).length=s.length - 2:=by rw [List.length_take,List.length_drop];omega
     by_cases hall:((s.drop 1).take (s.length - 2)).all isSy=true
     ·rw [if_pos hall,prs_some.2 ⟨(ok_sym ((s.drop 1).take (s.length - 2))).2 ⟨by omega,List.all_eq_true.1 hall⟩,by rw [rnd_sym];exact hsh.symm,by omega⟩]
      rfl
     ·rw [if_neg hall,hno]
      intro b hv
      obtain⟨h1,h2,_⟩:=prs_some.1 hv
      rw [rnd_sym]at h2
      rw [ok_sym]at h1
      rw [← h2]at hsh
      injection hsh with _ hsh
      have hbb:=List.append_cancel_right hsh
      rw [h2]at hbb
      apply hall
      rw [← hbb,List.all_eq_true]
      exact h1.2
    ·rw [show((((s[s.length - 1]).toNat:Nat):Int) != 34)=true by rw [bne_iff_ne];exact QScan.u8_ne (b:=34) hl34,z6_.j1,if_pos rfl,hno]
     intro b hv
     obtain⟨_,h2,_⟩:=prs_some.1 hv
     rw [rnd_sym]at h2
     have h5:s.getLast?=some 34:=by rw [← h2,← List.cons_append,List.getLast?_concat]
     rw [h5]at hlast
     injection hlast with hlast
     exact hl34 hlast.symm
   ·rw [if_neg (by simp only [decide_eq_true_eq];rw [y24];omega),z6_.j1,if_pos rfl,hno]
    intro b hv
    obtain⟨h1,h2,_⟩:=prs_some.1 hv
    rw [rnd_sym]at h2
    rw [ok_sym]at h1
    have:=congrArg List.length h2
    simp only [List.length_cons,List.length_append,List.length_nil]at this
    omega
  ·have hns:∀ b,prs s≠some (.sym b):=by
    intro b hv
    obtain⟨_,h2,_⟩:=prs_some.1 hv
    rw [rnd_sym]at h2
    apply h34
    simp only [← h2,List.head_cons]
   have hno:(∀ nm ts,prs s≠some (.con nm ts))→kd (prs s)=0:=by
    intro h
    rw [kd_zero]
    cases hp:prs s with
    | none=>rfl
    | some t =>
     cases t with
     | num v=>exact absurd hp (hnn v)
     | sym b=>exact absurd hp (hns b)
     | con nm ts=>exact absurd hp (h nm ts)
   rw [if_neg (show ¬((_:Int)=34)from QScan.u8_ne (b:=34) h34),args_f s (by omega) (k + 1) (by omega),Option.bind_some]
   cases hok:(argsOf s).2.2 with
   | false =>
    rw [if_neg (by simp),z6_.j3,if_pos rfl,hno]
    intro nm ts hv
    obtain⟨h1,h2,_⟩:=prs_some.1 hv
    rw [← h2,argsOf_con nm ts h1]at hok
    cases hok
   | true =>
    obtain⟨nm,qs,hag,hsh⟩:=argsOf_sound s hok
    have hnl:nm.length≤s.length:=by
     rcases hsh with⟨_,h⟩|⟨_,h⟩
     ·rw [h];omega
     ·rw [h,List.length_append];omega
    have hql:∀ q∈qs,q.length + qs.length + 1≤s.length:=by
     intro q hq
     rcases hsh with⟨h,_⟩|⟨_,h⟩
     ·rw [h]at hq;cases hq
     ·have:=joinC_len qs q hq
      rw [h]
      simp only [List.length_append,List.length_cons,List.length_nil]
      omega
    rw [if_pos rfl,hag]
    simp only []
    rw [name_f nm (by omega) true (k + 1) (by omega),Option.bind_some,if_pos rfl]
    cases hb:nameB isBg nm with
    | false =>
     rw [Bool.not_false,z6_.j3,if_pos rfl,hno]
     intro nm' ts hv
     obtain⟨h1,h2,_⟩:=prs_some.1 hv
     have hac:=argsOf_con nm' ts h1
     rw [h2,hag]at hac
     have hnn':nm=nm':=B_inj (by injection hac)
     rw [ok_con]at h1
     rw [← hnn',← nam_iff,hb]at h1
     exact absurd h1.1 (by simp)
    | true =>
     rw [Bool.not_true,z6_.j3,if_neg (by simp)]
     have hqn:qs.length≤s.length:=by
      cases qs with
      | nil=>simp
      | cons q qs=>have:=hql q (by simp);omega
     have hal:=args_l qs (by omega) k (fun q hq k' hk'=>ih q.length (by have:=hql q hq;have:=List.length_pos_of_mem hq;omega) q rfl (by have:=hql q hq;omega) k' hk') (fun q hq=>by have:=hql q hq;have:=List.length_pos_of_mem hq;omega) (by omega) qs.length 0 (by omega) (by omega)
     rw [List.drop_zero,Nat.sub_zero]at hal
     refine hal.trans ?_
     by_cases hall:qs.all (fun q=>(prs q).isSome)=true
     ·obtain⟨ts,hts,hqs⟩:=all_prs qs hall
      have hok:Ok (.con nm ts):=(ok_con nm ts).2 ⟨(nam_iff nm).1 hb,hts⟩
      have hr:rnd (.con nm ts)=s:=by
       rw [rnd_con]
       rcases hsh with⟨h,he⟩|⟨h,he⟩
       ·rw [h]at hqs
        have:ts=[]:=by
         cases ts with
         | nil=>rfl
         | cons a ts=>cases hqs
        rw [this,rndA_nil,List.append_nil,he]
       ·cases ts with
        | nil=>exact absurd hqs h
        | cons a ts=>rw [rndA_cons,he,hqs,joinC_rnd]
      rw [if_pos hall,prs_some.2 ⟨hok,hr,by omega⟩]
      rfl
     ·rw [if_neg hall,hno]
      intro nm' ts hv
      obtain⟨h1,h2,_⟩:=prs_some.1 hv
      have hac:=argsOf_con nm' ts h1
      rw [h2,hag]at hac
      have hqq:qs=ts.map rnd:=by
       have h5:qs.map B=ts.map fun t=>B (rnd t):=by injection hac with _ hac;injection hac
       rw [show(fun t=>B (rnd t))=B∘rnd from rfl,← List.map_map]at h5
       have:=congrArg (List.map L) h5
       simpa [List.map_map,Function.comp_def,L_B] using this
      apply hall
      rw [hqq,List.all_eq_true]
      intro q hq
      obtain⟨t,ht,rfl⟩:=List.mem_map.1 hq
      rw [ok_con,okL_iff]at h1
      have hlen:=con_len (nm:=nm') t ht
      rw [h2]at hlen
      rw [prs_rnd (h1.2 t ht) (by omega)]
      rfl
end Go.Proofs.YtimhlficlhafbaaGreatDoor.QKind
