-- Cut by prune.py, a program of this session, out of the texts of this claim: Lean checks it.
import Derived.Test.YtkajecadkkgfmaaGreatDoorVkqQSize
import Derived.Test.YtkajecadkkgfmaaGreatDoorVkqPnx17
import Derived.Test.YtkajecadkkgfmaaGreatDoorVkqPnx7
namespace Go.Proofs.YtkajecadkkgfmaaGreatDoor.QCmp
open Go.RowKit Go.Proofs.YtkajecadkkgfmaaGreatDoor.Pn Go.Proofs.YtkajecadkkgfmaaGreatDoorW.PrintWords Go.Proofs.YtkajecadkkgfmaaGreatDoorW.PrintLast Go.Proofs.YtkajecadkkgfmaaGreatDoor.QStr Go.Proofs.YtkajecadkkgfmaaGreatDoor.QTm Go.Proofs.YtkajecadkkgfmaaGreatDoor.QPrs Go.Proofs.YtkajecadkkgfmaaGreatDoor.QNumb Go.Proofs.YtkajecadkkgfmaaGreatDoor.QKind Go.Proofs.YtkajecadkkgfmaaGreatDoor.QParts Go.Proofs.YtkajecadkkgfmaaGreatDoor.QLaws Go.Proofs.YtkajecadkkgfmaaGreatDoor.QSize
def ctx (a b:List UInt8):Int:=if Op.bytesLess a b=true then -1 else if Op.bytesLess b a=true then 1 else 0
def sg (n:Int):Int:=if n < 0 then -1 else if n > 0 then 1 else 0
theorem bl_irr:∀ x:List UInt8,Op.bytesLess x x=false
 | []=>rfl
 | a :: x=>by
  have h:decide (a < a)=decide (a.toNat < a.toNat):=rfl
  rw [Op.bytesLess,bl_irr x,h]
  simp
theorem bl_cons (a b:UInt8) (x y:List UInt8):Op.bytesLess (a :: x) (b :: y)=true↔a.toNat < b.toNat∨(a=b∧Op.bytesLess x y=true):=by
 have h:decide (a < b)=decide (a.toNat < b.toNat):=rfl
 rw [Op.bytesLess,h]
 simp
theorem bl_tri:∀ x y:List UInt8,Op.bytesLess x y=true∨x=y∨Op.bytesLess y x=true
 | [],[]=>.inr (.inl rfl)
 | [],b :: y=>.inl rfl
 | a :: x,[]=>.inr (.inr rfl)
 | a :: x,b :: y=>by
  rcases Nat.lt_trichotomy a.toNat b.toNat with h|h|h
  ·exact .inl ((bl_cons a b x y).2 (.inl h))
  ·have e:a=b:=UInt8.toNat_inj.1 h
   subst e
   rcases bl_tri x y with h1|h1|h1
   ·exact .inl ((bl_cons a a x y).2 (.inr ⟨rfl,h1⟩))
   ·exact .inr (.inl (by rw [h1]))
   ·exact .inr (.inr ((bl_cons a a y x).2 (.inr ⟨rfl,h1⟩)))
  ·exact .inr (.inr ((bl_cons b a y x).2 (.inl h)))
theorem bl_trans:∀ x y z:List UInt8,Op.bytesLess x y=true→Op.bytesLess y z=true→Op.bytesLess x z=true
 | _,[],_,h,_=>by cases ‹List UInt8› <;> simp [Op.bytesLess]at h
 | _,_ :: _,[],_,h=>by simp [Op.bytesLess]at h
 | [],_ :: _,_ :: _,_,_=>rfl
 | a :: x,b :: y,c :: z,h1,h2=>by
  rw [bl_cons]at h1 h2 ⊢
  rcases h1 with h1|⟨rfl,h1⟩
  ·rcases h2 with h2|⟨rfl,h2⟩
   ·exact .inl (by omega)
   ·exact .inl h1
  ·rcases h2 with h2|⟨rfl,h2⟩
   ·exact .inl h2
   ·exact .inr ⟨rfl,bl_trans x y z h1 h2⟩
theorem bl_asym {x y:List UInt8} (h:Op.bytesLess x y=true):Op.bytesLess y x=false:=by
 rw [Bool.eq_false_iff]
 intro h2
 have:=bl_trans x y x h h2
 rw [bl_irr]at this
 cases this
theorem ctx_self (a:List UInt8):ctx a a=0:=by unfold ctx;rw [bl_irr];rfl
theorem ctx_zero {a b:List UInt8}:ctx a b=0↔a=b:=by
 constructor
 ·intro h
  unfold ctx at h
  rcases bl_tri a b with h1|h1|h1
  ·rw [if_pos h1]at h;cases h
  ·exact h1
  ·rw [bl_asym h1,if_neg (by decide),if_pos h1]at h;cases h
 ·rintro rfl
  exact ctx_self a
theorem ctx_neg (a b:List UInt8):ctx b a=-ctx a b:=by
 unfold ctx
 rcases bl_tri a b with h1|h1|h1
 ·rw [h1,bl_asym h1];rfl
 ·rw [h1,bl_irr];rfl
 ·rw [h1,bl_asym h1];rfl
theorem ctx_neg1 {a b:List UInt8}:ctx a b=-1↔Op.bytesLess a b=true:=by
 unfold ctx
 cases h:Op.bytesLess a b with
 | true=>simp
 | false =>
  cases h2:Op.bytesLess b a <;> simp
theorem ctx_range (a b:List UInt8):ctx a b=-1∨ctx a b=0∨ctx a b=1:=by
 unfold ctx
 cases Op.bytesLess a b <;> cases Op.bytesLess b a <;> simp
theorem sg_range (n:Int):sg n=-1∨sg n=0∨sg n=1:=by
 unfold sg
 split
 ·exact .inl rfl
 ·split
  ·exact .inr (.inr rfl)
  ·exact .inr (.inl rfl)
mutual
def tcmp:Tm→Tm→Int
 | .num a,.num b=>sg (a - b)
 | .sym a,.sym b=>ctx a b
 | .con f p,.con g q=>if f=g then(if p.length=q.length then tcmpL p q else sg ((p.length:Int) - (q.length:Int)))else ctx f g
 | t,u=>sg ((kind t:Int) - (kind u:Int))
def tcmpL:List Tm→List Tm→Int
 | a :: p,b :: q=>if tcmp a b=0 then tcmpL p q else tcmp a b
 | [],_=>0
 | _ :: _,[]=>0
end
theorem tcmpL_cons (a b:Tm) (p q:List Tm):tcmpL (a :: p) (b :: q)=if tcmp a b=0 then tcmpL p q else tcmp a b:=by rw [tcmpL]
theorem tcmpL_nil (q:List Tm):tcmpL [] q=0:=by rw [tcmpL]
theorem tcmp_num (a b:Int):tcmp (.num a) (.num b)=sg (a - b):=by rw [tcmp]
theorem tcmp_sym (a b:List UInt8):tcmp (.sym a) (.sym b)=ctx a b:=by rw [tcmp]
theorem tcmp_con (f g:List UInt8) (p q:List Tm):tcmp (.con f p) (.con g q)=if f=g then(if p.length=q.length then tcmpL p q else sg ((p.length:Int) - (q.length:Int)))else ctx f g:=by rw [tcmp]
theorem tcmp_kinds {t u:Tm} (h:kind t≠kind u):tcmp t u=sg ((kind t:Int) - (kind u:Int)):=by
 cases t <;> cases u <;> first|exact absurd rfl h|rw [tcmp] <;> simp
theorem sign_f (n:Int):spec_l01Sign.f n=some (sg n):=by
 unfold spec_l01Sign.f sg
 split
 ·rfl
 ·split <;> rfl
theorem texts_f (a b:List UInt8):spec_l01Texts.f (B a) (B b)=some (ctx a b):=by
 unfold spec_l01Texts.f ctx
 rw [toList_B,toList_B]
 split
 ·rfl
 ·split <;> rfl
theorem cmpInt_f (a b:Int):cmp_Compare_int.f a b=some (sg (a - b)):=by
 unfold cmp_Compare_int.f cmp_isNaN_int.f sg
 rw [Option.bind_some,Option.bind_some,bne_self_eq_false,bne_self_eq_false,if_neg (by decide),if_neg (by decide)]
 by_cases h:a < b
 ·rw [if_pos h,if_pos (by omega)]
 ·by_cases h2:a > b
  ·rw [if_neg h,if_pos h2,if_neg (by omega),if_pos (by omega)]
  ·rw [if_neg h,if_neg h2,if_neg (by omega),if_neg (by omega)]
theorem cmpStr_f (a b:List UInt8):cmp_Compare_string.f (B a) (B b)=some (ctx a b):=by
 unfold cmp_Compare_string.f cmp_isNaN_string.f ctx
 rw [Option.bind_some,Option.bind_some,bne_self_eq_false,bne_self_eq_false,if_neg (by decide),if_neg (by decide),toList_B,toList_B]
 split
 ·rfl
 ·split <;> rfl
/-- The bytes between a symbol's signs. -/
theorem sym_mid (b:List UInt8):(B (rnd (.sym b))).extract 1 ((rnd (.sym b)).length - 1)=B b:=by
 rw [extract_B,rnd_sym]
 congr 1
 have e:(34 :: (b ++ [34])).length - 1=(34 :: b).length:=by simp
 rw [e,show(34 :: (b ++ [34]))=(34 :: b) ++ [34]from rfl,List.take_left]
 rfl
theorem sym_size (b:List UInt8) (h:b.length≤1000):wrap64 (((B (rnd (.sym b))).size:Int) - 1)=(((rnd (.sym b)).length - 1:Nat):Int)∧1≤(rnd (.sym b)).length - 1:=by
 rw [y25,rnd_sym]
 simp only [List.length_cons,List.length_append,List.length_nil]
 refine⟨?_,by omega⟩
 rw [wrapS (by omega) (by omega)]
 omega
theorem scmp_l (K:Nat) (ts us:List Tm) (hlen:ts.length=us.length) (hn:ts.length≤1000)
  (IH:∀ t∈ts,∀ u∈us,∀ k,6 * (rnd t).length + 6 * (rnd u).length + 200 < k→spec_l01Cmp.f k (rB t) (rB u)=some (tcmp t u))
  (hK:∀ t∈ts,∀ u∈us,6 * (rnd t).length + 6 * (rnd u).length + 202 + ts.length < K) (hK2:ts.length < K) :
  ∀(d i:Nat),i + d=ts.length→spec_l01Cmp.l0 (K - i) (ts.map rB) (us.map rB) (i:Int)=some (tcmpL (ts.drop i) (us.drop i))
 | 0,i,hd=>by
  obtain⟨k,hk⟩:∃ m,K - i=m + 1:=⟨K - i - 1,by omega⟩
  rw [hk,spec_l01Cmp.l0,if_neg (by rw [List.length_map];omega),List.drop_of_length_le (by omega),tcmpL_nil]
 | d + 1,i,hd=>by
  have hlt:i < ts.length:=by omega
  have hlt2:i < us.length:=by omega
  have hm:=List.getElem_mem hlt
  have hm2:=List.getElem_mem hlt2
  have h1:=hK _ hm _ hm2
  obtain⟨k,hk⟩:∃ m,K - i=m + 1:=⟨K - i - 1,by omega⟩
  have hk':k=K - (i + 1):=by omega
  have hih:=IH _ hm _ hm2 k (by omega)
  have hgo:=scmp_l K ts us hlen hn IH hK hK2 d (i + 1) (by omega)
  rw [hk,spec_l01Cmp.l0,if_pos (by rw [List.length_map];omega),if_pos (Int.natCast_nonneg _),if_pos (by rw [List.length_map];omega),map_get ts i hlt,map_get us i hlt2,show B (rnd ts[i])=rB ts[i]from rfl,show B (rnd us[i])=rB us[i]from rfl,hih,Option.bind_some,step_i (by omega),hk',hgo,
   List.drop_eq_getElem_cons hlt,List.drop_eq_getElem_cons hlt2,tcmpL_cons]
  split <;> rfl
theorem kids_short {t u:Tm} (ht:Ok t) (hl:(rnd t).length≤200) (hu:u∈kids t):(rnd u).length < (rnd t).length∧(rnd u).length≤200:=by
 have:=(kids_len ht).1 u hu
 omega
theorem spec_cmp:∀(n:Nat) (t u:Tm),(rnd t).length=n→Ok t→Ok u→(rnd t).length≤200→(rnd u).length≤200→∀ k,6 * (rnd t).length + 6 * (rnd u).length + 200 < k→spec_l01Cmp.f k (rB t) (rB u)=some (tcmp t u):=by
 intro n
 induction n using Nat.strongRecOn with
 | _ n ih =>
  intro t u hn ht hu hl hl2 k hk
  obtain⟨k,rfl⟩:∃ m,k=m + 1:=⟨k - 1,by omega⟩
  have hp:prs (rnd t)=some t:=prs_rnd ht hl
  have hp2:prs (rnd u)=some u:=prs_rnd hu hl2
  have hkt:=kind_pos t
  have hku:=kind_pos u
  rw [spec_l01Cmp.f,show rB t=B (rnd t)from rfl,show rB u=B (rnd u)from rfl,spec_kind _ (rnd t) rfl (by omega) k (by omega),Option.bind_some,spec_kind _ (rnd u) rfl (by omega) k (by omega),Option.bind_some,hp,hp2]
  by_cases hkk:kind t≠kind u
  ·rw [if_neg (by simp only [kd];omega),tcmp_kinds hkk]
   simp only [kd]
   rw [wrapS (by omega) (by omega),sign_f]
   rfl
  ·have hkk:kind t=kind u:=Decidable.not_not.1 hkk
   rw [if_pos (by simp only [kd];omega)]
   cases t with
   | num a =>
    cases u with
    | num b =>
     rw [ok_num]at ht hu
     rw [if_pos (by simp [kd,kind]),rnd_num,rnd_num,number_f _ (by rw [rnd_num]at hl;omega) k (by omega),Option.bind_some,number_f _ (by rw [rnd_num]at hl2;omega) k (by omega),Option.bind_some,numB_itoa a ht,numB_itoa b hu]
     simp only []
     rw [wrapS (by omega) (by omega),sign_f,tcmp_num]
     rfl
    | sym b=>simp [kind]at hkk
    | con g q=>simp [kind]at hkk
   | sym a =>
    cases u with
    | num b=>simp [kind]at hkk
    | con g q=>simp [kind]at hkk
    | sym b =>
     rw [ok_sym]at ht hu
     obtain⟨s1,s2⟩:=sym_size a (by omega)
     obtain⟨s3,s4⟩:=sym_size b (by omega)
     have q1:(1:Int)≤(((rnd (.sym a)).length - 1:Nat):Int):=by clear s1 s3;omega
     have q2:(((rnd (.sym a)).length - 1:Nat):Int)≤((B (rnd (.sym a))).size:Int):=by rw [y25];clear s1 s3;omega
     have q3:(1:Int)≤(((rnd (.sym b)).length - 1:Nat):Int):=by clear s1 s3;omega
     have q4:(((rnd (.sym b)).length - 1:Nat):Int)≤((B (rnd (.sym b))).size:Int):=by rw [y25];clear s1 s3;omega
     rw [if_neg (by simp [kd,kind]),if_pos (by simp [kd,kind]),s1,s3,if_pos q1,if_pos q2,if_pos q3,if_pos q4,show((((rnd (.sym a)).length - 1:Nat):Int)).toNat=(rnd (.sym a)).length - 1 from rfl,show((((rnd (.sym b)).length - 1:Nat):Int)).toNat=(rnd (.sym b)).length - 1 from rfl,sym_mid,sym_mid,texts_f,tcmp_sym]
     rfl
   | con f p =>
    cases u with
    | num b=>simp [kind]at hkk
    | sym b=>simp [kind]at hkk
    | con g q =>
     rw [if_neg (by simp [kd,kind]),if_neg (by simp [kd,kind]),spec_parts_f _ (by omega) k (by omega),Option.bind_some,spec_parts_f _ (by omega) k (by omega),Option.bind_some,hp,hp2]
     show(if(B f).toList=(B g).toList then(if((p.map rB).length:Int)=((q.map rB).length:Int)then spec_l01Cmp.l0 k (p.map rB) (q.map rB) 0 else((spec_l01Sign.f (wrap64 (((p.map rB).length:Int) - ((q.map rB).length:Int)))).bind fun t566=>(some t566)))else((spec_l01Texts.f (B f) (B g)).bind fun t565=>(some t565)))=_
     rw [tcmp_con,toList_B,toList_B]
     by_cases hfg:f=g
     ·rw [if_pos hfg,if_pos hfg,List.length_map,List.length_map]
      have hkl:=kids_len ht
      have hkl2:=kids_len hu
      simp only [kids]at hkl hkl2
      by_cases hpq:p.length=q.length
      ·rw [if_pos (by omega),if_pos hpq]
       have hgo:=scmp_l k p q hpq (by omega) (fun t' ht' u' hu' k' hk'=>by
        have a1:=kids_short ht hl (show t'∈kids (.con f p)from ht')
        have a2:=kids_short hu hl2 (show u'∈kids (.con g q)from hu')
        exact ih (rnd t').length (by omega) t' u' rfl (kids_ok ht t' ht') (kids_ok hu u' hu') a1.2 a2.2 k' hk') (fun t' ht' u' hu'=>by have:=hkl.1 t' ht';have:=hkl2.1 u' hu';omega) (by omega) p.length 0 (by omega)
       rw [List.drop_zero,List.drop_zero,Nat.sub_zero]at hgo
       exact hgo
      ·rw [if_neg (by omega),if_neg hpq,wrapS (by omega) (by omega),sign_f]
       rfl
     ·rw [if_neg hfg,if_neg hfg,texts_f]
      rfl
theorem or_f (x y:Int) (k:Nat) (hk:5 < k):cmp_Or_int.f k [x,y]=some (if x=0 then y else x):=by
 obtain⟨k,rfl⟩:∃ m,k=m + 3:=⟨k - 3,by omega⟩
 unfold cmp_Or_int.f
 rw [cmp_Or_int.l0,if_pos (by simp),if_pos (by omega),if_pos (by simp),show rd [x,y] 0=x from rfl]
 by_cases hx:x=0
 ·rw [if_pos hx,if_pos hx,show wrap64 (0 + 1)=1 from(wrapS (by omega) (by omega)).trans rfl,cmp_Or_int.l0,if_pos (by simp),if_pos (by omega),if_pos (by simp),show rd [x,y] 1=y from rfl]
  by_cases hy:y=0
  ·rw [if_pos hy,show wrap64 (1 + 1)=2 from(wrapS (by omega) (by omega)).trans rfl,cmp_Or_int.l0,if_neg (by simp),hy]
  ·rw [if_neg hy]
 ·rw [if_neg hx,if_neg hx]
theorem icmp_l (K:Nat) (ts us:List Tm) (hlen:ts.length=us.length) (hn:ts.length≤1000)
  (IH:∀ t∈ts,∀ u∈us,∀ k,6 * (rnd t).length + 6 * (rnd u).length + 200 < k→impl_compareTerms.f k (rB t) (rB u)=some (tcmp t u))
  (hK:∀ t∈ts,∀ u∈us,6 * (rnd t).length + 6 * (rnd u).length + 202 + ts.length < K) (hK2:ts.length < K) :
  ∀(d i:Nat),i + d=ts.length→impl_compareCons.l0 (K - i) (us.map rB) (ts.map rB) ((ts.map rB).length:Int) (i:Int)=some (tcmpL (ts.drop i) (us.drop i))
 | 0,i,hd=>by
  obtain⟨k,hk⟩:∃ m,K - i=m + 1:=⟨K - i - 1,by omega⟩
  rw [hk,impl_compareCons.l0,if_neg (by rw [List.length_map];omega),List.drop_of_length_le (by omega),tcmpL_nil]
 | d + 1,i,hd=>by
  have hlt:i < ts.length:=by omega
  have hlt2:i < us.length:=by omega
  have hm:=List.getElem_mem hlt
  have hm2:=List.getElem_mem hlt2
  have h1:=hK _ hm _ hm2
  obtain⟨k,hk⟩:∃ m,K - i=m + 1:=⟨K - i - 1,by omega⟩
  have hk':k=K - (i + 1):=by omega
  have hih:=IH _ hm _ hm2 k (by omega)
  have hgo:=icmp_l K ts us hlen hn IH hK hK2 d (i + 1) (by omega)
  rw [hk,impl_compareCons.l0,if_pos (by rw [List.length_map];omega),if_pos (Int.natCast_nonneg _),if_pos (by rw [List.length_map];omega),if_pos (by rw [List.length_map];omega),map_get ts i hlt,map_get us i hlt2,show B (rnd ts[i])=rB ts[i]from rfl,show B (rnd us[i])=rB us[i]from rfl,hih,Option.bind_some,step_i (by omega),hk',hgo,
   List.drop_eq_getElem_cons hlt,List.drop_eq_getElem_cons hlt2,tcmpL_cons]
  split <;> rfl
theorem num_f {v:Int} (h:-1000000≤v∧v≤1000000):impl_numOf.f (B (rnd (.num v)))=some v:=by
 have hl:(Lib.itoa v).length≤8:=by
  by_cases hw:v < 0
  ·rw [itoa_neg hw,List.length_cons]
   have:=dec_len v.natAbs 6 (by omega)
   omega
  ·rw [itoa_pos hw]
   have:=dec_len v.toNat 6 (by omega)
   omega
 rw [rnd_num]
 unfold impl_numOf.f strconv_Atoi.f
 rw [if_pos (by rw [y25];omega),data_B,atoi_itoa v h.1 h.2]
 rfl
theorem impl_cmp:∀(n:Nat) (t u:Tm),(rnd t).length=n→Ok t→Ok u→(rnd t).length≤200→(rnd u).length≤200→∀ k,6 * (rnd t).length + 6 * (rnd u).length + 200 < k→impl_compareTerms.f k (rB t) (rB u)=some (tcmp t u):=by
 intro n
 induction n using Nat.strongRecOn with
 | _ n ih =>
  intro t u hn ht hu hl hl2 k hk
  obtain⟨k,rfl⟩:∃ m,k=m + 3:=⟨k - 3,by omega⟩
  have hp:prs (rnd t)=some t:=prs_rnd ht hl
  have hp2:prs (rnd u)=some u:=prs_rnd hu hl2
  have hkt:=kind_pos t
  have hku:=kind_pos u
  rw [impl_compareTerms.f,show rB t=B (rnd t)from rfl,show rB u=B (rnd u)from rfl,kindOf_f (rnd t) (by omega) (k + 2) (by omega),Option.bind_some,kindOf_f (rnd u) (by omega) (k + 2) (by omega),Option.bind_some,hp,hp2,
   if_neg (by simp only [kd];omega),show(kd (some u) == 0)=false by rw [beq_eq_false_iff_ne];simp only [kd];omega,impl_compareTerms.j0,if_neg (by decide)]
  by_cases hkk:kind t≠kind u
  ·rw [if_neg (by simp only [kd];omega),tcmp_kinds hkk,cmpInt_f]
   rfl
  ·have hkk:kind t=kind u:=Decidable.not_not.1 hkk
   rw [if_pos (by simp only [kd];omega)]
   cases t with
   | num a =>
    cases u with
    | num b =>
     rw [ok_num]at ht hu
     rw [if_pos (by simp [kd,kind]),num_f ht,num_f hu,Option.bind_some,Option.bind_some,cmpInt_f,tcmp_num]
     rfl
    | sym b=>simp [kind]at hkk
    | con g q=>simp [kind]at hkk
   | sym a =>
    cases u with
    | num b=>simp [kind]at hkk
    | con g q=>simp [kind]at hkk
    | sym b =>
     rw [ok_sym]at ht hu
     obtain⟨s1,s2⟩:=sym_size a (by omega)
     obtain⟨s3,s4⟩:=sym_size b (by omega)
     have q1:(1:Int)≤(((rnd (.sym a)).length - 1:Nat):Int):=by clear s1 s3;omega
     have q2:(((rnd (.sym a)).length - 1:Nat):Int)≤((B (rnd (.sym a))).size:Int):=by rw [y25];clear s1 s3;omega
     have q3:(1:Int)≤(((rnd (.sym b)).length - 1:Nat):Int):=by clear s1 s3;omega
     have q4:(((rnd (.sym b)).length - 1:Nat):Int)≤((B (rnd (.sym b))).size:Int):=by rw [y25];clear s1 s3;omega
     rw [if_neg (by simp [kd,kind]),if_pos (by simp [kd,kind]),s1,s3,if_pos q1,if_pos q2,if_pos q3,if_pos q4,show((((rnd (.sym a)).length - 1:Nat):Int)).toNat=(rnd (.sym a)).length - 1 from rfl,show((((rnd (.sym b)).length - 1:Nat):Int)).toNat=(rnd (.sym b)).length - 1 from rfl,sym_mid,sym_mid,cmpStr_f,tcmp_sym]
     rfl
   | con f p =>
    cases u with
    | num b=>simp [kind]at hkk
    | sym b=>simp [kind]at hkk
    | con g q =>
     have hkl:=kids_len ht
     have hkl2:=kids_len hu
     simp only [kids]at hkl hkl2
     rw [if_neg (by simp [kd,kind]),if_neg (by simp [kd,kind]),impl_compareCons.f,parts_f _ ht (by omega) k (by omega),Option.bind_some,parts_f _ hu (by omega) k (by omega),Option.bind_some]
     simp only [hd,kids]
     rw [cmpStr_f,Option.bind_some,cmpInt_f,Option.bind_some,or_f _ _ k (by omega),Option.bind_some,tcmp_con,List.length_map,List.length_map]
     by_cases hfg:f=g
     ·rw [if_pos hfg,if_pos (ctx_zero.2 hfg)]
      by_cases hpq:p.length=q.length
      ·rw [if_pos hpq,hpq,Int.sub_self,if_pos (by rfl)]
       have hgo:=icmp_l k p q hpq (by omega) (fun t' ht' u' hu' k' hk'=>by
        have a1:=kids_short ht hl (show t'∈kids (.con f p)from ht')
        have a2:=kids_short hu hl2 (show u'∈kids (.con g q)from hu')
        exact ih (rnd t').length (by omega) t' u' rfl (kids_ok ht t' ht') (kids_ok hu u' hu') a1.2 a2.2 k' hk') (fun t' ht' u' hu'=>by have:=hkl.1 t' ht';have:=hkl2.1 u' hu';omega) (by omega) p.length 0 (by omega)
       rw [List.drop_zero,List.drop_zero,Nat.sub_zero,List.length_map,hpq]at hgo
       have hgo:impl_compareCons.l0 k (q.map rB) (p.map rB) (q.length:Int) 0=some (tcmpL p q):=hgo
       rw [hgo]
       rfl
      ·rw [if_neg hpq,if_neg]
       ·rfl
       ·unfold sg
        split
        ·decide
        ·split
         ·decide
         ·omega
     ·rw [if_neg hfg,if_neg (fun h=>hfg (ctx_zero.1 h)),if_neg (fun h=>hfg (ctx_zero.1 h))]
      rfl
end Go.Proofs.YtkajecadkkgfmaaGreatDoor.QCmp
