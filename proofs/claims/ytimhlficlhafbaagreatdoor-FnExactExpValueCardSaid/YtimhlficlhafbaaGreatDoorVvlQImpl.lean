-- Cut by prune.py.
import Derived.Test.YtimhlficlhafbaaGreatDoorVvlQTm
import Derived.Test.YtimhlficlhafbaaGreatDoorVvlQNum
import Derived.Test.YtimhlficlhafbaaGreatDoorVvlPvx22
namespace Go.Proofs.YtimhlficlhafbaaGreatDoor.QImpl
open RowKit Pv YtimhlficlhafbaaGreatDoorW.PrintWords YtimhlficlhafbaaGreatDoorW.PrintLast QStr QTm
theorem isDigit_f (c:UInt8):impl_isDigit.f (c.toNat:Int)=some (isDig c):=by
 unfold impl_isDigit.f isDig
 split
 ·congr 1;rw [Bool.eq_iff_iff];simp only [Bool.and_eq_true,decide_eq_true_eq];omega
 ·congr 1;symm;rw [Bool.and_eq_false_iff];left;simp only [decide_eq_false_iff_not];omega
theorem isLetter_f (c:UInt8):impl_isLetter.f (c.toNat:Int)=some (isLet c):=by
 have e:∀ b:Bool,(b=true↔(97≤c.toNat∧c.toNat≤122)∨(65≤c.toNat∧c.toNat≤90))→some b=some (isLet c):=by
  intro b h
  congr 1
  rw [Bool.eq_iff_iff,h]
  simp only [isLet,Bool.or_eq_true,Bool.and_eq_true,decide_eq_true_eq]
 unfold impl_isLetter.f
 split
 ·split
  ·exact e _ (by simp only [true_iff];omega)
  ·split
   ·exact e _ (by simp only [decide_eq_true_eq];omega)
   ·exact e _ (by simp only [Bool.false_eq_true,false_iff];omega)
 ·split
  ·exact e _ (by simp only [decide_eq_true_eq];omega)
  ·exact e _ (by simp only [Bool.false_eq_true,false_iff];omega)
theorem isWordByte_f (c:UInt8):impl_isWordByte.f (c.toNat:Int)=some (isWrd c):=by
 unfold impl_isWordByte.f isWrd
 rw [isLetter_f,Option.bind_some]
 cases isLet c with
 | true=>rw [if_pos rfl];rfl
 | false =>
  rw [if_neg (by simp),isDigit_f,Option.bind_some]
  cases isDig c with
  | true=>rw [if_pos rfl];rfl
  | false =>
   rw [if_neg (by simp)]
   congr 1
   rw [Bool.eq_iff_iff]
   simp only [beq_iff_eq,Bool.false_or,decide_eq_true_eq]
   omega
def nmLen:List UInt8→Nat
 | []=>0
 | c :: r=>if isLet c=true then(r.takeWhile isWrd).length + 1 else 0
theorem nmLen_le (l:List UInt8):nmLen l≤l.length:=by
 cases l with
 | nil=>simp [nmLen]
 | cons c r =>
  have:=takeWhile_le (p:=isWrd) r
  simp only [nmLen,List.length_cons]
  split <;> omega
theorem nameLong_l (l:List UInt8) (hl:l.length≤9223372036854775000):∀(d i k:Nat),1≤i→i≤l.length→l.length - i=d→d < k→impl_nameLong.l0 k (B l) (i:Int)=some ((i + ((l.drop i).takeWhile isWrd).length:Nat):Int)
 | 0,i,k,h1,hi,hd,hk=>by
  obtain⟨k,rfl⟩:∃ m,k=m + 1:=⟨k - 1,by omega⟩
  have e:i=l.length:=by omega
  simp only [impl_nameLong.l0]
  rw [if_neg (by rw [y24];omega),e,List.drop_length]
  rfl
 | d + 1,i,k,h1,hi,hd,hk=>by
  obtain⟨k,rfl⟩:∃ m,k=m + 1:=⟨k - 1,by omega⟩
  have hlt:i < l.length:=by omega
  simp only [impl_nameLong.l0]
  rw [if_pos (by rw [y24];omega),if_pos (by omega),bt_B l i hlt,isWordByte_f,Option.bind_some,takeWhile_step l i hlt]
  by_cases hw:isWrd l[i]=true
  ·rw [if_pos hw,if_pos hw,if_pos (by omega),show((i:Int) + 1)=((i + 1:Nat):Int)by omega,wrap_nat (by omega),nameLong_l l hl d (i + 1) k (by omega) (by omega) (by omega) (by omega)]
   congr 2
   simp only [List.length_cons]
   omega
  ·rw [if_neg hw,if_neg hw]
   rfl
theorem nameLong_f (l:List UInt8) (hl:l.length≤9223372036854775000) (k:Nat) (hk:l.length + 2 < k):impl_nameLong.f k (B l)=some (nmLen l:Int):=by
 unfold impl_nameLong.f
 obtain⟨k,rfl⟩:∃ m,k=m + 1:=⟨k - 1,by omega⟩
 cases l with
 | nil =>
  simp only [impl_nameLong.l0]
  rw [if_neg (by rw [y24];simp)]
  rfl
 | cons c r =>
  have hb:bt (B (c :: r)) 0=(c.toNat:Int):=bt_B (c :: r) 0 (by simp)
  simp only [impl_nameLong.l0]
  rw [if_pos (by rw [y24];simp),if_pos (by omega),hb,isWordByte_f,Option.bind_some]
  by_cases hc:isLet c=true
  ·have hw:isWrd c=true:=by unfold isWrd;rw [hc];rfl
   rw [if_pos hw,if_neg (by omega),if_pos (by rw [y24];simp),isLetter_f,Option.bind_some,if_pos hc,show wrap64 (0 + 1)=((1:Nat):Int)from(wrapS (by omega) (by omega)).trans rfl,
    nameLong_l (c :: r) hl r.length 1 k (by omega) (by simp) (by simp) (by simp at hk;omega)]
   congr 2
   rw [nmLen,if_pos hc]
   simp only [List.drop_succ_cons,List.drop_zero]
   omega
  ·have h0:nmLen (c :: r)=0:=by rw [nmLen,if_neg hc]
   rw [h0]
   by_cases hw:isWrd c=true
   ·rw [if_pos hw,if_neg (by omega),if_pos (by rw [y24];simp),isLetter_f,Option.bind_some,if_neg hc]
    rfl
   ·rw [if_neg hw]
    rfl
theorem symbolLong_l (l:List UInt8) (hl:l.length≤9223372036854775000):∀(d i k:Nat),1≤i→22 - i=d→2 * d + 2 < k →
  (∃ j,i≤j∧j≤21∧(∃ h:j < l.length,l[j]=34)∧(∀ q,i≤q→q < j→∀ h:q < l.length,isSy l[q]=true)∧impl_symbolLong.l0 k (B l) (i:Int)=some ((j + 1:Nat):Int)) ∨
  ((¬ ∃ j,i≤j∧j≤21∧(∃ h:j < l.length,l[j]=34)∧(∀ q,i≤q→q < j→∀ h:q < l.length,isSy l[q]=true))∧impl_symbolLong.l0 k (B l) (i:Int)=some 0)
 | d,i,k,h1,hd,hk=>by
  obtain⟨k,rfl⟩:∃ m,k=m + 2:=⟨k - 2,by omega⟩
  by_cases hlt:i < l.length
  ·by_cases h21:i≤21
   ·obtain⟨d,rfl⟩:∃ e,d=e + 1:=⟨d - 1,by omega⟩
    have e0:impl_symbolLong.l0 (k + 2) (B l) (i:Int)=(if((l[i]).toNat:Int)=34 then(some (wrap64 ((i:Int) + 1)))else(if((l[i]).toNat:Int) < 32 then(some 0)else(if((l[i]).toNat:Int) > 126 then(some 0)else(if((l[i]).toNat:Int)=92 then(some 0)else(impl_symbolLong.l0 k (B l) (wrap64 ((i:Int) + 1))))))):=by
     simp only [impl_symbolLong.l0,impl_symbolLong.j1]
     rw [if_pos (by rw [y24];omega),if_pos (by simp only [decide_eq_true_eq];omega),if_pos (by omega),if_pos (by rw [y24];omega),bt_B l i hlt]
    rw [e0,show((i:Int) + 1)=((i + 1:Nat):Int)by omega,wrap_nat (by omega)]
    by_cases hq:l[i]=34
    ·left
     refine⟨i,Nat.le_refl _,h21,⟨hlt,hq⟩,fun q h1 h2=>by omega, ?_⟩
     rw [if_pos (by rw [hq];rfl)]
    ·have hq':¬((l[i]).toNat:Int)=34:=fun h=>hq (UInt8.toNat_inj.1 (by rw [show(34:UInt8).toNat=34 from rfl];omega))
     rw [if_neg hq']
     by_cases hs:isSy l[i]=true
     ·have hs2:=hs
      simp only [isSy,Bool.and_eq_true,decide_eq_true_eq]at hs2
      rw [if_neg (by omega),if_neg (by omega),if_neg (by omega)]
      rcases symbolLong_l l hl d (i + 1) k (by omega) (by omega) (by omega)with⟨j,a1,a2,a3,a4,a5⟩|⟨a1,a2⟩
      ·left
       refine⟨j,by omega,a2,a3,fun q b1 b2 b3=>?_,a5⟩
       by_cases hqi:q=i
       ·subst hqi;exact hs
       ·exact a4 q (by omega) b2 b3
      ·right
       refine⟨?_,a2⟩
       rintro⟨j,b1,b2,b3,b4⟩
       refine a1 ⟨j, ?_,b2,b3,fun q c1 c2 c3=>b4 q (by omega) c2 c3⟩
       by_cases hji:j=i
       ·subst hji
        obtain⟨_,b5⟩:=b3
        exact absurd b5 hq
       ·omega
     ·right
      refine⟨?_, ?_⟩
      ·rintro⟨j,b1,b2,b3,b4⟩
       by_cases hji:j=i
       ·subst hji
        obtain⟨_,b5⟩:=b3
        exact hq b5
       ·exact hs (b4 i (Nat.le_refl _) (by omega) hlt)
      ·have:((l[i]).toNat:Int) < 32∨((l[i]).toNat:Int) > 126∨((l[i]).toNat:Int)=92:=by
        simp only [isSy,Bool.and_eq_true,decide_eq_true_eq]at hs
        omega
       by_cases c1:((l[i]).toNat:Int) < 32
       ·rw [if_pos c1]
       ·rw [if_neg c1]
        by_cases c2:((l[i]).toNat:Int) > 126
        ·rw [if_pos c2]
        ·rw [if_neg c2,if_pos (by omega)]
   ·right
    refine⟨fun⟨j,b1,b2,_⟩=>by omega, ?_⟩
    simp only [impl_symbolLong.l0,impl_symbolLong.j1]
    rw [if_pos (by rw [y24];omega),if_neg (by simp only [decide_eq_true_eq];omega)]
  ·right
   refine⟨fun⟨j,b1,b2,⟨b3,_⟩,_⟩=>by omega, ?_⟩
   simp only [impl_symbolLong.l0,impl_symbolLong.j1]
   rw [if_neg (by rw [y24];omega),if_neg (by simp)]
theorem bt_app (p:List UInt8) (c:UInt8) (r:List UInt8):bt (B (p ++ c :: r)) (p.length:Int)=(c.toNat:Int):=by
 rw [bt_B _ p.length (by simp)]
 simp
theorem drop_app (p:List UInt8) (c:UInt8) (r:List UInt8):(p ++ c :: r).drop (p.length + 1)=r:=by
 rw [List.drop_append]
 simp
theorem extract_from (l:List UInt8) (a:Nat):(B l).extract a (B l).size=B (l.drop a):=by
 rw [extract_B,y24,List.take_length]
theorem extract_to (l:List UInt8) (a:Nat):(B l).extract 0 a=B (l.take a):=by
 rw [extract_B,List.drop_zero]
theorem toNat_41:(41:UInt8).toNat=41:=rfl
theorem toNat_34:(34:UInt8).toNat=34:=rfl
theorem toNat_45:(45:UInt8).toNat=45:=rfl
theorem u8_ne {a b:UInt8} (h:a≠b):¬((a.toNat:Int)=(b.toNat:Int)):=fun e=>h (UInt8.toNat_inj.1 (by omega))
def numRes (l:List UInt8) (n:Nat):Int×Int :=
 match Lib.atoiAll (l.take n)with
 | .ok v=>if -1000000≤v∧v≤1000000∧Lib.itoa v=l.take n then(1,(n:Int))else(0,0)
 | _=>(0,0)
theorem in_f (a b c:Int):impl_in.f a b c=some (decide (b≤a∧a≤c)):=by
 unfold impl_in.f
 split
 ·congr 1;rw [Bool.eq_iff_iff];simp only [decide_eq_true_eq];omega
 ·congr 1;symm;simp only [decide_eq_false_iff_not];omega
theorem termAt_j2 (l:List UInt8) (hl:l.length≤281474976710656) (n k:Nat) (hn:n≤l.length):impl_termAt.j2 (k + 1) (B l) (n:Int)=some (numRes l n):=by
 simp only [impl_termAt.j2]
 rw [if_pos (by omega),if_pos (by rw [y24];omega),show((n:Int)).toNat=n from rfl,extract_to]
 have hs:(l.take n).length≤281474976710656:=by rw [List.length_take];omega
 unfold strconv_Atoi.f numRes
 rw [if_pos (by rw [y24];exact hs),data_B]
 rcases ha:Lib.atoiAll (l.take n)with v|_|_
 rotate_left
 ·rfl
 ·rfl
 ·
  simp only [Option.bind_some,in_f]
  rw [if_pos (show(none:Option Int).isNone=true from rfl)]
  by_cases hv:-1000000≤v∧v≤1000000
  ·rw [if_pos (by simp only [decide_eq_true_eq];exact hv),QNum.itoa_f v (by omega) (by omega),Option.bind_some]
   show(if(B (Lib.itoa v)).toList=(B (l.take n)).toList then some ((1:Int),(n:Int))else some (0,0))=_
   rw [toList_B,toList_B]
   by_cases he:Lib.itoa v=l.take n
   ·rw [if_pos he,if_pos ⟨hv.1,hv.2,he⟩]
   ·rw [if_neg he,if_neg (fun h=>he h.2.2)]
  ·rw [if_neg (by simp only [decide_eq_true_eq];exact hv),if_neg (fun h=>hv ⟨h.1,h.2.1⟩)]
theorem termAt_l0 (l:List UInt8) (hl:l.length≤281474976710656):∀(d i k:Nat),i≤l.length→l.length - i=d→d + 1 < k →
  impl_termAt.l0 k (B l) (i:Int)=some (numRes l (i + ((l.drop i).takeWhile isDig).length))
 | 0,i,k,hi,hd,hk=>by
  obtain⟨k,rfl⟩:∃ m,k=m + 2:=⟨k - 2,by omega⟩
  have e:i=l.length:=by omega
  rw [impl_termAt.l0,if_neg (by rw [y24];omega),termAt_j2 l hl i k hi,e,List.drop_length]
  rfl
 | d + 1,i,k,hi,hd,hk=>by
  obtain⟨k,rfl⟩:∃ m,k=m + 2:=⟨k - 2,by omega⟩
  have hlt:i < l.length:=by omega
  rw [impl_termAt.l0,if_pos (by rw [y24];omega),if_pos (by omega),bt_B l i hlt,isDigit_f,Option.bind_some,takeWhile_step l i hlt]
  by_cases hw:isDig l[i]=true
  ·rw [if_pos hw,if_pos hw,show((i:Int) + 1)=((i + 1:Nat):Int)by omega,wrap_nat (by omega),termAt_l0 l hl d (i + 1) (k + 1) (by omega) (by omega) (by omega)]
   congr 2
   simp only [List.length_cons]
   omega
  ·rw [if_neg hw,if_neg hw,termAt_j2 l hl i k hi]
   rfl
def Good (l:List UInt8) (x:Int×Int):Prop:=x=(0,0)∨∃ t r,Ok t∧l=rnd t ++ r∧x=((kind t:Int),((rnd t).length:Int))
theorem good_num (l:List UInt8) (n:Nat) (hn:n≤l.length):Good l (numRes l n):=by
 unfold numRes
 split
 ·rename_i v hv
  split
  ·rename_i h
   refine .inr ⟨.num v,l.drop n,(ok_num v).2 ⟨h.1,h.2.1⟩, ?_, ?_⟩
   ·rw [rnd_num,h.2.2,List.take_append_drop]
   ·rw [rnd_num,h.2.2,List.length_take,Nat.min_eq_left hn]
    rfl
  ·exact .inl rfl
 ·exact .inl rfl
def opnT:List Tm→List UInt8
 | []=>[]
 | a :: ts=>44 :: (rnd a ++ opnT ts)
def opnA:List Tm→List UInt8
 | []=>[]
 | a :: ts=>40 :: (rnd a ++ opnT ts)
def sep (ts:List Tm):UInt8:=if ts.isEmpty then 40 else 44
theorem opnT_snoc (ts:List Tm) (b:Tm):opnT (ts ++ [b])=opnT ts ++ 44 :: rnd b:=by
 induction ts with
 | nil=>simp [opnT]
 | cons a ts ih=>simp only [List.cons_append,opnT,ih];simp
theorem opnA_snoc (ts:List Tm) (b:Tm):opnA (ts ++ [b])=opnA ts ++ sep ts :: rnd b:=by
 cases ts with
 | nil=>simp [opnA,opnT,sep]
 | cons a ts=>simp only [List.cons_append,opnA,opnT_snoc,sep];simp
theorem rndT_opn (ts:List Tm):rndT ts=opnT ts ++ [41]:=by
 induction ts with
 | nil=>rw [rndT_nil];rfl
 | cons a ts ih=>rw [rndT_cons,ih];simp [opnT]
theorem rndA_opn (ts:List Tm) (h:ts≠[]):rndA ts=opnA ts ++ [41]:=by
 cases ts with
 | nil=>exact absurd rfl h
 | cons a ts=>rw [rndA_cons,rndT_opn];simp [opnA]
theorem termAt_close (l:List UInt8) (hl:l.length≤281474976710656) (nm:List UInt8) (ts:List Tm) (r:List UInt8) (hn:Nam nm) (ha:OkL ts) (has:ts≠[]) (hlr:l=nm ++ opnA ts ++ r) (k:Nat) :
  ∃ x,impl_termAt.l1 (k + 1) (B l) ((nm ++ opnA ts).length:Int) false=some x∧Good l x:=by
 rw [impl_termAt.l1,if_neg (by simp)]
 cases r with
 | nil =>
  rw [if_neg (by rw [y24,hlr];simp)]
  exact⟨_,rfl,.inl rfl⟩
 | cons c r =>
  rw [if_pos (by rw [y24,hlr];simp only [List.length_append,List.length_cons];omega),if_pos (by omega),hlr,bt_app]
  by_cases hc:c=41
  ·subst hc
   have hlen:(nm ++ opnA ts).length + 1≤l.length:=by rw [hlr];simp only [List.length_append,List.length_cons];omega
   rw [if_pos (by rw [toNat_41];rfl),show(((nm ++ opnA ts).length:Nat):Int) + 1=(((nm ++ opnA ts).length + 1:Nat):Int)by omega,wrap_nat (by omega)]
   refine⟨_,rfl,.inr ⟨.con nm ts,r,(ok_con nm ts).2 ⟨hn,ha⟩, ?_, ?_⟩⟩
   ·rw [rnd_con,rndA_opn ts has]
    simp
   ·rw [rnd_con,rndA_opn ts has]
    simp only [kind,List.length_append,List.length_cons,List.length_nil,Prod.mk.injEq]
    omega
  ·rw [if_neg (show ¬((c.toNat:Int)=41)from u8_ne (b:=41) hc)]
   exact⟨_,rfl,.inl rfl⟩
theorem termAt_args (l:List UInt8) (hl:l.length≤281474976710656) (nm:List UInt8) (hn:Nam nm)
  (IH:∀(m:List UInt8),m.length < l.length→∀ k,4 * m.length + 60 < k→∃ x,impl_termAt.f k (B m)=some x∧Good m x) :
  ∀(d:Nat) (ts:List Tm) (r:List UInt8) (k:Nat),OkL ts→l=nm ++ opnA ts ++ sep ts :: r→r.length=d→4 * r.length + 64 < k→∃ x,impl_termAt.l1 k (B l) ((nm ++ opnA ts).length:Int) true=some x∧Good l x:=by
 intro d
 induction d using Nat.strongRecOn with
 | _ d ihd =>
  intro ts r k hts hlr hd hk
  obtain⟨k,rfl⟩:∃ m,k=m + 1:=⟨k - 1,by omega⟩
  have hlen:l.length=(nm ++ opnA ts).length + 1 + r.length:=by rw [hlr];simp only [List.length_append,List.length_cons];omega
  rw [impl_termAt.l1,if_pos rfl,show(((nm ++ opnA ts).length:Nat):Int) + 1=(((nm ++ opnA ts).length + 1:Nat):Int)by omega,wrap_nat (by omega),if_pos (by omega),if_pos (by rw [y24];omega),
   show((((nm ++ opnA ts).length + 1:Nat):Int)).toNat=(nm ++ opnA ts).length + 1 from rfl,extract_from]
  have hdrop:l.drop ((nm ++ opnA ts).length + 1)=r:=by rw [hlr];exact drop_app _ _ _
  rw [hdrop]
  obtain⟨x,hx,hg⟩:=IH r (by omega) k (by omega)
  rw [hx,Option.bind_some]
  rcases hg with rfl|⟨t,q,ht,hq,rfl⟩
  ·rw [if_pos rfl]
   exact⟨_,rfl,.inl rfl⟩
  ·have hk1:=kind_pos t
   have hp1:=rnd_pos t ht
   have hrl:r.length=(rnd t).length + q.length:=by rw [hq];simp
   rw [if_neg (show ¬((kind t:Nat):Int)=0 by omega)]
   have e1:wrap64 (1 + (((rnd t).length:Nat):Int))=((1 + (rnd t).length:Nat):Int):=by
    rw [show(1 + (((rnd t).length:Nat):Int))=((1 + (rnd t).length:Nat):Int)by omega]
    exact wrap_nat (by omega)
   have e2:wrap64 ((((nm ++ opnA ts).length:Nat):Int) + ((1 + (rnd t).length:Nat):Int))=((nm ++ opnA (ts ++ [t])).length:Int):=by
    have:(nm ++ opnA (ts ++ [t])).length=(nm ++ opnA ts).length + (1 + (rnd t).length):=by
     rw [opnA_snoc]
     simp only [List.length_append,List.length_cons]
     omega
    rw [this,show((((nm ++ opnA ts).length:Nat):Int) + ((1 + (rnd t).length:Nat):Int))=(((nm ++ opnA ts).length + (1 + (rnd t).length):Nat):Int)by omega]
    exact wrap_nat (by omega)
   simp only [e1,e2]
   have hl2:l=nm ++ opnA (ts ++ [t]) ++ q:=by
    rw [hlr,hq,opnA_snoc]
    simp
   have hokn:OkL (ts ++ [t]):=by
    rw [okL_iff]at hts ⊢
    intro a ha
    rcases List.mem_append.1 ha with ha|ha
    ·exact hts a ha
    ·rw [List.mem_singleton.1 ha];exact ht
   obtain⟨k,rfl⟩:∃ m,k=m + 1:=⟨k - 1,by omega⟩
   cases q with
   | nil =>
    rw [if_neg (by rw [y24,hl2];simp)]
    exact termAt_close l hl nm (ts ++ [t]) [] hn hokn (by simp) hl2 k
   | cons c q =>
    have hb:bt (B l) ((nm ++ opnA (ts ++ [t])).length:Int)=(c.toNat:Int):=by rw [hl2];exact bt_app _ _ _
    rw [if_pos (by rw [y24,hl2];simp only [List.length_append,List.length_cons];omega),if_pos (by omega),hb]
    by_cases hc:c=44
    ·subst hc
     rw [show(((44:UInt8).toNat:Int) == 44)=true from rfl]
     have hs:sep (ts ++ [t])=44:=by unfold sep;simp
     exact ihd q.length (by simp at hrl;omega) (ts ++ [t]) q (k + 1) hokn (by rw [hs];exact hl2) rfl (by simp at hrl;omega)
    ·have:(((c.toNat:Nat):Int) == 44)=false:=by
      rw [beq_eq_false_iff_ne]
      exact u8_ne (b:=44) hc
     rw [this]
     exact termAt_close l hl nm (ts ++ [t]) (c :: q) hn hokn (by simp) hl2 k
theorem j0_num (l:List UInt8) (hl:l.length≤281474976710656) (c:UInt8) (r:List UInt8) (hlr:l=c :: r) (k:Nat) (hk:l.length + 3 < k) :
  impl_termAt.j0 k (B l) true=some (numRes l (1 + (r.takeWhile isDig).length)):=by
 obtain⟨k,rfl⟩:∃ m,k=m + 1:=⟨k - 1,by omega⟩
 rw [impl_termAt.j0,if_pos rfl]
 have:=termAt_l0 l hl (l.length - 1) 1 k (by rw [hlr];simp) rfl (by omega)
 rw [show(1:Int)=((1:Nat):Int)from rfl,this]
 rw [hlr]
 rfl
theorem nm_parts (c:UInt8) (r:List UInt8) (hc:isBg c=true):nmLen (c :: r)=(r.takeWhile isWrd).length + 1∧(c :: r).take (nmLen (c :: r))=c :: r.takeWhile isWrd:=by
 have h1:nmLen (c :: r)=(r.takeWhile isWrd).length + 1:=by rw [nmLen,if_pos (isBg_let hc)]
 refine⟨h1, ?_⟩
 rw [h1,List.take_succ_cons,takeWhile_take]
theorem sym_parts (l:List UInt8) (j:Nat) (h:j < l.length) (h0:∃ r,l=34 :: r) (hj:1≤j) (h1:l[j]=34):l=rnd (.sym ((l.take j).drop 1)) ++ l.drop (j + 1)∧(rnd (.sym ((l.take j).drop 1))).length=j + 1∧((l.take j).drop 1).length=j - 1:=by
 obtain⟨r,rfl⟩:=h0
 obtain⟨j,rfl⟩:∃ m,j=m + 1:=⟨j - 1,by omega⟩
 rw [rnd_sym]
 simp only [List.take_succ_cons,List.drop_succ_cons,List.drop_zero]
 have hj2:j < r.length:=by simpa using h
 have h2:r[j]=34:=by simpa using h1
 refine⟨?_, ?_, ?_⟩
 ·rw [List.cons_append,List.append_assoc]
  congr 1
  have:r=r.take j ++ r[j] :: r.drop (j + 1):=by rw [List.getElem_cons_drop,List.take_append_drop]
  rw [h2]at this
  exact this
 ·simp only [List.length_cons,List.length_append,List.length_take,List.length_nil];omega
 ·simp only [List.length_take];omega
theorem termAt_good:∀(n:Nat) (l:List UInt8),l.length=n→l.length≤281474976710656→∀ k,4 * l.length + 60 < k→∃ x,impl_termAt.f k (B l)=some x∧Good l x:=by
 intro n
 induction n using Nat.strongRecOn with
 | _ n ih =>
  intro l hn hl k hk
  obtain⟨k,rfl⟩:∃ m,k=m + 1:=⟨k - 1,by omega⟩
  rw [impl_termAt.f,toList_B]
  cases hlc:l with
  | nil=>rw [if_pos rfl];exact⟨_,rfl,.inl rfl⟩
  | cons c r =>
   rw [if_neg (by simp),← hlc]
   have hpos:0 < l.length:=by rw [hlc];simp
   have hb:bt (B l) 0=(c.toNat:Int):=by
    have:=bt_B l 0 hpos
    rw [show((0:Nat):Int)=0 from rfl]at this
    rw [this]
    simp only [hlc,List.getElem_cons_zero]
   rw [if_pos (by rw [y24];omega),hb]
   by_cases h34:c=34
   ·subst h34
    rw [if_pos (by rw [toNat_34];rfl)]
    unfold impl_symbolLong.f
    rw [show(1:Int)=((1:Nat):Int)from rfl]
    rcases symbolLong_l l (by omega) 21 1 k (by omega) (by omega) (by omega)with⟨j,h1,h2,⟨h3,h4⟩,h5,h6⟩|⟨_,h6⟩
    ·rw [h6,Option.bind_some,if_pos (by omega)]
     obtain⟨e1,e2,e3⟩:=sym_parts l j h3 ⟨r,hlc⟩ h1 h4
     refine⟨_,rfl,.inr ⟨.sym ((l.take j).drop 1),l.drop (j + 1),(ok_sym _).2 ⟨by omega, ?_⟩,e1, ?_⟩⟩
     ·intro x hx
      obtain⟨q,hq,rfl⟩:=List.getElem_of_mem hx
      rw [e3]at hq
      have:((l.take j).drop 1)[q]'(by rw [e3];exact hq)=l[q + 1]'(by omega):=by
       rw [List.getElem_drop,List.getElem_take]
       congr 1
       omega
      rw [this]
      exact h5 (q + 1) (by omega) (by omega) (by omega)
     ·rw [e2]
      rfl
    ·rw [h6,Option.bind_some,if_neg (by omega)]
     exact⟨_,rfl,.inl rfl⟩
   ·rw [if_neg (show ¬((c.toNat:Int)=34)from u8_ne (b:=34) h34)]
    have hnum:∃ x,impl_termAt.j0 k (B l) true=some x∧Good l x:=by
     refine⟨_,j0_num l hl c r hlc k (by omega),good_num l _ ?_⟩
     rw [hlc]
     have:=takeWhile_le (p:=isDig) r
     simp only [List.length_cons]
     omega
    by_cases h45:c=45
    ·subst h45
     rw [if_pos (by rw [toNat_45];rfl)]
     exact hnum
    ·rw [if_neg (show ¬((c.toNat:Int)=45)from u8_ne (b:=45) h45),isDigit_f,Option.bind_some]
     by_cases hd:isDig c=true
     ·rw [hd]
      exact hnum
     ·rw [show isDig c=false by simpa using hd]
      obtain⟨k,rfl⟩:∃ m,k=m + 2:=⟨k - 2,by omega⟩
      rw [impl_termAt.j0,if_neg (by simp),if_pos (by rw [y24];omega),hb]
      have hbad:∃ x,impl_termAt.j3 (k + 1) (B l) false=some x∧Good l x:=by
       rw [impl_termAt.j3,if_neg (by simp)]
       exact⟨_,rfl,.inl rfl⟩
      by_cases h65:(c.toNat:Int)≥65
      ·rw [if_pos h65]
       by_cases h90:(c.toNat:Int)≤90
       ·rw [show decide ((c.toNat:Int)≤90)=true by simpa using h90]
        have hbg:isBg c=true:=by
         simp only [isBg,Bool.and_eq_true,decide_eq_true_eq]
         omega
        obtain⟨hn1,hn2⟩:=nm_parts c r hbg
        rw [← hlc]at hn1 hn2
        have hn3:=nmLen_le l
        rw [impl_termAt.j3,if_pos rfl,nameLong_f l (by omega) k (by omega),Option.bind_some]
        by_cases h20:((nmLen l:Nat):Int) > 20
        ·rw [if_pos h20]
         exact⟨_,rfl,.inl rfl⟩
        ·rw [if_neg h20]
         have hnam:Nam (l.take (nmLen l)):=by
          refine⟨by rw [List.length_take];omega,c,r.takeWhile isWrd,hn2,hbg,takeWhile_all r⟩
         have hlen:(l.take (nmLen l)).length=nmLen l:=by rw [List.length_take];omega
         have hshort:∃ x,impl_termAt.j4 k (B l) ((nmLen l:Nat):Int) true=some x∧Good l x:=by
          obtain⟨k,rfl⟩:∃ m,k=m + 1:=⟨k - 1,by omega⟩
          rw [impl_termAt.j4,if_pos rfl]
          refine⟨_,rfl,.inr ⟨.con (l.take (nmLen l)) [],l.drop (nmLen l),(ok_con _ _).2 ⟨hnam,okL_nil⟩, ?_, ?_⟩⟩
          ·rw [rnd_con,rndA_nil,List.append_nil,List.take_append_drop]
          ·rw [rnd_con,rndA_nil,List.append_nil,hlen]
           rfl
         by_cases hend:nmLen l=l.length
         ·rw [if_pos (by rw [y24];omega)]
          exact hshort
         ·rw [if_neg (by rw [y24];omega),if_pos (by omega),if_pos (by rw [y24];omega),bt_B l (nmLen l) (by omega)]
          by_cases h40:l[nmLen l]'(by omega)=40
          ·rw [h40,show(((40:UInt8).toNat:Int) != 40)=false from rfl]
           obtain⟨k,rfl⟩:∃ m,k=m + 1:=⟨k - 1,by omega⟩
           rw [impl_termAt.j4,if_neg (by simp)]
           have hsplit:l=l.take (nmLen l) ++ opnA [] ++ sep [] :: l.drop (nmLen l + 1):=by
            rw [show sep []=40 from rfl,← h40]
            simp only [opnA,List.append_nil]
            rw [List.getElem_cons_drop,List.take_append_drop]
           have:=termAt_args l hl (l.take (nmLen l)) hnam (fun m hm k' hk'=>ih m.length (by omega) m rfl (by omega) k' hk') (l.drop (nmLen l + 1)).length [] (l.drop (nmLen l + 1)) k okL_nil hsplit rfl (by rw [List.length_drop];omega)
           rw [show(l.take (nmLen l) ++ opnA []).length=nmLen l by simp only [opnA,List.append_nil];exact hlen]at this
           exact this
          ·have:((((l[nmLen l]'(by omega)).toNat:Nat):Int) != 40)=true:=by
            rw [bne_iff_ne]
            exact u8_ne (b:=40) h40
           rw [this]
           exact hshort
       ·rw [show decide ((c.toNat:Int)≤90)=false by simpa using h90]
        exact hbad
      ·rw [if_neg h65]
       exact hbad
end Go.Proofs.YtimhlficlhafbaaGreatDoor.QImpl
