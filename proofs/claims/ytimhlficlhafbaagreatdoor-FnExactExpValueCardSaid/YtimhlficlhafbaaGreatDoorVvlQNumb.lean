-- Cut by prune.py.
import Derived.Test.YtimhlficlhafbaaGreatDoorVvlQTm
import Derived.Test.YtimhlficlhafbaaGreatDoorVvlQNum
namespace Go.Proofs.YtimhlficlhafbaaGreatDoor.QNumb
open RowKit Pv YtimhlficlhafbaaGreatDoorW.PrintWords YtimhlficlhafbaaGreatDoorW.PrintLast QStr QTm
theorem between_f (a b c:Int):z8_.f a b c=some (decide (b≤a∧a≤c)):=by
 unfold z8_.f
 split
 ·congr 1;rw [Bool.eq_iff_iff];simp only [decide_eq_true_eq];omega
 ·congr 1;symm;simp only [decide_eq_false_iff_not];omega
theorem digit_f (c:UInt8):spec_l01Digit.f (c.toNat:Int)=some (isDig c):=by
 unfold spec_l01Digit.f isDig
 split
 ·congr 1;rw [Bool.eq_iff_iff];simp only [Bool.and_eq_true,decide_eq_true_eq];omega
 ·congr 1;symm;rw [Bool.and_eq_false_iff];left;simp only [decide_eq_false_iff_not];omega
theorem big_f (c:UInt8):spec_l01Big.f (c.toNat:Int)=some (isBg c):=by
 unfold spec_l01Big.f isBg
 split
 ·congr 1;rw [Bool.eq_iff_iff];simp only [Bool.and_eq_true,decide_eq_true_eq];omega
 ·congr 1;symm;rw [Bool.and_eq_false_iff];left;simp only [decide_eq_false_iff_not];omega
def isSm (c:UInt8):Bool:=decide (97≤c.toNat) && decide (c.toNat≤122)
theorem small_f (c:UInt8):spec_l01Small.f (c.toNat:Int)=some (isSm c):=by
 unfold spec_l01Small.f isSm
 split
 ·congr 1;rw [Bool.eq_iff_iff];simp only [Bool.and_eq_true,decide_eq_true_eq];omega
 ·congr 1;symm;rw [Bool.and_eq_false_iff];left;simp only [decide_eq_false_iff_not];omega
theorem letter_f (c:UInt8):spec_l01Letter.f (c.toNat:Int)=some (isWrd c):=by
 unfold spec_l01Letter.f
 rw [small_f,big_f,digit_f]
 have e:isWrd c=(isSm c || (isBg c || (isDig c || decide (c.toNat=95)))):=by
  unfold isWrd isLet isSm isBg
  simp only [Bool.or_assoc]
 rw [e]
 simp only [Option.bind_some]
 cases isSm c with
 | true=>rfl
 | false =>
  cases isBg c with
  | true=>rfl
  | false =>
   cases isDig c with
   | true=>rfl
   | false =>
    simp only [Bool.false_eq_true,if_false,Bool.false_or]
    congr 1
    rw [Bool.eq_iff_iff,beq_iff_eq,decide_eq_true_eq]
    omega
theorem name_l (s:List UInt8) (hs:s.length≤281474976710656):∀(d i k:Nat),i≤s.length→s.length - i=d→d < k→spec_l01Name.l0 k (B s) (i:Int)=some ((s.drop i).all isWrd)
 | 0,i,k,hi,hd,hk=>by
  obtain⟨k,rfl⟩:∃ m,k=m + 1:=⟨k - 1,by omega⟩
  have e:i=s.length:=by omega
  rw [spec_l01Name.l0,if_neg (by rw [y24];omega),e,List.drop_length]
  rfl
 | d + 1,i,k,hi,hd,hk=>by
  obtain⟨k,rfl⟩:∃ m,k=m + 1:=⟨k - 1,by omega⟩
  have hlt:i < s.length:=by omega
  rw [spec_l01Name.l0,if_pos (by rw [y24];omega),if_pos (by omega),bt_B s i hlt,letter_f,Option.bind_some,List.drop_eq_getElem_cons hlt,List.all_cons,show((i:Int) + 1)=((i + 1:Nat):Int)by omega,wrap_nat (by omega)]
  cases isWrd s[i]with
  | true=>rw [if_pos rfl,name_l s hs d (i + 1) k (by omega) (by omega) (by omega),Bool.true_and]
  | false=>rfl
def nameB (first:UInt8→Bool):List UInt8→Bool
 | []=>false
 | c :: r=>decide (r.length < 20) && first c && (c :: r).all isWrd
theorem name_f (s:List UInt8) (hs:s.length≤281474976710656) (b:Bool) (k:Nat) (hk:s.length + 2 < k):spec_l01Name.f k (B s) b=some (nameB (if b then isBg else isSm) s):=by
 unfold spec_l01Name.f
 obtain⟨k,rfl⟩:∃ m,k=m + 1:=⟨k - 1,by omega⟩
 rw [between_f,Option.bind_some,y24]
 cases s with
 | nil=>rw [if_neg (by simp),spec_l01Name.j0,if_pos rfl];rfl
 | cons c r =>
  have hb:bt (B (c :: r)) 0=(c.toNat:Int):=bt_B (c :: r) 0 (by simp)
  have hl:=name_l (c :: r) hs (c :: r).length 0 k (by omega) (by omega) (by omega)
  rw [List.drop_zero]at hl
  have hl:spec_l01Name.l0 k (B (c :: r)) 0=some ((c :: r).all isWrd):=hl
  rw [nameB]
  by_cases h:r.length < 20
  ·rw [if_pos (by simp only [List.length_cons,decide_eq_true_eq];omega),decide_eq_true h,Bool.true_and]
   cases b with
   | true =>
    rw [if_pos rfl,if_pos (by simp only [List.length_cons];omega),hb,big_f,Option.bind_some]
    cases hc:isBg c with
    | true=>rw [if_pos rfl,spec_l01Name.j0,if_neg (by simp),hl,if_pos rfl,hc,Bool.true_and]
    | false=>rw [if_neg (by simp),spec_l01Name.j0,if_pos rfl,if_pos rfl,hc,Bool.false_and]
   | false =>
    rw [if_neg (by simp),if_pos (by simp only [List.length_cons];omega),hb,small_f,Option.bind_some,if_neg (by simp)]
    cases hc:isSm c with
    | true=>rw [Bool.not_true,spec_l01Name.j0,if_neg (by simp),hl,Bool.true_and]
    | false=>rw [Bool.not_false,spec_l01Name.j0,if_pos rfl,Bool.false_and]
  ·rw [if_neg (by simp only [List.length_cons,decide_eq_true_eq];omega),spec_l01Name.j0,if_pos rfl,decide_eq_false h]
   rfl
theorem nam_iff (s:List UInt8):nameB isBg s=true↔Nam s:=by
 cases s with
 | nil=>simp [nameB,Nam]
 | cons c r =>
  simp only [nameB,Nam,Bool.and_eq_true,decide_eq_true_eq,List.all_eq_true,List.length_cons]
  constructor
  ·rintro⟨⟨h1,h2⟩,h3⟩
   exact⟨by omega,c,r,rfl,h2,fun x hx=>h3 x (by simp [hx])⟩
  ·rintro⟨h1,c',r',he,h2,h3⟩
   injection he with he1 he2
   subst he1 he2
   refine⟨⟨by omega,h2⟩,fun x hx=>?_⟩
   rcases List.mem_cons.1 hx with rfl|hx
   ·exact isBg_wrd h2
   ·exact h3 x hx
def fin (s ds:List UInt8):Int×Bool :=
 let v:Int:=if ds=s then(dval 0 ds:Int)else -(dval 0 ds:Int)
 (v,decide (Lib.itoa v=s) && decide (-1000000≤v∧v≤1000000))
theorem fin_f (s ds:List UInt8) (hd:ds.length≤7) (hg:∀ c∈ds,isDig c=true) (k:Nat) (hk:19 < k) (i:Int) (hi:¬ i < ((B ds).size:Int)):z9_.l0 (k + 1) (B s) (dval 0 ds:Int) (B ds) i=some (fin s ds):=by
 have hv:=dval_le hg 0 7 hd
 have hv:dval 0 ds≤10000000:=by omega
 rw [z9_.l0,if_neg hi,toList_B,toList_B,fin]
 have hw:wrap64 (-(dval 0 ds:Int))=-(dval 0 ds:Int):=wrapS (by omega) (by omega)
 rw [hw]
 have go:∀ v:Int, -9223372036854775808≤v→v≤9223372036854775807→((spec_NumText.f k v).bind fun t196=>(if t196.toList=s then((z8_.f v (-1000000) 1000000).bind fun t197=>(some (v,t197)))else(some (v,false))))=some (v,decide (Lib.itoa v=s) && decide (-1000000≤v∧v≤1000000)):=by
  intro v h1 h2
  rw [QNum.numText v h1 h2 k hk,Option.bind_some,show((⟨(Lib.itoa v).toArray⟩:ByteArray)).toList=Lib.itoa v from toList_B _,between_f]
  by_cases h:Lib.itoa v=s
  ·rw [if_pos h,decide_eq_true h];rfl
  ·rw [if_neg h,decide_eq_false h];rfl
 clear hw
 by_cases h:ds=s
 ·rw [if_pos h,if_pos h]
  exact go _ (by omega) (by omega)
 ·rw [if_neg h,if_neg h]
  exact go _ (by omega) (by omega)
theorem num_l (s ds:List UInt8) (hd:ds.length≤7):∀(d i k:Nat),i≤ds.length→ds.length - i=d→d + 21 < k→(∀ c∈ds.take i,isDig c=true)→z9_.l0 k (B s) (dval 0 (ds.take i):Int) (B ds) (i:Int)=some (if(∀ c∈ds,isDig c=true)then fin s ds else(0,false))
 | 0,i,k,hi,he,hk,hp=>by
  obtain⟨k,rfl⟩:∃ m,k=m + 1:=⟨k - 1,by omega⟩
  have e:i=ds.length:=by omega
  rw [e,List.take_length]at hp ⊢
  rw [if_pos hp,fin_f s ds hd hp k (by omega) _ (by rw [y24];omega)]
 | d + 1,i,k,hi,he,hk,hp=>by
  obtain⟨k,rfl⟩:∃ m,k=m + 1:=⟨k - 1,by omega⟩
  have hlt:i < ds.length:=by omega
  rw [z9_.l0,if_pos (by rw [y24];omega),if_pos (by omega),bt_B ds i hlt,digit_f,Option.bind_some]
  by_cases hc:isDig ds[i]=true
  ·have hc2:=hc
   simp only [isDig,Bool.and_eq_true,decide_eq_true_eq]at hc2
   have hv:=dval_le hp 0 7 (by rw [List.length_take];omega)
   have hv:dval 0 (ds.take i)≤10000000:=by omega
   have ht:ds.take (i + 1)=ds.take i ++ [ds[i]]:=List.take_succ_eq_append_getElem hlt
   have e:dval 0 (ds.take (i + 1))=dval 0 (ds.take i) * 10 + (ds[i].toNat - 48):=by rw [ht,dval_append,dval_cons,dval_nil];rfl
   have h1:wrap64 (10 * (dval 0 (ds.take i):Int))=10 * (dval 0 (ds.take i):Int):=wrapS (by omega) (by omega)
   have h2:((ds[i].toNat:Int) - 48) % 256=(ds[i].toNat:Int) - 48:=by clear h1;omega
   rw [if_pos hc,h1,h2,wrapS (by clear h1;omega) (by clear h1;omega),show 10 * (dval 0 (ds.take i):Int) + ((ds[i].toNat:Int) - 48)=(dval 0 (ds.take (i + 1)):Int)by clear h1;omega,show((i:Int) + 1)=((i + 1:Nat):Int)by omega,wrap_nat (by clear h1;omega)]
   clear h1
   refine num_l s ds hd d (i + 1) k (by omega) (by omega) (by omega) ?_
   intro c hm
   rw [ht]at hm
   rcases List.mem_append.1 hm with hm|hm
   ·exact hp c hm
   ·rw [List.mem_singleton.1 hm];exact hc
  ·rw [if_neg hc,if_neg (fun h=>hc (h _ (List.getElem_mem hlt)))]
def numB (s:List UInt8):Int×Bool :=
 let ds:=if s.head?=some 45 then s.drop 1 else s
 if 1≤ds.length∧ds.length≤7∧∀ c∈ds,isDig c=true then fin s ds else(0,false)
theorem number_f (s:List UInt8) (hs:s.length≤281474976710656) (k:Nat) (hk:40 < k):z9_.f k (B s)=some (numB s):=by
 obtain⟨k,rfl⟩:∃ m,k=m + 2:=⟨k - 2,by omega⟩
 have j1:∀ ds,z9_.j1 (k + 1) (B s) 0 (B ds)=some (if 1≤ds.length∧ds.length≤7∧∀ c∈ds,isDig c=true then fin s ds else(0,false)):=by
  intro ds
  rw [z9_.j1,between_f,Option.bind_some,y24]
  by_cases h:1≤ds.length∧ds.length≤7
  ·have:=num_l s ds h.2 ds.length 0 k (by omega) (by omega) (by omega) (by simp)
   rw [List.take_zero,dval_nil]at this
   rw [if_pos (by simp only [decide_eq_true_eq];omega)]
   refine this.trans ?_
   congr 1
   by_cases hd:∀ c∈ds,isDig c=true
   ·rw [if_pos hd,if_pos ⟨h.1,h.2,hd⟩]
   ·rw [if_neg hd,if_neg (fun x=>hd x.2.2)]
  ·rw [if_neg (by simp only [decide_eq_true_eq];omega),if_neg (fun x=>h ⟨x.1,x.2.1⟩)]
 unfold z9_.f numB
 cases s with
 | nil =>
  rw [if_neg (by rw [y24];simp),z9_.j0,if_neg (by simp),j1 []]
  rfl
 | cons c r =>
  have hb:bt (B (c :: r)) 0=(c.toNat:Int):=bt_B (c :: r) 0 (by simp)
  rw [if_pos (by rw [y24];simp only [List.length_cons];omega),if_pos (by rw [y24];simp only [List.length_cons];omega),hb,z9_.j0]
  by_cases hc:c=45
  ·rw [if_pos (by rw [hc];rfl),if_pos (by rw [y24];simp only [List.length_cons];omega),show(B (c :: r)).extract 1 (B (c :: r)).size=B r by rw [extract_B,y24,List.take_length];rfl,j1 r,hc]
   rfl
  ·rw [if_neg (by rw [beq_iff_eq];exact fun e=>hc (UInt8.toNat_inj.1 (by rw [show(45:UInt8).toNat=45 from rfl];omega))),j1]
   simp only [List.head?_cons,Option.some.injEq,hc,if_false]
theorem itoa_neg {w:Int} (h:w < 0):Lib.itoa w=45 :: Lib.decDigits w.natAbs:=by unfold Lib.itoa;rw [if_pos h]
theorem itoa_pos {w:Int} (h:¬ w < 0):Lib.itoa w=Lib.decDigits w.toNat:=by unfold Lib.itoa;rw [if_neg h]
theorem numB_itoa (w:Int) (h:-1000000≤w∧w≤1000000):numB (Lib.itoa w)=(w,true):=by
 have key:∀ ds:List UInt8,∀ u:Nat,u≤1000000→ds=Lib.decDigits u→1≤ds.length∧ds.length≤7∧(∀ c∈ds,isDig c=true)∧dval 0 ds=u:=by
  rintro ds u hu rfl
  have h1:=List.length_pos_iff.2 (dec_ne u)
  exact⟨h1,dec_len u 6 (by omega),dec_dig u,dval_dec u⟩
 unfold numB
 by_cases hw:w < 0
 ·obtain⟨h1,h2,h3,h4⟩:=key (Lib.decDigits w.natAbs) w.natAbs (by omega) rfl
  have e:=itoa_neg hw
  rw [e]
  simp only [List.head?_cons,if_true,List.drop_succ_cons,List.drop_zero]
  rw [if_pos ⟨h1,h2,h3⟩,fin]
  have hne:Lib.decDigits w.natAbs≠45 :: Lib.decDigits w.natAbs:=by intro h;have:=congrArg List.length h;simp at this
  simp only [hne,if_false,h4]
  rw [show -((w.natAbs:Nat):Int)=w by omega,e]
  simp [h]
 ·obtain⟨h1,h2,h3,h4⟩:=key (Lib.decDigits w.toNat) w.toNat (by omega) rfl
  have e:=itoa_pos hw
  rw [e]
  have hh:¬(Lib.decDigits w.toNat).head?=some 45:=by
   intro hh
   have:(45:UInt8)∈Lib.decDigits w.toNat:=List.mem_of_mem_head? hh
   have:=h3 _ this
   revert this
   decide
  simp only [hh,if_false]
  rw [if_pos ⟨h1,h2,h3⟩,fin]
  simp only [if_true,h4]
  rw [show((w.toNat:Nat):Int)=w by omega,e]
  simp [h]
theorem fin_true {s ds:List UInt8} (h:(fin s ds).2=true):-1000000≤(fin s ds).1∧(fin s ds).1≤1000000∧s=Lib.itoa (fin s ds).1:=by
 unfold fin at h ⊢
 simp only [Bool.and_eq_true,decide_eq_true_eq]at h ⊢
 exact⟨h.2.1,h.2.2,h.1.symm⟩
theorem numB_true {s:List UInt8} (h:(numB s).2=true):-1000000≤(numB s).1∧(numB s).1≤1000000∧s=Lib.itoa (numB s).1:=by
 have hn:(∃ ds,numB s=fin s ds)∨numB s=(0,false):=by
  unfold numB
  by_cases hc:1≤(if s.head?=some 45 then s.drop 1 else s).length∧(if s.head?=some 45 then s.drop 1 else s).length≤7∧∀ c∈(if s.head?=some 45 then s.drop 1 else s),isDig c=true
  ·exact .inl ⟨_,if_pos hc⟩
  ·exact .inr (if_neg hc)
 rcases hn with⟨ds,hn⟩|hn
 ·rw [hn]at h ⊢
  exact fin_true h
 ·rw [hn]at h
  cases h
end Go.Proofs.YtimhlficlhafbaaGreatDoor.QNumb
