-- Cut by prune.py, a program of this session, out of the texts of this claim: Lean checks it.
import Derived.Test.YtkajecadkkgfmaaGreatDoorVkqQKind
import Derived.Test.YtkajecadkkgfmaaGreatDoorVkqPnx14
import Derived.Test.YtkajecadkkgfmaaGreatDoorVkqPnx0
namespace Go.Proofs.YtkajecadkkgfmaaGreatDoor.QParts
open Go.RowKit Go.Proofs.YtkajecadkkgfmaaGreatDoor.Pn Go.Proofs.YtkajecadkkgfmaaGreatDoorW.PrintWords Go.Proofs.YtkajecadkkgfmaaGreatDoorW.PrintLast Go.Proofs.YtkajecadkkgfmaaGreatDoor.QStr Go.Proofs.YtkajecadkkgfmaaGreatDoor.QTm Go.Proofs.YtkajecadkkgfmaaGreatDoor.QPrs Go.Proofs.YtkajecadkkgfmaaGreatDoor.QScan Go.Proofs.YtkajecadkkgfmaaGreatDoor.QNumb Go.Proofs.YtkajecadkkgfmaaGreatDoor.QKind Go.Proofs.YtkajecadkkgfmaaGreatDoor.QImpl
def hd:Tm→List UInt8
 | .con nm _=>nm
 | t=>rnd t
def kids:Tm→List Tm
 | .con _ ts=>ts
 | _=>[]
def rB (t:Tm):ByteArray:=B (rnd t)
theorem index_one (c:UInt8):∀ s:List UInt8,Lib.index s [c]=if c∈s then((s.takeWhile (· != c)).length:Int)else -1
 | []=>by simp [Lib.index]
 | b :: l=>by
  rw [Lib.index]
  by_cases hb:c=b
  ·subst hb
   simp
  ·have hb':¬ b=c:=fun h=>hb h.symm
   have e1:([c]:List UInt8).isPrefixOf (b :: l)=false:=by
    simp [List.isPrefixOf,hb]
   rw [e1,if_neg Bool.false_ne_true,index_one c l]
   by_cases hm:c∈l
   ·have h1:¬((((l.takeWhile (· != c)).length:Int) == -1)=true):=by rw [beq_iff_eq];omega
    have h2:((b != c)=true):=by simpa using hb'
    rw [if_pos hm,if_neg h1,if_pos (List.mem_cons_of_mem b hm),List.takeWhile_cons,if_pos h2,List.length_cons]
    omega
   ·have h3:¬ c∈b :: l:=by rw [List.mem_cons];exact fun h=>h.elim hb hm
    rw [if_neg hm,if_neg h3]
    rfl
theorem takeWhile_lt {c:UInt8}:∀ {s:List UInt8},c∈s→∃ r,s=s.takeWhile (· != c) ++ c :: r
 | [],h=>by cases h
 | b :: l,h=>by
  by_cases hb:b=c
  ·exact⟨l,by simp [hb]⟩
  ·rcases List.mem_cons.1 h with h|h
   ·exact absurd h.symm hb
   ·obtain⟨r,hr⟩:=takeWhile_lt h
    refine⟨r, ?_⟩
    rw [List.takeWhile_cons,if_pos (by simpa using hb),List.cons_append,← hr]
theorem cut_one (c:UInt8) (p r:List UInt8) (hp:∀ x∈p,x≠c):Lib.cut (p ++ c :: r) [c]=(p,r,true):=by
 have htw:(p ++ c :: r).takeWhile (· != c)=p:=takeWhile_append_stop (fun x hx=>by simpa using hp x hx) (fun y hy=>by simp at hy;subst hy;simp)
 have hi:Lib.index (p ++ c :: r) [c]=(p.length:Int):=by rw [index_one,if_pos (by simp),htw]
 unfold Lib.cut
 rw [hi,if_pos (Int.natCast_nonneg _)]
 simp
theorem cut_no (c:UInt8) (s:List UInt8) (h:c∉s):Lib.cut s [c]=(s,[],false):=by
 unfold Lib.cut
 rw [index_one,if_neg h,if_neg (by decide)]
theorem prefix_one (c:UInt8) (s:List UInt8):Lib.hasPrefix s [c]=(s.head? == some c):=by
 cases s with
 | nil=>rfl
 | cons b l =>
  simp only [Lib.hasPrefix,List.isPrefixOf,List.head?_cons]
  by_cases h:b=c
  ·simp [h]
  ·have:¬ c=b:=fun e=>h e.symm
   rw [show(c == b)=false by simpa using this]
   simp [h]
theorem isBigName_f (s:List UInt8) (hs:s.length≤281474976710656) (k:Nat) (hk:s.length + 2 < k):impl_isBigName.f k (B s)=some (nameB isBg s):=by
 unfold impl_isBigName.f
 rw [in_f,Option.bind_some,y25]
 cases s with
 | nil=>rw [if_neg (by simp)];rfl
 | cons c r =>
  have hb:bt (B (c :: r)) 0=(c.toNat:Int):=bt_B (c :: r) 0 (by simp)
  rw [nameB]
  by_cases h:r.length < 20
  ·rw [if_pos (by simp only [List.length_cons,decide_eq_true_eq];omega),decide_eq_true h,Bool.true_and,nameLong_f _ (by omega) k hk,Option.bind_some,hb,nmLen]
   by_cases hl:isLet c=true
   ·rw [if_pos hl]
    by_cases hall:r.all isWrd=true
    ·have htw:r.takeWhile isWrd=r:=by
      have:=takeWhile_append_stop (p:=isWrd) (l:=r) (r:=[]) (List.all_eq_true.1 hall) (fun y hy=>by simp at hy)
      simpa using this
     have hw:isWrd c=true:=by unfold isWrd;rw [hl];rfl
     rw [htw,if_pos (by simp only [List.length_cons]),if_pos (by simp only [List.length_cons];omega),List.all_cons,hall,hw,Bool.and_true,Bool.and_true]
     congr 1
     rw [Bool.eq_iff_iff]
     simp only [isLet,isBg,Bool.or_eq_true,Bool.and_eq_true,decide_eq_true_eq]at hl ⊢
     omega
    ·have htw:(r.takeWhile isWrd).length≠r.length:=by
      intro e
      apply hall
      have h1:=takeWhile_take (p:=isWrd) r
      rw [e,List.take_length]at h1
      rw [h1]
      exact List.all_eq_true.2 (takeWhile_all r)
     rw [if_neg (by simp only [List.length_cons];omega),List.all_cons,Bool.eq_false_iff.2 hall,Bool.and_false,Bool.and_false]
   ·rw [if_neg hl,if_neg (by simp only [List.length_cons];omega)]
    have:isBg c=false:=Bool.eq_false_iff.2 fun h=>hl (isBg_let h)
    rw [this,Bool.false_and]
  ·rw [if_neg (by simp only [List.length_cons,decide_eq_true_eq];omega),decide_eq_false h]
   rfl
theorem parts_l (nm:List UInt8):∀(ts:List Tm) (a:Tm) (out:List ByteArray) (k:Nat),Ok a→OkL ts→(rnd a ++ rndT ts).length≤281474976710656→out.length + (rnd a ++ rndT ts).length≤281474976710→6 * (rnd a ++ rndT ts).length + 80 < k →
  z0_.l0 k (B nm) (B (rnd a ++ rndT ts)) out=some (B nm,out ++ (a :: ts).map rB)
 | [],a,out,k,ha,hts,hl,ho,hk=>by
  obtain⟨k,rfl⟩:∃ m,k=m + 4:=⟨k - 4,by omega⟩
  have hp:=rnd_pos a ha
  have hlen:(rnd a ++ rndT []).length=(rnd a).length + 1:=by rw [rndT_nil];simp
  have h1:rnd a ++ rndT []≠[]:=fun h=>by have:=congrArg List.length h;rw [hlen,List.length_nil]at this;omega
  have h2:rnd a ++ rndT []≠[41]:=fun h=>by have:=congrArg List.length h;rw [hlen,List.length_cons,List.length_nil]at this;omega
  have hst:=stop_rndT [] []
  rw [List.append_nil]at hst
  rw [z0_.l0,toList_B,if_neg h1,show(rnd a ++ rndT [] != [41])=true by rw [bne_iff_ne];exact h2,z0_.j2,if_pos rfl,termAt_rnd _ a (rndT []) rfl ha hst hl (k + 2) (by omega),Option.bind_some]
  simp only []
  rw [if_pos (by omega),if_pos (by rw [y25];omega),if_pos (by omega),Option.bind_some,show(((rnd a).length:Int)).toNat=(rnd a).length from rfl,extract_from,extract_to,List.drop_left,List.take_left]
  unfold strings_HasPrefix.f
  rw [Option.bind_some,data_B,show((⟨#[44]⟩:ByteArray)).data.toList=[44]from rfl,prefix_one,rndT_nil,if_neg (by decide),z0_.l0,toList_B,if_neg (by decide),show(([41]:List UInt8) != [41])=false from rfl,z0_.j2,if_neg (by decide)]
  rfl
 | b :: ts,a,out,k,ha,hts,hl,ho,hk=>by
  obtain⟨k,rfl⟩:∃ m,k=m + 2:=⟨k - 2,by omega⟩
  rw [okL_cons]at hts
  have hp:=rnd_pos a ha
  have hlen:(rnd a ++ rndT (b :: ts)).length=(rnd a).length + 1 + (rnd b ++ rndT ts).length:=by rw [rndT_cons];simp only [List.length_append,List.length_cons];omega
  have h1:rnd a ++ rndT (b :: ts)≠[]:=fun h=>by have:=congrArg List.length h;rw [hlen,List.length_nil]at this;omega
  have h2:rnd a ++ rndT (b :: ts)≠[41]:=fun h=>by have:=congrArg List.length h;rw [hlen,List.length_cons,List.length_nil]at this;omega
  have hst:=stop_rndT (b :: ts) []
  rw [List.append_nil]at hst
  rw [z0_.l0,toList_B,if_neg h1,show(rnd a ++ rndT (b :: ts) != [41])=true by rw [bne_iff_ne];exact h2,z0_.j2,if_pos rfl,termAt_rnd _ a (rndT (b :: ts)) rfl ha hst hl k (by omega),Option.bind_some]
  simp only []
  rw [if_pos (by omega),if_pos (by rw [y25];omega),if_pos (by omega),Option.bind_some,show(((rnd a).length:Int)).toNat=(rnd a).length from rfl,extract_from,extract_to,List.drop_left,List.take_left]
  unfold strings_HasPrefix.f
  rw [Option.bind_some,data_B,show((⟨#[44]⟩:ByteArray)).data.toList=[44]from rfl,prefix_one,rndT_cons,if_pos (by rfl),if_pos (by rw [y25];simp only [List.length_cons];omega),extract_from,List.drop_succ_cons,List.drop_zero,
   parts_l nm ts b (out ++ [B (rnd a)]) k hts.1 hts.2 (by omega) (by simp only [List.length_append,List.length_cons,List.length_nil]at ho hlen ⊢;omega) (by omega)]
  simp [rB]
theorem nm_no40 {nm:List UInt8} (h:Nam nm):∀ x∈nm,x≠40:=fun x hx=>(wrd_plain (nam_wrd h x hx)).2.1
theorem parts_f (t:Tm) (ht:Ok t) (hl:(rnd t).length≤1048576) (k:Nat) (hk:6 * (rnd t).length + 90 < k):z0_.f k (B (rnd t))=some (B (hd t),(kids t).map rB):=by
 have notBig:nameB isBg (rnd t)=false→(∀ nm ts,t≠.con nm ts)→∀ p:List UInt8×List UInt8×Bool,Lib.cut (rnd t) [40]=p→nameB isBg p.1=false→z0_.f k (B (rnd t))=some (B (rnd t),[]):=by
  intro _ _ p hp hnb
  obtain⟨k,rfl⟩:∃ m,k=m + 1:=⟨k - 1,by omega⟩
  have hpl:p.1.length≤(rnd t).length:=by
   rw [← hp]
   unfold Lib.cut
   split
   ·simp only [List.length_take];omega
   ·simp
  unfold z0_.f strings_Cut.f
  rw [if_pos (by rw [y25];omega),data_B,show((⟨#[40]⟩:ByteArray)).data.toList=[40]from rfl,hp,Option.bind_some]
  simp only []
  rw [show((⟨p.1.toArray⟩:ByteArray))=B p.1 from rfl,isBigName_f p.1 (by omega) (k + 1) (by omega),Option.bind_some,hnb,if_neg (by decide),z0_.j0,if_pos rfl]
 have headNo:∀ c q,rnd t=c :: q→isBg c=false→c≠40→∃ p,Lib.cut (rnd t) [40]=p∧nameB isBg p.1=false:=by
  intro c q he hc h40
  refine⟨_,rfl, ?_⟩
  have:∀ l:List UInt8,(∀ q,l≠c :: q)∨nameB isBg l=false:=by
   intro l
   by_cases hh:∃ q,l=c :: q
   ·obtain⟨q,rfl⟩:=hh
    right
    rw [nameB,hc,Bool.and_false,Bool.false_and]
   ·exact .inl fun q e=>hh ⟨q,e⟩
  by_cases hm:(40:UInt8)∈rnd t
  ·obtain⟨r,hr⟩:=takeWhile_lt hm
   have hcut:=cut_one 40 ((rnd t).takeWhile (· != 40)) r (fun x hx=>by simpa using takeWhile_all _ x hx)
   rw [← hr]at hcut
   rw [hcut]
   simp only []
   rw [he,List.takeWhile_cons,if_pos (by simpa using h40),nameB,hc,Bool.and_false,Bool.false_and]
  ·rw [cut_no 40 _ hm,he,nameB,hc,Bool.and_false,Bool.false_and]
 have hbgf:∀ c q,rnd t=c :: q→isBg c=false→nameB isBg (rnd t)=false:=by
  intro c q he hc
  rw [he,nameB,hc,Bool.and_false,Bool.false_and]
 cases t with
 | num v =>
  obtain⟨c,q,he,hc,hq⟩:=itoa_front v
  have he':rnd (.num v)=c :: q:=by rw [rnd_num];exact he
  have hcb:isBg c=false∧c≠40:=by
   rcases hc with rfl|hc
   ·decide
   ·refine⟨?_,fun e=>by subst e;revert hc;decide⟩
    simp only [isDig,Bool.and_eq_true,decide_eq_true_eq]at hc
    simp only [isBg,Bool.and_eq_false_iff,decide_eq_false_iff_not]
    omega
  obtain⟨p,hp,hpn⟩:=headNo c q he' hcb.1 hcb.2
  exact notBig (hbgf c q he' hcb.1) (fun _ _ e=>by cases e) p hp hpn
 | sym b =>
  have he':rnd (.sym b)=34 :: (b ++ [34]):=by rw [rnd_sym]
  obtain⟨p,hp,hpn⟩:=headNo 34 _ he' (by decide) (by decide)
  exact notBig (hbgf 34 _ he' (by decide)) (fun _ _ e=>by cases e) p hp hpn
 | con nm ts =>
  clear notBig headNo hbgf
  rw [ok_con]at ht
  obtain⟨k,rfl⟩:∃ m,k=m + 1:=⟨k - 1,by omega⟩
  have hnl:nm.length≤20:=ht.1.1
  rw [rnd_con]at hl hk ⊢
  unfold z0_.f strings_Cut.f
  rw [if_pos (by rw [y25];omega),data_B,show((⟨#[40]⟩:ByteArray)).data.toList=[40]from rfl,Option.bind_some]
  cases ts with
  | nil =>
   rw [rndA_nil,List.append_nil]at hk ⊢
   rw [cut_no 40 nm (fun hm=>nm_no40 ht.1 40 hm rfl)]
   simp only []
   rw [show((⟨nm.toArray⟩:ByteArray))=B nm from rfl,isBigName_f nm (by omega) (k + 1) (by omega),Option.bind_some,(nam_iff nm).2 ht.1,if_pos rfl,Bool.not_false,z0_.j0,if_pos rfl]
   rfl
  | cons a ts =>
   have hts:=(okL_cons a ts).1 ht.2
   have hp:=nam_ne ht.1
   have hnp:=List.length_pos_iff.2 hp
   have hll:(nm ++ rndA (a :: ts)).length=nm.length + 1 + (rnd a ++ rndT ts).length:=by rw [rndA_cons];simp only [List.length_append,List.length_cons];omega
   rw [rndA_cons,cut_one 40 nm (rnd a ++ rndT ts) (nm_no40 ht.1)]
   simp only []
   rw [show((⟨nm.toArray⟩:ByteArray))=B nm from rfl,isBigName_f nm (by omega) (k + 1) (by omega),Option.bind_some,(nam_iff nm).2 ht.1,if_pos rfl,Bool.not_true,z0_.j0,if_neg (by decide)]
   exact parts_l nm ts a [] k hts.1 hts.2 (by omega) (by simp only [List.length_nil];omega) (by omega)
/-- What TermParts answers. -/
def partsB:Option Tm→ByteArray×List ByteArray
 | none=>(B [],[])
 | some t=>(B (hd t),(kids t).map rB)
theorem spec_parts_f (s:List UInt8) (hs:s.length≤1099511627776) (k:Nat) (hk:6 * s.length + 90 < k):spec_TermParts.f k (B s)=some (partsB (prs s)):=by
 unfold spec_TermParts.f
 rw [spec_kind _ s rfl hs k (by omega),Option.bind_some]
 cases hp:prs s with
 | none=>rfl
 | some t =>
  obtain⟨h1,h2,h3⟩:=prs_some.1 hp
  cases t with
  | num v =>
   rw [if_neg (by simp [kd,kind]),if_neg (by simp [kd,kind]),← h2]
   rfl
  | sym b =>
   rw [if_neg (by simp [kd,kind]),if_neg (by simp [kd,kind]),← h2]
   rfl
  | con nm ts =>
   rw [if_neg (by simp [kd,kind]),if_pos (by simp [kd,kind]),args_f s (by omega) k (by omega),Option.bind_some,← h2,argsOf_con nm ts h1]
   rfl
end Go.Proofs.YtkajecadkkgfmaaGreatDoor.QParts
