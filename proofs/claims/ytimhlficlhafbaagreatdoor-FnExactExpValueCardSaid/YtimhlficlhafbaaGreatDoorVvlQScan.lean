-- Cut by prune.py.
import Derived.Test.YtimhlficlhafbaaGreatDoorVvlQTm
import Derived.Test.YtimhlficlhafbaaGreatDoorVvlPvx9
namespace Go.Proofs.YtimhlficlhafbaaGreatDoor.QScan
open RowKit Pv YtimhlficlhafbaaGreatDoorW.PrintWords YtimhlficlhafbaaGreatDoorW.PrintLast QStr QTm
theorem u8_ne {a b:UInt8} (h:a≠b):¬((a.toNat:Int)=(b.toNat:Int)):=fun e=>h (UInt8.toNat_inj.1 (by omega))
def scan:List UInt8→Nat→Bool→List UInt8→List (List UInt8)→Option (List (List UInt8)×Bool)
 | [],_,_,_,_=>none
 | c :: r,d,q,cur,out =>
  if c=34 then scan r d (!q) (cur ++ [c]) out
  else if q=true then scan r d q (cur ++ [c]) out
  else if c=40 then scan r (d + 1) q (cur ++ [c]) out
  else if c=41 then(if d=1 then some (out ++ [cur],r.isEmpty)else scan r (d - 1) q (cur ++ [c]) out)
  else if c=44 then(if d=1 then scan r d q [] (out ++ [cur])else scan r d q (cur ++ [c]) out)
  else scan r d q (cur ++ [c]) out
def res (s:List UInt8) (a:Nat):Option (List (List UInt8)×Bool)→ByteArray×List ByteArray×Bool
 | none=>(B [],[],false)
 | some (ps,b)=>(B (s.take a),ps.map B,b)
theorem mid (pre cur rest:List UInt8):(B (pre ++ (cur ++ rest))).extract pre.length (pre.length + cur.length)=B cur:=by
 rw [extract_B]
 congr 1
 rw [← List.append_assoc,List.take_append_of_le_length (by simp),List.take_of_length_le (by simp),List.drop_left]
theorem l1_scan (s:List UInt8) (a:Nat) (hs:s.length≤281474976710656) (ha:a≤s.length) (hm:s.length < 8796093022208) :
  ∀(rest cur pre:List UInt8) (d:Nat) (q:Bool) (out:List (List UInt8)) (k:Nat),s=pre ++ (cur ++ rest)→1≤d→d + rest.length≤281474976710656→out.length + rest.length≤s.length→rest.length < k →
   z7_.l1 k (B s) (a:Int) (out.map B) (d:Int) q (pre.length:Int) ((pre.length + cur.length:Nat):Int)=some (res s a (scan rest d q cur out))
 | [],cur,pre,d,q,out,k,hse,hd,hdl,ho,hk=>by
  obtain⟨k,rfl⟩:∃ m,k=m + 1:=⟨k - 1,by omega⟩
  have hl:s.length=pre.length + cur.length:=by rw [hse];simp
  rw [z7_.l1,if_neg (by rw [y24];omega),scan,res]
  rfl
 | c :: r,cur,pre,d,q,out,k,hse,hd,hdl,ho,hk=>by
  obtain⟨k,rfl⟩:∃ m,k=m + 1:=⟨k - 1,by omega⟩
  have hl:s.length=pre.length + cur.length + 1 + r.length:=by rw [hse];simp only [List.length_append,List.length_cons];omega
  rw [List.length_cons]at hdl ho hk
  have hw:wrap64 (((pre.length + cur.length:Nat):Int) + 1)=((pre.length + (cur ++ [c]).length:Nat):Int):=by
   rw [List.length_append,List.length_cons,List.length_nil,wrapS (by omega) (by omega)]
   omega
  have hse2:s=pre ++ ((cur ++ [c]) ++ r):=by rw [hse];simp
  have hb:bt (B s) ((pre.length + cur.length:Nat):Int)=(c.toNat:Int):=by
   rw [bt_B s _ (by omega)]
   congr 2
   subst hse
   rw [List.getElem_append_right (by omega)]
   rw [List.getElem_append_right (by omega)]
   simp
  have go:∀(d':Nat) (q':Bool),1≤d'→d' + r.length≤281474976710656→z7_.l1 k (B s) (a:Int) (out.map B) (d':Int) q' (pre.length:Int) ((pre.length + (cur ++ [c]).length:Nat):Int)=some (res s a (scan r d' q' (cur ++ [c]) out)):=by
   intro d' q' h1 h2
   clear hb hw
   exact l1_scan s a hs ha hm r (cur ++ [c]) pre d' q' out k hse2 h1 h2 (by omega) (by omega)
  have hsp:z7_.l1 k (B s) (a:Int) ((out ++ [cur]).map B) (d:Int) q ((pre.length + (cur ++ [c]).length:Nat):Int) ((pre.length + (cur ++ [c]).length:Nat):Int)=some (res s a (scan r d q [] (out ++ [cur]))):=by
   clear hb hw go
   have:=l1_scan s a hs ha hm r [] (pre ++ (cur ++ [c])) d q (out ++ [cur]) k (by rw [hse];simp) hd (by omega) (by simp only [List.length_append,List.length_cons,List.length_nil];omega) (by omega)
   simpa using this
  have hx:(B s).extract pre.length (pre.length + cur.length)=B cur:=by rw [hse];exact mid pre cur (c :: r)
  have hd1:wrap64 ((d:Int) + 1)=((d + 1:Nat):Int):=by clear hb hw go hsp hx;rw [wrapS (by omega) (by omega)];omega
  have hd2:wrap64 ((d:Int) - 1)=((d - 1:Nat):Int):=by clear hb hw go hsp hx hd1;rw [wrapS (by omega) (by omega)];omega
  have hlast:(((pre.length + cur.length:Nat):Int) == (wrap64 (((B s).size:Int) - 1)))=r.isEmpty:=by
   rw [y24]
   clear hb hw go hsp hx hd1 hd2
   rw [wrapS (by omega) (by omega),Bool.eq_iff_iff,beq_iff_eq,List.isEmpty_iff,← List.length_eq_zero_iff]
   omega
  have p1:((pre.length + cur.length:Nat):Int) < ((B s).size:Int):=by rw [y24];clear hb hw go hsp hx hd1 hd2 hlast;omega
  have p2:(0:Int)≤((pre.length + cur.length:Nat):Int):=Int.natCast_nonneg _
  have p3:((pre.length:Nat):Int)≤((pre.length + cur.length:Nat):Int):=by clear hb hw go hsp hx hd1 hd2 hlast;omega
  have p4:((pre.length + cur.length:Nat):Int)≤((B s).size:Int):=by rw [y24];clear hb hw go hsp hx hd1 hd2 hlast;omega
  have p5:(a:Int)≤((B s).size:Int):=by rw [y24];clear hb hw go hsp hx hd1 hd2 hlast;omega
  have p6:(out.map B).length < 8796093022208:=by rw [List.length_map];clear hb hw go hsp hx hd1 hd2 hlast;omega
  rw [z7_.l1,scan]
  rw [if_pos p1,if_pos p2,hb,hw]
  by_cases h34:c=34
  ·rw [if_pos h34,if_pos (by rw [h34];rfl)]
   exact go d (!q) hd (by clear hb hw go hsp hx hd1 hd2 hlast;omega)
  rw [if_neg h34,if_neg (show ¬((_:Int)=34)from u8_ne (b:=34) h34)]
  cases q with
  | true =>
   rw [if_pos rfl,if_pos rfl]
   exact go d true hd (by clear hb hw go hsp hx hd1 hd2 hlast;omega)
  | false =>
  rw [if_neg (show ¬(false=true)by decide),if_neg (show ¬(false=true)by decide)]
  by_cases h40:c=40
  ·rw [if_pos h40,if_pos (by rw [h40];rfl),hd1]
   exact go (d + 1) false (Nat.le_add_left 1 d) (by clear hb hw go hsp hx hd1 hd2 hlast;omega)
  rw [if_neg h40,if_neg (show ¬((_:Int)=40)from u8_ne (b:=40) h40)]
  by_cases h41:c=41
  ·rw [if_pos h41,if_pos (by rw [h41];rfl),hd2]
   by_cases hd3:d=1
   ·rw [if_pos hd3,if_pos (by rw [hd3];rfl),if_pos (Int.natCast_nonneg _),if_pos p5,if_pos (Int.natCast_nonneg _),if_pos p3,if_pos p4,if_pos p6,hlast]
    rw [show((pre.length:Nat):Int).toNat=pre.length from rfl,show(((pre.length + cur.length:Nat):Int)).toNat=pre.length + cur.length from rfl,hx,show((a:Nat):Int).toNat=a from rfl,extract_B,List.drop_zero,res,List.map_append]
    rfl
   ·rw [if_neg hd3,if_neg (by clear hb hw go hsp hx hd1 hd2 hlast;omega)]
    exact go (d - 1) false (by clear hb hw go hsp hx hd1 hd2 hlast;omega) (by clear hb hw go hsp hx hd1 hd2 hlast;omega)
  rw [if_neg h41,if_neg (show ¬((_:Int)=41)from u8_ne (b:=41) h41)]
  by_cases h44:c=44
  ·rw [if_pos h44,if_pos (by rw [h44];rfl)]
   by_cases hd3:d=1
   ·rw [if_pos hd3,if_pos (by rw [hd3];rfl),if_pos (Int.natCast_nonneg _),if_pos p3,if_pos p4,if_pos p6]
    rw [show((pre.length:Nat):Int).toNat=pre.length from rfl,show(((pre.length + cur.length:Nat):Int)).toNat=pre.length + cur.length from rfl,hx]
    rw [List.map_append]at hsp
    exact hsp
   ·rw [if_neg hd3,if_neg (by clear hb hw go hsp hx hd1 hd2 hlast;omega)]
    exact go d false hd (by clear hb hw go hsp hx hd1 hd2 hlast;omega)
  rw [if_neg h44,if_neg (show ¬((_:Int)=44)from u8_ne (b:=44) h44)]
  exact go d false hd (by clear hb hw go hsp hx hd1 hd2 hlast;omega)
def nf (s:List UInt8):List UInt8:=s.takeWhile fun c=>c != 40
def argsOf (s:List UInt8):ByteArray×List ByteArray×Bool :=
 match s.drop (nf s).length with
 | []=>(B s,[],true)
 | _ :: r=>res s (nf s).length (scan r 1 false [] [])
theorem l0_args (s:List UInt8) (hm:s.length < 8796093022208):∀(d i k:Nat),i≤s.length→s.length - i=d→s.length + d + 3 < k→(nf s).length=i + ((s.drop i).takeWhile fun c=>c != 40).length →
   z7_.l0 k (B s) (i:Int)=some (argsOf s)
 | 0,i,k,hi,hd,hk,hn=>by
  obtain⟨k,rfl⟩:∃ m,k=m + 2:=⟨k - 2,by omega⟩
  have e:i=s.length:=by omega
  have hn2:(nf s).length=s.length:=by rw [hn,e,List.drop_length];rfl
  rw [z7_.l0,if_neg (by rw [y24];omega),z7_.j1,if_pos (by rw [y24];omega),argsOf,hn2,List.drop_length]
 | d + 1,i,k,hi,hd,hk,hn=>by
  obtain⟨k,rfl⟩:∃ m,k=m + 2:=⟨k - 2,by omega⟩
  have hlt:i < s.length:=by omega
  rw [takeWhile_step s i hlt]at hn
  rw [z7_.l0,if_pos (by rw [y24];omega),if_pos (by omega),bt_B s i hlt]
  by_cases h40:s[i]=40
  ·rw [if_pos (by rw [h40];rfl)]
   rw [h40]at hn
   have hn2:(nf s).length=i:=by simpa using hn
   have hdr:s.drop i=40 :: s.drop (i + 1):=by rw [List.drop_eq_getElem_cons hlt,h40]
   rw [z7_.j1,if_neg (by rw [y24];omega),argsOf,hn2,hdr]
   obtain⟨k,rfl⟩:∃ m,k=m + 1:=⟨k - 1,by omega⟩
   have:=l1_scan s i (by omega) hi hm (s.drop (i + 1)) [] (s.take (i + 1)) 1 false [] k (by rw [List.nil_append,List.take_append_drop]) (by omega) (by rw [List.length_drop];omega) (by rw [List.length_drop,List.length_nil];omega) (by rw [List.length_drop];omega)
   rw [List.length_take,Nat.min_eq_left (by omega),List.length_nil,Nat.add_zero]at this
   rw [z7_.l1,if_pos (by rw [y24];omega),if_pos (by omega),bt_B s i hlt,h40,show((i:Int) + 1)=((i + 1:Nat):Int)by omega,wrap_nat (by omega),if_neg (show ¬(((40:UInt8).toNat:Int)=34)by decide),if_neg (by simp),if_pos (by rfl),show wrap64 (0 + 1)=((1:Nat):Int)from(wrapS (by decide) (by decide)).trans rfl]
   exact this
  ·rw [if_neg (show ¬((_:Int)=40)from u8_ne (b:=40) h40),show((i:Int) + 1)=((i + 1:Nat):Int)by omega,wrap_nat (by omega)]
   refine l0_args s hm d (i + 1) (k + 1) (by omega) (by omega) (by omega) ?_
   rw [if_pos (by simpa using h40)]at hn
   rw [hn,List.length_cons]
   omega
theorem args_f (s:List UInt8) (hm:s.length < 8796093022208) (k:Nat) (hk:2 * s.length + 3 < k):z7_.f k (B s)=some (argsOf s):=by
 unfold z7_.f
 exact l0_args s hm s.length 0 k (by omega) (by omega) (by omega) (by simp [nf])
def joinC:List (List UInt8)→List UInt8
 | []=>[]
 | [a]=>a
 | a :: b :: r=>a ++ 44 :: joinC (b :: r)
theorem joinC_cons (a:List UInt8) (b:List (List UInt8)) (h:b≠[]):joinC (a :: b)=a ++ 44 :: joinC b:=by
 cases b with
 | nil=>exact absurd rfl h
 | cons x r=>rfl
theorem scan_sound:∀(rest:List UInt8) (d:Nat) (q:Bool) (cur:List UInt8) (out ps:List (List UInt8)) (b:Bool),scan rest d q cur out=some (ps,b) →
  ∃ qs r,qs≠[]∧ps=out ++ qs∧cur ++ rest=joinC qs ++ 41 :: r∧b=r.isEmpty
 | [],d,q,cur,out,ps,b,h=>by rw [scan]at h;cases h
 | c :: r,d,q,cur,out,ps,b,h=>by
  have go:∀ d' q',scan r d' q' (cur ++ [c]) out=some (ps,b)→∃ qs r',qs≠[]∧ps=out ++ qs∧cur ++ c :: r=joinC qs ++ 41 :: r'∧b=r'.isEmpty:=by
   intro d' q' h'
   obtain⟨qs,r',h1,h2,h3,h4⟩:=scan_sound r d' q' (cur ++ [c]) out ps b h'
   exact⟨qs,r',h1,h2,by rw [← h3];simp,h4⟩
  rw [scan]at h
  split at h
  ·exact go _ _ h
  split at h
  ·exact go _ _ h
  split at h
  ·exact go _ _ h
  split at h
  ·rename_i hc
   split at h
   ·simp only [Option.some.injEq,Prod.mk.injEq]at h
    exact⟨[cur],r,by simp,h.1.symm,by rw [hc];rfl,h.2.symm⟩
   ·exact go _ _ h
  split at h
  ·rename_i hc
   split at h
   ·obtain⟨qs,r',h1,h2,h3,h4⟩:=scan_sound r d q [] (out ++ [cur]) ps b h
    refine⟨cur :: qs,r',by simp,by rw [h2];simp, ?_,h4⟩
    rw [joinC_cons _ _ h1,List.append_assoc,List.cons_append,← h3,hc]
    rfl
   ·exact go _ _ h
  ·exact go _ _ h
theorem scan_plain (d:Nat) (out:List (List UInt8)):∀(l cur rest:List UInt8),(∀ x∈l,x≠34∧x≠40∧x≠41∧x≠44)→scan (l ++ rest) d false cur out=scan rest d false (cur ++ l) out
 | [],cur,rest,_=>by simp
 | c :: l,cur,rest,h=>by
  obtain⟨h1,h2,h3,h4⟩:=h c (by simp)
  rw [List.cons_append,scan,if_neg h1,if_neg (by simp),if_neg h2,if_neg h3,if_neg h4,scan_plain d out l (cur ++ [c]) rest (fun x hx=>h x (by simp [hx]))]
  simp
theorem scan_quoted (d:Nat) (out:List (List UInt8)):∀(l cur rest:List UInt8),(∀ x∈l,x≠34)→scan (l ++ rest) d true cur out=scan rest d true (cur ++ l) out
 | [],cur,rest,_=>by simp
 | c :: l,cur,rest,h=>by
  rw [List.cons_append,scan,if_neg (h c (by simp)),if_pos rfl,scan_quoted d out l (cur ++ [c]) rest (fun x hx=>h x (by simp [hx]))]
  simp
theorem wrd_plain {x:UInt8} (h:isWrd x=true):x≠34∧x≠40∧x≠41∧x≠44:=by
 refine⟨?_, ?_, ?_, ?_⟩ <;> (intro e;subst e;revert h;decide)
theorem sy_ne {x:UInt8} (h:isSy x=true):x≠34:=by
 intro e;subst e;revert h;decide
theorem itoa_plain (n:Int):∀ x∈Lib.itoa n,x≠34∧x≠40∧x≠41∧x≠44:=by
 obtain⟨c,r,h,hc,hr⟩:=itoa_front n
 have hdig:∀ y:UInt8,isDig y=true→y≠34∧y≠40∧y≠41∧y≠44:=fun y hy=>wrd_plain (by simp [isWrd,hy])
 intro x hx
 rw [h]at hx
 rcases List.mem_cons.1 hx with rfl|hx
 ·rcases hc with rfl|hc
  ·decide
  ·exact hdig _ hc
 ·exact hdig _ (hr x hx)
mutual
theorem scan_rnd:∀(t:Tm),Ok t→∀(d:Nat) (cur rest:List UInt8) (out:List (List UInt8)),1≤d→scan (rnd t ++ rest) d false cur out=scan rest d false (cur ++ rnd t) out
 | .num n,_,d,cur,rest,out,_=>by rw [rnd_num];exact scan_plain d out _ cur rest (itoa_plain n)
 | .sym b,h,d,cur,rest,out,_=>by
  rw [ok_sym]at h
  rw [rnd_sym,List.cons_append,List.append_assoc,scan,if_pos rfl,Bool.not_false,scan_quoted d out b (cur ++ [34]) _ (fun x hx=>sy_ne (h.2 x hx)),List.singleton_append,scan,if_pos rfl,Bool.not_true]
  simp
 | .con nm ts,h,d,cur,rest,out,hd=>by
  rw [ok_con]at h
  rw [rnd_con,List.append_assoc,scan_plain d out nm cur _ (fun x hx=>wrd_plain (nam_wrd h.1 x hx))]
  cases ts with
  | nil=>rw [rndA_nil];simp
  | cons a ts =>
   have hts:=(okL_cons a ts).1 h.2
   rw [rndA_cons,List.cons_append,scan,if_neg (by decide),if_neg (by simp),if_pos rfl,List.append_assoc,scan_rnd a hts.1 (d + 1) _ _ out (by omega),scan_rndT ts hts.2 d _ _ out hd]
   simp
theorem scan_rndT:∀(ts:List Tm),OkL ts→∀(d:Nat) (cur rest:List UInt8) (out:List (List UInt8)),1≤d→scan (rndT ts ++ rest) (d + 1) false cur out=scan rest d false (cur ++ rndT ts) out
 | [],_,d,cur,rest,out,hd=>by
  rw [rndT_nil,List.singleton_append,scan,if_neg (by decide),if_neg (by simp),if_neg (by decide),if_pos rfl,if_neg (by omega),Nat.add_sub_cancel]
 | a :: ts,h,d,cur,rest,out,hd=>by
  have hts:=(okL_cons a ts).1 h
  rw [rndT_cons,List.cons_append,scan,if_neg (by decide),if_neg (by simp),if_neg (by decide),if_neg (by decide),if_pos rfl,if_neg (by omega),List.append_assoc,scan_rnd a hts.1 (d + 1) _ _ out (by omega),scan_rndT ts hts.2 d _ _ out hd]
  simp
end
theorem scan_top:∀(ts:List Tm) (a:Tm) (out:List (List UInt8)),Ok a→OkL ts→scan (rnd a ++ rndT ts) 1 false [] out=some (out ++ (a :: ts).map rnd,true)
 | [],a,out,ha,_=>by
  rw [scan_rnd a ha 1 [] _ out (by omega),rndT_nil,scan,if_neg (by decide),if_neg (by simp),if_neg (by decide),if_pos rfl,if_pos rfl]
  rfl
 | b :: ts,a,out,ha,hts=>by
  have hb:=(okL_cons b ts).1 hts
  rw [scan_rnd a ha 1 [] _ out (by omega),rndT_cons,scan,if_neg (by decide),if_neg (by simp),if_neg (by decide),if_neg (by decide),if_pos rfl,if_pos rfl,scan_top ts b (out ++ [[] ++ rnd a]) hb.1 hb.2]
  simp
theorem argsOf_con (nm:List UInt8) (ts:List Tm) (h:Ok (.con nm ts)):argsOf (rnd (.con nm ts))=(B nm,ts.map fun t=>B (rnd t),true):=by
 rw [ok_con]at h
 have hno:∀ x∈nm,(x != 40)=true:=fun x hx=>by simpa using (wrd_plain (nam_wrd h.1 x hx)).2.1
 rw [rnd_con]
 cases ts with
 | nil =>
  have e:nf (nm ++ rndA [])=nm:=by rw [rndA_nil];exact takeWhile_append_stop hno (fun y hy=>by simp at hy)
  rw [argsOf,e,rndA_nil,List.append_nil,List.drop_length]
  rfl
 | cons a ts =>
  have hts:=(okL_cons a ts).1 h.2
  have e:nf (nm ++ rndA (a :: ts))=nm:=by
   rw [rndA_cons]
   exact takeWhile_append_stop hno (fun y hy=>by simp at hy;subst hy;rfl)
  rw [argsOf,e,List.drop_left,rndA_cons]
  simp only
  rw [scan_top ts a [] hts.1 hts.2,res,List.take_left]
  simp
theorem argsOf_sound (s:List UInt8) (h:(argsOf s).2.2=true):∃ nm qs,(argsOf s)=(B nm,qs.map B,true)∧((qs=[]∧s=nm)∨(qs≠[]∧s=nm ++ 40 :: (joinC qs ++ [41]))):=by
 have htw:s.take (nf s).length=nf s:=takeWhile_take s
 have hdr:=List.take_append_drop (nf s).length s
 rw [argsOf]at h ⊢
 cases hd:s.drop (nf s).length with
 | nil=>exact⟨s,[],by simp,.inl ⟨rfl,rfl⟩⟩
 | cons c r =>
  rw [hd]at h
  simp only at h ⊢
  have hse:s=nf s ++ c :: r:=by
   rw [← hd]
   conv=>rhs;lhs;rw [← htw]
   exact hdr.symm
  have hc:c=40:=by
   have h4:∀(l m:List UInt8),(∀ x∈l,(x != 40)=true)→(l ++ m).takeWhile (fun c=>c != 40)=l ++ m.takeWhile (fun c=>c != 40):=by
    intro l m hl
    induction l with
    | nil=>rfl
    | cons y l ih=>rw [List.cons_append,List.takeWhile_cons,if_pos (hl y (by simp)),ih (fun x hx=>hl x (by simp [hx]))];rfl
   by_cases hc:c=40
   ·exact hc
   ·exfalso
    have h3:nf s=nf s ++ (c :: r).takeWhile (fun c=>c != 40):=by
     rw [← h4 (nf s) (c :: r) (takeWhile_all s),← hse]
     rfl
    rw [List.takeWhile_cons,if_pos (by simpa using hc)]at h3
    have:=congrArg List.length h3
    simp at this
  cases hsc:scan r 1 false [] []with
  | none=>rw [hsc,res]at h;simp at h
  | some x =>
   obtain⟨ps,b⟩:=x
   rw [hsc,res]at h
   simp only at h
   subst h
   obtain⟨qs,r',h1,h2,h3,h4⟩:=scan_sound r 1 false [] [] ps true hsc
   refine⟨nf s,qs, ?_,.inr ⟨h1, ?_⟩⟩
   ·rw [res,htw,h2];simp
   ·have:r'=[]:=by simpa using h4.symm
    rw [List.nil_append]at h3
    rw [hc,h3,this]at hse
    exact hse
end Go.Proofs.YtimhlficlhafbaaGreatDoor.QScan
