-- Cut by prune.py, a program of this session, out of the texts of this claim: Lean checks it.
import Derived.Test.YtkajecadkkgfmaaGreatDoorVkqQSeek
import Derived.Test.YtkajecadkkgfmaaGreatDoorVkqQMarkT
import Derived.Test.YtkajecadkkgfmaaGreatDoorVkqPnx19
import Derived.Test.YtkajecadkkgfmaaGreatDoorVkqPnx11
namespace Go.Proofs.YtkajecadkkgfmaaGreatDoor.QPut
open Go.RowKit Go.Proofs.YtkajecadkkgfmaaGreatDoor.Pn Go.Proofs.YtkajecadkkgfmaaGreatDoorW.PrintWords Go.Proofs.YtkajecadkkgfmaaGreatDoorW.PrintLast Go.Proofs.YtkajecadkkgfmaaGreatDoor.QStr Go.Proofs.YtkajecadkkgfmaaGreatDoor.QLaws Go.Proofs.YtkajecadkkgfmaaGreatDoor.QLaw2 Go.Proofs.YtkajecadkkgfmaaGreatDoor.QLaw3 Go.Proofs.YtkajecadkkgfmaaGreatDoor.QRel Go.Proofs.YtkajecadkkgfmaaGreatDoor.QSeek Go.Proofs.YtkajecadkkgfmaaGreatDoor.QTup Go.Proofs.YtkajecadkkgfmaaGreatDoor.QTerms Go.Proofs.YtkajecadkkgfmaaGreatDoor.QMarkT
abbrev TI:=S36
theorem copyP_l (ar:Int) (rows:List TI) (hn:rows.length≤400) (hr:∀ r∈rows,r.f0.length≤1048576):∀(d i k:Nat) (out:List TI),i + d=rows.length→out.length + d≤800→d < k →
  impl_copyRel.l0 k rows (rows.length:Int) (i:Int) ar out=some (ar,out ++ rows.drop i)
 | d,i,0,_,_,_,hk=>absurd hk (Nat.not_lt_zero d)
 | 0,i,k + 1,out,h,_,_=>by
  rw [impl_copyRel.l0,if_neg (by omega),List.drop_of_length_le (by omega),List.append_nil]
 | d + 1,i,k + 1,out,h,ho,hk=>by
  have hi:i < rows.length:=by omega
  have hl:=hr rows[i] (List.getElem_mem hi)
  rw [impl_copyRel.l0,if_pos (by omega),if_pos (by omega),if_pos (by omega),QRel.rdI_get rows i hi,step_i (by omega),copy_f _ hl,Option.bind_some,if_pos (by omega),mk_f0,copyP_l ar rows hn hr d (i + 1) k _ (by omega) (by rw [List.length_append,List.length_singleton];omega) (by omega),List.drop_eq_getElem_cons hi,List.append_assoc]
  rfl
theorem copyS_l (a ar:Int) (rows:List TI) (hn:rows.length≤400) (hr:∀ r∈rows,r.f0.length≤1048576):∀(d i k:Nat) (out:List TI),i + d=rows.length→out.length + d≤800→d < k →
  spec_l02Copy.l0 k (i:Int) a rows ar out=some (ar,out ++ rows.drop i)
 | d,i,0,_,_,_,hk=>absurd hk (Nat.not_lt_zero d)
 | 0,i,k + 1,out,h,_,_=>by
  rw [spec_l02Copy.l0,if_neg (by omega),List.drop_of_length_le (by omega),List.append_nil]
 | d + 1,i,k + 1,out,h,ho,hk=>by
  have hi:i < rows.length:=by omega
  have hl:=hr rows[i] (List.getElem_mem hi)
  rw [spec_l02Copy.l0,if_pos (by omega),if_pos (by omega),QRel.rdI_get rows i hi,step_i (by omega),tuple_f _ hl,Option.bind_some,if_pos (by omega),mk_f0,copyS_l a ar rows hn hr d (i + 1) k _ (by omega) (by rw [List.length_append,List.length_singleton];omega) (by omega),List.drop_eq_getElem_cons hi,List.append_assoc]
  rfl
theorem copyI_f (a:Int) (xs:List TI) (hn:xs.length≤400) (hr:∀ r∈xs,r.f0.length≤1048576) (k:Nat) (hk:400 < k):impl_copyRel.f k a xs=some (a,xs):=by
 unfold impl_copyRel.f
 rw [show(0:Int)=((0:Nat):Int)from rfl,copyP_l a xs hn hr xs.length 0 k [] (by omega) (by rw [List.length_nil];omega) (by omega),List.nil_append,List.drop_zero]
theorem copyS_f (a:Int) (xs:List TI) (hn:xs.length≤400) (hr:∀ r∈xs,r.f0.length≤1048576) (k:Nat) (hk:400 < k):spec_l02Copy.f k a xs=some (a,xs):=by
 unfold spec_l02Copy.f
 rw [show(0:Int)=((0:Nat):Int)from rfl,copyS_l a a xs hn hr xs.length 0 k [] (by omega) (by rw [List.length_nil];omega) (by omega),List.nil_append,List.drop_zero]
theorem place_lt:∀(rs:List Row) (t:Row) (i:Nat) (h:i < rs.length),i < place rs t→lcmp rs[i] t < 0
 | [],_,_,h,_=>absurd h (Nat.not_lt_zero _)
 | a :: rs,t,i,h,hp=>by
  rw [place_cons]at hp
  by_cases c:lcmp a t < 0
  ·rw [if_pos c]at hp
   cases i with
   | zero=>exact c
   | succ i=>exact place_lt rs t i (by simpa using h) (by omega)
  ·rw [if_neg c]at hp
   omega
theorem place_ge:∀(rs:List Row) (t:Row) (h:place rs t < rs.length),¬ lcmp (rs[place rs t]'h) t < 0
 | [],_,h=>absurd h (Nat.not_lt_zero _)
 | a :: rs,t,h=>by
  by_cases c:lcmp a t < 0
  ·have e:place (a :: rs) t=place rs t + 1:=by rw [place_cons,if_pos c]
   have h2:place rs t < rs.length:=by rw [e,List.length_cons]at h;omega
   have:=place_ge rs t h2
   simp only [e,List.getElem_cons_succ]
   exact this
  ·have e:place (a :: rs) t=0:=by rw [place_cons,if_neg c]
   simp only [e,List.getElem_cons_zero]
   exact c
/-- From its place on no row comes ahead. -/
theorem behind {rs:List Row} (hs:Srt rs) (t:Row) (i:Nat) (h:i < rs.length) (hp:place rs t≤i):¬ lcmp rs[i] t < 0:=by
 intro hn
 rcases Nat.lt_or_ge (place rs t) i with hlt|hge
 ·exact place_ge rs t (by omega) (lcmp_trans _ _ _ (List.pairwise_iff_getElem.1 hs (place rs t) i (by omega) h hlt) hn)
 ·have e:i=place rs t:=by omega
  subst e
  exact place_ge rs t h hn
theorem mem_place {rs:List Row} (hs:Srt rs) (t:Row) (h:place rs t < rs.length):t∈rs↔lcmp (rs[place rs t]'h) t=0:=by
 constructor
 ·intro hm
  obtain⟨i,hi,rfl⟩:=List.mem_iff_getElem.1 hm
  have h1:place rs rs[i]≤i:=by
   refine Decidable.byContradiction fun hc=>?_
   have:=place_lt rs rs[i] i hi (by omega)
   rw [lcmp_self]at this
   omega
  rcases Nat.lt_or_ge (place rs rs[i]) i with hlt|hge
  ·exact absurd (List.pairwise_iff_getElem.1 hs (place rs rs[i]) i (by omega) hi hlt) (place_ge rs rs[i] (by omega))
  ·have e:place rs rs[i]=i:=by omega
   simp only [e,lcmp_self]
 ·intro h0
  rw [← lcmp_zero _ _ h0]
  exact List.getElem_mem h
theorem not_place {rs:List Row} (t:Row) (h:¬ place rs t < rs.length):¬ t∈rs:=by
 intro hm
 obtain⟨i,hi,rfl⟩:=List.mem_iff_getElem.1 hm
 have:=place_lt rs rs[i] i hi (by have:=place_le rs rs[i];omega)
 rw [lcmp_self]at this
 omega
theorem encR_len (rs:List Row):(encR rs).length=rs.length:=List.length_map _
theorem encR_get (rs:List Row) (i:Nat) (h:i < rs.length):(encR rs)[i]'(by rw [encR_len];exact h)=⟨enc rs[i]⟩:=List.getElem_map _
theorem cmps_f (t:Row) (ht:∀ x∈t,Sh x) (htn:t.length≤1000) (k:Nat) (hk:9000 < k):∀ rs:List Row,(∀ ts∈rs,(∀ x∈ts,Sh x)∧ts.length≤1000)→cmps k (enc t) (encR rs)=some (rs.map fun a=>lcmp a t)
 | [],_=>rfl
 | a :: rs,h=>by
  obtain⟨h1,h2⟩:=h a (by simp)
  show(impl_compareTuples.f k (enc a) (enc t)).bind _=_
  rw [compareT_f a t h1 ht h2 htn k (by omega),Option.bind_some]
  show((cmps k (enc t) (encR rs)).bind fun cs=>some (lcmp a t :: cs))=_
  rw [cmps_f t ht htn k hk rs (fun ts hts=>h ts (by simp [hts]))]
  rfl
open Classical in
theorem putS_l (t:Row) (ht:∀ x∈t,Sh x) (htn:t.length≤1000) {rs:List Row} (hs:Srt rs) (hr:∀ ts∈rs,(∀ x∈ts,Sh x)∧ts.length≤1000) (hn:rs.length≤1000):∀(d i k:Nat),i + d=place rs t→d + 9000 < k →
  ∃ q,spec_l02Put.l0 k (encR rs) (i:Int) (enc t)=some q∧q=(if place rs t < rs.length∧t∈rs then(encR rs,false)else((encR rs).take (place rs t) ++ (⟨enc t⟩:TI) :: (encR rs).drop (place rs t),true))
 | d,i,0,_,hk=>absurd hk (Nat.not_lt_zero _)
 | 0,i,k + 1,h,hk=>by
  have e:i=place rs t:=by omega
  subst e
  have hle:=place_le rs t
  have hel:=encR_len rs
  have hen:(enc t).length≤1048576:=by rw [enc_len];omega
  obtain⟨k,rfl⟩:∃ m,k=m + 1:=⟨k - 1,by omega⟩
  have key:∀(B:Bool),∃ q,(spec_l02Put.j1 (k + 1) (encR rs) (place rs t:Int) (enc t))=some q∧q=(if place rs t < rs.length∧t∈rs then(encR rs,false)else((encR rs).take (place rs t) ++ (⟨enc t⟩:TI) :: (encR rs).drop (place rs t),true)):=by
   intro _
   rw [spec_l02Put.j1]
   have hins:((some (([]:List TI):List TI)).bind fun y268=>(if(place rs t:Int)≤((encR rs).length:Int)then((some ((encR rs).take (place rs t:Int).toNat:List TI)).bind fun y271=>(if y268.length + y271.length < 5864062014805 then((some (y268 ++ y271:List TI)).bind fun y276=>((spec_l02Tuple.f (enc t)).bind fun t279=>(if y276.length < 5864062014805 then((some (y276 ++ [(⟨t279⟩:TI)]:List TI)).bind fun y282=>((some ((encR rs).drop (place rs t:Int).toNat:List TI)).bind fun y285=>(if y282.length + y285.length < 5864062014805 then(some ((y282 ++ y285),true))else(none))))else(none))))else(none)))else(none)))=some ((encR rs).take (place rs t) ++ (⟨enc t⟩:TI) :: (encR rs).drop (place rs t),true):=by
    have h1:((encR rs).take (place rs t)).length=place rs t:=by rw [List.length_take];omega
    have h2:((encR rs).drop (place rs t)).length=rs.length - place rs t:=by rw [List.length_drop];omega
    rw [Option.bind_some,if_pos (by omega),Option.bind_some,show((place rs t:Int)).toNat=place rs t from rfl,if_pos (by rw [List.length_nil];omega),Option.bind_some,tuple_f _ hen,Option.bind_some,if_pos (by rw [List.length_append,List.length_nil];omega),Option.bind_some,Option.bind_some,if_pos (by rw [List.length_append,List.length_append,List.length_nil,List.length_singleton];omega),List.nil_append,List.append_assoc]
    rfl
   by_cases hp:place rs t < rs.length
   ·obtain⟨h1,h2⟩:=hr rs[place rs t] (List.getElem_mem hp)
    have hm:=mem_place hs t hp
    rw [if_pos (by omega),if_pos (by omega),QRel.rdI_get _ _ (by omega),encR_get rs _ hp]
    show ∃ q,(spec_l02Cmp.f k (enc rs[place rs t]) (enc t)).bind _=some q∧_
    rw [l02Cmp_f _ t h1 ht h2 htn k (by omega),Option.bind_some]
    by_cases h0:lcmp rs[place rs t] t=0
    ·rw [if_pos h0,if_pos ⟨hp,hm.2 h0⟩]
     exact⟨_,rfl,rfl⟩
    ·rw [if_neg h0,if_neg (fun hh=>h0 (hm.1 hh.2))]
     exact⟨_,hins,rfl⟩
   ·rw [if_neg (by omega),if_neg (fun hh=>hp hh.1)]
    refine⟨_, ?_,rfl⟩
    rw [Option.bind_some,if_pos (by omega)]
    rw [Option.bind_some]at hins
    exact hins
  rw [spec_l02Put.l0]
  by_cases hp:place rs t < rs.length
  ·obtain⟨h1,h2⟩:=hr rs[place rs t] (List.getElem_mem hp)
   rw [if_pos (by omega),if_pos (by omega),QRel.rdI_get _ _ (by omega),encR_get rs _ hp]
   show ∃ q,(spec_l02Cmp.f (k + 1) (enc rs[place rs t]) (enc t)).bind _=some q∧_
   rw [l02Cmp_f _ t h1 ht h2 htn (k + 1) (by omega),Option.bind_some,if_neg (place_ge rs t hp)]
   exact key true
  ·rw [if_neg (by omega)]
   exact key true
 | d + 1,i,k + 1,h,hk=>by
  have hle:=place_le rs t
  have hel:=encR_len rs
  have hi:i < rs.length:=by omega
  obtain⟨h1,h2⟩:=hr rs[i] (List.getElem_mem hi)
  rw [spec_l02Put.l0,if_pos (by omega),if_pos (by omega),QRel.rdI_get _ _ (by omega),encR_get rs _ hi,step_i (by omega)]
  show ∃ q,(spec_l02Cmp.f k (enc rs[i]) (enc t)).bind _=some q∧_
  rw [l02Cmp_f _ t h1 ht h2 htn k (by omega),Option.bind_some,if_pos (place_lt rs t i hi (by omega))]
  exact putS_l t ht htn hs hr hn d (i + 1) k (by omega) (by omega)
open Classical in
/-- Rows behind a put. -/
noncomputable def putE (rs:List Row) (t:Row):List TI×Bool:=if t∈rs then(encR rs,false)else((encR rs).take (place rs t) ++ (⟨enc t⟩:TI) :: (encR rs).drop (place rs t),true)
theorem putE_enc (rs:List Row) (t:Row):putE rs t=(encR (put rs t).1,(put rs t).2):=by
 unfold putE put
 split
 ·rfl
 ·unfold encR
  rw [List.map_append,List.map_cons,List.map_take,List.map_drop]
open Classical in
theorem putS_f (t:Row) (ht:∀ x∈t,Sh x) (htn:t.length≤1000) {rs:List Row} (hs:Srt rs) (hr:∀ ts∈rs,(∀ x∈ts,Sh x)∧ts.length≤1000) (hn:rs.length≤1000) (k:Nat) (hk:11000 < k):spec_l02Put.f k (encR rs) (enc t)=some (putE rs t):=by
 have hle:=place_le rs t
 obtain⟨q,h1,h2⟩:=putS_l t ht htn hs hr hn (place rs t) 0 k (by omega) (by omega)
 unfold spec_l02Put.f
 rw [show(0:Int)=((0:Nat):Int)from rfl,h1,h2]
 unfold putE
 by_cases hm:t∈rs
 ·have hp:place rs t < rs.length:=Decidable.byContradiction fun hc=>not_place t hc hm
  rw [if_pos ⟨hp,hm⟩,if_pos hm]
 ·rw [if_neg (fun h=>hm h.2),if_neg hm]
theorem negs_map (t:Row):∀ rs:List Row,negs (rs.map fun a=>lcmp a t)=place rs t
 | []=>rfl
 | a :: rs=>by
  rw [place_cons,List.map_cons,negs,negs_map t rs]
open Classical in
theorem placeB_f (t:Row) (ht:∀ x∈t,Sh x) (htn:t.length≤1000) {rs:List Row} (hs:Srt rs) (hr:∀ ts∈rs,(∀ x∈ts,Sh x)∧ts.length≤1000) (k:Nat) (hk:9000 < k):placeB k (encR rs) (enc t)=some (place rs t,decide (t∈rs)):=by
 unfold placeB
 rw [cmps_f t ht htn k hk rs hr,Option.bind_some,negs_map,if_pos]
 ·congr 2
  rw [List.getElem?_map]
  by_cases hp:place rs t < rs.length
  ·rw [List.getElem?_eq_getElem hp]
   have:=mem_place hs t hp
   by_cases hm:t∈rs
   ·rw [decide_eq_true hm]
    simp [this.1 hm]
   ·rw [decide_eq_false hm,decide_eq_false]
    intro h
    simp only [Option.map_some,Option.some.injEq]at h
    exact hm (this.2 h)
  ·rw [List.getElem?_eq_none (by omega),decide_eq_false (not_place t hp)]
   rfl
 ·rw [List.all_eq_true]
  intro c hc
  obtain⟨i,hi,rfl⟩:=List.mem_iff_getElem.1 hc
  rw [List.length_drop,List.length_map]at hi
  have:=behind hs t (place rs t + i) (by omega) (by omega)
  rw [List.getElem_drop,List.getElem_map]
  exact decide_eq_true (by omega)
theorem ins_at (xs:List TI) (x:TI):∀ p,p≤xs.length→xs.insertIdx p x=xs.take p ++ x :: xs.drop p:=by
 induction xs with
 | nil =>
  intro p hp
  obtain rfl:p=0:=by simpa using hp
  rfl
 | cons a xs ih =>
  intro p hp
  cases p with
  | zero=>rfl
  | succ p=>rw [List.insertIdx_succ_cons,ih p (by simpa using hp),List.take_succ_cons,List.drop_succ_cons,List.cons_append]
open Classical in
/-- What RelPut answers. -/
noncomputable def putR (a:Int) (rs:List Row) (t:Row):Int×List TI×Bool:=if t∈rs then(a,encR rs,false)else if rs.length=400 then(0,[],false)else(a,(encR rs).take (place rs t) ++ (⟨enc t⟩:TI) :: (encR rs).drop (place rs t),true)
theorem tot_app:∀ l m:List TI,tot (l ++ m)=tot l + tot m
 | [],m=>by simp [tot]
 | r :: l,m=>by simp [tot,tot_app l m];omega
open Classical in
/-- Both answer the same, and not more than was there with one tuple. -/
theorem put_both (a:Int) (xs:List TI) (l:List ByteArray) (hx:FewI xs) (hl:Few l):∃ g:Int×List TI×Bool,(∀ k,6000000 < k→impl_RelPut.f k a xs l=some g)∧(∀ k,6000000 < k→spec_RelPut.f k a xs l=some g)∧FewI g.2.1∧tot g.2.1≤tot xs + l.length:=by
 have z:FewI (([]:List TI))∧tot ([]:List TI)≤tot xs + l.length:=⟨⟨Nat.zero_le _,fun r hr=>by cases hr⟩,Nat.zero_le _⟩
 have hI:=fun k (hk:6000000 < k)=>isRel_f a xs (fun r hr=>(hx.2 r hr).2) k (by omega)
 have hS:=fun k (hk:6000000 < k)=>relOk_f a xs (fun r hr=>(hx.2 r hr).2) k (by omega)
 have hTI:=fun k (hk:6000000 < k)=>isTuple_f l hl.2 k (by omega)
 have hTS:=fun k (hk:6000000 < k)=>tupleOk_f l hl.2 k (by omega)
 have dull:∀(k:Nat),6000000 < k→∀(c:Bool) (m:Int),c=true→spec_RelPut.j0 k c m xs l=some (0,[],false):=by
  intro k hk c m hc
  obtain⟨k,rfl⟩:∃ n,k=n + 1:=⟨k - 1,by omega⟩
  rw [spec_RelPut.j0,if_pos hc]
 by_cases h1:relB a xs=true
 ·by_cases h3:(l.length:Int)=a
  ·cases h2:isTup l with
   | none =>
    refine⟨(0,[],false),fun k hk=>?_,fun k hk=>?_,z⟩
    ·unfold impl_RelPut.f
     rw [hI k hk,Option.bind_some,if_pos h1,hTI k hk,Option.bind_some,h2,if_neg (by decide)]
    ·unfold spec_RelPut.f
     rw [hS k hk,Option.bind_some,if_pos h1,if_pos h3,hTS k hk,Option.bind_some,h2]
     exact dull k hk _ _ rfl
   | some t =>
    obtain⟨t1,t2,t3⟩:=isTup_iff.1 h2
    obtain⟨hae,rs,e,hn,har,hs⟩:=(relB_iff a xs).1 h1
    obtain⟨_,_,q1,q2⟩:=rel_rows h1
    have hr:∀ ts∈rs,(∀ x∈ts,Sh x)∧ts.length≤1000:=fun ts hts=>⟨(har ts hts).2.2,by have:=(har ts hts).2.1;omega⟩
    have hr1:∀ r∈xs,r.f0.length≤1048576:=fun r hr=>(hx.2 r hr).1
    have hel:=encR_len rs
    have hpl:=place_le rs t
    refine⟨putR a rs t,fun k hk=>?_,fun k hk=>?_, ?_⟩
    ·unfold impl_RelPut.f
     rw [hI k hk,Option.bind_some,if_pos h1,hTI k hk,Option.bind_some,h2,Option.isSome_some,if_pos rfl,if_pos h3,copyI_f a xs q1 hr1 k (by omega),Option.bind_some,if_pos (by simp only [];omega)]
     simp only []
     rw [e,t3,placeB_f t t2 (by omega) hs hr k (by omega),Option.bind_some]
     unfold putR
     by_cases hm:t∈rs
     ·rw [if_pos hm,decide_eq_true hm,if_pos rfl]
     ·rw [if_neg hm,decide_eq_false hm,if_neg Bool.false_ne_true]
      by_cases h4:rs.length=400
      ·rw [if_pos h4,if_pos (by omega)]
      ·rw [if_neg h4,if_neg (by omega),copy_f _ (by rw [enc_len];omega),Option.bind_some,ins_at _ _ _ (by omega)]
    ·obtain⟨k,rfl⟩:∃ m,k=m + 1:=⟨k - 1,by omega⟩
     unfold spec_RelPut.f
     rw [hS _ hk,Option.bind_some,if_pos h1,if_pos h3,hTS _ hk,Option.bind_some,h2,Option.isSome_some,Bool.not_true,spec_RelPut.j0,if_neg Bool.false_ne_true,copyS_f a xs q1 hr1 k (by omega),Option.bind_some]
     simp only []
     rw [e,t3,putS_f t t2 (by omega) hs hr (by omega) k (by omega),Option.bind_some]
     unfold putR putE
     by_cases hm:t∈rs
     ·rw [if_pos hm,if_pos hm,if_neg (by simp only [];omega)]
     ·rw [if_neg hm,if_neg hm]
      have h5:((encR rs).take (place rs t) ++ (⟨enc t⟩:TI) :: (encR rs).drop (place rs t)).length=rs.length + 1:=by
       rw [List.length_append,List.length_cons,List.length_take,List.length_drop]
       omega
      by_cases h4:rs.length=400
      ·rw [if_pos h4,if_pos (by simp only [];omega)]
      ·rw [if_neg h4,if_neg (by simp only [];omega)]
    ·unfold putR
     by_cases hm:t∈rs
     ·rw [if_pos hm,← e]
      exact⟨hx,by simp only [];omega⟩
     ·rw [if_neg hm]
      by_cases h4:rs.length=400
      ·rw [if_pos h4]
       exact z
      ·rw [if_neg h4,← e,← t3]
       simp only []
       have hxl:xs.length=rs.length:=by rw [e];exact hel
       refine⟨⟨?_,fun r hr=>?_⟩, ?_⟩
       ·rw [List.length_append,List.length_cons,List.length_take,List.length_drop]
        omega
       ·rcases List.mem_append.1 hr with hr|hr
        ·exact hx.2 r (List.mem_of_mem_take hr)
        ·rcases List.mem_cons.1 hr with rfl|hr
         ·exact hl
         ·exact hx.2 r (List.mem_of_mem_drop hr)
       ·have h6:tot xs=tot (xs.take (place rs t)) + tot (xs.drop (place rs t)):=by rw [← tot_app,List.take_append_drop]
        rw [tot_app,tot]
        simp only []
        omega
  ·refine⟨(0,[],false),fun k hk=>?_,fun k hk=>?_,z⟩
   ·unfold impl_RelPut.f
    rw [hI k hk,Option.bind_some,if_pos h1,hTI k hk,Option.bind_some]
    by_cases h2:(isTup l).isSome=true
    ·rw [if_pos h2,if_neg h3]
    ·rw [if_neg h2]
   ·unfold spec_RelPut.f
    rw [hS k hk,Option.bind_some,if_pos h1,if_neg h3]
    exact dull k hk _ _ rfl
 ·refine⟨(0,[],false),fun k hk=>?_,fun k hk=>?_,z⟩
  ·unfold impl_RelPut.f
   rw [hI k hk,Option.bind_some,if_neg h1]
  ·unfold spec_RelPut.f
   rw [hS k hk,Option.bind_some,if_neg h1]
   exact dull k hk _ _ rfl
end Go.Proofs.YtkajecadkkgfmaaGreatDoor.QPut
