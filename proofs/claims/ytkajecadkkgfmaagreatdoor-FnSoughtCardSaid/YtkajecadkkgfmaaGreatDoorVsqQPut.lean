-- Cut by prune.py, a program of this session, out of the texts of this claim: Lean checks it.
import Derived.Test.YtkajecadkkgfmaaGreatDoorVsqQSeek
import Derived.Test.YtkajecadkkgfmaaGreatDoorVsqQMarkT
import Derived.Test.YtkajecadkkgfmaaGreatDoorVsqPnx0
import Derived.Test.YtkajecadkkgfmaaGreatDoorVsqPnx14
import Derived.Test.YtkajecadkkgfmaaGreatDoorVsqPnx17
import Derived.Test.YtkajecadkkgfmaaGreatDoorVsqPnx30
namespace Go.Proofs.YtkajecadkkgfmaaGreatDoor.QPut
open Go.RowKit Go.Proofs.YtkajecadkkgfmaaGreatDoor.Pn Go.Proofs.YtkajecadkkgfmaaGreatDoorW.PrintWords Go.Proofs.YtkajecadkkgfmaaGreatDoorW.PrintLast Go.Proofs.YtkajecadkkgfmaaGreatDoor.QStr Go.Proofs.YtkajecadkkgfmaaGreatDoor.QLaws Go.Proofs.YtkajecadkkgfmaaGreatDoor.QLaw2 Go.Proofs.YtkajecadkkgfmaaGreatDoor.QLaw3 Go.Proofs.YtkajecadkkgfmaaGreatDoor.QRel Go.Proofs.YtkajecadkkgfmaaGreatDoor.QSeek Go.Proofs.YtkajecadkkgfmaaGreatDoor.QTup Go.Proofs.YtkajecadkkgfmaaGreatDoor.QTerms Go.Proofs.YtkajecadkkgfmaaGreatDoor.QMarkT
abbrev TI:=S36
theorem place_lt:∀(rs:List Row) (t:Row) (i:Nat) (h:i < rs.length),i < place rs t→lcmp rs[i] t < 0
 | [],_,_,h,_=>absurd h (Nat.not_lt_zero _)
 | a :: rs,t,i,h,hp=>by
  rw [place_cons]at hp
  by_cases c:lcmp a t < 0
  ·rw [if_pos c]at hp
   cases i with
   | zero=>exact c
   | succ i=>exact place_lt rs t i (by simpa using h) (by omega)
  ·rw [if_neg c]at hp
   omega
theorem place_ge:∀(rs:List Row) (t:Row) (h:place rs t < rs.length),¬ lcmp (rs[place rs t]'h) t < 0
 | [],_,h=>absurd h (Nat.not_lt_zero _)
 | a :: rs,t,h=>by
  by_cases c:lcmp a t < 0
  ·have e:place (a :: rs) t=place rs t + 1:=by rw [place_cons,if_pos c]
   have h2:place rs t < rs.length:=by rw [e,List.length_cons]at h;omega
   have:=place_ge rs t h2
   simp only [e,List.getElem_cons_succ]
   exact this
  ·have e:place (a :: rs) t=0:=by rw [place_cons,if_neg c]
   simp only [e,List.getElem_cons_zero]
   exact c
theorem mem_place {rs:List Row} (hs:Srt rs) (t:Row) (h:place rs t < rs.length):t∈rs↔lcmp (rs[place rs t]'h) t=0:=by
 constructor
 ·intro hm
  obtain⟨i,hi,rfl⟩:=List.mem_iff_getElem.1 hm
  have h1:place rs rs[i]≤i:=by
   refine Decidable.byContradiction fun hc=>?_
   have:=place_lt rs rs[i] i hi (by omega)
   rw [lcmp_self]at this
   omega
  rcases Nat.lt_or_ge (place rs rs[i]) i with hlt|hge
  ·exact absurd (List.pairwise_iff_getElem.1 hs (place rs rs[i]) i (by omega) hi hlt) (place_ge rs rs[i] (by omega))
  ·have e:place rs rs[i]=i:=by omega
   simp only [e,lcmp_self]
 ·intro h0
  rw [← lcmp_zero _ _ h0]
  exact List.getElem_mem h
theorem not_place {rs:List Row} (t:Row) (h:¬ place rs t < rs.length):¬ t∈rs:=by
 intro hm
 obtain⟨i,hi,rfl⟩:=List.mem_iff_getElem.1 hm
 have:=place_lt rs rs[i] i hi (by have:=place_le rs rs[i];omega)
 rw [lcmp_self]at this
 omega
theorem encR_len (rs:List Row):(encR rs).length=rs.length:=List.length_map _
theorem encR_get (rs:List Row) (i:Nat) (h:i < rs.length):(encR rs)[i]'(by rw [encR_len];exact h)=⟨enc rs[i]⟩:=List.getElem_map _
open Classical in
theorem putS_l (t:Row) (ht:∀ x∈t,Sh x) (htn:t.length≤1000) {rs:List Row} (hs:Srt rs) (hr:∀ ts∈rs,(∀ x∈ts,Sh x)∧ts.length≤1000) (hn:rs.length≤1000):∀(d i k:Nat),i + d=place rs t→d + 9000 < k →
  ∃ q,spec_l02Put.l0 k (encR rs) (i:Int) (enc t)=some q∧q=(if place rs t < rs.length∧t∈rs then(encR rs,false)else((encR rs).take (place rs t) ++ (⟨enc t⟩:TI) :: (encR rs).drop (place rs t),true))
 | d,i,0,_,hk=>absurd hk (Nat.not_lt_zero _)
 | 0,i,k + 1,h,hk=>by
  have e:i=place rs t:=by omega
  subst e
  have hle:=place_le rs t
  have hel:=encR_len rs
  have hen:(enc t).length≤1048576:=by rw [enc_len];omega
  obtain⟨k,rfl⟩:∃ m,k=m + 1:=⟨k - 1,by omega⟩
  have key:∀(B:Bool),∃ q,(spec_l02Put.j1 (k + 1) (encR rs) (place rs t:Int) (enc t))=some q∧q=(if place rs t < rs.length∧t∈rs then(encR rs,false)else((encR rs).take (place rs t) ++ (⟨enc t⟩:TI) :: (encR rs).drop (place rs t),true)):=by
   intro _
   rw [spec_l02Put.j1]
   have hins:((some (([]:List TI):List TI)).bind fun y268=>(if(place rs t:Int)≤((encR rs).length:Int)then((some ((encR rs).take (place rs t:Int).toNat:List TI)).bind fun y271=>(if y268.length + y271.length < 5864062014805 then((some (y268 ++ y271:List TI)).bind fun y276=>((spec_l02Tuple.f (enc t)).bind fun t279=>(if y276.length < 5864062014805 then((some (y276 ++ [(⟨t279⟩:TI)]:List TI)).bind fun y282=>((some ((encR rs).drop (place rs t:Int).toNat:List TI)).bind fun y285=>(if y282.length + y285.length < 5864062014805 then(some ((y282 ++ y285),true))else(none))))else(none))))else(none)))else(none)))=some ((encR rs).take (place rs t) ++ (⟨enc t⟩:TI) :: (encR rs).drop (place rs t),true):=by
    have h1:((encR rs).take (place rs t)).length=place rs t:=by rw [List.length_take];omega
    have h2:((encR rs).drop (place rs t)).length=rs.length - place rs t:=by rw [List.length_drop];omega
    rw [Option.bind_some,if_pos (by omega),Option.bind_some,show((place rs t:Int)).toNat=place rs t from rfl,if_pos (by rw [List.length_nil];omega),Option.bind_some,tuple_f _ hen,Option.bind_some,if_pos (by rw [List.length_append,List.length_nil];omega),Option.bind_some,Option.bind_some,if_pos (by rw [List.length_append,List.length_append,List.length_nil,List.length_singleton];omega),List.nil_append,List.append_assoc]
    rfl
   by_cases hp:place rs t < rs.length
   ·obtain⟨h1,h2⟩:=hr rs[place rs t] (List.getElem_mem hp)
    have hm:=mem_place hs t hp
    rw [if_pos (by omega),if_pos (by omega),QRel.rdI_get _ _ (by omega),encR_get rs _ hp]
    show ∃ q,(spec_l02Cmp.f k (enc rs[place rs t]) (enc t)).bind _=some q∧_
    rw [l02Cmp_f _ t h1 ht h2 htn k (by omega),Option.bind_some]
    by_cases h0:lcmp rs[place rs t] t=0
    ·rw [if_pos h0,if_pos ⟨hp,hm.2 h0⟩]
     exact⟨_,rfl,rfl⟩
    ·rw [if_neg h0,if_neg (fun hh=>h0 (hm.1 hh.2))]
     exact⟨_,hins,rfl⟩
   ·rw [if_neg (by omega),if_neg (fun hh=>hp hh.1)]
    refine⟨_, ?_,rfl⟩
    rw [Option.bind_some,if_pos (by omega)]
    rw [Option.bind_some]at hins
    exact hins
  rw [spec_l02Put.l0]
  by_cases hp:place rs t < rs.length
  ·obtain⟨h1,h2⟩:=hr rs[place rs t] (List.getElem_mem hp)
   rw [if_pos (by omega),if_pos (by omega),QRel.rdI_get _ _ (by omega),encR_get rs _ hp]
   show ∃ q,(spec_l02Cmp.f (k + 1) (enc rs[place rs t]) (enc t)).bind _=some q∧_
   rw [l02Cmp_f _ t h1 ht h2 htn (k + 1) (by omega),Option.bind_some,if_neg (place_ge rs t hp)]
   exact key true
  ·rw [if_neg (by omega)]
   exact key true
 | d + 1,i,k + 1,h,hk=>by
  have hle:=place_le rs t
  have hel:=encR_len rs
  have hi:i < rs.length:=by omega
  obtain⟨h1,h2⟩:=hr rs[i] (List.getElem_mem hi)
  rw [spec_l02Put.l0,if_pos (by omega),if_pos (by omega),QRel.rdI_get _ _ (by omega),encR_get rs _ hi,step_i (by omega)]
  show ∃ q,(spec_l02Cmp.f k (enc rs[i]) (enc t)).bind _=some q∧_
  rw [l02Cmp_f _ t h1 ht h2 htn k (by omega),Option.bind_some,if_pos (place_lt rs t i hi (by omega))]
  exact putS_l t ht htn hs hr hn d (i + 1) k (by omega) (by omega)
open Classical in
/-- Rows behind a put. -/
noncomputable def putE (rs:List Row) (t:Row):List TI×Bool:=if t∈rs then(encR rs,false)else((encR rs).take (place rs t) ++ (⟨enc t⟩:TI) :: (encR rs).drop (place rs t),true)
theorem putE_enc (rs:List Row) (t:Row):putE rs t=(encR (put rs t).1,(put rs t).2):=by
 unfold putE put
 split
 ·rfl
 ·unfold encR
  rw [List.map_append,List.map_cons,List.map_take,List.map_drop]
open Classical in
theorem putS_f (t:Row) (ht:∀ x∈t,Sh x) (htn:t.length≤1000) {rs:List Row} (hs:Srt rs) (hr:∀ ts∈rs,(∀ x∈ts,Sh x)∧ts.length≤1000) (hn:rs.length≤1000) (k:Nat) (hk:11000 < k):spec_l02Put.f k (encR rs) (enc t)=some (putE rs t):=by
 have hle:=place_le rs t
 obtain⟨q,h1,h2⟩:=putS_l t ht htn hs hr hn (place rs t) 0 k (by omega) (by omega)
 unfold spec_l02Put.f
 rw [show(0:Int)=((0:Nat):Int)from rfl,h1,h2]
 unfold putE
 by_cases hm:t∈rs
 ·have hp:place rs t < rs.length:=Decidable.byContradiction fun hc=>not_place t hc hm
  rw [if_pos ⟨hp,hm⟩,if_pos hm]
 ·rw [if_neg (fun h=>hm h.2),if_neg hm]
end Go.Proofs.YtkajecadkkgfmaaGreatDoor.QPut
