-- Cut by prune.py, a program of this session, out of the texts of this claim: Lean checks it.
import Derived.Test.YtkajecadkkgfmaaGreatDoorVkqQOrd
namespace Go.Proofs.YtkajecadkkgfmaaGreatDoor.QTup
open Go.Proofs.YtkajecadkkgfmaaGreatDoor.QStr Go.Proofs.YtkajecadkkgfmaaGreatDoor.QTm Go.Proofs.YtkajecadkkgfmaaGreatDoor.QCmp Go.Proofs.YtkajecadkkgfmaaGreatDoor.QOrd
def lcmp:List Tm→List Tm→Int
 | [],[]=>0
 | [],_ :: _=>-1
 | _ :: _,[]=>1
 | a :: p,b :: q=>if tcmp a b=0 then lcmp p q else tcmp a b
theorem lcmp_cons (a b:Tm) (p q:List Tm):lcmp (a :: p) (b :: q)=if tcmp a b=0 then lcmp p q else tcmp a b:=by rw [lcmp]
theorem lcmp_neg:∀ p q:List Tm,lcmp q p=-lcmp p q
 | [],[]=>rfl
 | [],_ :: _=>rfl
 | _ :: _,[]=>rfl
 | a :: p,b :: q=>by
  rw [lcmp_cons,lcmp_cons,tcmp_neg a b,lcmp_neg p q]
  by_cases h:tcmp a b=0
  ·rw [if_pos (by omega),if_pos h]
  ·rw [if_neg (by omega),if_neg h]
theorem lcmp_zero:∀ p q:List Tm,lcmp p q=0→p=q
 | [],[],_=>rfl
 | [],_ :: _,h=>by cases h
 | _ :: _,[],h=>by cases h
 | a :: p,b :: q,h=>by
  rw [lcmp_cons]at h
  by_cases h2:tcmp a b=0
  ·rw [if_pos h2]at h
   rw [tcmp_zero a b h2,lcmp_zero p q h]
  ·rw [if_neg h2]at h
   exact absurd h h2
theorem lcmp_self (p:List Tm):lcmp p p=0:=by
 have:=lcmp_neg p p
 omega
theorem lcmp_range:∀ p q:List Tm,lcmp p q=-1∨lcmp p q=0∨lcmp p q=1
 | [],[]=>.inr (.inl rfl)
 | [],_ :: _=>.inl rfl
 | _ :: _,[]=>.inr (.inr rfl)
 | a :: p,b :: q=>by
  rw [lcmp_cons]
  split
  ·exact lcmp_range p q
  ·exact tcmp_range a b
theorem lcmp_trans1:∀ p q r:List Tm,lcmp p q=-1→lcmp q r=-1→lcmp p r=-1
 | [],[],_,h,_=>by cases h
 | _,_ :: _,[],_,h=>by cases h
 | [],_ :: _,_ :: _,_,_=>rfl
 | _ :: _,[],_,h,_=>by cases h
 | a :: p,b :: q,c :: r,h3,h4=>by
  rw [lcmp_cons]at h3 h4 ⊢
  by_cases e1:tcmp a b=0
  ·rw [if_pos e1]at h3
   have e1':=tcmp_zero a b e1
   subst e1'
   by_cases e2:tcmp a c=0
   ·rw [if_pos e2]at h4 ⊢
    exact lcmp_trans1 p q r h3 h4
   ·rw [if_neg e2]at h4 ⊢
    exact h4
  ·rw [if_neg e1]at h3
   by_cases e2:tcmp b c=0
   ·have e2':=tcmp_zero b c e2
    subst e2'
    rw [if_neg e1]
    exact h3
   ·rw [if_neg e2]at h4
    have h5:=tcmp_trans a b c h3 h4
    rw [if_neg (by omega)]
    exact h5
theorem lcmp_trans (p q r:List Tm) (h1:lcmp p q < 0) (h2:lcmp q r < 0):lcmp p r < 0:=by
 have a:=lcmp_range p q
 have b:=lcmp_range q r
 have:=lcmp_trans1 p q r (by omega) (by omega)
 omega
abbrev Row:=List Tm
def Srt (l:List Row):Prop:=l.Pairwise fun a b=>lcmp a b < 0
theorem srt_cons {a:Row} {l:List Row}:Srt (a :: l)↔(∀ b∈l,lcmp a b < 0)∧Srt l:=List.pairwise_cons
theorem srt_nil:Srt []:=List.Pairwise.nil
/-- Where a row belongs. -/
def place (l:List Row) (t:Row):Nat:=(l.takeWhile fun a=>decide (lcmp a t < 0)).length
open Classical in
noncomputable def put (l:List Row) (t:Row):List Row×Bool:=if t∈l then(l,false)else(l.take (place l t) ++ t :: l.drop (place l t),true)
theorem place_le (l:List Row) (t:Row):place l t≤l.length:=by
 unfold place
 exact takeWhile_le l
theorem place_cons (a:Row) (l:List Row) (t:Row):place (a :: l) t=if lcmp a t < 0 then place l t + 1 else 0:=by
 unfold place
 rw [List.takeWhile_cons]
 by_cases h:lcmp a t < 0
 ·rw [if_pos (by simpa using h),if_pos h,List.length_cons]
 ·rw [if_neg (by simpa using h),if_neg h]
  rfl
theorem put_cons (a:Row) (l:List Row) (t:Row) (h:Srt (a :: l)):put (a :: l) t=if lcmp a t < 0 then(a :: (put l t).1,(put l t).2)else if lcmp a t=0 then(a :: l,false)else(t :: a :: l,true):=by
 rw [srt_cons]at h
 unfold put
 rw [place_cons]
 by_cases h1:lcmp a t < 0
 ·have hne:¬ t=a:=by rintro rfl;rw [lcmp_self]at h1;omega
  rw [if_pos h1,if_pos h1]
  by_cases h2:t∈l
  ·rw [if_pos (by simp [h2]),if_pos h2]
  ·rw [if_neg (by simp [h2,hne]),if_neg h2]
   simp
 ·rw [if_neg h1,if_neg h1]
  by_cases h2:lcmp a t=0
  ·have:=lcmp_zero a t h2
   subst this
   rw [if_pos (by simp),if_pos h2]
  ·have hne:¬ t=a:=by rintro rfl;exact h2 (lcmp_self _)
   have hnl:¬ t∈l:=fun hm=>h1 (h.1 t hm)
   rw [if_neg (by simp [hne,hnl]),if_neg h2]
   simp
theorem mem_put (l:List Row) (t x:Row):x∈(put l t).1↔x=t∨x∈l:=by
 unfold put
 by_cases h:t∈l
 ·rw [if_pos h]
  constructor
  ·exact .inr
  ·rintro(rfl|hx)
   ·exact h
   ·exact hx
 ·rw [if_neg h]
  simp only [List.mem_append,List.mem_cons]
  constructor
  ·rintro(hx|rfl|hx)
   ·exact .inr (List.mem_of_mem_take hx)
   ·exact .inl rfl
   ·exact .inr (List.mem_of_mem_drop hx)
  ·rintro(rfl|hx)
   ·exact .inr (.inl rfl)
   ·rw [← List.take_append_drop (place l t) l]at hx
    rcases List.mem_append.1 hx with hx|hx
    ·exact .inl hx
    ·exact .inr (.inr hx)
theorem srt_put:∀(l:List Row) (t:Row),Srt l→Srt (put l t).1
 | [],t,_=>by
  have:put [] t=([t],true):=by unfold put;rw [if_neg (by simp)];rfl
  rw [this]
  exact srt_cons.2 ⟨fun b hb=>(by cases hb),srt_nil⟩
 | a :: l,t,h=>by
  have hh:=srt_cons.1 h
  rw [put_cons a l t h]
  by_cases h1:lcmp a t < 0
  ·rw [if_pos h1]
   refine srt_cons.2 ⟨fun b hb=>?_,srt_put l t hh.2⟩
   rcases (mem_put l t b).1 hb with rfl|hb
   ·exact h1
   ·exact hh.1 b hb
  ·rw [if_neg h1]
   by_cases h2:lcmp a t=0
   ·rw [if_pos h2]
    exact h
   ·rw [if_neg h2]
    have h3:lcmp t a < 0:=by have:=lcmp_neg a t;omega
    refine srt_cons.2 ⟨fun b hb=>?_,h⟩
    rcases List.mem_cons.1 hb with rfl|hb
    ·exact h3
    ·exact lcmp_trans t a b h3 (hh.1 b hb)
theorem put_len (l:List Row) (t:Row):(put l t).1.length=l.length + if(put l t).2=true then 1 else 0:=by
 unfold put
 by_cases h:t∈l
 ·rw [if_pos h];simp
 ·rw [if_neg h]
  have:=place_le l t
  simp only [List.length_append,List.length_cons,List.length_take,List.length_drop,if_true]
  omega
end Go.Proofs.YtkajecadkkgfmaaGreatDoor.QTup
