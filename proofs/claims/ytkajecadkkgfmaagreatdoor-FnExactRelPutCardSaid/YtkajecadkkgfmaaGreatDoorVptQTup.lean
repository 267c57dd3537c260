-- Cut by prune.py, a program of this session, out of the texts of this claim: Lean checks it.
import Derived.Test.YtkajecadkkgfmaaGreatDoorVptQOrd
namespace Go.Proofs.YtkajecadkkgfmaaGreatDoor.QTup
open Go.Proofs.YtkajecadkkgfmaaGreatDoor.QStr Go.Proofs.YtkajecadkkgfmaaGreatDoor.QTm Go.Proofs.YtkajecadkkgfmaaGreatDoor.QCmp Go.Proofs.YtkajecadkkgfmaaGreatDoor.QOrd
def lcmp : List Tm → List Tm → Int
 | [],[] => 0
 | [],_ :: _ => -1
 | _ :: _,[] => 1
 | a :: p,b :: q => if tcmp a b = 0 then lcmp p q else tcmp a b
theorem lcmp_cons (a b : Tm) (p q : List Tm) : lcmp (a :: p) (b :: q) = if tcmp a b = 0 then lcmp p q else tcmp a b := by rw [lcmp]
theorem lcmp_neg : ∀ p q : List Tm,lcmp q p = -lcmp p q
 | [],[] => rfl
 | [],_ :: _ => rfl
 | _ :: _,[] => rfl
 | a :: p,b :: q => by
  rw [lcmp_cons,lcmp_cons,tcmp_neg a b,lcmp_neg p q]
  by_cases h : tcmp a b = 0
  ·rw [if_pos (by omega),if_pos h]
  ·rw [if_neg (by omega),if_neg h]
theorem lcmp_zero : ∀ p q : List Tm,lcmp p q = 0 → p = q
 | [],[],_ => rfl
 | [],_ :: _,h => by cases h
 | _ :: _,[],h => by cases h
 | a :: p,b :: q,h => by
  rw [lcmp_cons] at h
  by_cases h2 : tcmp a b = 0
  ·rw [if_pos h2] at h
   rw [tcmp_zero a b h2,lcmp_zero p q h]
  ·rw [if_neg h2] at h
   exact absurd h h2
theorem lcmp_self (p : List Tm) : lcmp p p = 0 := by
 have := lcmp_neg p p
 omega
theorem lcmp_range : ∀ p q : List Tm,lcmp p q = -1 ∨ lcmp p q = 0 ∨ lcmp p q = 1
 | [],[] => .inr (.inl rfl)
 | [],_ :: _ => .inl rfl
 | _ :: _,[] => .inr (.inr rfl)
 | a :: p,b :: q => by
  rw [lcmp_cons]
  split
  ·exact lcmp_range p q
  ·exact tcmp_range a b
theorem lcmp_trans1 : ∀ p q r : List Tm,lcmp p q = -1 → lcmp q r = -1 → lcmp p r = -1
 | [],[],_,h,_ => by cases h
 | _,_ :: _,[],_,h => by cases h
 | [],_ :: _,_ :: _,_,_ => rfl
 | _ :: _,[],_,h,_ => by cases h
 | a :: p,b :: q,c :: r,h3,h4 => by
  rw [lcmp_cons] at h3 h4 ⊢
  by_cases e1 : tcmp a b = 0
  ·rw [if_pos e1] at h3
   have e1' := tcmp_zero a b e1
   subst e1'
   by_cases e2 : tcmp a c = 0
   ·rw [if_pos e2] at h4 ⊢
    exact lcmp_trans1 p q r h3 h4
   ·rw [if_neg e2] at h4 ⊢
    exact h4
  ·rw [if_neg e1] at h3
   by_cases e2 : tcmp b c = 0
   ·have e2' := tcmp_zero b c e2
    subst e2'
    rw [if_neg e1]
    exact h3
   ·rw [if_neg e2] at h4
    have h5 := tcmp_trans a b c h3 h4
    rw [if_neg (by omega)]
    exact h5
theorem lcmp_trans (p q r : List Tm) (h1 : lcmp p q < 0) (h2 : lcmp q r < 0) : lcmp p r < 0 := by
 have a := lcmp_range p q
 have b := lcmp_range q r
 have := lcmp_trans1 p q r (by omega) (by omega)
 omega
abbrev Row := List Tm
def Srt (l : List Row) : Prop := l.Pairwise fun a b => lcmp a b < 0
theorem srt_cons {a : Row} {l : List Row} : Srt (a :: l) ↔ (∀ b ∈ l,lcmp a b < 0) ∧ Srt l := List.pairwise_cons
theorem srt_nil : Srt [] := List.Pairwise.nil
/-- Where a row belongs. -/
def place (l : List Row) (t : Row) : Nat := (l.takeWhile fun a => decide (lcmp a t < 0)).length
open Classical in
noncomputable def put (l : List Row) (t : Row) : List Row × Bool := if t ∈ l then (l,false) else (l.take (place l t) ++ t :: l.drop (place l t),true)
theorem place_le (l : List Row) (t : Row) : place l t ≤ l.length := by
 unfold place
 exact takeWhile_le l
theorem place_cons (a : Row) (l : List Row) (t : Row) : place (a :: l) t = if lcmp a t < 0 then place l t + 1 else 0 := by
 unfold place
 rw [List.takeWhile_cons]
 by_cases h : lcmp a t < 0
 ·rw [if_pos (by simpa using h),if_pos h,List.length_cons]
 ·rw [if_neg (by simpa using h),if_neg h]
  rfl
end Go.Proofs.YtkajecadkkgfmaaGreatDoor.QTup
