-- Cut by prune.py, a program of this session, out of the texts of this claim: Lean checks it.
import Derived.Test.YtcckpjflbfofjaaVclQGraph
import Derived.Test.YtcckpjflbfofjaaVclPdx7
import Derived.Test.YtcckpjflbfofjaaVclPdx0
namespace Go.Proofs.Ytcckpjflbfofjaa.QGraphR
open Go.RowKit Go.Proofs.Ytcckpjflbfofjaa.Pd Go.Proofs.YtcckpjflbfofjaaW.PrintWords Go.Proofs.YtcckpjflbfofjaaW.PrintLast Go.Proofs.Ytcckpjflbfofjaa.QStr Go.Proofs.Ytcckpjflbfofjaa.QGraph
theorem in_f (a b c:Int):impl_in.f a b c=some (decide (b≤a∧a≤c)):=by
 unfold impl_in.f
 by_cases h:a≥b
 ·rw [if_pos h]
  simp [show b≤a from h]
 ·rw [if_neg h]
  simp [show ¬ b≤a from h]
theorem between_f (a b c:Int):spec_l01Between.f a b c=some (decide (b≤a∧a≤c)):=by
 unfold spec_l01Between.f
 by_cases h:a≥b
 ·rw [if_pos h]
  simp [show b≤a from h]
 ·rw [if_neg h]
  simp [show ¬ b≤a from h]
def inA (x:A):Prop:=(0≤x.f0∧x.f0≤5)∧(0≤x.f1∧x.f1≤5)
def ltA (p x:A):Prop:=p.f0 < x.f0∨p.f0=x.f0∧p.f1 < x.f1
instance (x:A):Decidable (inA x):=inferInstanceAs (Decidable (_∧_))
instance (p x:A):Decidable (ltA p x):=inferInstanceAs (Decidable (_∨_))
/-- All behind p rises, within the bounds. -/
def chk:Option A→List A→Bool
 | _,[]=>true
 | p,x :: r=>decide (inA x) && ((match p with|none=>true|some p=>decide (ltA p x)) && chk (some x) r)
theorem cmp_f (a b:Int):cmp_Compare_int.f a b=some (if a < b then -1 else if a > b then 1 else 0):=by
 unfold cmp_Compare_int.f
 have h:∀ z,cmp_isNaN_int.f z=some false:=fun z=>by simp [cmp_isNaN_int.f]
 rw [h,h,Option.bind_some,Option.bind_some,if_neg Bool.false_ne_true,if_neg Bool.false_ne_true]
 by_cases h1:a < b
 ·rw [if_pos h1,if_pos h1]
 ·rw [if_neg h1,if_neg h1]
  by_cases h2:a > b
  ·rw [if_pos h2,if_pos h2]
  ·rw [if_neg h2,if_neg h2]
theorem or_f (k:Nat) (t u:Int):cmp_Or_int.f (k + 3) [t,u]=some (if t=0 then u else t):=by
 unfold cmp_Or_int.f
 have w1:wrap64 ((0:Int) + 1)=1:=(wrapS (by omega) (by omega)).trans (by omega)
 have w2:wrap64 ((1:Int) + 1)=2:=(wrapS (by omega) (by omega)).trans (by omega)
 have r0:rd [t,u] 0=t:=rfl
 have r1:rd [t,u] 1=u:=rfl
 rw [cmp_Or_int.l0,if_pos (by simp),if_pos (by omega),if_pos (by simp),r0,w1]
 by_cases h:t=0
 ·rw [if_pos h,if_pos h,cmp_Or_int.l0,if_pos (by simp),if_pos (by omega),if_pos (by simp),r1,w2]
  by_cases hu:u=0
  ·rw [if_pos hu,cmp_Or_int.l0,if_neg (by simp),hu]
  ·rw [if_neg hu]
 ·rw [if_neg h,if_neg h]
theorem cmpA_f (k:Nat) (p x:A):∃ c,impl_compareArcs.f (k + 3) p.f0 p.f1 p.f2 x.f0 x.f1 x.f2=some c∧(c < 0↔ltA p x)∧(c=0↔p.f0=x.f0∧p.f1=x.f1):=by
 unfold impl_compareArcs.f
 rw [cmp_f,Option.bind_some,cmp_f,Option.bind_some,or_f,Option.bind_some]
 refine⟨_,rfl, ?_, ?_⟩ <;> (try unfold ltA) <;> (repeat' split) <;> omega
theorem chk_drop (xs:List A) (p:Option A) (i:Nat) (h:i < xs.length):chk p (xs.drop i)=(decide (inA xs[i]) && ((match p with|none=>true|some p=>decide (ltA p xs[i])) && chk (some xs[i]) (xs.drop (i + 1)))):=by
 rw [List.drop_eq_getElem_cons h]
 rfl
/-- What stands ahead of place i. -/
def pre (xs:List A):Nat→Option A
 | 0=>none
 | i + 1=>xs[i]?
theorem wrap_back {i:Nat} (h:i≤281474976710656):wrap64 (((i + 1:Nat):Int) - 1)=(i:Int):=by
 rw [wrapS (by omega) (by omega)]
 omega
theorem impl_right (p0 p1:Int) (xs:List A) (hx:xs.length≤281474976710656):∀(d i k:Nat),i + d=xs.length→d + 3 < k →
  impl_isGraph.l0 k xs (xs.length:Int) (i:Int) p0 p1 xs=some (chk (pre xs i) (xs.drop i))
 | 0,i,k,hd,hk=>by
  obtain⟨k,rfl⟩:∃ m,k=m + 1:=⟨k - 1,by omega⟩
  rw [impl_isGraph.l0,if_neg (by omega),List.drop_of_length_le (by omega)]
  rfl
 | d + 1,i,k,hd,hk=>by
  obtain⟨k,rfl⟩:∃ m,k=m + 1:=⟨k - 1,by omega⟩
  have hi:i < xs.length:=by omega
  have ih:=impl_right p0 p1 xs hx d (i + 1) k (by omega) (by omega)
  rw [impl_isGraph.l0,if_pos (by omega),if_pos (by omega),if_pos (by omega),rd_get xs i hi,in_f,Option.bind_some,step_i (by omega),ih,chk_drop xs _ i hi]
  have hp:pre xs (i + 1)=some xs[i]:=List.getElem?_eq_getElem hi
  rw [hp]
  by_cases h0:0≤xs[i].f0∧xs[i].f0≤5
  ·rw [if_pos (decide_eq_true h0),in_f,Option.bind_some]
   by_cases h1:0≤xs[i].f1∧xs[i].f1≤5
   ·have hin:inA xs[i]:=⟨h0,h1⟩
    rw [if_pos (decide_eq_true h1),decide_eq_true hin,Bool.true_and]
    cases i with
    | zero=>rw [if_neg (by omega)];rfl
    | succ j =>
     have hj:j < xs.length:=by omega
     obtain⟨m,rfl⟩:∃ m,k=m + 3:=⟨k - 3,by omega⟩
     obtain⟨c,hc,hc1,hc2⟩:=cmpA_f m xs[j] xs[j + 1]
     rw [if_pos (by omega),wrap_back (by omega),if_pos (by omega),if_pos (by omega),rd_get xs j hj,hc,Option.bind_some]
     have hq:pre xs (j + 1)=some xs[j]:=List.getElem?_eq_getElem hj
     rw [hq]
     show _=some (decide (ltA xs[j] xs[j + 1]) && _)
     by_cases hl:ltA xs[j] xs[j + 1]
     ·rw [if_neg (by have:=hc1.2 hl;omega),decide_eq_true hl,Bool.true_and]
     ·rw [if_pos (by have:¬ c < 0:=fun h=>hl (hc1.1 h);omega),decide_eq_false hl,Bool.false_and]
   ·have hin:¬ inA xs[i]:=fun h=>h1 h.2
    rw [if_neg (by simp [h1]),decide_eq_false hin,Bool.false_and]
  ·have hin:¬ inA xs[i]:=fun h=>h0 h.1
   rw [if_neg (by simp [h0]),decide_eq_false hin,Bool.false_and]
theorem impl_isGraph_f (p0 p1:Int) (xs:List A) (hx:xs.length≤281474976710656) (k:Nat) (hk:xs.length + 3 < k):impl_isGraph.f k p0 p1 xs=some (chk none xs) :=
 impl_right p0 p1 xs hx xs.length 0 k (by omega) (by omega)
theorem key_lt (p x:A) (hp:inA p) (hx:inA x):(wrap64 (wrap64 (10 * p.f0) + p.f1)≥wrap64 (wrap64 (10 * x.f0) + x.f1))↔¬ ltA p x:=by
 unfold inA at hp hx
 unfold ltA
 obtain⟨⟨_,_⟩,_,_⟩:=hp
 obtain⟨⟨_,_⟩,_,_⟩:=hx
 rw [wrapS (n:=10 * p.f0) (by omega) (by omega),wrapS (n:=10 * x.f0) (by omega) (by omega),wrapS (n:=10 * p.f0 + p.f1) (by omega) (by omega),wrapS (n:=10 * x.f0 + x.f1) (by omega) (by omega)]
 omega
theorem spec_right (p0 p1:Int) (xs:List A) (hx:xs.length≤281474976710656):∀(d i k:Nat),i + d=xs.length→2 * d < k→(∀ p,pre xs i=some p→inA p) →
  z1_.l0 k (i:Int) p0 p1 xs=some (chk (pre xs i) (xs.drop i))
 | 0,i,k,hd,hk,_=>by
  obtain⟨k,rfl⟩:∃ m,k=m + 1:=⟨k - 1,by omega⟩
  rw [z1_.l0,if_neg (by omega),List.drop_of_length_le (by omega)]
  rfl
 | d + 1,i,k,hd,hk,hpr=>by
  obtain⟨k,rfl⟩:∃ m,k=m + 1 + 1:=⟨k - 2,by omega⟩
  have hi:i < xs.length:=by omega
  have hp:pre xs (i + 1)=some xs[i]:=List.getElem?_eq_getElem hi
  have ih:=spec_right p0 p1 xs hx d (i + 1) k (by omega) (by omega)
  rw [hp]at ih
  rw [z1_.l0,if_pos (by omega),if_pos (by omega),rd_get xs i hi,between_f,Option.bind_some,chk_drop xs _ i hi]
  by_cases h0:0≤xs[i].f0∧xs[i].f0≤5
  ·rw [if_pos (decide_eq_true h0),between_f,Option.bind_some,z1_.j1]
   by_cases h1:0≤xs[i].f1∧xs[i].f1≤5
   ·have hin:inA xs[i]:=⟨h0,h1⟩
    have ih2:=ih (fun p hp=>by cases hp;exact hin)
    rw [if_neg (by simp [h1]),decide_eq_true hin,Bool.true_and,step_i (by omega),ih2]
    cases i with
    | zero=>rw [if_neg (by omega)];rfl
    | succ j =>
     have hj:j < xs.length:=by omega
     have hq:pre xs (j + 1)=some xs[j]:=List.getElem?_eq_getElem hj
     rw [if_pos (by omega),wrap_back (by omega),if_pos (by omega),if_pos (by omega),rd_get xs j hj,hq]
     have hk:=key_lt xs[j] xs[j + 1] (hpr _ hq) hin
     show _=some (decide (ltA xs[j] xs[j + 1]) && _)
     by_cases hl:ltA xs[j] xs[j + 1]
     ·rw [if_neg (fun h=>hk.1 h hl),decide_eq_true hl,Bool.true_and]
     ·rw [if_pos (hk.2 hl),decide_eq_false hl,Bool.false_and]
   ·have hin:¬ inA xs[i]:=fun h=>h1 h.2
    rw [if_pos (by simp [h1]),decide_eq_false hin,Bool.false_and]
  ·have hin:¬ inA xs[i]:=fun h=>h0 h.1
   rw [if_neg (by simp [h0]),z1_.j1,if_pos rfl,decide_eq_false hin,Bool.false_and]
theorem spec_right_f (p0 p1:Int) (xs:List A) (hx:xs.length≤281474976710656) (k:Nat) (hk:2 * xs.length < k):z1_.f k p0 p1 xs=some (chk none xs) :=
 spec_right p0 p1 xs hx xs.length 0 k (by omega) hk (fun p hp=>by cases hp)
end Go.Proofs.Ytcckpjflbfofjaa.QGraphR
