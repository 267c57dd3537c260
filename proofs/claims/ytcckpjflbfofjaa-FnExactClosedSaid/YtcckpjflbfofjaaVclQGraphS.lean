-- Cut by prune.py, a program of this session, out of the texts of this claim: Lean checks it.
import Derived.Test.YtcckpjflbfofjaaVclQGraph
import Derived.Test.YtcckpjflbfofjaaVclPdx8
import Derived.Test.YtcckpjflbfofjaaVclPdx4
import Derived.Test.YtcckpjflbfofjaaVclPdx0
namespace Go.Proofs.Ytcckpjflbfofjaa.QGraphS
open Go.RowKit Go.Proofs.Ytcckpjflbfofjaa.Pd Go.Proofs.YtcckpjflbfofjaaW.PrintWords Go.Proofs.YtcckpjflbfofjaaW.PrintLast Go.Proofs.Ytcckpjflbfofjaa.QStr Go.Proofs.Ytcckpjflbfofjaa.QGraph
instance:DecidableEq A:=fun x y=>decidable_of_iff (x.f0=y.f0∧x.f1=y.f1∧x.f2=y.f2) (by
 cases x
 cases y
 simp)
theorem ne_of (x y:A):((!(x.f0 == y.f0) || (!(x.f1 == y.f1) || (!(x.f2 == y.f2))))=true)↔x≠y:=by
 obtain⟨a,b,c⟩:=x
 obtain⟨d,e,f⟩:=y
 simp only [Bool.or_eq_true,Bool.not_eq_true',beq_eq_false_iff_ne,ne_eq,S53.mk.injEq]
 constructor
 ·rintro(h|h|h) ⟨h1,h2,h3⟩
  ·exact h h1
  ·exact h h2
  ·exact h h3
 ·intro h
  by_cases h1:a=d
  ·by_cases h2:b=e
   ·exact Or.inr (Or.inr fun h3=>h ⟨h1,h2,h3⟩)
   ·exact Or.inr (Or.inl h2)
  ·exact Or.inl h1
/-- A loop that compares two rows, element by element. -/
theorem gsame (l0:Nat→List A→List A→Int→Option Bool) (n:List A→Nat)
  (h0:∀ k xs ys i,xs.length=ys.length→l0 (k + 1) xs ys i=if i < (xs.length:Int)then(if 0≤i then(if i < (ys.length:Int)then(if y15 xs i≠y15 ys i then some false else l0 k xs ys (wrap64 (i + 1)))else none)else none)else some true)
  (xs ys:List A) (hl:xs.length=ys.length) (hx:xs.length≤281474976710656):∀(d i k:Nat),i + d=xs.length→d < k→l0 k xs ys (i:Int)=some (decide (xs.drop i=ys.drop i))
 | 0,i,k,hd,hk=>by
  obtain⟨k,rfl⟩:∃ m,k=m + 1:=⟨k - 1,by omega⟩
  rw [h0 _ _ _ _ hl,if_neg (by omega),List.drop_of_length_le (by omega),List.drop_of_length_le (by omega)]
  simp
 | d + 1,i,k,hd,hk=>by
  obtain⟨k,rfl⟩:∃ m,k=m + 1:=⟨k - 1,by omega⟩
  have hi:i < xs.length:=by omega
  have hj:i < ys.length:=by omega
  rw [h0 _ _ _ _ hl,if_pos (by omega),if_pos (by omega),if_pos (by omega),rd_get xs i hi,rd_get ys i hj,step_i (by omega),gsame l0 n h0 xs ys hl hx d (i + 1) k (by omega) (by omega),List.drop_eq_getElem_cons hi,List.drop_eq_getElem_cons hj]
  by_cases h:xs[i]=ys[i]
  ·rw [if_neg (fun h2=>h2 h),h]
   exact congrArg some (decide_eq_decide.2 ⟨fun e=>by rw [e],fun e=>(List.cons.inj e).2⟩)
  ·rw [if_pos h,decide_eq_false (fun e=>h (List.cons.inj e).1)]
theorem impl_same_f (a0 a1:Int) (xs:List A) (b0 b1:Int) (ys:List A) (hx:xs.length≤281474976710656) (k:Nat) (hk:xs.length < k) :
  impl_sameGraph.f k a0 a1 xs b0 b1 ys=some (decide (a0=b0∧a1=b1∧xs=ys)):=by
 unfold impl_sameGraph.f
 by_cases h0:a0=b0
 ·by_cases h1:a1=b1
  ·rw [if_pos h0,if_pos h1]
   unfold impl_Arc_59.f
   by_cases hl:xs.length=ys.length
   ·rw [if_pos (by omega)]
    have h:=gsame (fun k xs ys i=>impl_Arc_59.l0 k xs ys (xs.length:Int) i) (fun _=>0) (fun k xs ys i hl2=>by
     show impl_Arc_59.l0 (k + 1) xs ys (xs.length:Int) i=_
     rw [impl_Arc_59.l0]
     by_cases c1:i < (xs.length:Int)
     ·rw [if_pos c1,if_pos c1]
      by_cases c2:0≤i
      ·rw [if_pos c2,if_pos c2,if_pos c1]
       by_cases c3:i < (ys.length:Int)
       ·rw [if_pos c3,if_pos c3]
        by_cases c4:y15 xs i≠y15 ys i
        ·rw [if_pos c4,if_pos ((ne_of _ _).2 c4)]
        ·rw [if_neg c4,if_neg (fun h=>c4 ((ne_of _ _).1 h))]
       ·rw [if_neg c3,if_neg c3]
      ·rw [if_neg c2,if_neg c2,if_pos c1]
     ·rw [if_neg c1,if_neg c1]) xs ys hl hx xs.length 0 k (by omega) hk
    have h':impl_Arc_59.l0 k xs ys (xs.length:Int) 0=some (decide (xs=ys)):=h
    rw [h',Option.bind_some]
    simp [h0,h1]
   ·rw [if_neg (by omega),Option.bind_some]
    have:xs≠ys:=fun h=>hl (by rw [h])
    simp [this]
  ·rw [if_pos h0,if_neg h1]
   simp [h1]
 ·rw [if_neg h0]
  simp [h0]
theorem spec_same_f (a0 a1:Int) (xs:List A) (b0 b1:Int) (ys:List A) (hx:xs.length≤281474976710656) (k:Nat) (hk:xs.length + 1 < k) :
  spec_l08Same.f k a0 a1 xs b0 b1 ys=some (decide (a0=b0∧a1=b1∧xs=ys)):=by
 obtain⟨k,rfl⟩:∃ m,k=m + 1:=⟨k - 1,by omega⟩
 unfold spec_l08Same.f
 rw [spec_l08Same.j0,spec_l08Same.j0]
 by_cases h0:a0=b0
 ·by_cases h1:a1=b1
  ·rw [if_pos h0,if_pos h1]
   by_cases hl:xs.length=ys.length
   ·rw [if_neg (by simp [hl])]
    have h:=gsame (fun k xs ys i=>spec_l08Same.l0 k i a0 a1 xs b0 b1 ys) (fun _=>0) (fun k xs ys i hl2=>by
     show spec_l08Same.l0 (k + 1) i a0 a1 xs b0 b1 ys=_
     rw [spec_l08Same.l0]
     by_cases c1:i < (xs.length:Int)
     ·rw [if_pos c1,if_pos c1]
      by_cases c2:0≤i
      ·rw [if_pos c2,if_pos c2]
       by_cases c3:i < (ys.length:Int)
       ·rw [if_pos c3,if_pos c3]
        by_cases c4:y15 xs i≠y15 ys i
        ·rw [if_pos c4,if_pos ((ne_of _ _).2 c4)]
        ·rw [if_neg c4,if_neg (fun h=>c4 ((ne_of _ _).1 h))]
       ·rw [if_neg c3,if_neg c3]
      ·rw [if_neg c2,if_neg c2]
     ·rw [if_neg c1,if_neg c1]) xs ys hl hx xs.length 0 k (by omega) (by omega)
    have h':spec_l08Same.l0 k 0 a0 a1 xs b0 b1 ys=some (decide (xs=ys)):=h
    rw [h']
    simp [h0,h1]
   ·rw [if_pos (by simp;omega)]
    have:xs≠ys:=fun h=>hl (by rw [h])
    simp [this]
  ·rw [if_pos h0,if_neg h1,if_pos rfl]
   simp [h1]
 ·rw [if_neg h0,if_pos rfl]
  simp [h0]
end Go.Proofs.Ytcckpjflbfofjaa.QGraphS
