-- Cut by prune.py, a program of this session, out of the texts of this claim: Lean checks it.
import Derived.Test.YtcckpjflbfofjaaVfaPdx9
import Derived.Test.YtcckpjflbfofjaaVfaPdx6
import Derived.Test.YtcckpjflbfofjaaVfaQGraphT
namespace Go.Proofs.Ytcckpjflbfofjaa.Pure
open Go.RowKit Go.Proofs.Ytcckpjflbfofjaa.Pd Go.Proofs.YtcckpjflbfofjaaW.PrintWords Go.Proofs.YtcckpjflbfofjaaW.PrintLast Go.Proofs.Ytcckpjflbfofjaa.QStr Go.Proofs.Ytcckpjflbfofjaa.QGraph Go.Proofs.Ytcckpjflbfofjaa.QGraphR Go.Proofs.Ytcckpjflbfofjaa.QGraphS Go.Proofs.Ytcckpjflbfofjaa.QCompU Go.Proofs.Ytcckpjflbfofjaa.QGraphT
/-- Some arc goes round, strictly. -/
def loopA (xs : List A) : Bool := xs.any fun x => x.f2 && (x.f0 == x.f1)
theorem spec_loop (p0 p1 : Int) (xs : List A) (hx : xs.length ≤ 1048576) : ∀ (d i k : Nat),i + d = xs.length → d < k → spec_Falls.l0 k (i : Int) p0 p1 xs = some (loopA (xs.drop i))
 | 0,i,k,hd,hk => by
  obtain ⟨k,rfl⟩ : ∃ m,k = m + 1 := ⟨k - 1,by omega⟩
  rw [spec_Falls.l0,if_neg (by omega),List.drop_of_length_le (by omega)]
  rfl
 | d + 1,i,k,hd,hk => by
  obtain ⟨k,rfl⟩ : ∃ m,k = m + 1 := ⟨k - 1,by omega⟩
  have hlt : i < xs.length := by omega
  rw [spec_Falls.l0,if_pos (by omega),if_pos (by omega),rd_get xs i hlt,step_i (by omega),spec_loop p0 p1 xs hx d (i + 1) k (by omega) (by omega),List.drop_eq_getElem_cons hlt]
  show _ = some ((xs[i].f2 && (xs[i].f0 == xs[i].f1)) || loopA (xs.drop (i + 1)))
  by_cases h1 : xs[i].f2 = true
  ·rw [if_pos h1,h1]
   by_cases h2 : xs[i].f0 = xs[i].f1
   ·rw [if_pos h2,beq_iff_eq.2 h2]
    rfl
   ·rw [if_neg h2,beq_eq_false_iff_ne.2 h2]
    rfl
  ·rw [if_neg h1,Bool.eq_false_iff.2 h1]
   rfl
theorem impl_loop (xs : List A) (hx : xs.length ≤ 1048576) : ∀ (d i k : Nat),i + d = xs.length → d < k → ∃ r,impl_Arc_impl_falls_1_60.l0 k xs (xs.length : Int) (i : Int) = some r ∧ decide (r ≥ 0) = loopA (xs.drop i)
 | 0,i,k,hd,hk => by
  obtain ⟨k,rfl⟩ : ∃ m,k = m + 1 := ⟨k - 1,by omega⟩
  rw [impl_Arc_impl_falls_1_60.l0,if_neg (by omega),List.drop_of_length_le (by omega)]
  exact ⟨_,rfl,rfl⟩
 | d + 1,i,k,hd,hk => by
  obtain ⟨k,rfl⟩ : ∃ m,k = m + 1 := ⟨k - 1,by omega⟩
  have hlt : i < xs.length := by omega
  obtain ⟨r,hr,hr2⟩ := impl_loop xs hx d (i + 1) k (by omega) (by omega)
  rw [impl_Arc_impl_falls_1_60.l0,if_pos (by omega),if_pos (by omega),if_pos (by omega),rd_get xs i hlt,step_i (by omega),hr,List.drop_eq_getElem_cons hlt]
  have e : loopA (xs[i] :: xs.drop (i + 1)) = ((xs[i].f2 && (xs[i].f0 == xs[i].f1)) || loopA (xs.drop (i + 1))) := rfl
  rw [e,impl_falls_1.f]
  by_cases h1 : xs[i].f2 = true
  ·rw [if_pos h1,Option.bind_some,h1,Bool.true_and]
   by_cases h2 : xs[i].f0 = xs[i].f1
   ·rw [beq_iff_eq.2 h2,if_pos rfl]
    exact ⟨_,rfl,by rw [Bool.true_or]; exact decide_eq_true (by omega)⟩
   ·rw [beq_eq_false_iff_ne.2 h2,if_neg (by decide)]
    exact ⟨_,rfl,by rw [Bool.false_or]; exact hr2⟩
  ·rw [if_neg h1,Option.bind_some,if_neg (by decide),Bool.eq_false_iff.2 h1]
   exact ⟨_,rfl,by rw [Bool.false_and,Bool.false_or]; exact hr2⟩
/-- What Falls answers. -/
def fallR (p0 p1 : Int) (xs : List A) : Bool := decide (chk none xs = true) && (!(decide (p0 = p1) && decide (compF xs xs = xs)) || loopA xs)
theorem impl_falls_f (p0 p1 : Int) (xs : List A) (hx : xs.length ≤ 1048576) (k : Nat) (hk : 1048600 < k) : impl_Falls.f k p0 p1 xs = some (fallR p0 p1 xs) := by
 unfold impl_Falls.f
 rw [impl_isGraph_f p0 p1 xs (by omega) k (by omega),Option.bind_some]
 by_cases h0 : chk none xs = true
 ·rw [if_pos h0]
  unfold impl_falls.f fallR
  rw [decide_eq_true h0,Bool.true_and]
  by_cases h1 : p0 = p1
  ·subst h1
   have hc := comp_len xs xs
   rw [if_pos rfl,comp_f p0 p0 xs p0 p0 xs (chk_in h0) (chk_in h0) hx hx,Option.bind_some,decide_eq_true rfl,Bool.true_and]
   simp only []
   rw [impl_same_f p0 p0 _ p0 p0 xs (by omega) k (by omega),Option.bind_some]
   by_cases h2 : compF xs xs = xs
   ·rw [if_pos (decide_eq_true ⟨rfl,rfl,h2⟩),decide_eq_true h2]
    obtain ⟨r,hr,hr2⟩ := impl_loop xs hx xs.length 0 k (by omega) (by omega)
    unfold impl_Arc_impl_falls_1.f impl_Arc_impl_falls_1_60.f
    rw [show (0 : Int) = ((0 : Nat) : Int) from rfl,hr,Option.bind_some,Option.bind_some,Option.bind_some]
    rw [List.drop_zero] at hr2
    rw [show decide (r ≥ ((0 : Nat) : Int)) = decide (r ≥ 0) from rfl,hr2]
    rfl
   ·rw [if_neg (fun h => h2 (of_decide_eq_true h).2.2),decide_eq_false h2]
    rfl
  ·rw [if_neg h1,decide_eq_false h1]
   rfl
 ·rw [if_neg h0]
  unfold fallR
  rw [decide_eq_false h0]
  rfl
theorem spec_falls_f (p0 p1 : Int) (xs : List A) (hx : xs.length ≤ 1048576) : ∃ K,∀ k,K ≤ k → spec_Falls.f k p0 p1 xs = some (fallR p0 p1 xs) := by
 obtain ⟨K,hK⟩ := spec_comp_f p0 p1 xs p0 p1 xs hx hx
 refine ⟨K + 2097160,fun k hk => ?_⟩
 have hyes : spec_Falls.j0 k true p0 p1 xs = some true := by
  obtain ⟨k,rfl⟩ : ∃ m,k = m + 1 := ⟨k - 1,by omega⟩
  rw [spec_Falls.j0,if_pos rfl]
 unfold spec_Falls.f fallR
 rw [spec_right_f p0 p1 xs (by omega) k (by omega),Option.bind_some]
 by_cases h0 : chk none xs = true
 ·rw [if_pos h0,hK k (by omega),Option.bind_some,decide_eq_true h0,Bool.true_and]
  by_cases h1 : p1 = p0
  ·subst h1
   have hc : compR p1 p1 xs p1 p1 xs = (p1,p1,compF xs xs,true) := by
    unfold compR
    exact if_pos ⟨h0,h0,rfl⟩
   rw [hc]
   simp only []
   rw [if_pos trivial,spec_same_f p1 p1 xs p1 p1 _ (by omega) k (by omega),Option.bind_some,show decide True = true from rfl,Bool.true_and]
   by_cases h2 : compF xs xs = xs
   ·rw [decide_eq_true ⟨rfl,rfl,h2.symm⟩,decide_eq_true h2]
    obtain ⟨k,rfl⟩ : ∃ m,k = m + 1 := ⟨k - 1,by omega⟩
    have := spec_loop p1 p1 xs hx xs.length 0 k (by omega) (by omega)
    rw [Bool.not_true,spec_Falls.j0,if_neg (by decide),show (0 : Int) = ((0 : Nat) : Int) from rfl,this,List.drop_zero]
    rfl
   ·rw [decide_eq_false (fun h => h2 h.2.2.symm),decide_eq_false h2,Bool.not_false,hyes]
    rfl
  ·have hc : compR p0 p1 xs p0 p1 xs = (0,0,[],false) := by
    unfold compR
    exact if_neg (fun h => h1 h.2.2)
   rw [hc,decide_eq_false (fun h => h1 h.symm)]
   simp only []
   rw [if_neg (by decide),hyes]
   rfl
 ·rw [if_neg h0,decide_eq_false h0]
  rfl
theorem FnExactFalls : laws_FnExactFalls.Pure := by
 intro x hx
 obtain ⟨p0,p1,l⟩ := x
 have hl : l.length ≤ 281474976710656 := by
  have h := hx.2.2.2.1
  simp only at h
  omega
 clear hx
 simp only []
 obtain ⟨r,h1,h2,h3⟩ := szG_f p0 p1 l hl 1048576 (by omega) (by omega)
 by_cases h0 : r < 0
 ·refine ⟨0, ?_⟩
  unfold laws_FnExactFalls.f
  rw [h1,Option.bind_some,if_pos h0]
 have fl := h3 (by omega)
 have fl2 : (l.map cvA).length ≤ 1048576 := by rw [List.length_map]; exact fl
 obtain ⟨K,hK⟩ := spec_falls_f p0 p1 (l.map cvA) fl2
 have hI := fun k hk => impl_falls_f p0 p1 (l.map cvA) fl2 k hk
 refine ⟨K + 4000000, ?_⟩
 unfold laws_FnExactFalls.f
 rw [h1,Option.bind_some,if_neg h0,toG_f p0 p1 l fl _ (by omega),Option.bind_some]
 simp only []
 rw [hK _ (by omega),Option.bind_some,Option.bind_some]
 simp only []
 rw [hI _ (by omega),Option.bind_some,bne_self_eq_false,if_neg (by decide),Option.bind_some]
 simp only []
 rw [eqG_f p0 p1 _ fl2 _ (by omega),Option.bind_some,if_pos rfl]
end Go.Proofs.Ytcckpjflbfofjaa.Pure
