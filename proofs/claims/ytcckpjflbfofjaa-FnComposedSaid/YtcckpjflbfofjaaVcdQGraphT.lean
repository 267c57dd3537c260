-- Cut by prune.py, a program of this session, out of the texts of this claim: Lean checks it.
import Derived.Test.YtcckpjflbfofjaaVcdQGraphS
import Derived.Test.YtcckpjflbfofjaaVcdQCompU
import Derived.Test.YtcckpjflbfofjaaVcdQComp
import Derived.Test.YtcckpjflbfofjaaVcdPdx11
import Derived.Test.YtcckpjflbfofjaaVcdPdx0
namespace Go.Proofs.Ytcckpjflbfofjaa.QGraphT
open Go.RowKit Go.Proofs.Ytcckpjflbfofjaa.Pd Go.Proofs.YtcckpjflbfofjaaW.PrintWords Go.Proofs.YtcckpjflbfofjaaW.PrintLast Go.Proofs.Ytcckpjflbfofjaa.QStr Go.Proofs.Ytcckpjflbfofjaa.QGraph Go.Proofs.Ytcckpjflbfofjaa.QGraphR Go.Proofs.Ytcckpjflbfofjaa.QGraphS Go.Proofs.Ytcckpjflbfofjaa.QCompU
/-- What Compose answers. -/
def compR (p0 p1 : Int) (xs : List A) (q0 q1 : Int) (ys : List A) : Int × Int × List A × Bool := if chk none xs = true ∧ chk none ys = true ∧ p1 = q0 then (p0,q1,compF xs ys,true) else (0,0,[],false)
theorem comp_f (p0 p1 : Int) (xs : List A) (q0 q1 : Int) (ys : List A) (hx : ∀ x ∈ xs,inA x) (hy : ∀ y ∈ ys,inA y) (lx : xs.length ≤ 1048576) (ly : ys.length ≤ 1048576) : impl_compose.f p0 p1 xs q0 q1 ys = some (p0,q1,compF xs ys) := by
 unfold impl_compose.f
 rw [if_pos]
 simp only [Bool.and_eq_true,List.all_eq_true,decide_eq_true_eq]
 exact ⟨hx,hy,lx,ly⟩
theorem impl_comp_f (p0 p1 : Int) (xs : List A) (q0 q1 : Int) (ys : List A) (lx : xs.length ≤ 1048576) (ly : ys.length ≤ 1048576) (k : Nat) (hk : 1048580 < k) : impl_Compose.f k p0 p1 xs q0 q1 ys = some (compR p0 p1 xs q0 q1 ys) := by
 unfold impl_Compose.f
 rw [impl_isGraph_f p0 p1 xs (by omega) k (by omega),Option.bind_some]
 by_cases h0 : chk none xs = true
 ·rw [if_pos h0,impl_isGraph_f q0 q1 ys (by omega) k (by omega),Option.bind_some]
  by_cases h1 : chk none ys = true
  ·rw [if_pos h1]
   by_cases h2 : q0 = p1
   ·rw [if_pos h2,comp_f p0 p1 xs q0 q1 ys (chk_in h0) (chk_in h1) lx ly,Option.bind_some,compR,if_pos ⟨h0,h1,h2.symm⟩]
   ·rw [if_neg h2,compR,if_neg (fun h => h2 h.2.2.symm)]
  ·rw [if_neg h1,compR,if_neg (fun h => h1 h.2.1)]
 ·rw [if_neg h0,compR,if_neg (fun h => h0 h.1)]
theorem spec_comp_f (p0 p1 : Int) (xs : List A) (q0 q1 : Int) (ys : List A) (lx : xs.length ≤ 1048576) (ly : ys.length ≤ 1048576) : ∃ K,∀ k,K ≤ k → z0_.f k p0 p1 xs q0 q1 ys = some (compR p0 p1 xs q0 q1 ys) := by
 obtain ⟨K,hK⟩ := spec_l0 p0 p1 xs q0 q1 ys (by omega) (by omega)
 refine ⟨K + 2097160,fun k hk => ?_⟩
 have hno : z0_.j0 k true p0 p1 xs q0 q1 ys = some (0,0,[],false) := by
  obtain ⟨k,rfl⟩ : ∃ m,k = m + 1 := ⟨k - 1,by omega⟩
  rw [z0_.j0,if_pos rfl]
 unfold z0_.f
 rw [spec_right_f p0 p1 xs (by omega) k (by omega),Option.bind_some]
 by_cases h0 : chk none xs = true
 ·rw [if_pos h0,spec_right_f q0 q1 ys (by omega) k (by omega),Option.bind_some]
  by_cases h1 : chk none ys = true
  ·rw [if_pos h1]
   by_cases h2 : p1 = q0
   ·rw [show (p1 != q0) = false by simp [h2],hK k (by omega),compR,if_pos ⟨h0,h1,h2⟩]
   ·rw [show (p1 != q0) = true by simp [h2],hno,compR,if_neg (fun h => h2 h.2.2)]
  ·rw [if_neg h1,hno,compR,if_neg (fun h => h1 h.2.1)]
 ·rw [if_neg h0,hno,compR,if_neg (fun h => h0 h.1)]
theorem comp_len (xs ys : List A) : (compF xs ys).length ≤ 36 := by
 have h := fun a => arcs_len xs ys a (row 0 6)
 have r6 : (row 0 6).length = 6 := rfl
 unfold compF
 rw [List.length_flatMap]
 have : ∀ l : List Int,(l.map fun a => ((row 0 6).filterMap (arc1 xs ys a)).length).sum ≤ 6 * l.length := by
  intro l
  induction l with
  | nil => simp
  | cons a l ih =>
   have := h a
   rw [List.map_cons,List.sum_cons,List.length_cons]
   omega
 have := this (row 0 6)
 rw [r6] at this
 omega
theorem compR_len (p0 p1 : Int) (xs : List A) (q0 q1 : Int) (ys : List A) : (compR p0 p1 xs q0 q1 ys).2.2.1.length ≤ 36 := by
 unfold compR
 split
 ·exact comp_len xs ys
 ·simp
end Go.Proofs.Ytcckpjflbfofjaa.QGraphT
