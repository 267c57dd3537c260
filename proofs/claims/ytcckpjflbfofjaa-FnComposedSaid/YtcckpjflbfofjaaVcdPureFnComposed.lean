-- Cut by prune.py, a program of this session, out of the texts of this claim: Lean checks it.
import Derived.Test.YtcckpjflbfofjaaVcdPdx17
import Derived.Test.YtcckpjflbfofjaaVcdPdx11
import Derived.Test.YtcckpjflbfofjaaVcdQGraphT
import Derived.Test.YtcckpjflbfofjaaVcdQGraphD
import Derived.Test.YtcckpjflbfofjaaVcdQAssoc
namespace Go.Proofs.Ytcckpjflbfofjaa.Pure
open Go.RowKit Go.Proofs.Ytcckpjflbfofjaa.Pd Go.Proofs.YtcckpjflbfofjaaW.PrintWords Go.Proofs.YtcckpjflbfofjaaW.PrintLast Go.Proofs.Ytcckpjflbfofjaa.QStr Go.Proofs.Ytcckpjflbfofjaa.QCur Go.Proofs.Ytcckpjflbfofjaa.QGraph Go.Proofs.Ytcckpjflbfofjaa.QGraphR Go.Proofs.Ytcckpjflbfofjaa.QGraphS Go.Proofs.Ytcckpjflbfofjaa.QCompU Go.Proofs.Ytcckpjflbfofjaa.QGraphT Go.Proofs.Ytcckpjflbfofjaa.QGraphD Go.Proofs.Ytcckpjflbfofjaa.QAssoc
theorem sameL (xs : List A) (a b : Int) (hx : xs.length ≤ 1048576) : ∀ (d i k : Nat),i + d = xs.length → d < k → laws_sameGraph.l0 k (i : Int) a b xs a b xs = some true
 | 0,i,k,hd,hk => by
  obtain ⟨k,rfl⟩ : ∃ m,k = m + 1 := ⟨k - 1,by omega⟩
  rw [laws_sameGraph.l0,if_neg (by omega)]
 | d + 1,i,k,hd,hk => by
  obtain ⟨k,rfl⟩ : ∃ m,k = m + 1 := ⟨k - 1,by omega⟩
  rw [laws_sameGraph.l0,if_pos (by omega),if_pos (by omega),if_pos (by omega),if_neg (by simp),step_i (by omega),sameL xs a b hx d (i + 1) k (by omega) (by omega)]
theorem same_self (a b : Int) (xs : List A) (hx : xs.length ≤ 1048576) (k : Nat) (hk : 1048600 < k) : laws_sameGraph.f k a b xs a b xs = some true := by
 obtain ⟨k,rfl⟩ : ∃ m,k = m + 1 := ⟨k - 1,by omega⟩
 have h := sameL xs a b hx xs.length 0 k (by omega) (by omega)
 unfold laws_sameGraph.f
 rw [if_pos rfl,if_pos rfl,bne_self_eq_false,laws_sameGraph.j0,if_neg (by decide)]
 exact h
theorem draw_up (l : List Int) {v : Int × Int × List A × Int × Int × List A} (h : spec_DrawCompose.f 21 l = some v) : ∀ d,spec_DrawCompose.f (21 + d) l = some v
 | 0 => h
 | d + 1 => spec_DrawCompose.mono l (21 + d) v (draw_up l h d)
theorem draw_all (l : List Int) {v : Int × Int × List A × Int × Int × List A} (h : spec_DrawCompose.f 21 l = some v) (k : Nat) (hk : 20 < k) : spec_DrawCompose.f k l = some v := by
 have := draw_up l h (k - 21)
 rwa [show 21 + (k - 21) = k by omega] at this
theorem FnComposed : laws_FnComposed.Pure := by
 intro l m hl hm
 have b0 := byt_of hl
 have b1 := byt_of hm
 clear hl hm
 obtain ⟨p0,p1,xs,q0,q1,ys,hd0,lx,ly⟩ : ∃ p0 p1 xs q0 q1 ys,(∀ k,20 < k → spec_DrawCompose.f k l = some (p0,p1,xs,q0,q1,ys)) ∧ xs.length ≤ 10 ∧ ys.length ≤ 10 := by
  obtain ⟨p0,p1,xs,q0,q1,ys,h1,h2,h3⟩ := draw_f b0 21 (by omega)
  exact ⟨p0,p1,xs,q0,q1,ys,fun k hk => draw_all l h1 k hk,h2,h3⟩
 obtain ⟨s0,s1,zs,t0,t1,us,hd1,lz,_⟩ : ∃ p0 p1 xs q0 q1 ys,(∀ k,20 < k → spec_DrawCompose.f k m = some (p0,p1,xs,q0,q1,ys)) ∧ xs.length ≤ 10 ∧ ys.length ≤ 10 := by
  obtain ⟨p0,p1,xs,q0,q1,ys,h1,h2,h3⟩ := draw_f b1 21 (by omega)
  exact ⟨p0,p1,xs,q0,q1,ys,fun k hk => draw_all m h1 k hk,h2,h3⟩
 obtain ⟨K,hK⟩ := spec_comp_f p0 p1 xs q0 q1 ys (by omega) (by omega)
 have hn := compR_len p0 p1 xs q0 q1 ys
 have hn2 := compR_len q0 q1 ys s0 s1 zs
 refine ⟨K + 4000000 + 1 + 1 + 1, ?_⟩
 generalize hQ : K + 4000000 = Q
 have hyes : ∀ k,laws_FnComposed.j0 (k + 1) l m true = some true := fun k => by rw [laws_FnComposed.j0,if_pos rfl]
 unfold laws_FnComposed.f laws_big.f
 rw [Option.bind_some]
 by_cases h0 : decide ((l.length : Int) > 1048576) = true
 ·rw [if_pos h0,hyes]
 rw [if_neg h0,Option.bind_some]
 by_cases h1 : decide ((m.length : Int) > 1048576) = true
 ·rw [h1,hyes]
 rw [Bool.eq_false_iff.2 h1,laws_FnComposed.j0,if_neg (by decide),hd0 _ (by omega),Option.bind_some,hd1 _ (by omega),Option.bind_some]
 simp only []
 rw [impl_comp_f p0 p1 xs q0 q1 ys (by omega) (by omega) _ (by omega),Option.bind_some,impl_comp_f q0 q1 ys s0 s1 zs (by omega) (by omega) _ (by omega),Option.bind_some,hK _ (by omega),Option.bind_some,bne_self_eq_false,if_neg (by decide)]
 rw [same_self _ _ _ (by omega) _ (by omega),Option.bind_some,Bool.not_true,laws_FnComposed.j1,if_neg (by decide)]
 have hno : ∀ a0 a1 a2 a3 a4 a5 a6 a7 a8 a9 a10 a11,laws_FnComposed.j2 (Q + 1) true a0 a1 a2 a3 a4 a5 a6 a7 a8 a9 a10 a11 = some true := fun a0 a1 a2 a3 a4 a5 a6 a7 a8 a9 a10 a11 => by rw [laws_FnComposed.j2,if_pos rfl]
 by_cases h2 : chk none xs = true ∧ chk none ys = true ∧ p1 = q0
 ·by_cases h3 : chk none ys = true ∧ chk none zs = true ∧ q1 = s0
  ·obtain ⟨c0,c1,rfl⟩ := h2
   obtain ⟨_,c2,rfl⟩ := h3
   have e1 : compR p0 p1 xs p1 q1 ys = (p0,q1,compF xs ys,true) := if_pos ⟨c0,c1,rfl⟩
   have e2 : compR p1 q1 ys q1 s1 zs = (p1,s1,compF ys zs,true) := if_pos ⟨c1,c2,rfl⟩
   have e3 : compR p0 q1 (compF xs ys) q1 s1 zs = (p0,s1,compF (compF xs ys) zs,true) := if_pos ⟨chk_comp _ _,c2,rfl⟩
   have e4 : compR p0 p1 xs p1 s1 (compF ys zs) = (p0,s1,compF xs (compF ys zs),true) := if_pos ⟨c0,chk_comp _ _,rfl⟩
   have l1 := comp_len xs ys
   have l2 := comp_len ys zs
   have l3 := comp_len xs (compF ys zs)
   rw [e1,e2]
   simp only []
   rw [if_pos trivial,Bool.not_true,laws_FnComposed.j2,if_neg (by decide),impl_comp_f p0 q1 (compF xs ys) q1 s1 zs (by omega) (by omega) _ (by omega),Option.bind_some,impl_comp_f p0 p1 xs p1 s1 (compF ys zs) (by omega) (by omega) _ (by omega),Option.bind_some,e3,e4]
   simp only []
   rw [if_pos trivial,if_pos trivial,assoc (chk_in c0) (chk_in c1) (chk_in c2),same_self _ _ _ (by omega) _ (by omega),Option.bind_some]
  ·have e2 : compR q0 q1 ys s0 s1 zs = (0,0,[],false) := if_neg h3
   have e1 : compR p0 p1 xs q0 q1 ys = (p0,q1,compF xs ys,true) := if_pos h2
   rw [e1,e2]
   simp only []
   rw [if_pos trivial,Bool.not_false,hno]
 ·have e1 : compR p0 p1 xs q0 q1 ys = (0,0,[],false) := if_neg h2
  rw [e1]
  simp only []
  rw [if_neg (by decide),hno]
end Go.Proofs.Ytcckpjflbfofjaa.Pure
