-- Cut by prune.py, a program of this session, out of the texts of this claim: Lean checks it.
import Derived.Test.YtcckpjflbfofjaaVcePdx13
import Derived.Test.YtcckpjflbfofjaaVceQGraphM
namespace Go.Proofs.Ytcckpjflbfofjaa.Pure
open Go.RowKit Go.Proofs.Ytcckpjflbfofjaa.Pd Go.Proofs.YtcckpjflbfofjaaW.PrintWords Go.Proofs.YtcckpjflbfofjaaW.PrintLast Go.Proofs.Ytcckpjflbfofjaa.QStr Go.Proofs.Ytcckpjflbfofjaa.QGraph Go.Proofs.Ytcckpjflbfofjaa.QGraphT Go.Proofs.Ytcckpjflbfofjaa.QGraphM
theorem FnExactCompose : laws_FnExactCompose.Pure := by
 intro x y hx hy
 obtain ⟨p0,p1,l⟩ := x
 obtain ⟨q0,q1,m⟩ := y
 have hl : l.length ≤ 281474976710656 := by
  have h := hx.2.2.2.1
  simp only at h
  omega
 have hm : m.length ≤ 281474976710656 := by
  have h := hy.2.2.2.1
  simp only at h
  omega
 clear hx hy
 simp only []
 obtain ⟨r,h1,h2,h3⟩ := szG_f p0 p1 l hl 1048576 (by omega) (by omega)
 by_cases h0 : r < 0
 ·refine ⟨0, ?_⟩
  unfold laws_FnExactCompose.f
  rw [h1,Option.bind_some,if_pos h0]
 obtain ⟨r2,g1,g2,g3⟩ := szG_f q0 q1 m hm r (by omega) (by omega)
 by_cases h4 : r2 < 0
 ·refine ⟨0, ?_⟩
  unfold laws_FnExactCompose.f
  rw [h1,Option.bind_some,if_neg h0,g1,Option.bind_some,if_pos h4]
 have fl := h3 (by omega)
 have fm := g3 (by omega)
 have fl2 : (l.map cvA).length ≤ 1048576 := by rw [List.length_map]; exact fl
 have fm2 : (m.map cvA).length ≤ 1048576 := by rw [List.length_map]; exact fm
 obtain ⟨K,hK⟩ := spec_comp_f p0 p1 (l.map cvA) q0 q1 (m.map cvA) fl2 fm2
 have hI := fun k hk => impl_comp_f p0 p1 (l.map cvA) q0 q1 (m.map cvA) fl2 fm2 k hk
 have hn := compR_len p0 p1 (l.map cvA) q0 q1 (m.map cvA)
 generalize compR p0 p1 (l.map cvA) q0 q1 (m.map cvA) = c at hK hI hn
 obtain ⟨c0,c1,cs,cb⟩ := c
 simp only at hn
 have hT := fun k hk => toG_f p0 p1 l fl k hk
 have hU := fun k hk => toG_f q0 q1 m fm k hk
 have hE := fun k hk => eqG_f c0 c1 cs (by omega) k hk
 have hEl := fun k hk => eqG_f p0 p1 (l.map cvA) fl2 k hk
 have hEm := fun k hk => eqG_f q0 q1 (m.map cvA) fm2 k hk
 have hM1 := fun k hk => markG_f p0 p1 (l.map cvA) 1 fl2 (by omega) k hk
 have hM2 := fun k hk => markG_f q0 q1 (m.map cvA) (1 + 3 * (l.map cvA).length) fm2 (by omega) k hk
 have hM3 := fun k hk => markG_f c0 c1 cs 1 (by omega) (by omega) k hk
 have hH := fun k hk => heldG_f c0 c1 cs 1 (by omega) (by omega) k hk
 have e1 : ((1 : Nat) : Int) = 1 := rfl
 rw [e1] at hM1 hM3 hH
 refine ⟨K + 4000000 + 1 + 1 + 1, ?_⟩
 generalize hQ : K + 4000000 = Q at *
 unfold laws_FnExactCompose.f
 rw [h1,Option.bind_some,if_neg h0,g1,Option.bind_some,if_neg h4,hT _ (by omega),Option.bind_some,hU _ (by omega),Option.bind_some]
 simp only []
 rw [hK _ (by omega),Option.bind_some,Option.bind_some,Option.bind_some]
 simp only []
 rw [hI _ (by omega),Option.bind_some]
 simp only []
 rw [hE _ (by omega),Option.bind_some,if_pos rfl,bne_self_eq_false,laws_FnExactCompose.j0,if_neg (by decide),hT _ (by omega),Option.bind_some]
 simp only []
 rw [hEl _ (by omega),Option.bind_some,if_pos rfl,hU _ (by omega),Option.bind_some]
 simp only []
 rw [hEm _ (by omega),Option.bind_some,if_pos rfl,hM1 _ (by omega),Option.bind_some]
 simp only []
 rw [hM2 _ (by omega),Option.bind_some]
 simp only []
 rw [if_neg (by omega),hE _ (by omega),Option.bind_some,if_pos rfl,bne_self_eq_false,laws_FnExactCompose.j1,if_neg (by decide),hM3 _ (by omega),Option.bind_some]
 simp only []
 rw [hH _ (by omega),Option.bind_some,if_neg (by omega),if_pos rfl,hT _ (by omega),Option.bind_some,hU _ (by omega),Option.bind_some]
 simp only []
 rw [hI _ (by omega),Option.bind_some]
 simp only []
 rw [hE _ (by omega),Option.bind_some,if_pos rfl,bne_self_eq_false,laws_FnExactCompose.j2,if_neg (by decide),hH _ (by omega),Option.bind_some,if_neg (by omega),if_pos rfl]
end Go.Proofs.Ytcckpjflbfofjaa.Pure
