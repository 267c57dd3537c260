-- Cut by prune.py, a program of this session, out of the texts of this claim: Lean checks it.
import Derived.Test.YtebadckdihgklaaDoorVrdPbx41
import Derived.Test.YtebadckdihgklaaDoorVrdQRel
import Derived.Test.YtebadckdihgklaaDoorVrdQLaw3
namespace Go.Proofs.YtebadckdihgklaaDoor.Pure
open Go.RowKit Go.Proofs.YtebadckdihgklaaDoor.Pb Go.Proofs.YtebadckdihgklaaDoorW.PrintWords Go.Proofs.YtebadckdihgklaaDoorW.PrintLast Go.Proofs.YtebadckdihgklaaDoor.QStr Go.Proofs.YtebadckdihgklaaDoor.QLaws Go.Proofs.YtebadckdihgklaaDoor.QLaw2 Go.Proofs.YtebadckdihgklaaDoor.QLaw3 Go.Proofs.YtebadckdihgklaaDoor.QRel
theorem FnExactRelOk : laws_FnExactRelOk.Pure := by
 intro x hx
 obtain ⟨ar,l⟩ := x
 have hr : RoomR l := by
  obtain ⟨h1,h2,h3,h4⟩ := hx
  refine ⟨by simp only at h2 h3; omega,fun a ha => ?_⟩
  have h5 := h4 a ha
  obtain ⟨h6,h7,h8⟩ := h5
  exact ⟨by omega,fun s hs => by have : s.size ≤ 140737488351232 := h8 s hs; omega⟩
 obtain ⟨K,hK⟩ : ∃ K : Nat,K = 6000000 := ⟨_,rfl⟩
 refine ⟨K, ?_⟩
 unfold laws_FnExactRelOk.f
 obtain ⟨r,h1,h2,h3⟩ := szR_f ar l hr 1048576 (by omega) (by omega) K (by omega)
 simp only []
 rw [h1,Option.bind_some]
 by_cases h0 : r < 0
 ·rw [if_pos h0]
 rw [if_neg h0]
 have hf := h3 (by omega)
 have hi := few_cv hf
 have hs : ∀ r ∈ l.map cv,∀ x ∈ r.f0,x.size ≤ 1048576 := fun r hr => (hi.2 r hr).2
 unfold impl_RelOk.f
 rw [toR_f ar l hf K (by omega),Option.bind_some]
 simp only []
 rw [relOk_f ar _ hs K (by omega),Option.bind_some,Option.bind_some]
 simp only []
 rw [isRel_f ar _ hs K (by omega),Option.bind_some,Option.bind_some,bne_self_eq_false,if_neg (by decide),Option.bind_some]
 simp only []
 rw [eqR_f ar _ hi K (by omega),Option.bind_some,if_pos rfl]
end Go.Proofs.YtebadckdihgklaaDoor.Pure
