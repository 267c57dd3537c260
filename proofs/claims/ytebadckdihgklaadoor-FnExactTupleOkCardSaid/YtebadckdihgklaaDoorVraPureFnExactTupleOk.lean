-- Cut by prune.py, a program of this session, out of the texts of this claim: Lean checks it.
import Derived.Test.YtebadckdihgklaaDoorVraPbx34
import Derived.Test.YtebadckdihgklaaDoorVraQRel
import Derived.Test.YtebadckdihgklaaDoorVraQLaw2
namespace Go.Proofs.YtebadckdihgklaaDoor.Pure
open Go.RowKit Go.Proofs.YtebadckdihgklaaDoor.Pb Go.Proofs.YtebadckdihgklaaDoorW.PrintWords Go.Proofs.YtebadckdihgklaaDoorW.PrintLast Go.Proofs.YtebadckdihgklaaDoor.QStr Go.Proofs.YtebadckdihgklaaDoor.QLaws Go.Proofs.YtebadckdihgklaaDoor.QLaw2 Go.Proofs.YtebadckdihgklaaDoor.QRel
theorem room_of {l : List ByteArray} (h : l.length ≤ maxLen ∧ l.length * 16 ≤ 140737488351232 ∧ ∀ x ∈ l, x.size ≤ 140737488351232) : Room l :=
  ⟨by omega, fun s hs => by have := h.2.2 s hs; omega⟩
theorem FnExactTupleOk : laws_FnExactTupleOk.Pure := by
  intro x hx
  obtain ⟨l⟩ := x
  have hr : Room l := room_of hx
  obtain ⟨K, hK⟩ : ∃ K : Nat, K = 6000000 := ⟨_, rfl⟩
  refine ⟨K, ?_⟩
  unfold laws_FnExactTupleOk.f
  obtain ⟨r, h1, h2, h3⟩ := szT_f l hr 1048576 (by omega) (by omega) K (by omega)
  simp only []
  rw [h1, Option.bind_some]
  by_cases h0 : r < 0
  · rw [if_pos h0]
  rw [if_neg h0]
  have hf := h3 (by omega)
  unfold impl_TupleOk.f
  rw [toT_f l hf K (by omega), Option.bind_some, tupleOk_f l hf.2 K (by omega), Option.bind_some, Option.bind_some, isTuple_f l hf.2 K (by omega), Option.bind_some, Option.bind_some, bne_self_eq_false, if_neg (by decide), Option.bind_some, eqT_f l hf K (by omega), Option.bind_some, if_pos rfl]
end Go.Proofs.YtebadckdihgklaaDoor.Pure
