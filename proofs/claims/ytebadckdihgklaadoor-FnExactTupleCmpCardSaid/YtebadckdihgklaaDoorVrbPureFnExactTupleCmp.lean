-- Cut by prune.py, a program of this session, out of the texts of this claim: Lean checks it.
import Derived.Test.YtebadckdihgklaaDoorVrbPbx37
import Derived.Test.YtebadckdihgklaaDoorVrbQRel
import Derived.Test.YtebadckdihgklaaDoorVrbQLaw2
namespace Go.Proofs.YtebadckdihgklaaDoor.Pure
open Go.RowKit Go.Proofs.YtebadckdihgklaaDoor.Pb Go.Proofs.YtebadckdihgklaaDoorW.PrintWords Go.Proofs.YtebadckdihgklaaDoorW.PrintLast Go.Proofs.YtebadckdihgklaaDoor.QStr Go.Proofs.YtebadckdihgklaaDoor.QLaws Go.Proofs.YtebadckdihgklaaDoor.QLaw2 Go.Proofs.YtebadckdihgklaaDoor.QRel Go.Proofs.YtebadckdihgklaaDoor.QTup
theorem room_ofC {l : List ByteArray} (h : l.length ≤ maxLen ∧ l.length * 16 ≤ 140737488351232 ∧ ∀ x ∈ l, x.size ≤ 140737488351232) : Room l :=
  ⟨by omega, fun s hs => by have := h.2.2 s hs; omega⟩
noncomputable def tupCmp (a b : List ByteArray) : Int :=
  match isTup a with
  | none => 2
  | some p => match isTup b with
    | none => 2
    | some q => lcmp p q
theorem impl_tupCmp (a b : List ByteArray) (ha : ∀ x ∈ a, x.size ≤ 1048576) (hb : ∀ x ∈ b, x.size ≤ 1048576) (k : Nat) (hk : 4200000 < k) : impl_TupleCmp.f k a b = some (tupCmp a b) := by
  unfold impl_TupleCmp.f tupCmp
  rw [isTuple_f a ha k hk, Option.bind_some, isTuple_f b hb k hk]
  cases h1 : isTup a with
  | none => rw [Option.isSome_none, if_neg (by decide)]
  | some p =>
    obtain ⟨p1, p2, p3⟩ := isTup_iff.1 h1
    rw [Option.isSome_some, if_pos rfl, Option.bind_some]
    cases h2 : isTup b with
    | none => rw [Option.isSome_none, if_neg (by decide)]
    | some q =>
      obtain ⟨q1, q2, q3⟩ := isTup_iff.1 h2
      rw [Option.isSome_some, if_pos rfl, p3, q3, compareT_f p q p2 q2 (by omega) (by omega) k (by omega), Option.bind_some]
theorem spec_tupCmp (a b : List ByteArray) (ha : ∀ x ∈ a, x.size ≤ 1048576) (hb : ∀ x ∈ b, x.size ≤ 1048576) (k : Nat) (hk : 4200000 < k) : spec_TupleCmp.f k a b = some (tupCmp a b) := by
  unfold spec_TupleCmp.f tupCmp
  rw [tupleOk_f a ha k hk, Option.bind_some, tupleOk_f b hb k hk]
  cases h1 : isTup a with
  | none => rw [Option.isSome_none, if_neg (by decide)]
  | some p =>
    obtain ⟨p1, p2, p3⟩ := isTup_iff.1 h1
    rw [Option.isSome_some, if_pos rfl, Option.bind_some]
    cases h2 : isTup b with
    | none => rw [Option.isSome_none, if_neg (by decide)]
    | some q =>
      obtain ⟨q1, q2, q3⟩ := isTup_iff.1 h2
      rw [Option.isSome_some, if_pos rfl, p3, q3, l02Cmp_f p q p2 q2 (by omega) (by omega) k (by omega), Option.bind_some]
theorem FnExactTupleCmp : laws_FnExactTupleCmp.Pure := by
  intro x y hx hy
  obtain ⟨l⟩ := x
  obtain ⟨m⟩ := y
  have hr : Room l := room_ofC hx
  have hr2 : Room m := room_ofC hy
  obtain ⟨K, hK⟩ : ∃ K : Nat, K = 6000000 := ⟨_, rfl⟩
  refine ⟨K, ?_⟩
  unfold laws_FnExactTupleCmp.f
  obtain ⟨r, h1, h2, h3⟩ := szT_f l hr 1048576 (by omega) (by omega) K (by omega)
  simp only []
  rw [h1, Option.bind_some]
  by_cases h0 : r < 0
  · rw [if_pos h0]
  rw [if_neg h0]
  obtain ⟨q, g1, g2, g3⟩ := szT_f m hr2 r (by omega) (by omega) K (by omega)
  rw [g1, Option.bind_some]
  by_cases h0 : q < 0
  · rw [if_pos h0]
  rw [if_neg h0]
  have hf := h3 (by omega)
  have hg := g3 (by omega)
  rw [toT_f l hf K (by omega), Option.bind_some, toT_f m hg K (by omega), Option.bind_some, spec_tupCmp l m hf.2 hg.2 K (by omega), Option.bind_some, Option.bind_some, Option.bind_some, impl_tupCmp l m hf.2 hg.2 K (by omega), Option.bind_some, if_pos rfl, Option.bind_some, eqT_f l hf K (by omega), Option.bind_some, if_pos rfl, Option.bind_some, eqT_f m hg K (by omega), Option.bind_some, if_pos rfl]
end Go.Proofs.YtebadckdihgklaaDoor.Pure
