-- Cut by prune.py, a program of this session, out of the texts of this claim: Lean checks it.
import Derived.Test.YtebadckdihgklaaDoorVmPbx6
import Derived.Test.YtebadckdihgklaaDoorVmQMake
namespace Go.Proofs.YtebadckdihgklaaDoor.Pure
open Go.RowKit Go.Proofs.YtebadckdihgklaaDoor.Pb Go.Proofs.YtebadckdihgklaaDoorW.PrintWords Go.Proofs.YtebadckdihgklaaDoorW.PrintLast Go.Proofs.YtebadckdihgklaaDoor.QStr Go.Proofs.YtebadckdihgklaaDoor.QLaws Go.Proofs.YtebadckdihgklaaDoor.QMake
theorem FnExactTermMake : laws_FnExactTermMake.Pure := by
  intro a l ha hl
  refine ⟨900002000, ?_⟩
  unfold laws_FnExactTermMake.f
  by_cases hb : (a.size : Int) > 1048576
  · rw [if_pos hb]
  rw [if_neg hb]
  by_cases hbig : l.length ≤ 1048576
  · obtain ⟨r, hr, hrs⟩ := szS_f l (by omega) (fun s hs => by have : s.size ≤ 140737488351232 := hl.2.2 s hs; omega) 900002000 (by omega)
    rw [hr, Option.bind_some]
    by_cases h0 : r < 0
    · rw [if_pos h0]
    rw [if_neg h0]
    obtain ⟨h1, h2⟩ := hrs (by omega)
    have hs : (L a).length = a.size := L_length a
    have e : l = (l.map L).map B := by
      rw [List.map_map]
      have : (B ∘ L) = id := by funext s; exact B_L s
      rw [this, List.map_id]
    have hq : ∀ q ∈ l.map L, q.length ≤ 1048576 := by
      intro q hm
      obtain ⟨s, hs, rfl⟩ := List.mem_map.1 hm
      exact h2 s hs
    have h3 := spec_make_f (L a) (l.map L) (by omega) (by rw [List.length_map]; exact h1) hq 900002000 (by omega)
    have h4 := impl_make_f (L a) (l.map L) (by omega) (by rw [List.length_map]; exact h1) hq 900002000 (by omega)
    rw [← e, B_L] at h3 h4
    rw [toS_f l (by omega) 900002000 (by omega), Option.bind_some, h3, Option.bind_some, Option.bind_some, h4, Option.bind_some, if_pos rfl, bne_self_eq_false]
    rw [laws_FnExactTermMake.j0, if_neg (by decide), toS_f l (by omega) 900001999 (by omega), Option.bind_some, eqS_f l (by omega) 900001999 (by omega), Option.bind_some, if_pos rfl]
  · have hlen : l.length ≤ maxLen ∧ l.length * 16 ≤ 140737488351232 := ⟨hl.1, hl.2.1⟩
    have : laws_szStringS.f 900002000 l 1048576 = some (-1) := by
      unfold laws_szStringS.f
      rw [wrapS (by omega) (by omega), if_pos (by omega)]
    rw [this, Option.bind_some, if_pos (by decide)]
end Go.Proofs.YtebadckdihgklaaDoor.Pure
