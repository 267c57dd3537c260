-- Cut by prune.py, a program of this session, out of the texts of this claim: Lean checks it.
import Derived.Test.YtebadckdihgklaaDoorVkPbx5
import Derived.Test.YtebadckdihgklaaDoorVkQPrs
import Derived.Test.YtebadckdihgklaaDoorVkQCur
import Derived.Test.YtebadckdihgklaaDoorVkPureFnExactTermNum
namespace Go.Proofs.YtebadckdihgklaaDoor.Pure
open Go.RowKit Go.Proofs.YtebadckdihgklaaDoor.Pb Go.Proofs.YtebadckdihgklaaDoorW.PrintWords Go.Proofs.YtebadckdihgklaaDoorW.PrintLast Go.Proofs.YtebadckdihgklaaDoor.QStr Go.Proofs.YtebadckdihgklaaDoor.QTm Go.Proofs.YtebadckdihgklaaDoor.QPrs Go.Proofs.YtebadckdihgklaaDoor.QCur Go.Proofs.YtebadckdihgklaaDoor.QImpl
theorem drawNum_f {l : List Int} (hl : Byt l) : ∃ v, spec_DrawNumTerm.f l = some v ∧ -9223372036854775808 ≤ v ∧ v ≤ 9223372036854775807 := by
  unfold spec_DrawNumTerm.f
  obtain ⟨s, ho, hc⟩ := open_f l
  rw [ho, Option.bind_some]
  obtain ⟨v, a1, s1, hv, hv0, hv1, hc1⟩ := raw_f hl hc (by omega)
  simp only []
  rw [hv, Option.bind_some, Option.bind_some]
  obtain ⟨y, a2, s2, hy, hy0, hy1, _, hc2⟩ := pick_f hl hc1 (by omega) 4
  have hy1 := hy1 (by omega)
  simp only []
  rw [hy, Option.bind_some]
  simp only []
  rw [if_pos hy0, if_pos (show y < (([v, 1000000, 1000001, -1000001] : List Int).length : Int) from hy1)]
  have hm := rd_mem [v, 1000000, 1000001, -1000001] y hy0 hy1
  refine ⟨_, rfl, ?_, ?_⟩ <;>
  · simp only [List.mem_cons, List.not_mem_nil, or_false] at hm
    omega
theorem FnNumbers : laws_FnNumbers.Pure := by
  intro l hl
  have hb := byt_of hl
  refine ⟨2000, ?_⟩
  unfold laws_FnNumbers.f laws_big.f
  rw [Option.bind_some]
  by_cases hbig : decide ((l.length : Int) > 1048576) = true
  · rw [if_pos hbig]
  rw [if_neg hbig]
  obtain ⟨v, hv, hv0, hv1⟩ := drawNum_f hb
  rw [hv, Option.bind_some]
  unfold impl_NumTerm.f
  rw [in_f, Option.bind_some]
  by_cases hr : -1000000 ≤ v ∧ v ≤ 1000000
  · rw [if_pos (by simp only [decide_eq_true_eq]; exact hr), QNum.itoa_f v hv0 hv1, Option.bind_some, Option.bind_some, show ((⟨(Lib.itoa v).toArray⟩ : ByteArray)) = B (Lib.itoa v) from rfl]
    have hsh := itoa_short v hr
    have hp : prs (Lib.itoa v) = some (.num v) := prs_some.2 ⟨(ok_num v).2 hr, rnd_num v, by omega⟩
    rw [termNum_f _ (by omega) 2000 (by omega), Option.bind_some, hp]
    simp only []
    rw [if_neg (by omega), if_neg (by omega), if_pos trivial, if_pos trivial]
    unfold impl_TermKind.f
    rw [kindOf_f _ (by omega) 2000 (by omega), hp]
    rfl
  · rw [if_neg (by simp only [decide_eq_true_eq]; exact hr), Option.bind_some, show ((⟨#[]⟩ : ByteArray)) = B [] from rfl, termNum_f [] (by simp) 2000 (by simp), Option.bind_some, prs_nil, toList_B]
    simp only []
    by_cases h1 : v > 1000000
    · rw [if_pos h1, if_pos trivial]
      rfl
    · rw [if_neg h1, if_pos (by omega), if_pos trivial]
      rfl
end Go.Proofs.YtebadckdihgklaaDoor.Pure
