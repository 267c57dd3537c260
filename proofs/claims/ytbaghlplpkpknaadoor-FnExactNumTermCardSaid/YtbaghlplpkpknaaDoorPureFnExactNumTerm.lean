/- For every int of 64 bits NumTerm of the program is NumTerm of the reference. The tables of Go's library are taken as the program's text lays them (the card ties them). -/
import Derived.Test.YtbaghlplpkpknaaDoorPnx1
import Derived.Test.YtbaghlplpkpknaaDoorQNum
namespace Go.Proofs.YtbaghlplpkpknaaDoor.Pure
open Go.RowKit Go.Proofs.YtbaghlplpkpknaaDoor.Pn Go.Proofs.YtbaghlplpkpknaaDoorW.PrintWords Go.Proofs.YtbaghlplpkpknaaDoorW.PrintLast
theorem FnExactNumTerm : laws_FnExactNumTerm.Pure := by
  intro n hw
  obtain ⟨h1, h2⟩ := bounds_i64 hw
  refine ⟨20, ?_⟩
  unfold laws_FnExactNumTerm.f impl_NumTerm.f spec_NumTerm.f impl_in.f spec_l01Between.f
  rw [QNum.numText n h1 h2 20 (by omega), QNum.itoa_f n h1 h2]
  by_cases ha : n ≥ -1000000
  · rw [if_pos ha]
    simp only [Option.bind_some]
    by_cases hb : n ≤ 1000000
    · simp [hb]
    · simp [hb]
  · rw [if_neg ha]
    simp
end Go.Proofs.YtbaghlplpkpknaaDoor.Pure
