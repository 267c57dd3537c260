/- For every int of 64 bits NumText of the program is NumText of the reference. The tables of Go's library are taken as the program's text lays them (the card ties them). -/
import Derived.Test.YtbaghlplpkpknaaDoorPnx1
import Derived.Test.YtbaghlplpkpknaaDoorQNum
namespace Go.Proofs.YtbaghlplpkpknaaDoor.Pure
open Go.RowKit Go.Proofs.YtbaghlplpkpknaaDoor.Pn Go.Proofs.YtbaghlplpkpknaaDoorW.PrintWords Go.Proofs.YtbaghlplpkpknaaDoorW.PrintLast
theorem FnExactNumText : laws_FnExactNumText.Pure := by
  intro n hw
  obtain ⟨h1, h2⟩ := bounds_i64 hw
  refine ⟨20, ?_⟩
  unfold laws_FnExactNumText.f impl_NumText.f
  rw [QNum.numText n h1 h2 20 (by omega), QNum.itoa_f n h1 h2]
  simp only [Option.bind_some]
  rw [if_pos trivial]
end Go.Proofs.YtbaghlplpkpknaaDoor.Pure
