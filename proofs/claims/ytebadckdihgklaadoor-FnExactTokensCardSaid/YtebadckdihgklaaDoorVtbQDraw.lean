-- Cut by prune.py, a program of this session, out of the texts of this claim: Lean checks it.
import Derived.Test.YtebadckdihgklaaDoorVtbQNum
import Derived.Test.YtebadckdihgklaaDoorVtbQTm
import Derived.Test.YtebadckdihgklaaDoorVtbQCur
import Derived.Test.YtebadckdihgklaaDoorVtbPbx0
namespace Go.Proofs.YtebadckdihgklaaDoor.QDraw
open Go.RowKit Go.Proofs.YtebadckdihgklaaDoor.Pb Go.Proofs.YtebadckdihgklaaDoorW.PrintWords Go.Proofs.YtebadckdihgklaaDoorW.PrintLast Go.Proofs.YtebadckdihgklaaDoor.QStr Go.Proofs.YtebadckdihgklaaDoor.QTm Go.Proofs.YtebadckdihgklaaDoor.QCur
theorem itoa_short (v : Int) (h : -1000000 ≤ v ∧ v ≤ 1000000) : (Lib.itoa v).length ≤ 8 := by
  unfold Lib.itoa
  by_cases hw : v < 0
  · rw [if_pos hw, List.length_cons]
    have := dec_len v.natAbs 6 (by omega)
    omega
  · rw [if_neg hw]
    have := dec_len v.toNat 6 (by omega)
    omega
theorem z5 : (⟨#[67, 111, 110, 115, 40]⟩ : ByteArray).size = 5 := rfl
theorem z2 : (⟨#[83, 40]⟩ : ByteArray).size = 2 := rfl
end Go.Proofs.YtebadckdihgklaaDoor.QDraw
