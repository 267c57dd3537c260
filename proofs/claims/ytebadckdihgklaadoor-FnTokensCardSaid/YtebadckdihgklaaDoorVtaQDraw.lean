-- Cut by prune.py, a program of this session, out of the texts of this claim: Lean checks it.
import Derived.Test.YtebadckdihgklaaDoorVtaQNum
import Derived.Test.YtebadckdihgklaaDoorVtaQTm
import Derived.Test.YtebadckdihgklaaDoorVtaQCur
import Derived.Test.YtebadckdihgklaaDoorVtaPbx0
namespace Go.Proofs.YtebadckdihgklaaDoor.QDraw
open Go.RowKit Go.Proofs.YtebadckdihgklaaDoor.Pb Go.Proofs.YtebadckdihgklaaDoorW.PrintWords Go.Proofs.YtebadckdihgklaaDoorW.PrintLast Go.Proofs.YtebadckdihgklaaDoor.QStr Go.Proofs.YtebadckdihgklaaDoor.QTm Go.Proofs.YtebadckdihgklaaDoor.QCur
theorem rdOf_le (l : List ByteArray) (i : Int) (m : Nat) (h : ∀ s ∈ l, s.size ≤ m) : (rdOf ByteArray.empty l i).size ≤ m := by
  unfold rdOf
  rw [List.getD_eq_getElem?_getD]
  by_cases hi : i.toNat < l.length
  · rw [List.getElem?_eq_getElem hi, Option.getD_some]
    exact h _ (List.getElem_mem hi)
  · rw [List.getElem?_eq_none (by omega), Option.getD_none]
    exact Nat.zero_le _
theorem itoa_short (v : Int) (h : -1000000 ≤ v ∧ v ≤ 1000000) : (Lib.itoa v).length ≤ 8 := by
  unfold Lib.itoa
  by_cases hw : v < 0
  · rw [if_pos hw, List.length_cons]
    have := dec_len v.natAbs 6 (by omega)
    omega
  · rw [if_neg hw]
    have := dec_len v.toNat 6 (by omega)
    omega
theorem z5 : (⟨#[67, 111, 110, 115, 40]⟩ : ByteArray).size = 5 := rfl
theorem z2 : (⟨#[83, 40]⟩ : ByteArray).size = 2 := rfl
end Go.Proofs.YtebadckdihgklaaDoor.QDraw
