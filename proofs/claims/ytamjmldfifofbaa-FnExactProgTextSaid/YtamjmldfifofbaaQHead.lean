-- Written for this claim by qprint.py, a program of this session (over the kit's print): Lean checks it.
import Derived.Test.YtamjmldfifofbaaRows
import Derived.WalkKit
import Derived.ProofKit
import GoSem.ClaimSeven
namespace Go.Proofs.Ytamjmldfifofbaa.QHead
def cs (l : List Nat) : List Char := l.map Char.ofNat
theorem ws_app (w r : List Char) (h : w.all (· != Char.ofNat 32) = true) : wordsSigns (w ++ Char.ofNat 32 :: r) = w :: wordsSigns r := by
  induction w with
  | nil => rfl
  | cons c w ih =>
    rw [List.all_cons, Bool.and_eq_true, bne_iff_ne] at h
    have hi := ih h.2
    rw [List.cons_append, wordsSigns, hi]
    exact h.1
theorem head_ : ∃ R : List Char, Try.prog.initOrder = String.ofList (cs [104, 97, 114, 110, 101, 115, 115] ++ Char.ofNat 32 :: (cs [99, 51, 48, 48, 52, 55, 99, 99, 49, 56, 102, 55, 52, 52, 100, 54, 49, 48, 55, 98, 56, 99, 53, 98, 53, 49, 57, 100, 48, 53, 50, 52, 54, 55, 53, 57, 48, 99, 99, 101, 101, 56, 97, 53, 51, 98, 48, 54, 54, 100, 102, 99, 53, 98, 55, 49, 53, 98, 53, 48, 101, 50, 55, 57] ++ Char.ofNat 32 :: (cs [99, 117, 116] ++ Char.ofNat 32 :: R))) := ⟨cs [97, 116, 32, 108, 111, 111, 112, 46, 101, 120, 97, 109, 112, 108, 101, 47, 103, 48, 48, 53, 51, 49, 47, 108, 97, 119, 115, 46, 70, 110, 69, 120, 97, 99, 116, 82, 117, 108, 101, 84, 101, 120, 116, 32, 108, 111, 111, 112, 46, 101, 120, 97, 109, 112, 108, 101, 47, 103, 48, 48, 53, 51, 49, 47, 108, 97, 119, 115, 46, 70, 110, 69, 120, 97, 99, 116, 80, 114, 111, 103, 84, 101, 120, 116, 32, 108, 111, 111, 112, 46, 101, 120, 97, 109, 112, 108, 101, 47, 103, 48, 48, 53, 51, 49, 47, 108, 97, 119, 115, 46, 70, 110, 69, 120, 97, 99, 116, 69, 120, 112, 86, 97, 114, 115], by kernel_rfl⟩
theorem words_ : ∃ R, wordsSigns Try.pinned.checked.prog.initOrder.toList = cs [104, 97, 114, 110, 101, 115, 115] :: cs [99, 51, 48, 48, 52, 55, 99, 99, 49, 56, 102, 55, 52, 52, 100, 54, 49, 48, 55, 98, 56, 99, 53, 98, 53, 49, 57, 100, 48, 53, 50, 52, 54, 55, 53, 57, 48, 99, 99, 101, 101, 56, 97, 53, 51, 98, 48, 54, 54, 100, 102, 99, 53, 98, 55, 49, 53, 98, 53, 48, 101, 50, 55, 57] :: "cut".toList :: R := by
  obtain ⟨R, h⟩ := head_
  refine ⟨wordsSigns R, ?_⟩
  show wordsSigns Try.prog.initOrder.toList = _
  rw [h, String.toList_ofList, ws_app _ _ (by decide), ws_app _ _ (by decide), ws_app _ _ (by decide)]
  rfl
theorem behind : ∃ rest, behindMainWord (wordsSigns Try.pinned.checked.prog.initOrder.toList) = "cut".toList :: rest := by
  obtain ⟨R, h⟩ := words_
  exact ⟨R, by rw [h]; rfl⟩
theorem main_ : Try.pinned.checked.prog.mainIs = some (true, "c30047cc18f744d6107b8c5b519d052467590ccee8a53b066dfc5b715b50e279".toList) := by
  obtain ⟨R, h⟩ := words_
  unfold Program.mainIs
  rw [h]
  kernel_rfl
theorem later_ : Try.pinned.checked.prog.laysLater = false := by kernel_rfl
theorem reflect_ : Try.pinned.checked.prog.bearsReflect = false := by kernel_rfl
theorem door_ : Try.pinned.checked.prog.doorFits [] = true := by kernel_rfl
theorem may_ : Try.pinned.checked.prog.mayEnter = true := by
  obtain ⟨rest, h⟩ := behind
  unfold Program.mayEnter
  rw [h]
  have e1 : stripLifts liftWords ("cut".toList :: rest) = ([], "cut".toList :: rest) := rfl
  simp only [e1, later_, reflect_, door_]
  rfl
theorem lifts_ : Try.pinned.checked.prog.headLifts = [] := by
  obtain ⟨rest, h⟩ := behind
  unfold Program.headLifts
  rw [h]
  rfl
theorem final_ : Try.pinned.checked.prog.liftsFinal = false := by
  obtain ⟨rest, h⟩ := behind
  unfold Program.liftsFinal
  rw [h, lifts_]
  rfl
theorem make_ : Try.pinned.checked.prog.make = some .cut := by
  obtain ⟨rest, h⟩ := behind
  unfold Program.make
  rw [h]
  rfl
end Go.Proofs.Ytamjmldfifofbaa.QHead
