-- Written for this claim by qprint.py, a program of this session (over the kit's print): Lean checks it.
import Derived.Test.YtcckpjflbfofjaaRows
import Derived.WalkKit
import Derived.ProofKit
import GoSem.ClaimSeven
namespace Go.Proofs.Ytcckpjflbfofjaa.QHead
def cs (l : List Nat) : List Char := l.map Char.ofNat
theorem ws_app (w r : List Char) (h : w.all (· != Char.ofNat 32) = true) : wordsSigns (w ++ Char.ofNat 32 :: r) = w :: wordsSigns r := by
  induction w with
  | nil => rfl
  | cons c w ih =>
    rw [List.all_cons, Bool.and_eq_true, bne_iff_ne] at h
    have hi := ih h.2
    rw [List.cons_append, wordsSigns, hi]
    exact h.1
theorem head_ : ∃ R : List Char, Try.prog.initOrder = String.ofList (cs [104, 97, 114, 110, 101, 115, 115] ++ Char.ofNat 32 :: (cs [49, 52, 52, 50, 54, 49, 98, 54, 48, 101, 102, 57, 50, 57, 97, 51, 50, 98, 98, 57, 50, 50, 54, 52, 52, 57, 101, 50, 98, 51, 50, 53, 98, 101, 102, 56, 102, 48, 55, 48, 102, 102, 53, 49, 101, 98, 102, 55, 100, 50, 50, 50, 52, 52, 52, 100, 100, 98, 48, 56, 99, 102, 99, 101] ++ Char.ofNat 32 :: (cs [99, 117, 116] ++ Char.ofNat 32 :: R))) := ⟨cs [97, 116, 32, 108, 111, 111, 112, 46, 101, 120, 97, 109, 112, 108, 101, 47, 103, 48, 48, 53, 51, 49, 47, 108, 97, 119, 115, 46, 70, 110, 69, 120, 97, 99, 116, 67, 111, 109, 112, 111, 115, 101, 32, 108, 111, 111, 112, 46, 101, 120, 97, 109, 112, 108, 101, 47, 103, 48, 48, 53, 51, 49, 47, 108, 97, 119, 115, 46, 70, 110, 69, 120, 97, 99, 116, 70, 97, 108, 108, 115, 32, 108, 111, 111, 112, 46, 101, 120, 97, 109, 112, 108, 101, 47, 103, 48, 48, 53, 51, 49, 47, 108, 97, 119, 115, 46, 70, 110, 67, 111, 109, 112, 111, 115, 101, 100, 32, 108, 111, 111, 112, 46, 101, 120, 97, 109, 112, 108, 101, 47, 103, 48, 48, 53, 51, 49, 47, 108, 97, 119, 115, 46, 70, 110, 69, 120, 97, 99, 116, 67, 108, 111, 115, 101, 100], by kernel_rfl⟩
theorem words_ : ∃ R, wordsSigns Try.pinned.checked.prog.initOrder.toList = cs [104, 97, 114, 110, 101, 115, 115] :: cs [49, 52, 52, 50, 54, 49, 98, 54, 48, 101, 102, 57, 50, 57, 97, 51, 50, 98, 98, 57, 50, 50, 54, 52, 52, 57, 101, 50, 98, 51, 50, 53, 98, 101, 102, 56, 102, 48, 55, 48, 102, 102, 53, 49, 101, 98, 102, 55, 100, 50, 50, 50, 52, 52, 52, 100, 100, 98, 48, 56, 99, 102, 99, 101] :: "cut".toList :: R := by
  obtain ⟨R, h⟩ := head_
  refine ⟨wordsSigns R, ?_⟩
  show wordsSigns Try.prog.initOrder.toList = _
  rw [h, String.toList_ofList, ws_app _ _ (by decide), ws_app _ _ (by decide), ws_app _ _ (by decide)]
  rfl
theorem behind : ∃ rest, behindMainWord (wordsSigns Try.pinned.checked.prog.initOrder.toList) = "cut".toList :: rest := by
  obtain ⟨R, h⟩ := words_
  exact ⟨R, by rw [h]; rfl⟩
theorem main_ : Try.pinned.checked.prog.mainIs = some (true, "144261b60ef929a32bb9226449e2b325bef8f070ff51ebf7d222444ddb08cfce".toList) := by
  obtain ⟨R, h⟩ := words_
  unfold Program.mainIs
  rw [h]
  kernel_rfl
theorem later_ : Try.pinned.checked.prog.laysLater = false := by kernel_rfl
theorem reflect_ : Try.pinned.checked.prog.bearsReflect = false := by kernel_rfl
theorem door_ : Try.pinned.checked.prog.doorFits [] = true := by kernel_rfl
theorem may_ : Try.pinned.checked.prog.mayEnter = true := by
  obtain ⟨rest, h⟩ := behind
  unfold Program.mayEnter
  rw [h]
  have e1 : stripLifts liftWords ("cut".toList :: rest) = ([], "cut".toList :: rest) := rfl
  simp only [e1, later_, reflect_, door_]
  rfl
theorem lifts_ : Try.pinned.checked.prog.headLifts = [] := by
  obtain ⟨rest, h⟩ := behind
  unfold Program.headLifts
  rw [h]
  rfl
theorem final_ : Try.pinned.checked.prog.liftsFinal = false := by
  obtain ⟨rest, h⟩ := behind
  unfold Program.liftsFinal
  rw [h, lifts_]
  rfl
theorem make_ : Try.pinned.checked.prog.make = some .cut := by
  obtain ⟨rest, h⟩ := behind
  unfold Program.make
  rw [h]
  rfl
end Go.Proofs.Ytcckpjflbfofjaa.QHead
