-- Written for this claim by qprint.py, a program of this session (over the kit's print): Lean checks it.
import Derived.Test.YtamjmldfifofbaaGreatDoorRows
import Derived.WalkKit
import Derived.ProofKit
import GoSem.ClaimSeven
namespace Go.Proofs.YtamjmldfifofbaaGreatDoor.QHead
def cs (l : List Nat) : List Char := l.map Char.ofNat
theorem ws_app (w r : List Char) (h : w.all (· != Char.ofNat 32) = true) : wordsSigns (w ++ Char.ofNat 32 :: r) = w :: wordsSigns r := by
  induction w with
  | nil => rfl
  | cons c w ih =>
    rw [List.all_cons, Bool.and_eq_true, bne_iff_ne] at h
    have hi := ih h.2
    rw [List.cons_append, wordsSigns, hi]
    exact h.1
theorem head_ : ∃ R : List Char, Tryz.prog.initOrder = String.ofList (cs [104, 97, 114, 110, 101, 115, 115] ++ Char.ofNat 32 :: (cs [54, 102, 98, 100, 98, 100, 101, 56, 102, 48, 52, 53, 99, 99, 98, 99, 97, 54, 101, 101, 97, 102, 51, 101, 99, 98, 55, 97, 54, 48, 99, 55, 100, 50, 98, 98, 51, 101, 56, 54, 57, 54, 50, 53, 56, 97, 50, 53, 57, 57, 102, 102, 53, 98, 56, 56, 50, 97, 97, 48, 97, 100, 54, 51] ++ Char.ofNat 32 :: (cs [99, 117, 116] ++ Char.ofNat 32 :: R))) := ⟨cs [97, 116, 32, 108, 111, 111, 112, 46, 101, 120, 97, 109, 112, 108, 101, 47, 103, 48, 48, 53, 51, 49, 47, 108, 97, 119, 115, 46, 70, 110, 69, 120, 97, 99, 116, 70, 97, 99, 116, 84, 101, 120, 116], by kernel_rfl⟩
theorem words_ : ∃ R, wordsSigns Tryz.pinned.checked.prog.initOrder.toList = cs [104, 97, 114, 110, 101, 115, 115] :: cs [54, 102, 98, 100, 98, 100, 101, 56, 102, 48, 52, 53, 99, 99, 98, 99, 97, 54, 101, 101, 97, 102, 51, 101, 99, 98, 55, 97, 54, 48, 99, 55, 100, 50, 98, 98, 51, 101, 56, 54, 57, 54, 50, 53, 56, 97, 50, 53, 57, 57, 102, 102, 53, 98, 56, 56, 50, 97, 97, 48, 97, 100, 54, 51] :: "cut".toList :: R := by
  obtain ⟨R, h⟩ := head_
  refine ⟨wordsSigns R, ?_⟩
  show wordsSigns Tryz.prog.initOrder.toList = _
  rw [h, String.toList_ofList, ws_app _ _ (by decide), ws_app _ _ (by decide), ws_app _ _ (by decide)]
  rfl
theorem behind : ∃ rest, behindMainWord (wordsSigns Tryz.pinned.checked.prog.initOrder.toList) = "cut".toList :: rest := by
  obtain ⟨R, h⟩ := words_
  exact ⟨R, by rw [h]; rfl⟩
theorem main_ : Tryz.pinned.checked.prog.mainIs = some (true, "6fbdbde8f045ccbca6eeaf3ecb7a60c7d2bb3e8696258a2599ff5b882aa0ad63".toList) := by
  obtain ⟨R, h⟩ := words_
  unfold Program.mainIs
  rw [h]
  kernel_rfl
theorem later_ : Tryz.pinned.checked.prog.laysLater = false := by kernel_rfl
theorem reflect_ : Tryz.pinned.checked.prog.bearsReflect = false := by kernel_rfl
theorem door_ : Tryz.pinned.checked.prog.doorFits [] = true := by kernel_rfl
theorem may_ : Tryz.pinned.checked.prog.mayEnter = true := by
  obtain ⟨rest, h⟩ := behind
  unfold Program.mayEnter
  rw [h]
  have e1 : stripLifts liftWords ("cut".toList :: rest) = ([], "cut".toList :: rest) := rfl
  simp only [e1, later_, reflect_, door_]
  rfl
theorem lifts_ : Tryz.pinned.checked.prog.headLifts = [] := by
  obtain ⟨rest, h⟩ := behind
  unfold Program.headLifts
  rw [h]
  rfl
theorem final_ : Tryz.pinned.checked.prog.liftsFinal = false := by
  obtain ⟨rest, h⟩ := behind
  unfold Program.liftsFinal
  rw [h, lifts_]
  rfl
theorem make_ : Tryz.pinned.checked.prog.make = some .cut := by
  obtain ⟨rest, h⟩ := behind
  unfold Program.make
  rw [h]
  rfl
theorem looks_ : true = Tryz.pinned.checked.prog.looks [] := by kernel_rfl
end Go.Proofs.YtamjmldfifofbaaGreatDoor.QHead
