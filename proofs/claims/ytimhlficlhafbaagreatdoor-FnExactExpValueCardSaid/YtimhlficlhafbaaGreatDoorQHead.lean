-- Written for this claim by qprint.py, a program of this session (over the kit's print): Lean checks it.
import Derived.Test.YtimhlficlhafbaaGreatDoorRows
import Derived.WalkKit
import Derived.ProofKit
import GoSem.ClaimSeven
namespace Go.Proofs.YtimhlficlhafbaaGreatDoor.QHead
def cs (l : List Nat) : List Char := l.map Char.ofNat
theorem ws_app (w r : List Char) (h : w.all (· != Char.ofNat 32) = true) : wordsSigns (w ++ Char.ofNat 32 :: r) = w :: wordsSigns r := by
  induction w with
  | nil => rfl
  | cons c w ih =>
    rw [List.all_cons, Bool.and_eq_true, bne_iff_ne] at h
    have hi := ih h.2
    rw [List.cons_append, wordsSigns, hi]
    exact h.1
theorem head_ : ∃ R : List Char, Tryz.prog.initOrder = String.ofList (cs [104, 97, 114, 110, 101, 115, 115] ++ Char.ofNat 32 :: (cs [52, 55, 99, 99, 51, 99, 98, 98, 48, 49, 52, 49, 52, 100, 98, 102, 53, 97, 56, 53, 50, 48, 97, 100, 55, 51, 49, 51, 101, 56, 56, 54, 48, 57, 97, 52, 51, 97, 50, 55, 101, 55, 98, 49, 55, 98, 53, 51, 53, 49, 99, 102, 54, 57, 98, 100, 56, 55, 48, 50, 55, 48, 102, 53] ++ Char.ofNat 32 :: (cs [99, 117, 116] ++ Char.ofNat 32 :: R))) := ⟨cs [97, 116, 32, 108, 111, 111, 112, 46, 101, 120, 97, 109, 112, 108, 101, 47, 103, 48, 48, 53, 51, 49, 47, 108, 97, 119, 115, 46, 70, 110, 69, 120, 97, 99, 116, 69, 120, 112, 86, 97, 108, 117, 101], by kernel_rfl⟩
theorem words_ : ∃ R, wordsSigns Tryz.pinned.checked.prog.initOrder.toList = cs [104, 97, 114, 110, 101, 115, 115] :: cs [52, 55, 99, 99, 51, 99, 98, 98, 48, 49, 52, 49, 52, 100, 98, 102, 53, 97, 56, 53, 50, 48, 97, 100, 55, 51, 49, 51, 101, 56, 56, 54, 48, 57, 97, 52, 51, 97, 50, 55, 101, 55, 98, 49, 55, 98, 53, 51, 53, 49, 99, 102, 54, 57, 98, 100, 56, 55, 48, 50, 55, 48, 102, 53] :: "cut".toList :: R := by
  obtain ⟨R, h⟩ := head_
  refine ⟨wordsSigns R, ?_⟩
  show wordsSigns Tryz.prog.initOrder.toList = _
  rw [h, String.toList_ofList, ws_app _ _ (by decide), ws_app _ _ (by decide), ws_app _ _ (by decide)]
  rfl
theorem behind : ∃ rest, behindMainWord (wordsSigns Tryz.pinned.checked.prog.initOrder.toList) = "cut".toList :: rest := by
  obtain ⟨R, h⟩ := words_
  exact ⟨R, by rw [h]; rfl⟩
theorem main_ : Tryz.pinned.checked.prog.mainIs = some (true, "47cc3cbb01414dbf5a8520ad7313e88609a43a27e7b17b5351cf69bd870270f5".toList) := by
  obtain ⟨R, h⟩ := words_
  unfold Program.mainIs
  rw [h]
  kernel_rfl
theorem later_ : Tryz.pinned.checked.prog.laysLater = false := by kernel_rfl
theorem reflect_ : Tryz.pinned.checked.prog.bearsReflect = false := by kernel_rfl
theorem door_ : Tryz.pinned.checked.prog.doorFits [] = true := by kernel_rfl
theorem may_ : Tryz.pinned.checked.prog.mayEnter = true := by
  obtain ⟨rest, h⟩ := behind
  unfold Program.mayEnter
  rw [h]
  have e1 : stripLifts liftWords ("cut".toList :: rest) = ([], "cut".toList :: rest) := rfl
  simp only [e1, later_, reflect_, door_]
  rfl
theorem lifts_ : Tryz.pinned.checked.prog.headLifts = [] := by
  obtain ⟨rest, h⟩ := behind
  unfold Program.headLifts
  rw [h]
  rfl
theorem final_ : Tryz.pinned.checked.prog.liftsFinal = false := by
  obtain ⟨rest, h⟩ := behind
  unfold Program.liftsFinal
  rw [h, lifts_]
  rfl
theorem make_ : Tryz.pinned.checked.prog.make = some .cut := by
  obtain ⟨rest, h⟩ := behind
  unfold Program.make
  rw [h]
  rfl
theorem looks_ : true = Tryz.pinned.checked.prog.looks [] := by kernel_rfl
end Go.Proofs.YtimhlficlhafbaaGreatDoor.QHead
