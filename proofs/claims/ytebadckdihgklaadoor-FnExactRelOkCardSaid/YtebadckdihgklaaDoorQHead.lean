-- Written for this claim by qprint.py, a program of this session (over the kit's print): Lean checks it.
import Derived.Test.YtebadckdihgklaaDoorRows
import Derived.WalkKit
import Derived.ProofKit
import GoSem.ClaimSeven
namespace Go.Proofs.YtebadckdihgklaaDoor.QHead
def cs (l : List Nat) : List Char := l.map Char.ofNat
theorem ws_app (w r : List Char) (h : w.all (· != Char.ofNat 32) = true) : wordsSigns (w ++ Char.ofNat 32 :: r) = w :: wordsSigns r := by
  induction w with
  | nil => rfl
  | cons c w ih =>
    rw [List.all_cons, Bool.and_eq_true, bne_iff_ne] at h
    have hi := ih h.2
    rw [List.cons_append, wordsSigns, hi]
    exact h.1
theorem head_ : ∃ R : List Char, Tryd.prog.initOrder = String.ofList (cs [104, 97, 114, 110, 101, 115, 115] ++ Char.ofNat 32 :: (cs [57, 49, 99, 101, 54, 54, 53, 56, 102, 100, 97, 98, 54, 53, 101, 98, 52, 49, 55, 50, 99, 102, 98, 100, 101, 99, 51, 53, 56, 101, 48, 98, 50, 49, 52, 99, 55, 54, 56, 102, 97, 101, 52, 97, 97, 101, 56, 50, 50, 101, 54, 54, 55, 49, 51, 52, 98, 102, 56, 54, 48, 101, 102, 53] ++ Char.ofNat 32 :: (cs [99, 117, 116] ++ Char.ofNat 32 :: R))) := ⟨cs [97, 116, 32, 108, 111, 111, 112, 46, 101, 120, 97, 109, 112, 108, 101, 47, 103, 48, 48, 53, 51, 49, 47, 108, 97, 119, 115, 46, 70, 110, 69, 120, 97, 99, 116, 78, 117, 109, 84, 101, 120, 116, 32, 108, 111, 111, 112, 46, 101, 120, 97, 109, 112, 108, 101, 47, 103, 48, 48, 53, 51, 49, 47, 108, 97, 119, 115, 46, 70, 110, 69, 120, 97, 99, 116, 78, 117, 109, 84, 101, 114, 109, 32, 108, 111, 111, 112, 46, 101, 120, 97, 109, 112, 108, 101, 47, 103, 48, 48, 53, 51, 49, 47, 108, 97, 119, 115, 46, 70, 110, 78, 117, 109, 98, 101, 114, 115, 32, 108, 111, 111, 112, 46, 101, 120, 97, 109, 112, 108, 101, 47, 103, 48, 48, 53, 51, 49, 47, 108, 97, 119, 115, 46, 70, 110, 69, 120, 97, 99, 116, 84, 101, 114, 109, 78, 117, 109, 32, 108, 111, 111, 112, 46, 101, 120, 97, 109, 112, 108, 101, 47, 103, 48, 48, 53, 51, 49, 47, 108, 97, 119, 115, 46, 70, 110, 69, 120, 97, 99, 116, 84, 101, 114, 109, 75, 105, 110, 100, 32, 108, 111, 111, 112, 46, 101, 120, 97, 109, 112, 108, 101, 47, 103, 48, 48, 53, 51, 49, 47, 108, 97, 119, 115, 46, 70, 110, 69, 120, 97, 99, 116, 84, 117, 112, 108, 101, 79, 107, 32, 108, 111, 111, 112, 46, 101, 120, 97, 109, 112, 108, 101, 47, 103, 48, 48, 53, 51, 49, 47, 108, 97, 119, 115, 46, 70, 110, 69, 120, 97, 99, 116, 84, 101, 114, 109, 77, 97, 107, 101, 32, 108, 111, 111, 112, 46, 101, 120, 97, 109, 112, 108, 101, 47, 103, 48, 48, 53, 51, 49, 47, 108, 97, 119, 115, 46, 70, 110, 69, 120, 97, 99, 116, 73, 110, 115, 105, 100, 101, 32, 108, 111, 111, 112, 46, 101, 120, 97, 109, 112, 108, 101, 47, 103, 48, 48, 53, 51, 49, 47, 108, 97, 119, 115, 46, 70, 110, 69, 120, 97, 99, 116, 84, 101, 114, 109, 83, 105, 122, 101, 32, 108, 111, 111, 112, 46, 101, 120, 97, 109, 112, 108, 101, 47, 103, 48, 48, 53, 51, 49, 47, 108, 97, 119, 115, 46, 70, 110, 69, 120, 97, 99, 116, 84, 101, 114, 109, 80, 97, 114, 116, 115, 32, 108, 111, 111, 112, 46, 101, 120, 97, 109, 112, 108, 101, 47, 103, 48, 48, 53, 51, 49, 47, 108, 97, 119, 115, 46, 70, 110, 84, 111, 107, 101, 110, 115, 32, 108, 111, 111, 112, 46, 101, 120, 97, 109, 112, 108, 101, 47, 103, 48, 48, 53, 51, 49, 47, 108, 97, 119, 115, 46, 70, 110, 69, 120, 97, 99, 116, 84, 111, 107, 101, 110, 115, 32, 108, 111, 111, 112, 46, 101, 120, 97, 109, 112, 108, 101, 47, 103, 48, 48, 53, 51, 49, 47, 108, 97, 119, 115, 46, 70, 110, 69, 120, 97, 99, 116, 84, 101, 114, 109, 67, 109, 112, 32, 108, 111, 111, 112, 46, 101, 120, 97, 109, 112, 108, 101, 47, 103, 48, 48, 53, 51, 49, 47, 108, 97, 119, 115, 46, 70, 110, 84, 101, 114, 109, 115, 32, 108, 111, 111, 112, 46, 101, 120, 97, 109, 112, 108, 101, 47, 103, 48, 48, 53, 51, 49, 47, 108, 97, 119, 115, 46, 70, 110, 84, 101, 114, 109, 79, 114, 100, 101, 114, 32, 108, 111, 111, 112, 46, 101, 120, 97, 109, 112, 108, 101, 47, 103, 48, 48, 53, 51, 49, 47, 108, 97, 119, 115, 46, 70, 110, 69, 120, 97, 99, 116, 84, 117, 112, 108, 101, 67, 109, 112, 32, 108, 111, 111, 112, 46, 101, 120, 97, 109, 112, 108, 101, 47, 103, 48, 48, 53, 51, 49, 47, 108, 97, 119, 115, 46, 70, 110, 69, 120, 97, 99, 116, 82, 101, 108, 79, 107], by kernel_rfl⟩
theorem words_ : ∃ R, wordsSigns Tryd.pinned.checked.prog.initOrder.toList = cs [104, 97, 114, 110, 101, 115, 115] :: cs [57, 49, 99, 101, 54, 54, 53, 56, 102, 100, 97, 98, 54, 53, 101, 98, 52, 49, 55, 50, 99, 102, 98, 100, 101, 99, 51, 53, 56, 101, 48, 98, 50, 49, 52, 99, 55, 54, 56, 102, 97, 101, 52, 97, 97, 101, 56, 50, 50, 101, 54, 54, 55, 49, 51, 52, 98, 102, 56, 54, 48, 101, 102, 53] :: "cut".toList :: R := by
  obtain ⟨R, h⟩ := head_
  refine ⟨wordsSigns R, ?_⟩
  show wordsSigns Tryd.prog.initOrder.toList = _
  rw [h, String.toList_ofList, ws_app _ _ (by decide), ws_app _ _ (by decide), ws_app _ _ (by decide)]
  rfl
theorem behind : ∃ rest, behindMainWord (wordsSigns Tryd.pinned.checked.prog.initOrder.toList) = "cut".toList :: rest := by
  obtain ⟨R, h⟩ := words_
  exact ⟨R, by rw [h]; rfl⟩
theorem main_ : Tryd.pinned.checked.prog.mainIs = some (true, "91ce6658fdab65eb4172cfbdec358e0b214c768fae4aae822e667134bf860ef5".toList) := by
  obtain ⟨R, h⟩ := words_
  unfold Program.mainIs
  rw [h]
  kernel_rfl
theorem later_ : Tryd.pinned.checked.prog.laysLater = false := by kernel_rfl
theorem reflect_ : Tryd.pinned.checked.prog.bearsReflect = false := by kernel_rfl
theorem door_ : Tryd.pinned.checked.prog.doorFits [] = true := by kernel_rfl
theorem may_ : Tryd.pinned.checked.prog.mayEnter = true := by
  obtain ⟨rest, h⟩ := behind
  unfold Program.mayEnter
  rw [h]
  have e1 : stripLifts liftWords ("cut".toList :: rest) = ([], "cut".toList :: rest) := rfl
  simp only [e1, later_, reflect_, door_]
  rfl
theorem lifts_ : Tryd.pinned.checked.prog.headLifts = [] := by
  obtain ⟨rest, h⟩ := behind
  unfold Program.headLifts
  rw [h]
  rfl
theorem final_ : Tryd.pinned.checked.prog.liftsFinal = false := by
  obtain ⟨rest, h⟩ := behind
  unfold Program.liftsFinal
  rw [h, lifts_]
  rfl
theorem make_ : Tryd.pinned.checked.prog.make = some .cut := by
  obtain ⟨rest, h⟩ := behind
  unfold Program.make
  rw [h]
  rfl
theorem looks_ : true = Tryd.pinned.checked.prog.looks [] := by kernel_rfl
end Go.Proofs.YtebadckdihgklaaDoor.QHead
