-- Cut by prune.py, a program of this session, out of the texts of this claim: Lean checks it.
import Derived.Test.YtebadckdihgklaaDoorVtaPbx0
import Derived.Test.YtebadckdihgklaaDoorVtaPbx6
section
namespace Go.Proofs.YtebadckdihgklaaDoor.Pb
open Go.RowKit Go.Proofs.YtebadckdihgklaaDoorW.PrintWords Go.Proofs.YtebadckdihgklaaDoorW.PrintLast Go.Proofs.YtebadckdihgklaaDoorW.PrintMore
attribute [local go_sem] max2_int min2_int max_two min_two max_three min_three max_four min_four   -- for this text's walks alone
set_option linter.unusedVariables false
set_option linter.unusedSimpArgs false
def spec_l01Cur_source.f (k : Nat) (s0_0 : List Int) (s0_1 : Int) (s0_2 : Int) : Option (ByteArray × Int × Int) := (spec_l01Cur_program.f k s0_0 s0_1 s0_2).bind fun bt399 => ((spec_l01Cur_pick.f s0_0 bt399.2.1 bt399.2.2 8).bind fun bt402 => (if bt402.1 = 0 then ((spec_l01Cur_pick.f s0_0 bt402.2.1 bt402.2.2 (bt399.1.size : Int)).bind fun bt405 => (if 0 ≤ bt405.1 then (if bt405.1 ≤ (bt399.1.size : Int) then (if 0 ≤ (wrap64 (bt405.1 + 1)) then (if (wrap64 (bt405.1 + 1)) ≤ (bt399.1.size : Int) then (if (bt399.1.extract 0 (bt405.1 : Int).toNat).size + (bt399.1.extract ((wrap64 (bt405.1 + 1)) : Int).toNat bt399.1.size).size ≤ 9223372036854775807 then (some ((bt399.1.extract 0 (bt405.1 : Int).toNat) ++ (bt399.1.extract ((wrap64 (bt405.1 + 1)) : Int).toNat bt399.1.size), bt405.2.1, bt405.2.2)) else (none)) else (none)) else (none)) else (none)) else (none))) else (if bt402.1 = 1 then ((spec_l01Cur_pick.f s0_0 bt402.2.1 bt402.2.2 (wrap64 ((bt399.1.size : Int) + 1))).bind fun bt408 => (if 0 ≤ bt408.1 then (if bt408.1 ≤ (bt399.1.size : Int) then ((some (([(⟨#[46]⟩ : ByteArray), (⟨#[44]⟩ : ByteArray), (⟨#[40]⟩ : ByteArray), (⟨#[41]⟩ : ByteArray), (⟨#[33]⟩ : ByteArray), (⟨#[120]⟩ : ByteArray), (⟨#[88]⟩ : ByteArray), (⟨#[49]⟩ : ByteArray), (⟨#[34]⟩ : ByteArray), (⟨#[58, 45]⟩ : ByteArray), (⟨#[95]⟩ : ByteArray), (⟨#[124]⟩ : ByteArray), (⟨#[35]⟩ : ByteArray), (⟨#[45]⟩ : ByteArray), (⟨#[32]⟩ : ByteArray)] : List ByteArray) : List ByteArray)).bind fun y411 => ((spec_l01Cur_pick.f s0_0 bt408.2.1 bt408.2.2 15).bind fun bt414 => (if 0 ≤ bt414.1 then (if bt414.1 < (y411.length : Int) then (if (bt399.1.extract 0 (bt408.1 : Int).toNat).size + (rdOf ByteArray.empty y411 bt414.1).size ≤ 9223372036854775807 then (if ((bt399.1.extract 0 (bt408.1 : Int).toNat) ++ (rdOf ByteArray.empty y411 bt414.1)).size + (bt399.1.extract (bt408.1 : Int).toNat bt399.1.size).size ≤ 9223372036854775807 then (some (((bt399.1.extract 0 (bt408.1 : Int).toNat) ++ (rdOf ByteArray.empty y411 bt414.1)) ++ (bt399.1.extract (bt408.1 : Int).toNat bt399.1.size), bt414.2.1, bt414.2.2)) else (none)) else (none)) else (none)) else (none)))) else (none)) else (none))) else (if bt402.1 = 2 then ((some (([(⟨#[112, 40, 49, 41]⟩ : ByteArray), (⟨#[112, 40, 41, 46]⟩ : ByteArray), (⟨#[114, 101, 108, 32, 112, 40, 41, 32, 105, 110, 112, 117, 116, 46]⟩ : ByteArray), (⟨#[112, 40, 120, 41, 32, 58, 45, 32, 120, 46]⟩ : ByteArray), (⟨#[112, 40, 120, 41, 32, 58, 45, 32, 113, 40, 120, 41, 44, 32, 46]⟩ : ByteArray), (⟨#[112, 40, 48, 49, 41, 46]⟩ : ByteArray), (⟨#[112, 40, 49, 48, 48, 48, 48, 48, 49, 41, 46]⟩ : ByteArray), (⟨#[112, 40, 34, 97, 41, 46]⟩ : ByteArray), (⟨#[116, 121, 112, 101, 32, 116, 32, 61, 32, 65, 46]⟩ : ByteArray), (⟨#[116, 121, 112, 101, 32, 84, 32, 61, 32, 46]⟩ : ByteArray), (⟨#[114, 101, 108, 32, 80, 40, 110, 117, 109, 98, 101, 114, 41, 46]⟩ : ByteArray), (⟨#[112, 40, 65, 40, 66, 40, 49, 44, 32, 45, 50, 41, 44, 32, 34, 120, 34, 41, 41, 46]⟩ : ByteArray), (⟨#[112, 40, 40, 49, 32, 43, 32, 50, 41, 32, 42, 32, 45, 51, 32, 45, 32, 120, 41, 46]⟩ : ByteArray), (⟨#[112, 40, 120, 41, 32, 58, 45, 32, 33, 120, 32, 60, 32, 49, 46]⟩ : ByteArray), (⟨#[112, 40, 120, 41, 32, 58, 45, 32, 40, 120, 41, 32, 61, 32, 113, 40, 49, 41, 46]⟩ : ByteArray), (⟨#[112, 40, 49, 44, 50, 44, 51, 44, 52, 44, 53, 44, 54, 44, 55, 41, 46]⟩ : ByteArray), (⟨#[114, 101, 108, 32, 113, 40, 110, 117, 109, 98, 101, 114, 32, 115, 121, 109, 98, 111, 108, 41, 46]⟩ : ByteArray), (⟨#[112, 40, 45, 32, 48, 41, 46]⟩ : ByteArray), (⟨#[112, 40, 120, 41, 32, 58, 45, 32, 114, 101, 108, 40, 120, 41, 46]⟩ : ByteArray), (⟨#[97, 98, 99, 100, 101, 102, 103, 104, 105, 106, 107, 108, 109, 110, 111, 112, 113, 114, 115, 116, 117, 40, 49, 41, 46]⟩ : ByteArray), (⟨#[112, 40, 95, 41, 32, 58, 45, 32, 95, 32, 61, 32, 95, 46]⟩ : ByteArray), (⟨#[114, 101, 108, 32, 114, 40, 110, 117, 109, 98, 101, 114, 41, 32, 105, 110, 112, 117, 116, 32, 111, 117, 116, 112, 117, 116, 46]⟩ : ByteArray)] : List ByteArray) : List ByteArray)).bind fun y418 => ((spec_l01Cur_pick.f s0_0 bt402.2.1 bt402.2.2 22).bind fun bt421 => (if 0 ≤ bt421.1 then (if bt421.1 < (y418.length : Int) then (if bt399.1.size + (rdOf ByteArray.empty y418 bt421.1).size ≤ 9223372036854775807 then (some (bt399.1 ++ (rdOf ByteArray.empty y418 bt421.1), bt421.2.1, bt421.2.2)) else (none)) else (none)) else (none)))) else (some (bt399.1, bt402.2.1, bt402.2.2))))))
def spec_l01Cur_source.T5 : Bool × List (List Nat × List Nat) := (true, [([], []), ([], []), ([0, 1], [0, 1]), ([], []), ([], []), ([4], [4]), ([3, 5], [3, 5]), ([2, 6], [2, 6]), ([7, 0, 1, 2, 3, 4, 5, 6, 7], [7])])
def spec_l01Cur_source.B5 : List Nat := [0, 0, 3, 0, 0, 16, 56, 127, 255]
theorem spec_l01Cur_source.tab5 : rtab .any (opsOf Tryd.f83 5) = spec_l01Cur_source.T5 := by kernel_rfl
theorem spec_l01Cur_source.bits5 : waitsOk spec_l01Cur_source.T5.2 spec_l01Cur_source.B5 = true := by kernel_rfl
def spec_l01Cur_source.T8 : Bool × List (List Nat × List Nat) := (true, [([], []), ([], []), ([0, 1], [0, 1]), ([], []), ([], []), ([4], [4]), ([3, 5], [3, 5]), ([6], [6]), ([2, 7], [2, 7]), ([], []), ([], []), ([9, 10], [9, 10]), ([8, 11], [8, 11]), ([12, 5, 0, 1, 2, 3, 4, 5, 6, 7, 8, 9, 10, 11, 12], [12])])
def spec_l01Cur_source.B8 : List Nat := [0, 0, 3, 0, 0, 16, 56, 120, 255, 0, 0, 1536, 4095, 8191]
theorem spec_l01Cur_source.tab8 : rtab .any (opsOf Tryd.f83 8) = spec_l01Cur_source.T8 := by kernel_rfl
theorem spec_l01Cur_source.bits8 : waitsOk spec_l01Cur_source.T8.2 spec_l01Cur_source.B8 = true := by kernel_rfl
set_option maxHeartbeats 8000000 in
set_option maxRecDepth 100000 in
theorem spec_l01Cur_source.calls (k : Nat) (g : Nat) (s0_0 : List Int) (s0_1 : Int) (s0_2 : Int) (r1 : ByteArray) (r2 : Int) (r3 : Int) (w0 w : World) (hI : IsS92 w0 w g s0_0 s0_1 s0_2) (hB : Below w0.heap.size w0 w) (h : spec_l01Cur_source.f k s0_0 s0_1 s0_2 = some (r1, r2, r3)) :
    Calls Tryd.prog 83 #[.pointer (some ⟨g, 0, none⟩)] w fun e w' => e = .returned (.string r1) ∧ IsS92 w0 w' g s0_0 r2 r3 ∧ Below w0.heap.size w0 w' ∧ KeepBut w w' g none := by
  have HI0 := Aside0.mk hI
  have HK := Aside0.mk (KeepBut.refl w g none)
  have HL := Aside0.mk hB.size
  clear hI
  have HW0 := Aside0.mk hB.size
  have HB := Aside0.mk hB
  clear hB
  have H : ((spec_l01Cur_program.f k s0_0 s0_1 s0_2).bind fun bt399 => ((spec_l01Cur_pick.f s0_0 bt399.2.1 bt399.2.2 8).bind fun bt402 => (if bt402.1 = 0 then ((spec_l01Cur_pick.f s0_0 bt402.2.1 bt402.2.2 (bt399.1.size : Int)).bind fun bt405 => (if 0 ≤ bt405.1 then (if bt405.1 ≤ (bt399.1.size : Int) then (if 0 ≤ (wrap64 (bt405.1 + 1)) then (if (wrap64 (bt405.1 + 1)) ≤ (bt399.1.size : Int) then (if (bt399.1.extract 0 (bt405.1 : Int).toNat).size + (bt399.1.extract ((wrap64 (bt405.1 + 1)) : Int).toNat bt399.1.size).size ≤ 9223372036854775807 then (some ((bt399.1.extract 0 (bt405.1 : Int).toNat) ++ (bt399.1.extract ((wrap64 (bt405.1 + 1)) : Int).toNat bt399.1.size), bt405.2.1, bt405.2.2)) else (none)) else (none)) else (none)) else (none)) else (none))) else (if bt402.1 = 1 then ((spec_l01Cur_pick.f s0_0 bt402.2.1 bt402.2.2 (wrap64 ((bt399.1.size : Int) + 1))).bind fun bt408 => (if 0 ≤ bt408.1 then (if bt408.1 ≤ (bt399.1.size : Int) then ((some (([(⟨#[46]⟩ : ByteArray), (⟨#[44]⟩ : ByteArray), (⟨#[40]⟩ : ByteArray), (⟨#[41]⟩ : ByteArray), (⟨#[33]⟩ : ByteArray), (⟨#[120]⟩ : ByteArray), (⟨#[88]⟩ : ByteArray), (⟨#[49]⟩ : ByteArray), (⟨#[34]⟩ : ByteArray), (⟨#[58, 45]⟩ : ByteArray), (⟨#[95]⟩ : ByteArray), (⟨#[124]⟩ : ByteArray), (⟨#[35]⟩ : ByteArray), (⟨#[45]⟩ : ByteArray), (⟨#[32]⟩ : ByteArray)] : List ByteArray) : List ByteArray)).bind fun y411 => ((spec_l01Cur_pick.f s0_0 bt408.2.1 bt408.2.2 15).bind fun bt414 => (if 0 ≤ bt414.1 then (if bt414.1 < (y411.length : Int) then (if (bt399.1.extract 0 (bt408.1 : Int).toNat).size + (rdOf ByteArray.empty y411 bt414.1).size ≤ 9223372036854775807 then (if ((bt399.1.extract 0 (bt408.1 : Int).toNat) ++ (rdOf ByteArray.empty y411 bt414.1)).size + (bt399.1.extract (bt408.1 : Int).toNat bt399.1.size).size ≤ 9223372036854775807 then (some (((bt399.1.extract 0 (bt408.1 : Int).toNat) ++ (rdOf ByteArray.empty y411 bt414.1)) ++ (bt399.1.extract (bt408.1 : Int).toNat bt399.1.size), bt414.2.1, bt414.2.2)) else (none)) else (none)) else (none)) else (none)))) else (none)) else (none))) else (if bt402.1 = 2 then ((some (([(⟨#[112, 40, 49, 41]⟩ : ByteArray), (⟨#[112, 40, 41, 46]⟩ : ByteArray), (⟨#[114, 101, 108, 32, 112, 40, 41, 32, 105, 110, 112, 117, 116, 46]⟩ : ByteArray), (⟨#[112, 40, 120, 41, 32, 58, 45, 32, 120, 46]⟩ : ByteArray), (⟨#[112, 40, 120, 41, 32, 58, 45, 32, 113, 40, 120, 41, 44, 32, 46]⟩ : ByteArray), (⟨#[112, 40, 48, 49, 41, 46]⟩ : ByteArray), (⟨#[112, 40, 49, 48, 48, 48, 48, 48, 49, 41, 46]⟩ : ByteArray), (⟨#[112, 40, 34, 97, 41, 46]⟩ : ByteArray), (⟨#[116, 121, 112, 101, 32, 116, 32, 61, 32, 65, 46]⟩ : ByteArray), (⟨#[116, 121, 112, 101, 32, 84, 32, 61, 32, 46]⟩ : ByteArray), (⟨#[114, 101, 108, 32, 80, 40, 110, 117, 109, 98, 101, 114, 41, 46]⟩ : ByteArray), (⟨#[112, 40, 65, 40, 66, 40, 49, 44, 32, 45, 50, 41, 44, 32, 34, 120, 34, 41, 41, 46]⟩ : ByteArray), (⟨#[112, 40, 40, 49, 32, 43, 32, 50, 41, 32, 42, 32, 45, 51, 32, 45, 32, 120, 41, 46]⟩ : ByteArray), (⟨#[112, 40, 120, 41, 32, 58, 45, 32, 33, 120, 32, 60, 32, 49, 46]⟩ : ByteArray), (⟨#[112, 40, 120, 41, 32, 58, 45, 32, 40, 120, 41, 32, 61, 32, 113, 40, 49, 41, 46]⟩ : ByteArray), (⟨#[112, 40, 49, 44, 50, 44, 51, 44, 52, 44, 53, 44, 54, 44, 55, 41, 46]⟩ : ByteArray), (⟨#[114, 101, 108, 32, 113, 40, 110, 117, 109, 98, 101, 114, 32, 115, 121, 109, 98, 111, 108, 41, 46]⟩ : ByteArray), (⟨#[112, 40, 45, 32, 48, 41, 46]⟩ : ByteArray), (⟨#[112, 40, 120, 41, 32, 58, 45, 32, 114, 101, 108, 40, 120, 41, 46]⟩ : ByteArray), (⟨#[97, 98, 99, 100, 101, 102, 103, 104, 105, 106, 107, 108, 109, 110, 111, 112, 113, 114, 115, 116, 117, 40, 49, 41, 46]⟩ : ByteArray), (⟨#[112, 40, 95, 41, 32, 58, 45, 32, 95, 32, 61, 32, 95, 46]⟩ : ByteArray), (⟨#[114, 101, 108, 32, 114, 40, 110, 117, 109, 98, 101, 114, 41, 32, 105, 110, 112, 117, 116, 32, 111, 117, 116, 112, 117, 116, 46]⟩ : ByteArray)] : List ByteArray) : List ByteArray)).bind fun y418 => ((spec_l01Cur_pick.f s0_0 bt402.2.1 bt402.2.2 22).bind fun bt421 => (if 0 ≤ bt421.1 then (if bt421.1 < (y418.length : Int) then (if bt399.1.size + (rdOf ByteArray.empty y418 bt421.1).size ≤ 9223372036854775807 then (some (bt399.1 ++ (rdOf ByteArray.empty y418 bt421.1), bt421.2.1, bt421.2.2)) else (none)) else (none)) else (none)))) else (some (bt399.1, bt402.2.1, bt402.2.2))))))) = some (r1, r2, r3) := h
  clear h
  replace H := Option.bind_eq_some_iff.mp H
  obtain ⟨⟨t399, t400, t401⟩, A20, H⟩ := H
  replace H : ((spec_l01Cur_pick.f s0_0 t400 t401 8).bind fun bt402 => (if bt402.1 = 0 then ((spec_l01Cur_pick.f s0_0 bt402.2.1 bt402.2.2 (t399.size : Int)).bind fun bt405 => (if 0 ≤ bt405.1 then (if bt405.1 ≤ (t399.size : Int) then (if 0 ≤ (wrap64 (bt405.1 + 1)) then (if (wrap64 (bt405.1 + 1)) ≤ (t399.size : Int) then (if (t399.extract 0 (bt405.1 : Int).toNat).size + (t399.extract ((wrap64 (bt405.1 + 1)) : Int).toNat t399.size).size ≤ 9223372036854775807 then (some ((t399.extract 0 (bt405.1 : Int).toNat) ++ (t399.extract ((wrap64 (bt405.1 + 1)) : Int).toNat t399.size), bt405.2.1, bt405.2.2)) else (none)) else (none)) else (none)) else (none)) else (none))) else (if bt402.1 = 1 then ((spec_l01Cur_pick.f s0_0 bt402.2.1 bt402.2.2 (wrap64 ((t399.size : Int) + 1))).bind fun bt408 => (if 0 ≤ bt408.1 then (if bt408.1 ≤ (t399.size : Int) then ((some (([(⟨#[46]⟩ : ByteArray), (⟨#[44]⟩ : ByteArray), (⟨#[40]⟩ : ByteArray), (⟨#[41]⟩ : ByteArray), (⟨#[33]⟩ : ByteArray), (⟨#[120]⟩ : ByteArray), (⟨#[88]⟩ : ByteArray), (⟨#[49]⟩ : ByteArray), (⟨#[34]⟩ : ByteArray), (⟨#[58, 45]⟩ : ByteArray), (⟨#[95]⟩ : ByteArray), (⟨#[124]⟩ : ByteArray), (⟨#[35]⟩ : ByteArray), (⟨#[45]⟩ : ByteArray), (⟨#[32]⟩ : ByteArray)] : List ByteArray) : List ByteArray)).bind fun y411 => ((spec_l01Cur_pick.f s0_0 bt408.2.1 bt408.2.2 15).bind fun bt414 => (if 0 ≤ bt414.1 then (if bt414.1 < (y411.length : Int) then (if (t399.extract 0 (bt408.1 : Int).toNat).size + (rdOf ByteArray.empty y411 bt414.1).size ≤ 9223372036854775807 then (if ((t399.extract 0 (bt408.1 : Int).toNat) ++ (rdOf ByteArray.empty y411 bt414.1)).size + (t399.extract (bt408.1 : Int).toNat t399.size).size ≤ 9223372036854775807 then (some (((t399.extract 0 (bt408.1 : Int).toNat) ++ (rdOf ByteArray.empty y411 bt414.1)) ++ (t399.extract (bt408.1 : Int).toNat t399.size), bt414.2.1, bt414.2.2)) else (none)) else (none)) else (none)) else (none)))) else (none)) else (none))) else (if bt402.1 = 2 then ((some (([(⟨#[112, 40, 49, 41]⟩ : ByteArray), (⟨#[112, 40, 41, 46]⟩ : ByteArray), (⟨#[114, 101, 108, 32, 112, 40, 41, 32, 105, 110, 112, 117, 116, 46]⟩ : ByteArray), (⟨#[112, 40, 120, 41, 32, 58, 45, 32, 120, 46]⟩ : ByteArray), (⟨#[112, 40, 120, 41, 32, 58, 45, 32, 113, 40, 120, 41, 44, 32, 46]⟩ : ByteArray), (⟨#[112, 40, 48, 49, 41, 46]⟩ : ByteArray), (⟨#[112, 40, 49, 48, 48, 48, 48, 48, 49, 41, 46]⟩ : ByteArray), (⟨#[112, 40, 34, 97, 41, 46]⟩ : ByteArray), (⟨#[116, 121, 112, 101, 32, 116, 32, 61, 32, 65, 46]⟩ : ByteArray), (⟨#[116, 121, 112, 101, 32, 84, 32, 61, 32, 46]⟩ : ByteArray), (⟨#[114, 101, 108, 32, 80, 40, 110, 117, 109, 98, 101, 114, 41, 46]⟩ : ByteArray), (⟨#[112, 40, 65, 40, 66, 40, 49, 44, 32, 45, 50, 41, 44, 32, 34, 120, 34, 41, 41, 46]⟩ : ByteArray), (⟨#[112, 40, 40, 49, 32, 43, 32, 50, 41, 32, 42, 32, 45, 51, 32, 45, 32, 120, 41, 46]⟩ : ByteArray), (⟨#[112, 40, 120, 41, 32, 58, 45, 32, 33, 120, 32, 60, 32, 49, 46]⟩ : ByteArray), (⟨#[112, 40, 120, 41, 32, 58, 45, 32, 40, 120, 41, 32, 61, 32, 113, 40, 49, 41, 46]⟩ : ByteArray), (⟨#[112, 40, 49, 44, 50, 44, 51, 44, 52, 44, 53, 44, 54, 44, 55, 41, 46]⟩ : ByteArray), (⟨#[114, 101, 108, 32, 113, 40, 110, 117, 109, 98, 101, 114, 32, 115, 121, 109, 98, 111, 108, 41, 46]⟩ : ByteArray), (⟨#[112, 40, 45, 32, 48, 41, 46]⟩ : ByteArray), (⟨#[112, 40, 120, 41, 32, 58, 45, 32, 114, 101, 108, 40, 120, 41, 46]⟩ : ByteArray), (⟨#[97, 98, 99, 100, 101, 102, 103, 104, 105, 106, 107, 108, 109, 110, 111, 112, 113, 114, 115, 116, 117, 40, 49, 41, 46]⟩ : ByteArray), (⟨#[112, 40, 95, 41, 32, 58, 45, 32, 95, 32, 61, 32, 95, 46]⟩ : ByteArray), (⟨#[114, 101, 108, 32, 114, 40, 110, 117, 109, 98, 101, 114, 41, 32, 105, 110, 112, 117, 116, 32, 111, 117, 116, 112, 117, 116, 46]⟩ : ByteArray)] : List ByteArray) : List ByteArray)).bind fun y418 => ((spec_l01Cur_pick.f s0_0 bt402.2.1 bt402.2.2 22).bind fun bt421 => (if 0 ≤ bt421.1 then (if bt421.1 < (y418.length : Int) then (if t399.size + (rdOf ByteArray.empty y418 bt421.1).size ≤ 9223372036854775807 then (some (t399 ++ (rdOf ByteArray.empty y418 bt421.1), bt421.2.1, bt421.2.2)) else (none)) else (none)) else (none)))) else (some (t399, bt402.2.1, bt402.2.2)))))) = some (r1, r2, r3) := H
  have A2 := Aside0.mk A20
  clear A20
  replace H := Option.bind_eq_some_iff.mp H
  obtain ⟨⟨t402, t403, t404⟩, A30, H⟩ := H
  replace H : (if t402 = 0 then ((spec_l01Cur_pick.f s0_0 t403 t404 (t399.size : Int)).bind fun bt405 => (if 0 ≤ bt405.1 then (if bt405.1 ≤ (t399.size : Int) then (if 0 ≤ (wrap64 (bt405.1 + 1)) then (if (wrap64 (bt405.1 + 1)) ≤ (t399.size : Int) then (if (t399.extract 0 (bt405.1 : Int).toNat).size + (t399.extract ((wrap64 (bt405.1 + 1)) : Int).toNat t399.size).size ≤ 9223372036854775807 then (some ((t399.extract 0 (bt405.1 : Int).toNat) ++ (t399.extract ((wrap64 (bt405.1 + 1)) : Int).toNat t399.size), bt405.2.1, bt405.2.2)) else (none)) else (none)) else (none)) else (none)) else (none))) else (if t402 = 1 then ((spec_l01Cur_pick.f s0_0 t403 t404 (wrap64 ((t399.size : Int) + 1))).bind fun bt408 => (if 0 ≤ bt408.1 then (if bt408.1 ≤ (t399.size : Int) then ((some (([(⟨#[46]⟩ : ByteArray), (⟨#[44]⟩ : ByteArray), (⟨#[40]⟩ : ByteArray), (⟨#[41]⟩ : ByteArray), (⟨#[33]⟩ : ByteArray), (⟨#[120]⟩ : ByteArray), (⟨#[88]⟩ : ByteArray), (⟨#[49]⟩ : ByteArray), (⟨#[34]⟩ : ByteArray), (⟨#[58, 45]⟩ : ByteArray), (⟨#[95]⟩ : ByteArray), (⟨#[124]⟩ : ByteArray), (⟨#[35]⟩ : ByteArray), (⟨#[45]⟩ : ByteArray), (⟨#[32]⟩ : ByteArray)] : List ByteArray) : List ByteArray)).bind fun y411 => ((spec_l01Cur_pick.f s0_0 bt408.2.1 bt408.2.2 15).bind fun bt414 => (if 0 ≤ bt414.1 then (if bt414.1 < (y411.length : Int) then (if (t399.extract 0 (bt408.1 : Int).toNat).size + (rdOf ByteArray.empty y411 bt414.1).size ≤ 9223372036854775807 then (if ((t399.extract 0 (bt408.1 : Int).toNat) ++ (rdOf ByteArray.empty y411 bt414.1)).size + (t399.extract (bt408.1 : Int).toNat t399.size).size ≤ 9223372036854775807 then (some (((t399.extract 0 (bt408.1 : Int).toNat) ++ (rdOf ByteArray.empty y411 bt414.1)) ++ (t399.extract (bt408.1 : Int).toNat t399.size), bt414.2.1, bt414.2.2)) else (none)) else (none)) else (none)) else (none)))) else (none)) else (none))) else (if t402 = 2 then ((some (([(⟨#[112, 40, 49, 41]⟩ : ByteArray), (⟨#[112, 40, 41, 46]⟩ : ByteArray), (⟨#[114, 101, 108, 32, 112, 40, 41, 32, 105, 110, 112, 117, 116, 46]⟩ : ByteArray), (⟨#[112, 40, 120, 41, 32, 58, 45, 32, 120, 46]⟩ : ByteArray), (⟨#[112, 40, 120, 41, 32, 58, 45, 32, 113, 40, 120, 41, 44, 32, 46]⟩ : ByteArray), (⟨#[112, 40, 48, 49, 41, 46]⟩ : ByteArray), (⟨#[112, 40, 49, 48, 48, 48, 48, 48, 49, 41, 46]⟩ : ByteArray), (⟨#[112, 40, 34, 97, 41, 46]⟩ : ByteArray), (⟨#[116, 121, 112, 101, 32, 116, 32, 61, 32, 65, 46]⟩ : ByteArray), (⟨#[116, 121, 112, 101, 32, 84, 32, 61, 32, 46]⟩ : ByteArray), (⟨#[114, 101, 108, 32, 80, 40, 110, 117, 109, 98, 101, 114, 41, 46]⟩ : ByteArray), (⟨#[112, 40, 65, 40, 66, 40, 49, 44, 32, 45, 50, 41, 44, 32, 34, 120, 34, 41, 41, 46]⟩ : ByteArray), (⟨#[112, 40, 40, 49, 32, 43, 32, 50, 41, 32, 42, 32, 45, 51, 32, 45, 32, 120, 41, 46]⟩ : ByteArray), (⟨#[112, 40, 120, 41, 32, 58, 45, 32, 33, 120, 32, 60, 32, 49, 46]⟩ : ByteArray), (⟨#[112, 40, 120, 41, 32, 58, 45, 32, 40, 120, 41, 32, 61, 32, 113, 40, 49, 41, 46]⟩ : ByteArray), (⟨#[112, 40, 49, 44, 50, 44, 51, 44, 52, 44, 53, 44, 54, 44, 55, 41, 46]⟩ : ByteArray), (⟨#[114, 101, 108, 32, 113, 40, 110, 117, 109, 98, 101, 114, 32, 115, 121, 109, 98, 111, 108, 41, 46]⟩ : ByteArray), (⟨#[112, 40, 45, 32, 48, 41, 46]⟩ : ByteArray), (⟨#[112, 40, 120, 41, 32, 58, 45, 32, 114, 101, 108, 40, 120, 41, 46]⟩ : ByteArray), (⟨#[97, 98, 99, 100, 101, 102, 103, 104, 105, 106, 107, 108, 109, 110, 111, 112, 113, 114, 115, 116, 117, 40, 49, 41, 46]⟩ : ByteArray), (⟨#[112, 40, 95, 41, 32, 58, 45, 32, 95, 32, 61, 32, 95, 46]⟩ : ByteArray), (⟨#[114, 101, 108, 32, 114, 40, 110, 117, 109, 98, 101, 114, 41, 32, 105, 110, 112, 117, 116, 32, 111, 117, 116, 112, 117, 116, 46]⟩ : ByteArray)] : List ByteArray) : List ByteArray)).bind fun y418 => ((spec_l01Cur_pick.f s0_0 t403 t404 22).bind fun bt421 => (if 0 ≤ bt421.1 then (if bt421.1 < (y418.length : Int) then (if t399.size + (rdOf ByteArray.empty y418 bt421.1).size ≤ 9223372036854775807 then (some (t399 ++ (rdOf ByteArray.empty y418 bt421.1), bt421.2.1, bt421.2.2)) else (none)) else (none)) else (none)))) else (some (t399, t403, t404))))) = some (r1, r2, r3) := H
  have A3 := Aside0.mk A30
  clear A30
  by_cases c4 : t402 = 0
  · rw [if_pos c4] at H
    have c4b0 : (t402 == 0) = true := beq_iff_eq.mpr c4
    have c4b1 : (t402 != 0) = false := bne_eq_false_iff_eq.mpr c4
    clear c4
    replace H := Option.bind_eq_some_iff.mp H
    obtain ⟨⟨t405, t406, t407⟩, A50, H⟩ := H
    replace H : (if 0 ≤ t405 then (if t405 ≤ (t399.size : Int) then (if 0 ≤ (wrap64 (t405 + 1)) then (if (wrap64 (t405 + 1)) ≤ (t399.size : Int) then (if (t399.extract 0 (t405 : Int).toNat).size + (t399.extract ((wrap64 (t405 + 1)) : Int).toNat t399.size).size ≤ 9223372036854775807 then (some ((t399.extract 0 (t405 : Int).toNat) ++ (t399.extract ((wrap64 (t405 + 1)) : Int).toNat t399.size), t406, t407)) else (none)) else (none)) else (none)) else (none)) else (none)) = some (r1, r2, r3) := H
    have A5 := Aside0.mk A50
    clear A50
    by_cases c6 : 0 ≤ t405
    · rw [if_pos c6] at H
      have c6b0 := eq_true c6
      have c6b1 : decide (0 ≤ t405) = true := decide_eq_true c6
      clear c6
      by_cases c7 : t405 ≤ (t399.size : Int)
      · rw [if_pos c7] at H
        have c7b0 := eq_true c7
        have c7b1 : decide (t405 ≤ (t399.size : Int)) = true := decide_eq_true c7
        clear c7
        obtain ⟨ji8, hji8⟩ : ∃ j_ : Int, (wrap64 (t405 + 1)) = j_ := ⟨_, rfl⟩
        replace H : (if 0 ≤ (ji8) then (if (ji8) ≤ (t399.size : Int) then (if (t399.extract 0 (t405 : Int).toNat).size + (t399.extract ((ji8) : Int).toNat t399.size).size ≤ 9223372036854775807 then (some ((t399.extract 0 (t405 : Int).toNat) ++ (t399.extract ((ji8) : Int).toNat t399.size), t406, t407)) else (none)) else (none)) else (none)) = some (r1, r2, r3) := by first | (rw [hji8] at H; exact H) | (simp only [hji8] at H ⊢; exact H)
        (try rw [hji8] at A2)
        (try rw [hji8] at A3)
        (try rw [hji8] at A5)
        have hji8w : (IntKind.i64.wrap (t405 + 1)) = ji8 := (i64_w _).trans hji8
        by_cases c9 : 0 ≤ (ji8)
        · rw [if_pos c9] at H
          have c9b0 := eq_true c9
          have c9b1 : decide (0 ≤ (ji8)) = true := decide_eq_true c9
          clear c9
          by_cases c10 : (ji8) ≤ (t399.size : Int)
          · rw [if_pos c10] at H
            have c10b0 := eq_true c10
            have c10b1 : decide ((ji8) ≤ (t399.size : Int)) = true := decide_eq_true c10
            clear c10
            by_cases c11 : (t399.extract 0 (t405 : Int).toNat).size + (t399.extract ((ji8) : Int).toNat t399.size).size ≤ 9223372036854775807
            · rw [if_pos c11] at H
              have c11b0 := eq_true c11
              have c11b1 : decide ((t399.extract 0 (t405 : Int).toNat).size + (t399.extract ((ji8) : Int).toNat t399.size).size ≤ 9223372036854775807) = true := decide_eq_true c11
              try have c11b2 : (9223372036854775807 < (t399.extract 0 (t405 : Int).toNat).size + (t399.extract ((ji8) : Int).toNat t399.size).size) = False := eq_false (Nat.not_lt.2 c11)
              try have c11b6 : (9223372036854775807 < (t405 : Int).toNat + (t399.size - ((ji8) : Int).toNat)) = False := (congrArg (fun n_ => (9223372036854775807 < n_)) (show (t405 : Int).toNat + (t399.size - ((ji8) : Int).toNat) = (t399.extract 0 (t405 : Int).toNat).size + (t399.extract ((ji8) : Int).toNat t399.size).size by (simp only [ByteArray.size_append, (show (t399.extract 0 (t405 : Int).toNat).size = (t405 : Int).toNat from by rw [ByteArray.size_extract, Nat.sub_zero]; exact Nat.min_eq_left (Int.toNat_le.2 (of_eq_true (by assumption)))), (show (t399.extract ((ji8) : Int).toNat t399.size).size = t399.size - ((ji8) : Int).toNat from by rw [ByteArray.size_extract, Nat.min_self])]; try rfl))).trans c11b2
              simp only [Option.some.injEq, Prod.mk.injEq] at H
              obtain ⟨rfl, rfl, rfl⟩ := H
              go_enter Tryd.func83, Tryd.ntmps83
              try go_wp2_with (first | ((with_reducible refine gate_callee (f := 109) rfl ?_); refine goesL_ (some 7) rfl rfl Tryd.func109 (by kernel_rfl) rfl #[.pointer (some ⟨g, 0, none⟩)] rfl (by (try simp only [List.map_toArray, List.map_cons, List.map_nil]); first | done | rfl | (simp only [List.length_drop, List.length_take]; rfl)) ?_; (with_reducible refine (spec_l01Cur_program.calls k g s0_0 s0_1 s0_2 t399 t400 t401 w0 _ ?side1 ?side2 A2.out).mono ?_); (case side1 => repeat (first | (with_reducible first | exact HI0.out | apply IsS92.alloc | apply IsS92.drewN | apply IsS92.drew | apply IsS92.set_1 | apply IsS92.set_2) | exact HI0.out)); (case side2 => repeat (first | (with_reducible first | exact HB.out | apply below_alloc | apply pw_below_drewN | apply below_drew1 | refine below_set ?_ (IsS92.ge HI0.out)) | exact HB.out)); rintro e w12 ⟨rfl, hi, hb, hk⟩; refine ⟨_, rfl, ?_⟩; have n0_ := Aside0.mk (KeepBut.trans (by repeat (first | (with_reducible first | exact HK.out | apply KeepBut.set_ | apply keep_drewN | apply keep_drew | apply keep_alloc) | exact HK.out)) hk (.inl rfl)); have n1_ := Aside0.mk (hb); have n2_ := Aside0.mk (hi); clear HK; clear HB; clear HI0; have HK := n0_; have HB := n1_; have HI0 := n2_; clear n0_ n1_ n2_; (try clear hb); (try clear hb2); (try clear hk); (try clear hi)) | ((with_reducible refine gate_callee (f := 70) rfl ?_); refine goesL_ (some 9) rfl rfl Tryd.func70 (by kernel_rfl) rfl #[.pointer (some ⟨g, 0, none⟩), .int .i64 8] rfl (by (try simp only [List.map_toArray, List.map_cons, List.map_nil]); first | done | rfl | (simp only [List.length_drop, List.length_take]; rfl)) ?_; (with_reducible refine (spec_l01Cur_pick.calls g s0_0 t400 t401 8 t402 t403 t404 w0 _ ?side1 ?side2 A3.out).mono ?_); (case side1 => repeat (first | (with_reducible first | exact HI0.out | apply IsS92.alloc | apply IsS92.drewN | apply IsS92.drew | apply IsS92.set_1 | apply IsS92.set_2) | exact HI0.out)); (case side2 => repeat (first | (with_reducible first | exact HB.out | apply below_alloc | apply pw_below_drewN | apply below_drew1 | refine below_set ?_ (IsS92.ge HI0.out)) | exact HB.out)); rintro e w13 ⟨rfl, hi, hb, hk⟩; refine ⟨_, rfl, ?_⟩; have n0_ := Aside0.mk (KeepBut.trans (by repeat (first | (with_reducible first | exact HK.out | apply KeepBut.set_ | apply keep_drewN | apply keep_drew | apply keep_alloc) | exact HK.out)) hk (.inl rfl)); have n1_ := Aside0.mk (hb); have n2_ := Aside0.mk (hi); clear HK; clear HB; clear HI0; have HK := n0_; have HB := n1_; have HI0 := n2_; clear n0_ n1_ n2_; (try clear hb); (try clear hb2); (try clear hk); (try clear hi)) | ((with_reducible refine gate_callee (f := 70) rfl ?_); refine goesL_ (some 15) rfl rfl Tryd.func70 (by kernel_rfl) rfl #[.pointer (some ⟨g, 0, none⟩), .int .i64 (t399.size : Int)] rfl (by (try simp only [List.map_toArray, List.map_cons, List.map_nil]); first | done | rfl | (simp only [List.length_drop, List.length_take]; rfl)) ?_; (with_reducible refine (spec_l01Cur_pick.calls g s0_0 t403 t404 (t399.size : Int) t405 t406 t407 w0 _ ?side1 ?side2 A5.out).mono ?_); (case side1 => repeat (first | (with_reducible first | exact HI0.out | apply IsS92.alloc | apply IsS92.drewN | apply IsS92.drew | apply IsS92.set_1 | apply IsS92.set_2) | exact HI0.out)); (case side2 => repeat (first | (with_reducible first | exact HB.out | apply below_alloc | apply pw_below_drewN | apply below_drew1 | refine below_set ?_ (IsS92.ge HI0.out)) | exact HB.out)); rintro e w14 ⟨rfl, hi, hb, hk⟩; refine ⟨_, rfl, ?_⟩; have n0_ := Aside0.mk (KeepBut.trans (by repeat (first | (with_reducible first | exact HK.out | apply KeepBut.set_ | apply keep_drewN | apply keep_drew | apply keep_alloc) | exact HK.out)) hk (.inl rfl)); have n1_ := Aside0.mk (hb); have n2_ := Aside0.mk (hi); clear HK; clear HB; clear HI0; have HK := n0_; have HB := n1_; have HI0 := n2_; clear n0_ n1_ n2_; (try clear hb); (try clear hb2); (try clear hk); (try clear hi)))
              have n0_ := Aside0.mk (IsS92.drew HI0.out)
              have n1_ := Aside0.mk (keep_drew HK.out)
              have n2_ := Aside0.mk (below_drew1 HB.out)
              clear HI0
              clear HK
              clear HB
              have HI0 := n0_
              have HK := n1_
              have HB := n2_
              clear n0_ n1_ n2_
              refine start_ (n := 9) (S := fun w' => True) (ds := []) #[false, false, false, false, false, false, false, false, false] (by kernel_rfl) rfl rfl trivial (fun hHeld => ?_); refine with_tabW spec_l01Cur_source.tab5 spec_l01Cur_source.bits5 (fun HT_ HW_ => ?_)
              generalize w14.drew = w15 at HI0 HK HB hHeld ⊢
              refine pure_ (i := 0) (N := some 16) (v := ?_) (a' := ?_) #[true, false, false, false, false, false, false, false, false] rfl rfl (any_of HT_.out (by kernel_rfl)) (fun _ _ _ h => h) (Or.inl ⟨by rfl, ?_⟩) ?_ ?_
              rotate_left
              · intro w'
                go_simp
                with_reducible rfl
              rotate_left
              · simp only [Act.put, List.setIfInBounds_toArray, List.set_cons_zero, List.set_cons_succ, i64_w, i32_w]
                rfl
              refine pure_ (i := 1) (N := some 17) (v := ?_) (a' := ?_) #[true, true, false, false, false, false, false, false, false] rfl rfl (any_of HT_.out (by kernel_rfl)) (fun _ _ _ h => h) (Or.inl ⟨by rfl, ?_⟩) ?_ ?_
              rotate_left
              · intro w'
                go_simp
                with_reducible rfl
              rotate_left
              · simp only [Act.put, List.setIfInBounds_toArray, List.set_cons_zero, List.set_cons_succ, i64_w, i32_w]
                rfl
              refine pure_ (i := 2) (N := some 18) (v := ?_) (a' := ?_) #[true, true, true, false, false, false, false, false, false] rfl rfl (any_of HT_.out (by kernel_rfl)) (fun _ _ _ h => h) (Or.inl ⟨by rfl, ?_⟩) ?_ ?_
              rotate_left
              · intro w'
                go_simp
                with_reducible rfl
              rotate_left
              · simp only [Act.put, List.setIfInBounds_toArray, List.set_cons_zero, List.set_cons_succ, i64_w, i32_w]
                rfl
              refine pure_ (i := 3) (N := some 19) (v := ?_) (a' := ?_) #[true, true, true, true, false, false, false, false, false] rfl rfl (any_of HT_.out (by kernel_rfl)) (fun _ _ _ h => h) (Or.inl ⟨by rfl, ?_⟩) ?_ ?_
              rotate_left
              · intro w'
                go_simp
                with_reducible rfl
              rotate_left
              · simp only [Act.put, List.setIfInBounds_toArray, List.set_cons_zero, List.set_cons_succ, i64_w, i32_w]
                rfl
              refine pure_ (i := 4) (N := some 20) (v := ?_) (a' := ?_) #[true, true, true, true, true, false, false, false, false] rfl rfl (any_of HT_.out (by kernel_rfl)) (fun _ _ _ h => h) (Or.inl ⟨by rfl, ?_⟩) ?_ ?_
              rotate_left
              · intro w'
                go_simp
                with_reducible rfl
              rotate_left
              · simp only [Act.put, List.setIfInBounds_toArray, List.set_cons_zero, List.set_cons_succ, i64_w, i32_w]
                rfl
              refine pure_ (i := 5) (N := some 21) (v := ?_) (a' := ?_) #[true, true, true, true, true, true, false, false, false] rfl rfl (any_of HT_.out (by kernel_rfl)) (fun _ _ _ h => h) (Or.inl ⟨by rfl, ?_⟩) ?_ ?_
              rotate_left
              · intro w'
                go_simp
                with_reducible rfl
              rotate_left
              · simp only [Act.put, List.setIfInBounds_toArray, List.set_cons_zero, List.set_cons_succ, i64_w, i32_w]
                rfl
              refine pure_ (i := 6) (N := some 22) (v := ?_) (a' := ?_) #[true, true, true, true, true, true, true, false, false] rfl rfl (any_of HT_.out (by kernel_rfl)) (fun _ _ _ h => h) (Or.inl ⟨by rfl, ?_⟩) ?_ ?_
              rotate_left
              · intro w'
                go_simp
                with_reducible rfl
              rotate_left
              · simp only [Act.put, List.setIfInBounds_toArray, List.set_cons_zero, List.set_cons_succ, i64_w, i32_w]
                rfl
              refine pure_ (i := 7) (N := some 23) (v := ?_) (a' := ?_) #[true, true, true, true, true, true, true, true, false] rfl rfl (any_of HT_.out (by kernel_rfl)) (fun _ _ _ h => h) (Or.inl ⟨by rfl, ?_⟩) ?_ ?_
              rotate_left
              · intro w'
                go_simp
                with_reducible rfl
              rotate_left
              · simp only [Act.put, List.setIfInBounds_toArray, List.set_cons_zero, List.set_cons_succ, i64_w, i32_w]
                rfl
              refine pure_ (i := 8) (N := some 2) (v := ?_) (a' := ?_) #[true, true, true, true, true, true, true, true, true] rfl rfl (any_of HT_.out (by kernel_rfl)) (fun _ _ _ h => h) (Or.inl ⟨by rfl, ?_⟩) ?_ ?_
              rotate_left
              · intro w'
                go_simp
                with_reducible rfl
              rotate_left
              · simp only [Act.put, List.setIfInBounds_toArray, List.set_cons_zero, List.set_cons_succ, i64_w, i32_w]
                rfl
              refine done_ (done_of HT_.out (by kernel_rfl)) ?_
              try go_wp2
              go_ret
              exact ⟨by first | rfl | (simp [errW_none, errW_some] <;> rfl) | (simp only [← hji8]; first | rfl | (simp [errW_none, errW_some] <;> rfl)) | (simp [*, errW_none, errW_some] <;> rfl), by repeat (first | (with_reducible first | exact HI0.out | apply IsS92.alloc | apply IsS92.drewN | apply IsS92.drew | apply IsS92.set_1 | apply IsS92.set_2) | exact HI0.out), by repeat (first | (with_reducible first | exact HB.out | apply below_alloc | apply pw_below_drewN | apply below_drew1 | refine below_set ?_ (IsS92.ge HI0.out)) | exact HB.out), by repeat (first | (with_reducible first | exact HK.out | apply KeepBut.set_ | apply keep_drewN | apply keep_drew | apply keep_alloc) | exact HK.out)⟩
            · rw [if_neg c11] at H
              exact absurd H (by simp)
          · rw [if_neg c10] at H
            exact absurd H (by simp)
        · rw [if_neg c9] at H
          exact absurd H (by simp)
      · rw [if_neg c7] at H
        exact absurd H (by simp)
    · rw [if_neg c6] at H
      exact absurd H (by simp)
  · rw [if_neg c4] at H
    have c4b0 : (t402 == 0) = false := beq_eq_false_iff_ne.mpr c4
    have c4b1 : (t402 != 0) = true := bne_iff_ne.mpr c4
    by_cases c16 : t402 = 1
    · rw [if_pos c16] at H
      have c16b0 : (t402 == 1) = true := beq_iff_eq.mpr c16
      have c16b1 : (t402 != 1) = false := bne_eq_false_iff_eq.mpr c16
      clear c16
      replace H := Option.bind_eq_some_iff.mp H
      obtain ⟨⟨t408, t409, t410⟩, A170, H⟩ := H
      replace H : (if 0 ≤ t408 then (if t408 ≤ (t399.size : Int) then ((some (([(⟨#[46]⟩ : ByteArray), (⟨#[44]⟩ : ByteArray), (⟨#[40]⟩ : ByteArray), (⟨#[41]⟩ : ByteArray), (⟨#[33]⟩ : ByteArray), (⟨#[120]⟩ : ByteArray), (⟨#[88]⟩ : ByteArray), (⟨#[49]⟩ : ByteArray), (⟨#[34]⟩ : ByteArray), (⟨#[58, 45]⟩ : ByteArray), (⟨#[95]⟩ : ByteArray), (⟨#[124]⟩ : ByteArray), (⟨#[35]⟩ : ByteArray), (⟨#[45]⟩ : ByteArray), (⟨#[32]⟩ : ByteArray)] : List ByteArray) : List ByteArray)).bind fun y411 => ((spec_l01Cur_pick.f s0_0 t409 t410 15).bind fun bt414 => (if 0 ≤ bt414.1 then (if bt414.1 < (y411.length : Int) then (if (t399.extract 0 (t408 : Int).toNat).size + (rdOf ByteArray.empty y411 bt414.1).size ≤ 9223372036854775807 then (if ((t399.extract 0 (t408 : Int).toNat) ++ (rdOf ByteArray.empty y411 bt414.1)).size + (t399.extract (t408 : Int).toNat t399.size).size ≤ 9223372036854775807 then (some (((t399.extract 0 (t408 : Int).toNat) ++ (rdOf ByteArray.empty y411 bt414.1)) ++ (t399.extract (t408 : Int).toNat t399.size), bt414.2.1, bt414.2.2)) else (none)) else (none)) else (none)) else (none)))) else (none)) else (none)) = some (r1, r2, r3) := H
      have A17 := Aside0.mk A170
      clear A170
      by_cases c18 : 0 ≤ t408
      · rw [if_pos c18] at H
        have c18b0 := eq_true c18
        have c18b1 : decide (0 ≤ t408) = true := decide_eq_true c18
        clear c18
        by_cases c19 : t408 ≤ (t399.size : Int)
        · rw [if_pos c19] at H
          have c19b0 := eq_true c19
          have c19b1 : decide (t408 ≤ (t399.size : Int)) = true := decide_eq_true c19
          clear c19
          obtain ⟨y411, hy411⟩ : ∃ y_ : List ByteArray, y_ = (([(⟨#[46]⟩ : ByteArray), (⟨#[44]⟩ : ByteArray), (⟨#[40]⟩ : ByteArray), (⟨#[41]⟩ : ByteArray), (⟨#[33]⟩ : ByteArray), (⟨#[120]⟩ : ByteArray), (⟨#[88]⟩ : ByteArray), (⟨#[49]⟩ : ByteArray), (⟨#[34]⟩ : ByteArray), (⟨#[58, 45]⟩ : ByteArray), (⟨#[95]⟩ : ByteArray), (⟨#[124]⟩ : ByteArray), (⟨#[35]⟩ : ByteArray), (⟨#[45]⟩ : ByteArray), (⟨#[32]⟩ : ByteArray)] : List ByteArray)) := ⟨_, rfl⟩
          replace H : ((spec_l01Cur_pick.f s0_0 t409 t410 15).bind fun bt414 => (if 0 ≤ bt414.1 then (if bt414.1 < (y411.length : Int) then (if (t399.extract 0 (t408 : Int).toNat).size + (rdOf ByteArray.empty y411 bt414.1).size ≤ 9223372036854775807 then (if ((t399.extract 0 (t408 : Int).toNat) ++ (rdOf ByteArray.empty y411 bt414.1)).size + (t399.extract (t408 : Int).toNat t399.size).size ≤ 9223372036854775807 then (some (((t399.extract 0 (t408 : Int).toNat) ++ (rdOf ByteArray.empty y411 bt414.1)) ++ (t399.extract (t408 : Int).toNat t399.size), bt414.2.1, bt414.2.2)) else (none)) else (none)) else (none)) else (none))) = some (r1, r2, r3) := by first | (rw [hy411]; with_reducible exact H) | (have H2_ := (Option.bind_some _ _).symm.trans H; rw [hy411]; with_reducible exact H2_) | (have H2_ := (Option.bind_some _ _).symm.trans H; with_reducible exact H2_) | with_reducible exact H | (rw [hy411]; exact H) | exact H
          have Ny411 := Aside0.mk hy411
          clear hy411
          replace H := Option.bind_eq_some_iff.mp H
          obtain ⟨⟨t414, t415, t416⟩, A200, H⟩ := H
          replace H : (if 0 ≤ t414 then (if t414 < (y411.length : Int) then (if (t399.extract 0 (t408 : Int).toNat).size + (rdOf ByteArray.empty y411 t414).size ≤ 9223372036854775807 then (if ((t399.extract 0 (t408 : Int).toNat) ++ (rdOf ByteArray.empty y411 t414)).size + (t399.extract (t408 : Int).toNat t399.size).size ≤ 9223372036854775807 then (some (((t399.extract 0 (t408 : Int).toNat) ++ (rdOf ByteArray.empty y411 t414)) ++ (t399.extract (t408 : Int).toNat t399.size), t415, t416)) else (none)) else (none)) else (none)) else (none)) = some (r1, r2, r3) := H
          have A20 := Aside0.mk A200
          clear A200
          by_cases c21 : 0 ≤ t414
          · rw [if_pos c21] at H
            have c21b0 : decide (0 ≤ t414) = true := decide_eq_true c21
            clear c21
            by_cases c22 : t414 < (y411.length : Int)
            · rw [if_pos c22] at H
              have c22b0 : decide (t414 < (y411.length : Int)) = true := decide_eq_true c22
              clear c22
              by_cases c23 : (t399.extract 0 (t408 : Int).toNat).size + (rdOf ByteArray.empty y411 t414).size ≤ 9223372036854775807
              · rw [if_pos c23] at H
                have c23b0 := eq_true c23
                have c23b1 : decide ((t399.extract 0 (t408 : Int).toNat).size + (rdOf ByteArray.empty y411 t414).size ≤ 9223372036854775807) = true := decide_eq_true c23
                try have c23b2 : (9223372036854775807 < (t399.extract 0 (t408 : Int).toNat).size + (rdOf ByteArray.empty y411 t414).size) = False := eq_false (Nat.not_lt.2 c23)
                try have c23b6 : (9223372036854775807 < (t408 : Int).toNat + (rdOf ByteArray.empty y411 t414).size) = False := (congrArg (fun n_ => (9223372036854775807 < n_)) (show (t408 : Int).toNat + (rdOf ByteArray.empty y411 t414).size = (t399.extract 0 (t408 : Int).toNat).size + (rdOf ByteArray.empty y411 t414).size by (simp only [ByteArray.size_append, (show (t399.extract 0 (t408 : Int).toNat).size = (t408 : Int).toNat from by rw [ByteArray.size_extract, Nat.sub_zero]; exact Nat.min_eq_left (Int.toNat_le.2 (of_eq_true (by assumption))))]; try rfl))).trans c23b2
                have c24b0 := eq_true (of_decide_eq_true (by first | (with_reducible assumption) | assumption) : 0 ≤ t408)
                have c25b0 := eq_true (of_decide_eq_true (by first | (with_reducible assumption) | assumption) : t408 ≤ (t399.size : Int))
                by_cases c26 : ((t399.extract 0 (t408 : Int).toNat) ++ (rdOf ByteArray.empty y411 t414)).size + (t399.extract (t408 : Int).toNat t399.size).size ≤ 9223372036854775807
                · rw [if_pos c26] at H
                  have c26b0 := eq_true c26
                  have c26b1 : decide (((t399.extract 0 (t408 : Int).toNat) ++ (rdOf ByteArray.empty y411 t414)).size + (t399.extract (t408 : Int).toNat t399.size).size ≤ 9223372036854775807) = true := decide_eq_true c26
                  try have c26b2 : (9223372036854775807 < ((t399.extract 0 (t408 : Int).toNat) ++ (rdOf ByteArray.empty y411 t414)).size + (t399.extract (t408 : Int).toNat t399.size).size) = False := eq_false (Nat.not_lt.2 c26)
                  try have c26b3 : (9223372036854775807 < (t399.extract 0 (t408 : Int).toNat).size + (rdOf ByteArray.empty y411 t414).size + (t399.extract (t408 : Int).toNat t399.size).size) = False := (congrArg (fun n_ => (9223372036854775807 < n_)) (show (t399.extract 0 (t408 : Int).toNat).size + (rdOf ByteArray.empty y411 t414).size + (t399.extract (t408 : Int).toNat t399.size).size = ((t399.extract 0 (t408 : Int).toNat) ++ (rdOf ByteArray.empty y411 t414)).size + (t399.extract (t408 : Int).toNat t399.size).size by (simp only [ByteArray.size_append]; try rfl))).trans c26b2
                  try have c26b6 : (9223372036854775807 < (t408 : Int).toNat + (rdOf ByteArray.empty y411 t414).size + (t399.size - (t408 : Int).toNat)) = False := (congrArg (fun n_ => (9223372036854775807 < n_)) (show (t408 : Int).toNat + (rdOf ByteArray.empty y411 t414).size + (t399.size - (t408 : Int).toNat) = ((t399.extract 0 (t408 : Int).toNat) ++ (rdOf ByteArray.empty y411 t414)).size + (t399.extract (t408 : Int).toNat t399.size).size by (simp only [ByteArray.size_append, (show (t399.extract 0 (t408 : Int).toNat).size = (t408 : Int).toNat from by rw [ByteArray.size_extract, Nat.sub_zero]; exact Nat.min_eq_left (Int.toNat_le.2 (of_eq_true (by assumption)))), (show (t399.extract (t408 : Int).toNat t399.size).size = t399.size - (t408 : Int).toNat from by rw [ByteArray.size_extract, Nat.min_self])]; try rfl))).trans c26b2
                  simp only [Option.some.injEq, Prod.mk.injEq] at H
                  obtain ⟨rfl, rfl, rfl⟩ := H
                  go_enter Tryd.func83, Tryd.ntmps83
                  try go_wp2_with (first | ((with_reducible refine gate_callee (f := 109) rfl ?_); refine goesL_ (some 7) rfl rfl Tryd.func109 (by kernel_rfl) rfl #[.pointer (some ⟨g, 0, none⟩)] rfl (by (try simp only [List.map_toArray, List.map_cons, List.map_nil]); first | done | rfl | (simp only [List.length_drop, List.length_take]; rfl)) ?_; (with_reducible refine (spec_l01Cur_program.calls k g s0_0 s0_1 s0_2 t399 t400 t401 w0 _ ?side1 ?side2 A2.out).mono ?_); (case side1 => repeat (first | (with_reducible first | exact HI0.out | apply IsS92.alloc | apply IsS92.drewN | apply IsS92.drew | apply IsS92.set_1 | apply IsS92.set_2) | exact HI0.out)); (case side2 => repeat (first | (with_reducible first | exact HB.out | apply below_alloc | apply pw_below_drewN | apply below_drew1 | refine below_set ?_ (IsS92.ge HI0.out)) | exact HB.out)); rintro e w27 ⟨rfl, hi, hb, hk⟩; refine ⟨_, rfl, ?_⟩; have n0_ := Aside0.mk (KeepBut.trans (by repeat (first | (with_reducible first | exact HK.out | apply KeepBut.set_ | apply keep_drewN | apply keep_drew | apply keep_alloc) | exact HK.out)) hk (.inl rfl)); have n1_ := Aside0.mk (hb); have n2_ := Aside0.mk (hi); clear HK; clear HB; clear HI0; have HK := n0_; have HB := n1_; have HI0 := n2_; clear n0_ n1_ n2_; (try clear hb); (try clear hb2); (try clear hk); (try clear hi)) | ((with_reducible refine gate_callee (f := 70) rfl ?_); refine goesL_ (some 9) rfl rfl Tryd.func70 (by kernel_rfl) rfl #[.pointer (some ⟨g, 0, none⟩), .int .i64 8] rfl (by (try simp only [List.map_toArray, List.map_cons, List.map_nil]); first | done | rfl | (simp only [List.length_drop, List.length_take]; rfl)) ?_; (with_reducible refine (spec_l01Cur_pick.calls g s0_0 t400 t401 8 t402 t403 t404 w0 _ ?side1 ?side2 A3.out).mono ?_); (case side1 => repeat (first | (with_reducible first | exact HI0.out | apply IsS92.alloc | apply IsS92.drewN | apply IsS92.drew | apply IsS92.set_1 | apply IsS92.set_2) | exact HI0.out)); (case side2 => repeat (first | (with_reducible first | exact HB.out | apply below_alloc | apply pw_below_drewN | apply below_drew1 | refine below_set ?_ (IsS92.ge HI0.out)) | exact HB.out)); rintro e w28 ⟨rfl, hi, hb, hk⟩; refine ⟨_, rfl, ?_⟩; have n0_ := Aside0.mk (KeepBut.trans (by repeat (first | (with_reducible first | exact HK.out | apply KeepBut.set_ | apply keep_drewN | apply keep_drew | apply keep_alloc) | exact HK.out)) hk (.inl rfl)); have n1_ := Aside0.mk (hb); have n2_ := Aside0.mk (hi); clear HK; clear HB; clear HI0; have HK := n0_; have HB := n1_; have HI0 := n2_; clear n0_ n1_ n2_; (try clear hb); (try clear hb2); (try clear hk); (try clear hi)) | ((with_reducible refine gate_callee (f := 70) rfl ?_); refine goesL_ (some 30) rfl rfl Tryd.func70 (by kernel_rfl) rfl #[.pointer (some ⟨g, 0, none⟩), .int .i64 (wrap64 ((t399.size : Int) + 1))] rfl (by (try simp only [List.map_toArray, List.map_cons, List.map_nil]); first | done | rfl | (simp only [List.length_drop, List.length_take]; rfl)) ?_; (with_reducible refine (spec_l01Cur_pick.calls g s0_0 t403 t404 (wrap64 ((t399.size : Int) + 1)) t408 t409 t410 w0 _ ?side1 ?side2 A17.out).mono ?_); (case side1 => repeat (first | (with_reducible first | exact HI0.out | apply IsS92.alloc | apply IsS92.drewN | apply IsS92.drew | apply IsS92.set_1 | apply IsS92.set_2) | exact HI0.out)); (case side2 => repeat (first | (with_reducible first | exact HB.out | apply below_alloc | apply pw_below_drewN | apply below_drew1 | refine below_set ?_ (IsS92.ge HI0.out)) | exact HB.out)); rintro e w29 ⟨rfl, hi, hb, hk⟩; refine ⟨_, rfl, ?_⟩; have n0_ := Aside0.mk (KeepBut.trans (by repeat (first | (with_reducible first | exact HK.out | apply KeepBut.set_ | apply keep_drewN | apply keep_drew | apply keep_alloc) | exact HK.out)) hk (.inl rfl)); have n1_ := Aside0.mk (hb); have n2_ := Aside0.mk (hi); clear HK; clear HB; clear HI0; have HK := n0_; have HB := n1_; have HI0 := n2_; clear n0_ n1_ n2_; (try clear hb); (try clear hb2); (try clear hk); (try clear hi)))
                  have pi417 : (0 ≤ (t414 : Int)) = True := eq_true (of_decide_eq_true (by first | (with_reducible assumption) | assumption))
                  have qi417 : (t414 < (y411.length : Int)) = True := eq_true (of_decide_eq_true (by first | (with_reducible assumption) | assumption))
                  have n0_ := Aside0.mk (IsS92.drew HI0.out)
                  have n1_ := Aside0.mk (keep_drew HK.out)
                  have n2_ := Aside0.mk (below_drew1 HB.out)
                  clear HI0
                  clear HK
                  clear HB
                  have HI0 := n0_
                  have HK := n1_
                  have HB := n2_
                  clear n0_ n1_ n2_
                  refine start_ (n := 14) (S := fun w' => True) (ds := []) #[false, false, false, false, false, false, false, false, false, false, false, false, false, false] (by kernel_rfl) rfl rfl trivial (fun hHeld => ?_); refine with_tabW spec_l01Cur_source.tab8 spec_l01Cur_source.bits8 (fun HT_ HW_ => ?_)
                  generalize w29.drew = w30 at HI0 HK HB hHeld ⊢
                  refine pure_ (i := 0) (N := some 31) (v := ?_) (a' := ?_) #[true, false, false, false, false, false, false, false, false, false, false, false, false, false] rfl rfl (any_of HT_.out (by kernel_rfl)) (fun _ _ _ h => h) (Or.inl ⟨by rfl, ?_⟩) ?_ ?_
                  rotate_left
                  · intro w'
                    go_simp
                    with_reducible rfl
                  rotate_left
                  · simp only [Act.put, List.setIfInBounds_toArray, List.set_cons_zero, List.set_cons_succ, i64_w, i32_w]
                    rfl
                  refine pure_ (i := 1) (N := some 32) (v := ?_) (a' := ?_) #[true, true, false, false, false, false, false, false, false, false, false, false, false, false] rfl rfl (any_of HT_.out (by kernel_rfl)) (fun _ _ _ h => h) (Or.inl ⟨by rfl, ?_⟩) ?_ ?_
                  rotate_left
                  · intro w'
                    go_simp
                    with_reducible rfl
                  rotate_left
                  · simp only [Act.put, List.setIfInBounds_toArray, List.set_cons_zero, List.set_cons_succ, i64_w, i32_w]
                    rfl
                  refine pure_ (i := 4) (N := some 35) (v := ?_) (a' := ?_) #[true, true, false, false, true, false, false, false, false, false, false, false, false, false] rfl rfl (any_of HT_.out (by kernel_rfl)) (fun _ _ _ h => h) (Or.inl ⟨by rfl, ?_⟩) ?_ ?_
                  rotate_left
                  · intro w'
                    go_simp
                    with_reducible rfl
                  rotate_left
                  · simp only [Act.put, List.setIfInBounds_toArray, List.set_cons_zero, List.set_cons_succ, i64_w, i32_w]
                    rfl
                  refine pure_ (i := 9) (N := some 40) (v := ?_) (a' := ?_) #[true, true, false, false, true, false, false, false, false, true, false, false, false, false] rfl rfl (any_of HT_.out (by kernel_rfl)) (fun _ _ _ h => h) (Or.inl ⟨by rfl, ?_⟩) ?_ ?_
                  rotate_left
                  · intro w'
                    go_simp
                    with_reducible rfl
                  rotate_left
                  · simp only [Act.put, List.setIfInBounds_toArray, List.set_cons_zero, List.set_cons_succ, i64_w, i32_w]
                    rfl
                  refine pure_ (i := 10) (N := some 41) (v := ?_) (a' := ?_) #[true, true, false, false, true, false, false, false, false, true, true, false, false, false] rfl rfl (any_of HT_.out (by kernel_rfl)) (fun _ _ _ h => h) (Or.inl ⟨by rfl, ?_⟩) ?_ ?_
                  rotate_left
                  · intro w'
                    go_simp
                    with_reducible rfl
                  rotate_left
                  · simp only [Act.put, List.setIfInBounds_toArray, List.set_cons_zero, List.set_cons_succ, i64_w, i32_w]
                    rfl
                  refine inv_at [2, 3, 5, 6, 7, 8, 11, 12, 13] (fun a0_ b a w' => ∃ (v412 : Value) (adz_v412 : Addr) (m6_ : Value), a = putSel a0_ b [(2, 33, .string (t399.extract 0 (t408 : Int).toNat)), (3, 34, v412), (5, 36, .int .i64 t414), (6, 37, m6_), (7, 38, .string (rdOf ByteArray.empty y411 t414)), (8, 39, .string ((t399.extract 0 (t408 : Int).toNat) ++ (rdOf ByteArray.empty y411 t414))), (11, 42, .string (t399.extract (t408 : Int).toNat t399.size)), (12, 43, .string (((t399.extract 0 (t408 : Int).toNat) ++ (rdOf ByteArray.empty y411 t414)) ++ (t399.extract (t408 : Int).toNat t399.size))), (13, 2, .string (((t399.extract 0 (t408 : Int).toNat) ++ (rdOf ByteArray.empty y411 t414)) ++ (t399.extract (t408 : Int).toNat t399.size)))] ∧ (b 5 = false → IsS92 w0 w' g s0_0 t409 t410) ∧ (KeepBut w w' g none) ∧ (Below w0.heap.size w0 w') ∧ (b 3 = true → Kd.R Kd.string 9 w' w.heap.size (fun _ => True) v412 y411) ∧ (b 3 = true → ∃ c_, (v412 : Value) = .slice (some adz_v412) y411.length c_) ∧ (b 5 = true → IsS92 w0 w' g s0_0 t415 t416) ∧ (b 6 = true → (m6_ : Value) = .pointer (some (adz_v412.add (t414).toNat)))) HT_.out HW_.out (by kernel_rfl) (by kernel_rfl) ?_ ?_ ?_
                  · exact ⟨.bool false, ⟨0, 0, none⟩, .bool false, by simp only [putSel, Bool.false_eq_true, if_false], fun _ => HI0.out, HK.out, HB.out, fun h_ => absurd h_ (by decide), fun h_ => absurd h_ (by decide), fun h_ => absurd h_ (by decide), fun h_ => absurd h_ (by decide)⟩
                  · skip
                    clear HB HI0 HK
                    refine steps_cons ?_ ?_
                    · rintro b a w' ⟨v412, adz_v412, m6_, ha, Q_HI0, Q_HK, Q_HB, Q_HO413, Q_HA_HO413, Q_HI0_e5, Q_X6_⟩ hb_ hon hoff
                      refine ⟨_, rfl, fun K hK => ?_⟩
                      have e31 : a.tmps[31]? = some (.string t399) := by rw [ha]; exact (putSel_off rfl).trans rfl
                      have e32 : a.tmps[32]? = some (.int .i64 t408) := by rw [ha]; exact (putSel_off rfl).trans rfl
                      replace ha := Aside0.mk ha
                      have HK := Aside0.mk Q_HK
                      have HB := Aside0.mk Q_HB
                      refine value_ (w1 := w') (v := .string (t399.extract 0 (t408 : Int).toNat)) (by rfl) rfl ?_ ?_
                      · go_simp
                        (try simp only [i64_w])
                        try first | rfl | (have hz_ := c11; (try have hy5_ := of_eq_true c5b0); (try have hy6_ := of_eq_true c6b0); (try have hy7_ := of_eq_true c7b0); (try have hy8_ := of_eq_true c8b0); (try have hy9_ := of_eq_true c9b0); (try have hy10_ := of_eq_true c10b0); (try have hy11_ := of_eq_true c11b0); (try simp only [ByteArray.size_append, ByteArray.size_extract] at hz_); omega) | (have hz_ := c23; (try have hy17_ := of_eq_true c17b0); (try have hy18_ := of_eq_true c18b0); (try have hy19_ := of_eq_true c19b0); (try have hy20_ := of_eq_true c20b0); (try have hy21_ := of_eq_true c21b0); (try have hy22_ := of_eq_true c22b0); (try have hy23_ := of_eq_true c23b0); (try simp only [ByteArray.size_append, ByteArray.size_extract] at hz_); omega) | (have hz_ := c26; (try have hy20_ := of_eq_true c20b0); (try have hy21_ := of_eq_true c21b0); (try have hy22_ := of_eq_true c22b0); (try have hy23_ := of_eq_true c23b0); (try have hy24_ := of_eq_true c24b0); (try have hy25_ := of_eq_true c25b0); (try have hy26_ := of_eq_true c26b0); (try simp only [ByteArray.size_append, ByteArray.size_extract] at hz_); omega) | (have hz_ := c41; (try have hy35_ := of_eq_true c35b0); (try have hy36_ := of_eq_true c36b0); (try have hy37_ := of_eq_true c37b0); (try have hy38_ := of_eq_true c38b0); (try have hy39_ := of_eq_true c39b0); (try have hy40_ := of_eq_true c40b0); (try have hy41_ := of_eq_true c41b0); (try simp only [ByteArray.size_append, ByteArray.size_extract] at hz_); omega)
                      refine hK.out _ _ ⟨v412, adz_v412, m6_, (by rw [ha.out]; exact putSel_upk 0 hb_ rfl rfl rfl), Q_HI0, Q_HK, Q_HB, Q_HO413, Q_HA_HO413, Q_HI0_e5, Q_X6_⟩
                    refine steps_cons ?_ ?_
                    · rintro b a w' ⟨v412, adz_v412, m6_, ha, Q_HI0, Q_HK, Q_HB, Q_HO413, Q_HA_HO413, Q_HI0_e5, Q_X6_⟩ hb_ hon hoff
                      refine ⟨_, rfl, fun K hK => ?_⟩
                      replace ha := Aside0.mk ha
                      have HK := Aside0.mk Q_HK
                      have HB := Aside0.mk Q_HB
                      refine Kd.R_lit_step Kd.string _ 9 ?hg (N := 34) ?hd (xs := ([(⟨#[46]⟩ : ByteArray), (⟨#[44]⟩ : ByteArray), (⟨#[40]⟩ : ByteArray), (⟨#[41]⟩ : ByteArray), (⟨#[33]⟩ : ByteArray), (⟨#[120]⟩ : ByteArray), (⟨#[88]⟩ : ByteArray), (⟨#[49]⟩ : ByteArray), (⟨#[34]⟩ : ByteArray), (⟨#[58, 45]⟩ : ByteArray), (⟨#[95]⟩ : ByteArray), (⟨#[124]⟩ : ByteArray), (⟨#[35]⟩ : ByteArray), (⟨#[45]⟩ : ByteArray), (⟨#[32]⟩ : ByteArray)] : List ByteArray)) (inner := [.string (⟨#[46]⟩ : ByteArray), .string (⟨#[44]⟩ : ByteArray), .string (⟨#[40]⟩ : ByteArray), .string (⟨#[41]⟩ : ByteArray), .string (⟨#[33]⟩ : ByteArray), .string (⟨#[120]⟩ : ByteArray), .string (⟨#[88]⟩ : ByteArray), .string (⟨#[49]⟩ : ByteArray), .string (⟨#[34]⟩ : ByteArray), .string (⟨#[58, 45]⟩ : ByteArray), .string (⟨#[95]⟩ : ByteArray), .string (⟨#[124]⟩ : ByteArray), .string (⟨#[35]⟩ : ByteArray), .string (⟨#[45]⟩ : ByteArray), .string (⟨#[32]⟩ : ByteArray)]) (ok := fun _ => True) (okp := fun _ => True) ?hr ?hp (fun _ hk => hk) trivial (Below.refl _ _) (Nat.le_refl _) (by simp) ?_; (case hd => rfl); (case hg => rfl); (case hr => first | (go_simp; done) | (go_simp; rfl)); (case hp => exact (Reps.one (show Kd.M Kd.string _ _ _ (⟨#[46]⟩ : ByteArray) [.string (⟨#[46]⟩ : ByteArray)] from rfl) (Reps.one (show Kd.M Kd.string _ _ _ (⟨#[44]⟩ : ByteArray) [.string (⟨#[44]⟩ : ByteArray)] from rfl) (Reps.one (show Kd.M Kd.string _ _ _ (⟨#[40]⟩ : ByteArray) [.string (⟨#[40]⟩ : ByteArray)] from rfl) (Reps.one (show Kd.M Kd.string _ _ _ (⟨#[41]⟩ : ByteArray) [.string (⟨#[41]⟩ : ByteArray)] from rfl) (Reps.one (show Kd.M Kd.string _ _ _ (⟨#[33]⟩ : ByteArray) [.string (⟨#[33]⟩ : ByteArray)] from rfl) (Reps.one (show Kd.M Kd.string _ _ _ (⟨#[120]⟩ : ByteArray) [.string (⟨#[120]⟩ : ByteArray)] from rfl) (Reps.one (show Kd.M Kd.string _ _ _ (⟨#[88]⟩ : ByteArray) [.string (⟨#[88]⟩ : ByteArray)] from rfl) (Reps.one (show Kd.M Kd.string _ _ _ (⟨#[49]⟩ : ByteArray) [.string (⟨#[49]⟩ : ByteArray)] from rfl) (Reps.one (show Kd.M Kd.string _ _ _ (⟨#[34]⟩ : ByteArray) [.string (⟨#[34]⟩ : ByteArray)] from rfl) (Reps.one (show Kd.M Kd.string _ _ _ (⟨#[58, 45]⟩ : ByteArray) [.string (⟨#[58, 45]⟩ : ByteArray)] from rfl) (Reps.one (show Kd.M Kd.string _ _ _ (⟨#[95]⟩ : ByteArray) [.string (⟨#[95]⟩ : ByteArray)] from rfl) (Reps.one (show Kd.M Kd.string _ _ _ (⟨#[124]⟩ : ByteArray) [.string (⟨#[124]⟩ : ByteArray)] from rfl) (Reps.one (show Kd.M Kd.string _ _ _ (⟨#[35]⟩ : ByteArray) [.string (⟨#[35]⟩ : ByteArray)] from rfl) (Reps.one (show Kd.M Kd.string _ _ _ (⟨#[45]⟩ : ByteArray) [.string (⟨#[45]⟩ : ByteArray)] from rfl) (Reps.one (show Kd.M Kd.string _ _ _ (⟨#[32]⟩ : ByteArray) [.string (⟨#[32]⟩ : ByteArray)] from rfl) (Reps.none _ _)))))))))))))))))
                      intro v412 w31 ho32 hb hg_ hnew_
                      clear hg_ hnew_
                      (first | rw [← Ny411.out] at ho32 | (simp only [Int.reduceToNat] at ho32; rw [← Ny411.out] at ho32))
                      have n0_ := Aside0.mk (Kd.R_lower ho32 (keep_size (w := w) (g := g) (row := none) (by repeat (first | (with_reducible first | exact HK.out | apply KeepBut.set_ | apply keep_drewN | apply keep_drew | apply keep_alloc) | exact HK.out))))
                      have n2_ := Aside0.mk (KeepBut.trans (by repeat (first | (with_reducible first | exact HK.out | apply KeepBut.set_ | apply keep_drewN | apply keep_drew | apply keep_alloc) | exact HK.out)) (KeepBut.of_below hb g none) (.inl rfl))
                      have n3_ := Aside0.mk (below_step (by repeat (first | (with_reducible first | exact HB.out | apply below_alloc | apply pw_below_drewN | apply below_drew1) | exact HB.out)) hb)
                      have z_HI0 := fun (h0_ : b 5 = false) => (show IsS92 w0 w31 g s0_0 t409 t410 from by first | exact (IsS92.below (by repeat (first | (with_reducible first | exact (Q_HI0 h0_) | apply IsS92.alloc | apply IsS92.drewN | apply IsS92.drew | apply IsS92.set_1 | apply IsS92.set_2) | exact (Q_HI0 h0_))) hb))
                      have z_HI0_e5 := fun (h0_ : b 5 = true) => (show IsS92 w0 w31 g s0_0 t415 t416 from by first | exact (IsS92.below (by repeat (first | (with_reducible first | exact (Q_HI0_e5 h0_) | apply IsS92.alloc | apply IsS92.drewN | apply IsS92.drew | apply IsS92.set_1 | apply IsS92.set_2) | exact (Q_HI0_e5 h0_))) hb))
                      clear HK
                      clear HB
                      have HO413 := n0_
                      have HK := n2_
                      have HB := n3_
                      clear n0_ n2_ n3_
                      clear hb ho32
                      obtain ⟨Ao33, co33, eo33⟩ := Kd.R_slice HO413.out
                      subst eo33
                      obtain ⟨ado33, fo33, _⟩ := Kd.at_string (Kd.R_reads' HO413.out).2.2 0 (by decide) (by rw [Ny411.out]; simp)
                      cases fo33
                      refine hK.out _ _ ⟨.slice (some ado33) y411.length co33, ado33, m6_, (by rw [ha.out]; exact putSel_upk 1 hb_ rfl rfl rfl), z_HI0, (by repeat (first | (with_reducible first | exact HK.out | apply KeepBut.set_ | apply keep_drewN | apply keep_drew | apply keep_alloc) | exact HK.out)), (by repeat (first | (with_reducible first | exact HB.out | apply below_alloc | apply pw_below_drewN | apply below_drew1) | exact HB.out)), fun _ => (by (with_reducible repeat (first | apply Kd.R_alloc | apply Kd.R_drewN | apply Kd.R_drew)); exact HO413.out), fun _ => ⟨_, rfl⟩, z_HI0_e5, fun h0_ => absurd ((hoff 6 (by kernel_rfl)).symm.trans h0_) (by decide)⟩
                    refine steps_cons ?_ ?_
                    · rintro b a w' ⟨v412, adz_v412, m6_, ha, Q_HI0, Q_HK, Q_HB, Q_HO413, Q_HA_HO413, Q_HI0_e5, Q_X6_⟩ hb_ hon hoff
                      refine ⟨_, rfl, fun K hK => ?_⟩
                      have e35 : a.tmps[35]? = some (.pointer (some ⟨g, 0, none⟩)) := by rw [ha]; exact (putSel_off rfl).trans rfl
                      replace ha := Aside0.mk ha
                      have HI0 := Aside0.mk (Q_HI0 hb_)
                      have HK := Aside0.mk Q_HK
                      have HB := Aside0.mk Q_HB
                      refine goes_ Tryd.func70 (by kernel_rfl) rfl #[.pointer (some ⟨g, 0, none⟩), .int .i64 15] (by rfl) rfl rfl (by first | (simp only [List.map_toArray, List.map_cons, List.map_nil, Act.eval, Array.getD_eq_getD_getElem?, Option.getD_some, e35]; done) | (simp only [List.map_toArray, List.map_cons, List.map_nil, Act.eval, Array.getD_eq_getD_getElem?, Option.getD_some, e35]; rfl)) ?_
                      with_reducible refine (spec_l01Cur_pick.calls g s0_0 t409 t410 15 t414 t415 t416 w0 _ ?side1 ?side2 A20.out).mono ?_
                      (case side1 => repeat (first | (with_reducible first | exact HI0.out | apply IsS92.alloc | apply IsS92.drewN | apply IsS92.drew | apply IsS92.set_1 | apply IsS92.set_2) | exact HI0.out))
                      (case side2 => repeat (first | (with_reducible first | exact HB.out | apply below_alloc | apply pw_below_drewN | apply below_drew1 | refine below_set ?_ (IsS92.ge HI0.out)) | exact HB.out))
                      rintro e w31 ⟨rfl, hi, hb, hk⟩
                      refine ⟨_, rfl, ?_⟩
                      have n0_ := Aside0.mk (KeepBut.trans (by repeat (first | (with_reducible first | exact HK.out | apply KeepBut.set_ | apply keep_drewN | apply keep_drew | apply keep_alloc) | exact HK.out)) hk (.inl rfl))
                      have n1_ := Aside0.mk (hb)
                      have n2_ := Aside0.mk (hi)
                      have z_HO413 := fun (h0_ : b 3 = true) => (show Kd.R Kd.string 9 w31 w.heap.size (fun _ => True) v412 y411 from by first | exact (Kd.R_mono (Kd.R_keep (IsS92.apart (show IsS92 w0 _ g s0_0 t409 t410 from by repeat (first | (with_reducible first | exact HI0.out | apply IsS92.alloc | apply IsS92.drewN | apply IsS92.drew | apply IsS92.set_1 | apply IsS92.set_2) | exact HI0.out)) (by (with_reducible repeat (first | apply Kd.R_alloc | apply Kd.R_drewN | apply Kd.R_drew)); exact (Q_HO413 h0_)) (by decide)) hk (fun _ h => h.2)) (fun _ h => h.1)) | exact Kd.R_mono (Kd.R_mono (Kd.R_keep (IsS92.apart (show IsS92 w0 _ g s0_0 t409 t410 from by repeat (first | (with_reducible first | exact HI0.out | apply IsS92.alloc | apply IsS92.drewN | apply IsS92.drew | apply IsS92.set_1 | apply IsS92.set_2) | exact HI0.out)) (by (with_reducible repeat (first | apply Kd.R_alloc | apply Kd.R_drewN | apply Kd.R_drew)); exact (Q_HO413 h0_)) (by decide)) hk (fun _ h => h.2)) (fun _ h => h.1)) (fun _ h_ => by first | trivial | exact h_ | exact h_.1))
                      clear HK
                      clear HB
                      clear HI0
                      have HK := n0_
                      have HB := n1_
                      have HI0 := n2_
                      clear n0_ n1_ n2_
                      (try clear hb)
                      (try clear hb2)
                      (try clear hk)
                      (try clear hi)
                      refine hK.out _ _ ⟨v412, adz_v412, m6_, (by rw [ha.out]; exact putSel_upk 2 hb_ rfl rfl rfl), fun h0_ => absurd ((up_self b 5).symm.trans h0_) (by decide), (by repeat (first | (with_reducible first | exact HK.out | apply KeepBut.set_ | apply keep_drewN | apply keep_drew | apply keep_alloc) | exact HK.out)), (by repeat (first | (with_reducible first | exact HB.out | apply below_alloc | apply pw_below_drewN | apply below_drew1 | refine below_set ?_ (IsS92.ge HI0.out)) | exact HB.out)), z_HO413, Q_HA_HO413, fun _ => (by repeat (first | (with_reducible first | exact HI0.out | apply IsS92.alloc | apply IsS92.drewN | apply IsS92.drew | apply IsS92.set_1 | apply IsS92.set_2) | exact HI0.out)), fun h0_ => absurd ((hoff 6 (by kernel_rfl)).symm.trans h0_) (by decide)⟩
                    refine steps_cons ?_ ?_
                    · rintro b a w' ⟨v412, adz_v412, m6_, ha, Q_HI0, Q_HK, Q_HB, Q_HO413, Q_HA_HO413, Q_HI0_e5, Q_X6_⟩ hb_ hon hoff
                      refine ⟨_, rfl, fun K hK => ?_⟩
                      have e34 : a.tmps[34]? = some (v412) := by rw [ha]; exact putSel_on (e := (3, 34, v412)) 1 rfl rfl (hon 3 (by kernel_rfl)) rfl
                      have e36 : a.tmps[36]? = some (.int .i64 t414) := by rw [ha]; exact putSel_on (e := (5, 36, .int .i64 t414)) 2 rfl rfl (hon 5 (by kernel_rfl)) rfl
                      replace ha := Aside0.mk ha
                      have HK := Aside0.mk Q_HK
                      have HB := Aside0.mk Q_HB
                      have HO413 := Aside0.mk (Q_HO413 (hon 3 (by kernel_rfl)))
                      have HA_HO413 := Aside0.mk (Q_HA_HO413 (hon 3 (by kernel_rfl)))
                      have HI0 := Aside0.mk (Q_HI0_e5 (hon 5 (by kernel_rfl)))
                      obtain ⟨c_, hv_⟩ := HA_HO413.out
                      rw [hv_] at e34
                      refine value_ (w1 := w') (v := .pointer (some (adz_v412.add (t414).toNat))) (by rfl) rfl ?_ ?_
                      · go_simp
                        (try simp only [i64_w])
                        try first | rfl | (have hz_ := c11; (try have hy5_ := of_eq_true c5b0); (try have hy6_ := of_eq_true c6b0); (try have hy7_ := of_eq_true c7b0); (try have hy8_ := of_eq_true c8b0); (try have hy9_ := of_eq_true c9b0); (try have hy10_ := of_eq_true c10b0); (try have hy11_ := of_eq_true c11b0); (try simp only [ByteArray.size_append, ByteArray.size_extract] at hz_); omega) | (have hz_ := c23; (try have hy17_ := of_eq_true c17b0); (try have hy18_ := of_eq_true c18b0); (try have hy19_ := of_eq_true c19b0); (try have hy20_ := of_eq_true c20b0); (try have hy21_ := of_eq_true c21b0); (try have hy22_ := of_eq_true c22b0); (try have hy23_ := of_eq_true c23b0); (try simp only [ByteArray.size_append, ByteArray.size_extract] at hz_); omega) | (have hz_ := c26; (try have hy20_ := of_eq_true c20b0); (try have hy21_ := of_eq_true c21b0); (try have hy22_ := of_eq_true c22b0); (try have hy23_ := of_eq_true c23b0); (try have hy24_ := of_eq_true c24b0); (try have hy25_ := of_eq_true c25b0); (try have hy26_ := of_eq_true c26b0); (try simp only [ByteArray.size_append, ByteArray.size_extract] at hz_); omega) | (have hz_ := c41; (try have hy35_ := of_eq_true c35b0); (try have hy36_ := of_eq_true c36b0); (try have hy37_ := of_eq_true c37b0); (try have hy38_ := of_eq_true c38b0); (try have hy39_ := of_eq_true c39b0); (try have hy40_ := of_eq_true c40b0); (try have hy41_ := of_eq_true c41b0); (try simp only [ByteArray.size_append, ByteArray.size_extract] at hz_); omega)
                      refine hK.out _ _ ⟨v412, adz_v412, (.pointer (some (adz_v412.add (t414).toNat))), (by rw [ha.out]; exact putSel_upk 3 hb_ rfl rfl rfl), fun h0_ => absurd ((hon 5 (by kernel_rfl)).symm.trans h0_) (by decide), Q_HK, Q_HB, Q_HO413, Q_HA_HO413, Q_HI0_e5, fun _ => rfl⟩
                    refine steps_cons ?_ ?_
                    · rintro b a w' ⟨v412, adz_v412, m6_, ha, Q_HI0, Q_HK, Q_HB, Q_HO413, Q_HA_HO413, Q_HI0_e5, Q_X6_⟩ hb_ hon hoff
                      refine ⟨_, rfl, fun K hK => ?_⟩
                      have e37 : a.tmps[37]? = some (m6_) := by rw [ha]; exact putSel_on (e := (6, 37, m6_)) 3 rfl rfl (hon 6 (by kernel_rfl)) rfl
                      rw [Q_X6_ (hon 6 (by kernel_rfl))] at e37
                      replace ha := Aside0.mk ha
                      have HK := Aside0.mk Q_HK
                      have HB := Aside0.mk Q_HB
                      have HO413 := Aside0.mk (Q_HO413 (hon 3 (by kernel_rfl)))
                      have HA_HO413 := Aside0.mk (Q_HA_HO413 (hon 3 (by kernel_rfl)))
                      have HI0 := Aside0.mk (Q_HI0_e5 (hon 5 (by kernel_rfl)))
                      obtain ⟨c_, hv_⟩ := HA_HO413.out
                      have hF_ := HO413.out
                      rw [hv_] at hF_
                      obtain ⟨ad_, ea_, hx_⟩ := Kd.at_string (Kd.R_reads' hF_).2.2 t414 (of_eq_true pi417) (of_eq_true qi417)
                      cases ea_
                      refine value_ (w1 := w') (v := .string (rdOf ByteArray.empty y411 t414)) (by rfl) rfl ?_ ?_
                      · go_simp
                        (try simp only [i64_w])
                        try first | rfl | (have hz_ := c11; (try have hy5_ := of_eq_true c5b0); (try have hy6_ := of_eq_true c6b0); (try have hy7_ := of_eq_true c7b0); (try have hy8_ := of_eq_true c8b0); (try have hy9_ := of_eq_true c9b0); (try have hy10_ := of_eq_true c10b0); (try have hy11_ := of_eq_true c11b0); (try simp only [ByteArray.size_append, ByteArray.size_extract] at hz_); omega) | (have hz_ := c23; (try have hy17_ := of_eq_true c17b0); (try have hy18_ := of_eq_true c18b0); (try have hy19_ := of_eq_true c19b0); (try have hy20_ := of_eq_true c20b0); (try have hy21_ := of_eq_true c21b0); (try have hy22_ := of_eq_true c22b0); (try have hy23_ := of_eq_true c23b0); (try simp only [ByteArray.size_append, ByteArray.size_extract] at hz_); omega) | (have hz_ := c26; (try have hy20_ := of_eq_true c20b0); (try have hy21_ := of_eq_true c21b0); (try have hy22_ := of_eq_true c22b0); (try have hy23_ := of_eq_true c23b0); (try have hy24_ := of_eq_true c24b0); (try have hy25_ := of_eq_true c25b0); (try have hy26_ := of_eq_true c26b0); (try simp only [ByteArray.size_append, ByteArray.size_extract] at hz_); omega) | (have hz_ := c41; (try have hy35_ := of_eq_true c35b0); (try have hy36_ := of_eq_true c36b0); (try have hy37_ := of_eq_true c37b0); (try have hy38_ := of_eq_true c38b0); (try have hy39_ := of_eq_true c39b0); (try have hy40_ := of_eq_true c40b0); (try have hy41_ := of_eq_true c41b0); (try simp only [ByteArray.size_append, ByteArray.size_extract] at hz_); omega)
                      refine hK.out _ _ ⟨v412, adz_v412, m6_, (by rw [ha.out]; exact putSel_upk 4 hb_ rfl rfl rfl), fun h0_ => absurd ((hon 5 (by kernel_rfl)).symm.trans h0_) (by decide), Q_HK, Q_HB, Q_HO413, Q_HA_HO413, Q_HI0_e5, Q_X6_⟩
                    refine steps_cons ?_ ?_
                    · rintro b a w' ⟨v412, adz_v412, m6_, ha, Q_HI0, Q_HK, Q_HB, Q_HO413, Q_HA_HO413, Q_HI0_e5, Q_X6_⟩ hb_ hon hoff
                      refine ⟨_, rfl, fun K hK => ?_⟩
                      have e33 : a.tmps[33]? = some (.string (t399.extract 0 (t408 : Int).toNat)) := by rw [ha]; exact putSel_on (e := (2, 33, .string (t399.extract 0 (t408 : Int).toNat))) 0 rfl rfl (hon 2 (by kernel_rfl)) rfl
                      have e38 : a.tmps[38]? = some (.string (rdOf ByteArray.empty y411 t414)) := by rw [ha]; exact putSel_on (e := (7, 38, .string (rdOf ByteArray.empty y411 t414))) 4 rfl rfl (hon 7 (by kernel_rfl)) rfl
                      replace ha := Aside0.mk ha
                      have HK := Aside0.mk Q_HK
                      have HB := Aside0.mk Q_HB
                      have HO413 := Aside0.mk (Q_HO413 (hon 3 (by kernel_rfl)))
                      have HA_HO413 := Aside0.mk (Q_HA_HO413 (hon 3 (by kernel_rfl)))
                      have HI0 := Aside0.mk (Q_HI0_e5 (hon 5 (by kernel_rfl)))
                      refine value_ (w1 := w') (v := .string ((t399.extract 0 (t408 : Int).toNat) ++ (rdOf ByteArray.empty y411 t414))) (by rfl) rfl ?_ ?_
                      · go_simp
                        (try simp only [i64_w])
                        try first | rfl | (have hz_ := c11; (try have hy5_ := of_eq_true c5b0); (try have hy6_ := of_eq_true c6b0); (try have hy7_ := of_eq_true c7b0); (try have hy8_ := of_eq_true c8b0); (try have hy9_ := of_eq_true c9b0); (try have hy10_ := of_eq_true c10b0); (try have hy11_ := of_eq_true c11b0); (try simp only [ByteArray.size_append, ByteArray.size_extract] at hz_); omega) | (have hz_ := c23; (try have hy17_ := of_eq_true c17b0); (try have hy18_ := of_eq_true c18b0); (try have hy19_ := of_eq_true c19b0); (try have hy20_ := of_eq_true c20b0); (try have hy21_ := of_eq_true c21b0); (try have hy22_ := of_eq_true c22b0); (try have hy23_ := of_eq_true c23b0); (try simp only [ByteArray.size_append, ByteArray.size_extract] at hz_); omega) | (have hz_ := c26; (try have hy20_ := of_eq_true c20b0); (try have hy21_ := of_eq_true c21b0); (try have hy22_ := of_eq_true c22b0); (try have hy23_ := of_eq_true c23b0); (try have hy24_ := of_eq_true c24b0); (try have hy25_ := of_eq_true c25b0); (try have hy26_ := of_eq_true c26b0); (try simp only [ByteArray.size_append, ByteArray.size_extract] at hz_); omega) | (have hz_ := c41; (try have hy35_ := of_eq_true c35b0); (try have hy36_ := of_eq_true c36b0); (try have hy37_ := of_eq_true c37b0); (try have hy38_ := of_eq_true c38b0); (try have hy39_ := of_eq_true c39b0); (try have hy40_ := of_eq_true c40b0); (try have hy41_ := of_eq_true c41b0); (try simp only [ByteArray.size_append, ByteArray.size_extract] at hz_); omega)
                      refine hK.out _ _ ⟨v412, adz_v412, m6_, (by rw [ha.out]; exact putSel_upk 5 hb_ rfl rfl rfl), fun h0_ => absurd ((hon 5 (by kernel_rfl)).symm.trans h0_) (by decide), Q_HK, Q_HB, Q_HO413, Q_HA_HO413, Q_HI0_e5, Q_X6_⟩
                    refine steps_cons ?_ ?_
                    · rintro b a w' ⟨v412, adz_v412, m6_, ha, Q_HI0, Q_HK, Q_HB, Q_HO413, Q_HA_HO413, Q_HI0_e5, Q_X6_⟩ hb_ hon hoff
                      refine ⟨_, rfl, fun K hK => ?_⟩
                      have e40 : a.tmps[40]? = some (.string t399) := by rw [ha]; exact (putSel_off rfl).trans rfl
                      have e41 : a.tmps[41]? = some (.int .i64 t408) := by rw [ha]; exact (putSel_off rfl).trans rfl
                      replace ha := Aside0.mk ha
                      have HK := Aside0.mk Q_HK
                      have HB := Aside0.mk Q_HB
                      refine value_ (w1 := w') (v := .string (t399.extract (t408 : Int).toNat t399.size)) (by rfl) rfl ?_ ?_
                      · go_simp
                        (try simp only [i64_w])
                        try first | rfl | (have hz_ := c11; (try have hy5_ := of_eq_true c5b0); (try have hy6_ := of_eq_true c6b0); (try have hy7_ := of_eq_true c7b0); (try have hy8_ := of_eq_true c8b0); (try have hy9_ := of_eq_true c9b0); (try have hy10_ := of_eq_true c10b0); (try have hy11_ := of_eq_true c11b0); (try simp only [ByteArray.size_append, ByteArray.size_extract] at hz_); omega) | (have hz_ := c23; (try have hy17_ := of_eq_true c17b0); (try have hy18_ := of_eq_true c18b0); (try have hy19_ := of_eq_true c19b0); (try have hy20_ := of_eq_true c20b0); (try have hy21_ := of_eq_true c21b0); (try have hy22_ := of_eq_true c22b0); (try have hy23_ := of_eq_true c23b0); (try simp only [ByteArray.size_append, ByteArray.size_extract] at hz_); omega) | (have hz_ := c26; (try have hy20_ := of_eq_true c20b0); (try have hy21_ := of_eq_true c21b0); (try have hy22_ := of_eq_true c22b0); (try have hy23_ := of_eq_true c23b0); (try have hy24_ := of_eq_true c24b0); (try have hy25_ := of_eq_true c25b0); (try have hy26_ := of_eq_true c26b0); (try simp only [ByteArray.size_append, ByteArray.size_extract] at hz_); omega) | (have hz_ := c41; (try have hy35_ := of_eq_true c35b0); (try have hy36_ := of_eq_true c36b0); (try have hy37_ := of_eq_true c37b0); (try have hy38_ := of_eq_true c38b0); (try have hy39_ := of_eq_true c39b0); (try have hy40_ := of_eq_true c40b0); (try have hy41_ := of_eq_true c41b0); (try simp only [ByteArray.size_append, ByteArray.size_extract] at hz_); omega)
                      refine hK.out _ _ ⟨v412, adz_v412, m6_, (by rw [ha.out]; exact putSel_upk 6 hb_ rfl rfl rfl), Q_HI0, Q_HK, Q_HB, Q_HO413, Q_HA_HO413, Q_HI0_e5, Q_X6_⟩
                    refine steps_cons ?_ ?_
                    · rintro b a w' ⟨v412, adz_v412, m6_, ha, Q_HI0, Q_HK, Q_HB, Q_HO413, Q_HA_HO413, Q_HI0_e5, Q_X6_⟩ hb_ hon hoff
                      refine ⟨_, rfl, fun K hK => ?_⟩
                      have e39 : a.tmps[39]? = some (.string ((t399.extract 0 (t408 : Int).toNat) ++ (rdOf ByteArray.empty y411 t414))) := by rw [ha]; exact putSel_on (e := (8, 39, .string ((t399.extract 0 (t408 : Int).toNat) ++ (rdOf ByteArray.empty y411 t414)))) 5 rfl rfl (hon 8 (by kernel_rfl)) rfl
                      have e42 : a.tmps[42]? = some (.string (t399.extract (t408 : Int).toNat t399.size)) := by rw [ha]; exact putSel_on (e := (11, 42, .string (t399.extract (t408 : Int).toNat t399.size))) 6 rfl rfl (hon 11 (by kernel_rfl)) rfl
                      replace ha := Aside0.mk ha
                      have HK := Aside0.mk Q_HK
                      have HB := Aside0.mk Q_HB
                      have HO413 := Aside0.mk (Q_HO413 (hon 3 (by kernel_rfl)))
                      have HA_HO413 := Aside0.mk (Q_HA_HO413 (hon 3 (by kernel_rfl)))
                      have HI0 := Aside0.mk (Q_HI0_e5 (hon 5 (by kernel_rfl)))
                      refine value_ (w1 := w') (v := .string (((t399.extract 0 (t408 : Int).toNat) ++ (rdOf ByteArray.empty y411 t414)) ++ (t399.extract (t408 : Int).toNat t399.size))) (by rfl) rfl ?_ ?_
                      · go_simp
                        (try simp only [i64_w])
                        try first | rfl | (have hz_ := c11; (try have hy5_ := of_eq_true c5b0); (try have hy6_ := of_eq_true c6b0); (try have hy7_ := of_eq_true c7b0); (try have hy8_ := of_eq_true c8b0); (try have hy9_ := of_eq_true c9b0); (try have hy10_ := of_eq_true c10b0); (try have hy11_ := of_eq_true c11b0); (try simp only [ByteArray.size_append, ByteArray.size_extract] at hz_); omega) | (have hz_ := c23; (try have hy17_ := of_eq_true c17b0); (try have hy18_ := of_eq_true c18b0); (try have hy19_ := of_eq_true c19b0); (try have hy20_ := of_eq_true c20b0); (try have hy21_ := of_eq_true c21b0); (try have hy22_ := of_eq_true c22b0); (try have hy23_ := of_eq_true c23b0); (try simp only [ByteArray.size_append, ByteArray.size_extract] at hz_); omega) | (have hz_ := c26; (try have hy20_ := of_eq_true c20b0); (try have hy21_ := of_eq_true c21b0); (try have hy22_ := of_eq_true c22b0); (try have hy23_ := of_eq_true c23b0); (try have hy24_ := of_eq_true c24b0); (try have hy25_ := of_eq_true c25b0); (try have hy26_ := of_eq_true c26b0); (try simp only [ByteArray.size_append, ByteArray.size_extract] at hz_); omega) | (have hz_ := c41; (try have hy35_ := of_eq_true c35b0); (try have hy36_ := of_eq_true c36b0); (try have hy37_ := of_eq_true c37b0); (try have hy38_ := of_eq_true c38b0); (try have hy39_ := of_eq_true c39b0); (try have hy40_ := of_eq_true c40b0); (try have hy41_ := of_eq_true c41b0); (try simp only [ByteArray.size_append, ByteArray.size_extract] at hz_); omega)
                      refine hK.out _ _ ⟨v412, adz_v412, m6_, (by rw [ha.out]; exact putSel_upk 7 hb_ rfl rfl rfl), fun h0_ => absurd ((hon 5 (by kernel_rfl)).symm.trans h0_) (by decide), Q_HK, Q_HB, Q_HO413, Q_HA_HO413, Q_HI0_e5, Q_X6_⟩
                    refine steps_cons ?_ ?_
                    · rintro b a w' ⟨v412, adz_v412, m6_, ha, Q_HI0, Q_HK, Q_HB, Q_HO413, Q_HA_HO413, Q_HI0_e5, Q_X6_⟩ hb_ hon hoff
                      refine ⟨_, rfl, fun K hK => ?_⟩
                      have e43 : a.tmps[43]? = some (.string (((t399.extract 0 (t408 : Int).toNat) ++ (rdOf ByteArray.empty y411 t414)) ++ (t399.extract (t408 : Int).toNat t399.size))) := by rw [ha]; exact putSel_on (e := (12, 43, .string (((t399.extract 0 (t408 : Int).toNat) ++ (rdOf ByteArray.empty y411 t414)) ++ (t399.extract (t408 : Int).toNat t399.size)))) 7 rfl rfl (hon 12 (by kernel_rfl)) rfl
                      replace ha := Aside0.mk ha
                      have HK := Aside0.mk Q_HK
                      have HB := Aside0.mk Q_HB
                      have HO413 := Aside0.mk (Q_HO413 (hon 3 (by kernel_rfl)))
                      have HA_HO413 := Aside0.mk (Q_HA_HO413 (hon 3 (by kernel_rfl)))
                      have HI0 := Aside0.mk (Q_HI0_e5 (hon 5 (by kernel_rfl)))
                      refine value_ (w1 := w') (v := .string (((t399.extract 0 (t408 : Int).toNat) ++ (rdOf ByteArray.empty y411 t414)) ++ (t399.extract (t408 : Int).toNat t399.size))) (by rfl) rfl ?_ ?_
                      · go_simp
                        (try simp only [i64_w])
                        try first | rfl | (have hz_ := c11; (try have hy5_ := of_eq_true c5b0); (try have hy6_ := of_eq_true c6b0); (try have hy7_ := of_eq_true c7b0); (try have hy8_ := of_eq_true c8b0); (try have hy9_ := of_eq_true c9b0); (try have hy10_ := of_eq_true c10b0); (try have hy11_ := of_eq_true c11b0); (try simp only [ByteArray.size_append, ByteArray.size_extract] at hz_); omega) | (have hz_ := c23; (try have hy17_ := of_eq_true c17b0); (try have hy18_ := of_eq_true c18b0); (try have hy19_ := of_eq_true c19b0); (try have hy20_ := of_eq_true c20b0); (try have hy21_ := of_eq_true c21b0); (try have hy22_ := of_eq_true c22b0); (try have hy23_ := of_eq_true c23b0); (try simp only [ByteArray.size_append, ByteArray.size_extract] at hz_); omega) | (have hz_ := c26; (try have hy20_ := of_eq_true c20b0); (try have hy21_ := of_eq_true c21b0); (try have hy22_ := of_eq_true c22b0); (try have hy23_ := of_eq_true c23b0); (try have hy24_ := of_eq_true c24b0); (try have hy25_ := of_eq_true c25b0); (try have hy26_ := of_eq_true c26b0); (try simp only [ByteArray.size_append, ByteArray.size_extract] at hz_); omega) | (have hz_ := c41; (try have hy35_ := of_eq_true c35b0); (try have hy36_ := of_eq_true c36b0); (try have hy37_ := of_eq_true c37b0); (try have hy38_ := of_eq_true c38b0); (try have hy39_ := of_eq_true c39b0); (try have hy40_ := of_eq_true c40b0); (try have hy41_ := of_eq_true c41b0); (try simp only [ByteArray.size_append, ByteArray.size_extract] at hz_); omega)
                      refine hK.out _ _ ⟨v412, adz_v412, m6_, (by rw [ha.out]; exact putSel_upk 8 hb_ rfl rfl rfl), fun h0_ => absurd ((hon 5 (by kernel_rfl)).symm.trans h0_) (by decide), Q_HK, Q_HB, Q_HO413, Q_HA_HO413, Q_HI0_e5, Q_X6_⟩
                    exact steps_nil
                  rintro b a w35 hall ⟨v412, adz_v412, m6_, ha, Q_HI0, Q_HK, Q_HB, Q_HO413, Q_HA_HO413, Q_HI0_e5, Q_X6_⟩
                  clear HB HI0 HK
                  have hb2_ := hall 2 (by kernel_rfl)
                  have hb3_ := hall 3 (by kernel_rfl)
                  have hb5_ := hall 5 (by kernel_rfl)
                  have hb6_ := hall 6 (by kernel_rfl)
                  have hb7_ := hall 7 (by kernel_rfl)
                  have hb8_ := hall 8 (by kernel_rfl)
                  have hb11_ := hall 11 (by kernel_rfl)
                  have hb12_ := hall 12 (by kernel_rfl)
                  have hb13_ := hall 13 (by kernel_rfl)
                  subst ha
                  obtain rfl := Q_X6_ hb6_
                  simp only [putSel, hb2_, hb3_, hb5_, hb6_, hb7_, hb8_, hb11_, hb12_, hb13_, if_true, Act.put, List.setIfInBounds_toArray, List.set_cons_zero, List.set_cons_succ]
                  clear Q_HI0
                  have HK := Aside0.mk Q_HK
                  clear Q_HK
                  have HB := Aside0.mk Q_HB
                  clear Q_HB
                  have HO413 := Aside0.mk (Q_HO413 hb3_)
                  clear Q_HO413
                  have HA_HO413 := Aside0.mk (Q_HA_HO413 hb3_)
                  clear Q_HA_HO413
                  have HI0 := Aside0.mk (Q_HI0_e5 hb5_)
                  clear Q_HI0_e5
                  clear hall hb2_ hb3_ hb5_ hb6_ hb7_ hb8_ hb11_ hb12_ hb13_
                  obtain ⟨co36, eo36⟩ := HA_HO413.out
                  clear HA_HO413
                  subst eo36
                  try go_wp2
                  go_ret
                  exact ⟨by first | rfl | (simp [errW_none, errW_some] <;> rfl) | (simp [*, errW_none, errW_some] <;> rfl), by repeat (first | (with_reducible first | exact HI0.out | apply IsS92.alloc | apply IsS92.drewN | apply IsS92.drew | apply IsS92.set_1 | apply IsS92.set_2) | exact HI0.out), by repeat (first | (with_reducible first | exact HB.out | apply below_alloc | apply pw_below_drewN | apply below_drew1 | refine below_set ?_ (IsS92.ge HI0.out)) | exact HB.out), by repeat (first | (with_reducible first | exact HK.out | apply KeepBut.set_ | apply keep_drewN | apply keep_drew | apply keep_alloc) | exact HK.out)⟩
                · rw [if_neg c26] at H
                  exact absurd H (by simp)
              · rw [if_neg c23] at H
                exact absurd H (by simp)
            · rw [if_neg c22] at H
              exact absurd H (by simp)
          · rw [if_neg c21] at H
            exact absurd H (by simp)
        · rw [if_neg c19] at H
          exact absurd H (by simp)
      · rw [if_neg c18] at H
        exact absurd H (by simp)
    · rw [if_neg c16] at H
      have c16b0 : (t402 == 1) = false := beq_eq_false_iff_ne.mpr c16
      have c16b1 : (t402 != 1) = true := bne_iff_ne.mpr c16
      by_cases c37 : t402 = 2
      · rw [if_pos c37] at H
        have c37b0 : (t402 == 2) = true := beq_iff_eq.mpr c37
        have c37b1 : (t402 != 2) = false := bne_eq_false_iff_eq.mpr c37
        clear c37
        obtain ⟨y418, hy418⟩ : ∃ y_ : List ByteArray, y_ = (([(⟨#[112, 40, 49, 41]⟩ : ByteArray), (⟨#[112, 40, 41, 46]⟩ : ByteArray), (⟨#[114, 101, 108, 32, 112, 40, 41, 32, 105, 110, 112, 117, 116, 46]⟩ : ByteArray), (⟨#[112, 40, 120, 41, 32, 58, 45, 32, 120, 46]⟩ : ByteArray), (⟨#[112, 40, 120, 41, 32, 58, 45, 32, 113, 40, 120, 41, 44, 32, 46]⟩ : ByteArray), (⟨#[112, 40, 48, 49, 41, 46]⟩ : ByteArray), (⟨#[112, 40, 49, 48, 48, 48, 48, 48, 49, 41, 46]⟩ : ByteArray), (⟨#[112, 40, 34, 97, 41, 46]⟩ : ByteArray), (⟨#[116, 121, 112, 101, 32, 116, 32, 61, 32, 65, 46]⟩ : ByteArray), (⟨#[116, 121, 112, 101, 32, 84, 32, 61, 32, 46]⟩ : ByteArray), (⟨#[114, 101, 108, 32, 80, 40, 110, 117, 109, 98, 101, 114, 41, 46]⟩ : ByteArray), (⟨#[112, 40, 65, 40, 66, 40, 49, 44, 32, 45, 50, 41, 44, 32, 34, 120, 34, 41, 41, 46]⟩ : ByteArray), (⟨#[112, 40, 40, 49, 32, 43, 32, 50, 41, 32, 42, 32, 45, 51, 32, 45, 32, 120, 41, 46]⟩ : ByteArray), (⟨#[112, 40, 120, 41, 32, 58, 45, 32, 33, 120, 32, 60, 32, 49, 46]⟩ : ByteArray), (⟨#[112, 40, 120, 41, 32, 58, 45, 32, 40, 120, 41, 32, 61, 32, 113, 40, 49, 41, 46]⟩ : ByteArray), (⟨#[112, 40, 49, 44, 50, 44, 51, 44, 52, 44, 53, 44, 54, 44, 55, 41, 46]⟩ : ByteArray), (⟨#[114, 101, 108, 32, 113, 40, 110, 117, 109, 98, 101, 114, 32, 115, 121, 109, 98, 111, 108, 41, 46]⟩ : ByteArray), (⟨#[112, 40, 45, 32, 48, 41, 46]⟩ : ByteArray), (⟨#[112, 40, 120, 41, 32, 58, 45, 32, 114, 101, 108, 40, 120, 41, 46]⟩ : ByteArray), (⟨#[97, 98, 99, 100, 101, 102, 103, 104, 105, 106, 107, 108, 109, 110, 111, 112, 113, 114, 115, 116, 117, 40, 49, 41, 46]⟩ : ByteArray), (⟨#[112, 40, 95, 41, 32, 58, 45, 32, 95, 32, 61, 32, 95, 46]⟩ : ByteArray), (⟨#[114, 101, 108, 32, 114, 40, 110, 117, 109, 98, 101, 114, 41, 32, 105, 110, 112, 117, 116, 32, 111, 117, 116, 112, 117, 116, 46]⟩ : ByteArray)] : List ByteArray)) := ⟨_, rfl⟩
        replace H : ((spec_l01Cur_pick.f s0_0 t403 t404 22).bind fun bt421 => (if 0 ≤ bt421.1 then (if bt421.1 < (y418.length : Int) then (if t399.size + (rdOf ByteArray.empty y418 bt421.1).size ≤ 9223372036854775807 then (some (t399 ++ (rdOf ByteArray.empty y418 bt421.1), bt421.2.1, bt421.2.2)) else (none)) else (none)) else (none))) = some (r1, r2, r3) := by first | (rw [hy418]; with_reducible exact H) | (have H2_ := (Option.bind_some _ _).symm.trans H; rw [hy418]; with_reducible exact H2_) | (have H2_ := (Option.bind_some _ _).symm.trans H; with_reducible exact H2_) | with_reducible exact H | (rw [hy418]; exact H) | exact H
        have Ny418 := Aside0.mk hy418
        clear hy418
        replace H := Option.bind_eq_some_iff.mp H
        obtain ⟨⟨t421, t422, t423⟩, A380, H⟩ := H
        replace H : (if 0 ≤ t421 then (if t421 < (y418.length : Int) then (if t399.size + (rdOf ByteArray.empty y418 t421).size ≤ 9223372036854775807 then (some (t399 ++ (rdOf ByteArray.empty y418 t421), t422, t423)) else (none)) else (none)) else (none)) = some (r1, r2, r3) := H
        have A38 := Aside0.mk A380
        clear A380
        by_cases c39 : 0 ≤ t421
        · rw [if_pos c39] at H
          have c39b0 : decide (0 ≤ t421) = true := decide_eq_true c39
          clear c39
          by_cases c40 : t421 < (y418.length : Int)
          · rw [if_pos c40] at H
            have c40b0 : decide (t421 < (y418.length : Int)) = true := decide_eq_true c40
            clear c40
            by_cases c41 : t399.size + (rdOf ByteArray.empty y418 t421).size ≤ 9223372036854775807
            · rw [if_pos c41] at H
              have c41b0 := eq_true c41
              have c41b1 : decide (t399.size + (rdOf ByteArray.empty y418 t421).size ≤ 9223372036854775807) = true := decide_eq_true c41
              try have c41b2 : (9223372036854775807 < t399.size + (rdOf ByteArray.empty y418 t421).size) = False := eq_false (Nat.not_lt.2 c41)
              simp only [Option.some.injEq, Prod.mk.injEq] at H
              obtain ⟨rfl, rfl, rfl⟩ := H
              go_enter Tryd.func83, Tryd.ntmps83
              go_wp2_with (first | ((with_reducible refine gate_callee (f := 109) rfl ?_); refine goesL_ (some 7) rfl rfl Tryd.func109 (by kernel_rfl) rfl #[.pointer (some ⟨g, 0, none⟩)] rfl (by (try simp only [List.map_toArray, List.map_cons, List.map_nil]); first | done | rfl | (simp only [List.length_drop, List.length_take]; rfl)) ?_; (with_reducible refine (spec_l01Cur_program.calls k g s0_0 s0_1 s0_2 t399 t400 t401 w0 _ ?side1 ?side2 A2.out).mono ?_); (case side1 => repeat (first | (with_reducible first | exact HI0.out | apply IsS92.alloc | apply IsS92.drewN | apply IsS92.drew | apply IsS92.set_1 | apply IsS92.set_2) | exact HI0.out)); (case side2 => repeat (first | (with_reducible first | exact HB.out | apply below_alloc | apply pw_below_drewN | apply below_drew1 | refine below_set ?_ (IsS92.ge HI0.out)) | exact HB.out)); rintro e w42 ⟨rfl, hi, hb, hk⟩; refine ⟨_, rfl, ?_⟩; have n0_ := Aside0.mk (KeepBut.trans (by repeat (first | (with_reducible first | exact HK.out | apply KeepBut.set_ | apply keep_drewN | apply keep_drew | apply keep_alloc) | exact HK.out)) hk (.inl rfl)); have n1_ := Aside0.mk (hb); have n2_ := Aside0.mk (hi); clear HK; clear HB; clear HI0; have HK := n0_; have HB := n1_; have HI0 := n2_; clear n0_ n1_ n2_; (try clear hb); (try clear hb2); (try clear hk); (try clear hi)) | ((with_reducible refine gate_callee (f := 70) rfl ?_); refine goesL_ (some 9) rfl rfl Tryd.func70 (by kernel_rfl) rfl #[.pointer (some ⟨g, 0, none⟩), .int .i64 8] rfl (by (try simp only [List.map_toArray, List.map_cons, List.map_nil]); first | done | rfl | (simp only [List.length_drop, List.length_take]; rfl)) ?_; (with_reducible refine (spec_l01Cur_pick.calls g s0_0 t400 t401 8 t402 t403 t404 w0 _ ?side1 ?side2 A3.out).mono ?_); (case side1 => repeat (first | (with_reducible first | exact HI0.out | apply IsS92.alloc | apply IsS92.drewN | apply IsS92.drew | apply IsS92.set_1 | apply IsS92.set_2) | exact HI0.out)); (case side2 => repeat (first | (with_reducible first | exact HB.out | apply below_alloc | apply pw_below_drewN | apply below_drew1 | refine below_set ?_ (IsS92.ge HI0.out)) | exact HB.out)); rintro e w43 ⟨rfl, hi, hb, hk⟩; refine ⟨_, rfl, ?_⟩; have n0_ := Aside0.mk (KeepBut.trans (by repeat (first | (with_reducible first | exact HK.out | apply KeepBut.set_ | apply keep_drewN | apply keep_drew | apply keep_alloc) | exact HK.out)) hk (.inl rfl)); have n1_ := Aside0.mk (hb); have n2_ := Aside0.mk (hi); clear HK; clear HB; clear HI0; have HK := n0_; have HB := n1_; have HI0 := n2_; clear n0_ n1_ n2_; (try clear hb); (try clear hb2); (try clear hk); (try clear hi)) | ((with_reducible refine gate_dst (N := 47) rfl ?_); refine Kd.R_lit Kd.string _ 9 ?hg (N := 47) ?hd (xs := ([(⟨#[112, 40, 49, 41]⟩ : ByteArray), (⟨#[112, 40, 41, 46]⟩ : ByteArray), (⟨#[114, 101, 108, 32, 112, 40, 41, 32, 105, 110, 112, 117, 116, 46]⟩ : ByteArray), (⟨#[112, 40, 120, 41, 32, 58, 45, 32, 120, 46]⟩ : ByteArray), (⟨#[112, 40, 120, 41, 32, 58, 45, 32, 113, 40, 120, 41, 44, 32, 46]⟩ : ByteArray), (⟨#[112, 40, 48, 49, 41, 46]⟩ : ByteArray), (⟨#[112, 40, 49, 48, 48, 48, 48, 48, 49, 41, 46]⟩ : ByteArray), (⟨#[112, 40, 34, 97, 41, 46]⟩ : ByteArray), (⟨#[116, 121, 112, 101, 32, 116, 32, 61, 32, 65, 46]⟩ : ByteArray), (⟨#[116, 121, 112, 101, 32, 84, 32, 61, 32, 46]⟩ : ByteArray), (⟨#[114, 101, 108, 32, 80, 40, 110, 117, 109, 98, 101, 114, 41, 46]⟩ : ByteArray), (⟨#[112, 40, 65, 40, 66, 40, 49, 44, 32, 45, 50, 41, 44, 32, 34, 120, 34, 41, 41, 46]⟩ : ByteArray), (⟨#[112, 40, 40, 49, 32, 43, 32, 50, 41, 32, 42, 32, 45, 51, 32, 45, 32, 120, 41, 46]⟩ : ByteArray), (⟨#[112, 40, 120, 41, 32, 58, 45, 32, 33, 120, 32, 60, 32, 49, 46]⟩ : ByteArray), (⟨#[112, 40, 120, 41, 32, 58, 45, 32, 40, 120, 41, 32, 61, 32, 113, 40, 49, 41, 46]⟩ : ByteArray), (⟨#[112, 40, 49, 44, 50, 44, 51, 44, 52, 44, 53, 44, 54, 44, 55, 41, 46]⟩ : ByteArray), (⟨#[114, 101, 108, 32, 113, 40, 110, 117, 109, 98, 101, 114, 32, 115, 121, 109, 98, 111, 108, 41, 46]⟩ : ByteArray), (⟨#[112, 40, 45, 32, 48, 41, 46]⟩ : ByteArray), (⟨#[112, 40, 120, 41, 32, 58, 45, 32, 114, 101, 108, 40, 120, 41, 46]⟩ : ByteArray), (⟨#[97, 98, 99, 100, 101, 102, 103, 104, 105, 106, 107, 108, 109, 110, 111, 112, 113, 114, 115, 116, 117, 40, 49, 41, 46]⟩ : ByteArray), (⟨#[112, 40, 95, 41, 32, 58, 45, 32, 95, 32, 61, 32, 95, 46]⟩ : ByteArray), (⟨#[114, 101, 108, 32, 114, 40, 110, 117, 109, 98, 101, 114, 41, 32, 105, 110, 112, 117, 116, 32, 111, 117, 116, 112, 117, 116, 46]⟩ : ByteArray)] : List ByteArray)) (inner := [.string (⟨#[112, 40, 49, 41]⟩ : ByteArray), .string (⟨#[112, 40, 41, 46]⟩ : ByteArray), .string (⟨#[114, 101, 108, 32, 112, 40, 41, 32, 105, 110, 112, 117, 116, 46]⟩ : ByteArray), .string (⟨#[112, 40, 120, 41, 32, 58, 45, 32, 120, 46]⟩ : ByteArray), .string (⟨#[112, 40, 120, 41, 32, 58, 45, 32, 113, 40, 120, 41, 44, 32, 46]⟩ : ByteArray), .string (⟨#[112, 40, 48, 49, 41, 46]⟩ : ByteArray), .string (⟨#[112, 40, 49, 48, 48, 48, 48, 48, 49, 41, 46]⟩ : ByteArray), .string (⟨#[112, 40, 34, 97, 41, 46]⟩ : ByteArray), .string (⟨#[116, 121, 112, 101, 32, 116, 32, 61, 32, 65, 46]⟩ : ByteArray), .string (⟨#[116, 121, 112, 101, 32, 84, 32, 61, 32, 46]⟩ : ByteArray), .string (⟨#[114, 101, 108, 32, 80, 40, 110, 117, 109, 98, 101, 114, 41, 46]⟩ : ByteArray), .string (⟨#[112, 40, 65, 40, 66, 40, 49, 44, 32, 45, 50, 41, 44, 32, 34, 120, 34, 41, 41, 46]⟩ : ByteArray), .string (⟨#[112, 40, 40, 49, 32, 43, 32, 50, 41, 32, 42, 32, 45, 51, 32, 45, 32, 120, 41, 46]⟩ : ByteArray), .string (⟨#[112, 40, 120, 41, 32, 58, 45, 32, 33, 120, 32, 60, 32, 49, 46]⟩ : ByteArray), .string (⟨#[112, 40, 120, 41, 32, 58, 45, 32, 40, 120, 41, 32, 61, 32, 113, 40, 49, 41, 46]⟩ : ByteArray), .string (⟨#[112, 40, 49, 44, 50, 44, 51, 44, 52, 44, 53, 44, 54, 44, 55, 41, 46]⟩ : ByteArray), .string (⟨#[114, 101, 108, 32, 113, 40, 110, 117, 109, 98, 101, 114, 32, 115, 121, 109, 98, 111, 108, 41, 46]⟩ : ByteArray), .string (⟨#[112, 40, 45, 32, 48, 41, 46]⟩ : ByteArray), .string (⟨#[112, 40, 120, 41, 32, 58, 45, 32, 114, 101, 108, 40, 120, 41, 46]⟩ : ByteArray), .string (⟨#[97, 98, 99, 100, 101, 102, 103, 104, 105, 106, 107, 108, 109, 110, 111, 112, 113, 114, 115, 116, 117, 40, 49, 41, 46]⟩ : ByteArray), .string (⟨#[112, 40, 95, 41, 32, 58, 45, 32, 95, 32, 61, 32, 95, 46]⟩ : ByteArray), .string (⟨#[114, 101, 108, 32, 114, 40, 110, 117, 109, 98, 101, 114, 41, 32, 105, 110, 112, 117, 116, 32, 111, 117, 116, 112, 117, 116, 46]⟩ : ByteArray)]) (ok := fun _ => True) (okp := fun _ => True) ?hr ?hp (fun _ hk => hk) trivial (Below.refl _ _) (Nat.le_refl _) (by simp) ?_; (case hd => rfl); (case hg => rfl); (case hr => first | (go_simp; done) | (go_simp; rfl)); (case hp => exact (Reps.one (show Kd.M Kd.string _ _ _ (⟨#[112, 40, 49, 41]⟩ : ByteArray) [.string (⟨#[112, 40, 49, 41]⟩ : ByteArray)] from rfl) (Reps.one (show Kd.M Kd.string _ _ _ (⟨#[112, 40, 41, 46]⟩ : ByteArray) [.string (⟨#[112, 40, 41, 46]⟩ : ByteArray)] from rfl) (Reps.one (show Kd.M Kd.string _ _ _ (⟨#[114, 101, 108, 32, 112, 40, 41, 32, 105, 110, 112, 117, 116, 46]⟩ : ByteArray) [.string (⟨#[114, 101, 108, 32, 112, 40, 41, 32, 105, 110, 112, 117, 116, 46]⟩ : ByteArray)] from rfl) (Reps.one (show Kd.M Kd.string _ _ _ (⟨#[112, 40, 120, 41, 32, 58, 45, 32, 120, 46]⟩ : ByteArray) [.string (⟨#[112, 40, 120, 41, 32, 58, 45, 32, 120, 46]⟩ : ByteArray)] from rfl) (Reps.one (show Kd.M Kd.string _ _ _ (⟨#[112, 40, 120, 41, 32, 58, 45, 32, 113, 40, 120, 41, 44, 32, 46]⟩ : ByteArray) [.string (⟨#[112, 40, 120, 41, 32, 58, 45, 32, 113, 40, 120, 41, 44, 32, 46]⟩ : ByteArray)] from rfl) (Reps.one (show Kd.M Kd.string _ _ _ (⟨#[112, 40, 48, 49, 41, 46]⟩ : ByteArray) [.string (⟨#[112, 40, 48, 49, 41, 46]⟩ : ByteArray)] from rfl) (Reps.one (show Kd.M Kd.string _ _ _ (⟨#[112, 40, 49, 48, 48, 48, 48, 48, 49, 41, 46]⟩ : ByteArray) [.string (⟨#[112, 40, 49, 48, 48, 48, 48, 48, 49, 41, 46]⟩ : ByteArray)] from rfl) (Reps.one (show Kd.M Kd.string _ _ _ (⟨#[112, 40, 34, 97, 41, 46]⟩ : ByteArray) [.string (⟨#[112, 40, 34, 97, 41, 46]⟩ : ByteArray)] from rfl) (Reps.one (show Kd.M Kd.string _ _ _ (⟨#[116, 121, 112, 101, 32, 116, 32, 61, 32, 65, 46]⟩ : ByteArray) [.string (⟨#[116, 121, 112, 101, 32, 116, 32, 61, 32, 65, 46]⟩ : ByteArray)] from rfl) (Reps.one (show Kd.M Kd.string _ _ _ (⟨#[116, 121, 112, 101, 32, 84, 32, 61, 32, 46]⟩ : ByteArray) [.string (⟨#[116, 121, 112, 101, 32, 84, 32, 61, 32, 46]⟩ : ByteArray)] from rfl) (Reps.one (show Kd.M Kd.string _ _ _ (⟨#[114, 101, 108, 32, 80, 40, 110, 117, 109, 98, 101, 114, 41, 46]⟩ : ByteArray) [.string (⟨#[114, 101, 108, 32, 80, 40, 110, 117, 109, 98, 101, 114, 41, 46]⟩ : ByteArray)] from rfl) (Reps.one (show Kd.M Kd.string _ _ _ (⟨#[112, 40, 65, 40, 66, 40, 49, 44, 32, 45, 50, 41, 44, 32, 34, 120, 34, 41, 41, 46]⟩ : ByteArray) [.string (⟨#[112, 40, 65, 40, 66, 40, 49, 44, 32, 45, 50, 41, 44, 32, 34, 120, 34, 41, 41, 46]⟩ : ByteArray)] from rfl) (Reps.one (show Kd.M Kd.string _ _ _ (⟨#[112, 40, 40, 49, 32, 43, 32, 50, 41, 32, 42, 32, 45, 51, 32, 45, 32, 120, 41, 46]⟩ : ByteArray) [.string (⟨#[112, 40, 40, 49, 32, 43, 32, 50, 41, 32, 42, 32, 45, 51, 32, 45, 32, 120, 41, 46]⟩ : ByteArray)] from rfl) (Reps.one (show Kd.M Kd.string _ _ _ (⟨#[112, 40, 120, 41, 32, 58, 45, 32, 33, 120, 32, 60, 32, 49, 46]⟩ : ByteArray) [.string (⟨#[112, 40, 120, 41, 32, 58, 45, 32, 33, 120, 32, 60, 32, 49, 46]⟩ : ByteArray)] from rfl) (Reps.one (show Kd.M Kd.string _ _ _ (⟨#[112, 40, 120, 41, 32, 58, 45, 32, 40, 120, 41, 32, 61, 32, 113, 40, 49, 41, 46]⟩ : ByteArray) [.string (⟨#[112, 40, 120, 41, 32, 58, 45, 32, 40, 120, 41, 32, 61, 32, 113, 40, 49, 41, 46]⟩ : ByteArray)] from rfl) (Reps.one (show Kd.M Kd.string _ _ _ (⟨#[112, 40, 49, 44, 50, 44, 51, 44, 52, 44, 53, 44, 54, 44, 55, 41, 46]⟩ : ByteArray) [.string (⟨#[112, 40, 49, 44, 50, 44, 51, 44, 52, 44, 53, 44, 54, 44, 55, 41, 46]⟩ : ByteArray)] from rfl) (Reps.one (show Kd.M Kd.string _ _ _ (⟨#[114, 101, 108, 32, 113, 40, 110, 117, 109, 98, 101, 114, 32, 115, 121, 109, 98, 111, 108, 41, 46]⟩ : ByteArray) [.string (⟨#[114, 101, 108, 32, 113, 40, 110, 117, 109, 98, 101, 114, 32, 115, 121, 109, 98, 111, 108, 41, 46]⟩ : ByteArray)] from rfl) (Reps.one (show Kd.M Kd.string _ _ _ (⟨#[112, 40, 45, 32, 48, 41, 46]⟩ : ByteArray) [.string (⟨#[112, 40, 45, 32, 48, 41, 46]⟩ : ByteArray)] from rfl) (Reps.one (show Kd.M Kd.string _ _ _ (⟨#[112, 40, 120, 41, 32, 58, 45, 32, 114, 101, 108, 40, 120, 41, 46]⟩ : ByteArray) [.string (⟨#[112, 40, 120, 41, 32, 58, 45, 32, 114, 101, 108, 40, 120, 41, 46]⟩ : ByteArray)] from rfl) (Reps.one (show Kd.M Kd.string _ _ _ (⟨#[97, 98, 99, 100, 101, 102, 103, 104, 105, 106, 107, 108, 109, 110, 111, 112, 113, 114, 115, 116, 117, 40, 49, 41, 46]⟩ : ByteArray) [.string (⟨#[97, 98, 99, 100, 101, 102, 103, 104, 105, 106, 107, 108, 109, 110, 111, 112, 113, 114, 115, 116, 117, 40, 49, 41, 46]⟩ : ByteArray)] from rfl) (Reps.one (show Kd.M Kd.string _ _ _ (⟨#[112, 40, 95, 41, 32, 58, 45, 32, 95, 32, 61, 32, 95, 46]⟩ : ByteArray) [.string (⟨#[112, 40, 95, 41, 32, 58, 45, 32, 95, 32, 61, 32, 95, 46]⟩ : ByteArray)] from rfl) (Reps.one (show Kd.M Kd.string _ _ _ (⟨#[114, 101, 108, 32, 114, 40, 110, 117, 109, 98, 101, 114, 41, 32, 105, 110, 112, 117, 116, 32, 111, 117, 116, 112, 117, 116, 46]⟩ : ByteArray) [.string (⟨#[114, 101, 108, 32, 114, 40, 110, 117, 109, 98, 101, 114, 41, 32, 105, 110, 112, 117, 116, 32, 111, 117, 116, 112, 117, 116, 46]⟩ : ByteArray)] from rfl) (Reps.none _ _)))))))))))))))))))))))); intro v419 w44 ho45 hb hg_ hnew_; clear hg_ hnew_; (first | rw [← Ny418.out] at ho45 | (simp only [Int.reduceToNat] at ho45; rw [← Ny418.out] at ho45)); have n0_ := Aside0.mk (Kd.R_lower ho45 (keep_size (w := w) (g := g) (row := none) (by repeat (first | (with_reducible first | exact HK.out | apply KeepBut.set_ | apply keep_drewN | apply keep_drew | apply keep_alloc) | exact HK.out)))); have n1_ := Aside0.mk (IsS92.below (by repeat (first | (with_reducible first | exact HI0.out | apply IsS92.alloc | apply IsS92.drewN | apply IsS92.drew | apply IsS92.set_1 | apply IsS92.set_2) | exact HI0.out)) hb); have n2_ := Aside0.mk (KeepBut.trans (by repeat (first | (with_reducible first | exact HK.out | apply KeepBut.set_ | apply keep_drewN | apply keep_drew | apply keep_alloc) | exact HK.out)) (KeepBut.of_below hb g none) (.inl rfl)); have n3_ := Aside0.mk (below_step (by repeat (first | (with_reducible first | exact HB.out | apply below_alloc | apply pw_below_drewN | apply below_drew1 | refine below_set ?_ (IsS92.ge HI0.out)) | exact HB.out)) hb); clear HI0; clear HK; clear HB; have HO420 := n0_; have HI0 := n1_; have HK := n2_; have HB := n3_; clear n0_ n1_ n2_ n3_; clear hb ho45) | ((with_reducible refine gate_callee (f := 70) rfl ?_); refine goesL_ (some 49) rfl rfl Tryd.func70 (by kernel_rfl) rfl #[.pointer (some ⟨g, 0, none⟩), .int .i64 22] rfl (by (try simp only [List.map_toArray, List.map_cons, List.map_nil]); first | done | rfl | (simp only [List.length_drop, List.length_take]; rfl)) ?_; (with_reducible refine (spec_l01Cur_pick.calls g s0_0 t403 t404 22 t421 t422 t423 w0 _ ?side1 ?side2 A38.out).mono ?_); (case side1 => repeat (first | (with_reducible first | exact HI0.out | apply IsS92.alloc | apply IsS92.drewN | apply IsS92.drew | apply IsS92.set_1 | apply IsS92.set_2) | exact HI0.out)); (case side2 => repeat (first | (with_reducible first | exact HB.out | apply below_alloc | apply pw_below_drewN | apply below_drew1 | refine below_set ?_ (IsS92.ge HI0.out)) | exact HB.out)); rintro e w46 ⟨rfl, hi, hb, hk⟩; refine ⟨_, rfl, ?_⟩; have n0_ := Aside0.mk (Kd.R_mono (Kd.R_keep (IsS92.apart (show IsS92 w0 _ g s0_0 t403 t404 from by repeat (first | (with_reducible first | exact HI0.out | apply IsS92.alloc | apply IsS92.drewN | apply IsS92.drew | apply IsS92.set_1 | apply IsS92.set_2) | exact HI0.out)) (by (with_reducible repeat (first | apply Kd.R_alloc | apply Kd.R_drewN | apply Kd.R_drew)); exact HO420.out) (by decide)) hk (fun _ h => h.2)) (fun _ h => h.1)); have n1_ := Aside0.mk (KeepBut.trans (by repeat (first | (with_reducible first | exact HK.out | apply KeepBut.set_ | apply keep_drewN | apply keep_drew | apply keep_alloc) | exact HK.out)) hk (.inl rfl)); have n2_ := Aside0.mk (hb); have n3_ := Aside0.mk (hi); clear HO420; clear HK; clear HB; clear HI0; have HO420 := n0_; have HK := n1_; have HB := n2_; have HI0 := n3_; clear n0_ n1_ n2_ n3_; (try clear hb); (try clear hb2); (try clear hk); (try clear hi); obtain ⟨Ao47, co47, eo47⟩ := Kd.R_slice HO420.out; subst eo47; have p424 : 0 ≤ (t421 : Int) := of_decide_eq_true (by first | (with_reducible assumption) | assumption); have q424 : t421 < (y418.length : Int) := of_decide_eq_true (by first | (with_reducible assumption) | assumption); obtain ⟨ad424, e424, hx424_0⟩ := Kd.at_string (Kd.R_reads' HO420.out).2.2 t421 p424 q424; cases e424; replace p424 := eq_true p424; replace q424 := eq_true q424))
              go_ret
              exact ⟨by first | rfl | (simp [errW_none, errW_some] <;> rfl) | (simp [*, errW_none, errW_some] <;> rfl), by repeat (first | (with_reducible first | exact HI0.out | apply IsS92.alloc | apply IsS92.drewN | apply IsS92.drew | apply IsS92.set_1 | apply IsS92.set_2) | exact HI0.out), by repeat (first | (with_reducible first | exact HB.out | apply below_alloc | apply pw_below_drewN | apply below_drew1 | refine below_set ?_ (IsS92.ge HI0.out)) | exact HB.out), by repeat (first | (with_reducible first | exact HK.out | apply KeepBut.set_ | apply keep_drewN | apply keep_drew | apply keep_alloc) | exact HK.out)⟩
            · rw [if_neg c41] at H
              exact absurd H (by simp)
          · rw [if_neg c40] at H
            exact absurd H (by simp)
        · rw [if_neg c39] at H
          exact absurd H (by simp)
      · rw [if_neg c37] at H
        have c37b0 : (t402 == 2) = false := beq_eq_false_iff_ne.mpr c37
        have c37b1 : (t402 != 2) = true := bne_iff_ne.mpr c37
        simp only [Option.some.injEq, Prod.mk.injEq] at H
        obtain ⟨rfl, rfl, rfl⟩ := H
        go_enter Tryd.func83, Tryd.ntmps83
        go_wp2_with (first | ((with_reducible refine gate_callee (f := 109) rfl ?_); refine goesL_ (some 7) rfl rfl Tryd.func109 (by kernel_rfl) rfl #[.pointer (some ⟨g, 0, none⟩)] rfl (by (try simp only [List.map_toArray, List.map_cons, List.map_nil]); first | done | rfl | (simp only [List.length_drop, List.length_take]; rfl)) ?_; (with_reducible refine (spec_l01Cur_program.calls k g s0_0 s0_1 s0_2 t399 t400 t401 w0 _ ?side1 ?side2 A2.out).mono ?_); (case side1 => repeat (first | (with_reducible first | exact HI0.out | apply IsS92.alloc | apply IsS92.drewN | apply IsS92.drew | apply IsS92.set_1 | apply IsS92.set_2) | exact HI0.out)); (case side2 => repeat (first | (with_reducible first | exact HB.out | apply below_alloc | apply pw_below_drewN | apply below_drew1 | refine below_set ?_ (IsS92.ge HI0.out)) | exact HB.out)); rintro e w48 ⟨rfl, hi, hb, hk⟩; refine ⟨_, rfl, ?_⟩; have n0_ := Aside0.mk (KeepBut.trans (by repeat (first | (with_reducible first | exact HK.out | apply KeepBut.set_ | apply keep_drewN | apply keep_drew | apply keep_alloc) | exact HK.out)) hk (.inl rfl)); have n1_ := Aside0.mk (hb); have n2_ := Aside0.mk (hi); clear HK; clear HB; clear HI0; have HK := n0_; have HB := n1_; have HI0 := n2_; clear n0_ n1_ n2_; (try clear hb); (try clear hb2); (try clear hk); (try clear hi)) | ((with_reducible refine gate_callee (f := 70) rfl ?_); refine goesL_ (some 9) rfl rfl Tryd.func70 (by kernel_rfl) rfl #[.pointer (some ⟨g, 0, none⟩), .int .i64 8] rfl (by (try simp only [List.map_toArray, List.map_cons, List.map_nil]); first | done | rfl | (simp only [List.length_drop, List.length_take]; rfl)) ?_; (with_reducible refine (spec_l01Cur_pick.calls g s0_0 t400 t401 8 t402 t403 t404 w0 _ ?side1 ?side2 A3.out).mono ?_); (case side1 => repeat (first | (with_reducible first | exact HI0.out | apply IsS92.alloc | apply IsS92.drewN | apply IsS92.drew | apply IsS92.set_1 | apply IsS92.set_2) | exact HI0.out)); (case side2 => repeat (first | (with_reducible first | exact HB.out | apply below_alloc | apply pw_below_drewN | apply below_drew1 | refine below_set ?_ (IsS92.ge HI0.out)) | exact HB.out)); rintro e w49 ⟨rfl, hi, hb, hk⟩; refine ⟨_, rfl, ?_⟩; have n0_ := Aside0.mk (KeepBut.trans (by repeat (first | (with_reducible first | exact HK.out | apply KeepBut.set_ | apply keep_drewN | apply keep_drew | apply keep_alloc) | exact HK.out)) hk (.inl rfl)); have n1_ := Aside0.mk (hb); have n2_ := Aside0.mk (hi); clear HK; clear HB; clear HI0; have HK := n0_; have HB := n1_; have HI0 := n2_; clear n0_ n1_ n2_; (try clear hb); (try clear hb2); (try clear hk); (try clear hi)))
        go_ret
        exact ⟨by first | rfl | (simp [errW_none, errW_some] <;> rfl) | (simp [*, errW_none, errW_some] <;> rfl), by repeat (first | (with_reducible first | exact HI0.out | apply IsS92.alloc | apply IsS92.drewN | apply IsS92.drew | apply IsS92.set_1 | apply IsS92.set_2) | exact HI0.out), by repeat (first | (with_reducible first | exact HB.out | apply below_alloc | apply pw_below_drewN | apply below_drew1 | refine below_set ?_ (IsS92.ge HI0.out)) | exact HB.out), by repeat (first | (with_reducible first | exact HK.out | apply KeepBut.set_ | apply keep_drewN | apply keep_drew | apply keep_alloc) | exact HK.out)⟩
def spec_DrawTokens.f (k : Nat) (l0 : List Int) : Option (ByteArray) := (spec_l01Open.f l0).bind fun bt425 => ((spec_l01Cur_source.f k bt425.1 bt425.2.1 bt425.2.2).bind fun bt429 => (some bt429.1))
set_option maxHeartbeats 8000000 in
set_option maxRecDepth 100000 in
theorem spec_DrawTokens.calls (k : Nat) (A0 : Option Addr) (c0 : Nat) (l0 : List Int) (r : ByteArray) (w : World) (hr0 : Kd.C (Kd.int .u8) w A0 l0.length l0) (hc0 : l0.length ≤ c0) (h : spec_DrawTokens.f k l0 = some r) :
    Calls Tryd.prog 48 #[.slice A0 l0.length c0] w fun e w' => e = .returned (.string r) ∧ Below w.heap.size w w' := by
  have HR0 := Aside0.mk hr0
  have HC0 := Aside0.mk hc0
  clear hr0 hc0
  have HB := Aside0.mk (Below.refl w.heap.size w)
  have H : ((spec_l01Open.f l0).bind fun bt425 => ((spec_l01Cur_source.f k bt425.1 bt425.2.1 bt425.2.2).bind fun bt429 => (some bt429.1))) = some r := h
  clear h
  replace H := Option.bind_eq_some_iff.mp H
  obtain ⟨⟨t425, t426, t427⟩, A20, H⟩ := H
  replace H : ((spec_l01Cur_source.f k t425 t426 t427).bind fun bt429 => (some bt429.1)) = some r := H
  have A2 := Aside0.mk A20
  clear A20
  replace H := Option.bind_eq_some_iff.mp H
  obtain ⟨⟨t429, t430, t431⟩, A30, H⟩ := H
  replace H : (some t429) = some r := H
  have A3 := Aside0.mk A30
  clear A30
  obtain rfl := Option.some.inj H
  go_enter Tryd.func48, Tryd.ntmps48
  go_wp2_with (first | ((with_reducible refine gate_callee (f := 68) rfl ?_); refine goesL_ (some 5) rfl rfl Tryd.func68 (by kernel_rfl) rfl #[.slice A0 l0.length c0] rfl (by (try simp only [List.map_toArray, List.map_cons, List.map_nil]); first | done | rfl | (simp only [List.length_drop, List.length_take]; rfl)) ?_; (with_reducible refine (spec_l01Open.calls _ _ l0 t425 t426 t427 w _ ?side1 ?side2 ?side3 A2.out).mono ?_); (case side1 => repeat (first | (with_reducible first | exact HB.out | apply below_alloc | apply pw_below_drewN | apply below_drew1) | exact HB.out)); (case side2 => exact HR0.out); (case side3 => exact HC0.out); rintro e w4 ⟨g428, rfl, hi, hb, hb2⟩; refine ⟨_, rfl, ?_⟩; have n0_ := Aside0.mk (hb); have n1_ := Aside0.mk (hi); clear HB; have HB := n0_; have HI428 := n1_; clear n0_ n1_; (try clear hb); (try clear hb2); (try clear hk); (try clear hi)) | ((with_reducible refine gate_callee (f := 83) rfl ?_); refine goesL_ (some 7) rfl rfl Tryd.func83 (by kernel_rfl) rfl #[.pointer (some ⟨g428, 0, none⟩)] rfl (by (try simp only [List.map_toArray, List.map_cons, List.map_nil]); first | done | rfl | (simp only [List.length_drop, List.length_take]; rfl)) ?_; (with_reducible refine (spec_l01Cur_source.calls k g428 t425 t426 t427 t429 t430 t431 w _ ?side1 ?side2 A3.out).mono ?_); (case side1 => repeat (first | (with_reducible first | exact HI428.out | apply IsS92.alloc | apply IsS92.drewN | apply IsS92.drew | apply IsS92.set_1 | apply IsS92.set_2) | exact HI428.out)); (case side2 => repeat (first | (with_reducible first | exact HB.out | apply below_alloc | apply pw_below_drewN | apply below_drew1 | refine below_set ?_ (IsS92.ge HI428.out)) | exact HB.out)); rintro e w5 ⟨rfl, hi, hb, hk⟩; refine ⟨_, rfl, ?_⟩; have n0_ := Aside0.mk (hb); have n1_ := Aside0.mk (hi); clear HB; clear HI428; have HB := n0_; have HI428 := n1_; clear n0_ n1_; (try clear hb); (try clear hb2); (try clear hk); (try clear hi)))
  go_ret
  exact ⟨by first | rfl | (simp [errW_none, errW_some] <;> rfl) | (simp [*, errW_none, errW_some] <;> rfl), by repeat (first | (with_reducible first | exact HB.out | apply below_alloc | apply pw_below_drewN | apply below_drew1 | refine below_set ?_ (IsS92.ge HI428.out)) | exact HB.out)⟩
def strings_IndexByte.f (a0 : ByteArray) (a1 : Int) : Option Int := some (Lib.indexByte a0.data.toList a1.toNat.toUInt8)
theorem strings_IndexByte.calls (a0 : ByteArray) (a1 : Int) (r : Int) (w : World) (h : strings_IndexByte.f a0 a1 = some r) :
    Calls Tryd.prog 110 #[.string a0, .int .u8 a1] w fun e w' => e = .returned (.int .i64 r) ∧ Drawn0 w w' := by
  obtain rfl := Option.some.inj h
  refine (Tryd.strings_IndexByte a0 a1 w).mono ?_
  rintro e w' ⟨rfl, rfl⟩
  exact ⟨rfl, Drawn0.refl _⟩
end Go.Proofs.YtebadckdihgklaaDoor.Pb
end
section
namespace Go.Proofs.YtebadckdihgklaaDoor.Pb
open Go.RowKit Go.Proofs.YtebadckdihgklaaDoorW.PrintWords Go.Proofs.YtebadckdihgklaaDoorW.PrintLast Go.Proofs.YtebadckdihgklaaDoorW.PrintMore
attribute [local go_sem] max2_int min2_int max_two min_two max_three min_three max_four min_four   -- for this text's walks alone
set_option linter.unusedVariables false
set_option linter.unusedSimpArgs false
mutual
def impl_tokenAt.l0 : Nat → ByteArray → Int → Option (Int × Int × Int)
  | 0, _, _ => none
  | k + 1, x0, x6 => if x6 < (x0.size : Int) then (if 0 ≤ x6 then ((impl_isDigit.f (bt x0 x6)).bind fun t434 => (if t434 = true then (impl_tokenAt.l0 k x0 (wrap64 (x6 + 1))) else (if x6 ≤ (x0.size : Int) then ((impl_kindOf.f k (x0.extract 0 (x6 : Int).toNat)).bind fun t435 => (if t435 = 1 then (some (3, x6, 0)) else (some (0, 0, 4)))) else (none)))) else (none)) else (if 0 ≤ x6 then (if x6 ≤ (x0.size : Int) then ((impl_kindOf.f k (x0.extract 0 (x6 : Int).toNat)).bind fun t436 => (if t436 = 1 then (some (3, x6, 0)) else (some (0, 0, 4)))) else (none)) else (none))
def impl_tokenAt.l1 : Nat → ByteArray → List ByteArray → Int → Int → Option (Int × Int × Int)
  | 0, _, _, _, _ => none
  | k + 1, x0, x52, x53, x54 => if x54 < x53 then (if 0 ≤ x54 then (if x54 < (x52.length : Int) then ((strings_HasPrefix.f x0 (rdOf ByteArray.empty x52 x54)).bind fun t442 => (if t442 = true then (some (5, ((rdOf ByteArray.empty x52 x54).size : Int), 0)) else (impl_tokenAt.l1 k x0 x52 x53 (wrap64 (x54 + 1))))) else (none)) else (none)) else (some (0, 0, 2))
end
def impl_tokenAt.f (k : Nat) (a0 : ByteArray) : Option (Int × Int × Int) := (impl_nameLong.f k a0).bind fun t432 => (if t432 > 0 then (if t432 > 20 then (some (0, 0, 2)) else (if 0 < (a0.size : Int) then (if (bt a0 0) ≥ 97 then (some (1, t432, 0)) else (some (2, t432, 0))) else (none))) else (if 0 < (a0.size : Int) then ((impl_isDigit.f (bt a0 0)).bind fun t433 => (if t433 = true then (impl_tokenAt.l0 k a0 0) else (if (bt a0 0) = 34 then ((impl_symbolLong.f k a0).bind fun t437 => (if t437 > 0 then (some (4, t437, 0)) else (some (0, 0, 3)))) else ((some (([(⟨#[58, 45]⟩ : ByteArray), (⟨#[33, 61]⟩ : ByteArray), (⟨#[60, 61]⟩ : ByteArray), (⟨#[40]⟩ : ByteArray), (⟨#[41]⟩ : ByteArray), (⟨#[44]⟩ : ByteArray), (⟨#[46]⟩ : ByteArray), (⟨#[33]⟩ : ByteArray), (⟨#[61]⟩ : ByteArray), (⟨#[60]⟩ : ByteArray), (⟨#[43]⟩ : ByteArray), (⟨#[45]⟩ : ByteArray), (⟨#[42]⟩ : ByteArray), (⟨#[124]⟩ : ByteArray), (⟨#[95]⟩ : ByteArray)] : List ByteArray) : List ByteArray)).bind fun y438 => (impl_tokenAt.l1 k a0 y438 (y438.length : Int) 0))))) else (none)))
set_option maxHeartbeats 8000000 in
set_option maxRecDepth 100000 in
theorem impl_tokenAt.calls (k : Nat) (a0 : ByteArray) (r1 : Int) (r2 : Int) (r3 : Int) (w : World) (hT : Tb w) (h : impl_tokenAt.f k a0 = some (r1, r2, r3)) :
    Calls Tryd.prog 111 #[.string a0] w fun e w' => e = .returned (.tuple #[.int .i64 r1, .int .i64 r2, .int .i64 r3]) ∧ Below w.heap.size w w' := by
  have HT := Aside0.mk hT
  clear hT
  have HB := Aside0.mk (Below.refl w.heap.size w)
  have H : ((impl_nameLong.f k a0).bind fun t432 => (if t432 > 0 then (if t432 > 20 then (some (0, 0, 2)) else (if 0 < (a0.size : Int) then (if (bt a0 0) ≥ 97 then (some (1, t432, 0)) else (some (2, t432, 0))) else (none))) else (if 0 < (a0.size : Int) then ((impl_isDigit.f (bt a0 0)).bind fun t433 => (if t433 = true then (impl_tokenAt.l0 k a0 0) else (if (bt a0 0) = 34 then ((impl_symbolLong.f k a0).bind fun t437 => (if t437 > 0 then (some (4, t437, 0)) else (some (0, 0, 3)))) else ((some (([(⟨#[58, 45]⟩ : ByteArray), (⟨#[33, 61]⟩ : ByteArray), (⟨#[60, 61]⟩ : ByteArray), (⟨#[40]⟩ : ByteArray), (⟨#[41]⟩ : ByteArray), (⟨#[44]⟩ : ByteArray), (⟨#[46]⟩ : ByteArray), (⟨#[33]⟩ : ByteArray), (⟨#[61]⟩ : ByteArray), (⟨#[60]⟩ : ByteArray), (⟨#[43]⟩ : ByteArray), (⟨#[45]⟩ : ByteArray), (⟨#[42]⟩ : ByteArray), (⟨#[124]⟩ : ByteArray), (⟨#[95]⟩ : ByteArray)] : List ByteArray) : List ByteArray)).bind fun y438 => (impl_tokenAt.l1 k a0 y438 (y438.length : Int) 0))))) else (none)))) = some (r1, r2, r3) := h
  clear h
  replace H := Option.bind_eq_some_iff.mp H
  obtain ⟨t432, A20, H⟩ := H
  replace H : (if t432 > 0 then (if t432 > 20 then (some (0, 0, 2)) else (if 0 < (a0.size : Int) then (if (bt a0 0) ≥ 97 then (some (1, t432, 0)) else (some (2, t432, 0))) else (none))) else (if 0 < (a0.size : Int) then ((impl_isDigit.f (bt a0 0)).bind fun t433 => (if t433 = true then (impl_tokenAt.l0 k a0 0) else (if (bt a0 0) = 34 then ((impl_symbolLong.f k a0).bind fun t437 => (if t437 > 0 then (some (4, t437, 0)) else (some (0, 0, 3)))) else ((some (([(⟨#[58, 45]⟩ : ByteArray), (⟨#[33, 61]⟩ : ByteArray), (⟨#[60, 61]⟩ : ByteArray), (⟨#[40]⟩ : ByteArray), (⟨#[41]⟩ : ByteArray), (⟨#[44]⟩ : ByteArray), (⟨#[46]⟩ : ByteArray), (⟨#[33]⟩ : ByteArray), (⟨#[61]⟩ : ByteArray), (⟨#[60]⟩ : ByteArray), (⟨#[43]⟩ : ByteArray), (⟨#[45]⟩ : ByteArray), (⟨#[42]⟩ : ByteArray), (⟨#[124]⟩ : ByteArray), (⟨#[95]⟩ : ByteArray)] : List ByteArray) : List ByteArray)).bind fun y438 => (impl_tokenAt.l1 k a0 y438 (y438.length : Int) 0))))) else (none))) = some (r1, r2, r3) := H
  have A2 := Aside0.mk A20
  clear A20
  by_cases c3 : t432 > 0
  · rw [if_pos c3] at H
    have c3b0 : decide (0 < t432) = true := decide_eq_true c3
    clear c3
    by_cases c4 : t432 > 20
    · rw [if_pos c4] at H
      have c4b0 : decide (20 < t432) = true := decide_eq_true c4
      clear c4
      simp only [Option.some.injEq, Prod.mk.injEq] at H
      obtain ⟨rfl, rfl, rfl⟩ := H
      go_enter Tryd.func111, Tryd.ntmps111
      go_wp2_with (first | ((with_reducible refine gate_callee (f := 106) rfl ?_); refine goesL_ (some 11) rfl rfl Tryd.func106 (by kernel_rfl) rfl #[.string a0] rfl (by (try simp only [List.map_toArray, List.map_cons, List.map_nil]); first | done | rfl | (simp only [List.length_drop, List.length_take]; rfl)) ?_; (with_reducible refine (impl_nameLong.calls k a0 t432 _ A2.out).mono ?_); rintro e w' ⟨rfl, ⟨nd, rfl⟩⟩; refine ⟨_, rfl, ?_⟩))
      go_ret3
      exact ⟨by first | rfl | (simp [errW_none, errW_some] <;> rfl) | (simp [*, errW_none, errW_some] <;> rfl), by repeat (first | (with_reducible first | exact HB.out | apply below_alloc | apply pw_below_drewN | apply below_drew1) | exact HB.out)⟩
    · rw [if_neg c4] at H
      have c4b0 : decide (20 < t432) = false := decide_eq_false c4
      clear c4
      by_cases c5 : 0 < (a0.size : Int)
      · rw [if_pos c5] at H
        have c5b0 : decide (0 < (a0.size : Int)) = true := decide_eq_true c5
        have c5b1 : decide (0 < a0.size) = true := decide_eq_true (by omega)
        clear c5
        by_cases c7 : (bt a0 0) ≥ 97
        · rw [if_pos c7] at H
          have c7b0 : decide (97 ≤ (bt a0 0)) = true := decide_eq_true c7
          clear c7
          simp only [Option.some.injEq, Prod.mk.injEq] at H
          obtain ⟨rfl, rfl, rfl⟩ := H
          go_enter Tryd.func111, Tryd.ntmps111
          go_wp2_with (first | ((with_reducible refine gate_callee (f := 106) rfl ?_); refine goesL_ (some 11) rfl rfl Tryd.func106 (by kernel_rfl) rfl #[.string a0] rfl (by (try simp only [List.map_toArray, List.map_cons, List.map_nil]); first | done | rfl | (simp only [List.length_drop, List.length_take]; rfl)) ?_; (with_reducible refine (impl_nameLong.calls k a0 t432 _ A2.out).mono ?_); rintro e w' ⟨rfl, ⟨nd, rfl⟩⟩; refine ⟨_, rfl, ?_⟩; have p6 : 0 ≤ (0 : Int) := (by omega); have q6 : 0 < a0.size := (by have : (0 : Int) < (a0.size : Int) := of_decide_eq_true (by first | (with_reducible assumption) | assumption); omega); have hx6 : ∀ h : 0 < a0.size, ((a0[0]'h).toNat : Int) = bt a0 0 := bt_at a0 0; clear p6; have qi6 : (0 < (a0.size : Int)) = True := eq_true (of_decide_eq_true (by first | (with_reducible assumption) | assumption)); replace q6 := eq_true q6))
          go_ret3
          exact ⟨by first | rfl | (simp [errW_none, errW_some] <;> rfl) | (simp [*, errW_none, errW_some] <;> rfl), by repeat (first | (with_reducible first | exact HB.out | apply below_alloc | apply pw_below_drewN | apply below_drew1) | exact HB.out)⟩
        · rw [if_neg c7] at H
          have c7b0 : decide (97 ≤ (bt a0 0)) = false := decide_eq_false c7
          clear c7
          simp only [Option.some.injEq, Prod.mk.injEq] at H
          obtain ⟨rfl, rfl, rfl⟩ := H
          go_enter Tryd.func111, Tryd.ntmps111
          go_wp2_with (first | ((with_reducible refine gate_callee (f := 106) rfl ?_); refine goesL_ (some 11) rfl rfl Tryd.func106 (by kernel_rfl) rfl #[.string a0] rfl (by (try simp only [List.map_toArray, List.map_cons, List.map_nil]); first | done | rfl | (simp only [List.length_drop, List.length_take]; rfl)) ?_; (with_reducible refine (impl_nameLong.calls k a0 t432 _ A2.out).mono ?_); rintro e w' ⟨rfl, ⟨nd, rfl⟩⟩; refine ⟨_, rfl, ?_⟩; have p6 : 0 ≤ (0 : Int) := (by omega); have q6 : 0 < a0.size := (by have : (0 : Int) < (a0.size : Int) := of_decide_eq_true (by first | (with_reducible assumption) | assumption); omega); have hx6 : ∀ h : 0 < a0.size, ((a0[0]'h).toNat : Int) = bt a0 0 := bt_at a0 0; clear p6; have qi6 : (0 < (a0.size : Int)) = True := eq_true (of_decide_eq_true (by first | (with_reducible assumption) | assumption)); replace q6 := eq_true q6))
          go_ret3
          exact ⟨by first | rfl | (simp [errW_none, errW_some] <;> rfl) | (simp [*, errW_none, errW_some] <;> rfl), by repeat (first | (with_reducible first | exact HB.out | apply below_alloc | apply pw_below_drewN | apply below_drew1) | exact HB.out)⟩
      · rw [if_neg c5] at H
        exact absurd H (by simp)
  · rw [if_neg c3] at H
    have c3b0 : decide (0 < t432) = false := decide_eq_false c3
    clear c3
    by_cases c8 : 0 < (a0.size : Int)
    · rw [if_pos c8] at H
      have c8b0 : decide (0 < (a0.size : Int)) = true := decide_eq_true c8
      have c8b1 : decide (0 < a0.size) = true := decide_eq_true (by omega)
      clear c8
      replace H := Option.bind_eq_some_iff.mp H
      obtain ⟨t433, A100, H⟩ := H
      replace H : (if t433 = true then (impl_tokenAt.l0 k a0 0) else (if (bt a0 0) = 34 then ((impl_symbolLong.f k a0).bind fun t437 => (if t437 > 0 then (some (4, t437, 0)) else (some (0, 0, 3)))) else ((some (([(⟨#[58, 45]⟩ : ByteArray), (⟨#[33, 61]⟩ : ByteArray), (⟨#[60, 61]⟩ : ByteArray), (⟨#[40]⟩ : ByteArray), (⟨#[41]⟩ : ByteArray), (⟨#[44]⟩ : ByteArray), (⟨#[46]⟩ : ByteArray), (⟨#[33]⟩ : ByteArray), (⟨#[61]⟩ : ByteArray), (⟨#[60]⟩ : ByteArray), (⟨#[43]⟩ : ByteArray), (⟨#[45]⟩ : ByteArray), (⟨#[42]⟩ : ByteArray), (⟨#[124]⟩ : ByteArray), (⟨#[95]⟩ : ByteArray)] : List ByteArray) : List ByteArray)).bind fun y438 => (impl_tokenAt.l1 k a0 y438 (y438.length : Int) 0)))) = some (r1, r2, r3) := H
      have A10 := Aside0.mk A100
      clear A100
      by_cases c11 : t433 = true
      · subst c11
        have H1 : (impl_tokenAt.l0 k a0 0) = some (r1, r2, r3) := by rw [if_pos rfl] at H; exact H
        clear H
        have H := H1
        clear H1
        have H' := Aside0.mk H
        clear H
        go_enter Tryd.func111, Tryd.ntmps111
        go_wp2_with (first | ((with_reducible refine gate_callee (f := 106) rfl ?_); refine goesL_ (some 11) rfl rfl Tryd.func106 (by kernel_rfl) rfl #[.string a0] rfl (by (try simp only [List.map_toArray, List.map_cons, List.map_nil]); first | done | rfl | (simp only [List.length_drop, List.length_take]; rfl)) ?_; (with_reducible refine (impl_nameLong.calls k a0 t432 _ A2.out).mono ?_); rintro e w' ⟨rfl, ⟨nd, rfl⟩⟩; refine ⟨_, rfl, ?_⟩; have p9 : 0 ≤ (0 : Int) := (by omega); have q9 : 0 < a0.size := (by have : (0 : Int) < (a0.size : Int) := of_decide_eq_true (by first | (with_reducible assumption) | assumption); omega); have hx9 : ∀ h : 0 < a0.size, ((a0[0]'h).toNat : Int) = bt a0 0 := bt_at a0 0; clear p9; have qi9 : (0 < (a0.size : Int)) = True := eq_true (of_decide_eq_true (by first | (with_reducible assumption) | assumption)); replace q9 := eq_true q9) | ((with_reducible refine gate_callee (f := 122) rfl ?_); refine goesL_ (some 25) rfl rfl Tryd.func122 (by kernel_rfl) rfl #[.int .u8 (bt a0 0)] rfl (by (try simp only [List.map_toArray, List.map_cons, List.map_nil]); first | done | rfl | (simp only [List.length_drop, List.length_take]; rfl)) ?_; (with_reducible refine (impl_isDigit.calls (bt a0 0) true _ A10.out).mono ?_); rintro e w' ⟨rfl, ⟨nd, rfl⟩⟩; refine ⟨_, rfl, ?_⟩))
        go_loopg [6] k (fun kq v6 w' => ∃ (x6_1 : Int), v6 = .int .i64 x6_1 ∧ Aside0 (impl_tokenAt.l0 kq a0 x6_1 = some (r1, r2, r3)) ∧ Aside0 (kq ≤ k) ∧ Aside0 (Below w.heap.size w w'))
        case atStart => exact ⟨(0), (by first | rfl | (simp; done) | (simp [*]; done)), H', ⟨Nat.le_refl _⟩, ⟨by repeat (first | (with_reducible first | exact HB.out | apply below_alloc | apply pw_below_drewN | apply below_drew1) | exact HB.out)⟩⟩
        case round =>
          clear H'
          try clear c1
          try clear p2
          try clear c3
          try clear c3b0
          try clear c4
          try clear c4b0
          try clear c5
          try clear c5b0
          try clear c5b1
          try clear p6
          try clear q6
          try clear hx6
          try clear qi6
          try clear c7
          try clear c7b0
          try clear c8
          try clear c8b0
          try clear c8b1
          try clear p9
          try clear q9
          try clear hx9
          try clear qi9
          try clear c10
          try clear c11
          try clear p6
          try clear p9
          try clear q6
          try clear q9
          obtain ⟨x6_1, rfl, HA, HK1, HB⟩ := hrel
          cases gk with
          | zero => exact absurd HA.out (by simp [impl_tokenAt.l0])
          | succ k1 =>
            have H := HA.out
            clear HA
            simp only [impl_tokenAt.l0] at H
            by_cases c12 : x6_1 < (a0.size : Int)
            · rw [if_pos c12] at H
              have c12b0 : decide (x6_1 < (a0.size : Int)) = true := decide_eq_true c12
              clear c12
              by_cases c13 : 0 ≤ x6_1
              · rw [if_pos c13] at H
                have c13b0 : decide (0 ≤ x6_1) = true := decide_eq_true c13
                clear c13
                replace H := Option.bind_eq_some_iff.mp H
                obtain ⟨t434, A150, H⟩ := H
                replace H : (if t434 = true then (impl_tokenAt.l0 k1 a0 (wrap64 (x6_1 + 1))) else (if x6_1 ≤ (a0.size : Int) then ((impl_kindOf.f k1 (a0.extract 0 (x6_1 : Int).toNat)).bind fun t435 => (if t435 = 1 then (some (3, x6_1, 0)) else (some (0, 0, 4)))) else (none))) = some (r1, r2, r3) := H
                have A15 := Aside0.mk A150
                clear A150
                by_cases c16 : t434 = true
                · subst c16
                  have H1 : (impl_tokenAt.l0 k1 a0 (wrap64 (x6_1 + 1))) = some (r1, r2, r3) := by rw [if_pos rfl] at H; exact H
                  clear H
                  have H := H1
                  clear H1
                  have H' := Aside0.mk H
                  clear H
                  have p14 : 0 ≤ (x6_1 : Int) := of_decide_eq_true (by first | (with_reducible assumption) | assumption)
                  have q14 : x6_1 < (a0.size : Int) := of_decide_eq_true (by first | (with_reducible assumption) | assumption)
                  have hx14 := bt_at a0 x6_1
                  replace p14 := eq_true p14
                  replace q14 := eq_true q14
                  go_wp2_with (first | (go_at_call 122; (with_reducible refine (impl_isDigit.calls (bt a0 x6_1) true _ A15.out).mono ?_); rintro e w' ⟨rfl, ⟨nd, rfl⟩⟩))
                  go_roundg k1
                  case measure => have := HK1.out; omega
                  case rel => exact ⟨(wrap64 (x6_1 + 1)), (by first | rfl | (simp; done) | (simp [*]; done)), H', ⟨by have := HK1.out; omega⟩, ⟨by repeat (first | (with_reducible first | exact HB.out | apply below_alloc | apply pw_below_drewN | apply below_drew1) | exact HB.out)⟩⟩
                · replace c16 := Bool.eq_false_iff.mpr c16
                  subst c16
                  have H1 : (if x6_1 ≤ (a0.size : Int) then ((impl_kindOf.f k1 (a0.extract 0 (x6_1 : Int).toNat)).bind fun t435 => (if t435 = 1 then (some (3, x6_1, 0)) else (some (0, 0, 4)))) else (none)) = some (r1, r2, r3) := by rw [if_neg (show ¬ (false = true) by decide)] at H; exact H
                  clear H
                  have H := H1
                  clear H1
                  have c17b0 := eq_true (of_decide_eq_true (by first | (with_reducible assumption) | assumption) : 0 ≤ x6_1)
                  by_cases c18 : x6_1 ≤ (a0.size : Int)
                  · rw [if_pos c18] at H
                    have c18b0 := eq_true c18
                    have c18b1 : decide (x6_1 ≤ (a0.size : Int)) = true := decide_eq_true c18
                    clear c18
                    replace H := Option.bind_eq_some_iff.mp H
                    obtain ⟨t435, A190, H⟩ := H
                    replace H : (if t435 = 1 then (some (3, x6_1, 0)) else (some (0, 0, 4))) = some (r1, r2, r3) := H
                    have A19 := Aside0.mk A190
                    clear A190
                    by_cases c20 : t435 = 1
                    · rw [if_pos c20] at H
                      have c20b0 : (t435 == 1) = true := beq_iff_eq.mpr c20
                      have c20b1 : (t435 != 1) = false := bne_eq_false_iff_eq.mpr c20
                      clear c20
                      simp only [Option.some.injEq, Prod.mk.injEq] at H
                      obtain ⟨rfl, rfl, rfl⟩ := H
                      have p14 : 0 ≤ (x6_1 : Int) := of_decide_eq_true (by first | (with_reducible assumption) | assumption)
                      have q14 : x6_1 < (a0.size : Int) := of_decide_eq_true (by first | (with_reducible assumption) | assumption)
                      have hx14 := bt_at a0 x6_1
                      replace p14 := eq_true p14
                      replace q14 := eq_true q14
                      go_wp2_with (first | (go_at_call 122; (with_reducible refine (impl_isDigit.calls (bt a0 x6_1) false _ A15.out).mono ?_); rintro e w' ⟨rfl, ⟨nd, rfl⟩⟩) | ((with_reducible refine gate_callee (f := 71) rfl ?_); refine goesL_ (some 41) rfl rfl Tryd.func71 (by kernel_rfl) rfl #[.string (a0.extract 0 (x6_1 : Int).toNat)] rfl (by (try simp only [List.map_toArray, List.map_cons, List.map_nil]); first | done | rfl | (simp only [List.length_drop, List.length_take]; rfl)) ?_; (with_reducible refine (impl_kindOf.calls k1 (a0.extract 0 (x6_1 : Int).toNat) t435 _ ?side1 A19.out).mono ?_); (case side1 => exact Tb.below HT.out (by repeat (first | (with_reducible first | exact HB.out | apply below_alloc | apply pw_below_drewN | apply below_drew1) | exact HB.out))); rintro e w21 ⟨rfl, hb⟩; refine ⟨_, rfl, ?_⟩; have n0_ := Aside0.mk (below_step (by repeat (first | (with_reducible first | exact HB.out | apply below_alloc | apply pw_below_drewN | apply below_drew1) | exact HB.out)) hb); clear HB; have HB := n0_; clear n0_; (try clear hb); (try clear hb2); (try clear hk); (try clear hi)))
                      go_ret3
                      exact ⟨by first | rfl | (simp [errW_none, errW_some] <;> rfl) | (simp [*, errW_none, errW_some] <;> rfl), by repeat (first | (with_reducible first | exact HB.out | apply below_alloc | apply pw_below_drewN | apply below_drew1) | exact HB.out)⟩
                    · rw [if_neg c20] at H
                      have c20b0 : (t435 == 1) = false := beq_eq_false_iff_ne.mpr c20
                      have c20b1 : (t435 != 1) = true := bne_iff_ne.mpr c20
                      simp only [Option.some.injEq, Prod.mk.injEq] at H
                      obtain ⟨rfl, rfl, rfl⟩ := H
                      have p14 : 0 ≤ (x6_1 : Int) := of_decide_eq_true (by first | (with_reducible assumption) | assumption)
                      have q14 : x6_1 < (a0.size : Int) := of_decide_eq_true (by first | (with_reducible assumption) | assumption)
                      have hx14 := bt_at a0 x6_1
                      replace p14 := eq_true p14
                      replace q14 := eq_true q14
                      go_wp2_with (first | (go_at_call 122; (with_reducible refine (impl_isDigit.calls (bt a0 x6_1) false _ A15.out).mono ?_); rintro e w' ⟨rfl, ⟨nd, rfl⟩⟩) | ((with_reducible refine gate_callee (f := 71) rfl ?_); refine goesL_ (some 41) rfl rfl Tryd.func71 (by kernel_rfl) rfl #[.string (a0.extract 0 (x6_1 : Int).toNat)] rfl (by (try simp only [List.map_toArray, List.map_cons, List.map_nil]); first | done | rfl | (simp only [List.length_drop, List.length_take]; rfl)) ?_; (with_reducible refine (impl_kindOf.calls k1 (a0.extract 0 (x6_1 : Int).toNat) t435 _ ?side1 A19.out).mono ?_); (case side1 => exact Tb.below HT.out (by repeat (first | (with_reducible first | exact HB.out | apply below_alloc | apply pw_below_drewN | apply below_drew1) | exact HB.out))); rintro e w22 ⟨rfl, hb⟩; refine ⟨_, rfl, ?_⟩; have n0_ := Aside0.mk (below_step (by repeat (first | (with_reducible first | exact HB.out | apply below_alloc | apply pw_below_drewN | apply below_drew1) | exact HB.out)) hb); clear HB; have HB := n0_; clear n0_; (try clear hb); (try clear hb2); (try clear hk); (try clear hi)))
                      go_ret3
                      exact ⟨by first | rfl | (simp [errW_none, errW_some] <;> rfl) | (simp [*, errW_none, errW_some] <;> rfl), by repeat (first | (with_reducible first | exact HB.out | apply below_alloc | apply pw_below_drewN | apply below_drew1) | exact HB.out)⟩
                  · rw [if_neg c18] at H
                    exact absurd H (by simp)
              · rw [if_neg c13] at H
                exact absurd H (by simp)
            · rw [if_neg c12] at H
              have c12b0 : decide (x6_1 < (a0.size : Int)) = false := decide_eq_false c12
              clear c12
              by_cases c23 : 0 ≤ x6_1
              · rw [if_pos c23] at H
                have c23b0 := eq_true c23
                have c23b1 : decide (0 ≤ x6_1) = true := decide_eq_true c23
                clear c23
                by_cases c24 : x6_1 ≤ (a0.size : Int)
                · rw [if_pos c24] at H
                  have c24b0 := eq_true c24
                  have c24b1 : decide (x6_1 ≤ (a0.size : Int)) = true := decide_eq_true c24
                  clear c24
                  replace H := Option.bind_eq_some_iff.mp H
                  obtain ⟨t436, A250, H⟩ := H
                  replace H : (if t436 = 1 then (some (3, x6_1, 0)) else (some (0, 0, 4))) = some (r1, r2, r3) := H
                  have A25 := Aside0.mk A250
                  clear A250
                  by_cases c26 : t436 = 1
                  · rw [if_pos c26] at H
                    have c26b0 : (t436 == 1) = true := beq_iff_eq.mpr c26
                    have c26b1 : (t436 != 1) = false := bne_eq_false_iff_eq.mpr c26
                    clear c26
                    simp only [Option.some.injEq, Prod.mk.injEq] at H
                    obtain ⟨rfl, rfl, rfl⟩ := H
                    go_wp2_with (first | ((with_reducible refine gate_callee (f := 71) rfl ?_); refine goesL_ (some 41) rfl rfl Tryd.func71 (by kernel_rfl) rfl #[.string (a0.extract 0 (x6_1 : Int).toNat)] rfl (by (try simp only [List.map_toArray, List.map_cons, List.map_nil]); first | done | rfl | (simp only [List.length_drop, List.length_take]; rfl)) ?_; (with_reducible refine (impl_kindOf.calls k1 (a0.extract 0 (x6_1 : Int).toNat) t436 _ ?side1 A25.out).mono ?_); (case side1 => exact Tb.below HT.out (by repeat (first | (with_reducible first | exact HB.out | apply below_alloc | apply pw_below_drewN | apply below_drew1) | exact HB.out))); rintro e w27 ⟨rfl, hb⟩; refine ⟨_, rfl, ?_⟩; have n0_ := Aside0.mk (below_step (by repeat (first | (with_reducible first | exact HB.out | apply below_alloc | apply pw_below_drewN | apply below_drew1) | exact HB.out)) hb); clear HB; have HB := n0_; clear n0_; (try clear hb); (try clear hb2); (try clear hk); (try clear hi)))
                    go_ret3
                    exact ⟨by first | rfl | (simp [errW_none, errW_some] <;> rfl) | (simp [*, errW_none, errW_some] <;> rfl), by repeat (first | (with_reducible first | exact HB.out | apply below_alloc | apply pw_below_drewN | apply below_drew1) | exact HB.out)⟩
                  · rw [if_neg c26] at H
                    have c26b0 : (t436 == 1) = false := beq_eq_false_iff_ne.mpr c26
                    have c26b1 : (t436 != 1) = true := bne_iff_ne.mpr c26
                    simp only [Option.some.injEq, Prod.mk.injEq] at H
                    obtain ⟨rfl, rfl, rfl⟩ := H
                    go_wp2_with (first | ((with_reducible refine gate_callee (f := 71) rfl ?_); refine goesL_ (some 41) rfl rfl Tryd.func71 (by kernel_rfl) rfl #[.string (a0.extract 0 (x6_1 : Int).toNat)] rfl (by (try simp only [List.map_toArray, List.map_cons, List.map_nil]); first | done | rfl | (simp only [List.length_drop, List.length_take]; rfl)) ?_; (with_reducible refine (impl_kindOf.calls k1 (a0.extract 0 (x6_1 : Int).toNat) t436 _ ?side1 A25.out).mono ?_); (case side1 => exact Tb.below HT.out (by repeat (first | (with_reducible first | exact HB.out | apply below_alloc | apply pw_below_drewN | apply below_drew1) | exact HB.out))); rintro e w28 ⟨rfl, hb⟩; refine ⟨_, rfl, ?_⟩; have n0_ := Aside0.mk (below_step (by repeat (first | (with_reducible first | exact HB.out | apply below_alloc | apply pw_below_drewN | apply below_drew1) | exact HB.out)) hb); clear HB; have HB := n0_; clear n0_; (try clear hb); (try clear hb2); (try clear hk); (try clear hi)))
                    go_ret3
                    exact ⟨by first | rfl | (simp [errW_none, errW_some] <;> rfl) | (simp [*, errW_none, errW_some] <;> rfl), by repeat (first | (with_reducible first | exact HB.out | apply below_alloc | apply pw_below_drewN | apply below_drew1) | exact HB.out)⟩
                · rw [if_neg c24] at H
                  exact absurd H (by simp)
              · rw [if_neg c23] at H
                exact absurd H (by simp)
      · replace c11 := Bool.eq_false_iff.mpr c11
        subst c11
        have H1 : (if (bt a0 0) = 34 then ((impl_symbolLong.f k a0).bind fun t437 => (if t437 > 0 then (some (4, t437, 0)) else (some (0, 0, 3)))) else ((some (([(⟨#[58, 45]⟩ : ByteArray), (⟨#[33, 61]⟩ : ByteArray), (⟨#[60, 61]⟩ : ByteArray), (⟨#[40]⟩ : ByteArray), (⟨#[41]⟩ : ByteArray), (⟨#[44]⟩ : ByteArray), (⟨#[46]⟩ : ByteArray), (⟨#[33]⟩ : ByteArray), (⟨#[61]⟩ : ByteArray), (⟨#[60]⟩ : ByteArray), (⟨#[43]⟩ : ByteArray), (⟨#[45]⟩ : ByteArray), (⟨#[42]⟩ : ByteArray), (⟨#[124]⟩ : ByteArray), (⟨#[95]⟩ : ByteArray)] : List ByteArray) : List ByteArray)).bind fun y438 => (impl_tokenAt.l1 k a0 y438 (y438.length : Int) 0))) = some (r1, r2, r3) := by rw [if_neg (show ¬ (false = true) by decide)] at H; exact H
        clear H
        have H := H1
        clear H1
        by_cases c30 : (bt a0 0) = 34
        · rw [if_pos c30] at H
          have c30b0 : ((bt a0 0) == 34) = true := beq_iff_eq.mpr c30
          have c30b1 : ((bt a0 0) != 34) = false := bne_eq_false_iff_eq.mpr c30
          clear c30
          replace H := Option.bind_eq_some_iff.mp H
          obtain ⟨t437, A310, H⟩ := H
          replace H : (if t437 > 0 then (some (4, t437, 0)) else (some (0, 0, 3))) = some (r1, r2, r3) := H
          have A31 := Aside0.mk A310
          clear A310
          by_cases c32 : t437 > 0
          · rw [if_pos c32] at H
            have c32b0 : decide (0 < t437) = true := decide_eq_true c32
            clear c32
            simp only [Option.some.injEq, Prod.mk.injEq] at H
            obtain ⟨rfl, rfl, rfl⟩ := H
            go_enter Tryd.func111, Tryd.ntmps111
            go_wp2_with (first | ((with_reducible refine gate_callee (f := 106) rfl ?_); refine goesL_ (some 11) rfl rfl Tryd.func106 (by kernel_rfl) rfl #[.string a0] rfl (by (try simp only [List.map_toArray, List.map_cons, List.map_nil]); first | done | rfl | (simp only [List.length_drop, List.length_take]; rfl)) ?_; (with_reducible refine (impl_nameLong.calls k a0 t432 _ A2.out).mono ?_); rintro e w' ⟨rfl, ⟨nd, rfl⟩⟩; refine ⟨_, rfl, ?_⟩; have p9 : 0 ≤ (0 : Int) := (by omega); have q9 : 0 < a0.size := (by have : (0 : Int) < (a0.size : Int) := of_decide_eq_true (by first | (with_reducible assumption) | assumption); omega); have hx9 : ∀ h : 0 < a0.size, ((a0[0]'h).toNat : Int) = bt a0 0 := bt_at a0 0; clear p9; have qi9 : (0 < (a0.size : Int)) = True := eq_true (of_decide_eq_true (by first | (with_reducible assumption) | assumption)); replace q9 := eq_true q9) | ((with_reducible refine gate_callee (f := 122) rfl ?_); refine goesL_ (some 25) rfl rfl Tryd.func122 (by kernel_rfl) rfl #[.int .u8 (bt a0 0)] rfl (by (try simp only [List.map_toArray, List.map_cons, List.map_nil]); first | done | rfl | (simp only [List.length_drop, List.length_take]; rfl)) ?_; (with_reducible refine (impl_isDigit.calls (bt a0 0) false _ A10.out).mono ?_); rintro e w' ⟨rfl, ⟨nd, rfl⟩⟩; refine ⟨_, rfl, ?_⟩; have p29 : 0 ≤ (0 : Int) := (by omega); have q29 : 0 < a0.size := (by have : (0 : Int) < (a0.size : Int) := of_decide_eq_true (by first | (with_reducible assumption) | assumption); omega); have hx29 : ∀ h : 0 < a0.size, ((a0[0]'h).toNat : Int) = bt a0 0 := bt_at a0 0; clear p29; have qi29 : (0 < (a0.size : Int)) = True := eq_true (of_decide_eq_true (by first | (with_reducible assumption) | assumption)); replace q29 := eq_true q29) | ((with_reducible refine gate_callee (f := 121) rfl ?_); refine goesL_ (some 48) rfl rfl Tryd.func121 (by kernel_rfl) rfl #[.string a0] rfl (by (try simp only [List.map_toArray, List.map_cons, List.map_nil]); first | done | rfl | (simp only [List.length_drop, List.length_take]; rfl)) ?_; (with_reducible refine (impl_symbolLong.calls k a0 t437 _ A31.out).mono ?_); rintro e w' ⟨rfl, ⟨nd, rfl⟩⟩; refine ⟨_, rfl, ?_⟩))
            go_ret3
            exact ⟨by first | rfl | (simp [errW_none, errW_some] <;> rfl) | (simp [*, errW_none, errW_some] <;> rfl), by repeat (first | (with_reducible first | exact HB.out | apply below_alloc | apply pw_below_drewN | apply below_drew1) | exact HB.out)⟩
          · rw [if_neg c32] at H
            have c32b0 : decide (0 < t437) = false := decide_eq_false c32
            clear c32
            simp only [Option.some.injEq, Prod.mk.injEq] at H
            obtain ⟨rfl, rfl, rfl⟩ := H
            go_enter Tryd.func111, Tryd.ntmps111
            go_wp2_with (first | ((with_reducible refine gate_callee (f := 106) rfl ?_); refine goesL_ (some 11) rfl rfl Tryd.func106 (by kernel_rfl) rfl #[.string a0] rfl (by (try simp only [List.map_toArray, List.map_cons, List.map_nil]); first | done | rfl | (simp only [List.length_drop, List.length_take]; rfl)) ?_; (with_reducible refine (impl_nameLong.calls k a0 t432 _ A2.out).mono ?_); rintro e w' ⟨rfl, ⟨nd, rfl⟩⟩; refine ⟨_, rfl, ?_⟩; have p9 : 0 ≤ (0 : Int) := (by omega); have q9 : 0 < a0.size := (by have : (0 : Int) < (a0.size : Int) := of_decide_eq_true (by first | (with_reducible assumption) | assumption); omega); have hx9 : ∀ h : 0 < a0.size, ((a0[0]'h).toNat : Int) = bt a0 0 := bt_at a0 0; clear p9; have qi9 : (0 < (a0.size : Int)) = True := eq_true (of_decide_eq_true (by first | (with_reducible assumption) | assumption)); replace q9 := eq_true q9) | ((with_reducible refine gate_callee (f := 122) rfl ?_); refine goesL_ (some 25) rfl rfl Tryd.func122 (by kernel_rfl) rfl #[.int .u8 (bt a0 0)] rfl (by (try simp only [List.map_toArray, List.map_cons, List.map_nil]); first | done | rfl | (simp only [List.length_drop, List.length_take]; rfl)) ?_; (with_reducible refine (impl_isDigit.calls (bt a0 0) false _ A10.out).mono ?_); rintro e w' ⟨rfl, ⟨nd, rfl⟩⟩; refine ⟨_, rfl, ?_⟩; have p29 : 0 ≤ (0 : Int) := (by omega); have q29 : 0 < a0.size := (by have : (0 : Int) < (a0.size : Int) := of_decide_eq_true (by first | (with_reducible assumption) | assumption); omega); have hx29 : ∀ h : 0 < a0.size, ((a0[0]'h).toNat : Int) = bt a0 0 := bt_at a0 0; clear p29; have qi29 : (0 < (a0.size : Int)) = True := eq_true (of_decide_eq_true (by first | (with_reducible assumption) | assumption)); replace q29 := eq_true q29) | ((with_reducible refine gate_callee (f := 121) rfl ?_); refine goesL_ (some 48) rfl rfl Tryd.func121 (by kernel_rfl) rfl #[.string a0] rfl (by (try simp only [List.map_toArray, List.map_cons, List.map_nil]); first | done | rfl | (simp only [List.length_drop, List.length_take]; rfl)) ?_; (with_reducible refine (impl_symbolLong.calls k a0 t437 _ A31.out).mono ?_); rintro e w' ⟨rfl, ⟨nd, rfl⟩⟩; refine ⟨_, rfl, ?_⟩))
            go_ret3
            exact ⟨by first | rfl | (simp [errW_none, errW_some] <;> rfl) | (simp [*, errW_none, errW_some] <;> rfl), by repeat (first | (with_reducible first | exact HB.out | apply below_alloc | apply pw_below_drewN | apply below_drew1) | exact HB.out)⟩
        · rw [if_neg c30] at H
          have c30b0 : ((bt a0 0) == 34) = false := beq_eq_false_iff_ne.mpr c30
          have c30b1 : ((bt a0 0) != 34) = true := bne_iff_ne.mpr c30
          obtain ⟨y438, hy438⟩ : ∃ y_ : List ByteArray, y_ = (([(⟨#[58, 45]⟩ : ByteArray), (⟨#[33, 61]⟩ : ByteArray), (⟨#[60, 61]⟩ : ByteArray), (⟨#[40]⟩ : ByteArray), (⟨#[41]⟩ : ByteArray), (⟨#[44]⟩ : ByteArray), (⟨#[46]⟩ : ByteArray), (⟨#[33]⟩ : ByteArray), (⟨#[61]⟩ : ByteArray), (⟨#[60]⟩ : ByteArray), (⟨#[43]⟩ : ByteArray), (⟨#[45]⟩ : ByteArray), (⟨#[42]⟩ : ByteArray), (⟨#[124]⟩ : ByteArray), (⟨#[95]⟩ : ByteArray)] : List ByteArray)) := ⟨_, rfl⟩
          replace H : (impl_tokenAt.l1 k a0 y438 (y438.length : Int) 0) = some (r1, r2, r3) := by first | (rw [hy438]; with_reducible exact H) | (have H2_ := (Option.bind_some _ _).symm.trans H; rw [hy438]; with_reducible exact H2_) | (have H2_ := (Option.bind_some _ _).symm.trans H; with_reducible exact H2_) | with_reducible exact H | (rw [hy438]; exact H) | exact H
          have Ny438 := Aside0.mk hy438
          clear hy438
          have H' := Aside0.mk H
          clear H
          go_enter Tryd.func111, Tryd.ntmps111
          go_wp2_with (first | ((with_reducible refine gate_callee (f := 106) rfl ?_); refine goesL_ (some 11) rfl rfl Tryd.func106 (by kernel_rfl) rfl #[.string a0] rfl (by (try simp only [List.map_toArray, List.map_cons, List.map_nil]); first | done | rfl | (simp only [List.length_drop, List.length_take]; rfl)) ?_; (with_reducible refine (impl_nameLong.calls k a0 t432 _ A2.out).mono ?_); rintro e w' ⟨rfl, ⟨nd, rfl⟩⟩; refine ⟨_, rfl, ?_⟩; have p9 : 0 ≤ (0 : Int) := (by omega); have q9 : 0 < a0.size := (by have : (0 : Int) < (a0.size : Int) := of_decide_eq_true (by first | (with_reducible assumption) | assumption); omega); have hx9 : ∀ h : 0 < a0.size, ((a0[0]'h).toNat : Int) = bt a0 0 := bt_at a0 0; clear p9; have qi9 : (0 < (a0.size : Int)) = True := eq_true (of_decide_eq_true (by first | (with_reducible assumption) | assumption)); replace q9 := eq_true q9) | ((with_reducible refine gate_callee (f := 122) rfl ?_); refine goesL_ (some 25) rfl rfl Tryd.func122 (by kernel_rfl) rfl #[.int .u8 (bt a0 0)] rfl (by (try simp only [List.map_toArray, List.map_cons, List.map_nil]); first | done | rfl | (simp only [List.length_drop, List.length_take]; rfl)) ?_; (with_reducible refine (impl_isDigit.calls (bt a0 0) false _ A10.out).mono ?_); rintro e w' ⟨rfl, ⟨nd, rfl⟩⟩; refine ⟨_, rfl, ?_⟩; have p29 : 0 ≤ (0 : Int) := (by omega); have q29 : 0 < a0.size := (by have : (0 : Int) < (a0.size : Int) := of_decide_eq_true (by first | (with_reducible assumption) | assumption); omega); have hx29 : ∀ h : 0 < a0.size, ((a0[0]'h).toNat : Int) = bt a0 0 := bt_at a0 0; clear p29; have qi29 : (0 < (a0.size : Int)) = True := eq_true (of_decide_eq_true (by first | (with_reducible assumption) | assumption)); replace q29 := eq_true q29) | ((with_reducible refine gate_dst (N := 52) rfl ?_); refine Kd.R_lit Kd.string _ 9 ?hg (N := 52) ?hd (xs := ([(⟨#[58, 45]⟩ : ByteArray), (⟨#[33, 61]⟩ : ByteArray), (⟨#[60, 61]⟩ : ByteArray), (⟨#[40]⟩ : ByteArray), (⟨#[41]⟩ : ByteArray), (⟨#[44]⟩ : ByteArray), (⟨#[46]⟩ : ByteArray), (⟨#[33]⟩ : ByteArray), (⟨#[61]⟩ : ByteArray), (⟨#[60]⟩ : ByteArray), (⟨#[43]⟩ : ByteArray), (⟨#[45]⟩ : ByteArray), (⟨#[42]⟩ : ByteArray), (⟨#[124]⟩ : ByteArray), (⟨#[95]⟩ : ByteArray)] : List ByteArray)) (inner := [.string (⟨#[58, 45]⟩ : ByteArray), .string (⟨#[33, 61]⟩ : ByteArray), .string (⟨#[60, 61]⟩ : ByteArray), .string (⟨#[40]⟩ : ByteArray), .string (⟨#[41]⟩ : ByteArray), .string (⟨#[44]⟩ : ByteArray), .string (⟨#[46]⟩ : ByteArray), .string (⟨#[33]⟩ : ByteArray), .string (⟨#[61]⟩ : ByteArray), .string (⟨#[60]⟩ : ByteArray), .string (⟨#[43]⟩ : ByteArray), .string (⟨#[45]⟩ : ByteArray), .string (⟨#[42]⟩ : ByteArray), .string (⟨#[124]⟩ : ByteArray), .string (⟨#[95]⟩ : ByteArray)]) (ok := fun _ => True) (okp := fun _ => True) ?hr ?hp (fun _ hk => hk) trivial (Below.refl _ _) (Nat.le_refl _) (by simp) ?_; (case hd => rfl); (case hg => rfl); (case hr => first | (go_simp; done) | (go_simp; rfl)); (case hp => exact (Reps.one (show Kd.M Kd.string _ _ _ (⟨#[58, 45]⟩ : ByteArray) [.string (⟨#[58, 45]⟩ : ByteArray)] from rfl) (Reps.one (show Kd.M Kd.string _ _ _ (⟨#[33, 61]⟩ : ByteArray) [.string (⟨#[33, 61]⟩ : ByteArray)] from rfl) (Reps.one (show Kd.M Kd.string _ _ _ (⟨#[60, 61]⟩ : ByteArray) [.string (⟨#[60, 61]⟩ : ByteArray)] from rfl) (Reps.one (show Kd.M Kd.string _ _ _ (⟨#[40]⟩ : ByteArray) [.string (⟨#[40]⟩ : ByteArray)] from rfl) (Reps.one (show Kd.M Kd.string _ _ _ (⟨#[41]⟩ : ByteArray) [.string (⟨#[41]⟩ : ByteArray)] from rfl) (Reps.one (show Kd.M Kd.string _ _ _ (⟨#[44]⟩ : ByteArray) [.string (⟨#[44]⟩ : ByteArray)] from rfl) (Reps.one (show Kd.M Kd.string _ _ _ (⟨#[46]⟩ : ByteArray) [.string (⟨#[46]⟩ : ByteArray)] from rfl) (Reps.one (show Kd.M Kd.string _ _ _ (⟨#[33]⟩ : ByteArray) [.string (⟨#[33]⟩ : ByteArray)] from rfl) (Reps.one (show Kd.M Kd.string _ _ _ (⟨#[61]⟩ : ByteArray) [.string (⟨#[61]⟩ : ByteArray)] from rfl) (Reps.one (show Kd.M Kd.string _ _ _ (⟨#[60]⟩ : ByteArray) [.string (⟨#[60]⟩ : ByteArray)] from rfl) (Reps.one (show Kd.M Kd.string _ _ _ (⟨#[43]⟩ : ByteArray) [.string (⟨#[43]⟩ : ByteArray)] from rfl) (Reps.one (show Kd.M Kd.string _ _ _ (⟨#[45]⟩ : ByteArray) [.string (⟨#[45]⟩ : ByteArray)] from rfl) (Reps.one (show Kd.M Kd.string _ _ _ (⟨#[42]⟩ : ByteArray) [.string (⟨#[42]⟩ : ByteArray)] from rfl) (Reps.one (show Kd.M Kd.string _ _ _ (⟨#[124]⟩ : ByteArray) [.string (⟨#[124]⟩ : ByteArray)] from rfl) (Reps.one (show Kd.M Kd.string _ _ _ (⟨#[95]⟩ : ByteArray) [.string (⟨#[95]⟩ : ByteArray)] from rfl) (Reps.none _ _))))))))))))))))); intro v439 w33 ho34 hb hg_ hnew_; clear hg_ hnew_; (first | rw [← Ny438.out] at ho34 | (simp only [Int.reduceToNat] at ho34; rw [← Ny438.out] at ho34)); have n0_ := Aside0.mk (Kd.R_lower ho34 (below_size (by repeat (first | (with_reducible first | exact HB.out | apply below_alloc | apply pw_below_drewN | apply below_drew1) | exact HB.out)))); have n1_ := Aside0.mk (below_step (by repeat (first | (with_reducible first | exact HB.out | apply below_alloc | apply pw_below_drewN | apply below_drew1) | exact HB.out)) hb); clear HB; have HO440 := n0_; have HB := n1_; clear n0_ n1_; clear hb ho34; obtain ⟨Ao35, co35, eo35⟩ := Kd.R_slice HO440.out; subst eo35))
          go_loopg [54] k (fun kq v54 w' => ∃ (x54_1 : Int), v54 = .int .i64 x54_1 ∧ Aside0 (impl_tokenAt.l1 kq a0 y438 (y438.length : Int) x54_1 = some (r1, r2, r3)) ∧ Aside0 (kq ≤ k) ∧ Aside0 (Kd.R Kd.string 9 w' w.heap.size (fun _ => True) (.slice Ao35 y438.length co35) y438) ∧ Aside0 (Below w.heap.size w w'))
          case atStart => exact ⟨(0), (by first | rfl | (simp; done) | (simp [*]; done)), H', ⟨Nat.le_refl _⟩, ⟨by (with_reducible repeat (first | apply Kd.R_alloc | apply Kd.R_drewN | apply Kd.R_drew)); exact HO440.out⟩, ⟨by repeat (first | (with_reducible first | exact HB.out | apply below_alloc | apply pw_below_drewN | apply below_drew1) | exact HB.out)⟩⟩
          case round =>
            clear H'
            try clear c1
            try clear p1
            try clear q1
            try clear hx1
            try clear c2
            try clear p2
            try clear q2
            try clear hx2
            try clear qi2
            try clear c3
            try clear c3b0
            try clear c4
            try clear c4b0
            try clear c5
            try clear c5b0
            try clear c5b1
            try clear p6
            try clear q6
            try clear hx6
            try clear qi6
            try clear c7
            try clear c7b0
            try clear c8
            try clear c8b0
            try clear c8b1
            try clear p9
            try clear q9
            try clear hx9
            try clear qi9
            try clear c10
            try clear c11
            try clear c12
            try clear c12b0
            try clear c13
            try clear c13b0
            try clear p14
            try clear q14
            try clear hx14
            try clear c16
            try clear c17
            try clear c17b0
            try clear c18
            try clear c18b0
            try clear c18b1
            try clear c20
            try clear c20b0
            try clear c20b1
            try clear c23
            try clear c23b0
            try clear c23b1
            try clear c24
            try clear c24b0
            try clear c24b1
            try clear c26
            try clear c26b0
            try clear c26b1
            try clear p29
            try clear q29
            try clear hx29
            try clear qi29
            try clear c30
            try clear c30b0
            try clear c30b1
            try clear c32
            try clear c32b0
            try clear p14
            try clear p2
            try clear p29
            try clear p6
            try clear p9
            try clear q14
            try clear q29
            try clear q6
            try clear q9
            obtain ⟨x54_1, rfl, HA, HK1, HO_52, HB⟩ := hrel
            cases gk with
            | zero => exact absurd HA.out (by simp [impl_tokenAt.l1])
            | succ k1 =>
              have H := HA.out
              clear HA
              simp only [impl_tokenAt.l1] at H
              by_cases c36 : x54_1 < (y438.length : Int)
              · rw [if_pos c36] at H
                have c36b0 : decide (x54_1 < (y438.length : Int)) = true := decide_eq_true c36
                clear c36
                by_cases c37 : 0 ≤ x54_1
                · rw [if_pos c37] at H
                  have c37b0 : decide (0 ≤ x54_1) = true := decide_eq_true c37
                  clear c37
                  by_cases c38 : x54_1 < (y438.length : Int)
                  · rw [if_pos c38] at H
                    have c38b0 : decide (x54_1 < (y438.length : Int)) = true := decide_eq_true c38
                    clear c38
                    replace H := Option.bind_eq_some_iff.mp H
                    obtain ⟨t442, A390, H⟩ := H
                    replace H : (if t442 = true then (some (5, ((rdOf ByteArray.empty y438 x54_1).size : Int), 0)) else (impl_tokenAt.l1 k1 a0 y438 (y438.length : Int) (wrap64 (x54_1 + 1)))) = some (r1, r2, r3) := H
                    have A39 := Aside0.mk A390
                    clear A390
                    by_cases c40 : t442 = true
                    · subst c40
                      have H1 : (some (5, ((rdOf ByteArray.empty y438 x54_1).size : Int), 0)) = some (r1, r2, r3) := by rw [if_pos rfl] at H; exact H
                      clear H
                      have H := H1
                      clear H1
                      simp only [Option.some.injEq, Prod.mk.injEq] at H
                      obtain ⟨rfl, rfl, rfl⟩ := H
                      have p441 : 0 ≤ (x54_1 : Int) := of_decide_eq_true (by first | (with_reducible assumption) | assumption)
                      have q441 : x54_1 < (y438.length : Int) := of_decide_eq_true (by first | (with_reducible assumption) | assumption)
                      obtain ⟨ad441, e441, hx441_0⟩ := Kd.at_string (Kd.R_reads' HO_52.out).2.2 x54_1 p441 q441
                      cases e441
                      replace p441 := eq_true p441
                      replace q441 := eq_true q441
                      go_wp2_with (first | ((with_reducible refine gate_callee (f := 108) rfl ?_); refine goesL_ (some 60) rfl rfl Tryd.func108 (by kernel_rfl) rfl #[.string a0, .string (rdOf ByteArray.empty y438 x54_1)] rfl (by (try simp only [List.map_toArray, List.map_cons, List.map_nil]); first | done | rfl | (simp only [List.length_drop, List.length_take]; rfl)) ?_; (with_reducible refine (strings_HasPrefix.calls a0 (rdOf ByteArray.empty y438 x54_1) true _ A39.out).mono ?_); rintro e w' ⟨rfl, ⟨nd, rfl⟩⟩; refine ⟨_, rfl, ?_⟩))
                      go_ret3
                      exact ⟨by first | rfl | (simp [errW_none, errW_some] <;> rfl) | (simp [*, errW_none, errW_some] <;> rfl), by repeat (first | (with_reducible first | exact HB.out | apply below_alloc | apply pw_below_drewN | apply below_drew1) | exact HB.out)⟩
                    · replace c40 := Bool.eq_false_iff.mpr c40
                      subst c40
                      have H1 : (impl_tokenAt.l1 k1 a0 y438 (y438.length : Int) (wrap64 (x54_1 + 1))) = some (r1, r2, r3) := by rw [if_neg (show ¬ (false = true) by decide)] at H; exact H
                      clear H
                      have H := H1
                      clear H1
                      have H' := Aside0.mk H
                      clear H
                      have p441 : 0 ≤ (x54_1 : Int) := of_decide_eq_true (by first | (with_reducible assumption) | assumption)
                      have q441 : x54_1 < (y438.length : Int) := of_decide_eq_true (by first | (with_reducible assumption) | assumption)
                      obtain ⟨ad441, e441, hx441_0⟩ := Kd.at_string (Kd.R_reads' HO_52.out).2.2 x54_1 p441 q441
                      cases e441
                      replace p441 := eq_true p441
                      replace q441 := eq_true q441
                      go_wp2_with (first | ((with_reducible refine gate_callee (f := 108) rfl ?_); refine goesL_ (some 60) rfl rfl Tryd.func108 (by kernel_rfl) rfl #[.string a0, .string (rdOf ByteArray.empty y438 x54_1)] rfl (by (try simp only [List.map_toArray, List.map_cons, List.map_nil]); first | done | rfl | (simp only [List.length_drop, List.length_take]; rfl)) ?_; (with_reducible refine (strings_HasPrefix.calls a0 (rdOf ByteArray.empty y438 x54_1) false _ A39.out).mono ?_); rintro e w' ⟨rfl, ⟨nd, rfl⟩⟩; refine ⟨_, rfl, ?_⟩))
                      go_roundg k1
                      case measure => have := HK1.out; omega
                      case rel => exact ⟨(wrap64 (x54_1 + 1)), (by first | rfl | (simp; done) | (simp [*]; done)), H', ⟨by have := HK1.out; omega⟩, ⟨by (with_reducible repeat (first | apply Kd.R_alloc | apply Kd.R_drewN | apply Kd.R_drew)); exact HO_52.out⟩, ⟨by repeat (first | (with_reducible first | exact HB.out | apply below_alloc | apply pw_below_drewN | apply below_drew1) | exact HB.out)⟩⟩
                  · rw [if_neg c38] at H
                    exact absurd H (by simp)
                · rw [if_neg c37] at H
                  exact absurd H (by simp)
              · rw [if_neg c36] at H
                have c36b0 : decide (x54_1 < (y438.length : Int)) = false := decide_eq_false c36
                clear c36
                simp only [Option.some.injEq, Prod.mk.injEq] at H
                obtain ⟨rfl, rfl, rfl⟩ := H
                go_wp2
                go_ret3
                exact ⟨by first | rfl | (simp [errW_none, errW_some] <;> rfl) | (simp [*, errW_none, errW_some] <;> rfl), by repeat (first | (with_reducible first | exact HB.out | apply below_alloc | apply pw_below_drewN | apply below_drew1) | exact HB.out)⟩
    · rw [if_neg c8] at H
      exact absurd H (by simp)
end Go.Proofs.YtebadckdihgklaaDoor.Pb
end
section
namespace Go.Proofs.YtebadckdihgklaaDoor.Pb
open Go.RowKit Go.Proofs.YtebadckdihgklaaDoorW.PrintWords Go.Proofs.YtebadckdihgklaaDoorW.PrintLast Go.Proofs.YtebadckdihgklaaDoorW.PrintMore
attribute [local go_sem] max2_int min2_int max_two min_two max_three min_three max_four min_four   -- for this text's walks alone
set_option linter.unusedVariables false
set_option linter.unusedSimpArgs false
mutual
def impl_tokens.l0 : Nat → ByteArray → List (S54) → Int → Option ((List (S54)) × Int × Int)
  | 0, _, _, _ => none
  | k + 1, x0, x5, x6 => if x6 < (x0.size : Int) then (if 0 ≤ x6 then ((strings_IndexByte.f (⟨#[32, 9, 10, 13]⟩ : ByteArray) (bt x0 x6)).bind fun t446 => (if t446 ≥ 0 then (impl_tokens.l0 k x0 x5 (wrap64 (x6 + 1))) else (if x6 ≤ (x0.size : Int) then ((strings_HasPrefix.f (x0.extract (x6 : Int).toNat x0.size) (⟨#[47, 47]⟩ : ByteArray)).bind fun t447 => (if t447 = true then (impl_tokens.l1 k x0 x5 x6) else ((impl_tokenAt.f k (x0.extract (x6 : Int).toNat x0.size)).bind fun bt448 => (if bt448.2.2 = 0 then (if x6 ≤ (wrap64 (x6 + bt448.2.1)) then (if (wrap64 (x6 + bt448.2.1)) ≤ (x0.size : Int) then (if x5.length < 4398046511104 then (impl_tokens.l0 k x0 (x5 ++ [(⟨bt448.1, x0.extract (x6 : Int).toNat ((wrap64 (x6 + bt448.2.1)) : Int).toNat, x6⟩ : S54)]) (wrap64 (x6 + bt448.2.1))) else (none)) else (none)) else (none)) else (some (([] : List (S54)), x6, bt448.2.2)))))) else (none)))) else (none)) else (some (x5, 0, 0))
def impl_tokens.l1 : Nat → ByteArray → List (S54) → Int → Option ((List (S54)) × Int × Int)
  | 0, _, _, _ => none
  | k + 1, x0, x5, x6 => if x6 < (x0.size : Int) then (if 0 ≤ x6 then (if (bt x0 x6) = 10 then (impl_tokens.l0 k x0 x5 x6) else (impl_tokens.l1 k x0 x5 (wrap64 (x6 + 1)))) else (none)) else (impl_tokens.l0 k x0 x5 x6)
end
def impl_tokens.f (k : Nat) (a0 : ByteArray) : Option ((List (S54)) × Int × Int) := if (a0.size : Int) > 3000 then (some (([] : List (S54)), 0, 1)) else (impl_tokens.l0 k a0 (([] : List (S54))) 0)
set_option maxHeartbeats 8000000 in
set_option maxRecDepth 100000 in
theorem impl_tokens.calls (k : Nat) (a0 : ByteArray) (r1 : List (S54)) (r2 : Int) (r3 : Int) (w : World) (hT : Tb w) (h : impl_tokens.f k a0 = some (r1, r2, r3)) :
    Calls Tryd.prog 84 #[.string a0] w fun e w' => ∃ v0_ : Value, e = .returned (.tuple #[v0_, .int .i64 r2, .int .i64 r3]) ∧ Kd.R k54 54 w' w.heap.size (fun _ => True) v0_ r1 ∧ Below w.heap.size w w' := by
  have hu54 := Tryd.underlying54
  have HT := Aside0.mk hT
  clear hT
  have HB := Aside0.mk (Below.refl w.heap.size w)
  have H : (if (a0.size : Int) > 3000 then (some (([] : List (S54)), 0, 1)) else (impl_tokens.l0 k a0 (([] : List (S54))) 0)) = some (r1, r2, r3) := h
  clear h
  by_cases c2 : (a0.size : Int) > 3000
  · rw [if_pos c2] at H
    have c2b0 : decide (3000 < (a0.size : Int)) = true := decide_eq_true c2
    have c2b1 : decide (3000 < a0.size) = true := decide_eq_true (by omega)
    clear c2
    simp only [Option.some.injEq, Prod.mk.injEq] at H
    obtain ⟨rfl, rfl, rfl⟩ := H
    go_enter Tryd.func84, Tryd.ntmps84
    go_wp2
    go_ret3
    exact ⟨_, by first | rfl | (simp [errW_none, errW_some] <;> rfl) | (simp [*, errW_none, errW_some] <;> rfl), by first | exact Kd.R_nil _ _ _ _ _ | exact Kd.N_nil _ _ _ _ _ | exact Kd.V_nil _ _ _ _ _ | exact Kd.Q_nil _ _ _ _ _ | exact Kd.S_nil _ _ _ _ _, by repeat (first | (with_reducible first | exact HB.out | apply below_alloc | apply pw_below_drewN | apply below_drew1) | exact HB.out)⟩
  · rw [if_neg c2] at H
    have c2b0 : decide (3000 < (a0.size : Int)) = false := decide_eq_false c2
    have c2b1 : decide (3000 < a0.size) = false := decide_eq_false (by omega)
    clear c2
    obtain ⟨y443, hy443⟩ : ∃ y_ : List (S54), y_ = (([] : List (S54))) := ⟨_, rfl⟩
    replace H : (impl_tokens.l0 k a0 y443 0) = some (r1, r2, r3) := by first | (rw [hy443]; with_reducible exact H) | (have H2_ := (Option.bind_some _ _).symm.trans H; rw [hy443]; with_reducible exact H2_) | (have H2_ := (Option.bind_some _ _).symm.trans H; with_reducible exact H2_) | with_reducible exact H | (rw [hy443]; exact H) | exact H
    have Ny443 := Aside0.mk hy443
    clear hy443
    have H' := Aside0.mk H
    clear H
    go_enter Tryd.func84, Tryd.ntmps84
    go_wp2_with (first | ((with_reducible refine gate_dst (N := 13) rfl ?_); refine Kd.R_lit k54 _ 54 ?hg (N := 13) ?hd (xs := ([] : List (S54))) (inner := []) (ok := fun _ => True) (okp := fun _ => True) ?hr ?hp (fun _ hk => hk) trivial (Below.refl _ _) (Nat.le_refl _) (by simp) ?_; (case hd => rfl); (case hg => rfl); (case hr => first | (go_simp; done) | (go_simp; rfl)); (case hp => exact (Reps.none _ _)); intro v444 w3 ho4 hb hg_ hnew_; clear hg_ hnew_; (first | rw [← Ny443.out] at ho4 | (simp only [Int.reduceToNat] at ho4; rw [← Ny443.out] at ho4)); have n0_ := Aside0.mk (Kd.R_lower ho4 (below_size (by repeat (first | (with_reducible first | exact HB.out | apply below_alloc | apply pw_below_drewN | apply below_drew1) | exact HB.out)))); have n1_ := Aside0.mk (below_step (by repeat (first | (with_reducible first | exact HB.out | apply below_alloc | apply pw_below_drewN | apply below_drew1) | exact HB.out)) hb); clear HB; have HO445 := n0_; have HB := n1_; clear n0_ n1_; clear hb ho4))
    go_loopg [5, 6] k (fun kq v5 v6 w' => ∃ (x5_1 : List (S54)) (x6_1 : Int), v6 = .int .i64 x6_1 ∧ Aside0 (impl_tokens.l0 kq a0 x5_1 x6_1 = some (r1, r2, r3)) ∧ Aside0 (kq ≤ k) ∧ Aside0 (Kd.R k54 54 w' w.heap.size (fun _ => True) v5 x5_1) ∧ Aside0 (Below w.heap.size w w'))
    case atStart => exact ⟨(y443), (0), (by first | rfl | (simp; done) | (simp [*]; done)), H', ⟨Nat.le_refl _⟩, ⟨by (with_reducible repeat (first | apply Kd.R_alloc | apply Kd.R_drewN | apply Kd.R_drew)); exact HO445.out⟩, ⟨by repeat (first | (with_reducible first | exact HB.out | apply below_alloc | apply pw_below_drewN | apply below_drew1) | exact HB.out)⟩⟩
    case round =>
      clear H'
      try clear c2
      try clear c2b0
      try clear c2b1
      try clear p2
      obtain ⟨x5_1, x6_1, rfl, HA, HK1, HO_5, HB⟩ := hrel
      cases gk with
      | zero => exact absurd HA.out (by simp [impl_tokens.l0])
      | succ k1 =>
        have H := HA.out
        clear HA
        simp only [impl_tokens.l0] at H
        by_cases c5 : x6_1 < (a0.size : Int)
        · rw [if_pos c5] at H
          have c5b0 : decide (x6_1 < (a0.size : Int)) = true := decide_eq_true c5
          clear c5
          by_cases c6 : 0 ≤ x6_1
          · rw [if_pos c6] at H
            have c6b0 : decide (0 ≤ x6_1) = true := decide_eq_true c6
            clear c6
            replace H := Option.bind_eq_some_iff.mp H
            obtain ⟨t446, A80, H⟩ := H
            replace H : (if t446 ≥ 0 then (impl_tokens.l0 k1 a0 x5_1 (wrap64 (x6_1 + 1))) else (if x6_1 ≤ (a0.size : Int) then ((strings_HasPrefix.f (a0.extract (x6_1 : Int).toNat a0.size) (⟨#[47, 47]⟩ : ByteArray)).bind fun t447 => (if t447 = true then (impl_tokens.l1 k1 a0 x5_1 x6_1) else ((impl_tokenAt.f k1 (a0.extract (x6_1 : Int).toNat a0.size)).bind fun bt448 => (if bt448.2.2 = 0 then (if x6_1 ≤ (wrap64 (x6_1 + bt448.2.1)) then (if (wrap64 (x6_1 + bt448.2.1)) ≤ (a0.size : Int) then (if x5_1.length < 4398046511104 then (impl_tokens.l0 k1 a0 (x5_1 ++ [(⟨bt448.1, a0.extract (x6_1 : Int).toNat ((wrap64 (x6_1 + bt448.2.1)) : Int).toNat, x6_1⟩ : S54)]) (wrap64 (x6_1 + bt448.2.1))) else (none)) else (none)) else (none)) else (some (([] : List (S54)), x6_1, bt448.2.2)))))) else (none))) = some (r1, r2, r3) := H
            have A8 := Aside0.mk A80
            clear A80
            by_cases c9 : t446 ≥ 0
            · rw [if_pos c9] at H
              have c9b0 : decide (0 ≤ t446) = true := decide_eq_true c9
              clear c9
              have H' := Aside0.mk H
              clear H
              have p7 : 0 ≤ (x6_1 : Int) := of_decide_eq_true (by first | (with_reducible assumption) | assumption)
              have q7 : x6_1 < (a0.size : Int) := of_decide_eq_true (by first | (with_reducible assumption) | assumption)
              have hx7 := bt_at a0 x6_1
              replace p7 := eq_true p7
              replace q7 := eq_true q7
              go_wp2_with (first | ((with_reducible refine gate_callee (f := 110) rfl ?_); refine goesL_ (some 22) rfl rfl Tryd.func110 (by kernel_rfl) rfl #[.string (⟨#[32, 9, 10, 13]⟩ : ByteArray), .int .u8 (bt a0 x6_1)] rfl (by (try simp only [List.map_toArray, List.map_cons, List.map_nil]); first | done | rfl | (simp only [List.length_drop, List.length_take]; rfl)) ?_; (with_reducible refine (strings_IndexByte.calls (⟨#[32, 9, 10, 13]⟩ : ByteArray) (bt a0 x6_1) t446 _ A8.out).mono ?_); rintro e w' ⟨rfl, ⟨nd, rfl⟩⟩; refine ⟨_, rfl, ?_⟩))
              go_roundg k1
              case measure => have := HK1.out; omega
              case rel => exact ⟨(x5_1), (wrap64 (x6_1 + 1)), (by first | rfl | (simp; done) | (simp [*]; done)), H', ⟨by have := HK1.out; omega⟩, ⟨by (with_reducible repeat (first | apply Kd.R_alloc | apply Kd.R_drewN | apply Kd.R_drew)); exact HO_5.out⟩, ⟨by repeat (first | (with_reducible first | exact HB.out | apply below_alloc | apply pw_below_drewN | apply below_drew1) | exact HB.out)⟩⟩
            · rw [if_neg c9] at H
              have c9b0 : decide (0 ≤ t446) = false := decide_eq_false c9
              clear c9
              have c10b0 := eq_true (of_decide_eq_true (by first | (with_reducible assumption) | assumption) : 0 ≤ x6_1)
              by_cases c11 : x6_1 ≤ (a0.size : Int)
              · rw [if_pos c11] at H
                have c11b0 := eq_true c11
                have c11b1 : decide (x6_1 ≤ (a0.size : Int)) = true := decide_eq_true c11
                clear c11
                replace H := Option.bind_eq_some_iff.mp H
                obtain ⟨t447, A120, H⟩ := H
                replace H : (if t447 = true then (impl_tokens.l1 k1 a0 x5_1 x6_1) else ((impl_tokenAt.f k1 (a0.extract (x6_1 : Int).toNat a0.size)).bind fun bt448 => (if bt448.2.2 = 0 then (if x6_1 ≤ (wrap64 (x6_1 + bt448.2.1)) then (if (wrap64 (x6_1 + bt448.2.1)) ≤ (a0.size : Int) then (if x5_1.length < 4398046511104 then (impl_tokens.l0 k1 a0 (x5_1 ++ [(⟨bt448.1, a0.extract (x6_1 : Int).toNat ((wrap64 (x6_1 + bt448.2.1)) : Int).toNat, x6_1⟩ : S54)]) (wrap64 (x6_1 + bt448.2.1))) else (none)) else (none)) else (none)) else (some (([] : List (S54)), x6_1, bt448.2.2))))) = some (r1, r2, r3) := H
                have A12 := Aside0.mk A120
                clear A120
                by_cases c13 : t447 = true
                · subst c13
                  have H1 : (impl_tokens.l1 k1 a0 x5_1 x6_1) = some (r1, r2, r3) := by rw [if_pos rfl] at H; exact H
                  clear H
                  have H := H1
                  clear H1
                  have H' := Aside0.mk H
                  clear H
                  have p7 : 0 ≤ (x6_1 : Int) := of_decide_eq_true (by first | (with_reducible assumption) | assumption)
                  have q7 : x6_1 < (a0.size : Int) := of_decide_eq_true (by first | (with_reducible assumption) | assumption)
                  have hx7 := bt_at a0 x6_1
                  replace p7 := eq_true p7
                  replace q7 := eq_true q7
                  go_wp2_with (first | ((with_reducible refine gate_callee (f := 110) rfl ?_); refine goesL_ (some 22) rfl rfl Tryd.func110 (by kernel_rfl) rfl #[.string (⟨#[32, 9, 10, 13]⟩ : ByteArray), .int .u8 (bt a0 x6_1)] rfl (by (try simp only [List.map_toArray, List.map_cons, List.map_nil]); first | done | rfl | (simp only [List.length_drop, List.length_take]; rfl)) ?_; (with_reducible refine (strings_IndexByte.calls (⟨#[32, 9, 10, 13]⟩ : ByteArray) (bt a0 x6_1) t446 _ A8.out).mono ?_); rintro e w' ⟨rfl, ⟨nd, rfl⟩⟩; refine ⟨_, rfl, ?_⟩) | ((with_reducible refine gate_callee (f := 108) rfl ?_); refine goesL_ (some 30) rfl rfl Tryd.func108 (by kernel_rfl) rfl #[.string (a0.extract (x6_1 : Int).toNat a0.size), .string (⟨#[47, 47]⟩ : ByteArray)] rfl (by (try simp only [List.map_toArray, List.map_cons, List.map_nil]); first | done | rfl | (simp only [List.length_drop, List.length_take]; rfl)) ?_; (with_reducible refine (strings_HasPrefix.calls (a0.extract (x6_1 : Int).toNat a0.size) (⟨#[47, 47]⟩ : ByteArray) true _ A12.out).mono ?_); rintro e w' ⟨rfl, ⟨nd, rfl⟩⟩; refine ⟨_, rfl, ?_⟩))
                  go_loopg [6] k1 (fun kq v6 w' => ∃ (x6_2 : Int), v6 = .int .i64 x6_2 ∧ Aside0 (impl_tokens.l1 kq a0 x5_1 x6_2 = some (r1, r2, r3)) ∧ Aside0 (kq ≤ k1) ∧ Aside0 (Kd.R k54 54 w' w.heap.size (fun _ => True) u5 x5_1) ∧ Aside0 (Below w.heap.size w w'))
                  case atStart => exact ⟨(x6_1), (by first | rfl | (simp; done) | (simp [*]; done)), H', ⟨Nat.le_refl _⟩, ⟨by (with_reducible repeat (first | apply Kd.R_alloc | apply Kd.R_drewN | apply Kd.R_drew)); exact HO_5.out⟩, ⟨by repeat (first | (with_reducible first | exact HB.out | apply below_alloc | apply pw_below_drewN | apply below_drew1) | exact HB.out)⟩⟩
                  case round =>
                    clear H'
                    try clear c1
                    try clear c2
                    try clear c2b0
                    try clear c2b1
                    try clear p2
                    try clear c5
                    try clear c5b0
                    try clear c6
                    try clear c6b0
                    try clear p6
                    try clear p7
                    try clear q7
                    try clear hx7
                    try clear c8
                    try clear c9
                    try clear c9b0
                    try clear c10
                    try clear c10b0
                    try clear c11
                    try clear c11b0
                    try clear c11b1
                    try clear c13
                    try clear p2
                    try clear p7
                    try clear q7
                    obtain ⟨x6_2, rfl, HA, HK2, HO_5, HB⟩ := hrel
                    cases gk with
                    | zero => exact absurd HA.out (by simp [impl_tokens.l1])
                    | succ k2 =>
                      have H := HA.out
                      clear HA
                      simp only [impl_tokens.l1] at H
                      by_cases c14 : x6_2 < (a0.size : Int)
                      · rw [if_pos c14] at H
                        have c14b0 : decide (x6_2 < (a0.size : Int)) = true := decide_eq_true c14
                        clear c14
                        by_cases c15 : 0 ≤ x6_2
                        · rw [if_pos c15] at H
                          have c15b0 : decide (0 ≤ x6_2) = true := decide_eq_true c15
                          clear c15
                          by_cases c17 : (bt a0 x6_2) = 10
                          · rw [if_pos c17] at H
                            have c17b0 : ((bt a0 x6_2) == 10) = true := beq_iff_eq.mpr c17
                            have c17b1 : ((bt a0 x6_2) != 10) = false := bne_eq_false_iff_eq.mpr c17
                            clear c17
                            have H' := Aside0.mk H
                            clear H
                            have p16 : 0 ≤ (x6_2 : Int) := of_decide_eq_true (by first | (with_reducible assumption) | assumption)
                            have q16 : x6_2 < (a0.size : Int) := of_decide_eq_true (by first | (with_reducible assumption) | assumption)
                            have hx16 := bt_at a0 x6_2
                            replace p16 := eq_true p16
                            replace q16 := eq_true q16
                            go_wp2
                            go_roundg k2
                            case measure => have := HK1.out; have := HK2.out; omega
                            case rel => exact ⟨(x5_1), (x6_2), (by first | rfl | (simp; done) | (simp [*]; done)), H', ⟨by have := HK1.out; have := HK2.out; omega⟩, ⟨by (with_reducible repeat (first | apply Kd.R_alloc | apply Kd.R_drewN | apply Kd.R_drew)); exact HO_5.out⟩, ⟨by repeat (first | (with_reducible first | exact HB.out | apply below_alloc | apply pw_below_drewN | apply below_drew1) | exact HB.out)⟩⟩
                          · rw [if_neg c17] at H
                            have c17b0 : ((bt a0 x6_2) == 10) = false := beq_eq_false_iff_ne.mpr c17
                            have c17b1 : ((bt a0 x6_2) != 10) = true := bne_iff_ne.mpr c17
                            have H' := Aside0.mk H
                            clear H
                            have p16 : 0 ≤ (x6_2 : Int) := of_decide_eq_true (by first | (with_reducible assumption) | assumption)
                            have q16 : x6_2 < (a0.size : Int) := of_decide_eq_true (by first | (with_reducible assumption) | assumption)
                            have hx16 := bt_at a0 x6_2
                            replace p16 := eq_true p16
                            replace q16 := eq_true q16
                            go_wp2
                            go_roundg k2
                            case measure => have := HK1.out; have := HK2.out; omega
                            case rel => exact ⟨(wrap64 (x6_2 + 1)), (by first | rfl | (simp; done) | (simp [*]; done)), H', ⟨by have := HK1.out; have := HK2.out; omega⟩, ⟨by (with_reducible repeat (first | apply Kd.R_alloc | apply Kd.R_drewN | apply Kd.R_drew)); exact HO_5.out⟩, ⟨by repeat (first | (with_reducible first | exact HB.out | apply below_alloc | apply pw_below_drewN | apply below_drew1) | exact HB.out)⟩⟩
                        · rw [if_neg c15] at H
                          exact absurd H (by simp)
                      · rw [if_neg c14] at H
                        have c14b0 : decide (x6_2 < (a0.size : Int)) = false := decide_eq_false c14
                        clear c14
                        have H' := Aside0.mk H
                        clear H
                        go_wp2
                        go_roundg k2
                        case measure => have := HK1.out; have := HK2.out; omega
                        case rel => exact ⟨(x5_1), (x6_2), (by first | rfl | (simp; done) | (simp [*]; done)), H', ⟨by have := HK1.out; have := HK2.out; omega⟩, ⟨by (with_reducible repeat (first | apply Kd.R_alloc | apply Kd.R_drewN | apply Kd.R_drew)); exact HO_5.out⟩, ⟨by repeat (first | (with_reducible first | exact HB.out | apply below_alloc | apply pw_below_drewN | apply below_drew1) | exact HB.out)⟩⟩
                · replace c13 := Bool.eq_false_iff.mpr c13
                  subst c13
                  have H1 : ((impl_tokenAt.f k1 (a0.extract (x6_1 : Int).toNat a0.size)).bind fun bt448 => (if bt448.2.2 = 0 then (if x6_1 ≤ (wrap64 (x6_1 + bt448.2.1)) then (if (wrap64 (x6_1 + bt448.2.1)) ≤ (a0.size : Int) then (if x5_1.length < 4398046511104 then (impl_tokens.l0 k1 a0 (x5_1 ++ [(⟨bt448.1, a0.extract (x6_1 : Int).toNat ((wrap64 (x6_1 + bt448.2.1)) : Int).toNat, x6_1⟩ : S54)]) (wrap64 (x6_1 + bt448.2.1))) else (none)) else (none)) else (none)) else (some (([] : List (S54)), x6_1, bt448.2.2)))) = some (r1, r2, r3) := by rw [if_neg (show ¬ (false = true) by decide)] at H; exact H
                  clear H
                  have H := H1
                  clear H1
                  have c18b0 := eq_true (of_decide_eq_true (by first | (with_reducible assumption) | assumption) : 0 ≤ x6_1)
                  have c19b0 := eq_true (of_decide_eq_true (by first | (with_reducible assumption) | assumption) : x6_1 ≤ (a0.size : Int))
                  replace H := Option.bind_eq_some_iff.mp H
                  obtain ⟨⟨t448, t449, t450⟩, A200, H⟩ := H
                  replace H : (if t450 = 0 then (if x6_1 ≤ (wrap64 (x6_1 + t449)) then (if (wrap64 (x6_1 + t449)) ≤ (a0.size : Int) then (if x5_1.length < 4398046511104 then (impl_tokens.l0 k1 a0 (x5_1 ++ [(⟨t448, a0.extract (x6_1 : Int).toNat ((wrap64 (x6_1 + t449)) : Int).toNat, x6_1⟩ : S54)]) (wrap64 (x6_1 + t449))) else (none)) else (none)) else (none)) else (some (([] : List (S54)), x6_1, t450))) = some (r1, r2, r3) := H
                  have A20 := Aside0.mk A200
                  clear A200
                  by_cases c21 : t450 = 0
                  · rw [if_pos c21] at H
                    have c21b0 : (t450 == 0) = true := beq_iff_eq.mpr c21
                    have c21b1 : (t450 != 0) = false := bne_eq_false_iff_eq.mpr c21
                    clear c21
                    have c22b0 := eq_true (of_decide_eq_true (by first | (with_reducible assumption) | assumption) : 0 ≤ x6_1)
                    by_cases c23 : x6_1 ≤ (wrap64 (x6_1 + t449))
                    · rw [if_pos c23] at H
                      have c23b0 := eq_true c23
                      have c23b1 : decide (x6_1 ≤ (wrap64 (x6_1 + t449))) = true := decide_eq_true c23
                      by_cases c24 : (wrap64 (x6_1 + t449)) ≤ (a0.size : Int)
                      · rw [if_pos c24] at H
                        have c24b0 := eq_true c24
                        have c24b1 : decide ((wrap64 (x6_1 + t449)) ≤ (a0.size : Int)) = true := decide_eq_true c24
                        by_cases c25 : x5_1.length < 4398046511104
                        · rw [if_pos c25] at H
                          have LMc25 := Aside0.mk c25
                          clear c25
                          obtain ⟨y451, hy451⟩ : ∃ y_ : List (S54), y_ = (x5_1 ++ [(⟨t448, a0.extract (x6_1 : Int).toNat ((wrap64 (x6_1 + t449)) : Int).toNat, x6_1⟩ : S54)]) := ⟨_, rfl⟩
                          replace H : (impl_tokens.l0 k1 a0 y451 (wrap64 (x6_1 + t449))) = some (r1, r2, r3) := by first | (rw [hy451]; with_reducible exact H) | (have H2_ := (Option.bind_some _ _).symm.trans H; rw [hy451]; with_reducible exact H2_) | (have H2_ := (Option.bind_some _ _).symm.trans H; with_reducible exact H2_) | with_reducible exact H | (rw [hy451]; exact H) | exact H
                          have Ny451 := Aside0.mk hy451
                          clear hy451
                          have H' := Aside0.mk H
                          clear H
                          have p7 : 0 ≤ (x6_1 : Int) := of_decide_eq_true (by first | (with_reducible assumption) | assumption)
                          have q7 : x6_1 < (a0.size : Int) := of_decide_eq_true (by first | (with_reducible assumption) | assumption)
                          have hx7 := bt_at a0 x6_1
                          replace p7 := eq_true p7
                          replace q7 := eq_true q7
                          go_wp2_with (first | ((with_reducible refine gate_callee (f := 110) rfl ?_); refine goesL_ (some 22) rfl rfl Tryd.func110 (by kernel_rfl) rfl #[.string (⟨#[32, 9, 10, 13]⟩ : ByteArray), .int .u8 (bt a0 x6_1)] rfl (by (try simp only [List.map_toArray, List.map_cons, List.map_nil]); first | done | rfl | (simp only [List.length_drop, List.length_take]; rfl)) ?_; (with_reducible refine (strings_IndexByte.calls (⟨#[32, 9, 10, 13]⟩ : ByteArray) (bt a0 x6_1) t446 _ A8.out).mono ?_); rintro e w' ⟨rfl, ⟨nd, rfl⟩⟩; refine ⟨_, rfl, ?_⟩) | ((with_reducible refine gate_callee (f := 108) rfl ?_); refine goesL_ (some 30) rfl rfl Tryd.func108 (by kernel_rfl) rfl #[.string (a0.extract (x6_1 : Int).toNat a0.size), .string (⟨#[47, 47]⟩ : ByteArray)] rfl (by (try simp only [List.map_toArray, List.map_cons, List.map_nil]); first | done | rfl | (simp only [List.length_drop, List.length_take]; rfl)) ?_; (with_reducible refine (strings_HasPrefix.calls (a0.extract (x6_1 : Int).toNat a0.size) (⟨#[47, 47]⟩ : ByteArray) false _ A12.out).mono ?_); rintro e w' ⟨rfl, ⟨nd, rfl⟩⟩; refine ⟨_, rfl, ?_⟩) | ((with_reducible refine gate_callee (f := 111) rfl ?_); refine goesL_ (some 47) rfl rfl Tryd.func111 (by kernel_rfl) rfl #[.string (a0.extract (x6_1 : Int).toNat a0.size)] rfl (by (try simp only [List.map_toArray, List.map_cons, List.map_nil]); first | done | rfl | (simp only [List.length_drop, List.length_take]; rfl)) ?_; (with_reducible refine (impl_tokenAt.calls k1 (a0.extract (x6_1 : Int).toNat a0.size) t448 t449 t450 _ ?side1 A20.out).mono ?_); (case side1 => exact Tb.below HT.out (by repeat (first | (with_reducible first | exact HB.out | apply below_alloc | apply pw_below_drewN | apply below_drew1) | exact HB.out))); rintro e w26 ⟨rfl, hb⟩; refine ⟨_, rfl, ?_⟩; have n0_ := Aside0.mk (Kd.R_below (by (with_reducible repeat (first | apply Kd.R_alloc | apply Kd.R_drewN | apply Kd.R_drew)); exact HO_5.out) hb); have n1_ := Aside0.mk (below_step (by repeat (first | (with_reducible first | exact HB.out | apply below_alloc | apply pw_below_drewN | apply below_drew1) | exact HB.out)) hb); clear HO_5; clear HB; have HO_5 := n0_; have HB := n1_; clear n0_ n1_; (try clear hb); (try clear hb2); (try clear hk); (try clear hi)) | ((with_reducible refine gate_builtin (b := .append) (xs := #[.tmp 55, .tmp 65]) rfl ?_); at_builtin; refine Kd.R_append k54 (w0 := w) w.heap.size rfl (.tmp 55) (.tmp 65) 50 54 (.agg #[(.int .i64 0), (.string ⟨#[]⟩), (.int .i64 0)]) 32 rfl Tryd.underlying50 info54 rfl (by decide) (by omega) u5 x5_1 (⟨t448, a0.extract (x6_1 : Int).toNat ((wrap64 (x6_1 + t449)) : Int).toNat, x6_1⟩ : S54) [.int .i64 t448, .string (a0.extract (x6_1 : Int).toNat ((wrap64 (x6_1 + t449)) : Int).toNat), .int .i64 x6_1] (fun _ => True) (fun _ => False) rfl rfl ?aP (fun _ hk => hk.elim) ?aF ?aO ?aB ?aS ?aL ?_; (case aP => exact k54_mkM _ _ _ (⟨t448, a0.extract (x6_1 : Int).toNat ((wrap64 (x6_1 + t449)) : Int).toNat, x6_1⟩ : S54)); (case aB => exact (by repeat (first | (with_reducible first | exact HB.out | apply below_alloc | apply pw_below_drewN | apply below_drew1) | exact HB.out))); (case aF => exact (fun _ _ => trivial)); (case aO => exact (by (with_reducible repeat (first | apply Kd.R_alloc | apply Kd.R_drewN | apply Kd.R_drew)); exact HO_5.out)); (case aS => exact (below_size (by repeat (first | (with_reducible first | exact HB.out | apply below_alloc | apply pw_below_drewN | apply below_drew1) | exact HB.out)))); (case aL => have := LMc25.out; omega); intro v452 w27 ho hb hg hat; rw [← Ny451.out] at ho; have n0_ := Aside0.mk (hb); have n1_ := Aside0.mk (ho); clear HB; clear HO_5; have HB := n0_; have HO453 := n1_; clear n0_ n1_; clear ho hb hg hat))
                          go_roundg k1
                          case measure => have := HK1.out; omega
                          case rel => exact ⟨(y451), (wrap64 (x6_1 + t449)), (by first | rfl | (simp; done) | (simp [*]; done)), H', ⟨by have := HK1.out; omega⟩, ⟨by (with_reducible repeat (first | apply Kd.R_alloc | apply Kd.R_drewN | apply Kd.R_drew)); exact HO453.out⟩, ⟨by repeat (first | (with_reducible first | exact HB.out | apply below_alloc | apply pw_below_drewN | apply below_drew1) | exact HB.out)⟩⟩
                        · rw [if_neg c25] at H
                          exact absurd H (by simp)
                      · rw [if_neg c24] at H
                        exact absurd H (by simp)
                    · rw [if_neg c23] at H
                      exact absurd H (by simp)
                  · rw [if_neg c21] at H
                    have c21b0 : (t450 == 0) = false := beq_eq_false_iff_ne.mpr c21
                    have c21b1 : (t450 != 0) = true := bne_iff_ne.mpr c21
                    simp only [Option.some.injEq, Prod.mk.injEq] at H
                    obtain ⟨rfl, rfl, rfl⟩ := H
                    have p7 : 0 ≤ (x6_1 : Int) := of_decide_eq_true (by first | (with_reducible assumption) | assumption)
                    have q7 : x6_1 < (a0.size : Int) := of_decide_eq_true (by first | (with_reducible assumption) | assumption)
                    have hx7 := bt_at a0 x6_1
                    replace p7 := eq_true p7
                    replace q7 := eq_true q7
                    go_wp2_with (first | ((with_reducible refine gate_callee (f := 110) rfl ?_); refine goesL_ (some 22) rfl rfl Tryd.func110 (by kernel_rfl) rfl #[.string (⟨#[32, 9, 10, 13]⟩ : ByteArray), .int .u8 (bt a0 x6_1)] rfl (by (try simp only [List.map_toArray, List.map_cons, List.map_nil]); first | done | rfl | (simp only [List.length_drop, List.length_take]; rfl)) ?_; (with_reducible refine (strings_IndexByte.calls (⟨#[32, 9, 10, 13]⟩ : ByteArray) (bt a0 x6_1) t446 _ A8.out).mono ?_); rintro e w' ⟨rfl, ⟨nd, rfl⟩⟩; refine ⟨_, rfl, ?_⟩) | ((with_reducible refine gate_callee (f := 108) rfl ?_); refine goesL_ (some 30) rfl rfl Tryd.func108 (by kernel_rfl) rfl #[.string (a0.extract (x6_1 : Int).toNat a0.size), .string (⟨#[47, 47]⟩ : ByteArray)] rfl (by (try simp only [List.map_toArray, List.map_cons, List.map_nil]); first | done | rfl | (simp only [List.length_drop, List.length_take]; rfl)) ?_; (with_reducible refine (strings_HasPrefix.calls (a0.extract (x6_1 : Int).toNat a0.size) (⟨#[47, 47]⟩ : ByteArray) false _ A12.out).mono ?_); rintro e w' ⟨rfl, ⟨nd, rfl⟩⟩; refine ⟨_, rfl, ?_⟩) | ((with_reducible refine gate_callee (f := 111) rfl ?_); refine goesL_ (some 47) rfl rfl Tryd.func111 (by kernel_rfl) rfl #[.string (a0.extract (x6_1 : Int).toNat a0.size)] rfl (by (try simp only [List.map_toArray, List.map_cons, List.map_nil]); first | done | rfl | (simp only [List.length_drop, List.length_take]; rfl)) ?_; (with_reducible refine (impl_tokenAt.calls k1 (a0.extract (x6_1 : Int).toNat a0.size) t448 t449 t450 _ ?side1 A20.out).mono ?_); (case side1 => exact Tb.below HT.out (by repeat (first | (with_reducible first | exact HB.out | apply below_alloc | apply pw_below_drewN | apply below_drew1) | exact HB.out))); rintro e w28 ⟨rfl, hb⟩; refine ⟨_, rfl, ?_⟩; have n0_ := Aside0.mk (Kd.R_below (by (with_reducible repeat (first | apply Kd.R_alloc | apply Kd.R_drewN | apply Kd.R_drew)); exact HO_5.out) hb); have n1_ := Aside0.mk (below_step (by repeat (first | (with_reducible first | exact HB.out | apply below_alloc | apply pw_below_drewN | apply below_drew1) | exact HB.out)) hb); clear HO_5; clear HB; have HO_5 := n0_; have HB := n1_; clear n0_ n1_; (try clear hb); (try clear hb2); (try clear hk); (try clear hi)))
                    go_ret3
                    exact ⟨_, by first | rfl | (simp [errW_none, errW_some] <;> rfl) | (simp [*, errW_none, errW_some] <;> rfl), by first | exact Kd.R_nil _ _ _ _ _ | exact Kd.N_nil _ _ _ _ _ | exact Kd.V_nil _ _ _ _ _ | exact Kd.Q_nil _ _ _ _ _ | exact Kd.S_nil _ _ _ _ _, by repeat (first | (with_reducible first | exact HB.out | apply below_alloc | apply pw_below_drewN | apply below_drew1) | exact HB.out)⟩
              · rw [if_neg c11] at H
                exact absurd H (by simp)
          · rw [if_neg c6] at H
            exact absurd H (by simp)
        · rw [if_neg c5] at H
          have c5b0 : decide (x6_1 < (a0.size : Int)) = false := decide_eq_false c5
          clear c5
          simp only [Option.some.injEq, Prod.mk.injEq] at H
          obtain ⟨rfl, rfl, rfl⟩ := H
          go_wp2
          go_ret3
          exact ⟨_, by first | rfl | (simp [errW_none, errW_some] <;> rfl) | (simp [*, errW_none, errW_some] <;> rfl), by (with_reducible repeat (first | apply Kd.R_alloc | apply Kd.R_drewN | apply Kd.R_drew)); exact HO_5.out, by repeat (first | (with_reducible first | exact HB.out | apply below_alloc | apply pw_below_drewN | apply below_drew1) | exact HB.out)⟩
def impl_Tokens.f (k : Nat) (a0 : ByteArray) : Option ((List (S54)) × Int × Int) := (impl_tokens.f k a0).bind fun bt454 => (some (bt454.1, bt454.2.1, bt454.2.2))
set_option maxHeartbeats 8000000 in
set_option maxRecDepth 100000 in
theorem impl_Tokens.calls (k : Nat) (a0 : ByteArray) (r1 : List (S54)) (r2 : Int) (r3 : Int) (w : World) (hT : Tb w) (h : impl_Tokens.f k a0 = some (r1, r2, r3)) :
    Calls Tryd.prog 49 #[.string a0] w fun e w' => ∃ v0_ : Value, e = .returned (.tuple #[v0_, .int .i64 r2, .int .i64 r3]) ∧ Kd.R k54 54 w' w.heap.size (fun _ => True) v0_ r1 ∧ Below w.heap.size w w' := by
  have HT := Aside0.mk hT
  clear hT
  have HB := Aside0.mk (Below.refl w.heap.size w)
  have H : ((impl_tokens.f k a0).bind fun bt454 => (some (bt454.1, bt454.2.1, bt454.2.2))) = some (r1, r2, r3) := h
  clear h
  replace H := Option.bind_eq_some_iff.mp H
  obtain ⟨⟨t454, t455, t456⟩, A20, H⟩ := H
  replace H : (some (t454, t455, t456)) = some (r1, r2, r3) := H
  have A2 := Aside0.mk A20
  clear A20
  simp only [Option.some.injEq, Prod.mk.injEq] at H
  obtain ⟨rfl, rfl, rfl⟩ := H
  go_enter Tryd.func49, Tryd.ntmps49
  go_wp2_with (first | ((with_reducible refine gate_callee (f := 84) rfl ?_); refine goesL_ (some 6) rfl rfl Tryd.func84 (by kernel_rfl) rfl #[.string a0] rfl (by (try simp only [List.map_toArray, List.map_cons, List.map_nil]); first | done | rfl | (simp only [List.length_drop, List.length_take]; rfl)) ?_; (with_reducible refine (impl_tokens.calls k a0 t454 t455 t456 _ ?side1 A2.out).mono ?_); (case side1 => exact Tb.below HT.out (by repeat (first | (with_reducible first | exact HB.out | apply below_alloc | apply pw_below_drewN | apply below_drew1) | exact HB.out))); rintro e w3 ⟨v457, rfl, ho0, hb⟩; refine ⟨_, rfl, ?_⟩; have n0_ := Aside0.mk (Kd.R_lower ho0 (below_size (by repeat (first | (with_reducible first | exact HB.out | apply below_alloc | apply pw_below_drewN | apply below_drew1) | exact HB.out)))); have n1_ := Aside0.mk (below_step (by repeat (first | (with_reducible first | exact HB.out | apply below_alloc | apply pw_below_drewN | apply below_drew1) | exact HB.out)) hb); clear HB; have HO458 := n0_; have HB := n1_; clear n0_ n1_; (try clear hb); (try clear hb2); (try clear hk); (try clear hi); (try clear ho0)))
  go_ret3
  exact ⟨_, by first | rfl | (simp [errW_none, errW_some] <;> rfl) | (simp [*, errW_none, errW_some] <;> rfl), by (with_reducible repeat (first | apply Kd.R_alloc | apply Kd.R_drewN | apply Kd.R_drew)); exact HO458.out, by repeat (first | (with_reducible first | exact HB.out | apply below_alloc | apply pw_below_drewN | apply below_drew1) | exact HB.out)⟩
end Go.Proofs.YtebadckdihgklaaDoor.Pb
end
section
namespace Go.Proofs.YtebadckdihgklaaDoor.Pb
open Go.RowKit Go.Proofs.YtebadckdihgklaaDoorW.PrintWords Go.Proofs.YtebadckdihgklaaDoorW.PrintLast Go.Proofs.YtebadckdihgklaaDoorW.PrintMore
attribute [local go_sem] max2_int min2_int max_two min_two max_three min_three max_four min_four   -- for this text's walks alone
set_option linter.unusedVariables false
set_option linter.unusedSimpArgs false
def spec_l03Sign.j0 : Nat → ByteArray → Option (ByteArray)
  | 0, _ => none
  | k + 1, x0 => if 0 < (x0.size : Int) then (if (bt x0 0) = 40 then (if 0 ≤ 1 then (if 1 ≤ (x0.size : Int) then (some (x0.extract 0 1)) else (none)) else (none)) else (if (bt x0 0) = 41 then (if 0 ≤ 1 then (if 1 ≤ (x0.size : Int) then (some (x0.extract 0 1)) else (none)) else (none)) else (if (bt x0 0) = 44 then (if 0 ≤ 1 then (if 1 ≤ (x0.size : Int) then (some (x0.extract 0 1)) else (none)) else (none)) else (if (bt x0 0) = 46 then (if 0 ≤ 1 then (if 1 ≤ (x0.size : Int) then (some (x0.extract 0 1)) else (none)) else (none)) else (if (bt x0 0) = 33 then (if 0 ≤ 1 then (if 1 ≤ (x0.size : Int) then (some (x0.extract 0 1)) else (none)) else (none)) else (if (bt x0 0) = 61 then (if 0 ≤ 1 then (if 1 ≤ (x0.size : Int) then (some (x0.extract 0 1)) else (none)) else (none)) else (if (bt x0 0) = 60 then (if 0 ≤ 1 then (if 1 ≤ (x0.size : Int) then (some (x0.extract 0 1)) else (none)) else (none)) else (if (bt x0 0) = 43 then (if 0 ≤ 1 then (if 1 ≤ (x0.size : Int) then (some (x0.extract 0 1)) else (none)) else (none)) else (if (bt x0 0) = 45 then (if 0 ≤ 1 then (if 1 ≤ (x0.size : Int) then (some (x0.extract 0 1)) else (none)) else (none)) else (if (bt x0 0) = 42 then (if 0 ≤ 1 then (if 1 ≤ (x0.size : Int) then (some (x0.extract 0 1)) else (none)) else (none)) else (if (bt x0 0) = 124 then (if 0 ≤ 1 then (if 1 ≤ (x0.size : Int) then (some (x0.extract 0 1)) else (none)) else (none)) else (if (bt x0 0) = 95 then (if 0 ≤ 1 then (if 1 ≤ (x0.size : Int) then (some (x0.extract 0 1)) else (none)) else (none)) else (some (⟨#[]⟩ : ByteArray)))))))))))))) else (none)
def spec_l03Sign.f (k : Nat) (a0 : ByteArray) : Option (ByteArray) := if (a0.size : Int) > 1 then (if 0 ≤ 2 then (if 2 ≤ (a0.size : Int) then (if (a0.extract 0 2).toList = ([58, 45] : List UInt8) then (some (a0.extract 0 2)) else (if (a0.extract 0 2).toList = ([33, 61] : List UInt8) then (some (a0.extract 0 2)) else (if (a0.extract 0 2).toList = ([60, 61] : List UInt8) then (some (a0.extract 0 2)) else (spec_l03Sign.j0 k a0)))) else (none)) else (none)) else (spec_l03Sign.j0 k a0)
set_option maxHeartbeats 8000000 in
set_option maxRecDepth 100000 in
theorem spec_l03Sign.calls (k : Nat) (a0 : ByteArray) (r : ByteArray) (w : World) (h : spec_l03Sign.f k a0 = some r) :
    Calls Tryd.prog 89 #[.string a0] w fun e w' => e = .returned (.string r) ∧ Drawn0 w w' := by
  have H : (if (a0.size : Int) > 1 then (if 0 ≤ 2 then (if 2 ≤ (a0.size : Int) then (if (a0.extract 0 2).toList = ([58, 45] : List UInt8) then (some (a0.extract 0 2)) else (if (a0.extract 0 2).toList = ([33, 61] : List UInt8) then (some (a0.extract 0 2)) else (if (a0.extract 0 2).toList = ([60, 61] : List UInt8) then (some (a0.extract 0 2)) else (spec_l03Sign.j0 k a0)))) else (none)) else (none)) else (spec_l03Sign.j0 k a0)) = some r := h
  clear h
  have HC2 := Aside0.mk H
  clear H
  go_enter Tryd.func89, Tryd.ntmps89
  go_upto_if 5 with (fail)
  go_cut [] (fun wc => ∃ (kq : Nat), Aside0 (spec_l03Sign.j0 kq a0 = some r) ∧ Aside0 (kq ≤ k) ∧ Drawn0 w wc)
  case first =>
    have H := HC2.out
    clear HC2
    by_cases c3 : (a0.size : Int) > 1
    · rw [if_pos c3] at H
      have c3b0 : decide (1 < (a0.size : Int)) = true := decide_eq_true c3
      have c3b1 : decide (1 < a0.size) = true := decide_eq_true (by omega)
      clear c3
      (first | rw [c3b0] | (simp only [i64_w, i32_w]; rw [c3b0]) | skip)
      by_cases c4 : 0 ≤ 2
      · rw [if_pos c4] at H
        have c4b0 := eq_true c4
        have c4b1 : decide (0 ≤ 2) = true := decide_eq_true c4
        clear c4
        by_cases c5 : 2 ≤ (a0.size : Int)
        · rw [if_pos c5] at H
          have c5b0 := eq_true c5
          have c5b1 : decide (2 ≤ (a0.size : Int)) = true := decide_eq_true c5
          clear c5
          by_cases c6 : (a0.extract 0 2).toList = ([58, 45] : List UInt8)
          · rw [if_pos c6] at H
            have c6b0 : ((a0.extract 0 2).toList == ([58, 45] : List UInt8)) = true := beq_iff_eq.mpr c6
            have c6b1 : ((a0.extract 0 2).toList != ([58, 45] : List UInt8)) = false := bne_eq_false_iff_eq.mpr c6
            clear c6
            have c7b0 := eq_true (of_decide_eq_true (by first | (with_reducible assumption) | assumption) : 0 ≤ 2)
            have c8b0 := eq_true (of_decide_eq_true (by first | (with_reducible assumption) | assumption) : 2 ≤ (a0.size : Int))
            obtain rfl := Option.some.inj H
            go_wp2
            go_ret
            exact ⟨by first | rfl | (simp; done) | (simp [*]; done), by repeat (first | exact Drawn0.refl _ | apply Drawn0.step)⟩
          · rw [if_neg c6] at H
            have c6b0 : ((a0.extract 0 2).toList == ([58, 45] : List UInt8)) = false := beq_eq_false_iff_ne.mpr c6
            have c6b1 : ((a0.extract 0 2).toList != ([58, 45] : List UInt8)) = true := bne_iff_ne.mpr c6
            by_cases c9 : (a0.extract 0 2).toList = ([33, 61] : List UInt8)
            · rw [if_pos c9] at H
              have c9b0 : ((a0.extract 0 2).toList == ([33, 61] : List UInt8)) = true := beq_iff_eq.mpr c9
              have c9b1 : ((a0.extract 0 2).toList != ([33, 61] : List UInt8)) = false := bne_eq_false_iff_eq.mpr c9
              clear c9
              have c10b0 := eq_true (of_decide_eq_true (by first | (with_reducible assumption) | assumption) : 0 ≤ 2)
              have c11b0 := eq_true (of_decide_eq_true (by first | (with_reducible assumption) | assumption) : 2 ≤ (a0.size : Int))
              obtain rfl := Option.some.inj H
              go_wp2
              go_ret
              exact ⟨by first | rfl | (simp; done) | (simp [*]; done), by repeat (first | exact Drawn0.refl _ | apply Drawn0.step)⟩
            · rw [if_neg c9] at H
              have c9b0 : ((a0.extract 0 2).toList == ([33, 61] : List UInt8)) = false := beq_eq_false_iff_ne.mpr c9
              have c9b1 : ((a0.extract 0 2).toList != ([33, 61] : List UInt8)) = true := bne_iff_ne.mpr c9
              by_cases c12 : (a0.extract 0 2).toList = ([60, 61] : List UInt8)
              · rw [if_pos c12] at H
                have c12b0 : ((a0.extract 0 2).toList == ([60, 61] : List UInt8)) = true := beq_iff_eq.mpr c12
                have c12b1 : ((a0.extract 0 2).toList != ([60, 61] : List UInt8)) = false := bne_eq_false_iff_eq.mpr c12
                clear c12
                have c13b0 := eq_true (of_decide_eq_true (by first | (with_reducible assumption) | assumption) : 0 ≤ 2)
                have c14b0 := eq_true (of_decide_eq_true (by first | (with_reducible assumption) | assumption) : 2 ≤ (a0.size : Int))
                obtain rfl := Option.some.inj H
                go_wp2
                go_ret
                exact ⟨by first | rfl | (simp; done) | (simp [*]; done), by repeat (first | exact Drawn0.refl _ | apply Drawn0.step)⟩
              · rw [if_neg c12] at H
                have c12b0 : ((a0.extract 0 2).toList == ([60, 61] : List UInt8)) = false := beq_eq_false_iff_ne.mpr c12
                have c12b1 : ((a0.extract 0 2).toList != ([60, 61] : List UInt8)) = true := bne_iff_ne.mpr c12
                have H' := Aside0.mk H
                clear H
                go_wp2
                go_meet
                case rel => exact ⟨_, H', ⟨by first | omega | exact Nat.le_refl _⟩, by repeat (first | exact Drawn0.refl _ | apply Drawn0.step)⟩
        · rw [if_neg c5] at H
          exact absurd H (by simp)
      · rw [if_neg c4] at H
        exact absurd H (by simp)
    · rw [if_neg c3] at H
      have c3b0 : decide (1 < (a0.size : Int)) = false := decide_eq_false c3
      have c3b1 : decide (1 < a0.size) = false := decide_eq_false (by omega)
      clear c3
      (first | rw [c3b0] | (simp only [i64_w, i32_w]; rw [c3b0]) | skip)
      have H' := Aside0.mk H
      clear H
      go_wp2
      go_meet
      case rel => exact ⟨_, H', ⟨by first | omega | exact Nat.le_refl _⟩, by repeat (first | exact Drawn0.refl _ | apply Drawn0.step)⟩
  case rest =>
    clear HC2
    try clear c1
    try clear p2
    try clear c3
    try clear c3b0
    try clear c3b1
    try clear c4
    try clear c4b0
    try clear c4b1
    try clear c5
    try clear c5b0
    try clear c5b1
    try clear c6
    try clear c6b0
    try clear c6b1
    try clear c7
    try clear c7b0
    try clear c8
    try clear c8b0
    try clear c9
    try clear c9b0
    try clear c9b1
    try clear c10
    try clear c10b0
    try clear c11
    try clear c11b0
    try clear c12
    try clear c12b0
    try clear c12b1
    try clear c13
    try clear c13b0
    try clear c14
    try clear c14b0
    obtain ⟨kq, HA, HJ1, ⟨mc1, rfl⟩⟩ := hcut
    cases kq with
    | zero => exact absurd HA.out (by simp [spec_l03Sign.j0])
    | succ kj1 =>
      have H := HA.out
      clear HA
      simp only [spec_l03Sign.j0] at H
      by_cases c15 : 0 < (a0.size : Int)
      · rw [if_pos c15] at H
        have c15b0 : decide (0 < (a0.size : Int)) = true := decide_eq_true c15
        have c15b1 : decide (0 < a0.size) = true := decide_eq_true (by omega)
        clear c15
        by_cases c17 : (bt a0 0) = 40
        · rw [if_pos c17] at H
          have c17b0 : ((bt a0 0) == 40) = true := beq_iff_eq.mpr c17
          have c17b1 : ((bt a0 0) != 40) = false := bne_eq_false_iff_eq.mpr c17
          clear c17
          by_cases c18 : 0 ≤ 1
          · rw [if_pos c18] at H
            have c18b0 := eq_true c18
            have c18b1 : decide (0 ≤ 1) = true := decide_eq_true c18
            clear c18
            by_cases c19 : 1 ≤ (a0.size : Int)
            · rw [if_pos c19] at H
              have c19b0 := eq_true c19
              have c19b1 : decide (1 ≤ (a0.size : Int)) = true := decide_eq_true c19
              clear c19
              obtain rfl := Option.some.inj H
              have p16 : 0 ≤ (0 : Int) := (by omega)
              have q16 : 0 < a0.size := (by have : (0 : Int) < (a0.size : Int) := of_decide_eq_true (by first | (with_reducible assumption) | assumption); omega)
              have hx16 : ∀ h : 0 < a0.size, ((a0[0]'h).toNat : Int) = bt a0 0 := bt_at a0 0
              clear p16
              have qi16 : (0 < (a0.size : Int)) = True := eq_true (of_decide_eq_true (by first | (with_reducible assumption) | assumption))
              replace q16 := eq_true q16
              go_wp2
              go_ret
              exact ⟨by first | rfl | (simp; done) | (simp [*]; done), by repeat (first | exact Drawn0.refl _ | apply Drawn0.step)⟩
            · rw [if_neg c19] at H
              exact absurd H (by simp)
          · rw [if_neg c18] at H
            exact absurd H (by simp)
        · rw [if_neg c17] at H
          have c17b0 : ((bt a0 0) == 40) = false := beq_eq_false_iff_ne.mpr c17
          have c17b1 : ((bt a0 0) != 40) = true := bne_iff_ne.mpr c17
          by_cases c20 : (bt a0 0) = 41
          · rw [if_pos c20] at H
            have c20b0 : ((bt a0 0) == 41) = true := beq_iff_eq.mpr c20
            have c20b1 : ((bt a0 0) != 41) = false := bne_eq_false_iff_eq.mpr c20
            clear c20
            by_cases c21 : 0 ≤ 1
            · rw [if_pos c21] at H
              have c21b0 := eq_true c21
              have c21b1 : decide (0 ≤ 1) = true := decide_eq_true c21
              clear c21
              by_cases c22 : 1 ≤ (a0.size : Int)
              · rw [if_pos c22] at H
                have c22b0 := eq_true c22
                have c22b1 : decide (1 ≤ (a0.size : Int)) = true := decide_eq_true c22
                clear c22
                obtain rfl := Option.some.inj H
                have p16 : 0 ≤ (0 : Int) := (by omega)
                have q16 : 0 < a0.size := (by have : (0 : Int) < (a0.size : Int) := of_decide_eq_true (by first | (with_reducible assumption) | assumption); omega)
                have hx16 : ∀ h : 0 < a0.size, ((a0[0]'h).toNat : Int) = bt a0 0 := bt_at a0 0
                clear p16
                have qi16 : (0 < (a0.size : Int)) = True := eq_true (of_decide_eq_true (by first | (with_reducible assumption) | assumption))
                replace q16 := eq_true q16
                go_wp2
                go_ret
                exact ⟨by first | rfl | (simp; done) | (simp [*]; done), by repeat (first | exact Drawn0.refl _ | apply Drawn0.step)⟩
              · rw [if_neg c22] at H
                exact absurd H (by simp)
            · rw [if_neg c21] at H
              exact absurd H (by simp)
          · rw [if_neg c20] at H
            have c20b0 : ((bt a0 0) == 41) = false := beq_eq_false_iff_ne.mpr c20
            have c20b1 : ((bt a0 0) != 41) = true := bne_iff_ne.mpr c20
            by_cases c23 : (bt a0 0) = 44
            · rw [if_pos c23] at H
              have c23b0 : ((bt a0 0) == 44) = true := beq_iff_eq.mpr c23
              have c23b1 : ((bt a0 0) != 44) = false := bne_eq_false_iff_eq.mpr c23
              clear c23
              by_cases c24 : 0 ≤ 1
              · rw [if_pos c24] at H
                have c24b0 := eq_true c24
                have c24b1 : decide (0 ≤ 1) = true := decide_eq_true c24
                clear c24
                by_cases c25 : 1 ≤ (a0.size : Int)
                · rw [if_pos c25] at H
                  have c25b0 := eq_true c25
                  have c25b1 : decide (1 ≤ (a0.size : Int)) = true := decide_eq_true c25
                  clear c25
                  obtain rfl := Option.some.inj H
                  have p16 : 0 ≤ (0 : Int) := (by omega)
                  have q16 : 0 < a0.size := (by have : (0 : Int) < (a0.size : Int) := of_decide_eq_true (by first | (with_reducible assumption) | assumption); omega)
                  have hx16 : ∀ h : 0 < a0.size, ((a0[0]'h).toNat : Int) = bt a0 0 := bt_at a0 0
                  clear p16
                  have qi16 : (0 < (a0.size : Int)) = True := eq_true (of_decide_eq_true (by first | (with_reducible assumption) | assumption))
                  replace q16 := eq_true q16
                  go_wp2
                  go_ret
                  exact ⟨by first | rfl | (simp; done) | (simp [*]; done), by repeat (first | exact Drawn0.refl _ | apply Drawn0.step)⟩
                · rw [if_neg c25] at H
                  exact absurd H (by simp)
              · rw [if_neg c24] at H
                exact absurd H (by simp)
            · rw [if_neg c23] at H
              have c23b0 : ((bt a0 0) == 44) = false := beq_eq_false_iff_ne.mpr c23
              have c23b1 : ((bt a0 0) != 44) = true := bne_iff_ne.mpr c23
              by_cases c26 : (bt a0 0) = 46
              · rw [if_pos c26] at H
                have c26b0 : ((bt a0 0) == 46) = true := beq_iff_eq.mpr c26
                have c26b1 : ((bt a0 0) != 46) = false := bne_eq_false_iff_eq.mpr c26
                clear c26
                by_cases c27 : 0 ≤ 1
                · rw [if_pos c27] at H
                  have c27b0 := eq_true c27
                  have c27b1 : decide (0 ≤ 1) = true := decide_eq_true c27
                  clear c27
                  by_cases c28 : 1 ≤ (a0.size : Int)
                  · rw [if_pos c28] at H
                    have c28b0 := eq_true c28
                    have c28b1 : decide (1 ≤ (a0.size : Int)) = true := decide_eq_true c28
                    clear c28
                    obtain rfl := Option.some.inj H
                    have p16 : 0 ≤ (0 : Int) := (by omega)
                    have q16 : 0 < a0.size := (by have : (0 : Int) < (a0.size : Int) := of_decide_eq_true (by first | (with_reducible assumption) | assumption); omega)
                    have hx16 : ∀ h : 0 < a0.size, ((a0[0]'h).toNat : Int) = bt a0 0 := bt_at a0 0
                    clear p16
                    have qi16 : (0 < (a0.size : Int)) = True := eq_true (of_decide_eq_true (by first | (with_reducible assumption) | assumption))
                    replace q16 := eq_true q16
                    go_wp2
                    go_ret
                    exact ⟨by first | rfl | (simp; done) | (simp [*]; done), by repeat (first | exact Drawn0.refl _ | apply Drawn0.step)⟩
                  · rw [if_neg c28] at H
                    exact absurd H (by simp)
                · rw [if_neg c27] at H
                  exact absurd H (by simp)
              · rw [if_neg c26] at H
                have c26b0 : ((bt a0 0) == 46) = false := beq_eq_false_iff_ne.mpr c26
                have c26b1 : ((bt a0 0) != 46) = true := bne_iff_ne.mpr c26
                by_cases c29 : (bt a0 0) = 33
                · rw [if_pos c29] at H
                  have c29b0 : ((bt a0 0) == 33) = true := beq_iff_eq.mpr c29
                  have c29b1 : ((bt a0 0) != 33) = false := bne_eq_false_iff_eq.mpr c29
                  clear c29
                  by_cases c30 : 0 ≤ 1
                  · rw [if_pos c30] at H
                    have c30b0 := eq_true c30
                    have c30b1 : decide (0 ≤ 1) = true := decide_eq_true c30
                    clear c30
                    by_cases c31 : 1 ≤ (a0.size : Int)
                    · rw [if_pos c31] at H
                      have c31b0 := eq_true c31
                      have c31b1 : decide (1 ≤ (a0.size : Int)) = true := decide_eq_true c31
                      clear c31
                      obtain rfl := Option.some.inj H
                      have p16 : 0 ≤ (0 : Int) := (by omega)
                      have q16 : 0 < a0.size := (by have : (0 : Int) < (a0.size : Int) := of_decide_eq_true (by first | (with_reducible assumption) | assumption); omega)
                      have hx16 : ∀ h : 0 < a0.size, ((a0[0]'h).toNat : Int) = bt a0 0 := bt_at a0 0
                      clear p16
                      have qi16 : (0 < (a0.size : Int)) = True := eq_true (of_decide_eq_true (by first | (with_reducible assumption) | assumption))
                      replace q16 := eq_true q16
                      go_wp2
                      go_ret
                      exact ⟨by first | rfl | (simp; done) | (simp [*]; done), by repeat (first | exact Drawn0.refl _ | apply Drawn0.step)⟩
                    · rw [if_neg c31] at H
                      exact absurd H (by simp)
                  · rw [if_neg c30] at H
                    exact absurd H (by simp)
                · rw [if_neg c29] at H
                  have c29b0 : ((bt a0 0) == 33) = false := beq_eq_false_iff_ne.mpr c29
                  have c29b1 : ((bt a0 0) != 33) = true := bne_iff_ne.mpr c29
                  by_cases c32 : (bt a0 0) = 61
                  · rw [if_pos c32] at H
                    have c32b0 : ((bt a0 0) == 61) = true := beq_iff_eq.mpr c32
                    have c32b1 : ((bt a0 0) != 61) = false := bne_eq_false_iff_eq.mpr c32
                    clear c32
                    by_cases c33 : 0 ≤ 1
                    · rw [if_pos c33] at H
                      have c33b0 := eq_true c33
                      have c33b1 : decide (0 ≤ 1) = true := decide_eq_true c33
                      clear c33
                      by_cases c34 : 1 ≤ (a0.size : Int)
                      · rw [if_pos c34] at H
                        have c34b0 := eq_true c34
                        have c34b1 : decide (1 ≤ (a0.size : Int)) = true := decide_eq_true c34
                        clear c34
                        obtain rfl := Option.some.inj H
                        have p16 : 0 ≤ (0 : Int) := (by omega)
                        have q16 : 0 < a0.size := (by have : (0 : Int) < (a0.size : Int) := of_decide_eq_true (by first | (with_reducible assumption) | assumption); omega)
                        have hx16 : ∀ h : 0 < a0.size, ((a0[0]'h).toNat : Int) = bt a0 0 := bt_at a0 0
                        clear p16
                        have qi16 : (0 < (a0.size : Int)) = True := eq_true (of_decide_eq_true (by first | (with_reducible assumption) | assumption))
                        replace q16 := eq_true q16
                        go_wp2
                        go_ret
                        exact ⟨by first | rfl | (simp; done) | (simp [*]; done), by repeat (first | exact Drawn0.refl _ | apply Drawn0.step)⟩
                      · rw [if_neg c34] at H
                        exact absurd H (by simp)
                    · rw [if_neg c33] at H
                      exact absurd H (by simp)
                  · rw [if_neg c32] at H
                    have c32b0 : ((bt a0 0) == 61) = false := beq_eq_false_iff_ne.mpr c32
                    have c32b1 : ((bt a0 0) != 61) = true := bne_iff_ne.mpr c32
                    by_cases c35 : (bt a0 0) = 60
                    · rw [if_pos c35] at H
                      have c35b0 : ((bt a0 0) == 60) = true := beq_iff_eq.mpr c35
                      have c35b1 : ((bt a0 0) != 60) = false := bne_eq_false_iff_eq.mpr c35
                      clear c35
                      by_cases c36 : 0 ≤ 1
                      · rw [if_pos c36] at H
                        have c36b0 := eq_true c36
                        have c36b1 : decide (0 ≤ 1) = true := decide_eq_true c36
                        clear c36
                        by_cases c37 : 1 ≤ (a0.size : Int)
                        · rw [if_pos c37] at H
                          have c37b0 := eq_true c37
                          have c37b1 : decide (1 ≤ (a0.size : Int)) = true := decide_eq_true c37
                          clear c37
                          obtain rfl := Option.some.inj H
                          have p16 : 0 ≤ (0 : Int) := (by omega)
                          have q16 : 0 < a0.size := (by have : (0 : Int) < (a0.size : Int) := of_decide_eq_true (by first | (with_reducible assumption) | assumption); omega)
                          have hx16 : ∀ h : 0 < a0.size, ((a0[0]'h).toNat : Int) = bt a0 0 := bt_at a0 0
                          clear p16
                          have qi16 : (0 < (a0.size : Int)) = True := eq_true (of_decide_eq_true (by first | (with_reducible assumption) | assumption))
                          replace q16 := eq_true q16
                          go_wp2
                          go_ret
                          exact ⟨by first | rfl | (simp; done) | (simp [*]; done), by repeat (first | exact Drawn0.refl _ | apply Drawn0.step)⟩
                        · rw [if_neg c37] at H
                          exact absurd H (by simp)
                      · rw [if_neg c36] at H
                        exact absurd H (by simp)
                    · rw [if_neg c35] at H
                      have c35b0 : ((bt a0 0) == 60) = false := beq_eq_false_iff_ne.mpr c35
                      have c35b1 : ((bt a0 0) != 60) = true := bne_iff_ne.mpr c35
                      by_cases c38 : (bt a0 0) = 43
                      · rw [if_pos c38] at H
                        have c38b0 : ((bt a0 0) == 43) = true := beq_iff_eq.mpr c38
                        have c38b1 : ((bt a0 0) != 43) = false := bne_eq_false_iff_eq.mpr c38
                        clear c38
                        by_cases c39 : 0 ≤ 1
                        · rw [if_pos c39] at H
                          have c39b0 := eq_true c39
                          have c39b1 : decide (0 ≤ 1) = true := decide_eq_true c39
                          clear c39
                          by_cases c40 : 1 ≤ (a0.size : Int)
                          · rw [if_pos c40] at H
                            have c40b0 := eq_true c40
                            have c40b1 : decide (1 ≤ (a0.size : Int)) = true := decide_eq_true c40
                            clear c40
                            obtain rfl := Option.some.inj H
                            have p16 : 0 ≤ (0 : Int) := (by omega)
                            have q16 : 0 < a0.size := (by have : (0 : Int) < (a0.size : Int) := of_decide_eq_true (by first | (with_reducible assumption) | assumption); omega)
                            have hx16 : ∀ h : 0 < a0.size, ((a0[0]'h).toNat : Int) = bt a0 0 := bt_at a0 0
                            clear p16
                            have qi16 : (0 < (a0.size : Int)) = True := eq_true (of_decide_eq_true (by first | (with_reducible assumption) | assumption))
                            replace q16 := eq_true q16
                            go_wp2
                            go_ret
                            exact ⟨by first | rfl | (simp; done) | (simp [*]; done), by repeat (first | exact Drawn0.refl _ | apply Drawn0.step)⟩
                          · rw [if_neg c40] at H
                            exact absurd H (by simp)
                        · rw [if_neg c39] at H
                          exact absurd H (by simp)
                      · rw [if_neg c38] at H
                        have c38b0 : ((bt a0 0) == 43) = false := beq_eq_false_iff_ne.mpr c38
                        have c38b1 : ((bt a0 0) != 43) = true := bne_iff_ne.mpr c38
                        by_cases c41 : (bt a0 0) = 45
                        · rw [if_pos c41] at H
                          have c41b0 : ((bt a0 0) == 45) = true := beq_iff_eq.mpr c41
                          have c41b1 : ((bt a0 0) != 45) = false := bne_eq_false_iff_eq.mpr c41
                          clear c41
                          by_cases c42 : 0 ≤ 1
                          · rw [if_pos c42] at H
                            have c42b0 := eq_true c42
                            have c42b1 : decide (0 ≤ 1) = true := decide_eq_true c42
                            clear c42
                            by_cases c43 : 1 ≤ (a0.size : Int)
                            · rw [if_pos c43] at H
                              have c43b0 := eq_true c43
                              have c43b1 : decide (1 ≤ (a0.size : Int)) = true := decide_eq_true c43
                              clear c43
                              obtain rfl := Option.some.inj H
                              have p16 : 0 ≤ (0 : Int) := (by omega)
                              have q16 : 0 < a0.size := (by have : (0 : Int) < (a0.size : Int) := of_decide_eq_true (by first | (with_reducible assumption) | assumption); omega)
                              have hx16 : ∀ h : 0 < a0.size, ((a0[0]'h).toNat : Int) = bt a0 0 := bt_at a0 0
                              clear p16
                              have qi16 : (0 < (a0.size : Int)) = True := eq_true (of_decide_eq_true (by first | (with_reducible assumption) | assumption))
                              replace q16 := eq_true q16
                              go_wp2
                              go_ret
                              exact ⟨by first | rfl | (simp; done) | (simp [*]; done), by repeat (first | exact Drawn0.refl _ | apply Drawn0.step)⟩
                            · rw [if_neg c43] at H
                              exact absurd H (by simp)
                          · rw [if_neg c42] at H
                            exact absurd H (by simp)
                        · rw [if_neg c41] at H
                          have c41b0 : ((bt a0 0) == 45) = false := beq_eq_false_iff_ne.mpr c41
                          have c41b1 : ((bt a0 0) != 45) = true := bne_iff_ne.mpr c41
                          by_cases c44 : (bt a0 0) = 42
                          · rw [if_pos c44] at H
                            have c44b0 : ((bt a0 0) == 42) = true := beq_iff_eq.mpr c44
                            have c44b1 : ((bt a0 0) != 42) = false := bne_eq_false_iff_eq.mpr c44
                            clear c44
                            by_cases c45 : 0 ≤ 1
                            · rw [if_pos c45] at H
                              have c45b0 := eq_true c45
                              have c45b1 : decide (0 ≤ 1) = true := decide_eq_true c45
                              clear c45
                              by_cases c46 : 1 ≤ (a0.size : Int)
                              · rw [if_pos c46] at H
                                have c46b0 := eq_true c46
                                have c46b1 : decide (1 ≤ (a0.size : Int)) = true := decide_eq_true c46
                                clear c46
                                obtain rfl := Option.some.inj H
                                have p16 : 0 ≤ (0 : Int) := (by omega)
                                have q16 : 0 < a0.size := (by have : (0 : Int) < (a0.size : Int) := of_decide_eq_true (by first | (with_reducible assumption) | assumption); omega)
                                have hx16 : ∀ h : 0 < a0.size, ((a0[0]'h).toNat : Int) = bt a0 0 := bt_at a0 0
                                clear p16
                                have qi16 : (0 < (a0.size : Int)) = True := eq_true (of_decide_eq_true (by first | (with_reducible assumption) | assumption))
                                replace q16 := eq_true q16
                                go_wp2
                                go_ret
                                exact ⟨by first | rfl | (simp; done) | (simp [*]; done), by repeat (first | exact Drawn0.refl _ | apply Drawn0.step)⟩
                              · rw [if_neg c46] at H
                                exact absurd H (by simp)
                            · rw [if_neg c45] at H
                              exact absurd H (by simp)
                          · rw [if_neg c44] at H
                            have c44b0 : ((bt a0 0) == 42) = false := beq_eq_false_iff_ne.mpr c44
                            have c44b1 : ((bt a0 0) != 42) = true := bne_iff_ne.mpr c44
                            by_cases c47 : (bt a0 0) = 124
                            · rw [if_pos c47] at H
                              have c47b0 : ((bt a0 0) == 124) = true := beq_iff_eq.mpr c47
                              have c47b1 : ((bt a0 0) != 124) = false := bne_eq_false_iff_eq.mpr c47
                              clear c47
                              by_cases c48 : 0 ≤ 1
                              · rw [if_pos c48] at H
                                have c48b0 := eq_true c48
                                have c48b1 : decide (0 ≤ 1) = true := decide_eq_true c48
                                clear c48
                                by_cases c49 : 1 ≤ (a0.size : Int)
                                · rw [if_pos c49] at H
                                  have c49b0 := eq_true c49
                                  have c49b1 : decide (1 ≤ (a0.size : Int)) = true := decide_eq_true c49
                                  clear c49
                                  obtain rfl := Option.some.inj H
                                  have p16 : 0 ≤ (0 : Int) := (by omega)
                                  have q16 : 0 < a0.size := (by have : (0 : Int) < (a0.size : Int) := of_decide_eq_true (by first | (with_reducible assumption) | assumption); omega)
                                  have hx16 : ∀ h : 0 < a0.size, ((a0[0]'h).toNat : Int) = bt a0 0 := bt_at a0 0
                                  clear p16
                                  have qi16 : (0 < (a0.size : Int)) = True := eq_true (of_decide_eq_true (by first | (with_reducible assumption) | assumption))
                                  replace q16 := eq_true q16
                                  go_wp2
                                  go_ret
                                  exact ⟨by first | rfl | (simp; done) | (simp [*]; done), by repeat (first | exact Drawn0.refl _ | apply Drawn0.step)⟩
                                · rw [if_neg c49] at H
                                  exact absurd H (by simp)
                              · rw [if_neg c48] at H
                                exact absurd H (by simp)
                            · rw [if_neg c47] at H
                              have c47b0 : ((bt a0 0) == 124) = false := beq_eq_false_iff_ne.mpr c47
                              have c47b1 : ((bt a0 0) != 124) = true := bne_iff_ne.mpr c47
                              by_cases c50 : (bt a0 0) = 95
                              · rw [if_pos c50] at H
                                have c50b0 : ((bt a0 0) == 95) = true := beq_iff_eq.mpr c50
                                have c50b1 : ((bt a0 0) != 95) = false := bne_eq_false_iff_eq.mpr c50
                                clear c50
                                by_cases c51 : 0 ≤ 1
                                · rw [if_pos c51] at H
                                  have c51b0 := eq_true c51
                                  have c51b1 : decide (0 ≤ 1) = true := decide_eq_true c51
                                  clear c51
                                  by_cases c52 : 1 ≤ (a0.size : Int)
                                  · rw [if_pos c52] at H
                                    have c52b0 := eq_true c52
                                    have c52b1 : decide (1 ≤ (a0.size : Int)) = true := decide_eq_true c52
                                    clear c52
                                    obtain rfl := Option.some.inj H
                                    have p16 : 0 ≤ (0 : Int) := (by omega)
                                    have q16 : 0 < a0.size := (by have : (0 : Int) < (a0.size : Int) := of_decide_eq_true (by first | (with_reducible assumption) | assumption); omega)
                                    have hx16 : ∀ h : 0 < a0.size, ((a0[0]'h).toNat : Int) = bt a0 0 := bt_at a0 0
                                    clear p16
                                    have qi16 : (0 < (a0.size : Int)) = True := eq_true (of_decide_eq_true (by first | (with_reducible assumption) | assumption))
                                    replace q16 := eq_true q16
                                    go_wp2
                                    go_ret
                                    exact ⟨by first | rfl | (simp; done) | (simp [*]; done), by repeat (first | exact Drawn0.refl _ | apply Drawn0.step)⟩
                                  · rw [if_neg c52] at H
                                    exact absurd H (by simp)
                                · rw [if_neg c51] at H
                                  exact absurd H (by simp)
                              · rw [if_neg c50] at H
                                have c50b0 : ((bt a0 0) == 95) = false := beq_eq_false_iff_ne.mpr c50
                                have c50b1 : ((bt a0 0) != 95) = true := bne_iff_ne.mpr c50
                                obtain rfl := Option.some.inj H
                                have p16 : 0 ≤ (0 : Int) := (by omega)
                                have q16 : 0 < a0.size := (by have : (0 : Int) < (a0.size : Int) := of_decide_eq_true (by first | (with_reducible assumption) | assumption); omega)
                                have hx16 : ∀ h : 0 < a0.size, ((a0[0]'h).toNat : Int) = bt a0 0 := bt_at a0 0
                                clear p16
                                have qi16 : (0 < (a0.size : Int)) = True := eq_true (of_decide_eq_true (by first | (with_reducible assumption) | assumption))
                                replace q16 := eq_true q16
                                go_wp2
                                go_ret
                                exact ⟨by first | rfl | (simp; done) | (simp [*]; done), by repeat (first | exact Drawn0.refl _ | apply Drawn0.step)⟩
      · rw [if_neg c15] at H
        exact absurd H (by simp)
end Go.Proofs.YtebadckdihgklaaDoor.Pb
end
