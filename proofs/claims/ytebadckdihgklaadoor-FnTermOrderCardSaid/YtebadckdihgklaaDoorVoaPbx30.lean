-- Cut by prune.py, a program of this session, out of the texts of this claim: Lean checks it.
import Derived.Test.YtebadckdihgklaaDoorVoaPbx0
import Derived.Test.YtebadckdihgklaaDoorVoaPbx27
import Derived.Test.YtebadckdihgklaaDoorVoaPbx7
section
namespace Go.Proofs.YtebadckdihgklaaDoor.Pb
open Go.RowKit Go.Proofs.YtebadckdihgklaaDoorW.PrintWords Go.Proofs.YtebadckdihgklaaDoorW.PrintLast Go.Proofs.YtebadckdihgklaaDoorW.PrintMore
attribute [local go_sem] max2_int min2_int max_two min_two max_three min_three max_four min_four   -- for this text's walks alone
set_option linter.unusedVariables false
set_option linter.unusedSimpArgs false
mutual
def z5_.j0 : Nat → ByteArray → List Int → Int → Int → Option (ByteArray × Int × Int)
 | 0,_,_,_,_ => none
 | k + 1,x3,x1000,x1001,x1002 => (spec_l01Cur_once.f x1000 x1001 x1002 5).bind fun bt655 => (if bt655.1 = true then ((z6_.f x1000 bt655.2.1 bt655.2.2 3).bind fun bt658 => (if bt658.1 = 0 then ((some (([(⟨#[]⟩ : ByteArray),(⟨#[48,49]⟩ : ByteArray),(⟨#[45,48]⟩ : ByteArray),(⟨#[49,48,48,48,48,48,49]⟩ : ByteArray),(⟨#[120]⟩ : ByteArray),(⟨#[78,105,108,40,41]⟩ : ByteArray),(⟨#[78,105,108,40]⟩ : ByteArray),(⟨#[67,111,110,115,40,49,44,41]⟩ : ByteArray),(⟨#[67,111,110,115,40,49]⟩ : ByteArray),(⟨#[34,97]⟩ : ByteArray),(⟨#[97,34]⟩ : ByteArray),(⟨#[34,97,34,98,34]⟩ : ByteArray),(⟨#[34,92,34]⟩ : ByteArray),(⟨#[83,32,40,49,41]⟩ : ByteArray),(⟨#[83,40,49,41,41]⟩ : ByteArray),(⟨#[83,40,120,41]⟩ : ByteArray),(⟨#[65,98,99,100,101,102,103,104,105,106,107,108,109,110,111,112,113,114,115,116,117]⟩ : ByteArray),(⟨#[34,97,98,99,100,101,102,103,104,105,106,107,108,109,110,111,112,113,114,115,116,117,34]⟩ : ByteArray),(⟨#[45]⟩ : ByteArray),(⟨#[45,45,49]⟩ : ByteArray),(⟨#[65,95,49,40,34,41,44,40,34,41]⟩ : ByteArray),(⟨#[43,49]⟩ : ByteArray)] : List ByteArray) : List ByteArray)).bind fun y661 => ((z6_.f x1000 bt658.2.1 bt658.2.2 22).bind fun bt664 => (if 0 ≤ bt664.1 then (if bt664.1 < (y661.length : Int) then (some (rdOf ByteArray.empty y661 bt664.1,bt664.2.1,bt664.2.2)) else (none)) else (none)))) else (if bt658.1 = 1 then ((z6_.f x1000 bt658.2.1 bt658.2.2 (wrap64 ((x3.size : Int) + 1))).bind fun bt668 => (if 0 ≤ bt668.1 then (if bt668.1 ≤ (x3.size : Int) then ((some (([(⟨#[40]⟩ : ByteArray),(⟨#[41]⟩ : ByteArray),(⟨#[44]⟩ : ByteArray),(⟨#[34]⟩ : ByteArray),(⟨#[49]⟩ : ByteArray),(⟨#[32]⟩ : ByteArray)] : List ByteArray) : List ByteArray)).bind fun y671 => ((z6_.f x1000 bt668.2.1 bt668.2.2 6).bind fun bt674 => (if 0 ≤ bt674.1 then (if bt674.1 < (y671.length : Int) then (if (x3.extract 0 (bt668.1 : Int).toNat).size + (rdOf ByteArray.empty y671 bt674.1).size ≤ 9223372036854775807 then (if ((x3.extract 0 (bt668.1 : Int).toNat) ++ (rdOf ByteArray.empty y671 bt674.1)).size + (x3.extract (bt668.1 : Int).toNat x3.size).size ≤ 9223372036854775807 then (some (((x3.extract 0 (bt668.1 : Int).toNat) ++ (rdOf ByteArray.empty y671 bt674.1)) ++ (x3.extract (bt668.1 : Int).toNat x3.size),bt674.2.1,bt674.2.2)) else (none)) else (none)) else (none)) else (none)))) else (none)) else (none))) else (z5_.l0 k x3 x1000 bt658.2.1 bt658.2.2)))) else (some (x3,bt655.2.1,bt655.2.2)))
def z5_.l0 : Nat → ByteArray → List Int → Int → Int → Option (ByteArray × Int × Int)
 | 0,_,_,_,_ => none
 | k + 1,x3,x1000,x1001,x1002 => if (x3.size : Int) ≤ 200 then (if 2 + x3.size ≤ 9223372036854775807 then (if ((⟨#[83,40]⟩ : ByteArray) ++ x3).size + 1 ≤ 9223372036854775807 then (z5_.l0 k (((⟨#[83,40]⟩ : ByteArray) ++ x3) ++ (⟨#[41]⟩ : ByteArray)) x1000 x1001 x1002) else (none)) else (none)) else (some (x3,x1001,x1002))
end
def z5_.f (k : Nat) (s0_0 : List Int) (s0_1 : Int) (s0_2 : Int) : Option (ByteArray × Int × Int) := (z7_.f k s0_0 s0_1 s0_2 2).bind fun bt652 => (if (bt652.1.size : Int) > 200 then (z5_.j0 k (⟨#[78,105,108]⟩ : ByteArray) s0_0 bt652.2.1 bt652.2.2) else (z5_.j0 k bt652.1 s0_0 bt652.2.1 bt652.2.2))
def z5_.T10 : Bool × List (List Nat × List Nat) := (true,[([],[]),([],[]),([0,1],[0,1]),([],[]),([],[]),([4],[4]),([3,5],[3,5]),([6],[6]),([2,7],[2,7]),([],[]),([],[]),([9,10],[9,10]),([8,11],[8,11]),([12,5,0,1,2,3,4,5,6,7,8,9,10,11,12],[12])])
def z5_.B10 : List Nat := [0,0,3,0,0,16,56,120,255,0,0,1536,4095,8191]
theorem z5_.tab10 : rtab .any (opsOf Tryd.f93 10) = z5_.T10 := by kernel_rfl
theorem z5_.bits10 : waitsOk z5_.T10.2 z5_.B10 = true := by kernel_rfl
set_option maxHeartbeats 8000000 in
set_option maxRecDepth 100000 in
theorem z5_.calls (k : Nat) (g : Nat) (s0_0 : List Int) (s0_1 : Int) (s0_2 : Int) (r1 : ByteArray) (r2 : Int) (r3 : Int) (w0 w : World) (hI : y2 w0 w g s0_0 s0_1 s0_2) (hB : Below w0.heap.size w0 w) (h : z5_.f k s0_0 s0_1 s0_2 = some (r1,r2,r3)) :
  Calls Tryd.prog 93 #[.pointer (some ⟨g,0,none⟩)] w fun e w' => e = .returned (.string r1) ∧ y2 w0 w' g s0_0 r2 r3 ∧ Below w0.heap.size w0 w' ∧ y3 w w' g none := by
 have HI0 := y0.mk hI
 have HK := y0.mk (y3.refl w g none)
 have HL := y0.mk hB.size
 clear hI
 have HW0 := y0.mk hB.size
 have HB := y0.mk hB
 clear hB
 have H : ((z7_.f k s0_0 s0_1 s0_2 2).bind fun bt652 => (if (bt652.1.size : Int) > 200 then (z5_.j0 k (⟨#[78,105,108]⟩ : ByteArray) s0_0 bt652.2.1 bt652.2.2) else (z5_.j0 k bt652.1 s0_0 bt652.2.1 bt652.2.2))) = some (r1,r2,r3) := h
 clear h
 replace H := Option.bind_eq_some_iff.mp H
 obtain ⟨⟨t652,t653,t654⟩,A20,H⟩ := H
 replace H : (if (t652.size : Int) > 200 then (z5_.j0 k (⟨#[78,105,108]⟩ : ByteArray) s0_0 t653 t654) else (z5_.j0 k t652 s0_0 t653 t654)) = some (r1,r2,r3) := H
 have A2 := y0.mk A20
 clear A20
 have HC3 := y0.mk H
 clear H
 go_enter Tryd.func93,Tryd.ntmps93
 go_upto_if 9 with (first | ((with_reducible refine y11 (f := 117) rfl ?_); refine y12 (some 6) rfl rfl Tryd.func117 (by kernel_rfl) rfl #[.pointer (some ⟨g,0,none⟩),.int .i64 2] rfl (by (try simp only [qM_,List.map_cons,List.map_nil]); first | done | rfl | (simp only [qD_,qT_]; rfl)) ?_; (with_reducible refine (z7_.calls k g s0_0 s0_1 s0_2 2 t652 t653 t654 w0 _ ?side1 ?side2 A2.out).mono ?_); (case side1 => repeat (first | (with_reducible first | exact HI0.out | apply y2.alloc | apply y2.drewN | apply y2.drew | apply y2.set_1 | apply y2.set_2) | exact HI0.out)); (case side2 => repeat (first | (with_reducible first | exact HB.out | apply y5 | apply y18 | apply y6 | refine y7 ?_ (y2.ge HI0.out)) | exact HB.out)); rintro e w4 ⟨rfl,hi,hb,hk⟩; refine ⟨_,rfl, ?_⟩; have n0_ := y0.mk (y3.trans (by repeat (first | (with_reducible first | exact HK.out | apply y3.set_ | apply y17 | apply y16 | apply y15) | exact HK.out)) hk (.inl rfl)); have n1_ := y0.mk (hb); have n2_ := y0.mk (hi); clear HK; clear HB; clear HI0; have HK := n0_; have HB := n1_; have HI0 := n2_; clear n0_ n1_ n2_; (try clear hb); (try clear hb2); (try clear hk); (try clear hi)))
 (try simp only [Act.put,qS_,qZ_,qC_])
 go_cut [3] (fun v3 wc => ∃ (kq : Nat) (x3_2 : ByteArray),v3 = .string x3_2 ∧ y0 (z5_.j0 kq x3_2 s0_0 t653 t654 = some (r1,r2,r3)) ∧ y0 (kq ≤ k) ∧ y0 (y2 w0 wc g s0_0 t653 t654) ∧ y0 (y3 w wc g none) ∧ y0 (Below w0.heap.size w0 wc))
 case first =>
  have H := HC3.out
  clear HC3
  by_cases c5 : (t652.size : Int) > 200
  ·rw [if_pos c5] at H
   have c5b0 : decide (200 < (t652.size : Int)) = true := decide_eq_true c5
   have c5b1 : decide (200 < t652.size) = true := decide_eq_true (by omega)
   clear c5
   (first | rw [c5b0] | (simp only [y14,y13]; rw [c5b0]) | skip)
   have H' := y0.mk H
   clear H
   go_wp2
   go_meet
   case rel => exact ⟨_,((⟨#[78,105,108]⟩ : ByteArray)),(by first | rfl | (simp; done) | (simp [*]; done)),H',⟨by first | omega | exact Nat.le_refl _⟩,⟨by repeat (first | (with_reducible first | exact HI0.out | apply y2.alloc | apply y2.drewN | apply y2.drew | apply y2.set_1 | apply y2.set_2) | exact HI0.out)⟩,⟨by repeat (first | (with_reducible first | exact HK.out | apply y3.set_ | apply y17 | apply y16 | apply y15) | exact HK.out)⟩,⟨by repeat (first | (with_reducible first | exact HB.out | apply y5 | apply y18 | apply y6 | refine y7 ?_ (y2.ge HI0.out)) | exact HB.out)⟩⟩
  ·rw [if_neg c5] at H
   have c5b0 : decide (200 < (t652.size : Int)) = false := decide_eq_false c5
   have c5b1 : decide (200 < t652.size) = false := decide_eq_false (by omega)
   clear c5
   (first | rw [c5b0] | (simp only [y14,y13]; rw [c5b0]) | skip)
   have H' := y0.mk H
   clear H
   go_wp2
   go_meet
   case rel => exact ⟨_,(t652),(by first | rfl | (simp; done) | (simp [*]; done)),H',⟨by first | omega | exact Nat.le_refl _⟩,⟨by repeat (first | (with_reducible first | exact HI0.out | apply y2.alloc | apply y2.drewN | apply y2.drew | apply y2.set_1 | apply y2.set_2) | exact HI0.out)⟩,⟨by repeat (first | (with_reducible first | exact HK.out | apply y3.set_ | apply y17 | apply y16 | apply y15) | exact HK.out)⟩,⟨by repeat (first | (with_reducible first | exact HB.out | apply y5 | apply y18 | apply y6 | refine y7 ?_ (y2.ge HI0.out)) | exact HB.out)⟩⟩
 case rest =>
  clear HC3
  try clear c1
  try clear p2
  try clear c5
  try clear c5b0
  try clear c5b1
  obtain ⟨kq,x3_2,rfl,HA,HJ2,HI0,HK,HB⟩ := hcut
  cases kq with
  | zero => exact absurd HA.out (by simp [z5_.j0])
  | succ kj2 =>
   have H := HA.out
   clear HA
   simp only [z5_.j0] at H
   replace H := Option.bind_eq_some_iff.mp H
   obtain ⟨⟨t655,t656,t657⟩,A60,H⟩ := H
   replace H : (if t655 = true then ((z6_.f s0_0 t656 t657 3).bind fun bt658 => (if bt658.1 = 0 then ((some (([(⟨#[]⟩ : ByteArray),(⟨#[48,49]⟩ : ByteArray),(⟨#[45,48]⟩ : ByteArray),(⟨#[49,48,48,48,48,48,49]⟩ : ByteArray),(⟨#[120]⟩ : ByteArray),(⟨#[78,105,108,40,41]⟩ : ByteArray),(⟨#[78,105,108,40]⟩ : ByteArray),(⟨#[67,111,110,115,40,49,44,41]⟩ : ByteArray),(⟨#[67,111,110,115,40,49]⟩ : ByteArray),(⟨#[34,97]⟩ : ByteArray),(⟨#[97,34]⟩ : ByteArray),(⟨#[34,97,34,98,34]⟩ : ByteArray),(⟨#[34,92,34]⟩ : ByteArray),(⟨#[83,32,40,49,41]⟩ : ByteArray),(⟨#[83,40,49,41,41]⟩ : ByteArray),(⟨#[83,40,120,41]⟩ : ByteArray),(⟨#[65,98,99,100,101,102,103,104,105,106,107,108,109,110,111,112,113,114,115,116,117]⟩ : ByteArray),(⟨#[34,97,98,99,100,101,102,103,104,105,106,107,108,109,110,111,112,113,114,115,116,117,34]⟩ : ByteArray),(⟨#[45]⟩ : ByteArray),(⟨#[45,45,49]⟩ : ByteArray),(⟨#[65,95,49,40,34,41,44,40,34,41]⟩ : ByteArray),(⟨#[43,49]⟩ : ByteArray)] : List ByteArray) : List ByteArray)).bind fun y661 => ((z6_.f s0_0 bt658.2.1 bt658.2.2 22).bind fun bt664 => (if 0 ≤ bt664.1 then (if bt664.1 < (y661.length : Int) then (some (rdOf ByteArray.empty y661 bt664.1,bt664.2.1,bt664.2.2)) else (none)) else (none)))) else (if bt658.1 = 1 then ((z6_.f s0_0 bt658.2.1 bt658.2.2 (wrap64 ((x3_2.size : Int) + 1))).bind fun bt668 => (if 0 ≤ bt668.1 then (if bt668.1 ≤ (x3_2.size : Int) then ((some (([(⟨#[40]⟩ : ByteArray),(⟨#[41]⟩ : ByteArray),(⟨#[44]⟩ : ByteArray),(⟨#[34]⟩ : ByteArray),(⟨#[49]⟩ : ByteArray),(⟨#[32]⟩ : ByteArray)] : List ByteArray) : List ByteArray)).bind fun y671 => ((z6_.f s0_0 bt668.2.1 bt668.2.2 6).bind fun bt674 => (if 0 ≤ bt674.1 then (if bt674.1 < (y671.length : Int) then (if (x3_2.extract 0 (bt668.1 : Int).toNat).size + (rdOf ByteArray.empty y671 bt674.1).size ≤ 9223372036854775807 then (if ((x3_2.extract 0 (bt668.1 : Int).toNat) ++ (rdOf ByteArray.empty y671 bt674.1)).size + (x3_2.extract (bt668.1 : Int).toNat x3_2.size).size ≤ 9223372036854775807 then (some (((x3_2.extract 0 (bt668.1 : Int).toNat) ++ (rdOf ByteArray.empty y671 bt674.1)) ++ (x3_2.extract (bt668.1 : Int).toNat x3_2.size),bt674.2.1,bt674.2.2)) else (none)) else (none)) else (none)) else (none)))) else (none)) else (none))) else (z5_.l0 kj2 x3_2 s0_0 bt658.2.1 bt658.2.2)))) else (some (x3_2,t656,t657))) = some (r1,r2,r3) := H
   have A6 := y0.mk A60
   clear A60
   by_cases c7 : t655 = true
   ·subst c7
    have H1 : ((z6_.f s0_0 t656 t657 3).bind fun bt658 => (if bt658.1 = 0 then ((some (([(⟨#[]⟩ : ByteArray),(⟨#[48,49]⟩ : ByteArray),(⟨#[45,48]⟩ : ByteArray),(⟨#[49,48,48,48,48,48,49]⟩ : ByteArray),(⟨#[120]⟩ : ByteArray),(⟨#[78,105,108,40,41]⟩ : ByteArray),(⟨#[78,105,108,40]⟩ : ByteArray),(⟨#[67,111,110,115,40,49,44,41]⟩ : ByteArray),(⟨#[67,111,110,115,40,49]⟩ : ByteArray),(⟨#[34,97]⟩ : ByteArray),(⟨#[97,34]⟩ : ByteArray),(⟨#[34,97,34,98,34]⟩ : ByteArray),(⟨#[34,92,34]⟩ : ByteArray),(⟨#[83,32,40,49,41]⟩ : ByteArray),(⟨#[83,40,49,41,41]⟩ : ByteArray),(⟨#[83,40,120,41]⟩ : ByteArray),(⟨#[65,98,99,100,101,102,103,104,105,106,107,108,109,110,111,112,113,114,115,116,117]⟩ : ByteArray),(⟨#[34,97,98,99,100,101,102,103,104,105,106,107,108,109,110,111,112,113,114,115,116,117,34]⟩ : ByteArray),(⟨#[45]⟩ : ByteArray),(⟨#[45,45,49]⟩ : ByteArray),(⟨#[65,95,49,40,34,41,44,40,34,41]⟩ : ByteArray),(⟨#[43,49]⟩ : ByteArray)] : List ByteArray) : List ByteArray)).bind fun y661 => ((z6_.f s0_0 bt658.2.1 bt658.2.2 22).bind fun bt664 => (if 0 ≤ bt664.1 then (if bt664.1 < (y661.length : Int) then (some (rdOf ByteArray.empty y661 bt664.1,bt664.2.1,bt664.2.2)) else (none)) else (none)))) else (if bt658.1 = 1 then ((z6_.f s0_0 bt658.2.1 bt658.2.2 (wrap64 ((x3_2.size : Int) + 1))).bind fun bt668 => (if 0 ≤ bt668.1 then (if bt668.1 ≤ (x3_2.size : Int) then ((some (([(⟨#[40]⟩ : ByteArray),(⟨#[41]⟩ : ByteArray),(⟨#[44]⟩ : ByteArray),(⟨#[34]⟩ : ByteArray),(⟨#[49]⟩ : ByteArray),(⟨#[32]⟩ : ByteArray)] : List ByteArray) : List ByteArray)).bind fun y671 => ((z6_.f s0_0 bt668.2.1 bt668.2.2 6).bind fun bt674 => (if 0 ≤ bt674.1 then (if bt674.1 < (y671.length : Int) then (if (x3_2.extract 0 (bt668.1 : Int).toNat).size + (rdOf ByteArray.empty y671 bt674.1).size ≤ 9223372036854775807 then (if ((x3_2.extract 0 (bt668.1 : Int).toNat) ++ (rdOf ByteArray.empty y671 bt674.1)).size + (x3_2.extract (bt668.1 : Int).toNat x3_2.size).size ≤ 9223372036854775807 then (some (((x3_2.extract 0 (bt668.1 : Int).toNat) ++ (rdOf ByteArray.empty y671 bt674.1)) ++ (x3_2.extract (bt668.1 : Int).toNat x3_2.size),bt674.2.1,bt674.2.2)) else (none)) else (none)) else (none)) else (none)))) else (none)) else (none))) else (z5_.l0 kj2 x3_2 s0_0 bt658.2.1 bt658.2.2)))) = some (r1,r2,r3) := by rw [if_pos rfl] at H; exact H
    clear H
    have H := H1
    clear H1
    replace H := Option.bind_eq_some_iff.mp H
    obtain ⟨⟨t658,t659,t660⟩,A80,H⟩ := H
    replace H : (if t658 = 0 then ((some (([(⟨#[]⟩ : ByteArray),(⟨#[48,49]⟩ : ByteArray),(⟨#[45,48]⟩ : ByteArray),(⟨#[49,48,48,48,48,48,49]⟩ : ByteArray),(⟨#[120]⟩ : ByteArray),(⟨#[78,105,108,40,41]⟩ : ByteArray),(⟨#[78,105,108,40]⟩ : ByteArray),(⟨#[67,111,110,115,40,49,44,41]⟩ : ByteArray),(⟨#[67,111,110,115,40,49]⟩ : ByteArray),(⟨#[34,97]⟩ : ByteArray),(⟨#[97,34]⟩ : ByteArray),(⟨#[34,97,34,98,34]⟩ : ByteArray),(⟨#[34,92,34]⟩ : ByteArray),(⟨#[83,32,40,49,41]⟩ : ByteArray),(⟨#[83,40,49,41,41]⟩ : ByteArray),(⟨#[83,40,120,41]⟩ : ByteArray),(⟨#[65,98,99,100,101,102,103,104,105,106,107,108,109,110,111,112,113,114,115,116,117]⟩ : ByteArray),(⟨#[34,97,98,99,100,101,102,103,104,105,106,107,108,109,110,111,112,113,114,115,116,117,34]⟩ : ByteArray),(⟨#[45]⟩ : ByteArray),(⟨#[45,45,49]⟩ : ByteArray),(⟨#[65,95,49,40,34,41,44,40,34,41]⟩ : ByteArray),(⟨#[43,49]⟩ : ByteArray)] : List ByteArray) : List ByteArray)).bind fun y661 => ((z6_.f s0_0 t659 t660 22).bind fun bt664 => (if 0 ≤ bt664.1 then (if bt664.1 < (y661.length : Int) then (some (rdOf ByteArray.empty y661 bt664.1,bt664.2.1,bt664.2.2)) else (none)) else (none)))) else (if t658 = 1 then ((z6_.f s0_0 t659 t660 (wrap64 ((x3_2.size : Int) + 1))).bind fun bt668 => (if 0 ≤ bt668.1 then (if bt668.1 ≤ (x3_2.size : Int) then ((some (([(⟨#[40]⟩ : ByteArray),(⟨#[41]⟩ : ByteArray),(⟨#[44]⟩ : ByteArray),(⟨#[34]⟩ : ByteArray),(⟨#[49]⟩ : ByteArray),(⟨#[32]⟩ : ByteArray)] : List ByteArray) : List ByteArray)).bind fun y671 => ((z6_.f s0_0 bt668.2.1 bt668.2.2 6).bind fun bt674 => (if 0 ≤ bt674.1 then (if bt674.1 < (y671.length : Int) then (if (x3_2.extract 0 (bt668.1 : Int).toNat).size + (rdOf ByteArray.empty y671 bt674.1).size ≤ 9223372036854775807 then (if ((x3_2.extract 0 (bt668.1 : Int).toNat) ++ (rdOf ByteArray.empty y671 bt674.1)).size + (x3_2.extract (bt668.1 : Int).toNat x3_2.size).size ≤ 9223372036854775807 then (some (((x3_2.extract 0 (bt668.1 : Int).toNat) ++ (rdOf ByteArray.empty y671 bt674.1)) ++ (x3_2.extract (bt668.1 : Int).toNat x3_2.size),bt674.2.1,bt674.2.2)) else (none)) else (none)) else (none)) else (none)))) else (none)) else (none))) else (z5_.l0 kj2 x3_2 s0_0 t659 t660))) = some (r1,r2,r3) := H
    have A8 := y0.mk A80
    clear A80
    by_cases c9 : t658 = 0
    ·rw [if_pos c9] at H
     have c9b0 : (t658 == 0) = true := beq_iff_eq.mpr c9
     have c9b1 : (t658 != 0) = false := bne_eq_false_iff_eq.mpr c9
     clear c9
     obtain ⟨y661,hy661⟩ : ∃ y_ : List ByteArray,y_ = (([(⟨#[]⟩ : ByteArray),(⟨#[48,49]⟩ : ByteArray),(⟨#[45,48]⟩ : ByteArray),(⟨#[49,48,48,48,48,48,49]⟩ : ByteArray),(⟨#[120]⟩ : ByteArray),(⟨#[78,105,108,40,41]⟩ : ByteArray),(⟨#[78,105,108,40]⟩ : ByteArray),(⟨#[67,111,110,115,40,49,44,41]⟩ : ByteArray),(⟨#[67,111,110,115,40,49]⟩ : ByteArray),(⟨#[34,97]⟩ : ByteArray),(⟨#[97,34]⟩ : ByteArray),(⟨#[34,97,34,98,34]⟩ : ByteArray),(⟨#[34,92,34]⟩ : ByteArray),(⟨#[83,32,40,49,41]⟩ : ByteArray),(⟨#[83,40,49,41,41]⟩ : ByteArray),(⟨#[83,40,120,41]⟩ : ByteArray),(⟨#[65,98,99,100,101,102,103,104,105,106,107,108,109,110,111,112,113,114,115,116,117]⟩ : ByteArray),(⟨#[34,97,98,99,100,101,102,103,104,105,106,107,108,109,110,111,112,113,114,115,116,117,34]⟩ : ByteArray),(⟨#[45]⟩ : ByteArray),(⟨#[45,45,49]⟩ : ByteArray),(⟨#[65,95,49,40,34,41,44,40,34,41]⟩ : ByteArray),(⟨#[43,49]⟩ : ByteArray)] : List ByteArray)) := ⟨_,rfl⟩
     replace H : ((z6_.f s0_0 t659 t660 22).bind fun bt664 => (if 0 ≤ bt664.1 then (if bt664.1 < (y661.length : Int) then (some (rdOf ByteArray.empty y661 bt664.1,bt664.2.1,bt664.2.2)) else (none)) else (none))) = some (r1,r2,r3) := by first | (rw [hy661]; with_reducible exact H) | (have H2_ := (Option.bind_some _ _).symm.trans H; rw [hy661]; with_reducible exact H2_) | (have H2_ := (Option.bind_some _ _).symm.trans H; with_reducible exact H2_) | with_reducible exact H | (rw [hy661]; exact H) | exact H
     have Ny661 := y0.mk hy661
     clear hy661
     replace H := Option.bind_eq_some_iff.mp H
     obtain ⟨⟨t664,t665,t666⟩,A100,H⟩ := H
     replace H : (if 0 ≤ t664 then (if t664 < (y661.length : Int) then (some (rdOf ByteArray.empty y661 t664,t665,t666)) else (none)) else (none)) = some (r1,r2,r3) := H
     have A10 := y0.mk A100
     clear A100
     by_cases c11 : 0 ≤ t664
     ·rw [if_pos c11] at H
      have c11b0 : decide (0 ≤ t664) = true := decide_eq_true c11
      clear c11
      by_cases c12 : t664 < (y661.length : Int)
      ·rw [if_pos c12] at H
       have c12b0 : decide (t664 < (y661.length : Int)) = true := decide_eq_true c12
       clear c12
       simp only [Option.some.injEq,Prod.mk.injEq] at H
       obtain ⟨rfl,rfl,rfl⟩ := H
       go_wp2_with (first | ((with_reducible refine y11 (f := 118) rfl ?_); refine y12 (some 11) rfl rfl Tryd.func118 (by kernel_rfl) rfl #[.pointer (some ⟨g,0,none⟩),.int .i64 5] rfl (by (try simp only [qM_,List.map_cons,List.map_nil]); first | done | rfl | (simp only [qD_,qT_]; rfl)) ?_; (with_reducible refine (spec_l01Cur_once.calls g s0_0 t653 t654 5 true t656 t657 w0 _ ?side1 ?side2 A6.out).mono ?_); (case side1 => repeat (first | (with_reducible first | exact HI0.out | apply y2.alloc | apply y2.drewN | apply y2.drew | apply y2.set_1 | apply y2.set_2) | exact HI0.out)); (case side2 => repeat (first | (with_reducible first | exact HB.out | apply y5 | apply y18 | apply y6 | refine y7 ?_ (y2.ge HI0.out)) | exact HB.out)); rintro e w13 ⟨rfl,hi,hb,hk⟩; refine ⟨_,rfl, ?_⟩; have n0_ := y0.mk (y3.trans (by repeat (first | (with_reducible first | exact HK.out | apply y3.set_ | apply y17 | apply y16 | apply y15) | exact HK.out)) hk (.inl rfl)); have n1_ := y0.mk (hb); have n2_ := y0.mk (hi); clear HK; clear HB; clear HI0; have HK := n0_; have HB := n1_; have HI0 := n2_; clear n0_ n1_ n2_; (try clear hb); (try clear hb2); (try clear hk); (try clear hi)) | ((with_reducible refine y11 (f := 70) rfl ?_); refine y12 (some 13) rfl rfl Tryd.func70 (by kernel_rfl) rfl #[.pointer (some ⟨g,0,none⟩),.int .i64 3] rfl (by (try simp only [qM_,List.map_cons,List.map_nil]); first | done | rfl | (simp only [qD_,qT_]; rfl)) ?_; (with_reducible refine (z6_.calls g s0_0 t656 t657 3 t658 t659 t660 w0 _ ?side1 ?side2 A8.out).mono ?_); (case side1 => repeat (first | (with_reducible first | exact HI0.out | apply y2.alloc | apply y2.drewN | apply y2.drew | apply y2.set_1 | apply y2.set_2) | exact HI0.out)); (case side2 => repeat (first | (with_reducible first | exact HB.out | apply y5 | apply y18 | apply y6 | refine y7 ?_ (y2.ge HI0.out)) | exact HB.out)); rintro e w14 ⟨rfl,hi,hb,hk⟩; refine ⟨_,rfl, ?_⟩; have n0_ := y0.mk (y3.trans (by repeat (first | (with_reducible first | exact HK.out | apply y3.set_ | apply y17 | apply y16 | apply y15) | exact HK.out)) hk (.inl rfl)); have n1_ := y0.mk (hb); have n2_ := y0.mk (hi); clear HK; clear HB; clear HI0; have HK := n0_; have HB := n1_; have HI0 := n2_; clear n0_ n1_ n2_; (try clear hb); (try clear hb2); (try clear hk); (try clear hi)) | ((with_reducible refine gate_dst (N := 16) rfl ?_); refine Kd.R_lit Kd.string _ 9 ?hg (N := 16) ?hd (xs := ([(⟨#[]⟩ : ByteArray),(⟨#[48,49]⟩ : ByteArray),(⟨#[45,48]⟩ : ByteArray),(⟨#[49,48,48,48,48,48,49]⟩ : ByteArray),(⟨#[120]⟩ : ByteArray),(⟨#[78,105,108,40,41]⟩ : ByteArray),(⟨#[78,105,108,40]⟩ : ByteArray),(⟨#[67,111,110,115,40,49,44,41]⟩ : ByteArray),(⟨#[67,111,110,115,40,49]⟩ : ByteArray),(⟨#[34,97]⟩ : ByteArray),(⟨#[97,34]⟩ : ByteArray),(⟨#[34,97,34,98,34]⟩ : ByteArray),(⟨#[34,92,34]⟩ : ByteArray),(⟨#[83,32,40,49,41]⟩ : ByteArray),(⟨#[83,40,49,41,41]⟩ : ByteArray),(⟨#[83,40,120,41]⟩ : ByteArray),(⟨#[65,98,99,100,101,102,103,104,105,106,107,108,109,110,111,112,113,114,115,116,117]⟩ : ByteArray),(⟨#[34,97,98,99,100,101,102,103,104,105,106,107,108,109,110,111,112,113,114,115,116,117,34]⟩ : ByteArray),(⟨#[45]⟩ : ByteArray),(⟨#[45,45,49]⟩ : ByteArray),(⟨#[65,95,49,40,34,41,44,40,34,41]⟩ : ByteArray),(⟨#[43,49]⟩ : ByteArray)] : List ByteArray)) (inner := [.string (⟨#[]⟩ : ByteArray),.string (⟨#[48,49]⟩ : ByteArray),.string (⟨#[45,48]⟩ : ByteArray),.string (⟨#[49,48,48,48,48,48,49]⟩ : ByteArray),.string (⟨#[120]⟩ : ByteArray),.string (⟨#[78,105,108,40,41]⟩ : ByteArray),.string (⟨#[78,105,108,40]⟩ : ByteArray),.string (⟨#[67,111,110,115,40,49,44,41]⟩ : ByteArray),.string (⟨#[67,111,110,115,40,49]⟩ : ByteArray),.string (⟨#[34,97]⟩ : ByteArray),.string (⟨#[97,34]⟩ : ByteArray),.string (⟨#[34,97,34,98,34]⟩ : ByteArray),.string (⟨#[34,92,34]⟩ : ByteArray),.string (⟨#[83,32,40,49,41]⟩ : ByteArray),.string (⟨#[83,40,49,41,41]⟩ : ByteArray),.string (⟨#[83,40,120,41]⟩ : ByteArray),.string (⟨#[65,98,99,100,101,102,103,104,105,106,107,108,109,110,111,112,113,114,115,116,117]⟩ : ByteArray),.string (⟨#[34,97,98,99,100,101,102,103,104,105,106,107,108,109,110,111,112,113,114,115,116,117,34]⟩ : ByteArray),.string (⟨#[45]⟩ : ByteArray),.string (⟨#[45,45,49]⟩ : ByteArray),.string (⟨#[65,95,49,40,34,41,44,40,34,41]⟩ : ByteArray),.string (⟨#[43,49]⟩ : ByteArray)]) (ok := fun _ => True) (okp := fun _ => True) ?hr ?hp (fun _ hk => hk) trivial (Below.refl _ _) (Nat.le_refl _) (by simp) ?_; (case hd => rfl); (case hg => rfl); (case hr => first | (go_simp; done) | (go_simp; rfl)); (case hp => exact (Reps.one (show Kd.M Kd.string _ _ _ (⟨#[]⟩ : ByteArray) [.string (⟨#[]⟩ : ByteArray)] from rfl) (Reps.one (show Kd.M Kd.string _ _ _ (⟨#[48,49]⟩ : ByteArray) [.string (⟨#[48,49]⟩ : ByteArray)] from rfl) (Reps.one (show Kd.M Kd.string _ _ _ (⟨#[45,48]⟩ : ByteArray) [.string (⟨#[45,48]⟩ : ByteArray)] from rfl) (Reps.one (show Kd.M Kd.string _ _ _ (⟨#[49,48,48,48,48,48,49]⟩ : ByteArray) [.string (⟨#[49,48,48,48,48,48,49]⟩ : ByteArray)] from rfl) (Reps.one (show Kd.M Kd.string _ _ _ (⟨#[120]⟩ : ByteArray) [.string (⟨#[120]⟩ : ByteArray)] from rfl) (Reps.one (show Kd.M Kd.string _ _ _ (⟨#[78,105,108,40,41]⟩ : ByteArray) [.string (⟨#[78,105,108,40,41]⟩ : ByteArray)] from rfl) (Reps.one (show Kd.M Kd.string _ _ _ (⟨#[78,105,108,40]⟩ : ByteArray) [.string (⟨#[78,105,108,40]⟩ : ByteArray)] from rfl) (Reps.one (show Kd.M Kd.string _ _ _ (⟨#[67,111,110,115,40,49,44,41]⟩ : ByteArray) [.string (⟨#[67,111,110,115,40,49,44,41]⟩ : ByteArray)] from rfl) (Reps.one (show Kd.M Kd.string _ _ _ (⟨#[67,111,110,115,40,49]⟩ : ByteArray) [.string (⟨#[67,111,110,115,40,49]⟩ : ByteArray)] from rfl) (Reps.one (show Kd.M Kd.string _ _ _ (⟨#[34,97]⟩ : ByteArray) [.string (⟨#[34,97]⟩ : ByteArray)] from rfl) (Reps.one (show Kd.M Kd.string _ _ _ (⟨#[97,34]⟩ : ByteArray) [.string (⟨#[97,34]⟩ : ByteArray)] from rfl) (Reps.one (show Kd.M Kd.string _ _ _ (⟨#[34,97,34,98,34]⟩ : ByteArray) [.string (⟨#[34,97,34,98,34]⟩ : ByteArray)] from rfl) (Reps.one (show Kd.M Kd.string _ _ _ (⟨#[34,92,34]⟩ : ByteArray) [.string (⟨#[34,92,34]⟩ : ByteArray)] from rfl) (Reps.one (show Kd.M Kd.string _ _ _ (⟨#[83,32,40,49,41]⟩ : ByteArray) [.string (⟨#[83,32,40,49,41]⟩ : ByteArray)] from rfl) (Reps.one (show Kd.M Kd.string _ _ _ (⟨#[83,40,49,41,41]⟩ : ByteArray) [.string (⟨#[83,40,49,41,41]⟩ : ByteArray)] from rfl) (Reps.one (show Kd.M Kd.string _ _ _ (⟨#[83,40,120,41]⟩ : ByteArray) [.string (⟨#[83,40,120,41]⟩ : ByteArray)] from rfl) (Reps.one (show Kd.M Kd.string _ _ _ (⟨#[65,98,99,100,101,102,103,104,105,106,107,108,109,110,111,112,113,114,115,116,117]⟩ : ByteArray) [.string (⟨#[65,98,99,100,101,102,103,104,105,106,107,108,109,110,111,112,113,114,115,116,117]⟩ : ByteArray)] from rfl) (Reps.one (show Kd.M Kd.string _ _ _ (⟨#[34,97,98,99,100,101,102,103,104,105,106,107,108,109,110,111,112,113,114,115,116,117,34]⟩ : ByteArray) [.string (⟨#[34,97,98,99,100,101,102,103,104,105,106,107,108,109,110,111,112,113,114,115,116,117,34]⟩ : ByteArray)] from rfl) (Reps.one (show Kd.M Kd.string _ _ _ (⟨#[45]⟩ : ByteArray) [.string (⟨#[45]⟩ : ByteArray)] from rfl) (Reps.one (show Kd.M Kd.string _ _ _ (⟨#[45,45,49]⟩ : ByteArray) [.string (⟨#[45,45,49]⟩ : ByteArray)] from rfl) (Reps.one (show Kd.M Kd.string _ _ _ (⟨#[65,95,49,40,34,41,44,40,34,41]⟩ : ByteArray) [.string (⟨#[65,95,49,40,34,41,44,40,34,41]⟩ : ByteArray)] from rfl) (Reps.one (show Kd.M Kd.string _ _ _ (⟨#[43,49]⟩ : ByteArray) [.string (⟨#[43,49]⟩ : ByteArray)] from rfl) (Reps.none _ _)))))))))))))))))))))))); intro v662 w15 ho16 hb hg_ hnew_; clear hg_ hnew_; (first | rw [← Ny661.out] at ho16 | (simp only [Int.reduceToNat] at ho16; rw [← Ny661.out] at ho16)); have n0_ := y0.mk (Kd.R_lower ho16 (keep_size (w := w) (g := g) (row := none) (by repeat (first | (with_reducible first | exact HK.out | apply y3.set_ | apply y17 | apply y16 | apply y15) | exact HK.out)))); have n1_ := y0.mk (y2.below (by repeat (first | (with_reducible first | exact HI0.out | apply y2.alloc | apply y2.drewN | apply y2.drew | apply y2.set_1 | apply y2.set_2) | exact HI0.out)) hb); have n2_ := y0.mk (y3.trans (by repeat (first | (with_reducible first | exact HK.out | apply y3.set_ | apply y17 | apply y16 | apply y15) | exact HK.out)) (y3.of_below hb g none) (.inl rfl)); have n3_ := y0.mk (y8 (by repeat (first | (with_reducible first | exact HB.out | apply y5 | apply y18 | apply y6 | refine y7 ?_ (y2.ge HI0.out)) | exact HB.out)) hb); clear HI0; clear HK; clear HB; have HO663 := n0_; have HI0 := n1_; have HK := n2_; have HB := n3_; clear n0_ n1_ n2_ n3_; clear hb ho16) | ((with_reducible refine y11 (f := 70) rfl ?_); refine y12 (some 18) rfl rfl Tryd.func70 (by kernel_rfl) rfl #[.pointer (some ⟨g,0,none⟩),.int .i64 22] rfl (by (try simp only [qM_,List.map_cons,List.map_nil]); first | done | rfl | (simp only [qD_,qT_]; rfl)) ?_; (with_reducible refine (z6_.calls g s0_0 t659 t660 22 t664 t665 t666 w0 _ ?side1 ?side2 A10.out).mono ?_); (case side1 => repeat (first | (with_reducible first | exact HI0.out | apply y2.alloc | apply y2.drewN | apply y2.drew | apply y2.set_1 | apply y2.set_2) | exact HI0.out)); (case side2 => repeat (first | (with_reducible first | exact HB.out | apply y5 | apply y18 | apply y6 | refine y7 ?_ (y2.ge HI0.out)) | exact HB.out)); rintro e w17 ⟨rfl,hi,hb,hk⟩; refine ⟨_,rfl, ?_⟩; have n0_ := y0.mk (Kd.R_mono (Kd.R_keep (y2.apart (show y2 w0 _ g s0_0 t659 t660 from by repeat (first | (with_reducible first | exact HI0.out | apply y2.alloc | apply y2.drewN | apply y2.drew | apply y2.set_1 | apply y2.set_2) | exact HI0.out)) (by (with_reducible repeat (first | apply Kd.R_alloc | apply Kd.R_drewN | apply Kd.R_drew)); exact HO663.out) (by decide)) hk (fun _ h => h.2)) (fun _ h => h.1)); have n1_ := y0.mk (y3.trans (by repeat (first | (with_reducible first | exact HK.out | apply y3.set_ | apply y17 | apply y16 | apply y15) | exact HK.out)) hk (.inl rfl)); have n2_ := y0.mk (hb); have n3_ := y0.mk (hi); clear HO663; clear HK; clear HB; clear HI0; have HO663 := n0_; have HK := n1_; have HB := n2_; have HI0 := n3_; clear n0_ n1_ n2_ n3_; (try clear hb); (try clear hb2); (try clear hk); (try clear hi); obtain ⟨Ao18,co18,eo18⟩ := Kd.R_slice HO663.out; subst eo18; have p667 : 0 ≤ (t664 : Int) := of_decide_eq_true (by first | (with_reducible assumption) | assumption); have q667 : t664 < (y661.length : Int) := of_decide_eq_true (by first | (with_reducible assumption) | assumption); obtain ⟨ad667,e667,hx667_0⟩ := Kd.at_string (Kd.R_reads' HO663.out).2.2 t664 p667 q667; cases e667; replace p667 := eq_true p667; replace q667 := eq_true q667))
       go_ret
       exact ⟨by first | rfl | (simp [y9,y10] <;> rfl) | (simp [*,y9,y10] <;> rfl),by repeat (first | (with_reducible first | exact HI0.out | apply y2.alloc | apply y2.drewN | apply y2.drew | apply y2.set_1 | apply y2.set_2) | exact HI0.out),by repeat (first | (with_reducible first | exact HB.out | apply y5 | apply y18 | apply y6 | refine y7 ?_ (y2.ge HI0.out)) | exact HB.out),by repeat (first | (with_reducible first | exact HK.out | apply y3.set_ | apply y17 | apply y16 | apply y15) | exact HK.out)⟩
      ·rw [if_neg c12] at H
       exact absurd H (by simp)
     ·rw [if_neg c11] at H
      exact absurd H (by simp)
    ·rw [if_neg c9] at H
     have c9b0 : (t658 == 0) = false := beq_eq_false_iff_ne.mpr c9
     have c9b1 : (t658 != 0) = true := bne_iff_ne.mpr c9
     by_cases c19 : t658 = 1
     ·rw [if_pos c19] at H
      have c19b0 : (t658 == 1) = true := beq_iff_eq.mpr c19
      have c19b1 : (t658 != 1) = false := bne_eq_false_iff_eq.mpr c19
      clear c19
      replace H := Option.bind_eq_some_iff.mp H
      obtain ⟨⟨t668,t669,t670⟩,A200,H⟩ := H
      replace H : (if 0 ≤ t668 then (if t668 ≤ (x3_2.size : Int) then ((some (([(⟨#[40]⟩ : ByteArray),(⟨#[41]⟩ : ByteArray),(⟨#[44]⟩ : ByteArray),(⟨#[34]⟩ : ByteArray),(⟨#[49]⟩ : ByteArray),(⟨#[32]⟩ : ByteArray)] : List ByteArray) : List ByteArray)).bind fun y671 => ((z6_.f s0_0 t669 t670 6).bind fun bt674 => (if 0 ≤ bt674.1 then (if bt674.1 < (y671.length : Int) then (if (x3_2.extract 0 (t668 : Int).toNat).size + (rdOf ByteArray.empty y671 bt674.1).size ≤ 9223372036854775807 then (if ((x3_2.extract 0 (t668 : Int).toNat) ++ (rdOf ByteArray.empty y671 bt674.1)).size + (x3_2.extract (t668 : Int).toNat x3_2.size).size ≤ 9223372036854775807 then (some (((x3_2.extract 0 (t668 : Int).toNat) ++ (rdOf ByteArray.empty y671 bt674.1)) ++ (x3_2.extract (t668 : Int).toNat x3_2.size),bt674.2.1,bt674.2.2)) else (none)) else (none)) else (none)) else (none)))) else (none)) else (none)) = some (r1,r2,r3) := H
      have A20 := y0.mk A200
      clear A200
      by_cases c21 : 0 ≤ t668
      ·rw [if_pos c21] at H
       have c21b0 := eq_true c21
       have c21b1 : decide (0 ≤ t668) = true := decide_eq_true c21
       clear c21
       by_cases c22 : t668 ≤ (x3_2.size : Int)
       ·rw [if_pos c22] at H
        have c22b0 := eq_true c22
        have c22b1 : decide (t668 ≤ (x3_2.size : Int)) = true := decide_eq_true c22
        clear c22
        obtain ⟨y671,hy671⟩ : ∃ y_ : List ByteArray,y_ = (([(⟨#[40]⟩ : ByteArray),(⟨#[41]⟩ : ByteArray),(⟨#[44]⟩ : ByteArray),(⟨#[34]⟩ : ByteArray),(⟨#[49]⟩ : ByteArray),(⟨#[32]⟩ : ByteArray)] : List ByteArray)) := ⟨_,rfl⟩
        replace H : ((z6_.f s0_0 t669 t670 6).bind fun bt674 => (if 0 ≤ bt674.1 then (if bt674.1 < (y671.length : Int) then (if (x3_2.extract 0 (t668 : Int).toNat).size + (rdOf ByteArray.empty y671 bt674.1).size ≤ 9223372036854775807 then (if ((x3_2.extract 0 (t668 : Int).toNat) ++ (rdOf ByteArray.empty y671 bt674.1)).size + (x3_2.extract (t668 : Int).toNat x3_2.size).size ≤ 9223372036854775807 then (some (((x3_2.extract 0 (t668 : Int).toNat) ++ (rdOf ByteArray.empty y671 bt674.1)) ++ (x3_2.extract (t668 : Int).toNat x3_2.size),bt674.2.1,bt674.2.2)) else (none)) else (none)) else (none)) else (none))) = some (r1,r2,r3) := by first | (rw [hy671]; with_reducible exact H) | (have H2_ := (Option.bind_some _ _).symm.trans H; rw [hy671]; with_reducible exact H2_) | (have H2_ := (Option.bind_some _ _).symm.trans H; with_reducible exact H2_) | with_reducible exact H | (rw [hy671]; exact H) | exact H
        have Ny671 := y0.mk hy671
        clear hy671
        replace H := Option.bind_eq_some_iff.mp H
        obtain ⟨⟨t674,t675,t676⟩,A230,H⟩ := H
        replace H : (if 0 ≤ t674 then (if t674 < (y671.length : Int) then (if (x3_2.extract 0 (t668 : Int).toNat).size + (rdOf ByteArray.empty y671 t674).size ≤ 9223372036854775807 then (if ((x3_2.extract 0 (t668 : Int).toNat) ++ (rdOf ByteArray.empty y671 t674)).size + (x3_2.extract (t668 : Int).toNat x3_2.size).size ≤ 9223372036854775807 then (some (((x3_2.extract 0 (t668 : Int).toNat) ++ (rdOf ByteArray.empty y671 t674)) ++ (x3_2.extract (t668 : Int).toNat x3_2.size),t675,t676)) else (none)) else (none)) else (none)) else (none)) = some (r1,r2,r3) := H
        have A23 := y0.mk A230
        clear A230
        by_cases c24 : 0 ≤ t674
        ·rw [if_pos c24] at H
         have c24b0 : decide (0 ≤ t674) = true := decide_eq_true c24
         clear c24
         by_cases c25 : t674 < (y671.length : Int)
         ·rw [if_pos c25] at H
          have c25b0 : decide (t674 < (y671.length : Int)) = true := decide_eq_true c25
          clear c25
          by_cases c26 : (x3_2.extract 0 (t668 : Int).toNat).size + (rdOf ByteArray.empty y671 t674).size ≤ 9223372036854775807
          ·rw [if_pos c26] at H
           have c26b0 := eq_true c26
           have c26b1 : decide ((x3_2.extract 0 (t668 : Int).toNat).size + (rdOf ByteArray.empty y671 t674).size ≤ 9223372036854775807) = true := decide_eq_true c26
           try have c26b2 : (9223372036854775807 < (x3_2.extract 0 (t668 : Int).toNat).size + (rdOf ByteArray.empty y671 t674).size) = False := eq_false (Nat.not_lt.2 c26)
           try have c26b6 : (9223372036854775807 < (t668 : Int).toNat + (rdOf ByteArray.empty y671 t674).size) = False := (congrArg (fun n_ => (9223372036854775807 < n_)) (show (t668 : Int).toNat + (rdOf ByteArray.empty y671 t674).size = (x3_2.extract 0 (t668 : Int).toNat).size + (rdOf ByteArray.empty y671 t674).size by (simp only [ByteArray.size_append,(show (x3_2.extract 0 (t668 : Int).toNat).size = (t668 : Int).toNat from by rw [ByteArray.size_extract,Nat.sub_zero]; exact Nat.min_eq_left (Int.toNat_le.2 (of_eq_true (by assumption))))]; try rfl))).trans c26b2
           have c27b0 := eq_true (of_decide_eq_true (by first | (with_reducible assumption) | assumption) : 0 ≤ t668)
           have c28b0 := eq_true (of_decide_eq_true (by first | (with_reducible assumption) | assumption) : t668 ≤ (x3_2.size : Int))
           by_cases c29 : ((x3_2.extract 0 (t668 : Int).toNat) ++ (rdOf ByteArray.empty y671 t674)).size + (x3_2.extract (t668 : Int).toNat x3_2.size).size ≤ 9223372036854775807
           ·rw [if_pos c29] at H
            have c29b0 := eq_true c29
            have c29b1 : decide (((x3_2.extract 0 (t668 : Int).toNat) ++ (rdOf ByteArray.empty y671 t674)).size + (x3_2.extract (t668 : Int).toNat x3_2.size).size ≤ 9223372036854775807) = true := decide_eq_true c29
            try have c29b2 : (9223372036854775807 < ((x3_2.extract 0 (t668 : Int).toNat) ++ (rdOf ByteArray.empty y671 t674)).size + (x3_2.extract (t668 : Int).toNat x3_2.size).size) = False := eq_false (Nat.not_lt.2 c29)
            try have c29b3 : (9223372036854775807 < (x3_2.extract 0 (t668 : Int).toNat).size + (rdOf ByteArray.empty y671 t674).size + (x3_2.extract (t668 : Int).toNat x3_2.size).size) = False := (congrArg (fun n_ => (9223372036854775807 < n_)) (show (x3_2.extract 0 (t668 : Int).toNat).size + (rdOf ByteArray.empty y671 t674).size + (x3_2.extract (t668 : Int).toNat x3_2.size).size = ((x3_2.extract 0 (t668 : Int).toNat) ++ (rdOf ByteArray.empty y671 t674)).size + (x3_2.extract (t668 : Int).toNat x3_2.size).size by (simp only [ByteArray.size_append]; try rfl))).trans c29b2
            try have c29b6 : (9223372036854775807 < (t668 : Int).toNat + (rdOf ByteArray.empty y671 t674).size + (x3_2.size - (t668 : Int).toNat)) = False := (congrArg (fun n_ => (9223372036854775807 < n_)) (show (t668 : Int).toNat + (rdOf ByteArray.empty y671 t674).size + (x3_2.size - (t668 : Int).toNat) = ((x3_2.extract 0 (t668 : Int).toNat) ++ (rdOf ByteArray.empty y671 t674)).size + (x3_2.extract (t668 : Int).toNat x3_2.size).size by (simp only [ByteArray.size_append,(show (x3_2.extract 0 (t668 : Int).toNat).size = (t668 : Int).toNat from by rw [ByteArray.size_extract,Nat.sub_zero]; exact Nat.min_eq_left (Int.toNat_le.2 (of_eq_true (by assumption)))),(show (x3_2.extract (t668 : Int).toNat x3_2.size).size = x3_2.size - (t668 : Int).toNat from by rw [ByteArray.size_extract,Nat.min_self])]; try rfl))).trans c29b2
            simp only [Option.some.injEq,Prod.mk.injEq] at H
            obtain ⟨rfl,rfl,rfl⟩ := H
            try go_wp2_with (first | ((with_reducible refine y11 (f := 118) rfl ?_); refine y12 (some 11) rfl rfl Tryd.func118 (by kernel_rfl) rfl #[.pointer (some ⟨g,0,none⟩),.int .i64 5] rfl (by (try simp only [qM_,List.map_cons,List.map_nil]); first | done | rfl | (simp only [qD_,qT_]; rfl)) ?_; (with_reducible refine (spec_l01Cur_once.calls g s0_0 t653 t654 5 true t656 t657 w0 _ ?side1 ?side2 A6.out).mono ?_); (case side1 => repeat (first | (with_reducible first | exact HI0.out | apply y2.alloc | apply y2.drewN | apply y2.drew | apply y2.set_1 | apply y2.set_2) | exact HI0.out)); (case side2 => repeat (first | (with_reducible first | exact HB.out | apply y5 | apply y18 | apply y6 | refine y7 ?_ (y2.ge HI0.out)) | exact HB.out)); rintro e w30 ⟨rfl,hi,hb,hk⟩; refine ⟨_,rfl, ?_⟩; have n0_ := y0.mk (y3.trans (by repeat (first | (with_reducible first | exact HK.out | apply y3.set_ | apply y17 | apply y16 | apply y15) | exact HK.out)) hk (.inl rfl)); have n1_ := y0.mk (hb); have n2_ := y0.mk (hi); clear HK; clear HB; clear HI0; have HK := n0_; have HB := n1_; have HI0 := n2_; clear n0_ n1_ n2_; (try clear hb); (try clear hb2); (try clear hk); (try clear hi)) | ((with_reducible refine y11 (f := 70) rfl ?_); refine y12 (some 13) rfl rfl Tryd.func70 (by kernel_rfl) rfl #[.pointer (some ⟨g,0,none⟩),.int .i64 3] rfl (by (try simp only [qM_,List.map_cons,List.map_nil]); first | done | rfl | (simp only [qD_,qT_]; rfl)) ?_; (with_reducible refine (z6_.calls g s0_0 t656 t657 3 t658 t659 t660 w0 _ ?side1 ?side2 A8.out).mono ?_); (case side1 => repeat (first | (with_reducible first | exact HI0.out | apply y2.alloc | apply y2.drewN | apply y2.drew | apply y2.set_1 | apply y2.set_2) | exact HI0.out)); (case side2 => repeat (first | (with_reducible first | exact HB.out | apply y5 | apply y18 | apply y6 | refine y7 ?_ (y2.ge HI0.out)) | exact HB.out)); rintro e w31 ⟨rfl,hi,hb,hk⟩; refine ⟨_,rfl, ?_⟩; have n0_ := y0.mk (y3.trans (by repeat (first | (with_reducible first | exact HK.out | apply y3.set_ | apply y17 | apply y16 | apply y15) | exact HK.out)) hk (.inl rfl)); have n1_ := y0.mk (hb); have n2_ := y0.mk (hi); clear HK; clear HB; clear HI0; have HK := n0_; have HB := n1_; have HI0 := n2_; clear n0_ n1_ n2_; (try clear hb); (try clear hb2); (try clear hk); (try clear hi)) | ((with_reducible refine y11 (f := 70) rfl ?_); refine y12 (some 27) rfl rfl Tryd.func70 (by kernel_rfl) rfl #[.pointer (some ⟨g,0,none⟩),.int .i64 (wrap64 ((x3_2.size : Int) + 1))] rfl (by (try simp only [qM_,List.map_cons,List.map_nil]); first | done | rfl | (simp only [qD_,qT_]; rfl)) ?_; (with_reducible refine (z6_.calls g s0_0 t659 t660 (wrap64 ((x3_2.size : Int) + 1)) t668 t669 t670 w0 _ ?side1 ?side2 A20.out).mono ?_); (case side1 => repeat (first | (with_reducible first | exact HI0.out | apply y2.alloc | apply y2.drewN | apply y2.drew | apply y2.set_1 | apply y2.set_2) | exact HI0.out)); (case side2 => repeat (first | (with_reducible first | exact HB.out | apply y5 | apply y18 | apply y6 | refine y7 ?_ (y2.ge HI0.out)) | exact HB.out)); rintro e w32 ⟨rfl,hi,hb,hk⟩; refine ⟨_,rfl, ?_⟩; have n0_ := y0.mk (y3.trans (by repeat (first | (with_reducible first | exact HK.out | apply y3.set_ | apply y17 | apply y16 | apply y15) | exact HK.out)) hk (.inl rfl)); have n1_ := y0.mk (hb); have n2_ := y0.mk (hi); clear HK; clear HB; clear HI0; have HK := n0_; have HB := n1_; have HI0 := n2_; clear n0_ n1_ n2_; (try clear hb); (try clear hb2); (try clear hk); (try clear hi)))
            have pi677 : (0 ≤ (t674 : Int)) = True := eq_true (of_decide_eq_true (by first | (with_reducible assumption) | assumption))
            have qi677 : (t674 < (y671.length : Int)) = True := eq_true (of_decide_eq_true (by first | (with_reducible assumption) | assumption))
            have n0_ := y0.mk (y2.drew HI0.out)
            have n1_ := y0.mk (y16 HK.out)
            have n2_ := y0.mk (y6 HB.out)
            clear HI0
            clear HK
            clear HB
            have HI0 := n0_
            have HK := n1_
            have HB := n2_
            clear n0_ n1_ n2_
            refine start_ (n := 14) (S := fun w' => True) (ds := []) (fl_ 14 0) (by kernel_rfl) rfl rfl trivial (fun hHeld => ?_); refine with_tabW z5_.tab10 z5_.bits10 (fun HT_ HW_ => ?_)
            generalize w32.drew = w33 at HI0 HK HB hHeld ⊢
            refine pure_ (i := 0) (N := some 28) (v := ?_) (a' := ?_) (fl_ 14 1) rfl rfl (y4 HT_.out (by kernel_rfl)) (fun _ _ _ h => h) (Or.inl ⟨by rfl, ?_⟩) ?_ ?_
            rotate_left
            ·intro w'
             go_simp
             with_reducible rfl
            rotate_left
            ·simp only [Act.put,qS_,qZ_,qC_,y14,y13]
             rfl
            refine pure_ (i := 1) (N := some 29) (v := ?_) (a' := ?_) (fl_ 14 3) rfl rfl (y4 HT_.out (by kernel_rfl)) (fun _ _ _ h => h) (Or.inl ⟨by rfl, ?_⟩) ?_ ?_
            rotate_left
            ·intro w'
             go_simp
             with_reducible rfl
            rotate_left
            ·simp only [Act.put,qS_,qZ_,qC_,y14,y13]
             rfl
            refine pure_ (i := 4) (N := some 32) (v := ?_) (a' := ?_) (fl_ 14 19) rfl rfl (y4 HT_.out (by kernel_rfl)) (fun _ _ _ h => h) (Or.inl ⟨by rfl, ?_⟩) ?_ ?_
            rotate_left
            ·intro w'
             go_simp
             with_reducible rfl
            rotate_left
            ·simp only [Act.put,qS_,qZ_,qC_,y14,y13]
             rfl
            refine pure_ (i := 9) (N := some 37) (v := ?_) (a' := ?_) (fl_ 14 531) rfl rfl (y4 HT_.out (by kernel_rfl)) (fun _ _ _ h => h) (Or.inl ⟨by rfl, ?_⟩) ?_ ?_
            rotate_left
            ·intro w'
             go_simp
             with_reducible rfl
            rotate_left
            ·simp only [Act.put,qS_,qZ_,qC_,y14,y13]
             rfl
            refine pure_ (i := 10) (N := some 38) (v := ?_) (a' := ?_) (fl_ 14 1555) rfl rfl (y4 HT_.out (by kernel_rfl)) (fun _ _ _ h => h) (Or.inl ⟨by rfl, ?_⟩) ?_ ?_
            rotate_left
            ·intro w'
             go_simp
             with_reducible rfl
            rotate_left
            ·simp only [Act.put,qS_,qZ_,qC_,y14,y13]
             rfl
            refine inv_at [2,3,5,6,7,8,11,12,13] (fun a0_ b a w' => ∃ (v672 : Value) (adz_v672 : Addr) (m6_ : Value),a = putSel a0_ b [(2,30,.string (x3_2.extract 0 (t668 : Int).toNat)),(3,31,v672),(5,33,.int .i64 t674),(6,34,m6_),(7,35,.string (rdOf ByteArray.empty y671 t674)),(8,36,.string ((x3_2.extract 0 (t668 : Int).toNat) ++ (rdOf ByteArray.empty y671 t674))),(11,39,.string (x3_2.extract (t668 : Int).toNat x3_2.size)),(12,40,.string (((x3_2.extract 0 (t668 : Int).toNat) ++ (rdOf ByteArray.empty y671 t674)) ++ (x3_2.extract (t668 : Int).toNat x3_2.size))),(13,2,.string (((x3_2.extract 0 (t668 : Int).toNat) ++ (rdOf ByteArray.empty y671 t674)) ++ (x3_2.extract (t668 : Int).toNat x3_2.size)))] ∧ (b 5 = false → y2 w0 w' g s0_0 t669 t670) ∧ (y3 w w' g none) ∧ (Below w0.heap.size w0 w') ∧ (b 3 = true → Kd.R Kd.string 9 w' w.heap.size (fun _ => True) v672 y671) ∧ (b 3 = true → ∃ c_,(v672 : Value) = .slice (some adz_v672) y671.length c_) ∧ (b 5 = true → y2 w0 w' g s0_0 t675 t676) ∧ (b 6 = true → (m6_ : Value) = .pointer (some (adz_v672.add (t674).toNat)))) HT_.out HW_.out (by kernel_rfl) (by kernel_rfl) ?_ ?_ ?_
            ·exact ⟨.bool false,⟨0,0,none⟩,.bool false,by simp only [putSel,Bool.false_eq_true,if_false],fun _ => HI0.out,HK.out,HB.out,fun h_ => absurd h_ (by decide),fun h_ => absurd h_ (by decide),fun h_ => absurd h_ (by decide),fun h_ => absurd h_ (by decide)⟩
            ·skip
             clear HB HI0 HK
             refine steps_cons ?_ ?_
             ·rintro b a w' ⟨v672,adz_v672,m6_,ha,Q_HI0,Q_HK,Q_HB,Q_HO673,Q_HA_HO673,Q_HI0_e5,Q_X6_⟩ hb_ hon hoff
              refine ⟨_,rfl,fun K hK => ?_⟩
              have e28 : a.tmps[28]? = some (.string x3_2) := by rw [ha]; exact (putSel_off rfl).trans rfl
              have e29 : a.tmps[29]? = some (.int .i64 t668) := by rw [ha]; exact (putSel_off rfl).trans rfl
              replace ha := y0.mk ha
              have HK := y0.mk Q_HK
              have HB := y0.mk Q_HB
              refine value_ (w1 := w') (v := .string (x3_2.extract 0 (t668 : Int).toNat)) (by rfl) rfl ?_ ?_
              ·go_simp
               (try simp only [y14])
               try first | rfl | (have hz_ := c26; (try have hy20_ := of_eq_true c20b0); (try have hy21_ := of_eq_true c21b0); (try have hy22_ := of_eq_true c22b0); (try have hy23_ := of_eq_true c23b0); (try have hy24_ := of_eq_true c24b0); (try have hy25_ := of_eq_true c25b0); (try have hy26_ := of_eq_true c26b0); (try simp only [ByteArray.size_append,ByteArray.size_extract] at hz_); omega) | (have hz_ := c29; (try have hy23_ := of_eq_true c23b0); (try have hy24_ := of_eq_true c24b0); (try have hy25_ := of_eq_true c25b0); (try have hy26_ := of_eq_true c26b0); (try have hy27_ := of_eq_true c27b0); (try have hy28_ := of_eq_true c28b0); (try have hy29_ := of_eq_true c29b0); (try simp only [ByteArray.size_append,ByteArray.size_extract] at hz_); omega) | (have hz_ := c43; (try have hy37_ := of_eq_true c37b0); (try have hy38_ := of_eq_true c38b0); (try have hy39_ := of_eq_true c39b0); (try have hy40_ := of_eq_true c40b0); (try have hy41_ := of_eq_true c41b0); (try have hy42_ := of_eq_true c42b0); (try have hy43_ := of_eq_true c43b0); (try simp only [ByteArray.size_append,ByteArray.size_extract] at hz_); omega) | (have hz_ := c44; (try have hy38_ := of_eq_true c38b0); (try have hy39_ := of_eq_true c39b0); (try have hy40_ := of_eq_true c40b0); (try have hy41_ := of_eq_true c41b0); (try have hy42_ := of_eq_true c42b0); (try have hy43_ := of_eq_true c43b0); (try have hy44_ := of_eq_true c44b0); (try simp only [ByteArray.size_append,ByteArray.size_extract] at hz_); omega)
              refine hK.out _ _ ⟨v672,adz_v672,m6_,(by rw [ha.out]; exact putSel_upk 0 hb_ rfl rfl rfl),Q_HI0,Q_HK,Q_HB,Q_HO673,Q_HA_HO673,Q_HI0_e5,Q_X6_⟩
             refine steps_cons ?_ ?_
             ·rintro b a w' ⟨v672,adz_v672,m6_,ha,Q_HI0,Q_HK,Q_HB,Q_HO673,Q_HA_HO673,Q_HI0_e5,Q_X6_⟩ hb_ hon hoff
              refine ⟨_,rfl,fun K hK => ?_⟩
              replace ha := y0.mk ha
              have HK := y0.mk Q_HK
              have HB := y0.mk Q_HB
              refine Kd.R_lit_step Kd.string _ 9 ?hg (N := 31) ?hd (xs := ([(⟨#[40]⟩ : ByteArray),(⟨#[41]⟩ : ByteArray),(⟨#[44]⟩ : ByteArray),(⟨#[34]⟩ : ByteArray),(⟨#[49]⟩ : ByteArray),(⟨#[32]⟩ : ByteArray)] : List ByteArray)) (inner := [.string (⟨#[40]⟩ : ByteArray),.string (⟨#[41]⟩ : ByteArray),.string (⟨#[44]⟩ : ByteArray),.string (⟨#[34]⟩ : ByteArray),.string (⟨#[49]⟩ : ByteArray),.string (⟨#[32]⟩ : ByteArray)]) (ok := fun _ => True) (okp := fun _ => True) ?hr ?hp (fun _ hk => hk) trivial (Below.refl _ _) (Nat.le_refl _) (by simp) ?_; (case hd => rfl); (case hg => rfl); (case hr => first | (go_simp; done) | (go_simp; rfl)); (case hp => exact (Reps.one (show Kd.M Kd.string _ _ _ (⟨#[40]⟩ : ByteArray) [.string (⟨#[40]⟩ : ByteArray)] from rfl) (Reps.one (show Kd.M Kd.string _ _ _ (⟨#[41]⟩ : ByteArray) [.string (⟨#[41]⟩ : ByteArray)] from rfl) (Reps.one (show Kd.M Kd.string _ _ _ (⟨#[44]⟩ : ByteArray) [.string (⟨#[44]⟩ : ByteArray)] from rfl) (Reps.one (show Kd.M Kd.string _ _ _ (⟨#[34]⟩ : ByteArray) [.string (⟨#[34]⟩ : ByteArray)] from rfl) (Reps.one (show Kd.M Kd.string _ _ _ (⟨#[49]⟩ : ByteArray) [.string (⟨#[49]⟩ : ByteArray)] from rfl) (Reps.one (show Kd.M Kd.string _ _ _ (⟨#[32]⟩ : ByteArray) [.string (⟨#[32]⟩ : ByteArray)] from rfl) (Reps.none _ _))))))))
              intro v672 w34 ho35 hb hg_ hnew_
              clear hg_ hnew_
              (first | rw [← Ny671.out] at ho35 | (simp only [Int.reduceToNat] at ho35; rw [← Ny671.out] at ho35))
              have n0_ := y0.mk (Kd.R_lower ho35 (keep_size (w := w) (g := g) (row := none) (by repeat (first | (with_reducible first | exact HK.out | apply y3.set_ | apply y17 | apply y16 | apply y15) | exact HK.out))))
              have n2_ := y0.mk (y3.trans (by repeat (first | (with_reducible first | exact HK.out | apply y3.set_ | apply y17 | apply y16 | apply y15) | exact HK.out)) (y3.of_below hb g none) (.inl rfl))
              have n3_ := y0.mk (y8 (by repeat (first | (with_reducible first | exact HB.out | apply y5 | apply y18 | apply y6) | exact HB.out)) hb)
              have z_HI0 := fun (h0_ : b 5 = false) => (show y2 w0 w34 g s0_0 t669 t670 from by first | exact (y2.below (by repeat (first | (with_reducible first | exact (Q_HI0 h0_) | apply y2.alloc | apply y2.drewN | apply y2.drew | apply y2.set_1 | apply y2.set_2) | exact (Q_HI0 h0_))) hb))
              have z_HI0_e5 := fun (h0_ : b 5 = true) => (show y2 w0 w34 g s0_0 t675 t676 from by first | exact (y2.below (by repeat (first | (with_reducible first | exact (Q_HI0_e5 h0_) | apply y2.alloc | apply y2.drewN | apply y2.drew | apply y2.set_1 | apply y2.set_2) | exact (Q_HI0_e5 h0_))) hb))
              clear HK
              clear HB
              have HO673 := n0_
              have HK := n2_
              have HB := n3_
              clear n0_ n2_ n3_
              clear hb ho35
              obtain ⟨Ao36,co36,eo36⟩ := Kd.R_slice HO673.out
              subst eo36
              obtain ⟨ado36,fo36,_⟩ := Kd.at_string (Kd.R_reads' HO673.out).2.2 0 (by decide) (by rw [Ny671.out]; simp)
              cases fo36
              refine hK.out _ _ ⟨.slice (some ado36) y671.length co36,ado36,m6_,(by rw [ha.out]; exact putSel_upk 1 hb_ rfl rfl rfl),z_HI0,(by repeat (first | (with_reducible first | exact HK.out | apply y3.set_ | apply y17 | apply y16 | apply y15) | exact HK.out)),(by repeat (first | (with_reducible first | exact HB.out | apply y5 | apply y18 | apply y6) | exact HB.out)),fun _ => (by (with_reducible repeat (first | apply Kd.R_alloc | apply Kd.R_drewN | apply Kd.R_drew)); exact HO673.out),fun _ => ⟨_,rfl⟩,z_HI0_e5,fun h0_ => absurd ((hoff 6 (by kernel_rfl)).symm.trans h0_) (by decide)⟩
             refine steps_cons ?_ ?_
             ·rintro b a w' ⟨v672,adz_v672,m6_,ha,Q_HI0,Q_HK,Q_HB,Q_HO673,Q_HA_HO673,Q_HI0_e5,Q_X6_⟩ hb_ hon hoff
              refine ⟨_,rfl,fun K hK => ?_⟩
              have e32 : a.tmps[32]? = some (.pointer (some ⟨g,0,none⟩)) := by rw [ha]; exact (putSel_off rfl).trans rfl
              replace ha := y0.mk ha
              have HI0 := y0.mk (Q_HI0 hb_)
              have HK := y0.mk Q_HK
              have HB := y0.mk Q_HB
              refine goes_ Tryd.func70 (by kernel_rfl) rfl #[.pointer (some ⟨g,0,none⟩),.int .i64 6] (by rfl) rfl rfl (by first | (simp only [qM_,List.map_cons,List.map_nil,Act.eval,Array.getD_eq_getD_getElem?,Option.getD_some,e32]; done) | (simp only [qM_,List.map_cons,List.map_nil,Act.eval,Array.getD_eq_getD_getElem?,Option.getD_some,e32]; rfl)) ?_
              with_reducible refine (z6_.calls g s0_0 t669 t670 6 t674 t675 t676 w0 _ ?side1 ?side2 A23.out).mono ?_
              (case side1 => repeat (first | (with_reducible first | exact HI0.out | apply y2.alloc | apply y2.drewN | apply y2.drew | apply y2.set_1 | apply y2.set_2) | exact HI0.out))
              (case side2 => repeat (first | (with_reducible first | exact HB.out | apply y5 | apply y18 | apply y6 | refine y7 ?_ (y2.ge HI0.out)) | exact HB.out))
              rintro e w34 ⟨rfl,hi,hb,hk⟩
              refine ⟨_,rfl, ?_⟩
              have n0_ := y0.mk (y3.trans (by repeat (first | (with_reducible first | exact HK.out | apply y3.set_ | apply y17 | apply y16 | apply y15) | exact HK.out)) hk (.inl rfl))
              have n1_ := y0.mk (hb)
              have n2_ := y0.mk (hi)
              have z_HO673 := fun (h0_ : b 3 = true) => (show Kd.R Kd.string 9 w34 w.heap.size (fun _ => True) v672 y671 from by first | exact (Kd.R_mono (Kd.R_keep (y2.apart (show y2 w0 _ g s0_0 t669 t670 from by repeat (first | (with_reducible first | exact HI0.out | apply y2.alloc | apply y2.drewN | apply y2.drew | apply y2.set_1 | apply y2.set_2) | exact HI0.out)) (by (with_reducible repeat (first | apply Kd.R_alloc | apply Kd.R_drewN | apply Kd.R_drew)); exact (Q_HO673 h0_)) (by decide)) hk (fun _ h => h.2)) (fun _ h => h.1)) | exact Kd.R_mono (Kd.R_mono (Kd.R_keep (y2.apart (show y2 w0 _ g s0_0 t669 t670 from by repeat (first | (with_reducible first | exact HI0.out | apply y2.alloc | apply y2.drewN | apply y2.drew | apply y2.set_1 | apply y2.set_2) | exact HI0.out)) (by (with_reducible repeat (first | apply Kd.R_alloc | apply Kd.R_drewN | apply Kd.R_drew)); exact (Q_HO673 h0_)) (by decide)) hk (fun _ h => h.2)) (fun _ h => h.1)) (fun _ h_ => by first | trivial | exact h_ | exact h_.1))
              clear HK
              clear HB
              clear HI0
              have HK := n0_
              have HB := n1_
              have HI0 := n2_
              clear n0_ n1_ n2_
              (try clear hb)
              (try clear hb2)
              (try clear hk)
              (try clear hi)
              refine hK.out _ _ ⟨v672,adz_v672,m6_,(by rw [ha.out]; exact putSel_upk 2 hb_ rfl rfl rfl),fun h0_ => absurd ((up_self b 5).symm.trans h0_) (by decide),(by repeat (first | (with_reducible first | exact HK.out | apply y3.set_ | apply y17 | apply y16 | apply y15) | exact HK.out)),(by repeat (first | (with_reducible first | exact HB.out | apply y5 | apply y18 | apply y6 | refine y7 ?_ (y2.ge HI0.out)) | exact HB.out)),z_HO673,Q_HA_HO673,fun _ => (by repeat (first | (with_reducible first | exact HI0.out | apply y2.alloc | apply y2.drewN | apply y2.drew | apply y2.set_1 | apply y2.set_2) | exact HI0.out)),fun h0_ => absurd ((hoff 6 (by kernel_rfl)).symm.trans h0_) (by decide)⟩
             refine steps_cons ?_ ?_
             ·rintro b a w' ⟨v672,adz_v672,m6_,ha,Q_HI0,Q_HK,Q_HB,Q_HO673,Q_HA_HO673,Q_HI0_e5,Q_X6_⟩ hb_ hon hoff
              refine ⟨_,rfl,fun K hK => ?_⟩
              have e31 : a.tmps[31]? = some (v672) := by rw [ha]; exact putSel_on (e := (3,31,v672)) 1 rfl rfl (hon 3 (by kernel_rfl)) rfl
              have e33 : a.tmps[33]? = some (.int .i64 t674) := by rw [ha]; exact putSel_on (e := (5,33,.int .i64 t674)) 2 rfl rfl (hon 5 (by kernel_rfl)) rfl
              replace ha := y0.mk ha
              have HK := y0.mk Q_HK
              have HB := y0.mk Q_HB
              have HO673 := y0.mk (Q_HO673 (hon 3 (by kernel_rfl)))
              have HA_HO673 := y0.mk (Q_HA_HO673 (hon 3 (by kernel_rfl)))
              have HI0 := y0.mk (Q_HI0_e5 (hon 5 (by kernel_rfl)))
              obtain ⟨c_,hv_⟩ := HA_HO673.out
              rw [hv_] at e31
              refine value_ (w1 := w') (v := .pointer (some (adz_v672.add (t674).toNat))) (by rfl) rfl ?_ ?_
              ·go_simp
               (try simp only [y14])
               try first | rfl | (have hz_ := c26; (try have hy20_ := of_eq_true c20b0); (try have hy21_ := of_eq_true c21b0); (try have hy22_ := of_eq_true c22b0); (try have hy23_ := of_eq_true c23b0); (try have hy24_ := of_eq_true c24b0); (try have hy25_ := of_eq_true c25b0); (try have hy26_ := of_eq_true c26b0); (try simp only [ByteArray.size_append,ByteArray.size_extract] at hz_); omega) | (have hz_ := c29; (try have hy23_ := of_eq_true c23b0); (try have hy24_ := of_eq_true c24b0); (try have hy25_ := of_eq_true c25b0); (try have hy26_ := of_eq_true c26b0); (try have hy27_ := of_eq_true c27b0); (try have hy28_ := of_eq_true c28b0); (try have hy29_ := of_eq_true c29b0); (try simp only [ByteArray.size_append,ByteArray.size_extract] at hz_); omega) | (have hz_ := c43; (try have hy37_ := of_eq_true c37b0); (try have hy38_ := of_eq_true c38b0); (try have hy39_ := of_eq_true c39b0); (try have hy40_ := of_eq_true c40b0); (try have hy41_ := of_eq_true c41b0); (try have hy42_ := of_eq_true c42b0); (try have hy43_ := of_eq_true c43b0); (try simp only [ByteArray.size_append,ByteArray.size_extract] at hz_); omega) | (have hz_ := c44; (try have hy38_ := of_eq_true c38b0); (try have hy39_ := of_eq_true c39b0); (try have hy40_ := of_eq_true c40b0); (try have hy41_ := of_eq_true c41b0); (try have hy42_ := of_eq_true c42b0); (try have hy43_ := of_eq_true c43b0); (try have hy44_ := of_eq_true c44b0); (try simp only [ByteArray.size_append,ByteArray.size_extract] at hz_); omega)
              refine hK.out _ _ ⟨v672,adz_v672,(.pointer (some (adz_v672.add (t674).toNat))),(by rw [ha.out]; exact putSel_upk 3 hb_ rfl rfl rfl),fun h0_ => absurd ((hon 5 (by kernel_rfl)).symm.trans h0_) (by decide),Q_HK,Q_HB,Q_HO673,Q_HA_HO673,Q_HI0_e5,fun _ => rfl⟩
             refine steps_cons ?_ ?_
             ·rintro b a w' ⟨v672,adz_v672,m6_,ha,Q_HI0,Q_HK,Q_HB,Q_HO673,Q_HA_HO673,Q_HI0_e5,Q_X6_⟩ hb_ hon hoff
              refine ⟨_,rfl,fun K hK => ?_⟩
              have e34 : a.tmps[34]? = some (m6_) := by rw [ha]; exact putSel_on (e := (6,34,m6_)) 3 rfl rfl (hon 6 (by kernel_rfl)) rfl
              rw [Q_X6_ (hon 6 (by kernel_rfl))] at e34
              replace ha := y0.mk ha
              have HK := y0.mk Q_HK
              have HB := y0.mk Q_HB
              have HO673 := y0.mk (Q_HO673 (hon 3 (by kernel_rfl)))
              have HA_HO673 := y0.mk (Q_HA_HO673 (hon 3 (by kernel_rfl)))
              have HI0 := y0.mk (Q_HI0_e5 (hon 5 (by kernel_rfl)))
              obtain ⟨c_,hv_⟩ := HA_HO673.out
              have hF_ := HO673.out
              rw [hv_] at hF_
              obtain ⟨ad_,ea_,hx_⟩ := Kd.at_string (Kd.R_reads' hF_).2.2 t674 (of_eq_true pi677) (of_eq_true qi677)
              cases ea_
              refine value_ (w1 := w') (v := .string (rdOf ByteArray.empty y671 t674)) (by rfl) rfl ?_ ?_
              ·go_simp
               (try simp only [y14])
               try first | rfl | (have hz_ := c26; (try have hy20_ := of_eq_true c20b0); (try have hy21_ := of_eq_true c21b0); (try have hy22_ := of_eq_true c22b0); (try have hy23_ := of_eq_true c23b0); (try have hy24_ := of_eq_true c24b0); (try have hy25_ := of_eq_true c25b0); (try have hy26_ := of_eq_true c26b0); (try simp only [ByteArray.size_append,ByteArray.size_extract] at hz_); omega) | (have hz_ := c29; (try have hy23_ := of_eq_true c23b0); (try have hy24_ := of_eq_true c24b0); (try have hy25_ := of_eq_true c25b0); (try have hy26_ := of_eq_true c26b0); (try have hy27_ := of_eq_true c27b0); (try have hy28_ := of_eq_true c28b0); (try have hy29_ := of_eq_true c29b0); (try simp only [ByteArray.size_append,ByteArray.size_extract] at hz_); omega) | (have hz_ := c43; (try have hy37_ := of_eq_true c37b0); (try have hy38_ := of_eq_true c38b0); (try have hy39_ := of_eq_true c39b0); (try have hy40_ := of_eq_true c40b0); (try have hy41_ := of_eq_true c41b0); (try have hy42_ := of_eq_true c42b0); (try have hy43_ := of_eq_true c43b0); (try simp only [ByteArray.size_append,ByteArray.size_extract] at hz_); omega) | (have hz_ := c44; (try have hy38_ := of_eq_true c38b0); (try have hy39_ := of_eq_true c39b0); (try have hy40_ := of_eq_true c40b0); (try have hy41_ := of_eq_true c41b0); (try have hy42_ := of_eq_true c42b0); (try have hy43_ := of_eq_true c43b0); (try have hy44_ := of_eq_true c44b0); (try simp only [ByteArray.size_append,ByteArray.size_extract] at hz_); omega)
              refine hK.out _ _ ⟨v672,adz_v672,m6_,(by rw [ha.out]; exact putSel_upk 4 hb_ rfl rfl rfl),fun h0_ => absurd ((hon 5 (by kernel_rfl)).symm.trans h0_) (by decide),Q_HK,Q_HB,Q_HO673,Q_HA_HO673,Q_HI0_e5,Q_X6_⟩
             refine steps_cons ?_ ?_
             ·rintro b a w' ⟨v672,adz_v672,m6_,ha,Q_HI0,Q_HK,Q_HB,Q_HO673,Q_HA_HO673,Q_HI0_e5,Q_X6_⟩ hb_ hon hoff
              refine ⟨_,rfl,fun K hK => ?_⟩
              have e30 : a.tmps[30]? = some (.string (x3_2.extract 0 (t668 : Int).toNat)) := by rw [ha]; exact putSel_on (e := (2,30,.string (x3_2.extract 0 (t668 : Int).toNat))) 0 rfl rfl (hon 2 (by kernel_rfl)) rfl
              have e35 : a.tmps[35]? = some (.string (rdOf ByteArray.empty y671 t674)) := by rw [ha]; exact putSel_on (e := (7,35,.string (rdOf ByteArray.empty y671 t674))) 4 rfl rfl (hon 7 (by kernel_rfl)) rfl
              replace ha := y0.mk ha
              have HK := y0.mk Q_HK
              have HB := y0.mk Q_HB
              have HO673 := y0.mk (Q_HO673 (hon 3 (by kernel_rfl)))
              have HA_HO673 := y0.mk (Q_HA_HO673 (hon 3 (by kernel_rfl)))
              have HI0 := y0.mk (Q_HI0_e5 (hon 5 (by kernel_rfl)))
              refine value_ (w1 := w') (v := .string ((x3_2.extract 0 (t668 : Int).toNat) ++ (rdOf ByteArray.empty y671 t674))) (by rfl) rfl ?_ ?_
              ·go_simp
               (try simp only [y14])
               try first | rfl | (have hz_ := c26; (try have hy20_ := of_eq_true c20b0); (try have hy21_ := of_eq_true c21b0); (try have hy22_ := of_eq_true c22b0); (try have hy23_ := of_eq_true c23b0); (try have hy24_ := of_eq_true c24b0); (try have hy25_ := of_eq_true c25b0); (try have hy26_ := of_eq_true c26b0); (try simp only [ByteArray.size_append,ByteArray.size_extract] at hz_); omega) | (have hz_ := c29; (try have hy23_ := of_eq_true c23b0); (try have hy24_ := of_eq_true c24b0); (try have hy25_ := of_eq_true c25b0); (try have hy26_ := of_eq_true c26b0); (try have hy27_ := of_eq_true c27b0); (try have hy28_ := of_eq_true c28b0); (try have hy29_ := of_eq_true c29b0); (try simp only [ByteArray.size_append,ByteArray.size_extract] at hz_); omega) | (have hz_ := c43; (try have hy37_ := of_eq_true c37b0); (try have hy38_ := of_eq_true c38b0); (try have hy39_ := of_eq_true c39b0); (try have hy40_ := of_eq_true c40b0); (try have hy41_ := of_eq_true c41b0); (try have hy42_ := of_eq_true c42b0); (try have hy43_ := of_eq_true c43b0); (try simp only [ByteArray.size_append,ByteArray.size_extract] at hz_); omega) | (have hz_ := c44; (try have hy38_ := of_eq_true c38b0); (try have hy39_ := of_eq_true c39b0); (try have hy40_ := of_eq_true c40b0); (try have hy41_ := of_eq_true c41b0); (try have hy42_ := of_eq_true c42b0); (try have hy43_ := of_eq_true c43b0); (try have hy44_ := of_eq_true c44b0); (try simp only [ByteArray.size_append,ByteArray.size_extract] at hz_); omega)
              refine hK.out _ _ ⟨v672,adz_v672,m6_,(by rw [ha.out]; exact putSel_upk 5 hb_ rfl rfl rfl),fun h0_ => absurd ((hon 5 (by kernel_rfl)).symm.trans h0_) (by decide),Q_HK,Q_HB,Q_HO673,Q_HA_HO673,Q_HI0_e5,Q_X6_⟩
             refine steps_cons ?_ ?_
             ·rintro b a w' ⟨v672,adz_v672,m6_,ha,Q_HI0,Q_HK,Q_HB,Q_HO673,Q_HA_HO673,Q_HI0_e5,Q_X6_⟩ hb_ hon hoff
              refine ⟨_,rfl,fun K hK => ?_⟩
              have e37 : a.tmps[37]? = some (.string x3_2) := by rw [ha]; exact (putSel_off rfl).trans rfl
              have e38 : a.tmps[38]? = some (.int .i64 t668) := by rw [ha]; exact (putSel_off rfl).trans rfl
              replace ha := y0.mk ha
              have HK := y0.mk Q_HK
              have HB := y0.mk Q_HB
              refine value_ (w1 := w') (v := .string (x3_2.extract (t668 : Int).toNat x3_2.size)) (by rfl) rfl ?_ ?_
              ·go_simp
               (try simp only [y14])
               try first | rfl | (have hz_ := c26; (try have hy20_ := of_eq_true c20b0); (try have hy21_ := of_eq_true c21b0); (try have hy22_ := of_eq_true c22b0); (try have hy23_ := of_eq_true c23b0); (try have hy24_ := of_eq_true c24b0); (try have hy25_ := of_eq_true c25b0); (try have hy26_ := of_eq_true c26b0); (try simp only [ByteArray.size_append,ByteArray.size_extract] at hz_); omega) | (have hz_ := c29; (try have hy23_ := of_eq_true c23b0); (try have hy24_ := of_eq_true c24b0); (try have hy25_ := of_eq_true c25b0); (try have hy26_ := of_eq_true c26b0); (try have hy27_ := of_eq_true c27b0); (try have hy28_ := of_eq_true c28b0); (try have hy29_ := of_eq_true c29b0); (try simp only [ByteArray.size_append,ByteArray.size_extract] at hz_); omega) | (have hz_ := c43; (try have hy37_ := of_eq_true c37b0); (try have hy38_ := of_eq_true c38b0); (try have hy39_ := of_eq_true c39b0); (try have hy40_ := of_eq_true c40b0); (try have hy41_ := of_eq_true c41b0); (try have hy42_ := of_eq_true c42b0); (try have hy43_ := of_eq_true c43b0); (try simp only [ByteArray.size_append,ByteArray.size_extract] at hz_); omega) | (have hz_ := c44; (try have hy38_ := of_eq_true c38b0); (try have hy39_ := of_eq_true c39b0); (try have hy40_ := of_eq_true c40b0); (try have hy41_ := of_eq_true c41b0); (try have hy42_ := of_eq_true c42b0); (try have hy43_ := of_eq_true c43b0); (try have hy44_ := of_eq_true c44b0); (try simp only [ByteArray.size_append,ByteArray.size_extract] at hz_); omega)
              refine hK.out _ _ ⟨v672,adz_v672,m6_,(by rw [ha.out]; exact putSel_upk 6 hb_ rfl rfl rfl),Q_HI0,Q_HK,Q_HB,Q_HO673,Q_HA_HO673,Q_HI0_e5,Q_X6_⟩
             refine steps_cons ?_ ?_
             ·rintro b a w' ⟨v672,adz_v672,m6_,ha,Q_HI0,Q_HK,Q_HB,Q_HO673,Q_HA_HO673,Q_HI0_e5,Q_X6_⟩ hb_ hon hoff
              refine ⟨_,rfl,fun K hK => ?_⟩
              have e36 : a.tmps[36]? = some (.string ((x3_2.extract 0 (t668 : Int).toNat) ++ (rdOf ByteArray.empty y671 t674))) := by rw [ha]; exact putSel_on (e := (8,36,.string ((x3_2.extract 0 (t668 : Int).toNat) ++ (rdOf ByteArray.empty y671 t674)))) 5 rfl rfl (hon 8 (by kernel_rfl)) rfl
              have e39 : a.tmps[39]? = some (.string (x3_2.extract (t668 : Int).toNat x3_2.size)) := by rw [ha]; exact putSel_on (e := (11,39,.string (x3_2.extract (t668 : Int).toNat x3_2.size))) 6 rfl rfl (hon 11 (by kernel_rfl)) rfl
              replace ha := y0.mk ha
              have HK := y0.mk Q_HK
              have HB := y0.mk Q_HB
              have HO673 := y0.mk (Q_HO673 (hon 3 (by kernel_rfl)))
              have HA_HO673 := y0.mk (Q_HA_HO673 (hon 3 (by kernel_rfl)))
              have HI0 := y0.mk (Q_HI0_e5 (hon 5 (by kernel_rfl)))
              refine value_ (w1 := w') (v := .string (((x3_2.extract 0 (t668 : Int).toNat) ++ (rdOf ByteArray.empty y671 t674)) ++ (x3_2.extract (t668 : Int).toNat x3_2.size))) (by rfl) rfl ?_ ?_
              ·go_simp
               (try simp only [y14])
               try first | rfl | (have hz_ := c26; (try have hy20_ := of_eq_true c20b0); (try have hy21_ := of_eq_true c21b0); (try have hy22_ := of_eq_true c22b0); (try have hy23_ := of_eq_true c23b0); (try have hy24_ := of_eq_true c24b0); (try have hy25_ := of_eq_true c25b0); (try have hy26_ := of_eq_true c26b0); (try simp only [ByteArray.size_append,ByteArray.size_extract] at hz_); omega) | (have hz_ := c29; (try have hy23_ := of_eq_true c23b0); (try have hy24_ := of_eq_true c24b0); (try have hy25_ := of_eq_true c25b0); (try have hy26_ := of_eq_true c26b0); (try have hy27_ := of_eq_true c27b0); (try have hy28_ := of_eq_true c28b0); (try have hy29_ := of_eq_true c29b0); (try simp only [ByteArray.size_append,ByteArray.size_extract] at hz_); omega) | (have hz_ := c43; (try have hy37_ := of_eq_true c37b0); (try have hy38_ := of_eq_true c38b0); (try have hy39_ := of_eq_true c39b0); (try have hy40_ := of_eq_true c40b0); (try have hy41_ := of_eq_true c41b0); (try have hy42_ := of_eq_true c42b0); (try have hy43_ := of_eq_true c43b0); (try simp only [ByteArray.size_append,ByteArray.size_extract] at hz_); omega) | (have hz_ := c44; (try have hy38_ := of_eq_true c38b0); (try have hy39_ := of_eq_true c39b0); (try have hy40_ := of_eq_true c40b0); (try have hy41_ := of_eq_true c41b0); (try have hy42_ := of_eq_true c42b0); (try have hy43_ := of_eq_true c43b0); (try have hy44_ := of_eq_true c44b0); (try simp only [ByteArray.size_append,ByteArray.size_extract] at hz_); omega)
              refine hK.out _ _ ⟨v672,adz_v672,m6_,(by rw [ha.out]; exact putSel_upk 7 hb_ rfl rfl rfl),fun h0_ => absurd ((hon 5 (by kernel_rfl)).symm.trans h0_) (by decide),Q_HK,Q_HB,Q_HO673,Q_HA_HO673,Q_HI0_e5,Q_X6_⟩
             refine steps_cons ?_ ?_
             ·rintro b a w' ⟨v672,adz_v672,m6_,ha,Q_HI0,Q_HK,Q_HB,Q_HO673,Q_HA_HO673,Q_HI0_e5,Q_X6_⟩ hb_ hon hoff
              refine ⟨_,rfl,fun K hK => ?_⟩
              have e40 : a.tmps[40]? = some (.string (((x3_2.extract 0 (t668 : Int).toNat) ++ (rdOf ByteArray.empty y671 t674)) ++ (x3_2.extract (t668 : Int).toNat x3_2.size))) := by rw [ha]; exact putSel_on (e := (12,40,.string (((x3_2.extract 0 (t668 : Int).toNat) ++ (rdOf ByteArray.empty y671 t674)) ++ (x3_2.extract (t668 : Int).toNat x3_2.size)))) 7 rfl rfl (hon 12 (by kernel_rfl)) rfl
              replace ha := y0.mk ha
              have HK := y0.mk Q_HK
              have HB := y0.mk Q_HB
              have HO673 := y0.mk (Q_HO673 (hon 3 (by kernel_rfl)))
              have HA_HO673 := y0.mk (Q_HA_HO673 (hon 3 (by kernel_rfl)))
              have HI0 := y0.mk (Q_HI0_e5 (hon 5 (by kernel_rfl)))
              refine value_ (w1 := w') (v := .string (((x3_2.extract 0 (t668 : Int).toNat) ++ (rdOf ByteArray.empty y671 t674)) ++ (x3_2.extract (t668 : Int).toNat x3_2.size))) (by rfl) rfl ?_ ?_
              ·go_simp
               (try simp only [y14])
               try first | rfl | (have hz_ := c26; (try have hy20_ := of_eq_true c20b0); (try have hy21_ := of_eq_true c21b0); (try have hy22_ := of_eq_true c22b0); (try have hy23_ := of_eq_true c23b0); (try have hy24_ := of_eq_true c24b0); (try have hy25_ := of_eq_true c25b0); (try have hy26_ := of_eq_true c26b0); (try simp only [ByteArray.size_append,ByteArray.size_extract] at hz_); omega) | (have hz_ := c29; (try have hy23_ := of_eq_true c23b0); (try have hy24_ := of_eq_true c24b0); (try have hy25_ := of_eq_true c25b0); (try have hy26_ := of_eq_true c26b0); (try have hy27_ := of_eq_true c27b0); (try have hy28_ := of_eq_true c28b0); (try have hy29_ := of_eq_true c29b0); (try simp only [ByteArray.size_append,ByteArray.size_extract] at hz_); omega) | (have hz_ := c43; (try have hy37_ := of_eq_true c37b0); (try have hy38_ := of_eq_true c38b0); (try have hy39_ := of_eq_true c39b0); (try have hy40_ := of_eq_true c40b0); (try have hy41_ := of_eq_true c41b0); (try have hy42_ := of_eq_true c42b0); (try have hy43_ := of_eq_true c43b0); (try simp only [ByteArray.size_append,ByteArray.size_extract] at hz_); omega) | (have hz_ := c44; (try have hy38_ := of_eq_true c38b0); (try have hy39_ := of_eq_true c39b0); (try have hy40_ := of_eq_true c40b0); (try have hy41_ := of_eq_true c41b0); (try have hy42_ := of_eq_true c42b0); (try have hy43_ := of_eq_true c43b0); (try have hy44_ := of_eq_true c44b0); (try simp only [ByteArray.size_append,ByteArray.size_extract] at hz_); omega)
              refine hK.out _ _ ⟨v672,adz_v672,m6_,(by rw [ha.out]; exact putSel_upk 8 hb_ rfl rfl rfl),fun h0_ => absurd ((hon 5 (by kernel_rfl)).symm.trans h0_) (by decide),Q_HK,Q_HB,Q_HO673,Q_HA_HO673,Q_HI0_e5,Q_X6_⟩
             exact steps_nil
            rintro b a w38 hall ⟨v672,adz_v672,m6_,ha,Q_HI0,Q_HK,Q_HB,Q_HO673,Q_HA_HO673,Q_HI0_e5,Q_X6_⟩
            clear HB HI0 HK
            have hb2_ := hall 2 (by kernel_rfl)
            have hb3_ := hall 3 (by kernel_rfl)
            have hb5_ := hall 5 (by kernel_rfl)
            have hb6_ := hall 6 (by kernel_rfl)
            have hb7_ := hall 7 (by kernel_rfl)
            have hb8_ := hall 8 (by kernel_rfl)
            have hb11_ := hall 11 (by kernel_rfl)
            have hb12_ := hall 12 (by kernel_rfl)
            have hb13_ := hall 13 (by kernel_rfl)
            subst ha
            obtain rfl := Q_X6_ hb6_
            simp only [putSel,hb2_,hb3_,hb5_,hb6_,hb7_,hb8_,hb11_,hb12_,hb13_,if_true,Act.put,qS_,qZ_,qC_]
            clear Q_HI0
            have HK := y0.mk Q_HK
            clear Q_HK
            have HB := y0.mk Q_HB
            clear Q_HB
            have HO673 := y0.mk (Q_HO673 hb3_)
            clear Q_HO673
            have HA_HO673 := y0.mk (Q_HA_HO673 hb3_)
            clear Q_HA_HO673
            have HI0 := y0.mk (Q_HI0_e5 hb5_)
            clear Q_HI0_e5
            clear hall hb2_ hb3_ hb5_ hb6_ hb7_ hb8_ hb11_ hb12_ hb13_
            obtain ⟨co39,eo39⟩ := HA_HO673.out
            clear HA_HO673
            subst eo39
            try go_wp2
            go_ret
            exact ⟨by first | rfl | (simp [y9,y10] <;> rfl) | (simp [*,y9,y10] <;> rfl),by repeat (first | (with_reducible first | exact HI0.out | apply y2.alloc | apply y2.drewN | apply y2.drew | apply y2.set_1 | apply y2.set_2) | exact HI0.out),by repeat (first | (with_reducible first | exact HB.out | apply y5 | apply y18 | apply y6 | refine y7 ?_ (y2.ge HI0.out)) | exact HB.out),by repeat (first | (with_reducible first | exact HK.out | apply y3.set_ | apply y17 | apply y16 | apply y15) | exact HK.out)⟩
           ·rw [if_neg c29] at H
            exact absurd H (by simp)
          ·rw [if_neg c26] at H
           exact absurd H (by simp)
         ·rw [if_neg c25] at H
          exact absurd H (by simp)
        ·rw [if_neg c24] at H
         exact absurd H (by simp)
       ·rw [if_neg c22] at H
        exact absurd H (by simp)
      ·rw [if_neg c21] at H
       exact absurd H (by simp)
     ·rw [if_neg c19] at H
      have c19b0 : (t658 == 1) = false := beq_eq_false_iff_ne.mpr c19
      have c19b1 : (t658 != 1) = true := bne_iff_ne.mpr c19
      have H' := y0.mk H
      clear H
      go_wp2_with (first | ((with_reducible refine y11 (f := 118) rfl ?_); refine y12 (some 11) rfl rfl Tryd.func118 (by kernel_rfl) rfl #[.pointer (some ⟨g,0,none⟩),.int .i64 5] rfl (by (try simp only [qM_,List.map_cons,List.map_nil]); first | done | rfl | (simp only [qD_,qT_]; rfl)) ?_; (with_reducible refine (spec_l01Cur_once.calls g s0_0 t653 t654 5 true t656 t657 w0 _ ?side1 ?side2 A6.out).mono ?_); (case side1 => repeat (first | (with_reducible first | exact HI0.out | apply y2.alloc | apply y2.drewN | apply y2.drew | apply y2.set_1 | apply y2.set_2) | exact HI0.out)); (case side2 => repeat (first | (with_reducible first | exact HB.out | apply y5 | apply y18 | apply y6 | refine y7 ?_ (y2.ge HI0.out)) | exact HB.out)); rintro e w40 ⟨rfl,hi,hb,hk⟩; refine ⟨_,rfl, ?_⟩; have n0_ := y0.mk (y3.trans (by repeat (first | (with_reducible first | exact HK.out | apply y3.set_ | apply y17 | apply y16 | apply y15) | exact HK.out)) hk (.inl rfl)); have n1_ := y0.mk (hb); have n2_ := y0.mk (hi); clear HK; clear HB; clear HI0; have HK := n0_; have HB := n1_; have HI0 := n2_; clear n0_ n1_ n2_; (try clear hb); (try clear hb2); (try clear hk); (try clear hi)) | ((with_reducible refine y11 (f := 70) rfl ?_); refine y12 (some 13) rfl rfl Tryd.func70 (by kernel_rfl) rfl #[.pointer (some ⟨g,0,none⟩),.int .i64 3] rfl (by (try simp only [qM_,List.map_cons,List.map_nil]); first | done | rfl | (simp only [qD_,qT_]; rfl)) ?_; (with_reducible refine (z6_.calls g s0_0 t656 t657 3 t658 t659 t660 w0 _ ?side1 ?side2 A8.out).mono ?_); (case side1 => repeat (first | (with_reducible first | exact HI0.out | apply y2.alloc | apply y2.drewN | apply y2.drew | apply y2.set_1 | apply y2.set_2) | exact HI0.out)); (case side2 => repeat (first | (with_reducible first | exact HB.out | apply y5 | apply y18 | apply y6 | refine y7 ?_ (y2.ge HI0.out)) | exact HB.out)); rintro e w41 ⟨rfl,hi,hb,hk⟩; refine ⟨_,rfl, ?_⟩; have n0_ := y0.mk (y3.trans (by repeat (first | (with_reducible first | exact HK.out | apply y3.set_ | apply y17 | apply y16 | apply y15) | exact HK.out)) hk (.inl rfl)); have n1_ := y0.mk (hb); have n2_ := y0.mk (hi); clear HK; clear HB; clear HI0; have HK := n0_; have HB := n1_; have HI0 := n2_; clear n0_ n1_ n2_; (try clear hb); (try clear hb2); (try clear hk); (try clear hi)))
      go_loopg [3] kj2 (fun kq v3 w' => ∃ (x3_2 : ByteArray),v3 = .string x3_2 ∧ y0 (z5_.l0 kq x3_2 s0_0 t659 t660 = some (r1,r2,r3)) ∧ y0 (kq ≤ kj2) ∧ y0 (y2 w0 w' g s0_0 t659 t660) ∧ y0 (y3 w w' g none) ∧ y0 (Below w0.heap.size w0 w'))
      case atStart => exact ⟨(x3_2),(by first | rfl | (simp; done) | (simp [*]; done)),H',⟨Nat.le_refl _⟩,⟨by repeat (first | (with_reducible first | exact HI0.out | apply y2.alloc | apply y2.drewN | apply y2.drew | apply y2.set_1 | apply y2.set_2) | exact HI0.out)⟩,⟨by repeat (first | (with_reducible first | exact HK.out | apply y3.set_ | apply y17 | apply y16 | apply y15) | exact HK.out)⟩,⟨by repeat (first | (with_reducible first | exact HB.out | apply y5 | apply y18 | apply y6 | refine y7 ?_ (y2.ge HI0.out)) | exact HB.out)⟩⟩
      case round =>
       clear H'
       try clear c1
       try clear c2
       try clear p2
       try clear c5
       try clear c5b0
       try clear c5b1
       try clear p6
       try clear q6
       try clear hx6
       try clear qi6
       try clear c7
       try clear c9
       try clear c9b0
       try clear c9b1
       try clear c11
       try clear c11b0
       try clear c12
       try clear c12b0
       try clear c19
       try clear c19b0
       try clear c19b1
       try clear c21
       try clear c21b0
       try clear c21b1
       try clear c22
       try clear c22b0
       try clear c22b1
       try clear c24
       try clear c24b0
       try clear c25
       try clear c25b0
       try clear c26
       try clear c26b0
       try clear c26b1
       try clear c26b2
       try clear c27
       try clear c27b0
       try clear c28
       try clear c28b0
       try clear c29
       try clear c29b0
       try clear c29b1
       try clear c29b2
       try clear hx667_0
       try clear p2
       try clear p667
       try clear q667
       obtain ⟨x3_2,rfl,HA,HK2,HI0,HK,HB⟩ := hrel
       cases gk with
       | zero => exact absurd HA.out (by simp [z5_.l0])
       | succ k2 =>
        have H := HA.out
        clear HA
        simp only [z5_.l0] at H
        by_cases c42 : (x3_2.size : Int) ≤ 200
        ·rw [if_pos c42] at H
         have c42b0 : decide ((x3_2.size : Int) ≤ 200) = true := decide_eq_true c42
         have c42b1 : decide (x3_2.size ≤ 200) = true := decide_eq_true (by omega)
         clear c42
         by_cases c43 : 2 + x3_2.size ≤ 9223372036854775807
         ·rw [if_pos c43] at H
          have c43b0 := eq_true c43
          have c43b1 : decide (2 + x3_2.size ≤ 9223372036854775807) = true := decide_eq_true c43
          try have c43b2 : (9223372036854775807 < 2 + x3_2.size) = False := eq_false (Nat.not_lt.2 c43)
          by_cases c44 : ((⟨#[83,40]⟩ : ByteArray) ++ x3_2).size + 1 ≤ 9223372036854775807
          ·rw [if_pos c44] at H
           have c44b0 := eq_true c44
           have c44b1 : decide (((⟨#[83,40]⟩ : ByteArray) ++ x3_2).size + 1 ≤ 9223372036854775807) = true := decide_eq_true c44
           try have c44b2 : (9223372036854775807 < ((⟨#[83,40]⟩ : ByteArray) ++ x3_2).size + 1) = False := eq_false (Nat.not_lt.2 c44)
           try have c44b3 : (9223372036854775807 < 2 + x3_2.size + 1) = False := (congrArg (fun n_ => (9223372036854775807 < n_)) (show 2 + x3_2.size + 1 = ((⟨#[83,40]⟩ : ByteArray) ++ x3_2).size + 1 by (simp only [ByteArray.size_append]; try rfl))).trans c44b2
           have H' := y0.mk H
           clear H
           go_wp2
           go_roundg k2
           case measure => have := HJ2.out; have := HK2.out; omega
           case rel => exact ⟨(((⟨#[83,40]⟩ : ByteArray) ++ x3_2) ++ (⟨#[41]⟩ : ByteArray)),(by first | rfl | (simp; done) | (simp [*]; done)),H',⟨by have := HJ2.out; have := HK2.out; omega⟩,⟨by repeat (first | (with_reducible first | exact HI0.out | apply y2.alloc | apply y2.drewN | apply y2.drew | apply y2.set_1 | apply y2.set_2) | exact HI0.out)⟩,⟨by repeat (first | (with_reducible first | exact HK.out | apply y3.set_ | apply y17 | apply y16 | apply y15) | exact HK.out)⟩,⟨by repeat (first | (with_reducible first | exact HB.out | apply y5 | apply y18 | apply y6 | refine y7 ?_ (y2.ge HI0.out)) | exact HB.out)⟩⟩
          ·rw [if_neg c44] at H
           exact absurd H (by simp)
         ·rw [if_neg c43] at H
          exact absurd H (by simp)
        ·rw [if_neg c42] at H
         have c42b0 : decide ((x3_2.size : Int) ≤ 200) = false := decide_eq_false c42
         have c42b1 : decide (x3_2.size ≤ 200) = false := decide_eq_false (by omega)
         clear c42
         simp only [Option.some.injEq,Prod.mk.injEq] at H
         obtain ⟨rfl,rfl,rfl⟩ := H
         go_wp2
         go_ret
         exact ⟨by first | rfl | (simp [y9,y10] <;> rfl) | (simp [*,y9,y10] <;> rfl),by repeat (first | (with_reducible first | exact HI0.out | apply y2.alloc | apply y2.drewN | apply y2.drew | apply y2.set_1 | apply y2.set_2) | exact HI0.out),by repeat (first | (with_reducible first | exact HB.out | apply y5 | apply y18 | apply y6 | refine y7 ?_ (y2.ge HI0.out)) | exact HB.out),by repeat (first | (with_reducible first | exact HK.out | apply y3.set_ | apply y17 | apply y16 | apply y15) | exact HK.out)⟩
   ·replace c7 := Bool.eq_false_iff.mpr c7
    subst c7
    have H1 : (some (x3_2,t656,t657)) = some (r1,r2,r3) := by rw [if_neg (show ¬ (false = true) by decide)] at H; exact H
    clear H
    have H := H1
    clear H1
    simp only [Option.some.injEq,Prod.mk.injEq] at H
    obtain ⟨rfl,rfl,rfl⟩ := H
    go_wp2_with (first | ((with_reducible refine y11 (f := 118) rfl ?_); refine y12 (some 11) rfl rfl Tryd.func118 (by kernel_rfl) rfl #[.pointer (some ⟨g,0,none⟩),.int .i64 5] rfl (by (try simp only [qM_,List.map_cons,List.map_nil]); first | done | rfl | (simp only [qD_,qT_]; rfl)) ?_; (with_reducible refine (spec_l01Cur_once.calls g s0_0 t653 t654 5 false t656 t657 w0 _ ?side1 ?side2 A6.out).mono ?_); (case side1 => repeat (first | (with_reducible first | exact HI0.out | apply y2.alloc | apply y2.drewN | apply y2.drew | apply y2.set_1 | apply y2.set_2) | exact HI0.out)); (case side2 => repeat (first | (with_reducible first | exact HB.out | apply y5 | apply y18 | apply y6 | refine y7 ?_ (y2.ge HI0.out)) | exact HB.out)); rintro e w45 ⟨rfl,hi,hb,hk⟩; refine ⟨_,rfl, ?_⟩; have n0_ := y0.mk (y3.trans (by repeat (first | (with_reducible first | exact HK.out | apply y3.set_ | apply y17 | apply y16 | apply y15) | exact HK.out)) hk (.inl rfl)); have n1_ := y0.mk (hb); have n2_ := y0.mk (hi); clear HK; clear HB; clear HI0; have HK := n0_; have HB := n1_; have HI0 := n2_; clear n0_ n1_ n2_; (try clear hb); (try clear hb2); (try clear hk); (try clear hi)))
    go_ret
    exact ⟨by first | rfl | (simp [y9,y10] <;> rfl) | (simp [*,y9,y10] <;> rfl),by repeat (first | (with_reducible first | exact HI0.out | apply y2.alloc | apply y2.drewN | apply y2.drew | apply y2.set_1 | apply y2.set_2) | exact HI0.out),by repeat (first | (with_reducible first | exact HB.out | apply y5 | apply y18 | apply y6 | refine y7 ?_ (y2.ge HI0.out)) | exact HB.out),by repeat (first | (with_reducible first | exact HK.out | apply y3.set_ | apply y17 | apply y16 | apply y15) | exact HK.out)⟩
end Go.Proofs.YtebadckdihgklaaDoor.Pb
end
section
namespace Go.Proofs.YtebadckdihgklaaDoor.Pb
open Go.RowKit Go.Proofs.YtebadckdihgklaaDoorW.PrintWords Go.Proofs.YtebadckdihgklaaDoorW.PrintLast Go.Proofs.YtebadckdihgklaaDoorW.PrintMore
attribute [local go_sem] max2_int min2_int max_two min_two max_three min_three max_four min_four   -- for this text's walks alone
set_option linter.unusedVariables false
set_option linter.unusedSimpArgs false
def spec_DrawTermCmp.f (k : Nat) (l0 : List Int) : Option (ByteArray × ByteArray) := (spec_l01Open.f l0).bind fun bt716 => ((z5_.f k bt716.1 bt716.2.1 bt716.2.2).bind fun bt720 => ((z6_.f bt716.1 bt720.2.1 bt720.2.2 5).bind fun bt723 => (if bt723.1 = 0 then (some (bt720.1,bt720.1)) else ((z5_.f k bt716.1 bt723.2.1 bt723.2.2).bind fun bt726 => (some (bt720.1,bt726.1))))))
set_option maxHeartbeats 8000000 in
set_option maxRecDepth 100000 in
theorem spec_DrawTermCmp.calls (k : Nat) (A0 : Option Addr) (c0 : Nat) (l0 : List Int) (r1 : ByteArray) (r2 : ByteArray) (w : World) (hr0 : Kd.C (Kd.int .u8) w A0 l0.length l0) (hc0 : l0.length ≤ c0) (h : spec_DrawTermCmp.f k l0 = some (r1,r2)) :
  Calls Tryd.prog 57 #[.slice A0 l0.length c0] w fun e w' => e = .returned (.tuple #[.string r1,.string r2]) ∧ Below w.heap.size w w' := by
 have HR0 := y0.mk hr0
 have HC0 := y0.mk hc0
 clear hr0 hc0
 have HB := y0.mk (Below.refl w.heap.size w)
 have H : ((spec_l01Open.f l0).bind fun bt716 => ((z5_.f k bt716.1 bt716.2.1 bt716.2.2).bind fun bt720 => ((z6_.f bt716.1 bt720.2.1 bt720.2.2 5).bind fun bt723 => (if bt723.1 = 0 then (some (bt720.1,bt720.1)) else ((z5_.f k bt716.1 bt723.2.1 bt723.2.2).bind fun bt726 => (some (bt720.1,bt726.1))))))) = some (r1,r2) := h
 clear h
 replace H := Option.bind_eq_some_iff.mp H
 obtain ⟨⟨t716,t717,t718⟩,A20,H⟩ := H
 replace H : ((z5_.f k t716 t717 t718).bind fun bt720 => ((z6_.f t716 bt720.2.1 bt720.2.2 5).bind fun bt723 => (if bt723.1 = 0 then (some (bt720.1,bt720.1)) else ((z5_.f k t716 bt723.2.1 bt723.2.2).bind fun bt726 => (some (bt720.1,bt726.1)))))) = some (r1,r2) := H
 have A2 := y0.mk A20
 clear A20
 replace H := Option.bind_eq_some_iff.mp H
 obtain ⟨⟨t720,t721,t722⟩,A30,H⟩ := H
 replace H : ((z6_.f t716 t721 t722 5).bind fun bt723 => (if bt723.1 = 0 then (some (t720,t720)) else ((z5_.f k t716 bt723.2.1 bt723.2.2).bind fun bt726 => (some (t720,bt726.1))))) = some (r1,r2) := H
 have A3 := y0.mk A30
 clear A30
 replace H := Option.bind_eq_some_iff.mp H
 obtain ⟨⟨t723,t724,t725⟩,A40,H⟩ := H
 replace H : (if t723 = 0 then (some (t720,t720)) else ((z5_.f k t716 t724 t725).bind fun bt726 => (some (t720,bt726.1)))) = some (r1,r2) := H
 have A4 := y0.mk A40
 clear A40
 by_cases c5 : t723 = 0
 ·rw [if_pos c5] at H
  have c5b0 : (t723 == 0) = true := beq_iff_eq.mpr c5
  have c5b1 : (t723 != 0) = false := bne_eq_false_iff_eq.mpr c5
  clear c5
  simp only [Option.some.injEq,Prod.mk.injEq] at H
  obtain ⟨rfl,rfl⟩ := H
  go_enter Tryd.func57,Tryd.ntmps57
  go_wp2_with (first | ((with_reducible refine y11 (f := 68) rfl ?_); refine y12 (some 7) rfl rfl Tryd.func68 (by kernel_rfl) rfl #[.slice A0 l0.length c0] rfl (by (try simp only [qM_,List.map_cons,List.map_nil]); first | done | rfl | (simp only [qD_,qT_]; rfl)) ?_; (with_reducible refine (spec_l01Open.calls _ _ l0 t716 t717 t718 w _ ?side1 ?side2 ?side3 A2.out).mono ?_); (case side1 => repeat (first | (with_reducible first | exact HB.out | apply y5 | apply y18 | apply y6) | exact HB.out)); (case side2 => exact HR0.out); (case side3 => exact HC0.out); rintro e w6 ⟨g719,rfl,hi,hb,hb2⟩; refine ⟨_,rfl, ?_⟩; have n0_ := y0.mk (hb); have n1_ := y0.mk (hi); clear HB; have HB := n0_; have HI719 := n1_; clear n0_ n1_; (try clear hb); (try clear hb2); (try clear hk); (try clear hi)) | ((with_reducible refine y11 (f := 93) rfl ?_); refine y12 (some 9) rfl rfl Tryd.func93 (by kernel_rfl) rfl #[.pointer (some ⟨g719,0,none⟩)] rfl (by (try simp only [qM_,List.map_cons,List.map_nil]); first | done | rfl | (simp only [qD_,qT_]; rfl)) ?_; (with_reducible refine (z5_.calls k g719 t716 t717 t718 t720 t721 t722 w _ ?side1 ?side2 A3.out).mono ?_); (case side1 => repeat (first | (with_reducible first | exact HI719.out | apply y2.alloc | apply y2.drewN | apply y2.drew | apply y2.set_1 | apply y2.set_2) | exact HI719.out)); (case side2 => repeat (first | (with_reducible first | exact HB.out | apply y5 | apply y18 | apply y6 | refine y7 ?_ (y2.ge HI719.out)) | exact HB.out)); rintro e w7 ⟨rfl,hi,hb,hk⟩; refine ⟨_,rfl, ?_⟩; have n0_ := y0.mk (hb); have n1_ := y0.mk (hi); clear HB; clear HI719; have HB := n0_; have HI719 := n1_; clear n0_ n1_; (try clear hb); (try clear hb2); (try clear hk); (try clear hi)) | ((with_reducible refine y11 (f := 70) rfl ?_); refine y12 (some 11) rfl rfl Tryd.func70 (by kernel_rfl) rfl #[.pointer (some ⟨g719,0,none⟩),.int .i64 5] rfl (by (try simp only [qM_,List.map_cons,List.map_nil]); first | done | rfl | (simp only [qD_,qT_]; rfl)) ?_; (with_reducible refine (z6_.calls g719 t716 t721 t722 5 t723 t724 t725 w _ ?side1 ?side2 A4.out).mono ?_); (case side1 => repeat (first | (with_reducible first | exact HI719.out | apply y2.alloc | apply y2.drewN | apply y2.drew | apply y2.set_1 | apply y2.set_2) | exact HI719.out)); (case side2 => repeat (first | (with_reducible first | exact HB.out | apply y5 | apply y18 | apply y6 | refine y7 ?_ (y2.ge HI719.out)) | exact HB.out)); rintro e w8 ⟨rfl,hi,hb,hk⟩; refine ⟨_,rfl, ?_⟩; have n0_ := y0.mk (hb); have n1_ := y0.mk (hi); clear HB; clear HI719; have HB := n0_; have HI719 := n1_; clear n0_ n1_; (try clear hb); (try clear hb2); (try clear hk); (try clear hi)))
  go_ret2
  exact ⟨by first | rfl | (simp [y9,y10] <;> rfl) | (simp [*,y9,y10] <;> rfl),by repeat (first | (with_reducible first | exact HB.out | apply y5 | apply y18 | apply y6 | refine y7 ?_ (y2.ge HI719.out)) | exact HB.out)⟩
 ·rw [if_neg c5] at H
  have c5b0 : (t723 == 0) = false := beq_eq_false_iff_ne.mpr c5
  have c5b1 : (t723 != 0) = true := bne_iff_ne.mpr c5
  replace H := Option.bind_eq_some_iff.mp H
  obtain ⟨⟨t726,t727,t728⟩,A90,H⟩ := H
  replace H : (some (t720,t726)) = some (r1,r2) := H
  have A9 := y0.mk A90
  clear A90
  simp only [Option.some.injEq,Prod.mk.injEq] at H
  obtain ⟨rfl,rfl⟩ := H
  go_enter Tryd.func57,Tryd.ntmps57
  go_wp2_with (first | ((with_reducible refine y11 (f := 68) rfl ?_); refine y12 (some 7) rfl rfl Tryd.func68 (by kernel_rfl) rfl #[.slice A0 l0.length c0] rfl (by (try simp only [qM_,List.map_cons,List.map_nil]); first | done | rfl | (simp only [qD_,qT_]; rfl)) ?_; (with_reducible refine (spec_l01Open.calls _ _ l0 t716 t717 t718 w _ ?side1 ?side2 ?side3 A2.out).mono ?_); (case side1 => repeat (first | (with_reducible first | exact HB.out | apply y5 | apply y18 | apply y6) | exact HB.out)); (case side2 => exact HR0.out); (case side3 => exact HC0.out); rintro e w10 ⟨g719,rfl,hi,hb,hb2⟩; refine ⟨_,rfl, ?_⟩; have n0_ := y0.mk (hb); have n1_ := y0.mk (hi); clear HB; have HB := n0_; have HI719 := n1_; clear n0_ n1_; (try clear hb); (try clear hb2); (try clear hk); (try clear hi)) | ((with_reducible refine y11 (f := 93) rfl ?_); refine y12 (some 9) rfl rfl Tryd.func93 (by kernel_rfl) rfl #[.pointer (some ⟨g719,0,none⟩)] rfl (by (try simp only [qM_,List.map_cons,List.map_nil]); first | done | rfl | (simp only [qD_,qT_]; rfl)) ?_; (with_reducible refine (z5_.calls k g719 t716 t717 t718 t720 t721 t722 w _ ?side1 ?side2 A3.out).mono ?_); (case side1 => repeat (first | (with_reducible first | exact HI719.out | apply y2.alloc | apply y2.drewN | apply y2.drew | apply y2.set_1 | apply y2.set_2) | exact HI719.out)); (case side2 => repeat (first | (with_reducible first | exact HB.out | apply y5 | apply y18 | apply y6 | refine y7 ?_ (y2.ge HI719.out)) | exact HB.out)); rintro e w11 ⟨rfl,hi,hb,hk⟩; refine ⟨_,rfl, ?_⟩; have n0_ := y0.mk (hb); have n1_ := y0.mk (hi); clear HB; clear HI719; have HB := n0_; have HI719 := n1_; clear n0_ n1_; (try clear hb); (try clear hb2); (try clear hk); (try clear hi)) | ((with_reducible refine y11 (f := 70) rfl ?_); refine y12 (some 11) rfl rfl Tryd.func70 (by kernel_rfl) rfl #[.pointer (some ⟨g719,0,none⟩),.int .i64 5] rfl (by (try simp only [qM_,List.map_cons,List.map_nil]); first | done | rfl | (simp only [qD_,qT_]; rfl)) ?_; (with_reducible refine (z6_.calls g719 t716 t721 t722 5 t723 t724 t725 w _ ?side1 ?side2 A4.out).mono ?_); (case side1 => repeat (first | (with_reducible first | exact HI719.out | apply y2.alloc | apply y2.drewN | apply y2.drew | apply y2.set_1 | apply y2.set_2) | exact HI719.out)); (case side2 => repeat (first | (with_reducible first | exact HB.out | apply y5 | apply y18 | apply y6 | refine y7 ?_ (y2.ge HI719.out)) | exact HB.out)); rintro e w12 ⟨rfl,hi,hb,hk⟩; refine ⟨_,rfl, ?_⟩; have n0_ := y0.mk (hb); have n1_ := y0.mk (hi); clear HB; clear HI719; have HB := n0_; have HI719 := n1_; clear n0_ n1_; (try clear hb); (try clear hb2); (try clear hk); (try clear hi)) | ((with_reducible refine y11 (f := 93) rfl ?_); refine y12 (some 17) rfl rfl Tryd.func93 (by kernel_rfl) rfl #[.pointer (some ⟨g719,0,none⟩)] rfl (by (try simp only [qM_,List.map_cons,List.map_nil]); first | done | rfl | (simp only [qD_,qT_]; rfl)) ?_; (with_reducible refine (z5_.calls k g719 t716 t724 t725 t726 t727 t728 w _ ?side1 ?side2 A9.out).mono ?_); (case side1 => repeat (first | (with_reducible first | exact HI719.out | apply y2.alloc | apply y2.drewN | apply y2.drew | apply y2.set_1 | apply y2.set_2) | exact HI719.out)); (case side2 => repeat (first | (with_reducible first | exact HB.out | apply y5 | apply y18 | apply y6 | refine y7 ?_ (y2.ge HI719.out)) | exact HB.out)); rintro e w13 ⟨rfl,hi,hb,hk⟩; refine ⟨_,rfl, ?_⟩; have n0_ := y0.mk (hb); have n1_ := y0.mk (hi); clear HB; clear HI719; have HB := n0_; have HI719 := n1_; clear n0_ n1_; (try clear hb); (try clear hb2); (try clear hk); (try clear hi)))
  go_ret2
  exact ⟨by first | rfl | (simp [y9,y10] <;> rfl) | (simp [*,y9,y10] <;> rfl),by repeat (first | (with_reducible first | exact HB.out | apply y5 | apply y18 | apply y6 | refine y7 ?_ (y2.ge HI719.out)) | exact HB.out)⟩
mutual
def laws_FnTermOrder.j0 : Nat → List Int → List Int → Bool → Option (Bool)
 | 0,_,_,_ => none
 | k + 1,x0,x1,x17 => if x17 = true then (some true) else ((spec_DrawTermCmp.f k x0).bind fun bt731 => ((spec_DrawTermCmp.f k x1).bind fun bt733 => ((impl_TermCmp.f k bt731.1 bt731.2).bind fun t735 => ((impl_TermCmp.f k bt731.2 bt733.1).bind fun t736 => ((impl_TermCmp.f k bt731.1 bt733.1).bind fun t737 => ((z3_.f k bt731.1).bind fun t738 => (if t738 = 0 then (laws_FnTermOrder.j1 k bt731.1 bt731.2 bt733.1 t735 t736 t737 true) else ((z3_.f k bt731.2).bind fun t739 => (laws_FnTermOrder.j1 k bt731.1 bt731.2 bt733.1 t735 t736 t737 (t739 == 0))))))))))
def laws_FnTermOrder.j1 : Nat → ByteArray → ByteArray → ByteArray → Int → Int → Int → Bool → Option (Bool)
 | 0,_,_,_,_,_,_,_ => none
 | k + 1,x5,x6,x7,x9,x10,x11,x44 => if x44 = true then (some (x9 == 2)) else ((impl_TermCmp.f k x6 x5).bind fun t740 => (if x9 = (wrap64 (-t740)) then (if ((x9 == 0) != (x5.toList == x6.toList)) = true then (some false) else ((spec_TermCmp.f k x5 x6).bind fun t741 => (if x9 = t741 then ((z3_.f k x7).bind fun t742 => (if t742 = 0 then (some true) else (if x9 ≤ 0 then (if x10 ≤ 0 then (if x11 ≤ 0 then (if x11 < 0 then (some true) else (if x9 = 0 then (some (x10 == 0)) else (some false))) else (some false)) else (some true)) else (some true)))) else (some false)))) else (some false)))
end
def laws_FnTermOrder.f (k : Nat) (l0 : List Int) (l1 : List Int) : Option (Bool) := (laws_big.f l0).bind fun t729 => (if t729 = true then (laws_FnTermOrder.j0 k l0 l1 true) else ((laws_big.f l1).bind fun t730 => (laws_FnTermOrder.j0 k l0 l1 t730)))
set_option maxHeartbeats 8000000 in
set_option maxRecDepth 100000 in
theorem laws_FnTermOrder.calls (k : Nat) (A0 : Option Addr) (c0 : Nat) (l0 : List Int) (A1 : Option Addr) (c1 : Nat) (l1 : List Int) (r : Bool) (w : World) (hr0 : Kd.C (Kd.int .u8) w A0 l0.length l0) (hc0 : l0.length ≤ c0) (hr1 : Kd.C (Kd.int .u8) w A1 l1.length l1) (hc1 : l1.length ≤ c1) (hT : Tb w) (h : laws_FnTermOrder.f k l0 l1 = some r) (htrue_ : r = true) :
  Calls Tryd.prog 17 #[.slice A0 l0.length c0,.slice A1 l1.length c1] w fun e w' => e = .returned (.bool r) ∧ Below w.heap.size w w' := by
 have HT := y0.mk hT
 clear hT
 have HR0 := y0.mk hr0
 have HC0 := y0.mk hc0
 clear hr0 hc0
 have HR1 := y0.mk hr1
 have HC1 := y0.mk hc1
 clear hr1 hc1
 have HB := y0.mk (Below.refl w.heap.size w)
 have H : ((laws_big.f l0).bind fun t729 => (if t729 = true then (laws_FnTermOrder.j0 k l0 l1 true) else ((laws_big.f l1).bind fun t730 => (laws_FnTermOrder.j0 k l0 l1 t730)))) = some r := h
 clear h
 have HC3 := y0.mk H
 clear H
 go_enter Tryd.func17,Tryd.ntmps17
 go_upto_region 1 with (fail)
 go_cut [17] (fun v17 wc => ∃ (kq : Nat) (x17_2 : Bool),v17 = .bool x17_2 ∧ y0 (laws_FnTermOrder.j0 kq l0 l1 x17_2 = some r) ∧ y0 (kq ≤ k) ∧ y0 (Below w.heap.size w wc))
 case first =>
  have H := HC3.out
  clear HC3
  replace H := Option.bind_eq_some_iff.mp H
  obtain ⟨t729,A40,H⟩ := H
  replace H : (if t729 = true then (laws_FnTermOrder.j0 k l0 l1 true) else ((laws_big.f l1).bind fun t730 => (laws_FnTermOrder.j0 k l0 l1 t730))) = some r := H
  have A4 := y0.mk A40
  clear A40
  by_cases c5 : t729 = true
  ·subst c5
   have H1 : (laws_FnTermOrder.j0 k l0 l1 true) = some r := by rw [if_pos rfl] at H; exact H
   clear H
   have H := H1
   clear H1
   have H' := y0.mk H
   clear H
   go_wp2_with (first | ((with_reducible refine y11 (f := 24) rfl ?_); refine y12 (some 13) rfl rfl Tryd.func24 (by kernel_rfl) rfl #[.slice A0 l0.length c0] rfl (by (try simp only [qM_,List.map_cons,List.map_nil]); first | done | rfl | (simp only [qD_,qT_]; rfl)) ?_; (with_reducible refine (laws_big.calls _ _ l0 true _ ?side1 ?side2 A4.out).mono ?_); (case side1 => repeat (first | exact (Kd.C_below HR0.out HB.out) | (with_reducible refine Kd.C_alloc ?_ _) | (with_reducible refine Kd.C_drewN ?_ _) | (with_reducible refine Kd.C_drew ?_))); (case side2 => exact HC0.out); rintro e w' ⟨rfl,⟨nd,rfl⟩⟩; refine ⟨_,rfl, ?_⟩))
   go_meet
   case rel => exact ⟨_,(true),(by first | rfl | (simp; done) | (simp [*]; done)),H',⟨by first | omega | exact Nat.le_refl _⟩,⟨by repeat (first | (with_reducible first | exact HB.out | apply y5 | apply y18 | apply y6) | exact HB.out)⟩⟩
  ·replace c5 := Bool.eq_false_iff.mpr c5
   subst c5
   have H1 : ((laws_big.f l1).bind fun t730 => (laws_FnTermOrder.j0 k l0 l1 t730)) = some r := by rw [if_neg (show ¬ (false = true) by decide)] at H; exact H
   clear H
   have H := H1
   clear H1
   replace H := Option.bind_eq_some_iff.mp H
   obtain ⟨t730,A60,H⟩ := H
   replace H : (laws_FnTermOrder.j0 k l0 l1 t730) = some r := H
   have A6 := y0.mk A60
   clear A60
   have H' := y0.mk H
   clear H
   go_wp2_with (first | ((with_reducible refine y11 (f := 24) rfl ?_); refine y12 (some 13) rfl rfl Tryd.func24 (by kernel_rfl) rfl #[.slice A0 l0.length c0] rfl (by (try simp only [qM_,List.map_cons,List.map_nil]); first | done | rfl | (simp only [qD_,qT_]; rfl)) ?_; (with_reducible refine (laws_big.calls _ _ l0 false _ ?side1 ?side2 A4.out).mono ?_); (case side1 => repeat (first | exact (Kd.C_below HR0.out HB.out) | (with_reducible refine Kd.C_alloc ?_ _) | (with_reducible refine Kd.C_drewN ?_ _) | (with_reducible refine Kd.C_drew ?_))); (case side2 => exact HC0.out); rintro e w' ⟨rfl,⟨nd,rfl⟩⟩; refine ⟨_,rfl, ?_⟩) | (go_at_call 24; (with_reducible refine (laws_big.calls _ _ l1 t730 _ ?side1 ?side2 A6.out).mono ?_); (case side1 => repeat (first | exact (Kd.C_below HR1.out (by repeat (first | (with_reducible first | exact HB.out | apply y5 | apply y18 | apply y6) | exact HB.out))) | (with_reducible refine Kd.C_alloc ?_ _) | (with_reducible refine Kd.C_drewN ?_ _) | (with_reducible refine Kd.C_drew ?_))); (case side2 => exact HC1.out); rintro e w' ⟨rfl,⟨nd,rfl⟩⟩))
   go_meet
   case rel => exact ⟨_,(t730),(by first | rfl | (simp; done) | (simp [*]; done)),H',⟨by first | omega | exact Nat.le_refl _⟩,⟨by repeat (first | (with_reducible first | exact HB.out | apply y5 | apply y18 | apply y6) | exact HB.out)⟩⟩
 case rest =>
  clear HC3
  try clear c1
  try clear c2
  try clear p2
  try clear c5
  obtain ⟨kq,x17_2,rfl,HA,HJ2,HB⟩ := hcut
  cases kq with
  | zero => exact absurd HA.out (by simp [laws_FnTermOrder.j0])
  | succ kj2 =>
   have H := HA.out
   clear HA
   simp only [laws_FnTermOrder.j0] at H
   by_cases c7 : x17_2 = true
   ·subst c7
    have H1 : (some true) = some r := by rw [if_pos rfl] at H; exact H
    clear H
    have H := H1
    clear H1
    obtain rfl := Option.some.inj H
    go_wp2
    all_goals (go_ret; exact ⟨by first | rfl | (simp [y9,y10] <;> rfl) | (simp [*,y9,y10] <;> rfl) | (exfalso; rename_i hx_; rw [c44b0] at c28b0; simp [hx_] at c28b0),by repeat (first | (with_reducible first | exact HB.out | apply y5 | apply y18 | apply y6) | exact HB.out)⟩)
   ·replace c7 := Bool.eq_false_iff.mpr c7
    subst c7
    have H1 : ((spec_DrawTermCmp.f kj2 l0).bind fun bt731 => ((spec_DrawTermCmp.f kj2 l1).bind fun bt733 => ((impl_TermCmp.f kj2 bt731.1 bt731.2).bind fun t735 => ((impl_TermCmp.f kj2 bt731.2 bt733.1).bind fun t736 => ((impl_TermCmp.f kj2 bt731.1 bt733.1).bind fun t737 => ((z3_.f kj2 bt731.1).bind fun t738 => (if t738 = 0 then (laws_FnTermOrder.j1 kj2 bt731.1 bt731.2 bt733.1 t735 t736 t737 true) else ((z3_.f kj2 bt731.2).bind fun t739 => (laws_FnTermOrder.j1 kj2 bt731.1 bt731.2 bt733.1 t735 t736 t737 (t739 == 0)))))))))) = some r := by rw [if_neg (show ¬ (false = true) by decide)] at H; exact H
    clear H
    have H := H1
    clear H1
    replace H := Option.bind_eq_some_iff.mp H
    obtain ⟨⟨t731,t732⟩,A80,H⟩ := H
    replace H : ((spec_DrawTermCmp.f kj2 l1).bind fun bt733 => ((impl_TermCmp.f kj2 t731 t732).bind fun t735 => ((impl_TermCmp.f kj2 t732 bt733.1).bind fun t736 => ((impl_TermCmp.f kj2 t731 bt733.1).bind fun t737 => ((z3_.f kj2 t731).bind fun t738 => (if t738 = 0 then (laws_FnTermOrder.j1 kj2 t731 t732 bt733.1 t735 t736 t737 true) else ((z3_.f kj2 t732).bind fun t739 => (laws_FnTermOrder.j1 kj2 t731 t732 bt733.1 t735 t736 t737 (t739 == 0))))))))) = some r := H
    have A8 := y0.mk A80
    clear A80
    replace H := Option.bind_eq_some_iff.mp H
    obtain ⟨⟨t733,t734⟩,A90,H⟩ := H
    replace H : ((impl_TermCmp.f kj2 t731 t732).bind fun t735 => ((impl_TermCmp.f kj2 t732 t733).bind fun t736 => ((impl_TermCmp.f kj2 t731 t733).bind fun t737 => ((z3_.f kj2 t731).bind fun t738 => (if t738 = 0 then (laws_FnTermOrder.j1 kj2 t731 t732 t733 t735 t736 t737 true) else ((z3_.f kj2 t732).bind fun t739 => (laws_FnTermOrder.j1 kj2 t731 t732 t733 t735 t736 t737 (t739 == 0)))))))) = some r := H
    have A9 := y0.mk A90
    clear A90
    replace H := Option.bind_eq_some_iff.mp H
    obtain ⟨t735,A100,H⟩ := H
    replace H : ((impl_TermCmp.f kj2 t732 t733).bind fun t736 => ((impl_TermCmp.f kj2 t731 t733).bind fun t737 => ((z3_.f kj2 t731).bind fun t738 => (if t738 = 0 then (laws_FnTermOrder.j1 kj2 t731 t732 t733 t735 t736 t737 true) else ((z3_.f kj2 t732).bind fun t739 => (laws_FnTermOrder.j1 kj2 t731 t732 t733 t735 t736 t737 (t739 == 0))))))) = some r := H
    have A10 := y0.mk A100
    clear A100
    replace H := Option.bind_eq_some_iff.mp H
    obtain ⟨t736,A110,H⟩ := H
    replace H : ((impl_TermCmp.f kj2 t731 t733).bind fun t737 => ((z3_.f kj2 t731).bind fun t738 => (if t738 = 0 then (laws_FnTermOrder.j1 kj2 t731 t732 t733 t735 t736 t737 true) else ((z3_.f kj2 t732).bind fun t739 => (laws_FnTermOrder.j1 kj2 t731 t732 t733 t735 t736 t737 (t739 == 0)))))) = some r := H
    have A11 := y0.mk A110
    clear A110
    replace H := Option.bind_eq_some_iff.mp H
    obtain ⟨t737,A120,H⟩ := H
    replace H : ((z3_.f kj2 t731).bind fun t738 => (if t738 = 0 then (laws_FnTermOrder.j1 kj2 t731 t732 t733 t735 t736 t737 true) else ((z3_.f kj2 t732).bind fun t739 => (laws_FnTermOrder.j1 kj2 t731 t732 t733 t735 t736 t737 (t739 == 0))))) = some r := H
    have A12 := y0.mk A120
    clear A120
    have HC13 := y0.mk H
    clear H
    go_upto_region 6 with (first | ((with_reducible refine y11 (f := 57) rfl ?_); refine y12 (some 20) rfl rfl Tryd.func57 (by kernel_rfl) rfl #[.slice A0 l0.length c0] rfl (by (try simp only [qM_,List.map_cons,List.map_nil]); first | done | rfl | (simp only [qD_,qT_]; rfl)) ?_; (with_reducible refine (spec_DrawTermCmp.calls kj2 _ _ l0 t731 t732 _ ?side1 ?side2 A8.out).mono ?_); (case side1 => repeat (first | exact (Kd.C_below HR0.out HB.out) | (with_reducible refine Kd.C_alloc ?_ _) | (with_reducible refine Kd.C_drewN ?_ _) | (with_reducible refine Kd.C_drew ?_))); (case side2 => exact HC0.out); rintro e w14 ⟨rfl,hb⟩; refine ⟨_,rfl, ?_⟩; have n0_ := y0.mk (y8 (by repeat (first | (with_reducible first | exact HB.out | apply y5 | apply y18 | apply y6) | exact HB.out)) hb); clear HB; have HB := n0_; clear n0_; (try clear hb); (try clear hb2); (try clear hk); (try clear hi)) | ((with_reducible refine y11 (f := 57) rfl ?_); refine y12 (some 25) rfl rfl Tryd.func57 (by kernel_rfl) rfl #[.slice A1 l1.length c1] rfl (by (try simp only [qM_,List.map_cons,List.map_nil]); first | done | rfl | (simp only [qD_,qT_]; rfl)) ?_; (with_reducible refine (spec_DrawTermCmp.calls kj2 _ _ l1 t733 t734 _ ?side1 ?side2 A9.out).mono ?_); (case side1 => repeat (first | exact (Kd.C_below HR1.out HB.out) | (with_reducible refine Kd.C_alloc ?_ _) | (with_reducible refine Kd.C_drewN ?_ _) | (with_reducible refine Kd.C_drew ?_))); (case side2 => exact HC1.out); rintro e w15 ⟨rfl,hb⟩; refine ⟨_,rfl, ?_⟩; have n0_ := y0.mk (y8 (by repeat (first | (with_reducible first | exact HB.out | apply y5 | apply y18 | apply y6) | exact HB.out)) hb); clear HB; have HB := n0_; clear n0_; (try clear hb); (try clear hb2); (try clear hk); (try clear hi)) | ((with_reducible refine y11 (f := 55) rfl ?_); refine y12 (some 30) rfl rfl Tryd.func55 (by kernel_rfl) rfl #[.string t731,.string t732] rfl (by (try simp only [qM_,List.map_cons,List.map_nil]); first | done | rfl | (simp only [qD_,qT_]; rfl)) ?_; (with_reducible refine (impl_TermCmp.calls kj2 t731 t732 t735 _ ?side1 A10.out).mono ?_); (case side1 => exact Tb.below HT.out (by repeat (first | (with_reducible first | exact HB.out | apply y5 | apply y18 | apply y6) | exact HB.out))); rintro e w16 ⟨rfl,hb⟩; refine ⟨_,rfl, ?_⟩; have n0_ := y0.mk (y8 (by repeat (first | (with_reducible first | exact HB.out | apply y5 | apply y18 | apply y6) | exact HB.out)) hb); clear HB; have HB := n0_; clear n0_; (try clear hb); (try clear hb2); (try clear hk); (try clear hi)) | ((with_reducible refine y11 (f := 55) rfl ?_); refine y12 (some 33) rfl rfl Tryd.func55 (by kernel_rfl) rfl #[.string t732,.string t733] rfl (by (try simp only [qM_,List.map_cons,List.map_nil]); first | done | rfl | (simp only [qD_,qT_]; rfl)) ?_; (with_reducible refine (impl_TermCmp.calls kj2 t732 t733 t736 _ ?side1 A11.out).mono ?_); (case side1 => exact Tb.below HT.out (by repeat (first | (with_reducible first | exact HB.out | apply y5 | apply y18 | apply y6) | exact HB.out))); rintro e w17 ⟨rfl,hb⟩; refine ⟨_,rfl, ?_⟩; have n0_ := y0.mk (y8 (by repeat (first | (with_reducible first | exact HB.out | apply y5 | apply y18 | apply y6) | exact HB.out)) hb); clear HB; have HB := n0_; clear n0_; (try clear hb); (try clear hb2); (try clear hk); (try clear hi)) | ((with_reducible refine y11 (f := 55) rfl ?_); refine y12 (some 36) rfl rfl Tryd.func55 (by kernel_rfl) rfl #[.string t731,.string t733] rfl (by (try simp only [qM_,List.map_cons,List.map_nil]); first | done | rfl | (simp only [qD_,qT_]; rfl)) ?_; (with_reducible refine (impl_TermCmp.calls kj2 t731 t733 t737 _ ?side1 A12.out).mono ?_); (case side1 => exact Tb.below HT.out (by repeat (first | (with_reducible first | exact HB.out | apply y5 | apply y18 | apply y6) | exact HB.out))); rintro e w18 ⟨rfl,hb⟩; refine ⟨_,rfl, ?_⟩; have n0_ := y0.mk (y8 (by repeat (first | (with_reducible first | exact HB.out | apply y5 | apply y18 | apply y6) | exact HB.out)) hb); clear HB; have HB := n0_; clear n0_; (try clear hb); (try clear hb2); (try clear hk); (try clear hi)))
    (try simp only [Act.put,qS_,qZ_,qC_])
    go_cut [44] (fun v44 wc => ∃ (kq : Nat) (x44_12 : Bool),v44 = .bool x44_12 ∧ y0 (laws_FnTermOrder.j1 kq t731 t732 t733 t735 t736 t737 x44_12 = some r) ∧ y0 (kq ≤ kj2) ∧ y0 (Below w.heap.size w wc))
    case first =>
     have H := HC13.out
     clear HC13
     replace H := Option.bind_eq_some_iff.mp H
     obtain ⟨t738,A190,H⟩ := H
     replace H : (if t738 = 0 then (laws_FnTermOrder.j1 kj2 t731 t732 t733 t735 t736 t737 true) else ((z3_.f kj2 t732).bind fun t739 => (laws_FnTermOrder.j1 kj2 t731 t732 t733 t735 t736 t737 (t739 == 0)))) = some r := H
     have A19 := y0.mk A190
     clear A190
     by_cases c20 : t738 = 0
     ·rw [if_pos c20] at H
      have c20b0 : (t738 == 0) = true := beq_iff_eq.mpr c20
      have c20b1 : (t738 != 0) = false := bne_eq_false_iff_eq.mpr c20
      clear c20
      (first | rw [c20b0] | (simp only [y14,y13]; rw [c20b0]) | skip)
      have H' := y0.mk H
      clear H
      go_wp2_with (first | ((with_reducible refine y11 (f := 29) rfl ?_); refine y12 (some 38) rfl rfl Tryd.func29 (by kernel_rfl) rfl #[.string t731] rfl (by (try simp only [qM_,List.map_cons,List.map_nil]); first | done | rfl | (simp only [qD_,qT_]; rfl)) ?_; (with_reducible refine (z3_.calls kj2 t731 t738 _ A19.out).mono ?_); rintro e w21 ⟨rfl,hb⟩; refine ⟨_,rfl, ?_⟩; have n0_ := y0.mk (y8 (by repeat (first | (with_reducible first | exact HB.out | apply y5 | apply y18 | apply y6) | exact HB.out)) hb); clear HB; have HB := n0_; clear n0_; (try clear hb); (try clear hb2); (try clear hk); (try clear hi)))
      go_meet
      case rel => exact ⟨_,(true),(by first | rfl | (simp; done) | (simp [*]; done)),H',⟨by have := HJ2.out; first | omega | exact Nat.le_refl _⟩,⟨by repeat (first | (with_reducible first | exact HB.out | apply y5 | apply y18 | apply y6) | exact HB.out)⟩⟩
     ·rw [if_neg c20] at H
      have c20b0 : (t738 == 0) = false := beq_eq_false_iff_ne.mpr c20
      have c20b1 : (t738 != 0) = true := bne_iff_ne.mpr c20
      (first | rw [c20b0] | (simp only [y14,y13]; rw [c20b0]) | skip)
      replace H := Option.bind_eq_some_iff.mp H
      obtain ⟨t739,A220,H⟩ := H
      replace H : (laws_FnTermOrder.j1 kj2 t731 t732 t733 t735 t736 t737 (t739 == 0)) = some r := H
      have A22 := y0.mk A220
      clear A220
      have H' := y0.mk H
      clear H
      go_wp2_with (first | ((with_reducible refine y11 (f := 29) rfl ?_); refine y12 (some 38) rfl rfl Tryd.func29 (by kernel_rfl) rfl #[.string t731] rfl (by (try simp only [qM_,List.map_cons,List.map_nil]); first | done | rfl | (simp only [qD_,qT_]; rfl)) ?_; (with_reducible refine (z3_.calls kj2 t731 t738 _ A19.out).mono ?_); rintro e w23 ⟨rfl,hb⟩; refine ⟨_,rfl, ?_⟩; have n0_ := y0.mk (y8 (by repeat (first | (with_reducible first | exact HB.out | apply y5 | apply y18 | apply y6) | exact HB.out)) hb); clear HB; have HB := n0_; clear n0_; (try clear hb); (try clear hb2); (try clear hk); (try clear hi)) | (go_at_call 29; (with_reducible refine (z3_.calls kj2 t732 t739 _ A22.out).mono ?_); rintro e w24 ⟨rfl,hb⟩; have n0_ := y0.mk (y8 (by repeat (first | (with_reducible first | exact HB.out | apply y5 | apply y18 | apply y6) | exact HB.out)) hb); clear HB; have HB := n0_; clear n0_; (try clear hb); (try clear hb2); (try clear hk); (try clear hi)))
      go_meet
      case rel => exact ⟨_,((t739 == 0)),(by first | rfl | (simp; done) | (simp [*]; done)),H',⟨by have := HJ2.out; first | omega | exact Nat.le_refl _⟩,⟨by repeat (first | (with_reducible first | exact HB.out | apply y5 | apply y18 | apply y6) | exact HB.out)⟩⟩
    case rest =>
     clear HC13
     try clear c1
     try clear c2
     try clear p2
     try clear c5
     try clear c7
     try clear c17
     try clear c20
     try clear c20b0
     try clear c20b1
     try clear c24
     try clear p2
     obtain ⟨kq,x44_12,rfl,HA,HJ12,HB⟩ := hcut
     cases kq with
     | zero => exact absurd HA.out (by simp [laws_FnTermOrder.j1])
     | succ kj12 =>
      have H := HA.out
      clear HA
      simp only [laws_FnTermOrder.j1] at H
      by_cases c25 : x44_12 = true
      ·subst c25
       have H1 : (some (t735 == 2)) = some r := by rw [if_pos rfl] at H; exact H
       clear H
       have H := H1
       clear H1
       obtain rfl := Option.some.inj H
       go_wp2
       all_goals (go_ret; exact ⟨by first | rfl | (simp [y9,y10] <;> rfl) | (simp [*,y9,y10] <;> rfl) | (exfalso; rename_i hx_; rw [c44b0] at c28b0; simp [hx_] at c28b0),by repeat (first | (with_reducible first | exact HB.out | apply y5 | apply y18 | apply y6) | exact HB.out)⟩)
      ·replace c25 := Bool.eq_false_iff.mpr c25
       subst c25
       have H1 : ((impl_TermCmp.f kj12 t732 t731).bind fun t740 => (if t735 = (wrap64 (-t740)) then (if ((t735 == 0) != (t731.toList == t732.toList)) = true then (some false) else ((spec_TermCmp.f kj12 t731 t732).bind fun t741 => (if t735 = t741 then ((z3_.f kj12 t733).bind fun t742 => (if t742 = 0 then (some true) else (if t735 ≤ 0 then (if t736 ≤ 0 then (if t737 ≤ 0 then (if t737 < 0 then (some true) else (if t735 = 0 then (some (t736 == 0)) else (some false))) else (some false)) else (some true)) else (some true)))) else (some false)))) else (some false))) = some r := by rw [if_neg (show ¬ (false = true) by decide)] at H; exact H
       clear H
       have H := H1
       clear H1
       replace H := Option.bind_eq_some_iff.mp H
       obtain ⟨t740,A260,H⟩ := H
       replace H : (if t735 = (wrap64 (-t740)) then (if ((t735 == 0) != (t731.toList == t732.toList)) = true then (some false) else ((spec_TermCmp.f kj12 t731 t732).bind fun t741 => (if t735 = t741 then ((z3_.f kj12 t733).bind fun t742 => (if t742 = 0 then (some true) else (if t735 ≤ 0 then (if t736 ≤ 0 then (if t737 ≤ 0 then (if t737 < 0 then (some true) else (if t735 = 0 then (some (t736 == 0)) else (some false))) else (some false)) else (some true)) else (some true)))) else (some false)))) else (some false)) = some r := H
       have A26 := y0.mk A260
       clear A260
       by_cases c27 : t735 = (wrap64 (-t740))
       ·rw [if_pos c27] at H
        have c27b0 : (t735 == (wrap64 (-t740))) = true := beq_iff_eq.mpr c27
        have c27b1 : (t735 != (wrap64 (-t740))) = false := bne_eq_false_iff_eq.mpr c27
        clear c27
        by_cases c28 : ((t735 == 0) != (t731.toList == t732.toList)) = true
        ·rw [if_pos c28] at H
         have c28b0 : ((t735 == 0) != (t731.toList == t732.toList)) = true := c28
         (try (have c28b1 : decide ((t735 == 0) = (t731.toList == t732.toList)) = false := by simpa using c28))
         (try (have c28b2 : ((t735 == 0) == (t731.toList == t732.toList)) = false := by simpa using c28))
         (try (have c28b3 : ¬ ((t735 == 0) = (t731.toList == t732.toList)) := by simpa using c28))
         clear c28
         obtain rfl := Option.some.inj H
         go_wp2_with (first | ((with_reducible refine y11 (f := 55) rfl ?_); refine y12 (some 50) rfl rfl Tryd.func55 (by kernel_rfl) rfl #[.string t732,.string t731] rfl (by (try simp only [qM_,List.map_cons,List.map_nil]); first | done | rfl | (simp only [qD_,qT_]; rfl)) ?_; (with_reducible refine (impl_TermCmp.calls kj12 t732 t731 t740 _ ?side1 A26.out).mono ?_); (case side1 => exact Tb.below HT.out (by repeat (first | (with_reducible first | exact HB.out | apply y5 | apply y18 | apply y6) | exact HB.out))); rintro e w29 ⟨rfl,hb⟩; refine ⟨_,rfl, ?_⟩; have n0_ := y0.mk (y8 (by repeat (first | (with_reducible first | exact HB.out | apply y5 | apply y18 | apply y6) | exact HB.out)) hb); clear HB; have HB := n0_; clear n0_; (try clear hb); (try clear hb2); (try clear hk); (try clear hi)))
         all_goals (go_ret; exact ⟨by first | rfl | (simp [y9,y10] <;> rfl) | (simp [*,y9,y10] <;> rfl) | (exfalso; rename_i hx_; rw [c44b0] at c28b0; simp [hx_] at c28b0),by repeat (first | (with_reducible first | exact HB.out | apply y5 | apply y18 | apply y6) | exact HB.out)⟩)
        ·rw [if_neg c28] at H
         have c28b0 : ((t735 == 0) != (t731.toList == t732.toList)) = false := by simpa using c28
         (try (have c28b1 : decide ((t735 == 0) = (t731.toList == t732.toList)) = true := by simpa using c28))
         (try (have c28b2 : ((t735 == 0) == (t731.toList == t732.toList)) = true := by simpa using c28))
         clear c28
         replace H := Option.bind_eq_some_iff.mp H
         obtain ⟨t741,A300,H⟩ := H
         replace H : (if t735 = t741 then ((z3_.f kj12 t733).bind fun t742 => (if t742 = 0 then (some true) else (if t735 ≤ 0 then (if t736 ≤ 0 then (if t737 ≤ 0 then (if t737 < 0 then (some true) else (if t735 = 0 then (some (t736 == 0)) else (some false))) else (some false)) else (some true)) else (some true)))) else (some false)) = some r := H
         have A30 := y0.mk A300
         clear A300
         by_cases c31 : t735 = t741
         ·rw [if_pos c31] at H
          have c31b0 : (t735 == t741) = true := beq_iff_eq.mpr c31
          have c31b1 : (t735 != t741) = false := bne_eq_false_iff_eq.mpr c31
          clear c31
          replace H := Option.bind_eq_some_iff.mp H
          obtain ⟨t742,A320,H⟩ := H
          replace H : (if t742 = 0 then (some true) else (if t735 ≤ 0 then (if t736 ≤ 0 then (if t737 ≤ 0 then (if t737 < 0 then (some true) else (if t735 = 0 then (some (t736 == 0)) else (some false))) else (some false)) else (some true)) else (some true))) = some r := H
          have A32 := y0.mk A320
          clear A320
          by_cases c33 : t742 = 0
          ·rw [if_pos c33] at H
           have c33b0 : (t742 == 0) = true := beq_iff_eq.mpr c33
           have c33b1 : (t742 != 0) = false := bne_eq_false_iff_eq.mpr c33
           clear c33
           obtain rfl := Option.some.inj H
           go_wp2_with (first | ((with_reducible refine y11 (f := 55) rfl ?_); refine y12 (some 50) rfl rfl Tryd.func55 (by kernel_rfl) rfl #[.string t732,.string t731] rfl (by (try simp only [qM_,List.map_cons,List.map_nil]); first | done | rfl | (simp only [qD_,qT_]; rfl)) ?_; (with_reducible refine (impl_TermCmp.calls kj12 t732 t731 t740 _ ?side1 A26.out).mono ?_); (case side1 => exact Tb.below HT.out (by repeat (first | (with_reducible first | exact HB.out | apply y5 | apply y18 | apply y6) | exact HB.out))); rintro e w34 ⟨rfl,hb⟩; refine ⟨_,rfl, ?_⟩; have n0_ := y0.mk (y8 (by repeat (first | (with_reducible first | exact HB.out | apply y5 | apply y18 | apply y6) | exact HB.out)) hb); clear HB; have HB := n0_; clear n0_; (try clear hb); (try clear hb2); (try clear hk); (try clear hi)) | (go_at_call 54; (with_reducible refine (spec_TermCmp.calls kj12 t731 t732 t741 _ A30.out).mono ?_); rintro e w35 ⟨rfl,hb⟩; have n0_ := y0.mk (y8 (by repeat (first | (with_reducible first | exact HB.out | apply y5 | apply y18 | apply y6) | exact HB.out)) hb); clear HB; have HB := n0_; clear n0_; (try clear hb); (try clear hb2); (try clear hk); (try clear hi)) | ((with_reducible refine y11 (f := 29) rfl ?_); refine y12 (some 69) rfl rfl Tryd.func29 (by kernel_rfl) rfl #[.string t733] rfl (by (try simp only [qM_,List.map_cons,List.map_nil]); first | done | rfl | (simp only [qD_,qT_]; rfl)) ?_; (with_reducible refine (z3_.calls kj12 t733 t742 _ A32.out).mono ?_); rintro e w36 ⟨rfl,hb⟩; refine ⟨_,rfl, ?_⟩; have n0_ := y0.mk (y8 (by repeat (first | (with_reducible first | exact HB.out | apply y5 | apply y18 | apply y6) | exact HB.out)) hb); clear HB; have HB := n0_; clear n0_; (try clear hb); (try clear hb2); (try clear hk); (try clear hi)))
           all_goals (go_ret; exact ⟨by first | rfl | (simp [y9,y10] <;> rfl) | (simp [*,y9,y10] <;> rfl) | (exfalso; rename_i hx_; rw [c44b0] at c28b0; simp [hx_] at c28b0),by repeat (first | (with_reducible first | exact HB.out | apply y5 | apply y18 | apply y6) | exact HB.out)⟩)
          ·rw [if_neg c33] at H
           have c33b0 : (t742 == 0) = false := beq_eq_false_iff_ne.mpr c33
           have c33b1 : (t742 != 0) = true := bne_iff_ne.mpr c33
           by_cases c37 : t735 ≤ 0
           ·rw [if_pos c37] at H
            have c37b0 : decide (t735 ≤ 0) = true := decide_eq_true c37
            clear c37
            by_cases c38 : t736 ≤ 0
            ·rw [if_pos c38] at H
             have c38b0 : decide (t736 ≤ 0) = true := decide_eq_true c38
             clear c38
             by_cases c39 : t737 ≤ 0
             ·rw [if_pos c39] at H
              have c39b0 : decide (t737 ≤ 0) = true := decide_eq_true c39
              clear c39
              by_cases c40 : t737 < 0
              ·rw [if_pos c40] at H
               have c40b0 : decide (t737 < 0) = true := decide_eq_true c40
               clear c40
               obtain rfl := Option.some.inj H
               go_wp2_with (first | ((with_reducible refine y11 (f := 55) rfl ?_); refine y12 (some 50) rfl rfl Tryd.func55 (by kernel_rfl) rfl #[.string t732,.string t731] rfl (by (try simp only [qM_,List.map_cons,List.map_nil]); first | done | rfl | (simp only [qD_,qT_]; rfl)) ?_; (with_reducible refine (impl_TermCmp.calls kj12 t732 t731 t740 _ ?side1 A26.out).mono ?_); (case side1 => exact Tb.below HT.out (by repeat (first | (with_reducible first | exact HB.out | apply y5 | apply y18 | apply y6) | exact HB.out))); rintro e w41 ⟨rfl,hb⟩; refine ⟨_,rfl, ?_⟩; have n0_ := y0.mk (y8 (by repeat (first | (with_reducible first | exact HB.out | apply y5 | apply y18 | apply y6) | exact HB.out)) hb); clear HB; have HB := n0_; clear n0_; (try clear hb); (try clear hb2); (try clear hk); (try clear hi)) | (go_at_call 54; (with_reducible refine (spec_TermCmp.calls kj12 t731 t732 t741 _ A30.out).mono ?_); rintro e w42 ⟨rfl,hb⟩; have n0_ := y0.mk (y8 (by repeat (first | (with_reducible first | exact HB.out | apply y5 | apply y18 | apply y6) | exact HB.out)) hb); clear HB; have HB := n0_; clear n0_; (try clear hb); (try clear hb2); (try clear hk); (try clear hi)) | ((with_reducible refine y11 (f := 29) rfl ?_); refine y12 (some 69) rfl rfl Tryd.func29 (by kernel_rfl) rfl #[.string t733] rfl (by (try simp only [qM_,List.map_cons,List.map_nil]); first | done | rfl | (simp only [qD_,qT_]; rfl)) ?_; (with_reducible refine (z3_.calls kj12 t733 t742 _ A32.out).mono ?_); rintro e w43 ⟨rfl,hb⟩; refine ⟨_,rfl, ?_⟩; have n0_ := y0.mk (y8 (by repeat (first | (with_reducible first | exact HB.out | apply y5 | apply y18 | apply y6) | exact HB.out)) hb); clear HB; have HB := n0_; clear n0_; (try clear hb); (try clear hb2); (try clear hk); (try clear hi)))
               all_goals (go_ret; exact ⟨by first | rfl | (simp [y9,y10] <;> rfl) | (simp [*,y9,y10] <;> rfl) | (exfalso; rename_i hx_; rw [c44b0] at c28b0; simp [hx_] at c28b0),by repeat (first | (with_reducible first | exact HB.out | apply y5 | apply y18 | apply y6) | exact HB.out)⟩)
              ·rw [if_neg c40] at H
               have c40b0 : decide (t737 < 0) = false := decide_eq_false c40
               clear c40
               by_cases c44 : t735 = 0
               ·rw [if_pos c44] at H
                have c44b0 : (t735 == 0) = true := beq_iff_eq.mpr c44
                have c44b1 : (t735 != 0) = false := bne_eq_false_iff_eq.mpr c44
                clear c44
                obtain rfl := Option.some.inj H
                go_wp2_with (first | ((with_reducible refine y11 (f := 55) rfl ?_); refine y12 (some 50) rfl rfl Tryd.func55 (by kernel_rfl) rfl #[.string t732,.string t731] rfl (by (try simp only [qM_,List.map_cons,List.map_nil]); first | done | rfl | (simp only [qD_,qT_]; rfl)) ?_; (with_reducible refine (impl_TermCmp.calls kj12 t732 t731 t740 _ ?side1 A26.out).mono ?_); (case side1 => exact Tb.below HT.out (by repeat (first | (with_reducible first | exact HB.out | apply y5 | apply y18 | apply y6) | exact HB.out))); rintro e w45 ⟨rfl,hb⟩; refine ⟨_,rfl, ?_⟩; have n0_ := y0.mk (y8 (by repeat (first | (with_reducible first | exact HB.out | apply y5 | apply y18 | apply y6) | exact HB.out)) hb); clear HB; have HB := n0_; clear n0_; (try clear hb); (try clear hb2); (try clear hk); (try clear hi)) | (go_at_call 54; (with_reducible refine (spec_TermCmp.calls kj12 t731 t732 t741 _ A30.out).mono ?_); rintro e w46 ⟨rfl,hb⟩; have n0_ := y0.mk (y8 (by repeat (first | (with_reducible first | exact HB.out | apply y5 | apply y18 | apply y6) | exact HB.out)) hb); clear HB; have HB := n0_; clear n0_; (try clear hb); (try clear hb2); (try clear hk); (try clear hi)) | ((with_reducible refine y11 (f := 29) rfl ?_); refine y12 (some 69) rfl rfl Tryd.func29 (by kernel_rfl) rfl #[.string t733] rfl (by (try simp only [qM_,List.map_cons,List.map_nil]); first | done | rfl | (simp only [qD_,qT_]; rfl)) ?_; (with_reducible refine (z3_.calls kj12 t733 t742 _ A32.out).mono ?_); rintro e w47 ⟨rfl,hb⟩; refine ⟨_,rfl, ?_⟩; have n0_ := y0.mk (y8 (by repeat (first | (with_reducible first | exact HB.out | apply y5 | apply y18 | apply y6) | exact HB.out)) hb); clear HB; have HB := n0_; clear n0_; (try clear hb); (try clear hb2); (try clear hk); (try clear hi)))
                all_goals (go_ret; exact ⟨by first | rfl | (simp [y9,y10] <;> rfl) | (simp [*,y9,y10] <;> rfl) | (exfalso; rename_i hx_; rw [c44b0] at c28b0; simp [hx_] at c28b0),by repeat (first | (with_reducible first | exact HB.out | apply y5 | apply y18 | apply y6) | exact HB.out)⟩)
               ·rw [if_neg c44] at H
                have c44b0 : (t735 == 0) = false := beq_eq_false_iff_ne.mpr c44
                have c44b1 : (t735 != 0) = true := bne_iff_ne.mpr c44
                obtain rfl := Option.some.inj H
                go_wp2_with (first | ((with_reducible refine y11 (f := 55) rfl ?_); refine y12 (some 50) rfl rfl Tryd.func55 (by kernel_rfl) rfl #[.string t732,.string t731] rfl (by (try simp only [qM_,List.map_cons,List.map_nil]); first | done | rfl | (simp only [qD_,qT_]; rfl)) ?_; (with_reducible refine (impl_TermCmp.calls kj12 t732 t731 t740 _ ?side1 A26.out).mono ?_); (case side1 => exact Tb.below HT.out (by repeat (first | (with_reducible first | exact HB.out | apply y5 | apply y18 | apply y6) | exact HB.out))); rintro e w48 ⟨rfl,hb⟩; refine ⟨_,rfl, ?_⟩; have n0_ := y0.mk (y8 (by repeat (first | (with_reducible first | exact HB.out | apply y5 | apply y18 | apply y6) | exact HB.out)) hb); clear HB; have HB := n0_; clear n0_; (try clear hb); (try clear hb2); (try clear hk); (try clear hi)) | (go_at_call 54; (with_reducible refine (spec_TermCmp.calls kj12 t731 t732 t741 _ A30.out).mono ?_); rintro e w49 ⟨rfl,hb⟩; have n0_ := y0.mk (y8 (by repeat (first | (with_reducible first | exact HB.out | apply y5 | apply y18 | apply y6) | exact HB.out)) hb); clear HB; have HB := n0_; clear n0_; (try clear hb); (try clear hb2); (try clear hk); (try clear hi)) | ((with_reducible refine y11 (f := 29) rfl ?_); refine y12 (some 69) rfl rfl Tryd.func29 (by kernel_rfl) rfl #[.string t733] rfl (by (try simp only [qM_,List.map_cons,List.map_nil]); first | done | rfl | (simp only [qD_,qT_]; rfl)) ?_; (with_reducible refine (z3_.calls kj12 t733 t742 _ A32.out).mono ?_); rintro e w50 ⟨rfl,hb⟩; refine ⟨_,rfl, ?_⟩; have n0_ := y0.mk (y8 (by repeat (first | (with_reducible first | exact HB.out | apply y5 | apply y18 | apply y6) | exact HB.out)) hb); clear HB; have HB := n0_; clear n0_; (try clear hb); (try clear hb2); (try clear hk); (try clear hi)))
                all_goals (go_ret; exact ⟨by first | rfl | (simp [y9,y10] <;> rfl) | (simp [*,y9,y10] <;> rfl) | (exfalso; rename_i hx_; rw [c44b0] at c28b0; simp [hx_] at c28b0),by repeat (first | (with_reducible first | exact HB.out | apply y5 | apply y18 | apply y6) | exact HB.out)⟩)
             ·rw [if_neg c39] at H
              have c39b0 : decide (t737 ≤ 0) = false := decide_eq_false c39
              clear c39
              obtain rfl := Option.some.inj H
              go_wp2_with (first | ((with_reducible refine y11 (f := 55) rfl ?_); refine y12 (some 50) rfl rfl Tryd.func55 (by kernel_rfl) rfl #[.string t732,.string t731] rfl (by (try simp only [qM_,List.map_cons,List.map_nil]); first | done | rfl | (simp only [qD_,qT_]; rfl)) ?_; (with_reducible refine (impl_TermCmp.calls kj12 t732 t731 t740 _ ?side1 A26.out).mono ?_); (case side1 => exact Tb.below HT.out (by repeat (first | (with_reducible first | exact HB.out | apply y5 | apply y18 | apply y6) | exact HB.out))); rintro e w51 ⟨rfl,hb⟩; refine ⟨_,rfl, ?_⟩; have n0_ := y0.mk (y8 (by repeat (first | (with_reducible first | exact HB.out | apply y5 | apply y18 | apply y6) | exact HB.out)) hb); clear HB; have HB := n0_; clear n0_; (try clear hb); (try clear hb2); (try clear hk); (try clear hi)) | (go_at_call 54; (with_reducible refine (spec_TermCmp.calls kj12 t731 t732 t741 _ A30.out).mono ?_); rintro e w52 ⟨rfl,hb⟩; have n0_ := y0.mk (y8 (by repeat (first | (with_reducible first | exact HB.out | apply y5 | apply y18 | apply y6) | exact HB.out)) hb); clear HB; have HB := n0_; clear n0_; (try clear hb); (try clear hb2); (try clear hk); (try clear hi)) | ((with_reducible refine y11 (f := 29) rfl ?_); refine y12 (some 69) rfl rfl Tryd.func29 (by kernel_rfl) rfl #[.string t733] rfl (by (try simp only [qM_,List.map_cons,List.map_nil]); first | done | rfl | (simp only [qD_,qT_]; rfl)) ?_; (with_reducible refine (z3_.calls kj12 t733 t742 _ A32.out).mono ?_); rintro e w53 ⟨rfl,hb⟩; refine ⟨_,rfl, ?_⟩; have n0_ := y0.mk (y8 (by repeat (first | (with_reducible first | exact HB.out | apply y5 | apply y18 | apply y6) | exact HB.out)) hb); clear HB; have HB := n0_; clear n0_; (try clear hb); (try clear hb2); (try clear hk); (try clear hi)))
              all_goals (go_ret; exact ⟨by first | rfl | (simp [y9,y10] <;> rfl) | (simp [*,y9,y10] <;> rfl) | (exfalso; rename_i hx_; rw [c44b0] at c28b0; simp [hx_] at c28b0),by repeat (first | (with_reducible first | exact HB.out | apply y5 | apply y18 | apply y6) | exact HB.out)⟩)
            ·rw [if_neg c38] at H
             have c38b0 : decide (t736 ≤ 0) = false := decide_eq_false c38
             clear c38
             obtain rfl := Option.some.inj H
             go_wp2_with (first | ((with_reducible refine y11 (f := 55) rfl ?_); refine y12 (some 50) rfl rfl Tryd.func55 (by kernel_rfl) rfl #[.string t732,.string t731] rfl (by (try simp only [qM_,List.map_cons,List.map_nil]); first | done | rfl | (simp only [qD_,qT_]; rfl)) ?_; (with_reducible refine (impl_TermCmp.calls kj12 t732 t731 t740 _ ?side1 A26.out).mono ?_); (case side1 => exact Tb.below HT.out (by repeat (first | (with_reducible first | exact HB.out | apply y5 | apply y18 | apply y6) | exact HB.out))); rintro e w54 ⟨rfl,hb⟩; refine ⟨_,rfl, ?_⟩; have n0_ := y0.mk (y8 (by repeat (first | (with_reducible first | exact HB.out | apply y5 | apply y18 | apply y6) | exact HB.out)) hb); clear HB; have HB := n0_; clear n0_; (try clear hb); (try clear hb2); (try clear hk); (try clear hi)) | (go_at_call 54; (with_reducible refine (spec_TermCmp.calls kj12 t731 t732 t741 _ A30.out).mono ?_); rintro e w55 ⟨rfl,hb⟩; have n0_ := y0.mk (y8 (by repeat (first | (with_reducible first | exact HB.out | apply y5 | apply y18 | apply y6) | exact HB.out)) hb); clear HB; have HB := n0_; clear n0_; (try clear hb); (try clear hb2); (try clear hk); (try clear hi)) | ((with_reducible refine y11 (f := 29) rfl ?_); refine y12 (some 69) rfl rfl Tryd.func29 (by kernel_rfl) rfl #[.string t733] rfl (by (try simp only [qM_,List.map_cons,List.map_nil]); first | done | rfl | (simp only [qD_,qT_]; rfl)) ?_; (with_reducible refine (z3_.calls kj12 t733 t742 _ A32.out).mono ?_); rintro e w56 ⟨rfl,hb⟩; refine ⟨_,rfl, ?_⟩; have n0_ := y0.mk (y8 (by repeat (first | (with_reducible first | exact HB.out | apply y5 | apply y18 | apply y6) | exact HB.out)) hb); clear HB; have HB := n0_; clear n0_; (try clear hb); (try clear hb2); (try clear hk); (try clear hi)))
             all_goals (go_ret; exact ⟨by first | rfl | (simp [y9,y10] <;> rfl) | (simp [*,y9,y10] <;> rfl) | (exfalso; rename_i hx_; rw [c44b0] at c28b0; simp [hx_] at c28b0),by repeat (first | (with_reducible first | exact HB.out | apply y5 | apply y18 | apply y6) | exact HB.out)⟩)
           ·rw [if_neg c37] at H
            have c37b0 : decide (t735 ≤ 0) = false := decide_eq_false c37
            clear c37
            obtain rfl := Option.some.inj H
            go_wp2_with (first | ((with_reducible refine y11 (f := 55) rfl ?_); refine y12 (some 50) rfl rfl Tryd.func55 (by kernel_rfl) rfl #[.string t732,.string t731] rfl (by (try simp only [qM_,List.map_cons,List.map_nil]); first | done | rfl | (simp only [qD_,qT_]; rfl)) ?_; (with_reducible refine (impl_TermCmp.calls kj12 t732 t731 t740 _ ?side1 A26.out).mono ?_); (case side1 => exact Tb.below HT.out (by repeat (first | (with_reducible first | exact HB.out | apply y5 | apply y18 | apply y6) | exact HB.out))); rintro e w57 ⟨rfl,hb⟩; refine ⟨_,rfl, ?_⟩; have n0_ := y0.mk (y8 (by repeat (first | (with_reducible first | exact HB.out | apply y5 | apply y18 | apply y6) | exact HB.out)) hb); clear HB; have HB := n0_; clear n0_; (try clear hb); (try clear hb2); (try clear hk); (try clear hi)) | (go_at_call 54; (with_reducible refine (spec_TermCmp.calls kj12 t731 t732 t741 _ A30.out).mono ?_); rintro e w58 ⟨rfl,hb⟩; have n0_ := y0.mk (y8 (by repeat (first | (with_reducible first | exact HB.out | apply y5 | apply y18 | apply y6) | exact HB.out)) hb); clear HB; have HB := n0_; clear n0_; (try clear hb); (try clear hb2); (try clear hk); (try clear hi)) | ((with_reducible refine y11 (f := 29) rfl ?_); refine y12 (some 69) rfl rfl Tryd.func29 (by kernel_rfl) rfl #[.string t733] rfl (by (try simp only [qM_,List.map_cons,List.map_nil]); first | done | rfl | (simp only [qD_,qT_]; rfl)) ?_; (with_reducible refine (z3_.calls kj12 t733 t742 _ A32.out).mono ?_); rintro e w59 ⟨rfl,hb⟩; refine ⟨_,rfl, ?_⟩; have n0_ := y0.mk (y8 (by repeat (first | (with_reducible first | exact HB.out | apply y5 | apply y18 | apply y6) | exact HB.out)) hb); clear HB; have HB := n0_; clear n0_; (try clear hb); (try clear hb2); (try clear hk); (try clear hi)))
            all_goals (go_ret; exact ⟨by first | rfl | (simp [y9,y10] <;> rfl) | (simp [*,y9,y10] <;> rfl) | (exfalso; rename_i hx_; rw [c44b0] at c28b0; simp [hx_] at c28b0),by repeat (first | (with_reducible first | exact HB.out | apply y5 | apply y18 | apply y6) | exact HB.out)⟩)
         ·rw [if_neg c31] at H
          have c31b0 : (t735 == t741) = false := beq_eq_false_iff_ne.mpr c31
          have c31b1 : (t735 != t741) = true := bne_iff_ne.mpr c31
          exact absurd ((Option.some.inj H).trans htrue_) (by decide)
       ·rw [if_neg c27] at H
        have c27b0 : (t735 == (wrap64 (-t740))) = false := beq_eq_false_iff_ne.mpr c27
        have c27b1 : (t735 != (wrap64 (-t740))) = true := bne_iff_ne.mpr c27
        exact absurd ((Option.some.inj H).trans htrue_) (by decide)
/-- THE ONE PURE STATEMENT of laws_FnTermOrder. -/
def laws_FnTermOrder.Pure : Prop := ∀ (l0 : List Int) (l1 : List Int),(fun l => l.length ≤ maxLen ∧ l.length * 1 ≤ 140737488351232 ∧ ∀ x ∈ l,(fun a => (Lit.int .u8 a).wf = true) x) l0 → (fun l => l.length ≤ maxLen ∧ l.length * 1 ≤ 140737488351232 ∧ ∀ x ∈ l,(fun a => (Lit.int .u8 a).wf = true) x) l1 → ∃ k,laws_FnTermOrder.f k l0 l1 = some true
theorem laws_FnTermOrder.walk (P : laws_FnTermOrder.Pure) (l0 : List Int) (l1 : List Int) (A0 : Option Addr) (c0 : Nat) (A1 : Option Addr) (c1 : Nat) (w : World) (hr0 : Kd.C (Kd.int .u8) w A0 l0.length l0) (hc0 : l0.length ≤ c0) (hr1 : Kd.C (Kd.int .u8) w A1 l1.length l1) (hc1 : l1.length ≤ c1) (k0 : (fun l => l.length ≤ maxLen ∧ l.length * 1 ≤ 140737488351232 ∧ ∀ x ∈ l,(fun a => (Lit.int .u8 a).wf = true) x) l0) (k1 : (fun l => l.length ≤ maxLen ∧ l.length * 1 ≤ 140737488351232 ∧ ∀ x ∈ l,(fun a => (Lit.int .u8 a).wf = true) x) l1) (hT : Tb w) :
  Calls Tryd.prog 17 #[.slice A0 l0.length c0,.slice A1 l1.length c1] w fun e w' => e = .returned (.bool true) ∧ Below w.heap.size w w' := by
 obtain ⟨k,h⟩ := P l0 l1 k0 k1
 refine (laws_FnTermOrder.calls k A0 c0 l0 A1 c1 l1 true w hr0 hc0 hr1 hc1 hT h rfl).mono ?_
 rintro e w' ⟨rfl,hd⟩
 exact ⟨rfl,hd⟩
end Go.Proofs.YtebadckdihgklaaDoor.Pb
end
