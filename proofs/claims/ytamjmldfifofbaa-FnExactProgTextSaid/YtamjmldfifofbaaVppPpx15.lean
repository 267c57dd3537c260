-- Cut by prune.py, a program of this session, out of the texts of this claim: Lean checks it.
import Derived.Test.YtamjmldfifofbaaVppPpx0
import Derived.Test.YtamjmldfifofbaaVppPpx3
import Derived.Test.YtamjmldfifofbaaVppPpx14
namespace Go.Proofs.Ytamjmldfifofbaa.Pp
open Go.RowKit Go.Proofs.YtamjmldfifofbaaW.PrintWords Go.Proofs.YtamjmldfifofbaaW.PrintLast Go.Proofs.YtamjmldfifofbaaW.PrintMore
attribute [local go_sem] max2_int min2_int max_two min_two max_three min_three max_four min_four   -- for this text's walks alone
set_option linter.unusedVariables false
set_option linter.unusedSimpArgs false
mutual
def z6_.l0 : Nat → ByteArray → Int → List (S78) → List (S84) → List (S35) → Option (ByteArray)
 | 0,_,_,_,_,_ => none
 | k + 1,x3,x4,x402000,x402001,x402002 => if x4 < (x402000.length : Int) then (z6_.j1 k x3 x4 (decide ((x3.size : Int) ≤ 3000)) x402000 x402001 x402002) else (z6_.j1 k x3 x4 false x402000 x402001 x402002)
def z6_.j1 : Nat → ByteArray → Int → Bool → List (S78) → List (S84) → List (S35) → Option (ByteArray)
 | 0,_,_,_,_,_,_ => none
 | k + 1,x3,x4,x19,x402000,x402001,x402002 => if x19 = true then (if x3.size + 5 ≤ 9223372036854775807 then (if 0 ≤ x4 then (if x4 < (x402000.length : Int) then (if (x3 ++ (⟨#[116,121,112,101,32]⟩ : ByteArray)).size + ((y21 x402000 x4).f0).size ≤ 9223372036854775807 then (if ((x3 ++ (⟨#[116,121,112,101,32]⟩ : ByteArray)) ++ ((y21 x402000 x4).f0)).size + 3 ≤ 9223372036854775807 then (z6_.l1 k (((x3 ++ (⟨#[116,121,112,101,32]⟩ : ByteArray)) ++ ((y21 x402000 x4).f0)) ++ (⟨#[32,61,32]⟩ : ByteArray)) x4 0 x402000 x402001 x402002) else (none)) else (none)) else (none)) else (none)) else (none)) else (z6_.l2 k x3 0 x402000 x402001 x402002)
def z6_.l1 : Nat → ByteArray → Int → Int → List (S78) → List (S84) → List (S35) → Option (ByteArray)
 | 0,_,_,_,_,_,_ => none
 | k + 1,x3,x4,x5,x402000,x402001,x402002 => if 0 ≤ x4 then (if x4 < (x402000.length : Int) then (if x5 < (((y21 x402000 x4).f1).length : Int) then (z6_.j3 k x3 x4 x5 (decide ((x3.size : Int) ≤ 3000)) x402000 x402001 x402002) else (z6_.j3 k x3 x4 x5 false x402000 x402001 x402002)) else (none)) else (none)
def z6_.j3 : Nat → ByteArray → Int → Int → Bool → List (S78) → List (S84) → List (S35) → Option (ByteArray)
 | 0,_,_,_,_,_,_,_ => none
 | k + 1,x3,x4,x5,x45,x402000,x402001,x402002 => if x45 = true then (if 0 ≤ x4 then (if x4 < (x402000.length : Int) then (if 0 ≤ x5 then (if x5 < (((y21 x402000 x4).f1).length : Int) then (if x5 > 0 then (if x3.size + 3 ≤ 9223372036854775807 then (if (x3 ++ (⟨#[32,124,32]⟩ : ByteArray)).size + ((y22 ((y21 x402000 x4).f1) x5).f0).size ≤ 9223372036854775807 then (if (((y22 ((y21 x402000 x4).f1) x5).f1).length : Int) > 0 then (if ((x3 ++ (⟨#[32,124,32]⟩ : ByteArray)) ++ ((y22 ((y21 x402000 x4).f1) x5).f0)).size + 1 ≤ 9223372036854775807 then ((spec_l04List.f k ((y22 ((y21 x402000 x4).f1) x5).f1)).bind fun t407 => (if (((x3 ++ (⟨#[32,124,32]⟩ : ByteArray)) ++ ((y22 ((y21 x402000 x4).f1) x5).f0)) ++ (⟨#[40]⟩ : ByteArray)).size + t407.size ≤ 9223372036854775807 then (if ((((x3 ++ (⟨#[32,124,32]⟩ : ByteArray)) ++ ((y22 ((y21 x402000 x4).f1) x5).f0)) ++ (⟨#[40]⟩ : ByteArray)) ++ t407).size + 1 ≤ 9223372036854775807 then (z6_.l1 k (((((x3 ++ (⟨#[32,124,32]⟩ : ByteArray)) ++ ((y22 ((y21 x402000 x4).f1) x5).f0)) ++ (⟨#[40]⟩ : ByteArray)) ++ t407) ++ (⟨#[41]⟩ : ByteArray)) x4 (wrap64 (x5 + 1)) x402000 x402001 x402002) else (none)) else (none))) else (none)) else (z6_.l1 k ((x3 ++ (⟨#[32,124,32]⟩ : ByteArray)) ++ ((y22 ((y21 x402000 x4).f1) x5).f0)) x4 (wrap64 (x5 + 1)) x402000 x402001 x402002)) else (none)) else (none)) else (if x3.size + ((y22 ((y21 x402000 x4).f1) x5).f0).size ≤ 9223372036854775807 then (if (((y22 ((y21 x402000 x4).f1) x5).f1).length : Int) > 0 then (if (x3 ++ ((y22 ((y21 x402000 x4).f1) x5).f0)).size + 1 ≤ 9223372036854775807 then ((spec_l04List.f k ((y22 ((y21 x402000 x4).f1) x5).f1)).bind fun t408 => (if ((x3 ++ ((y22 ((y21 x402000 x4).f1) x5).f0)) ++ (⟨#[40]⟩ : ByteArray)).size + t408.size ≤ 9223372036854775807 then (if (((x3 ++ ((y22 ((y21 x402000 x4).f1) x5).f0)) ++ (⟨#[40]⟩ : ByteArray)) ++ t408).size + 1 ≤ 9223372036854775807 then (z6_.l1 k ((((x3 ++ ((y22 ((y21 x402000 x4).f1) x5).f0)) ++ (⟨#[40]⟩ : ByteArray)) ++ t408) ++ (⟨#[41]⟩ : ByteArray)) x4 (wrap64 (x5 + 1)) x402000 x402001 x402002) else (none)) else (none))) else (none)) else (z6_.l1 k (x3 ++ ((y22 ((y21 x402000 x4).f1) x5).f0)) x4 (wrap64 (x5 + 1)) x402000 x402001 x402002)) else (none))) else (none)) else (none)) else (none)) else (none)) else (if x3.size + 2 ≤ 9223372036854775807 then (z6_.l0 k (x3 ++ (⟨#[46,10]⟩ : ByteArray)) (wrap64 (x4 + 1)) x402000 x402001 x402002) else (none))
def z6_.l2 : Nat → ByteArray → Int → List (S78) → List (S84) → List (S35) → Option (ByteArray)
 | 0,_,_,_,_,_ => none
 | k + 1,x3,x7,x402000,x402001,x402002 => if x7 < (x402001.length : Int) then (z6_.j5 k x3 x7 (decide ((x3.size : Int) ≤ 3000)) x402000 x402001 x402002) else (z6_.j5 k x3 x7 false x402000 x402001 x402002)
def z6_.j5 : Nat → ByteArray → Int → Bool → List (S78) → List (S84) → List (S35) → Option (ByteArray)
 | 0,_,_,_,_,_,_ => none
 | k + 1,x3,x7,x87,x402000,x402001,x402002 => if x87 = true then (if 0 ≤ x7 then (if x7 < (x402001.length : Int) then ((spec_l01Between.f ((y23 x402001 x7).f2) 0 3).bind fun t410 => (if t410 = true then (if x3.size + 4 ≤ 9223372036854775807 then (if (x3 ++ (⟨#[114,101,108,32]⟩ : ByteArray)).size + ((y23 x402001 x7).f0).size ≤ 9223372036854775807 then (if ((x3 ++ (⟨#[114,101,108,32]⟩ : ByteArray)) ++ ((y23 x402001 x7).f0)).size + 1 ≤ 9223372036854775807 then ((spec_l04List.f k ((y23 x402001 x7).f1)).bind fun t413 => (if (((x3 ++ (⟨#[114,101,108,32]⟩ : ByteArray)) ++ ((y23 x402001 x7).f0)) ++ (⟨#[40]⟩ : ByteArray)).size + t413.size ≤ 9223372036854775807 then (if ((((x3 ++ (⟨#[114,101,108,32]⟩ : ByteArray)) ++ ((y23 x402001 x7).f0)) ++ (⟨#[40]⟩ : ByteArray)) ++ t413).size + 1 ≤ 9223372036854775807 then ((some (([(⟨#[]⟩ : ByteArray),(⟨#[32,105,110,112,117,116]⟩ : ByteArray),(⟨#[32,111,117,116,112,117,116]⟩ : ByteArray),(⟨#[32,105,110,108,105,110,101]⟩ : ByteArray)] : List ByteArray) : List ByteArray)).bind fun y414 => (if 0 ≤ ((y23 x402001 x7).f2) then (if ((y23 x402001 x7).f2) < (y414.length : Int) then (if (((((x3 ++ (⟨#[114,101,108,32]⟩ : ByteArray)) ++ ((y23 x402001 x7).f0)) ++ (⟨#[40]⟩ : ByteArray)) ++ t413) ++ (⟨#[41]⟩ : ByteArray)).size + (rdOf ByteArray.empty y414 ((y23 x402001 x7).f2)).size ≤ 9223372036854775807 then (if ((((((x3 ++ (⟨#[114,101,108,32]⟩ : ByteArray)) ++ ((y23 x402001 x7).f0)) ++ (⟨#[40]⟩ : ByteArray)) ++ t413) ++ (⟨#[41]⟩ : ByteArray)) ++ (rdOf ByteArray.empty y414 ((y23 x402001 x7).f2))).size + 2 ≤ 9223372036854775807 then (z6_.l2 k (((((((x3 ++ (⟨#[114,101,108,32]⟩ : ByteArray)) ++ ((y23 x402001 x7).f0)) ++ (⟨#[40]⟩ : ByteArray)) ++ t413) ++ (⟨#[41]⟩ : ByteArray)) ++ (rdOf ByteArray.empty y414 ((y23 x402001 x7).f2))) ++ (⟨#[46,10]⟩ : ByteArray)) (wrap64 (x7 + 1)) x402000 x402001 x402002) else (none)) else (none)) else (none)) else (none))) else (none)) else (none))) else (none)) else (none)) else (none)) else (some (⟨#[]⟩ : ByteArray)))) else (none)) else (none)) else (z6_.l3 k x3 0 x402000 x402001 x402002)
def z6_.l3 : Nat → ByteArray → Int → List (S78) → List (S84) → List (S35) → Option (ByteArray)
 | 0,_,_,_,_,_ => none
 | k + 1,x3,x8,x402000,x402001,x402002 => if x8 < (x402002.length : Int) then (z6_.j7 k x3 x8 (decide ((x3.size : Int) ≤ 3000)) x402000 x402001 x402002) else (z6_.j7 k x3 x8 false x402000 x402001 x402002)
def z6_.j7 : Nat → ByteArray → Int → Bool → List (S78) → List (S84) → List (S35) → Option (ByteArray)
 | 0,_,_,_,_,_,_ => none
 | k + 1,x3,x8,x137,x402000,x402001,x402002 => if x137 = true then (if 0 ≤ x8 then (if x8 < (x402002.length : Int) then ((z7_.f k ((y20 x402002 x8).f0) ((y20 x402002 x8).f1.f0) ((y20 x402002 x8).f1.f1) ((y20 x402002 x8).f1.f2) ((y20 x402002 x8).f2)).bind fun t420 => (if t420.toList = ([] : List UInt8) then (some (⟨#[]⟩ : ByteArray)) else (if x3.size + t420.size ≤ 9223372036854775807 then (if (x3 ++ t420).size + 1 ≤ 9223372036854775807 then (z6_.l3 k ((x3 ++ t420) ++ (⟨#[10]⟩ : ByteArray)) (wrap64 (x8 + 1)) x402000 x402001 x402002) else (none)) else (none)))) else (none)) else (none)) else (if (x3.size : Int) > 3000 then (some (⟨#[]⟩ : ByteArray)) else (some x3))
end
def z6_.f (k : Nat) (l0_0 : List (S78)) (l0_1 : List (S84)) (l0_2 : List (S35)) : Option (ByteArray) := z6_.l0 k (⟨#[]⟩ : ByteArray) 0 l0_0 l0_1 l0_2
def z6_.T21 : Bool × List (List Nat × List Nat) := (true,[([],[]),([0],[0]),([],[]),([2],[2]),([],[]),([3,4],[3,4]),([5],[5]),([6],[6]),([1,7],[1,7]),([8],[8]),([],[]),([10],[10]),([],[]),([11,12],[11,12]),([13],[13]),([14],[14]),([15],[15]),([9,16],[9,16]),([17],[17]),([],[]),([],[]),([20],[20]),([],[]),([21,22],[21,22]),([23],[23]),([24],[24]),([19,25],[19,25]),([26],[26]),([18,27],[18,27]),([28],[28]),([29,16,0,1,2,3,4,5,6,7,8,9,10,11,12,13,14,15,16,17,18,19,20,21,22,23,24,25,26,27,28,29],[0,29])])
def z6_.B21 : List Nat := [0,1,0,4,0,28,60,124,255,511,0,1024,0,7168,15360,31744,64512,131071,262143,0,0,1048576,0,7340032,15728640,32505856,66584576,133693440,268435455,536870911,1073741823]
theorem z6_.tab21 : rtab .any (opsOf Try.f12 21) = z6_.T21 := by kernel_rfl
theorem z6_.bits21 : waitsOk z6_.T21.2 z6_.B21 = true := by kernel_rfl
set_option maxHeartbeats 8000000 in
set_option maxRecDepth 100000 in
theorem z6_.calls (k : Nat) (A0_0 : Option Addr) (c0_0 : Nat) (l0_0 : List (S78)) (A0_1 : Option Addr) (c0_1 : Nat) (l0_1 : List (S84)) (A0_2 : Option Addr) (c0_2 : Nat) (l0_2 : List (S35)) (r : ByteArray) (w : World) (hr0_0 : Kd.C k78 w A0_0 l0_0.length l0_0) (hc0_0 : l0_0.length ≤ c0_0) (hr0_1 : Kd.C k84 w A0_1 l0_1.length l0_1) (hc0_1 : l0_1.length ≤ c0_1) (hr0_2 : Kd.C k35 w A0_2 l0_2.length l0_2) (hc0_2 : l0_2.length ≤ c0_2) (h : z6_.f k l0_0 l0_1 l0_2 = some r) :
  Calls Try.prog 12 #[.agg #[.slice A0_0 l0_0.length c0_0,.slice A0_1 l0_1.length c0_1,.slice A0_2 l0_2.length c0_2]] w fun e w' => e = .returned (.string r) ∧ Below w.heap.size w w' := by
 have hu50 := Try.underlying50
 have hu80 := Try.underlying80
 have hu35 := Try.underlying35
 have HR0_0 := y0.mk hr0_0
 have HC0_0 := y0.mk hc0_0
 clear hr0_0 hc0_0
 have HR0_1 := y0.mk hr0_1
 have HC0_1 := y0.mk hc0_1
 clear hr0_1 hc0_1
 have HR0_2 := y0.mk hr0_2
 have HC0_2 := y0.mk hc0_2
 clear hr0_2 hc0_2
 have HB := y0.mk (Below.refl w.heap.size w)
 have H : (z6_.l0 k (⟨#[]⟩ : ByteArray) 0 l0_0 l0_1 l0_2) = some r := h
 clear h
 have H' := y0.mk H
 clear H
 go_enter Try.func12,Try.ntmps12
 go_wp2_with (first | ((with_reducible refine y16 (N := 1) rfl ?_); (try (refine gate_guard (by rfl) ?_; dsimp only)); refine qe 1 #[.slice A0_0 l0_0.length c0_0,.slice A0_1 l0_1.length c0_1,.slice A0_2 l0_2.length c0_2] 50 ?_; intro gb401 hg w2 hbox hb; have BK401 := y0.mk (hbox); have GW401 := y0.mk (qg (w := w) hg); have GE401 := y0.mk (qg (w := w) hg); replace HB := y0.mk (y4 qb hb); clear hb hbox hg))
 go_loopg [3,4] k (fun kq v3 v4 w' => ∃ (x3_1 : ByteArray) (x4_1 : Int),v3 = .string x3_1 ∧ v4 = .int .i64 x4_1 ∧ y0 (z6_.l0 kq x3_1 x4_1 l0_0 l0_1 l0_2 = some r) ∧ y0 (kq ≤ k) ∧ y0 (w'.heap[gb401]? = some (.cells #[(.slice A0_0 l0_0.length c0_0),(.slice A0_1 l0_1.length c0_1),(.slice A0_2 l0_2.length c0_2)] 50 (0,0))) ∧ y0 (Below w.heap.size w w'))
 case atStart => exact ⟨((⟨#[]⟩ : ByteArray)),(0),qy2,qy2,H',⟨Nat.le_refl _⟩,⟨qk BK401.out⟩,⟨qb⟩⟩
 case round =>
  clear H'
  obtain ⟨x3_1,x4_1,rfl,rfl,HA,HK1,BK401,HB⟩ := hrel
  cases gk with
  | zero => exact absurd HA.out (by simp [z6_.l0])
  | succ k1 =>
   have H := HA.out
   clear HA
   simp only [z6_.l0] at H
   have HC3 := y0.mk H
   clear H
   go_upto_region 3 with (fail)
   go_cut [19] (fun v19 wc => ∃ (kq : Nat) (x19_2 : Bool),v19 = .bool x19_2 ∧ y0 (z6_.j1 kq x3_1 x4_1 x19_2 l0_0 l0_1 l0_2 = some r) ∧ y0 (kq ≤ k1) ∧ y0 (wc.heap[gb401]? = some (.cells #[(.slice A0_0 l0_0.length c0_0),(.slice A0_1 l0_1.length c0_1),(.slice A0_2 l0_2.length c0_2)] 50 (0,0))) ∧ y0 (Below w.heap.size w wc))
   case first =>
    have H := HC3.out
    clear HC3
    by_cases c4 : x4_1 < (l0_0.length : Int)
    ·as_aux_lemma =>
     rw [if_pos c4] at H
     have c4b0 := decide_eq_true c4
     clear c4
     (first | rw [c4b0] | (simp only [i64_w,i32_w]; rw [c4b0]) | skip)
     have H' := y0.mk H
     clear H
     obtain ⟨hcz5_0,hcz5_1,hcz5_2,hfz5_0,hfz5_1,hfz5_2⟩ := qz3 BK401.out
     go_wp2
     go_meet
     exact ⟨_,(decide ((x3_1.size : Int) ≤ 3000)),qy2,H',⟨by have := HK1.out; first | omega | exact Nat.le_refl _⟩,⟨qk BK401.out⟩,⟨qb⟩⟩
    ·as_aux_lemma =>
     rw [if_neg c4] at H
     have c4b0 := decide_eq_false c4
     clear c4
     (first | rw [c4b0] | (simp only [i64_w,i32_w]; rw [c4b0]) | skip)
     have H' := y0.mk H
     clear H
     obtain ⟨hcz6_0,hcz6_1,hcz6_2,hfz6_0,hfz6_1,hfz6_2⟩ := qz3 BK401.out
     go_wp2
     go_meet
     exact ⟨_,(false),qy2,H',⟨by have := HK1.out; first | omega | exact Nat.le_refl _⟩,⟨qk BK401.out⟩,⟨qb⟩⟩
   case rest =>
    clear HC3
    obtain ⟨kq,x19_2,rfl,HA,HJ2,BK401,HB⟩ := hcut
    cases kq with
    | zero => exact absurd HA.out (by simp [z6_.j1])
    | succ kj2 =>
     have H := HA.out
     clear HA
     simp only [z6_.j1] at H
     by_cases c7 : x19_2 = true
     ·subst c7
      replace H := qT H
      obtain ⟨c8,H⟩ := qo H
      have c8b0 := eq_true c8
      have c8b1 := decide_eq_true c8
      have c8b2 := eq_false (Nat.not_lt.2 c8)
      obtain ⟨c9,H⟩ := qo H
      have c9b0 : decide (0 ≤ x4_1) = true := decide_eq_true c9
      clear c9
      obtain ⟨c10,H⟩ := qo H
      have c10b0 : decide (x4_1 < (l0_0.length : Int)) = true := decide_eq_true c10
      clear c10
      obtain ⟨c11,H⟩ := qo H
      have c11b0 := eq_true c11
      have c11b1 := decide_eq_true c11
      have c11b2 := eq_false (Nat.not_lt.2 c11)
      have c11b3 : (9223372036854775807 < x3_1.size + 5 + ((y21 l0_0 x4_1).f0).size) = False := qs c11b2
      obtain ⟨c12,H⟩ := qo H
      have c12b0 := eq_true c12
      have c12b1 := decide_eq_true c12
      have c12b2 := eq_false (Nat.not_lt.2 c12)
      have c12b3 : (9223372036854775807 < x3_1.size + 5 + ((y21 l0_0 x4_1).f0).size + 3) = False := qs c12b2
      have H' := y0.mk H
      clear H
      obtain ⟨hcz13_0,hcz13_1,hcz13_2,hfz13_0,hfz13_1,hfz13_2⟩ := qz3 BK401.out
      have p402 : 0 ≤ (x4_1 : Int) := of_decide_eq_true qy1
      have q402 : x4_1 < (l0_0.length : Int) := of_decide_eq_true qy1
      obtain ⟨ad402,A402_1,c402_1,e402,hx402_0,hx402_1,hl402_1,hi402_1⟩ := at_T78 HR0_0.out x4_1 p402 q402
      cases e402
      replace hx402_0 := (HB.out.cell (World.block_lt_of_cell? w _ hx402_0)).trans hx402_0
      replace hx402_1 := (HB.out.cell (World.block_lt_of_cell? w _ hx402_1)).trans hx402_1
      have HR402_1 := y0.mk hi402_1
      have HC402_1 := y0.mk hl402_1
      clear hi402_1 hl402_1
      replace p402 := eq_true p402
      replace q402 := eq_true q402
      go_wp2
      go_loopg [3,5] kj2 (fun kq v3 v5 w' => ∃ (x3_3 : ByteArray) (x5_3 : Int),v3 = .string x3_3 ∧ v5 = .int .i64 x5_3 ∧ y0 (z6_.l1 kq x3_3 x4_1 x5_3 l0_0 l0_1 l0_2 = some r) ∧ y0 (kq ≤ kj2) ∧ y0 (w'.heap[gb401]? = some (.cells #[(.slice (some ad402) l0_0.length c0_0),(.slice A0_1 l0_1.length c0_1),(.slice A0_2 l0_2.length c0_2)] 50 (0,0))) ∧ y0 (Below w.heap.size w w'))
      case atStart => exact ⟨(((x3_1 ++ (⟨#[116,121,112,101,32]⟩ : ByteArray)) ++ ((y21 l0_0 x4_1).f0)) ++ (⟨#[32,61,32]⟩ : ByteArray)),(0),qy2,qy2,H',⟨Nat.le_refl _⟩,⟨qk BK401.out⟩,⟨qb⟩⟩
      case round =>
       clear H'
       (try clear c7 c8 c8b0 c8b1 c8b2 c9b0 c10b0 c11 c11b0 c11b1 c11b2 c12 c12b0 c12b1 c12b2 hcz13_0 hcz13_1 hcz13_2 hfz13_0 hfz13_1 hfz13_2 hx402_0 hx402_1 p402 q402)
       obtain ⟨x3_3,x5_3,rfl,rfl,HA,HK3,BK401,HB⟩ := hrel
       cases gk with
       | zero => exact absurd HA.out (by simp [z6_.l1])
       | succ k3 =>
        have H := HA.out
        clear HA
        simp only [z6_.l1] at H
        have HC14 := y0.mk H
        clear H
        go_upto_region 7 with (fail)
        go_cut [45] (fun v45 wc => ∃ (kq : Nat) (x45_13 : Bool),v45 = .bool x45_13 ∧ y0 (z6_.j3 kq x3_3 x4_1 x5_3 x45_13 l0_0 l0_1 l0_2 = some r) ∧ y0 (kq ≤ k3) ∧ y0 (wc.heap[gb401]? = some (.cells #[(.slice (some ad402) l0_0.length c0_0),(.slice A0_1 l0_1.length c0_1),(.slice A0_2 l0_2.length c0_2)] 50 (0,0))) ∧ y0 (Below w.heap.size w wc))
        case first =>
         have H := HC14.out
         clear HC14
         obtain ⟨c15,H⟩ := qo H
         have c15b0 : decide (0 ≤ x4_1) = true := decide_eq_true c15
         clear c15
         (first | rw [c15b0] | (simp only [i64_w,i32_w]; rw [c15b0]) | skip)
         obtain ⟨c16,H⟩ := qo H
         have c16b0 : decide (x4_1 < (l0_0.length : Int)) = true := decide_eq_true c16
         clear c16
         obtain ⟨hcz18_0,hcz18_1,hcz18_2,hfz18_0,hfz18_1,hfz18_2⟩ := qz3 BK401.out
         have p403 : 0 ≤ (x4_1 : Int) := of_decide_eq_true qy1
         have q403 : x4_1 < (l0_0.length : Int) := of_decide_eq_true qy1
         obtain ⟨ad403,A403_1,c403_1,e403,hx403_0,hx403_1,hl403_1,hi403_1⟩ := at_T78 HR0_0.out x4_1 p403 q403
         obtain rfl : ad402 = ad403 := (by injection e403)
         replace hx403_0 := (HB.out.cell (World.block_lt_of_cell? w _ hx403_0)).trans hx403_0
         replace hx403_1 := (HB.out.cell (World.block_lt_of_cell? w _ hx403_1)).trans hx403_1
         have HR403_1 := y0.mk hi403_1
         have HC403_1 := y0.mk hl403_1
         clear hi403_1 hl403_1
         replace p403 := eq_true p403
         replace q403 := eq_true q403
         by_cases c17 : x5_3 < (((y21 l0_0 x4_1).f1).length : Int)
         ·as_aux_lemma =>
          rw [if_pos c17] at H
          have c17b0 := decide_eq_true c17
          clear c17
          have H' := y0.mk H
          clear H
          go_wp2
          go_meet
          exact ⟨_,(decide ((x3_3.size : Int) ≤ 3000)),qy2,H',⟨by have := HK1.out; have := HJ2.out; have := HK3.out; first | omega | exact Nat.le_refl _⟩,⟨qk BK401.out⟩,⟨qb⟩⟩
         ·as_aux_lemma =>
          rw [if_neg c17] at H
          have c17b0 := decide_eq_false c17
          clear c17
          have H' := y0.mk H
          clear H
          go_wp2
          go_meet
          exact ⟨_,(false),qy2,H',⟨by have := HK1.out; have := HJ2.out; have := HK3.out; first | omega | exact Nat.le_refl _⟩,⟨qk BK401.out⟩,⟨qb⟩⟩
        case rest =>
         clear HC14
         obtain ⟨kq,x45_13,rfl,HA,HJ13,BK401,HB⟩ := hcut
         cases kq with
         | zero => exact absurd HA.out (by simp [z6_.j3])
         | succ kj13 =>
          have H := HA.out
          clear HA
          simp only [z6_.j3] at H
          by_cases c20 : x45_13 = true
          ·subst c20
           replace H := qT H
           obtain ⟨c21,H⟩ := qo H
           have c21b0 : decide (0 ≤ x4_1) = true := decide_eq_true c21
           clear c21
           obtain ⟨c22,H⟩ := qo H
           have c22b0 : decide (x4_1 < (l0_0.length : Int)) = true := decide_eq_true c22
           clear c22
           obtain ⟨c23,H⟩ := qo H
           have c23b0 : decide (0 ≤ x5_3) = true := decide_eq_true c23
           clear c23
           obtain ⟨c24,H⟩ := qo H
           have c24b0 : decide (x5_3 < (((y21 l0_0 x4_1).f1).length : Int)) = true := decide_eq_true c24
           clear c24
           by_cases c25 : x5_3 > 0
           ·as_aux_lemma =>
            rw [if_pos c25] at H
            have c25b0 : decide (0 < x5_3) = true := decide_eq_true c25
            clear c25
            obtain ⟨c26,H⟩ := qo H
            have c26b0 := eq_true c26
            have c26b1 := decide_eq_true c26
            have c26b2 := eq_false (Nat.not_lt.2 c26)
            obtain ⟨c27,H⟩ := qo H
            have c27b0 := eq_true c27
            have c27b1 := decide_eq_true c27
            have c27b2 := eq_false (Nat.not_lt.2 c27)
            have c27b3 : (9223372036854775807 < x3_3.size + 3 + ((y22 ((y21 l0_0 x4_1).f1) x5_3).f0).size) = False := qs c27b2
            by_cases c28 : (((y22 ((y21 l0_0 x4_1).f1) x5_3).f1).length : Int) > 0
            ·as_aux_lemma =>
             rw [if_pos c28] at H
             have c28b0 : decide (0 < (((y22 ((y21 l0_0 x4_1).f1) x5_3).f1).length : Int)) = true := decide_eq_true c28
             have c28b1 : decide (0 < ((y22 ((y21 l0_0 x4_1).f1) x5_3).f1).length) = true := decide_eq_true (by omega)
             clear c28
             obtain ⟨c29,H⟩ := qo H
             have c29b0 := eq_true c29
             have c29b1 := decide_eq_true c29
             have c29b2 := eq_false (Nat.not_lt.2 c29)
             have c29b3 : (9223372036854775807 < x3_3.size + 3 + ((y22 ((y21 l0_0 x4_1).f1) x5_3).f0).size + 1) = False := qs c29b2
             obtain ⟨t407,A30,H⟩ := qB H
             obtain ⟨c31,H⟩ := qo H
             have c31b0 := eq_true c31
             have c31b1 := decide_eq_true c31
             have c31b2 := eq_false (Nat.not_lt.2 c31)
             have c31b3 : (9223372036854775807 < x3_3.size + 3 + ((y22 ((y21 l0_0 x4_1).f1) x5_3).f0).size + 1 + t407.size) = False := qs c31b2
             obtain ⟨c32,H⟩ := qo H
             have c32b0 := eq_true c32
             have c32b1 := decide_eq_true c32
             have c32b2 := eq_false (Nat.not_lt.2 c32)
             have c32b3 : (9223372036854775807 < x3_3.size + 3 + ((y22 ((y21 l0_0 x4_1).f1) x5_3).f0).size + 1 + t407.size + 1) = False := qs c32b2
             have H' := y0.mk H
             clear H
             obtain ⟨hcz33_0,hcz33_1,hcz33_2,hfz33_0,hfz33_1,hfz33_2⟩ := qz3 BK401.out
             have p404 : 0 ≤ (x4_1 : Int) := of_decide_eq_true qy1
             have q404 : x4_1 < (l0_0.length : Int) := of_decide_eq_true qy1
             obtain ⟨ad404,A404_1,c404_1,e404,hx404_0,hx404_1,hl404_1,hi404_1⟩ := at_T78 HR0_0.out x4_1 p404 q404
             obtain rfl : ad402 = ad404 := (by injection e404)
             replace hx404_0 := (HB.out.cell (World.block_lt_of_cell? w _ hx404_0)).trans hx404_0
             replace hx404_1 := (HB.out.cell (World.block_lt_of_cell? w _ hx404_1)).trans hx404_1
             have HR404_1 := y0.mk hi404_1
             have HC404_1 := y0.mk hl404_1
             clear hi404_1 hl404_1
             replace p404 := eq_true p404
             replace q404 := eq_true q404
             have p405 : 0 ≤ (x5_3 : Int) := of_decide_eq_true qy1
             have q405 : x5_3 < (((y21 l0_0 x4_1).f1).length : Int) := of_decide_eq_true qy1
             obtain ⟨ad405,A405_1,c405_1,e405,hx405_0,hx405_1,hl405_1,hi405_1⟩ := at_T80 HR404_1.out x5_3 p405 q405
             cases e405
             replace hx405_0 := (HB.out.cell (World.block_lt_of_cell? w _ hx405_0)).trans hx405_0
             replace hx405_1 := (HB.out.cell (World.block_lt_of_cell? w _ hx405_1)).trans hx405_1
             have HR405_1 := y0.mk hi405_1
             have HC405_1 := y0.mk hl405_1
             clear hi405_1 hl405_1
             replace p405 := eq_true p405
             replace q405 := eq_true q405
             go_wp2_with (first | ((with_reducible refine y16 (N := 6) rfl ?_); (try (refine gate_guard (by rfl) ?_; dsimp only)); refine qe 6 #[.string (⟨#[]⟩ : ByteArray),.slice none 0 0] 80 ?_; intro gb406 hg w34 hbox hb; have BK406 := y0.mk (hbox); have GW406 := y0.mk (qg (w := w) hg); have GE406 := y0.mk (qg (w := w) hg); replace HB := y0.mk (y4 qb hb); have NB401_406 := y0.mk (qn BK401.out hg); have NB406_401 := y0.mk (qm BK401.out hg); replace BK401 := y0.mk (qK BK401.out hb); clear hb hbox hg; have hnb35 := NB406_401.out; have hnc35 := NB401_406.out; obtain ⟨hcz36_0,hcz36_1,hfz36_0,hfz36_1⟩ := qz2 BK406.out) | ((with_reducible refine y15 (f := 37) rfl ?_); refine y17 (some 73) rfl rfl Try.func37 (by kernel_rfl) rfl #[.slice A405_1 ((y22 ((y21 l0_0 x4_1).f1) x5_3).f1).length c405_1] rfl qy0 ?_; (with_reducible refine (spec_l04List.calls kj13 _ _ ((y22 ((y21 l0_0 x4_1).f1) x5_3).f1) t407 _ (by exact Kd.C_below HR405_1.out qb) HC405_1.out A30.out).mono ?_); rintro e w' ⟨rfl,⟨nd,rfl⟩⟩; refine ⟨_,rfl, ?_⟩))
             go_roundg kj13
             case measure => have := HK1.out; have := HJ2.out; have := HK3.out; have := HJ13.out; omega
             exact ⟨(((((x3_3 ++ (⟨#[32,124,32]⟩ : ByteArray)) ++ ((y22 ((y21 l0_0 x4_1).f1) x5_3).f0)) ++ (⟨#[40]⟩ : ByteArray)) ++ t407) ++ (⟨#[41]⟩ : ByteArray)),(wrap64 (x5_3 + 1)),qy2,qy2,H',⟨by have := HK1.out; have := HJ2.out; have := HK3.out; have := HJ13.out; omega⟩,⟨by (with_reducible repeat (first | refine y9 ?_ _ | refine y8 ?_ | refine y5 ?_ _)); refine y10 ?_ NB401_406.out _; (with_reducible repeat (first | refine y9 ?_ _ | refine y8 ?_ | refine y5 ?_ _)); refine y10 ?_ NB401_406.out _; (with_reducible repeat (first | refine y9 ?_ _ | refine y8 ?_ | refine y5 ?_ _)); exact BK401.out⟩,⟨qb⟩⟩
            ·as_aux_lemma =>
             rw [if_neg c28] at H
             have c28b0 : decide (0 < (((y22 ((y21 l0_0 x4_1).f1) x5_3).f1).length : Int)) = false := decide_eq_false c28
             have c28b1 : decide (0 < ((y22 ((y21 l0_0 x4_1).f1) x5_3).f1).length) = false := decide_eq_false (by omega)
             clear c28
             have H' := y0.mk H
             clear H
             obtain ⟨hcz37_0,hcz37_1,hcz37_2,hfz37_0,hfz37_1,hfz37_2⟩ := qz3 BK401.out
             have p404 : 0 ≤ (x4_1 : Int) := of_decide_eq_true qy1
             have q404 : x4_1 < (l0_0.length : Int) := of_decide_eq_true qy1
             obtain ⟨ad404,A404_1,c404_1,e404,hx404_0,hx404_1,hl404_1,hi404_1⟩ := at_T78 HR0_0.out x4_1 p404 q404
             obtain rfl : ad402 = ad404 := (by injection e404)
             replace hx404_0 := (HB.out.cell (World.block_lt_of_cell? w _ hx404_0)).trans hx404_0
             replace hx404_1 := (HB.out.cell (World.block_lt_of_cell? w _ hx404_1)).trans hx404_1
             have HR404_1 := y0.mk hi404_1
             have HC404_1 := y0.mk hl404_1
             clear hi404_1 hl404_1
             replace p404 := eq_true p404
             replace q404 := eq_true q404
             have p405 : 0 ≤ (x5_3 : Int) := of_decide_eq_true qy1
             have q405 : x5_3 < (((y21 l0_0 x4_1).f1).length : Int) := of_decide_eq_true qy1
             obtain ⟨ad405,A405_1,c405_1,e405,hx405_0,hx405_1,hl405_1,hi405_1⟩ := at_T80 HR404_1.out x5_3 p405 q405
             cases e405
             replace hx405_0 := (HB.out.cell (World.block_lt_of_cell? w _ hx405_0)).trans hx405_0
             replace hx405_1 := (HB.out.cell (World.block_lt_of_cell? w _ hx405_1)).trans hx405_1
             have HR405_1 := y0.mk hi405_1
             have HC405_1 := y0.mk hl405_1
             clear hi405_1 hl405_1
             replace p405 := eq_true p405
             replace q405 := eq_true q405
             go_wp2_with (first | ((with_reducible refine y16 (N := 6) rfl ?_); (try (refine gate_guard (by rfl) ?_; dsimp only)); refine qe 6 #[.string (⟨#[]⟩ : ByteArray),.slice none 0 0] 80 ?_; intro gb406 hg w38 hbox hb; have BK406 := y0.mk (hbox); have GW406 := y0.mk (qg (w := w) hg); have GE406 := y0.mk (qg (w := w) hg); replace HB := y0.mk (y4 qb hb); have NB401_406 := y0.mk (qn BK401.out hg); have NB406_401 := y0.mk (qm BK401.out hg); replace BK401 := y0.mk (qK BK401.out hb); clear hb hbox hg; have hnb39 := NB406_401.out; have hnc39 := NB401_406.out; obtain ⟨hcz40_0,hcz40_1,hfz40_0,hfz40_1⟩ := qz2 BK406.out))
             go_roundg kj13
             case measure => have := HK1.out; have := HJ2.out; have := HK3.out; have := HJ13.out; omega
             exact ⟨((x3_3 ++ (⟨#[32,124,32]⟩ : ByteArray)) ++ ((y22 ((y21 l0_0 x4_1).f1) x5_3).f0)),(wrap64 (x5_3 + 1)),qy2,qy2,H',⟨by have := HK1.out; have := HJ2.out; have := HK3.out; have := HJ13.out; omega⟩,⟨by (with_reducible repeat (first | refine y9 ?_ _ | refine y8 ?_ | refine y5 ?_ _)); refine y10 ?_ NB401_406.out _; (with_reducible repeat (first | refine y9 ?_ _ | refine y8 ?_ | refine y5 ?_ _)); refine y10 ?_ NB401_406.out _; (with_reducible repeat (first | refine y9 ?_ _ | refine y8 ?_ | refine y5 ?_ _)); exact BK401.out⟩,⟨qb⟩⟩
           ·as_aux_lemma =>
            rw [if_neg c25] at H
            have c25b0 : decide (0 < x5_3) = false := decide_eq_false c25
            clear c25
            obtain ⟨c41,H⟩ := qo H
            have c41b0 := eq_true c41
            have c41b1 := decide_eq_true c41
            have c41b2 := eq_false (Nat.not_lt.2 c41)
            by_cases c42 : (((y22 ((y21 l0_0 x4_1).f1) x5_3).f1).length : Int) > 0
            ·as_aux_lemma =>
             rw [if_pos c42] at H
             have c42b0 : decide (0 < (((y22 ((y21 l0_0 x4_1).f1) x5_3).f1).length : Int)) = true := decide_eq_true c42
             have c42b1 : decide (0 < ((y22 ((y21 l0_0 x4_1).f1) x5_3).f1).length) = true := decide_eq_true (by omega)
             clear c42
             obtain ⟨c43,H⟩ := qo H
             have c43b0 := eq_true c43
             have c43b1 := decide_eq_true c43
             have c43b2 := eq_false (Nat.not_lt.2 c43)
             have c43b3 : (9223372036854775807 < x3_3.size + ((y22 ((y21 l0_0 x4_1).f1) x5_3).f0).size + 1) = False := qs c43b2
             obtain ⟨t408,A44,H⟩ := qB H
             obtain ⟨c45,H⟩ := qo H
             have c45b0 := eq_true c45
             have c45b1 := decide_eq_true c45
             have c45b2 := eq_false (Nat.not_lt.2 c45)
             have c45b3 : (9223372036854775807 < x3_3.size + ((y22 ((y21 l0_0 x4_1).f1) x5_3).f0).size + 1 + t408.size) = False := qs c45b2
             obtain ⟨c46,H⟩ := qo H
             have c46b0 := eq_true c46
             have c46b1 := decide_eq_true c46
             have c46b2 := eq_false (Nat.not_lt.2 c46)
             have c46b3 : (9223372036854775807 < x3_3.size + ((y22 ((y21 l0_0 x4_1).f1) x5_3).f0).size + 1 + t408.size + 1) = False := qs c46b2
             have H' := y0.mk H
             clear H
             obtain ⟨hcz47_0,hcz47_1,hcz47_2,hfz47_0,hfz47_1,hfz47_2⟩ := qz3 BK401.out
             have p404 : 0 ≤ (x4_1 : Int) := of_decide_eq_true qy1
             have q404 : x4_1 < (l0_0.length : Int) := of_decide_eq_true qy1
             obtain ⟨ad404,A404_1,c404_1,e404,hx404_0,hx404_1,hl404_1,hi404_1⟩ := at_T78 HR0_0.out x4_1 p404 q404
             obtain rfl : ad402 = ad404 := (by injection e404)
             replace hx404_0 := (HB.out.cell (World.block_lt_of_cell? w _ hx404_0)).trans hx404_0
             replace hx404_1 := (HB.out.cell (World.block_lt_of_cell? w _ hx404_1)).trans hx404_1
             have HR404_1 := y0.mk hi404_1
             have HC404_1 := y0.mk hl404_1
             clear hi404_1 hl404_1
             replace p404 := eq_true p404
             replace q404 := eq_true q404
             have p405 : 0 ≤ (x5_3 : Int) := of_decide_eq_true qy1
             have q405 : x5_3 < (((y21 l0_0 x4_1).f1).length : Int) := of_decide_eq_true qy1
             obtain ⟨ad405,A405_1,c405_1,e405,hx405_0,hx405_1,hl405_1,hi405_1⟩ := at_T80 HR404_1.out x5_3 p405 q405
             cases e405
             replace hx405_0 := (HB.out.cell (World.block_lt_of_cell? w _ hx405_0)).trans hx405_0
             replace hx405_1 := (HB.out.cell (World.block_lt_of_cell? w _ hx405_1)).trans hx405_1
             have HR405_1 := y0.mk hi405_1
             have HC405_1 := y0.mk hl405_1
             clear hi405_1 hl405_1
             replace p405 := eq_true p405
             replace q405 := eq_true q405
             go_wp2_with (first | ((with_reducible refine y16 (N := 6) rfl ?_); (try (refine gate_guard (by rfl) ?_; dsimp only)); refine qe 6 #[.string (⟨#[]⟩ : ByteArray),.slice none 0 0] 80 ?_; intro gb406 hg w48 hbox hb; have BK406 := y0.mk (hbox); have GW406 := y0.mk (qg (w := w) hg); have GE406 := y0.mk (qg (w := w) hg); replace HB := y0.mk (y4 qb hb); have NB401_406 := y0.mk (qn BK401.out hg); have NB406_401 := y0.mk (qm BK401.out hg); replace BK401 := y0.mk (qK BK401.out hb); clear hb hbox hg; have hnb49 := NB406_401.out; have hnc49 := NB401_406.out; obtain ⟨hcz50_0,hcz50_1,hfz50_0,hfz50_1⟩ := qz2 BK406.out) | ((with_reducible refine y15 (f := 37) rfl ?_); refine y17 (some 73) rfl rfl Try.func37 (by kernel_rfl) rfl #[.slice A405_1 ((y22 ((y21 l0_0 x4_1).f1) x5_3).f1).length c405_1] rfl qy0 ?_; (with_reducible refine (spec_l04List.calls kj13 _ _ ((y22 ((y21 l0_0 x4_1).f1) x5_3).f1) t408 _ (by exact Kd.C_below HR405_1.out qb) HC405_1.out A44.out).mono ?_); rintro e w' ⟨rfl,⟨nd,rfl⟩⟩; refine ⟨_,rfl, ?_⟩))
             go_roundg kj13
             case measure => have := HK1.out; have := HJ2.out; have := HK3.out; have := HJ13.out; omega
             exact ⟨((((x3_3 ++ ((y22 ((y21 l0_0 x4_1).f1) x5_3).f0)) ++ (⟨#[40]⟩ : ByteArray)) ++ t408) ++ (⟨#[41]⟩ : ByteArray)),(wrap64 (x5_3 + 1)),qy2,qy2,H',⟨by have := HK1.out; have := HJ2.out; have := HK3.out; have := HJ13.out; omega⟩,⟨by (with_reducible repeat (first | refine y9 ?_ _ | refine y8 ?_ | refine y5 ?_ _)); refine y10 ?_ NB401_406.out _; (with_reducible repeat (first | refine y9 ?_ _ | refine y8 ?_ | refine y5 ?_ _)); refine y10 ?_ NB401_406.out _; (with_reducible repeat (first | refine y9 ?_ _ | refine y8 ?_ | refine y5 ?_ _)); exact BK401.out⟩,⟨qb⟩⟩
            ·as_aux_lemma =>
             rw [if_neg c42] at H
             have c42b0 : decide (0 < (((y22 ((y21 l0_0 x4_1).f1) x5_3).f1).length : Int)) = false := decide_eq_false c42
             have c42b1 : decide (0 < ((y22 ((y21 l0_0 x4_1).f1) x5_3).f1).length) = false := decide_eq_false (by omega)
             clear c42
             have H' := y0.mk H
             clear H
             obtain ⟨hcz51_0,hcz51_1,hcz51_2,hfz51_0,hfz51_1,hfz51_2⟩ := qz3 BK401.out
             have p404 : 0 ≤ (x4_1 : Int) := of_decide_eq_true qy1
             have q404 : x4_1 < (l0_0.length : Int) := of_decide_eq_true qy1
             obtain ⟨ad404,A404_1,c404_1,e404,hx404_0,hx404_1,hl404_1,hi404_1⟩ := at_T78 HR0_0.out x4_1 p404 q404
             obtain rfl : ad402 = ad404 := (by injection e404)
             replace hx404_0 := (HB.out.cell (World.block_lt_of_cell? w _ hx404_0)).trans hx404_0
             replace hx404_1 := (HB.out.cell (World.block_lt_of_cell? w _ hx404_1)).trans hx404_1
             have HR404_1 := y0.mk hi404_1
             have HC404_1 := y0.mk hl404_1
             clear hi404_1 hl404_1
             replace p404 := eq_true p404
             replace q404 := eq_true q404
             have p405 : 0 ≤ (x5_3 : Int) := of_decide_eq_true qy1
             have q405 : x5_3 < (((y21 l0_0 x4_1).f1).length : Int) := of_decide_eq_true qy1
             obtain ⟨ad405,A405_1,c405_1,e405,hx405_0,hx405_1,hl405_1,hi405_1⟩ := at_T80 HR404_1.out x5_3 p405 q405
             cases e405
             replace hx405_0 := (HB.out.cell (World.block_lt_of_cell? w _ hx405_0)).trans hx405_0
             replace hx405_1 := (HB.out.cell (World.block_lt_of_cell? w _ hx405_1)).trans hx405_1
             have HR405_1 := y0.mk hi405_1
             have HC405_1 := y0.mk hl405_1
             clear hi405_1 hl405_1
             replace p405 := eq_true p405
             replace q405 := eq_true q405
             go_wp2_with (first | ((with_reducible refine y16 (N := 6) rfl ?_); (try (refine gate_guard (by rfl) ?_; dsimp only)); refine qe 6 #[.string (⟨#[]⟩ : ByteArray),.slice none 0 0] 80 ?_; intro gb406 hg w52 hbox hb; have BK406 := y0.mk (hbox); have GW406 := y0.mk (qg (w := w) hg); have GE406 := y0.mk (qg (w := w) hg); replace HB := y0.mk (y4 qb hb); have NB401_406 := y0.mk (qn BK401.out hg); have NB406_401 := y0.mk (qm BK401.out hg); replace BK401 := y0.mk (qK BK401.out hb); clear hb hbox hg; have hnb53 := NB406_401.out; have hnc53 := NB401_406.out; obtain ⟨hcz54_0,hcz54_1,hfz54_0,hfz54_1⟩ := qz2 BK406.out))
             go_roundg kj13
             case measure => have := HK1.out; have := HJ2.out; have := HK3.out; have := HJ13.out; omega
             exact ⟨(x3_3 ++ ((y22 ((y21 l0_0 x4_1).f1) x5_3).f0)),(wrap64 (x5_3 + 1)),qy2,qy2,H',⟨by have := HK1.out; have := HJ2.out; have := HK3.out; have := HJ13.out; omega⟩,⟨by (with_reducible repeat (first | refine y9 ?_ _ | refine y8 ?_ | refine y5 ?_ _)); refine y10 ?_ NB401_406.out _; (with_reducible repeat (first | refine y9 ?_ _ | refine y8 ?_ | refine y5 ?_ _)); refine y10 ?_ NB401_406.out _; (with_reducible repeat (first | refine y9 ?_ _ | refine y8 ?_ | refine y5 ?_ _)); exact BK401.out⟩,⟨qb⟩⟩
          ·replace c20 := Bool.eq_false_iff.mpr c20
           subst c20
           replace H := qF H
           obtain ⟨c55,H⟩ := qo H
           have c55b0 := eq_true c55
           have c55b1 := decide_eq_true c55
           have c55b2 := eq_false (Nat.not_lt.2 c55)
           have H' := y0.mk H
           clear H
           go_wp2
           go_roundg kj13
           case measure => have := HK1.out; have := HJ2.out; have := HK3.out; have := HJ13.out; omega
           exact ⟨(x3_3 ++ (⟨#[46,10]⟩ : ByteArray)),(wrap64 (x4_1 + 1)),qy2,qy2,H',⟨by have := HK1.out; have := HJ2.out; have := HK3.out; have := HJ13.out; omega⟩,⟨qk BK401.out⟩,⟨qb⟩⟩
     ·replace c7 := Bool.eq_false_iff.mpr c7
      subst c7
      replace H := qF H
      have H' := y0.mk H
      clear H
      go_wp2
      go_loopg [3,7] kj2 (fun kq v3 v7 w' => ∃ (x3_3 : ByteArray) (x7_3 : Int),v3 = .string x3_3 ∧ v7 = .int .i64 x7_3 ∧ y0 (z6_.l2 kq x3_3 x7_3 l0_0 l0_1 l0_2 = some r) ∧ y0 (kq ≤ kj2) ∧ y0 (w'.heap[gb401]? = some (.cells #[(.slice A0_0 l0_0.length c0_0),(.slice A0_1 l0_1.length c0_1),(.slice A0_2 l0_2.length c0_2)] 50 (0,0))) ∧ y0 (Below w.heap.size w w'))
      case atStart => exact ⟨(x3_1),(0),qy2,qy2,H',⟨Nat.le_refl _⟩,⟨qk BK401.out⟩,⟨qb⟩⟩
      case round =>
       clear H'
       (try clear c7)
       obtain ⟨x3_3,x7_3,rfl,rfl,HA,HK3,BK401,HB⟩ := hrel
       cases gk with
       | zero => exact absurd HA.out (by simp [z6_.l2])
       | succ k3 =>
        have H := HA.out
        clear HA
        simp only [z6_.l2] at H
        have HC56 := y0.mk H
        clear H
        go_upto_region 17 with (fail)
        go_cut [87] (fun v87 wc => ∃ (kq : Nat) (x87_55 : Bool),v87 = .bool x87_55 ∧ y0 (z6_.j5 kq x3_3 x7_3 x87_55 l0_0 l0_1 l0_2 = some r) ∧ y0 (kq ≤ k3) ∧ y0 (wc.heap[gb401]? = some (.cells #[(.slice A0_0 l0_0.length c0_0),(.slice A0_1 l0_1.length c0_1),(.slice A0_2 l0_2.length c0_2)] 50 (0,0))) ∧ y0 (Below w.heap.size w wc))
        case first =>
         have H := HC56.out
         clear HC56
         by_cases c57 : x7_3 < (l0_1.length : Int)
         ·as_aux_lemma =>
          rw [if_pos c57] at H
          have c57b0 := decide_eq_true c57
          clear c57
          (first | rw [c57b0] | (simp only [i64_w,i32_w]; rw [c57b0]) | skip)
          have H' := y0.mk H
          clear H
          obtain ⟨hcz58_0,hcz58_1,hcz58_2,hfz58_0,hfz58_1,hfz58_2⟩ := qz3 BK401.out
          go_wp2
          go_meet
          exact ⟨_,(decide ((x3_3.size : Int) ≤ 3000)),qy2,H',⟨by have := HK1.out; have := HJ2.out; have := HK3.out; first | omega | exact Nat.le_refl _⟩,⟨qk BK401.out⟩,⟨qb⟩⟩
         ·as_aux_lemma =>
          rw [if_neg c57] at H
          have c57b0 := decide_eq_false c57
          clear c57
          (first | rw [c57b0] | (simp only [i64_w,i32_w]; rw [c57b0]) | skip)
          have H' := y0.mk H
          clear H
          obtain ⟨hcz59_0,hcz59_1,hcz59_2,hfz59_0,hfz59_1,hfz59_2⟩ := qz3 BK401.out
          go_wp2
          go_meet
          exact ⟨_,(false),qy2,H',⟨by have := HK1.out; have := HJ2.out; have := HK3.out; first | omega | exact Nat.le_refl _⟩,⟨qk BK401.out⟩,⟨qb⟩⟩
        case rest =>
         clear HC56
         obtain ⟨kq,x87_55,rfl,HA,HJ55,BK401,HB⟩ := hcut
         cases kq with
         | zero => exact absurd HA.out (by simp [z6_.j5])
         | succ kj55 =>
          have H := HA.out
          clear HA
          simp only [z6_.j5] at H
          by_cases c60 : x87_55 = true
          ·subst c60
           replace H := qT H
           obtain ⟨c61,H⟩ := qo H
           have c61b0 : decide (0 ≤ x7_3) = true := decide_eq_true c61
           clear c61
           obtain ⟨c62,H⟩ := qo H
           have c62b0 : decide (x7_3 < (l0_1.length : Int)) = true := decide_eq_true c62
           clear c62
           obtain ⟨t410,A63,H⟩ := qB H
           by_cases c64 : t410 = true
           ·subst c64
            replace H := qT H
            obtain ⟨c65,H⟩ := qo H
            have c65b0 := eq_true c65
            have c65b1 := decide_eq_true c65
            have c65b2 := eq_false (Nat.not_lt.2 c65)
            obtain ⟨c66,H⟩ := qo H
            have c66b0 := eq_true c66
            have c66b1 := decide_eq_true c66
            have c66b2 := eq_false (Nat.not_lt.2 c66)
            have c66b3 : (9223372036854775807 < x3_3.size + 4 + ((y23 l0_1 x7_3).f0).size) = False := qs c66b2
            obtain ⟨c67,H⟩ := qo H
            have c67b0 := eq_true c67
            have c67b1 := decide_eq_true c67
            have c67b2 := eq_false (Nat.not_lt.2 c67)
            have c67b3 : (9223372036854775807 < x3_3.size + 4 + ((y23 l0_1 x7_3).f0).size + 1) = False := qs c67b2
            obtain ⟨t413,A68,H⟩ := qB H
            obtain ⟨c69,H⟩ := qo H
            have c69b0 := eq_true c69
            have c69b1 := decide_eq_true c69
            have c69b2 := eq_false (Nat.not_lt.2 c69)
            have c69b3 : (9223372036854775807 < x3_3.size + 4 + ((y23 l0_1 x7_3).f0).size + 1 + t413.size) = False := qs c69b2
            obtain ⟨c70,H⟩ := qo H
            have c70b0 := eq_true c70
            have c70b1 := decide_eq_true c70
            have c70b2 := eq_false (Nat.not_lt.2 c70)
            have c70b3 : (9223372036854775807 < x3_3.size + 4 + ((y23 l0_1 x7_3).f0).size + 1 + t413.size + 1) = False := qs c70b2
            obtain ⟨y414,hy414⟩ : ∃ y_ : List ByteArray,y_ = (([(⟨#[]⟩ : ByteArray),(⟨#[32,105,110,112,117,116]⟩ : ByteArray),(⟨#[32,111,117,116,112,117,116]⟩ : ByteArray),(⟨#[32,105,110,108,105,110,101]⟩ : ByteArray)] : List ByteArray)) := ⟨_,rfl⟩
            replace H : (if 0 ≤ ((y23 l0_1 x7_3).f2) then (if ((y23 l0_1 x7_3).f2) < (y414.length : Int) then (if (((((x3_3 ++ (⟨#[114,101,108,32]⟩ : ByteArray)) ++ ((y23 l0_1 x7_3).f0)) ++ (⟨#[40]⟩ : ByteArray)) ++ t413) ++ (⟨#[41]⟩ : ByteArray)).size + (rdOf ByteArray.empty y414 ((y23 l0_1 x7_3).f2)).size ≤ 9223372036854775807 then (if ((((((x3_3 ++ (⟨#[114,101,108,32]⟩ : ByteArray)) ++ ((y23 l0_1 x7_3).f0)) ++ (⟨#[40]⟩ : ByteArray)) ++ t413) ++ (⟨#[41]⟩ : ByteArray)) ++ (rdOf ByteArray.empty y414 ((y23 l0_1 x7_3).f2))).size + 2 ≤ 9223372036854775807 then (z6_.l2 kj55 (((((((x3_3 ++ (⟨#[114,101,108,32]⟩ : ByteArray)) ++ ((y23 l0_1 x7_3).f0)) ++ (⟨#[40]⟩ : ByteArray)) ++ t413) ++ (⟨#[41]⟩ : ByteArray)) ++ (rdOf ByteArray.empty y414 ((y23 l0_1 x7_3).f2))) ++ (⟨#[46,10]⟩ : ByteArray)) (wrap64 (x7_3 + 1)) l0_0 l0_1 l0_2) else (none)) else (none)) else (none)) else (none)) = some r := by first | (rw [hy414]; with_reducible exact H) | (have H2_ := (Option.bind_some _ _).symm.trans H; rw [hy414]; with_reducible exact H2_) | (have H2_ := (Option.bind_some _ _).symm.trans H; with_reducible exact H2_) | with_reducible exact H | (rw [hy414]; exact H) | exact H
            have Ny414 := y0.mk hy414
            clear hy414
            obtain ⟨c71,H⟩ := qo H
            have c71b0 : decide (0 ≤ ((y23 l0_1 x7_3).f2)) = true := decide_eq_true c71
            clear c71
            obtain ⟨c72,H⟩ := qo H
            have c72b0 : decide (((y23 l0_1 x7_3).f2) < (y414.length : Int)) = true := decide_eq_true c72
            clear c72
            obtain ⟨c73,H⟩ := qo H
            have c73b0 := eq_true c73
            have c73b1 := decide_eq_true c73
            have c73b2 := eq_false (Nat.not_lt.2 c73)
            have c73b3 : (9223372036854775807 < x3_3.size + 4 + ((y23 l0_1 x7_3).f0).size + 1 + t413.size + 1 + (rdOf ByteArray.empty y414 ((y23 l0_1 x7_3).f2)).size) = False := qs c73b2
            obtain ⟨c74,H⟩ := qo H
            have c74b0 := eq_true c74
            have c74b1 := decide_eq_true c74
            have c74b2 := eq_false (Nat.not_lt.2 c74)
            have c74b3 : (9223372036854775807 < x3_3.size + 4 + ((y23 l0_1 x7_3).f0).size + 1 + t413.size + 1 + (rdOf ByteArray.empty y414 ((y23 l0_1 x7_3).f2)).size + 2) = False := qs c74b2
            have H' := y0.mk H
            clear H
            obtain ⟨hcz75_0,hcz75_1,hcz75_2,hfz75_0,hfz75_1,hfz75_2⟩ := qz3 BK401.out
            have p409 : 0 ≤ (x7_3 : Int) := of_decide_eq_true qy1
            have q409 : x7_3 < (l0_1.length : Int) := of_decide_eq_true qy1
            obtain ⟨ad409,A409_1,c409_1,e409,hx409_0,hx409_1,hx409_2,hl409_1,hi409_1⟩ := at_T84 HR0_1.out x7_3 p409 q409
            cases e409
            replace hx409_0 := (HB.out.cell (World.block_lt_of_cell? w _ hx409_0)).trans hx409_0
            replace hx409_1 := (HB.out.cell (World.block_lt_of_cell? w _ hx409_1)).trans hx409_1
            replace hx409_2 := (HB.out.cell (World.block_lt_of_cell? w _ hx409_2)).trans hx409_2
            have HR409_1 := y0.mk hi409_1
            have HC409_1 := y0.mk hl409_1
            clear hi409_1 hl409_1
            replace p409 := eq_true p409
            replace q409 := eq_true q409
            try go_wp2_with (first | ((with_reducible refine y15 (f := 38) rfl ?_); refine y17 (some 96) rfl rfl Try.func38 (by kernel_rfl) rfl #[.int .i64 ((y23 l0_1 x7_3).f2),.int .i64 0,.int .i64 3] rfl qy0 ?_; (with_reducible refine (spec_l01Between.calls ((y23 l0_1 x7_3).f2) 0 3 true _ A63.out).mono ?_); rintro e w' ⟨rfl,⟨nd,rfl⟩⟩; refine ⟨_,rfl, ?_⟩))
            have pi418 : (0 ≤ (((y23 l0_1 x7_3).f2) : Int)) = True := eq_true (of_decide_eq_true qy1)
            have qi418 : (((y23 l0_1 x7_3).f2) < (y414.length : Int)) = True := eq_true (of_decide_eq_true qy1)
            (try (rw [drewN_self wc]; have e1_ : ∀ (n_ : Nat) (a_ : Addr),World.cell? wc a_ = World.cell? (World.drewN wc n_) a_ := fun _ _ => rfl; have e2_ : ∀ (n_ : Nat) (a_ : Addr),World.frozen? wc a_ = World.frozen? (World.drewN wc n_) a_ := fun _ _ => rfl; generalize hq_ : World.drewN wc _ = wc; have e3_ := (fun a_ => (e1_ _ a_).trans (congrArg (fun w_ => World.cell? w_ a_) hq_)); have e4_ := (fun a_ => (e2_ _ a_).trans (congrArg (fun w_ => World.frozen? w_ a_) hq_)); clear e1_ e2_; (try replace hx409_0 := (e3_ _).symm.trans hx409_0); (try replace hx409_1 := (e3_ _).symm.trans hx409_1); (try replace hx409_2 := (e3_ _).symm.trans hx409_2); (try replace hcz75_0 := (e3_ _).symm.trans hcz75_0); (try replace hfz75_0 := (e4_ _).symm.trans hfz75_0); (try replace hcz75_1 := (e3_ _).symm.trans hcz75_1); (try replace hfz75_1 := (e4_ _).symm.trans hfz75_1); (try replace hcz75_2 := (e3_ _).symm.trans hcz75_2); (try replace hfz75_2 := (e4_ _).symm.trans hfz75_2); skip; clear e3_ e4_; have n0_ : y0 (wc.heap[gb401]? = some (.cells #[.slice A0_0 l0_0.length c0_0,.slice (some ad409) l0_1.length c0_1,.slice A0_2 l0_2.length c0_2] 50 (0,0))) := ⟨by rw [← hq_]; exact (qk BK401.out)⟩; have n1_ : y0 (Below w.heap.size w wc) := ⟨by rw [← hq_]; exact qb⟩; clear BK401 HB hq_; have BK401 := n0_; have HB := n1_; clear n0_ n1_))
            replace BK401 := y0.mk (y8 BK401.out)
            replace HB := y0.mk (below_drew1 HB.out)
            have p411 : 0 ≤ (x7_3 : Int) := of_decide_eq_true qy1
            have q411 : x7_3 < (l0_1.length : Int) := of_decide_eq_true qy1
            obtain ⟨ad411,A411_1,c411_1,e411,hx411_0,hx411_1,hx411_2,hl411_1,hi411_1⟩ := at_T84 HR0_1.out x7_3 p411 q411
            have hw411_2 := hx411_2
            have hw411_1 := hx411_1
            have hw411_0 := hx411_0
            obtain rfl : ad409 = ad411 := (by injection e411)
            replace hx411_0 := (HB.out.cell (World.block_lt_of_cell? w _ hx411_0)).trans hx411_0
            replace hx411_1 := (HB.out.cell (World.block_lt_of_cell? w _ hx411_1)).trans hx411_1
            replace hx411_2 := (HB.out.cell (World.block_lt_of_cell? w _ hx411_2)).trans hx411_2
            have HR411_1 := y0.mk hi411_1
            have HC411_1 := y0.mk hl411_1
            clear hi411_1 hl411_1
            replace p411 := eq_true p411
            replace q411 := eq_true q411
            have p412 : 0 ≤ (x7_3 : Int) := of_decide_eq_true qy1
            have q412 : x7_3 < (l0_1.length : Int) := of_decide_eq_true qy1
            obtain ⟨ad412,A412_1,c412_1,e412,hx412_0,hx412_1,hx412_2,hl412_1,hi412_1⟩ := at_T84 HR0_1.out x7_3 p412 q412
            have hw412_2 := hx412_2
            have hw412_1 := hx412_1
            have hw412_0 := hx412_0
            obtain rfl : ad409 = ad412 := (by injection e412)
            replace hx412_0 := (HB.out.cell (World.block_lt_of_cell? w _ hx412_0)).trans hx412_0
            replace hx412_1 := (HB.out.cell (World.block_lt_of_cell? w _ hx412_1)).trans hx412_1
            replace hx412_2 := (HB.out.cell (World.block_lt_of_cell? w _ hx412_2)).trans hx412_2
            have HR412_1 := y0.mk hi412_1
            have HC412_1 := y0.mk hl412_1
            clear hi412_1 hl412_1
            replace p412 := eq_true p412
            replace q412 := eq_true q412
            have ea_ := Option.some.inj (hx411_1.symm.trans hx412_1)
            injection ea_ with ea_ en_ ec_
            subst ea_
            subst ec_
            clear en_
            have p417 : 0 ≤ (x7_3 : Int) := of_decide_eq_true qy1
            have q417 : x7_3 < (l0_1.length : Int) := of_decide_eq_true qy1
            obtain ⟨ad417,A417_1,c417_1,e417,hx417_0,hx417_1,hx417_2,hl417_1,hi417_1⟩ := at_T84 HR0_1.out x7_3 p417 q417
            have hw417_2 := hx417_2
            have hw417_1 := hx417_1
            have hw417_0 := hx417_0
            obtain rfl : ad409 = ad417 := (by injection e417)
            replace hx417_0 := (HB.out.cell (World.block_lt_of_cell? w _ hx417_0)).trans hx417_0
            replace hx417_1 := (HB.out.cell (World.block_lt_of_cell? w _ hx417_1)).trans hx417_1
            replace hx417_2 := (HB.out.cell (World.block_lt_of_cell? w _ hx417_2)).trans hx417_2
            have HR417_1 := y0.mk hi417_1
            have HC417_1 := y0.mk hl417_1
            clear hi417_1 hl417_1
            replace p417 := eq_true p417
            replace q417 := eq_true q417
            have ea_ := Option.some.inj (hx411_1.symm.trans hx417_1)
            injection ea_ with ea_ en_ ec_
            subst ea_
            subst ec_
            clear en_
            refine start_ (n := 31) (S := fun w' => w'.cell? ⟨gb401,0,none⟩ = some (.slice A0_0 l0_0.length c0_0) ∧ w'.cell? ⟨gb401,1,none⟩ = some (.slice (some ad409) l0_1.length c0_1) ∧ w'.cell? ⟨gb401,2,none⟩ = some (.slice A0_2 l0_2.length c0_2) ∧ w'.cell? (ad409.add ((x7_3).toNat * 3)) = some (.string ((y23 l0_1 x7_3).f0)) ∧ w'.cell? ⟨(ad409.add ((x7_3).toNat * 3)).block,(ad409.add ((x7_3).toNat * 3)).off + 1,none⟩ = some (.slice A411_1 ((y23 l0_1 x7_3).f1).length c411_1) ∧ w'.cell? ⟨(ad409.add ((x7_3).toNat * 3)).block,(ad409.add ((x7_3).toNat * 3)).off + 2,none⟩ = some (.int .i64 ((y23 l0_1 x7_3).f2)) ∧ w'.cell? (ad409.add ((x7_3).toNat * 3)) = some (.string ((y23 l0_1 x7_3).f0)) ∧ w'.cell? ⟨(ad409.add ((x7_3).toNat * 3)).block,(ad409.add ((x7_3).toNat * 3)).off + 1,none⟩ = some (.slice A411_1 ((y23 l0_1 x7_3).f1).length c411_1) ∧ w'.cell? ⟨(ad409.add ((x7_3).toNat * 3)).block,(ad409.add ((x7_3).toNat * 3)).off + 2,none⟩ = some (.int .i64 ((y23 l0_1 x7_3).f2)) ∧ w'.cell? (ad409.add ((x7_3).toNat * 3)) = some (.string ((y23 l0_1 x7_3).f0)) ∧ w'.cell? ⟨(ad409.add ((x7_3).toNat * 3)).block,(ad409.add ((x7_3).toNat * 3)).off + 1,none⟩ = some (.slice A411_1 ((y23 l0_1 x7_3).f1).length c411_1) ∧ w'.cell? ⟨(ad409.add ((x7_3).toNat * 3)).block,(ad409.add ((x7_3).toNat * 3)).off + 2,none⟩ = some (.int .i64 ((y23 l0_1 x7_3).f2))) (ds := []) (fl_ 31 0) (by kernel_rfl) rfl rfl ⟨(y7 BK401.out 0).trans rfl,(y7 BK401.out 1).trans rfl,(y7 BK401.out 2).trans rfl,((HB.out.cell (World.block_lt_of_cell? w _ hw411_0)).trans hw411_0),((HB.out.cell (World.block_lt_of_cell? w _ hw411_1)).trans hw411_1),((HB.out.cell (World.block_lt_of_cell? w _ hw411_2)).trans hw411_2),((HB.out.cell (World.block_lt_of_cell? w _ hw412_0)).trans hw412_0),((HB.out.cell (World.block_lt_of_cell? w _ hw412_1)).trans hw412_1),((HB.out.cell (World.block_lt_of_cell? w _ hw412_2)).trans hw412_2),((HB.out.cell (World.block_lt_of_cell? w _ hw417_0)).trans hw417_0),((HB.out.cell (World.block_lt_of_cell? w _ hw417_1)).trans hw417_1),((HB.out.cell (World.block_lt_of_cell? w _ hw417_2)).trans hw417_2)⟩ (fun hHeld => ?_); refine with_tabW z6_.tab21 z6_.bits21 (fun HT_ HW_ => ?_)
            generalize wc.drew = w76 at BK401 HB HR411_1 HR412_1 HR417_1 hx409_0 hx409_1 hx409_2 hx411_0 hx411_1 hx411_2 hx412_0 hx412_1 hx412_2 hx417_0 hx417_1 hx417_2 hHeld ⊢
            refine qp 0 98 (fl_ 31 1) ?_
            refine qp 1 99 (fl_ 31 3) ?_
            refine qp 2 100 (fl_ 31 7) ?_
            refine qp 4 102 (fl_ 31 23) ?_
            refine qp 10 108 (fl_ 31 1047) ?_
            refine qp 12 110 (fl_ 31 5143) ?_
            refine qp 20 118 (fl_ 31 1053719) ?_
            refine qp 22 120 (fl_ 31 5248023) ?_
            refine qt 3 101 (fl_ 31 5248031) hHeld ?_
            refine qp 5 103 (fl_ 31 5248063) ?_
            refine qp 6 104 (fl_ 31 5248127) ?_
            refine qt 7 105 (fl_ 31 5248255) hHeld ?_
            refine qp 8 106 (fl_ 31 5248511) ?_
            refine qp 9 107 (fl_ 31 5249023) ?_
            refine qt 11 109 (fl_ 31 5251071) hHeld ?_
            refine qp 13 111 (fl_ 31 5259263) ?_
            refine qp 14 112 (fl_ 31 5275647) ?_
            refine qt 15 113 (fl_ 31 5308415) hHeld ?_
            refine qt 21 119 (fl_ 31 7405567) hHeld ?_
            refine qp 23 121 (fl_ 31 15794175) ?_
            refine qp 24 122 (fl_ 31 32571391) ?_
            refine qt 25 123 (fl_ 31 66125823) hHeld ?_
            refine join_ (σ := Value × Addr) 3 (fl_ 31 268435455) (fun s_ => [(114,.string t413),(117,s_.1),(125,.string (rdOf ByteArray.empty y414 ((y23 l0_1 x7_3).f2))),(115,.string ((((x3_3 ++ (⟨#[114,101,108,32]⟩ : ByteArray)) ++ ((y23 l0_1 x7_3).f0)) ++ (⟨#[40]⟩ : ByteArray)) ++ t413)),(116,.string (((((x3_3 ++ (⟨#[114,101,108,32]⟩ : ByteArray)) ++ ((y23 l0_1 x7_3).f0)) ++ (⟨#[40]⟩ : ByteArray)) ++ t413) ++ (⟨#[41]⟩ : ByteArray))),(124,.pointer (some (s_.2.add (((y23 l0_1 x7_3).f2)).toNat)))]) (fun s_ w' => (w'.cell? ⟨gb401,0,none⟩ = some (.slice A0_0 l0_0.length c0_0) ∧ w'.cell? ⟨gb401,1,none⟩ = some (.slice (some ad409) l0_1.length c0_1) ∧ w'.cell? ⟨gb401,2,none⟩ = some (.slice A0_2 l0_2.length c0_2) ∧ w'.cell? (ad409.add ((x7_3).toNat * 3)) = some (.string ((y23 l0_1 x7_3).f0)) ∧ w'.cell? ⟨(ad409.add ((x7_3).toNat * 3)).block,(ad409.add ((x7_3).toNat * 3)).off + 1,none⟩ = some (.slice A411_1 ((y23 l0_1 x7_3).f1).length c411_1) ∧ w'.cell? ⟨(ad409.add ((x7_3).toNat * 3)).block,(ad409.add ((x7_3).toNat * 3)).off + 2,none⟩ = some (.int .i64 ((y23 l0_1 x7_3).f2)) ∧ w'.cell? (ad409.add ((x7_3).toNat * 3)) = some (.string ((y23 l0_1 x7_3).f0)) ∧ w'.cell? ⟨(ad409.add ((x7_3).toNat * 3)).block,(ad409.add ((x7_3).toNat * 3)).off + 1,none⟩ = some (.slice A411_1 ((y23 l0_1 x7_3).f1).length c411_1) ∧ w'.cell? ⟨(ad409.add ((x7_3).toNat * 3)).block,(ad409.add ((x7_3).toNat * 3)).off + 2,none⟩ = some (.int .i64 ((y23 l0_1 x7_3).f2)) ∧ w'.cell? (ad409.add ((x7_3).toNat * 3)) = some (.string ((y23 l0_1 x7_3).f0)) ∧ w'.cell? ⟨(ad409.add ((x7_3).toNat * 3)).block,(ad409.add ((x7_3).toNat * 3)).off + 1,none⟩ = some (.slice A411_1 ((y23 l0_1 x7_3).f1).length c411_1) ∧ w'.cell? ⟨(ad409.add ((x7_3).toNat * 3)).block,(ad409.add ((x7_3).toNat * 3)).off + 2,none⟩ = some (.int .i64 ((y23 l0_1 x7_3).f2))) ∧ (Kd.R Kd.string 9 w' w.heap.size (fun _ => True) s_.1 y414) ∧ (∃ c_,(s_.1 : Value) = .slice (some s_.2) y414.length c_) ∧ (w'.heap[gb401]? = some (.cells #[.slice A0_0 l0_0.length c0_0,.slice (some ad409) l0_1.length c0_1,.slice A0_2 l0_2.length c0_2] 50 (0,0))) ∧ (Below w.heap.size w w')) ?_ ?_
            rotate_left
            ·intro hCont
             refine two_ (i := 16) (j := 19) (Ni := some 114) (Nj := some 117) (fl_ 31 66191359) (fl_ 31 66650111) rfl rfl rfl rfl (two_of HT_.out (by kernel_rfl)) (by decide) (by decide) (fun K hK => ?_) (fun K hK => ?_)
             ·skip
              refine goes_ Try.func37 (by kernel_rfl) rfl #[.slice A411_1 ((y23 l0_1 x7_3).f1).length c411_1] (by rfl) rfl rfl qy0 ?_
              with_reducible refine (spec_l04List.calls kj55 _ _ ((y23 l0_1 x7_3).f1) t413 _ (qc (Kd.C_below HR412_1.out HB.out)) HC412_1.out A68.out).mono ?_
              rintro e w' ⟨rfl,⟨nd,rfl⟩⟩
              refine ⟨_,rfl, ?_⟩
              refine hK.out _ _ ⟨(y7 BK401.out 0).trans rfl,(y7 BK401.out 1).trans rfl,(y7 BK401.out 2).trans rfl,((HB.out.cell (World.block_lt_of_cell? w _ hw411_0)).trans hw411_0),((HB.out.cell (World.block_lt_of_cell? w _ hw411_1)).trans hw411_1),((HB.out.cell (World.block_lt_of_cell? w _ hw411_2)).trans hw411_2),((HB.out.cell (World.block_lt_of_cell? w _ hw412_0)).trans hw412_0),((HB.out.cell (World.block_lt_of_cell? w _ hw412_1)).trans hw412_1),((HB.out.cell (World.block_lt_of_cell? w _ hw412_2)).trans hw412_2),((HB.out.cell (World.block_lt_of_cell? w _ hw417_0)).trans hw417_0),((HB.out.cell (World.block_lt_of_cell? w _ hw417_1)).trans hw417_1),((HB.out.cell (World.block_lt_of_cell? w _ hw417_2)).trans hw417_2)⟩ (fun hHeld => ?_)
              clear hK K
              refine norm_ (a' := ?_) ?_ ?_
              rotate_left
              ·show Act.put _ (some 114) _ = _
               simp only [Act.put,qS_,qZ_,qC_,i64_w,i32_w]
               rfl
              refine qp 17 115 (fl_ 31 66322431) ?_
              refine qp 18 116 (fl_ 31 66584575) ?_
              refine one_ (i := 19) (N := some 117) (fl_ 31 67108863) rfl rfl (one_of HT_.out (by kernel_rfl)) (by decide) (fun K hK => ?_)
              refine Kd.R_lit_step Kd.string _ 9 ?hg (N := 117) ?hd (xs := ([(⟨#[]⟩ : ByteArray),(⟨#[32,105,110,112,117,116]⟩ : ByteArray),(⟨#[32,111,117,116,112,117,116]⟩ : ByteArray),(⟨#[32,105,110,108,105,110,101]⟩ : ByteArray)] : List ByteArray)) (inner := [.string (⟨#[]⟩ : ByteArray),.string (⟨#[32,105,110,112,117,116]⟩ : ByteArray),.string (⟨#[32,111,117,116,112,117,116]⟩ : ByteArray),.string (⟨#[32,105,110,108,105,110,101]⟩ : ByteArray)]) (ok := fun _ => True) (okp := fun _ => True) ?hr ?hp (fun _ hk => hk) trivial (Below.refl _ _) (Nat.le_refl _) (by simp) ?_; (case hd => rfl); (case hg => rfl); (case hr => first | (go_simp; done) | (go_simp; rfl)); (case hp => exact (Reps.one (show Kd.M Kd.string _ _ _ (⟨#[]⟩ : ByteArray) [.string (⟨#[]⟩ : ByteArray)] from rfl) (Reps.one (show Kd.M Kd.string _ _ _ (⟨#[32,105,110,112,117,116]⟩ : ByteArray) [.string (⟨#[32,105,110,112,117,116]⟩ : ByteArray)] from rfl) (Reps.one (show Kd.M Kd.string _ _ _ (⟨#[32,111,117,116,112,117,116]⟩ : ByteArray) [.string (⟨#[32,111,117,116,112,117,116]⟩ : ByteArray)] from rfl) (Reps.one (show Kd.M Kd.string _ _ _ (⟨#[32,105,110,108,105,110,101]⟩ : ByteArray) [.string (⟨#[32,105,110,108,105,110,101]⟩ : ByteArray)] from rfl) (Reps.none _ _))))))
              intro v415 w77 ho78 hb hg_ hnew_
              clear hg_ hnew_
              (first | rw [← Ny414.out] at ho78 | (simp only [Int.reduceToNat] at ho78; rw [← Ny414.out] at ho78))
              have HO416 := y0.mk (Kd.R_lower ho78 (y3 qb))
              replace BK401 := y0.mk (qK BK401.out hb)
              replace HB := y0.mk (y4 qb hb)
              clear hb ho78
              obtain ⟨Ao79,co79,eo79⟩ := Kd.R_slice HO416.out
              subst eo79
              obtain ⟨ado79,fo79,_⟩ := Kd.at_string (Kd.R_reads' HO416.out).2.2 0 (by decide) (by rw [Ny414.out]; simp)
              cases fo79
              refine hK.out _ _ ⟨(y7 BK401.out 0).trans rfl,(y7 BK401.out 1).trans rfl,(y7 BK401.out 2).trans rfl,((HB.out.cell (World.block_lt_of_cell? w _ hw411_0)).trans hw411_0),((HB.out.cell (World.block_lt_of_cell? w _ hw411_1)).trans hw411_1),((HB.out.cell (World.block_lt_of_cell? w _ hw411_2)).trans hw411_2),((HB.out.cell (World.block_lt_of_cell? w _ hw412_0)).trans hw412_0),((HB.out.cell (World.block_lt_of_cell? w _ hw412_1)).trans hw412_1),((HB.out.cell (World.block_lt_of_cell? w _ hw412_2)).trans hw412_2),((HB.out.cell (World.block_lt_of_cell? w _ hw417_0)).trans hw417_0),((HB.out.cell (World.block_lt_of_cell? w _ hw417_1)).trans hw417_1),((HB.out.cell (World.block_lt_of_cell? w _ hw417_2)).trans hw417_2)⟩ (fun hHeld => ?_)
              clear hK K
              refine norm_ (a' := ?_) ?_ ?_
              rotate_left
              ·show Act.put _ (some 117) _ = _
               simp only [Act.put,qS_,qZ_,qC_,i64_w,i32_w]
               rfl
              refine qp 26 124 (fl_ 31 134217727) ?_
              refine one_ (i := 27) (N := some 125) (fl_ 31 268435455) rfl rfl (one_of HT_.out (by kernel_rfl)) (by decide) (fun K hK => ?_)
              (have p418 : 0 ≤ (((y23 l0_1 x7_3).f2) : Int) := of_decide_eq_true qy1; have q418 : ((y23 l0_1 x7_3).f2) < (y414.length : Int) := of_decide_eq_true qy1; obtain ⟨ad418,e418,hx418_0⟩ := Kd.at_string (Kd.R_reads' HO416.out).2.2 ((y23 l0_1 x7_3).f2) p418 q418; obtain rfl : ado79 = ad418 := (by injection e418))
              refine value_ (w1 := ?_) (v := ?_) (by rfl) rfl ?_ ?_
              rotate_left 2
              ·go_simp
               constructor
               ·rfl
               ·rfl
              clear hx418_0
              refine hK.out _ _ ⟨(y7 BK401.out 0).trans rfl,(y7 BK401.out 1).trans rfl,(y7 BK401.out 2).trans rfl,((HB.out.cell (World.block_lt_of_cell? w _ hw411_0)).trans hw411_0),((HB.out.cell (World.block_lt_of_cell? w _ hw411_1)).trans hw411_1),((HB.out.cell (World.block_lt_of_cell? w _ hw411_2)).trans hw411_2),((HB.out.cell (World.block_lt_of_cell? w _ hw412_0)).trans hw412_0),((HB.out.cell (World.block_lt_of_cell? w _ hw412_1)).trans hw412_1),((HB.out.cell (World.block_lt_of_cell? w _ hw412_2)).trans hw412_2),((HB.out.cell (World.block_lt_of_cell? w _ hw417_0)).trans hw417_0),((HB.out.cell (World.block_lt_of_cell? w _ hw417_1)).trans hw417_1),((HB.out.cell (World.block_lt_of_cell? w _ hw417_2)).trans hw417_2)⟩ (fun hHeld => ?_)
              clear hK K
              refine norm_ (a' := ?_) ?_ ?_
              rotate_left
              ·show Act.put _ (some 125) _ = _
               simp only [Act.put,qS_,qZ_,qC_,i64_w,i32_w]
               rfl
              exact norm_ (by simp only [putAll,Act.put,qS_,qZ_,qC_]) (hCont (.slice (some ado79) y414.length co79,ado79) _ ⟨hHeld,(qR HO416.out),⟨_,rfl⟩,(qk BK401.out),qb⟩)
             ·skip
              refine Kd.R_lit_step Kd.string _ 9 ?hg (N := 117) ?hd (xs := ([(⟨#[]⟩ : ByteArray),(⟨#[32,105,110,112,117,116]⟩ : ByteArray),(⟨#[32,111,117,116,112,117,116]⟩ : ByteArray),(⟨#[32,105,110,108,105,110,101]⟩ : ByteArray)] : List ByteArray)) (inner := [.string (⟨#[]⟩ : ByteArray),.string (⟨#[32,105,110,112,117,116]⟩ : ByteArray),.string (⟨#[32,111,117,116,112,117,116]⟩ : ByteArray),.string (⟨#[32,105,110,108,105,110,101]⟩ : ByteArray)]) (ok := fun _ => True) (okp := fun _ => True) ?hr ?hp (fun _ hk => hk) trivial (Below.refl _ _) (Nat.le_refl _) (by simp) ?_; (case hd => rfl); (case hg => rfl); (case hr => first | (go_simp; done) | (go_simp; rfl)); (case hp => exact (Reps.one (show Kd.M Kd.string _ _ _ (⟨#[]⟩ : ByteArray) [.string (⟨#[]⟩ : ByteArray)] from rfl) (Reps.one (show Kd.M Kd.string _ _ _ (⟨#[32,105,110,112,117,116]⟩ : ByteArray) [.string (⟨#[32,105,110,112,117,116]⟩ : ByteArray)] from rfl) (Reps.one (show Kd.M Kd.string _ _ _ (⟨#[32,111,117,116,112,117,116]⟩ : ByteArray) [.string (⟨#[32,111,117,116,112,117,116]⟩ : ByteArray)] from rfl) (Reps.one (show Kd.M Kd.string _ _ _ (⟨#[32,105,110,108,105,110,101]⟩ : ByteArray) [.string (⟨#[32,105,110,108,105,110,101]⟩ : ByteArray)] from rfl) (Reps.none _ _))))))
              intro v415 w77 ho78 hb hg_ hnew_
              clear hg_ hnew_
              (first | rw [← Ny414.out] at ho78 | (simp only [Int.reduceToNat] at ho78; rw [← Ny414.out] at ho78))
              have HO416 := y0.mk (Kd.R_lower ho78 (y3 qb))
              replace BK401 := y0.mk (qK BK401.out hb)
              replace HB := y0.mk (y4 qb hb)
              clear hb ho78
              obtain ⟨Ao79,co79,eo79⟩ := Kd.R_slice HO416.out
              subst eo79
              obtain ⟨ado79,fo79,_⟩ := Kd.at_string (Kd.R_reads' HO416.out).2.2 0 (by decide) (by rw [Ny414.out]; simp)
              cases fo79
              refine hK.out _ _ ⟨(y7 BK401.out 0).trans rfl,(y7 BK401.out 1).trans rfl,(y7 BK401.out 2).trans rfl,((HB.out.cell (World.block_lt_of_cell? w _ hw411_0)).trans hw411_0),((HB.out.cell (World.block_lt_of_cell? w _ hw411_1)).trans hw411_1),((HB.out.cell (World.block_lt_of_cell? w _ hw411_2)).trans hw411_2),((HB.out.cell (World.block_lt_of_cell? w _ hw412_0)).trans hw412_0),((HB.out.cell (World.block_lt_of_cell? w _ hw412_1)).trans hw412_1),((HB.out.cell (World.block_lt_of_cell? w _ hw412_2)).trans hw412_2),((HB.out.cell (World.block_lt_of_cell? w _ hw417_0)).trans hw417_0),((HB.out.cell (World.block_lt_of_cell? w _ hw417_1)).trans hw417_1),((HB.out.cell (World.block_lt_of_cell? w _ hw417_2)).trans hw417_2)⟩ (fun hHeld => ?_)
              clear hK K
              refine norm_ (a' := ?_) ?_ ?_
              rotate_left
              ·show Act.put _ (some 117) _ = _
               simp only [Act.put,qS_,qZ_,qC_,i64_w,i32_w]
               rfl
              refine qp 26 124 (fl_ 31 133758975) ?_
              refine two_ (i := 16) (j := 27) (Ni := some 114) (Nj := some 125) (fl_ 31 133824511) (fl_ 31 267976703) rfl rfl rfl rfl (two_of HT_.out (by kernel_rfl)) (by decide) (by decide) (fun K hK => ?_) (fun K hK => ?_)
              ·skip
               refine goes_ Try.func37 (by kernel_rfl) rfl #[.slice A411_1 ((y23 l0_1 x7_3).f1).length c411_1] (by rfl) rfl rfl qy0 ?_
               with_reducible refine (spec_l04List.calls kj55 _ _ ((y23 l0_1 x7_3).f1) t413 _ (qc (Kd.C_below HR412_1.out HB.out)) HC412_1.out A68.out).mono ?_
               rintro e w' ⟨rfl,⟨nd,rfl⟩⟩
               refine ⟨_,rfl, ?_⟩
               refine hK.out _ _ ⟨(y7 BK401.out 0).trans rfl,(y7 BK401.out 1).trans rfl,(y7 BK401.out 2).trans rfl,((HB.out.cell (World.block_lt_of_cell? w _ hw411_0)).trans hw411_0),((HB.out.cell (World.block_lt_of_cell? w _ hw411_1)).trans hw411_1),((HB.out.cell (World.block_lt_of_cell? w _ hw411_2)).trans hw411_2),((HB.out.cell (World.block_lt_of_cell? w _ hw412_0)).trans hw412_0),((HB.out.cell (World.block_lt_of_cell? w _ hw412_1)).trans hw412_1),((HB.out.cell (World.block_lt_of_cell? w _ hw412_2)).trans hw412_2),((HB.out.cell (World.block_lt_of_cell? w _ hw417_0)).trans hw417_0),((HB.out.cell (World.block_lt_of_cell? w _ hw417_1)).trans hw417_1),((HB.out.cell (World.block_lt_of_cell? w _ hw417_2)).trans hw417_2)⟩ (fun hHeld => ?_)
               clear hK K
               refine norm_ (a' := ?_) ?_ ?_
               rotate_left
               ·show Act.put _ (some 114) _ = _
                simp only [Act.put,qS_,qZ_,qC_,i64_w,i32_w]
                rfl
               refine qp 17 115 (fl_ 31 133955583) ?_
               refine qp 18 116 (fl_ 31 134217727) ?_
               refine one_ (i := 27) (N := some 125) (fl_ 31 268435455) rfl rfl (one_of HT_.out (by kernel_rfl)) (by decide) (fun K hK => ?_)
               (have p418 : 0 ≤ (((y23 l0_1 x7_3).f2) : Int) := of_decide_eq_true qy1; have q418 : ((y23 l0_1 x7_3).f2) < (y414.length : Int) := of_decide_eq_true qy1; obtain ⟨ad418,e418,hx418_0⟩ := Kd.at_string (Kd.R_reads' HO416.out).2.2 ((y23 l0_1 x7_3).f2) p418 q418; obtain rfl : ado79 = ad418 := (by injection e418))
               refine value_ (w1 := ?_) (v := ?_) (by rfl) rfl ?_ ?_
               rotate_left 2
               ·go_simp
                constructor
                ·rfl
                ·rfl
               clear hx418_0
               refine hK.out _ _ ⟨(y7 BK401.out 0).trans rfl,(y7 BK401.out 1).trans rfl,(y7 BK401.out 2).trans rfl,((HB.out.cell (World.block_lt_of_cell? w _ hw411_0)).trans hw411_0),((HB.out.cell (World.block_lt_of_cell? w _ hw411_1)).trans hw411_1),((HB.out.cell (World.block_lt_of_cell? w _ hw411_2)).trans hw411_2),((HB.out.cell (World.block_lt_of_cell? w _ hw412_0)).trans hw412_0),((HB.out.cell (World.block_lt_of_cell? w _ hw412_1)).trans hw412_1),((HB.out.cell (World.block_lt_of_cell? w _ hw412_2)).trans hw412_2),((HB.out.cell (World.block_lt_of_cell? w _ hw417_0)).trans hw417_0),((HB.out.cell (World.block_lt_of_cell? w _ hw417_1)).trans hw417_1),((HB.out.cell (World.block_lt_of_cell? w _ hw417_2)).trans hw417_2)⟩ (fun hHeld => ?_)
               clear hK K
               refine norm_ (a' := ?_) ?_ ?_
               rotate_left
               ·show Act.put _ (some 125) _ = _
                simp only [Act.put,qS_,qZ_,qC_,i64_w,i32_w]
                rfl
               exact norm_ (by simp only [putAll,Act.put,qS_,qZ_,qC_]) (hCont (.slice (some ado79) y414.length co79,ado79) _ ⟨hHeld,(qR HO416.out),⟨_,rfl⟩,(qk BK401.out),qb⟩)
              ·skip
               (have p418 : 0 ≤ (((y23 l0_1 x7_3).f2) : Int) := of_decide_eq_true qy1; have q418 : ((y23 l0_1 x7_3).f2) < (y414.length : Int) := of_decide_eq_true qy1; obtain ⟨ad418,e418,hx418_0⟩ := Kd.at_string (Kd.R_reads' HO416.out).2.2 ((y23 l0_1 x7_3).f2) p418 q418; obtain rfl : ado79 = ad418 := (by injection e418))
               refine value_ (w1 := ?_) (v := ?_) (by rfl) rfl ?_ ?_
               rotate_left 2
               ·go_simp
                constructor
                ·rfl
                ·rfl
               clear hx418_0
               refine hK.out _ _ ⟨(y7 BK401.out 0).trans rfl,(y7 BK401.out 1).trans rfl,(y7 BK401.out 2).trans rfl,((HB.out.cell (World.block_lt_of_cell? w _ hw411_0)).trans hw411_0),((HB.out.cell (World.block_lt_of_cell? w _ hw411_1)).trans hw411_1),((HB.out.cell (World.block_lt_of_cell? w _ hw411_2)).trans hw411_2),((HB.out.cell (World.block_lt_of_cell? w _ hw412_0)).trans hw412_0),((HB.out.cell (World.block_lt_of_cell? w _ hw412_1)).trans hw412_1),((HB.out.cell (World.block_lt_of_cell? w _ hw412_2)).trans hw412_2),((HB.out.cell (World.block_lt_of_cell? w _ hw417_0)).trans hw417_0),((HB.out.cell (World.block_lt_of_cell? w _ hw417_1)).trans hw417_1),((HB.out.cell (World.block_lt_of_cell? w _ hw417_2)).trans hw417_2)⟩ (fun hHeld => ?_)
               clear hK K
               refine norm_ (a' := ?_) ?_ ?_
               rotate_left
               ·show Act.put _ (some 125) _ = _
                simp only [Act.put,qS_,qZ_,qC_,i64_w,i32_w]
                rfl
               refine one_ (i := 16) (N := some 114) (fl_ 31 268042239) rfl rfl (one_of HT_.out (by kernel_rfl)) (by decide) (fun K hK => ?_)
               refine goes_ Try.func37 (by kernel_rfl) rfl #[.slice A411_1 ((y23 l0_1 x7_3).f1).length c411_1] (by rfl) rfl rfl qy0 ?_
               with_reducible refine (spec_l04List.calls kj55 _ _ ((y23 l0_1 x7_3).f1) t413 _ (qc (Kd.C_below HR412_1.out HB.out)) HC412_1.out A68.out).mono ?_
               rintro e w' ⟨rfl,⟨nd,rfl⟩⟩
               refine ⟨_,rfl, ?_⟩
               refine hK.out _ _ ⟨(y7 BK401.out 0).trans rfl,(y7 BK401.out 1).trans rfl,(y7 BK401.out 2).trans rfl,((HB.out.cell (World.block_lt_of_cell? w _ hw411_0)).trans hw411_0),((HB.out.cell (World.block_lt_of_cell? w _ hw411_1)).trans hw411_1),((HB.out.cell (World.block_lt_of_cell? w _ hw411_2)).trans hw411_2),((HB.out.cell (World.block_lt_of_cell? w _ hw412_0)).trans hw412_0),((HB.out.cell (World.block_lt_of_cell? w _ hw412_1)).trans hw412_1),((HB.out.cell (World.block_lt_of_cell? w _ hw412_2)).trans hw412_2),((HB.out.cell (World.block_lt_of_cell? w _ hw417_0)).trans hw417_0),((HB.out.cell (World.block_lt_of_cell? w _ hw417_1)).trans hw417_1),((HB.out.cell (World.block_lt_of_cell? w _ hw417_2)).trans hw417_2)⟩ (fun hHeld => ?_)
               clear hK K
               refine norm_ (a' := ?_) ?_ ?_
               rotate_left
               ·show Act.put _ (some 114) _ = _
                simp only [Act.put,qS_,qZ_,qC_,i64_w,i32_w]
                rfl
               refine qp 17 115 (fl_ 31 268173311) ?_
               refine qp 18 116 (fl_ 31 268435455) ?_
               exact norm_ (by simp only [putAll,Act.put,qS_,qZ_,qC_]) (hCont (.slice (some ado79) y414.length co79,ado79) _ ⟨hHeld,(qR HO416.out),⟨_,rfl⟩,(qk BK401.out),qb⟩)
            rintro ⟨v415,adz_v415⟩ w80 ⟨hS_,h0_,h1_,h2_,h3_⟩
            have n0_ : y0 (Kd.R Kd.string 9 w80 w.heap.size (fun _ => True) v415 y414) := ⟨h0_⟩
            have n1_ : y0 (∃ c_,(v415 : Value) = .slice (some adz_v415) y414.length c_) := ⟨h1_⟩
            have n2_ : y0 (w80.heap[gb401]? = some (.cells #[.slice A0_0 l0_0.length c0_0,.slice (some ad409) l0_1.length c0_1,.slice A0_2 l0_2.length c0_2] 50 (0,0))) := ⟨h2_⟩
            have n3_ : y0 (Below w.heap.size w w80) := ⟨h3_⟩
            clear BK401
            clear HB
            clear h0_ h1_ h2_ h3_
            have HO416 := n0_
            have HA_HO416 := n1_
            have BK401 := n2_
            have HB := n3_
            clear n0_ n1_ n2_ n3_
            have hHeld : w80.cell? ⟨gb401,0,none⟩ = some (.slice A0_0 l0_0.length c0_0) ∧ w80.cell? ⟨gb401,1,none⟩ = some (.slice (some ad409) l0_1.length c0_1) ∧ w80.cell? ⟨gb401,2,none⟩ = some (.slice A0_2 l0_2.length c0_2) ∧ w80.cell? (ad409.add ((x7_3).toNat * 3)) = some (.string ((y23 l0_1 x7_3).f0)) ∧ w80.cell? ⟨(ad409.add ((x7_3).toNat * 3)).block,(ad409.add ((x7_3).toNat * 3)).off + 1,none⟩ = some (.slice A411_1 ((y23 l0_1 x7_3).f1).length c411_1) ∧ w80.cell? ⟨(ad409.add ((x7_3).toNat * 3)).block,(ad409.add ((x7_3).toNat * 3)).off + 2,none⟩ = some (.int .i64 ((y23 l0_1 x7_3).f2)) ∧ w80.cell? (ad409.add ((x7_3).toNat * 3)) = some (.string ((y23 l0_1 x7_3).f0)) ∧ w80.cell? ⟨(ad409.add ((x7_3).toNat * 3)).block,(ad409.add ((x7_3).toNat * 3)).off + 1,none⟩ = some (.slice A411_1 ((y23 l0_1 x7_3).f1).length c411_1) ∧ w80.cell? ⟨(ad409.add ((x7_3).toNat * 3)).block,(ad409.add ((x7_3).toNat * 3)).off + 2,none⟩ = some (.int .i64 ((y23 l0_1 x7_3).f2)) ∧ w80.cell? (ad409.add ((x7_3).toNat * 3)) = some (.string ((y23 l0_1 x7_3).f0)) ∧ w80.cell? ⟨(ad409.add ((x7_3).toNat * 3)).block,(ad409.add ((x7_3).toNat * 3)).off + 1,none⟩ = some (.slice A411_1 ((y23 l0_1 x7_3).f1).length c411_1) ∧ w80.cell? ⟨(ad409.add ((x7_3).toNat * 3)).block,(ad409.add ((x7_3).toNat * 3)).off + 2,none⟩ = some (.int .i64 ((y23 l0_1 x7_3).f2)) := hS_
            obtain ⟨co81,eo81⟩ := HA_HO416.out
            clear HA_HO416
            subst eo81
            refine norm_ (a' := ?_) ?_ ?_
            rotate_left
            ·simp only [putAll,Act.put,qS_,qZ_,qC_]
             rfl
            refine qp 28 126 (fl_ 31 536870911) ?_
            refine qp 29 127 (fl_ 31 1073741823) ?_
            refine qp 30 3 (fl_ 31 2147483647) ?_
            refine done_ (done_of HT_.out (by kernel_rfl)) ?_
            try go_wp2
            go_roundg kj55
            case measure => have := HK1.out; have := HJ2.out; have := HK3.out; have := HJ55.out; omega
            exact ⟨(((((((x3_3 ++ (⟨#[114,101,108,32]⟩ : ByteArray)) ++ ((y23 l0_1 x7_3).f0)) ++ (⟨#[40]⟩ : ByteArray)) ++ t413) ++ (⟨#[41]⟩ : ByteArray)) ++ (rdOf ByteArray.empty y414 ((y23 l0_1 x7_3).f2))) ++ (⟨#[46,10]⟩ : ByteArray)),(wrap64 (x7_3 + 1)),qy2,qy2,H',⟨by have := HK1.out; have := HJ2.out; have := HK3.out; have := HJ55.out; omega⟩,⟨qk BK401.out⟩,⟨qb⟩⟩
           ·replace c64 := Bool.eq_false_iff.mpr c64
            subst c64
            replace H := qF H
            obtain rfl := Option.some.inj H
            obtain ⟨hcz82_0,hcz82_1,hcz82_2,hfz82_0,hfz82_1,hfz82_2⟩ := qz3 BK401.out
            have p409 : 0 ≤ (x7_3 : Int) := of_decide_eq_true qy1
            have q409 : x7_3 < (l0_1.length : Int) := of_decide_eq_true qy1
            obtain ⟨ad409,A409_1,c409_1,e409,hx409_0,hx409_1,hx409_2,hl409_1,hi409_1⟩ := at_T84 HR0_1.out x7_3 p409 q409
            cases e409
            replace hx409_0 := (HB.out.cell (World.block_lt_of_cell? w _ hx409_0)).trans hx409_0
            replace hx409_1 := (HB.out.cell (World.block_lt_of_cell? w _ hx409_1)).trans hx409_1
            replace hx409_2 := (HB.out.cell (World.block_lt_of_cell? w _ hx409_2)).trans hx409_2
            have HR409_1 := y0.mk hi409_1
            have HC409_1 := y0.mk hl409_1
            clear hi409_1 hl409_1
            replace p409 := eq_true p409
            replace q409 := eq_true q409
            go_wp2_with (first | ((with_reducible refine y15 (f := 38) rfl ?_); refine y17 (some 96) rfl rfl Try.func38 (by kernel_rfl) rfl #[.int .i64 ((y23 l0_1 x7_3).f2),.int .i64 0,.int .i64 3] rfl qy0 ?_; (with_reducible refine (spec_l01Between.calls ((y23 l0_1 x7_3).f2) 0 3 false _ A63.out).mono ?_); rintro e w' ⟨rfl,⟨nd,rfl⟩⟩; refine ⟨_,rfl, ?_⟩))
            go_ret
            exact ⟨by first | rfl | (simp [y12,y13] <;> rfl) | (simp [*,y12,y13] <;> rfl),qb⟩
          ·replace c60 := Bool.eq_false_iff.mpr c60
           subst c60
           replace H := qF H
           have H' := y0.mk H
           clear H
           go_wp2
           go_loopg [3,8] kj55 (fun kq v3 v8 w' => ∃ (x3_5 : ByteArray) (x8_5 : Int),v3 = .string x3_5 ∧ v8 = .int .i64 x8_5 ∧ y0 (z6_.l3 kq x3_5 x8_5 l0_0 l0_1 l0_2 = some r) ∧ y0 (kq ≤ kj55) ∧ y0 (w'.heap[gb401]? = some (.cells #[(.slice A0_0 l0_0.length c0_0),(.slice A0_1 l0_1.length c0_1),(.slice A0_2 l0_2.length c0_2)] 50 (0,0))) ∧ y0 (Below w.heap.size w w'))
           case atStart => exact ⟨(x3_3),(0),qy2,qy2,H',⟨Nat.le_refl _⟩,⟨qk BK401.out⟩,⟨qb⟩⟩
           case round =>
            clear H'
            (try clear c60)
            obtain ⟨x3_5,x8_5,rfl,rfl,HA,HK5,BK401,HB⟩ := hrel
            cases gk with
            | zero => exact absurd HA.out (by simp [z6_.l3])
            | succ k5 =>
             have H := HA.out
             clear HA
             simp only [z6_.l3] at H
             have HC83 := y0.mk H
             clear H
             go_upto_region 23 with (fail)
             go_cut [137] (fun v137 wc => ∃ (kq : Nat) (x137_82 : Bool),v137 = .bool x137_82 ∧ y0 (z6_.j7 kq x3_5 x8_5 x137_82 l0_0 l0_1 l0_2 = some r) ∧ y0 (kq ≤ k5) ∧ y0 (wc.heap[gb401]? = some (.cells #[(.slice A0_0 l0_0.length c0_0),(.slice A0_1 l0_1.length c0_1),(.slice A0_2 l0_2.length c0_2)] 50 (0,0))) ∧ y0 (Below w.heap.size w wc))
             case first =>
              have H := HC83.out
              clear HC83
              by_cases c84 : x8_5 < (l0_2.length : Int)
              ·as_aux_lemma =>
               rw [if_pos c84] at H
               have c84b0 := decide_eq_true c84
               clear c84
               (first | rw [c84b0] | (simp only [i64_w,i32_w]; rw [c84b0]) | skip)
               have H' := y0.mk H
               clear H
               obtain ⟨hcz85_0,hcz85_1,hcz85_2,hfz85_0,hfz85_1,hfz85_2⟩ := qz3 BK401.out
               go_wp2
               go_meet
               exact ⟨_,(decide ((x3_5.size : Int) ≤ 3000)),qy2,H',⟨by have := HK1.out; have := HJ2.out; have := HK3.out; have := HJ55.out; have := HK5.out; first | omega | exact Nat.le_refl _⟩,⟨qk BK401.out⟩,⟨qb⟩⟩
              ·as_aux_lemma =>
               rw [if_neg c84] at H
               have c84b0 := decide_eq_false c84
               clear c84
               (first | rw [c84b0] | (simp only [i64_w,i32_w]; rw [c84b0]) | skip)
               have H' := y0.mk H
               clear H
               obtain ⟨hcz86_0,hcz86_1,hcz86_2,hfz86_0,hfz86_1,hfz86_2⟩ := qz3 BK401.out
               go_wp2
               go_meet
               exact ⟨_,(false),qy2,H',⟨by have := HK1.out; have := HJ2.out; have := HK3.out; have := HJ55.out; have := HK5.out; first | omega | exact Nat.le_refl _⟩,⟨qk BK401.out⟩,⟨qb⟩⟩
             case rest =>
              clear HC83
              obtain ⟨kq,x137_82,rfl,HA,HJ82,BK401,HB⟩ := hcut
              cases kq with
              | zero => exact absurd HA.out (by simp [z6_.j7])
              | succ kj82 =>
               have H := HA.out
               clear HA
               simp only [z6_.j7] at H
               by_cases c87 : x137_82 = true
               ·subst c87
                replace H := qT H
                obtain ⟨c88,H⟩ := qo H
                have c88b0 : decide (0 ≤ x8_5) = true := decide_eq_true c88
                clear c88
                obtain ⟨c89,H⟩ := qo H
                have c89b0 : decide (x8_5 < (l0_2.length : Int)) = true := decide_eq_true c89
                clear c89
                obtain ⟨t420,A90,H⟩ := qB H
                by_cases c91 : t420.toList = ([] : List UInt8)
                ·as_aux_lemma =>
                 rw [if_pos c91] at H
                 have c91b0 : (t420.toList == ([] : List UInt8)) = true := beq_iff_eq.mpr c91
                 have c91b1 : (t420.toList != ([] : List UInt8)) = false := bne_eq_false_iff_eq.mpr c91
                 clear c91
                 obtain rfl := Option.some.inj H
                 obtain ⟨hcz92_0,hcz92_1,hcz92_2,hfz92_0,hfz92_1,hfz92_2⟩ := qz3 BK401.out
                 have p419 : 0 ≤ (x8_5 : Int) := of_decide_eq_true qy1
                 have q419 : x8_5 < (l0_2.length : Int) := of_decide_eq_true qy1
                 obtain ⟨ad419,A419_0,c419_0,A419_3,c419_3,A419_4,c419_4,e419,hx419_0,hx419_1,hx419_2,hx419_3,hx419_4,hl419_0,hi419_0,hl419_3,hi419_3,hl419_4,hi419_4⟩ := at_T35 HR0_2.out x8_5 p419 q419
                 cases e419
                 replace hx419_0 := (HB.out.cell (World.block_lt_of_cell? w _ hx419_0)).trans hx419_0
                 replace hx419_1 := (HB.out.cell (World.block_lt_of_cell? w _ hx419_1)).trans hx419_1
                 replace hx419_2 := (HB.out.cell (World.block_lt_of_cell? w _ hx419_2)).trans hx419_2
                 replace hx419_3 := (HB.out.cell (World.block_lt_of_cell? w _ hx419_3)).trans hx419_3
                 replace hx419_4 := (HB.out.cell (World.block_lt_of_cell? w _ hx419_4)).trans hx419_4
                 have HR419_0 := y0.mk hi419_0
                 have HC419_0 := y0.mk hl419_0
                 clear hi419_0 hl419_0
                 have HR419_3 := y0.mk hi419_3
                 have HC419_3 := y0.mk hl419_3
                 clear hi419_3 hl419_3
                 have HR419_4 := y0.mk hi419_4
                 have HC419_4 := y0.mk hl419_4
                 clear hi419_4 hl419_4
                 replace p419 := eq_true p419
                 replace q419 := eq_true q419
                 go_wp2_with (first | ((with_reducible refine y15 (f := 7) rfl ?_); refine y17 (some 145) rfl rfl Try.func7 (by kernel_rfl) rfl #[.agg #[.slice A419_0 ((y20 l0_2 x8_5).f0).length c419_0,.int .i64 ((y20 l0_2 x8_5).f1.f0),.string ((y20 l0_2 x8_5).f1.f1),.slice A419_3 ((y20 l0_2 x8_5).f1.f2).length c419_3,.slice A419_4 ((y20 l0_2 x8_5).f2).length c419_4]] rfl qy0 ?_; (with_reducible refine (z7_.calls kj82 _ _ ((y20 l0_2 x8_5).f0) ((y20 l0_2 x8_5).f1.f0) ((y20 l0_2 x8_5).f1.f1) _ _ ((y20 l0_2 x8_5).f1.f2) _ _ ((y20 l0_2 x8_5).f2) t420 _ (qc (Kd.C_below HR419_0.out HB.out)) HC419_0.out (qc (Kd.C_below HR419_3.out HB.out)) HC419_3.out (qc (Kd.C_below HR419_4.out HB.out)) HC419_4.out A90.out).mono ?_); rintro e w93 ⟨rfl,hb⟩; refine ⟨_,rfl, ?_⟩; replace BK401 := y0.mk (qK BK401.out hb); replace HB := y0.mk (y4 qb hb); (try clear hb); (try clear hb2); (try clear hk); (try clear hi)))
                 go_ret
                 exact ⟨by first | rfl | (simp [y12,y13] <;> rfl) | (simp [*,y12,y13] <;> rfl),qb⟩
                ·as_aux_lemma =>
                 rw [if_neg c91] at H
                 have c91b0 : (t420.toList == ([] : List UInt8)) = false := beq_eq_false_iff_ne.mpr c91
                 have c91b1 : (t420.toList != ([] : List UInt8)) = true := bne_iff_ne.mpr c91
                 obtain ⟨c94,H⟩ := qo H
                 have c94b0 := eq_true c94
                 have c94b1 := decide_eq_true c94
                 have c94b2 := eq_false (Nat.not_lt.2 c94)
                 obtain ⟨c95,H⟩ := qo H
                 have c95b0 := eq_true c95
                 have c95b1 := decide_eq_true c95
                 have c95b2 := eq_false (Nat.not_lt.2 c95)
                 have c95b3 : (9223372036854775807 < x3_5.size + t420.size + 1) = False := qs c95b2
                 have H' := y0.mk H
                 clear H
                 obtain ⟨hcz96_0,hcz96_1,hcz96_2,hfz96_0,hfz96_1,hfz96_2⟩ := qz3 BK401.out
                 have p419 : 0 ≤ (x8_5 : Int) := of_decide_eq_true qy1
                 have q419 : x8_5 < (l0_2.length : Int) := of_decide_eq_true qy1
                 obtain ⟨ad419,A419_0,c419_0,A419_3,c419_3,A419_4,c419_4,e419,hx419_0,hx419_1,hx419_2,hx419_3,hx419_4,hl419_0,hi419_0,hl419_3,hi419_3,hl419_4,hi419_4⟩ := at_T35 HR0_2.out x8_5 p419 q419
                 cases e419
                 replace hx419_0 := (HB.out.cell (World.block_lt_of_cell? w _ hx419_0)).trans hx419_0
                 replace hx419_1 := (HB.out.cell (World.block_lt_of_cell? w _ hx419_1)).trans hx419_1
                 replace hx419_2 := (HB.out.cell (World.block_lt_of_cell? w _ hx419_2)).trans hx419_2
                 replace hx419_3 := (HB.out.cell (World.block_lt_of_cell? w _ hx419_3)).trans hx419_3
                 replace hx419_4 := (HB.out.cell (World.block_lt_of_cell? w _ hx419_4)).trans hx419_4
                 have HR419_0 := y0.mk hi419_0
                 have HC419_0 := y0.mk hl419_0
                 clear hi419_0 hl419_0
                 have HR419_3 := y0.mk hi419_3
                 have HC419_3 := y0.mk hl419_3
                 clear hi419_3 hl419_3
                 have HR419_4 := y0.mk hi419_4
                 have HC419_4 := y0.mk hl419_4
                 clear hi419_4 hl419_4
                 replace p419 := eq_true p419
                 replace q419 := eq_true q419
                 go_wp2_with (first | ((with_reducible refine y15 (f := 7) rfl ?_); refine y17 (some 145) rfl rfl Try.func7 (by kernel_rfl) rfl #[.agg #[.slice A419_0 ((y20 l0_2 x8_5).f0).length c419_0,.int .i64 ((y20 l0_2 x8_5).f1.f0),.string ((y20 l0_2 x8_5).f1.f1),.slice A419_3 ((y20 l0_2 x8_5).f1.f2).length c419_3,.slice A419_4 ((y20 l0_2 x8_5).f2).length c419_4]] rfl qy0 ?_; (with_reducible refine (z7_.calls kj82 _ _ ((y20 l0_2 x8_5).f0) ((y20 l0_2 x8_5).f1.f0) ((y20 l0_2 x8_5).f1.f1) _ _ ((y20 l0_2 x8_5).f1.f2) _ _ ((y20 l0_2 x8_5).f2) t420 _ (qc (Kd.C_below HR419_0.out HB.out)) HC419_0.out (qc (Kd.C_below HR419_3.out HB.out)) HC419_3.out (qc (Kd.C_below HR419_4.out HB.out)) HC419_4.out A90.out).mono ?_); rintro e w97 ⟨rfl,hb⟩; refine ⟨_,rfl, ?_⟩; replace BK401 := y0.mk (qK BK401.out hb); replace HB := y0.mk (y4 qb hb); (try clear hb); (try clear hb2); (try clear hk); (try clear hi)))
                 go_roundg kj82
                 case measure => have := HK1.out; have := HJ2.out; have := HK3.out; have := HJ55.out; have := HK5.out; have := HJ82.out; omega
                 exact ⟨((x3_5 ++ t420) ++ (⟨#[10]⟩ : ByteArray)),(wrap64 (x8_5 + 1)),qy2,qy2,H',⟨by have := HK1.out; have := HJ2.out; have := HK3.out; have := HJ55.out; have := HK5.out; have := HJ82.out; omega⟩,⟨qk BK401.out⟩,⟨qb⟩⟩
               ·replace c87 := Bool.eq_false_iff.mpr c87
                subst c87
                replace H := qF H
                by_cases c98 : (x3_5.size : Int) > 3000
                ·as_aux_lemma =>
                 rw [if_pos c98] at H
                 have c98b0 : decide (3000 < (x3_5.size : Int)) = true := decide_eq_true c98
                 have c98b1 : decide (3000 < x3_5.size) = true := decide_eq_true (by omega)
                 clear c98
                 obtain rfl := Option.some.inj H
                 go_wp2
                 go_ret
                 exact ⟨by first | rfl | (simp [y12,y13] <;> rfl) | (simp [*,y12,y13] <;> rfl),qb⟩
                ·as_aux_lemma =>
                 rw [if_neg c98] at H
                 have c98b0 : decide (3000 < (x3_5.size : Int)) = false := decide_eq_false c98
                 have c98b1 : decide (3000 < x3_5.size) = false := decide_eq_false (by omega)
                 clear c98
                 obtain rfl := Option.some.inj H
                 go_wp2
                 go_ret
                 exact ⟨by first | rfl | (simp [y12,y13] <;> rfl) | (simp [*,y12,y13] <;> rfl),qb⟩
end Go.Proofs.Ytamjmldfifofbaa.Pp
