-- Cut by prune.py, a program of this session, out of the texts of this claim: Lean checks it.
import Derived.Test.YtamjmldfifofbaaGreatDoorVfaPfx0
import Derived.Test.YtamjmldfifofbaaGreatDoorVfaPfx9
section
namespace Go.Proofs.YtamjmldfifofbaaGreatDoor.Pf
open Go.RowKit Go.Proofs.YtamjmldfifofbaaGreatDoorW.PrintWords Go.Proofs.YtamjmldfifofbaaGreatDoorW.PrintLast Go.Proofs.YtamjmldfifofbaaGreatDoorW.PrintMore
attribute [local go_sem] max2_int min2_int max_two min_two max_three min_three max_four min_four   -- for this text's walks alone
set_option linter.unusedVariables false
set_option linter.unusedSimpArgs false
mutual
def impl_symbolLong.l0 : Nat → ByteArray → Int → Option (Int)
 | 0,_,_ => none
 | k + 1,x0,x3 => if x3 < (x0.size : Int) then (impl_symbolLong.j1 k x0 x3 (decide (x3 ≤ 21))) else (impl_symbolLong.j1 k x0 x3 false)
def impl_symbolLong.j1 : Nat → ByteArray → Int → Bool → Option (Int)
 | 0,_,_,_ => none
 | k + 1,x0,x3,x11 => if x11 = true then (if 0 ≤ x3 then (if x3 < (x0.size : Int) then (if (bt x0 x3) = 34 then (some (wrap64 (x3 + 1))) else (if (bt x0 x3) < 32 then (some 0) else (if (bt x0 x3) > 126 then (some 0) else (if (bt x0 x3) = 92 then (some 0) else (impl_symbolLong.l0 k x0 (wrap64 (x3 + 1))))))) else (none)) else (none)) else (some 0)
end
def impl_symbolLong.f (k : Nat) (a0 : ByteArray) : Option (Int) := impl_symbolLong.l0 k a0 1
set_option maxHeartbeats 8000000 in
set_option maxRecDepth 100000 in
theorem impl_symbolLong.calls (k : Nat) (a0 : ByteArray) (r : Int) (w : World) (h : impl_symbolLong.f k a0 = some r) :
  Calls Tryz.prog 74 #[.string a0] w fun e w' => e = .returned (.int .i64 r) ∧ y1 w w' := by
 have H : (impl_symbolLong.l0 k a0 1) = some r := h
 clear h
 have H' := y0.mk H
 clear H
 go_enter Tryz.func74,Tryz.ntmps74
 go_wp2
 go_loopg [3] k (fun kq v3 w' => ∃ (x3_1 : Int),v3 = .int .i64 x3_1 ∧ y0 (impl_symbolLong.l0 kq a0 x3_1 = some r) ∧ y0 (kq ≤ k) ∧ y1 w w')
 case atStart => exact ⟨(1),(by first | rfl | (simp; done) | (simp [*]; done)),H',⟨Nat.le_refl _⟩,by repeat (first | exact y1.refl _ | apply y1.step)⟩
 case round =>
  clear H'
  obtain ⟨x3_1,rfl,HA,HK1,⟨m1,rfl⟩⟩ := hrel
  cases gk with
  | zero => exact absurd HA.out (by simp [impl_symbolLong.l0])
  | succ k1 =>
   have H := HA.out
   clear HA
   simp only [impl_symbolLong.l0] at H
   have HC2 := y0.mk H
   clear H
   go_upto_region 2 with (fail)
   go_cut [11] (fun v11 wc => ∃ (kq : Nat) (x11_1 : Bool),v11 = .bool x11_1 ∧ y0 (impl_symbolLong.j1 kq a0 x3_1 x11_1 = some r) ∧ y0 (kq ≤ k1) ∧ y1 w wc)
   case first =>
    have H := HC2.out
    clear HC2
    by_cases c3 : x3_1 < (a0.size : Int)
    ·rw [if_pos c3] at H
     have c3b0 : decide (x3_1 < (a0.size : Int)) = true := decide_eq_true c3
     clear c3
     (first | rw [c3b0] | (simp only [y22,y21]; rw [c3b0]) | skip)
     have H' := y0.mk H
     clear H
     go_wp2
     go_meet
     case rel => exact ⟨_,(decide (x3_1 ≤ 21)),(by first | rfl | (simp; done) | (simp [*]; done)),H',⟨by have := HK1.out; first | omega | exact Nat.le_refl _⟩,by repeat (first | exact y1.refl _ | apply y1.step)⟩
    ·rw [if_neg c3] at H
     have c3b0 : decide (x3_1 < (a0.size : Int)) = false := decide_eq_false c3
     clear c3
     (first | rw [c3b0] | (simp only [y22,y21]; rw [c3b0]) | skip)
     have H' := y0.mk H
     clear H
     go_wp2
     go_meet
     case rel => exact ⟨_,(false),(by first | rfl | (simp; done) | (simp [*]; done)),H',⟨by have := HK1.out; first | omega | exact Nat.le_refl _⟩,by repeat (first | exact y1.refl _ | apply y1.step)⟩
   case rest =>
    clear HC2
    try clear p2
    try clear c3
    try clear c3b0
    obtain ⟨kq,x11_1,rfl,HA,HJ1,⟨mc1,rfl⟩⟩ := hcut
    cases kq with
    | zero => exact absurd HA.out (by simp [impl_symbolLong.j1])
    | succ kj1 =>
     have H := HA.out
     clear HA
     simp only [impl_symbolLong.j1] at H
     by_cases c4 : x11_1 = true
     ·subst c4
      have H1 : (if 0 ≤ x3_1 then (if x3_1 < (a0.size : Int) then (if (bt a0 x3_1) = 34 then (some (wrap64 (x3_1 + 1))) else (if (bt a0 x3_1) < 32 then (some 0) else (if (bt a0 x3_1) > 126 then (some 0) else (if (bt a0 x3_1) = 92 then (some 0) else (impl_symbolLong.l0 kj1 a0 (wrap64 (x3_1 + 1))))))) else (none)) else (none)) = some r := by rw [if_pos rfl] at H; exact H
      clear H
      have H := H1
      clear H1
      by_cases c5 : 0 ≤ x3_1
      ·rw [if_pos c5] at H
       have c5b0 : decide (0 ≤ x3_1) = true := decide_eq_true c5
       clear c5
       by_cases c6 : x3_1 < (a0.size : Int)
       ·rw [if_pos c6] at H
        have c6b0 : decide (x3_1 < (a0.size : Int)) = true := decide_eq_true c6
        clear c6
        by_cases c8 : (bt a0 x3_1) = 34
        ·rw [if_pos c8] at H
         have c8b0 : ((bt a0 x3_1) == 34) = true := beq_iff_eq.mpr c8
         have c8b1 : ((bt a0 x3_1) != 34) = false := bne_eq_false_iff_eq.mpr c8
         clear c8
         obtain rfl := Option.some.inj H
         have p7 : 0 ≤ (x3_1 : Int) := of_decide_eq_true (by first | (with_reducible assumption) | assumption)
         have q7 : x3_1 < (a0.size : Int) := of_decide_eq_true (by first | (with_reducible assumption) | assumption)
         have hx7 := bt_at a0 x3_1
         replace p7 := eq_true p7
         replace q7 := eq_true q7
         go_wp2
         go_ret
         exact ⟨by first | rfl | (simp; done) | (simp [*]; done),by repeat (first | exact y1.refl _ | apply y1.step)⟩
        ·rw [if_neg c8] at H
         have c8b0 : ((bt a0 x3_1) == 34) = false := beq_eq_false_iff_ne.mpr c8
         have c8b1 : ((bt a0 x3_1) != 34) = true := bne_iff_ne.mpr c8
         by_cases c10 : (bt a0 x3_1) < 32
         ·rw [if_pos c10] at H
          have c10b0 : decide ((bt a0 x3_1) < 32) = true := decide_eq_true c10
          clear c10
          obtain rfl := Option.some.inj H
          have p7 : 0 ≤ (x3_1 : Int) := of_decide_eq_true (by first | (with_reducible assumption) | assumption)
          have q7 : x3_1 < (a0.size : Int) := of_decide_eq_true (by first | (with_reducible assumption) | assumption)
          have hx7 := bt_at a0 x3_1
          replace p7 := eq_true p7
          replace q7 := eq_true q7
          have p9 : 0 ≤ (x3_1 : Int) := of_decide_eq_true (by first | (with_reducible assumption) | assumption)
          have q9 : x3_1 < (a0.size : Int) := of_decide_eq_true (by first | (with_reducible assumption) | assumption)
          have hx9 := bt_at a0 x3_1
          replace p9 := eq_true p9
          replace q9 := eq_true q9
          go_wp2
          go_ret
          exact ⟨by first | rfl | (simp; done) | (simp [*]; done),by repeat (first | exact y1.refl _ | apply y1.step)⟩
         ·rw [if_neg c10] at H
          have c10b0 : decide ((bt a0 x3_1) < 32) = false := decide_eq_false c10
          clear c10
          by_cases c12 : (bt a0 x3_1) > 126
          ·rw [if_pos c12] at H
           have c12b0 : decide (126 < (bt a0 x3_1)) = true := decide_eq_true c12
           clear c12
           obtain rfl := Option.some.inj H
           have p7 : 0 ≤ (x3_1 : Int) := of_decide_eq_true (by first | (with_reducible assumption) | assumption)
           have q7 : x3_1 < (a0.size : Int) := of_decide_eq_true (by first | (with_reducible assumption) | assumption)
           have hx7 := bt_at a0 x3_1
           replace p7 := eq_true p7
           replace q7 := eq_true q7
           have p9 : 0 ≤ (x3_1 : Int) := of_decide_eq_true (by first | (with_reducible assumption) | assumption)
           have q9 : x3_1 < (a0.size : Int) := of_decide_eq_true (by first | (with_reducible assumption) | assumption)
           have hx9 := bt_at a0 x3_1
           replace p9 := eq_true p9
           replace q9 := eq_true q9
           have p11 : 0 ≤ (x3_1 : Int) := of_decide_eq_true (by first | (with_reducible assumption) | assumption)
           have q11 : x3_1 < (a0.size : Int) := of_decide_eq_true (by first | (with_reducible assumption) | assumption)
           have hx11 := bt_at a0 x3_1
           replace p11 := eq_true p11
           replace q11 := eq_true q11
           go_wp2
           go_ret
           exact ⟨by first | rfl | (simp; done) | (simp [*]; done),by repeat (first | exact y1.refl _ | apply y1.step)⟩
          ·rw [if_neg c12] at H
           have c12b0 : decide (126 < (bt a0 x3_1)) = false := decide_eq_false c12
           clear c12
           by_cases c14 : (bt a0 x3_1) = 92
           ·rw [if_pos c14] at H
            have c14b0 : ((bt a0 x3_1) == 92) = true := beq_iff_eq.mpr c14
            have c14b1 : ((bt a0 x3_1) != 92) = false := bne_eq_false_iff_eq.mpr c14
            clear c14
            obtain rfl := Option.some.inj H
            have p7 : 0 ≤ (x3_1 : Int) := of_decide_eq_true (by first | (with_reducible assumption) | assumption)
            have q7 : x3_1 < (a0.size : Int) := of_decide_eq_true (by first | (with_reducible assumption) | assumption)
            have hx7 := bt_at a0 x3_1
            replace p7 := eq_true p7
            replace q7 := eq_true q7
            have p9 : 0 ≤ (x3_1 : Int) := of_decide_eq_true (by first | (with_reducible assumption) | assumption)
            have q9 : x3_1 < (a0.size : Int) := of_decide_eq_true (by first | (with_reducible assumption) | assumption)
            have hx9 := bt_at a0 x3_1
            replace p9 := eq_true p9
            replace q9 := eq_true q9
            have p11 : 0 ≤ (x3_1 : Int) := of_decide_eq_true (by first | (with_reducible assumption) | assumption)
            have q11 : x3_1 < (a0.size : Int) := of_decide_eq_true (by first | (with_reducible assumption) | assumption)
            have hx11 := bt_at a0 x3_1
            replace p11 := eq_true p11
            replace q11 := eq_true q11
            have p13 : 0 ≤ (x3_1 : Int) := of_decide_eq_true (by first | (with_reducible assumption) | assumption)
            have q13 : x3_1 < (a0.size : Int) := of_decide_eq_true (by first | (with_reducible assumption) | assumption)
            have hx13 := bt_at a0 x3_1
            replace p13 := eq_true p13
            replace q13 := eq_true q13
            go_wp2
            go_ret
            exact ⟨by first | rfl | (simp; done) | (simp [*]; done),by repeat (first | exact y1.refl _ | apply y1.step)⟩
           ·rw [if_neg c14] at H
            have c14b0 : ((bt a0 x3_1) == 92) = false := beq_eq_false_iff_ne.mpr c14
            have c14b1 : ((bt a0 x3_1) != 92) = true := bne_iff_ne.mpr c14
            have H' := y0.mk H
            clear H
            have p7 : 0 ≤ (x3_1 : Int) := of_decide_eq_true (by first | (with_reducible assumption) | assumption)
            have q7 : x3_1 < (a0.size : Int) := of_decide_eq_true (by first | (with_reducible assumption) | assumption)
            have hx7 := bt_at a0 x3_1
            replace p7 := eq_true p7
            replace q7 := eq_true q7
            have p9 : 0 ≤ (x3_1 : Int) := of_decide_eq_true (by first | (with_reducible assumption) | assumption)
            have q9 : x3_1 < (a0.size : Int) := of_decide_eq_true (by first | (with_reducible assumption) | assumption)
            have hx9 := bt_at a0 x3_1
            replace p9 := eq_true p9
            replace q9 := eq_true q9
            have p11 : 0 ≤ (x3_1 : Int) := of_decide_eq_true (by first | (with_reducible assumption) | assumption)
            have q11 : x3_1 < (a0.size : Int) := of_decide_eq_true (by first | (with_reducible assumption) | assumption)
            have hx11 := bt_at a0 x3_1
            replace p11 := eq_true p11
            replace q11 := eq_true q11
            have p13 : 0 ≤ (x3_1 : Int) := of_decide_eq_true (by first | (with_reducible assumption) | assumption)
            have q13 : x3_1 < (a0.size : Int) := of_decide_eq_true (by first | (with_reducible assumption) | assumption)
            have hx13 := bt_at a0 x3_1
            replace p13 := eq_true p13
            replace q13 := eq_true q13
            go_wp2
            go_roundg kj1
            case measure => have := HK1.out; have := HJ1.out; omega
            case rel => exact ⟨(wrap64 (x3_1 + 1)),(by first | rfl | (simp; done) | (simp [*]; done)),H',⟨by have := HK1.out; have := HJ1.out; omega⟩,by repeat (first | exact y1.refl _ | apply y1.step)⟩
       ·rw [if_neg c6] at H
        exact absurd H (by simp)
      ·rw [if_neg c5] at H
       exact absurd H (by simp)
     ·replace c4 := Bool.eq_false_iff.mpr c4
      subst c4
      have H1 : (some 0) = some r := by rw [if_neg (show ¬ (false = true) by decide)] at H; exact H
      clear H
      have H := H1
      clear H1
      obtain rfl := Option.some.inj H
      go_wp2
      go_ret
      exact ⟨by first | rfl | (simp; done) | (simp [*]; done),by repeat (first | exact y1.refl _ | apply y1.step)⟩
def impl_isDigit.f (a0 : Int) : Option (Bool) := if a0 ≥ 48 then (some (decide (a0 ≤ 57))) else (some false)
set_option maxHeartbeats 8000000 in
set_option maxRecDepth 100000 in
theorem impl_isDigit.calls (a0 : Int) (r : Bool) (w : World) (h : impl_isDigit.f a0 = some r) :
  Calls Tryz.prog 75 #[.int .u8 a0] w fun e w' => e = .returned (.bool r) ∧ y1 w w' := by
 have H : (if a0 ≥ 48 then (some (decide (a0 ≤ 57))) else (some false)) = some r := h
 clear h
 by_cases c2 : a0 ≥ 48
 ·rw [if_pos c2] at H
  have c2b0 : decide (48 ≤ a0) = true := decide_eq_true c2
  clear c2
  obtain rfl := Option.some.inj H
  go_enter Tryz.func75,Tryz.ntmps75
  go_wp2
  go_ret
  exact ⟨by first | rfl | (simp; done) | (simp [*]; done),by repeat (first | exact y1.refl _ | apply y1.step)⟩
 ·rw [if_neg c2] at H
  have c2b0 : decide (48 ≤ a0) = false := decide_eq_false c2
  clear c2
  obtain rfl := Option.some.inj H
  go_enter Tryz.func75,Tryz.ntmps75
  go_wp2
  go_ret
  exact ⟨by first | rfl | (simp; done) | (simp [*]; done),by repeat (first | exact y1.refl _ | apply y1.step)⟩
def ErrIs : Option Int → Value → Prop
 | none,ev => ev = .nilIface
 | some _,ev => ∃ te pe,ev = .iface te pe
theorem errIs_none {ev : Value} (h : ErrIs none ev) : ev = .nilIface := h
theorem errIs_some {q : Int} {ev : Value} (h : ErrIs (some q) ev) : ∃ te pe,ev = .iface te pe := h
/-- strconv.Atoi: the number, and whether there is an error. -/
def strconv_Atoi.f (a0 : ByteArray) : Option (Int × Option Int) :=
 if a0.size ≤ 281474976710656 then (match Lib.atoiAll a0.data.toList with
  | .ok v => some (v,none)
  | .range => some (Lib.atoiSat a0.data.toList,some 1)
  | _ => some (0, some 0)) else none
theorem strconv_Atoi.calls (a0 : ByteArray) (r1 : Int) (r2 : Option Int) (w : World) (hT : Tb w) (h : strconv_Atoi.f a0 = some (r1,r2)) :
  Calls Tryz.prog 76 #[.string a0] w fun e w' => ∃ ev,e = .returned (.tuple #[.int .i64 r1,ev]) ∧ ErrIs r2 ev ∧ Below w.heap.size w w' := by
 unfold strconv_Atoi.f at h
 by_cases h0 : a0.size ≤ 281474976710656
 ·rw [if_pos h0] at h
  rcases hn : Lib.atoiAll a0.data.toList with v | _ | _
  ·
   simp only [hn,Option.some.injEq,Prod.mk.injEq] at h
   obtain ⟨rfl,rfl⟩ := h
   refine (Tryz.strconv_Atoi_ok a0 (by omega) v hn w).mono ?_
   rintro e w' ⟨rfl,hw⟩
   refine ⟨_,rfl,rfl, ?_⟩
   rcases hw with rfl | ⟨t,rfl⟩
   ·exact Below.refl _ _
   ·exact bytes_below (Below.refl _ _) (Nat.le_refl _) _ _
  ·
   simp only [hn,Option.some.injEq,Prod.mk.injEq] at h
   obtain ⟨rfl,rfl⟩ := h
   obtain ⟨ev,h1,h2⟩ := hT.es
   refine (Tryz.strconv_Atoi_syntax a0 h0 hn ev w h1 h2).mono ?_
   rintro e w' ⟨n,rfl,_,_,hb⟩
   exact ⟨_,rfl,⟨_,_,rfl⟩,hb⟩
  ·
   simp only [hn,Option.some.injEq,Prod.mk.injEq] at h
   obtain ⟨rfl,rfl⟩ := h
   obtain ⟨ev,h1,h2⟩ := hT.er
   refine (Tryz.strconv_Atoi_range a0 h0 hn ev w h1 h2).mono ?_
   rintro e w' ⟨n,rfl,_,_,hb⟩
   exact ⟨_,rfl,⟨_,_,rfl⟩,hb⟩
 ·rw [if_neg h0] at h
  cases h
def strconv_Itoa.f (a0 : Int) : Option ByteArray := if -9223372036854775808 ≤ a0 then if a0 ≤ 9223372036854775807 then some ⟨(Lib.itoa a0).toArray⟩ else none else none
theorem strconv_Itoa.calls (a0 : Int) (r : ByteArray) (w : World) (hT : Tb w) (h : strconv_Itoa.f a0 = some r) :
  Calls Tryz.prog 77 #[.int .i64 a0] w fun e w' => e = .returned (.string r) ∧ Below w.heap.size w w' := by
 unfold strconv_Itoa.f at h
 by_cases h0 : -9223372036854775808 ≤ a0
 ·by_cases h1 : a0 ≤ 9223372036854775807
  ·rw [if_pos h0,if_pos h1] at h
   obtain rfl := Option.some.inj h
   refine (Tryz.strconv_Itoa a0 h0 h1 w hT.pow).mono ?_
   rintro e w' ⟨rfl,k,os,rfl⟩
   exact ⟨rfl,QRead.below_grow_drewN w k os⟩
  ·rw [if_pos h0,if_neg h1] at h
   cases h
 ·rw [if_neg h0] at h
  cases h
def impl_isLetter.f (a0 : Int) : Option (Bool) := if a0 ≥ 97 then (if a0 ≤ 122 then (some true) else (if a0 ≥ 65 then (some (decide (a0 ≤ 90))) else (some false))) else (if a0 ≥ 65 then (some (decide (a0 ≤ 90))) else (some false))
set_option maxHeartbeats 8000000 in
set_option maxRecDepth 100000 in
theorem impl_isLetter.calls (a0 : Int) (r : Bool) (w : World) (h : impl_isLetter.f a0 = some r) :
  Calls Tryz.prog 88 #[.int .u8 a0] w fun e w' => e = .returned (.bool r) ∧ y1 w w' := by
 have H : (if a0 ≥ 97 then (if a0 ≤ 122 then (some true) else (if a0 ≥ 65 then (some (decide (a0 ≤ 90))) else (some false))) else (if a0 ≥ 65 then (some (decide (a0 ≤ 90))) else (some false))) = some r := h
 clear h
 by_cases c2 : a0 ≥ 97
 ·rw [if_pos c2] at H
  have c2b0 : decide (97 ≤ a0) = true := decide_eq_true c2
  clear c2
  by_cases c3 : a0 ≤ 122
  ·rw [if_pos c3] at H
   have c3b0 : decide (a0 ≤ 122) = true := decide_eq_true c3
   clear c3
   obtain rfl := Option.some.inj H
   go_enter Tryz.func88,Tryz.ntmps88
   go_wp2
   go_ret
   exact ⟨by first | rfl | (simp; done) | (simp [*]; done),by repeat (first | exact y1.refl _ | apply y1.step)⟩
  ·rw [if_neg c3] at H
   have c3b0 : decide (a0 ≤ 122) = false := decide_eq_false c3
   clear c3
   by_cases c4 : a0 ≥ 65
   ·rw [if_pos c4] at H
    have c4b0 : decide (65 ≤ a0) = true := decide_eq_true c4
    clear c4
    obtain rfl := Option.some.inj H
    go_enter Tryz.func88,Tryz.ntmps88
    go_wp2
    go_ret
    exact ⟨by first | rfl | (simp; done) | (simp [*]; done),by repeat (first | exact y1.refl _ | apply y1.step)⟩
   ·rw [if_neg c4] at H
    have c4b0 : decide (65 ≤ a0) = false := decide_eq_false c4
    clear c4
    obtain rfl := Option.some.inj H
    go_enter Tryz.func88,Tryz.ntmps88
    go_wp2
    go_ret
    exact ⟨by first | rfl | (simp; done) | (simp [*]; done),by repeat (first | exact y1.refl _ | apply y1.step)⟩
 ·rw [if_neg c2] at H
  have c2b0 : decide (97 ≤ a0) = false := decide_eq_false c2
  clear c2
  by_cases c5 : a0 ≥ 65
  ·rw [if_pos c5] at H
   have c5b0 : decide (65 ≤ a0) = true := decide_eq_true c5
   clear c5
   obtain rfl := Option.some.inj H
   go_enter Tryz.func88,Tryz.ntmps88
   go_wp2
   go_ret
   exact ⟨by first | rfl | (simp; done) | (simp [*]; done),by repeat (first | exact y1.refl _ | apply y1.step)⟩
  ·rw [if_neg c5] at H
   have c5b0 : decide (65 ≤ a0) = false := decide_eq_false c5
   clear c5
   obtain rfl := Option.some.inj H
   go_enter Tryz.func88,Tryz.ntmps88
   go_wp2
   go_ret
   exact ⟨by first | rfl | (simp; done) | (simp [*]; done),by repeat (first | exact y1.refl _ | apply y1.step)⟩
def impl_isWordByte.f (a0 : Int) : Option (Bool) := (impl_isLetter.f a0).bind fun t341 => (if t341 = true then (some true) else ((impl_isDigit.f a0).bind fun t342 => (if t342 = true then (some true) else (some (a0 == 95)))))
set_option maxHeartbeats 8000000 in
set_option maxRecDepth 100000 in
theorem impl_isWordByte.calls (a0 : Int) (r : Bool) (w : World) (h : impl_isWordByte.f a0 = some r) :
  Calls Tryz.prog 87 #[.int .u8 a0] w fun e w' => e = .returned (.bool r) ∧ y1 w w' := by
 have H : ((impl_isLetter.f a0).bind fun t341 => (if t341 = true then (some true) else ((impl_isDigit.f a0).bind fun t342 => (if t342 = true then (some true) else (some (a0 == 95)))))) = some r := h
 clear h
 replace H := Option.bind_eq_some_iff.mp H
 obtain ⟨t341,A20,H⟩ := H
 replace H : (if t341 = true then (some true) else ((impl_isDigit.f a0).bind fun t342 => (if t342 = true then (some true) else (some (a0 == 95))))) = some r := H
 have A2 := y0.mk A20
 clear A20
 by_cases c3 : t341 = true
 ·subst c3
  have H1 : (some true) = some r := by rw [if_pos rfl] at H; exact H
  clear H
  have H := H1
  clear H1
  obtain rfl := Option.some.inj H
  go_enter Tryz.func87,Tryz.ntmps87
  go_wp2_with (first | ((with_reducible refine y18 (f := 88) rfl ?_); refine y20 (some 4) rfl rfl Tryz.func88 (by kernel_rfl) rfl #[.int .u8 a0] rfl (by (try simp only [qM_,List.map_cons,List.map_nil]); first | done | rfl | (simp only [qD_,qT_]; rfl)) ?_; (with_reducible refine (impl_isLetter.calls a0 true _ A2.out).mono ?_); rintro e w' ⟨rfl,⟨nd,rfl⟩⟩; refine ⟨_,rfl, ?_⟩))
  go_ret
  exact ⟨by first | rfl | (simp; done) | (simp [*]; done),by repeat (first | exact y1.refl _ | apply y1.step)⟩
 ·replace c3 := Bool.eq_false_iff.mpr c3
  subst c3
  have H1 : ((impl_isDigit.f a0).bind fun t342 => (if t342 = true then (some true) else (some (a0 == 95)))) = some r := by rw [if_neg (show ¬ (false = true) by decide)] at H; exact H
  clear H
  have H := H1
  clear H1
  replace H := Option.bind_eq_some_iff.mp H
  obtain ⟨t342,A40,H⟩ := H
  replace H : (if t342 = true then (some true) else (some (a0 == 95))) = some r := H
  have A4 := y0.mk A40
  clear A40
  by_cases c5 : t342 = true
  ·subst c5
   have H1 : (some true) = some r := by rw [if_pos rfl] at H; exact H
   clear H
   have H := H1
   clear H1
   obtain rfl := Option.some.inj H
   go_enter Tryz.func87,Tryz.ntmps87
   go_wp2_with (first | ((with_reducible refine y18 (f := 88) rfl ?_); refine y20 (some 4) rfl rfl Tryz.func88 (by kernel_rfl) rfl #[.int .u8 a0] rfl (by (try simp only [qM_,List.map_cons,List.map_nil]); first | done | rfl | (simp only [qD_,qT_]; rfl)) ?_; (with_reducible refine (impl_isLetter.calls a0 false _ A2.out).mono ?_); rintro e w' ⟨rfl,⟨nd,rfl⟩⟩; refine ⟨_,rfl, ?_⟩) | (go_at_call 75; (with_reducible refine (impl_isDigit.calls a0 true _ A4.out).mono ?_); rintro e w' ⟨rfl,⟨nd,rfl⟩⟩))
   go_ret
   exact ⟨by first | rfl | (simp; done) | (simp [*]; done),by repeat (first | exact y1.refl _ | apply y1.step)⟩
  ·replace c5 := Bool.eq_false_iff.mpr c5
   subst c5
   have H1 : (some (a0 == 95)) = some r := by rw [if_neg (show ¬ (false = true) by decide)] at H; exact H
   clear H
   have H := H1
   clear H1
   obtain rfl := Option.some.inj H
   go_enter Tryz.func87,Tryz.ntmps87
   go_wp2_with (first | ((with_reducible refine y18 (f := 88) rfl ?_); refine y20 (some 4) rfl rfl Tryz.func88 (by kernel_rfl) rfl #[.int .u8 a0] rfl (by (try simp only [qM_,List.map_cons,List.map_nil]); first | done | rfl | (simp only [qD_,qT_]; rfl)) ?_; (with_reducible refine (impl_isLetter.calls a0 false _ A2.out).mono ?_); rintro e w' ⟨rfl,⟨nd,rfl⟩⟩; refine ⟨_,rfl, ?_⟩) | (go_at_call 75; (with_reducible refine (impl_isDigit.calls a0 false _ A4.out).mono ?_); rintro e w' ⟨rfl,⟨nd,rfl⟩⟩))
   go_ret
   exact ⟨by first | rfl | (simp; done) | (simp [*]; done),by repeat (first | exact y1.refl _ | apply y1.step)⟩
def impl_nameLong.l0 : Nat → ByteArray → Int → Option (Int)
 | 0,_,_ => none
 | k + 1,x0,x3 => if x3 < (x0.size : Int) then (if 0 ≤ x3 then ((impl_isWordByte.f (bt x0 x3)).bind fun t343 => (if t343 = true then (if x3 > 0 then (impl_nameLong.l0 k x0 (wrap64 (x3 + 1))) else (if 0 < (x0.size : Int) then ((impl_isLetter.f (bt x0 0)).bind fun t344 => (if t344 = true then (impl_nameLong.l0 k x0 (wrap64 (x3 + 1))) else (some x3))) else (none))) else (some x3))) else (none)) else (some x3)
def impl_nameLong.f (k : Nat) (a0 : ByteArray) : Option (Int) := impl_nameLong.l0 k a0 0
set_option maxHeartbeats 8000000 in
set_option maxRecDepth 100000 in
theorem impl_nameLong.calls (k : Nat) (a0 : ByteArray) (r : Int) (w : World) (h : impl_nameLong.f k a0 = some r) :
  Calls Tryz.prog 78 #[.string a0] w fun e w' => e = .returned (.int .i64 r) ∧ y1 w w' := by
 have H : (impl_nameLong.l0 k a0 0) = some r := h
 clear h
 have H' := y0.mk H
 clear H
 go_enter Tryz.func78,Tryz.ntmps78
 go_wp2
 go_loopg [3] k (fun kq v3 w' => ∃ (x3_1 : Int),v3 = .int .i64 x3_1 ∧ y0 (impl_nameLong.l0 kq a0 x3_1 = some r) ∧ y0 (kq ≤ k) ∧ y1 w w')
 case atStart => exact ⟨(0),(by first | rfl | (simp; done) | (simp [*]; done)),H',⟨Nat.le_refl _⟩,by repeat (first | exact y1.refl _ | apply y1.step)⟩
 case round =>
  clear H'
  obtain ⟨x3_1,rfl,HA,HK1,⟨m1,rfl⟩⟩ := hrel
  cases gk with
  | zero => exact absurd HA.out (by simp [impl_nameLong.l0])
  | succ k1 =>
   have H := HA.out
   clear HA
   simp only [impl_nameLong.l0] at H
   by_cases c2 : x3_1 < (a0.size : Int)
   ·rw [if_pos c2] at H
    have c2b0 : decide (x3_1 < (a0.size : Int)) = true := decide_eq_true c2
    clear c2
    by_cases c3 : 0 ≤ x3_1
    ·rw [if_pos c3] at H
     have c3b0 : decide (0 ≤ x3_1) = true := decide_eq_true c3
     clear c3
     replace H := Option.bind_eq_some_iff.mp H
     obtain ⟨t343,A50,H⟩ := H
     replace H : (if t343 = true then (if x3_1 > 0 then (impl_nameLong.l0 k1 a0 (wrap64 (x3_1 + 1))) else (if 0 < (a0.size : Int) then ((impl_isLetter.f (bt a0 0)).bind fun t344 => (if t344 = true then (impl_nameLong.l0 k1 a0 (wrap64 (x3_1 + 1))) else (some x3_1))) else (none))) else (some x3_1)) = some r := H
     have A5 := y0.mk A50
     clear A50
     by_cases c6 : t343 = true
     ·subst c6
      have H1 : (if x3_1 > 0 then (impl_nameLong.l0 k1 a0 (wrap64 (x3_1 + 1))) else (if 0 < (a0.size : Int) then ((impl_isLetter.f (bt a0 0)).bind fun t344 => (if t344 = true then (impl_nameLong.l0 k1 a0 (wrap64 (x3_1 + 1))) else (some x3_1))) else (none))) = some r := by rw [if_pos rfl] at H; exact H
      clear H
      have H := H1
      clear H1
      by_cases c7 : x3_1 > 0
      ·rw [if_pos c7] at H
       have c7b0 : decide (0 < x3_1) = true := decide_eq_true c7
       clear c7
       have H' := y0.mk H
       clear H
       have p4 : 0 ≤ (x3_1 : Int) := of_decide_eq_true (by first | (with_reducible assumption) | assumption)
       have q4 : x3_1 < (a0.size : Int) := of_decide_eq_true (by first | (with_reducible assumption) | assumption)
       have hx4 := bt_at a0 x3_1
       replace p4 := eq_true p4
       replace q4 := eq_true q4
       go_wp2_with (first | (go_at_call 87; (with_reducible refine (impl_isWordByte.calls (bt a0 x3_1) true _ A5.out).mono ?_); rintro e w' ⟨rfl,⟨nd,rfl⟩⟩))
       go_roundg k1
       case measure => have := HK1.out; omega
       case rel => exact ⟨(wrap64 (x3_1 + 1)),(by first | rfl | (simp; done) | (simp [*]; done)),H',⟨by have := HK1.out; omega⟩,by repeat (first | exact y1.refl _ | apply y1.step)⟩
      ·rw [if_neg c7] at H
       have c7b0 : decide (0 < x3_1) = false := decide_eq_false c7
       clear c7
       by_cases c8 : 0 < (a0.size : Int)
       ·rw [if_pos c8] at H
        have c8b0 : decide (0 < (a0.size : Int)) = true := decide_eq_true c8
        have c8b1 : decide (0 < a0.size) = true := decide_eq_true (by omega)
        clear c8
        replace H := Option.bind_eq_some_iff.mp H
        obtain ⟨t344,A100,H⟩ := H
        replace H : (if t344 = true then (impl_nameLong.l0 k1 a0 (wrap64 (x3_1 + 1))) else (some x3_1)) = some r := H
        have A10 := y0.mk A100
        clear A100
        by_cases c11 : t344 = true
        ·subst c11
         have H1 : (impl_nameLong.l0 k1 a0 (wrap64 (x3_1 + 1))) = some r := by rw [if_pos rfl] at H; exact H
         clear H
         have H := H1
         clear H1
         have H' := y0.mk H
         clear H
         have p4 : 0 ≤ (x3_1 : Int) := of_decide_eq_true (by first | (with_reducible assumption) | assumption)
         have q4 : x3_1 < (a0.size : Int) := of_decide_eq_true (by first | (with_reducible assumption) | assumption)
         have hx4 := bt_at a0 x3_1
         replace p4 := eq_true p4
         replace q4 := eq_true q4
         go_wp2_with (first | (go_at_call 87; (with_reducible refine (impl_isWordByte.calls (bt a0 x3_1) true _ A5.out).mono ?_); rintro e w' ⟨rfl,⟨nd,rfl⟩⟩; have p9 : 0 ≤ (0 : Int) := (by omega); have q9 : 0 < a0.size := (by have : (0 : Int) < (a0.size : Int) := of_decide_eq_true (by first | (with_reducible assumption) | assumption); omega); have hx9 : ∀ h : 0 < a0.size,((a0[0]'h).toNat : Int) = bt a0 0 := bt_at a0 0; clear p9; have qi9 : (0 < (a0.size : Int)) = True := eq_true (of_decide_eq_true (by first | (with_reducible assumption) | assumption)); replace q9 := eq_true q9) | (go_at_call 88; (with_reducible refine (impl_isLetter.calls (bt a0 0) true _ A10.out).mono ?_); rintro e w' ⟨rfl,⟨nd,rfl⟩⟩))
         go_roundg k1
         case measure => have := HK1.out; omega
         case rel => exact ⟨(wrap64 (x3_1 + 1)),(by first | rfl | (simp; done) | (simp [*]; done)),H',⟨by have := HK1.out; omega⟩,by repeat (first | exact y1.refl _ | apply y1.step)⟩
        ·replace c11 := Bool.eq_false_iff.mpr c11
         subst c11
         have H1 : (some x3_1) = some r := by rw [if_neg (show ¬ (false = true) by decide)] at H; exact H
         clear H
         have H := H1
         clear H1
         obtain rfl := Option.some.inj H
         have p4 : 0 ≤ (x3_1 : Int) := of_decide_eq_true (by first | (with_reducible assumption) | assumption)
         have q4 : x3_1 < (a0.size : Int) := of_decide_eq_true (by first | (with_reducible assumption) | assumption)
         have hx4 := bt_at a0 x3_1
         replace p4 := eq_true p4
         replace q4 := eq_true q4
         go_wp2_with (first | (go_at_call 87; (with_reducible refine (impl_isWordByte.calls (bt a0 x3_1) true _ A5.out).mono ?_); rintro e w' ⟨rfl,⟨nd,rfl⟩⟩; have p9 : 0 ≤ (0 : Int) := (by omega); have q9 : 0 < a0.size := (by have : (0 : Int) < (a0.size : Int) := of_decide_eq_true (by first | (with_reducible assumption) | assumption); omega); have hx9 : ∀ h : 0 < a0.size,((a0[0]'h).toNat : Int) = bt a0 0 := bt_at a0 0; clear p9; have qi9 : (0 < (a0.size : Int)) = True := eq_true (of_decide_eq_true (by first | (with_reducible assumption) | assumption)); replace q9 := eq_true q9) | (go_at_call 88; (with_reducible refine (impl_isLetter.calls (bt a0 0) false _ A10.out).mono ?_); rintro e w' ⟨rfl,⟨nd,rfl⟩⟩))
         go_ret
         exact ⟨by first | rfl | (simp; done) | (simp [*]; done),by repeat (first | exact y1.refl _ | apply y1.step)⟩
       ·rw [if_neg c8] at H
        exact absurd H (by simp)
     ·replace c6 := Bool.eq_false_iff.mpr c6
      subst c6
      have H1 : (some x3_1) = some r := by rw [if_neg (show ¬ (false = true) by decide)] at H; exact H
      clear H
      have H := H1
      clear H1
      obtain rfl := Option.some.inj H
      have p4 : 0 ≤ (x3_1 : Int) := of_decide_eq_true (by first | (with_reducible assumption) | assumption)
      have q4 : x3_1 < (a0.size : Int) := of_decide_eq_true (by first | (with_reducible assumption) | assumption)
      have hx4 := bt_at a0 x3_1
      replace p4 := eq_true p4
      replace q4 := eq_true q4
      go_wp2_with (first | (go_at_call 87; (with_reducible refine (impl_isWordByte.calls (bt a0 x3_1) false _ A5.out).mono ?_); rintro e w' ⟨rfl,⟨nd,rfl⟩⟩))
      go_ret
      exact ⟨by first | rfl | (simp; done) | (simp [*]; done),by repeat (first | exact y1.refl _ | apply y1.step)⟩
    ·rw [if_neg c3] at H
     exact absurd H (by simp)
   ·rw [if_neg c2] at H
    have c2b0 : decide (x3_1 < (a0.size : Int)) = false := decide_eq_false c2
    clear c2
    obtain rfl := Option.some.inj H
    go_wp2
    go_ret
    exact ⟨by first | rfl | (simp; done) | (simp [*]; done),by repeat (first | exact y1.refl _ | apply y1.step)⟩
end Go.Proofs.YtamjmldfifofbaaGreatDoor.Pf
end
section
namespace Go.Proofs.YtamjmldfifofbaaGreatDoor.Pf
open Go.RowKit Go.Proofs.YtamjmldfifofbaaGreatDoorW.PrintWords Go.Proofs.YtamjmldfifofbaaGreatDoorW.PrintLast Go.Proofs.YtamjmldfifofbaaGreatDoorW.PrintMore
attribute [local go_sem] max2_int min2_int max_two min_two max_three min_three max_four min_four   -- for this text's walks alone
set_option linter.unusedVariables false
set_option linter.unusedSimpArgs false
mutual
def impl_termAt.j0 : Nat → ByteArray → Bool → Option (Int × Int)
 | 0,_,_ => none
 | k + 1,x0,x23 => if x23 = true then (impl_termAt.l0 k x0 1) else (if 0 < (x0.size : Int) then (if (bt x0 0) ≥ 65 then (impl_termAt.j3 k x0 (decide ((bt x0 0) ≤ 90))) else (impl_termAt.j3 k x0 false)) else (none))
def impl_termAt.j2 : Nat → ByteArray → Int → Option (Int × Int)
 | 0,_,_ => none
 | k + 1,x0,x5 => if 0 ≤ x5 then (if x5 ≤ (x0.size : Int) then ((strconv_Atoi.f (x0.extract 0 (x5 : Int).toNat)).bind fun bt348 => (if bt348.2.isNone = true then ((impl_in.f bt348.1 (-1000000) 1000000).bind fun t351 => (if t351 = true then ((strconv_Itoa.f bt348.1).bind fun t352 => (if t352.toList = (x0.extract 0 (x5 : Int).toNat).toList then (some (1,x5)) else (some (0,0)))) else (some (0,0)))) else (some (0,0)))) else (none)) else (none)
def impl_termAt.l0 : Nat → ByteArray → Int → Option (Int × Int)
 | 0,_,_ => none
 | k + 1,x0,x5 => if x5 < (x0.size : Int) then (if 0 ≤ x5 then ((impl_isDigit.f (bt x0 x5)).bind fun t347 => (if t347 = true then (impl_termAt.l0 k x0 (wrap64 (x5 + 1))) else (impl_termAt.j2 k x0 x5))) else (none)) else (impl_termAt.j2 k x0 x5)
def impl_termAt.j3 : Nat → ByteArray → Bool → Option (Int × Int)
 | 0,_,_ => none
 | k + 1,x0,x66 => if x66 = true then ((impl_nameLong.f k x0).bind fun t353 => (if t353 > 20 then (some (0,0)) else (if t353 = (x0.size : Int) then (impl_termAt.j4 k x0 t353 true) else (if 0 ≤ t353 then (if t353 < (x0.size : Int) then (impl_termAt.j4 k x0 t353 ((bt x0 t353) != 40)) else (none)) else (none))))) else (some (0,0))
def impl_termAt.j4 : Nat → ByteArray → Int → Bool → Option (Int × Int)
 | 0,_,_,_ => none
 | k + 1,x0,x8,x88 => if x88 = true then (some (3,x8)) else (impl_termAt.l1 k x0 x8 true)
def impl_termAt.l1 : Nat → ByteArray → Int → Bool → Option (Int × Int)
 | 0,_,_,_ => none
 | k + 1,x0,x8,x9 => if x9 = true then (if 0 ≤ (wrap64 (x8 + 1)) then (if (wrap64 (x8 + 1)) ≤ (x0.size : Int) then ((impl_termAt.f k (x0.extract ((wrap64 (x8 + 1)) : Int).toNat x0.size)).bind fun bt354 => (if bt354.1 = 0 then (some (0,0)) else (if (wrap64 (x8 + (wrap64 (1 + bt354.2)))) < (x0.size : Int) then (if 0 ≤ (wrap64 (x8 + (wrap64 (1 + bt354.2)))) then (impl_termAt.l1 k x0 (wrap64 (x8 + (wrap64 (1 + bt354.2)))) ((bt x0 (wrap64 (x8 + (wrap64 (1 + bt354.2))))) == 44)) else (none)) else (impl_termAt.l1 k x0 (wrap64 (x8 + (wrap64 (1 + bt354.2)))) false)))) else (none)) else (none)) else (if x8 < (x0.size : Int) then (if 0 ≤ x8 then (if (bt x0 x8) = 41 then (some (3,wrap64 (x8 + 1))) else (some (0,0))) else (none)) else (some (0,0)))
def impl_termAt.f : Nat → ByteArray → Option (Int × Int)
 | 0,_ => none
 | k + 1,a0 => if a0.toList = ([] : List UInt8) then (some (0,0)) else (if 0 < (a0.size : Int) then (if (bt a0 0) = 34 then ((impl_symbolLong.f k a0).bind fun t345 => (if t345 > 0 then (some (2,t345)) else (some (0,0)))) else (if (bt a0 0) = 45 then (impl_termAt.j0 k a0 true) else ((impl_isDigit.f (bt a0 0)).bind fun t346 => (impl_termAt.j0 k a0 t346)))) else (none))
end
def impl_termAt.T12 : Bool × List (List Nat × List Nat) := (true,[([],[]),([0],[0]),([1],[1]),([2],[2]),([3,2,2],[2,3]),([2,4],[2,4]),([5,4],[5]),([6],[6]),([7,6,6],[6,7]),([6],[6]),([6],[6]),([9,10,6],[6,9,10]),([8,11,6],[6,8,11]),([6,12],[6,12])])
def impl_termAt.B12 : List Nat := [0,1,3,7,15,31,63,127,255,127,127,1663,4095,8191]
theorem impl_termAt.tab12 : rtab .any (opsOf Tryz.f55 12) = impl_termAt.T12 := by kernel_rfl
theorem impl_termAt.bits12 : waitsOk impl_termAt.T12.2 impl_termAt.B12 = true := by kernel_rfl
set_option maxHeartbeats 8000000 in
set_option maxRecDepth 100000 in
theorem impl_termAt.calls (k : Nat) : ∀ (a0 : ByteArray) (r1 : Int) (r2 : Int) (w : World) (hT : Tb w) (h : impl_termAt.f k a0 = some (r1,r2)),
  Calls Tryz.prog 55 #[.string a0] w fun e w' => e = .returned (.tuple #[.int .i64 r1,.int .i64 r2]) ∧ Below w.heap.size w w' := by
 induction k using Nat.strongRecOn with
 | _ k ih =>
 intro a0 r1 r2 w hT h
 cases k with
 | zero => exact absurd h (by simp [impl_termAt.f])
 | succ k =>
 simp only [impl_termAt.f] at h
 have hu114 := Tryz.underlying114
 have HT := y0.mk hT
 clear hT
 have HB := y0.mk (Below.refl w.heap.size w)
 have H : (if a0.toList = ([] : List UInt8) then (some (0,0)) else (if 0 < (a0.size : Int) then (if (bt a0 0) = 34 then ((impl_symbolLong.f k a0).bind fun t345 => (if t345 > 0 then (some (2,t345)) else (some (0,0)))) else (if (bt a0 0) = 45 then (impl_termAt.j0 k a0 true) else ((impl_isDigit.f (bt a0 0)).bind fun t346 => (impl_termAt.j0 k a0 t346)))) else (none))) = some (r1,r2) := h
 clear h
 by_cases c2 : a0.toList = ([] : List UInt8)
 ·rw [if_pos c2] at H
  have c2b0 : (a0.toList == ([] : List UInt8)) = true := beq_iff_eq.mpr c2
  have c2b1 : (a0.toList != ([] : List UInt8)) = false := bne_eq_false_iff_eq.mpr c2
  clear c2
  simp only [Option.some.injEq,Prod.mk.injEq] at H
  obtain ⟨rfl,rfl⟩ := H
  go_enter Tryz.func55,Tryz.ntmps55
  go_wp2
  go_ret2
  exact ⟨by first | rfl | (simp [y16,y17] <;> rfl) | (simp [*,y16,y17] <;> rfl),by repeat (first | (with_reducible first | exact HB.out | apply y3 | apply y23 | apply y4) | exact HB.out)⟩
 ·rw [if_neg c2] at H
  have c2b0 : (a0.toList == ([] : List UInt8)) = false := beq_eq_false_iff_ne.mpr c2
  have c2b1 : (a0.toList != ([] : List UInt8)) = true := bne_iff_ne.mpr c2
  by_cases c3 : 0 < (a0.size : Int)
  ·rw [if_pos c3] at H
   have c3b0 : decide (0 < (a0.size : Int)) = true := decide_eq_true c3
   have c3b1 : decide (0 < a0.size) = true := decide_eq_true (by omega)
   clear c3
   by_cases c5 : (bt a0 0) = 34
   ·rw [if_pos c5] at H
    have c5b0 : ((bt a0 0) == 34) = true := beq_iff_eq.mpr c5
    have c5b1 : ((bt a0 0) != 34) = false := bne_eq_false_iff_eq.mpr c5
    clear c5
    replace H := Option.bind_eq_some_iff.mp H
    obtain ⟨t345,A60,H⟩ := H
    replace H : (if t345 > 0 then (some (2,t345)) else (some (0,0))) = some (r1,r2) := H
    have A6 := y0.mk A60
    clear A60
    by_cases c7 : t345 > 0
    ·rw [if_pos c7] at H
     have c7b0 : decide (0 < t345) = true := decide_eq_true c7
     clear c7
     simp only [Option.some.injEq,Prod.mk.injEq] at H
     obtain ⟨rfl,rfl⟩ := H
     have p4 : 0 ≤ (0 : Int) := (by omega)
     have q4 : 0 < a0.size := (by have : (0 : Int) < (a0.size : Int) := of_decide_eq_true (by first | (with_reducible assumption) | assumption); omega)
     have hx4 : ∀ h : 0 < a0.size,((a0[0]'h).toNat : Int) = bt a0 0 := bt_at a0 0
     clear p4
     have qi4 : (0 < (a0.size : Int)) = True := eq_true (of_decide_eq_true (by first | (with_reducible assumption) | assumption))
     replace q4 := eq_true q4
     go_enter Tryz.func55,Tryz.ntmps55
     go_wp2_with (first | ((with_reducible refine y18 (f := 74) rfl ?_); refine y20 (some 19) rfl rfl Tryz.func74 (by kernel_rfl) rfl #[.string a0] rfl (by (try simp only [qM_,List.map_cons,List.map_nil]); first | done | rfl | (simp only [qD_,qT_]; rfl)) ?_; (with_reducible refine (impl_symbolLong.calls k a0 t345 _ A6.out).mono ?_); rintro e w' ⟨rfl,⟨nd,rfl⟩⟩; refine ⟨_,rfl, ?_⟩))
     go_ret2
     exact ⟨by first | rfl | (simp [y16,y17] <;> rfl) | (simp [*,y16,y17] <;> rfl),by repeat (first | (with_reducible first | exact HB.out | apply y3 | apply y23 | apply y4) | exact HB.out)⟩
    ·rw [if_neg c7] at H
     have c7b0 : decide (0 < t345) = false := decide_eq_false c7
     clear c7
     simp only [Option.some.injEq,Prod.mk.injEq] at H
     obtain ⟨rfl,rfl⟩ := H
     have p4 : 0 ≤ (0 : Int) := (by omega)
     have q4 : 0 < a0.size := (by have : (0 : Int) < (a0.size : Int) := of_decide_eq_true (by first | (with_reducible assumption) | assumption); omega)
     have hx4 : ∀ h : 0 < a0.size,((a0[0]'h).toNat : Int) = bt a0 0 := bt_at a0 0
     clear p4
     have qi4 : (0 < (a0.size : Int)) = True := eq_true (of_decide_eq_true (by first | (with_reducible assumption) | assumption))
     replace q4 := eq_true q4
     go_enter Tryz.func55,Tryz.ntmps55
     go_wp2_with (first | ((with_reducible refine y18 (f := 74) rfl ?_); refine y20 (some 19) rfl rfl Tryz.func74 (by kernel_rfl) rfl #[.string a0] rfl (by (try simp only [qM_,List.map_cons,List.map_nil]); first | done | rfl | (simp only [qD_,qT_]; rfl)) ?_; (with_reducible refine (impl_symbolLong.calls k a0 t345 _ A6.out).mono ?_); rintro e w' ⟨rfl,⟨nd,rfl⟩⟩; refine ⟨_,rfl, ?_⟩))
     go_ret2
     exact ⟨by first | rfl | (simp [y16,y17] <;> rfl) | (simp [*,y16,y17] <;> rfl),by repeat (first | (with_reducible first | exact HB.out | apply y3 | apply y23 | apply y4) | exact HB.out)⟩
   ·rw [if_neg c5] at H
    have c5b0 : ((bt a0 0) == 34) = false := beq_eq_false_iff_ne.mpr c5
    have c5b1 : ((bt a0 0) != 34) = true := bne_iff_ne.mpr c5
    have HC8 := y0.mk H
    clear H
    have p4 : 0 ≤ (0 : Int) := (by omega)
    have q4 : 0 < a0.size := (by have : (0 : Int) < (a0.size : Int) := of_decide_eq_true (by first | (with_reducible assumption) | assumption); omega)
    have hx4 : ∀ h : 0 < a0.size,((a0[0]'h).toNat : Int) = bt a0 0 := bt_at a0 0
    clear p4
    have qi4 : (0 < (a0.size : Int)) = True := eq_true (of_decide_eq_true (by first | (with_reducible assumption) | assumption))
    replace q4 := eq_true q4
    go_enter Tryz.func55,Tryz.ntmps55
    go_upto_region 7 with (fail)
    go_cut [23] (fun v23 wc => ∃ (kq : Nat) (x23_7 : Bool),v23 = .bool x23_7 ∧ y0 (impl_termAt.j0 kq a0 x23_7 = some (r1,r2)) ∧ y0 (kq ≤ k) ∧ y0 (Below w.heap.size w wc))
    case first =>
     have H := HC8.out
     clear HC8
     by_cases c10 : (bt a0 0) = 45
     ·rw [if_pos c10] at H
      have c10b0 : ((bt a0 0) == 45) = true := beq_iff_eq.mpr c10
      have c10b1 : ((bt a0 0) != 45) = false := bne_eq_false_iff_eq.mpr c10
      clear c10
      (first | rw [c10b0] | (simp only [y22,y21]; rw [c10b0]) | skip)
      have H' := y0.mk H
      clear H
      have p9 : 0 ≤ (0 : Int) := (by omega)
      have q9 : 0 < a0.size := (by have : (0 : Int) < (a0.size : Int) := of_decide_eq_true (by first | (with_reducible assumption) | assumption); omega)
      have hx9 : ∀ h : 0 < a0.size,((a0[0]'h).toNat : Int) = bt a0 0 := bt_at a0 0
      clear p9
      have qi9 : (0 < (a0.size : Int)) = True := eq_true (of_decide_eq_true (by first | (with_reducible assumption) | assumption))
      replace q9 := eq_true q9
      go_wp2
      go_meet
      case rel => exact ⟨_,(true),(by first | rfl | (simp; done) | (simp [*]; done)),H',⟨by first | omega | exact Nat.le_refl _⟩,⟨by repeat (first | (with_reducible first | exact HB.out | apply y3 | apply y23 | apply y4) | exact HB.out)⟩⟩
     ·rw [if_neg c10] at H
      have c10b0 : ((bt a0 0) == 45) = false := beq_eq_false_iff_ne.mpr c10
      have c10b1 : ((bt a0 0) != 45) = true := bne_iff_ne.mpr c10
      (first | rw [c10b0] | (simp only [y22,y21]; rw [c10b0]) | skip)
      replace H := Option.bind_eq_some_iff.mp H
      obtain ⟨t346,A120,H⟩ := H
      replace H : (impl_termAt.j0 k a0 t346) = some (r1,r2) := H
      have A12 := y0.mk A120
      clear A120
      have H' := y0.mk H
      clear H
      have p9 : 0 ≤ (0 : Int) := (by omega)
      have q9 : 0 < a0.size := (by have : (0 : Int) < (a0.size : Int) := of_decide_eq_true (by first | (with_reducible assumption) | assumption); omega)
      have hx9 : ∀ h : 0 < a0.size,((a0[0]'h).toNat : Int) = bt a0 0 := bt_at a0 0
      clear p9
      have qi9 : (0 < (a0.size : Int)) = True := eq_true (of_decide_eq_true (by first | (with_reducible assumption) | assumption))
      replace q9 := eq_true q9
      have p11 : 0 ≤ (0 : Int) := (by omega)
      have q11 : 0 < a0.size := (by have : (0 : Int) < (a0.size : Int) := of_decide_eq_true (by first | (with_reducible assumption) | assumption); omega)
      have hx11 : ∀ h : 0 < a0.size,((a0[0]'h).toNat : Int) = bt a0 0 := bt_at a0 0
      clear p11
      have qi11 : (0 < (a0.size : Int)) = True := eq_true (of_decide_eq_true (by first | (with_reducible assumption) | assumption))
      replace q11 := eq_true q11
      go_wp2_with (first | (go_at_call 75; (with_reducible refine (impl_isDigit.calls (bt a0 0) t346 _ A12.out).mono ?_); rintro e w' ⟨rfl,⟨nd,rfl⟩⟩))
      go_meet
      case rel => exact ⟨_,(t346),(by first | rfl | (simp; done) | (simp [*]; done)),H',⟨by first | omega | exact Nat.le_refl _⟩,⟨by repeat (first | (with_reducible first | exact HB.out | apply y3 | apply y23 | apply y4) | exact HB.out)⟩⟩
    case rest =>
     clear HC8
     try clear c1
     try clear p1
     try clear q1
     try clear hx1
     try clear qi1
     try clear c2
     try clear c2b0
     try clear c2b1
     try clear p2
     try clear c3
     try clear c3b0
     try clear c3b1
     try clear p4
     try clear q4
     try clear hx4
     try clear qi4
     try clear c5
     try clear c5b0
     try clear c5b1
     try clear c7
     try clear c7b0
     try clear p9
     try clear q9
     try clear hx9
     try clear qi9
     try clear c10
     try clear c10b0
     try clear c10b1
     try clear p11
     try clear q11
     try clear hx11
     try clear qi11
     try clear p11
     try clear p4
     try clear p9
     try clear q11
     try clear q4
     try clear q9
     obtain ⟨kq,x23_7,rfl,HA,HJ7,HB⟩ := hcut
     cases kq with
     | zero => exact absurd HA.out (by simp [impl_termAt.j0])
     | succ kj7 =>
      have H := HA.out
      clear HA
      simp only [impl_termAt.j0] at H
      by_cases c13 : x23_7 = true
      ·subst c13
       have H1 : (impl_termAt.l0 kj7 a0 1) = some (r1,r2) := by rw [if_pos rfl] at H; exact H
       clear H
       have H := H1
       clear H1
       have HC14 := y0.mk H
       clear H
       go_upto_block 1 with (fail)
       go_cut [5] (fun v5 wc => ∃ (kq : Nat) (x5_13 : Int),v5 = .int .i64 x5_13 ∧ y0 (impl_termAt.j2 kq a0 x5_13 = some (r1,r2)) ∧ y0 (kq ≤ kj7) ∧ y0 (Below w.heap.size w wc))
       case first =>
        have H := HC14.out
        clear HC14
        have H' := y0.mk H
        clear H
        go_wp2
        go_loopg [5] kj7 (fun kq v5 w' => ∃ (x5_2 : Int),v5 = .int .i64 x5_2 ∧ y0 (impl_termAt.l0 kq a0 x5_2 = some (r1,r2)) ∧ y0 (kq ≤ kj7) ∧ y0 (Below w.heap.size w w'))
        case atStart => exact ⟨(1),(by first | rfl | (simp; done) | (simp [*]; done)),H',⟨Nat.le_refl _⟩,⟨by repeat (first | (with_reducible first | exact HB.out | apply y3 | apply y23 | apply y4) | exact HB.out)⟩⟩
        case round =>
         clear H'
         try clear c1
         try clear p1
         try clear q1
         try clear hx1
         try clear qi1
         try clear c2
         try clear c2b0
         try clear c2b1
         try clear p2
         try clear c3
         try clear c3b0
         try clear c3b1
         try clear p4
         try clear q4
         try clear hx4
         try clear qi4
         try clear c5
         try clear c5b0
         try clear c5b1
         try clear c7
         try clear c7b0
         try clear p9
         try clear q9
         try clear hx9
         try clear qi9
         try clear c10
         try clear c10b0
         try clear c10b1
         try clear p11
         try clear q11
         try clear hx11
         try clear qi11
         try clear c13
         try clear p1
         try clear p11
         try clear p2
         try clear p4
         try clear p9
         try clear q1
         try clear q11
         try clear q4
         try clear q9
         obtain ⟨x5_2,rfl,HA,HK2,HB⟩ := hrel
         cases gk with
         | zero => exact absurd HA.out (by simp [impl_termAt.l0])
         | succ k2 =>
          have H := HA.out
          clear HA
          simp only [impl_termAt.l0] at H
          by_cases c15 : x5_2 < (a0.size : Int)
          ·rw [if_pos c15] at H
           have c15b0 : decide (x5_2 < (a0.size : Int)) = true := decide_eq_true c15
           clear c15
           (first | rw [c15b0] | (simp only [y22,y21]; rw [c15b0]) | skip)
           by_cases c16 : 0 ≤ x5_2
           ·rw [if_pos c16] at H
            have c16b0 : decide (0 ≤ x5_2) = true := decide_eq_true c16
            clear c16
            replace H := Option.bind_eq_some_iff.mp H
            obtain ⟨t347,A180,H⟩ := H
            replace H : (if t347 = true then (impl_termAt.l0 k2 a0 (wrap64 (x5_2 + 1))) else (impl_termAt.j2 k2 a0 x5_2)) = some (r1,r2) := H
            have A18 := y0.mk A180
            clear A180
            by_cases c19 : t347 = true
            ·subst c19
             have H1 : (impl_termAt.l0 k2 a0 (wrap64 (x5_2 + 1))) = some (r1,r2) := by rw [if_pos rfl] at H; exact H
             clear H
             have H := H1
             clear H1
             have H' := y0.mk H
             clear H
             have p17 : 0 ≤ (x5_2 : Int) := of_decide_eq_true (by first | (with_reducible assumption) | assumption)
             have q17 : x5_2 < (a0.size : Int) := of_decide_eq_true (by first | (with_reducible assumption) | assumption)
             have hx17 := bt_at a0 x5_2
             replace p17 := eq_true p17
             replace q17 := eq_true q17
             go_wp2_with (first | (go_at_call 75; (with_reducible refine (impl_isDigit.calls (bt a0 x5_2) true _ A18.out).mono ?_); rintro e w' ⟨rfl,⟨nd,rfl⟩⟩))
             go_roundg k2
             case measure => have := HJ7.out; have := HK2.out; omega
             case rel => exact ⟨(wrap64 (x5_2 + 1)),(by first | rfl | (simp; done) | (simp [*]; done)),H',⟨by have := HJ7.out; have := HK2.out; omega⟩,⟨by repeat (first | (with_reducible first | exact HB.out | apply y3 | apply y23 | apply y4) | exact HB.out)⟩⟩
            ·replace c19 := Bool.eq_false_iff.mpr c19
             subst c19
             have H1 : (impl_termAt.j2 k2 a0 x5_2) = some (r1,r2) := by rw [if_neg (show ¬ (false = true) by decide)] at H; exact H
             clear H
             have H := H1
             clear H1
             have H' := y0.mk H
             clear H
             have p17 : 0 ≤ (x5_2 : Int) := of_decide_eq_true (by first | (with_reducible assumption) | assumption)
             have q17 : x5_2 < (a0.size : Int) := of_decide_eq_true (by first | (with_reducible assumption) | assumption)
             have hx17 := bt_at a0 x5_2
             replace p17 := eq_true p17
             replace q17 := eq_true q17
             go_wp2_with (first | (go_at_call 75; (with_reducible refine (impl_isDigit.calls (bt a0 x5_2) false _ A18.out).mono ?_); rintro e w' ⟨rfl,⟨nd,rfl⟩⟩))
             go_meet
             case rel => exact ⟨_,(x5_2),(by first | rfl | (simp; done) | (simp [*]; done)),H',⟨by have := HJ7.out; have := HK2.out; first | omega | exact Nat.le_refl _⟩,⟨by repeat (first | (with_reducible first | exact HB.out | apply y3 | apply y23 | apply y4) | exact HB.out)⟩⟩
           ·rw [if_neg c16] at H
            exact absurd H (by simp)
          ·rw [if_neg c15] at H
           have c15b0 : decide (x5_2 < (a0.size : Int)) = false := decide_eq_false c15
           clear c15
           (first | rw [c15b0] | (simp only [y22,y21]; rw [c15b0]) | skip)
           have H' := y0.mk H
           clear H
           go_wp2
           go_meet
           case rel => exact ⟨_,(x5_2),(by first | rfl | (simp; done) | (simp [*]; done)),H',⟨by have := HJ7.out; have := HK2.out; first | omega | exact Nat.le_refl _⟩,⟨by repeat (first | (with_reducible first | exact HB.out | apply y3 | apply y23 | apply y4) | exact HB.out)⟩⟩
       case rest =>
        clear HC14
        try clear c1
        try clear p1
        try clear q1
        try clear hx1
        try clear qi1
        try clear c2
        try clear c2b0
        try clear c2b1
        try clear p2
        try clear c3
        try clear c3b0
        try clear c3b1
        try clear p4
        try clear q4
        try clear hx4
        try clear qi4
        try clear c5
        try clear c5b0
        try clear c5b1
        try clear p6
        try clear c7
        try clear c7b0
        try clear p9
        try clear q9
        try clear hx9
        try clear qi9
        try clear c10
        try clear c10b0
        try clear c10b1
        try clear p11
        try clear q11
        try clear hx11
        try clear qi11
        try clear c13
        try clear c15
        try clear c15b0
        try clear c16
        try clear c16b0
        try clear p17
        try clear q17
        try clear hx17
        try clear c19
        try clear p1
        try clear p11
        try clear p17
        try clear p2
        try clear p4
        try clear p9
        try clear q1
        try clear q11
        try clear q17
        try clear q4
        try clear q9
        obtain ⟨kq,x5_13,rfl,HA,HJ13,HB⟩ := hcut
        cases kq with
        | zero => exact absurd HA.out (by simp [impl_termAt.j2])
        | succ kj13 =>
         have H := HA.out
         clear HA
         simp only [impl_termAt.j2] at H
         by_cases c20 : 0 ≤ x5_13
         ·rw [if_pos c20] at H
          have c20b0 := eq_true c20
          have c20b1 : decide (0 ≤ x5_13) = true := decide_eq_true c20
          clear c20
          by_cases c21 : x5_13 ≤ (a0.size : Int)
          ·rw [if_pos c21] at H
           have c21b0 := eq_true c21
           have c21b1 : decide (x5_13 ≤ (a0.size : Int)) = true := decide_eq_true c21
           clear c21
           replace H := Option.bind_eq_some_iff.mp H
           obtain ⟨⟨t348,t349⟩,A220,H⟩ := H
           replace H : (if t349.isNone = true then ((impl_in.f t348 (-1000000) 1000000).bind fun t351 => (if t351 = true then ((strconv_Itoa.f t348).bind fun t352 => (if t352.toList = (a0.extract 0 (x5_13 : Int).toNat).toList then (some (1,x5_13)) else (some (0,0)))) else (some (0,0)))) else (some (0,0))) = some (r1,r2) := H
           have A22 := y0.mk A220
           clear A220
           rcases t349 with _ | q350
           ·have H1 : ((impl_in.f t348 (-1000000) 1000000).bind fun t351 => (if t351 = true then ((strconv_Itoa.f t348).bind fun t352 => (if t352.toList = (a0.extract 0 (x5_13 : Int).toNat).toList then (some (1,x5_13)) else (some (0,0)))) else (some (0,0)))) = some (r1,r2) := by rw [if_pos (show (none : Option Int).isNone = true by rfl)] at H; exact H
            clear H
            have H := H1
            clear H1
            try simp only [y16,y17]
            replace H := Option.bind_eq_some_iff.mp H
            obtain ⟨t351,A230,H⟩ := H
            replace H : (if t351 = true then ((strconv_Itoa.f t348).bind fun t352 => (if t352.toList = (a0.extract 0 (x5_13 : Int).toNat).toList then (some (1,x5_13)) else (some (0,0)))) else (some (0,0))) = some (r1,r2) := H
            have A23 := y0.mk A230
            clear A230
            by_cases c24 : t351 = true
            ·subst c24
             have H1 : ((strconv_Itoa.f t348).bind fun t352 => (if t352.toList = (a0.extract 0 (x5_13 : Int).toNat).toList then (some (1,x5_13)) else (some (0,0)))) = some (r1,r2) := by rw [if_pos rfl] at H; exact H
             clear H
             have H := H1
             clear H1
             replace H := Option.bind_eq_some_iff.mp H
             obtain ⟨t352,A250,H⟩ := H
             replace H : (if t352.toList = (a0.extract 0 (x5_13 : Int).toNat).toList then (some (1,x5_13)) else (some (0,0))) = some (r1,r2) := H
             have A25 := y0.mk A250
             clear A250
             have c26b0 := eq_true (of_decide_eq_true (by first | (with_reducible assumption) | assumption) : 0 ≤ x5_13)
             have c27b0 := eq_true (of_decide_eq_true (by first | (with_reducible assumption) | assumption) : x5_13 ≤ (a0.size : Int))
             by_cases c28 : t352.toList = (a0.extract 0 (x5_13 : Int).toNat).toList
             ·rw [if_pos c28] at H
              have c28b0 : (t352.toList == (a0.extract 0 (x5_13 : Int).toNat).toList) = true := beq_iff_eq.mpr c28
              have c28b1 : (t352.toList != (a0.extract 0 (x5_13 : Int).toNat).toList) = false := bne_eq_false_iff_eq.mpr c28
              clear c28
              simp only [Option.some.injEq,Prod.mk.injEq] at H
              obtain ⟨rfl,rfl⟩ := H
              try go_wp2_with (first | ((with_reducible refine y18 (f := 76) rfl ?_); refine y20 (some 48) rfl rfl Tryz.func76 (by kernel_rfl) rfl #[.string (a0.extract 0 (x5_13 : Int).toNat)] rfl (by (try simp only [qM_,List.map_cons,List.map_nil]); first | done | rfl | (simp only [qD_,qT_]; rfl)) ?_; (with_reducible refine (strconv_Atoi.calls (a0.extract 0 (x5_13 : Int).toNat) t348 none _ ?side1 A22.out).mono ?_); (case side1 => exact Tb.below HT.out (by repeat (first | (with_reducible first | exact HB.out | apply y3 | apply y23 | apply y4) | exact HB.out))); rintro e w29 ⟨ev_,rfl,hev_,hb⟩; obtain rfl := errIs_none hev_; refine ⟨_,rfl, ?_⟩; have n0_ := y0.mk (y7 (by repeat (first | (with_reducible first | exact HB.out | apply y3 | apply y23 | apply y4) | exact HB.out)) hb); clear HB; have HB := n0_; clear n0_; (try clear hb); (try clear hb2); (try clear hk); (try clear hi); (try simp only [y16,y17])))
              have n0_ := y0.mk (y4 HB.out)
              clear HB
              have HB := n0_
              clear n0_
              refine start_ (n := 14) (S := fun w' => True) (ds := []) (fl_ 14 0) (by kernel_rfl) rfl rfl trivial (fun hHeld => ?_); refine with_tabW impl_termAt.tab12 impl_termAt.bits12 (fun HT_ HW_ => ?_)
              generalize w29.drew = w30 at HB hHeld ⊢
              refine pure_ (i := 0) (N := some 51) (v := ?_) (a' := ?_) (fl_ 14 1) rfl rfl (y2 HT_.out (by kernel_rfl)) (fun _ _ _ h => h) (Or.inl ⟨by rfl, ?_⟩) ?_ ?_
              rotate_left
              ·intro w'
               go_simp
               with_reducible rfl
              rotate_left
              ·simp only [Act.put,qS_,qZ_,qC_,y22,y21]
               rfl
              refine pure_ (i := 1) (N := some 52) (v := ?_) (a' := ?_) (fl_ 14 3) rfl rfl (y2 HT_.out (by kernel_rfl)) (fun _ _ _ h => h) (Or.inl ⟨by rfl, ?_⟩) ?_ ?_
              rotate_left
              ·intro w'
               go_simp
               with_reducible rfl
              rotate_left
              ·simp only [Act.put,qS_,qZ_,qC_,y22,y21]
               rfl
              refine pure_ (i := 2) (N := some 53) (v := ?_) (a' := ?_) (fl_ 14 7) rfl rfl (y2 HT_.out (by kernel_rfl)) (fun _ _ _ h => h) (Or.inl ⟨by rfl, ?_⟩) ?_ ?_
              rotate_left
              ·intro w'
               go_simp
               with_reducible rfl
              rotate_left
              ·simp only [Act.put,qS_,qZ_,qC_,y22,y21]
               rfl
              refine pure_ (i := 3) (N := some 54) (v := ?_) (a' := ?_) (fl_ 14 15) rfl rfl (y2 HT_.out (by kernel_rfl)) (fun _ _ _ h => h) (Or.inl ⟨by rfl, ?_⟩) ?_ ?_
              rotate_left
              ·intro w'
               go_simp
               with_reducible rfl
              rotate_left
              ·simp only [Act.put,qS_,qZ_,qC_,y22,y21]
               rfl
              refine one_ (i := 4) (N := some 55) (fl_ 14 31) rfl rfl (one_of HT_.out (by kernel_rfl)) (by decide) (fun K hK => ?_)
              refine goes_ Tryz.func22 (by kernel_rfl) rfl #[.int .i64 t348,.int .i64 (-1000000),.int .i64 1000000] (by rfl) rfl rfl (by (try simp only [qM_,List.map_cons,List.map_nil]); first | done | rfl | (simp only [qD_,qT_]; rfl)) ?_
              with_reducible refine (impl_in.calls t348 (-1000000) 1000000 true _ A23.out).mono ?_
              rintro e w' ⟨rfl,⟨nd,rfl⟩⟩
              refine ⟨_,rfl, ?_⟩
              refine hK.out _ _ trivial (fun hHeld => ?_)
              clear hK K
              refine norm_ (a' := ?_) ?_ ?_
              rotate_left
              ·show Act.put _ (some 55) _ = _
               simp only [Act.put,qS_,qZ_,qC_,y22,y21]
               rfl
              refine pure_ (i := 5) (N := some 56) (v := ?_) (a' := ?_) (fl_ 14 63) rfl rfl (y2 HT_.out (by kernel_rfl)) (fun _ _ _ h => h) (Or.inl ⟨by rfl, ?_⟩) ?_ ?_
              rotate_left
              ·intro w'
               go_simp
               with_reducible rfl
              rotate_left
              ·simp only [Act.put,qS_,qZ_,qC_,y22,y21]
               rfl
              refine pure_ (i := 6) (N := some 57) (v := ?_) (a' := ?_) (fl_ 14 127) rfl rfl (y2 HT_.out (by kernel_rfl)) (fun _ _ _ h => h) (Or.inl ⟨by rfl, ?_⟩) ?_ ?_
              rotate_left
              ·intro w'
               go_simp
               with_reducible rfl
              rotate_left
              ·simp only [Act.put,qS_,qZ_,qC_,y22,y21]
               rfl
              refine pure_ (i := 7) (N := some 58) (v := ?_) (a' := ?_) (fl_ 14 255) rfl rfl (y2 HT_.out (by kernel_rfl)) (fun _ _ _ h => h) (Or.inl ⟨by rfl, ?_⟩) ?_ ?_
              rotate_left
              ·intro w'
               go_simp
               with_reducible rfl
              rotate_left
              ·simp only [Act.put,qS_,qZ_,qC_,y22,y21]
               rfl
              refine pure_ (i := 9) (N := some 60) (v := ?_) (a' := ?_) (fl_ 14 767) rfl rfl (y2 HT_.out (by kernel_rfl)) (fun _ _ _ h => h) (Or.inl ⟨by rfl, ?_⟩) ?_ ?_
              rotate_left
              ·intro w'
               go_simp
               with_reducible rfl
              rotate_left
              ·simp only [Act.put,qS_,qZ_,qC_,y22,y21]
               rfl
              refine pure_ (i := 10) (N := some 61) (v := ?_) (a' := ?_) (fl_ 14 1791) rfl rfl (y2 HT_.out (by kernel_rfl)) (fun _ _ _ h => h) (Or.inl ⟨by rfl, ?_⟩) ?_ ?_
              rotate_left
              ·intro w'
               go_simp
               with_reducible rfl
              rotate_left
              ·simp only [Act.put,qS_,qZ_,qC_,y22,y21]
               rfl
              refine pure_ (i := 11) (N := some 62) (v := ?_) (a' := ?_) (fl_ 14 3839) rfl rfl (y2 HT_.out (by kernel_rfl)) (fun _ _ _ h => h) (Or.inl ⟨by rfl, ?_⟩) ?_ ?_
              rotate_left
              ·intro w'
               go_simp
               with_reducible rfl
              rotate_left
              ·simp only [Act.put,qS_,qZ_,qC_,y22,y21]
               rfl
              refine one_ (i := 8) (N := some 59) (fl_ 14 4095) rfl rfl (one_of HT_.out (by kernel_rfl)) (by decide) (fun K hK => ?_)
              refine goes_ Tryz.func77 (by kernel_rfl) rfl #[.int .i64 t348] (by rfl) rfl rfl (by (try simp only [qM_,List.map_cons,List.map_nil]); first | done | rfl | (simp only [qD_,qT_]; rfl)) ?_
              with_reducible refine (strconv_Itoa.calls t348 t352 _ ?side1 A25.out).mono ?_
              (case side1 => exact Tb.below HT.out (by repeat (first | (with_reducible first | exact HB.out | apply y3 | apply y23 | apply y4) | exact HB.out)))
              rintro e w31 ⟨rfl,hb⟩
              refine ⟨_,rfl, ?_⟩
              have n0_ := y0.mk (y7 (by repeat (first | (with_reducible first | exact HB.out | apply y3 | apply y23 | apply y4) | exact HB.out)) hb)
              clear HB
              have HB := n0_
              clear n0_
              (try clear hb)
              (try clear hb2)
              (try clear hk)
              (try clear hi)
              refine hK.out _ _ trivial (fun hHeld => ?_)
              clear hK K
              refine norm_ (a' := ?_) ?_ ?_
              rotate_left
              ·show Act.put _ (some 59) _ = _
               simp only [Act.put,qS_,qZ_,qC_,y22,y21]
               rfl
              refine pure_ (i := 12) (N := some 63) (v := ?_) (a' := ?_) (fl_ 14 8191) rfl rfl (y2 HT_.out (by kernel_rfl)) (fun _ _ _ h => h) (Or.inl ⟨by rfl, ?_⟩) ?_ ?_
              rotate_left
              ·intro w'
               go_simp
               with_reducible rfl
              rotate_left
              ·simp only [Act.put,qS_,qZ_,qC_,y22,y21]
               rfl
              refine pure_ (i := 13) (N := some 64) (v := ?_) (a' := ?_) (fl_ 14 16383) rfl rfl (y2 HT_.out (by kernel_rfl)) (fun _ _ _ h => h) (Or.inl ⟨by rfl, ?_⟩) ?_ ?_
              rotate_left
              ·intro w'
               go_simp
               with_reducible rfl
              rotate_left
              ·simp only [Act.put,qS_,qZ_,qC_,y22,y21]
               rfl
              refine done_ (done_of HT_.out (by kernel_rfl)) ?_
              try go_wp2
              go_ret2
              exact ⟨by first | rfl | (simp [y16,y17] <;> rfl) | (simp [*,y16,y17] <;> rfl),by repeat (first | (with_reducible first | exact HB.out | apply y3 | apply y23 | apply y4) | exact HB.out)⟩
             ·rw [if_neg c28] at H
              have c28b0 : (t352.toList == (a0.extract 0 (x5_13 : Int).toNat).toList) = false := beq_eq_false_iff_ne.mpr c28
              have c28b1 : (t352.toList != (a0.extract 0 (x5_13 : Int).toNat).toList) = true := bne_iff_ne.mpr c28
              simp only [Option.some.injEq,Prod.mk.injEq] at H
              obtain ⟨rfl,rfl⟩ := H
              try go_wp2_with (first | ((with_reducible refine y18 (f := 76) rfl ?_); refine y20 (some 48) rfl rfl Tryz.func76 (by kernel_rfl) rfl #[.string (a0.extract 0 (x5_13 : Int).toNat)] rfl (by (try simp only [qM_,List.map_cons,List.map_nil]); first | done | rfl | (simp only [qD_,qT_]; rfl)) ?_; (with_reducible refine (strconv_Atoi.calls (a0.extract 0 (x5_13 : Int).toNat) t348 none _ ?side1 A22.out).mono ?_); (case side1 => exact Tb.below HT.out (by repeat (first | (with_reducible first | exact HB.out | apply y3 | apply y23 | apply y4) | exact HB.out))); rintro e w32 ⟨ev_,rfl,hev_,hb⟩; obtain rfl := errIs_none hev_; refine ⟨_,rfl, ?_⟩; have n0_ := y0.mk (y7 (by repeat (first | (with_reducible first | exact HB.out | apply y3 | apply y23 | apply y4) | exact HB.out)) hb); clear HB; have HB := n0_; clear n0_; (try clear hb); (try clear hb2); (try clear hk); (try clear hi); (try simp only [y16,y17])))
              have n0_ := y0.mk (y4 HB.out)
              clear HB
              have HB := n0_
              clear n0_
              refine start_ (n := 14) (S := fun w' => True) (ds := []) (fl_ 14 0) (by kernel_rfl) rfl rfl trivial (fun hHeld => ?_); refine with_tabW impl_termAt.tab12 impl_termAt.bits12 (fun HT_ HW_ => ?_)
              generalize w32.drew = w33 at HB hHeld ⊢
              refine pure_ (i := 0) (N := some 51) (v := ?_) (a' := ?_) (fl_ 14 1) rfl rfl (y2 HT_.out (by kernel_rfl)) (fun _ _ _ h => h) (Or.inl ⟨by rfl, ?_⟩) ?_ ?_
              rotate_left
              ·intro w'
               go_simp
               with_reducible rfl
              rotate_left
              ·simp only [Act.put,qS_,qZ_,qC_,y22,y21]
               rfl
              refine pure_ (i := 1) (N := some 52) (v := ?_) (a' := ?_) (fl_ 14 3) rfl rfl (y2 HT_.out (by kernel_rfl)) (fun _ _ _ h => h) (Or.inl ⟨by rfl, ?_⟩) ?_ ?_
              rotate_left
              ·intro w'
               go_simp
               with_reducible rfl
              rotate_left
              ·simp only [Act.put,qS_,qZ_,qC_,y22,y21]
               rfl
              refine pure_ (i := 2) (N := some 53) (v := ?_) (a' := ?_) (fl_ 14 7) rfl rfl (y2 HT_.out (by kernel_rfl)) (fun _ _ _ h => h) (Or.inl ⟨by rfl, ?_⟩) ?_ ?_
              rotate_left
              ·intro w'
               go_simp
               with_reducible rfl
              rotate_left
              ·simp only [Act.put,qS_,qZ_,qC_,y22,y21]
               rfl
              refine pure_ (i := 3) (N := some 54) (v := ?_) (a' := ?_) (fl_ 14 15) rfl rfl (y2 HT_.out (by kernel_rfl)) (fun _ _ _ h => h) (Or.inl ⟨by rfl, ?_⟩) ?_ ?_
              rotate_left
              ·intro w'
               go_simp
               with_reducible rfl
              rotate_left
              ·simp only [Act.put,qS_,qZ_,qC_,y22,y21]
               rfl
              refine one_ (i := 4) (N := some 55) (fl_ 14 31) rfl rfl (one_of HT_.out (by kernel_rfl)) (by decide) (fun K hK => ?_)
              refine goes_ Tryz.func22 (by kernel_rfl) rfl #[.int .i64 t348,.int .i64 (-1000000),.int .i64 1000000] (by rfl) rfl rfl (by (try simp only [qM_,List.map_cons,List.map_nil]); first | done | rfl | (simp only [qD_,qT_]; rfl)) ?_
              with_reducible refine (impl_in.calls t348 (-1000000) 1000000 true _ A23.out).mono ?_
              rintro e w' ⟨rfl,⟨nd,rfl⟩⟩
              refine ⟨_,rfl, ?_⟩
              refine hK.out _ _ trivial (fun hHeld => ?_)
              clear hK K
              refine norm_ (a' := ?_) ?_ ?_
              rotate_left
              ·show Act.put _ (some 55) _ = _
               simp only [Act.put,qS_,qZ_,qC_,y22,y21]
               rfl
              refine pure_ (i := 5) (N := some 56) (v := ?_) (a' := ?_) (fl_ 14 63) rfl rfl (y2 HT_.out (by kernel_rfl)) (fun _ _ _ h => h) (Or.inl ⟨by rfl, ?_⟩) ?_ ?_
              rotate_left
              ·intro w'
               go_simp
               with_reducible rfl
              rotate_left
              ·simp only [Act.put,qS_,qZ_,qC_,y22,y21]
               rfl
              refine pure_ (i := 6) (N := some 57) (v := ?_) (a' := ?_) (fl_ 14 127) rfl rfl (y2 HT_.out (by kernel_rfl)) (fun _ _ _ h => h) (Or.inl ⟨by rfl, ?_⟩) ?_ ?_
              rotate_left
              ·intro w'
               go_simp
               with_reducible rfl
              rotate_left
              ·simp only [Act.put,qS_,qZ_,qC_,y22,y21]
               rfl
              refine pure_ (i := 7) (N := some 58) (v := ?_) (a' := ?_) (fl_ 14 255) rfl rfl (y2 HT_.out (by kernel_rfl)) (fun _ _ _ h => h) (Or.inl ⟨by rfl, ?_⟩) ?_ ?_
              rotate_left
              ·intro w'
               go_simp
               with_reducible rfl
              rotate_left
              ·simp only [Act.put,qS_,qZ_,qC_,y22,y21]
               rfl
              refine pure_ (i := 9) (N := some 60) (v := ?_) (a' := ?_) (fl_ 14 767) rfl rfl (y2 HT_.out (by kernel_rfl)) (fun _ _ _ h => h) (Or.inl ⟨by rfl, ?_⟩) ?_ ?_
              rotate_left
              ·intro w'
               go_simp
               with_reducible rfl
              rotate_left
              ·simp only [Act.put,qS_,qZ_,qC_,y22,y21]
               rfl
              refine pure_ (i := 10) (N := some 61) (v := ?_) (a' := ?_) (fl_ 14 1791) rfl rfl (y2 HT_.out (by kernel_rfl)) (fun _ _ _ h => h) (Or.inl ⟨by rfl, ?_⟩) ?_ ?_
              rotate_left
              ·intro w'
               go_simp
               with_reducible rfl
              rotate_left
              ·simp only [Act.put,qS_,qZ_,qC_,y22,y21]
               rfl
              refine pure_ (i := 11) (N := some 62) (v := ?_) (a' := ?_) (fl_ 14 3839) rfl rfl (y2 HT_.out (by kernel_rfl)) (fun _ _ _ h => h) (Or.inl ⟨by rfl, ?_⟩) ?_ ?_
              rotate_left
              ·intro w'
               go_simp
               with_reducible rfl
              rotate_left
              ·simp only [Act.put,qS_,qZ_,qC_,y22,y21]
               rfl
              refine one_ (i := 8) (N := some 59) (fl_ 14 4095) rfl rfl (one_of HT_.out (by kernel_rfl)) (by decide) (fun K hK => ?_)
              refine goes_ Tryz.func77 (by kernel_rfl) rfl #[.int .i64 t348] (by rfl) rfl rfl (by (try simp only [qM_,List.map_cons,List.map_nil]); first | done | rfl | (simp only [qD_,qT_]; rfl)) ?_
              with_reducible refine (strconv_Itoa.calls t348 t352 _ ?side1 A25.out).mono ?_
              (case side1 => exact Tb.below HT.out (by repeat (first | (with_reducible first | exact HB.out | apply y3 | apply y23 | apply y4) | exact HB.out)))
              rintro e w34 ⟨rfl,hb⟩
              refine ⟨_,rfl, ?_⟩
              have n0_ := y0.mk (y7 (by repeat (first | (with_reducible first | exact HB.out | apply y3 | apply y23 | apply y4) | exact HB.out)) hb)
              clear HB
              have HB := n0_
              clear n0_
              (try clear hb)
              (try clear hb2)
              (try clear hk)
              (try clear hi)
              refine hK.out _ _ trivial (fun hHeld => ?_)
              clear hK K
              refine norm_ (a' := ?_) ?_ ?_
              rotate_left
              ·show Act.put _ (some 59) _ = _
               simp only [Act.put,qS_,qZ_,qC_,y22,y21]
               rfl
              refine pure_ (i := 12) (N := some 63) (v := ?_) (a' := ?_) (fl_ 14 8191) rfl rfl (y2 HT_.out (by kernel_rfl)) (fun _ _ _ h => h) (Or.inl ⟨by rfl, ?_⟩) ?_ ?_
              rotate_left
              ·intro w'
               go_simp
               with_reducible rfl
              rotate_left
              ·simp only [Act.put,qS_,qZ_,qC_,y22,y21]
               rfl
              refine pure_ (i := 13) (N := some 64) (v := ?_) (a' := ?_) (fl_ 14 16383) rfl rfl (y2 HT_.out (by kernel_rfl)) (fun _ _ _ h => h) (Or.inl ⟨by rfl, ?_⟩) ?_ ?_
              rotate_left
              ·intro w'
               go_simp
               with_reducible rfl
              rotate_left
              ·simp only [Act.put,qS_,qZ_,qC_,y22,y21]
               rfl
              refine done_ (done_of HT_.out (by kernel_rfl)) ?_
              try go_wp2
              go_ret2
              exact ⟨by first | rfl | (simp [y16,y17] <;> rfl) | (simp [*,y16,y17] <;> rfl),by repeat (first | (with_reducible first | exact HB.out | apply y3 | apply y23 | apply y4) | exact HB.out)⟩
            ·replace c24 := Bool.eq_false_iff.mpr c24
             subst c24
             have H1 : (some (0,0)) = some (r1,r2) := by rw [if_neg (show ¬ (false = true) by decide)] at H; exact H
             clear H
             have H := H1
             clear H1
             simp only [Option.some.injEq,Prod.mk.injEq] at H
             obtain ⟨rfl,rfl⟩ := H
             try go_wp2_with (first | ((with_reducible refine y18 (f := 76) rfl ?_); refine y20 (some 48) rfl rfl Tryz.func76 (by kernel_rfl) rfl #[.string (a0.extract 0 (x5_13 : Int).toNat)] rfl (by (try simp only [qM_,List.map_cons,List.map_nil]); first | done | rfl | (simp only [qD_,qT_]; rfl)) ?_; (with_reducible refine (strconv_Atoi.calls (a0.extract 0 (x5_13 : Int).toNat) t348 none _ ?side1 A22.out).mono ?_); (case side1 => exact Tb.below HT.out (by repeat (first | (with_reducible first | exact HB.out | apply y3 | apply y23 | apply y4) | exact HB.out))); rintro e w35 ⟨ev_,rfl,hev_,hb⟩; obtain rfl := errIs_none hev_; refine ⟨_,rfl, ?_⟩; have n0_ := y0.mk (y7 (by repeat (first | (with_reducible first | exact HB.out | apply y3 | apply y23 | apply y4) | exact HB.out)) hb); clear HB; have HB := n0_; clear n0_; (try clear hb); (try clear hb2); (try clear hk); (try clear hi); (try simp only [y16,y17])))
             have n0_ := y0.mk (y4 HB.out)
             clear HB
             have HB := n0_
             clear n0_
             refine start_ (n := 14) (S := fun w' => True) (ds := []) (fl_ 14 0) (by kernel_rfl) rfl rfl trivial (fun hHeld => ?_); refine with_tabW impl_termAt.tab12 impl_termAt.bits12 (fun HT_ HW_ => ?_)
             generalize w35.drew = w36 at HB hHeld ⊢
             refine pure_ (i := 0) (N := some 51) (v := ?_) (a' := ?_) (fl_ 14 1) rfl rfl (y2 HT_.out (by kernel_rfl)) (fun _ _ _ h => h) (Or.inl ⟨by rfl, ?_⟩) ?_ ?_
             rotate_left
             ·intro w'
              go_simp
              with_reducible rfl
             rotate_left
             ·simp only [Act.put,qS_,qZ_,qC_,y22,y21]
              rfl
             refine pure_ (i := 1) (N := some 52) (v := ?_) (a' := ?_) (fl_ 14 3) rfl rfl (y2 HT_.out (by kernel_rfl)) (fun _ _ _ h => h) (Or.inl ⟨by rfl, ?_⟩) ?_ ?_
             rotate_left
             ·intro w'
              go_simp
              with_reducible rfl
             rotate_left
             ·simp only [Act.put,qS_,qZ_,qC_,y22,y21]
              rfl
             refine pure_ (i := 2) (N := some 53) (v := ?_) (a' := ?_) (fl_ 14 7) rfl rfl (y2 HT_.out (by kernel_rfl)) (fun _ _ _ h => h) (Or.inl ⟨by rfl, ?_⟩) ?_ ?_
             rotate_left
             ·intro w'
              go_simp
              with_reducible rfl
             rotate_left
             ·simp only [Act.put,qS_,qZ_,qC_,y22,y21]
              rfl
             refine pure_ (i := 3) (N := some 54) (v := ?_) (a' := ?_) (fl_ 14 15) rfl rfl (y2 HT_.out (by kernel_rfl)) (fun _ _ _ h => h) (Or.inl ⟨by rfl, ?_⟩) ?_ ?_
             rotate_left
             ·intro w'
              go_simp
              with_reducible rfl
             rotate_left
             ·simp only [Act.put,qS_,qZ_,qC_,y22,y21]
              rfl
             refine one_ (i := 4) (N := some 55) (fl_ 14 31) rfl rfl (one_of HT_.out (by kernel_rfl)) (by decide) (fun K hK => ?_)
             refine goes_ Tryz.func22 (by kernel_rfl) rfl #[.int .i64 t348,.int .i64 (-1000000),.int .i64 1000000] (by rfl) rfl rfl (by (try simp only [qM_,List.map_cons,List.map_nil]); first | done | rfl | (simp only [qD_,qT_]; rfl)) ?_
             with_reducible refine (impl_in.calls t348 (-1000000) 1000000 false _ A23.out).mono ?_
             rintro e w' ⟨rfl,⟨nd,rfl⟩⟩
             refine ⟨_,rfl, ?_⟩
             refine hK.out _ _ trivial (fun hHeld => ?_)
             clear hK K
             refine norm_ (a' := ?_) ?_ ?_
             rotate_left
             ·show Act.put _ (some 55) _ = _
              simp only [Act.put,qS_,qZ_,qC_,y22,y21]
              rfl
             refine pure_ (i := 5) (N := some 56) (v := ?_) (a' := ?_) (fl_ 14 63) rfl rfl (y2 HT_.out (by kernel_rfl)) (fun _ _ _ h => h) (Or.inl ⟨by rfl, ?_⟩) ?_ ?_
             rotate_left
             ·intro w'
              go_simp
              with_reducible rfl
             rotate_left
             ·simp only [Act.put,qS_,qZ_,qC_,y22,y21]
              rfl
             refine pure_ (i := 6) (N := some 57) (v := ?_) (a' := ?_) (fl_ 14 127) rfl rfl (y2 HT_.out (by kernel_rfl)) (fun _ _ _ h => h) (Or.inl ⟨by rfl, ?_⟩) ?_ ?_
             rotate_left
             ·intro w'
              go_simp
              with_reducible rfl
             rotate_left
             ·simp only [Act.put,qS_,qZ_,qC_,y22,y21]
              rfl
             refine pure_ (i := 7) (N := some 58) (v := undef) (a' := ?_) (fl_ 14 255) rfl rfl (y2 HT_.out (by kernel_rfl)) (fun _ _ _ h => h) (Or.inr ⟨by rfl,rfl⟩) ?_ ?_
             rotate_left
             ·simp only [Act.put,qS_,qZ_,qC_,y22,y21]
              rfl
             refine pure_ (i := 8) (N := some 59) (v := undef) (a' := ?_) (fl_ 14 511) rfl rfl (y2 HT_.out (by kernel_rfl)) (fun _ _ _ h => h) (Or.inr ⟨by rfl,rfl⟩) ?_ ?_
             rotate_left
             ·simp only [Act.put,qS_,qZ_,qC_,y22,y21]
              rfl
             refine pure_ (i := 9) (N := some 60) (v := undef) (a' := ?_) (fl_ 14 1023) rfl rfl (y2 HT_.out (by kernel_rfl)) (fun _ _ _ h => h) (Or.inr ⟨by rfl,rfl⟩) ?_ ?_
             rotate_left
             ·simp only [Act.put,qS_,qZ_,qC_,y22,y21]
              rfl
             refine pure_ (i := 10) (N := some 61) (v := undef) (a' := ?_) (fl_ 14 2047) rfl rfl (y2 HT_.out (by kernel_rfl)) (fun _ _ _ h => h) (Or.inr ⟨by rfl,rfl⟩) ?_ ?_
             rotate_left
             ·simp only [Act.put,qS_,qZ_,qC_,y22,y21]
              rfl
             refine pure_ (i := 11) (N := some 62) (v := undef) (a' := ?_) (fl_ 14 4095) rfl rfl (y2 HT_.out (by kernel_rfl)) (fun _ _ _ h => h) (Or.inr ⟨by rfl,rfl⟩) ?_ ?_
             rotate_left
             ·simp only [Act.put,qS_,qZ_,qC_,y22,y21]
              rfl
             refine pure_ (i := 12) (N := some 63) (v := undef) (a' := ?_) (fl_ 14 8191) rfl rfl (y2 HT_.out (by kernel_rfl)) (fun _ _ _ h => h) (Or.inr ⟨by rfl,rfl⟩) ?_ ?_
             rotate_left
             ·simp only [Act.put,qS_,qZ_,qC_,y22,y21]
              rfl
             refine pure_ (i := 13) (N := some 64) (v := ?_) (a' := ?_) (fl_ 14 16383) rfl rfl (y2 HT_.out (by kernel_rfl)) (fun _ _ _ h => h) (Or.inl ⟨by rfl, ?_⟩) ?_ ?_
             rotate_left
             ·intro w'
              go_simp
              with_reducible rfl
             rotate_left
             ·simp only [Act.put,qS_,qZ_,qC_,y22,y21]
              rfl
             refine done_ (done_of HT_.out (by kernel_rfl)) ?_
             try go_wp2
             go_ret2
             exact ⟨by first | rfl | (simp [y16,y17] <;> rfl) | (simp [*,y16,y17] <;> rfl),by repeat (first | (with_reducible first | exact HB.out | apply y3 | apply y23 | apply y4) | exact HB.out)⟩
           ·have H1 : (some (0,0)) = some (r1,r2) := by rw [if_neg (show ¬ (some q350).isNone = true by simp)] at H; exact H
            clear H
            have H := H1
            clear H1
            try simp only [y16,y17]
            simp only [Option.some.injEq,Prod.mk.injEq] at H
            obtain ⟨rfl,rfl⟩ := H
            try go_wp2_with (first | ((with_reducible refine y18 (f := 76) rfl ?_); refine y20 (some 48) rfl rfl Tryz.func76 (by kernel_rfl) rfl #[.string (a0.extract 0 (x5_13 : Int).toNat)] rfl (by (try simp only [qM_,List.map_cons,List.map_nil]); first | done | rfl | (simp only [qD_,qT_]; rfl)) ?_; (with_reducible refine (strconv_Atoi.calls (a0.extract 0 (x5_13 : Int).toNat) t348 (some q350) _ ?side1 A22.out).mono ?_); (case side1 => exact Tb.below HT.out (by repeat (first | (with_reducible first | exact HB.out | apply y3 | apply y23 | apply y4) | exact HB.out))); rintro e w37 ⟨ev_,rfl,hev_,hb⟩; obtain ⟨te_,pe_,rfl⟩ := errIs_some hev_; refine ⟨_,rfl, ?_⟩; have n0_ := y0.mk (y7 (by repeat (first | (with_reducible first | exact HB.out | apply y3 | apply y23 | apply y4) | exact HB.out)) hb); clear HB; have HB := n0_; clear n0_; (try clear hb); (try clear hb2); (try clear hk); (try clear hi); (try simp only [y16,y17])))
            have n0_ := y0.mk (y4 HB.out)
            clear HB
            have HB := n0_
            clear n0_
            refine start_ (n := 14) (S := fun w' => True) (ds := []) (fl_ 14 0) (by kernel_rfl) rfl rfl trivial (fun hHeld => ?_); refine with_tabW impl_termAt.tab12 impl_termAt.bits12 (fun HT_ HW_ => ?_)
            generalize w37.drew = w38 at HB hHeld ⊢
            refine pure_ (i := 0) (N := some 51) (v := ?_) (a' := ?_) (fl_ 14 1) rfl rfl (y2 HT_.out (by kernel_rfl)) (fun _ _ _ h => h) (Or.inl ⟨by rfl, ?_⟩) ?_ ?_
            rotate_left
            ·intro w'
             go_simp
             with_reducible rfl
            rotate_left
            ·simp only [Act.put,qS_,qZ_,qC_,y22,y21]
             rfl
            refine pure_ (i := 1) (N := some 52) (v := ?_) (a' := ?_) (fl_ 14 3) rfl rfl (y2 HT_.out (by kernel_rfl)) (fun _ _ _ h => h) (Or.inl ⟨by rfl, ?_⟩) ?_ ?_
            rotate_left
            ·intro w'
             go_simp
             with_reducible rfl
            rotate_left
            ·simp only [Act.put,qS_,qZ_,qC_,y22,y21]
             rfl
            refine pure_ (i := 2) (N := some 53) (v := ?_) (a' := ?_) (fl_ 14 7) rfl rfl (y2 HT_.out (by kernel_rfl)) (fun _ _ _ h => h) (Or.inl ⟨by rfl, ?_⟩) ?_ ?_
            rotate_left
            ·intro w'
             go_simp
             with_reducible rfl
            rotate_left
            ·simp only [Act.put,qS_,qZ_,qC_,y22,y21]
             rfl
            refine pure_ (i := 3) (N := some 54) (v := undef) (a' := ?_) (fl_ 14 15) rfl rfl (y2 HT_.out (by kernel_rfl)) (fun _ _ _ h => h) (Or.inr ⟨by rfl,rfl⟩) ?_ ?_
            rotate_left
            ·simp only [Act.put,qS_,qZ_,qC_,y22,y21]
             rfl
            refine pure_ (i := 4) (N := some 55) (v := undef) (a' := ?_) (fl_ 14 31) rfl rfl (y2 HT_.out (by kernel_rfl)) (fun _ _ _ h => h) (Or.inr ⟨by rfl,rfl⟩) ?_ ?_
            rotate_left
            ·simp only [Act.put,qS_,qZ_,qC_,y22,y21]
             rfl
            refine pure_ (i := 5) (N := some 56) (v := ?_) (a' := ?_) (fl_ 14 63) rfl rfl (y2 HT_.out (by kernel_rfl)) (fun _ _ _ h => h) (Or.inl ⟨by rfl, ?_⟩) ?_ ?_
            rotate_left
            ·intro w'
             go_simp
             with_reducible rfl
            rotate_left
            ·simp only [Act.put,qS_,qZ_,qC_,y22,y21]
             rfl
            refine pure_ (i := 6) (N := some 57) (v := ?_) (a' := ?_) (fl_ 14 127) rfl rfl (y2 HT_.out (by kernel_rfl)) (fun _ _ _ h => h) (Or.inl ⟨by rfl, ?_⟩) ?_ ?_
            rotate_left
            ·intro w'
             go_simp
             with_reducible rfl
            rotate_left
            ·simp only [Act.put,qS_,qZ_,qC_,y22,y21]
             rfl
            refine pure_ (i := 7) (N := some 58) (v := undef) (a' := ?_) (fl_ 14 255) rfl rfl (y2 HT_.out (by kernel_rfl)) (fun _ _ _ h => h) (Or.inr ⟨by rfl,rfl⟩) ?_ ?_
            rotate_left
            ·simp only [Act.put,qS_,qZ_,qC_,y22,y21]
             rfl
            refine pure_ (i := 8) (N := some 59) (v := undef) (a' := ?_) (fl_ 14 511) rfl rfl (y2 HT_.out (by kernel_rfl)) (fun _ _ _ h => h) (Or.inr ⟨by rfl,rfl⟩) ?_ ?_
            rotate_left
            ·simp only [Act.put,qS_,qZ_,qC_,y22,y21]
             rfl
            refine pure_ (i := 9) (N := some 60) (v := undef) (a' := ?_) (fl_ 14 1023) rfl rfl (y2 HT_.out (by kernel_rfl)) (fun _ _ _ h => h) (Or.inr ⟨by rfl,rfl⟩) ?_ ?_
            rotate_left
            ·simp only [Act.put,qS_,qZ_,qC_,y22,y21]
             rfl
            refine pure_ (i := 10) (N := some 61) (v := undef) (a' := ?_) (fl_ 14 2047) rfl rfl (y2 HT_.out (by kernel_rfl)) (fun _ _ _ h => h) (Or.inr ⟨by rfl,rfl⟩) ?_ ?_
            rotate_left
            ·simp only [Act.put,qS_,qZ_,qC_,y22,y21]
             rfl
            refine pure_ (i := 11) (N := some 62) (v := undef) (a' := ?_) (fl_ 14 4095) rfl rfl (y2 HT_.out (by kernel_rfl)) (fun _ _ _ h => h) (Or.inr ⟨by rfl,rfl⟩) ?_ ?_
            rotate_left
            ·simp only [Act.put,qS_,qZ_,qC_,y22,y21]
             rfl
            refine pure_ (i := 12) (N := some 63) (v := undef) (a' := ?_) (fl_ 14 8191) rfl rfl (y2 HT_.out (by kernel_rfl)) (fun _ _ _ h => h) (Or.inr ⟨by rfl,rfl⟩) ?_ ?_
            rotate_left
            ·simp only [Act.put,qS_,qZ_,qC_,y22,y21]
             rfl
            refine pure_ (i := 13) (N := some 64) (v := ?_) (a' := ?_) (fl_ 14 16383) rfl rfl (y2 HT_.out (by kernel_rfl)) (fun _ _ _ h => h) (Or.inl ⟨by rfl, ?_⟩) ?_ ?_
            rotate_left
            ·intro w'
             go_simp
             with_reducible rfl
            rotate_left
            ·simp only [Act.put,qS_,qZ_,qC_,y22,y21]
             rfl
            refine done_ (done_of HT_.out (by kernel_rfl)) ?_
            try go_wp2
            go_ret2
            exact ⟨by first | rfl | (simp [y16,y17] <;> rfl) | (simp [*,y16,y17] <;> rfl),by repeat (first | (with_reducible first | exact HB.out | apply y3 | apply y23 | apply y4) | exact HB.out)⟩
          ·rw [if_neg c21] at H
           exact absurd H (by simp)
         ·rw [if_neg c20] at H
          exact absurd H (by simp)
      ·replace c13 := Bool.eq_false_iff.mpr c13
       subst c13
       have H1 : (if 0 < (a0.size : Int) then (if (bt a0 0) ≥ 65 then (impl_termAt.j3 kj7 a0 (decide ((bt a0 0) ≤ 90))) else (impl_termAt.j3 kj7 a0 false)) else (none)) = some (r1,r2) := by rw [if_neg (show ¬ (false = true) by decide)] at H; exact H
       clear H
       have H := H1
       clear H1
       have HC39 := y0.mk H
       clear H
       go_upto_region 14 with (fail)
       go_cut [66] (fun v66 wc => ∃ (kq : Nat) (x66_38 : Bool),v66 = .bool x66_38 ∧ y0 (impl_termAt.j3 kq a0 x66_38 = some (r1,r2)) ∧ y0 (kq ≤ kj7) ∧ y0 (Below w.heap.size w wc))
       case first =>
        have H := HC39.out
        clear HC39
        by_cases c40 : 0 < (a0.size : Int)
        ·rw [if_pos c40] at H
         have c40b0 : decide (0 < (a0.size : Int)) = true := decide_eq_true c40
         have c40b1 : decide (0 < a0.size) = true := decide_eq_true (by omega)
         clear c40
         (first | rw [c40b0] | (simp only [y22,y21]; rw [c40b0]) | skip)
         by_cases c42 : (bt a0 0) ≥ 65
         ·rw [if_pos c42] at H
          have c42b0 : decide (65 ≤ (bt a0 0)) = true := decide_eq_true c42
          clear c42
          have H' := y0.mk H
          clear H
          have p41 : 0 ≤ (0 : Int) := (by omega)
          have q41 : 0 < a0.size := (by have : (0 : Int) < (a0.size : Int) := of_decide_eq_true (by first | (with_reducible assumption) | assumption); omega)
          have hx41 : ∀ h : 0 < a0.size,((a0[0]'h).toNat : Int) = bt a0 0 := bt_at a0 0
          clear p41
          have qi41 : (0 < (a0.size : Int)) = True := eq_true (of_decide_eq_true (by first | (with_reducible assumption) | assumption))
          replace q41 := eq_true q41
          have p43 : 0 ≤ (0 : Int) := (by omega)
          have q43 : 0 < a0.size := (by have : (0 : Int) < (a0.size : Int) := of_decide_eq_true (by first | (with_reducible assumption) | assumption); omega)
          have hx43 : ∀ h : 0 < a0.size,((a0[0]'h).toNat : Int) = bt a0 0 := bt_at a0 0
          clear p43
          have qi43 : (0 < (a0.size : Int)) = True := eq_true (of_decide_eq_true (by first | (with_reducible assumption) | assumption))
          replace q43 := eq_true q43
          go_wp2
          go_meet
          case rel => exact ⟨_,(decide ((bt a0 0) ≤ 90)),(by first | rfl | (simp; done) | (simp [*]; done)),H',⟨by have := HJ7.out; first | omega | exact Nat.le_refl _⟩,⟨by repeat (first | (with_reducible first | exact HB.out | apply y3 | apply y23 | apply y4) | exact HB.out)⟩⟩
         ·rw [if_neg c42] at H
          have c42b0 : decide (65 ≤ (bt a0 0)) = false := decide_eq_false c42
          clear c42
          have H' := y0.mk H
          clear H
          have p41 : 0 ≤ (0 : Int) := (by omega)
          have q41 : 0 < a0.size := (by have : (0 : Int) < (a0.size : Int) := of_decide_eq_true (by first | (with_reducible assumption) | assumption); omega)
          have hx41 : ∀ h : 0 < a0.size,((a0[0]'h).toNat : Int) = bt a0 0 := bt_at a0 0
          clear p41
          have qi41 : (0 < (a0.size : Int)) = True := eq_true (of_decide_eq_true (by first | (with_reducible assumption) | assumption))
          replace q41 := eq_true q41
          go_wp2
          go_meet
          case rel => exact ⟨_,(false),(by first | rfl | (simp; done) | (simp [*]; done)),H',⟨by have := HJ7.out; first | omega | exact Nat.le_refl _⟩,⟨by repeat (first | (with_reducible first | exact HB.out | apply y3 | apply y23 | apply y4) | exact HB.out)⟩⟩
        ·rw [if_neg c40] at H
         exact absurd H (by simp)
       case rest =>
        clear HC39
        try clear c1
        try clear c2
        try clear p2
        try clear q3
        try clear c4
        try clear p4
        try clear q4
        try clear hx4
        try clear qi4
        try clear c7
        try clear c13
        try clear c20
        try clear c20b0
        try clear c20b1
        try clear c21
        try clear c21b0
        try clear c21b1
        try clear c22
        try clear c24
        try clear c26
        try clear c26b0
        try clear c27
        try clear c27b0
        try clear c28
        try clear c28b0
        try clear c28b1
        try clear q35
        try clear c40
        try clear c40b0
        try clear c40b1
        try clear p41
        try clear q41
        try clear hx41
        try clear qi41
        try clear c42
        try clear c42b0
        try clear p43
        try clear q43
        try clear hx43
        try clear qi43
        try clear p41
        try clear p43
        try clear q350
        try clear q41
        try clear q43
        obtain ⟨kq,x66_38,rfl,HA,HJ38,HB⟩ := hcut
        cases kq with
        | zero => exact absurd HA.out (by simp [impl_termAt.j3])
        | succ kj38 =>
         have H := HA.out
         clear HA
         simp only [impl_termAt.j3] at H
         by_cases c44 : x66_38 = true
         ·subst c44
          have H1 : ((impl_nameLong.f kj38 a0).bind fun t353 => (if t353 > 20 then (some (0,0)) else (if t353 = (a0.size : Int) then (impl_termAt.j4 kj38 a0 t353 true) else (if 0 ≤ t353 then (if t353 < (a0.size : Int) then (impl_termAt.j4 kj38 a0 t353 ((bt a0 t353) != 40)) else (none)) else (none))))) = some (r1,r2) := by rw [if_pos rfl] at H; exact H
          clear H
          have H := H1
          clear H1
          replace H := Option.bind_eq_some_iff.mp H
          obtain ⟨t353,A450,H⟩ := H
          replace H : (if t353 > 20 then (some (0,0)) else (if t353 = (a0.size : Int) then (impl_termAt.j4 kj38 a0 t353 true) else (if 0 ≤ t353 then (if t353 < (a0.size : Int) then (impl_termAt.j4 kj38 a0 t353 ((bt a0 t353) != 40)) else (none)) else (none)))) = some (r1,r2) := H
          have A45 := y0.mk A450
          clear A450
          by_cases c46 : t353 > 20
          ·rw [if_pos c46] at H
           have c46b0 : decide (20 < t353) = true := decide_eq_true c46
           clear c46
           simp only [Option.some.injEq,Prod.mk.injEq] at H
           obtain ⟨rfl,rfl⟩ := H
           go_wp2_with (first | ((with_reducible refine y18 (f := 78) rfl ?_); refine y20 (some 76) rfl rfl Tryz.func78 (by kernel_rfl) rfl #[.string a0] rfl (by (try simp only [qM_,List.map_cons,List.map_nil]); first | done | rfl | (simp only [qD_,qT_]; rfl)) ?_; (with_reducible refine (impl_nameLong.calls kj38 a0 t353 _ A45.out).mono ?_); rintro e w' ⟨rfl,⟨nd,rfl⟩⟩; refine ⟨_,rfl, ?_⟩))
           go_ret2
           exact ⟨by first | rfl | (simp [y16,y17] <;> rfl) | (simp [*,y16,y17] <;> rfl),by repeat (first | (with_reducible first | exact HB.out | apply y3 | apply y23 | apply y4) | exact HB.out)⟩
          ·rw [if_neg c46] at H
           have c46b0 : decide (20 < t353) = false := decide_eq_false c46
           clear c46
           have HC47 := y0.mk H
           clear H
           go_upto_region 18 with (first | ((with_reducible refine y18 (f := 78) rfl ?_); refine y20 (some 76) rfl rfl Tryz.func78 (by kernel_rfl) rfl #[.string a0] rfl (by (try simp only [qM_,List.map_cons,List.map_nil]); first | done | rfl | (simp only [qD_,qT_]; rfl)) ?_; (with_reducible refine (impl_nameLong.calls kj38 a0 t353 _ A45.out).mono ?_); rintro e w' ⟨rfl,⟨nd,rfl⟩⟩; refine ⟨_,rfl, ?_⟩))
           (try simp only [Act.put,qS_,qZ_,qC_])
           go_cut [88] (fun v88 wc => ∃ (kq : Nat) (x88_46 : Bool),v88 = .bool x88_46 ∧ y0 (impl_termAt.j4 kq a0 t353 x88_46 = some (r1,r2)) ∧ y0 (kq ≤ kj38) ∧ y0 (Below w.heap.size w wc))
           case first =>
            have H := HC47.out
            clear HC47
            by_cases c48 : t353 = (a0.size : Int)
            ·rw [if_pos c48] at H
             have c48b0 : (t353 == (a0.size : Int)) = true := beq_iff_eq.mpr c48
             have c48b1 : (t353 != (a0.size : Int)) = false := bne_eq_false_iff_eq.mpr c48
             clear c48
             (first | rw [c48b0] | (simp only [y22,y21]; rw [c48b0]) | skip)
             have H' := y0.mk H
             clear H
             go_wp2
             go_meet
             case rel => exact ⟨_,(true),(by first | rfl | (simp; done) | (simp [*]; done)),H',⟨by have := HJ7.out; have := HJ38.out; first | omega | exact Nat.le_refl _⟩,⟨by repeat (first | (with_reducible first | exact HB.out | apply y3 | apply y23 | apply y4) | exact HB.out)⟩⟩
            ·rw [if_neg c48] at H
             have c48b0 : (t353 == (a0.size : Int)) = false := beq_eq_false_iff_ne.mpr c48
             have c48b1 : (t353 != (a0.size : Int)) = true := bne_iff_ne.mpr c48
             (first | rw [c48b0] | (simp only [y22,y21]; rw [c48b0]) | skip)
             by_cases c49 : 0 ≤ t353
             ·rw [if_pos c49] at H
              have c49b0 : decide (0 ≤ t353) = true := decide_eq_true c49
              clear c49
              by_cases c50 : t353 < (a0.size : Int)
              ·rw [if_pos c50] at H
               have c50b0 : decide (t353 < (a0.size : Int)) = true := decide_eq_true c50
               clear c50
               have H' := y0.mk H
               clear H
               have p51 : 0 ≤ (t353 : Int) := of_decide_eq_true (by first | (with_reducible assumption) | assumption)
               have q51 : t353 < (a0.size : Int) := of_decide_eq_true (by first | (with_reducible assumption) | assumption)
               have hx51 := bt_at a0 t353
               replace p51 := eq_true p51
               replace q51 := eq_true q51
               go_wp2
               go_meet
               case rel => exact ⟨_,(((bt a0 t353) != 40)),(by first | rfl | (simp; done) | (simp [*]; done)),H',⟨by have := HJ7.out; have := HJ38.out; first | omega | exact Nat.le_refl _⟩,⟨by repeat (first | (with_reducible first | exact HB.out | apply y3 | apply y23 | apply y4) | exact HB.out)⟩⟩
              ·rw [if_neg c50] at H
               exact absurd H (by simp)
             ·rw [if_neg c49] at H
              exact absurd H (by simp)
           case rest =>
            clear HC47
            try clear c1
            try clear c2
            try clear p2
            try clear q3
            try clear c4
            try clear p4
            try clear q4
            try clear hx4
            try clear qi4
            try clear c5
            try clear p5
            try clear q5
            try clear hx5
            try clear c7
            try clear c13
            try clear c20
            try clear c20b0
            try clear c20b1
            try clear c21
            try clear c21b0
            try clear c21b1
            try clear c22
            try clear c24
            try clear c26
            try clear c26b0
            try clear c27
            try clear c27b0
            try clear c28
            try clear c28b0
            try clear c28b1
            try clear q35
            try clear c40
            try clear c40b0
            try clear c40b1
            try clear p41
            try clear q41
            try clear hx41
            try clear qi41
            try clear c42
            try clear c42b0
            try clear p43
            try clear q43
            try clear hx43
            try clear qi43
            try clear c44
            try clear c46
            try clear c46b0
            try clear c48
            try clear c48b0
            try clear c48b1
            try clear c49
            try clear c49b0
            try clear c50
            try clear c50b0
            try clear p51
            try clear q51
            try clear hx51
            try clear p2
            try clear p4
            try clear p41
            try clear p43
            try clear p51
            try clear q3
            try clear q35
            try clear q350
            try clear q4
            try clear q41
            try clear q43
            try clear q51
            obtain ⟨kq,x88_46,rfl,HA,HJ46,HB⟩ := hcut
            cases kq with
            | zero => exact absurd HA.out (by simp [impl_termAt.j4])
            | succ kj46 =>
             have H := HA.out
             clear HA
             simp only [impl_termAt.j4] at H
             by_cases c52 : x88_46 = true
             ·subst c52
              have H1 : (some (3,t353)) = some (r1,r2) := by rw [if_pos rfl] at H; exact H
              clear H
              have H := H1
              clear H1
              simp only [Option.some.injEq,Prod.mk.injEq] at H
              obtain ⟨rfl,rfl⟩ := H
              go_wp2
              go_ret2
              exact ⟨by first | rfl | (simp [y16,y17] <;> rfl) | (simp [*,y16,y17] <;> rfl),by repeat (first | (with_reducible first | exact HB.out | apply y3 | apply y23 | apply y4) | exact HB.out)⟩
             ·replace c52 := Bool.eq_false_iff.mpr c52
              subst c52
              have H1 : (impl_termAt.l1 kj46 a0 t353 true) = some (r1,r2) := by rw [if_neg (show ¬ (false = true) by decide)] at H; exact H
              clear H
              have H := H1
              clear H1
              have H' := y0.mk H
              clear H
              go_wp2
              go_loopg [8,9] kj46 (fun kq v8 v9 w' => ∃ (x8_4 : Int) (x9_4 : Bool),v8 = .int .i64 x8_4 ∧ v9 = .bool x9_4 ∧ y0 (impl_termAt.l1 kq a0 x8_4 x9_4 = some (r1,r2)) ∧ y0 (kq ≤ kj46) ∧ y0 (Below w.heap.size w w'))
              case atStart => exact ⟨(t353),(true),(by first | rfl | (simp; done) | (simp [*]; done)),(by first | rfl | (simp; done) | (simp [*]; done)),H',⟨Nat.le_refl _⟩,⟨by repeat (first | (with_reducible first | exact HB.out | apply y3 | apply y23 | apply y4) | exact HB.out)⟩⟩
              case round =>
               clear H'
               try clear c1
               try clear c2
               try clear p2
               try clear q3
               try clear c4
               try clear p4
               try clear q4
               try clear hx4
               try clear qi4
               try clear c5
               try clear p5
               try clear q5
               try clear hx5
               try clear c7
               try clear c13
               try clear c20
               try clear c20b0
               try clear c20b1
               try clear c21
               try clear c21b0
               try clear c21b1
               try clear c22
               try clear c24
               try clear c26
               try clear c26b0
               try clear c27
               try clear c27b0
               try clear c28
               try clear c28b0
               try clear c28b1
               try clear q35
               try clear c40
               try clear c40b0
               try clear c40b1
               try clear p41
               try clear q41
               try clear hx41
               try clear qi41
               try clear c42
               try clear c42b0
               try clear p43
               try clear q43
               try clear hx43
               try clear qi43
               try clear c44
               try clear c46
               try clear c46b0
               try clear c48
               try clear c48b0
               try clear c48b1
               try clear c49
               try clear c49b0
               try clear c50
               try clear c50b0
               try clear p51
               try clear q51
               try clear hx51
               try clear c52
               try clear p2
               try clear p4
               try clear p41
               try clear p43
               try clear p5
               try clear p51
               try clear q3
               try clear q35
               try clear q350
               try clear q4
               try clear q41
               try clear q43
               try clear q5
               try clear q51
               obtain ⟨x8_4,x9_4,rfl,rfl,HA,HK4,HB⟩ := hrel
               cases gk with
               | zero => exact absurd HA.out (by simp [impl_termAt.l1])
               | succ k4 =>
                have H := HA.out
                clear HA
                simp only [impl_termAt.l1] at H
                by_cases c53 : x9_4 = true
                ·subst c53
                 have H1 : (if 0 ≤ (wrap64 (x8_4 + 1)) then (if (wrap64 (x8_4 + 1)) ≤ (a0.size : Int) then ((impl_termAt.f k4 (a0.extract ((wrap64 (x8_4 + 1)) : Int).toNat a0.size)).bind fun bt354 => (if bt354.1 = 0 then (some (0,0)) else (if (wrap64 (x8_4 + (wrap64 (1 + bt354.2)))) < (a0.size : Int) then (if 0 ≤ (wrap64 (x8_4 + (wrap64 (1 + bt354.2)))) then (impl_termAt.l1 k4 a0 (wrap64 (x8_4 + (wrap64 (1 + bt354.2)))) ((bt a0 (wrap64 (x8_4 + (wrap64 (1 + bt354.2))))) == 44)) else (none)) else (impl_termAt.l1 k4 a0 (wrap64 (x8_4 + (wrap64 (1 + bt354.2)))) false)))) else (none)) else (none)) = some (r1,r2) := by rw [if_pos rfl] at H; exact H
                 clear H
                 have H := H1
                 clear H1
                 obtain ⟨ji54,hji54⟩ : ∃ j_ : Int,(wrap64 (x8_4 + 1)) = j_ := ⟨_,rfl⟩
                 replace H : (if 0 ≤ (ji54) then (if (ji54) ≤ (a0.size : Int) then ((impl_termAt.f k4 (a0.extract ((ji54) : Int).toNat a0.size)).bind fun bt354 => (if bt354.1 = 0 then (some (0,0)) else (if (wrap64 (x8_4 + (wrap64 (1 + bt354.2)))) < (a0.size : Int) then (if 0 ≤ (wrap64 (x8_4 + (wrap64 (1 + bt354.2)))) then (impl_termAt.l1 k4 a0 (wrap64 (x8_4 + (wrap64 (1 + bt354.2)))) ((bt a0 (wrap64 (x8_4 + (wrap64 (1 + bt354.2))))) == 44)) else (none)) else (impl_termAt.l1 k4 a0 (wrap64 (x8_4 + (wrap64 (1 + bt354.2)))) false)))) else (none)) else (none)) = some (r1,r2) := by first | (rw [hji54] at H; exact H) | (simp only [hji54] at H ⊢; exact H)
                 have hji54w : (IntKind.i64.wrap (x8_4 + 1)) = ji54 := (y22 _).trans hji54
                 by_cases c55 : 0 ≤ (ji54)
                 ·rw [if_pos c55] at H
                  have c55b0 := eq_true c55
                  have c55b1 : decide (0 ≤ (ji54)) = true := decide_eq_true c55
                  clear c55
                  by_cases c56 : (ji54) ≤ (a0.size : Int)
                  ·rw [if_pos c56] at H
                   have c56b0 := eq_true c56
                   have c56b1 : decide ((ji54) ≤ (a0.size : Int)) = true := decide_eq_true c56
                   clear c56
                   replace H := Option.bind_eq_some_iff.mp H
                   obtain ⟨⟨t354,t355⟩,A570,H⟩ := H
                   replace H : (if t354 = 0 then (some (0,0)) else (if (wrap64 (x8_4 + (wrap64 (1 + t355)))) < (a0.size : Int) then (if 0 ≤ (wrap64 (x8_4 + (wrap64 (1 + t355)))) then (impl_termAt.l1 k4 a0 (wrap64 (x8_4 + (wrap64 (1 + t355)))) ((bt a0 (wrap64 (x8_4 + (wrap64 (1 + t355))))) == 44)) else (none)) else (impl_termAt.l1 k4 a0 (wrap64 (x8_4 + (wrap64 (1 + t355)))) false))) = some (r1,r2) := H
                   have A57 := y0.mk A570
                   clear A570
                   by_cases c58 : t354 = 0
                   ·rw [if_pos c58] at H
                    have c58b0 : (t354 == 0) = true := beq_iff_eq.mpr c58
                    have c58b1 : (t354 != 0) = false := bne_eq_false_iff_eq.mpr c58
                    clear c58
                    simp only [Option.some.injEq,Prod.mk.injEq] at H
                    obtain ⟨rfl,rfl⟩ := H
                    go_wp2_with (first | ((with_reducible refine y18 (f := 55) rfl ?_); refine y20 (some 106) rfl rfl Tryz.func55 (by kernel_rfl) rfl #[.string (a0.extract ((ji54) : Int).toNat a0.size)] rfl (by (try simp only [qM_,List.map_cons,List.map_nil]); first | done | (simp only [hji54]; rfl) | rfl | (simp only [qD_,qT_]; rfl)) ?_; (with_reducible refine (ih k4 (by have := HJ7.out; have := HJ38.out; have := HJ46.out; have := HK4.out; omega) (a0.extract ((ji54) : Int).toNat a0.size) t354 t355 _ ?side1 A57.out).mono ?_); (case side1 => exact Tb.below HT.out (by repeat (first | (with_reducible first | exact HB.out | apply y3 | apply y23 | apply y4) | exact HB.out))); rintro e w59 ⟨rfl,hb⟩; refine ⟨_,rfl, ?_⟩; have n0_ := y0.mk (y7 (by repeat (first | (with_reducible first | exact HB.out | apply y3 | apply y23 | apply y4) | exact HB.out)) hb); clear HB; have HB := n0_; clear n0_; (try clear hb); (try clear hb2); (try clear hk); (try clear hi)))
                    go_ret2
                    exact ⟨by first | rfl | (simp [y16,y17] <;> rfl) | (simp only [← hji54]; first | rfl | (simp [y16,y17] <;> rfl)) | (simp [*,y16,y17] <;> rfl),by repeat (first | (with_reducible first | exact HB.out | apply y3 | apply y23 | apply y4) | exact HB.out)⟩
                   ·rw [if_neg c58] at H
                    have c58b0 : (t354 == 0) = false := beq_eq_false_iff_ne.mpr c58
                    have c58b1 : (t354 != 0) = true := bne_iff_ne.mpr c58
                    by_cases c60 : (wrap64 (x8_4 + (wrap64 (1 + t355)))) < (a0.size : Int)
                    ·rw [if_pos c60] at H
                     have c60b0 : decide ((wrap64 (x8_4 + (wrap64 (1 + t355)))) < (a0.size : Int)) = true := decide_eq_true c60
                     clear c60
                     obtain ⟨ji61,hji61⟩ : ∃ j_ : Int,(wrap64 (x8_4 + (wrap64 (1 + t355)))) = j_ := ⟨_,rfl⟩
                     replace H : (if 0 ≤ (ji61) then (impl_termAt.l1 k4 a0 ji61 ((bt a0 (ji61)) == 44)) else (none)) = some (r1,r2) := by first | (rw [hji61] at H; exact H) | (simp only [hji61] at H ⊢; exact H)
                     (try rw [hji61] at c60b0)
                     (try rw [hji61] at A57)
                     have hji61w : (IntKind.i64.wrap (x8_4 + (wrap64 (1 + t355)))) = ji61 := (y22 _).trans hji61
                     by_cases c62 : 0 ≤ (ji61)
                     ·rw [if_pos c62] at H
                      have c62b0 : decide (0 ≤ (ji61)) = true := decide_eq_true c62
                      clear c62
                      have H' := y0.mk H
                      clear H
                      go_wp2_with (first | ((with_reducible refine y18 (f := 55) rfl ?_); refine y20 (some 106) rfl rfl Tryz.func55 (by kernel_rfl) rfl #[.string (a0.extract ((ji54) : Int).toNat a0.size)] rfl (by (try simp only [qM_,List.map_cons,List.map_nil]); first | done | (simp only [hji54]; rfl) | rfl | (simp only [qD_,qT_]; rfl)) ?_; (with_reducible refine (ih k4 (by have := HJ7.out; have := HJ38.out; have := HJ46.out; have := HK4.out; omega) (a0.extract ((ji54) : Int).toNat a0.size) t354 t355 _ ?side1 A57.out).mono ?_); (case side1 => exact Tb.below HT.out (by repeat (first | (with_reducible first | exact HB.out | apply y3 | apply y23 | apply y4) | exact HB.out))); rintro e w64 ⟨rfl,hb⟩; refine ⟨_,rfl, ?_⟩; have n0_ := y0.mk (y7 (by repeat (first | (with_reducible first | exact HB.out | apply y3 | apply y23 | apply y4) | exact HB.out)) hb); clear HB; have HB := n0_; clear n0_; (try clear hb); (try clear hb2); (try clear hk); (try clear hi); have p63 : 0 ≤ ((ji61) : Int) := of_decide_eq_true (by first | (with_reducible assumption) | assumption); have q63 : (ji61) < (a0.size : Int) := of_decide_eq_true (by first | (with_reducible assumption) | assumption); have hx63 := bt_at a0 (ji61); replace p63 := eq_true p63; replace q63 := eq_true q63))
                      go_roundg k4
                      case measure => have := HJ7.out; have := HJ38.out; have := HJ46.out; have := HK4.out; omega
                      case rel => exact ⟨(ji61),(((bt a0 (ji61)) == 44)),(by first | rfl | (simp; done) | (simp only [← hji61] <;> (first | rfl | simp)) | (simp [*]; done)),(by first | rfl | (simp; done) | (simp only [← hji61] <;> (first | rfl | simp)) | (simp [*]; done)),H',⟨by have := HJ7.out; have := HJ38.out; have := HJ46.out; have := HK4.out; omega⟩,⟨by repeat (first | (with_reducible first | exact HB.out | apply y3 | apply y23 | apply y4) | exact HB.out)⟩⟩
                     ·rw [if_neg c62] at H
                      exact absurd H (by simp)
                    ·rw [if_neg c60] at H
                     have c60b0 : decide ((wrap64 (x8_4 + (wrap64 (1 + t355)))) < (a0.size : Int)) = false := decide_eq_false c60
                     clear c60
                     have H' := y0.mk H
                     clear H
                     go_wp2_with (first | ((with_reducible refine y18 (f := 55) rfl ?_); refine y20 (some 106) rfl rfl Tryz.func55 (by kernel_rfl) rfl #[.string (a0.extract ((ji54) : Int).toNat a0.size)] rfl (by (try simp only [qM_,List.map_cons,List.map_nil]); first | done | (simp only [hji54]; rfl) | rfl | (simp only [qD_,qT_]; rfl)) ?_; (with_reducible refine (ih k4 (by have := HJ7.out; have := HJ38.out; have := HJ46.out; have := HK4.out; omega) (a0.extract ((ji54) : Int).toNat a0.size) t354 t355 _ ?side1 A57.out).mono ?_); (case side1 => exact Tb.below HT.out (by repeat (first | (with_reducible first | exact HB.out | apply y3 | apply y23 | apply y4) | exact HB.out))); rintro e w65 ⟨rfl,hb⟩; refine ⟨_,rfl, ?_⟩; have n0_ := y0.mk (y7 (by repeat (first | (with_reducible first | exact HB.out | apply y3 | apply y23 | apply y4) | exact HB.out)) hb); clear HB; have HB := n0_; clear n0_; (try clear hb); (try clear hb2); (try clear hk); (try clear hi)))
                     go_roundg k4
                     case measure => have := HJ7.out; have := HJ38.out; have := HJ46.out; have := HK4.out; omega
                     case rel => exact ⟨(wrap64 (x8_4 + (wrap64 (1 + t355)))),(false),(by first | rfl | (simp; done) | (simp [*]; done)),(by first | rfl | (simp; done) | (simp [*]; done)),H',⟨by have := HJ7.out; have := HJ38.out; have := HJ46.out; have := HK4.out; omega⟩,⟨by repeat (first | (with_reducible first | exact HB.out | apply y3 | apply y23 | apply y4) | exact HB.out)⟩⟩
                  ·rw [if_neg c56] at H
                   exact absurd H (by simp)
                 ·rw [if_neg c55] at H
                  exact absurd H (by simp)
                ·replace c53 := Bool.eq_false_iff.mpr c53
                 subst c53
                 have H1 : (if x8_4 < (a0.size : Int) then (if 0 ≤ x8_4 then (if (bt a0 x8_4) = 41 then (some (3,wrap64 (x8_4 + 1))) else (some (0,0))) else (none)) else (some (0,0))) = some (r1,r2) := by rw [if_neg (show ¬ (false = true) by decide)] at H; exact H
                 clear H
                 have H := H1
                 clear H1
                 by_cases c66 : x8_4 < (a0.size : Int)
                 ·rw [if_pos c66] at H
                  have c66b0 : decide (x8_4 < (a0.size : Int)) = true := decide_eq_true c66
                  clear c66
                  by_cases c67 : 0 ≤ x8_4
                  ·rw [if_pos c67] at H
                   have c67b0 : decide (0 ≤ x8_4) = true := decide_eq_true c67
                   clear c67
                   by_cases c69 : (bt a0 x8_4) = 41
                   ·rw [if_pos c69] at H
                    have c69b0 : ((bt a0 x8_4) == 41) = true := beq_iff_eq.mpr c69
                    have c69b1 : ((bt a0 x8_4) != 41) = false := bne_eq_false_iff_eq.mpr c69
                    clear c69
                    simp only [Option.some.injEq,Prod.mk.injEq] at H
                    obtain ⟨rfl,rfl⟩ := H
                    have p68 : 0 ≤ (x8_4 : Int) := of_decide_eq_true (by first | (with_reducible assumption) | assumption)
                    have q68 : x8_4 < (a0.size : Int) := of_decide_eq_true (by first | (with_reducible assumption) | assumption)
                    have hx68 := bt_at a0 x8_4
                    replace p68 := eq_true p68
                    replace q68 := eq_true q68
                    go_wp2
                    go_ret2
                    exact ⟨by first | rfl | (simp [y16,y17] <;> rfl) | (simp [*,y16,y17] <;> rfl),by repeat (first | (with_reducible first | exact HB.out | apply y3 | apply y23 | apply y4) | exact HB.out)⟩
                   ·rw [if_neg c69] at H
                    have c69b0 : ((bt a0 x8_4) == 41) = false := beq_eq_false_iff_ne.mpr c69
                    have c69b1 : ((bt a0 x8_4) != 41) = true := bne_iff_ne.mpr c69
                    simp only [Option.some.injEq,Prod.mk.injEq] at H
                    obtain ⟨rfl,rfl⟩ := H
                    have p68 : 0 ≤ (x8_4 : Int) := of_decide_eq_true (by first | (with_reducible assumption) | assumption)
                    have q68 : x8_4 < (a0.size : Int) := of_decide_eq_true (by first | (with_reducible assumption) | assumption)
                    have hx68 := bt_at a0 x8_4
                    replace p68 := eq_true p68
                    replace q68 := eq_true q68
                    go_wp2
                    go_ret2
                    exact ⟨by first | rfl | (simp [y16,y17] <;> rfl) | (simp [*,y16,y17] <;> rfl),by repeat (first | (with_reducible first | exact HB.out | apply y3 | apply y23 | apply y4) | exact HB.out)⟩
                  ·rw [if_neg c67] at H
                   exact absurd H (by simp)
                 ·rw [if_neg c66] at H
                  have c66b0 : decide (x8_4 < (a0.size : Int)) = false := decide_eq_false c66
                  clear c66
                  simp only [Option.some.injEq,Prod.mk.injEq] at H
                  obtain ⟨rfl,rfl⟩ := H
                  go_wp2
                  go_ret2
                  exact ⟨by first | rfl | (simp [y16,y17] <;> rfl) | (simp [*,y16,y17] <;> rfl),by repeat (first | (with_reducible first | exact HB.out | apply y3 | apply y23 | apply y4) | exact HB.out)⟩
         ·replace c44 := Bool.eq_false_iff.mpr c44
          subst c44
          have H1 : (some (0,0)) = some (r1,r2) := by rw [if_neg (show ¬ (false = true) by decide)] at H; exact H
          clear H
          have H := H1
          clear H1
          simp only [Option.some.injEq,Prod.mk.injEq] at H
          obtain ⟨rfl,rfl⟩ := H
          go_wp2
          go_ret2
          exact ⟨by first | rfl | (simp [y16,y17] <;> rfl) | (simp [*,y16,y17] <;> rfl),by repeat (first | (with_reducible first | exact HB.out | apply y3 | apply y23 | apply y4) | exact HB.out)⟩
  ·rw [if_neg c3] at H
   exact absurd H (by simp)
end Go.Proofs.YtamjmldfifofbaaGreatDoor.Pf
end
section
namespace Go.Proofs.YtamjmldfifofbaaGreatDoor.Pf
open Go.RowKit Go.Proofs.YtamjmldfifofbaaGreatDoorW.PrintWords Go.Proofs.YtamjmldfifofbaaGreatDoorW.PrintLast Go.Proofs.YtamjmldfifofbaaGreatDoorW.PrintMore
attribute [local go_sem] max2_int min2_int max_two min_two max_three min_three max_four min_four   -- for this text's walks alone
set_option linter.unusedVariables false
set_option linter.unusedSimpArgs false
def impl_kindOf.f (k : Nat) (a0 : ByteArray) : Option (Int) := (impl_termAt.f k a0).bind fun bt356 => (if (a0.size : Int) > 200 then (some 0) else (if bt356.2 = (a0.size : Int) then (some bt356.1) else (some 0)))
set_option maxHeartbeats 8000000 in
set_option maxRecDepth 100000 in
theorem impl_kindOf.calls (k : Nat) (a0 : ByteArray) (r : Int) (w : World) (hT : Tb w) (h : impl_kindOf.f k a0 = some r) :
  Calls Tryz.prog 38 #[.string a0] w fun e w' => e = .returned (.int .i64 r) ∧ Below w.heap.size w w' := by
 have HT := y0.mk hT
 clear hT
 have HB := y0.mk (Below.refl w.heap.size w)
 have H : ((impl_termAt.f k a0).bind fun bt356 => (if (a0.size : Int) > 200 then (some 0) else (if bt356.2 = (a0.size : Int) then (some bt356.1) else (some 0)))) = some r := h
 clear h
 replace H := Option.bind_eq_some_iff.mp H
 obtain ⟨⟨t356,t357⟩,A20,H⟩ := H
 replace H : (if (a0.size : Int) > 200 then (some 0) else (if t357 = (a0.size : Int) then (some t356) else (some 0))) = some r := H
 have A2 := y0.mk A20
 clear A20
 by_cases c3 : (a0.size : Int) > 200
 ·rw [if_pos c3] at H
  have c3b0 : decide (200 < (a0.size : Int)) = true := decide_eq_true c3
  have c3b1 : decide (200 < a0.size) = true := decide_eq_true (by omega)
  clear c3
  obtain rfl := Option.some.inj H
  go_enter Tryz.func38,Tryz.ntmps38
  go_wp2_with (first | ((with_reducible refine y18 (f := 55) rfl ?_); refine y20 (some 7) rfl rfl Tryz.func55 (by kernel_rfl) rfl #[.string a0] rfl (by (try simp only [qM_,List.map_cons,List.map_nil]); first | done | rfl | (simp only [qD_,qT_]; rfl)) ?_; (with_reducible refine (impl_termAt.calls k a0 t356 t357 _ ?side1 A2.out).mono ?_); (case side1 => exact Tb.below HT.out (by repeat (first | (with_reducible first | exact HB.out | apply y3 | apply y23 | apply y4) | exact HB.out))); rintro e w4 ⟨rfl,hb⟩; refine ⟨_,rfl, ?_⟩; have n0_ := y0.mk (y7 (by repeat (first | (with_reducible first | exact HB.out | apply y3 | apply y23 | apply y4) | exact HB.out)) hb); clear HB; have HB := n0_; clear n0_; (try clear hb); (try clear hb2); (try clear hk); (try clear hi)))
  go_ret
  exact ⟨by first | rfl | (simp [y16,y17] <;> rfl) | (simp [*,y16,y17] <;> rfl),by repeat (first | (with_reducible first | exact HB.out | apply y3 | apply y23 | apply y4) | exact HB.out)⟩
 ·rw [if_neg c3] at H
  have c3b0 : decide (200 < (a0.size : Int)) = false := decide_eq_false c3
  have c3b1 : decide (200 < a0.size) = false := decide_eq_false (by omega)
  clear c3
  by_cases c5 : t357 = (a0.size : Int)
  ·rw [if_pos c5] at H
   have c5b0 : (t357 == (a0.size : Int)) = true := beq_iff_eq.mpr c5
   have c5b1 : (t357 != (a0.size : Int)) = false := bne_eq_false_iff_eq.mpr c5
   clear c5
   obtain rfl := Option.some.inj H
   go_enter Tryz.func38,Tryz.ntmps38
   go_wp2_with (first | ((with_reducible refine y18 (f := 55) rfl ?_); refine y20 (some 7) rfl rfl Tryz.func55 (by kernel_rfl) rfl #[.string a0] rfl (by (try simp only [qM_,List.map_cons,List.map_nil]); first | done | rfl | (simp only [qD_,qT_]; rfl)) ?_; (with_reducible refine (impl_termAt.calls k a0 t356 t357 _ ?side1 A2.out).mono ?_); (case side1 => exact Tb.below HT.out (by repeat (first | (with_reducible first | exact HB.out | apply y3 | apply y23 | apply y4) | exact HB.out))); rintro e w6 ⟨rfl,hb⟩; refine ⟨_,rfl, ?_⟩; have n0_ := y0.mk (y7 (by repeat (first | (with_reducible first | exact HB.out | apply y3 | apply y23 | apply y4) | exact HB.out)) hb); clear HB; have HB := n0_; clear n0_; (try clear hb); (try clear hb2); (try clear hk); (try clear hi)))
   go_ret
   exact ⟨by first | rfl | (simp [y16,y17] <;> rfl) | (simp [*,y16,y17] <;> rfl),by repeat (first | (with_reducible first | exact HB.out | apply y3 | apply y23 | apply y4) | exact HB.out)⟩
  ·rw [if_neg c5] at H
   have c5b0 : (t357 == (a0.size : Int)) = false := beq_eq_false_iff_ne.mpr c5
   have c5b1 : (t357 != (a0.size : Int)) = true := bne_iff_ne.mpr c5
   obtain rfl := Option.some.inj H
   go_enter Tryz.func38,Tryz.ntmps38
   go_wp2_with (first | ((with_reducible refine y18 (f := 55) rfl ?_); refine y20 (some 7) rfl rfl Tryz.func55 (by kernel_rfl) rfl #[.string a0] rfl (by (try simp only [qM_,List.map_cons,List.map_nil]); first | done | rfl | (simp only [qD_,qT_]; rfl)) ?_; (with_reducible refine (impl_termAt.calls k a0 t356 t357 _ ?side1 A2.out).mono ?_); (case side1 => exact Tb.below HT.out (by repeat (first | (with_reducible first | exact HB.out | apply y3 | apply y23 | apply y4) | exact HB.out))); rintro e w7 ⟨rfl,hb⟩; refine ⟨_,rfl, ?_⟩; have n0_ := y0.mk (y7 (by repeat (first | (with_reducible first | exact HB.out | apply y3 | apply y23 | apply y4) | exact HB.out)) hb); clear HB; have HB := n0_; clear n0_; (try clear hb); (try clear hb2); (try clear hk); (try clear hi)))
   go_ret
   exact ⟨by first | rfl | (simp [y16,y17] <;> rfl) | (simp [*,y16,y17] <;> rfl),by repeat (first | (with_reducible first | exact HB.out | apply y3 | apply y23 | apply y4) | exact HB.out)⟩
def impl_isTuple_1.f (k : Nat) (a0 : ByteArray) : Option (Bool) := (impl_kindOf.f k a0).bind fun t358 => (some (t358 == 0))
set_option maxHeartbeats 8000000 in
set_option maxRecDepth 100000 in
theorem impl_isTuple_1.calls (k : Nat) (a0 : ByteArray) (r : Bool) (w : World) (hT : Tb w) (h : impl_isTuple_1.f k a0 = some r) :
  Calls Tryz.prog 37 #[.string a0] w fun e w' => e = .returned (.bool r) ∧ Below w.heap.size w w' := by
 have HT := y0.mk hT
 clear hT
 have HB := y0.mk (Below.refl w.heap.size w)
 have H : ((impl_kindOf.f k a0).bind fun t358 => (some (t358 == 0))) = some r := h
 clear h
 replace H := Option.bind_eq_some_iff.mp H
 obtain ⟨t358,A20,H⟩ := H
 replace H : (some (t358 == 0)) = some r := H
 have A2 := y0.mk A20
 clear A20
 obtain rfl := Option.some.inj H
 go_enter Tryz.func37,Tryz.ntmps37
 go_wp2_with (first | ((with_reducible refine y18 (f := 38) rfl ?_); refine y20 (some 4) rfl rfl Tryz.func38 (by kernel_rfl) rfl #[.string a0] rfl (by (try simp only [qM_,List.map_cons,List.map_nil]); first | done | rfl | (simp only [qD_,qT_]; rfl)) ?_; (with_reducible refine (impl_kindOf.calls k a0 t358 _ ?side1 A2.out).mono ?_); (case side1 => exact Tb.below HT.out (by repeat (first | (with_reducible first | exact HB.out | apply y3 | apply y23 | apply y4) | exact HB.out))); rintro e w3 ⟨rfl,hb⟩; refine ⟨_,rfl, ?_⟩; have n0_ := y0.mk (y7 (by repeat (first | (with_reducible first | exact HB.out | apply y3 | apply y23 | apply y4) | exact HB.out)) hb); clear HB; have HB := n0_; clear n0_; (try clear hb); (try clear hb2); (try clear hk); (try clear hi)))
 go_ret
 exact ⟨by first | rfl | (simp [y16,y17] <;> rfl) | (simp [*,y16,y17] <;> rfl),by repeat (first | (with_reducible first | exact HB.out | apply y3 | apply y23 | apply y4) | exact HB.out)⟩
def z0_.l0 : Nat → List ByteArray → Int → Int → Option (Int)
 | 0,_,_,_ => none
 | k + 1,x0,x7,x8 => if x8 < x7 then (if 0 ≤ x8 then (if x8 < (x0.length : Int) then ((impl_isTuple_1.f k (rdOf ByteArray.empty x0 x8)).bind fun t360 => (if t360 = true then (some x8) else (z0_.l0 k x0 x7 (wrap64 (x8 + 1))))) else (none)) else (none)) else (some (-1))
def z0_.f (k : Nat) (l0 : List ByteArray)  : Option (Int) := z0_.l0 k l0 (l0.length : Int) 0
set_option maxHeartbeats 8000000 in
set_option maxRecDepth 100000 in
theorem z0_.calls (k : Nat) (A0 : Option Addr) (c0 : Nat) (l0 : List ByteArray)  (r : Int) (w : World) (hr0 : Kd.C Kd.string w A0 l0.length l0) (hc0 : l0.length ≤ c0) (hT : Tb w) (h : z0_.f k l0 = some r) :
  Calls Tryz.prog 54 #[.slice A0 l0.length c0,.func (.func 37) #[] #[]] w fun e w' => e = .returned (.int .i64 r) ∧ Below w.heap.size w w' := by
 have HT := y0.mk hT
 clear hT
 have HR0 := y0.mk hr0
 have HC0 := y0.mk hc0
 clear hr0 hc0
 have HB := y0.mk (Below.refl w.heap.size w)
 have H : (z0_.l0 k l0 (l0.length : Int) 0) = some r := h
 clear h
 have H' := y0.mk H
 clear H
 go_enter Tryz.func54,Tryz.ntmps54
 go_wp2
 go_loopg [8] k (fun kq v8 w' => ∃ (x8_1 : Int),v8 = .int .i64 x8_1 ∧ y0 (z0_.l0 kq l0 (l0.length : Int) x8_1 = some r) ∧ y0 (kq ≤ k) ∧ y0 (Below w.heap.size w w'))
 case atStart => exact ⟨(0),(by first | rfl | (simp; done) | (simp [*]; done)),H',⟨Nat.le_refl _⟩,⟨by repeat (first | (with_reducible first | exact HB.out | apply y3 | apply y23 | apply y4) | exact HB.out)⟩⟩
 case round =>
  clear H'
  try clear p2
  obtain ⟨x8_1,rfl,HA,HK1,HB⟩ := hrel
  cases gk with
  | zero => exact absurd HA.out (by simp [z0_.l0])
  | succ k1 =>
   have H := HA.out
   clear HA
   simp only [z0_.l0] at H
   by_cases c3 : x8_1 < (l0.length : Int)
   ·rw [if_pos c3] at H
    have c3b0 : decide (x8_1 < (l0.length : Int)) = true := decide_eq_true c3
    clear c3
    by_cases c4 : 0 ≤ x8_1
    ·rw [if_pos c4] at H
     have c4b0 : decide (0 ≤ x8_1) = true := decide_eq_true c4
     clear c4
     by_cases c5 : x8_1 < (l0.length : Int)
     ·rw [if_pos c5] at H
      have c5b0 : decide (x8_1 < (l0.length : Int)) = true := decide_eq_true c5
      clear c5
      replace H := Option.bind_eq_some_iff.mp H
      obtain ⟨t360,A60,H⟩ := H
      replace H : (if t360 = true then (some x8_1) else (z0_.l0 k1 l0 (l0.length : Int) (wrap64 (x8_1 + 1)))) = some r := H
      have A6 := y0.mk A60
      clear A60
      by_cases c7 : t360 = true
      ·subst c7
       have H1 : (some x8_1) = some r := by rw [if_pos rfl] at H; exact H
       clear H
       have H := H1
       clear H1
       obtain rfl := Option.some.inj H
       have p359 : 0 ≤ (x8_1 : Int) := of_decide_eq_true (by first | (with_reducible assumption) | assumption)
       have q359 : x8_1 < (l0.length : Int) := of_decide_eq_true (by first | (with_reducible assumption) | assumption)
       obtain ⟨ad359,e359,hx359_0⟩ := Kd.at_string HR0.out x8_1 p359 q359
       cases e359
       replace hx359_0 := (HB.out.cell (World.block_lt_of_cell? w _ hx359_0)).trans hx359_0
       replace p359 := eq_true p359
       replace q359 := eq_true q359
       go_wp2_with (first | (go_at_call 37; (with_reducible refine (impl_isTuple_1.calls k1 (rdOf ByteArray.empty l0 x8_1) true _ ?side1 A6.out).mono ?_); (case side1 => exact Tb.below HT.out (by repeat (first | (with_reducible first | exact HB.out | apply y3 | apply y23 | apply y4) | exact HB.out))); rintro e w8 ⟨rfl,hb⟩; have n0_ := y0.mk (y7 (by repeat (first | (with_reducible first | exact HB.out | apply y3 | apply y23 | apply y4) | exact HB.out)) hb); clear HB; have HB := n0_; clear n0_; (try clear hb); (try clear hb2); (try clear hk); (try clear hi)))
       go_ret
       exact ⟨by first | rfl | (simp [y16,y17] <;> rfl) | (simp [*,y16,y17] <;> rfl),by repeat (first | (with_reducible first | exact HB.out | apply y3 | apply y23 | apply y4) | exact HB.out)⟩
      ·replace c7 := Bool.eq_false_iff.mpr c7
       subst c7
       have H1 : (z0_.l0 k1 l0 (l0.length : Int) (wrap64 (x8_1 + 1))) = some r := by rw [if_neg (show ¬ (false = true) by decide)] at H; exact H
       clear H
       have H := H1
       clear H1
       have H' := y0.mk H
       clear H
       have p359 : 0 ≤ (x8_1 : Int) := of_decide_eq_true (by first | (with_reducible assumption) | assumption)
       have q359 : x8_1 < (l0.length : Int) := of_decide_eq_true (by first | (with_reducible assumption) | assumption)
       obtain ⟨ad359,e359,hx359_0⟩ := Kd.at_string HR0.out x8_1 p359 q359
       cases e359
       replace hx359_0 := (HB.out.cell (World.block_lt_of_cell? w _ hx359_0)).trans hx359_0
       replace p359 := eq_true p359
       replace q359 := eq_true q359
       go_wp2_with (first | (go_at_call 37; (with_reducible refine (impl_isTuple_1.calls k1 (rdOf ByteArray.empty l0 x8_1) false _ ?side1 A6.out).mono ?_); (case side1 => exact Tb.below HT.out (by repeat (first | (with_reducible first | exact HB.out | apply y3 | apply y23 | apply y4) | exact HB.out))); rintro e w9 ⟨rfl,hb⟩; have n0_ := y0.mk (y7 (by repeat (first | (with_reducible first | exact HB.out | apply y3 | apply y23 | apply y4) | exact HB.out)) hb); clear HB; have HB := n0_; clear n0_; (try clear hb); (try clear hb2); (try clear hk); (try clear hi)))
       go_roundg k1
       case measure => have := HK1.out; omega
       case rel => exact ⟨(wrap64 (x8_1 + 1)),(by first | rfl | (simp; done) | (simp [*]; done)),H',⟨by have := HK1.out; omega⟩,⟨by repeat (first | (with_reducible first | exact HB.out | apply y3 | apply y23 | apply y4) | exact HB.out)⟩⟩
     ·rw [if_neg c5] at H
      exact absurd H (by simp)
    ·rw [if_neg c4] at H
     exact absurd H (by simp)
   ·rw [if_neg c3] at H
    have c3b0 : decide (x8_1 < (l0.length : Int)) = false := decide_eq_false c3
    clear c3
    obtain rfl := Option.some.inj H
    go_wp2
    go_ret
    exact ⟨by first | rfl | (simp [y16,y17] <;> rfl) | (simp [*,y16,y17] <;> rfl),by repeat (first | (with_reducible first | exact HB.out | apply y3 | apply y23 | apply y4) | exact HB.out)⟩
def slices_ContainsFunc_string_string_impl_isTuple_1.f (k : Nat) (l0 : List ByteArray)  : Option (Bool) := (z0_.f k l0).bind fun t361 => (some (decide (t361 ≥ 0)))
set_option maxHeartbeats 8000000 in
set_option maxRecDepth 100000 in
theorem slices_ContainsFunc_string_string_impl_isTuple_1.calls (k : Nat) (A0 : Option Addr) (c0 : Nat) (l0 : List ByteArray)  (r : Bool) (w : World) (hr0 : Kd.C Kd.string w A0 l0.length l0) (hc0 : l0.length ≤ c0) (hT : Tb w) (h : slices_ContainsFunc_string_string_impl_isTuple_1.f k l0 = some r) :
  Calls Tryz.prog 36 #[.slice A0 l0.length c0,.func (.func 37) #[] #[]] w fun e w' => e = .returned (.bool r) ∧ Below w.heap.size w w' := by
 have HT := y0.mk hT
 clear hT
 have HR0 := y0.mk hr0
 have HC0 := y0.mk hc0
 clear hr0 hc0
 have HB := y0.mk (Below.refl w.heap.size w)
 have H : ((z0_.f k l0).bind fun t361 => (some (decide (t361 ≥ 0)))) = some r := h
 clear h
 replace H := Option.bind_eq_some_iff.mp H
 obtain ⟨t361,A30,H⟩ := H
 replace H : (some (decide (t361 ≥ 0))) = some r := H
 have A3 := y0.mk A30
 clear A30
 obtain rfl := Option.some.inj H
 go_enter Tryz.func36,Tryz.ntmps36
 go_wp2_with (first | ((with_reducible refine y18 (f := 54) rfl ?_); refine y20 (some 7) rfl rfl Tryz.func54 (by kernel_rfl) rfl #[.slice A0 l0.length c0,.func (.func 37) #[] #[]] rfl (by (try simp only [qM_,List.map_cons,List.map_nil]); first | done | rfl | (simp only [qD_,qT_]; rfl)) ?_; (with_reducible refine (z0_.calls k _ _ l0  t361 _ ?side1 ?side2 ?side3 A3.out).mono ?_); (case side1 => repeat (first | exact HR0.out | (with_reducible refine Kd.C_alloc ?_ _) | (with_reducible refine Kd.C_drewN ?_ _) | (with_reducible refine Kd.C_drew ?_))); (case side2 => exact HC0.out); (case side3 => exact Tb.below HT.out (by repeat (first | (with_reducible first | exact HB.out | apply y3 | apply y23 | apply y4) | exact HB.out))); rintro e w4 ⟨rfl,hb⟩; refine ⟨_,rfl, ?_⟩; have n0_ := y0.mk (y7 (by repeat (first | (with_reducible first | exact HB.out | apply y3 | apply y23 | apply y4) | exact HB.out)) hb); clear HB; have HB := n0_; clear n0_; (try clear hb); (try clear hb2); (try clear hk); (try clear hi)))
 go_ret
 exact ⟨by first | rfl | (simp [y16,y17] <;> rfl) | (simp [*,y16,y17] <;> rfl),by repeat (first | (with_reducible first | exact HB.out | apply y3 | apply y23 | apply y4) | exact HB.out)⟩
def impl_isTuple.f (k : Nat) (l0_0 : List ByteArray) : Option (Bool) := if (l0_0.length : Int) ≤ 6 then ((slices_ContainsFunc_string_string_impl_isTuple_1.f k l0_0).bind fun t363 => (some (!t363))) else (some false)
set_option maxHeartbeats 8000000 in
set_option maxRecDepth 100000 in
theorem impl_isTuple.calls (k : Nat) (A0_0 : Option Addr) (c0_0 : Nat) (l0_0 : List ByteArray) (r : Bool) (w : World) (hr0_0 : Kd.C Kd.string w A0_0 l0_0.length l0_0) (hc0_0 : l0_0.length ≤ c0_0) (hT : Tb w) (h : impl_isTuple.f k l0_0 = some r) :
  Calls Tryz.prog 23 #[.agg #[.slice A0_0 l0_0.length c0_0]] w fun e w' => e = .returned (.bool r) ∧ Below w.heap.size w w' := by
 have hu39 := Tryz.underlying39
 have HT := y0.mk hT
 clear hT
 have HR0_0 := y0.mk hr0_0
 have HC0_0 := y0.mk hc0_0
 clear hr0_0 hc0_0
 have HB := y0.mk (Below.refl w.heap.size w)
 have H : (if (l0_0.length : Int) ≤ 6 then ((slices_ContainsFunc_string_string_impl_isTuple_1.f k l0_0).bind fun t363 => (some (!t363))) else (some false)) = some r := h
 clear h
 by_cases c2 : (l0_0.length : Int) ≤ 6
 ·rw [if_pos c2] at H
  have c2b0 : decide ((l0_0.length : Int) ≤ 6) = true := decide_eq_true c2
  have c2b1 : decide (l0_0.length ≤ 6) = true := decide_eq_true (by omega)
  clear c2
  replace H := Option.bind_eq_some_iff.mp H
  obtain ⟨t363,A30,H⟩ := H
  replace H : (some (!t363)) = some r := H
  have A3 := y0.mk A30
  clear A30
  obtain rfl := Option.some.inj H
  go_enter Tryz.func23,Tryz.ntmps23
  go_wp2_with (first | ((with_reducible refine y19 (N := 1) rfl ?_); refine y15 ?hg (N := 1) ?hd (cs := #[.slice A0_0 l0_0.length c0_0]) (t := 39) ?hr ?_; (case hd => rfl); (case hg => rfl); (case hr => first | (go_simp; done) | (go_simp; rfl)); intro gb362 hg w4 hbox hb; have n0_ := y0.mk (y7 (by repeat (first | (with_reducible first | exact HB.out | apply y3 | apply y23 | apply y4) | exact HB.out)) hb); have n1_ := y0.mk (hbox); have n2_ := y0.mk ((by rw [hg]; exact (y6 (by repeat (first | (with_reducible first | exact HB.out | apply y3 | apply y23 | apply y4) | exact HB.out))) : w.heap.size ≤ gb362)); have n3_ := y0.mk ((by rw [hg]; exact (y6 (by repeat (first | (with_reducible first | exact HB.out | apply y3 | apply y23 | apply y4) | exact HB.out))) : w.heap.size ≤ gb362)); clear HB; have HB := n0_; have BK362 := n1_; have GW362 := n2_; have GE362 := n3_; clear n0_ n1_ n2_ n3_; clear hb hbox hg; have hcz5_0 : w4.cell? ⟨gb362,0,none⟩ = some (.slice A0_0 l0_0.length c0_0) := (y10 BK362.out 0).trans rfl; have hfz5_0 := y13 BK362.out 0) | (go_at_call 36; (with_reducible refine (slices_ContainsFunc_string_string_impl_isTuple_1.calls k _ _ l0_0  t363 _ ?side1 ?side2 ?side3 A3.out).mono ?_); (case side1 => repeat (first | exact (Kd.C_below HR0_0.out HB.out) | (with_reducible refine Kd.C_alloc ?_ _) | (with_reducible refine Kd.C_drewN ?_ _) | (with_reducible refine Kd.C_drew ?_))); (case side2 => exact HC0_0.out); (case side3 => exact Tb.below HT.out (by repeat (first | (with_reducible first | exact HB.out | apply y3 | apply y23 | apply y4 | refine y5 ?_ GE362.out) | exact HB.out))); rintro e w6 ⟨rfl,hb⟩; have n0_ := y0.mk (y9 (g := gb362) (o := .cells #[.slice A0_0 l0_0.length c0_0] 39 (0,0)) (by (with_reducible repeat (first | refine y12 ?_ _ | refine y11 ?_ | refine y8 ?_ _)); exact BK362.out) hb); have n1_ := y0.mk (y7 (by repeat (first | (with_reducible first | exact HB.out | apply y3 | apply y23 | apply y4 | refine y5 ?_ GE362.out) | exact HB.out)) hb); clear BK362; clear HB; have BK362 := n0_; have HB := n1_; clear n0_ n1_; (try clear hb); (try clear hb2); (try clear hk); (try clear hi)))
  go_ret
  exact ⟨by first | rfl | (simp [y16,y17] <;> rfl) | (simp [*,y16,y17] <;> rfl),by repeat (first | (with_reducible first | exact HB.out | apply y3 | apply y23 | apply y4 | refine y5 ?_ GE362.out) | exact HB.out)⟩
 ·rw [if_neg c2] at H
  have c2b0 : decide ((l0_0.length : Int) ≤ 6) = false := decide_eq_false c2
  have c2b1 : decide (l0_0.length ≤ 6) = false := decide_eq_false (by omega)
  clear c2
  obtain rfl := Option.some.inj H
  go_enter Tryz.func23,Tryz.ntmps23
  go_wp2_with (first | ((with_reducible refine y19 (N := 1) rfl ?_); refine y15 ?hg (N := 1) ?hd (cs := #[.slice A0_0 l0_0.length c0_0]) (t := 39) ?hr ?_; (case hd => rfl); (case hg => rfl); (case hr => first | (go_simp; done) | (go_simp; rfl)); intro gb362 hg w7 hbox hb; have n0_ := y0.mk (y7 (by repeat (first | (with_reducible first | exact HB.out | apply y3 | apply y23 | apply y4) | exact HB.out)) hb); have n1_ := y0.mk (hbox); have n2_ := y0.mk ((by rw [hg]; exact (y6 (by repeat (first | (with_reducible first | exact HB.out | apply y3 | apply y23 | apply y4) | exact HB.out))) : w.heap.size ≤ gb362)); have n3_ := y0.mk ((by rw [hg]; exact (y6 (by repeat (first | (with_reducible first | exact HB.out | apply y3 | apply y23 | apply y4) | exact HB.out))) : w.heap.size ≤ gb362)); clear HB; have HB := n0_; have BK362 := n1_; have GW362 := n2_; have GE362 := n3_; clear n0_ n1_ n2_ n3_; clear hb hbox hg; have hcz8_0 : w7.cell? ⟨gb362,0,none⟩ = some (.slice A0_0 l0_0.length c0_0) := (y10 BK362.out 0).trans rfl; have hfz8_0 := y13 BK362.out 0))
  go_ret
  exact ⟨by first | rfl | (simp [y16,y17] <;> rfl) | (simp [*,y16,y17] <;> rfl),by repeat (first | (with_reducible first | exact HB.out | apply y3 | apply y23 | apply y4 | refine y5 ?_ GE362.out) | exact HB.out)⟩
/-- strings.Join: a text within the model's room. -/
def strings_Join.f (l0 : List ByteArray) (a1 : ByteArray) : Option ByteArray := if (Lib.join (l0.map (·.data.toList)) a1.data.toList).length ≤ 140737488355328 then if l0.length ≤ 140737488355328 then some ⟨(Lib.join (l0.map (·.data.toList)) a1.data.toList).toArray⟩ else none else none
theorem strings_Join.calls (A0 : Option Addr) (c0 : Nat) (l0 : List ByteArray) (a1 : ByteArray) (r : ByteArray) (w : World) (hr0 : Kd.C Kd.string w A0 l0.length l0) (hc0 : l0.length ≤ c0) (h : strings_Join.f l0 a1 = some r) :
  Calls Tryz.prog 39 #[.slice A0 l0.length c0,.string a1] w fun e w' => e = .returned (.string r) ∧ Below w.heap.size w w' := by
 unfold strings_Join.f at h
 by_cases h0 : (Lib.join (l0.map (·.data.toList)) a1.data.toList).length ≤ 140737488355328
 ·by_cases h1 : l0.length ≤ 140737488355328
  ·rw [if_pos h0,if_pos h1] at h
   obtain rfl := Option.some.inj h
   cases l0 with
   | nil =>
    refine (Tryz.strings_Join_none A0 c0 a1 w).mono ?_
    rintro e w' ⟨rfl,rfl⟩
    exact ⟨rfl,Below.refl _ _⟩
   | cons x xs =>
    obtain ⟨⟨b,o,p⟩,rfl,hx⟩ := hr0.2.2 (by simp)
    have hcell : ∀ (j : Nat) y,(x :: xs)[j]? = some y → w.cell? ((⟨b,o,p⟩ : Addr).add j) = some (.string y) := by
     intro j y hy
     obtain ⟨c,hl,hK,hc⟩ := hx j y hy
     have e : c = [.string y] := hK
     have := hc 0 (.string y) (by rw [e]; rfl)
     simpa [Kd.string,Kd.scalar] using this
    have hp : p = none := by
     have h00 := hcell 0 x rfl
     cases p with
     | none => rfl
     | some q =>
      simp only [World.cell?,Addr.add] at h00
      split at h00 <;> simp at h00
    subst hp
    have hcell2 : ∀ (j : Nat) y,(x :: xs)[j]? = some y → w.cell? ⟨b,o + j,none⟩ = some (.string y) := by
     intro j y hy
     have := hcell j y hy
     have e : (⟨b,o,none⟩ : Addr).add j = ⟨b,o + j,none⟩ := by
      unfold Addr.add
      split <;> simp_all
     rwa [e] at this
    exact Tryz.strings_Join b o c0 (x :: xs) a1 w hcell2 (World.block_lt_of_cell? w _ (hcell2 0 x rfl)) h1 hc0 h0
  ·rw [if_pos h0,if_neg h1] at h
   cases h
 ·rw [if_neg h0] at h
  cases h
def impl_factText.f (l0_0 : List (S77)) (l0_1 : List (S51)) (l0_2 : List (S84)) (a1 : Int) (l2_0 : List ByteArray) : Option (ByteArray) := if 0 ≤ a1 then (if a1 < (l0_1.length : Int) then (if ((rd_T51 l0_1 a1).f0).size + 1 ≤ 9223372036854775807 then ((strings_Join.f l2_0 (⟨#[44,32]⟩ : ByteArray)).bind fun t367 => (if (((rd_T51 l0_1 a1).f0) ++ (⟨#[40]⟩ : ByteArray)).size + t367.size ≤ 9223372036854775807 then (if ((((rd_T51 l0_1 a1).f0) ++ (⟨#[40]⟩ : ByteArray)) ++ t367).size + 2 ≤ 9223372036854775807 then (some (((((rd_T51 l0_1 a1).f0) ++ (⟨#[40]⟩ : ByteArray)) ++ t367) ++ (⟨#[41,46]⟩ : ByteArray))) else (none)) else (none))) else (none)) else (none)) else (none)
def impl_factText.T1 : Bool × List (List Nat × List Nat) := (true,[([],[]),([0],[0]),([],[]),([1,2],[1,2]),([3],[3]),([4],[4]),([5],[5]),([],[]),([7],[7]),([8],[8]),([6,9],[6,9]),([10],[10]),([11,9,0,1,2,3,4,5,6,7,8,9,10,11],[11])])
def impl_factText.B1 : List Nat := [0,1,0,7,15,31,63,0,128,384,1023,2047,4095]
theorem impl_factText.tab1 : rtab .any (opsOf Tryz.f24 1) = impl_factText.T1 := by kernel_rfl
theorem impl_factText.bits1 : waitsOk impl_factText.T1.2 impl_factText.B1 = true := by kernel_rfl
set_option maxHeartbeats 8000000 in
set_option maxRecDepth 100000 in
theorem impl_factText.calls (A0_0 : Option Addr) (c0_0 : Nat) (l0_0 : List (S77)) (A0_1 : Option Addr) (c0_1 : Nat) (l0_1 : List (S51)) (A0_2 : Option Addr) (c0_2 : Nat) (l0_2 : List (S84)) (a1 : Int) (A2_0 : Option Addr) (c2_0 : Nat) (l2_0 : List ByteArray) (r : ByteArray) (w : World) (hr0_0 : Kd.C k77 w A0_0 l0_0.length l0_0) (hc0_0 : l0_0.length ≤ c0_0) (hr0_1 : Kd.C k51 w A0_1 l0_1.length l0_1) (hc0_1 : l0_1.length ≤ c0_1) (hr0_2 : Kd.C k84 w A0_2 l0_2.length l0_2) (hc0_2 : l0_2.length ≤ c0_2) (hr2_0 : Kd.C Kd.string w A2_0 l2_0.length l2_0) (hc2_0 : l2_0.length ≤ c2_0) (h : impl_factText.f l0_0 l0_1 l0_2 a1 l2_0 = some r) :
  Calls Tryz.prog 24 #[.agg #[.slice A0_0 l0_0.length c0_0,.slice A0_1 l0_1.length c0_1,.slice A0_2 l0_2.length c0_2],.int .i64 a1,.agg #[.slice A2_0 l2_0.length c2_0]] w fun e w' => e = .returned (.string r) ∧ Below w.heap.size w w' := by
 have hu37 := Tryz.underlying37
 have hu39 := Tryz.underlying39
 have HR0_0 := y0.mk hr0_0
 have HC0_0 := y0.mk hc0_0
 clear hr0_0 hc0_0
 have HR0_1 := y0.mk hr0_1
 have HC0_1 := y0.mk hc0_1
 clear hr0_1 hc0_1
 have HR0_2 := y0.mk hr0_2
 have HC0_2 := y0.mk hc0_2
 clear hr0_2 hc0_2
 have HR2_0 := y0.mk hr2_0
 have HC2_0 := y0.mk hc2_0
 clear hr2_0 hc2_0
 have HB := y0.mk (Below.refl w.heap.size w)
 have H : (if 0 ≤ a1 then (if a1 < (l0_1.length : Int) then (if ((rd_T51 l0_1 a1).f0).size + 1 ≤ 9223372036854775807 then ((strings_Join.f l2_0 (⟨#[44,32]⟩ : ByteArray)).bind fun t367 => (if (((rd_T51 l0_1 a1).f0) ++ (⟨#[40]⟩ : ByteArray)).size + t367.size ≤ 9223372036854775807 then (if ((((rd_T51 l0_1 a1).f0) ++ (⟨#[40]⟩ : ByteArray)) ++ t367).size + 2 ≤ 9223372036854775807 then (some (((((rd_T51 l0_1 a1).f0) ++ (⟨#[40]⟩ : ByteArray)) ++ t367) ++ (⟨#[41,46]⟩ : ByteArray))) else (none)) else (none))) else (none)) else (none)) else (none)) = some r := h
 clear h
 by_cases c4 : 0 ≤ a1
 ·rw [if_pos c4] at H
  have c4b0 : decide (0 ≤ a1) = true := decide_eq_true c4
  clear c4
  by_cases c5 : a1 < (l0_1.length : Int)
  ·rw [if_pos c5] at H
   have c5b0 : decide (a1 < (l0_1.length : Int)) = true := decide_eq_true c5
   clear c5
   by_cases c6 : ((rd_T51 l0_1 a1).f0).size + 1 ≤ 9223372036854775807
   ·rw [if_pos c6] at H
    have c6b0 := eq_true c6
    have c6b1 : decide (((rd_T51 l0_1 a1).f0).size + 1 ≤ 9223372036854775807) = true := decide_eq_true c6
    try have c6b2 : (9223372036854775807 < ((rd_T51 l0_1 a1).f0).size + 1) = False := eq_false (Nat.not_lt.2 c6)
    replace H := Option.bind_eq_some_iff.mp H
    obtain ⟨t367,A70,H⟩ := H
    replace H : (if (((rd_T51 l0_1 a1).f0) ++ (⟨#[40]⟩ : ByteArray)).size + t367.size ≤ 9223372036854775807 then (if ((((rd_T51 l0_1 a1).f0) ++ (⟨#[40]⟩ : ByteArray)) ++ t367).size + 2 ≤ 9223372036854775807 then (some (((((rd_T51 l0_1 a1).f0) ++ (⟨#[40]⟩ : ByteArray)) ++ t367) ++ (⟨#[41,46]⟩ : ByteArray))) else (none)) else (none)) = some r := H
    have A7 := y0.mk A70
    clear A70
    by_cases c8 : (((rd_T51 l0_1 a1).f0) ++ (⟨#[40]⟩ : ByteArray)).size + t367.size ≤ 9223372036854775807
    ·rw [if_pos c8] at H
     have c8b0 := eq_true c8
     have c8b1 : decide ((((rd_T51 l0_1 a1).f0) ++ (⟨#[40]⟩ : ByteArray)).size + t367.size ≤ 9223372036854775807) = true := decide_eq_true c8
     try have c8b2 : (9223372036854775807 < (((rd_T51 l0_1 a1).f0) ++ (⟨#[40]⟩ : ByteArray)).size + t367.size) = False := eq_false (Nat.not_lt.2 c8)
     try have c8b3 : (9223372036854775807 < ((rd_T51 l0_1 a1).f0).size + 1 + t367.size) = False := (congrArg (fun n_ => (9223372036854775807 < n_)) (show ((rd_T51 l0_1 a1).f0).size + 1 + t367.size = (((rd_T51 l0_1 a1).f0) ++ (⟨#[40]⟩ : ByteArray)).size + t367.size by (simp only [ByteArray.size_append]; try rfl))).trans c8b2
     by_cases c9 : ((((rd_T51 l0_1 a1).f0) ++ (⟨#[40]⟩ : ByteArray)) ++ t367).size + 2 ≤ 9223372036854775807
     ·rw [if_pos c9] at H
      have c9b0 := eq_true c9
      have c9b1 : decide (((((rd_T51 l0_1 a1).f0) ++ (⟨#[40]⟩ : ByteArray)) ++ t367).size + 2 ≤ 9223372036854775807) = true := decide_eq_true c9
      try have c9b2 : (9223372036854775807 < ((((rd_T51 l0_1 a1).f0) ++ (⟨#[40]⟩ : ByteArray)) ++ t367).size + 2) = False := eq_false (Nat.not_lt.2 c9)
      try have c9b3 : (9223372036854775807 < ((rd_T51 l0_1 a1).f0).size + 1 + t367.size + 2) = False := (congrArg (fun n_ => (9223372036854775807 < n_)) (show ((rd_T51 l0_1 a1).f0).size + 1 + t367.size + 2 = ((((rd_T51 l0_1 a1).f0) ++ (⟨#[40]⟩ : ByteArray)) ++ t367).size + 2 by (simp only [ByteArray.size_append]; try rfl))).trans c9b2
      obtain rfl := Option.some.inj H
      go_enter Tryz.func24,Tryz.ntmps24
      try go_wp2_with (first | ((with_reducible refine y19 (N := 3) rfl ?_); refine y15 ?hg (N := 3) ?hd (cs := #[.slice A0_0 l0_0.length c0_0,.slice A0_1 l0_1.length c0_1,.slice A0_2 l0_2.length c0_2]) (t := 37) ?hr ?_; (case hd => rfl); (case hg => rfl); (case hr => first | (go_simp; done) | (go_simp; rfl)); intro gb364 hg w10 hbox hb; have n0_ := y0.mk (y7 (by repeat (first | (with_reducible first | exact HB.out | apply y3 | apply y23 | apply y4) | exact HB.out)) hb); have n1_ := y0.mk (hbox); have n2_ := y0.mk ((by rw [hg]; exact (y6 (by repeat (first | (with_reducible first | exact HB.out | apply y3 | apply y23 | apply y4) | exact HB.out))) : w.heap.size ≤ gb364)); have n3_ := y0.mk ((by rw [hg]; exact (y6 (by repeat (first | (with_reducible first | exact HB.out | apply y3 | apply y23 | apply y4) | exact HB.out))) : w.heap.size ≤ gb364)); clear HB; have HB := n0_; have BK364 := n1_; have GW364 := n2_; have GE364 := n3_; clear n0_ n1_ n2_ n3_; clear hb hbox hg) | ((with_reducible refine y19 (N := 5) rfl ?_); refine y15 ?hg (N := 5) ?hd (cs := #[.slice A2_0 l2_0.length c2_0]) (t := 39) ?hr ?_; (case hd => rfl); (case hg => rfl); (case hr => first | (go_simp; done) | (go_simp; rfl)); intro gb365 hg w11 hbox hb; have n0_ := y0.mk (y9 (g := gb364) (o := .cells #[.slice A0_0 l0_0.length c0_0,.slice A0_1 l0_1.length c0_1,.slice A0_2 l0_2.length c0_2] 37 (0,0)) (by (with_reducible repeat (first | refine y12 ?_ _ | refine y11 ?_ | refine y8 ?_ _)); exact BK364.out) hb); have n1_ := y0.mk (y7 (by repeat (first | (with_reducible first | exact HB.out | apply y3 | apply y23 | apply y4 | refine y5 ?_ GE364.out) | exact HB.out)) hb); have n2_ := y0.mk (hbox); have n3_ := y0.mk ((by rw [hg]; exact (y6 (by repeat (first | (with_reducible first | exact HB.out | apply y3 | apply y23 | apply y4 | refine y5 ?_ GE364.out) | exact HB.out))) : w.heap.size ≤ gb365)); have n4_ := y0.mk ((by rw [hg]; exact (y6 (by repeat (first | (with_reducible first | exact HB.out | apply y3 | apply y23 | apply y4 | refine y5 ?_ GE364.out) | exact HB.out))) : w.heap.size ≤ gb365)); have n5_ := y0.mk ((by rw [hg]; exact Nat.ne_of_lt (y14 (g := gb364) (o := .cells #[.slice A0_0 l0_0.length c0_0,.slice A0_1 l0_1.length c0_1,.slice A0_2 l0_2.length c0_2] 37 (0,0)) (by (with_reducible repeat (first | refine y12 ?_ _ | refine y11 ?_ | refine y8 ?_ _)); exact BK364.out)) : gb364 ≠ gb365)); have n6_ := y0.mk ((by rw [hg]; exact Nat.ne_of_gt (y14 (g := gb364) (o := .cells #[.slice A0_0 l0_0.length c0_0,.slice A0_1 l0_1.length c0_1,.slice A0_2 l0_2.length c0_2] 37 (0,0)) (by (with_reducible repeat (first | refine y12 ?_ _ | refine y11 ?_ | refine y8 ?_ _)); exact BK364.out)) : gb365 ≠ gb364)); clear BK364; clear HB; have BK364 := n0_; have HB := n1_; have BK365 := n2_; have GW365 := n3_; have GE365 := n4_; have NB364_365 := n5_; have NB365_364 := n6_; clear n0_ n1_ n2_ n3_ n4_ n5_ n6_; clear hb hbox hg))
      have n0_ := y0.mk (y11 BK364.out)
      have n1_ := y0.mk (y11 BK365.out)
      have n2_ := y0.mk (y4 HB.out)
      clear BK364
      clear BK365
      clear HB
      have BK364 := n0_
      have BK365 := n1_
      have HB := n2_
      clear n0_ n1_ n2_
      have p366 : 0 ≤ (a1 : Int) := of_decide_eq_true (by first | (with_reducible assumption) | assumption)
      have q366 : a1 < (l0_1.length : Int) := of_decide_eq_true (by first | (with_reducible assumption) | assumption)
      obtain ⟨ad366,A366_1,c366_1,e366,hx366_0,hx366_1,hx366_2,hl366_1,hi366_1⟩ := at_T51 HR0_1.out a1 p366 q366
      have hw366_2 := hx366_2
      have hw366_1 := hx366_1
      have hw366_0 := hx366_0
      cases e366
      replace hx366_0 := (HB.out.cell (World.block_lt_of_cell? w _ hx366_0)).trans hx366_0
      replace hx366_1 := (HB.out.cell (World.block_lt_of_cell? w _ hx366_1)).trans hx366_1
      replace hx366_2 := (HB.out.cell (World.block_lt_of_cell? w _ hx366_2)).trans hx366_2
      have HR366_1 := y0.mk hi366_1
      have HC366_1 := y0.mk hl366_1
      clear hi366_1 hl366_1
      replace p366 := eq_true p366
      replace q366 := eq_true q366
      refine start_ (n := 13) (S := fun w' => w'.cell? ⟨gb364,0,none⟩ = some (.slice A0_0 l0_0.length c0_0) ∧ w'.cell? ⟨gb364,1,none⟩ = some (.slice (some ad366) l0_1.length c0_1) ∧ w'.cell? ⟨gb364,2,none⟩ = some (.slice A0_2 l0_2.length c0_2) ∧ w'.cell? ⟨gb365,0,none⟩ = some (.slice A2_0 l2_0.length c2_0) ∧ w'.cell? (ad366.add ((a1).toNat * 3)) = some (.string ((rd_T51 l0_1 a1).f0)) ∧ w'.cell? ⟨(ad366.add ((a1).toNat * 3)).block,(ad366.add ((a1).toNat * 3)).off + 1,none⟩ = some (.slice A366_1 ((rd_T51 l0_1 a1).f1).length c366_1) ∧ w'.cell? ⟨(ad366.add ((a1).toNat * 3)).block,(ad366.add ((a1).toNat * 3)).off + 2,none⟩ = some (.int .i64 ((rd_T51 l0_1 a1).f2))) (ds := []) (fl_ 13 0) (by kernel_rfl) rfl rfl ⟨(y10 BK364.out 0).trans rfl,(y10 BK364.out 1).trans rfl,(y10 BK364.out 2).trans rfl,(y10 BK365.out 0).trans rfl,((HB.out.cell (World.block_lt_of_cell? w _ hw366_0)).trans hw366_0),((HB.out.cell (World.block_lt_of_cell? w _ hw366_1)).trans hw366_1),((HB.out.cell (World.block_lt_of_cell? w _ hw366_2)).trans hw366_2)⟩ (fun hHeld => ?_); refine with_tabW impl_factText.tab1 impl_factText.bits1 (fun HT_ HW_ => ?_)
      generalize w11.drew = w12 at BK364 BK365 HB HR366_1 hx366_0 hx366_1 hx366_2 hHeld ⊢
      refine pure_ (i := 0) (N := some 7) (v := ?_) (a' := ?_) (fl_ 13 1) rfl rfl (y2 HT_.out (by kernel_rfl)) (fun _ _ _ h => h) (Or.inl ⟨by rfl, ?_⟩) ?_ ?_
      rotate_left
      ·intro w'
       go_simp
       with_reducible rfl
      rotate_left
      ·simp only [Act.put,qS_,qZ_,qC_,y22,y21]
       rfl
      refine pure_ (i := 2) (N := some 9) (v := ?_) (a' := ?_) (fl_ 13 5) rfl rfl (y2 HT_.out (by kernel_rfl)) (fun _ _ _ h => h) (Or.inl ⟨by rfl, ?_⟩) ?_ ?_
      rotate_left
      ·intro w'
       go_simp
       with_reducible rfl
      rotate_left
      ·simp only [Act.put,qS_,qZ_,qC_,y22,y21]
       rfl
      refine pure_ (i := 7) (N := some 14) (v := ?_) (a' := ?_) (fl_ 13 133) rfl rfl (y2 HT_.out (by kernel_rfl)) (fun _ _ _ h => h) (Or.inl ⟨by rfl, ?_⟩) ?_ ?_
      rotate_left
      ·intro w'
       go_simp
       with_reducible rfl
      rotate_left
      ·simp only [Act.put,qS_,qZ_,qC_,y22,y21]
       rfl
      refine take_ (i := 1) (N := some 8) (v := ?_) (a' := ?_) (fl_ 13 135) rfl rfl (take_ofW HT_.out HW_.out (by kernel_rfl)) (fun _ _ _ h => h) (Or.inl ⟨by rfl, ?_⟩) hHeld ?_ ?_
      rotate_left
      ·rintro w' ⟨s0,s1,s2,s3,s4,s5,s6⟩
       go_simp
       with_reducible rfl
      rotate_left
      ·simp only [Act.put,qS_,qZ_,qC_,y22,y21]
       rfl
      refine pure_ (i := 3) (N := some 10) (v := ?_) (a' := ?_) (fl_ 13 143) rfl rfl (y2 HT_.out (by kernel_rfl)) (fun _ _ _ h => h) (Or.inl ⟨by rfl, ?_⟩) ?_ ?_
      rotate_left
      ·intro w'
       go_simp
       with_reducible rfl
      rotate_left
      ·simp only [Act.put,qS_,qZ_,qC_,y22,y21]
       rfl
      refine pure_ (i := 4) (N := some 11) (v := ?_) (a' := ?_) (fl_ 13 159) rfl rfl (y2 HT_.out (by kernel_rfl)) (fun _ _ _ h => h) (Or.inl ⟨by rfl, ?_⟩) ?_ ?_
      rotate_left
      ·intro w'
       go_simp
       with_reducible rfl
      rotate_left
      ·simp only [Act.put,qS_,qZ_,qC_,y22,y21]
       rfl
      refine take_ (i := 5) (N := some 12) (v := ?_) (a' := ?_) (fl_ 13 191) rfl rfl (take_ofW HT_.out HW_.out (by kernel_rfl)) (fun _ _ _ h => h) (Or.inl ⟨by rfl, ?_⟩) hHeld ?_ ?_
      rotate_left
      ·rintro w' ⟨s0,s1,s2,s3,s4,s5,s6⟩
       go_simp
       with_reducible rfl
      rotate_left
      ·simp only [Act.put,qS_,qZ_,qC_,y22,y21]
       rfl
      refine pure_ (i := 6) (N := some 13) (v := ?_) (a' := ?_) (fl_ 13 255) rfl rfl (y2 HT_.out (by kernel_rfl)) (fun _ _ _ h => h) (Or.inl ⟨by rfl, ?_⟩) ?_ ?_
      rotate_left
      ·intro w'
       go_simp
       with_reducible rfl
      rotate_left
      ·simp only [Act.put,qS_,qZ_,qC_,y22,y21]
       rfl
      refine take_ (i := 8) (N := some 15) (v := ?_) (a' := ?_) (fl_ 13 511) rfl rfl (take_ofW HT_.out HW_.out (by kernel_rfl)) (fun _ _ _ h => h) (Or.inl ⟨by rfl, ?_⟩) hHeld ?_ ?_
      rotate_left
      ·rintro w' ⟨s0,s1,s2,s3,s4,s5,s6⟩
       go_simp
       with_reducible rfl
      rotate_left
      ·simp only [Act.put,qS_,qZ_,qC_,y22,y21]
       rfl
      refine one_ (i := 9) (N := some 16) (fl_ 13 1023) rfl rfl (one_of HT_.out (by kernel_rfl)) (by decide) (fun K hK => ?_)
      refine goes_ Tryz.func39 (by kernel_rfl) rfl #[.slice A2_0 l2_0.length c2_0,.string (⟨#[44,32]⟩ : ByteArray)] (by rfl) rfl rfl (by (try simp only [qM_,List.map_cons,List.map_nil]); first | done | rfl | (simp only [qD_,qT_]; rfl)) ?_
      with_reducible refine (strings_Join.calls _ _ l2_0 (⟨#[44,32]⟩ : ByteArray) t367 _ ?side1 ?side2 A7.out).mono ?_
      (case side1 => repeat (first | exact (Kd.C_below HR2_0.out HB.out) | (with_reducible refine Kd.C_alloc ?_ _) | (with_reducible refine Kd.C_drewN ?_ _) | (with_reducible refine Kd.C_drew ?_)))
      (case side2 => exact HC2_0.out)
      rintro e w13 ⟨rfl,hb⟩
      refine ⟨_,rfl, ?_⟩
      have n0_ := y0.mk (y9 (g := gb364) (o := .cells #[.slice A0_0 l0_0.length c0_0,.slice (some ad366) l0_1.length c0_1,.slice A0_2 l0_2.length c0_2] 37 (0,0)) (by (with_reducible repeat (first | refine y12 ?_ _ | refine y11 ?_ | refine y8 ?_ _)); exact BK364.out) hb)
      have n1_ := y0.mk (y9 (g := gb365) (o := .cells #[.slice A2_0 l2_0.length c2_0] 39 (0,0)) (by (with_reducible repeat (first | refine y12 ?_ _ | refine y11 ?_ | refine y8 ?_ _)); exact BK365.out) hb)
      have n2_ := y0.mk (y7 (by repeat (first | (with_reducible first | exact HB.out | apply y3 | apply y23 | apply y4 | refine y5 ?_ GE364.out | refine y5 ?_ GE365.out) | exact HB.out)) hb)
      clear BK364
      clear BK365
      clear HB
      have BK364 := n0_
      have BK365 := n1_
      have HB := n2_
      clear n0_ n1_ n2_
      (try clear hb)
      (try clear hb2)
      (try clear hk)
      (try clear hi)
      refine hK.out _ _ ⟨(y10 BK364.out 0).trans rfl,(y10 BK364.out 1).trans rfl,(y10 BK364.out 2).trans rfl,(y10 BK365.out 0).trans rfl,((HB.out.cell (World.block_lt_of_cell? w _ hw366_0)).trans hw366_0),((HB.out.cell (World.block_lt_of_cell? w _ hw366_1)).trans hw366_1),((HB.out.cell (World.block_lt_of_cell? w _ hw366_2)).trans hw366_2)⟩ (fun hHeld => ?_)
      clear hK K
      refine norm_ (a' := ?_) ?_ ?_
      rotate_left
      ·show Act.put _ (some 16) _ = _
       simp only [Act.put,qS_,qZ_,qC_,y22,y21]
       rfl
      refine pure_ (i := 10) (N := some 17) (v := ?_) (a' := ?_) (fl_ 13 2047) rfl rfl (y2 HT_.out (by kernel_rfl)) (fun _ _ _ h => h) (Or.inl ⟨by rfl, ?_⟩) ?_ ?_
      rotate_left
      ·intro w'
       go_simp
       with_reducible rfl
      rotate_left
      ·simp only [Act.put,qS_,qZ_,qC_,y22,y21]
       rfl
      refine pure_ (i := 11) (N := some 18) (v := ?_) (a' := ?_) (fl_ 13 4095) rfl rfl (y2 HT_.out (by kernel_rfl)) (fun _ _ _ h => h) (Or.inl ⟨by rfl, ?_⟩) ?_ ?_
      rotate_left
      ·intro w'
       go_simp
       with_reducible rfl
      rotate_left
      ·simp only [Act.put,qS_,qZ_,qC_,y22,y21]
       rfl
      refine pure_ (i := 12) (N := some 6) (v := ?_) (a' := ?_) (fl_ 13 8191) rfl rfl (y2 HT_.out (by kernel_rfl)) (fun _ _ _ h => h) (Or.inl ⟨by rfl, ?_⟩) ?_ ?_
      rotate_left
      ·intro w'
       go_simp
       with_reducible rfl
      rotate_left
      ·simp only [Act.put,qS_,qZ_,qC_,y22,y21]
       rfl
      refine done_ (done_of HT_.out (by kernel_rfl)) ?_
      try go_wp2
      go_ret
      exact ⟨by first | rfl | (simp [y16,y17] <;> rfl) | (simp [*,y16,y17] <;> rfl),by repeat (first | (with_reducible first | exact HB.out | apply y3 | apply y23 | apply y4 | refine y5 ?_ GE364.out | refine y5 ?_ GE365.out) | exact HB.out)⟩
     ·rw [if_neg c9] at H
      exact absurd H (by simp)
    ·rw [if_neg c8] at H
     exact absurd H (by simp)
   ·rw [if_neg c6] at H
    exact absurd H (by simp)
  ·rw [if_neg c5] at H
   exact absurd H (by simp)
 ·rw [if_neg c4] at H
  exact absurd H (by simp)
def impl_FactText.f (k : Nat) (l0_0 : List (S77)) (l0_1 : List (S51)) (l0_2 : List (S84)) (a1 : Int) (l2_0 : List ByteArray) : Option (ByteArray) := (impl_in.f a1 0 (wrap64 ((l0_1.length : Int) - 1))).bind fun t370 => (if t370 = true then ((impl_isTuple.f k l2_0).bind fun t371 => (if t371 = true then ((impl_factText.f l0_0 l0_1 l0_2 a1 l2_0).bind fun t372 => (some t372)) else (some (⟨#[]⟩ : ByteArray)))) else (some (⟨#[]⟩ : ByteArray)))
set_option maxHeartbeats 8000000 in
set_option maxRecDepth 100000 in
theorem impl_FactText.calls (k : Nat) (A0_0 : Option Addr) (c0_0 : Nat) (l0_0 : List (S77)) (A0_1 : Option Addr) (c0_1 : Nat) (l0_1 : List (S51)) (A0_2 : Option Addr) (c0_2 : Nat) (l0_2 : List (S84)) (a1 : Int) (A2_0 : Option Addr) (c2_0 : Nat) (l2_0 : List ByteArray) (r : ByteArray) (w : World) (hr0_0 : Kd.C k77 w A0_0 l0_0.length l0_0) (hc0_0 : l0_0.length ≤ c0_0) (hr0_1 : Kd.C k51 w A0_1 l0_1.length l0_1) (hc0_1 : l0_1.length ≤ c0_1) (hr0_2 : Kd.C k84 w A0_2 l0_2.length l0_2) (hc0_2 : l0_2.length ≤ c0_2) (hr2_0 : Kd.C Kd.string w A2_0 l2_0.length l2_0) (hc2_0 : l2_0.length ≤ c2_0) (hT : Tb w) (h : impl_FactText.f k l0_0 l0_1 l0_2 a1 l2_0 = some r) :
  Calls Tryz.prog 9 #[.agg #[.slice A0_0 l0_0.length c0_0,.slice A0_1 l0_1.length c0_1,.slice A0_2 l0_2.length c0_2],.int .i64 a1,.agg #[.slice A2_0 l2_0.length c2_0]] w fun e w' => e = .returned (.string r) ∧ Below w.heap.size w w' := by
 have hu37 := Tryz.underlying37
 have hu39 := Tryz.underlying39
 have HT := y0.mk hT
 clear hT
 have HR0_0 := y0.mk hr0_0
 have HC0_0 := y0.mk hc0_0
 clear hr0_0 hc0_0
 have HR0_1 := y0.mk hr0_1
 have HC0_1 := y0.mk hc0_1
 clear hr0_1 hc0_1
 have HR0_2 := y0.mk hr0_2
 have HC0_2 := y0.mk hc0_2
 clear hr0_2 hc0_2
 have HR2_0 := y0.mk hr2_0
 have HC2_0 := y0.mk hc2_0
 clear hr2_0 hc2_0
 have HB := y0.mk (Below.refl w.heap.size w)
 have H : ((impl_in.f a1 0 (wrap64 ((l0_1.length : Int) - 1))).bind fun t370 => (if t370 = true then ((impl_isTuple.f k l2_0).bind fun t371 => (if t371 = true then ((impl_factText.f l0_0 l0_1 l0_2 a1 l2_0).bind fun t372 => (some t372)) else (some (⟨#[]⟩ : ByteArray)))) else (some (⟨#[]⟩ : ByteArray)))) = some r := h
 clear h
 replace H := Option.bind_eq_some_iff.mp H
 obtain ⟨t370,A40,H⟩ := H
 replace H : (if t370 = true then ((impl_isTuple.f k l2_0).bind fun t371 => (if t371 = true then ((impl_factText.f l0_0 l0_1 l0_2 a1 l2_0).bind fun t372 => (some t372)) else (some (⟨#[]⟩ : ByteArray)))) else (some (⟨#[]⟩ : ByteArray))) = some r := H
 have A4 := y0.mk A40
 clear A40
 by_cases c5 : t370 = true
 ·subst c5
  have H1 : ((impl_isTuple.f k l2_0).bind fun t371 => (if t371 = true then ((impl_factText.f l0_0 l0_1 l0_2 a1 l2_0).bind fun t372 => (some t372)) else (some (⟨#[]⟩ : ByteArray)))) = some r := by rw [if_pos rfl] at H; exact H
  clear H
  have H := H1
  clear H1
  replace H := Option.bind_eq_some_iff.mp H
  obtain ⟨t371,A60,H⟩ := H
  replace H : (if t371 = true then ((impl_factText.f l0_0 l0_1 l0_2 a1 l2_0).bind fun t372 => (some t372)) else (some (⟨#[]⟩ : ByteArray))) = some r := H
  have A6 := y0.mk A60
  clear A60
  by_cases c7 : t371 = true
  ·subst c7
   have H1 : ((impl_factText.f l0_0 l0_1 l0_2 a1 l2_0).bind fun t372 => (some t372)) = some r := by rw [if_pos rfl] at H; exact H
   clear H
   have H := H1
   clear H1
   replace H := Option.bind_eq_some_iff.mp H
   obtain ⟨t372,A80,H⟩ := H
   replace H : (some t372) = some r := H
   have A8 := y0.mk A80
   clear A80
   obtain rfl := Option.some.inj H
   go_enter Tryz.func9,Tryz.ntmps9
   go_wp2_with (first | ((with_reducible refine y19 (N := 3) rfl ?_); refine y15 ?hg (N := 3) ?hd (cs := #[.slice A0_0 l0_0.length c0_0,.slice A0_1 l0_1.length c0_1,.slice A0_2 l0_2.length c0_2]) (t := 37) ?hr ?_; (case hd => rfl); (case hg => rfl); (case hr => first | (go_simp; done) | (go_simp; rfl)); intro gb368 hg w9 hbox hb; have n0_ := y0.mk (y7 (by repeat (first | (with_reducible first | exact HB.out | apply y3 | apply y23 | apply y4) | exact HB.out)) hb); have n1_ := y0.mk (hbox); have n2_ := y0.mk ((by rw [hg]; exact (y6 (by repeat (first | (with_reducible first | exact HB.out | apply y3 | apply y23 | apply y4) | exact HB.out))) : w.heap.size ≤ gb368)); have n3_ := y0.mk ((by rw [hg]; exact (y6 (by repeat (first | (with_reducible first | exact HB.out | apply y3 | apply y23 | apply y4) | exact HB.out))) : w.heap.size ≤ gb368)); clear HB; have HB := n0_; have BK368 := n1_; have GW368 := n2_; have GE368 := n3_; clear n0_ n1_ n2_ n3_; clear hb hbox hg) | ((with_reducible refine y19 (N := 5) rfl ?_); refine y15 ?hg (N := 5) ?hd (cs := #[.slice A2_0 l2_0.length c2_0]) (t := 39) ?hr ?_; (case hd => rfl); (case hg => rfl); (case hr => first | (go_simp; done) | (go_simp; rfl)); intro gb369 hg w10 hbox hb; have n0_ := y0.mk (y9 (g := gb368) (o := .cells #[.slice A0_0 l0_0.length c0_0,.slice A0_1 l0_1.length c0_1,.slice A0_2 l0_2.length c0_2] 37 (0,0)) (by (with_reducible repeat (first | refine y12 ?_ _ | refine y11 ?_ | refine y8 ?_ _)); exact BK368.out) hb); have n1_ := y0.mk (y7 (by repeat (first | (with_reducible first | exact HB.out | apply y3 | apply y23 | apply y4 | refine y5 ?_ GE368.out) | exact HB.out)) hb); have n2_ := y0.mk (hbox); have n3_ := y0.mk ((by rw [hg]; exact (y6 (by repeat (first | (with_reducible first | exact HB.out | apply y3 | apply y23 | apply y4 | refine y5 ?_ GE368.out) | exact HB.out))) : w.heap.size ≤ gb369)); have n4_ := y0.mk ((by rw [hg]; exact (y6 (by repeat (first | (with_reducible first | exact HB.out | apply y3 | apply y23 | apply y4 | refine y5 ?_ GE368.out) | exact HB.out))) : w.heap.size ≤ gb369)); have n5_ := y0.mk ((by rw [hg]; exact Nat.ne_of_lt (y14 (g := gb368) (o := .cells #[.slice A0_0 l0_0.length c0_0,.slice A0_1 l0_1.length c0_1,.slice A0_2 l0_2.length c0_2] 37 (0,0)) (by (with_reducible repeat (first | refine y12 ?_ _ | refine y11 ?_ | refine y8 ?_ _)); exact BK368.out)) : gb368 ≠ gb369)); have n6_ := y0.mk ((by rw [hg]; exact Nat.ne_of_gt (y14 (g := gb368) (o := .cells #[.slice A0_0 l0_0.length c0_0,.slice A0_1 l0_1.length c0_1,.slice A0_2 l0_2.length c0_2] 37 (0,0)) (by (with_reducible repeat (first | refine y12 ?_ _ | refine y11 ?_ | refine y8 ?_ _)); exact BK368.out)) : gb369 ≠ gb368)); clear BK368; clear HB; have BK368 := n0_; have HB := n1_; have BK369 := n2_; have GW369 := n3_; have GE369 := n4_; have NB368_369 := n5_; have NB369_368 := n6_; clear n0_ n1_ n2_ n3_ n4_ n5_ n6_; clear hb hbox hg; have hnb11 := NB368_369.out; have hnc11 := NB369_368.out; have hcz12_0 : w10.cell? ⟨gb368,0,none⟩ = some (.slice A0_0 l0_0.length c0_0) := (y10 BK368.out 0).trans rfl; have hcz12_1 : w10.cell? ⟨gb368,1,none⟩ = some (.slice A0_1 l0_1.length c0_1) := (y10 BK368.out 1).trans rfl; have hcz12_2 : w10.cell? ⟨gb368,2,none⟩ = some (.slice A0_2 l0_2.length c0_2) := (y10 BK368.out 2).trans rfl; have hfz12_0 := y13 BK368.out 0; have hfz12_1 := y13 BK368.out 1; have hfz12_2 := y13 BK368.out 2) | ((with_reducible refine y18 (f := 22) rfl ?_); refine y20 (some 12) rfl rfl Tryz.func22 (by kernel_rfl) rfl #[.int .i64 a1,.int .i64 0,.int .i64 (wrap64 ((l0_1.length : Int) - 1))] rfl (by (try simp only [qM_,List.map_cons,List.map_nil]); first | done | rfl | (simp only [qD_,qT_]; rfl)) ?_; (with_reducible refine (impl_in.calls a1 0 (wrap64 ((l0_1.length : Int) - 1)) true _ A4.out).mono ?_); rintro e w' ⟨rfl,⟨nd,rfl⟩⟩; refine ⟨_,rfl, ?_⟩; have hcz13_0 : w10.cell? ⟨gb369,0,none⟩ = some (.slice A2_0 l2_0.length c2_0) := (y10 BK369.out 0).trans rfl; have hfz13_0 := y13 BK369.out 0) | (go_at_call 23; (with_reducible refine (impl_isTuple.calls k _ _ l2_0 true _ ?side1 ?side2 ?side3 A6.out).mono ?_); (case side1 => repeat (first | exact (Kd.C_below HR2_0.out (by repeat (first | (with_reducible first | exact HB.out | apply y3 | apply y23 | apply y4 | refine y5 ?_ GE368.out | refine y5 ?_ GE369.out) | exact HB.out))) | (with_reducible refine Kd.C_alloc ?_ _) | (with_reducible refine Kd.C_drewN ?_ _) | (with_reducible refine Kd.C_drew ?_))); (case side2 => exact HC2_0.out); (case side3 => exact Tb.below HT.out (by repeat (first | (with_reducible first | exact HB.out | apply y3 | apply y23 | apply y4 | refine y5 ?_ GE368.out | refine y5 ?_ GE369.out) | exact HB.out))); rintro e w14 ⟨rfl,hb⟩; have n0_ := y0.mk (y9 (g := gb368) (o := .cells #[.slice A0_0 l0_0.length c0_0,.slice A0_1 l0_1.length c0_1,.slice A0_2 l0_2.length c0_2] 37 (0,0)) (by (with_reducible repeat (first | refine y12 ?_ _ | refine y11 ?_ | refine y8 ?_ _)); exact BK368.out) hb); have n1_ := y0.mk (y9 (g := gb369) (o := .cells #[.slice A2_0 l2_0.length c2_0] 39 (0,0)) (by (with_reducible repeat (first | refine y12 ?_ _ | refine y11 ?_ | refine y8 ?_ _)); exact BK369.out) hb); have n2_ := y0.mk (y7 (by repeat (first | (with_reducible first | exact HB.out | apply y3 | apply y23 | apply y4 | refine y5 ?_ GE368.out | refine y5 ?_ GE369.out) | exact HB.out)) hb); clear BK368; clear BK369; clear HB; have BK368 := n0_; have BK369 := n1_; have HB := n2_; clear n0_ n1_ n2_; (try clear hb); (try clear hb2); (try clear hk); (try clear hi); have hcz15_0 : w14.cell? ⟨gb368,0,none⟩ = some (.slice A0_0 l0_0.length c0_0) := (y10 BK368.out 0).trans rfl; have hcz15_1 : w14.cell? ⟨gb368,1,none⟩ = some (.slice A0_1 l0_1.length c0_1) := (y10 BK368.out 1).trans rfl; have hcz15_2 : w14.cell? ⟨gb368,2,none⟩ = some (.slice A0_2 l0_2.length c0_2) := (y10 BK368.out 2).trans rfl; have hfz15_0 := y13 BK368.out 0; have hfz15_1 := y13 BK368.out 1; have hfz15_2 := y13 BK368.out 2; have hcz16_0 : w14.cell? ⟨gb369,0,none⟩ = some (.slice A2_0 l2_0.length c2_0) := (y10 BK369.out 0).trans rfl; have hfz16_0 := y13 BK369.out 0) | ((with_reducible refine y18 (f := 24) rfl ?_); refine y20 (some 22) rfl rfl Tryz.func24 (by kernel_rfl) rfl #[.agg #[.slice A0_0 l0_0.length c0_0,.slice A0_1 l0_1.length c0_1,.slice A0_2 l0_2.length c0_2],.int .i64 a1,.agg #[.slice A2_0 l2_0.length c2_0]] rfl (by (try simp only [qM_,List.map_cons,List.map_nil]); first | done | rfl | (simp only [qD_,qT_]; rfl)) ?_; (with_reducible refine (impl_factText.calls _ _ l0_0 _ _ l0_1 _ _ l0_2 a1 _ _ l2_0 t372 _ ?side1 ?side2 ?side3 ?side4 ?side5 ?side6 ?side7 ?side8 A8.out).mono ?_); (case side1 => repeat (first | exact (Kd.C_below HR0_0.out HB.out) | (with_reducible refine Kd.C_alloc ?_ _) | (with_reducible refine Kd.C_drewN ?_ _) | (with_reducible refine Kd.C_drew ?_))); (case side2 => exact HC0_0.out); (case side3 => repeat (first | exact (Kd.C_below HR0_1.out HB.out) | (with_reducible refine Kd.C_alloc ?_ _) | (with_reducible refine Kd.C_drewN ?_ _) | (with_reducible refine Kd.C_drew ?_))); (case side4 => exact HC0_1.out); (case side5 => repeat (first | exact (Kd.C_below HR0_2.out HB.out) | (with_reducible refine Kd.C_alloc ?_ _) | (with_reducible refine Kd.C_drewN ?_ _) | (with_reducible refine Kd.C_drew ?_))); (case side6 => exact HC0_2.out); (case side7 => repeat (first | exact (Kd.C_below HR2_0.out HB.out) | (with_reducible refine Kd.C_alloc ?_ _) | (with_reducible refine Kd.C_drewN ?_ _) | (with_reducible refine Kd.C_drew ?_))); (case side8 => exact HC2_0.out); rintro e w17 ⟨rfl,hb⟩; refine ⟨_,rfl, ?_⟩; have n0_ := y0.mk (y9 (g := gb368) (o := .cells #[.slice A0_0 l0_0.length c0_0,.slice A0_1 l0_1.length c0_1,.slice A0_2 l0_2.length c0_2] 37 (0,0)) (by (with_reducible repeat (first | refine y12 ?_ _ | refine y11 ?_ | refine y8 ?_ _)); exact BK368.out) hb); have n1_ := y0.mk (y9 (g := gb369) (o := .cells #[.slice A2_0 l2_0.length c2_0] 39 (0,0)) (by (with_reducible repeat (first | refine y12 ?_ _ | refine y11 ?_ | refine y8 ?_ _)); exact BK369.out) hb); have n2_ := y0.mk (y7 (by repeat (first | (with_reducible first | exact HB.out | apply y3 | apply y23 | apply y4 | refine y5 ?_ GE368.out | refine y5 ?_ GE369.out) | exact HB.out)) hb); clear BK368; clear BK369; clear HB; have BK368 := n0_; have BK369 := n1_; have HB := n2_; clear n0_ n1_ n2_; (try clear hb); (try clear hb2); (try clear hk); (try clear hi)))
   go_ret
   exact ⟨by first | rfl | (simp [y16,y17] <;> rfl) | (simp [*,y16,y17] <;> rfl),by repeat (first | (with_reducible first | exact HB.out | apply y3 | apply y23 | apply y4 | refine y5 ?_ GE368.out | refine y5 ?_ GE369.out) | exact HB.out)⟩
  ·replace c7 := Bool.eq_false_iff.mpr c7
   subst c7
   have H1 : (some (⟨#[]⟩ : ByteArray)) = some r := by rw [if_neg (show ¬ (false = true) by decide)] at H; exact H
   clear H
   have H := H1
   clear H1
   obtain rfl := Option.some.inj H
   go_enter Tryz.func9,Tryz.ntmps9
   go_wp2_with (first | ((with_reducible refine y19 (N := 3) rfl ?_); refine y15 ?hg (N := 3) ?hd (cs := #[.slice A0_0 l0_0.length c0_0,.slice A0_1 l0_1.length c0_1,.slice A0_2 l0_2.length c0_2]) (t := 37) ?hr ?_; (case hd => rfl); (case hg => rfl); (case hr => first | (go_simp; done) | (go_simp; rfl)); intro gb368 hg w18 hbox hb; have n0_ := y0.mk (y7 (by repeat (first | (with_reducible first | exact HB.out | apply y3 | apply y23 | apply y4) | exact HB.out)) hb); have n1_ := y0.mk (hbox); have n2_ := y0.mk ((by rw [hg]; exact (y6 (by repeat (first | (with_reducible first | exact HB.out | apply y3 | apply y23 | apply y4) | exact HB.out))) : w.heap.size ≤ gb368)); have n3_ := y0.mk ((by rw [hg]; exact (y6 (by repeat (first | (with_reducible first | exact HB.out | apply y3 | apply y23 | apply y4) | exact HB.out))) : w.heap.size ≤ gb368)); clear HB; have HB := n0_; have BK368 := n1_; have GW368 := n2_; have GE368 := n3_; clear n0_ n1_ n2_ n3_; clear hb hbox hg) | ((with_reducible refine y19 (N := 5) rfl ?_); refine y15 ?hg (N := 5) ?hd (cs := #[.slice A2_0 l2_0.length c2_0]) (t := 39) ?hr ?_; (case hd => rfl); (case hg => rfl); (case hr => first | (go_simp; done) | (go_simp; rfl)); intro gb369 hg w19 hbox hb; have n0_ := y0.mk (y9 (g := gb368) (o := .cells #[.slice A0_0 l0_0.length c0_0,.slice A0_1 l0_1.length c0_1,.slice A0_2 l0_2.length c0_2] 37 (0,0)) (by (with_reducible repeat (first | refine y12 ?_ _ | refine y11 ?_ | refine y8 ?_ _)); exact BK368.out) hb); have n1_ := y0.mk (y7 (by repeat (first | (with_reducible first | exact HB.out | apply y3 | apply y23 | apply y4 | refine y5 ?_ GE368.out) | exact HB.out)) hb); have n2_ := y0.mk (hbox); have n3_ := y0.mk ((by rw [hg]; exact (y6 (by repeat (first | (with_reducible first | exact HB.out | apply y3 | apply y23 | apply y4 | refine y5 ?_ GE368.out) | exact HB.out))) : w.heap.size ≤ gb369)); have n4_ := y0.mk ((by rw [hg]; exact (y6 (by repeat (first | (with_reducible first | exact HB.out | apply y3 | apply y23 | apply y4 | refine y5 ?_ GE368.out) | exact HB.out))) : w.heap.size ≤ gb369)); have n5_ := y0.mk ((by rw [hg]; exact Nat.ne_of_lt (y14 (g := gb368) (o := .cells #[.slice A0_0 l0_0.length c0_0,.slice A0_1 l0_1.length c0_1,.slice A0_2 l0_2.length c0_2] 37 (0,0)) (by (with_reducible repeat (first | refine y12 ?_ _ | refine y11 ?_ | refine y8 ?_ _)); exact BK368.out)) : gb368 ≠ gb369)); have n6_ := y0.mk ((by rw [hg]; exact Nat.ne_of_gt (y14 (g := gb368) (o := .cells #[.slice A0_0 l0_0.length c0_0,.slice A0_1 l0_1.length c0_1,.slice A0_2 l0_2.length c0_2] 37 (0,0)) (by (with_reducible repeat (first | refine y12 ?_ _ | refine y11 ?_ | refine y8 ?_ _)); exact BK368.out)) : gb369 ≠ gb368)); clear BK368; clear HB; have BK368 := n0_; have HB := n1_; have BK369 := n2_; have GW369 := n3_; have GE369 := n4_; have NB368_369 := n5_; have NB369_368 := n6_; clear n0_ n1_ n2_ n3_ n4_ n5_ n6_; clear hb hbox hg; have hnb20 := NB368_369.out; have hnc20 := NB369_368.out; have hcz21_0 : w19.cell? ⟨gb368,0,none⟩ = some (.slice A0_0 l0_0.length c0_0) := (y10 BK368.out 0).trans rfl; have hcz21_1 : w19.cell? ⟨gb368,1,none⟩ = some (.slice A0_1 l0_1.length c0_1) := (y10 BK368.out 1).trans rfl; have hcz21_2 : w19.cell? ⟨gb368,2,none⟩ = some (.slice A0_2 l0_2.length c0_2) := (y10 BK368.out 2).trans rfl; have hfz21_0 := y13 BK368.out 0; have hfz21_1 := y13 BK368.out 1; have hfz21_2 := y13 BK368.out 2) | ((with_reducible refine y18 (f := 22) rfl ?_); refine y20 (some 12) rfl rfl Tryz.func22 (by kernel_rfl) rfl #[.int .i64 a1,.int .i64 0,.int .i64 (wrap64 ((l0_1.length : Int) - 1))] rfl (by (try simp only [qM_,List.map_cons,List.map_nil]); first | done | rfl | (simp only [qD_,qT_]; rfl)) ?_; (with_reducible refine (impl_in.calls a1 0 (wrap64 ((l0_1.length : Int) - 1)) true _ A4.out).mono ?_); rintro e w' ⟨rfl,⟨nd,rfl⟩⟩; refine ⟨_,rfl, ?_⟩; have hcz22_0 : w19.cell? ⟨gb369,0,none⟩ = some (.slice A2_0 l2_0.length c2_0) := (y10 BK369.out 0).trans rfl; have hfz22_0 := y13 BK369.out 0) | (go_at_call 23; (with_reducible refine (impl_isTuple.calls k _ _ l2_0 false _ ?side1 ?side2 ?side3 A6.out).mono ?_); (case side1 => repeat (first | exact (Kd.C_below HR2_0.out (by repeat (first | (with_reducible first | exact HB.out | apply y3 | apply y23 | apply y4 | refine y5 ?_ GE368.out | refine y5 ?_ GE369.out) | exact HB.out))) | (with_reducible refine Kd.C_alloc ?_ _) | (with_reducible refine Kd.C_drewN ?_ _) | (with_reducible refine Kd.C_drew ?_))); (case side2 => exact HC2_0.out); (case side3 => exact Tb.below HT.out (by repeat (first | (with_reducible first | exact HB.out | apply y3 | apply y23 | apply y4 | refine y5 ?_ GE368.out | refine y5 ?_ GE369.out) | exact HB.out))); rintro e w23 ⟨rfl,hb⟩; have n0_ := y0.mk (y9 (g := gb368) (o := .cells #[.slice A0_0 l0_0.length c0_0,.slice A0_1 l0_1.length c0_1,.slice A0_2 l0_2.length c0_2] 37 (0,0)) (by (with_reducible repeat (first | refine y12 ?_ _ | refine y11 ?_ | refine y8 ?_ _)); exact BK368.out) hb); have n1_ := y0.mk (y9 (g := gb369) (o := .cells #[.slice A2_0 l2_0.length c2_0] 39 (0,0)) (by (with_reducible repeat (first | refine y12 ?_ _ | refine y11 ?_ | refine y8 ?_ _)); exact BK369.out) hb); have n2_ := y0.mk (y7 (by repeat (first | (with_reducible first | exact HB.out | apply y3 | apply y23 | apply y4 | refine y5 ?_ GE368.out | refine y5 ?_ GE369.out) | exact HB.out)) hb); clear BK368; clear BK369; clear HB; have BK368 := n0_; have BK369 := n1_; have HB := n2_; clear n0_ n1_ n2_; (try clear hb); (try clear hb2); (try clear hk); (try clear hi)))
   go_ret
   exact ⟨by first | rfl | (simp [y16,y17] <;> rfl) | (simp [*,y16,y17] <;> rfl),by repeat (first | (with_reducible first | exact HB.out | apply y3 | apply y23 | apply y4 | refine y5 ?_ GE368.out | refine y5 ?_ GE369.out) | exact HB.out)⟩
 ·replace c5 := Bool.eq_false_iff.mpr c5
  subst c5
  have H1 : (some (⟨#[]⟩ : ByteArray)) = some r := by rw [if_neg (show ¬ (false = true) by decide)] at H; exact H
  clear H
  have H := H1
  clear H1
  obtain rfl := Option.some.inj H
  go_enter Tryz.func9,Tryz.ntmps9
  go_wp2_with (first | ((with_reducible refine y19 (N := 3) rfl ?_); refine y15 ?hg (N := 3) ?hd (cs := #[.slice A0_0 l0_0.length c0_0,.slice A0_1 l0_1.length c0_1,.slice A0_2 l0_2.length c0_2]) (t := 37) ?hr ?_; (case hd => rfl); (case hg => rfl); (case hr => first | (go_simp; done) | (go_simp; rfl)); intro gb368 hg w24 hbox hb; have n0_ := y0.mk (y7 (by repeat (first | (with_reducible first | exact HB.out | apply y3 | apply y23 | apply y4) | exact HB.out)) hb); have n1_ := y0.mk (hbox); have n2_ := y0.mk ((by rw [hg]; exact (y6 (by repeat (first | (with_reducible first | exact HB.out | apply y3 | apply y23 | apply y4) | exact HB.out))) : w.heap.size ≤ gb368)); have n3_ := y0.mk ((by rw [hg]; exact (y6 (by repeat (first | (with_reducible first | exact HB.out | apply y3 | apply y23 | apply y4) | exact HB.out))) : w.heap.size ≤ gb368)); clear HB; have HB := n0_; have BK368 := n1_; have GW368 := n2_; have GE368 := n3_; clear n0_ n1_ n2_ n3_; clear hb hbox hg) | ((with_reducible refine y19 (N := 5) rfl ?_); refine y15 ?hg (N := 5) ?hd (cs := #[.slice A2_0 l2_0.length c2_0]) (t := 39) ?hr ?_; (case hd => rfl); (case hg => rfl); (case hr => first | (go_simp; done) | (go_simp; rfl)); intro gb369 hg w25 hbox hb; have n0_ := y0.mk (y9 (g := gb368) (o := .cells #[.slice A0_0 l0_0.length c0_0,.slice A0_1 l0_1.length c0_1,.slice A0_2 l0_2.length c0_2] 37 (0,0)) (by (with_reducible repeat (first | refine y12 ?_ _ | refine y11 ?_ | refine y8 ?_ _)); exact BK368.out) hb); have n1_ := y0.mk (y7 (by repeat (first | (with_reducible first | exact HB.out | apply y3 | apply y23 | apply y4 | refine y5 ?_ GE368.out) | exact HB.out)) hb); have n2_ := y0.mk (hbox); have n3_ := y0.mk ((by rw [hg]; exact (y6 (by repeat (first | (with_reducible first | exact HB.out | apply y3 | apply y23 | apply y4 | refine y5 ?_ GE368.out) | exact HB.out))) : w.heap.size ≤ gb369)); have n4_ := y0.mk ((by rw [hg]; exact (y6 (by repeat (first | (with_reducible first | exact HB.out | apply y3 | apply y23 | apply y4 | refine y5 ?_ GE368.out) | exact HB.out))) : w.heap.size ≤ gb369)); have n5_ := y0.mk ((by rw [hg]; exact Nat.ne_of_lt (y14 (g := gb368) (o := .cells #[.slice A0_0 l0_0.length c0_0,.slice A0_1 l0_1.length c0_1,.slice A0_2 l0_2.length c0_2] 37 (0,0)) (by (with_reducible repeat (first | refine y12 ?_ _ | refine y11 ?_ | refine y8 ?_ _)); exact BK368.out)) : gb368 ≠ gb369)); have n6_ := y0.mk ((by rw [hg]; exact Nat.ne_of_gt (y14 (g := gb368) (o := .cells #[.slice A0_0 l0_0.length c0_0,.slice A0_1 l0_1.length c0_1,.slice A0_2 l0_2.length c0_2] 37 (0,0)) (by (with_reducible repeat (first | refine y12 ?_ _ | refine y11 ?_ | refine y8 ?_ _)); exact BK368.out)) : gb369 ≠ gb368)); clear BK368; clear HB; have BK368 := n0_; have HB := n1_; have BK369 := n2_; have GW369 := n3_; have GE369 := n4_; have NB368_369 := n5_; have NB369_368 := n6_; clear n0_ n1_ n2_ n3_ n4_ n5_ n6_; clear hb hbox hg; have hnb26 := NB368_369.out; have hnc26 := NB369_368.out; have hcz27_0 : w25.cell? ⟨gb368,0,none⟩ = some (.slice A0_0 l0_0.length c0_0) := (y10 BK368.out 0).trans rfl; have hcz27_1 : w25.cell? ⟨gb368,1,none⟩ = some (.slice A0_1 l0_1.length c0_1) := (y10 BK368.out 1).trans rfl; have hcz27_2 : w25.cell? ⟨gb368,2,none⟩ = some (.slice A0_2 l0_2.length c0_2) := (y10 BK368.out 2).trans rfl; have hfz27_0 := y13 BK368.out 0; have hfz27_1 := y13 BK368.out 1; have hfz27_2 := y13 BK368.out 2) | ((with_reducible refine y18 (f := 22) rfl ?_); refine y20 (some 12) rfl rfl Tryz.func22 (by kernel_rfl) rfl #[.int .i64 a1,.int .i64 0,.int .i64 (wrap64 ((l0_1.length : Int) - 1))] rfl (by (try simp only [qM_,List.map_cons,List.map_nil]); first | done | rfl | (simp only [qD_,qT_]; rfl)) ?_; (with_reducible refine (impl_in.calls a1 0 (wrap64 ((l0_1.length : Int) - 1)) false _ A4.out).mono ?_); rintro e w' ⟨rfl,⟨nd,rfl⟩⟩; refine ⟨_,rfl, ?_⟩))
  go_ret
  exact ⟨by first | rfl | (simp [y16,y17] <;> rfl) | (simp [*,y16,y17] <;> rfl),by repeat (first | (with_reducible first | exact HB.out | apply y3 | apply y23 | apply y4 | refine y5 ?_ GE368.out | refine y5 ?_ GE369.out) | exact HB.out)⟩
end Go.Proofs.YtamjmldfifofbaaGreatDoor.Pf
end
section
namespace Go.Proofs.YtamjmldfifofbaaGreatDoor.Pf
open Go.RowKit Go.Proofs.YtamjmldfifofbaaGreatDoorW.PrintWords Go.Proofs.YtamjmldfifofbaaGreatDoorW.PrintLast Go.Proofs.YtamjmldfifofbaaGreatDoorW.PrintMore
attribute [local go_sem] max2_int min2_int max_two min_two max_three min_three max_four min_four   -- for this text's walks alone
set_option linter.unusedVariables false
set_option linter.unusedSimpArgs false
def laws_eqStringS.l0 : Nat → List ByteArray → List ByteArray → Int → Option (Bool)
 | 0,_,_,_ => none
 | k + 1,x0,x1,x5 => if x5 < (x0.length : Int) then (if 0 ≤ x5 then (if x5 < (x1.length : Int) then (if (rdOf ByteArray.empty x0 x5).toList = (rdOf ByteArray.empty x1 x5).toList then (laws_eqStringS.l0 k x0 x1 (wrap64 (x5 + 1))) else (some false)) else (none)) else (none)) else (some true)
def laws_eqStringS.f (k : Nat) (l0 : List ByteArray) (l1 : List ByteArray) : Option (Bool) := if (l0.length : Int) = (l1.length : Int) then (laws_eqStringS.l0 k l0 l1 0) else (some false)
set_option maxHeartbeats 8000000 in
set_option maxRecDepth 100000 in
theorem laws_eqStringS.calls (k : Nat) (A0 : Option Addr) (c0 : Nat) (l0 : List ByteArray) (A1 : Option Addr) (c1 : Nat) (l1 : List ByteArray) (r : Bool) (w : World) (hr0 : Kd.C Kd.string w A0 l0.length l0) (hc0 : l0.length ≤ c0) (hr1 : Kd.C Kd.string w A1 l1.length l1) (hc1 : l1.length ≤ c1) (h : laws_eqStringS.f k l0 l1 = some r) (htrue_ : r = true) :
  Calls Tryz.prog 28 #[.slice A0 l0.length c0,.slice A1 l1.length c1] w fun e w' => e = .returned (.bool r) ∧ y1 w w' := by
 have HR0 := y0.mk hr0
 have HC0 := y0.mk hc0
 clear hr0 hc0
 have HR1 := y0.mk hr1
 have HC1 := y0.mk hc1
 clear hr1 hc1
 have H : (if (l0.length : Int) = (l1.length : Int) then (laws_eqStringS.l0 k l0 l1 0) else (some false)) = some r := h
 clear h
 by_cases c3 : (l0.length : Int) = (l1.length : Int)
 ·rw [if_pos c3] at H
  have c3b0 : ((l0.length : Int) == (l1.length : Int)) = true := beq_iff_eq.mpr c3
  have c3b1 : ((l0.length : Int) != (l1.length : Int)) = false := bne_eq_false_iff_eq.mpr c3
  have c3b2 : (l0.length == l1.length) = true := by first | simpa using c3 | (simp at c3 ⊢; omega)
  clear c3
  have H' := y0.mk H
  clear H
  go_enter Tryz.func28,Tryz.ntmps28
  go_wp2
  repeat (go_quiet (fail); try go_wp2)
  go_loopg [5] k (fun kq v5 w' => ∃ (x5_1 : Int),v5 = .int .i64 x5_1 ∧ y0 (laws_eqStringS.l0 kq l0 l1 x5_1 = some r) ∧ y0 (kq ≤ k) ∧ y1 w w')
  case atStart => exact ⟨(0),(by first | rfl | (simp; done) | (simp [*]; done)),H',⟨Nat.le_refl _⟩,by repeat (first | exact y1.refl _ | apply y1.step)⟩
  case round =>
   clear H'
   try clear c1
   try clear c2
   try clear p2
   try clear c3
   try clear c3b0
   try clear c3b1
   try clear c3b2
   obtain ⟨x5_1,rfl,HA,HK1,⟨m1,rfl⟩⟩ := hrel
   cases gk with
   | zero => exact absurd HA.out (by simp [laws_eqStringS.l0])
   | succ k1 =>
    have H := HA.out
    clear HA
    simp only [laws_eqStringS.l0] at H
    by_cases c4 : x5_1 < (l0.length : Int)
    ·rw [if_pos c4] at H
     have c4b0 : decide (x5_1 < (l0.length : Int)) = true := decide_eq_true c4
     clear c4
     by_cases c5 : 0 ≤ x5_1
     ·rw [if_pos c5] at H
      have c5b0 : decide (0 ≤ x5_1) = true := decide_eq_true c5
      clear c5
      by_cases c6 : x5_1 < (l1.length : Int)
      ·rw [if_pos c6] at H
       have c6b0 : decide (x5_1 < (l1.length : Int)) = true := decide_eq_true c6
       clear c6
       by_cases c7 : (rdOf ByteArray.empty l0 x5_1).toList = (rdOf ByteArray.empty l1 x5_1).toList
       ·rw [if_pos c7] at H
        have c7b0 : ((rdOf ByteArray.empty l0 x5_1).toList == (rdOf ByteArray.empty l1 x5_1).toList) = true := beq_iff_eq.mpr c7
        have c7b1 : ((rdOf ByteArray.empty l0 x5_1).toList != (rdOf ByteArray.empty l1 x5_1).toList) = false := bne_eq_false_iff_eq.mpr c7
        clear c7
        have H' := y0.mk H
        clear H
        have p373 : 0 ≤ (x5_1 : Int) := of_decide_eq_true (by first | (with_reducible assumption) | assumption)
        have q373 : x5_1 < (l0.length : Int) := of_decide_eq_true (by first | (with_reducible assumption) | assumption)
        obtain ⟨ad373,e373,hx373_0⟩ := Kd.at_string HR0.out x5_1 p373 q373
        cases e373
        replace p373 := eq_true p373
        replace q373 := eq_true q373
        have p374 : 0 ≤ (x5_1 : Int) := of_decide_eq_true (by first | (with_reducible assumption) | assumption)
        have q374 : x5_1 < (l1.length : Int) := of_decide_eq_true (by first | (with_reducible assumption) | assumption)
        obtain ⟨ad374,e374,hx374_0⟩ := Kd.at_string HR1.out x5_1 p374 q374
        cases e374
        replace p374 := eq_true p374
        replace q374 := eq_true q374
        go_wp2
        repeat (go_quiet (fail); try go_wp2)
        go_roundg k1
        case measure => have := HK1.out; omega
        case rel => exact ⟨(wrap64 (x5_1 + 1)),(by first | rfl | (simp; done) | (simp [*]; done)),H',⟨by have := HK1.out; omega⟩,by repeat (first | exact y1.refl _ | apply y1.step)⟩
       ·rw [if_neg c7] at H
        have c7b0 : ((rdOf ByteArray.empty l0 x5_1).toList == (rdOf ByteArray.empty l1 x5_1).toList) = false := beq_eq_false_iff_ne.mpr c7
        have c7b1 : ((rdOf ByteArray.empty l0 x5_1).toList != (rdOf ByteArray.empty l1 x5_1).toList) = true := bne_iff_ne.mpr c7
        exact absurd ((Option.some.inj H).trans htrue_) (by decide)
      ·rw [if_neg c6] at H
       exact absurd H (by simp)
     ·rw [if_neg c5] at H
      exact absurd H (by simp)
    ·rw [if_neg c4] at H
     have c4b0 : decide (x5_1 < (l0.length : Int)) = false := decide_eq_false c4
     clear c4
     obtain rfl := Option.some.inj H
     go_wp2
     repeat (go_quiet (fail); try go_wp2)
     go_ret
     exact ⟨by first | rfl | (simp; done) | (simp [*]; done),by repeat (first | exact y1.refl _ | apply y1.step)⟩
 ·rw [if_neg c3] at H
  have c3b0 : ((l0.length : Int) == (l1.length : Int)) = false := beq_eq_false_iff_ne.mpr c3
  have c3b1 : ((l0.length : Int) != (l1.length : Int)) = true := bne_iff_ne.mpr c3
  have c3b2 : (l0.length == l1.length) = false := by first | simpa using c3 | (simp at c3 ⊢; omega)
  exact absurd ((Option.some.inj H).trans htrue_) (by decide)
def laws_eqCon.f (k : Nat) (a0_0 : ByteArray) (l0_1 : List ByteArray) (a1_0 : ByteArray) (l1_1 : List ByteArray) : Option (Bool) := if a0_0.toList = a1_0.toList then ((laws_eqStringS.f k l0_1 l1_1).bind fun t377 => (if t377 = true then (some true) else (some false))) else (some false)
set_option maxHeartbeats 8000000 in
set_option maxRecDepth 100000 in
theorem laws_eqCon.calls (k : Nat) (a0_0 : ByteArray) (A0_1 : Option Addr) (c0_1 : Nat) (l0_1 : List ByteArray) (a1_0 : ByteArray) (A1_1 : Option Addr) (c1_1 : Nat) (l1_1 : List ByteArray) (r : Bool) (w : World) (hr0_1 : Kd.C Kd.string w A0_1 l0_1.length l0_1) (hc0_1 : l0_1.length ≤ c0_1) (hr1_1 : Kd.C Kd.string w A1_1 l1_1.length l1_1) (hc1_1 : l1_1.length ≤ c1_1) (h : laws_eqCon.f k a0_0 l0_1 a1_0 l1_1 = some r) (htrue_ : r = true) :
  Calls Tryz.prog 81 #[.agg #[.string a0_0,.slice A0_1 l0_1.length c0_1],.agg #[.string a1_0,.slice A1_1 l1_1.length c1_1]] w fun e w' => e = .returned (.bool r) ∧ Below w.heap.size w w' := by
 have hu131 := Tryz.underlying131
 have HR0_1 := y0.mk hr0_1
 have HC0_1 := y0.mk hc0_1
 clear hr0_1 hc0_1
 have HR1_1 := y0.mk hr1_1
 have HC1_1 := y0.mk hc1_1
 clear hr1_1 hc1_1
 have HB := y0.mk (Below.refl w.heap.size w)
 have H : (if a0_0.toList = a1_0.toList then ((laws_eqStringS.f k l0_1 l1_1).bind fun t377 => (if t377 = true then (some true) else (some false))) else (some false)) = some r := h
 clear h
 by_cases c3 : a0_0.toList = a1_0.toList
 ·rw [if_pos c3] at H
  have c3b0 : (a0_0.toList == a1_0.toList) = true := beq_iff_eq.mpr c3
  have c3b1 : (a0_0.toList != a1_0.toList) = false := bne_eq_false_iff_eq.mpr c3
  clear c3
  replace H := Option.bind_eq_some_iff.mp H
  obtain ⟨t377,A40,H⟩ := H
  replace H : (if t377 = true then (some true) else (some false)) = some r := H
  have A4 := y0.mk A40
  clear A40
  by_cases c5 : t377 = true
  ·subst c5
   have H1 : (some true) = some r := by rw [if_pos rfl] at H; exact H
   clear H
   have H := H1
   clear H1
   obtain rfl := Option.some.inj H
   go_enter Tryz.func81,Tryz.ntmps81
   go_wp2_with (first | ((with_reducible refine y19 (N := 2) rfl ?_); refine y15 ?hg (N := 2) ?hd (cs := #[.string a0_0,.slice A0_1 l0_1.length c0_1]) (t := 131) ?hr ?_; (case hd => rfl); (case hg => rfl); (case hr => first | (go_simp; done) | (go_simp; rfl)); intro gb375 hg w6 hbox hb; have n0_ := y0.mk (y7 (by repeat (first | (with_reducible first | exact HB.out | apply y3 | apply y23 | apply y4) | exact HB.out)) hb); have n1_ := y0.mk (hbox); have n2_ := y0.mk ((by rw [hg]; exact (y6 (by repeat (first | (with_reducible first | exact HB.out | apply y3 | apply y23 | apply y4) | exact HB.out))) : w.heap.size ≤ gb375)); have n3_ := y0.mk ((by rw [hg]; exact (y6 (by repeat (first | (with_reducible first | exact HB.out | apply y3 | apply y23 | apply y4) | exact HB.out))) : w.heap.size ≤ gb375)); clear HB; have HB := n0_; have BK375 := n1_; have GW375 := n2_; have GE375 := n3_; clear n0_ n1_ n2_ n3_; clear hb hbox hg) | ((with_reducible refine y19 (N := 3) rfl ?_); refine y15 ?hg (N := 3) ?hd (cs := #[.string a1_0,.slice A1_1 l1_1.length c1_1]) (t := 131) ?hr ?_; (case hd => rfl); (case hg => rfl); (case hr => first | (go_simp; done) | (go_simp; rfl)); intro gb376 hg w7 hbox hb; have n0_ := y0.mk (y9 (g := gb375) (o := .cells #[.string a0_0,.slice A0_1 l0_1.length c0_1] 131 (0,0)) (by (with_reducible repeat (first | refine y12 ?_ _ | refine y11 ?_ | refine y8 ?_ _)); exact BK375.out) hb); have n1_ := y0.mk (y7 (by repeat (first | (with_reducible first | exact HB.out | apply y3 | apply y23 | apply y4 | refine y5 ?_ GE375.out) | exact HB.out)) hb); have n2_ := y0.mk (hbox); have n3_ := y0.mk ((by rw [hg]; exact (y6 (by repeat (first | (with_reducible first | exact HB.out | apply y3 | apply y23 | apply y4 | refine y5 ?_ GE375.out) | exact HB.out))) : w.heap.size ≤ gb376)); have n4_ := y0.mk ((by rw [hg]; exact (y6 (by repeat (first | (with_reducible first | exact HB.out | apply y3 | apply y23 | apply y4 | refine y5 ?_ GE375.out) | exact HB.out))) : w.heap.size ≤ gb376)); have n5_ := y0.mk ((by rw [hg]; exact Nat.ne_of_lt (y14 (g := gb375) (o := .cells #[.string a0_0,.slice A0_1 l0_1.length c0_1] 131 (0,0)) (by (with_reducible repeat (first | refine y12 ?_ _ | refine y11 ?_ | refine y8 ?_ _)); exact BK375.out)) : gb375 ≠ gb376)); have n6_ := y0.mk ((by rw [hg]; exact Nat.ne_of_gt (y14 (g := gb375) (o := .cells #[.string a0_0,.slice A0_1 l0_1.length c0_1] 131 (0,0)) (by (with_reducible repeat (first | refine y12 ?_ _ | refine y11 ?_ | refine y8 ?_ _)); exact BK375.out)) : gb376 ≠ gb375)); clear BK375; clear HB; have BK375 := n0_; have HB := n1_; have BK376 := n2_; have GW376 := n3_; have GE376 := n4_; have NB375_376 := n5_; have NB376_375 := n6_; clear n0_ n1_ n2_ n3_ n4_ n5_ n6_; clear hb hbox hg; have hnb8 := NB375_376.out; have hnc8 := NB376_375.out; have hcz9_0 : w7.cell? ⟨gb375,0,none⟩ = some (.string a0_0) := (y10 BK375.out 0).trans rfl; have hcz9_1 : w7.cell? ⟨gb375,1,none⟩ = some (.slice A0_1 l0_1.length c0_1) := (y10 BK375.out 1).trans rfl; have hfz9_0 := y13 BK375.out 0; have hfz9_1 := y13 BK375.out 1; have hcz10_0 : w7.cell? ⟨gb376,0,none⟩ = some (.string a1_0) := (y10 BK376.out 0).trans rfl; have hcz10_1 : w7.cell? ⟨gb376,1,none⟩ = some (.slice A1_1 l1_1.length c1_1) := (y10 BK376.out 1).trans rfl; have hfz10_0 := y13 BK376.out 0; have hfz10_1 := y13 BK376.out 1) | ((with_reducible refine y18 (f := 28) rfl ?_); refine y20 (some 14) rfl rfl Tryz.func28 (by kernel_rfl) rfl #[.slice A0_1 l0_1.length c0_1,.slice A1_1 l1_1.length c1_1] rfl (by (try simp only [qM_,List.map_cons,List.map_nil]); first | done | rfl | (simp only [qD_,qT_]; rfl)) ?_; (with_reducible refine (laws_eqStringS.calls k _ _ l0_1 _ _ l1_1 true _ ?side1 ?side2 ?side3 ?side4 A4.out rfl).mono ?_); (case side1 => repeat (first | exact (Kd.C_below HR0_1.out HB.out) | (with_reducible refine Kd.C_alloc ?_ _) | (with_reducible refine Kd.C_drewN ?_ _) | (with_reducible refine Kd.C_drew ?_))); (case side2 => exact HC0_1.out); (case side3 => repeat (first | exact (Kd.C_below HR1_1.out HB.out) | (with_reducible refine Kd.C_alloc ?_ _) | (with_reducible refine Kd.C_drewN ?_ _) | (with_reducible refine Kd.C_drew ?_))); (case side4 => exact HC1_1.out); rintro e w' ⟨rfl,⟨nd,rfl⟩⟩; refine ⟨_,rfl, ?_⟩))
   go_ret
   exact ⟨by first | rfl | (simp [y16,y17] <;> rfl) | (simp [*,y16,y17] <;> rfl),by repeat (first | (with_reducible first | exact HB.out | apply y3 | apply y23 | apply y4 | refine y5 ?_ GE375.out | refine y5 ?_ GE376.out) | exact HB.out)⟩
  ·replace c5 := Bool.eq_false_iff.mpr c5
   subst c5
   have H1 : (some false) = some r := by rw [if_neg (show ¬ (false = true) by decide)] at H; exact H
   clear H
   have H := H1
   clear H1
   exact absurd ((Option.some.inj H).trans htrue_) (by decide)
 ·rw [if_neg c3] at H
  have c3b0 : (a0_0.toList == a1_0.toList) = false := beq_eq_false_iff_ne.mpr c3
  have c3b1 : (a0_0.toList != a1_0.toList) = true := bne_iff_ne.mpr c3
  exact absurd ((Option.some.inj H).trans htrue_) (by decide)
def laws_eqConS.l0 : Nat → List (S131) → List (S131) → Int → Option (Bool)
 | 0,_,_,_ => none
 | k + 1,x0,x1,x5 => if x5 < (x0.length : Int) then (if 0 ≤ x5 then (if x5 < (x1.length : Int) then ((laws_eqCon.f k ((rd_T131 x0 x5).f0) ((rd_T131 x0 x5).f1) ((rd_T131 x1 x5).f0) ((rd_T131 x1 x5).f1)).bind fun t380 => (if t380 = true then (laws_eqConS.l0 k x0 x1 (wrap64 (x5 + 1))) else (some false))) else (none)) else (none)) else (some true)
def laws_eqConS.f (k : Nat) (l0 : List (S131)) (l1 : List (S131)) : Option (Bool) := if (l0.length : Int) = (l1.length : Int) then (laws_eqConS.l0 k l0 l1 0) else (some false)
def laws_eqConS.T6 : Bool × List (List Nat × List Nat) := (true,[([],[]),([],[]),([0,1],[0,1]),([2],[2]),([],[]),([],[]),([4,5],[4,5]),([6],[6]),([3,7],[3,7]),([8],[8])])
def laws_eqConS.B6 : List Nat := [0,0,3,7,0,0,48,112,255,511]
theorem laws_eqConS.tab6 : rtab .any (opsOf Tryz.f59 6) = laws_eqConS.T6 := by kernel_rfl
theorem laws_eqConS.bits6 : waitsOk laws_eqConS.T6.2 laws_eqConS.B6 = true := by kernel_rfl
set_option maxHeartbeats 8000000 in
set_option maxRecDepth 100000 in
theorem laws_eqConS.calls (k : Nat) (A0 : Option Addr) (c0 : Nat) (l0 : List (S131)) (A1 : Option Addr) (c1 : Nat) (l1 : List (S131)) (r : Bool) (w : World) (hr0 : Kd.C k131 w A0 l0.length l0) (hc0 : l0.length ≤ c0) (hr1 : Kd.C k131 w A1 l1.length l1) (hc1 : l1.length ≤ c1) (h : laws_eqConS.f k l0 l1 = some r) (htrue_ : r = true) :
  Calls Tryz.prog 59 #[.slice A0 l0.length c0,.slice A1 l1.length c1] w fun e w' => e = .returned (.bool r) ∧ Below w.heap.size w w' := by
 have hu131 := Tryz.underlying131
 have HR0 := y0.mk hr0
 have HC0 := y0.mk hc0
 clear hr0 hc0
 have HR1 := y0.mk hr1
 have HC1 := y0.mk hc1
 clear hr1 hc1
 have HB := y0.mk (Below.refl w.heap.size w)
 have H : (if (l0.length : Int) = (l1.length : Int) then (laws_eqConS.l0 k l0 l1 0) else (some false)) = some r := h
 clear h
 by_cases c3 : (l0.length : Int) = (l1.length : Int)
 ·rw [if_pos c3] at H
  have c3b0 : ((l0.length : Int) == (l1.length : Int)) = true := beq_iff_eq.mpr c3
  have c3b1 : ((l0.length : Int) != (l1.length : Int)) = false := bne_eq_false_iff_eq.mpr c3
  have c3b2 : (l0.length == l1.length) = true := by first | simpa using c3 | (simp at c3 ⊢; omega)
  clear c3
  have H' := y0.mk H
  clear H
  go_enter Tryz.func59,Tryz.ntmps59
  go_wp2
  go_loopg [5] k (fun kq v5 w' => ∃ (x5_1 : Int),v5 = .int .i64 x5_1 ∧ y0 (laws_eqConS.l0 kq l0 l1 x5_1 = some r) ∧ y0 (kq ≤ k) ∧ y0 (Below w.heap.size w w'))
  case atStart => exact ⟨(0),(by first | rfl | (simp; done) | (simp [*]; done)),H',⟨Nat.le_refl _⟩,⟨by repeat (first | (with_reducible first | exact HB.out | apply y3 | apply y23 | apply y4) | exact HB.out)⟩⟩
  case round =>
   clear H'
   try clear c1
   try clear p2
   try clear c3
   try clear c3b0
   try clear c3b1
   try clear c3b2
   obtain ⟨x5_1,rfl,HA,HK1,HB⟩ := hrel
   cases gk with
   | zero => exact absurd HA.out (by simp [laws_eqConS.l0])
   | succ k1 =>
    have H := HA.out
    clear HA
    simp only [laws_eqConS.l0] at H
    by_cases c4 : x5_1 < (l0.length : Int)
    ·rw [if_pos c4] at H
     have c4b0 : decide (x5_1 < (l0.length : Int)) = true := decide_eq_true c4
     clear c4
     by_cases c5 : 0 ≤ x5_1
     ·rw [if_pos c5] at H
      have c5b0 : decide (0 ≤ x5_1) = true := decide_eq_true c5
      clear c5
      by_cases c6 : x5_1 < (l1.length : Int)
      ·rw [if_pos c6] at H
       have c6b0 : decide (x5_1 < (l1.length : Int)) = true := decide_eq_true c6
       clear c6
       replace H := Option.bind_eq_some_iff.mp H
       obtain ⟨t380,A70,H⟩ := H
       replace H : (if t380 = true then (laws_eqConS.l0 k1 l0 l1 (wrap64 (x5_1 + 1))) else (some false)) = some r := H
       have A7 := y0.mk A70
       clear A70
       by_cases c8 : t380 = true
       ·subst c8
        have H1 : (laws_eqConS.l0 k1 l0 l1 (wrap64 (x5_1 + 1))) = some r := by rw [if_pos rfl] at H; exact H
        clear H
        have H := H1
        clear H1
        have H' := y0.mk H
        clear H
        try go_wp2
        have n0_ := y0.mk (y4 HB.out)
        clear HB
        have HB := n0_
        clear n0_
        have p378 : 0 ≤ (x5_1 : Int) := of_decide_eq_true (by first | (with_reducible assumption) | assumption)
        have q378 : x5_1 < (l0.length : Int) := of_decide_eq_true (by first | (with_reducible assumption) | assumption)
        obtain ⟨ad378,A378_1,c378_1,e378,hx378_0,hx378_1,hl378_1,hi378_1⟩ := at_T131 HR0.out x5_1 p378 q378
        have hw378_1 := hx378_1
        have hw378_0 := hx378_0
        cases e378
        replace hx378_0 := (HB.out.cell (World.block_lt_of_cell? w _ hx378_0)).trans hx378_0
        replace hx378_1 := (HB.out.cell (World.block_lt_of_cell? w _ hx378_1)).trans hx378_1
        have HR378_1 := y0.mk hi378_1
        have HC378_1 := y0.mk hl378_1
        clear hi378_1 hl378_1
        replace p378 := eq_true p378
        replace q378 := eq_true q378
        have p379 : 0 ≤ (x5_1 : Int) := of_decide_eq_true (by first | (with_reducible assumption) | assumption)
        have q379 : x5_1 < (l1.length : Int) := of_decide_eq_true (by first | (with_reducible assumption) | assumption)
        obtain ⟨ad379,A379_1,c379_1,e379,hx379_0,hx379_1,hl379_1,hi379_1⟩ := at_T131 HR1.out x5_1 p379 q379
        have hw379_1 := hx379_1
        have hw379_0 := hx379_0
        cases e379
        replace hx379_0 := (HB.out.cell (World.block_lt_of_cell? w _ hx379_0)).trans hx379_0
        replace hx379_1 := (HB.out.cell (World.block_lt_of_cell? w _ hx379_1)).trans hx379_1
        have HR379_1 := y0.mk hi379_1
        have HC379_1 := y0.mk hl379_1
        clear hi379_1 hl379_1
        replace p379 := eq_true p379
        replace q379 := eq_true q379
        refine start_ (n := 10) (S := fun w' => w'.cell? (ad378.add ((x5_1).toNat * 2)) = some (.string ((rd_T131 l0 x5_1).f0)) ∧ w'.cell? ⟨(ad378.add ((x5_1).toNat * 2)).block,(ad378.add ((x5_1).toNat * 2)).off + 1,none⟩ = some (.slice A378_1 ((rd_T131 l0 x5_1).f1).length c378_1) ∧ w'.cell? (ad379.add ((x5_1).toNat * 2)) = some (.string ((rd_T131 l1 x5_1).f0)) ∧ w'.cell? ⟨(ad379.add ((x5_1).toNat * 2)).block,(ad379.add ((x5_1).toNat * 2)).off + 1,none⟩ = some (.slice A379_1 ((rd_T131 l1 x5_1).f1).length c379_1)) (ds := []) (fl_ 10 0) (by kernel_rfl) rfl rfl ⟨((HB.out.cell (World.block_lt_of_cell? w _ hw378_0)).trans hw378_0),((HB.out.cell (World.block_lt_of_cell? w _ hw378_1)).trans hw378_1),((HB.out.cell (World.block_lt_of_cell? w _ hw379_0)).trans hw379_0),((HB.out.cell (World.block_lt_of_cell? w _ hw379_1)).trans hw379_1)⟩ (fun hHeld => ?_); refine with_tabW laws_eqConS.tab6 laws_eqConS.bits6 (fun HT_ HW_ => ?_)
        generalize wr.drew = w9 at HB HR378_1 HR379_1 hx378_0 hx378_1 hx379_0 hx379_1 hHeld ⊢
        refine pure_ (i := 0) (N := some 17) (v := ?_) (a' := ?_) (fl_ 10 1) rfl rfl (y2 HT_.out (by kernel_rfl)) (fun _ _ _ h => h) (Or.inl ⟨by rfl, ?_⟩) ?_ ?_
        rotate_left
        ·intro w'
         go_simp
         with_reducible rfl
        rotate_left
        ·simp only [Act.put,qS_,qZ_,qC_,y22,y21]
         rfl
        refine pure_ (i := 1) (N := some 18) (v := ?_) (a' := ?_) (fl_ 10 3) rfl rfl (y2 HT_.out (by kernel_rfl)) (fun _ _ _ h => h) (Or.inl ⟨by rfl, ?_⟩) ?_ ?_
        rotate_left
        ·intro w'
         go_simp
         with_reducible rfl
        rotate_left
        ·simp only [Act.put,qS_,qZ_,qC_,y22,y21]
         rfl
        refine pure_ (i := 2) (N := some 19) (v := ?_) (a' := ?_) (fl_ 10 7) rfl rfl (y2 HT_.out (by kernel_rfl)) (fun _ _ _ h => h) (Or.inl ⟨by rfl, ?_⟩) ?_ ?_
        rotate_left
        ·intro w'
         go_simp
         with_reducible rfl
        rotate_left
        ·simp only [Act.put,qS_,qZ_,qC_,y22,y21]
         rfl
        refine pure_ (i := 4) (N := some 21) (v := ?_) (a' := ?_) (fl_ 10 23) rfl rfl (y2 HT_.out (by kernel_rfl)) (fun _ _ _ h => h) (Or.inl ⟨by rfl, ?_⟩) ?_ ?_
        rotate_left
        ·intro w'
         go_simp
         with_reducible rfl
        rotate_left
        ·simp only [Act.put,qS_,qZ_,qC_,y22,y21]
         rfl
        refine pure_ (i := 5) (N := some 22) (v := ?_) (a' := ?_) (fl_ 10 55) rfl rfl (y2 HT_.out (by kernel_rfl)) (fun _ _ _ h => h) (Or.inl ⟨by rfl, ?_⟩) ?_ ?_
        rotate_left
        ·intro w'
         go_simp
         with_reducible rfl
        rotate_left
        ·simp only [Act.put,qS_,qZ_,qC_,y22,y21]
         rfl
        refine pure_ (i := 6) (N := some 23) (v := ?_) (a' := ?_) (fl_ 10 119) rfl rfl (y2 HT_.out (by kernel_rfl)) (fun _ _ _ h => h) (Or.inl ⟨by rfl, ?_⟩) ?_ ?_
        rotate_left
        ·intro w'
         go_simp
         with_reducible rfl
        rotate_left
        ·simp only [Act.put,qS_,qZ_,qC_,y22,y21]
         rfl
        refine take_ (i := 3) (N := some 20) (v := ?_) (a' := ?_) (fl_ 10 127) rfl rfl (take_ofW HT_.out HW_.out (by kernel_rfl)) (fun _ _ _ h => h) (Or.inl ⟨by rfl, ?_⟩) hHeld ?_ ?_
        rotate_left
        ·rintro w' ⟨s0,s1,s2,s3⟩
         go_simp
         with_reducible rfl
        rotate_left
        ·simp only [Act.put,qS_,qZ_,qC_,y22,y21]
         rfl
        refine take_ (i := 7) (N := some 24) (v := ?_) (a' := ?_) (fl_ 10 255) rfl rfl (take_ofW HT_.out HW_.out (by kernel_rfl)) (fun _ _ _ h => h) (Or.inl ⟨by rfl, ?_⟩) hHeld ?_ ?_
        rotate_left
        ·rintro w' ⟨s0,s1,s2,s3⟩
         go_simp
         with_reducible rfl
        rotate_left
        ·simp only [Act.put,qS_,qZ_,qC_,y22,y21]
         rfl
        refine one_ (i := 8) (N := some 25) (fl_ 10 511) rfl rfl (one_of HT_.out (by kernel_rfl)) (by decide) (fun K hK => ?_)
        refine goes_ Tryz.func81 (by kernel_rfl) rfl #[.agg #[.string ((rd_T131 l0 x5_1).f0),.slice A378_1 ((rd_T131 l0 x5_1).f1).length c378_1],.agg #[.string ((rd_T131 l1 x5_1).f0),.slice A379_1 ((rd_T131 l1 x5_1).f1).length c379_1]] (by rfl) rfl rfl (by (try simp only [qM_,List.map_cons,List.map_nil]); first | done | rfl | (simp only [qD_,qT_]; rfl)) ?_
        with_reducible refine (laws_eqCon.calls k1 ((rd_T131 l0 x5_1).f0) _ _ ((rd_T131 l0 x5_1).f1) ((rd_T131 l1 x5_1).f0) _ _ ((rd_T131 l1 x5_1).f1) true _ ?side1 ?side2 ?side3 ?side4 A7.out rfl).mono ?_
        (case side1 => repeat (first | exact (Kd.C_below HR378_1.out HB.out) | (with_reducible refine Kd.C_alloc ?_ _) | (with_reducible refine Kd.C_drewN ?_ _) | (with_reducible refine Kd.C_drew ?_)))
        (case side2 => exact HC378_1.out)
        (case side3 => repeat (first | exact (Kd.C_below HR379_1.out HB.out) | (with_reducible refine Kd.C_alloc ?_ _) | (with_reducible refine Kd.C_drewN ?_ _) | (with_reducible refine Kd.C_drew ?_)))
        (case side4 => exact HC379_1.out)
        rintro e w10 ⟨rfl,hb⟩
        refine ⟨_,rfl, ?_⟩
        have n0_ := y0.mk (y7 (by repeat (first | (with_reducible first | exact HB.out | apply y3 | apply y23 | apply y4) | exact HB.out)) hb)
        clear HB
        have HB := n0_
        clear n0_
        (try clear hb)
        (try clear hb2)
        (try clear hk)
        (try clear hi)
        refine hK.out _ _ ⟨((HB.out.cell (World.block_lt_of_cell? w _ hw378_0)).trans hw378_0),((HB.out.cell (World.block_lt_of_cell? w _ hw378_1)).trans hw378_1),((HB.out.cell (World.block_lt_of_cell? w _ hw379_0)).trans hw379_0),((HB.out.cell (World.block_lt_of_cell? w _ hw379_1)).trans hw379_1)⟩ (fun hHeld => ?_)
        clear hK K
        refine norm_ (a' := ?_) ?_ ?_
        rotate_left
        ·show Act.put _ (some 25) _ = _
         simp only [Act.put,qS_,qZ_,qC_,y22,y21]
         rfl
        refine pure_ (i := 9) (N := some 26) (v := ?_) (a' := ?_) (fl_ 10 1023) rfl rfl (y2 HT_.out (by kernel_rfl)) (fun _ _ _ h => h) (Or.inl ⟨by rfl, ?_⟩) ?_ ?_
        rotate_left
        ·intro w'
         go_simp
         with_reducible rfl
        rotate_left
        ·simp only [Act.put,qS_,qZ_,qC_,y22,y21]
         rfl
        refine done_ (done_of HT_.out (by kernel_rfl)) ?_
        try go_wp2
        go_roundg k1
        case measure => have := HK1.out; omega
        case rel => exact ⟨(wrap64 (x5_1 + 1)),(by first | rfl | (simp; done) | (simp [*]; done)),H',⟨by have := HK1.out; omega⟩,⟨by repeat (first | (with_reducible first | exact HB.out | apply y3 | apply y23 | apply y4) | exact HB.out)⟩⟩
       ·replace c8 := Bool.eq_false_iff.mpr c8
        subst c8
        have H1 : (some false) = some r := by rw [if_neg (show ¬ (false = true) by decide)] at H; exact H
        clear H
        have H := H1
        clear H1
        exact absurd ((Option.some.inj H).trans htrue_) (by decide)
      ·rw [if_neg c6] at H
       exact absurd H (by simp)
     ·rw [if_neg c5] at H
      exact absurd H (by simp)
    ·rw [if_neg c4] at H
     have c4b0 : decide (x5_1 < (l0.length : Int)) = false := decide_eq_false c4
     clear c4
     obtain rfl := Option.some.inj H
     go_wp2
     go_ret
     exact ⟨by first | rfl | (simp [y16,y17] <;> rfl) | (simp [*,y16,y17] <;> rfl),by repeat (first | (with_reducible first | exact HB.out | apply y3 | apply y23 | apply y4) | exact HB.out)⟩
 ·rw [if_neg c3] at H
  have c3b0 : ((l0.length : Int) == (l1.length : Int)) = false := beq_eq_false_iff_ne.mpr c3
  have c3b1 : ((l0.length : Int) != (l1.length : Int)) = true := bne_iff_ne.mpr c3
  have c3b2 : (l0.length == l1.length) = false := by first | simpa using c3 | (simp at c3 ⊢; omega)
  exact absurd ((Option.some.inj H).trans htrue_) (by decide)
def laws_eqTypeDecl.f (k : Nat) (a0_0 : ByteArray) (l0_1 : List (S131)) (a1_0 : ByteArray) (l1_1 : List (S131)) : Option (Bool) := if a0_0.toList = a1_0.toList then ((laws_eqConS.f k l0_1 l1_1).bind fun t383 => (if t383 = true then (some true) else (some false))) else (some false)
set_option maxHeartbeats 8000000 in
set_option maxRecDepth 100000 in
theorem laws_eqTypeDecl.calls (k : Nat) (a0_0 : ByteArray) (A0_1 : Option Addr) (c0_1 : Nat) (l0_1 : List (S131)) (a1_0 : ByteArray) (A1_1 : Option Addr) (c1_1 : Nat) (l1_1 : List (S131)) (r : Bool) (w : World) (hr0_1 : Kd.C k131 w A0_1 l0_1.length l0_1) (hc0_1 : l0_1.length ≤ c0_1) (hr1_1 : Kd.C k131 w A1_1 l1_1.length l1_1) (hc1_1 : l1_1.length ≤ c1_1) (h : laws_eqTypeDecl.f k a0_0 l0_1 a1_0 l1_1 = some r) (htrue_ : r = true) :
  Calls Tryz.prog 40 #[.agg #[.string a0_0,.slice A0_1 l0_1.length c0_1],.agg #[.string a1_0,.slice A1_1 l1_1.length c1_1]] w fun e w' => e = .returned (.bool r) ∧ Below w.heap.size w w' := by
 have hu77 := Tryz.underlying77
 have HR0_1 := y0.mk hr0_1
 have HC0_1 := y0.mk hc0_1
 clear hr0_1 hc0_1
 have HR1_1 := y0.mk hr1_1
 have HC1_1 := y0.mk hc1_1
 clear hr1_1 hc1_1
 have HB := y0.mk (Below.refl w.heap.size w)
 have H : (if a0_0.toList = a1_0.toList then ((laws_eqConS.f k l0_1 l1_1).bind fun t383 => (if t383 = true then (some true) else (some false))) else (some false)) = some r := h
 clear h
 by_cases c3 : a0_0.toList = a1_0.toList
 ·rw [if_pos c3] at H
  have c3b0 : (a0_0.toList == a1_0.toList) = true := beq_iff_eq.mpr c3
  have c3b1 : (a0_0.toList != a1_0.toList) = false := bne_eq_false_iff_eq.mpr c3
  clear c3
  replace H := Option.bind_eq_some_iff.mp H
  obtain ⟨t383,A40,H⟩ := H
  replace H : (if t383 = true then (some true) else (some false)) = some r := H
  have A4 := y0.mk A40
  clear A40
  by_cases c5 : t383 = true
  ·subst c5
   have H1 : (some true) = some r := by rw [if_pos rfl] at H; exact H
   clear H
   have H := H1
   clear H1
   obtain rfl := Option.some.inj H
   go_enter Tryz.func40,Tryz.ntmps40
   go_wp2_with (first | ((with_reducible refine y19 (N := 2) rfl ?_); refine y15 ?hg (N := 2) ?hd (cs := #[.string a0_0,.slice A0_1 l0_1.length c0_1]) (t := 77) ?hr ?_; (case hd => rfl); (case hg => rfl); (case hr => first | (go_simp; done) | (go_simp; rfl)); intro gb381 hg w6 hbox hb; have n0_ := y0.mk (y7 (by repeat (first | (with_reducible first | exact HB.out | apply y3 | apply y23 | apply y4) | exact HB.out)) hb); have n1_ := y0.mk (hbox); have n2_ := y0.mk ((by rw [hg]; exact (y6 (by repeat (first | (with_reducible first | exact HB.out | apply y3 | apply y23 | apply y4) | exact HB.out))) : w.heap.size ≤ gb381)); have n3_ := y0.mk ((by rw [hg]; exact (y6 (by repeat (first | (with_reducible first | exact HB.out | apply y3 | apply y23 | apply y4) | exact HB.out))) : w.heap.size ≤ gb381)); clear HB; have HB := n0_; have BK381 := n1_; have GW381 := n2_; have GE381 := n3_; clear n0_ n1_ n2_ n3_; clear hb hbox hg) | ((with_reducible refine y19 (N := 3) rfl ?_); refine y15 ?hg (N := 3) ?hd (cs := #[.string a1_0,.slice A1_1 l1_1.length c1_1]) (t := 77) ?hr ?_; (case hd => rfl); (case hg => rfl); (case hr => first | (go_simp; done) | (go_simp; rfl)); intro gb382 hg w7 hbox hb; have n0_ := y0.mk (y9 (g := gb381) (o := .cells #[.string a0_0,.slice A0_1 l0_1.length c0_1] 77 (0,0)) (by (with_reducible repeat (first | refine y12 ?_ _ | refine y11 ?_ | refine y8 ?_ _)); exact BK381.out) hb); have n1_ := y0.mk (y7 (by repeat (first | (with_reducible first | exact HB.out | apply y3 | apply y23 | apply y4 | refine y5 ?_ GE381.out) | exact HB.out)) hb); have n2_ := y0.mk (hbox); have n3_ := y0.mk ((by rw [hg]; exact (y6 (by repeat (first | (with_reducible first | exact HB.out | apply y3 | apply y23 | apply y4 | refine y5 ?_ GE381.out) | exact HB.out))) : w.heap.size ≤ gb382)); have n4_ := y0.mk ((by rw [hg]; exact (y6 (by repeat (first | (with_reducible first | exact HB.out | apply y3 | apply y23 | apply y4 | refine y5 ?_ GE381.out) | exact HB.out))) : w.heap.size ≤ gb382)); have n5_ := y0.mk ((by rw [hg]; exact Nat.ne_of_lt (y14 (g := gb381) (o := .cells #[.string a0_0,.slice A0_1 l0_1.length c0_1] 77 (0,0)) (by (with_reducible repeat (first | refine y12 ?_ _ | refine y11 ?_ | refine y8 ?_ _)); exact BK381.out)) : gb381 ≠ gb382)); have n6_ := y0.mk ((by rw [hg]; exact Nat.ne_of_gt (y14 (g := gb381) (o := .cells #[.string a0_0,.slice A0_1 l0_1.length c0_1] 77 (0,0)) (by (with_reducible repeat (first | refine y12 ?_ _ | refine y11 ?_ | refine y8 ?_ _)); exact BK381.out)) : gb382 ≠ gb381)); clear BK381; clear HB; have BK381 := n0_; have HB := n1_; have BK382 := n2_; have GW382 := n3_; have GE382 := n4_; have NB381_382 := n5_; have NB382_381 := n6_; clear n0_ n1_ n2_ n3_ n4_ n5_ n6_; clear hb hbox hg; have hnb8 := NB381_382.out; have hnc8 := NB382_381.out; have hcz9_0 : w7.cell? ⟨gb381,0,none⟩ = some (.string a0_0) := (y10 BK381.out 0).trans rfl; have hcz9_1 : w7.cell? ⟨gb381,1,none⟩ = some (.slice A0_1 l0_1.length c0_1) := (y10 BK381.out 1).trans rfl; have hfz9_0 := y13 BK381.out 0; have hfz9_1 := y13 BK381.out 1; have hcz10_0 : w7.cell? ⟨gb382,0,none⟩ = some (.string a1_0) := (y10 BK382.out 0).trans rfl; have hcz10_1 : w7.cell? ⟨gb382,1,none⟩ = some (.slice A1_1 l1_1.length c1_1) := (y10 BK382.out 1).trans rfl; have hfz10_0 := y13 BK382.out 0; have hfz10_1 := y13 BK382.out 1) | ((with_reducible refine y18 (f := 59) rfl ?_); refine y20 (some 14) rfl rfl Tryz.func59 (by kernel_rfl) rfl #[.slice A0_1 l0_1.length c0_1,.slice A1_1 l1_1.length c1_1] rfl (by (try simp only [qM_,List.map_cons,List.map_nil]); first | done | rfl | (simp only [qD_,qT_]; rfl)) ?_; (with_reducible refine (laws_eqConS.calls k _ _ l0_1 _ _ l1_1 true _ ?side1 ?side2 ?side3 ?side4 A4.out rfl).mono ?_); (case side1 => repeat (first | exact (Kd.C_below HR0_1.out HB.out) | (with_reducible refine Kd.C_alloc ?_ _) | (with_reducible refine Kd.C_drewN ?_ _) | (with_reducible refine Kd.C_drew ?_))); (case side2 => exact HC0_1.out); (case side3 => repeat (first | exact (Kd.C_below HR1_1.out HB.out) | (with_reducible refine Kd.C_alloc ?_ _) | (with_reducible refine Kd.C_drewN ?_ _) | (with_reducible refine Kd.C_drew ?_))); (case side4 => exact HC1_1.out); rintro e w11 ⟨rfl,hb⟩; refine ⟨_,rfl, ?_⟩; have n0_ := y0.mk (y9 (g := gb381) (o := .cells #[.string a0_0,.slice A0_1 l0_1.length c0_1] 77 (0,0)) (by (with_reducible repeat (first | refine y12 ?_ _ | refine y11 ?_ | refine y8 ?_ _)); exact BK381.out) hb); have n1_ := y0.mk (y9 (g := gb382) (o := .cells #[.string a1_0,.slice A1_1 l1_1.length c1_1] 77 (0,0)) (by (with_reducible repeat (first | refine y12 ?_ _ | refine y11 ?_ | refine y8 ?_ _)); exact BK382.out) hb); have n2_ := y0.mk (y7 (by repeat (first | (with_reducible first | exact HB.out | apply y3 | apply y23 | apply y4 | refine y5 ?_ GE381.out | refine y5 ?_ GE382.out) | exact HB.out)) hb); clear BK381; clear BK382; clear HB; have BK381 := n0_; have BK382 := n1_; have HB := n2_; clear n0_ n1_ n2_; (try clear hb); (try clear hb2); (try clear hk); (try clear hi)))
   go_ret
   exact ⟨by first | rfl | (simp [y16,y17] <;> rfl) | (simp [*,y16,y17] <;> rfl),by repeat (first | (with_reducible first | exact HB.out | apply y3 | apply y23 | apply y4 | refine y5 ?_ GE381.out | refine y5 ?_ GE382.out) | exact HB.out)⟩
  ·replace c5 := Bool.eq_false_iff.mpr c5
   subst c5
   have H1 : (some false) = some r := by rw [if_neg (show ¬ (false = true) by decide)] at H; exact H
   clear H
   have H := H1
   clear H1
   exact absurd ((Option.some.inj H).trans htrue_) (by decide)
 ·rw [if_neg c3] at H
  have c3b0 : (a0_0.toList == a1_0.toList) = false := beq_eq_false_iff_ne.mpr c3
  have c3b1 : (a0_0.toList != a1_0.toList) = true := bne_iff_ne.mpr c3
  exact absurd ((Option.some.inj H).trans htrue_) (by decide)
end Go.Proofs.YtamjmldfifofbaaGreatDoor.Pf
end
