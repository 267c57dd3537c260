-- Cut by prune.py, a program of this session, out of the texts of this claim: Lean checks it.
import Derived.Test.YtkajecadkkgfmaaGreatDoorVptPex0
import Derived.Test.YtkajecadkkgfmaaGreatDoorVptPex11
import Derived.Test.YtkajecadkkgfmaaGreatDoorVptPex19
section
namespace Go.Proofs.YtkajecadkkgfmaaGreatDoor.Pe
open Go.RowKit Go.Proofs.YtkajecadkkgfmaaGreatDoorW.PrintWords Go.Proofs.YtkajecadkkgfmaaGreatDoorW.PrintLast Go.Proofs.YtkajecadkkgfmaaGreatDoorW.PrintMore
attribute [local go_sem] max2_int min2_int max_two min_two max_three min_three max_four min_four   -- for this text's walks alone
set_option linter.unusedVariables false
set_option linter.unusedSimpArgs false
def laws_markText.l0 : Nat → Int → ByteArray → Option (ByteArray)
 | 0,_,_ => none
 | k + 1,x0,x3 => if x0 > 0 then ((some (([(wrap64 (48 + (Int.tmod x0 10))) % 256] : List Int) : List Int)).bind fun y445 => (if (strOfNums y445).size + x3.size ≤ 9223372036854775807 then (laws_markText.l0 k (wrap64 (Int.tdiv x0 10)) ((strOfNums y445) ++ x3)) else (none))) else (if 1 + x3.size ≤ 9223372036854775807 then (some ((⟨#[109]⟩ : ByteArray) ++ x3)) else (none))
def laws_markText.f (k : Nat) (a0 : Int) : Option (ByteArray) := if a0 ≤ 0 then (some (⟨#[109,48]⟩ : ByteArray)) else (laws_markText.l0 k a0 (⟨#[]⟩ : ByteArray))
set_option maxHeartbeats 8000000 in
set_option maxRecDepth 100000 in
theorem laws_markText.calls (k : Nat) (a0 : Int) (r : ByteArray) (w : World) (h : laws_markText.f k a0 = some r) :
  Calls Tryz.prog 77 #[.int .i64 a0] w fun e w' => e = .returned (.string r) ∧ Below w.heap.size w w' := by
 have HB := y0.mk (Below.refl w.heap.size w)
 have H : (if a0 ≤ 0 then (some (⟨#[109,48]⟩ : ByteArray)) else (laws_markText.l0 k a0 (⟨#[]⟩ : ByteArray))) = some r := h
 clear h
 by_cases c2 : a0 ≤ 0
 ·rw [if_pos c2] at H
  have c2b0 := decide_eq_true c2
  clear c2
  obtain rfl := Option.some.inj H
  go_enter Tryz.func77,Tryz.ntmps77
  go_wp2
  go_ret
  exact ⟨by first | rfl | (simp [y13,y14] <;> rfl) | (simp [*,y13,y14] <;> rfl),qb⟩
 ·rw [if_neg c2] at H
  have c2b0 := decide_eq_false c2
  clear c2
  have H' := y0.mk H
  clear H
  go_enter Tryz.func77,Tryz.ntmps77
  go_wp2
  go_loopg [0,3] k (fun kq v0 v3 w' => ∃ (x0_1 : Int) (x3_1 : ByteArray),v0 = .int .i64 x0_1 ∧ v3 = .string x3_1 ∧ y0 (laws_markText.l0 kq x0_1 x3_1 = some r) ∧ y0 (kq ≤ k) ∧ y0 (Below w.heap.size w w'))
  case atStart => exact ⟨(a0),((⟨#[]⟩ : ByteArray)),qy2,qy2,H',⟨Nat.le_refl _⟩,⟨qb⟩⟩
  case round =>
   clear H'
   (try clear c2b0)
   obtain ⟨x0_1,x3_1,rfl,rfl,HA,HK1,HB⟩ := hrel
   cases gk with
   | zero => exact absurd HA.out (by simp [laws_markText.l0])
   | succ k1 =>
    have H := HA.out
    clear HA
    simp only [laws_markText.l0] at H
    by_cases c3 : x0_1 > 0
    ·rw [if_pos c3] at H
     have c3b0 : decide (0 < x0_1) = true := decide_eq_true c3
     clear c3
     obtain ⟨y445,hy445⟩ : ∃ y_ : List Int,y_ = (([(wrap64 (48 + (Int.tmod x0_1 10))) % 256] : List Int)) := ⟨_,rfl⟩
     replace H : (if (strOfNums y445).size + x3_1.size ≤ 9223372036854775807 then (laws_markText.l0 k1 (wrap64 (Int.tdiv x0_1 10)) ((strOfNums y445) ++ x3_1)) else (none)) = some r := by first | (rw [hy445]; with_reducible exact H) | (have H2_ := (Option.bind_some _ _).symm.trans H; rw [hy445]; with_reducible exact H2_) | (have H2_ := (Option.bind_some _ _).symm.trans H; with_reducible exact H2_) | with_reducible exact H | (rw [hy445]; exact H) | exact H
     have Ny445 := y0.mk hy445
     clear hy445
     obtain ⟨c4,H⟩ := qo H
     have c4b0 := eq_true c4
     have c4b1 := decide_eq_true c4
     have c4b2 := eq_false (Nat.not_lt.2 c4)
     have H' := y0.mk H
     clear H
     go_wp2_with (first | ((with_reducible refine y16 (N := 12) rfl ?_); refine Kd.R_lit (Kd.int .u8) _ 5 ?hg (N := 12) ?hd (xs := ([(wrap64 (48 + (Int.tmod x0_1 10))) % 256] : List Int)) (inner := [.int .u8 ((wrap64 (48 + (Int.tmod x0_1 10))) % 256)]) (ok := fun _ => True) (okp := fun _ => True) ?hr ?hp (fun _ hk => hk) trivial (Below.refl _ _) (Nat.le_refl _) (by simp) ?_; (case hd => rfl); (case hg => rfl); (case hr => first | (go_simp; done) | (go_simp; rfl)); (case hp => exact (Reps.one (show Kd.M (Kd.int .u8) _ _ _ ((wrap64 (48 + (Int.tmod x0_1 10))) % 256) [.int .u8 ((wrap64 (48 + (Int.tmod x0_1 10))) % 256)] from rfl) (Reps.none _ _))); intro v446 w5 ho6 hb hg_ hnew_; clear hg_ hnew_; (first | rw [← Ny445.out] at ho6 | (simp only [Int.reduceToNat] at ho6; rw [← Ny445.out] at ho6)); have HO447 := y0.mk (Kd.R_lower ho6 (y5 qb)); replace HB := y0.mk (y6 qb hb); clear hb ho6; have hcv7 := own_string (P := Tryz.prog) Tryz.underlying43 Tryz.underlying5 Tryz.underlying9 (Kd.own_of_R HO447.out)))
     go_roundg k1
     case measure => have := HK1.out; omega
     exact ⟨(wrap64 (Int.tdiv x0_1 10)),((strOfNums y445) ++ x3_1),qy2,qy2,H',⟨by have := HK1.out; omega⟩,⟨qb⟩⟩
    ·rw [if_neg c3] at H
     have c3b0 : decide (0 < x0_1) = false := decide_eq_false c3
     clear c3
     obtain ⟨c8,H⟩ := qo H
     have c8b0 := eq_true c8
     have c8b1 := decide_eq_true c8
     have c8b2 := eq_false (Nat.not_lt.2 c8)
     obtain rfl := Option.some.inj H
     go_wp2
     go_ret
     exact ⟨by first | rfl | (simp [y13,y14] <;> rfl) | (simp [*,y13,y14] <;> rfl),qb⟩
def laws_markStringS.l0 : Nat → List ByteArray → Int → Int → Option (Int × List ByteArray)
 | 0,_,_,_ => none
 | k + 1,x0,x1,x5 => if x5 < (x0.length : Int) then ((laws_markText.f k x1).bind fun t448 => (if 0 ≤ x5 then (laws_markStringS.l0 k (x0.set (x5 : Int).toNat t448) (wrap64 (x1 + 1)) (wrap64 (x5 + 1))) else (none))) else (some (x1,x0))
def laws_markStringS.f (k : Nat) (l0 : List ByteArray) (a1 : Int) : Option (Int × List ByteArray) := laws_markStringS.l0 k l0 a1 0
set_option maxHeartbeats 8000000 in
set_option maxRecDepth 100000 in
theorem laws_markStringS.calls (k : Nat) (P0_ : Nat → Prop) (u9000_ : Value) (l0 : List ByteArray) (a1 : Int) (r1 : Int) (r2 : List ByteArray) (w0 w : World) (hB : Below w0.heap.size w0 w) (ho0 : Kd.R Kd.string 9 w w0.heap.size P0_ u9000_ l0) (h : laws_markStringS.f k l0 a1 = some (r1,r2)) :
  Calls Tryz.prog 50 #[u9000_,.int .i64 a1] w fun e w' => e = .returned (.int .i64 r1) ∧ Kd.R Kd.string 9 w' w0.heap.size (fun k_ => (P0_ k_ ∨ w.heap.size ≤ k_)) u9000_ r2 ∧ Below w0.heap.size w0 w' ∧ Kept w w' (fun k_ => P0_ k_) := by
 have HO0 := y0.mk (show Kd.R Kd.string 9 w w0.heap.size (fun k_ => (P0_ k_ ∨ w.heap.size ≤ k_)) u9000_ l0 from Kd.R_mono ho0 (fun k_ hk => (.inl hk)))
 have HK := y0.mk (Kept.refl w (fun k_ => P0_ k_))
 have HW0 := y0.mk hB.size
 have HB := y0.mk hB
 clear hB
 have H : (laws_markStringS.l0 k l0 a1 0) = some (r1,r2) := h
 clear h
 have H' := y0.mk H
 clear H
 go_enter Tryz.func50,Tryz.ntmps50
 go_wp2
 go_loopg [1,5] k (fun kq v1 v5 w' => ∃ (x0_1 : List ByteArray) (x1_1 : Int) (x5_1 : Int),v1 = .int .i64 x1_1 ∧ v5 = .int .i64 x5_1 ∧ y0 (laws_markStringS.l0 kq x0_1 x1_1 x5_1 = some (r1,r2)) ∧ y0 (kq ≤ k) ∧ y0 (Kd.R Kd.string 9 w' w0.heap.size (fun k_ => (P0_ k_ ∨ w.heap.size ≤ k_)) u9000_ x0_1) ∧ y0 (Kept w w' (fun k_ => P0_ k_)) ∧ y0 (Below w0.heap.size w0 w'))
 case atStart => exact ⟨(l0),(a1),(0),qy2,qy2,H',⟨Nat.le_refl _⟩,⟨qR HO0.out⟩,⟨by repeat (first | (with_reducible first | exact HK.out | apply Kept.alloc | apply Kept.drewN | apply Kept.drew) | exact HK.out)⟩,⟨qb⟩⟩
 case round =>
  clear H'
  obtain ⟨x0_1,x1_1,x5_1,rfl,rfl,HA,HK1,HO_0,HK,HB⟩ := hrel
  cases gk with
  | zero => exact absurd HA.out (by simp [laws_markStringS.l0])
  | succ k1 =>
   have H := HA.out
   clear HA
   simp only [laws_markStringS.l0] at H
   by_cases c3 : x5_1 < (x0_1.length : Int)
   ·rw [if_pos c3] at H
    have c3b0 := decide_eq_true c3
    clear c3
    obtain ⟨t448,A4,H⟩ := qB H
    obtain ⟨c5,H⟩ := qo H
    have c5b0 : decide (0 ≤ x5_1) = true := decide_eq_true c5
    clear c5
    obtain ⟨y449,hy449⟩ : ∃ y_ : List ByteArray,y_ = (x0_1.set (x5_1 : Int).toNat t448) := ⟨_,rfl⟩
    replace H : (laws_markStringS.l0 k1 y449 (wrap64 (x1_1 + 1)) (wrap64 (x5_1 + 1))) = some (r1,r2) := by first | (rw [hy449]; with_reducible exact H) | (have H2_ := (Option.bind_some _ _).symm.trans H; rw [hy449]; with_reducible exact H2_) | (have H2_ := (Option.bind_some _ _).symm.trans H; with_reducible exact H2_) | with_reducible exact H | (rw [hy449]; exact H) | exact H
    have Ny449 := y0.mk hy449
    clear hy449
    have H' := y0.mk H
    clear H
    obtain ⟨Ao7,co7,eo7⟩ := Kd.R_slice HO_0.out
    subst eo7
    go_wp2_with (first | ((with_reducible refine y15 (f := 77) rfl ?_); refine y17 (some 15) rfl rfl Tryz.func77 (by kernel_rfl) rfl #[.int .i64 x1_1] rfl qy0 ?_; (with_reducible refine (laws_markText.calls k1 x1_1 t448 _ A4.out).mono ?_); rintro e w8 ⟨rfl,hb⟩; refine ⟨_,rfl, ?_⟩; replace HO_0 := y0.mk (Kd.R_below (qR HO_0.out) hb); replace HK := y0.mk (Kept.below (S := (fun k_ => P0_ k_)) (by repeat (first | (with_reducible first | exact HK.out | apply Kept.alloc | apply Kept.drewN | apply Kept.drew) | exact HK.out)) hb); replace HB := y0.mk (y6 qb hb); (try clear hb); (try clear hb2); (try clear hk); (try clear hi); have p6 : 0 ≤ (x5_1 : Int) := of_decide_eq_true qy1; have q6 : (x5_1 : Int) < ((x0_1.length : Int) : Int) := of_decide_eq_true qy1; obtain ⟨go6,co6,eo6,gb6,gl6,cl6,HG6⟩ := Kd.R_form HO_0.out (by omega); (first | cases eo6 | (injection eo6 with ea_ en_ ec_; (first | subst ea_ | (injection ea_ with ea_; subst ea_)); subst ec_; clear en_)); have GB6 := y0.mk gb6; have GG6 := y0.mk HG6; clear gb6 gl6 HG6; have HMgo6 := y0.mk (show (P0_ go6 ∨ w.heap.size ≤ go6) from (HO_0.out.1 _ rfl)); obtain ⟨hx6_0,hf6_0⟩ := Kd.R_celln (⟨#[]⟩ : ByteArray) HO_0.out (x5_1 : Int) p6 q6; replace p6 := eq_true p6; replace q6 := eq_true q6; obtain ⟨hy9_,hz9_⟩ := Kd.R_celln (⟨#[]⟩ : ByteArray) HO_0.out (x5_1 : Int) (of_decide_eq_true qy1) (of_decide_eq_true qy1); have HP9 := Kd.R_putg HO_0.out (x5_1 : Int) t448) | ((with_reducible refine gate_store (t := 9) (p := 16) rfl ?_); refine store_event (t := 9) (p := 16) (v := ?vo_w10) (w1 := (w8.setCell ⟨go6,(x5_1 : Int).toNat,none⟩ (.string t448))) ?hg ?ho ?hn ?hr ?_; (case ho => rfl); (case hg => rfl); (case hn => rfl); (case hr => first | (go_simp; done) | (go_simp; rfl)); intro w10 hw; have hg : w8.grownBy w10 (some go6) := (by rw [hw]; exact HP9.2); have hp_ : Kd.R Kd.string 9 w10 w0.heap.size (fun k_ => (P0_ k_ ∨ w.heap.size ≤ k_)) (.slice (some ⟨go6,0,none⟩) x0_1.length co7) y449 := (by rw [hw,Ny449.out]; exact HP9.1); clear HP9; replace HB := y0.mk ((by rw [hw]; exact below_set (HB.out) GB6.out : Below w0.heap.size w0 w10)); replace HK := y0.mk (Kept.of_grown (S := (fun k_ => P0_ k_)) hg (by repeat (first | (with_reducible first | exact HK.out | apply Kept.alloc | apply Kept.drewN | apply Kept.drew) | exact HK.out)) (fun k_ e_ => (HO_0.out.1 k_ e_))); replace HO_0 := y0.mk (hp_); clear hg hw hp_))
    go_roundg k1
    case measure => have := HK1.out; omega
    exact ⟨(y449),(wrap64 (x1_1 + 1)),(wrap64 (x5_1 + 1)),qy2,qy2,H',⟨by have := HK1.out; omega⟩,⟨qR HO_0.out⟩,⟨by repeat (first | (with_reducible first | exact HK.out | apply Kept.alloc | apply Kept.drewN | apply Kept.drew) | exact HK.out)⟩,⟨qb⟩⟩
   ·rw [if_neg c3] at H
    have c3b0 := decide_eq_false c3
    clear c3
    simp only [Option.some.injEq,Prod.mk.injEq] at H
    obtain ⟨rfl,rfl⟩ := H
    obtain ⟨Ao11,co11,eo11⟩ := Kd.R_slice HO_0.out
    subst eo11
    go_wp2
    go_ret
    exact ⟨by first | rfl | (simp [y13,y14] <;> rfl) | (simp [*,y13,y14] <;> rfl),by (with_reducible repeat (first | apply Kd.R_alloc | apply Kd.R_drewN | apply Kd.R_drew)); exact HO_0.out,qb,by repeat (first | (with_reducible first | exact HK.out | apply Kept.alloc | apply Kept.drewN | apply Kept.drew) | exact HK.out)⟩
def laws_markTupleS.l0 : Nat → List (S36) → Int → Int → Option (Int × List (S36))
 | 0,_,_,_ => none
 | k + 1,x0,x1,x5 => if x5 < (x0.length : Int) then (if 0 ≤ x5 then ((laws_markStringS.f k (y21 x0 x5).f0 x1).bind fun bt => laws_markTupleS.l0 k (x0.set x5.toNat (⟨bt.2⟩ : S36)) bt.1 (wrap64 (x5 + 1))) else none) else some (x1,x0)
def laws_markTupleS.f (k : Nat) (l0 : List (S36)) (a1 : Int) : Option (Int × List (S36)) := laws_markTupleS.l0 k l0 a1 0
set_option maxHeartbeats 8000000 in
set_option maxRecDepth 100000 in
theorem laws_markTupleS.calls (k : Nat) (lo hi : Nat) (A0 : Option Addr) (c0 : Nat) (l0 : List (S36)) (a1 : Int) (r1 : Int) (r2 : List (S36)) (w0 w : World) (hB : Below w0.heap.size w0 w) (hlo : w0.heap.size ≤ lo) (ho : QIv.OS k36 36 lo hi (.slice A0 l0.length c0) l0 w) (h : laws_markTupleS.f k l0 a1 = some (r1,r2)) :
  Calls Tryz.prog 49 #[.slice A0 l0.length c0,.int .i64 a1] w fun e w' => e = .returned (.int .i64 r1) ∧ QIv.OS k36 36 lo hi (.slice A0 l0.length c0) r2 w' ∧ Below w0.heap.size w0 w' ∧ QIv.KI lo hi w w' := by
 have hu36 := Tryz.underlying36
 have HO := y0.mk ho
 have HB := y0.mk hB
 have HL := y0.mk hlo
 have HK : y0 (QIv.KI lo hi w w) := ⟨Kept.refl w _⟩
 have H' : y0 (laws_markTupleS.l0 k l0 a1 0 = some (r1,r2)) := ⟨h⟩
 clear ho hB hlo h
 go_enter Tryz.func49,Tryz.ntmps49
 go_wp2
 go_loopg [1,5] k (fun kq v1 v5 w' => ∃ (x0 : List (S36)) (x1 x5 : Int),v1 = .int .i64 x1 ∧ v5 = .int .i64 x5 ∧ y0 (laws_markTupleS.l0 kq x0 x1 x5 = some (r1,r2)) ∧ y0 (kq ≤ k) ∧ y0 (QIv.OS k36 36 lo hi (.slice A0 l0.length c0) x0 w') ∧ y0 (QIv.KI lo hi w w') ∧ y0 (Below w0.heap.size w0 w'))
 case atStart => exact ⟨l0,a1,0,rfl,rfl,H',⟨Nat.le_refl _⟩,HO,HK,HB⟩
 case round =>
  clear H'
  obtain ⟨x0,x1,x5,rfl,rfl,HA,HK1,HO,HK,HB⟩ := hrel
  have hln : l0.length = x0.length := (Kd.S_reads' HO.out).1
  cases gk with
  | zero => exact absurd HA.out (by simp [laws_markTupleS.l0])
  | succ k1 =>
   have H := HA.out
   clear HA
   simp only [laws_markTupleS.l0] at H
   by_cases c3 : x5 < (x0.length : Int)
   ·rw [if_pos c3] at H
    have c3l : x5 < (l0.length : Int) := by omega
    have c3b : decide (x5 < (l0.length : Int)) = true := decide_eq_true c3l
    by_cases c4 : 0 ≤ x5
    ·rw [if_pos c4] at H
     replace H := Option.bind_eq_some_iff.mp H
     obtain ⟨⟨t1,t2⟩,A3,H⟩ := H
     replace H : laws_markTupleS.l0 k1 (x0.set x5.toNat (⟨t2⟩ : S36)) t1 (wrap64 (x5 + 1)) = some (r1,r2) := H
     have H' := y0.mk H
     clear H
     have A3 := y0.mk A3
     obtain ⟨ad,Ax,cx,e,hx0,hle,hCi⟩ := at_T36 HO.out.C x5 c4 c3
     cases e
     obtain ⟨oki,c,hcl,hM,hcc,hoki,hback⟩ := QIv.S_lendA HO.out z36 x5 c4 c3l
     obtain ⟨u,rfl,hR⟩ := k36_openM hM
     have hcu := hcc 0 u rfl
     rw [show x5.toNat * k36.sz + 0 = x5.toNat from by show x5.toNat * 1 + 0 = x5.toNat; omega] at hcu
     have hu : u = .slice Ax (y21 x0 x5).f0.length cx := Option.some.inj (hcu.symm.trans hx0)
     have hbk : ∀ (w5 : World) (hy : Kd.R Kd.string 9 w5 w0.heap.size (fun k_ => (oki k_ ∧ lo ≤ k_) ∨ wr.heap.size ≤ k_) u t2) (hkp : Kept wr w5 (fun k_ => oki k_ ∧ lo ≤ k_)),QIv.OS k36 36 lo hi (.slice (some ad) l0.length c0) (x0.set x5.toNat (⟨t2⟩ : S36)) w5 := by
      intro w5 hy hkp
      refine hback (fun k _ hn hlt => hkp.2 k hlt (fun h => hn h.1)) (k36_mkM _ _ _ (⟨t2⟩ : S36) (Kd.R_raise (d := Kd.string) (b := w0.heap.size) (b' := lo) (fun _ _ _ _ h => h) (Kd.R_tight rfl hy) (Kd.R_base hR))) (fun k hk => Or.inl (hR.1 k hk.symm))
     have hki : ∀ (w5 : World) (hkp : Kept wr w5 (fun k_ => oki k_ ∧ lo ≤ k_)),QIv.KI lo hi w w5 := by
      intro w5 hkp
      refine ⟨Nat.le_trans HK.out.1 hkp.1,fun k hk hn => (hkp.2 k (Nat.lt_of_lt_of_le hk HK.out.1) (fun hk2 => ?_)).trans (HK.out.2 k hk hn)⟩
      exact hn ⟨hk2.2,hoki k hk2.1⟩
     have HBK := y0.mk hbk
     have HKI := y0.mk hki
     have HR : y0 (Kd.R Kd.string 9 wr w0.heap.size (fun k_ => oki k_ ∧ lo ≤ k_) u (y21 x0 x5).f0) := ⟨Kd.R_lower (Kd.R_mono (Kd.R_bound hR) (ok' := fun k_ => oki k_ ∧ lo ≤ k_) (fun k hk => ⟨hk.1,hk.2.1⟩)) HL.out⟩
     subst hu
     clear hbk hki hback hM hcc hoki hR hcu hCi hle hcl
     have p5 := eq_true c4
     have q5 := eq_true c3l
     clear c3 c4 c3l hln
     go_wp2_with (first | (go_at_call 50; (with_reducible refine (laws_markStringS.calls k1 (fun k_ => oki k_ ∧ lo ≤ k_) _ _ x1 t1 t2 w0 _ HB.out HR.out A3.out).mono ?_); rintro e w5 ⟨rfl,hy,hb,hkp⟩; have n0_ := y0.mk (HBK.out w5 hy hkp); have n1_ := y0.mk (HKI.out w5 hkp); have n2_ := y0.mk hb; clear HO HK HB HBK HKI HR hy hb hkp; have HO := n0_; have HK := n1_; have HB := n2_; clear n0_ n1_ n2_))
     go_roundg k1
     case measure => have := HK1.out; omega
     exact ⟨_,t1,wrap64 (x5 + 1),rfl,qy2,H',⟨by have := HK1.out; omega⟩,HO,HK,HB⟩
    ·rw [if_neg c4] at H
     cases H
   ·rw [if_neg c3] at H
    have c3b : decide (x5 < (l0.length : Int)) = false := decide_eq_false (by omega)
    clear hln
    injection H with H
    obtain ⟨rfl,rfl⟩ := Prod.mk.inj H
    go_wp2
    go_ret
    exact ⟨by first | rfl | (simp [y13,y14] <;> rfl),HO.out,HB.out,HK.out⟩
def laws_markRel.f (k : Nat) (a0_0 : Int) (l0_1 : List (S36)) (a1 : Int) : Option (Int × List (S36)) := laws_markTupleS.f k l0_1 a1
set_option maxHeartbeats 8000000 in
set_option maxRecDepth 100000 in
theorem laws_markRel.calls (k : Nat) (lo hi : Nat) (a0 : Int) (A0 : Option Addr) (c0 : Nat) (l0 : List (S36)) (a1 : Int) (r1 : Int) (r2 : List (S36)) (w0 w : World) (hB : Below w0.heap.size w0 w) (hlo : w0.heap.size ≤ lo) (ho : QIv.OS k36 36 lo hi (.slice A0 l0.length c0) l0 w) (h : laws_markRel.f k a0 l0 a1 = some (r1,r2)) :
  Calls Tryz.prog 16 #[.agg #[.int .i64 a0,.slice A0 l0.length c0],.int .i64 a1] w fun e w' => e = .returned (.int .i64 r1) ∧ QIv.OS k36 36 lo hi (.slice A0 l0.length c0) r2 w' ∧ Below w0.heap.size w0 w' ∧ QIv.KI lo hi w w' := by
 have hu32 := Tryz.underlying32
 have HO := y0.mk ho
 have HB := y0.mk hB
 have HL := y0.mk hlo
 have HA : y0 (laws_markTupleS.f k l0 a1 = some (r1,r2)) := ⟨h⟩
 have HK := y0.mk (QIv.ki_refl lo hi w)
 clear ho hB hlo h
 go_enter Tryz.func16,Tryz.ntmps16
 go_wp2_with (first
  | ((with_reducible refine y16 (N := 2) rfl ?_); refine qe 2 #[.int .i64 a0,.slice A0 l0.length c0] 32 ?_; intro gb hg w2 hbox hb; have n0_ := y0.mk (HO.out.below hb); have n1_ := y0.mk (y6 HB.out hb); have n2_ := y0.mk (QIv.ki_below HK.out hb); clear HO HB HK; have HO := n0_; have HB := n1_; have HK := n2_; clear n0_ n1_ n2_ hb hg; have hc0 : w2.cell? ⟨gb,0,none⟩ = some (.int .i64 a0) := (y9 hbox 0).trans rfl; have hc1 : w2.cell? ⟨gb,1,none⟩ = some (.slice A0 l0.length c0) := (y9 hbox 1).trans rfl; have hf0 := blk_frozen hbox 0; have hf1 := blk_frozen hbox 1; clear hbox)
  | (go_at_call 49; (with_reducible refine (laws_markTupleS.calls k lo hi _ _ l0 a1 r1 r2 w0 _ HB.out HL.out HO.out HA.out).mono ?_); rintro e w5 ⟨rfl,ho,hb,hk⟩; have n0_ := y0.mk ho; have n1_ := y0.mk hb; have n2_ := y0.mk (QIv.ki_trans HK.out hk); clear HO HB HK ho hb hk hc0 hc1 hf0 hf1; have HO := n0_; have HB := n1_; have HK := n2_; clear n0_ n1_ n2_))
 go_ret
 exact ⟨by first | rfl | (simp [y13,y14] <;> rfl),HO.out,HB.out,HK.out⟩
def laws_markTuple.f (k : Nat) (l0_0 : List ByteArray) (a1 : Int) : Option (Int × List ByteArray) := (laws_markStringS.f k l0_0 a1).bind fun bt451 => (some (bt451.1,bt451.2))
set_option maxHeartbeats 8000000 in
set_option maxRecDepth 100000 in
theorem laws_markTuple.calls (k : Nat) (P0_0_ : Nat → Prop) (u9000_ : Value) (l0_0 : List ByteArray) (a1 : Int) (r1 : Int) (r2 : List ByteArray) (w0 w : World) (hB : Below w0.heap.size w0 w) (ho0_0 : Kd.R Kd.string 9 w w0.heap.size P0_0_ u9000_ l0_0) (h : laws_markTuple.f k l0_0 a1 = some (r1,r2)) :
  Calls Tryz.prog 17 #[.agg #[u9000_],.int .i64 a1] w fun e w' => e = .returned (.int .i64 r1) ∧ Kd.R Kd.string 9 w' w0.heap.size (fun k_ => (P0_0_ k_ ∨ w.heap.size ≤ k_)) u9000_ r2 ∧ Below w0.heap.size w0 w' ∧ Kept w w' (fun k_ => P0_0_ k_) := by
 have hu36 := Tryz.underlying36
 have HO0_0 := y0.mk (show Kd.R Kd.string 9 w w0.heap.size (fun k_ => (P0_0_ k_ ∨ w.heap.size ≤ k_)) u9000_ l0_0 from Kd.R_mono ho0_0 (fun k_ hk => (.inl hk)))
 have HK := y0.mk (Kept.refl w (fun k_ => P0_0_ k_))
 have HW0 := y0.mk hB.size
 have HB := y0.mk hB
 clear hB
 have H : ((laws_markStringS.f k l0_0 a1).bind fun bt451 => (some (bt451.1,bt451.2))) = some (r1,r2) := h
 clear h
 obtain ⟨⟨t451,t452⟩,A3,H⟩ := qB H
 replace H : (some (t451,t452)) = some (r1,r2) := H
 simp only [Option.some.injEq,Prod.mk.injEq] at H
 obtain ⟨rfl,rfl⟩ := H
 obtain ⟨Ao4,co4,eo4⟩ := Kd.R_slice HO0_0.out
 subst eo4
 go_enter Tryz.func17,Tryz.ntmps17
 go_wp2_with (first | ((with_reducible refine y16 (N := 2) rfl ?_); refine qe 2 #[.slice Ao4 l0_0.length co4] 36 ?_; intro gb450 hg w5 hbox hb; replace HO0_0 := y0.mk (Kd.R_below (qR HO0_0.out) hb); have BK450 := y0.mk (hbox); have GW450 := y0.mk ((by rw [hg]; exact (by first | exact HK.out.1 | exact (show Kept w _ (fun k_ => P0_0_ k_) from by repeat (first | (with_reducible first | exact HK.out | apply Kept.alloc | apply Kept.drewN | apply Kept.drew) | exact HK.out)).1) : w.heap.size ≤ gb450)); replace HK := y0.mk (Kept.below (S := (fun k_ => P0_0_ k_)) (by repeat (first | (with_reducible first | exact HK.out | apply Kept.alloc | apply Kept.drewN | apply Kept.drew) | exact HK.out)) hb); have GE450 := y0.mk ((by rw [hg]; exact (y5 qb) : w0.heap.size ≤ gb450)); replace HB := y0.mk (y6 qb hb); clear hb hbox hg; obtain ⟨hcz6_0,hfz6_0⟩ := qz1 BK450.out) | ((with_reducible refine y15 (f := 50) rfl ?_); refine y17 (some 8) rfl rfl Tryz.func50 (by kernel_rfl) rfl #[.slice Ao4 l0_0.length co4,.int .i64 a1] rfl qy0 ?_; (with_reducible refine (laws_markStringS.calls k (fun k_ => some k_ = (.slice Ao4 l0_0.length co4 : Value).ownBlock) (.slice Ao4 l0_0.length co4) l0_0 a1 t451 t452 w0 _ (by repeat (first | (with_reducible first | exact HB.out | apply y3 | apply pw_below_drewN | apply y4 | refine below_set ?_ GE450.out) | exact HB.out)) (by exact Kd.R_tight rfl HO0_0.out) A3.out).mono ?_); rintro e w7 ⟨rfl,hy0,hb,hkp⟩; refine ⟨_,rfl, ?_⟩; replace BK450 := y0.mk (blk_kept (qk BK450.out) hkp (fun hs_ => (fun e_ => (Kd.R_ne HO0_0.out BK450.out (by decide)) e_) hs_)); replace HK := y0.mk (Kept.then_ (S := (fun k_ => P0_0_ k_)) (by repeat (first | (with_reducible first | exact HK.out | apply Kept.alloc | apply Kept.drewN | apply Kept.drew | refine Kept.setCell ?_ (.inr GW450.out) _) | exact HK.out)) hkp (fun k_ hs_ => (fun e_ => (HO0_0.out.1 k_ e_.symm)) hs_)); replace HO0_0 := y0.mk (Kd.R_reok rfl hy0 (fun k_ e_ => HO0_0.out.1 k_ e_)); replace HB := y0.mk (hb); (try clear hb); (try clear hkp); (try clear hy0)))
 go_ret
 exact ⟨by first | rfl | (simp [y13,y14] <;> rfl) | (simp [*,y13,y14] <;> rfl),by (with_reducible repeat (first | apply Kd.R_alloc | apply Kd.R_drewN | apply Kd.R_drew)); exact HO0_0.out,qb,by repeat (first | (with_reducible first | exact HK.out | apply Kept.alloc | apply Kept.drewN | apply Kept.drew | refine Kept.setCell ?_ (.inr GW450.out) _) | exact HK.out)⟩
def laws_heldStringS.l0 : Nat → List ByteArray → Int → Int → Option (Int)
 | 0,_,_,_ => none
 | k + 1,x0,x1,x5 => if x5 < (x0.length : Int) then (if 0 ≤ x5 then ((laws_markText.f k x1).bind fun t454 => (if (rdOf ByteArray.empty x0 x5).toList = t454.toList then (laws_heldStringS.l0 k x0 (wrap64 (x1 + 1)) (wrap64 (x5 + 1))) else (some (-1)))) else (none)) else (some x1)
def laws_heldStringS.f (k : Nat) (l0 : List ByteArray) (a1 : Int) : Option (Int) := laws_heldStringS.l0 k l0 a1 0
set_option maxHeartbeats 8000000 in
set_option maxRecDepth 100000 in
theorem laws_heldStringS.calls (k : Nat) (A0 : Option Addr) (c0 : Nat) (l0 : List ByteArray) (a1 : Int) (r : Int) (w : World) (hr0 : Kd.C Kd.string w A0 l0.length l0) (hc0 : l0.length ≤ c0) (h : laws_heldStringS.f k l0 a1 = some r) :
  Calls Tryz.prog 78 #[.slice A0 l0.length c0,.int .i64 a1] w fun e w' => e = .returned (.int .i64 r) ∧ Below w.heap.size w w' := by
 have HR0 := y0.mk hr0
 have HC0 := y0.mk hc0
 clear hr0 hc0
 have HB := y0.mk (Below.refl w.heap.size w)
 have H : (laws_heldStringS.l0 k l0 a1 0) = some r := h
 clear h
 have H' := y0.mk H
 clear H
 go_enter Tryz.func78,Tryz.ntmps78
 go_wp2
 go_loopg [1,5] k (fun kq v1 v5 w' => ∃ (x1_1 : Int) (x5_1 : Int),v1 = .int .i64 x1_1 ∧ v5 = .int .i64 x5_1 ∧ y0 (laws_heldStringS.l0 kq l0 x1_1 x5_1 = some r) ∧ y0 (kq ≤ k) ∧ y0 (Below w.heap.size w w'))
 case atStart => exact ⟨(a1),(0),qy2,qy2,H',⟨Nat.le_refl _⟩,⟨qb⟩⟩
 case round =>
  clear H'
  obtain ⟨x1_1,x5_1,rfl,rfl,HA,HK1,HB⟩ := hrel
  cases gk with
  | zero => exact absurd HA.out (by simp [laws_heldStringS.l0])
  | succ k1 =>
   have H := HA.out
   clear HA
   simp only [laws_heldStringS.l0] at H
   by_cases c3 : x5_1 < (l0.length : Int)
   ·rw [if_pos c3] at H
    have c3b0 := decide_eq_true c3
    clear c3
    obtain ⟨c4,H⟩ := qo H
    have c4b0 : decide (0 ≤ x5_1) = true := decide_eq_true c4
    clear c4
    obtain ⟨t454,A5,H⟩ := qB H
    by_cases c6 : (rdOf ByteArray.empty l0 x5_1).toList = t454.toList
    ·rw [if_pos c6] at H
     have c6b0 : ((rdOf ByteArray.empty l0 x5_1).toList == t454.toList) = true := beq_iff_eq.mpr c6
     have c6b1 : ((rdOf ByteArray.empty l0 x5_1).toList != t454.toList) = false := bne_eq_false_iff_eq.mpr c6
     clear c6
     have H' := y0.mk H
     clear H
     try go_wp2
     replace HB := y0.mk (y4 HB.out)
     have p453 : 0 ≤ (x5_1 : Int) := of_decide_eq_true qy1
     have q453 : x5_1 < (l0.length : Int) := of_decide_eq_true qy1
     obtain ⟨ad453,e453,hx453_0⟩ := Kd.at_string HR0.out x5_1 p453 q453
     have hw453_0 := hx453_0
     cases e453
     replace hx453_0 := (HB.out.cell (World.block_lt_of_cell? w _ hx453_0)).trans hx453_0
     replace p453 := eq_true p453
     replace q453 := eq_true q453
     refine start_ (n := 7) (S := fun w' => w'.cell? (ad453.add (x5_1).toNat) = some (.string (rdOf ByteArray.empty l0 x5_1))) (ds := []) #[false,false,false,false,false,false,false] (by kernel_rfl) rfl rfl (((HB.out.cell (World.block_lt_of_cell? w _ hw453_0)).trans hw453_0)) (fun hHeld => ?_)
     generalize wr.drew = w7 at HB hx453_0 hHeld ⊢
     refine y20 (i := 0) (N := some 12) (v := ?_) (a' := ?_) #[true,false,false,false,false,false,false] rfl rfl (by kernel_rfl) (fun _ _ _ h => h) (Or.inl ⟨by rfl, ?_⟩) ?_ ?_
     rotate_left
     ·intro w'
      go_simp
      with_reducible rfl
     rotate_left
     ·simp only [Act.put,qS_,qZ_,qC_,y19,y18]
      rfl
     refine y20 (i := 1) (N := some 13) (v := ?_) (a' := ?_) #[true,true,false,false,false,false,false] rfl rfl (by kernel_rfl) (fun _ _ _ h => h) (Or.inl ⟨by rfl, ?_⟩) ?_ ?_
     rotate_left
     ·intro w'
      go_simp
      with_reducible rfl
     rotate_left
     ·simp only [Act.put,qS_,qZ_,qC_,y19,y18]
      rfl
     refine y20 (i := 2) (N := some 14) (v := ?_) (a' := ?_) #[true,true,true,false,false,false,false] rfl rfl (by kernel_rfl) (fun _ _ _ h => h) (Or.inl ⟨by rfl, ?_⟩) ?_ ?_
     rotate_left
     ·intro w'
      go_simp
      with_reducible rfl
     rotate_left
     ·simp only [Act.put,qS_,qZ_,qC_,y19,y18]
      rfl
     refine y20 (i := 4) (N := some 16) (v := ?_) (a' := ?_) #[true,true,true,false,true,false,false] rfl rfl (by kernel_rfl) (fun _ _ _ h => h) (Or.inl ⟨by rfl, ?_⟩) ?_ ?_
     rotate_left
     ·intro w'
      go_simp
      with_reducible rfl
     rotate_left
     ·simp only [Act.put,qS_,qZ_,qC_,y19,y18]
      rfl
     refine take_ (i := 3) (N := some 15) (v := ?_) (a' := ?_) #[true,true,true,true,true,false,false] rfl rfl (by kernel_rfl) (fun _ _ _ h => h) (Or.inl ⟨by rfl, ?_⟩) hHeld ?_ ?_
     rotate_left
     ·intro w' s0
      go_simp
      with_reducible rfl
     rotate_left
     ·simp only [Act.put,qS_,qZ_,qC_,y19,y18]
      rfl
     refine one_ (i := 5) (N := some 17) #[true,true,true,true,true,true,false] rfl rfl (by kernel_rfl) (by decide) (fun K hK => ?_)
     refine goes_ Tryz.func77 (by kernel_rfl) rfl #[.int .i64 x1_1] (by rfl) rfl rfl qy0 ?_
     with_reducible refine (laws_markText.calls k1 x1_1 t454 _ A5.out).mono ?_
     rintro e w8 ⟨rfl,hb⟩
     refine ⟨_,rfl, ?_⟩
     replace HB := y0.mk (y6 qb hb)
     (try clear hb)
     (try clear hb2)
     (try clear hk)
     (try clear hi)
     refine hK.out _ _ (((HB.out.cell (World.block_lt_of_cell? w _ hw453_0)).trans hw453_0)) (fun hHeld => ?_)
     clear hK K
     refine norm_ (a' := ?_) ?_ ?_
     rotate_left
     ·show Act.put _ (some 17) _ = _
      simp only [Act.put,qS_,qZ_,qC_,y19,y18]
      rfl
     refine y20 (i := 6) (N := some 18) (v := ?_) (a' := ?_) #[true,true,true,true,true,true,true] rfl rfl (by kernel_rfl) (fun _ _ _ h => h) (Or.inl ⟨by rfl, ?_⟩) ?_ ?_
     rotate_left
     ·intro w'
      go_simp
      with_reducible rfl
     rotate_left
     ·simp only [Act.put,qS_,qZ_,qC_,y19,y18]
      rfl
     refine done_ (by kernel_rfl) ?_
     try go_wp2
     go_roundg k1
     case measure => have := HK1.out; omega
     exact ⟨(wrap64 (x1_1 + 1)),(wrap64 (x5_1 + 1)),qy2,qy2,H',⟨by have := HK1.out; omega⟩,⟨qb⟩⟩
    ·rw [if_neg c6] at H
     have c6b0 : ((rdOf ByteArray.empty l0 x5_1).toList == t454.toList) = false := beq_eq_false_iff_ne.mpr c6
     have c6b1 : ((rdOf ByteArray.empty l0 x5_1).toList != t454.toList) = true := bne_iff_ne.mpr c6
     obtain rfl := Option.some.inj H
     try go_wp2
     replace HB := y0.mk (y4 HB.out)
     have p453 : 0 ≤ (x5_1 : Int) := of_decide_eq_true qy1
     have q453 : x5_1 < (l0.length : Int) := of_decide_eq_true qy1
     obtain ⟨ad453,e453,hx453_0⟩ := Kd.at_string HR0.out x5_1 p453 q453
     have hw453_0 := hx453_0
     cases e453
     replace hx453_0 := (HB.out.cell (World.block_lt_of_cell? w _ hx453_0)).trans hx453_0
     replace p453 := eq_true p453
     replace q453 := eq_true q453
     refine start_ (n := 7) (S := fun w' => w'.cell? (ad453.add (x5_1).toNat) = some (.string (rdOf ByteArray.empty l0 x5_1))) (ds := []) #[false,false,false,false,false,false,false] (by kernel_rfl) rfl rfl (((HB.out.cell (World.block_lt_of_cell? w _ hw453_0)).trans hw453_0)) (fun hHeld => ?_)
     generalize wr.drew = w9 at HB hx453_0 hHeld ⊢
     refine y20 (i := 0) (N := some 12) (v := ?_) (a' := ?_) #[true,false,false,false,false,false,false] rfl rfl (by kernel_rfl) (fun _ _ _ h => h) (Or.inl ⟨by rfl, ?_⟩) ?_ ?_
     rotate_left
     ·intro w'
      go_simp
      with_reducible rfl
     rotate_left
     ·simp only [Act.put,qS_,qZ_,qC_,y19,y18]
      rfl
     refine y20 (i := 1) (N := some 13) (v := ?_) (a' := ?_) #[true,true,false,false,false,false,false] rfl rfl (by kernel_rfl) (fun _ _ _ h => h) (Or.inl ⟨by rfl, ?_⟩) ?_ ?_
     rotate_left
     ·intro w'
      go_simp
      with_reducible rfl
     rotate_left
     ·simp only [Act.put,qS_,qZ_,qC_,y19,y18]
      rfl
     refine y20 (i := 2) (N := some 14) (v := ?_) (a' := ?_) #[true,true,true,false,false,false,false] rfl rfl (by kernel_rfl) (fun _ _ _ h => h) (Or.inl ⟨by rfl, ?_⟩) ?_ ?_
     rotate_left
     ·intro w'
      go_simp
      with_reducible rfl
     rotate_left
     ·simp only [Act.put,qS_,qZ_,qC_,y19,y18]
      rfl
     refine y20 (i := 4) (N := some 16) (v := ?_) (a' := ?_) #[true,true,true,false,true,false,false] rfl rfl (by kernel_rfl) (fun _ _ _ h => h) (Or.inl ⟨by rfl, ?_⟩) ?_ ?_
     rotate_left
     ·intro w'
      go_simp
      with_reducible rfl
     rotate_left
     ·simp only [Act.put,qS_,qZ_,qC_,y19,y18]
      rfl
     refine take_ (i := 3) (N := some 15) (v := ?_) (a' := ?_) #[true,true,true,true,true,false,false] rfl rfl (by kernel_rfl) (fun _ _ _ h => h) (Or.inl ⟨by rfl, ?_⟩) hHeld ?_ ?_
     rotate_left
     ·intro w' s0
      go_simp
      with_reducible rfl
     rotate_left
     ·simp only [Act.put,qS_,qZ_,qC_,y19,y18]
      rfl
     refine one_ (i := 5) (N := some 17) #[true,true,true,true,true,true,false] rfl rfl (by kernel_rfl) (by decide) (fun K hK => ?_)
     refine goes_ Tryz.func77 (by kernel_rfl) rfl #[.int .i64 x1_1] (by rfl) rfl rfl qy0 ?_
     with_reducible refine (laws_markText.calls k1 x1_1 t454 _ A5.out).mono ?_
     rintro e w10 ⟨rfl,hb⟩
     refine ⟨_,rfl, ?_⟩
     replace HB := y0.mk (y6 qb hb)
     (try clear hb)
     (try clear hb2)
     (try clear hk)
     (try clear hi)
     refine hK.out _ _ (((HB.out.cell (World.block_lt_of_cell? w _ hw453_0)).trans hw453_0)) (fun hHeld => ?_)
     clear hK K
     refine norm_ (a' := ?_) ?_ ?_
     rotate_left
     ·show Act.put _ (some 17) _ = _
      simp only [Act.put,qS_,qZ_,qC_,y19,y18]
      rfl
     refine y20 (i := 6) (N := some 18) (v := ?_) (a' := ?_) #[true,true,true,true,true,true,true] rfl rfl (by kernel_rfl) (fun _ _ _ h => h) (Or.inl ⟨by rfl, ?_⟩) ?_ ?_
     rotate_left
     ·intro w'
      go_simp
      with_reducible rfl
     rotate_left
     ·simp only [Act.put,qS_,qZ_,qC_,y19,y18]
      rfl
     refine done_ (by kernel_rfl) ?_
     try go_wp2
     go_ret
     exact ⟨by first | rfl | (simp [y13,y14] <;> rfl) | (simp [*,y13,y14] <;> rfl),qb⟩
   ·rw [if_neg c3] at H
    have c3b0 := decide_eq_false c3
    clear c3
    obtain rfl := Option.some.inj H
    go_wp2
    go_ret
    exact ⟨by first | rfl | (simp [y13,y14] <;> rfl) | (simp [*,y13,y14] <;> rfl),qb⟩
end Go.Proofs.YtkajecadkkgfmaaGreatDoor.Pe
end
section
namespace Go.Proofs.YtkajecadkkgfmaaGreatDoor.Pe
open Go.RowKit Go.Proofs.YtkajecadkkgfmaaGreatDoorW.PrintWords Go.Proofs.YtkajecadkkgfmaaGreatDoorW.PrintLast Go.Proofs.YtkajecadkkgfmaaGreatDoorW.PrintMore
attribute [local go_sem] max2_int min2_int max_two min_two max_three min_three max_four min_four   -- for this text's walks alone
set_option linter.unusedVariables false
set_option linter.unusedSimpArgs false
def laws_heldTupleS.l0 : Nat → List (S36) → Int → Int → Option (Int)
 | 0,_,_,_ => none
 | k + 1,x0,x1,x5 => if x5 < (x0.length : Int) then (if 0 ≤ x5 then ((laws_heldStringS.f k ((y21 x0 x5).f0) x1).bind fun t456 => (if t456 < 0 then (some (-1)) else (laws_heldTupleS.l0 k x0 t456 (wrap64 (x5 + 1))))) else (none)) else (some x1)
def laws_heldTupleS.f (k : Nat) (l0 : List (S36)) (a1 : Int) : Option (Int) := laws_heldTupleS.l0 k l0 a1 0
set_option maxHeartbeats 8000000 in
set_option maxRecDepth 100000 in
theorem laws_heldTupleS.calls (k : Nat) (A0 : Option Addr) (c0 : Nat) (l0 : List (S36)) (a1 : Int) (r : Int) (w : World) (hr0 : Kd.C k36 w A0 l0.length l0) (hc0 : l0.length ≤ c0) (h : laws_heldTupleS.f k l0 a1 = some r) :
  Calls Tryz.prog 51 #[.slice A0 l0.length c0,.int .i64 a1] w fun e w' => e = .returned (.int .i64 r) ∧ Below w.heap.size w w' := by
 have HR0 := y0.mk hr0
 have HC0 := y0.mk hc0
 clear hr0 hc0
 have HB := y0.mk (Below.refl w.heap.size w)
 have H : (laws_heldTupleS.l0 k l0 a1 0) = some r := h
 clear h
 have H' := y0.mk H
 clear H
 go_enter Tryz.func51,Tryz.ntmps51
 go_wp2
 go_loopg [1,5] k (fun kq v1 v5 w' => ∃ (x1_1 : Int) (x5_1 : Int),v1 = .int .i64 x1_1 ∧ v5 = .int .i64 x5_1 ∧ y0 (laws_heldTupleS.l0 kq l0 x1_1 x5_1 = some r) ∧ y0 (kq ≤ k) ∧ y0 (Below w.heap.size w w'))
 case atStart => exact ⟨(a1),(0),qy2,qy2,H',⟨Nat.le_refl _⟩,⟨qb⟩⟩
 case round =>
  clear H'
  obtain ⟨x1_1,x5_1,rfl,rfl,HA,HK1,HB⟩ := hrel
  cases gk with
  | zero => exact absurd HA.out (by simp [laws_heldTupleS.l0])
  | succ k1 =>
   have H := HA.out
   clear HA
   simp only [laws_heldTupleS.l0] at H
   by_cases c3 : x5_1 < (l0.length : Int)
   ·rw [if_pos c3] at H
    have c3b0 := decide_eq_true c3
    clear c3
    obtain ⟨c4,H⟩ := qo H
    have c4b0 : decide (0 ≤ x5_1) = true := decide_eq_true c4
    clear c4
    obtain ⟨t456,A5,H⟩ := qB H
    by_cases c6 : t456 < 0
    ·rw [if_pos c6] at H
     have c6b0 := decide_eq_true c6
     clear c6
     obtain rfl := Option.some.inj H
     have p455 : 0 ≤ (x5_1 : Int) := of_decide_eq_true qy1
     have q455 : x5_1 < (l0.length : Int) := of_decide_eq_true qy1
     obtain ⟨ad455,A455_0,c455_0,e455,hx455_0,hl455_0,hi455_0⟩ := at_T36 HR0.out x5_1 p455 q455
     cases e455
     replace hx455_0 := (HB.out.cell (World.block_lt_of_cell? w _ hx455_0)).trans hx455_0
     have HR455_0 := y0.mk hi455_0
     have HC455_0 := y0.mk hl455_0
     clear hi455_0 hl455_0
     replace p455 := eq_true p455
     replace q455 := eq_true q455
     go_wp2_with (first | ((with_reducible refine y15 (f := 78) rfl ?_); refine y17 (some 18) rfl rfl Tryz.func78 (by kernel_rfl) rfl #[.slice A455_0 ((y21 l0 x5_1).f0).length c455_0,.int .i64 x1_1] rfl qy0 ?_; (with_reducible refine (laws_heldStringS.calls k1 _ _ ((y21 l0 x5_1).f0) x1_1 t456 _ (qc (Kd.C_below HR455_0.out HB.out)) HC455_0.out A5.out).mono ?_); rintro e w7 ⟨rfl,hb⟩; refine ⟨_,rfl, ?_⟩; replace HB := y0.mk (y6 qb hb); (try clear hb); (try clear hb2); (try clear hk); (try clear hi)))
     go_ret
     exact ⟨by first | rfl | (simp [y13,y14] <;> rfl) | (simp [*,y13,y14] <;> rfl),qb⟩
    ·rw [if_neg c6] at H
     have c6b0 := decide_eq_false c6
     clear c6
     have H' := y0.mk H
     clear H
     have p455 : 0 ≤ (x5_1 : Int) := of_decide_eq_true qy1
     have q455 : x5_1 < (l0.length : Int) := of_decide_eq_true qy1
     obtain ⟨ad455,A455_0,c455_0,e455,hx455_0,hl455_0,hi455_0⟩ := at_T36 HR0.out x5_1 p455 q455
     cases e455
     replace hx455_0 := (HB.out.cell (World.block_lt_of_cell? w _ hx455_0)).trans hx455_0
     have HR455_0 := y0.mk hi455_0
     have HC455_0 := y0.mk hl455_0
     clear hi455_0 hl455_0
     replace p455 := eq_true p455
     replace q455 := eq_true q455
     go_wp2_with (first | ((with_reducible refine y15 (f := 78) rfl ?_); refine y17 (some 18) rfl rfl Tryz.func78 (by kernel_rfl) rfl #[.slice A455_0 ((y21 l0 x5_1).f0).length c455_0,.int .i64 x1_1] rfl qy0 ?_; (with_reducible refine (laws_heldStringS.calls k1 _ _ ((y21 l0 x5_1).f0) x1_1 t456 _ (qc (Kd.C_below HR455_0.out HB.out)) HC455_0.out A5.out).mono ?_); rintro e w8 ⟨rfl,hb⟩; refine ⟨_,rfl, ?_⟩; replace HB := y0.mk (y6 qb hb); (try clear hb); (try clear hb2); (try clear hk); (try clear hi)))
     go_roundg k1
     case measure => have := HK1.out; omega
     exact ⟨(t456),(wrap64 (x5_1 + 1)),qy2,qy2,H',⟨by have := HK1.out; omega⟩,⟨qb⟩⟩
   ·rw [if_neg c3] at H
    have c3b0 := decide_eq_false c3
    clear c3
    obtain rfl := Option.some.inj H
    go_wp2
    go_ret
    exact ⟨by first | rfl | (simp [y13,y14] <;> rfl) | (simp [*,y13,y14] <;> rfl),qb⟩
def laws_heldRel.f (k : Nat) (a0_0 : Int) (l0_1 : List (S36)) (a1 : Int) : Option (Int) := (laws_heldTupleS.f k l0_1 a1).bind fun t458 => (if t458 < 0 then (some (-1)) else (some t458))
set_option maxHeartbeats 8000000 in
set_option maxRecDepth 100000 in
theorem laws_heldRel.calls (k : Nat) (a0_0 : Int) (A0_1 : Option Addr) (c0_1 : Nat) (l0_1 : List (S36)) (a1 : Int) (r : Int) (w : World) (hr0_1 : Kd.C k36 w A0_1 l0_1.length l0_1) (hc0_1 : l0_1.length ≤ c0_1) (h : laws_heldRel.f k a0_0 l0_1 a1 = some r) :
  Calls Tryz.prog 18 #[.agg #[.int .i64 a0_0,.slice A0_1 l0_1.length c0_1],.int .i64 a1] w fun e w' => e = .returned (.int .i64 r) ∧ Below w.heap.size w w' := by
 have hu32 := Tryz.underlying32
 have HR0_1 := y0.mk hr0_1
 have HC0_1 := y0.mk hc0_1
 clear hr0_1 hc0_1
 have HB := y0.mk (Below.refl w.heap.size w)
 have H : ((laws_heldTupleS.f k l0_1 a1).bind fun t458 => (if t458 < 0 then (some (-1)) else (some t458))) = some r := h
 clear h
 obtain ⟨t458,A3,H⟩ := qB H
 by_cases c4 : t458 < 0
 ·rw [if_pos c4] at H
  have c4b0 := decide_eq_true c4
  clear c4
  obtain rfl := Option.some.inj H
  go_enter Tryz.func18,Tryz.ntmps18
  go_wp2_with (first | ((with_reducible refine y16 (N := 2) rfl ?_); refine qe 2 #[.int .i64 a0_0,.slice A0_1 l0_1.length c0_1] 32 ?_; intro gb457 hg w5 hbox hb; have BK457 := y0.mk (hbox); have GW457 := y0.mk (qg (w := w) hg); have GE457 := y0.mk (qg (w := w) hg); replace HB := y0.mk (y6 qb hb); clear hb hbox hg; obtain ⟨hcz6_0,hcz6_1,hfz6_0,hfz6_1⟩ := qz2 BK457.out) | ((with_reducible refine y15 (f := 51) rfl ?_); refine y17 (some 8) rfl rfl Tryz.func51 (by kernel_rfl) rfl #[.slice A0_1 l0_1.length c0_1,.int .i64 a1] rfl qy0 ?_; (with_reducible refine (laws_heldTupleS.calls k _ _ l0_1 a1 t458 _ (qc (Kd.C_below HR0_1.out HB.out)) HC0_1.out A3.out).mono ?_); rintro e w7 ⟨rfl,hb⟩; refine ⟨_,rfl, ?_⟩; replace BK457 := y0.mk (qK BK457.out hb); replace HB := y0.mk (y6 qb hb); (try clear hb); (try clear hb2); (try clear hk); (try clear hi)))
  go_ret
  exact ⟨by first | rfl | (simp [y13,y14] <;> rfl) | (simp [*,y13,y14] <;> rfl),qb⟩
 ·rw [if_neg c4] at H
  have c4b0 := decide_eq_false c4
  clear c4
  obtain rfl := Option.some.inj H
  go_enter Tryz.func18,Tryz.ntmps18
  go_wp2_with (first | ((with_reducible refine y16 (N := 2) rfl ?_); refine qe 2 #[.int .i64 a0_0,.slice A0_1 l0_1.length c0_1] 32 ?_; intro gb457 hg w8 hbox hb; have BK457 := y0.mk (hbox); have GW457 := y0.mk (qg (w := w) hg); have GE457 := y0.mk (qg (w := w) hg); replace HB := y0.mk (y6 qb hb); clear hb hbox hg; obtain ⟨hcz9_0,hcz9_1,hfz9_0,hfz9_1⟩ := qz2 BK457.out) | ((with_reducible refine y15 (f := 51) rfl ?_); refine y17 (some 8) rfl rfl Tryz.func51 (by kernel_rfl) rfl #[.slice A0_1 l0_1.length c0_1,.int .i64 a1] rfl qy0 ?_; (with_reducible refine (laws_heldTupleS.calls k _ _ l0_1 a1 t458 _ (qc (Kd.C_below HR0_1.out HB.out)) HC0_1.out A3.out).mono ?_); rintro e w10 ⟨rfl,hb⟩; refine ⟨_,rfl, ?_⟩; replace BK457 := y0.mk (qK BK457.out hb); replace HB := y0.mk (y6 qb hb); (try clear hb); (try clear hb2); (try clear hk); (try clear hi)))
  go_ret
  exact ⟨by first | rfl | (simp [y13,y14] <;> rfl) | (simp [*,y13,y14] <;> rfl),qb⟩
end Go.Proofs.YtkajecadkkgfmaaGreatDoor.Pe
end
section
namespace Go.Proofs.YtkajecadkkgfmaaGreatDoor.Pe
open Go.RowKit Go.Proofs.YtkajecadkkgfmaaGreatDoorW.PrintWords Go.Proofs.YtkajecadkkgfmaaGreatDoorW.PrintLast Go.Proofs.YtkajecadkkgfmaaGreatDoorW.PrintMore
attribute [local go_sem] max2_int min2_int max_two min_two max_three min_three max_four min_four   -- for this text's walks alone
set_option linter.unusedVariables false
set_option linter.unusedSimpArgs false
theorem laws_markTuple.iv (k : Nat) (lo hi : Nat) (A0 : Option Addr) (c0 : Nat) (l0 : List ByteArray) (a1 : Int) (r1 : Int) (r2 : List ByteArray) (w0 w : World) (hB : Below w0.heap.size w0 w) (hlo : w0.heap.size ≤ lo) (ho : QIv.OR Kd.string 9 lo hi (.slice A0 l0.length c0) l0 w) (h : laws_markTuple.f k l0 a1 = some (r1,r2)) :
  Calls Tryz.prog 17 #[.agg #[.slice A0 l0.length c0],.int .i64 a1] w fun e w' => e = .returned (.int .i64 r1) ∧ True ∧ Below w0.heap.size w0 w' ∧ QIv.KI lo hi w w' := by
 have hR : Kd.R Kd.string 9 w w0.heap.size (fun k_ => lo ≤ k_ ∧ k_ < hi) (.slice A0 l0.length c0) l0 := Kd.R_lower (Kd.R_mono (Kd.R_bound ho) (fun k hk => ⟨hk.2.1,hk.1⟩)) hlo
 refine (laws_markTuple.calls k _ _ l0 a1 r1 r2 w0 w hB hR h).mono ?_
 rintro e w5 ⟨rfl,_,hb,hk⟩
 exact ⟨rfl,trivial,hb,hk⟩
/-- What is reckoned in the one way that a call of the law can go. -/
def laws_FnExactRelPut.Run (k : Nat) (a : Int) (l0 : List (S27)) (l1 : List ByteArray) : Prop :=
 ∃ r,laws_szRel.f k a l0 1048576 = some r ∧ (r < 0 ∨ (¬ r < 0 ∧ ∃ r2,laws_szTuple.f k l1 r = some r2 ∧ (r2 < 0 ∨ (¬ r2 < 0 ∧ ∃ (ar : Int) (xs : List (S36)) (ys : List ByteArray) (gr : Int) (gs : List (S36)) (gq : Bool) (m1 : Int) (xm : List (S36)) (m2 : Int) (ym : List ByteArray) (m3 : Int) (gm : List (S36)),
  laws_toRel.f k a l0 = some (ar,xs) ∧ laws_toTuple.f k l1 = some ys ∧ spec_RelPut.f k ar xs ys = some (gr,gs,gq) ∧ impl_RelPut.f k ar xs ys = some (gr,gs,gq) ∧ laws_eqRel.f k gr gs gr gs = some true ∧ laws_eqRel.f k ar xs ar xs = some true ∧ laws_eqTuple.f k ys ys = some true ∧
  laws_markRel.f k ar xs 1 = some (m1,xm) ∧ laws_markTuple.f k ys m1 = some (m2,ym) ∧ ¬ m2 < 0 ∧ laws_markRel.f k gr gs 1 = some (m3,gm) ∧ gm.length = gs.length ∧ laws_heldRel.f k gr gm 1 = some m3 ∧ ¬ m3 < 0))))
set_option maxHeartbeats 16000000 in
set_option maxRecDepth 100000 in
theorem laws_FnExactRelPut.calls (k : Nat) (a : Int) (A0 : Option Addr) (c0 : Nat) (l0 : List (S27)) (A1 : Option Addr) (c1 : Nat) (l1 : List ByteArray) (w : World) (hr0 : Kd.C k27 w A0 l0.length l0) (hc0 : l0.length ≤ c0) (hr1 : Kd.C Kd.string w A1 l1.length l1) (hc1 : l1.length ≤ c1) (hT : Tb w) (h : laws_FnExactRelPut.Run k a l0 l1) :
  Calls Tryz.prog 3 #[.agg #[.int .i64 a,.slice A0 l0.length c0],.agg #[.slice A1 l1.length c1]] w fun e w' => e = .returned (.bool true) ∧ Below w.heap.size w w' := by
 have hu27 := Tryz.underlying27
 have hu36 := Tryz.underlying36
 have hu24 := Tryz.underlying24
 have hu31 := Tryz.underlying32
 have HR0 := y0.mk hr0
 clear hr0
 have HC0 := y0.mk hc0
 clear hc0
 have HR1 := y0.mk hr1
 clear hr1
 have HC1 := y0.mk hc1
 clear hc1
 have HT := y0.mk hT
 clear hT
 have HB := y0.mk (Below.refl w.heap.size w)
 obtain ⟨r,E1,h⟩ := h
 have E1 := y0.mk E1
 rcases h with h | ⟨h0,r2,E2,h⟩
 ·skip
  have hb0 : decide (r < 0) = true := decide_eq_true h
  clear h
  go_enter Tryz.func3,Tryz.ntmps3
  go_wp2_with (first
   | ((with_reducible refine y16 (N := 2) rfl ?_); refine qe 2 #[.int .i64 a,.slice A0 l0.length c0] 24 ?_; intro ga hg w1 hbox hb; have BKa := y0.mk (hbox); have GEa := y0.mk ((by rw [hg]; exact HB.out.size : w.heap.size ≤ ga)); replace HB := y0.mk (y6 HB.out hb); clear hb hg hbox; obtain ⟨hca0,hca1,hfa0,hfa1⟩ := QIv.box2 BKa.out)
   | ((with_reducible refine y16 (N := 3) rfl ?_); refine qe 3 #[.slice A1 l1.length c1] 27 ?_; intro gb hg w2 hbox hb; (repeat first | clear hca0 | clear hca1 | clear hfa0 | clear hfa1); have BKb := y0.mk (hbox); have GEb := y0.mk ((by rw [hg]; exact HB.out.size : w.heap.size ≤ gb)); have Na_b := y0.mk ((by rw [hg]; exact Nat.ne_of_lt (QIv.ki_lt BKa.out) : ga ≠ gb)); replace BKa := y0.mk (y8 (g := ga) (o := (.cells #[.int .i64 a,.slice A0 l0.length c0] 24 (0,0))) BKa.out hb); replace HB := y0.mk (y6 HB.out hb); clear hb hg hbox; obtain ⟨hca0,hca1,hfa0,hfa1⟩ := QIv.box2 BKa.out; obtain ⟨hcb0,hfb0⟩ := QIv.box1 BKb.out)
   | (go_at_call 8; (with_reducible refine (laws_szRel.calls k a _ _ l0 1048576 r _ (Kd.C_below HR0.out HB.out) HC0.out E1.out).mono ?_); rintro e w3 ⟨rfl,hb⟩; (repeat first | clear hca0 | clear hca1 | clear hcb0 | clear hfa0 | clear hfa1 | clear hfb0); replace BKa := y0.mk (y8 (g := ga) (o := (.cells #[.int .i64 a,.slice A0 l0.length c0] 24 (0,0))) BKa.out hb); replace BKb := y0.mk (y8 (g := gb) (o := (.cells #[.slice A1 l1.length c1] 27 (0,0))) BKb.out hb); replace HB := y0.mk (y6 HB.out hb); (try clear hb); obtain ⟨hca0,hca1,hfa0,hfa1⟩ := QIv.box2 BKa.out; obtain ⟨hcb0,hfb0⟩ := QIv.box1 BKb.out))
  go_ret
  exact ⟨by first | rfl | (simp [y13,y14] <;> rfl),HB.out⟩
 have E2 := y0.mk E2
 have hb0 : decide (r < 0) = false := decide_eq_false h0
 clear h0
 rcases h with h | ⟨h0,ar,xs,ys,gr,gs,gq,m1,xm,m2,ym,m3,gm,F1,F2,F3,F4,F5,F6,F7,F8,F9,F10,F11,F12,F13,F14⟩
 ·skip
  have hb1 : decide (r2 < 0) = true := decide_eq_true h
  clear h
  go_enter Tryz.func3,Tryz.ntmps3
  go_wp2_with (first
   | ((with_reducible refine y16 (N := 2) rfl ?_); refine qe 2 #[.int .i64 a,.slice A0 l0.length c0] 24 ?_; intro ga hg w1 hbox hb; have BKa := y0.mk (hbox); have GEa := y0.mk ((by rw [hg]; exact HB.out.size : w.heap.size ≤ ga)); replace HB := y0.mk (y6 HB.out hb); clear hb hg hbox; obtain ⟨hca0,hca1,hfa0,hfa1⟩ := QIv.box2 BKa.out)
   | ((with_reducible refine y16 (N := 3) rfl ?_); refine qe 3 #[.slice A1 l1.length c1] 27 ?_; intro gb hg w2 hbox hb; (repeat first | clear hca0 | clear hca1 | clear hfa0 | clear hfa1); have BKb := y0.mk (hbox); have GEb := y0.mk ((by rw [hg]; exact HB.out.size : w.heap.size ≤ gb)); have Na_b := y0.mk ((by rw [hg]; exact Nat.ne_of_lt (QIv.ki_lt BKa.out) : ga ≠ gb)); replace BKa := y0.mk (y8 (g := ga) (o := (.cells #[.int .i64 a,.slice A0 l0.length c0] 24 (0,0))) BKa.out hb); replace HB := y0.mk (y6 HB.out hb); clear hb hg hbox; obtain ⟨hca0,hca1,hfa0,hfa1⟩ := QIv.box2 BKa.out; obtain ⟨hcb0,hfb0⟩ := QIv.box1 BKb.out)
   | (go_at_call 8; (with_reducible refine (laws_szRel.calls k a _ _ l0 1048576 r _ (Kd.C_below HR0.out HB.out) HC0.out E1.out).mono ?_); rintro e w3 ⟨rfl,hb⟩; (repeat first | clear hca0 | clear hca1 | clear hcb0 | clear hfa0 | clear hfa1 | clear hfb0); replace BKa := y0.mk (y8 (g := ga) (o := (.cells #[.int .i64 a,.slice A0 l0.length c0] 24 (0,0))) BKa.out hb); replace BKb := y0.mk (y8 (g := gb) (o := (.cells #[.slice A1 l1.length c1] 27 (0,0))) BKb.out hb); replace HB := y0.mk (y6 HB.out hb); (try clear hb); obtain ⟨hca0,hca1,hfa0,hfa1⟩ := QIv.box2 BKa.out; obtain ⟨hcb0,hfb0⟩ := QIv.box1 BKb.out)
   | (go_at_call 9; (with_reducible refine (laws_szTuple.calls k _ _ l1 r r2 _ (Kd.C_below HR1.out HB.out) HC1.out E2.out).mono ?_); rintro e w4 ⟨rfl,hb⟩; (repeat first | clear hca0 | clear hca1 | clear hcb0 | clear hfa0 | clear hfa1 | clear hfb0); replace BKa := y0.mk (y8 (g := ga) (o := (.cells #[.int .i64 a,.slice A0 l0.length c0] 24 (0,0))) BKa.out hb); replace BKb := y0.mk (y8 (g := gb) (o := (.cells #[.slice A1 l1.length c1] 27 (0,0))) BKb.out hb); replace HB := y0.mk (y6 HB.out hb); (try clear hb); obtain ⟨hca0,hca1,hfa0,hfa1⟩ := QIv.box2 BKa.out; obtain ⟨hcb0,hfb0⟩ := QIv.box1 BKb.out))
  go_ret
  exact ⟨by first | rfl | (simp [y13,y14] <;> rfl),HB.out⟩
 have hb1 : decide (r2 < 0) = false := decide_eq_false h0
 clear h0
 replace F1 := y0.mk F1
 replace F2 := y0.mk F2
 replace F3 := y0.mk F3
 replace F4 := y0.mk F4
 replace F5 := y0.mk F5
 replace F6 := y0.mk F6
 replace F7 := y0.mk F7
 replace F8 := y0.mk F8
 replace F9 := y0.mk F9
 replace F11 := y0.mk F11
 replace F13 := y0.mk F13
 have hb2 : decide (m2 < 0) = false := decide_eq_false F10
 have hb3 : decide (m3 < 0) = false := decide_eq_false F14
 have hb4 : (m3 != m3) = false := bne_self_eq_false m3
 have hb5 : (gq != gq) = false := by cases gq <;> rfl
 clear F10 F14
 have HELD : y0 (∀ (W : World) (A : Option Addr) (c : Nat),Kd.C k36 W A gm.length gm → gm.length ≤ c → Calls Tryz.prog 18 #[.agg #[.int .i64 gr,.slice A gs.length c],.int .i64 1] W fun e w' => e = .returned (.int .i64 m3) ∧ Below W.heap.size W w') := by
  refine ⟨fun W A c h1 h2 => ?_⟩
  have h_ := laws_heldRel.calls k gr A c gm 1 m3 W h1 h2 F13.out
  rw [F12] at h_
  exact h_
 have HGL := y0.mk F12
 clear F12
 go_enter Tryz.func3,Tryz.ntmps3
 go_upto_region 8 with (first
  | ((with_reducible refine y16 (N := 2) rfl ?_); refine qe 2 #[.int .i64 a,.slice A0 l0.length c0] 24 ?_; intro ga hg w1 hbox hb; have BKa := y0.mk (hbox); have GEa := y0.mk ((by rw [hg]; exact HB.out.size : w.heap.size ≤ ga)); replace HB := y0.mk (y6 HB.out hb); clear hb hg hbox; obtain ⟨hca0,hca1,hfa0,hfa1⟩ := QIv.box2 BKa.out)
  | ((with_reducible refine y16 (N := 3) rfl ?_); refine qe 3 #[.slice A1 l1.length c1] 27 ?_; intro gb hg w2 hbox hb; (repeat first | clear hca0 | clear hca1 | clear hfa0 | clear hfa1); have BKb := y0.mk (hbox); have GEb := y0.mk ((by rw [hg]; exact HB.out.size : w.heap.size ≤ gb)); have Na_b := y0.mk ((by rw [hg]; exact Nat.ne_of_lt (QIv.ki_lt BKa.out) : ga ≠ gb)); replace BKa := y0.mk (y8 (g := ga) (o := (.cells #[.int .i64 a,.slice A0 l0.length c0] 24 (0,0))) BKa.out hb); replace HB := y0.mk (y6 HB.out hb); clear hb hg hbox; obtain ⟨hca0,hca1,hfa0,hfa1⟩ := QIv.box2 BKa.out; obtain ⟨hcb0,hfb0⟩ := QIv.box1 BKb.out)
  | (go_at_call 8; (with_reducible refine (laws_szRel.calls k a _ _ l0 1048576 r _ (Kd.C_below HR0.out HB.out) HC0.out E1.out).mono ?_); rintro e w3 ⟨rfl,hb⟩; (repeat first | clear hca0 | clear hca1 | clear hcb0 | clear hfa0 | clear hfa1 | clear hfb0); replace BKa := y0.mk (y8 (g := ga) (o := (.cells #[.int .i64 a,.slice A0 l0.length c0] 24 (0,0))) BKa.out hb); replace BKb := y0.mk (y8 (g := gb) (o := (.cells #[.slice A1 l1.length c1] 27 (0,0))) BKb.out hb); replace HB := y0.mk (y6 HB.out hb); (try clear hb); obtain ⟨hca0,hca1,hfa0,hfa1⟩ := QIv.box2 BKa.out; obtain ⟨hcb0,hfb0⟩ := QIv.box1 BKb.out)
  | (go_at_call 9; (with_reducible refine (laws_szTuple.calls k _ _ l1 r r2 _ (Kd.C_below HR1.out HB.out) HC1.out E2.out).mono ?_); rintro e w4 ⟨rfl,hb⟩; (repeat first | clear hca0 | clear hca1 | clear hcb0 | clear hfa0 | clear hfa1 | clear hfb0); replace BKa := y0.mk (y8 (g := ga) (o := (.cells #[.int .i64 a,.slice A0 l0.length c0] 24 (0,0))) BKa.out hb); replace BKb := y0.mk (y8 (g := gb) (o := (.cells #[.slice A1 l1.length c1] 27 (0,0))) BKb.out hb); replace HB := y0.mk (y6 HB.out hb); (try clear hb); obtain ⟨hca0,hca1,hfa0,hfa1⟩ := QIv.box2 BKa.out; obtain ⟨hcb0,hfb0⟩ := QIv.box1 BKb.out))
 (repeat first | clear hca0 | clear hca1 | clear hcb0 | clear hfa0 | clear hfa1 | clear hfb0)
 refine start_ (n := 11) (S := fun w' => w'.cell? ⟨ga,0,none⟩ = some (.int .i64 a) ∧ w'.cell? ⟨ga,1,none⟩ = some (.slice A0 l0.length c0) ∧ w'.cell? ⟨gb,0,none⟩ = some (.slice A1 l1.length c1)) (ds := [9]) (fl_ 11 0) (by kernel_rfl) rfl rfl ⟨(y9 BKa.out 0).trans rfl,(y9 BKa.out 1).trans rfl,(y9 BKb.out 0).trans rfl⟩ (fun hHeld => ?_)
 replace BKa := y0.mk (y10 BKa.out)
 replace BKb := y0.mk (y10 BKb.out)
 replace HB := y0.mk (y4 HB.out)
 generalize w4.drew = w5 at BKa BKb HB hHeld ⊢
 refine take_ (i := 0) (N := some 28) (v := ?_) (a' := ?_) (fl_ 11 1) rfl rfl (by kernel_rfl) (fun _ _ _ h => h) (Or.inl ⟨by rfl, ?_⟩) hHeld ?_ ?_
 rotate_left
 ·rintro w' ⟨s0,s1,s2⟩
  go_simp
  with_reducible rfl
 rotate_left
 ·simp only [Act.put,qS_,qZ_,qC_,y19,y18]
  rfl
 refine take_ (i := 2) (N := some 30) (v := ?_) (a' := ?_) (fl_ 11 5) rfl rfl (by kernel_rfl) (fun _ _ _ h => h) (Or.inl ⟨by rfl, ?_⟩) hHeld ?_ ?_
 rotate_left
 ·rintro w' ⟨s0,s1,s2⟩
  go_simp
  with_reducible rfl
 rotate_left
 ·simp only [Act.put,qS_,qZ_,qC_,y19,y18]
  rfl
 refine join_ (σ := (Option Addr × Nat) × (Option Addr × Nat) × (Option Addr × Nat) × (Nat × Nat × Nat)) 2 (fl_ 11 511) (fun s => [(29,.agg #[.int .i64 ar,.slice s.1.1 xs.length s.1.2]),(31,.agg #[.slice s.2.1.1 ys.length s.2.1.2]),(32,.tuple #[.agg #[.int .i64 gr,.slice s.2.2.1.1 gs.length s.2.2.1.2],.bool gq]),(27,.tuple #[.agg #[.int .i64 gr,.slice s.2.2.1.1 gs.length s.2.2.1.2],.bool gq]),(33,.agg #[.int .i64 gr,.slice s.2.2.1.1 gs.length s.2.2.1.2]),(34,.bool gq),(6,.pointer (some ⟨s.2.2.2.1,0,none⟩))]) (fun s w' => Below w5.heap.size w5 w' ∧ QIv.OV k36 36 s.2.2.2.2.1 s.2.2.2.2.2 (.slice s.2.2.1.1 gs.length s.2.2.1.2) gs w' ∧ w5.heap.size ≤ s.2.2.2.2.1 ∧ s.2.2.2.2.2 ≤ w'.heap.size ∧ w5.heap.size ≤ s.2.2.2.1 ∧ (s.2.2.2.1 < s.2.2.2.2.1 ∨ s.2.2.2.2.2 ≤ s.2.2.2.1) ∧ w'.heap[s.2.2.2.1]? = some (.cells #[.int .i64 0,.slice none 0 0] 32 (0,0))) ?_ ?_
 rotate_left
 ·intro hCont
  refine two_ (i := 1) (j := 8) (Ni := some 29) (Nj := some 6) (fl_ 11 7) (fl_ 11 261) rfl rfl rfl rfl (by kernel_rfl) (by decide) (by decide) (fun K hK => ?_) (fun K hK => ?_)
  ·skip
   refine goes_ Tryz.func11 (by kernel_rfl) rfl #[.agg #[.int .i64 a,.slice A0 l0.length c0]] (by rfl) rfl rfl qy3 ?_
   with_reducible refine (laws_toRel.calls k a _ _ l0 ar xs _ (Kd.C_below HR0.out (y6 HB.out (Below.refl w5.heap.size w5))) HC0.out F1.out).mono ?_
   rintro e w5_1 ⟨v_,rfl,ho,hb⟩
   refine ⟨_,rfl, ?_⟩
   obtain ⟨loP_,hiP_,_,_,hO_⟩ := QIv.OS.new ho
   obtain ⟨AP_,cP_,eA_⟩ := hO_.slice
   subst eA_
   have OP_ := y0.mk (hO_)
   have HJ := y0.mk (y6 (Below.refl w5.heap.size w5) hb)
   clear hb ho hO_
   refine hK.out _ _ ⟨(y9 (y8 BKa.out HJ.out) 0).trans rfl,(y9 (y8 BKa.out HJ.out) 1).trans rfl,(y9 (y8 BKb.out HJ.out) 0).trans rfl⟩ (fun hHeld => ?_)
   clear hK K
   refine norm_ (a' := ?_) ?_ ?_
   rotate_left
   ·show Act.put _ (some 29) _ = _
    simp only [Act.put,qS_,qZ_,qC_,y19,y18]
    rfl
   refine two_ (i := 3) (j := 8) (Ni := some 31) (Nj := some 6) (fl_ 11 15) (fl_ 11 263) rfl rfl rfl rfl (by kernel_rfl) (by decide) (by decide) (fun K hK => ?_) (fun K hK => ?_)
   ·skip
    refine goes_ Tryz.func12 (by kernel_rfl) rfl #[.agg #[.slice A1 l1.length c1]] (by rfl) rfl rfl qy3 ?_
    with_reducible refine (laws_toTuple.calls k _ _ l1 ys _ (Kd.C_below HR1.out (y6 HB.out HJ.out)) HC1.out F2.out).mono ?_
    rintro e w5_13 ⟨v_,rfl,ho,hb⟩
    refine ⟨_,rfl, ?_⟩
    obtain ⟨loQ_,hiQ_,_,_,hO_⟩ := QIv.OR.new ho
    obtain ⟨AQ_,cQ_,eA_⟩ := hO_.slice
    subst eA_
    have OQ_ := y0.mk (hO_)
    replace OP_ := y0.mk (OP_.out.below hb)
    replace HJ := y0.mk (y6 HJ.out hb)
    clear hb ho hO_
    refine hK.out _ _ ⟨(y9 (y8 BKa.out HJ.out) 0).trans rfl,(y9 (y8 BKa.out HJ.out) 1).trans rfl,(y9 (y8 BKb.out HJ.out) 0).trans rfl⟩ (fun hHeld => ?_)
    clear hK K
    refine norm_ (a' := ?_) ?_ ?_
    rotate_left
    ·show Act.put _ (some 31) _ = _
     simp only [Act.put,qS_,qZ_,qC_,y19,y18]
     rfl
    refine two_ (i := 4) (j := 8) (Ni := some 32) (Nj := some 6) (fl_ 11 31) (fl_ 11 271) rfl rfl rfl rfl (by kernel_rfl) (by decide) (by decide) (fun K hK => ?_) (fun K hK => ?_)
    ·skip
     refine goes_ Tryz.func10 (by kernel_rfl) rfl #[.agg #[.int .i64 ar,.slice AP_ xs.length cP_],.agg #[.slice AQ_ ys.length cQ_]] (by rfl) rfl rfl qy3 ?_
     with_reducible refine (spec_RelPut.calls k ar _ _ xs _ _ ys gr gs gq _ OP_.out.C OP_.out.le OQ_.out.C OQ_.out.le F3.out).mono ?_
     rintro e w5_134 ⟨v_,rfl,ho,hb⟩
     refine ⟨_,rfl, ?_⟩
     obtain ⟨loW_,hiW_,hlo_,hhi_,hO_⟩ := QIv.OV.new ho
     obtain ⟨AW_,cW_,eA_⟩ := hO_.slice
     subst eA_
     have OW_ := y0.mk (hO_)
     have LOW_ := y0.mk ((by rw [hlo_]; exact HJ.out.size : w5.heap.size ≤ loW_))
     have HIW_ := y0.mk ((Nat.le_of_eq hhi_ : hiW_ ≤ w5_134.heap.size))
     replace HJ := y0.mk (y6 HJ.out hb)
     clear hb ho hO_ hlo_ hhi_
     refine hK.out _ _ ⟨(y9 (y8 BKa.out HJ.out) 0).trans rfl,(y9 (y8 BKa.out HJ.out) 1).trans rfl,(y9 (y8 BKb.out HJ.out) 0).trans rfl⟩ (fun hHeld => ?_)
     clear hK K
     refine norm_ (a' := ?_) ?_ ?_
     rotate_left
     ·show Act.put _ (some 32) _ = _
      simp only [Act.put,qS_,qZ_,qC_,y19,y18]
      rfl
     refine y20 (i := 5) (N := some 27) (v := ?_) (a' := ?_) (fl_ 11 63) rfl rfl (by kernel_rfl) (fun _ _ _ h => h) (Or.inl ⟨by rfl, ?_⟩) ?_ ?_
     rotate_left
     ·intro w'
      go_simp
      with_reducible rfl
     rotate_left
     ·simp only [Act.put,qS_,qZ_,qC_,y19,y18]
      rfl
     refine y20 (i := 6) (N := some 33) (v := ?_) (a' := ?_) (fl_ 11 127) rfl rfl (by kernel_rfl) (fun _ _ _ h => h) (Or.inl ⟨by rfl, ?_⟩) ?_ ?_
     rotate_left
     ·intro w'
      go_simp
      with_reducible rfl
     rotate_left
     ·simp only [Act.put,qS_,qZ_,qC_,y19,y18]
      rfl
     refine y20 (i := 7) (N := some 34) (v := ?_) (a' := ?_) (fl_ 11 255) rfl rfl (by kernel_rfl) (fun _ _ _ h => h) (Or.inl ⟨by rfl, ?_⟩) ?_ ?_
     rotate_left
     ·intro w'
      go_simp
      with_reducible rfl
     rotate_left
     ·simp only [Act.put,qS_,qZ_,qC_,y19,y18]
      rfl
     refine one_ (i := 8) (N := some 6) (fl_ 11 511) rfl rfl (by kernel_rfl) (by decide) (fun K hK => ?_)
     refine value_ (w1 := w5_134.alloc (.cells #[.int .i64 0,.slice none 0 0] 32 (0,0))) (v := .pointer (some ⟨w5_134.heap.size,0,none⟩)) (by rfl) rfl ?_ ?_
     ·first | (go_simp; done) | (go_simp; rfl)
     have hbx := blk_new w5_134 (.cells #[.int .i64 0,.slice none 0 0] 32 (0,0))
     have hb := y3 (Below.refl w5_134.heap.size w5_134) (.cells #[.int .i64 0,.slice none 0 0] 32 (0,0))
     generalize w5_134.alloc (.cells #[.int .i64 0,.slice none 0 0] 32 (0,0)) = w5_1348 at hbx hb ⊢
     obtain ⟨g6_,hg_⟩ : ∃ g,g = w5_134.heap.size := ⟨_,rfl⟩
     rw [← hg_] at hbx ⊢
     have BK6_ := y0.mk (hbx)
     have GE6_ := y0.mk ((by rw [hg_]; exact HJ.out.size : w5.heap.size ≤ g6_))
     have OR_ := y0.mk ((by rw [hg_]; exact .inr HIW_.out : g6_ < loW_ ∨ hiW_ ≤ g6_))
     replace OW_ := y0.mk (OW_.out.below hb)
     replace HIW_ := y0.mk (Nat.le_trans HIW_.out hb.size)
     replace HJ := y0.mk (y6 HJ.out hb)
     clear hb hbx hg_
     refine hK.out _ _ ⟨(y9 (y8 BKa.out HJ.out) 0).trans rfl,(y9 (y8 BKa.out HJ.out) 1).trans rfl,(y9 (y8 BKb.out HJ.out) 0).trans rfl⟩ (fun hHeld => ?_)
     clear hK K
     refine norm_ (a' := ?_) ?_ ?_
     rotate_left
     ·show Act.put _ (some 6) _ = _
      simp only [Act.put,qS_,qZ_,qC_,y19,y18]
      rfl
     exact norm_ qy5 (hCont ((AP_,cP_),(AQ_,cQ_),(AW_,cW_),(g6_,loW_,hiW_)) _ ⟨HJ.out,OW_.out,LOW_.out,HIW_.out,GE6_.out,OR_.out,BK6_.out⟩)
    ·skip
     refine value_ (w1 := w5_13.alloc (.cells #[.int .i64 0,.slice none 0 0] 32 (0,0))) (v := .pointer (some ⟨w5_13.heap.size,0,none⟩)) (by rfl) rfl ?_ ?_
     ·first | (go_simp; done) | (go_simp; rfl)
     have hbx := blk_new w5_13 (.cells #[.int .i64 0,.slice none 0 0] 32 (0,0))
     have hb := y3 (Below.refl w5_13.heap.size w5_13) (.cells #[.int .i64 0,.slice none 0 0] 32 (0,0))
     generalize w5_13.alloc (.cells #[.int .i64 0,.slice none 0 0] 32 (0,0)) = w5_138 at hbx hb ⊢
     obtain ⟨g6_,hg_⟩ : ∃ g,g = w5_13.heap.size := ⟨_,rfl⟩
     rw [← hg_] at hbx ⊢
     have BK6_ := y0.mk (hbx)
     have GE6_ := y0.mk ((by rw [hg_]; exact HJ.out.size : w5.heap.size ≤ g6_))
     replace OP_ := y0.mk (OP_.out.below hb)
     replace OQ_ := y0.mk (OQ_.out.below hb)
     replace HJ := y0.mk (y6 HJ.out hb)
     clear hb hbx hg_
     refine hK.out _ _ ⟨(y9 (y8 BKa.out HJ.out) 0).trans rfl,(y9 (y8 BKa.out HJ.out) 1).trans rfl,(y9 (y8 BKb.out HJ.out) 0).trans rfl⟩ (fun hHeld => ?_)
     clear hK K
     refine norm_ (a' := ?_) ?_ ?_
     rotate_left
     ·show Act.put _ (some 6) _ = _
      simp only [Act.put,qS_,qZ_,qC_,y19,y18]
      rfl
     refine one_ (i := 4) (N := some 32) (fl_ 11 287) rfl rfl (by kernel_rfl) (by decide) (fun K hK => ?_)
     refine goes_ Tryz.func10 (by kernel_rfl) rfl #[.agg #[.int .i64 ar,.slice AP_ xs.length cP_],.agg #[.slice AQ_ ys.length cQ_]] (by rfl) rfl rfl qy3 ?_
     with_reducible refine (spec_RelPut.calls k ar _ _ xs _ _ ys gr gs gq _ OP_.out.C OP_.out.le OQ_.out.C OQ_.out.le F3.out).mono ?_
     rintro e w5_1384 ⟨v_,rfl,ho,hb⟩
     refine ⟨_,rfl, ?_⟩
     obtain ⟨loW_,hiW_,hlo_,hhi_,hO_⟩ := QIv.OV.new ho
     obtain ⟨AW_,cW_,eA_⟩ := hO_.slice
     subst eA_
     have OW_ := y0.mk (hO_)
     have LOW_ := y0.mk ((by rw [hlo_]; exact HJ.out.size : w5.heap.size ≤ loW_))
     have HIW_ := y0.mk ((Nat.le_of_eq hhi_ : hiW_ ≤ w5_1384.heap.size))
     have OR_ := y0.mk ((by rw [hlo_]; exact .inl (QIv.ki_lt BK6_.out) : g6_ < loW_ ∨ hiW_ ≤ g6_))
     replace BK6_ := y0.mk (y8 BK6_.out hb)
     replace HJ := y0.mk (y6 HJ.out hb)
     clear hb ho hO_ hlo_ hhi_
     refine hK.out _ _ ⟨(y9 (y8 BKa.out HJ.out) 0).trans rfl,(y9 (y8 BKa.out HJ.out) 1).trans rfl,(y9 (y8 BKb.out HJ.out) 0).trans rfl⟩ (fun hHeld => ?_)
     clear hK K
     refine norm_ (a' := ?_) ?_ ?_
     rotate_left
     ·show Act.put _ (some 32) _ = _
      simp only [Act.put,qS_,qZ_,qC_,y19,y18]
      rfl
     refine y20 (i := 5) (N := some 27) (v := ?_) (a' := ?_) (fl_ 11 319) rfl rfl (by kernel_rfl) (fun _ _ _ h => h) (Or.inl ⟨by rfl, ?_⟩) ?_ ?_
     rotate_left
     ·intro w'
      go_simp
      with_reducible rfl
     rotate_left
     ·simp only [Act.put,qS_,qZ_,qC_,y19,y18]
      rfl
     refine y20 (i := 6) (N := some 33) (v := ?_) (a' := ?_) (fl_ 11 383) rfl rfl (by kernel_rfl) (fun _ _ _ h => h) (Or.inl ⟨by rfl, ?_⟩) ?_ ?_
     rotate_left
     ·intro w'
      go_simp
      with_reducible rfl
     rotate_left
     ·simp only [Act.put,qS_,qZ_,qC_,y19,y18]
      rfl
     refine y20 (i := 7) (N := some 34) (v := ?_) (a' := ?_) (fl_ 11 511) rfl rfl (by kernel_rfl) (fun _ _ _ h => h) (Or.inl ⟨by rfl, ?_⟩) ?_ ?_
     rotate_left
     ·intro w'
      go_simp
      with_reducible rfl
     rotate_left
     ·simp only [Act.put,qS_,qZ_,qC_,y19,y18]
      rfl
     exact norm_ qy5 (hCont ((AP_,cP_),(AQ_,cQ_),(AW_,cW_),(g6_,loW_,hiW_)) _ ⟨HJ.out,OW_.out,LOW_.out,HIW_.out,GE6_.out,OR_.out,BK6_.out⟩)
   ·skip
    refine value_ (w1 := w5_1.alloc (.cells #[.int .i64 0,.slice none 0 0] 32 (0,0))) (v := .pointer (some ⟨w5_1.heap.size,0,none⟩)) (by rfl) rfl ?_ ?_
    ·first | (go_simp; done) | (go_simp; rfl)
    have hbx := blk_new w5_1 (.cells #[.int .i64 0,.slice none 0 0] 32 (0,0))
    have hb := y3 (Below.refl w5_1.heap.size w5_1) (.cells #[.int .i64 0,.slice none 0 0] 32 (0,0))
    generalize w5_1.alloc (.cells #[.int .i64 0,.slice none 0 0] 32 (0,0)) = w5_18 at hbx hb ⊢
    obtain ⟨g6_,hg_⟩ : ∃ g,g = w5_1.heap.size := ⟨_,rfl⟩
    rw [← hg_] at hbx ⊢
    have BK6_ := y0.mk (hbx)
    have GE6_ := y0.mk ((by rw [hg_]; exact HJ.out.size : w5.heap.size ≤ g6_))
    replace OP_ := y0.mk (OP_.out.below hb)
    replace HJ := y0.mk (y6 HJ.out hb)
    clear hb hbx hg_
    refine hK.out _ _ ⟨(y9 (y8 BKa.out HJ.out) 0).trans rfl,(y9 (y8 BKa.out HJ.out) 1).trans rfl,(y9 (y8 BKb.out HJ.out) 0).trans rfl⟩ (fun hHeld => ?_)
    clear hK K
    refine norm_ (a' := ?_) ?_ ?_
    rotate_left
    ·show Act.put _ (some 6) _ = _
     simp only [Act.put,qS_,qZ_,qC_,y19,y18]
     rfl
    refine one_ (i := 3) (N := some 31) (fl_ 11 271) rfl rfl (by kernel_rfl) (by decide) (fun K hK => ?_)
    refine goes_ Tryz.func12 (by kernel_rfl) rfl #[.agg #[.slice A1 l1.length c1]] (by rfl) rfl rfl qy3 ?_
    with_reducible refine (laws_toTuple.calls k _ _ l1 ys _ (Kd.C_below HR1.out (y6 HB.out HJ.out)) HC1.out F2.out).mono ?_
    rintro e w5_183 ⟨v_,rfl,ho,hb⟩
    refine ⟨_,rfl, ?_⟩
    obtain ⟨loQ_,hiQ_,_,_,hO_⟩ := QIv.OR.new ho
    obtain ⟨AQ_,cQ_,eA_⟩ := hO_.slice
    subst eA_
    have OQ_ := y0.mk (hO_)
    replace BK6_ := y0.mk (y8 BK6_.out hb)
    replace OP_ := y0.mk (OP_.out.below hb)
    replace HJ := y0.mk (y6 HJ.out hb)
    clear hb ho hO_
    refine hK.out _ _ ⟨(y9 (y8 BKa.out HJ.out) 0).trans rfl,(y9 (y8 BKa.out HJ.out) 1).trans rfl,(y9 (y8 BKb.out HJ.out) 0).trans rfl⟩ (fun hHeld => ?_)
    clear hK K
    refine norm_ (a' := ?_) ?_ ?_
    rotate_left
    ·show Act.put _ (some 31) _ = _
     simp only [Act.put,qS_,qZ_,qC_,y19,y18]
     rfl
    refine one_ (i := 4) (N := some 32) (fl_ 11 287) rfl rfl (by kernel_rfl) (by decide) (fun K hK => ?_)
    refine goes_ Tryz.func10 (by kernel_rfl) rfl #[.agg #[.int .i64 ar,.slice AP_ xs.length cP_],.agg #[.slice AQ_ ys.length cQ_]] (by rfl) rfl rfl qy3 ?_
    with_reducible refine (spec_RelPut.calls k ar _ _ xs _ _ ys gr gs gq _ OP_.out.C OP_.out.le OQ_.out.C OQ_.out.le F3.out).mono ?_
    rintro e w5_1834 ⟨v_,rfl,ho,hb⟩
    refine ⟨_,rfl, ?_⟩
    obtain ⟨loW_,hiW_,hlo_,hhi_,hO_⟩ := QIv.OV.new ho
    obtain ⟨AW_,cW_,eA_⟩ := hO_.slice
    subst eA_
    have OW_ := y0.mk (hO_)
    have LOW_ := y0.mk ((by rw [hlo_]; exact HJ.out.size : w5.heap.size ≤ loW_))
    have HIW_ := y0.mk ((Nat.le_of_eq hhi_ : hiW_ ≤ w5_1834.heap.size))
    have OR_ := y0.mk ((by rw [hlo_]; exact .inl (QIv.ki_lt BK6_.out) : g6_ < loW_ ∨ hiW_ ≤ g6_))
    replace BK6_ := y0.mk (y8 BK6_.out hb)
    replace HJ := y0.mk (y6 HJ.out hb)
    clear hb ho hO_ hlo_ hhi_
    refine hK.out _ _ ⟨(y9 (y8 BKa.out HJ.out) 0).trans rfl,(y9 (y8 BKa.out HJ.out) 1).trans rfl,(y9 (y8 BKb.out HJ.out) 0).trans rfl⟩ (fun hHeld => ?_)
    clear hK K
    refine norm_ (a' := ?_) ?_ ?_
    rotate_left
    ·show Act.put _ (some 32) _ = _
     simp only [Act.put,qS_,qZ_,qC_,y19,y18]
     rfl
    refine y20 (i := 5) (N := some 27) (v := ?_) (a' := ?_) (fl_ 11 319) rfl rfl (by kernel_rfl) (fun _ _ _ h => h) (Or.inl ⟨by rfl, ?_⟩) ?_ ?_
    rotate_left
    ·intro w'
     go_simp
     with_reducible rfl
    rotate_left
    ·simp only [Act.put,qS_,qZ_,qC_,y19,y18]
     rfl
    refine y20 (i := 6) (N := some 33) (v := ?_) (a' := ?_) (fl_ 11 383) rfl rfl (by kernel_rfl) (fun _ _ _ h => h) (Or.inl ⟨by rfl, ?_⟩) ?_ ?_
    rotate_left
    ·intro w'
     go_simp
     with_reducible rfl
    rotate_left
    ·simp only [Act.put,qS_,qZ_,qC_,y19,y18]
     rfl
    refine y20 (i := 7) (N := some 34) (v := ?_) (a' := ?_) (fl_ 11 511) rfl rfl (by kernel_rfl) (fun _ _ _ h => h) (Or.inl ⟨by rfl, ?_⟩) ?_ ?_
    rotate_left
    ·intro w'
     go_simp
     with_reducible rfl
    rotate_left
    ·simp only [Act.put,qS_,qZ_,qC_,y19,y18]
     rfl
    exact norm_ qy5 (hCont ((AP_,cP_),(AQ_,cQ_),(AW_,cW_),(g6_,loW_,hiW_)) _ ⟨HJ.out,OW_.out,LOW_.out,HIW_.out,GE6_.out,OR_.out,BK6_.out⟩)
  ·skip
   refine value_ (w1 := w5.alloc (.cells #[.int .i64 0,.slice none 0 0] 32 (0,0))) (v := .pointer (some ⟨w5.heap.size,0,none⟩)) (by rfl) rfl ?_ ?_
   ·first | (go_simp; done) | (go_simp; rfl)
   have hbx := blk_new w5 (.cells #[.int .i64 0,.slice none 0 0] 32 (0,0))
   have hb := y3 (Below.refl w5.heap.size w5) (.cells #[.int .i64 0,.slice none 0 0] 32 (0,0))
   generalize w5.alloc (.cells #[.int .i64 0,.slice none 0 0] 32 (0,0)) = w5_8 at hbx hb ⊢
   obtain ⟨g6_,hg_⟩ : ∃ g,g = w5.heap.size := ⟨_,rfl⟩
   rw [← hg_] at hbx ⊢
   have BK6_ := y0.mk (hbx)
   have GE6_ := y0.mk ((by rw [hg_]; exact (Below.refl w5.heap.size w5).size : w5.heap.size ≤ g6_))
   have HJ := y0.mk (y6 (Below.refl w5.heap.size w5) hb)
   clear hb hbx hg_
   refine hK.out _ _ ⟨(y9 (y8 BKa.out HJ.out) 0).trans rfl,(y9 (y8 BKa.out HJ.out) 1).trans rfl,(y9 (y8 BKb.out HJ.out) 0).trans rfl⟩ (fun hHeld => ?_)
   clear hK K
   refine norm_ (a' := ?_) ?_ ?_
   rotate_left
   ·show Act.put _ (some 6) _ = _
    simp only [Act.put,qS_,qZ_,qC_,y19,y18]
    rfl
   refine one_ (i := 1) (N := some 29) (fl_ 11 263) rfl rfl (by kernel_rfl) (by decide) (fun K hK => ?_)
   refine goes_ Tryz.func11 (by kernel_rfl) rfl #[.agg #[.int .i64 a,.slice A0 l0.length c0]] (by rfl) rfl rfl qy3 ?_
   with_reducible refine (laws_toRel.calls k a _ _ l0 ar xs _ (Kd.C_below HR0.out (y6 HB.out HJ.out)) HC0.out F1.out).mono ?_
   rintro e w5_81 ⟨v_,rfl,ho,hb⟩
   refine ⟨_,rfl, ?_⟩
   obtain ⟨loP_,hiP_,_,_,hO_⟩ := QIv.OS.new ho
   obtain ⟨AP_,cP_,eA_⟩ := hO_.slice
   subst eA_
   have OP_ := y0.mk (hO_)
   replace BK6_ := y0.mk (y8 BK6_.out hb)
   replace HJ := y0.mk (y6 HJ.out hb)
   clear hb ho hO_
   refine hK.out _ _ ⟨(y9 (y8 BKa.out HJ.out) 0).trans rfl,(y9 (y8 BKa.out HJ.out) 1).trans rfl,(y9 (y8 BKb.out HJ.out) 0).trans rfl⟩ (fun hHeld => ?_)
   clear hK K
   refine norm_ (a' := ?_) ?_ ?_
   rotate_left
   ·show Act.put _ (some 29) _ = _
    simp only [Act.put,qS_,qZ_,qC_,y19,y18]
    rfl
   refine one_ (i := 3) (N := some 31) (fl_ 11 271) rfl rfl (by kernel_rfl) (by decide) (fun K hK => ?_)
   refine goes_ Tryz.func12 (by kernel_rfl) rfl #[.agg #[.slice A1 l1.length c1]] (by rfl) rfl rfl qy3 ?_
   with_reducible refine (laws_toTuple.calls k _ _ l1 ys _ (Kd.C_below HR1.out (y6 HB.out HJ.out)) HC1.out F2.out).mono ?_
   rintro e w5_813 ⟨v_,rfl,ho,hb⟩
   refine ⟨_,rfl, ?_⟩
   obtain ⟨loQ_,hiQ_,_,_,hO_⟩ := QIv.OR.new ho
   obtain ⟨AQ_,cQ_,eA_⟩ := hO_.slice
   subst eA_
   have OQ_ := y0.mk (hO_)
   replace BK6_ := y0.mk (y8 BK6_.out hb)
   replace OP_ := y0.mk (OP_.out.below hb)
   replace HJ := y0.mk (y6 HJ.out hb)
   clear hb ho hO_
   refine hK.out _ _ ⟨(y9 (y8 BKa.out HJ.out) 0).trans rfl,(y9 (y8 BKa.out HJ.out) 1).trans rfl,(y9 (y8 BKb.out HJ.out) 0).trans rfl⟩ (fun hHeld => ?_)
   clear hK K
   refine norm_ (a' := ?_) ?_ ?_
   rotate_left
   ·show Act.put _ (some 31) _ = _
    simp only [Act.put,qS_,qZ_,qC_,y19,y18]
    rfl
   refine one_ (i := 4) (N := some 32) (fl_ 11 287) rfl rfl (by kernel_rfl) (by decide) (fun K hK => ?_)
   refine goes_ Tryz.func10 (by kernel_rfl) rfl #[.agg #[.int .i64 ar,.slice AP_ xs.length cP_],.agg #[.slice AQ_ ys.length cQ_]] (by rfl) rfl rfl qy3 ?_
   with_reducible refine (spec_RelPut.calls k ar _ _ xs _ _ ys gr gs gq _ OP_.out.C OP_.out.le OQ_.out.C OQ_.out.le F3.out).mono ?_
   rintro e w5_8134 ⟨v_,rfl,ho,hb⟩
   refine ⟨_,rfl, ?_⟩
   obtain ⟨loW_,hiW_,hlo_,hhi_,hO_⟩ := QIv.OV.new ho
   obtain ⟨AW_,cW_,eA_⟩ := hO_.slice
   subst eA_
   have OW_ := y0.mk (hO_)
   have LOW_ := y0.mk ((by rw [hlo_]; exact HJ.out.size : w5.heap.size ≤ loW_))
   have HIW_ := y0.mk ((Nat.le_of_eq hhi_ : hiW_ ≤ w5_8134.heap.size))
   have OR_ := y0.mk ((by rw [hlo_]; exact .inl (QIv.ki_lt BK6_.out) : g6_ < loW_ ∨ hiW_ ≤ g6_))
   replace BK6_ := y0.mk (y8 BK6_.out hb)
   replace HJ := y0.mk (y6 HJ.out hb)
   clear hb ho hO_ hlo_ hhi_
   refine hK.out _ _ ⟨(y9 (y8 BKa.out HJ.out) 0).trans rfl,(y9 (y8 BKa.out HJ.out) 1).trans rfl,(y9 (y8 BKb.out HJ.out) 0).trans rfl⟩ (fun hHeld => ?_)
   clear hK K
   refine norm_ (a' := ?_) ?_ ?_
   rotate_left
   ·show Act.put _ (some 32) _ = _
    simp only [Act.put,qS_,qZ_,qC_,y19,y18]
    rfl
   refine y20 (i := 5) (N := some 27) (v := ?_) (a' := ?_) (fl_ 11 319) rfl rfl (by kernel_rfl) (fun _ _ _ h => h) (Or.inl ⟨by rfl, ?_⟩) ?_ ?_
   rotate_left
   ·intro w'
    go_simp
    with_reducible rfl
   rotate_left
   ·simp only [Act.put,qS_,qZ_,qC_,y19,y18]
    rfl
   refine y20 (i := 6) (N := some 33) (v := ?_) (a' := ?_) (fl_ 11 383) rfl rfl (by kernel_rfl) (fun _ _ _ h => h) (Or.inl ⟨by rfl, ?_⟩) ?_ ?_
   rotate_left
   ·intro w'
    go_simp
    with_reducible rfl
   rotate_left
   ·simp only [Act.put,qS_,qZ_,qC_,y19,y18]
    rfl
   refine y20 (i := 7) (N := some 34) (v := ?_) (a' := ?_) (fl_ 11 511) rfl rfl (by kernel_rfl) (fun _ _ _ h => h) (Or.inl ⟨by rfl, ?_⟩) ?_ ?_
   rotate_left
   ·intro w'
    go_simp
    with_reducible rfl
   rotate_left
   ·simp only [Act.put,qS_,qZ_,qC_,y19,y18]
    rfl
   exact norm_ qy5 (hCont ((AP_,cP_),(AQ_,cQ_),(AW_,cW_),(g6_,loW_,hiW_)) _ ⟨HJ.out,OW_.out,LOW_.out,HIW_.out,GE6_.out,OR_.out,BK6_.out⟩)
 rintro ⟨⟨AP_,cP_⟩,⟨AQ_,cQ_⟩,⟨AW,cW⟩,⟨gv,loW,hiW⟩⟩ w5_z ⟨hb,ho_,h1_,h2_,h3_,h4_,h5_⟩
 dsimp only at ho_ h1_ h2_ h3_ h4_ h5_
 have OW := y0.mk ((ho_ : QIv.OV k36 36 loW hiW (.slice AW gs.length cW) gs w5_z))
 have LW := y0.mk ((h2_ : hiW ≤ w5_z.heap.size))
 have BW := y0.mk ((Nat.le_trans HB.out.size h1_ : w.heap.size ≤ loW))
 have Ea_W := y0.mk ((Nat.lt_of_lt_of_le (QIv.ki_lt BKa.out) h1_ : ga < loW))
 have Eb_W := y0.mk ((Nat.lt_of_lt_of_le (QIv.ki_lt BKb.out) h1_ : gb < loW))
 have BKv := y0.mk ((h5_ : w5_z.heap[gv]? = some (.cells #[.int .i64 0,.slice none 0 0] 32 (0,0))))
 have GEv := y0.mk ((Nat.le_trans HB.out.size h3_ : w.heap.size ≤ gv))
 have EW_v := y0.mk ((h4_ : gv < loW ∨ hiW ≤ gv))
 have Na_v := y0.mk ((Nat.ne_of_lt (Nat.lt_of_lt_of_le (QIv.ki_lt BKa.out) h3_) : ga ≠ gv))
 have Nb_v := y0.mk ((Nat.ne_of_lt (Nat.lt_of_lt_of_le (QIv.ki_lt BKb.out) h3_) : gb ≠ gv))
 replace BKa := y0.mk (y8 (g := ga) (o := (.cells #[.int .i64 a,.slice A0 l0.length c0] 24 (0,0))) BKa.out hb)
 replace BKb := y0.mk (y8 (g := gb) (o := (.cells #[.slice A1 l1.length c1] 27 (0,0))) BKb.out hb)
 replace HB := y0.mk (y6 HB.out hb)
 clear hb ho_ h1_ h2_ h3_ h4_ h5_
 have hHeld : w5_z.cell? ⟨ga,0,none⟩ = some (.int .i64 a) ∧ w5_z.cell? ⟨ga,1,none⟩ = some (.slice A0 l0.length c0) ∧ w5_z.cell? ⟨gb,0,none⟩ = some (.slice A1 l1.length c1) := ⟨(y9 BKa.out 0).trans rfl,(y9 BKa.out 1).trans rfl,(y9 BKb.out 0).trans rfl⟩
 refine norm_ (a' := ?_) ?_ ?_
 rotate_left
 ·simp only [putAll,Act.put,qS_,qZ_,qC_]
  rfl
 refine last_ (i := 9) (N := none) (fl_ 11 1023) rfl rfl (by kernel_rfl) (by decide) (fun K hK => ?_)
 have hcs0 : w5_z.cell? ⟨gv,0,none⟩ = some (.int .i64 0) := (y9 BKv.out 0).trans rfl
 have hcs1 : w5_z.cell? ⟨gv,1,none⟩ = some (.slice none 0 0) := (y9 BKv.out 1).trans rfl
 have hfs0 := blk_frozen BKv.out 0
 have hfs1 := blk_frozen BKv.out 1
 refine skip_ (w1 := (w5_z.setCell ⟨gv,0,none⟩ (.int .i64 gr)).setCell ⟨gv,1,none⟩ (.slice AW gs.length cW)) (by rfl) rfl ?_ ?_
 ·first | (go_simp; done) | (go_simp; rfl)
 clear hcs0 hcs1 hfs0 hfs1
 refine hK.out _ _ ?_
 clear hK K
 refine y20 (i := 10) (N := some 7) (v := ?_) (a' := ?_) (fl_ 11 2047) rfl rfl (by kernel_rfl) (fun _ _ _ h => h) (Or.inl ⟨by rfl, ?_⟩) ?_ ?_
 rotate_left
 ·intro w'
  go_simp
  with_reducible rfl
 rotate_left
 ·simp only [Act.put,qS_,qZ_,qC_,y19,y18]
  rfl
 refine done_ (by kernel_rfl) ?_
 (repeat first | clear hca0 | clear hca1 | clear hcb0 | clear hcv0 | clear hcv1 | clear hfa0 | clear hfa1 | clear hfb0 | clear hfv0 | clear hfv1)
 replace OW := y0.mk (((OW.out.set (EW_v.out) _ _).set (EW_v.out) _ _) : QIv.OV k36 36 loW hiW (.slice AW gs.length cW) gs ((w5_z.setCell ⟨gv,0,none⟩ (.int .i64 gr)).setCell ⟨gv,1,none⟩ (.slice AW gs.length cW)))
 replace LW := y0.mk (by simpa using LW.out : hiW ≤ ((w5_z.setCell ⟨gv,0,none⟩ (.int .i64 gr)).setCell ⟨gv,1,none⟩ (.slice AW gs.length cW)).heap.size)
 replace BKa := y0.mk ((y12 (y12 BKa.out (Na_v.out) _) (Na_v.out) _) : ((w5_z.setCell ⟨gv,0,none⟩ (.int .i64 gr)).setCell ⟨gv,1,none⟩ (.slice AW gs.length cW)).heap[ga]? = some (.cells #[.int .i64 a,.slice A0 l0.length c0] 24 (0,0)))
 replace BKb := y0.mk ((y12 (y12 BKb.out (Nb_v.out) _) (Nb_v.out) _) : ((w5_z.setCell ⟨gv,0,none⟩ (.int .i64 gr)).setCell ⟨gv,1,none⟩ (.slice AW gs.length cW)).heap[gb]? = some (.cells #[.slice A1 l1.length c1] 27 (0,0)))
 replace BKv := y0.mk ((blk_set (blk_set BKv.out 0 (.int .i64 gr)) 1 (.slice AW gs.length cW)) : ((w5_z.setCell ⟨gv,0,none⟩ (.int .i64 gr)).setCell ⟨gv,1,none⟩ (.slice AW gs.length cW)).heap[gv]? = some (.cells #[.int .i64 gr,.slice AW gs.length cW] 32 (0,0)))
 replace HB := y0.mk ((below_set (below_set HB.out GEv.out) GEv.out) : Below w.heap.size w ((w5_z.setCell ⟨gv,0,none⟩ (.int .i64 gr)).setCell ⟨gv,1,none⟩ (.slice AW gs.length cW)))
 generalize ((w5_z.setCell ⟨gv,0,none⟩ (.int .i64 gr)).setCell ⟨gv,1,none⟩ (.slice AW gs.length cW)) = w6 at OW LW BKa BKb BKv HB ⊢
 obtain ⟨hca0,hca1,hfa0,hfa1⟩ := QIv.box2 BKa.out
 obtain ⟨hcb0,hfb0⟩ := QIv.box1 BKb.out
 obtain ⟨hcv0,hcv1,hfv0,hfv1⟩ := QIv.box2 BKv.out
 go_upto_region 10 with (first
  | (go_at_call 11; (with_reducible refine (laws_toRel.calls k a _ _ l0 ar xs _ (Kd.C_below HR0.out HB.out) HC0.out F1.out).mono ?_); rintro e w7 ⟨v_,rfl,ho,hb⟩; obtain ⟨loX,hiX,hlo_,hhi_,hO_⟩ := QIv.OS.new ho; obtain ⟨AX,cX,eA_⟩ := hO_.slice; subst eA_; (repeat first | clear hca0 | clear hca1 | clear hcb0 | clear hcv0 | clear hcv1 | clear hfa0 | clear hfa1 | clear hfb0 | clear hfv0 | clear hfv1); have OX := y0.mk (hO_); have LX := y0.mk ((by rw [hhi_]; exact Nat.le_refl _ : hiX ≤ _)); have BX := y0.mk ((by rw [hlo_]; exact HB.out.size : w.heap.size ≤ loX)); have DW_X := y0.mk ((by rw [hlo_]; exact LW.out : hiW ≤ loX)); have Ea_X := y0.mk ((by rw [hlo_]; exact QIv.ki_lt BKa.out : ga < loX)); have Eb_X := y0.mk ((by rw [hlo_]; exact QIv.ki_lt BKb.out : gb < loX)); have Ev_X := y0.mk ((by rw [hlo_]; exact QIv.ki_lt BKv.out : gv < loX)); replace OW := y0.mk (OW.out.below hb); replace LW := y0.mk (Nat.le_trans LW.out hb.size); replace BKa := y0.mk (y8 (g := ga) (o := (.cells #[.int .i64 a,.slice A0 l0.length c0] 24 (0,0))) BKa.out hb); replace BKb := y0.mk (y8 (g := gb) (o := (.cells #[.slice A1 l1.length c1] 27 (0,0))) BKb.out hb); replace BKv := y0.mk (y8 (g := gv) (o := (.cells #[.int .i64 gr,.slice AW gs.length cW] 32 (0,0))) BKv.out hb); replace HB := y0.mk (y6 HB.out hb); (try clear hb); (try clear ho); (try clear hlo_); (try clear hhi_); obtain ⟨hca0,hca1,hfa0,hfa1⟩ := QIv.box2 BKa.out; obtain ⟨hcb0,hfb0⟩ := QIv.box1 BKb.out; obtain ⟨hcv0,hcv1,hfv0,hfv1⟩ := QIv.box2 BKv.out)
  | ((with_reducible refine y16 (N := 8) rfl ?_); refine qe 8 #[.int .i64 0,.slice none 0 0] 32 ?_; intro gx hg w8 hbox hb; (repeat first | clear hca0 | clear hca1 | clear hcb0 | clear hcv0 | clear hcv1 | clear hfa0 | clear hfa1 | clear hfb0 | clear hfv0 | clear hfv1); have BKx := y0.mk (hbox); have GEx := y0.mk ((by rw [hg]; exact HB.out.size : w.heap.size ≤ gx)); have EW_x := y0.mk ((by rw [hg]; exact LW.out : hiW ≤ gx)); have EX_x := y0.mk ((by rw [hg]; exact LX.out : hiX ≤ gx)); have Na_x := y0.mk ((by rw [hg]; exact Nat.ne_of_lt (QIv.ki_lt BKa.out) : ga ≠ gx)); have Nb_x := y0.mk ((by rw [hg]; exact Nat.ne_of_lt (QIv.ki_lt BKb.out) : gb ≠ gx)); have Nv_x := y0.mk ((by rw [hg]; exact Nat.ne_of_lt (QIv.ki_lt BKv.out) : gv ≠ gx)); replace OW := y0.mk (OW.out.below hb); replace OX := y0.mk (OX.out.below hb); replace LW := y0.mk (Nat.le_trans LW.out hb.size); replace LX := y0.mk (Nat.le_trans LX.out hb.size); replace BKa := y0.mk (y8 (g := ga) (o := (.cells #[.int .i64 a,.slice A0 l0.length c0] 24 (0,0))) BKa.out hb); replace BKb := y0.mk (y8 (g := gb) (o := (.cells #[.slice A1 l1.length c1] 27 (0,0))) BKb.out hb); replace BKv := y0.mk (y8 (g := gv) (o := (.cells #[.int .i64 gr,.slice AW gs.length cW] 32 (0,0))) BKv.out hb); replace HB := y0.mk (y6 HB.out hb); clear hb hg hbox; obtain ⟨hca0,hca1,hfa0,hfa1⟩ := QIv.box2 BKa.out; obtain ⟨hcb0,hfb0⟩ := QIv.box1 BKb.out; obtain ⟨hcv0,hcv1,hfv0,hfv1⟩ := QIv.box2 BKv.out; obtain ⟨hcx0,hcx1,hfx0,hfx1⟩ := QIv.box2 BKx.out))
 (repeat first | clear hca0 | clear hca1 | clear hcb0 | clear hcv0 | clear hcv1 | clear hcx0 | clear hcx1 | clear hfa0 | clear hfa1 | clear hfb0 | clear hfv0 | clear hfv1 | clear hfx0 | clear hfx1)
 replace OW := y0.mk (((OW.out.set (.inr EW_x.out) _ _).set (.inr EW_x.out) _ _) : QIv.OV k36 36 loW hiW (.slice AW gs.length cW) gs ((w8.setCell ⟨gx,0,none⟩ (.int .i64 ar)).setCell ⟨gx,1,none⟩ (.slice AX xs.length cX)))
 replace LW := y0.mk (by simpa using LW.out : hiW ≤ ((w8.setCell ⟨gx,0,none⟩ (.int .i64 ar)).setCell ⟨gx,1,none⟩ (.slice AX xs.length cX)).heap.size)
 replace OX := y0.mk (((OX.out.set (.inr EX_x.out) _ _).set (.inr EX_x.out) _ _) : QIv.OS k36 36 loX hiX (.slice AX xs.length cX) xs ((w8.setCell ⟨gx,0,none⟩ (.int .i64 ar)).setCell ⟨gx,1,none⟩ (.slice AX xs.length cX)))
 replace LX := y0.mk (by simpa using LX.out : hiX ≤ ((w8.setCell ⟨gx,0,none⟩ (.int .i64 ar)).setCell ⟨gx,1,none⟩ (.slice AX xs.length cX)).heap.size)
 replace BKa := y0.mk ((y12 (y12 BKa.out (Na_x.out) _) (Na_x.out) _) : ((w8.setCell ⟨gx,0,none⟩ (.int .i64 ar)).setCell ⟨gx,1,none⟩ (.slice AX xs.length cX)).heap[ga]? = some (.cells #[.int .i64 a,.slice A0 l0.length c0] 24 (0,0)))
 replace BKb := y0.mk ((y12 (y12 BKb.out (Nb_x.out) _) (Nb_x.out) _) : ((w8.setCell ⟨gx,0,none⟩ (.int .i64 ar)).setCell ⟨gx,1,none⟩ (.slice AX xs.length cX)).heap[gb]? = some (.cells #[.slice A1 l1.length c1] 27 (0,0)))
 replace BKv := y0.mk ((y12 (y12 BKv.out (Nv_x.out) _) (Nv_x.out) _) : ((w8.setCell ⟨gx,0,none⟩ (.int .i64 ar)).setCell ⟨gx,1,none⟩ (.slice AX xs.length cX)).heap[gv]? = some (.cells #[.int .i64 gr,.slice AW gs.length cW] 32 (0,0)))
 replace BKx := y0.mk ((blk_set (blk_set BKx.out 0 (.int .i64 ar)) 1 (.slice AX xs.length cX)) : ((w8.setCell ⟨gx,0,none⟩ (.int .i64 ar)).setCell ⟨gx,1,none⟩ (.slice AX xs.length cX)).heap[gx]? = some (.cells #[.int .i64 ar,.slice AX xs.length cX] 32 (0,0)))
 replace HB := y0.mk ((below_set (below_set HB.out GEx.out) GEx.out) : Below w.heap.size w ((w8.setCell ⟨gx,0,none⟩ (.int .i64 ar)).setCell ⟨gx,1,none⟩ (.slice AX xs.length cX)))
 generalize ((w8.setCell ⟨gx,0,none⟩ (.int .i64 ar)).setCell ⟨gx,1,none⟩ (.slice AX xs.length cX)) = w9 at OW LW OX LX BKa BKb BKv BKx HB ⊢
 obtain ⟨hca0,hca1,hfa0,hfa1⟩ := QIv.box2 BKa.out
 obtain ⟨hcb0,hfb0⟩ := QIv.box1 BKb.out
 obtain ⟨hcv0,hcv1,hfv0,hfv1⟩ := QIv.box2 BKv.out
 obtain ⟨hcx0,hcx1,hfx0,hfx1⟩ := QIv.box2 BKx.out
 go_upto_region 11 with (first
  | (go_at_call 12; (with_reducible refine (laws_toTuple.calls k _ _ l1 ys _ (Kd.C_below HR1.out HB.out) HC1.out F2.out).mono ?_); rintro e w10 ⟨v_,rfl,ho,hb⟩; obtain ⟨loY,hiY,hlo_,hhi_,hO_⟩ := QIv.OR.new ho; obtain ⟨AY,cY,eA_⟩ := hO_.slice; subst eA_; (repeat first | clear hca0 | clear hca1 | clear hcb0 | clear hcv0 | clear hcv1 | clear hcx0 | clear hcx1 | clear hfa0 | clear hfa1 | clear hfb0 | clear hfv0 | clear hfv1 | clear hfx0 | clear hfx1); have OY := y0.mk (hO_); have LY := y0.mk ((by rw [hhi_]; exact Nat.le_refl _ : hiY ≤ _)); have BY := y0.mk ((by rw [hlo_]; exact HB.out.size : w.heap.size ≤ loY)); have DW_Y := y0.mk ((by rw [hlo_]; exact LW.out : hiW ≤ loY)); have DX_Y := y0.mk ((by rw [hlo_]; exact LX.out : hiX ≤ loY)); have Ea_Y := y0.mk ((by rw [hlo_]; exact QIv.ki_lt BKa.out : ga < loY)); have Eb_Y := y0.mk ((by rw [hlo_]; exact QIv.ki_lt BKb.out : gb < loY)); have Ev_Y := y0.mk ((by rw [hlo_]; exact QIv.ki_lt BKv.out : gv < loY)); have Ex_Y := y0.mk ((by rw [hlo_]; exact QIv.ki_lt BKx.out : gx < loY)); replace OW := y0.mk (OW.out.below hb); replace OX := y0.mk (OX.out.below hb); replace LW := y0.mk (Nat.le_trans LW.out hb.size); replace LX := y0.mk (Nat.le_trans LX.out hb.size); replace BKa := y0.mk (y8 (g := ga) (o := (.cells #[.int .i64 a,.slice A0 l0.length c0] 24 (0,0))) BKa.out hb); replace BKb := y0.mk (y8 (g := gb) (o := (.cells #[.slice A1 l1.length c1] 27 (0,0))) BKb.out hb); replace BKv := y0.mk (y8 (g := gv) (o := (.cells #[.int .i64 gr,.slice AW gs.length cW] 32 (0,0))) BKv.out hb); replace BKx := y0.mk (y8 (g := gx) (o := (.cells #[.int .i64 ar,.slice AX xs.length cX] 32 (0,0))) BKx.out hb); replace HB := y0.mk (y6 HB.out hb); (try clear hb); (try clear ho); (try clear hlo_); (try clear hhi_); obtain ⟨hca0,hca1,hfa0,hfa1⟩ := QIv.box2 BKa.out; obtain ⟨hcb0,hfb0⟩ := QIv.box1 BKb.out; obtain ⟨hcv0,hcv1,hfv0,hfv1⟩ := QIv.box2 BKv.out; obtain ⟨hcx0,hcx1,hfx0,hfx1⟩ := QIv.box2 BKx.out)
  | ((with_reducible refine y16 (N := 9) rfl ?_); refine qe 9 #[.slice none 0 0] 36 ?_; intro gy hg w11 hbox hb; (repeat first | clear hca0 | clear hca1 | clear hcb0 | clear hcv0 | clear hcv1 | clear hcx0 | clear hcx1 | clear hfa0 | clear hfa1 | clear hfb0 | clear hfv0 | clear hfv1 | clear hfx0 | clear hfx1); have BKy := y0.mk (hbox); have GEy := y0.mk ((by rw [hg]; exact HB.out.size : w.heap.size ≤ gy)); have EW_y := y0.mk ((by rw [hg]; exact LW.out : hiW ≤ gy)); have EX_y := y0.mk ((by rw [hg]; exact LX.out : hiX ≤ gy)); have EY_y := y0.mk ((by rw [hg]; exact LY.out : hiY ≤ gy)); have Na_y := y0.mk ((by rw [hg]; exact Nat.ne_of_lt (QIv.ki_lt BKa.out) : ga ≠ gy)); have Nb_y := y0.mk ((by rw [hg]; exact Nat.ne_of_lt (QIv.ki_lt BKb.out) : gb ≠ gy)); have Nv_y := y0.mk ((by rw [hg]; exact Nat.ne_of_lt (QIv.ki_lt BKv.out) : gv ≠ gy)); have Nx_y := y0.mk ((by rw [hg]; exact Nat.ne_of_lt (QIv.ki_lt BKx.out) : gx ≠ gy)); replace OW := y0.mk (OW.out.below hb); replace OX := y0.mk (OX.out.below hb); replace OY := y0.mk (OY.out.below hb); replace LW := y0.mk (Nat.le_trans LW.out hb.size); replace LX := y0.mk (Nat.le_trans LX.out hb.size); replace LY := y0.mk (Nat.le_trans LY.out hb.size); replace BKa := y0.mk (y8 (g := ga) (o := (.cells #[.int .i64 a,.slice A0 l0.length c0] 24 (0,0))) BKa.out hb); replace BKb := y0.mk (y8 (g := gb) (o := (.cells #[.slice A1 l1.length c1] 27 (0,0))) BKb.out hb); replace BKv := y0.mk (y8 (g := gv) (o := (.cells #[.int .i64 gr,.slice AW gs.length cW] 32 (0,0))) BKv.out hb); replace BKx := y0.mk (y8 (g := gx) (o := (.cells #[.int .i64 ar,.slice AX xs.length cX] 32 (0,0))) BKx.out hb); replace HB := y0.mk (y6 HB.out hb); clear hb hg hbox; obtain ⟨hca0,hca1,hfa0,hfa1⟩ := QIv.box2 BKa.out; obtain ⟨hcb0,hfb0⟩ := QIv.box1 BKb.out; obtain ⟨hcv0,hcv1,hfv0,hfv1⟩ := QIv.box2 BKv.out; obtain ⟨hcx0,hcx1,hfx0,hfx1⟩ := QIv.box2 BKx.out; obtain ⟨hcy0,hfy0⟩ := QIv.box1 BKy.out))
 (repeat first | clear hca0 | clear hca1 | clear hcb0 | clear hcv0 | clear hcv1 | clear hcx0 | clear hcx1 | clear hcy0 | clear hfa0 | clear hfa1 | clear hfb0 | clear hfv0 | clear hfv1 | clear hfx0 | clear hfx1 | clear hfy0)
 replace OW := y0.mk ((OW.out.set (.inr EW_y.out) _ _) : QIv.OV k36 36 loW hiW (.slice AW gs.length cW) gs (w11.setCell ⟨gy,0,none⟩ (.slice AY ys.length cY)))
 replace LW := y0.mk (by simpa using LW.out : hiW ≤ (w11.setCell ⟨gy,0,none⟩ (.slice AY ys.length cY)).heap.size)
 replace OX := y0.mk ((OX.out.set (.inr EX_y.out) _ _) : QIv.OS k36 36 loX hiX (.slice AX xs.length cX) xs (w11.setCell ⟨gy,0,none⟩ (.slice AY ys.length cY)))
 replace LX := y0.mk (by simpa using LX.out : hiX ≤ (w11.setCell ⟨gy,0,none⟩ (.slice AY ys.length cY)).heap.size)
 replace OY := y0.mk ((OY.out.set (.inr EY_y.out) _ _) : QIv.OR Kd.string 9 loY hiY (.slice AY ys.length cY) ys (w11.setCell ⟨gy,0,none⟩ (.slice AY ys.length cY)))
 replace LY := y0.mk (by simpa using LY.out : hiY ≤ (w11.setCell ⟨gy,0,none⟩ (.slice AY ys.length cY)).heap.size)
 replace BKa := y0.mk ((y12 BKa.out (Na_y.out) _) : (w11.setCell ⟨gy,0,none⟩ (.slice AY ys.length cY)).heap[ga]? = some (.cells #[.int .i64 a,.slice A0 l0.length c0] 24 (0,0)))
 replace BKb := y0.mk ((y12 BKb.out (Nb_y.out) _) : (w11.setCell ⟨gy,0,none⟩ (.slice AY ys.length cY)).heap[gb]? = some (.cells #[.slice A1 l1.length c1] 27 (0,0)))
 replace BKv := y0.mk ((y12 BKv.out (Nv_y.out) _) : (w11.setCell ⟨gy,0,none⟩ (.slice AY ys.length cY)).heap[gv]? = some (.cells #[.int .i64 gr,.slice AW gs.length cW] 32 (0,0)))
 replace BKx := y0.mk ((y12 BKx.out (Nx_y.out) _) : (w11.setCell ⟨gy,0,none⟩ (.slice AY ys.length cY)).heap[gx]? = some (.cells #[.int .i64 ar,.slice AX xs.length cX] 32 (0,0)))
 replace BKy := y0.mk ((blk_set BKy.out 0 (.slice AY ys.length cY)) : (w11.setCell ⟨gy,0,none⟩ (.slice AY ys.length cY)).heap[gy]? = some (.cells #[.slice AY ys.length cY] 36 (0,0)))
 replace HB := y0.mk ((below_set HB.out GEy.out) : Below w.heap.size w (w11.setCell ⟨gy,0,none⟩ (.slice AY ys.length cY)))
 generalize (w11.setCell ⟨gy,0,none⟩ (.slice AY ys.length cY)) = w12 at OW LW OX LX OY LY BKa BKb BKv BKx BKy HB ⊢
 obtain ⟨hca0,hca1,hfa0,hfa1⟩ := QIv.box2 BKa.out
 obtain ⟨hcb0,hfb0⟩ := QIv.box1 BKb.out
 obtain ⟨hcv0,hcv1,hfv0,hfv1⟩ := QIv.box2 BKv.out
 obtain ⟨hcx0,hcx1,hfx0,hfx1⟩ := QIv.box2 BKx.out
 obtain ⟨hcy0,hfy0⟩ := QIv.box1 BKy.out
 go_upto_region 12 with (first
  | (go_at_call 13; (with_reducible refine (impl_RelPut.calls k ar _ _ xs _ _ ys gr gs gq _ OX.out.C OX.out.le OY.out.C OY.out.le (Tb.below HT.out HB.out) F4.out).mono ?_); rintro e w13 ⟨v_,rfl,ho,hb⟩; obtain ⟨loG,hiG,hlo_,hhi_,hO_⟩ := QIv.OS.new ho; obtain ⟨AG,cG,eA_⟩ := hO_.slice; subst eA_; (repeat first | clear hca0 | clear hca1 | clear hcb0 | clear hcv0 | clear hcv1 | clear hcx0 | clear hcx1 | clear hcy0 | clear hfa0 | clear hfa1 | clear hfb0 | clear hfv0 | clear hfv1 | clear hfx0 | clear hfx1 | clear hfy0); have OG := y0.mk (hO_); have LG := y0.mk ((by rw [hhi_]; exact Nat.le_refl _ : hiG ≤ _)); have BG := y0.mk ((by rw [hlo_]; exact HB.out.size : w.heap.size ≤ loG)); have DW_G := y0.mk ((by rw [hlo_]; exact LW.out : hiW ≤ loG)); have DX_G := y0.mk ((by rw [hlo_]; exact LX.out : hiX ≤ loG)); have DY_G := y0.mk ((by rw [hlo_]; exact LY.out : hiY ≤ loG)); have Ea_G := y0.mk ((by rw [hlo_]; exact QIv.ki_lt BKa.out : ga < loG)); have Eb_G := y0.mk ((by rw [hlo_]; exact QIv.ki_lt BKb.out : gb < loG)); have Ev_G := y0.mk ((by rw [hlo_]; exact QIv.ki_lt BKv.out : gv < loG)); have Ex_G := y0.mk ((by rw [hlo_]; exact QIv.ki_lt BKx.out : gx < loG)); have Ey_G := y0.mk ((by rw [hlo_]; exact QIv.ki_lt BKy.out : gy < loG)); replace OW := y0.mk (OW.out.below hb); replace OX := y0.mk (OX.out.below hb); replace OY := y0.mk (OY.out.below hb); replace LW := y0.mk (Nat.le_trans LW.out hb.size); replace LX := y0.mk (Nat.le_trans LX.out hb.size); replace LY := y0.mk (Nat.le_trans LY.out hb.size); replace BKa := y0.mk (y8 (g := ga) (o := (.cells #[.int .i64 a,.slice A0 l0.length c0] 24 (0,0))) BKa.out hb); replace BKb := y0.mk (y8 (g := gb) (o := (.cells #[.slice A1 l1.length c1] 27 (0,0))) BKb.out hb); replace BKv := y0.mk (y8 (g := gv) (o := (.cells #[.int .i64 gr,.slice AW gs.length cW] 32 (0,0))) BKv.out hb); replace BKx := y0.mk (y8 (g := gx) (o := (.cells #[.int .i64 ar,.slice AX xs.length cX] 32 (0,0))) BKx.out hb); replace BKy := y0.mk (y8 (g := gy) (o := (.cells #[.slice AY ys.length cY] 36 (0,0))) BKy.out hb); replace HB := y0.mk (y6 HB.out hb); (try clear hb); (try clear ho); (try clear hlo_); (try clear hhi_); obtain ⟨hca0,hca1,hfa0,hfa1⟩ := QIv.box2 BKa.out; obtain ⟨hcb0,hfb0⟩ := QIv.box1 BKb.out; obtain ⟨hcv0,hcv1,hfv0,hfv1⟩ := QIv.box2 BKv.out; obtain ⟨hcx0,hcx1,hfx0,hfx1⟩ := QIv.box2 BKx.out; obtain ⟨hcy0,hfy0⟩ := QIv.box1 BKy.out)
  | ((with_reducible refine y16 (N := 10) rfl ?_); refine qe 10 #[.int .i64 0,.slice none 0 0] 32 ?_; intro gg hg w14 hbox hb; (repeat first | clear hca0 | clear hca1 | clear hcb0 | clear hcv0 | clear hcv1 | clear hcx0 | clear hcx1 | clear hcy0 | clear hfa0 | clear hfa1 | clear hfb0 | clear hfv0 | clear hfv1 | clear hfx0 | clear hfx1 | clear hfy0); have BKg := y0.mk (hbox); have GEg := y0.mk ((by rw [hg]; exact HB.out.size : w.heap.size ≤ gg)); have EW_g := y0.mk ((by rw [hg]; exact LW.out : hiW ≤ gg)); have EX_g := y0.mk ((by rw [hg]; exact LX.out : hiX ≤ gg)); have EY_g := y0.mk ((by rw [hg]; exact LY.out : hiY ≤ gg)); have EG_g := y0.mk ((by rw [hg]; exact LG.out : hiG ≤ gg)); have Na_g := y0.mk ((by rw [hg]; exact Nat.ne_of_lt (QIv.ki_lt BKa.out) : ga ≠ gg)); have Nb_g := y0.mk ((by rw [hg]; exact Nat.ne_of_lt (QIv.ki_lt BKb.out) : gb ≠ gg)); have Nv_g := y0.mk ((by rw [hg]; exact Nat.ne_of_lt (QIv.ki_lt BKv.out) : gv ≠ gg)); have Nx_g := y0.mk ((by rw [hg]; exact Nat.ne_of_lt (QIv.ki_lt BKx.out) : gx ≠ gg)); have Ny_g := y0.mk ((by rw [hg]; exact Nat.ne_of_lt (QIv.ki_lt BKy.out) : gy ≠ gg)); replace OW := y0.mk (OW.out.below hb); replace OX := y0.mk (OX.out.below hb); replace OY := y0.mk (OY.out.below hb); replace OG := y0.mk (OG.out.below hb); replace LW := y0.mk (Nat.le_trans LW.out hb.size); replace LX := y0.mk (Nat.le_trans LX.out hb.size); replace LY := y0.mk (Nat.le_trans LY.out hb.size); replace LG := y0.mk (Nat.le_trans LG.out hb.size); replace BKa := y0.mk (y8 (g := ga) (o := (.cells #[.int .i64 a,.slice A0 l0.length c0] 24 (0,0))) BKa.out hb); replace BKb := y0.mk (y8 (g := gb) (o := (.cells #[.slice A1 l1.length c1] 27 (0,0))) BKb.out hb); replace BKv := y0.mk (y8 (g := gv) (o := (.cells #[.int .i64 gr,.slice AW gs.length cW] 32 (0,0))) BKv.out hb); replace BKx := y0.mk (y8 (g := gx) (o := (.cells #[.int .i64 ar,.slice AX xs.length cX] 32 (0,0))) BKx.out hb); replace BKy := y0.mk (y8 (g := gy) (o := (.cells #[.slice AY ys.length cY] 36 (0,0))) BKy.out hb); replace HB := y0.mk (y6 HB.out hb); clear hb hg hbox; obtain ⟨hca0,hca1,hfa0,hfa1⟩ := QIv.box2 BKa.out; obtain ⟨hcb0,hfb0⟩ := QIv.box1 BKb.out; obtain ⟨hcv0,hcv1,hfv0,hfv1⟩ := QIv.box2 BKv.out; obtain ⟨hcx0,hcx1,hfx0,hfx1⟩ := QIv.box2 BKx.out; obtain ⟨hcy0,hfy0⟩ := QIv.box1 BKy.out; obtain ⟨hcg0,hcg1,hfg0,hfg1⟩ := QIv.box2 BKg.out))
 (repeat first | clear hca0 | clear hca1 | clear hcb0 | clear hcv0 | clear hcv1 | clear hcx0 | clear hcx1 | clear hcy0 | clear hcg0 | clear hcg1 | clear hfa0 | clear hfa1 | clear hfb0 | clear hfv0 | clear hfv1 | clear hfx0 | clear hfx1 | clear hfy0 | clear hfg0 | clear hfg1)
 replace OW := y0.mk (((OW.out.set (.inr EW_g.out) _ _).set (.inr EW_g.out) _ _) : QIv.OV k36 36 loW hiW (.slice AW gs.length cW) gs ((w14.setCell ⟨gg,0,none⟩ (.int .i64 gr)).setCell ⟨gg,1,none⟩ (.slice AG gs.length cG)))
 replace LW := y0.mk (by simpa using LW.out : hiW ≤ ((w14.setCell ⟨gg,0,none⟩ (.int .i64 gr)).setCell ⟨gg,1,none⟩ (.slice AG gs.length cG)).heap.size)
 replace OX := y0.mk (((OX.out.set (.inr EX_g.out) _ _).set (.inr EX_g.out) _ _) : QIv.OS k36 36 loX hiX (.slice AX xs.length cX) xs ((w14.setCell ⟨gg,0,none⟩ (.int .i64 gr)).setCell ⟨gg,1,none⟩ (.slice AG gs.length cG)))
 replace LX := y0.mk (by simpa using LX.out : hiX ≤ ((w14.setCell ⟨gg,0,none⟩ (.int .i64 gr)).setCell ⟨gg,1,none⟩ (.slice AG gs.length cG)).heap.size)
 replace OY := y0.mk (((OY.out.set (.inr EY_g.out) _ _).set (.inr EY_g.out) _ _) : QIv.OR Kd.string 9 loY hiY (.slice AY ys.length cY) ys ((w14.setCell ⟨gg,0,none⟩ (.int .i64 gr)).setCell ⟨gg,1,none⟩ (.slice AG gs.length cG)))
 replace LY := y0.mk (by simpa using LY.out : hiY ≤ ((w14.setCell ⟨gg,0,none⟩ (.int .i64 gr)).setCell ⟨gg,1,none⟩ (.slice AG gs.length cG)).heap.size)
 replace OG := y0.mk (((OG.out.set (.inr EG_g.out) _ _).set (.inr EG_g.out) _ _) : QIv.OS k36 36 loG hiG (.slice AG gs.length cG) gs ((w14.setCell ⟨gg,0,none⟩ (.int .i64 gr)).setCell ⟨gg,1,none⟩ (.slice AG gs.length cG)))
 replace LG := y0.mk (by simpa using LG.out : hiG ≤ ((w14.setCell ⟨gg,0,none⟩ (.int .i64 gr)).setCell ⟨gg,1,none⟩ (.slice AG gs.length cG)).heap.size)
 replace BKa := y0.mk ((y12 (y12 BKa.out (Na_g.out) _) (Na_g.out) _) : ((w14.setCell ⟨gg,0,none⟩ (.int .i64 gr)).setCell ⟨gg,1,none⟩ (.slice AG gs.length cG)).heap[ga]? = some (.cells #[.int .i64 a,.slice A0 l0.length c0] 24 (0,0)))
 replace BKb := y0.mk ((y12 (y12 BKb.out (Nb_g.out) _) (Nb_g.out) _) : ((w14.setCell ⟨gg,0,none⟩ (.int .i64 gr)).setCell ⟨gg,1,none⟩ (.slice AG gs.length cG)).heap[gb]? = some (.cells #[.slice A1 l1.length c1] 27 (0,0)))
 replace BKv := y0.mk ((y12 (y12 BKv.out (Nv_g.out) _) (Nv_g.out) _) : ((w14.setCell ⟨gg,0,none⟩ (.int .i64 gr)).setCell ⟨gg,1,none⟩ (.slice AG gs.length cG)).heap[gv]? = some (.cells #[.int .i64 gr,.slice AW gs.length cW] 32 (0,0)))
 replace BKx := y0.mk ((y12 (y12 BKx.out (Nx_g.out) _) (Nx_g.out) _) : ((w14.setCell ⟨gg,0,none⟩ (.int .i64 gr)).setCell ⟨gg,1,none⟩ (.slice AG gs.length cG)).heap[gx]? = some (.cells #[.int .i64 ar,.slice AX xs.length cX] 32 (0,0)))
 replace BKy := y0.mk ((y12 (y12 BKy.out (Ny_g.out) _) (Ny_g.out) _) : ((w14.setCell ⟨gg,0,none⟩ (.int .i64 gr)).setCell ⟨gg,1,none⟩ (.slice AG gs.length cG)).heap[gy]? = some (.cells #[.slice AY ys.length cY] 36 (0,0)))
 replace BKg := y0.mk ((blk_set (blk_set BKg.out 0 (.int .i64 gr)) 1 (.slice AG gs.length cG)) : ((w14.setCell ⟨gg,0,none⟩ (.int .i64 gr)).setCell ⟨gg,1,none⟩ (.slice AG gs.length cG)).heap[gg]? = some (.cells #[.int .i64 gr,.slice AG gs.length cG] 32 (0,0)))
 replace HB := y0.mk ((below_set (below_set HB.out GEg.out) GEg.out) : Below w.heap.size w ((w14.setCell ⟨gg,0,none⟩ (.int .i64 gr)).setCell ⟨gg,1,none⟩ (.slice AG gs.length cG)))
 generalize ((w14.setCell ⟨gg,0,none⟩ (.int .i64 gr)).setCell ⟨gg,1,none⟩ (.slice AG gs.length cG)) = w15 at OW LW OX LX OY LY OG LG BKa BKb BKv BKx BKy BKg HB ⊢
 obtain ⟨hca0,hca1,hfa0,hfa1⟩ := QIv.box2 BKa.out
 obtain ⟨hcb0,hfb0⟩ := QIv.box1 BKb.out
 obtain ⟨hcv0,hcv1,hfv0,hfv1⟩ := QIv.box2 BKv.out
 obtain ⟨hcx0,hcx1,hfx0,hfx1⟩ := QIv.box2 BKx.out
 obtain ⟨hcy0,hfy0⟩ := QIv.box1 BKy.out
 obtain ⟨hcg0,hcg1,hfg0,hfg1⟩ := QIv.box2 BKg.out
 go_upto_region 14 with (first
  | (go_at_call 14; (with_reducible refine (laws_eqRel.calls k gr _ _ gs gr _ _ gs true _ OG.out.C OG.out.le OW.out.C OW.out.le F5.out).mono ?_); rintro e w16 ⟨rfl,hb⟩; (repeat first | clear hca0 | clear hca1 | clear hcb0 | clear hcv0 | clear hcv1 | clear hcx0 | clear hcx1 | clear hcy0 | clear hcg0 | clear hcg1 | clear hfa0 | clear hfa1 | clear hfb0 | clear hfv0 | clear hfv1 | clear hfx0 | clear hfx1 | clear hfy0 | clear hfg0 | clear hfg1); replace OW := y0.mk (OW.out.below hb); replace OX := y0.mk (OX.out.below hb); replace OY := y0.mk (OY.out.below hb); replace OG := y0.mk (OG.out.below hb); replace LW := y0.mk (Nat.le_trans LW.out hb.size); replace LX := y0.mk (Nat.le_trans LX.out hb.size); replace LY := y0.mk (Nat.le_trans LY.out hb.size); replace LG := y0.mk (Nat.le_trans LG.out hb.size); replace BKa := y0.mk (y8 (g := ga) (o := (.cells #[.int .i64 a,.slice A0 l0.length c0] 24 (0,0))) BKa.out hb); replace BKb := y0.mk (y8 (g := gb) (o := (.cells #[.slice A1 l1.length c1] 27 (0,0))) BKb.out hb); replace BKv := y0.mk (y8 (g := gv) (o := (.cells #[.int .i64 gr,.slice AW gs.length cW] 32 (0,0))) BKv.out hb); replace BKx := y0.mk (y8 (g := gx) (o := (.cells #[.int .i64 ar,.slice AX xs.length cX] 32 (0,0))) BKx.out hb); replace BKy := y0.mk (y8 (g := gy) (o := (.cells #[.slice AY ys.length cY] 36 (0,0))) BKy.out hb); replace BKg := y0.mk (y8 (g := gg) (o := (.cells #[.int .i64 gr,.slice AG gs.length cG] 32 (0,0))) BKg.out hb); replace HB := y0.mk (y6 HB.out hb); (try clear hb); obtain ⟨hca0,hca1,hfa0,hfa1⟩ := QIv.box2 BKa.out; obtain ⟨hcb0,hfb0⟩ := QIv.box1 BKb.out; obtain ⟨hcv0,hcv1,hfv0,hfv1⟩ := QIv.box2 BKv.out; obtain ⟨hcx0,hcx1,hfx0,hfx1⟩ := QIv.box2 BKx.out; obtain ⟨hcy0,hfy0⟩ := QIv.box1 BKy.out; obtain ⟨hcg0,hcg1,hfg0,hfg1⟩ := QIv.box2 BKg.out))
 (repeat first | clear hca0 | clear hca1 | clear hcb0 | clear hcv0 | clear hcv1 | clear hcx0 | clear hcx1 | clear hcy0 | clear hcg0 | clear hcg1 | clear hfa0 | clear hfa1 | clear hfb0 | clear hfv0 | clear hfv1 | clear hfx0 | clear hfx1 | clear hfy0 | clear hfg0 | clear hfg1)
 refine start_ (n := 5) (S := fun w' => w'.cell? ⟨ga,0,none⟩ = some (.int .i64 a) ∧ w'.cell? ⟨ga,1,none⟩ = some (.slice A0 l0.length c0) ∧ w'.cell? ⟨gb,0,none⟩ = some (.slice A1 l1.length c1) ∧ w'.cell? ⟨gv,0,none⟩ = some (.int .i64 gr) ∧ w'.cell? ⟨gv,1,none⟩ = some (.slice AW gs.length cW) ∧ w'.cell? ⟨gx,0,none⟩ = some (.int .i64 ar) ∧ w'.cell? ⟨gx,1,none⟩ = some (.slice AX xs.length cX) ∧ w'.cell? ⟨gy,0,none⟩ = some (.slice AY ys.length cY) ∧ w'.cell? ⟨gg,0,none⟩ = some (.int .i64 gr) ∧ w'.cell? ⟨gg,1,none⟩ = some (.slice AG gs.length cG)) (ds := []) #[false,false,false,false,false] (by kernel_rfl) rfl rfl ⟨(y9 BKa.out 0).trans rfl,(y9 BKa.out 1).trans rfl,(y9 BKb.out 0).trans rfl,(y9 BKv.out 0).trans rfl,(y9 BKv.out 1).trans rfl,(y9 BKx.out 0).trans rfl,(y9 BKx.out 1).trans rfl,(y9 BKy.out 0).trans rfl,(y9 BKg.out 0).trans rfl,(y9 BKg.out 1).trans rfl⟩ (fun hHeld => ?_)
 replace OW := y0.mk (OW.out.drew)
 replace OX := y0.mk (OX.out.drew)
 replace OY := y0.mk (OY.out.drew)
 replace OG := y0.mk (OG.out.drew)
 replace LW := y0.mk ((show hiW ≤ w16.drew.heap.size from LW.out))
 replace LX := y0.mk ((show hiX ≤ w16.drew.heap.size from LX.out))
 replace LY := y0.mk ((show hiY ≤ w16.drew.heap.size from LY.out))
 replace LG := y0.mk ((show hiG ≤ w16.drew.heap.size from LG.out))
 replace BKa := y0.mk (y10 BKa.out)
 replace BKb := y0.mk (y10 BKb.out)
 replace BKv := y0.mk (y10 BKv.out)
 replace BKx := y0.mk (y10 BKx.out)
 replace BKy := y0.mk (y10 BKy.out)
 replace BKg := y0.mk (y10 BKg.out)
 replace HB := y0.mk (y4 HB.out)
 generalize w16.drew = w17 at OW OX OY OG LW LX LY LG BKa BKb BKv BKx BKy BKg HB hHeld ⊢
 refine take_ (i := 0) (N := some 54) (v := ?_) (a' := ?_) #[true,false,false,false,false] rfl rfl (by kernel_rfl) (fun _ _ _ h => h) (Or.inl ⟨by rfl, ?_⟩) hHeld ?_ ?_
 rotate_left
 ·rintro w' ⟨s0,s1,s2,s3,s4,s5,s6,s7,s8,s9⟩
  go_simp
  with_reducible rfl
 rotate_left
 ·simp only [Act.put,qS_,qZ_,qC_,y19,y18]
  rfl
 refine take_ (i := 1) (N := some 55) (v := ?_) (a' := ?_) #[true,true,false,false,false] rfl rfl (by kernel_rfl) (fun _ _ _ h => h) (Or.inl ⟨by rfl, ?_⟩) hHeld ?_ ?_
 rotate_left
 ·rintro w' ⟨s0,s1,s2,s3,s4,s5,s6,s7,s8,s9⟩
  go_simp
  with_reducible rfl
 rotate_left
 ·simp only [Act.put,qS_,qZ_,qC_,y19,y18]
  rfl
 refine one_ (i := 2) (N := some 56) #[true,true,true,false,false] rfl rfl (by kernel_rfl) (by decide) (fun K hK => ?_)
 refine goes_ Tryz.func11 (by kernel_rfl) rfl #[.agg #[.int .i64 a,.slice A0 l0.length c0]] (by rfl) rfl rfl qy3 ?_
 (with_reducible refine (laws_toRel.calls k a _ _ l0 ar xs _ (Kd.C_below HR0.out HB.out) HC0.out F1.out).mono ?_)
 rintro e w18 ⟨v_,rfl,ho,hb⟩
 refine ⟨_,rfl, ?_⟩
 obtain ⟨loZ,hiZ,hlo_,hhi_,hO_⟩ := QIv.OS.new ho
 obtain ⟨AZ,cZ,eA_⟩ := hO_.slice
 subst eA_
 (repeat first | clear hca0 | clear hca1 | clear hcb0 | clear hcv0 | clear hcv1 | clear hcx0 | clear hcx1 | clear hcy0 | clear hcg0 | clear hcg1 | clear hfa0 | clear hfa1 | clear hfb0 | clear hfv0 | clear hfv1 | clear hfx0 | clear hfx1 | clear hfy0 | clear hfg0 | clear hfg1)
 have OZ := y0.mk (hO_)
 have LZ := y0.mk ((by rw [hhi_]; exact Nat.le_refl _ : hiZ ≤ _))
 have BZ := y0.mk ((by rw [hlo_]; exact HB.out.size : w.heap.size ≤ loZ))
 have DW_Z := y0.mk ((by rw [hlo_]; exact LW.out : hiW ≤ loZ))
 have DX_Z := y0.mk ((by rw [hlo_]; exact LX.out : hiX ≤ loZ))
 have DY_Z := y0.mk ((by rw [hlo_]; exact LY.out : hiY ≤ loZ))
 have DG_Z := y0.mk ((by rw [hlo_]; exact LG.out : hiG ≤ loZ))
 have Ea_Z := y0.mk ((by rw [hlo_]; exact QIv.ki_lt BKa.out : ga < loZ))
 have Eb_Z := y0.mk ((by rw [hlo_]; exact QIv.ki_lt BKb.out : gb < loZ))
 have Ev_Z := y0.mk ((by rw [hlo_]; exact QIv.ki_lt BKv.out : gv < loZ))
 have Ex_Z := y0.mk ((by rw [hlo_]; exact QIv.ki_lt BKx.out : gx < loZ))
 have Ey_Z := y0.mk ((by rw [hlo_]; exact QIv.ki_lt BKy.out : gy < loZ))
 have Eg_Z := y0.mk ((by rw [hlo_]; exact QIv.ki_lt BKg.out : gg < loZ))
 replace OW := y0.mk (OW.out.below hb)
 replace OX := y0.mk (OX.out.below hb)
 replace OY := y0.mk (OY.out.below hb)
 replace OG := y0.mk (OG.out.below hb)
 replace LW := y0.mk (Nat.le_trans LW.out hb.size)
 replace LX := y0.mk (Nat.le_trans LX.out hb.size)
 replace LY := y0.mk (Nat.le_trans LY.out hb.size)
 replace LG := y0.mk (Nat.le_trans LG.out hb.size)
 replace BKa := y0.mk (y8 (g := ga) (o := (.cells #[.int .i64 a,.slice A0 l0.length c0] 24 (0,0))) BKa.out hb)
 replace BKb := y0.mk (y8 (g := gb) (o := (.cells #[.slice A1 l1.length c1] 27 (0,0))) BKb.out hb)
 replace BKv := y0.mk (y8 (g := gv) (o := (.cells #[.int .i64 gr,.slice AW gs.length cW] 32 (0,0))) BKv.out hb)
 replace BKx := y0.mk (y8 (g := gx) (o := (.cells #[.int .i64 ar,.slice AX xs.length cX] 32 (0,0))) BKx.out hb)
 replace BKy := y0.mk (y8 (g := gy) (o := (.cells #[.slice AY ys.length cY] 36 (0,0))) BKy.out hb)
 replace BKg := y0.mk (y8 (g := gg) (o := (.cells #[.int .i64 gr,.slice AG gs.length cG] 32 (0,0))) BKg.out hb)
 replace HB := y0.mk (y6 HB.out hb)
 (try clear hb)
 (try clear ho)
 (try clear hlo_)
 (try clear hhi_)
 obtain ⟨hca0,hca1,hfa0,hfa1⟩ := QIv.box2 BKa.out
 obtain ⟨hcb0,hfb0⟩ := QIv.box1 BKb.out
 obtain ⟨hcv0,hcv1,hfv0,hfv1⟩ := QIv.box2 BKv.out
 obtain ⟨hcx0,hcx1,hfx0,hfx1⟩ := QIv.box2 BKx.out
 obtain ⟨hcy0,hfy0⟩ := QIv.box1 BKy.out
 obtain ⟨hcg0,hcg1,hfg0,hfg1⟩ := QIv.box2 BKg.out
 (repeat first | clear hca0 | clear hca1 | clear hcb0 | clear hcv0 | clear hcv1 | clear hcx0 | clear hcx1 | clear hcy0 | clear hcg0 | clear hcg1 | clear hfa0 | clear hfa1 | clear hfb0 | clear hfv0 | clear hfv1 | clear hfx0 | clear hfx1 | clear hfy0 | clear hfg0 | clear hfg1)
 refine hK.out _ _ ⟨(y9 BKa.out 0).trans rfl,(y9 BKa.out 1).trans rfl,(y9 BKb.out 0).trans rfl,(y9 BKv.out 0).trans rfl,(y9 BKv.out 1).trans rfl,(y9 BKx.out 0).trans rfl,(y9 BKx.out 1).trans rfl,(y9 BKy.out 0).trans rfl,(y9 BKg.out 0).trans rfl,(y9 BKg.out 1).trans rfl⟩ (fun hHeld => ?_)
 clear hK K
 refine norm_ (a' := ?_) ?_ ?_
 rotate_left
 ·show Act.put _ (some 56) _ = _
  simp only [Act.put,qS_,qZ_,qC_,y19,y18]
  rfl
 refine one_ (i := 3) (N := some 57) #[true,true,true,true,false] rfl rfl (by kernel_rfl) (by decide) (fun K hK => ?_)
 refine goes_ Tryz.func14 (by kernel_rfl) rfl #[.agg #[.int .i64 ar,.slice AX xs.length cX],.agg #[.int .i64 ar,.slice AZ xs.length cZ]] (by rfl) rfl rfl qy3 ?_
 (with_reducible refine (laws_eqRel.calls k ar _ _ xs ar _ _ xs true _ OX.out.C OX.out.le OZ.out.C OZ.out.le F6.out).mono ?_)
 rintro e w19 ⟨rfl,hb⟩
 refine ⟨_,rfl, ?_⟩
 (repeat first | clear hca0 | clear hca1 | clear hcb0 | clear hcv0 | clear hcv1 | clear hcx0 | clear hcx1 | clear hcy0 | clear hcg0 | clear hcg1 | clear hfa0 | clear hfa1 | clear hfb0 | clear hfv0 | clear hfv1 | clear hfx0 | clear hfx1 | clear hfy0 | clear hfg0 | clear hfg1)
 replace OW := y0.mk (OW.out.below hb)
 replace OX := y0.mk (OX.out.below hb)
 replace OY := y0.mk (OY.out.below hb)
 replace OG := y0.mk (OG.out.below hb)
 replace OZ := y0.mk (OZ.out.below hb)
 replace LW := y0.mk (Nat.le_trans LW.out hb.size)
 replace LX := y0.mk (Nat.le_trans LX.out hb.size)
 replace LY := y0.mk (Nat.le_trans LY.out hb.size)
 replace LG := y0.mk (Nat.le_trans LG.out hb.size)
 replace LZ := y0.mk (Nat.le_trans LZ.out hb.size)
 replace BKa := y0.mk (y8 (g := ga) (o := (.cells #[.int .i64 a,.slice A0 l0.length c0] 24 (0,0))) BKa.out hb)
 replace BKb := y0.mk (y8 (g := gb) (o := (.cells #[.slice A1 l1.length c1] 27 (0,0))) BKb.out hb)
 replace BKv := y0.mk (y8 (g := gv) (o := (.cells #[.int .i64 gr,.slice AW gs.length cW] 32 (0,0))) BKv.out hb)
 replace BKx := y0.mk (y8 (g := gx) (o := (.cells #[.int .i64 ar,.slice AX xs.length cX] 32 (0,0))) BKx.out hb)
 replace BKy := y0.mk (y8 (g := gy) (o := (.cells #[.slice AY ys.length cY] 36 (0,0))) BKy.out hb)
 replace BKg := y0.mk (y8 (g := gg) (o := (.cells #[.int .i64 gr,.slice AG gs.length cG] 32 (0,0))) BKg.out hb)
 replace HB := y0.mk (y6 HB.out hb)
 (try clear hb)
 obtain ⟨hca0,hca1,hfa0,hfa1⟩ := QIv.box2 BKa.out
 obtain ⟨hcb0,hfb0⟩ := QIv.box1 BKb.out
 obtain ⟨hcv0,hcv1,hfv0,hfv1⟩ := QIv.box2 BKv.out
 obtain ⟨hcx0,hcx1,hfx0,hfx1⟩ := QIv.box2 BKx.out
 obtain ⟨hcy0,hfy0⟩ := QIv.box1 BKy.out
 obtain ⟨hcg0,hcg1,hfg0,hfg1⟩ := QIv.box2 BKg.out
 (repeat first | clear hca0 | clear hca1 | clear hcb0 | clear hcv0 | clear hcv1 | clear hcx0 | clear hcx1 | clear hcy0 | clear hcg0 | clear hcg1 | clear hfa0 | clear hfa1 | clear hfb0 | clear hfv0 | clear hfv1 | clear hfx0 | clear hfx1 | clear hfy0 | clear hfg0 | clear hfg1)
 refine hK.out _ _ ⟨(y9 BKa.out 0).trans rfl,(y9 BKa.out 1).trans rfl,(y9 BKb.out 0).trans rfl,(y9 BKv.out 0).trans rfl,(y9 BKv.out 1).trans rfl,(y9 BKx.out 0).trans rfl,(y9 BKx.out 1).trans rfl,(y9 BKy.out 0).trans rfl,(y9 BKg.out 0).trans rfl,(y9 BKg.out 1).trans rfl⟩ (fun hHeld => ?_)
 clear hK K
 refine norm_ (a' := ?_) ?_ ?_
 rotate_left
 ·show Act.put _ (some 57) _ = _
  simp only [Act.put,qS_,qZ_,qC_,y19,y18]
  rfl
 refine y20 (i := 4) (N := some 58) (v := ?_) (a' := ?_) #[true,true,true,true,true] rfl rfl (by kernel_rfl) (fun _ _ _ h => h) (Or.inl ⟨by rfl, ?_⟩) ?_ ?_
 rotate_left
 ·intro w'
  go_simp
  with_reducible rfl
 rotate_left
 ·simp only [Act.put,qS_,qZ_,qC_,y19,y18]
  rfl
 refine done_ (by kernel_rfl) ?_
 clear OZ LZ
 clear hHeld
 obtain ⟨hca0,hca1,hfa0,hfa1⟩ := QIv.box2 BKa.out
 obtain ⟨hcb0,hfb0⟩ := QIv.box1 BKb.out
 obtain ⟨hcv0,hcv1,hfv0,hfv1⟩ := QIv.box2 BKv.out
 obtain ⟨hcx0,hcx1,hfx0,hfx1⟩ := QIv.box2 BKx.out
 obtain ⟨hcy0,hfy0⟩ := QIv.box1 BKy.out
 obtain ⟨hcg0,hcg1,hfg0,hfg1⟩ := QIv.box2 BKg.out
 go_upto_region 16 with (first
  | fail)
 (repeat first | clear hca0 | clear hca1 | clear hcb0 | clear hcv0 | clear hcv1 | clear hcx0 | clear hcx1 | clear hcy0 | clear hcg0 | clear hcg1 | clear hfa0 | clear hfa1 | clear hfb0 | clear hfv0 | clear hfv1 | clear hfx0 | clear hfx1 | clear hfy0 | clear hfg0 | clear hfg1)
 refine start_ (n := 5) (S := fun w' => w'.cell? ⟨ga,0,none⟩ = some (.int .i64 a) ∧ w'.cell? ⟨ga,1,none⟩ = some (.slice A0 l0.length c0) ∧ w'.cell? ⟨gb,0,none⟩ = some (.slice A1 l1.length c1) ∧ w'.cell? ⟨gv,0,none⟩ = some (.int .i64 gr) ∧ w'.cell? ⟨gv,1,none⟩ = some (.slice AW gs.length cW) ∧ w'.cell? ⟨gx,0,none⟩ = some (.int .i64 ar) ∧ w'.cell? ⟨gx,1,none⟩ = some (.slice AX xs.length cX) ∧ w'.cell? ⟨gy,0,none⟩ = some (.slice AY ys.length cY) ∧ w'.cell? ⟨gg,0,none⟩ = some (.int .i64 gr) ∧ w'.cell? ⟨gg,1,none⟩ = some (.slice AG gs.length cG)) (ds := []) #[false,false,false,false,false] (by kernel_rfl) rfl rfl ⟨(y9 BKa.out 0).trans rfl,(y9 BKa.out 1).trans rfl,(y9 BKb.out 0).trans rfl,(y9 BKv.out 0).trans rfl,(y9 BKv.out 1).trans rfl,(y9 BKx.out 0).trans rfl,(y9 BKx.out 1).trans rfl,(y9 BKy.out 0).trans rfl,(y9 BKg.out 0).trans rfl,(y9 BKg.out 1).trans rfl⟩ (fun hHeld => ?_)
 replace OW := y0.mk (OW.out.drew)
 replace OX := y0.mk (OX.out.drew)
 replace OY := y0.mk (OY.out.drew)
 replace OG := y0.mk (OG.out.drew)
 replace LW := y0.mk ((show hiW ≤ w19.drew.heap.size from LW.out))
 replace LX := y0.mk ((show hiX ≤ w19.drew.heap.size from LX.out))
 replace LY := y0.mk ((show hiY ≤ w19.drew.heap.size from LY.out))
 replace LG := y0.mk ((show hiG ≤ w19.drew.heap.size from LG.out))
 replace BKa := y0.mk (y10 BKa.out)
 replace BKb := y0.mk (y10 BKb.out)
 replace BKv := y0.mk (y10 BKv.out)
 replace BKx := y0.mk (y10 BKx.out)
 replace BKy := y0.mk (y10 BKy.out)
 replace BKg := y0.mk (y10 BKg.out)
 replace HB := y0.mk (y4 HB.out)
 generalize w19.drew = w20 at OW OX OY OG LW LX LY LG BKa BKb BKv BKx BKy BKg HB hHeld ⊢
 refine take_ (i := 0) (N := some 59) (v := ?_) (a' := ?_) #[true,false,false,false,false] rfl rfl (by kernel_rfl) (fun _ _ _ h => h) (Or.inl ⟨by rfl, ?_⟩) hHeld ?_ ?_
 rotate_left
 ·rintro w' ⟨s0,s1,s2,s3,s4,s5,s6,s7,s8,s9⟩
  go_simp
  with_reducible rfl
 rotate_left
 ·simp only [Act.put,qS_,qZ_,qC_,y19,y18]
  rfl
 refine take_ (i := 1) (N := some 60) (v := ?_) (a' := ?_) #[true,true,false,false,false] rfl rfl (by kernel_rfl) (fun _ _ _ h => h) (Or.inl ⟨by rfl, ?_⟩) hHeld ?_ ?_
 rotate_left
 ·rintro w' ⟨s0,s1,s2,s3,s4,s5,s6,s7,s8,s9⟩
  go_simp
  with_reducible rfl
 rotate_left
 ·simp only [Act.put,qS_,qZ_,qC_,y19,y18]
  rfl
 refine one_ (i := 2) (N := some 61) #[true,true,true,false,false] rfl rfl (by kernel_rfl) (by decide) (fun K hK => ?_)
 refine goes_ Tryz.func12 (by kernel_rfl) rfl #[.agg #[.slice A1 l1.length c1]] (by rfl) rfl rfl qy3 ?_
 (with_reducible refine (laws_toTuple.calls k _ _ l1 ys _ (Kd.C_below HR1.out HB.out) HC1.out F2.out).mono ?_)
 rintro e w21 ⟨v_,rfl,ho,hb⟩
 refine ⟨_,rfl, ?_⟩
 obtain ⟨loZ2,hiZ2,hlo_,hhi_,hO_⟩ := QIv.OR.new ho
 obtain ⟨AZ2,cZ2,eA_⟩ := hO_.slice
 subst eA_
 (repeat first | clear hca0 | clear hca1 | clear hcb0 | clear hcv0 | clear hcv1 | clear hcx0 | clear hcx1 | clear hcy0 | clear hcg0 | clear hcg1 | clear hfa0 | clear hfa1 | clear hfb0 | clear hfv0 | clear hfv1 | clear hfx0 | clear hfx1 | clear hfy0 | clear hfg0 | clear hfg1)
 have OZ2 := y0.mk (hO_)
 have LZ2 := y0.mk ((by rw [hhi_]; exact Nat.le_refl _ : hiZ2 ≤ _))
 have BZ2 := y0.mk ((by rw [hlo_]; exact HB.out.size : w.heap.size ≤ loZ2))
 have DW_Z2 := y0.mk ((by rw [hlo_]; exact LW.out : hiW ≤ loZ2))
 have DX_Z2 := y0.mk ((by rw [hlo_]; exact LX.out : hiX ≤ loZ2))
 have DY_Z2 := y0.mk ((by rw [hlo_]; exact LY.out : hiY ≤ loZ2))
 have DG_Z2 := y0.mk ((by rw [hlo_]; exact LG.out : hiG ≤ loZ2))
 have Ea_Z2 := y0.mk ((by rw [hlo_]; exact QIv.ki_lt BKa.out : ga < loZ2))
 have Eb_Z2 := y0.mk ((by rw [hlo_]; exact QIv.ki_lt BKb.out : gb < loZ2))
 have Ev_Z2 := y0.mk ((by rw [hlo_]; exact QIv.ki_lt BKv.out : gv < loZ2))
 have Ex_Z2 := y0.mk ((by rw [hlo_]; exact QIv.ki_lt BKx.out : gx < loZ2))
 have Ey_Z2 := y0.mk ((by rw [hlo_]; exact QIv.ki_lt BKy.out : gy < loZ2))
 have Eg_Z2 := y0.mk ((by rw [hlo_]; exact QIv.ki_lt BKg.out : gg < loZ2))
 replace OW := y0.mk (OW.out.below hb)
 replace OX := y0.mk (OX.out.below hb)
 replace OY := y0.mk (OY.out.below hb)
 replace OG := y0.mk (OG.out.below hb)
 replace LW := y0.mk (Nat.le_trans LW.out hb.size)
 replace LX := y0.mk (Nat.le_trans LX.out hb.size)
 replace LY := y0.mk (Nat.le_trans LY.out hb.size)
 replace LG := y0.mk (Nat.le_trans LG.out hb.size)
 replace BKa := y0.mk (y8 (g := ga) (o := (.cells #[.int .i64 a,.slice A0 l0.length c0] 24 (0,0))) BKa.out hb)
 replace BKb := y0.mk (y8 (g := gb) (o := (.cells #[.slice A1 l1.length c1] 27 (0,0))) BKb.out hb)
 replace BKv := y0.mk (y8 (g := gv) (o := (.cells #[.int .i64 gr,.slice AW gs.length cW] 32 (0,0))) BKv.out hb)
 replace BKx := y0.mk (y8 (g := gx) (o := (.cells #[.int .i64 ar,.slice AX xs.length cX] 32 (0,0))) BKx.out hb)
 replace BKy := y0.mk (y8 (g := gy) (o := (.cells #[.slice AY ys.length cY] 36 (0,0))) BKy.out hb)
 replace BKg := y0.mk (y8 (g := gg) (o := (.cells #[.int .i64 gr,.slice AG gs.length cG] 32 (0,0))) BKg.out hb)
 replace HB := y0.mk (y6 HB.out hb)
 (try clear hb)
 (try clear ho)
 (try clear hlo_)
 (try clear hhi_)
 obtain ⟨hca0,hca1,hfa0,hfa1⟩ := QIv.box2 BKa.out
 obtain ⟨hcb0,hfb0⟩ := QIv.box1 BKb.out
 obtain ⟨hcv0,hcv1,hfv0,hfv1⟩ := QIv.box2 BKv.out
 obtain ⟨hcx0,hcx1,hfx0,hfx1⟩ := QIv.box2 BKx.out
 obtain ⟨hcy0,hfy0⟩ := QIv.box1 BKy.out
 obtain ⟨hcg0,hcg1,hfg0,hfg1⟩ := QIv.box2 BKg.out
 (repeat first | clear hca0 | clear hca1 | clear hcb0 | clear hcv0 | clear hcv1 | clear hcx0 | clear hcx1 | clear hcy0 | clear hcg0 | clear hcg1 | clear hfa0 | clear hfa1 | clear hfb0 | clear hfv0 | clear hfv1 | clear hfx0 | clear hfx1 | clear hfy0 | clear hfg0 | clear hfg1)
 refine hK.out _ _ ⟨(y9 BKa.out 0).trans rfl,(y9 BKa.out 1).trans rfl,(y9 BKb.out 0).trans rfl,(y9 BKv.out 0).trans rfl,(y9 BKv.out 1).trans rfl,(y9 BKx.out 0).trans rfl,(y9 BKx.out 1).trans rfl,(y9 BKy.out 0).trans rfl,(y9 BKg.out 0).trans rfl,(y9 BKg.out 1).trans rfl⟩ (fun hHeld => ?_)
 clear hK K
 refine norm_ (a' := ?_) ?_ ?_
 rotate_left
 ·show Act.put _ (some 61) _ = _
  simp only [Act.put,qS_,qZ_,qC_,y19,y18]
  rfl
 refine one_ (i := 3) (N := some 62) #[true,true,true,true,false] rfl rfl (by kernel_rfl) (by decide) (fun K hK => ?_)
 refine goes_ Tryz.func15 (by kernel_rfl) rfl #[.agg #[.slice AY ys.length cY],.agg #[.slice AZ2 ys.length cZ2]] (by rfl) rfl rfl qy3 ?_
 (with_reducible refine (laws_eqTuple.calls k _ _ ys _ _ ys true _ OY.out.C OY.out.le OZ2.out.C OZ2.out.le F7.out).mono ?_)
 rintro e w22 ⟨rfl,hb⟩
 refine ⟨_,rfl, ?_⟩
 (repeat first | clear hca0 | clear hca1 | clear hcb0 | clear hcv0 | clear hcv1 | clear hcx0 | clear hcx1 | clear hcy0 | clear hcg0 | clear hcg1 | clear hfa0 | clear hfa1 | clear hfb0 | clear hfv0 | clear hfv1 | clear hfx0 | clear hfx1 | clear hfy0 | clear hfg0 | clear hfg1)
 replace OW := y0.mk (OW.out.below hb)
 replace OX := y0.mk (OX.out.below hb)
 replace OY := y0.mk (OY.out.below hb)
 replace OG := y0.mk (OG.out.below hb)
 replace OZ2 := y0.mk (OZ2.out.below hb)
 replace LW := y0.mk (Nat.le_trans LW.out hb.size)
 replace LX := y0.mk (Nat.le_trans LX.out hb.size)
 replace LY := y0.mk (Nat.le_trans LY.out hb.size)
 replace LG := y0.mk (Nat.le_trans LG.out hb.size)
 replace LZ2 := y0.mk (Nat.le_trans LZ2.out hb.size)
 replace BKa := y0.mk (y8 (g := ga) (o := (.cells #[.int .i64 a,.slice A0 l0.length c0] 24 (0,0))) BKa.out hb)
 replace BKb := y0.mk (y8 (g := gb) (o := (.cells #[.slice A1 l1.length c1] 27 (0,0))) BKb.out hb)
 replace BKv := y0.mk (y8 (g := gv) (o := (.cells #[.int .i64 gr,.slice AW gs.length cW] 32 (0,0))) BKv.out hb)
 replace BKx := y0.mk (y8 (g := gx) (o := (.cells #[.int .i64 ar,.slice AX xs.length cX] 32 (0,0))) BKx.out hb)
 replace BKy := y0.mk (y8 (g := gy) (o := (.cells #[.slice AY ys.length cY] 36 (0,0))) BKy.out hb)
 replace BKg := y0.mk (y8 (g := gg) (o := (.cells #[.int .i64 gr,.slice AG gs.length cG] 32 (0,0))) BKg.out hb)
 replace HB := y0.mk (y6 HB.out hb)
 (try clear hb)
 obtain ⟨hca0,hca1,hfa0,hfa1⟩ := QIv.box2 BKa.out
 obtain ⟨hcb0,hfb0⟩ := QIv.box1 BKb.out
 obtain ⟨hcv0,hcv1,hfv0,hfv1⟩ := QIv.box2 BKv.out
 obtain ⟨hcx0,hcx1,hfx0,hfx1⟩ := QIv.box2 BKx.out
 obtain ⟨hcy0,hfy0⟩ := QIv.box1 BKy.out
 obtain ⟨hcg0,hcg1,hfg0,hfg1⟩ := QIv.box2 BKg.out
 (repeat first | clear hca0 | clear hca1 | clear hcb0 | clear hcv0 | clear hcv1 | clear hcx0 | clear hcx1 | clear hcy0 | clear hcg0 | clear hcg1 | clear hfa0 | clear hfa1 | clear hfb0 | clear hfv0 | clear hfv1 | clear hfx0 | clear hfx1 | clear hfy0 | clear hfg0 | clear hfg1)
 refine hK.out _ _ ⟨(y9 BKa.out 0).trans rfl,(y9 BKa.out 1).trans rfl,(y9 BKb.out 0).trans rfl,(y9 BKv.out 0).trans rfl,(y9 BKv.out 1).trans rfl,(y9 BKx.out 0).trans rfl,(y9 BKx.out 1).trans rfl,(y9 BKy.out 0).trans rfl,(y9 BKg.out 0).trans rfl,(y9 BKg.out 1).trans rfl⟩ (fun hHeld => ?_)
 clear hK K
 refine norm_ (a' := ?_) ?_ ?_
 rotate_left
 ·show Act.put _ (some 62) _ = _
  simp only [Act.put,qS_,qZ_,qC_,y19,y18]
  rfl
 refine y20 (i := 4) (N := some 63) (v := ?_) (a' := ?_) #[true,true,true,true,true] rfl rfl (by kernel_rfl) (fun _ _ _ h => h) (Or.inl ⟨by rfl, ?_⟩) ?_ ?_
 rotate_left
 ·intro w'
  go_simp
  with_reducible rfl
 rotate_left
 ·simp only [Act.put,qS_,qZ_,qC_,y19,y18]
  rfl
 refine done_ (by kernel_rfl) ?_
 clear OZ2 LZ2
 clear hHeld
 obtain ⟨hca0,hca1,hfa0,hfa1⟩ := QIv.box2 BKa.out
 obtain ⟨hcb0,hfb0⟩ := QIv.box1 BKb.out
 obtain ⟨hcv0,hcv1,hfv0,hfv1⟩ := QIv.box2 BKv.out
 obtain ⟨hcx0,hcx1,hfx0,hfx1⟩ := QIv.box2 BKx.out
 obtain ⟨hcy0,hfy0⟩ := QIv.box1 BKy.out
 obtain ⟨hcg0,hcg1,hfg0,hfg1⟩ := QIv.box2 BKg.out
 go_upto_region 20 with (first
  | (go_at_call 16; (with_reducible refine (laws_markRel.calls k loX hiX ar _ _ xs 1 m1 xm w _ HB.out BX.out OX.out F8.out).mono ?_); rintro e w23 ⟨rfl,ho,hb,hk⟩; (repeat first | clear hca0 | clear hca1 | clear hcb0 | clear hcv0 | clear hcv1 | clear hcx0 | clear hcx1 | clear hcy0 | clear hcg0 | clear hcg1 | clear hfa0 | clear hfa1 | clear hfb0 | clear hfv0 | clear hfv1 | clear hfx0 | clear hfx1 | clear hfy0 | clear hfg0 | clear hfg1); replace OW := y0.mk (OW.out.ki hk (.inl DW_X.out)); replace OY := y0.mk (OY.out.ki hk (.inr DX_Y.out)); replace OG := y0.mk (OG.out.ki hk (.inr DX_G.out)); replace LW := y0.mk (Nat.le_trans LW.out hk.1); replace LX := y0.mk (Nat.le_trans LX.out hk.1); replace LY := y0.mk (Nat.le_trans LY.out hk.1); replace LG := y0.mk (Nat.le_trans LG.out hk.1); replace BKa := y0.mk (QIv.ki_blk BKa.out hk (.inl Ea_X.out)); replace BKb := y0.mk (QIv.ki_blk BKb.out hk (.inl Eb_X.out)); replace BKv := y0.mk (QIv.ki_blk BKv.out hk (.inl Ev_X.out)); replace BKx := y0.mk (QIv.ki_blk BKx.out hk (.inr EX_x.out)); replace BKy := y0.mk (QIv.ki_blk BKy.out hk (.inr EX_y.out)); replace BKg := y0.mk (QIv.ki_blk BKg.out hk (.inr EX_g.out)); replace HB := y0.mk (hb); (try clear hb); (try clear ho); (try clear hk); clear OX LX; obtain ⟨hca0,hca1,hfa0,hfa1⟩ := QIv.box2 BKa.out; obtain ⟨hcb0,hfb0⟩ := QIv.box1 BKb.out; obtain ⟨hcv0,hcv1,hfv0,hfv1⟩ := QIv.box2 BKv.out; obtain ⟨hcx0,hcx1,hfx0,hfx1⟩ := QIv.box2 BKx.out; obtain ⟨hcy0,hfy0⟩ := QIv.box1 BKy.out; obtain ⟨hcg0,hcg1,hfg0,hfg1⟩ := QIv.box2 BKg.out))
 go_upto_region 21 with (first
  | (go_at_call 17; (with_reducible refine (laws_markTuple.iv k loY hiY _ _ ys m1 m2 ym w _ HB.out BY.out OY.out F9.out).mono ?_); rintro e w24 ⟨rfl,ho,hb,hk⟩; (repeat first | clear hca0 | clear hca1 | clear hcb0 | clear hcv0 | clear hcv1 | clear hcx0 | clear hcx1 | clear hcy0 | clear hcg0 | clear hcg1 | clear hfa0 | clear hfa1 | clear hfb0 | clear hfv0 | clear hfv1 | clear hfx0 | clear hfx1 | clear hfy0 | clear hfg0 | clear hfg1); replace OW := y0.mk (OW.out.ki hk (.inl DW_Y.out)); replace OG := y0.mk (OG.out.ki hk (.inr DY_G.out)); replace LW := y0.mk (Nat.le_trans LW.out hk.1); replace LY := y0.mk (Nat.le_trans LY.out hk.1); replace LG := y0.mk (Nat.le_trans LG.out hk.1); replace BKa := y0.mk (QIv.ki_blk BKa.out hk (.inl Ea_Y.out)); replace BKb := y0.mk (QIv.ki_blk BKb.out hk (.inl Eb_Y.out)); replace BKv := y0.mk (QIv.ki_blk BKv.out hk (.inl Ev_Y.out)); replace BKx := y0.mk (QIv.ki_blk BKx.out hk (.inl Ex_Y.out)); replace BKy := y0.mk (QIv.ki_blk BKy.out hk (.inr EY_y.out)); replace BKg := y0.mk (QIv.ki_blk BKg.out hk (.inr EY_g.out)); replace HB := y0.mk (hb); (try clear hb); (try clear ho); (try clear hk); clear OY LY; obtain ⟨hca0,hca1,hfa0,hfa1⟩ := QIv.box2 BKa.out; obtain ⟨hcb0,hfb0⟩ := QIv.box1 BKb.out; obtain ⟨hcv0,hcv1,hfv0,hfv1⟩ := QIv.box2 BKv.out; obtain ⟨hcx0,hcx1,hfx0,hfx1⟩ := QIv.box2 BKx.out; obtain ⟨hcy0,hfy0⟩ := QIv.box1 BKy.out; obtain ⟨hcg0,hcg1,hfg0,hfg1⟩ := QIv.box2 BKg.out))
 go_upto_region 24 with (first
  | (go_at_call 14; (with_reducible refine (laws_eqRel.calls k gr _ _ gs gr _ _ gs true _ OG.out.C OG.out.le OW.out.C OW.out.le F5.out).mono ?_); rintro e w25 ⟨rfl,hb⟩; (repeat first | clear hca0 | clear hca1 | clear hcb0 | clear hcv0 | clear hcv1 | clear hcx0 | clear hcx1 | clear hcy0 | clear hcg0 | clear hcg1 | clear hfa0 | clear hfa1 | clear hfb0 | clear hfv0 | clear hfv1 | clear hfx0 | clear hfx1 | clear hfy0 | clear hfg0 | clear hfg1); replace OW := y0.mk (OW.out.below hb); replace OG := y0.mk (OG.out.below hb); replace LW := y0.mk (Nat.le_trans LW.out hb.size); replace LG := y0.mk (Nat.le_trans LG.out hb.size); replace BKa := y0.mk (y8 (g := ga) (o := (.cells #[.int .i64 a,.slice A0 l0.length c0] 24 (0,0))) BKa.out hb); replace BKb := y0.mk (y8 (g := gb) (o := (.cells #[.slice A1 l1.length c1] 27 (0,0))) BKb.out hb); replace BKv := y0.mk (y8 (g := gv) (o := (.cells #[.int .i64 gr,.slice AW gs.length cW] 32 (0,0))) BKv.out hb); replace BKx := y0.mk (y8 (g := gx) (o := (.cells #[.int .i64 ar,.slice AX xs.length cX] 32 (0,0))) BKx.out hb); replace BKy := y0.mk (y8 (g := gy) (o := (.cells #[.slice AY ys.length cY] 36 (0,0))) BKy.out hb); replace BKg := y0.mk (y8 (g := gg) (o := (.cells #[.int .i64 gr,.slice AG gs.length cG] 32 (0,0))) BKg.out hb); replace HB := y0.mk (y6 HB.out hb); (try clear hb); obtain ⟨hca0,hca1,hfa0,hfa1⟩ := QIv.box2 BKa.out; obtain ⟨hcb0,hfb0⟩ := QIv.box1 BKb.out; obtain ⟨hcv0,hcv1,hfv0,hfv1⟩ := QIv.box2 BKv.out; obtain ⟨hcx0,hcx1,hfx0,hfx1⟩ := QIv.box2 BKx.out; obtain ⟨hcy0,hfy0⟩ := QIv.box1 BKy.out; obtain ⟨hcg0,hcg1,hfg0,hfg1⟩ := QIv.box2 BKg.out))
 go_upto_region 26 with (first
  | (go_at_call 16; (with_reducible refine (laws_markRel.calls k loG hiG gr _ _ gs 1 m3 gm w _ HB.out BG.out OG.out F11.out).mono ?_); rintro e w26 ⟨rfl,ho,hb,hk⟩; (repeat first | clear hca0 | clear hca1 | clear hcb0 | clear hcv0 | clear hcv1 | clear hcx0 | clear hcx1 | clear hcy0 | clear hcg0 | clear hcg1 | clear hfa0 | clear hfa1 | clear hfb0 | clear hfv0 | clear hfv1 | clear hfx0 | clear hfx1 | clear hfy0 | clear hfg0 | clear hfg1); replace OW := y0.mk (OW.out.ki hk (.inl DW_G.out)); replace LW := y0.mk (Nat.le_trans LW.out hk.1); replace LG := y0.mk (Nat.le_trans LG.out hk.1); replace BKa := y0.mk (QIv.ki_blk BKa.out hk (.inl Ea_G.out)); replace BKb := y0.mk (QIv.ki_blk BKb.out hk (.inl Eb_G.out)); replace BKv := y0.mk (QIv.ki_blk BKv.out hk (.inl Ev_G.out)); replace BKx := y0.mk (QIv.ki_blk BKx.out hk (.inl Ex_G.out)); replace BKy := y0.mk (QIv.ki_blk BKy.out hk (.inl Ey_G.out)); replace BKg := y0.mk (QIv.ki_blk BKg.out hk (.inr EG_g.out)); replace HB := y0.mk (hb); replace OG := y0.mk (ho); (try clear hb); (try clear ho); (try clear hk); obtain ⟨hca0,hca1,hfa0,hfa1⟩ := QIv.box2 BKa.out; obtain ⟨hcb0,hfb0⟩ := QIv.box1 BKb.out; obtain ⟨hcv0,hcv1,hfv0,hfv1⟩ := QIv.box2 BKv.out; obtain ⟨hcx0,hcx1,hfx0,hfx1⟩ := QIv.box2 BKx.out; obtain ⟨hcy0,hfy0⟩ := QIv.box1 BKy.out; obtain ⟨hcg0,hcg1,hfg0,hfg1⟩ := QIv.box2 BKg.out))
 go_upto_region 31 with (first
  | (go_at_call 18; (with_reducible refine (HELD.out _ _ _ OG.out.C (by have h_ := QIv.OS.len OG.out; have := HGL.out; omega)).mono ?_); rintro e w27 ⟨rfl,hb⟩; (repeat first | clear hca0 | clear hca1 | clear hcb0 | clear hcv0 | clear hcv1 | clear hcx0 | clear hcx1 | clear hcy0 | clear hcg0 | clear hcg1 | clear hfa0 | clear hfa1 | clear hfb0 | clear hfv0 | clear hfv1 | clear hfx0 | clear hfx1 | clear hfy0 | clear hfg0 | clear hfg1); replace OW := y0.mk (OW.out.below hb); replace OG := y0.mk (OG.out.below hb); replace LW := y0.mk (Nat.le_trans LW.out hb.size); replace LG := y0.mk (Nat.le_trans LG.out hb.size); replace BKa := y0.mk (y8 (g := ga) (o := (.cells #[.int .i64 a,.slice A0 l0.length c0] 24 (0,0))) BKa.out hb); replace BKb := y0.mk (y8 (g := gb) (o := (.cells #[.slice A1 l1.length c1] 27 (0,0))) BKb.out hb); replace BKv := y0.mk (y8 (g := gv) (o := (.cells #[.int .i64 gr,.slice AW gs.length cW] 32 (0,0))) BKv.out hb); replace BKx := y0.mk (y8 (g := gx) (o := (.cells #[.int .i64 ar,.slice AX xs.length cX] 32 (0,0))) BKx.out hb); replace BKy := y0.mk (y8 (g := gy) (o := (.cells #[.slice AY ys.length cY] 36 (0,0))) BKy.out hb); replace BKg := y0.mk (y8 (g := gg) (o := (.cells #[.int .i64 gr,.slice AG gs.length cG] 32 (0,0))) BKg.out hb); replace HB := y0.mk (y6 HB.out hb); (try clear hb); obtain ⟨hca0,hca1,hfa0,hfa1⟩ := QIv.box2 BKa.out; obtain ⟨hcb0,hfb0⟩ := QIv.box1 BKb.out; obtain ⟨hcv0,hcv1,hfv0,hfv1⟩ := QIv.box2 BKv.out; obtain ⟨hcx0,hcx1,hfx0,hfx1⟩ := QIv.box2 BKx.out; obtain ⟨hcy0,hfy0⟩ := QIv.box1 BKy.out; obtain ⟨hcg0,hcg1,hfg0,hfg1⟩ := QIv.box2 BKg.out))
 (repeat first | clear hca0 | clear hca1 | clear hcb0 | clear hcv0 | clear hcv1 | clear hcx0 | clear hcx1 | clear hcy0 | clear hcg0 | clear hcg1 | clear hfa0 | clear hfa1 | clear hfb0 | clear hfv0 | clear hfv1 | clear hfx0 | clear hfx1 | clear hfy0 | clear hfg0 | clear hfg1)
 refine start_ (n := 11) (S := fun w' => w'.cell? ⟨ga,0,none⟩ = some (.int .i64 a) ∧ w'.cell? ⟨ga,1,none⟩ = some (.slice A0 l0.length c0) ∧ w'.cell? ⟨gb,0,none⟩ = some (.slice A1 l1.length c1) ∧ w'.cell? ⟨gv,0,none⟩ = some (.int .i64 gr) ∧ w'.cell? ⟨gv,1,none⟩ = some (.slice AW gs.length cW) ∧ w'.cell? ⟨gx,0,none⟩ = some (.int .i64 ar) ∧ w'.cell? ⟨gx,1,none⟩ = some (.slice AX xs.length cX) ∧ w'.cell? ⟨gy,0,none⟩ = some (.slice AY ys.length cY) ∧ w'.cell? ⟨gg,0,none⟩ = some (.int .i64 gr) ∧ w'.cell? ⟨gg,1,none⟩ = some (.slice AG gs.length cG)) (ds := [9]) (fl_ 11 0) (by kernel_rfl) rfl rfl ⟨(y9 BKa.out 0).trans rfl,(y9 BKa.out 1).trans rfl,(y9 BKb.out 0).trans rfl,(y9 BKv.out 0).trans rfl,(y9 BKv.out 1).trans rfl,(y9 BKx.out 0).trans rfl,(y9 BKx.out 1).trans rfl,(y9 BKy.out 0).trans rfl,(y9 BKg.out 0).trans rfl,(y9 BKg.out 1).trans rfl⟩ (fun hHeld => ?_)
 replace OW := y0.mk (OW.out.drew)
 replace OG := y0.mk (OG.out.drew)
 replace LW := y0.mk ((show hiW ≤ w27.drew.heap.size from LW.out))
 replace LG := y0.mk ((show hiG ≤ w27.drew.heap.size from LG.out))
 replace BKa := y0.mk (y10 BKa.out)
 replace BKb := y0.mk (y10 BKb.out)
 replace BKv := y0.mk (y10 BKv.out)
 replace BKx := y0.mk (y10 BKx.out)
 replace BKy := y0.mk (y10 BKy.out)
 replace BKg := y0.mk (y10 BKg.out)
 replace HB := y0.mk (y4 HB.out)
 generalize w27.drew = w28 at OW OG LW LG BKa BKb BKv BKx BKy BKg HB hHeld ⊢
 refine take_ (i := 0) (N := some 95) (v := ?_) (a' := ?_) (fl_ 11 1) rfl rfl (by kernel_rfl) (fun _ _ _ h => h) (Or.inl ⟨by rfl, ?_⟩) hHeld ?_ ?_
 rotate_left
 ·rintro w' ⟨s0,s1,s2,s3,s4,s5,s6,s7,s8,s9⟩
  go_simp
  with_reducible rfl
 rotate_left
 ·simp only [Act.put,qS_,qZ_,qC_,y19,y18]
  rfl
 refine take_ (i := 2) (N := some 97) (v := ?_) (a' := ?_) (fl_ 11 5) rfl rfl (by kernel_rfl) (fun _ _ _ h => h) (Or.inl ⟨by rfl, ?_⟩) hHeld ?_ ?_
 rotate_left
 ·rintro w' ⟨s0,s1,s2,s3,s4,s5,s6,s7,s8,s9⟩
  go_simp
  with_reducible rfl
 rotate_left
 ·simp only [Act.put,qS_,qZ_,qC_,y19,y18]
  rfl
 refine join_ (σ := (Option Addr × Nat) × (Option Addr × Nat) × (Option Addr × Nat) × (Nat × Nat × Nat)) 2 (fl_ 11 511) (fun s => [(96,.agg #[.int .i64 ar,.slice s.1.1 xs.length s.1.2]),(98,.agg #[.slice s.2.1.1 ys.length s.2.1.2]),(99,.tuple #[.agg #[.int .i64 gr,.slice s.2.2.1.1 gs.length s.2.2.1.2],.bool gq]),(94,.tuple #[.agg #[.int .i64 gr,.slice s.2.2.1.1 gs.length s.2.2.1.2],.bool gq]),(100,.agg #[.int .i64 gr,.slice s.2.2.1.1 gs.length s.2.2.1.2]),(101,.bool gq),(15,.pointer (some ⟨s.2.2.2.1,0,none⟩))]) (fun s w' => Below w28.heap.size w28 w' ∧ QIv.OS k36 36 s.2.2.2.2.1 s.2.2.2.2.2 (.slice s.2.2.1.1 gs.length s.2.2.1.2) gs w' ∧ w28.heap.size ≤ s.2.2.2.2.1 ∧ s.2.2.2.2.2 ≤ w'.heap.size ∧ w28.heap.size ≤ s.2.2.2.1 ∧ (s.2.2.2.1 < s.2.2.2.2.1 ∨ s.2.2.2.2.2 ≤ s.2.2.2.1) ∧ w'.heap[s.2.2.2.1]? = some (.cells #[.int .i64 0,.slice none 0 0] 32 (0,0))) ?_ ?_
 rotate_left
 ·intro hCont
  refine two_ (i := 1) (j := 8) (Ni := some 96) (Nj := some 15) (fl_ 11 7) (fl_ 11 261) rfl rfl rfl rfl (by kernel_rfl) (by decide) (by decide) (fun K hK => ?_) (fun K hK => ?_)
  ·skip
   refine goes_ Tryz.func11 (by kernel_rfl) rfl #[.agg #[.int .i64 a,.slice A0 l0.length c0]] (by rfl) rfl rfl qy3 ?_
   with_reducible refine (laws_toRel.calls k a _ _ l0 ar xs _ (Kd.C_below HR0.out (y6 HB.out (Below.refl w28.heap.size w28))) HC0.out F1.out).mono ?_
   rintro e w28_1 ⟨v_,rfl,ho,hb⟩
   refine ⟨_,rfl, ?_⟩
   obtain ⟨loP_,hiP_,_,_,hO_⟩ := QIv.OS.new ho
   obtain ⟨AP_,cP_,eA_⟩ := hO_.slice
   subst eA_
   have OP_ := y0.mk (hO_)
   have HJ := y0.mk (y6 (Below.refl w28.heap.size w28) hb)
   clear hb ho hO_
   refine hK.out _ _ ⟨(y9 (y8 BKa.out HJ.out) 0).trans rfl,(y9 (y8 BKa.out HJ.out) 1).trans rfl,(y9 (y8 BKb.out HJ.out) 0).trans rfl,(y9 (y8 BKv.out HJ.out) 0).trans rfl,(y9 (y8 BKv.out HJ.out) 1).trans rfl,(y9 (y8 BKx.out HJ.out) 0).trans rfl,(y9 (y8 BKx.out HJ.out) 1).trans rfl,(y9 (y8 BKy.out HJ.out) 0).trans rfl,(y9 (y8 BKg.out HJ.out) 0).trans rfl,(y9 (y8 BKg.out HJ.out) 1).trans rfl⟩ (fun hHeld => ?_)
   clear hK K
   refine norm_ (a' := ?_) ?_ ?_
   rotate_left
   ·show Act.put _ (some 96) _ = _
    simp only [Act.put,qS_,qZ_,qC_,y19,y18]
    rfl
   refine two_ (i := 3) (j := 8) (Ni := some 98) (Nj := some 15) (fl_ 11 15) (fl_ 11 263) rfl rfl rfl rfl (by kernel_rfl) (by decide) (by decide) (fun K hK => ?_) (fun K hK => ?_)
   ·skip
    refine goes_ Tryz.func12 (by kernel_rfl) rfl #[.agg #[.slice A1 l1.length c1]] (by rfl) rfl rfl qy3 ?_
    with_reducible refine (laws_toTuple.calls k _ _ l1 ys _ (Kd.C_below HR1.out (y6 HB.out HJ.out)) HC1.out F2.out).mono ?_
    rintro e w28_13 ⟨v_,rfl,ho,hb⟩
    refine ⟨_,rfl, ?_⟩
    obtain ⟨loQ_,hiQ_,_,_,hO_⟩ := QIv.OR.new ho
    obtain ⟨AQ_,cQ_,eA_⟩ := hO_.slice
    subst eA_
    have OQ_ := y0.mk (hO_)
    replace OP_ := y0.mk (OP_.out.below hb)
    replace HJ := y0.mk (y6 HJ.out hb)
    clear hb ho hO_
    refine hK.out _ _ ⟨(y9 (y8 BKa.out HJ.out) 0).trans rfl,(y9 (y8 BKa.out HJ.out) 1).trans rfl,(y9 (y8 BKb.out HJ.out) 0).trans rfl,(y9 (y8 BKv.out HJ.out) 0).trans rfl,(y9 (y8 BKv.out HJ.out) 1).trans rfl,(y9 (y8 BKx.out HJ.out) 0).trans rfl,(y9 (y8 BKx.out HJ.out) 1).trans rfl,(y9 (y8 BKy.out HJ.out) 0).trans rfl,(y9 (y8 BKg.out HJ.out) 0).trans rfl,(y9 (y8 BKg.out HJ.out) 1).trans rfl⟩ (fun hHeld => ?_)
    clear hK K
    refine norm_ (a' := ?_) ?_ ?_
    rotate_left
    ·show Act.put _ (some 98) _ = _
     simp only [Act.put,qS_,qZ_,qC_,y19,y18]
     rfl
    refine two_ (i := 4) (j := 8) (Ni := some 99) (Nj := some 15) (fl_ 11 31) (fl_ 11 271) rfl rfl rfl rfl (by kernel_rfl) (by decide) (by decide) (fun K hK => ?_) (fun K hK => ?_)
    ·skip
     refine goes_ Tryz.func13 (by kernel_rfl) rfl #[.agg #[.int .i64 ar,.slice AP_ xs.length cP_],.agg #[.slice AQ_ ys.length cQ_]] (by rfl) rfl rfl qy3 ?_
     with_reducible refine (impl_RelPut.calls k ar _ _ xs _ _ ys gr gs gq _ OP_.out.C OP_.out.le OQ_.out.C OQ_.out.le (Tb.below HT.out (y6 HB.out HJ.out)) F4.out).mono ?_
     rintro e w28_134 ⟨v_,rfl,ho,hb⟩
     refine ⟨_,rfl, ?_⟩
     obtain ⟨loW_,hiW_,hlo_,hhi_,hO_⟩ := QIv.OS.new ho
     obtain ⟨AW_,cW_,eA_⟩ := hO_.slice
     subst eA_
     have OW_ := y0.mk (hO_)
     have LOW_ := y0.mk ((by rw [hlo_]; exact HJ.out.size : w28.heap.size ≤ loW_))
     have HIW_ := y0.mk ((Nat.le_of_eq hhi_ : hiW_ ≤ w28_134.heap.size))
     replace HJ := y0.mk (y6 HJ.out hb)
     clear hb ho hO_ hlo_ hhi_
     refine hK.out _ _ ⟨(y9 (y8 BKa.out HJ.out) 0).trans rfl,(y9 (y8 BKa.out HJ.out) 1).trans rfl,(y9 (y8 BKb.out HJ.out) 0).trans rfl,(y9 (y8 BKv.out HJ.out) 0).trans rfl,(y9 (y8 BKv.out HJ.out) 1).trans rfl,(y9 (y8 BKx.out HJ.out) 0).trans rfl,(y9 (y8 BKx.out HJ.out) 1).trans rfl,(y9 (y8 BKy.out HJ.out) 0).trans rfl,(y9 (y8 BKg.out HJ.out) 0).trans rfl,(y9 (y8 BKg.out HJ.out) 1).trans rfl⟩ (fun hHeld => ?_)
     clear hK K
     refine norm_ (a' := ?_) ?_ ?_
     rotate_left
     ·show Act.put _ (some 99) _ = _
      simp only [Act.put,qS_,qZ_,qC_,y19,y18]
      rfl
     refine y20 (i := 5) (N := some 94) (v := ?_) (a' := ?_) (fl_ 11 63) rfl rfl (by kernel_rfl) (fun _ _ _ h => h) (Or.inl ⟨by rfl, ?_⟩) ?_ ?_
     rotate_left
     ·intro w'
      go_simp
      with_reducible rfl
     rotate_left
     ·simp only [Act.put,qS_,qZ_,qC_,y19,y18]
      rfl
     refine y20 (i := 6) (N := some 100) (v := ?_) (a' := ?_) (fl_ 11 127) rfl rfl (by kernel_rfl) (fun _ _ _ h => h) (Or.inl ⟨by rfl, ?_⟩) ?_ ?_
     rotate_left
     ·intro w'
      go_simp
      with_reducible rfl
     rotate_left
     ·simp only [Act.put,qS_,qZ_,qC_,y19,y18]
      rfl
     refine y20 (i := 7) (N := some 101) (v := ?_) (a' := ?_) (fl_ 11 255) rfl rfl (by kernel_rfl) (fun _ _ _ h => h) (Or.inl ⟨by rfl, ?_⟩) ?_ ?_
     rotate_left
     ·intro w'
      go_simp
      with_reducible rfl
     rotate_left
     ·simp only [Act.put,qS_,qZ_,qC_,y19,y18]
      rfl
     refine one_ (i := 8) (N := some 15) (fl_ 11 511) rfl rfl (by kernel_rfl) (by decide) (fun K hK => ?_)
     refine value_ (w1 := w28_134.alloc (.cells #[.int .i64 0,.slice none 0 0] 32 (0,0))) (v := .pointer (some ⟨w28_134.heap.size,0,none⟩)) (by rfl) rfl ?_ ?_
     ·first | (go_simp; done) | (go_simp; rfl)
     have hbx := blk_new w28_134 (.cells #[.int .i64 0,.slice none 0 0] 32 (0,0))
     have hb := y3 (Below.refl w28_134.heap.size w28_134) (.cells #[.int .i64 0,.slice none 0 0] 32 (0,0))
     generalize w28_134.alloc (.cells #[.int .i64 0,.slice none 0 0] 32 (0,0)) = w28_1348 at hbx hb ⊢
     obtain ⟨g6_,hg_⟩ : ∃ g,g = w28_134.heap.size := ⟨_,rfl⟩
     rw [← hg_] at hbx ⊢
     have BK6_ := y0.mk (hbx)
     have GE6_ := y0.mk ((by rw [hg_]; exact HJ.out.size : w28.heap.size ≤ g6_))
     have OR_ := y0.mk ((by rw [hg_]; exact .inr HIW_.out : g6_ < loW_ ∨ hiW_ ≤ g6_))
     replace OW_ := y0.mk (OW_.out.below hb)
     replace HIW_ := y0.mk (Nat.le_trans HIW_.out hb.size)
     replace HJ := y0.mk (y6 HJ.out hb)
     clear hb hbx hg_
     refine hK.out _ _ ⟨(y9 (y8 BKa.out HJ.out) 0).trans rfl,(y9 (y8 BKa.out HJ.out) 1).trans rfl,(y9 (y8 BKb.out HJ.out) 0).trans rfl,(y9 (y8 BKv.out HJ.out) 0).trans rfl,(y9 (y8 BKv.out HJ.out) 1).trans rfl,(y9 (y8 BKx.out HJ.out) 0).trans rfl,(y9 (y8 BKx.out HJ.out) 1).trans rfl,(y9 (y8 BKy.out HJ.out) 0).trans rfl,(y9 (y8 BKg.out HJ.out) 0).trans rfl,(y9 (y8 BKg.out HJ.out) 1).trans rfl⟩ (fun hHeld => ?_)
     clear hK K
     refine norm_ (a' := ?_) ?_ ?_
     rotate_left
     ·show Act.put _ (some 15) _ = _
      simp only [Act.put,qS_,qZ_,qC_,y19,y18]
      rfl
     exact norm_ qy5 (hCont ((AP_,cP_),(AQ_,cQ_),(AW_,cW_),(g6_,loW_,hiW_)) _ ⟨HJ.out,OW_.out,LOW_.out,HIW_.out,GE6_.out,OR_.out,BK6_.out⟩)
    ·skip
     refine value_ (w1 := w28_13.alloc (.cells #[.int .i64 0,.slice none 0 0] 32 (0,0))) (v := .pointer (some ⟨w28_13.heap.size,0,none⟩)) (by rfl) rfl ?_ ?_
     ·first | (go_simp; done) | (go_simp; rfl)
     have hbx := blk_new w28_13 (.cells #[.int .i64 0,.slice none 0 0] 32 (0,0))
     have hb := y3 (Below.refl w28_13.heap.size w28_13) (.cells #[.int .i64 0,.slice none 0 0] 32 (0,0))
     generalize w28_13.alloc (.cells #[.int .i64 0,.slice none 0 0] 32 (0,0)) = w28_138 at hbx hb ⊢
     obtain ⟨g6_,hg_⟩ : ∃ g,g = w28_13.heap.size := ⟨_,rfl⟩
     rw [← hg_] at hbx ⊢
     have BK6_ := y0.mk (hbx)
     have GE6_ := y0.mk ((by rw [hg_]; exact HJ.out.size : w28.heap.size ≤ g6_))
     replace OP_ := y0.mk (OP_.out.below hb)
     replace OQ_ := y0.mk (OQ_.out.below hb)
     replace HJ := y0.mk (y6 HJ.out hb)
     clear hb hbx hg_
     refine hK.out _ _ ⟨(y9 (y8 BKa.out HJ.out) 0).trans rfl,(y9 (y8 BKa.out HJ.out) 1).trans rfl,(y9 (y8 BKb.out HJ.out) 0).trans rfl,(y9 (y8 BKv.out HJ.out) 0).trans rfl,(y9 (y8 BKv.out HJ.out) 1).trans rfl,(y9 (y8 BKx.out HJ.out) 0).trans rfl,(y9 (y8 BKx.out HJ.out) 1).trans rfl,(y9 (y8 BKy.out HJ.out) 0).trans rfl,(y9 (y8 BKg.out HJ.out) 0).trans rfl,(y9 (y8 BKg.out HJ.out) 1).trans rfl⟩ (fun hHeld => ?_)
     clear hK K
     refine norm_ (a' := ?_) ?_ ?_
     rotate_left
     ·show Act.put _ (some 15) _ = _
      simp only [Act.put,qS_,qZ_,qC_,y19,y18]
      rfl
     refine one_ (i := 4) (N := some 99) (fl_ 11 287) rfl rfl (by kernel_rfl) (by decide) (fun K hK => ?_)
     refine goes_ Tryz.func13 (by kernel_rfl) rfl #[.agg #[.int .i64 ar,.slice AP_ xs.length cP_],.agg #[.slice AQ_ ys.length cQ_]] (by rfl) rfl rfl qy3 ?_
     with_reducible refine (impl_RelPut.calls k ar _ _ xs _ _ ys gr gs gq _ OP_.out.C OP_.out.le OQ_.out.C OQ_.out.le (Tb.below HT.out (y6 HB.out HJ.out)) F4.out).mono ?_
     rintro e w28_1384 ⟨v_,rfl,ho,hb⟩
     refine ⟨_,rfl, ?_⟩
     obtain ⟨loW_,hiW_,hlo_,hhi_,hO_⟩ := QIv.OS.new ho
     obtain ⟨AW_,cW_,eA_⟩ := hO_.slice
     subst eA_
     have OW_ := y0.mk (hO_)
     have LOW_ := y0.mk ((by rw [hlo_]; exact HJ.out.size : w28.heap.size ≤ loW_))
     have HIW_ := y0.mk ((Nat.le_of_eq hhi_ : hiW_ ≤ w28_1384.heap.size))
     have OR_ := y0.mk ((by rw [hlo_]; exact .inl (QIv.ki_lt BK6_.out) : g6_ < loW_ ∨ hiW_ ≤ g6_))
     replace BK6_ := y0.mk (y8 BK6_.out hb)
     replace HJ := y0.mk (y6 HJ.out hb)
     clear hb ho hO_ hlo_ hhi_
     refine hK.out _ _ ⟨(y9 (y8 BKa.out HJ.out) 0).trans rfl,(y9 (y8 BKa.out HJ.out) 1).trans rfl,(y9 (y8 BKb.out HJ.out) 0).trans rfl,(y9 (y8 BKv.out HJ.out) 0).trans rfl,(y9 (y8 BKv.out HJ.out) 1).trans rfl,(y9 (y8 BKx.out HJ.out) 0).trans rfl,(y9 (y8 BKx.out HJ.out) 1).trans rfl,(y9 (y8 BKy.out HJ.out) 0).trans rfl,(y9 (y8 BKg.out HJ.out) 0).trans rfl,(y9 (y8 BKg.out HJ.out) 1).trans rfl⟩ (fun hHeld => ?_)
     clear hK K
     refine norm_ (a' := ?_) ?_ ?_
     rotate_left
     ·show Act.put _ (some 99) _ = _
      simp only [Act.put,qS_,qZ_,qC_,y19,y18]
      rfl
     refine y20 (i := 5) (N := some 94) (v := ?_) (a' := ?_) (fl_ 11 319) rfl rfl (by kernel_rfl) (fun _ _ _ h => h) (Or.inl ⟨by rfl, ?_⟩) ?_ ?_
     rotate_left
     ·intro w'
      go_simp
      with_reducible rfl
     rotate_left
     ·simp only [Act.put,qS_,qZ_,qC_,y19,y18]
      rfl
     refine y20 (i := 6) (N := some 100) (v := ?_) (a' := ?_) (fl_ 11 383) rfl rfl (by kernel_rfl) (fun _ _ _ h => h) (Or.inl ⟨by rfl, ?_⟩) ?_ ?_
     rotate_left
     ·intro w'
      go_simp
      with_reducible rfl
     rotate_left
     ·simp only [Act.put,qS_,qZ_,qC_,y19,y18]
      rfl
     refine y20 (i := 7) (N := some 101) (v := ?_) (a' := ?_) (fl_ 11 511) rfl rfl (by kernel_rfl) (fun _ _ _ h => h) (Or.inl ⟨by rfl, ?_⟩) ?_ ?_
     rotate_left
     ·intro w'
      go_simp
      with_reducible rfl
     rotate_left
     ·simp only [Act.put,qS_,qZ_,qC_,y19,y18]
      rfl
     exact norm_ qy5 (hCont ((AP_,cP_),(AQ_,cQ_),(AW_,cW_),(g6_,loW_,hiW_)) _ ⟨HJ.out,OW_.out,LOW_.out,HIW_.out,GE6_.out,OR_.out,BK6_.out⟩)
   ·skip
    refine value_ (w1 := w28_1.alloc (.cells #[.int .i64 0,.slice none 0 0] 32 (0,0))) (v := .pointer (some ⟨w28_1.heap.size,0,none⟩)) (by rfl) rfl ?_ ?_
    ·first | (go_simp; done) | (go_simp; rfl)
    have hbx := blk_new w28_1 (.cells #[.int .i64 0,.slice none 0 0] 32 (0,0))
    have hb := y3 (Below.refl w28_1.heap.size w28_1) (.cells #[.int .i64 0,.slice none 0 0] 32 (0,0))
    generalize w28_1.alloc (.cells #[.int .i64 0,.slice none 0 0] 32 (0,0)) = w28_18 at hbx hb ⊢
    obtain ⟨g6_,hg_⟩ : ∃ g,g = w28_1.heap.size := ⟨_,rfl⟩
    rw [← hg_] at hbx ⊢
    have BK6_ := y0.mk (hbx)
    have GE6_ := y0.mk ((by rw [hg_]; exact HJ.out.size : w28.heap.size ≤ g6_))
    replace OP_ := y0.mk (OP_.out.below hb)
    replace HJ := y0.mk (y6 HJ.out hb)
    clear hb hbx hg_
    refine hK.out _ _ ⟨(y9 (y8 BKa.out HJ.out) 0).trans rfl,(y9 (y8 BKa.out HJ.out) 1).trans rfl,(y9 (y8 BKb.out HJ.out) 0).trans rfl,(y9 (y8 BKv.out HJ.out) 0).trans rfl,(y9 (y8 BKv.out HJ.out) 1).trans rfl,(y9 (y8 BKx.out HJ.out) 0).trans rfl,(y9 (y8 BKx.out HJ.out) 1).trans rfl,(y9 (y8 BKy.out HJ.out) 0).trans rfl,(y9 (y8 BKg.out HJ.out) 0).trans rfl,(y9 (y8 BKg.out HJ.out) 1).trans rfl⟩ (fun hHeld => ?_)
    clear hK K
    refine norm_ (a' := ?_) ?_ ?_
    rotate_left
    ·show Act.put _ (some 15) _ = _
     simp only [Act.put,qS_,qZ_,qC_,y19,y18]
     rfl
    refine one_ (i := 3) (N := some 98) (fl_ 11 271) rfl rfl (by kernel_rfl) (by decide) (fun K hK => ?_)
    refine goes_ Tryz.func12 (by kernel_rfl) rfl #[.agg #[.slice A1 l1.length c1]] (by rfl) rfl rfl qy3 ?_
    with_reducible refine (laws_toTuple.calls k _ _ l1 ys _ (Kd.C_below HR1.out (y6 HB.out HJ.out)) HC1.out F2.out).mono ?_
    rintro e w28_183 ⟨v_,rfl,ho,hb⟩
    refine ⟨_,rfl, ?_⟩
    obtain ⟨loQ_,hiQ_,_,_,hO_⟩ := QIv.OR.new ho
    obtain ⟨AQ_,cQ_,eA_⟩ := hO_.slice
    subst eA_
    have OQ_ := y0.mk (hO_)
    replace BK6_ := y0.mk (y8 BK6_.out hb)
    replace OP_ := y0.mk (OP_.out.below hb)
    replace HJ := y0.mk (y6 HJ.out hb)
    clear hb ho hO_
    refine hK.out _ _ ⟨(y9 (y8 BKa.out HJ.out) 0).trans rfl,(y9 (y8 BKa.out HJ.out) 1).trans rfl,(y9 (y8 BKb.out HJ.out) 0).trans rfl,(y9 (y8 BKv.out HJ.out) 0).trans rfl,(y9 (y8 BKv.out HJ.out) 1).trans rfl,(y9 (y8 BKx.out HJ.out) 0).trans rfl,(y9 (y8 BKx.out HJ.out) 1).trans rfl,(y9 (y8 BKy.out HJ.out) 0).trans rfl,(y9 (y8 BKg.out HJ.out) 0).trans rfl,(y9 (y8 BKg.out HJ.out) 1).trans rfl⟩ (fun hHeld => ?_)
    clear hK K
    refine norm_ (a' := ?_) ?_ ?_
    rotate_left
    ·show Act.put _ (some 98) _ = _
     simp only [Act.put,qS_,qZ_,qC_,y19,y18]
     rfl
    refine one_ (i := 4) (N := some 99) (fl_ 11 287) rfl rfl (by kernel_rfl) (by decide) (fun K hK => ?_)
    refine goes_ Tryz.func13 (by kernel_rfl) rfl #[.agg #[.int .i64 ar,.slice AP_ xs.length cP_],.agg #[.slice AQ_ ys.length cQ_]] (by rfl) rfl rfl qy3 ?_
    with_reducible refine (impl_RelPut.calls k ar _ _ xs _ _ ys gr gs gq _ OP_.out.C OP_.out.le OQ_.out.C OQ_.out.le (Tb.below HT.out (y6 HB.out HJ.out)) F4.out).mono ?_
    rintro e w28_1834 ⟨v_,rfl,ho,hb⟩
    refine ⟨_,rfl, ?_⟩
    obtain ⟨loW_,hiW_,hlo_,hhi_,hO_⟩ := QIv.OS.new ho
    obtain ⟨AW_,cW_,eA_⟩ := hO_.slice
    subst eA_
    have OW_ := y0.mk (hO_)
    have LOW_ := y0.mk ((by rw [hlo_]; exact HJ.out.size : w28.heap.size ≤ loW_))
    have HIW_ := y0.mk ((Nat.le_of_eq hhi_ : hiW_ ≤ w28_1834.heap.size))
    have OR_ := y0.mk ((by rw [hlo_]; exact .inl (QIv.ki_lt BK6_.out) : g6_ < loW_ ∨ hiW_ ≤ g6_))
    replace BK6_ := y0.mk (y8 BK6_.out hb)
    replace HJ := y0.mk (y6 HJ.out hb)
    clear hb ho hO_ hlo_ hhi_
    refine hK.out _ _ ⟨(y9 (y8 BKa.out HJ.out) 0).trans rfl,(y9 (y8 BKa.out HJ.out) 1).trans rfl,(y9 (y8 BKb.out HJ.out) 0).trans rfl,(y9 (y8 BKv.out HJ.out) 0).trans rfl,(y9 (y8 BKv.out HJ.out) 1).trans rfl,(y9 (y8 BKx.out HJ.out) 0).trans rfl,(y9 (y8 BKx.out HJ.out) 1).trans rfl,(y9 (y8 BKy.out HJ.out) 0).trans rfl,(y9 (y8 BKg.out HJ.out) 0).trans rfl,(y9 (y8 BKg.out HJ.out) 1).trans rfl⟩ (fun hHeld => ?_)
    clear hK K
    refine norm_ (a' := ?_) ?_ ?_
    rotate_left
    ·show Act.put _ (some 99) _ = _
     simp only [Act.put,qS_,qZ_,qC_,y19,y18]
     rfl
    refine y20 (i := 5) (N := some 94) (v := ?_) (a' := ?_) (fl_ 11 319) rfl rfl (by kernel_rfl) (fun _ _ _ h => h) (Or.inl ⟨by rfl, ?_⟩) ?_ ?_
    rotate_left
    ·intro w'
     go_simp
     with_reducible rfl
    rotate_left
    ·simp only [Act.put,qS_,qZ_,qC_,y19,y18]
     rfl
    refine y20 (i := 6) (N := some 100) (v := ?_) (a' := ?_) (fl_ 11 383) rfl rfl (by kernel_rfl) (fun _ _ _ h => h) (Or.inl ⟨by rfl, ?_⟩) ?_ ?_
    rotate_left
    ·intro w'
     go_simp
     with_reducible rfl
    rotate_left
    ·simp only [Act.put,qS_,qZ_,qC_,y19,y18]
     rfl
    refine y20 (i := 7) (N := some 101) (v := ?_) (a' := ?_) (fl_ 11 511) rfl rfl (by kernel_rfl) (fun _ _ _ h => h) (Or.inl ⟨by rfl, ?_⟩) ?_ ?_
    rotate_left
    ·intro w'
     go_simp
     with_reducible rfl
    rotate_left
    ·simp only [Act.put,qS_,qZ_,qC_,y19,y18]
     rfl
    exact norm_ qy5 (hCont ((AP_,cP_),(AQ_,cQ_),(AW_,cW_),(g6_,loW_,hiW_)) _ ⟨HJ.out,OW_.out,LOW_.out,HIW_.out,GE6_.out,OR_.out,BK6_.out⟩)
  ·skip
   refine value_ (w1 := w28.alloc (.cells #[.int .i64 0,.slice none 0 0] 32 (0,0))) (v := .pointer (some ⟨w28.heap.size,0,none⟩)) (by rfl) rfl ?_ ?_
   ·first | (go_simp; done) | (go_simp; rfl)
   have hbx := blk_new w28 (.cells #[.int .i64 0,.slice none 0 0] 32 (0,0))
   have hb := y3 (Below.refl w28.heap.size w28) (.cells #[.int .i64 0,.slice none 0 0] 32 (0,0))
   generalize w28.alloc (.cells #[.int .i64 0,.slice none 0 0] 32 (0,0)) = w28_8 at hbx hb ⊢
   obtain ⟨g6_,hg_⟩ : ∃ g,g = w28.heap.size := ⟨_,rfl⟩
   rw [← hg_] at hbx ⊢
   have BK6_ := y0.mk (hbx)
   have GE6_ := y0.mk ((by rw [hg_]; exact (Below.refl w28.heap.size w28).size : w28.heap.size ≤ g6_))
   have HJ := y0.mk (y6 (Below.refl w28.heap.size w28) hb)
   clear hb hbx hg_
   refine hK.out _ _ ⟨(y9 (y8 BKa.out HJ.out) 0).trans rfl,(y9 (y8 BKa.out HJ.out) 1).trans rfl,(y9 (y8 BKb.out HJ.out) 0).trans rfl,(y9 (y8 BKv.out HJ.out) 0).trans rfl,(y9 (y8 BKv.out HJ.out) 1).trans rfl,(y9 (y8 BKx.out HJ.out) 0).trans rfl,(y9 (y8 BKx.out HJ.out) 1).trans rfl,(y9 (y8 BKy.out HJ.out) 0).trans rfl,(y9 (y8 BKg.out HJ.out) 0).trans rfl,(y9 (y8 BKg.out HJ.out) 1).trans rfl⟩ (fun hHeld => ?_)
   clear hK K
   refine norm_ (a' := ?_) ?_ ?_
   rotate_left
   ·show Act.put _ (some 15) _ = _
    simp only [Act.put,qS_,qZ_,qC_,y19,y18]
    rfl
   refine one_ (i := 1) (N := some 96) (fl_ 11 263) rfl rfl (by kernel_rfl) (by decide) (fun K hK => ?_)
   refine goes_ Tryz.func11 (by kernel_rfl) rfl #[.agg #[.int .i64 a,.slice A0 l0.length c0]] (by rfl) rfl rfl qy3 ?_
   with_reducible refine (laws_toRel.calls k a _ _ l0 ar xs _ (Kd.C_below HR0.out (y6 HB.out HJ.out)) HC0.out F1.out).mono ?_
   rintro e w28_81 ⟨v_,rfl,ho,hb⟩
   refine ⟨_,rfl, ?_⟩
   obtain ⟨loP_,hiP_,_,_,hO_⟩ := QIv.OS.new ho
   obtain ⟨AP_,cP_,eA_⟩ := hO_.slice
   subst eA_
   have OP_ := y0.mk (hO_)
   replace BK6_ := y0.mk (y8 BK6_.out hb)
   replace HJ := y0.mk (y6 HJ.out hb)
   clear hb ho hO_
   refine hK.out _ _ ⟨(y9 (y8 BKa.out HJ.out) 0).trans rfl,(y9 (y8 BKa.out HJ.out) 1).trans rfl,(y9 (y8 BKb.out HJ.out) 0).trans rfl,(y9 (y8 BKv.out HJ.out) 0).trans rfl,(y9 (y8 BKv.out HJ.out) 1).trans rfl,(y9 (y8 BKx.out HJ.out) 0).trans rfl,(y9 (y8 BKx.out HJ.out) 1).trans rfl,(y9 (y8 BKy.out HJ.out) 0).trans rfl,(y9 (y8 BKg.out HJ.out) 0).trans rfl,(y9 (y8 BKg.out HJ.out) 1).trans rfl⟩ (fun hHeld => ?_)
   clear hK K
   refine norm_ (a' := ?_) ?_ ?_
   rotate_left
   ·show Act.put _ (some 96) _ = _
    simp only [Act.put,qS_,qZ_,qC_,y19,y18]
    rfl
   refine one_ (i := 3) (N := some 98) (fl_ 11 271) rfl rfl (by kernel_rfl) (by decide) (fun K hK => ?_)
   refine goes_ Tryz.func12 (by kernel_rfl) rfl #[.agg #[.slice A1 l1.length c1]] (by rfl) rfl rfl qy3 ?_
   with_reducible refine (laws_toTuple.calls k _ _ l1 ys _ (Kd.C_below HR1.out (y6 HB.out HJ.out)) HC1.out F2.out).mono ?_
   rintro e w28_813 ⟨v_,rfl,ho,hb⟩
   refine ⟨_,rfl, ?_⟩
   obtain ⟨loQ_,hiQ_,_,_,hO_⟩ := QIv.OR.new ho
   obtain ⟨AQ_,cQ_,eA_⟩ := hO_.slice
   subst eA_
   have OQ_ := y0.mk (hO_)
   replace BK6_ := y0.mk (y8 BK6_.out hb)
   replace OP_ := y0.mk (OP_.out.below hb)
   replace HJ := y0.mk (y6 HJ.out hb)
   clear hb ho hO_
   refine hK.out _ _ ⟨(y9 (y8 BKa.out HJ.out) 0).trans rfl,(y9 (y8 BKa.out HJ.out) 1).trans rfl,(y9 (y8 BKb.out HJ.out) 0).trans rfl,(y9 (y8 BKv.out HJ.out) 0).trans rfl,(y9 (y8 BKv.out HJ.out) 1).trans rfl,(y9 (y8 BKx.out HJ.out) 0).trans rfl,(y9 (y8 BKx.out HJ.out) 1).trans rfl,(y9 (y8 BKy.out HJ.out) 0).trans rfl,(y9 (y8 BKg.out HJ.out) 0).trans rfl,(y9 (y8 BKg.out HJ.out) 1).trans rfl⟩ (fun hHeld => ?_)
   clear hK K
   refine norm_ (a' := ?_) ?_ ?_
   rotate_left
   ·show Act.put _ (some 98) _ = _
    simp only [Act.put,qS_,qZ_,qC_,y19,y18]
    rfl
   refine one_ (i := 4) (N := some 99) (fl_ 11 287) rfl rfl (by kernel_rfl) (by decide) (fun K hK => ?_)
   refine goes_ Tryz.func13 (by kernel_rfl) rfl #[.agg #[.int .i64 ar,.slice AP_ xs.length cP_],.agg #[.slice AQ_ ys.length cQ_]] (by rfl) rfl rfl qy3 ?_
   with_reducible refine (impl_RelPut.calls k ar _ _ xs _ _ ys gr gs gq _ OP_.out.C OP_.out.le OQ_.out.C OQ_.out.le (Tb.below HT.out (y6 HB.out HJ.out)) F4.out).mono ?_
   rintro e w28_8134 ⟨v_,rfl,ho,hb⟩
   refine ⟨_,rfl, ?_⟩
   obtain ⟨loW_,hiW_,hlo_,hhi_,hO_⟩ := QIv.OS.new ho
   obtain ⟨AW_,cW_,eA_⟩ := hO_.slice
   subst eA_
   have OW_ := y0.mk (hO_)
   have LOW_ := y0.mk ((by rw [hlo_]; exact HJ.out.size : w28.heap.size ≤ loW_))
   have HIW_ := y0.mk ((Nat.le_of_eq hhi_ : hiW_ ≤ w28_8134.heap.size))
   have OR_ := y0.mk ((by rw [hlo_]; exact .inl (QIv.ki_lt BK6_.out) : g6_ < loW_ ∨ hiW_ ≤ g6_))
   replace BK6_ := y0.mk (y8 BK6_.out hb)
   replace HJ := y0.mk (y6 HJ.out hb)
   clear hb ho hO_ hlo_ hhi_
   refine hK.out _ _ ⟨(y9 (y8 BKa.out HJ.out) 0).trans rfl,(y9 (y8 BKa.out HJ.out) 1).trans rfl,(y9 (y8 BKb.out HJ.out) 0).trans rfl,(y9 (y8 BKv.out HJ.out) 0).trans rfl,(y9 (y8 BKv.out HJ.out) 1).trans rfl,(y9 (y8 BKx.out HJ.out) 0).trans rfl,(y9 (y8 BKx.out HJ.out) 1).trans rfl,(y9 (y8 BKy.out HJ.out) 0).trans rfl,(y9 (y8 BKg.out HJ.out) 0).trans rfl,(y9 (y8 BKg.out HJ.out) 1).trans rfl⟩ (fun hHeld => ?_)
   clear hK K
   refine norm_ (a' := ?_) ?_ ?_
   rotate_left
   ·show Act.put _ (some 99) _ = _
    simp only [Act.put,qS_,qZ_,qC_,y19,y18]
    rfl
   refine y20 (i := 5) (N := some 94) (v := ?_) (a' := ?_) (fl_ 11 319) rfl rfl (by kernel_rfl) (fun _ _ _ h => h) (Or.inl ⟨by rfl, ?_⟩) ?_ ?_
   rotate_left
   ·intro w'
    go_simp
    with_reducible rfl
   rotate_left
   ·simp only [Act.put,qS_,qZ_,qC_,y19,y18]
    rfl
   refine y20 (i := 6) (N := some 100) (v := ?_) (a' := ?_) (fl_ 11 383) rfl rfl (by kernel_rfl) (fun _ _ _ h => h) (Or.inl ⟨by rfl, ?_⟩) ?_ ?_
   rotate_left
   ·intro w'
    go_simp
    with_reducible rfl
   rotate_left
   ·simp only [Act.put,qS_,qZ_,qC_,y19,y18]
    rfl
   refine y20 (i := 7) (N := some 101) (v := ?_) (a' := ?_) (fl_ 11 511) rfl rfl (by kernel_rfl) (fun _ _ _ h => h) (Or.inl ⟨by rfl, ?_⟩) ?_ ?_
   rotate_left
   ·intro w'
    go_simp
    with_reducible rfl
   rotate_left
   ·simp only [Act.put,qS_,qZ_,qC_,y19,y18]
    rfl
   exact norm_ qy5 (hCont ((AP_,cP_),(AQ_,cQ_),(AW_,cW_),(g6_,loW_,hiW_)) _ ⟨HJ.out,OW_.out,LOW_.out,HIW_.out,GE6_.out,OR_.out,BK6_.out⟩)
 rintro ⟨⟨AP_,cP_⟩,⟨AQ_,cQ_⟩,⟨AH,cH⟩,⟨gh,loH,hiH⟩⟩ w28_z ⟨hb,ho_,h1_,h2_,h3_,h4_,h5_⟩
 dsimp only at ho_ h1_ h2_ h3_ h4_ h5_
 have OH := y0.mk ((ho_ : QIv.OS k36 36 loH hiH (.slice AH gs.length cH) gs w28_z))
 have LH := y0.mk ((h2_ : hiH ≤ w28_z.heap.size))
 have BH := y0.mk ((Nat.le_trans HB.out.size h1_ : w.heap.size ≤ loH))
 have DW_H := y0.mk ((Nat.le_trans LW.out h1_ : hiW ≤ loH))
 have DG_H := y0.mk ((Nat.le_trans LG.out h1_ : hiG ≤ loH))
 have Ea_H := y0.mk ((Nat.lt_of_lt_of_le (QIv.ki_lt BKa.out) h1_ : ga < loH))
 have Eb_H := y0.mk ((Nat.lt_of_lt_of_le (QIv.ki_lt BKb.out) h1_ : gb < loH))
 have Ev_H := y0.mk ((Nat.lt_of_lt_of_le (QIv.ki_lt BKv.out) h1_ : gv < loH))
 have Ex_H := y0.mk ((Nat.lt_of_lt_of_le (QIv.ki_lt BKx.out) h1_ : gx < loH))
 have Ey_H := y0.mk ((Nat.lt_of_lt_of_le (QIv.ki_lt BKy.out) h1_ : gy < loH))
 have Eg_H := y0.mk ((Nat.lt_of_lt_of_le (QIv.ki_lt BKg.out) h1_ : gg < loH))
 have BKh := y0.mk ((h5_ : w28_z.heap[gh]? = some (.cells #[.int .i64 0,.slice none 0 0] 32 (0,0))))
 have GEh := y0.mk ((Nat.le_trans HB.out.size h3_ : w.heap.size ≤ gh))
 have EH_h := y0.mk ((h4_ : gh < loH ∨ hiH ≤ gh))
 have EW_h := y0.mk ((Nat.le_trans LW.out h3_ : hiW ≤ gh))
 have EG_h := y0.mk ((Nat.le_trans LG.out h3_ : hiG ≤ gh))
 have Na_h := y0.mk ((Nat.ne_of_lt (Nat.lt_of_lt_of_le (QIv.ki_lt BKa.out) h3_) : ga ≠ gh))
 have Nb_h := y0.mk ((Nat.ne_of_lt (Nat.lt_of_lt_of_le (QIv.ki_lt BKb.out) h3_) : gb ≠ gh))
 have Nv_h := y0.mk ((Nat.ne_of_lt (Nat.lt_of_lt_of_le (QIv.ki_lt BKv.out) h3_) : gv ≠ gh))
 have Nx_h := y0.mk ((Nat.ne_of_lt (Nat.lt_of_lt_of_le (QIv.ki_lt BKx.out) h3_) : gx ≠ gh))
 have Ny_h := y0.mk ((Nat.ne_of_lt (Nat.lt_of_lt_of_le (QIv.ki_lt BKy.out) h3_) : gy ≠ gh))
 have Ng_h := y0.mk ((Nat.ne_of_lt (Nat.lt_of_lt_of_le (QIv.ki_lt BKg.out) h3_) : gg ≠ gh))
 replace OW := y0.mk (OW.out.below hb)
 replace OG := y0.mk (OG.out.below hb)
 replace LW := y0.mk (Nat.le_trans LW.out hb.size)
 replace LG := y0.mk (Nat.le_trans LG.out hb.size)
 replace BKa := y0.mk (y8 (g := ga) (o := (.cells #[.int .i64 a,.slice A0 l0.length c0] 24 (0,0))) BKa.out hb)
 replace BKb := y0.mk (y8 (g := gb) (o := (.cells #[.slice A1 l1.length c1] 27 (0,0))) BKb.out hb)
 replace BKv := y0.mk (y8 (g := gv) (o := (.cells #[.int .i64 gr,.slice AW gs.length cW] 32 (0,0))) BKv.out hb)
 replace BKx := y0.mk (y8 (g := gx) (o := (.cells #[.int .i64 ar,.slice AX xs.length cX] 32 (0,0))) BKx.out hb)
 replace BKy := y0.mk (y8 (g := gy) (o := (.cells #[.slice AY ys.length cY] 36 (0,0))) BKy.out hb)
 replace BKg := y0.mk (y8 (g := gg) (o := (.cells #[.int .i64 gr,.slice AG gs.length cG] 32 (0,0))) BKg.out hb)
 replace HB := y0.mk (y6 HB.out hb)
 clear hb ho_ h1_ h2_ h3_ h4_ h5_
 have hHeld : w28_z.cell? ⟨ga,0,none⟩ = some (.int .i64 a) ∧ w28_z.cell? ⟨ga,1,none⟩ = some (.slice A0 l0.length c0) ∧ w28_z.cell? ⟨gb,0,none⟩ = some (.slice A1 l1.length c1) ∧ w28_z.cell? ⟨gv,0,none⟩ = some (.int .i64 gr) ∧ w28_z.cell? ⟨gv,1,none⟩ = some (.slice AW gs.length cW) ∧ w28_z.cell? ⟨gx,0,none⟩ = some (.int .i64 ar) ∧ w28_z.cell? ⟨gx,1,none⟩ = some (.slice AX xs.length cX) ∧ w28_z.cell? ⟨gy,0,none⟩ = some (.slice AY ys.length cY) ∧ w28_z.cell? ⟨gg,0,none⟩ = some (.int .i64 gr) ∧ w28_z.cell? ⟨gg,1,none⟩ = some (.slice AG gs.length cG) := ⟨(y9 BKa.out 0).trans rfl,(y9 BKa.out 1).trans rfl,(y9 BKb.out 0).trans rfl,(y9 BKv.out 0).trans rfl,(y9 BKv.out 1).trans rfl,(y9 BKx.out 0).trans rfl,(y9 BKx.out 1).trans rfl,(y9 BKy.out 0).trans rfl,(y9 BKg.out 0).trans rfl,(y9 BKg.out 1).trans rfl⟩
 refine norm_ (a' := ?_) ?_ ?_
 rotate_left
 ·simp only [putAll,Act.put,qS_,qZ_,qC_]
  rfl
 refine last_ (i := 9) (N := none) (fl_ 11 1023) rfl rfl (by kernel_rfl) (by decide) (fun K hK => ?_)
 have hcs0 : w28_z.cell? ⟨gh,0,none⟩ = some (.int .i64 0) := (y9 BKh.out 0).trans rfl
 have hcs1 : w28_z.cell? ⟨gh,1,none⟩ = some (.slice none 0 0) := (y9 BKh.out 1).trans rfl
 have hfs0 := blk_frozen BKh.out 0
 have hfs1 := blk_frozen BKh.out 1
 refine skip_ (w1 := (w28_z.setCell ⟨gh,0,none⟩ (.int .i64 gr)).setCell ⟨gh,1,none⟩ (.slice AH gs.length cH)) (by rfl) rfl ?_ ?_
 ·first | (go_simp; done) | (go_simp; rfl)
 clear hcs0 hcs1 hfs0 hfs1
 refine hK.out _ _ ?_
 clear hK K
 refine y20 (i := 10) (N := some 16) (v := ?_) (a' := ?_) (fl_ 11 2047) rfl rfl (by kernel_rfl) (fun _ _ _ h => h) (Or.inl ⟨by rfl, ?_⟩) ?_ ?_
 rotate_left
 ·intro w'
  go_simp
  with_reducible rfl
 rotate_left
 ·simp only [Act.put,qS_,qZ_,qC_,y19,y18]
  rfl
 refine done_ (by kernel_rfl) ?_
 (repeat first | clear hca0 | clear hca1 | clear hcb0 | clear hcv0 | clear hcv1 | clear hcx0 | clear hcx1 | clear hcy0 | clear hcg0 | clear hcg1 | clear hch0 | clear hch1 | clear hfa0 | clear hfa1 | clear hfb0 | clear hfv0 | clear hfv1 | clear hfx0 | clear hfx1 | clear hfy0 | clear hfg0 | clear hfg1 | clear hfh0 | clear hfh1)
 replace OW := y0.mk (((OW.out.set (.inr EW_h.out) _ _).set (.inr EW_h.out) _ _) : QIv.OV k36 36 loW hiW (.slice AW gs.length cW) gs ((w28_z.setCell ⟨gh,0,none⟩ (.int .i64 gr)).setCell ⟨gh,1,none⟩ (.slice AH gs.length cH)))
 replace LW := y0.mk (by simpa using LW.out : hiW ≤ ((w28_z.setCell ⟨gh,0,none⟩ (.int .i64 gr)).setCell ⟨gh,1,none⟩ (.slice AH gs.length cH)).heap.size)
 replace OG := y0.mk (((OG.out.set (.inr EG_h.out) _ _).set (.inr EG_h.out) _ _) : QIv.OS k36 36 loG hiG (.slice AG gs.length cG) gm ((w28_z.setCell ⟨gh,0,none⟩ (.int .i64 gr)).setCell ⟨gh,1,none⟩ (.slice AH gs.length cH)))
 replace LG := y0.mk (by simpa using LG.out : hiG ≤ ((w28_z.setCell ⟨gh,0,none⟩ (.int .i64 gr)).setCell ⟨gh,1,none⟩ (.slice AH gs.length cH)).heap.size)
 replace OH := y0.mk (((OH.out.set (EH_h.out) _ _).set (EH_h.out) _ _) : QIv.OS k36 36 loH hiH (.slice AH gs.length cH) gs ((w28_z.setCell ⟨gh,0,none⟩ (.int .i64 gr)).setCell ⟨gh,1,none⟩ (.slice AH gs.length cH)))
 replace LH := y0.mk (by simpa using LH.out : hiH ≤ ((w28_z.setCell ⟨gh,0,none⟩ (.int .i64 gr)).setCell ⟨gh,1,none⟩ (.slice AH gs.length cH)).heap.size)
 replace BKa := y0.mk ((y12 (y12 BKa.out (Na_h.out) _) (Na_h.out) _) : ((w28_z.setCell ⟨gh,0,none⟩ (.int .i64 gr)).setCell ⟨gh,1,none⟩ (.slice AH gs.length cH)).heap[ga]? = some (.cells #[.int .i64 a,.slice A0 l0.length c0] 24 (0,0)))
 replace BKb := y0.mk ((y12 (y12 BKb.out (Nb_h.out) _) (Nb_h.out) _) : ((w28_z.setCell ⟨gh,0,none⟩ (.int .i64 gr)).setCell ⟨gh,1,none⟩ (.slice AH gs.length cH)).heap[gb]? = some (.cells #[.slice A1 l1.length c1] 27 (0,0)))
 replace BKv := y0.mk ((y12 (y12 BKv.out (Nv_h.out) _) (Nv_h.out) _) : ((w28_z.setCell ⟨gh,0,none⟩ (.int .i64 gr)).setCell ⟨gh,1,none⟩ (.slice AH gs.length cH)).heap[gv]? = some (.cells #[.int .i64 gr,.slice AW gs.length cW] 32 (0,0)))
 replace BKx := y0.mk ((y12 (y12 BKx.out (Nx_h.out) _) (Nx_h.out) _) : ((w28_z.setCell ⟨gh,0,none⟩ (.int .i64 gr)).setCell ⟨gh,1,none⟩ (.slice AH gs.length cH)).heap[gx]? = some (.cells #[.int .i64 ar,.slice AX xs.length cX] 32 (0,0)))
 replace BKy := y0.mk ((y12 (y12 BKy.out (Ny_h.out) _) (Ny_h.out) _) : ((w28_z.setCell ⟨gh,0,none⟩ (.int .i64 gr)).setCell ⟨gh,1,none⟩ (.slice AH gs.length cH)).heap[gy]? = some (.cells #[.slice AY ys.length cY] 36 (0,0)))
 replace BKg := y0.mk ((y12 (y12 BKg.out (Ng_h.out) _) (Ng_h.out) _) : ((w28_z.setCell ⟨gh,0,none⟩ (.int .i64 gr)).setCell ⟨gh,1,none⟩ (.slice AH gs.length cH)).heap[gg]? = some (.cells #[.int .i64 gr,.slice AG gs.length cG] 32 (0,0)))
 replace BKh := y0.mk ((blk_set (blk_set BKh.out 0 (.int .i64 gr)) 1 (.slice AH gs.length cH)) : ((w28_z.setCell ⟨gh,0,none⟩ (.int .i64 gr)).setCell ⟨gh,1,none⟩ (.slice AH gs.length cH)).heap[gh]? = some (.cells #[.int .i64 gr,.slice AH gs.length cH] 32 (0,0)))
 replace HB := y0.mk ((below_set (below_set HB.out GEh.out) GEh.out) : Below w.heap.size w ((w28_z.setCell ⟨gh,0,none⟩ (.int .i64 gr)).setCell ⟨gh,1,none⟩ (.slice AH gs.length cH)))
 generalize ((w28_z.setCell ⟨gh,0,none⟩ (.int .i64 gr)).setCell ⟨gh,1,none⟩ (.slice AH gs.length cH)) = w29 at OW LW OG LG OH LH BKa BKb BKv BKx BKy BKg BKh HB ⊢
 obtain ⟨hca0,hca1,hfa0,hfa1⟩ := QIv.box2 BKa.out
 obtain ⟨hcb0,hfb0⟩ := QIv.box1 BKb.out
 obtain ⟨hcv0,hcv1,hfv0,hfv1⟩ := QIv.box2 BKv.out
 obtain ⟨hcx0,hcx1,hfx0,hfx1⟩ := QIv.box2 BKx.out
 obtain ⟨hcy0,hfy0⟩ := QIv.box1 BKy.out
 obtain ⟨hcg0,hcg1,hfg0,hfg1⟩ := QIv.box2 BKg.out
 obtain ⟨hch0,hch1,hfh0,hfh1⟩ := QIv.box2 BKh.out
 go_upto_region 34 with (first
  | (go_at_call 14; (with_reducible refine (laws_eqRel.calls k gr _ _ gs gr _ _ gs true _ OH.out.C OH.out.le OW.out.C OW.out.le F5.out).mono ?_); rintro e w30 ⟨rfl,hb⟩; (repeat first | clear hca0 | clear hca1 | clear hcb0 | clear hcv0 | clear hcv1 | clear hcx0 | clear hcx1 | clear hcy0 | clear hcg0 | clear hcg1 | clear hch0 | clear hch1 | clear hfa0 | clear hfa1 | clear hfb0 | clear hfv0 | clear hfv1 | clear hfx0 | clear hfx1 | clear hfy0 | clear hfg0 | clear hfg1 | clear hfh0 | clear hfh1); replace OW := y0.mk (OW.out.below hb); replace OG := y0.mk (OG.out.below hb); replace OH := y0.mk (OH.out.below hb); replace LW := y0.mk (Nat.le_trans LW.out hb.size); replace LG := y0.mk (Nat.le_trans LG.out hb.size); replace LH := y0.mk (Nat.le_trans LH.out hb.size); replace BKa := y0.mk (y8 (g := ga) (o := (.cells #[.int .i64 a,.slice A0 l0.length c0] 24 (0,0))) BKa.out hb); replace BKb := y0.mk (y8 (g := gb) (o := (.cells #[.slice A1 l1.length c1] 27 (0,0))) BKb.out hb); replace BKv := y0.mk (y8 (g := gv) (o := (.cells #[.int .i64 gr,.slice AW gs.length cW] 32 (0,0))) BKv.out hb); replace BKx := y0.mk (y8 (g := gx) (o := (.cells #[.int .i64 ar,.slice AX xs.length cX] 32 (0,0))) BKx.out hb); replace BKy := y0.mk (y8 (g := gy) (o := (.cells #[.slice AY ys.length cY] 36 (0,0))) BKy.out hb); replace BKg := y0.mk (y8 (g := gg) (o := (.cells #[.int .i64 gr,.slice AG gs.length cG] 32 (0,0))) BKg.out hb); replace BKh := y0.mk (y8 (g := gh) (o := (.cells #[.int .i64 gr,.slice AH gs.length cH] 32 (0,0))) BKh.out hb); replace HB := y0.mk (y6 HB.out hb); (try clear hb); obtain ⟨hca0,hca1,hfa0,hfa1⟩ := QIv.box2 BKa.out; obtain ⟨hcb0,hfb0⟩ := QIv.box1 BKb.out; obtain ⟨hcv0,hcv1,hfv0,hfv1⟩ := QIv.box2 BKv.out; obtain ⟨hcx0,hcx1,hfx0,hfx1⟩ := QIv.box2 BKx.out; obtain ⟨hcy0,hfy0⟩ := QIv.box1 BKy.out; obtain ⟨hcg0,hcg1,hfg0,hfg1⟩ := QIv.box2 BKg.out; obtain ⟨hch0,hch1,hfh0,hfh1⟩ := QIv.box2 BKh.out))
 go_wp2_with (first
  | (go_at_call 18; (with_reducible refine (HELD.out _ _ _ OG.out.C (by have h_ := QIv.OS.len OG.out; have := HGL.out; omega)).mono ?_); rintro e w31 ⟨rfl,hb⟩; (repeat first | clear hca0 | clear hca1 | clear hcb0 | clear hcv0 | clear hcv1 | clear hcx0 | clear hcx1 | clear hcy0 | clear hcg0 | clear hcg1 | clear hch0 | clear hch1 | clear hfa0 | clear hfa1 | clear hfb0 | clear hfv0 | clear hfv1 | clear hfx0 | clear hfx1 | clear hfy0 | clear hfg0 | clear hfg1 | clear hfh0 | clear hfh1); replace OW := y0.mk (OW.out.below hb); replace OG := y0.mk (OG.out.below hb); replace OH := y0.mk (OH.out.below hb); replace LW := y0.mk (Nat.le_trans LW.out hb.size); replace LG := y0.mk (Nat.le_trans LG.out hb.size); replace LH := y0.mk (Nat.le_trans LH.out hb.size); replace BKa := y0.mk (y8 (g := ga) (o := (.cells #[.int .i64 a,.slice A0 l0.length c0] 24 (0,0))) BKa.out hb); replace BKb := y0.mk (y8 (g := gb) (o := (.cells #[.slice A1 l1.length c1] 27 (0,0))) BKb.out hb); replace BKv := y0.mk (y8 (g := gv) (o := (.cells #[.int .i64 gr,.slice AW gs.length cW] 32 (0,0))) BKv.out hb); replace BKx := y0.mk (y8 (g := gx) (o := (.cells #[.int .i64 ar,.slice AX xs.length cX] 32 (0,0))) BKx.out hb); replace BKy := y0.mk (y8 (g := gy) (o := (.cells #[.slice AY ys.length cY] 36 (0,0))) BKy.out hb); replace BKg := y0.mk (y8 (g := gg) (o := (.cells #[.int .i64 gr,.slice AG gs.length cG] 32 (0,0))) BKg.out hb); replace BKh := y0.mk (y8 (g := gh) (o := (.cells #[.int .i64 gr,.slice AH gs.length cH] 32 (0,0))) BKh.out hb); replace HB := y0.mk (y6 HB.out hb); (try clear hb); obtain ⟨hca0,hca1,hfa0,hfa1⟩ := QIv.box2 BKa.out; obtain ⟨hcb0,hfb0⟩ := QIv.box1 BKb.out; obtain ⟨hcv0,hcv1,hfv0,hfv1⟩ := QIv.box2 BKv.out; obtain ⟨hcx0,hcx1,hfx0,hfx1⟩ := QIv.box2 BKx.out; obtain ⟨hcy0,hfy0⟩ := QIv.box1 BKy.out; obtain ⟨hcg0,hcg1,hfg0,hfg1⟩ := QIv.box2 BKg.out; obtain ⟨hch0,hch1,hfh0,hfh1⟩ := QIv.box2 BKh.out))
 go_ret
 exact ⟨by first | rfl | (simp [y13,y14] <;> rfl),HB.out⟩
/-- THE ONE PURE STATEMENT of laws_FnExactRelPut. -/
def laws_FnExactRelPut.Pure : Prop := ∀ (x0 : S24) (x1 : S27),okT24 x0 → okT27 x1 → ∃ k,laws_FnExactRelPut.Run k x0.f0 x0.f1 x1.f0
theorem laws_FnExactRelPut.walk (P : laws_FnExactRelPut.Pure) (x0 : S24) (x1 : S27) (A0_1 : Option Addr) (c0_1 : Nat) (A1_0 : Option Addr) (c1_0 : Nat) (w : World) (hr0_1 : Kd.C k27 w A0_1 x0.f1.length x0.f1) (hc0_1 : x0.f1.length ≤ c0_1) (hr1_0 : Kd.C Kd.string w A1_0 x1.f0.length x1.f0) (hc1_0 : x1.f0.length ≤ c1_0) (k0 : okT24 x0) (k1 : okT27 x1) (hT : Tb w) :
  Calls Tryz.prog 3 #[.agg #[.int .i64 x0.f0,.slice A0_1 x0.f1.length c0_1],.agg #[.slice A1_0 x1.f0.length c1_0]] w fun e w' => e = .returned (.bool true) ∧ Below w.heap.size w w' := by
 obtain ⟨k,h⟩ := P x0 x1 k0 k1
 refine (laws_FnExactRelPut.calls k x0.f0 A0_1 c0_1 x0.f1 A1_0 c1_0 x1.f0 w hr0_1 hc0_1 hr1_0 hc1_0 hT h).mono ?_
 rintro e w' ⟨rfl,hd⟩
 exact ⟨rfl,hd⟩
end Go.Proofs.YtkajecadkkgfmaaGreatDoor.Pe
end
