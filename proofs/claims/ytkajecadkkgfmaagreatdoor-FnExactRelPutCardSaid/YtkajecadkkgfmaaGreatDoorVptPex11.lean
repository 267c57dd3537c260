-- Cut by prune.py, a program of this session, out of the texts of this claim: Lean checks it.
import Derived.Test.YtkajecadkkgfmaaGreatDoorVptPex0
import Derived.Test.YtkajecadkkgfmaaGreatDoorVptPex5
import Derived.Test.YtkajecadkkgfmaaGreatDoorVptPex9
section
namespace Go.Proofs.YtkajecadkkgfmaaGreatDoor.Pe
open Go.RowKit Go.Proofs.YtkajecadkkgfmaaGreatDoorW.PrintWords Go.Proofs.YtkajecadkkgfmaaGreatDoorW.PrintLast Go.Proofs.YtkajecadkkgfmaaGreatDoorW.PrintMore
attribute [local go_sem] max2_int min2_int max_two min_two max_three min_three max_four min_four   -- for this text's walks alone
set_option linter.unusedVariables false
set_option linter.unusedSimpArgs false
mutual
def spec_l02Put.j1 : Nat → List (S36) → Int → List ByteArray → Option ((List (S36)) × Bool)
 | 0,_,_,_ => none
 | k + 1,x0,x6,x264000 => if x6 < (x0.length : Int) then (if 0 ≤ x6 then ((spec_l02Cmp.f k ((y21 x0 x6).f0) x264000).bind fun t267 => (if t267 = 0 then (some (x0,false)) else ((some (([] : List (S36)) : List (S36))).bind fun y268 => (if x6 ≤ (x0.length : Int) then ((some (x0.take (x6 : Int).toNat : List (S36))).bind fun y271 => (if y268.length + y271.length < 5864062014805 then ((some (y268 ++ y271 : List (S36))).bind fun y276 => ((spec_l02Tuple.f x264000).bind fun t279 => (if y276.length < 5864062014805 then ((some (y276 ++ [(⟨t279⟩ : S36)] : List (S36))).bind fun y282 => ((some (x0.drop (x6 : Int).toNat : List (S36))).bind fun y285 => (if y282.length + y285.length < 5864062014805 then (some ((y282 ++ y285),true)) else (none)))) else (none)))) else (none))) else (none))))) else (none)) else ((some (([] : List (S36)) : List (S36))).bind fun y293 => (if 0 ≤ x6 then (if x6 ≤ (x0.length : Int) then ((some (x0.take (x6 : Int).toNat : List (S36))).bind fun y296 => (if y293.length + y296.length < 5864062014805 then ((some (y293 ++ y296 : List (S36))).bind fun y301 => ((spec_l02Tuple.f x264000).bind fun t304 => (if y301.length < 5864062014805 then ((some (y301 ++ [(⟨t304⟩ : S36)] : List (S36))).bind fun y307 => ((some (x0.drop (x6 : Int).toNat : List (S36))).bind fun y310 => (if y307.length + y310.length < 5864062014805 then (some ((y307 ++ y310),true)) else (none)))) else (none)))) else (none))) else (none)) else (none)))
def spec_l02Put.l0 : Nat → List (S36) → Int → List ByteArray → Option ((List (S36)) × Bool)
 | 0,_,_,_ => none
 | k + 1,x0,x6,x264000 => if x6 < (x0.length : Int) then (if 0 ≤ x6 then ((spec_l02Cmp.f k ((y21 x0 x6).f0) x264000).bind fun t265 => (if t265 < 0 then (spec_l02Put.l0 k x0 (wrap64 (x6 + 1)) x264000) else (spec_l02Put.j1 k x0 x6 x264000))) else (none)) else (spec_l02Put.j1 k x0 x6 x264000)
end
def spec_l02Put.f (k : Nat) (l0 : List (S36)) (l1_0 : List ByteArray) : Option ((List (S36)) × Bool) := spec_l02Put.l0 k l0 0 l1_0
def spec_l02Put.T2 : Bool × List (List Nat × List Nat) := (true,[([],[]),([],[]),([1],[1]),([0,2],[0,2]),([3],[3]),([4],[4]),([4],[4]),([5,6,4],[4,5,6]),([7,4],[4,7]),([4],[4]),([8,9,4,4],[4,8,9]),([10,4],[4,10]),([4,11],[4,11])])
def spec_l02Put.B2 : List Nat := [0,0,2,7,15,31,31,127,255,31,1023,2047,4095]
theorem spec_l02Put.tab2 : rtab .any (opsOf Tryz.f37 2) = spec_l02Put.T2 := by kernel_rfl
theorem spec_l02Put.bits2 : waitsOk spec_l02Put.T2.2 spec_l02Put.B2 = true := by kernel_rfl
def spec_l02Put.T4 : Bool × List (List Nat × List Nat) := (true,[([],[]),([],[]),([1],[1]),([0,2],[0,2]),([3],[3]),([4],[4]),([4],[4]),([5,6,4],[4,5,6]),([7,4],[4,7]),([4],[4]),([8,9,4,4],[4,8,9]),([10,4],[4,10]),([4,11],[4,11])])
def spec_l02Put.B4 : List Nat := [0,0,2,7,15,31,31,127,255,31,1023,2047,4095]
theorem spec_l02Put.tab4 : rtab .any (opsOf Tryz.f37 4) = spec_l02Put.T4 := by kernel_rfl
theorem spec_l02Put.bits4 : waitsOk spec_l02Put.T4.2 spec_l02Put.B4 = true := by kernel_rfl
set_option maxHeartbeats 8000000 in
set_option maxRecDepth 100000 in
theorem spec_l02Put.calls (k : Nat) (P0_ : Nat → Prop) (A0 : Option Addr) (c0 : Nat) (l0 : List (S36)) (A1_0 : Option Addr) (c1_0 : Nat) (l1_0 : List ByteArray) (r1 : List (S36)) (r2 : Bool) (w : World) (hs0 : Kd.V k36 36 w w.heap.size (fun k_ => P0_ k_) (.slice A0 l0.length c0) l0) (hr1_0 : Kd.C Kd.string w A1_0 l1_0.length l1_0) (hc1_0 : l1_0.length ≤ c1_0) (h : spec_l02Put.f k l0 l1_0 = some (r1,r2)) :
  Calls Tryz.prog 37 #[.slice A0 l0.length c0,.agg #[.slice A1_0 l1_0.length c1_0]] w fun e w' => ∃ v0_ : Value,e = .returned (.tuple #[v0_,.bool r2]) ∧ Kd.V k36 36 w' w.heap.size (fun k_ => (P0_ k_ ∨ w.heap.size ≤ k_)) v0_ r1 ∧ Below w.heap.size w w' := by
 have hu36 := Tryz.underlying36
 have HO0 := y0.mk (show Kd.V k36 36 w w.heap.size (fun k_ => (P0_ k_ ∨ w.heap.size ≤ k_)) (.slice A0 l0.length c0) l0 from Kd.V_mono hs0 (fun k_ hk => .inl hk))
 have HR1_0 := y0.mk hr1_0
 have HC1_0 := y0.mk hc1_0
 clear hr1_0 hc1_0
 have HB := y0.mk (Below.refl w.heap.size w)
 have H : (spec_l02Put.l0 k l0 0 l1_0) = some (r1,r2) := h
 clear h
 have HC3 := y0.mk H
 clear H
 go_enter Tryz.func37,Tryz.ntmps37
 go_upto_block 0 with (first | ((with_reducible refine y16 (N := 3) rfl ?_); refine qe 3 #[.slice A1_0 l1_0.length c1_0] 36 ?_; intro gb263 hg w4 hbox hb; replace HO0 := y0.mk (Kd.V_below (Kd.V_elderB (qV HO0.out) gb263 (Nat.le_of_eq hg.symm)) hb); have BK263 := y0.mk (hbox); have GW263 := y0.mk (qg (w := w) hg); have GE263 := y0.mk (qg (w := w) hg); replace HB := y0.mk (y6 qb hb); clear hb hbox hg))
 (try simp only [Act.put,qS_,qZ_,qC_])
 go_cut [6] (fun v6 wc => ∃ (kq : Nat) (x6_2 : Int),v6 = .int .i64 x6_2 ∧ y0 (spec_l02Put.j1 kq l0 x6_2 l1_0 = some (r1,r2)) ∧ y0 (kq ≤ k) ∧ y0 (Kd.V k36 36 wc w.heap.size (fun k_ => (P0_ k_ ∨ w.heap.size ≤ k_) ∧ k_ ≠ gb263) (.slice A0 l0.length c0) l0) ∧ y0 (wc.heap[gb263]? = some (.cells #[(.slice A1_0 l1_0.length c1_0)] 36 (0,0))) ∧ y0 (Below w.heap.size w wc))
 case first =>
  have H := HC3.out
  clear HC3
  have H' := y0.mk H
  clear H
  go_wp2
  go_loopg [6] k (fun kq v6 w' => ∃ (x6_1 : Int),v6 = .int .i64 x6_1 ∧ y0 (spec_l02Put.l0 kq l0 x6_1 l1_0 = some (r1,r2)) ∧ y0 (kq ≤ k) ∧ y0 (Kd.V k36 36 w' w.heap.size (fun k_ => (P0_ k_ ∨ w.heap.size ≤ k_) ∧ k_ ≠ gb263) (.slice A0 l0.length c0) l0) ∧ y0 (w'.heap[gb263]? = some (.cells #[(.slice A1_0 l1_0.length c1_0)] 36 (0,0))) ∧ y0 (Below w.heap.size w w'))
  case atStart => exact ⟨(0),qy2,H',⟨Nat.le_refl _⟩,⟨qV HO0.out⟩,⟨qk BK263.out⟩,⟨qb⟩⟩
  case round =>
   clear H'
   obtain ⟨x6_1,rfl,HA,HK1,HO_0,BK263,HB⟩ := hrel
   cases gk with
   | zero => exact absurd HA.out (by simp [spec_l02Put.l0])
   | succ k1 =>
    have H := HA.out
    clear HA
    simp only [spec_l02Put.l0] at H
    by_cases c5 : x6_1 < (l0.length : Int)
    ·rw [if_pos c5] at H
     have c5b0 := decide_eq_true c5
     clear c5
     (first | rw [c5b0] | (simp only [y19,y18]; rw [c5b0]) | skip)
     obtain ⟨c6,H⟩ := qo H
     have c6b0 : decide (0 ≤ x6_1) = true := decide_eq_true c6
     clear c6
     obtain ⟨t265,A7,H⟩ := qB H
     by_cases c8 : t265 < 0
     ·rw [if_pos c8] at H
      have c8b0 := decide_eq_true c8
      clear c8
      have H' := y0.mk H
      clear H
      try go_wp2
      replace HO_0 := y0.mk (Kd.V_drew HO_0.out)
      replace BK263 := y0.mk (y10 BK263.out)
      replace HB := y0.mk (y4 HB.out)
      have p264 : 0 ≤ (x6_1 : Int) := of_decide_eq_true qy1
      have q264 : x6_1 < (l0.length : Int) := of_decide_eq_true qy1
      obtain ⟨ad264,A264_0,c264_0,e264,hx264_0,hl264_0,hi264_0⟩ := at_T36 (Kd.V_reads' HO_0.out).2.2 x6_1 p264 q264
      cases e264
      obtain ⟨ce264,hce264,hMe264,hcc264⟩ := Kd.V_get HO_0.out z36 x6_1 p264 (by first | exact q264 | exact of_decide_eq_true qy1 | (have e_ := (Kd.V_reads' HO_0.out).1; omega))
      obtain ⟨ua264_0,uc264_0,rfl,ul264_0,ge264_0⟩ := k36_openF hMe264
      have hv264_0 := hcc264 0 _ rfl
      rw [Nat.add_zero,show (k36).sz = 1 from rfl,Nat.mul_one] at hv264_0
      replace hv264_0 := Option.some.inj (hv264_0.symm.trans hx264_0)
      injection hv264_0 with hva_ hvn_ hvc_
      rw [hva_] at ge264_0
      rw [hvc_] at ul264_0
      have HL264_0 := y0.mk (show Kd.V Kd.string 9 _ w.heap.size _ _ ((y21 l0 x6_1).f0) from Kd.V_mk ul264_0 ge264_0)
      clear hva_ hvn_ hvc_ ge264_0 ul264_0
      clear hcc264 hce264
      have HR264_0 := y0.mk hi264_0
      have HC264_0 := y0.mk hl264_0
      clear hi264_0 hl264_0
      replace p264 := eq_true p264
      replace q264 := eq_true q264
      refine start_ (n := 13) (S := fun w' => w'.cell? ⟨gb263,0,none⟩ = some (.slice A1_0 l1_0.length c1_0) ∧ w'.cell? (ad264.add (x6_1).toNat) = some (.slice A264_0 ((y21 l0 x6_1).f0).length c264_0)) (ds := []) (fl_ 13 0) (by kernel_rfl) rfl rfl ⟨(y9 BK263.out 0).trans rfl,hx264_0⟩ (fun hHeld => ?_); refine with_tabW spec_l02Put.tab2 spec_l02Put.bits2 (fun HT_ HW_ => ?_)
      generalize wr.drew = w9 at HO_0 BK263 HB HL264_0 HR264_0 hx264_0 hHeld ⊢
      refine qp 0 8 (fl_ 13 1) ?_
      refine qp 1 9 (fl_ 13 3) ?_
      refine qp 2 10 (fl_ 13 7) ?_
      refine qp 3 11 (fl_ 13 15) ?_
      refine qp 4 12 (fl_ 13 31) ?_
      refine qp 5 13 (fl_ 13 63) ?_
      refine qp 6 14 (fl_ 13 127) ?_
      refine qp 7 15 (fl_ 13 255) ?_
      refine qt 8 16 (fl_ 13 511) hHeld ?_
      refine qt 9 17 (fl_ 13 1023) hHeld ?_
      refine one_ (i := 10) (N := some 18) (fl_ 13 2047) rfl rfl (one_of HT_.out (by kernel_rfl)) (by decide) (fun K hK => ?_)
      refine goes_ Tryz.func57 (by kernel_rfl) rfl #[.agg #[.slice A264_0 ((y21 l0 x6_1).f0).length c264_0],.agg #[.slice A1_0 l1_0.length c1_0]] (by rfl) rfl rfl qy0 ?_
      with_reducible refine (spec_l02Cmp.calls k1 _ _ ((y21 l0 x6_1).f0) _ _ l1_0 t265 _ (qc (by repeat (first | (with_reducible exact HR264_0.out) | (with_reducible refine Kd.C_alloc ?_ _) | (with_reducible refine Kd.C_drewN ?_ _) | (with_reducible refine Kd.C_drew ?_) | exact HR264_0.out))) HC264_0.out (qc (Kd.C_below HR1_0.out HB.out)) HC1_0.out A7.out).mono ?_
      rintro e w10 ⟨rfl,hb⟩
      have HS1_ := (hb.cell (World.block_lt_of_cell? _ _ (hHeld.2))).trans (hHeld.2)
      refine ⟨_,rfl, ?_⟩
      replace HO_0 := y0.mk (Kd.V_below (qV HO_0.out) hb)
      replace HL264_0 := y0.mk (Kd.V_below (qV HL264_0.out) hb)
      replace BK263 := y0.mk (qK BK263.out hb)
      replace HR264_0 := y0.mk (Kd.C_below (by repeat (first | (with_reducible exact HR264_0.out) | (with_reducible refine Kd.C_alloc ?_ _) | (with_reducible refine Kd.C_drewN ?_ _) | (with_reducible refine Kd.C_drew ?_) | exact HR264_0.out)) hb)
      replace HB := y0.mk (y6 qb hb)
      (try clear hb)
      (try clear hb2)
      (try clear hk)
      (try clear hi)
      refine hK.out _ _ ⟨(y9 BK263.out 0).trans rfl,HS1_⟩ (fun hHeld => ?_)
      clear hK K
      refine norm_ (a' := ?_) ?_ ?_
      rotate_left
      ·show Act.put _ (some 18) _ = _
       simp only [Act.put,qS_,qZ_,qC_,y19,y18]
       rfl
      refine qp 11 19 (fl_ 13 4095) ?_
      refine qp 12 20 (fl_ 13 8191) ?_
      refine done_ (done_of HT_.out (by kernel_rfl)) ?_
      try go_wp2
      go_roundg k1
      case measure => have := HK1.out; omega
      exact ⟨(wrap64 (x6_1 + 1)),qy2,H',⟨by have := HK1.out; omega⟩,⟨qV HO_0.out⟩,⟨qk BK263.out⟩,⟨qb⟩⟩
     ·rw [if_neg c8] at H
      have c8b0 := decide_eq_false c8
      clear c8
      have H' := y0.mk H
      clear H
      try go_wp2
      replace HO_0 := y0.mk (Kd.V_drew HO_0.out)
      replace BK263 := y0.mk (y10 BK263.out)
      replace HB := y0.mk (y4 HB.out)
      have p264 : 0 ≤ (x6_1 : Int) := of_decide_eq_true qy1
      have q264 : x6_1 < (l0.length : Int) := of_decide_eq_true qy1
      obtain ⟨ad264,A264_0,c264_0,e264,hx264_0,hl264_0,hi264_0⟩ := at_T36 (Kd.V_reads' HO_0.out).2.2 x6_1 p264 q264
      cases e264
      obtain ⟨ce264,hce264,hMe264,hcc264⟩ := Kd.V_get HO_0.out z36 x6_1 p264 (by first | exact q264 | exact of_decide_eq_true qy1 | (have e_ := (Kd.V_reads' HO_0.out).1; omega))
      obtain ⟨ua264_0,uc264_0,rfl,ul264_0,ge264_0⟩ := k36_openF hMe264
      have hv264_0 := hcc264 0 _ rfl
      rw [Nat.add_zero,show (k36).sz = 1 from rfl,Nat.mul_one] at hv264_0
      replace hv264_0 := Option.some.inj (hv264_0.symm.trans hx264_0)
      injection hv264_0 with hva_ hvn_ hvc_
      rw [hva_] at ge264_0
      rw [hvc_] at ul264_0
      have HL264_0 := y0.mk (show Kd.V Kd.string 9 _ w.heap.size _ _ ((y21 l0 x6_1).f0) from Kd.V_mk ul264_0 ge264_0)
      clear hva_ hvn_ hvc_ ge264_0 ul264_0
      clear hcc264 hce264
      have HR264_0 := y0.mk hi264_0
      have HC264_0 := y0.mk hl264_0
      clear hi264_0 hl264_0
      replace p264 := eq_true p264
      replace q264 := eq_true q264
      refine start_ (n := 13) (S := fun w' => w'.cell? ⟨gb263,0,none⟩ = some (.slice A1_0 l1_0.length c1_0) ∧ w'.cell? (ad264.add (x6_1).toNat) = some (.slice A264_0 ((y21 l0 x6_1).f0).length c264_0)) (ds := []) (fl_ 13 0) (by kernel_rfl) rfl rfl ⟨(y9 BK263.out 0).trans rfl,hx264_0⟩ (fun hHeld => ?_); refine with_tabW spec_l02Put.tab2 spec_l02Put.bits2 (fun HT_ HW_ => ?_)
      generalize wr.drew = w11 at HO_0 BK263 HB HL264_0 HR264_0 hx264_0 hHeld ⊢
      refine qp 0 8 (fl_ 13 1) ?_
      refine qp 1 9 (fl_ 13 3) ?_
      refine qp 2 10 (fl_ 13 7) ?_
      refine qp 3 11 (fl_ 13 15) ?_
      refine qp 4 12 (fl_ 13 31) ?_
      refine qp 5 13 (fl_ 13 63) ?_
      refine qp 6 14 (fl_ 13 127) ?_
      refine qp 7 15 (fl_ 13 255) ?_
      refine qt 8 16 (fl_ 13 511) hHeld ?_
      refine qt 9 17 (fl_ 13 1023) hHeld ?_
      refine one_ (i := 10) (N := some 18) (fl_ 13 2047) rfl rfl (one_of HT_.out (by kernel_rfl)) (by decide) (fun K hK => ?_)
      refine goes_ Tryz.func57 (by kernel_rfl) rfl #[.agg #[.slice A264_0 ((y21 l0 x6_1).f0).length c264_0],.agg #[.slice A1_0 l1_0.length c1_0]] (by rfl) rfl rfl qy0 ?_
      with_reducible refine (spec_l02Cmp.calls k1 _ _ ((y21 l0 x6_1).f0) _ _ l1_0 t265 _ (qc (by repeat (first | (with_reducible exact HR264_0.out) | (with_reducible refine Kd.C_alloc ?_ _) | (with_reducible refine Kd.C_drewN ?_ _) | (with_reducible refine Kd.C_drew ?_) | exact HR264_0.out))) HC264_0.out (qc (Kd.C_below HR1_0.out HB.out)) HC1_0.out A7.out).mono ?_
      rintro e w12 ⟨rfl,hb⟩
      have HS1_ := (hb.cell (World.block_lt_of_cell? _ _ (hHeld.2))).trans (hHeld.2)
      refine ⟨_,rfl, ?_⟩
      replace HO_0 := y0.mk (Kd.V_below (qV HO_0.out) hb)
      replace HL264_0 := y0.mk (Kd.V_below (qV HL264_0.out) hb)
      replace BK263 := y0.mk (qK BK263.out hb)
      replace HR264_0 := y0.mk (Kd.C_below (by repeat (first | (with_reducible exact HR264_0.out) | (with_reducible refine Kd.C_alloc ?_ _) | (with_reducible refine Kd.C_drewN ?_ _) | (with_reducible refine Kd.C_drew ?_) | exact HR264_0.out)) hb)
      replace HB := y0.mk (y6 qb hb)
      (try clear hb)
      (try clear hb2)
      (try clear hk)
      (try clear hi)
      refine hK.out _ _ ⟨(y9 BK263.out 0).trans rfl,HS1_⟩ (fun hHeld => ?_)
      clear hK K
      refine norm_ (a' := ?_) ?_ ?_
      rotate_left
      ·show Act.put _ (some 18) _ = _
       simp only [Act.put,qS_,qZ_,qC_,y19,y18]
       rfl
      refine qp 11 19 (fl_ 13 4095) ?_
      refine qp 12 20 (fl_ 13 8191) ?_
      refine done_ (done_of HT_.out (by kernel_rfl)) ?_
      try go_wp2
      go_meet
      exact ⟨_,(x6_1),qy2,H',⟨by have := HK1.out; first | omega | exact Nat.le_refl _⟩,⟨qV HO_0.out⟩,⟨qk BK263.out⟩,⟨qb⟩⟩
    ·rw [if_neg c5] at H
     have c5b0 := decide_eq_false c5
     clear c5
     (first | rw [c5b0] | (simp only [y19,y18]; rw [c5b0]) | skip)
     have H' := y0.mk H
     clear H
     try go_wp2
     replace HO_0 := y0.mk (Kd.V_drew HO_0.out)
     replace BK263 := y0.mk (y10 BK263.out)
     replace HB := y0.mk (y4 HB.out)
     refine start_ (n := 13) (S := fun w' => True) (ds := []) (fl_ 13 0) (by kernel_rfl) rfl rfl trivial (fun hHeld => ?_); refine with_tabW spec_l02Put.tab2 spec_l02Put.bits2 (fun HT_ HW_ => ?_)
     generalize wr.drew = w13 at HO_0 BK263 HB hHeld ⊢
     refine qp 0 8 (fl_ 13 1) ?_
     refine qp 1 9 (fl_ 13 3) ?_
     refine qp 2 10 (fl_ 13 7) ?_
     refine qp 3 11 (fl_ 13 15) ?_
     refine qp 4 12 (fl_ 13 31) ?_
     refine y20 (i := 5) (N := some 13) (v := undef) (a' := ?_) (fl_ 13 63) rfl rfl (y2 HT_.out (by kernel_rfl)) (fun _ _ _ h => h) (Or.inr ⟨by rfl,rfl⟩) ?_ ?_
     rotate_left
     ·simp only [Act.put,qS_,qZ_,qC_,y19,y18]
      rfl
     refine y20 (i := 6) (N := some 14) (v := undef) (a' := ?_) (fl_ 13 127) rfl rfl (y2 HT_.out (by kernel_rfl)) (fun _ _ _ h => h) (Or.inr ⟨by rfl,rfl⟩) ?_ ?_
     rotate_left
     ·simp only [Act.put,qS_,qZ_,qC_,y19,y18]
      rfl
     refine y20 (i := 7) (N := some 15) (v := undef) (a' := ?_) (fl_ 13 255) rfl rfl (y2 HT_.out (by kernel_rfl)) (fun _ _ _ h => h) (Or.inr ⟨by rfl,rfl⟩) ?_ ?_
     rotate_left
     ·simp only [Act.put,qS_,qZ_,qC_,y19,y18]
      rfl
     refine y20 (i := 8) (N := some 16) (v := undef) (a' := ?_) (fl_ 13 511) rfl rfl (y2 HT_.out (by kernel_rfl)) (fun _ _ _ h => h) (Or.inr ⟨by rfl,rfl⟩) ?_ ?_
     rotate_left
     ·simp only [Act.put,qS_,qZ_,qC_,y19,y18]
      rfl
     refine y20 (i := 9) (N := some 17) (v := undef) (a' := ?_) (fl_ 13 1023) rfl rfl (y2 HT_.out (by kernel_rfl)) (fun _ _ _ h => h) (Or.inr ⟨by rfl,rfl⟩) ?_ ?_
     rotate_left
     ·simp only [Act.put,qS_,qZ_,qC_,y19,y18]
      rfl
     refine y20 (i := 10) (N := some 18) (v := undef) (a' := ?_) (fl_ 13 2047) rfl rfl (y2 HT_.out (by kernel_rfl)) (fun _ _ _ h => h) (Or.inr ⟨by rfl,rfl⟩) ?_ ?_
     rotate_left
     ·simp only [Act.put,qS_,qZ_,qC_,y19,y18]
      rfl
     refine y20 (i := 11) (N := some 19) (v := undef) (a' := ?_) (fl_ 13 4095) rfl rfl (y2 HT_.out (by kernel_rfl)) (fun _ _ _ h => h) (Or.inr ⟨by rfl,rfl⟩) ?_ ?_
     rotate_left
     ·simp only [Act.put,qS_,qZ_,qC_,y19,y18]
      rfl
     refine qp 12 20 (fl_ 13 8191) ?_
     refine done_ (done_of HT_.out (by kernel_rfl)) ?_
     try go_wp2
     go_meet
     exact ⟨_,(x6_1),qy2,H',⟨by have := HK1.out; first | omega | exact Nat.le_refl _⟩,⟨qV HO_0.out⟩,⟨qk BK263.out⟩,⟨qb⟩⟩
 case rest =>
  clear HC3
  obtain ⟨kq,x6_2,rfl,HA,HJ2,HO_0,BK263,HB⟩ := hcut
  cases kq with
  | zero => exact absurd HA.out (by simp [spec_l02Put.j1])
  | succ kj2 =>
   have H := HA.out
   clear HA
   simp only [spec_l02Put.j1] at H
   by_cases c14 : x6_2 < (l0.length : Int)
   ·rw [if_pos c14] at H
    have c14b0 := decide_eq_true c14
    clear c14
    obtain ⟨c15,H⟩ := qo H
    have c15b0 : decide (0 ≤ x6_2) = true := decide_eq_true c15
    clear c15
    obtain ⟨t267,A16,H⟩ := qB H
    by_cases c17 : t267 = 0
    ·rw [if_pos c17] at H
     have c17b0 : (t267 == 0) = true := beq_iff_eq.mpr c17
     have c17b1 : (t267 != 0) = false := bne_eq_false_iff_eq.mpr c17
     clear c17
     simp only [Option.some.injEq,Prod.mk.injEq] at H
     obtain ⟨rfl,rfl⟩ := H
     try go_wp2
     replace HO_0 := y0.mk (Kd.V_drew HO_0.out)
     replace BK263 := y0.mk (y10 BK263.out)
     replace HB := y0.mk (y4 HB.out)
     have p266 : 0 ≤ (x6_2 : Int) := of_decide_eq_true qy1
     have q266 : x6_2 < (l0.length : Int) := of_decide_eq_true qy1
     obtain ⟨ad266,A266_0,c266_0,e266,hx266_0,hl266_0,hi266_0⟩ := at_T36 (Kd.V_reads' HO_0.out).2.2 x6_2 p266 q266
     cases e266
     obtain ⟨ce266,hce266,hMe266,hcc266⟩ := Kd.V_get HO_0.out z36 x6_2 p266 (by first | exact q266 | exact of_decide_eq_true qy1 | (have e_ := (Kd.V_reads' HO_0.out).1; omega))
     obtain ⟨ua266_0,uc266_0,rfl,ul266_0,ge266_0⟩ := k36_openF hMe266
     have hv266_0 := hcc266 0 _ rfl
     rw [Nat.add_zero,show (k36).sz = 1 from rfl,Nat.mul_one] at hv266_0
     replace hv266_0 := Option.some.inj (hv266_0.symm.trans hx266_0)
     injection hv266_0 with hva_ hvn_ hvc_
     rw [hva_] at ge266_0
     rw [hvc_] at ul266_0
     have HL266_0 := y0.mk (show Kd.V Kd.string 9 _ w.heap.size _ _ ((y21 l0 x6_2).f0) from Kd.V_mk ul266_0 ge266_0)
     clear hva_ hvn_ hvc_ ge266_0 ul266_0
     clear hcc266 hce266
     have HR266_0 := y0.mk hi266_0
     have HC266_0 := y0.mk hl266_0
     clear hi266_0 hl266_0
     replace p266 := eq_true p266
     replace q266 := eq_true q266
     refine start_ (n := 13) (S := fun w' => w'.cell? ⟨gb263,0,none⟩ = some (.slice A1_0 l1_0.length c1_0) ∧ w'.cell? (ad266.add (x6_2).toNat) = some (.slice A266_0 ((y21 l0 x6_2).f0).length c266_0)) (ds := []) (fl_ 13 0) (by kernel_rfl) rfl rfl ⟨(y9 BK263.out 0).trans rfl,hx266_0⟩ (fun hHeld => ?_); refine with_tabW spec_l02Put.tab4 spec_l02Put.bits4 (fun HT_ HW_ => ?_)
     generalize wc.drew = w18 at HO_0 BK263 HB HL266_0 HR266_0 hx266_0 hHeld ⊢
     refine qp 0 23 (fl_ 13 1) ?_
     refine qp 1 24 (fl_ 13 3) ?_
     refine qp 2 25 (fl_ 13 7) ?_
     refine qp 3 26 (fl_ 13 15) ?_
     refine qp 4 27 (fl_ 13 31) ?_
     refine qp 5 28 (fl_ 13 63) ?_
     refine qp 6 29 (fl_ 13 127) ?_
     refine qp 7 30 (fl_ 13 255) ?_
     refine qt 8 31 (fl_ 13 511) hHeld ?_
     refine qt 9 32 (fl_ 13 1023) hHeld ?_
     refine one_ (i := 10) (N := some 33) (fl_ 13 2047) rfl rfl (one_of HT_.out (by kernel_rfl)) (by decide) (fun K hK => ?_)
     refine goes_ Tryz.func57 (by kernel_rfl) rfl #[.agg #[.slice A266_0 ((y21 l0 x6_2).f0).length c266_0],.agg #[.slice A1_0 l1_0.length c1_0]] (by rfl) rfl rfl qy0 ?_
     with_reducible refine (spec_l02Cmp.calls kj2 _ _ ((y21 l0 x6_2).f0) _ _ l1_0 t267 _ (qc (by repeat (first | (with_reducible exact HR266_0.out) | (with_reducible refine Kd.C_alloc ?_ _) | (with_reducible refine Kd.C_drewN ?_ _) | (with_reducible refine Kd.C_drew ?_) | exact HR266_0.out))) HC266_0.out (qc (Kd.C_below HR1_0.out HB.out)) HC1_0.out A16.out).mono ?_
     rintro e w19 ⟨rfl,hb⟩
     have HS1_ := (hb.cell (World.block_lt_of_cell? _ _ (hHeld.2))).trans (hHeld.2)
     refine ⟨_,rfl, ?_⟩
     replace HO_0 := y0.mk (Kd.V_below (qV HO_0.out) hb)
     replace HL266_0 := y0.mk (Kd.V_below (qV HL266_0.out) hb)
     replace BK263 := y0.mk (qK BK263.out hb)
     replace HR266_0 := y0.mk (Kd.C_below (by repeat (first | (with_reducible exact HR266_0.out) | (with_reducible refine Kd.C_alloc ?_ _) | (with_reducible refine Kd.C_drewN ?_ _) | (with_reducible refine Kd.C_drew ?_) | exact HR266_0.out)) hb)
     replace HB := y0.mk (y6 qb hb)
     (try clear hb)
     (try clear hb2)
     (try clear hk)
     (try clear hi)
     refine hK.out _ _ ⟨(y9 BK263.out 0).trans rfl,HS1_⟩ (fun hHeld => ?_)
     clear hK K
     refine norm_ (a' := ?_) ?_ ?_
     rotate_left
     ·show Act.put _ (some 33) _ = _
      simp only [Act.put,qS_,qZ_,qC_,y19,y18]
      rfl
     refine qp 11 34 (fl_ 13 4095) ?_
     refine qp 12 35 (fl_ 13 8191) ?_
     refine done_ (done_of HT_.out (by kernel_rfl)) ?_
     try go_wp2
     go_ret2
     exact ⟨_,by first | rfl | (simp [y13,y14] <;> rfl) | (simp [*,y13,y14] <;> rfl),by (with_reducible repeat (first | apply Kd.V_alloc | apply Kd.V_drewN | apply Kd.V_drew)); exact Kd.V_mono HO_0.out (fun _ hk => hk.1),qb⟩
    ·rw [if_neg c17] at H
     have c17b0 : (t267 == 0) = false := beq_eq_false_iff_ne.mpr c17
     have c17b1 : (t267 != 0) = true := bne_iff_ne.mpr c17
     obtain ⟨y268,hy268⟩ : ∃ y_ : List (S36),y_ = (([] : List (S36))) := ⟨_,rfl⟩
     replace H : (if x6_2 ≤ (l0.length : Int) then ((some (l0.take (x6_2 : Int).toNat : List (S36))).bind fun y271 => (if y268.length + y271.length < 5864062014805 then ((some (y268 ++ y271 : List (S36))).bind fun y276 => ((spec_l02Tuple.f l1_0).bind fun t279 => (if y276.length < 5864062014805 then ((some (y276 ++ [(⟨t279⟩ : S36)] : List (S36))).bind fun y282 => ((some (l0.drop (x6_2 : Int).toNat : List (S36))).bind fun y285 => (if y282.length + y285.length < 5864062014805 then (some ((y282 ++ y285),true)) else (none)))) else (none)))) else (none))) else (none)) = some (r1,r2) := by first | (rw [hy268]; with_reducible exact H) | (have H2_ := (Option.bind_some _ _).symm.trans H; rw [hy268]; with_reducible exact H2_) | (have H2_ := (Option.bind_some _ _).symm.trans H; with_reducible exact H2_) | with_reducible exact H | (rw [hy268]; exact H) | exact H
     have Ny268 := y0.mk hy268
     clear hy268
     have c20b0 := eq_true (of_decide_eq_true qy1 : 0 ≤ x6_2)
     obtain ⟨c21,H⟩ := qo H
     have c21b0 := eq_true c21
     have c21b1 := decide_eq_true c21
     clear c21
     obtain ⟨y271,hy271⟩ : ∃ y_ : List (S36),y_ = (l0.take (x6_2 : Int).toNat) := ⟨_,rfl⟩
     replace H : (if y268.length + y271.length < 5864062014805 then ((some (y268 ++ y271 : List (S36))).bind fun y276 => ((spec_l02Tuple.f l1_0).bind fun t279 => (if y276.length < 5864062014805 then ((some (y276 ++ [(⟨t279⟩ : S36)] : List (S36))).bind fun y282 => ((some (l0.drop (x6_2 : Int).toNat : List (S36))).bind fun y285 => (if y282.length + y285.length < 5864062014805 then (some ((y282 ++ y285),true)) else (none)))) else (none)))) else (none)) = some (r1,r2) := by first | (rw [hy271]; with_reducible exact H) | (have H2_ := (Option.bind_some _ _).symm.trans H; rw [hy271]; with_reducible exact H2_) | (have H2_ := (Option.bind_some _ _).symm.trans H; with_reducible exact H2_) | with_reducible exact H | (rw [hy271]; exact H) | exact H
     have Ny271 := y0.mk hy271
     clear hy271
     obtain ⟨c22,H⟩ := qo H
     have LMc22 := y0.mk c22
     clear c22
     obtain ⟨y276,hy276⟩ : ∃ y_ : List (S36),y_ = (y268 ++ y271) := ⟨_,rfl⟩
     replace H : ((spec_l02Tuple.f l1_0).bind fun t279 => (if y276.length < 5864062014805 then ((some (y276 ++ [(⟨t279⟩ : S36)] : List (S36))).bind fun y282 => ((some (l0.drop (x6_2 : Int).toNat : List (S36))).bind fun y285 => (if y282.length + y285.length < 5864062014805 then (some ((y282 ++ y285),true)) else (none)))) else (none))) = some (r1,r2) := by first | (rw [hy276]; with_reducible exact H) | (have H2_ := (Option.bind_some _ _).symm.trans H; rw [hy276]; with_reducible exact H2_) | (have H2_ := (Option.bind_some _ _).symm.trans H; with_reducible exact H2_) | with_reducible exact H | (rw [hy276]; exact H) | exact H
     have Ny276 := y0.mk hy276
     clear hy276
     obtain ⟨t279,A23,H⟩ := qB H
     obtain ⟨c24,H⟩ := qo H
     have LMc24 := y0.mk c24
     clear c24
     obtain ⟨y282,hy282⟩ : ∃ y_ : List (S36),y_ = (y276 ++ [(⟨t279⟩ : S36)]) := ⟨_,rfl⟩
     replace H : ((some (l0.drop (x6_2 : Int).toNat : List (S36))).bind fun y285 => (if y282.length + y285.length < 5864062014805 then (some ((y282 ++ y285),true)) else (none))) = some (r1,r2) := by first | (rw [hy282]; with_reducible exact H) | (have H2_ := (Option.bind_some _ _).symm.trans H; rw [hy282]; with_reducible exact H2_) | (have H2_ := (Option.bind_some _ _).symm.trans H; with_reducible exact H2_) | with_reducible exact H | (rw [hy282]; exact H) | exact H
     have Ny282 := y0.mk hy282
     clear hy282
     have c25b0 := eq_true (of_decide_eq_true qy1 : 0 ≤ x6_2)
     have c26b0 := eq_true (of_decide_eq_true qy1 : x6_2 ≤ (l0.length : Int))
     obtain ⟨y285,hy285⟩ : ∃ y_ : List (S36),y_ = (l0.drop (x6_2 : Int).toNat) := ⟨_,rfl⟩
     replace H : (if y282.length + y285.length < 5864062014805 then (some ((y282 ++ y285),true)) else (none)) = some (r1,r2) := by first | (rw [hy285]; with_reducible exact H) | (have H2_ := (Option.bind_some _ _).symm.trans H; rw [hy285]; with_reducible exact H2_) | (have H2_ := (Option.bind_some _ _).symm.trans H; with_reducible exact H2_) | with_reducible exact H | (rw [hy285]; exact H) | exact H
     have Ny285 := y0.mk hy285
     clear hy285
     obtain ⟨c27,H⟩ := qo H
     have LMc27 := y0.mk c27
     clear c27
     obtain ⟨y290,hy290⟩ : ∃ y_ : List (S36),y_ = (y282 ++ y285) := ⟨_,rfl⟩
     replace H : (some (y290,true)) = some (r1,r2) := by first | (rw [hy290]; with_reducible exact H) | (have H2_ := (Option.bind_some _ _).symm.trans H; rw [hy290]; with_reducible exact H2_) | (have H2_ := (Option.bind_some _ _).symm.trans H; with_reducible exact H2_) | with_reducible exact H | (rw [hy290]; exact H) | exact H
     have Ny290 := y0.mk hy290
     clear hy290
     simp only [Option.some.injEq,Prod.mk.injEq] at H
     obtain ⟨rfl,rfl⟩ := H
     try go_wp2
     replace HO_0 := y0.mk (Kd.V_drew HO_0.out)
     replace BK263 := y0.mk (y10 BK263.out)
     replace HB := y0.mk (y4 HB.out)
     have p266 : 0 ≤ (x6_2 : Int) := of_decide_eq_true qy1
     have q266 : x6_2 < (l0.length : Int) := of_decide_eq_true qy1
     obtain ⟨ad266,A266_0,c266_0,e266,hx266_0,hl266_0,hi266_0⟩ := at_T36 (Kd.V_reads' HO_0.out).2.2 x6_2 p266 q266
     cases e266
     obtain ⟨ce266,hce266,hMe266,hcc266⟩ := Kd.V_get HO_0.out z36 x6_2 p266 (by first | exact q266 | exact of_decide_eq_true qy1 | (have e_ := (Kd.V_reads' HO_0.out).1; omega))
     obtain ⟨ua266_0,uc266_0,rfl,ul266_0,ge266_0⟩ := k36_openF hMe266
     have hv266_0 := hcc266 0 _ rfl
     rw [Nat.add_zero,show (k36).sz = 1 from rfl,Nat.mul_one] at hv266_0
     replace hv266_0 := Option.some.inj (hv266_0.symm.trans hx266_0)
     injection hv266_0 with hva_ hvn_ hvc_
     rw [hva_] at ge266_0
     rw [hvc_] at ul266_0
     have HL266_0 := y0.mk (show Kd.V Kd.string 9 _ w.heap.size _ _ ((y21 l0 x6_2).f0) from Kd.V_mk ul266_0 ge266_0)
     clear hva_ hvn_ hvc_ ge266_0 ul266_0
     clear hcc266 hce266
     have HR266_0 := y0.mk hi266_0
     have HC266_0 := y0.mk hl266_0
     clear hi266_0 hl266_0
     replace p266 := eq_true p266
     replace q266 := eq_true q266
     refine start_ (n := 13) (S := fun w' => w'.cell? ⟨gb263,0,none⟩ = some (.slice A1_0 l1_0.length c1_0) ∧ w'.cell? (ad266.add (x6_2).toNat) = some (.slice A266_0 ((y21 l0 x6_2).f0).length c266_0)) (ds := []) (fl_ 13 0) (by kernel_rfl) rfl rfl ⟨(y9 BK263.out 0).trans rfl,hx266_0⟩ (fun hHeld => ?_); refine with_tabW spec_l02Put.tab4 spec_l02Put.bits4 (fun HT_ HW_ => ?_)
     generalize wc.drew = w28 at HO_0 BK263 HB HL266_0 HR266_0 hx266_0 hHeld ⊢
     refine qp 0 23 (fl_ 13 1) ?_
     refine qp 1 24 (fl_ 13 3) ?_
     refine qp 2 25 (fl_ 13 7) ?_
     refine qp 3 26 (fl_ 13 15) ?_
     refine qp 4 27 (fl_ 13 31) ?_
     refine qp 5 28 (fl_ 13 63) ?_
     refine qp 6 29 (fl_ 13 127) ?_
     refine qp 7 30 (fl_ 13 255) ?_
     refine qt 8 31 (fl_ 13 511) hHeld ?_
     refine qt 9 32 (fl_ 13 1023) hHeld ?_
     refine one_ (i := 10) (N := some 33) (fl_ 13 2047) rfl rfl (one_of HT_.out (by kernel_rfl)) (by decide) (fun K hK => ?_)
     refine goes_ Tryz.func57 (by kernel_rfl) rfl #[.agg #[.slice A266_0 ((y21 l0 x6_2).f0).length c266_0],.agg #[.slice A1_0 l1_0.length c1_0]] (by rfl) rfl rfl qy0 ?_
     with_reducible refine (spec_l02Cmp.calls kj2 _ _ ((y21 l0 x6_2).f0) _ _ l1_0 t267 _ (qc (by repeat (first | (with_reducible exact HR266_0.out) | (with_reducible refine Kd.C_alloc ?_ _) | (with_reducible refine Kd.C_drewN ?_ _) | (with_reducible refine Kd.C_drew ?_) | exact HR266_0.out))) HC266_0.out (qc (Kd.C_below HR1_0.out HB.out)) HC1_0.out A16.out).mono ?_
     rintro e w29 ⟨rfl,hb⟩
     have HS1_ := (hb.cell (World.block_lt_of_cell? _ _ (hHeld.2))).trans (hHeld.2)
     refine ⟨_,rfl, ?_⟩
     replace HO_0 := y0.mk (Kd.V_below (qV HO_0.out) hb)
     replace HL266_0 := y0.mk (Kd.V_below (qV HL266_0.out) hb)
     replace BK263 := y0.mk (qK BK263.out hb)
     replace HR266_0 := y0.mk (Kd.C_below (by repeat (first | (with_reducible exact HR266_0.out) | (with_reducible refine Kd.C_alloc ?_ _) | (with_reducible refine Kd.C_drewN ?_ _) | (with_reducible refine Kd.C_drew ?_) | exact HR266_0.out)) hb)
     replace HB := y0.mk (y6 qb hb)
     (try clear hb)
     (try clear hb2)
     (try clear hk)
     (try clear hi)
     refine hK.out _ _ ⟨(y9 BK263.out 0).trans rfl,HS1_⟩ (fun hHeld => ?_)
     clear hK K
     refine norm_ (a' := ?_) ?_ ?_
     rotate_left
     ·show Act.put _ (some 33) _ = _
      simp only [Act.put,qS_,qZ_,qC_,y19,y18]
      rfl
     refine qp 11 34 (fl_ 13 4095) ?_
     refine qp 12 35 (fl_ 13 8191) ?_
     refine done_ (done_of HT_.out (by kernel_rfl)) ?_
     try go_wp2_with (first | ((with_reducible refine y16 (N := 37) rfl ?_); refine Kd.N_lit k36 _ 36 ?hg (N' := 37) ?hd (xs := ([] : List (S36))) (inner := []) (ok := (fun k_ => (P0_ k_ ∨ w.heap.size ≤ k_) ∧ k_ ≠ gb263)) (okp := (fun k_ => (P0_ k_ ∨ w.heap.size ≤ k_) ∧ k_ ≠ gb263)) ?hr ?hp (fun _ hk => hk) ((show ∀ k_,w29.heap.size ≤ k_ → (fun k_ => (P0_ k_ ∨ w.heap.size ≤ k_) ∧ k_ ≠ gb263) k_ from fun k_ hk => ⟨(.inr (Nat.le_trans (y5 qb) hk)),Kd.freshB (g := gb263) (o := .cells #[.slice A1_0 l1_0.length c1_0] 36 (0,0)) (qk BK263.out) k_ hk⟩) _ (Nat.le_refl _)) (Below.refl _ _) (Nat.le_refl _) (by simp) ?_; (case hd => rfl); (case hg => rfl); (case hr => first | (go_simp; done) | (go_simp; rfl)); (case hp => exact (Reps.none _ _)); intro v269 w30 ho31 hb hg_ hnew_; clear hg_ hnew_; (first | rw [← Ny268.out] at ho31 | (simp only [Int.reduceToNat] at ho31; rw [← Ny268.out] at ho31)); replace HO_0 := y0.mk (Kd.V_elder' (qV HO_0.out) (Kd.N_base ho31) hb); replace HL266_0 := y0.mk (Kd.V_elder' (qV HL266_0.out) (Kd.N_base ho31) hb); have HO270 := y0.mk (Kd.N_lower ho31 (y5 qb)); replace BK263 := y0.mk (qK BK263.out hb); replace HR266_0 := y0.mk (Kd.C_below (by repeat (first | (with_reducible exact HR266_0.out) | (with_reducible refine Kd.C_alloc ?_ _) | (with_reducible refine Kd.C_drewN ?_ _) | (with_reducible refine Kd.C_drew ?_) | exact HR266_0.out)) hb); replace HB := y0.mk (y6 qb hb); clear hb ho31; have q32 : (x6_2 : Int) ≤ ((l0.length : Int) : Int) := of_decide_eq_true qy1; obtain ⟨i032,hi032,_,hsz32,_⟩ := info_parts info36; have hroom32 : l0.length ≤ c0 := (Kd.V_reads' HO_0.out).2.1; have hC32 : Kd.F k36 _ _ (some ad266) l0.length l0 := (Kd.V_at (base := w.heap.size) HO_0.out).2.2; have hcut32 := cut_to (P := Tryz.prog) 30 36 .i64 Tryz.underlying30 hi032 (some ad266) l0.length c0 x6_2 (of_decide_eq_true qy1) q32 hroom32; have hr32 := Kd.F_take (m := (x6_2 : Int).toNat) hC32 (by omega); have hy32 : y271.length = (x6_2 : Int).toNat := (by rw [Ny271.out,qT_]; omega); rw [← Ny271.out] at hr32; rw [← hy32] at hcut32; have HO275 := y0.mk (show Kd.V k36 36 _ w.heap.size _ (.slice (some ad266) y271.length c0) y271 from Kd.V_mk (by omega) hr32); have HC275 := y0.mk (show y271.length ≤ c0 from by omega); clear hr32 hC32 hroom32 hi032 hsz32; have KY32 := y0.mk hy32; clear hy32; replace q32 := eq_true q32) | ((with_reducible refine gate_builtin (b := .append) (xs := #[.tmp 37,.tmp 40]) rfl ?_); at_builtin; refine Kd.N_append_rows k36 (w0 := w) w.heap.size rfl (.tmp 37) (.tmp 40) 30 36 (.agg #[(.slice none 0 0)]) 24 rfl Tryz.underlying30 info36 rfl (by decide) (by omega) v269 y268 y271 _ _ _ (fun k_ => (P0_ k_ ∨ w.heap.size ≤ k_) ∧ k_ ≠ gb263) (fun k_ => ((fun k_ => (P0_ k_ ∨ w.heap.size ≤ k_) ∧ k_ ≠ gb263)) k_ ∧ some k_ ≠ (v269 : Value).ownBlock) rfl rfl ?aO ?aR (fun _ hk => hk) ?aF ?aB ?aS ?aL ?_; (case aR => exact (by skip; exact Kd.V_F (Kd.V_mono (ok' := (fun k_ => ((fun k_ => (P0_ k_ ∨ w.heap.size ≤ k_) ∧ k_ ≠ gb263)) k_ ∧ some k_ ≠ (v269 : Value).ownBlock)) (HO275.out) (fun k_ hk => ⟨⟨hk.1.1,hk.1.2⟩,hk.2⟩)))); (case aB => exact qb); (case aF => exact (fun k_ hk => ⟨(.inr (Nat.le_trans (y5 qb) hk)),Kd.freshB (g := gb263) (o := .cells #[.slice A1_0 l1_0.length c1_0] 36 (0,0)) (qk BK263.out) k_ hk⟩)); (case aO => exact (qN HO270.out)); (case aS => exact (y5 qb)); (case aL => have := LMc22.out; omega); intro v277 w33 ho hb hg hat; rw [← Ny276.out] at ho; replace HO_0 := y0.mk (Kd.V_afterv (ok := (fun k_ => (P0_ k_ ∨ w.heap.size ≤ k_) ∧ k_ ≠ gb263)) (qV HO_0.out) hg hat); replace BK263 := y0.mk (blk_grown (qk BK263.out) hg (Kd.N_away HO270.out (fun _ hk => hk.2))); replace HL266_0 := y0.mk (Kd.V_afterv (ok := (fun k_ => (P0_ k_ ∨ w.heap.size ≤ k_) ∧ k_ ≠ gb263)) (qV HL266_0.out) hg hat); replace HO275 := y0.mk (Kd.V_afterv (ok := (fun k_ => (P0_ k_ ∨ w.heap.size ≤ k_) ∧ k_ ≠ gb263)) (qV HO275.out) hg hat); replace HB := y0.mk (hb); have HO278 := y0.mk (ho); clear HO270; clear ho hb hg hat; obtain ⟨hcz34_0,hfz34_0⟩ := qz1 BK263.out) | ((with_reducible refine y15 (f := 58) rfl ?_); refine y17 (some 44) rfl rfl Tryz.func58 (by kernel_rfl) rfl #[.agg #[.slice A1_0 l1_0.length c1_0]] rfl qy0 ?_; (with_reducible refine (spec_l02Tuple.calls _ _ l1_0 t279 _ (qc (Kd.C_below HR1_0.out HB.out)) HC1_0.out A23.out).mono ?_); rintro e w35 ⟨v280,rfl,ho0,hb⟩; refine ⟨_,rfl, ?_⟩; replace HO_0 := y0.mk (Kd.V_elder' (qV HO_0.out) (Kd.R_base ho0) hb); replace HL266_0 := y0.mk (Kd.V_elder' (qV HL266_0.out) (Kd.R_base ho0) hb); replace HO275 := y0.mk (Kd.V_elder' (qV HO275.out) (Kd.R_base ho0) hb); replace HO278 := y0.mk (Kd.N_elder' (qN HO278.out) (Kd.R_base ho0) hb); have HO281 := y0.mk (Kd.R_lower (Kd.R_newM (M := fun k_ => (w.heap.size ≤ k_)) ho0 (y5 qb) (fun k_ h_ => h_)) (y5 qb)); replace BK263 := y0.mk (qK BK263.out hb); replace HB := y0.mk (y6 qb hb); (try clear hb); (try clear hb2); (try clear hk); (try clear hi); (try clear ho0); obtain ⟨Ao37,co37,eo37⟩ := Kd.R_slice HO281.out; subst eo37) | ((with_reducible refine gate_builtin (b := .append) (xs := #[.tmp 42,.tmp 45]) rfl ?_); at_builtin; refine Kd.N_append k36 (w0 := w) w.heap.size rfl (.tmp 42) (.tmp 45) 30 36 (.agg #[(.slice none 0 0)]) 24 rfl Tryz.underlying30 info36 rfl (by decide) (by omega) v277 y276 (⟨t279⟩ : S36) [.slice Ao37 t279.length co37] (fun k_ => (P0_ k_ ∨ w.heap.size ≤ k_) ∧ k_ ≠ gb263) (fun k_ => ((fun k_ => (P0_ k_ ∨ w.heap.size ≤ k_) ∧ k_ ≠ gb263)) k_ ∧ some k_ ≠ (v277 : Value).ownBlock) rfl rfl ?aP (fun _ hk => hk) ?aF ?aO ?aB ?aS ?aL ?_; (case aP => exact (k36_mkF _ _ (⟨t279⟩ : S36) (Kd.R_reads' (Kd.R_mono (ok' := (fun k_ => ((fun k_ => (P0_ k_ ∨ w.heap.size ≤ k_) ∧ k_ ≠ gb263)) k_ ∧ some k_ ≠ (v277 : Value).ownBlock)) (Kd.R_types (Kd.R_apart' (HO281.out) (Kd.N_typed HO278.out) (by decide)) BK263.out (by decide)) (fun k_ hk => ⟨⟨(.inr (hk.1.1.1)),hk.2⟩,hk.1.2⟩))).2.1 (Kd.R_F (Kd.R_mono (ok' := (fun k_ => ((fun k_ => (P0_ k_ ∨ w.heap.size ≤ k_) ∧ k_ ≠ gb263)) k_ ∧ some k_ ≠ (v277 : Value).ownBlock)) (Kd.R_types (Kd.R_apart' (HO281.out) (Kd.N_typed HO278.out) (by decide)) BK263.out (by decide)) (fun k_ hk => ⟨⟨(.inr (hk.1.1.1)),hk.2⟩,hk.1.2⟩))))); (case aB => exact qb); (case aF => exact (fun k_ hk => ⟨(.inr (Nat.le_trans (y5 qb) hk)),Kd.freshB (g := gb263) (o := .cells #[.slice A1_0 l1_0.length c1_0] 36 (0,0)) (qk BK263.out) k_ hk⟩)); (case aO => exact (qN (Kd.N_mono HO278.out (fun _ hk => ⟨hk.1.1,hk.1.2⟩)))); (case aS => exact (y5 qb)); (case aL => have := LMc24.out; omega); intro v283 w36 ho hb hg hat; rw [← Ny282.out] at ho; replace HO_0 := y0.mk (Kd.V_afterv (ok := (fun k_ => (P0_ k_ ∨ w.heap.size ≤ k_) ∧ some k_ ≠ (.slice Ao37 t279.length co37 : Value).ownBlock ∧ k_ ≠ gb263)) (qV (Kd.V_mono HO_0.out (fun _ hk => ⟨⟨hk.1.1.1,⟨hk.2,hk.1.1.2⟩⟩,hk.1.2⟩))) hg hat); replace BK263 := y0.mk (blk_grown (qk BK263.out) hg (Kd.N_away HO278.out (fun _ hk => hk.1.2))); replace HL266_0 := y0.mk (Kd.V_afterv (ok := (fun k_ => (P0_ k_ ∨ w.heap.size ≤ k_) ∧ some k_ ≠ (.slice Ao37 t279.length co37 : Value).ownBlock ∧ k_ ≠ gb263)) (qV (Kd.V_mono HL266_0.out (fun _ hk => ⟨⟨hk.1.1.1,⟨hk.2,hk.1.1.2⟩⟩,hk.1.2⟩))) hg hat); replace HO275 := y0.mk (Kd.V_afterv (ok := (fun k_ => (P0_ k_ ∨ w.heap.size ≤ k_) ∧ some k_ ≠ (.slice Ao37 t279.length co37 : Value).ownBlock ∧ k_ ≠ gb263)) (qV (Kd.V_mono HO275.out (fun _ hk => ⟨⟨hk.1.1.1,⟨hk.2,hk.1.1.2⟩⟩,hk.1.2⟩))) hg hat); replace HB := y0.mk (hb); have HO284 := y0.mk (ho); clear HO278 HO281; clear ho hb hg hat; have q38 : (x6_2 : Int) ≤ ((l0.length : Int) : Int) := of_decide_eq_true qy1; obtain ⟨i038,hi038,_,hsz38,_⟩ := info_parts info36; have hroom38 : l0.length ≤ c0 := (Kd.V_reads' HO_0.out).2.1; have hC38 : Kd.F k36 _ _ (some ad266) l0.length l0 := (Kd.V_at (base := w.heap.size) HO_0.out).2.2; have q038 : (0 : Int) ≤ (x6_2 : Int) := of_decide_eq_true qy1; have hcut38 := cut_from (P := Tryz.prog) 30 36 .i64 Tryz.underlying30 hi038 1 hsz38 (some ad266) l0.length c0 x6_2 q038 q38; have hr38 := Kd.F_cut (m := (x6_2 : Int).toNat) (c := c0) hC38 (by omega) hroom38; obtain ⟨A38,hA38⟩ : ∃ A1,A1 = (if c0 = (x6_2 : Int).toNat then (some ad266) else ((some ad266) : Option Addr).map (·.add ((x6_2 : Int).toNat * 1))) := ⟨_,rfl⟩; obtain ⟨c38,hc38⟩ : ∃ c1,c1 = c0 - (x6_2 : Int).toNat := ⟨_,rfl⟩; have hy38 : y285.length = l0.length - (x6_2 : Int).toNat := (by rw [Ny285.out,qD_] <;> omega); rw [show (l0).drop (x6_2 : Int).toNat = y285 from Ny285.out.symm] at hr38; replace hr38 : Kd.F k36 _ _ A38 y285.length y285 := (by rw [hA38]; exact hr38); rw [← hy38,← hA38,← hc38] at hcut38; have HO289 := y0.mk (show Kd.V k36 36 _ w.heap.size _ (.slice A38 y285.length c38) y285 from Kd.V_mk (by rw [hy38,hc38]; exact Nat.sub_le_sub_right hroom38 _) hr38); have HC289 := y0.mk (show y285.length ≤ c38 from by rw [hy38,hc38]; exact Nat.sub_le_sub_right hroom38 _); clear hr38 hC38 hroom38 hi038 hsz38 hc38; have KY38 := y0.mk hy38; have KA38 := y0.mk hA38; clear hy38 hA38; replace q38 := eq_true q38) | ((with_reducible refine gate_builtin (b := .append) (xs := #[.tmp 47,.tmp 50]) rfl ?_); at_builtin; refine Kd.N_append_rows k36 (w0 := w) w.heap.size rfl (.tmp 47) (.tmp 50) 30 36 (.agg #[(.slice none 0 0)]) 24 rfl Tryz.underlying30 info36 rfl (by decide) (by omega) v283 y282 y285 _ _ _ (fun k_ => (P0_ k_ ∨ w.heap.size ≤ k_) ∧ k_ ≠ gb263) (fun k_ => ((fun k_ => (P0_ k_ ∨ w.heap.size ≤ k_) ∧ k_ ≠ gb263)) k_ ∧ some k_ ≠ (v283 : Value).ownBlock) rfl rfl ?aO ?aR (fun _ hk => hk) ?aF ?aB ?aS ?aL ?_; (case aR => exact (by skip; exact Kd.V_F (Kd.V_mono (ok' := (fun k_ => ((fun k_ => (P0_ k_ ∨ w.heap.size ≤ k_) ∧ k_ ≠ gb263)) k_ ∧ some k_ ≠ (v283 : Value).ownBlock)) (HO289.out) (fun k_ hk => ⟨⟨hk.1.1,hk.1.2.2⟩,hk.2⟩)))); (case aB => exact qb); (case aF => exact (fun k_ hk => ⟨(.inr (Nat.le_trans (y5 qb) hk)),Kd.freshB (g := gb263) (o := .cells #[.slice A1_0 l1_0.length c1_0] 36 (0,0)) (qk BK263.out) k_ hk⟩)); (case aO => exact (qN HO284.out)); (case aS => exact (y5 qb)); (case aL => have := LMc27.out; omega); intro v291 w39 ho hb hg hat; rw [← Ny290.out] at ho; replace HO_0 := y0.mk (Kd.V_afterv (ok := (fun k_ => (P0_ k_ ∨ w.heap.size ≤ k_) ∧ k_ ≠ gb263)) (qV (Kd.V_mono HO_0.out (fun _ hk => ⟨⟨hk.1.1,hk.1.2.2⟩,hk.2⟩))) hg hat); replace BK263 := y0.mk (blk_grown (qk BK263.out) hg (Kd.N_away HO284.out (fun _ hk => hk.2))); replace HL266_0 := y0.mk (Kd.V_afterv (ok := (fun k_ => (P0_ k_ ∨ w.heap.size ≤ k_) ∧ k_ ≠ gb263)) (qV (Kd.V_mono HL266_0.out (fun _ hk => ⟨⟨hk.1.1,hk.1.2.2⟩,hk.2⟩))) hg hat); replace HO275 := y0.mk (Kd.V_afterv (ok := (fun k_ => (P0_ k_ ∨ w.heap.size ≤ k_) ∧ k_ ≠ gb263)) (qV (Kd.V_mono HO275.out (fun _ hk => ⟨⟨hk.1.1,hk.1.2.2⟩,hk.2⟩))) hg hat); replace HO289 := y0.mk (Kd.V_afterv (ok := (fun k_ => (P0_ k_ ∨ w.heap.size ≤ k_) ∧ k_ ≠ gb263)) (qV (Kd.V_mono HO289.out (fun _ hk => ⟨⟨hk.1.1,hk.1.2.2⟩,hk.2⟩))) hg hat); replace HB := y0.mk (hb); have HO292 := y0.mk (ho); clear HO284; clear ho hb hg hat))
     go_ret2
     exact ⟨_,by first | rfl | (simp [y13,y14] <;> rfl) | (simp [*,y13,y14] <;> rfl),Kd.N_V (qN (Kd.N_mono HO292.out (fun _ hk => hk.1))),qb⟩
   ·rw [if_neg c14] at H
    have c14b0 := decide_eq_false c14
    clear c14
    obtain ⟨y293,hy293⟩ : ∃ y_ : List (S36),y_ = (([] : List (S36))) := ⟨_,rfl⟩
    replace H : (if 0 ≤ x6_2 then (if x6_2 ≤ (l0.length : Int) then ((some (l0.take (x6_2 : Int).toNat : List (S36))).bind fun y296 => (if y293.length + y296.length < 5864062014805 then ((some (y293 ++ y296 : List (S36))).bind fun y301 => ((spec_l02Tuple.f l1_0).bind fun t304 => (if y301.length < 5864062014805 then ((some (y301 ++ [(⟨t304⟩ : S36)] : List (S36))).bind fun y307 => ((some (l0.drop (x6_2 : Int).toNat : List (S36))).bind fun y310 => (if y307.length + y310.length < 5864062014805 then (some ((y307 ++ y310),true)) else (none)))) else (none)))) else (none))) else (none)) else (none)) = some (r1,r2) := by first | (rw [hy293]; with_reducible exact H) | (have H2_ := (Option.bind_some _ _).symm.trans H; rw [hy293]; with_reducible exact H2_) | (have H2_ := (Option.bind_some _ _).symm.trans H; with_reducible exact H2_) | with_reducible exact H | (rw [hy293]; exact H) | exact H
    have Ny293 := y0.mk hy293
    clear hy293
    obtain ⟨c40,H⟩ := qo H
    have c40b0 := eq_true c40
    have c40b1 := decide_eq_true c40
    clear c40
    obtain ⟨c41,H⟩ := qo H
    have c41b0 := eq_true c41
    have c41b1 := decide_eq_true c41
    clear c41
    obtain ⟨y296,hy296⟩ : ∃ y_ : List (S36),y_ = (l0.take (x6_2 : Int).toNat) := ⟨_,rfl⟩
    replace H : (if y293.length + y296.length < 5864062014805 then ((some (y293 ++ y296 : List (S36))).bind fun y301 => ((spec_l02Tuple.f l1_0).bind fun t304 => (if y301.length < 5864062014805 then ((some (y301 ++ [(⟨t304⟩ : S36)] : List (S36))).bind fun y307 => ((some (l0.drop (x6_2 : Int).toNat : List (S36))).bind fun y310 => (if y307.length + y310.length < 5864062014805 then (some ((y307 ++ y310),true)) else (none)))) else (none)))) else (none)) = some (r1,r2) := by first | (rw [hy296]; with_reducible exact H) | (have H2_ := (Option.bind_some _ _).symm.trans H; rw [hy296]; with_reducible exact H2_) | (have H2_ := (Option.bind_some _ _).symm.trans H; with_reducible exact H2_) | with_reducible exact H | (rw [hy296]; exact H) | exact H
    have Ny296 := y0.mk hy296
    clear hy296
    obtain ⟨c42,H⟩ := qo H
    have LMc42 := y0.mk c42
    clear c42
    obtain ⟨y301,hy301⟩ : ∃ y_ : List (S36),y_ = (y293 ++ y296) := ⟨_,rfl⟩
    replace H : ((spec_l02Tuple.f l1_0).bind fun t304 => (if y301.length < 5864062014805 then ((some (y301 ++ [(⟨t304⟩ : S36)] : List (S36))).bind fun y307 => ((some (l0.drop (x6_2 : Int).toNat : List (S36))).bind fun y310 => (if y307.length + y310.length < 5864062014805 then (some ((y307 ++ y310),true)) else (none)))) else (none))) = some (r1,r2) := by first | (rw [hy301]; with_reducible exact H) | (have H2_ := (Option.bind_some _ _).symm.trans H; rw [hy301]; with_reducible exact H2_) | (have H2_ := (Option.bind_some _ _).symm.trans H; with_reducible exact H2_) | with_reducible exact H | (rw [hy301]; exact H) | exact H
    have Ny301 := y0.mk hy301
    clear hy301
    obtain ⟨t304,A43,H⟩ := qB H
    obtain ⟨c44,H⟩ := qo H
    have LMc44 := y0.mk c44
    clear c44
    obtain ⟨y307,hy307⟩ : ∃ y_ : List (S36),y_ = (y301 ++ [(⟨t304⟩ : S36)]) := ⟨_,rfl⟩
    replace H : ((some (l0.drop (x6_2 : Int).toNat : List (S36))).bind fun y310 => (if y307.length + y310.length < 5864062014805 then (some ((y307 ++ y310),true)) else (none))) = some (r1,r2) := by first | (rw [hy307]; with_reducible exact H) | (have H2_ := (Option.bind_some _ _).symm.trans H; rw [hy307]; with_reducible exact H2_) | (have H2_ := (Option.bind_some _ _).symm.trans H; with_reducible exact H2_) | with_reducible exact H | (rw [hy307]; exact H) | exact H
    have Ny307 := y0.mk hy307
    clear hy307
    have c45b0 := eq_true (of_decide_eq_true qy1 : 0 ≤ x6_2)
    have c46b0 := eq_true (of_decide_eq_true qy1 : x6_2 ≤ (l0.length : Int))
    obtain ⟨y310,hy310⟩ : ∃ y_ : List (S36),y_ = (l0.drop (x6_2 : Int).toNat) := ⟨_,rfl⟩
    replace H : (if y307.length + y310.length < 5864062014805 then (some ((y307 ++ y310),true)) else (none)) = some (r1,r2) := by first | (rw [hy310]; with_reducible exact H) | (have H2_ := (Option.bind_some _ _).symm.trans H; rw [hy310]; with_reducible exact H2_) | (have H2_ := (Option.bind_some _ _).symm.trans H; with_reducible exact H2_) | with_reducible exact H | (rw [hy310]; exact H) | exact H
    have Ny310 := y0.mk hy310
    clear hy310
    obtain ⟨c47,H⟩ := qo H
    have LMc47 := y0.mk c47
    clear c47
    obtain ⟨y315,hy315⟩ : ∃ y_ : List (S36),y_ = (y307 ++ y310) := ⟨_,rfl⟩
    replace H : (some (y315,true)) = some (r1,r2) := by first | (rw [hy315]; with_reducible exact H) | (have H2_ := (Option.bind_some _ _).symm.trans H; rw [hy315]; with_reducible exact H2_) | (have H2_ := (Option.bind_some _ _).symm.trans H; with_reducible exact H2_) | with_reducible exact H | (rw [hy315]; exact H) | exact H
    have Ny315 := y0.mk hy315
    clear hy315
    simp only [Option.some.injEq,Prod.mk.injEq] at H
    obtain ⟨rfl,rfl⟩ := H
    try go_wp2
    replace HO_0 := y0.mk (Kd.V_drew HO_0.out)
    replace BK263 := y0.mk (y10 BK263.out)
    replace HB := y0.mk (y4 HB.out)
    refine start_ (n := 13) (S := fun w' => True) (ds := []) (fl_ 13 0) (by kernel_rfl) rfl rfl trivial (fun hHeld => ?_); refine with_tabW spec_l02Put.tab4 spec_l02Put.bits4 (fun HT_ HW_ => ?_)
    generalize wc.drew = w48 at HO_0 BK263 HB hHeld ⊢
    refine qp 0 23 (fl_ 13 1) ?_
    refine qp 1 24 (fl_ 13 3) ?_
    refine qp 2 25 (fl_ 13 7) ?_
    refine qp 3 26 (fl_ 13 15) ?_
    refine qp 4 27 (fl_ 13 31) ?_
    refine y20 (i := 5) (N := some 28) (v := undef) (a' := ?_) (fl_ 13 63) rfl rfl (y2 HT_.out (by kernel_rfl)) (fun _ _ _ h => h) (Or.inr ⟨by rfl,rfl⟩) ?_ ?_
    rotate_left
    ·simp only [Act.put,qS_,qZ_,qC_,y19,y18]
     rfl
    refine y20 (i := 6) (N := some 29) (v := undef) (a' := ?_) (fl_ 13 127) rfl rfl (y2 HT_.out (by kernel_rfl)) (fun _ _ _ h => h) (Or.inr ⟨by rfl,rfl⟩) ?_ ?_
    rotate_left
    ·simp only [Act.put,qS_,qZ_,qC_,y19,y18]
     rfl
    refine y20 (i := 7) (N := some 30) (v := undef) (a' := ?_) (fl_ 13 255) rfl rfl (y2 HT_.out (by kernel_rfl)) (fun _ _ _ h => h) (Or.inr ⟨by rfl,rfl⟩) ?_ ?_
    rotate_left
    ·simp only [Act.put,qS_,qZ_,qC_,y19,y18]
     rfl
    refine y20 (i := 8) (N := some 31) (v := undef) (a' := ?_) (fl_ 13 511) rfl rfl (y2 HT_.out (by kernel_rfl)) (fun _ _ _ h => h) (Or.inr ⟨by rfl,rfl⟩) ?_ ?_
    rotate_left
    ·simp only [Act.put,qS_,qZ_,qC_,y19,y18]
     rfl
    refine y20 (i := 9) (N := some 32) (v := undef) (a' := ?_) (fl_ 13 1023) rfl rfl (y2 HT_.out (by kernel_rfl)) (fun _ _ _ h => h) (Or.inr ⟨by rfl,rfl⟩) ?_ ?_
    rotate_left
    ·simp only [Act.put,qS_,qZ_,qC_,y19,y18]
     rfl
    refine y20 (i := 10) (N := some 33) (v := undef) (a' := ?_) (fl_ 13 2047) rfl rfl (y2 HT_.out (by kernel_rfl)) (fun _ _ _ h => h) (Or.inr ⟨by rfl,rfl⟩) ?_ ?_
    rotate_left
    ·simp only [Act.put,qS_,qZ_,qC_,y19,y18]
     rfl
    refine y20 (i := 11) (N := some 34) (v := undef) (a' := ?_) (fl_ 13 4095) rfl rfl (y2 HT_.out (by kernel_rfl)) (fun _ _ _ h => h) (Or.inr ⟨by rfl,rfl⟩) ?_ ?_
    rotate_left
    ·simp only [Act.put,qS_,qZ_,qC_,y19,y18]
     rfl
    refine qp 12 35 (fl_ 13 8191) ?_
    refine done_ (done_of HT_.out (by kernel_rfl)) ?_
    try go_wp2_with (first | ((with_reducible refine y16 (N := 37) rfl ?_); refine Kd.N_lit k36 _ 36 ?hg (N' := 37) ?hd (xs := ([] : List (S36))) (inner := []) (ok := (fun k_ => (P0_ k_ ∨ w.heap.size ≤ k_) ∧ k_ ≠ gb263)) (okp := (fun k_ => (P0_ k_ ∨ w.heap.size ≤ k_) ∧ k_ ≠ gb263)) ?hr ?hp (fun _ hk => hk) ((show ∀ k_,w48.heap.size ≤ k_ → (fun k_ => (P0_ k_ ∨ w.heap.size ≤ k_) ∧ k_ ≠ gb263) k_ from fun k_ hk => ⟨(.inr (Nat.le_trans (y5 qb) hk)),Kd.freshB (g := gb263) (o := .cells #[.slice A1_0 l1_0.length c1_0] 36 (0,0)) (qk BK263.out) k_ hk⟩) _ (Nat.le_refl _)) (Below.refl _ _) (Nat.le_refl _) (by simp) ?_; (case hd => rfl); (case hg => rfl); (case hr => first | (go_simp; done) | (go_simp; rfl)); (case hp => exact (Reps.none _ _)); intro v294 w49 ho50 hb hg_ hnew_; clear hg_ hnew_; (first | rw [← Ny293.out] at ho50 | (simp only [Int.reduceToNat] at ho50; rw [← Ny293.out] at ho50)); replace HO_0 := y0.mk (Kd.V_elder' (qV HO_0.out) (Kd.N_base ho50) hb); have HO295 := y0.mk (Kd.N_lower ho50 (y5 qb)); replace BK263 := y0.mk (qK BK263.out hb); replace HB := y0.mk (y6 qb hb); clear hb ho50; have q51 : (x6_2 : Int) ≤ ((l0.length : Int) : Int) := of_decide_eq_true qy1; obtain ⟨i051,hi051,_,hsz51,_⟩ := info_parts info36; have hroom51 : l0.length ≤ c0 := (Kd.V_reads' HO_0.out).2.1; have hC51 : Kd.F k36 _ _ A0 l0.length l0 := (Kd.V_at (base := w.heap.size) HO_0.out).2.2; have hcut51 := cut_to (P := Tryz.prog) 30 36 .i64 Tryz.underlying30 hi051 A0 l0.length c0 x6_2 (of_decide_eq_true qy1) q51 hroom51; have hr51 := Kd.F_take (m := (x6_2 : Int).toNat) hC51 (by omega); have hy51 : y296.length = (x6_2 : Int).toNat := (by rw [Ny296.out,qT_]; omega); rw [← Ny296.out] at hr51; rw [← hy51] at hcut51; have HO300 := y0.mk (show Kd.V k36 36 _ w.heap.size _ (.slice A0 y296.length c0) y296 from Kd.V_mk (by omega) hr51); have HC300 := y0.mk (show y296.length ≤ c0 from by omega); clear hr51 hC51 hroom51 hi051 hsz51; have KY51 := y0.mk hy51; clear hy51; replace q51 := eq_true q51) | ((with_reducible refine gate_builtin (b := .append) (xs := #[.tmp 37,.tmp 40]) rfl ?_); at_builtin; refine Kd.N_append_rows k36 (w0 := w) w.heap.size rfl (.tmp 37) (.tmp 40) 30 36 (.agg #[(.slice none 0 0)]) 24 rfl Tryz.underlying30 info36 rfl (by decide) (by omega) v294 y293 y296 _ _ _ (fun k_ => (P0_ k_ ∨ w.heap.size ≤ k_) ∧ k_ ≠ gb263) (fun k_ => ((fun k_ => (P0_ k_ ∨ w.heap.size ≤ k_) ∧ k_ ≠ gb263)) k_ ∧ some k_ ≠ (v294 : Value).ownBlock) rfl rfl ?aO ?aR (fun _ hk => hk) ?aF ?aB ?aS ?aL ?_; (case aR => exact (by skip; exact Kd.V_F (Kd.V_mono (ok' := (fun k_ => ((fun k_ => (P0_ k_ ∨ w.heap.size ≤ k_) ∧ k_ ≠ gb263)) k_ ∧ some k_ ≠ (v294 : Value).ownBlock)) (HO300.out) (fun k_ hk => ⟨⟨hk.1.1,hk.1.2⟩,hk.2⟩)))); (case aB => exact qb); (case aF => exact (fun k_ hk => ⟨(.inr (Nat.le_trans (y5 qb) hk)),Kd.freshB (g := gb263) (o := .cells #[.slice A1_0 l1_0.length c1_0] 36 (0,0)) (qk BK263.out) k_ hk⟩)); (case aO => exact (qN HO295.out)); (case aS => exact (y5 qb)); (case aL => have := LMc42.out; omega); intro v302 w52 ho hb hg hat; rw [← Ny301.out] at ho; replace HO_0 := y0.mk (Kd.V_afterv (ok := (fun k_ => (P0_ k_ ∨ w.heap.size ≤ k_) ∧ k_ ≠ gb263)) (qV HO_0.out) hg hat); replace BK263 := y0.mk (blk_grown (qk BK263.out) hg (Kd.N_away HO295.out (fun _ hk => hk.2))); replace HO300 := y0.mk (Kd.V_afterv (ok := (fun k_ => (P0_ k_ ∨ w.heap.size ≤ k_) ∧ k_ ≠ gb263)) (qV HO300.out) hg hat); replace HB := y0.mk (hb); have HO303 := y0.mk (ho); clear HO295; clear ho hb hg hat; obtain ⟨hcz53_0,hfz53_0⟩ := qz1 BK263.out) | ((with_reducible refine y15 (f := 58) rfl ?_); refine y17 (some 44) rfl rfl Tryz.func58 (by kernel_rfl) rfl #[.agg #[.slice A1_0 l1_0.length c1_0]] rfl qy0 ?_; (with_reducible refine (spec_l02Tuple.calls _ _ l1_0 t304 _ (qc (Kd.C_below HR1_0.out HB.out)) HC1_0.out A43.out).mono ?_); rintro e w54 ⟨v305,rfl,ho0,hb⟩; refine ⟨_,rfl, ?_⟩; replace HO_0 := y0.mk (Kd.V_elder' (qV HO_0.out) (Kd.R_base ho0) hb); replace HO300 := y0.mk (Kd.V_elder' (qV HO300.out) (Kd.R_base ho0) hb); replace HO303 := y0.mk (Kd.N_elder' (qN HO303.out) (Kd.R_base ho0) hb); have HO306 := y0.mk (Kd.R_lower (Kd.R_newM (M := fun k_ => (w.heap.size ≤ k_)) ho0 (y5 qb) (fun k_ h_ => h_)) (y5 qb)); replace BK263 := y0.mk (qK BK263.out hb); replace HB := y0.mk (y6 qb hb); (try clear hb); (try clear hb2); (try clear hk); (try clear hi); (try clear ho0); obtain ⟨Ao56,co56,eo56⟩ := Kd.R_slice HO306.out; subst eo56) | ((with_reducible refine gate_builtin (b := .append) (xs := #[.tmp 42,.tmp 45]) rfl ?_); at_builtin; refine Kd.N_append k36 (w0 := w) w.heap.size rfl (.tmp 42) (.tmp 45) 30 36 (.agg #[(.slice none 0 0)]) 24 rfl Tryz.underlying30 info36 rfl (by decide) (by omega) v302 y301 (⟨t304⟩ : S36) [.slice Ao56 t304.length co56] (fun k_ => (P0_ k_ ∨ w.heap.size ≤ k_) ∧ k_ ≠ gb263) (fun k_ => ((fun k_ => (P0_ k_ ∨ w.heap.size ≤ k_) ∧ k_ ≠ gb263)) k_ ∧ some k_ ≠ (v302 : Value).ownBlock) rfl rfl ?aP (fun _ hk => hk) ?aF ?aO ?aB ?aS ?aL ?_; (case aP => exact (k36_mkF _ _ (⟨t304⟩ : S36) (Kd.R_reads' (Kd.R_mono (ok' := (fun k_ => ((fun k_ => (P0_ k_ ∨ w.heap.size ≤ k_) ∧ k_ ≠ gb263)) k_ ∧ some k_ ≠ (v302 : Value).ownBlock)) (Kd.R_types (Kd.R_apart' (HO306.out) (Kd.N_typed HO303.out) (by decide)) BK263.out (by decide)) (fun k_ hk => ⟨⟨(.inr (hk.1.1.1)),hk.2⟩,hk.1.2⟩))).2.1 (Kd.R_F (Kd.R_mono (ok' := (fun k_ => ((fun k_ => (P0_ k_ ∨ w.heap.size ≤ k_) ∧ k_ ≠ gb263)) k_ ∧ some k_ ≠ (v302 : Value).ownBlock)) (Kd.R_types (Kd.R_apart' (HO306.out) (Kd.N_typed HO303.out) (by decide)) BK263.out (by decide)) (fun k_ hk => ⟨⟨(.inr (hk.1.1.1)),hk.2⟩,hk.1.2⟩))))); (case aB => exact qb); (case aF => exact (fun k_ hk => ⟨(.inr (Nat.le_trans (y5 qb) hk)),Kd.freshB (g := gb263) (o := .cells #[.slice A1_0 l1_0.length c1_0] 36 (0,0)) (qk BK263.out) k_ hk⟩)); (case aO => exact (qN (Kd.N_mono HO303.out (fun _ hk => ⟨hk.1.1,hk.1.2⟩)))); (case aS => exact (y5 qb)); (case aL => have := LMc44.out; omega); intro v308 w55 ho hb hg hat; rw [← Ny307.out] at ho; replace HO_0 := y0.mk (Kd.V_afterv (ok := (fun k_ => (P0_ k_ ∨ w.heap.size ≤ k_) ∧ some k_ ≠ (.slice Ao56 t304.length co56 : Value).ownBlock ∧ k_ ≠ gb263)) (qV (Kd.V_mono HO_0.out (fun _ hk => ⟨⟨hk.1.1.1,⟨hk.2,hk.1.1.2⟩⟩,hk.1.2⟩))) hg hat); replace BK263 := y0.mk (blk_grown (qk BK263.out) hg (Kd.N_away HO303.out (fun _ hk => hk.1.2))); replace HO300 := y0.mk (Kd.V_afterv (ok := (fun k_ => (P0_ k_ ∨ w.heap.size ≤ k_) ∧ some k_ ≠ (.slice Ao56 t304.length co56 : Value).ownBlock ∧ k_ ≠ gb263)) (qV (Kd.V_mono HO300.out (fun _ hk => ⟨⟨hk.1.1.1,⟨hk.2,hk.1.1.2⟩⟩,hk.1.2⟩))) hg hat); replace HB := y0.mk (hb); have HO309 := y0.mk (ho); clear HO303 HO306; clear ho hb hg hat; have q57 : (x6_2 : Int) ≤ ((l0.length : Int) : Int) := of_decide_eq_true qy1; obtain ⟨i057,hi057,_,hsz57,_⟩ := info_parts info36; have hroom57 : l0.length ≤ c0 := (Kd.V_reads' HO_0.out).2.1; have hC57 : Kd.F k36 _ _ A0 l0.length l0 := (Kd.V_at (base := w.heap.size) HO_0.out).2.2; have q057 : (0 : Int) ≤ (x6_2 : Int) := of_decide_eq_true qy1; have hcut57 := cut_from (P := Tryz.prog) 30 36 .i64 Tryz.underlying30 hi057 1 hsz57 A0 l0.length c0 x6_2 q057 q57; have hr57 := Kd.F_cut (m := (x6_2 : Int).toNat) (c := c0) hC57 (by omega) hroom57; obtain ⟨A57,hA57⟩ : ∃ A1,A1 = (if c0 = (x6_2 : Int).toNat then A0 else (A0 : Option Addr).map (·.add ((x6_2 : Int).toNat * 1))) := ⟨_,rfl⟩; obtain ⟨c57,hc57⟩ : ∃ c1,c1 = c0 - (x6_2 : Int).toNat := ⟨_,rfl⟩; have hy57 : y310.length = l0.length - (x6_2 : Int).toNat := (by rw [Ny310.out,qD_] <;> omega); rw [show (l0).drop (x6_2 : Int).toNat = y310 from Ny310.out.symm] at hr57; replace hr57 : Kd.F k36 _ _ A57 y310.length y310 := (by rw [hA57]; exact hr57); rw [← hy57,← hA57,← hc57] at hcut57; have HO314 := y0.mk (show Kd.V k36 36 _ w.heap.size _ (.slice A57 y310.length c57) y310 from Kd.V_mk (by rw [hy57,hc57]; exact Nat.sub_le_sub_right hroom57 _) hr57); have HC314 := y0.mk (show y310.length ≤ c57 from by rw [hy57,hc57]; exact Nat.sub_le_sub_right hroom57 _); clear hr57 hC57 hroom57 hi057 hsz57 hc57; have KY57 := y0.mk hy57; have KA57 := y0.mk hA57; clear hy57 hA57; replace q57 := eq_true q57) | ((with_reducible refine gate_builtin (b := .append) (xs := #[.tmp 47,.tmp 50]) rfl ?_); at_builtin; refine Kd.N_append_rows k36 (w0 := w) w.heap.size rfl (.tmp 47) (.tmp 50) 30 36 (.agg #[(.slice none 0 0)]) 24 rfl Tryz.underlying30 info36 rfl (by decide) (by omega) v308 y307 y310 _ _ _ (fun k_ => (P0_ k_ ∨ w.heap.size ≤ k_) ∧ k_ ≠ gb263) (fun k_ => ((fun k_ => (P0_ k_ ∨ w.heap.size ≤ k_) ∧ k_ ≠ gb263)) k_ ∧ some k_ ≠ (v308 : Value).ownBlock) rfl rfl ?aO ?aR (fun _ hk => hk) ?aF ?aB ?aS ?aL ?_; (case aR => exact (by skip; exact Kd.V_F (Kd.V_mono (ok' := (fun k_ => ((fun k_ => (P0_ k_ ∨ w.heap.size ≤ k_) ∧ k_ ≠ gb263)) k_ ∧ some k_ ≠ (v308 : Value).ownBlock)) (HO314.out) (fun k_ hk => ⟨⟨hk.1.1,hk.1.2.2⟩,hk.2⟩)))); (case aB => exact qb); (case aF => exact (fun k_ hk => ⟨(.inr (Nat.le_trans (y5 qb) hk)),Kd.freshB (g := gb263) (o := .cells #[.slice A1_0 l1_0.length c1_0] 36 (0,0)) (qk BK263.out) k_ hk⟩)); (case aO => exact (qN HO309.out)); (case aS => exact (y5 qb)); (case aL => have := LMc47.out; omega); intro v316 w58 ho hb hg hat; rw [← Ny315.out] at ho; replace HO_0 := y0.mk (Kd.V_afterv (ok := (fun k_ => (P0_ k_ ∨ w.heap.size ≤ k_) ∧ k_ ≠ gb263)) (qV (Kd.V_mono HO_0.out (fun _ hk => ⟨⟨hk.1.1,hk.1.2.2⟩,hk.2⟩))) hg hat); replace BK263 := y0.mk (blk_grown (qk BK263.out) hg (Kd.N_away HO309.out (fun _ hk => hk.2))); replace HO300 := y0.mk (Kd.V_afterv (ok := (fun k_ => (P0_ k_ ∨ w.heap.size ≤ k_) ∧ k_ ≠ gb263)) (qV (Kd.V_mono HO300.out (fun _ hk => ⟨⟨hk.1.1,hk.1.2.2⟩,hk.2⟩))) hg hat); replace HO314 := y0.mk (Kd.V_afterv (ok := (fun k_ => (P0_ k_ ∨ w.heap.size ≤ k_) ∧ k_ ≠ gb263)) (qV (Kd.V_mono HO314.out (fun _ hk => ⟨⟨hk.1.1,hk.1.2.2⟩,hk.2⟩))) hg hat); replace HB := y0.mk (hb); have HO317 := y0.mk (ho); clear HO309; clear ho hb hg hat))
    go_ret2
    exact ⟨_,by first | rfl | (simp [y13,y14] <;> rfl) | (simp [*,y13,y14] <;> rfl),Kd.N_V (qN (Kd.N_mono HO317.out (fun _ hk => hk.1))),qb⟩
end Go.Proofs.YtkajecadkkgfmaaGreatDoor.Pe
end
section
namespace Go.Proofs.YtkajecadkkgfmaaGreatDoor.Pe
open Go.RowKit Go.Proofs.YtkajecadkkgfmaaGreatDoorW.PrintWords Go.Proofs.YtkajecadkkgfmaaGreatDoorW.PrintLast Go.Proofs.YtkajecadkkgfmaaGreatDoorW.PrintMore
attribute [local go_sem] max2_int min2_int max_two min_two max_three min_three max_four min_four   -- for this text's walks alone
set_option linter.unusedVariables false
set_option linter.unusedSimpArgs false
def spec_RelPut.j0 : Nat → Bool → Int → List (S36) → List ByteArray → Option (Int × (List (S36)) × Bool)
 | 0,_,_,_,_ => none
 | k + 1,x24,x319000,x319001,x320000 => if x24 = true then (some (0,([] : List (S36)),false)) else ((spec_l02Copy.f k x319000 x319001).bind fun bt323 => ((spec_l02Put.f k bt323.2 x320000).bind fun bt328 => (if (bt328.1.length : Int) > 400 then (some (0,([] : List (S36)),false)) else (some (bt323.1,bt328.1,bt328.2)))))
def spec_RelPut.f (k : Nat) (a0_0 : Int) (l0_1 : List (S36)) (l1_0 : List ByteArray) : Option (Int × (List (S36)) × Bool) := (spec_RelOk.f k a0_0 l0_1).bind fun t321 => (if t321 = true then (if (l1_0.length : Int) = a0_0 then ((spec_TupleOk.f k l1_0).bind fun t322 => (spec_RelPut.j0 k (!t322) a0_0 l0_1 l1_0)) else (spec_RelPut.j0 k true a0_0 l0_1 l1_0)) else (spec_RelPut.j0 k true a0_0 l0_1 l1_0))
set_option maxHeartbeats 8000000 in
set_option maxRecDepth 100000 in
theorem spec_RelPut.calls (k : Nat) (a0_0 : Int) (A0_1 : Option Addr) (c0_1 : Nat) (l0_1 : List (S36)) (A1_0 : Option Addr) (c1_0 : Nat) (l1_0 : List ByteArray) (r1 : Int) (r2 : List (S36)) (r3 : Bool) (w : World) (hr0_1 : Kd.C k36 w A0_1 l0_1.length l0_1) (hc0_1 : l0_1.length ≤ c0_1) (hr1_0 : Kd.C Kd.string w A1_0 l1_0.length l1_0) (hc1_0 : l1_0.length ≤ c1_0) (h : spec_RelPut.f k a0_0 l0_1 l1_0 = some (r1,r2,r3)) :
  Calls Tryz.prog 10 #[.agg #[.int .i64 a0_0,.slice A0_1 l0_1.length c0_1],.agg #[.slice A1_0 l1_0.length c1_0]] w fun e w' => ∃ v1_ : Value,e = .returned (.tuple #[.agg #[.int .i64 r1,v1_],.bool r3]) ∧ Kd.V k36 36 w' w.heap.size (fun k_ => (w.heap.size ≤ k_)) v1_ r2 ∧ Below w.heap.size w w' := by
 have hu32 := Tryz.underlying32
 have hu36 := Tryz.underlying36
 have HR0_1 := y0.mk hr0_1
 have HC0_1 := y0.mk hc0_1
 clear hr0_1 hc0_1
 have HR1_0 := y0.mk hr1_0
 have HC1_0 := y0.mk hc1_0
 clear hr1_0 hc1_0
 have HB := y0.mk (Below.refl w.heap.size w)
 have H : ((spec_RelOk.f k a0_0 l0_1).bind fun t321 => (if t321 = true then (if (l1_0.length : Int) = a0_0 then ((spec_TupleOk.f k l1_0).bind fun t322 => (spec_RelPut.j0 k (!t322) a0_0 l0_1 l1_0)) else (spec_RelPut.j0 k true a0_0 l0_1 l1_0)) else (spec_RelPut.j0 k true a0_0 l0_1 l1_0))) = some (r1,r2,r3) := h
 clear h
 have HC3 := y0.mk H
 clear H
 go_enter Tryz.func10,Tryz.ntmps10
 go_upto_region 1 with (first | ((with_reducible refine y16 (N := 2) rfl ?_); (try (refine gate_guard (by rfl) ?_; dsimp only)); refine qe 2 #[.int .i64 a0_0,.slice A0_1 l0_1.length c0_1] 32 ?_; intro gb318 hg w4 hbox hb; have BK318 := y0.mk (hbox); have GW318 := y0.mk (qg (w := w) hg); have GE318 := y0.mk (qg (w := w) hg); replace HB := y0.mk (y6 qb hb); clear hb hbox hg) | ((with_reducible refine y16 (N := 3) rfl ?_); (try (refine gate_guard (by rfl) ?_; dsimp only)); refine qe 3 #[.slice A1_0 l1_0.length c1_0] 36 ?_; intro gb319 hg w5 hbox hb; have BK319 := y0.mk (hbox); have GW319 := y0.mk (qg (w := w) hg); have GE319 := y0.mk (qg (w := w) hg); replace HB := y0.mk (y6 qb hb); have NB318_319 := y0.mk (qn BK318.out hg); have NB319_318 := y0.mk (qm BK318.out hg); replace BK318 := y0.mk (qK BK318.out hb); clear hb hbox hg) | ((with_reducible refine y16 (N := 4) rfl ?_); (try (refine gate_guard (by rfl) ?_; dsimp only)); refine qe 4 #[.int .i64 0,.slice none 0 0] 32 ?_; intro gb320 hg w6 hbox hb; have BK320 := y0.mk (hbox); have GW320 := y0.mk (qg (w := w) hg); have GE320 := y0.mk (qg (w := w) hg); replace HB := y0.mk (y6 qb hb); have NB318_320 := y0.mk (qn BK318.out hg); have NB320_318 := y0.mk (qm BK318.out hg); replace BK318 := y0.mk (qK BK318.out hb); have NB319_320 := y0.mk (qn BK319.out hg); have NB320_319 := y0.mk (qm BK319.out hg); replace BK319 := y0.mk (qK BK319.out hb); clear hb hbox hg))
 (try simp only [Act.put,qS_,qZ_,qC_])
 go_cut [24] (fun v24 wc => ∃ (kq : Nat) (x24_2 : Bool),v24 = .bool x24_2 ∧ y0 (spec_RelPut.j0 kq x24_2 a0_0 l0_1 l1_0 = some (r1,r2,r3)) ∧ y0 (kq ≤ k) ∧ y0 (wc.heap[gb318]? = some (.cells #[.int .i64 a0_0,(.slice A0_1 l0_1.length c0_1)] 32 (0,0))) ∧ y0 (wc.heap[gb319]? = some (.cells #[(.slice A1_0 l1_0.length c1_0)] 36 (0,0))) ∧ y0 (wc.heap[gb320]? = some (.cells #[.int .i64 0,(.slice none 0 0)] 32 (0,0))) ∧ y0 (Below w.heap.size w wc))
 case first =>
  have H := HC3.out
  clear HC3
  obtain ⟨t321,A7,H⟩ := qB H
  by_cases c8 : t321 = true
  ·subst c8
   replace H := qT H
   by_cases c9 : (l1_0.length : Int) = a0_0
   ·rw [if_pos c9] at H
    have c9b0 : ((l1_0.length : Int) == a0_0) = true := beq_iff_eq.mpr c9
    have c9b1 : ((l1_0.length : Int) != a0_0) = false := bne_eq_false_iff_eq.mpr c9
    clear c9
    (first | rw [c9b0] | (simp only [y19,y18]; rw [c9b0]) | skip)
    obtain ⟨t322,A10,H⟩ := qB H
    have H' := y0.mk H
    clear H
    have hnb11 := NB318_319.out
    have hnc11 := NB319_318.out
    have hnb12 := NB318_320.out
    have hnc12 := NB320_318.out
    obtain ⟨hcz13_0,hcz13_1,hfz13_0,hfz13_1⟩ := qz2 BK318.out
    go_wp2_with (first | ((with_reducible refine y15 (f := 22) rfl ?_); refine y17 (some 10) rfl rfl Tryz.func22 (by kernel_rfl) rfl #[.agg #[.int .i64 a0_0,.slice A0_1 l0_1.length c0_1]] rfl qy0 ?_; (with_reducible refine (spec_RelOk.calls k a0_0 _ _ l0_1 true _ (qc (Kd.C_below HR0_1.out HB.out)) HC0_1.out A7.out).mono ?_); rintro e w14 ⟨rfl,hb⟩; refine ⟨_,rfl, ?_⟩; replace BK318 := y0.mk (qK BK318.out hb); replace BK319 := y0.mk (qK BK319.out hb); replace BK320 := y0.mk (qK BK320.out hb); replace HB := y0.mk (y6 qb hb); (try clear hb); (try clear hb2); (try clear hk); (try clear hi); have hnb15 := NB319_320.out; have hnc15 := NB320_319.out; obtain ⟨hcz16_0,hfz16_0⟩ := qz1 BK319.out; obtain ⟨hcz17_0,hcz17_1,hfz17_0,hfz17_1⟩ := qz2 BK318.out) | (go_at_call 35; (with_reducible refine (spec_TupleOk.calls k _ _ l1_0 t322 _ (qc (Kd.C_below HR1_0.out HB.out)) HC1_0.out A10.out).mono ?_); rintro e w18 ⟨rfl,hb⟩; replace BK318 := y0.mk (qK BK318.out hb); replace BK319 := y0.mk (qK BK319.out hb); replace BK320 := y0.mk (qK BK320.out hb); replace HB := y0.mk (y6 qb hb); (try clear hb); (try clear hb2); (try clear hk); (try clear hi)))
    go_meet
    exact ⟨_,(!t322),qy2,H',⟨by first | omega | exact Nat.le_refl _⟩,⟨qk BK318.out⟩,⟨qk BK319.out⟩,⟨qk BK320.out⟩,⟨qb⟩⟩
   ·rw [if_neg c9] at H
    have c9b0 : ((l1_0.length : Int) == a0_0) = false := beq_eq_false_iff_ne.mpr c9
    have c9b1 : ((l1_0.length : Int) != a0_0) = true := bne_iff_ne.mpr c9
    (first | rw [c9b0] | (simp only [y19,y18]; rw [c9b0]) | skip)
    have H' := y0.mk H
    clear H
    have hnb19 := NB318_319.out
    have hnc19 := NB319_318.out
    have hnb20 := NB318_320.out
    have hnc20 := NB320_318.out
    obtain ⟨hcz21_0,hcz21_1,hfz21_0,hfz21_1⟩ := qz2 BK318.out
    go_wp2_with (first | ((with_reducible refine y15 (f := 22) rfl ?_); refine y17 (some 10) rfl rfl Tryz.func22 (by kernel_rfl) rfl #[.agg #[.int .i64 a0_0,.slice A0_1 l0_1.length c0_1]] rfl qy0 ?_; (with_reducible refine (spec_RelOk.calls k a0_0 _ _ l0_1 true _ (qc (Kd.C_below HR0_1.out HB.out)) HC0_1.out A7.out).mono ?_); rintro e w22 ⟨rfl,hb⟩; refine ⟨_,rfl, ?_⟩; replace BK318 := y0.mk (qK BK318.out hb); replace BK319 := y0.mk (qK BK319.out hb); replace BK320 := y0.mk (qK BK320.out hb); replace HB := y0.mk (y6 qb hb); (try clear hb); (try clear hb2); (try clear hk); (try clear hi); have hnb23 := NB319_320.out; have hnc23 := NB320_319.out; obtain ⟨hcz24_0,hfz24_0⟩ := qz1 BK319.out; obtain ⟨hcz25_0,hcz25_1,hfz25_0,hfz25_1⟩ := qz2 BK318.out))
    go_meet
    exact ⟨_,(true),qy2,H',⟨by first | omega | exact Nat.le_refl _⟩,⟨qk BK318.out⟩,⟨qk BK319.out⟩,⟨qk BK320.out⟩,⟨qb⟩⟩
  ·replace c8 := Bool.eq_false_iff.mpr c8
   subst c8
   replace H := qF H
   have H' := y0.mk H
   clear H
   have hnb26 := NB318_319.out
   have hnc26 := NB319_318.out
   have hnb27 := NB318_320.out
   have hnc27 := NB320_318.out
   obtain ⟨hcz28_0,hcz28_1,hfz28_0,hfz28_1⟩ := qz2 BK318.out
   go_wp2_with (first | ((with_reducible refine y15 (f := 22) rfl ?_); refine y17 (some 10) rfl rfl Tryz.func22 (by kernel_rfl) rfl #[.agg #[.int .i64 a0_0,.slice A0_1 l0_1.length c0_1]] rfl qy0 ?_; (with_reducible refine (spec_RelOk.calls k a0_0 _ _ l0_1 false _ (qc (Kd.C_below HR0_1.out HB.out)) HC0_1.out A7.out).mono ?_); rintro e w29 ⟨rfl,hb⟩; refine ⟨_,rfl, ?_⟩; replace BK318 := y0.mk (qK BK318.out hb); replace BK319 := y0.mk (qK BK319.out hb); replace BK320 := y0.mk (qK BK320.out hb); replace HB := y0.mk (y6 qb hb); (try clear hb); (try clear hb2); (try clear hk); (try clear hi)))
   go_meet
   exact ⟨_,(true),qy2,H',⟨by first | omega | exact Nat.le_refl _⟩,⟨qk BK318.out⟩,⟨qk BK319.out⟩,⟨qk BK320.out⟩,⟨qb⟩⟩
 case rest =>
  clear HC3
  obtain ⟨kq,x24_2,rfl,HA,HJ2,BK318,BK319,BK320,HB⟩ := hcut
  cases kq with
  | zero => exact absurd HA.out (by simp [spec_RelPut.j0])
  | succ kj2 =>
   have H := HA.out
   clear HA
   simp only [spec_RelPut.j0] at H
   by_cases c30 : x24_2 = true
   ·subst c30
    replace H := qT H
    simp only [Option.some.injEq,Prod.mk.injEq] at H
    obtain ⟨rfl,rfl,rfl⟩ := H
    have hnb31 := NB320_318.out
    have hnc31 := NB318_320.out
    have hnb32 := NB320_319.out
    have hnc32 := NB319_320.out
    obtain ⟨hcz33_0,hcz33_1,hfz33_0,hfz33_1⟩ := qz2 BK320.out
    go_wp2
    refine bodyPost_ret (results_ct rfl _ _ gb320 32 #[.int .i64 0,.slice none 0 0] (0,0) _ rfl (by (with_reducible repeat (first | refine y11 ?_ _ | refine y10 ?_ | refine y7 ?_ _)); refine blk_put (cs := #[.int .i64 0,.slice none 0 0]) ?_ 1 _ rfl; (with_reducible repeat (first | refine y11 ?_ _ | refine y10 ?_ | refine y7 ?_ _)); refine blk_put (cs := #[.int .i64 0,.slice none 0 0]) ?_ 0 _ rfl; (with_reducible repeat (first | refine y11 ?_ _ | refine y10 ?_ | refine y7 ?_ _)); exact BK320.out) Tryz.underlying32 rfl (by kernel_rfl)) rfl ?_
    exact ⟨_,by first | rfl | (simp [y13,y14] <;> rfl) | (simp [*,y13,y14] <;> rfl),(Kd.V_nil _ _ _ _ _),qb⟩
   ·replace c30 := Bool.eq_false_iff.mpr c30
    subst c30
    replace H := qF H
    obtain ⟨⟨t323,t324⟩,A34,H⟩ := qB H
    replace H : ((spec_l02Put.f kj2 t324 l1_0).bind fun bt328 => (if (bt328.1.length : Int) > 400 then (some (0,([] : List (S36)),false)) else (some (t323,bt328.1,bt328.2)))) = some (r1,r2,r3) := H
    obtain ⟨⟨t328,t331⟩,A35,H⟩ := qB H
    replace H : (if (t328.length : Int) > 400 then (some (0,([] : List (S36)),false)) else (some (t323,t328,t331))) = some (r1,r2,r3) := H
    by_cases c36 : (t328.length : Int) > 400
    ·rw [if_pos c36] at H
     have c36b0 : decide (400 < (t328.length : Int)) = true := decide_eq_true c36
     have c36b1 : decide (400 < t328.length) = true := decide_eq_true (by omega)
     clear c36
     simp only [Option.some.injEq,Prod.mk.injEq] at H
     obtain ⟨rfl,rfl,rfl⟩ := H
     have hnb37 := NB318_319.out
     have hnc37 := NB319_318.out
     have hnb38 := NB318_320.out
     have hnc38 := NB320_318.out
     obtain ⟨hcz39_0,hcz39_1,hfz39_0,hfz39_1⟩ := qz2 BK318.out
     go_wp2_with (first | ((with_reducible refine y15 (f := 36) rfl ?_); refine y17 (some 27) rfl rfl Tryz.func36 (by kernel_rfl) rfl #[.agg #[.int .i64 a0_0,.slice A0_1 l0_1.length c0_1]] rfl qy0 ?_; (with_reducible refine (spec_l02Copy.calls kj2 a0_0 _ _ l0_1 t323 t324 _ (qc (Kd.C_below HR0_1.out HB.out)) HC0_1.out A34.out).mono ?_); rintro e w40 ⟨v325,rfl,ho0,hb⟩; refine ⟨_,rfl, ?_⟩; have HO326 := y0.mk (Kd.S_lower (Kd.S_newB (Kd.S_newM (M := fun k_ => (w.heap.size ≤ k_)) ho0 (y5 qb) (fun k_ h_ => h_)) (g := gb319) (o := .cells #[.slice A1_0 l1_0.length c1_0] 36 (0,0)) (qk BK319.out)) (y5 qb)); replace BK318 := y0.mk (qK BK318.out hb); replace BK319 := y0.mk (qK BK319.out hb); replace BK320 := y0.mk (qK BK320.out hb); replace HB := y0.mk (y6 qb hb); (try clear hb); (try clear hb2); (try clear hk); (try clear hi); (try clear ho0)) | ((with_reducible refine y16 (N := 6) rfl ?_); (try (refine gate_guard (by rfl) ?_; dsimp only)); refine qe 6 #[.int .i64 0,.slice none 0 0] 32 ?_; intro gb327 hg w41 hbox hb; replace HO326 := y0.mk (Kd.S_below (qS HO326.out) hb); have BK327 := y0.mk (hbox); have GW327 := y0.mk (qg (w := w) hg); have GE327 := y0.mk (qg (w := w) hg); replace HB := y0.mk (y6 qb hb); have NB318_327 := y0.mk (qn BK318.out hg); have NB327_318 := y0.mk (qm BK318.out hg); replace BK318 := y0.mk (qK BK318.out hb); have NB319_327 := y0.mk (qn BK319.out hg); have NB327_319 := y0.mk (qm BK319.out hg); replace BK319 := y0.mk (qK BK319.out hb); have NB320_327 := y0.mk (qn BK320.out hg); have NB327_320 := y0.mk (qm BK320.out hg); replace BK320 := y0.mk (qK BK320.out hb); clear hb hbox hg; have hnb42 := NB327_318.out; have hnc42 := NB318_327.out; have hnb43 := NB327_319.out; have hnc43 := NB319_327.out; have hnb44 := NB327_320.out; have hnc44 := NB320_327.out; obtain ⟨hcz45_0,hcz45_1,hfz45_0,hfz45_1⟩ := qz2 BK327.out; obtain ⟨Ao46,co46,eo46⟩ := Kd.S_slice HO326.out; subst eo46) | ((with_reducible refine gate_store (t := 32) (p := 6) rfl ?_); refine store_event (t := 32) (p := 6) (v := ?vo_w47) (w1 := ((w41.setCell ⟨gb327,0,none⟩ (.int .i64 t323)).setCell ⟨gb327,1,none⟩ (.slice Ao46 t324.length co46))) ?hg ?ho ?hn ?hr ?_; (case ho => rfl); (case hg => rfl); (case hn => rfl); (case hr => (first | (obtain ⟨_,_,eo_⟩ := Kd.R_slice HO326.out; subst eo_) | (obtain ⟨_,_,eo_⟩ := Kd.S_slice HO326.out; subst eo_) | (obtain ⟨_,_,eo_⟩ := Kd.N_slice HO326.out; subst eo_) | skip); first | (go_simp; done) | (go_simp; rfl)); intro w47 hw; have n0_ : y0 (Kd.S k36 36 w47 w.heap.size (fun k_ => (w.heap.size ≤ k_) ∧ k_ ≠ gb319) (.slice Ao46 t324.length co46) t324) := ⟨(by rw [hw]; exact (qS (Kd.S_mono (Kd.S_far (p := ⟨gb327,1,none⟩) (Kd.S_far (p := ⟨gb327,0,none⟩) (Kd.S_types HO326.out BK327.out (by decide)) (fun _ hk => hk.2) (.int .i64 t323)) (fun _ hk => hk.2) (.slice Ao46 t324.length co46)) (fun _ hk => ⟨hk.1.1.1,hk.1.2⟩))))⟩; have n1_ : y0 (w47.heap[gb318]? = some (.cells #[.int .i64 a0_0,.slice A0_1 l0_1.length c0_1] 32 (0,0))) := ⟨(by rw [hw]; exact (by (with_reducible repeat (first | refine y11 ?_ _ | refine y10 ?_ | refine y7 ?_ _)); refine y12 ?_ NB318_327.out _; (with_reducible repeat (first | refine y11 ?_ _ | refine y10 ?_ | refine y7 ?_ _)); refine y12 ?_ NB318_327.out _; (with_reducible repeat (first | refine y11 ?_ _ | refine y10 ?_ | refine y7 ?_ _)); exact BK318.out))⟩; have n2_ : y0 (w47.heap[gb319]? = some (.cells #[.slice A1_0 l1_0.length c1_0] 36 (0,0))) := ⟨(by rw [hw]; exact (by (with_reducible repeat (first | refine y11 ?_ _ | refine y10 ?_ | refine y7 ?_ _)); refine y12 ?_ NB319_327.out _; (with_reducible repeat (first | refine y11 ?_ _ | refine y10 ?_ | refine y7 ?_ _)); refine y12 ?_ NB319_327.out _; (with_reducible repeat (first | refine y11 ?_ _ | refine y10 ?_ | refine y7 ?_ _)); exact BK319.out))⟩; have n3_ : y0 (w47.heap[gb320]? = some (.cells #[.int .i64 0,.slice none 0 0] 32 (0,0))) := ⟨(by rw [hw]; exact (by (with_reducible repeat (first | refine y11 ?_ _ | refine y10 ?_ | refine y7 ?_ _)); refine y12 ?_ NB320_327.out _; (with_reducible repeat (first | refine y11 ?_ _ | refine y10 ?_ | refine y7 ?_ _)); refine y12 ?_ NB320_327.out _; (with_reducible repeat (first | refine y11 ?_ _ | refine y10 ?_ | refine y7 ?_ _)); exact BK320.out))⟩; have n4_ : y0 (w47.heap[gb327]? = some (.cells #[.int .i64 t323,.slice Ao46 t324.length co46] 32 (0,0))) := ⟨(by rw [hw]; exact (by (with_reducible repeat (first | refine y11 ?_ _ | refine y10 ?_ | refine y7 ?_ _)); refine blk_put (cs := #[.int .i64 t323,.slice none 0 0]) ?_ 1 _ rfl; (with_reducible repeat (first | refine y11 ?_ _ | refine y10 ?_ | refine y7 ?_ _)); refine blk_put (cs := #[.int .i64 0,.slice none 0 0]) ?_ 0 _ rfl; (with_reducible repeat (first | refine y11 ?_ _ | refine y10 ?_ | refine y7 ?_ _)); exact BK327.out))⟩; have n5_ : y0 (Below w.heap.size w w47) := ⟨(by rw [hw]; exact qb)⟩; clear hw; clear HO326; clear BK318; clear BK319; clear BK320; clear BK327; clear HB; have HO326 := n0_; have BK318 := n1_; have BK319 := n2_; have BK320 := n3_; have BK327 := n4_; have HB := n5_; clear n0_ n1_ n2_ n3_ n4_ n5_; obtain ⟨hcz48_0,hcz48_1,hfz48_0,hfz48_1⟩ := qz2 BK327.out; have hnb49 := NB319_320.out; have hnc49 := NB320_319.out; obtain ⟨hcz50_0,hfz50_0⟩ := qz1 BK319.out) | ((with_reducible refine y15 (f := 37) rfl ?_); refine y17 (some 32) rfl rfl Tryz.func37 (by kernel_rfl) rfl #[.slice Ao46 t324.length co46,.agg #[.slice A1_0 l1_0.length c1_0]] rfl qy0 ?_; (with_reducible refine (spec_l02Put.calls kj2 (fun k_ => (((((w.heap.size ≤ k_) ∧ k_ ≠ gb319) ∧ k_ ≠ gb318) ∧ k_ ≠ gb320) ∧ k_ ≠ gb327)) _ _ t324 _ _ l1_0 t328 t331 _ (by exact Kd.S_V (Kd.S_types (Kd.S_types (Kd.S_types (HO326.out) BK318.out (by decide)) BK320.out (by decide)) BK327.out (by decide))) (qc (Kd.C_below HR1_0.out HB.out)) HC1_0.out A35.out).mono ?_); rintro e w51 ⟨v329,rfl,ho0,hb⟩; refine ⟨_,rfl, ?_⟩; replace HO326 := y0.mk (Kd.S_below (qS HO326.out) hb); have HO330 := y0.mk (Kd.V_lower (Kd.V_mono (ok' := fun k_ => (w.heap.size ≤ k_) ∧ k_ ≠ gb318 ∧ k_ ≠ gb319 ∧ k_ ≠ gb320 ∧ k_ ≠ gb327) ho0 (fun k_ hk_ => ⟨Or.elim hk_ (fun hs_ => hs_.1.1.1.1) (fun hn_ => (Nat.le_trans (y5 qb) hn_)),Or.elim hk_ (fun hs_ => hs_.1.1.2) (fun hn_ => (Kd.freshB (g := gb318) (o := .cells #[.int .i64 a0_0,.slice A0_1 l0_1.length c0_1] 32 (0,0)) (qk BK318.out) k_ hn_)),Or.elim hk_ (fun hs_ => hs_.1.1.1.2) (fun hn_ => (Kd.freshB (g := gb319) (o := .cells #[.slice A1_0 l1_0.length c1_0] 36 (0,0)) (qk BK319.out) k_ hn_)),Or.elim hk_ (fun hs_ => hs_.1.2) (fun hn_ => (Kd.freshB (g := gb320) (o := .cells #[.int .i64 0,.slice none 0 0] 32 (0,0)) (qk BK320.out) k_ hn_)),Or.elim hk_ (fun hs_ => hs_.2) (fun hn_ => (Kd.freshB (g := gb327) (o := .cells #[.int .i64 t323,.slice Ao46 t324.length co46] 32 (0,0)) (qk BK327.out) k_ hn_))⟩)) (y5 qb)); replace BK318 := y0.mk (qK BK318.out hb); replace BK319 := y0.mk (qK BK319.out hb); replace BK320 := y0.mk (qK BK320.out hb); replace BK327 := y0.mk (qK BK327.out hb); replace HB := y0.mk (y6 qb hb); (try clear hb); (try clear hb2); (try clear hk); (try clear hi); (try clear ho0); obtain ⟨Ao52,co52,eo52⟩ := Kd.V_slice HO330.out; subst eo52; obtain ⟨hcz53_0,hcz53_1,hfz53_0,hfz53_1⟩ := qz2 BK320.out))
     refine bodyPost_ret (results_ct rfl _ _ gb320 32 #[.int .i64 0,.slice none 0 0] (0,0) _ rfl (by (with_reducible repeat (first | refine y11 ?_ _ | refine y10 ?_ | refine y7 ?_ _)); refine blk_put (cs := #[.int .i64 0,.slice none 0 0]) ?_ 1 _ rfl; (with_reducible repeat (first | refine y11 ?_ _ | refine y10 ?_ | refine y7 ?_ _)); refine blk_put (cs := #[.int .i64 0,.slice none 0 0]) ?_ 0 _ rfl; (with_reducible repeat (first | refine y11 ?_ _ | refine y10 ?_ | refine y7 ?_ _)); exact BK320.out) Tryz.underlying32 rfl (by kernel_rfl)) rfl ?_
     exact ⟨_,by first | rfl | (simp [y13,y14] <;> rfl) | (simp [*,y13,y14] <;> rfl),(Kd.V_nil _ _ _ _ _),qb⟩
    ·rw [if_neg c36] at H
     have c36b0 : decide (400 < (t328.length : Int)) = false := decide_eq_false c36
     have c36b1 : decide (400 < t328.length) = false := decide_eq_false (by omega)
     clear c36
     simp only [Option.some.injEq,Prod.mk.injEq] at H
     obtain ⟨rfl,rfl,rfl⟩ := H
     have hnb54 := NB318_319.out
     have hnc54 := NB319_318.out
     have hnb55 := NB318_320.out
     have hnc55 := NB320_318.out
     obtain ⟨hcz56_0,hcz56_1,hfz56_0,hfz56_1⟩ := qz2 BK318.out
     go_wp2_with (first | ((with_reducible refine y15 (f := 36) rfl ?_); refine y17 (some 27) rfl rfl Tryz.func36 (by kernel_rfl) rfl #[.agg #[.int .i64 a0_0,.slice A0_1 l0_1.length c0_1]] rfl qy0 ?_; (with_reducible refine (spec_l02Copy.calls kj2 a0_0 _ _ l0_1 t323 t324 _ (qc (Kd.C_below HR0_1.out HB.out)) HC0_1.out A34.out).mono ?_); rintro e w57 ⟨v325,rfl,ho0,hb⟩; refine ⟨_,rfl, ?_⟩; have HO326 := y0.mk (Kd.S_lower (Kd.S_newB (Kd.S_newM (M := fun k_ => (w.heap.size ≤ k_)) ho0 (y5 qb) (fun k_ h_ => h_)) (g := gb319) (o := .cells #[.slice A1_0 l1_0.length c1_0] 36 (0,0)) (qk BK319.out)) (y5 qb)); replace BK318 := y0.mk (qK BK318.out hb); replace BK319 := y0.mk (qK BK319.out hb); replace BK320 := y0.mk (qK BK320.out hb); replace HB := y0.mk (y6 qb hb); (try clear hb); (try clear hb2); (try clear hk); (try clear hi); (try clear ho0)) | ((with_reducible refine y16 (N := 6) rfl ?_); (try (refine gate_guard (by rfl) ?_; dsimp only)); refine qe 6 #[.int .i64 0,.slice none 0 0] 32 ?_; intro gb327 hg w58 hbox hb; replace HO326 := y0.mk (Kd.S_below (qS HO326.out) hb); have BK327 := y0.mk (hbox); have GW327 := y0.mk (qg (w := w) hg); have GE327 := y0.mk (qg (w := w) hg); replace HB := y0.mk (y6 qb hb); have NB318_327 := y0.mk (qn BK318.out hg); have NB327_318 := y0.mk (qm BK318.out hg); replace BK318 := y0.mk (qK BK318.out hb); have NB319_327 := y0.mk (qn BK319.out hg); have NB327_319 := y0.mk (qm BK319.out hg); replace BK319 := y0.mk (qK BK319.out hb); have NB320_327 := y0.mk (qn BK320.out hg); have NB327_320 := y0.mk (qm BK320.out hg); replace BK320 := y0.mk (qK BK320.out hb); clear hb hbox hg; have hnb59 := NB327_318.out; have hnc59 := NB318_327.out; have hnb60 := NB327_319.out; have hnc60 := NB319_327.out; have hnb61 := NB327_320.out; have hnc61 := NB320_327.out; obtain ⟨hcz62_0,hcz62_1,hfz62_0,hfz62_1⟩ := qz2 BK327.out; obtain ⟨Ao63,co63,eo63⟩ := Kd.S_slice HO326.out; subst eo63) | ((with_reducible refine gate_store (t := 32) (p := 6) rfl ?_); refine store_event (t := 32) (p := 6) (v := ?vo_w64) (w1 := ((w58.setCell ⟨gb327,0,none⟩ (.int .i64 t323)).setCell ⟨gb327,1,none⟩ (.slice Ao63 t324.length co63))) ?hg ?ho ?hn ?hr ?_; (case ho => rfl); (case hg => rfl); (case hn => rfl); (case hr => (first | (obtain ⟨_,_,eo_⟩ := Kd.R_slice HO326.out; subst eo_) | (obtain ⟨_,_,eo_⟩ := Kd.S_slice HO326.out; subst eo_) | (obtain ⟨_,_,eo_⟩ := Kd.N_slice HO326.out; subst eo_) | skip); first | (go_simp; done) | (go_simp; rfl)); intro w64 hw; have n0_ : y0 (Kd.S k36 36 w64 w.heap.size (fun k_ => (w.heap.size ≤ k_) ∧ k_ ≠ gb319) (.slice Ao63 t324.length co63) t324) := ⟨(by rw [hw]; exact (qS (Kd.S_mono (Kd.S_far (p := ⟨gb327,1,none⟩) (Kd.S_far (p := ⟨gb327,0,none⟩) (Kd.S_types HO326.out BK327.out (by decide)) (fun _ hk => hk.2) (.int .i64 t323)) (fun _ hk => hk.2) (.slice Ao63 t324.length co63)) (fun _ hk => ⟨hk.1.1.1,hk.1.2⟩))))⟩; have n1_ : y0 (w64.heap[gb318]? = some (.cells #[.int .i64 a0_0,.slice A0_1 l0_1.length c0_1] 32 (0,0))) := ⟨(by rw [hw]; exact (by (with_reducible repeat (first | refine y11 ?_ _ | refine y10 ?_ | refine y7 ?_ _)); refine y12 ?_ NB318_327.out _; (with_reducible repeat (first | refine y11 ?_ _ | refine y10 ?_ | refine y7 ?_ _)); refine y12 ?_ NB318_327.out _; (with_reducible repeat (first | refine y11 ?_ _ | refine y10 ?_ | refine y7 ?_ _)); exact BK318.out))⟩; have n2_ : y0 (w64.heap[gb319]? = some (.cells #[.slice A1_0 l1_0.length c1_0] 36 (0,0))) := ⟨(by rw [hw]; exact (by (with_reducible repeat (first | refine y11 ?_ _ | refine y10 ?_ | refine y7 ?_ _)); refine y12 ?_ NB319_327.out _; (with_reducible repeat (first | refine y11 ?_ _ | refine y10 ?_ | refine y7 ?_ _)); refine y12 ?_ NB319_327.out _; (with_reducible repeat (first | refine y11 ?_ _ | refine y10 ?_ | refine y7 ?_ _)); exact BK319.out))⟩; have n3_ : y0 (w64.heap[gb320]? = some (.cells #[.int .i64 0,.slice none 0 0] 32 (0,0))) := ⟨(by rw [hw]; exact (by (with_reducible repeat (first | refine y11 ?_ _ | refine y10 ?_ | refine y7 ?_ _)); refine y12 ?_ NB320_327.out _; (with_reducible repeat (first | refine y11 ?_ _ | refine y10 ?_ | refine y7 ?_ _)); refine y12 ?_ NB320_327.out _; (with_reducible repeat (first | refine y11 ?_ _ | refine y10 ?_ | refine y7 ?_ _)); exact BK320.out))⟩; have n4_ : y0 (w64.heap[gb327]? = some (.cells #[.int .i64 t323,.slice Ao63 t324.length co63] 32 (0,0))) := ⟨(by rw [hw]; exact (by (with_reducible repeat (first | refine y11 ?_ _ | refine y10 ?_ | refine y7 ?_ _)); refine blk_put (cs := #[.int .i64 t323,.slice none 0 0]) ?_ 1 _ rfl; (with_reducible repeat (first | refine y11 ?_ _ | refine y10 ?_ | refine y7 ?_ _)); refine blk_put (cs := #[.int .i64 0,.slice none 0 0]) ?_ 0 _ rfl; (with_reducible repeat (first | refine y11 ?_ _ | refine y10 ?_ | refine y7 ?_ _)); exact BK327.out))⟩; have n5_ : y0 (Below w.heap.size w w64) := ⟨(by rw [hw]; exact qb)⟩; clear hw; clear HO326; clear BK318; clear BK319; clear BK320; clear BK327; clear HB; have HO326 := n0_; have BK318 := n1_; have BK319 := n2_; have BK320 := n3_; have BK327 := n4_; have HB := n5_; clear n0_ n1_ n2_ n3_ n4_ n5_; obtain ⟨hcz65_0,hcz65_1,hfz65_0,hfz65_1⟩ := qz2 BK327.out; have hnb66 := NB319_320.out; have hnc66 := NB320_319.out; obtain ⟨hcz67_0,hfz67_0⟩ := qz1 BK319.out) | ((with_reducible refine y15 (f := 37) rfl ?_); refine y17 (some 32) rfl rfl Tryz.func37 (by kernel_rfl) rfl #[.slice Ao63 t324.length co63,.agg #[.slice A1_0 l1_0.length c1_0]] rfl qy0 ?_; (with_reducible refine (spec_l02Put.calls kj2 (fun k_ => (((((w.heap.size ≤ k_) ∧ k_ ≠ gb319) ∧ k_ ≠ gb318) ∧ k_ ≠ gb320) ∧ k_ ≠ gb327)) _ _ t324 _ _ l1_0 t328 t331 _ (by exact Kd.S_V (Kd.S_types (Kd.S_types (Kd.S_types (HO326.out) BK318.out (by decide)) BK320.out (by decide)) BK327.out (by decide))) (qc (Kd.C_below HR1_0.out HB.out)) HC1_0.out A35.out).mono ?_); rintro e w68 ⟨v329,rfl,ho0,hb⟩; refine ⟨_,rfl, ?_⟩; replace HO326 := y0.mk (Kd.S_below (qS HO326.out) hb); have HO330 := y0.mk (Kd.V_lower (Kd.V_mono (ok' := fun k_ => (w.heap.size ≤ k_) ∧ k_ ≠ gb318 ∧ k_ ≠ gb319 ∧ k_ ≠ gb320 ∧ k_ ≠ gb327) ho0 (fun k_ hk_ => ⟨Or.elim hk_ (fun hs_ => hs_.1.1.1.1) (fun hn_ => (Nat.le_trans (y5 qb) hn_)),Or.elim hk_ (fun hs_ => hs_.1.1.2) (fun hn_ => (Kd.freshB (g := gb318) (o := .cells #[.int .i64 a0_0,.slice A0_1 l0_1.length c0_1] 32 (0,0)) (qk BK318.out) k_ hn_)),Or.elim hk_ (fun hs_ => hs_.1.1.1.2) (fun hn_ => (Kd.freshB (g := gb319) (o := .cells #[.slice A1_0 l1_0.length c1_0] 36 (0,0)) (qk BK319.out) k_ hn_)),Or.elim hk_ (fun hs_ => hs_.1.2) (fun hn_ => (Kd.freshB (g := gb320) (o := .cells #[.int .i64 0,.slice none 0 0] 32 (0,0)) (qk BK320.out) k_ hn_)),Or.elim hk_ (fun hs_ => hs_.2) (fun hn_ => (Kd.freshB (g := gb327) (o := .cells #[.int .i64 t323,.slice Ao63 t324.length co63] 32 (0,0)) (qk BK327.out) k_ hn_))⟩)) (y5 qb)); replace BK318 := y0.mk (qK BK318.out hb); replace BK319 := y0.mk (qK BK319.out hb); replace BK320 := y0.mk (qK BK320.out hb); replace BK327 := y0.mk (qK BK327.out hb); replace HB := y0.mk (y6 qb hb); (try clear hb); (try clear hb2); (try clear hk); (try clear hi); (try clear ho0); obtain ⟨Ao69,co69,eo69⟩ := Kd.V_slice HO330.out; subst eo69; obtain ⟨hcz70_0,hcz70_1,hfz70_0,hfz70_1⟩ := qz2 BK327.out; obtain ⟨hcz71_0,hcz71_1,hfz71_0,hfz71_1⟩ := qz2 BK320.out))
     refine bodyPost_ret (results_ct rfl _ _ gb320 32 #[.int .i64 t323,.slice Ao69 t328.length co69] (0,0) _ rfl (by (with_reducible repeat (first | refine y11 ?_ _ | refine y10 ?_ | refine y7 ?_ _)); refine blk_put (cs := #[.int .i64 t323,.slice none 0 0]) ?_ 1 _ rfl; (with_reducible repeat (first | refine y11 ?_ _ | refine y10 ?_ | refine y7 ?_ _)); refine blk_put (cs := #[.int .i64 0,.slice none 0 0]) ?_ 0 _ rfl; (with_reducible repeat (first | refine y11 ?_ _ | refine y10 ?_ | refine y7 ?_ _)); refine y12 ?_ NB320_327.out _; (with_reducible repeat (first | refine y11 ?_ _ | refine y10 ?_ | refine y7 ?_ _)); exact BK320.out) Tryz.underlying32 rfl (by kernel_rfl)) rfl ?_
     exact ⟨_,by first | rfl | (simp [y13,y14] <;> rfl) | (simp [*,y13,y14] <;> rfl),by (with_reducible repeat (first | apply Kd.V_alloc | apply Kd.V_drewN | apply Kd.V_drew)); exact Kd.V_mono (Kd.V_far (p := ⟨gb320,1,none⟩) (Kd.V_far (p := ⟨gb320,0,none⟩) (Kd.V_far (p := ⟨gb327,1,none⟩) (Kd.V_mono (Kd.V_mono HO330.out (fun k_ hk => (⟨hk,hk.2.2.2.2⟩ : _ ∧ k_ ≠ gb327))) (fun k_ hk => (⟨hk,hk.1.2.2.2.1⟩ : _ ∧ k_ ≠ gb320))) (fun _ hk => hk.1.2) (.slice Ao69 t328.length co69)) (fun _ hk => hk.2) (.int .i64 t323)) (fun _ hk => hk.2) (.slice Ao69 t328.length co69)) (fun _ hk => hk.1.1.1),qb⟩
def impl_in.f (a0 : Int) (a1 : Int) (a2 : Int) : Option (Bool) := if a0 ≥ a1 then (some (decide (a0 ≤ a2))) else (some false)
set_option maxHeartbeats 8000000 in
set_option maxRecDepth 100000 in
theorem impl_in.calls (a0 : Int) (a1 : Int) (a2 : Int) (r : Bool) (w : World) (h : impl_in.f a0 a1 a2 = some r) :
  Calls Tryz.prog 69 #[.int .i64 a0,.int .i64 a1,.int .i64 a2] w fun e w' => e = .returned (.bool r) ∧ y1 w w' := by
 have H : (if a0 ≥ a1 then (some (decide (a0 ≤ a2))) else (some false)) = some r := h
 clear h
 by_cases c4 : a0 ≥ a1
 ·rw [if_pos c4] at H
  have c4b0 : decide (a1 ≤ a0) = true := decide_eq_true c4
  clear c4
  obtain rfl := Option.some.inj H
  go_enter Tryz.func69,Tryz.ntmps69
  go_wp2
  go_ret
  exact ⟨by first | rfl | (simp; done) | (simp [*]; done),by repeat (first | exact y1.refl _ | apply y1.step)⟩
 ·rw [if_neg c4] at H
  have c4b0 : decide (a1 ≤ a0) = false := decide_eq_false c4
  clear c4
  obtain rfl := Option.some.inj H
  go_enter Tryz.func69,Tryz.ntmps69
  go_wp2
  go_ret
  exact ⟨by first | rfl | (simp; done) | (simp [*]; done),by repeat (first | exact y1.refl _ | apply y1.step)⟩
mutual
def impl_symbolLong.l0 : Nat → ByteArray → Int → Option (Int)
 | 0,_,_ => none
 | k + 1,x0,x3 => if x3 < (x0.size : Int) then (impl_symbolLong.j1 k x0 x3 (decide (x3 ≤ 21))) else (impl_symbolLong.j1 k x0 x3 false)
def impl_symbolLong.j1 : Nat → ByteArray → Int → Bool → Option (Int)
 | 0,_,_,_ => none
 | k + 1,x0,x3,x11 => if x11 = true then (if 0 ≤ x3 then (if x3 < (x0.size : Int) then (if (bt x0 x3) = 34 then (some (wrap64 (x3 + 1))) else (if (bt x0 x3) < 32 then (some 0) else (if (bt x0 x3) > 126 then (some 0) else (if (bt x0 x3) = 92 then (some 0) else (impl_symbolLong.l0 k x0 (wrap64 (x3 + 1))))))) else (none)) else (none)) else (some 0)
end
def impl_symbolLong.f (k : Nat) (a0 : ByteArray) : Option (Int) := impl_symbolLong.l0 k a0 1
set_option maxHeartbeats 8000000 in
set_option maxRecDepth 100000 in
theorem impl_symbolLong.calls (k : Nat) (a0 : ByteArray) (r : Int) (w : World) (h : impl_symbolLong.f k a0 = some r) :
  Calls Tryz.prog 118 #[.string a0] w fun e w' => e = .returned (.int .i64 r) ∧ y1 w w' := by
 have H : (impl_symbolLong.l0 k a0 1) = some r := h
 clear h
 have H' := y0.mk H
 clear H
 go_enter Tryz.func118,Tryz.ntmps118
 go_wp2
 go_loopg [3] k (fun kq v3 w' => ∃ (x3_1 : Int),v3 = .int .i64 x3_1 ∧ y0 (impl_symbolLong.l0 kq a0 x3_1 = some r) ∧ y0 (kq ≤ k) ∧ y1 w w')
 case atStart => exact ⟨(1),qy2,H',⟨Nat.le_refl _⟩,by repeat (first | exact y1.refl _ | apply y1.step)⟩
 case round =>
  clear H'
  obtain ⟨x3_1,rfl,HA,HK1,⟨m1,rfl⟩⟩ := hrel
  cases gk with
  | zero => exact absurd HA.out (by simp [impl_symbolLong.l0])
  | succ k1 =>
   have H := HA.out
   clear HA
   simp only [impl_symbolLong.l0] at H
   have HC2 := y0.mk H
   clear H
   go_upto_region 2 with (fail)
   go_cut [11] (fun v11 wc => ∃ (kq : Nat) (x11_1 : Bool),v11 = .bool x11_1 ∧ y0 (impl_symbolLong.j1 kq a0 x3_1 x11_1 = some r) ∧ y0 (kq ≤ k1) ∧ y1 w wc)
   case first =>
    have H := HC2.out
    clear HC2
    by_cases c3 : x3_1 < (a0.size : Int)
    ·rw [if_pos c3] at H
     have c3b0 := decide_eq_true c3
     clear c3
     (first | rw [c3b0] | (simp only [y19,y18]; rw [c3b0]) | skip)
     have H' := y0.mk H
     clear H
     go_wp2
     go_meet
     exact ⟨_,(decide (x3_1 ≤ 21)),qy2,H',⟨by have := HK1.out; first | omega | exact Nat.le_refl _⟩,by repeat (first | exact y1.refl _ | apply y1.step)⟩
    ·rw [if_neg c3] at H
     have c3b0 := decide_eq_false c3
     clear c3
     (first | rw [c3b0] | (simp only [y19,y18]; rw [c3b0]) | skip)
     have H' := y0.mk H
     clear H
     go_wp2
     go_meet
     exact ⟨_,(false),qy2,H',⟨by have := HK1.out; first | omega | exact Nat.le_refl _⟩,by repeat (first | exact y1.refl _ | apply y1.step)⟩
   case rest =>
    clear HC2
    obtain ⟨kq,x11_1,rfl,HA,HJ1,⟨mc1,rfl⟩⟩ := hcut
    cases kq with
    | zero => exact absurd HA.out (by simp [impl_symbolLong.j1])
    | succ kj1 =>
     have H := HA.out
     clear HA
     simp only [impl_symbolLong.j1] at H
     by_cases c4 : x11_1 = true
     ·subst c4
      replace H := qT H
      obtain ⟨c5,H⟩ := qo H
      have c5b0 : decide (0 ≤ x3_1) = true := decide_eq_true c5
      clear c5
      obtain ⟨c6,H⟩ := qo H
      have c6b0 : decide (x3_1 < (a0.size : Int)) = true := decide_eq_true c6
      clear c6
      by_cases c8 : (bt a0 x3_1) = 34
      ·rw [if_pos c8] at H
       have c8b0 : ((bt a0 x3_1) == 34) = true := beq_iff_eq.mpr c8
       have c8b1 : ((bt a0 x3_1) != 34) = false := bne_eq_false_iff_eq.mpr c8
       clear c8
       obtain rfl := Option.some.inj H
       have p7 : 0 ≤ (x3_1 : Int) := of_decide_eq_true qy1
       have q7 : x3_1 < (a0.size : Int) := of_decide_eq_true qy1
       have hx7 := bt_at a0 x3_1
       replace p7 := eq_true p7
       replace q7 := eq_true q7
       go_wp2
       go_ret
       exact ⟨by first | rfl | (simp; done) | (simp [*]; done),by repeat (first | exact y1.refl _ | apply y1.step)⟩
      ·rw [if_neg c8] at H
       have c8b0 : ((bt a0 x3_1) == 34) = false := beq_eq_false_iff_ne.mpr c8
       have c8b1 : ((bt a0 x3_1) != 34) = true := bne_iff_ne.mpr c8
       by_cases c10 : (bt a0 x3_1) < 32
       ·rw [if_pos c10] at H
        have c10b0 := decide_eq_true c10
        clear c10
        obtain rfl := Option.some.inj H
        have p7 : 0 ≤ (x3_1 : Int) := of_decide_eq_true qy1
        have q7 : x3_1 < (a0.size : Int) := of_decide_eq_true qy1
        have hx7 := bt_at a0 x3_1
        replace p7 := eq_true p7
        replace q7 := eq_true q7
        have p9 : 0 ≤ (x3_1 : Int) := of_decide_eq_true qy1
        have q9 : x3_1 < (a0.size : Int) := of_decide_eq_true qy1
        have hx9 := bt_at a0 x3_1
        replace p9 := eq_true p9
        replace q9 := eq_true q9
        go_wp2
        go_ret
        exact ⟨by first | rfl | (simp; done) | (simp [*]; done),by repeat (first | exact y1.refl _ | apply y1.step)⟩
       ·rw [if_neg c10] at H
        have c10b0 := decide_eq_false c10
        clear c10
        by_cases c12 : (bt a0 x3_1) > 126
        ·rw [if_pos c12] at H
         have c12b0 : decide (126 < (bt a0 x3_1)) = true := decide_eq_true c12
         clear c12
         obtain rfl := Option.some.inj H
         have p7 : 0 ≤ (x3_1 : Int) := of_decide_eq_true qy1
         have q7 : x3_1 < (a0.size : Int) := of_decide_eq_true qy1
         have hx7 := bt_at a0 x3_1
         replace p7 := eq_true p7
         replace q7 := eq_true q7
         have p9 : 0 ≤ (x3_1 : Int) := of_decide_eq_true qy1
         have q9 : x3_1 < (a0.size : Int) := of_decide_eq_true qy1
         have hx9 := bt_at a0 x3_1
         replace p9 := eq_true p9
         replace q9 := eq_true q9
         have p11 : 0 ≤ (x3_1 : Int) := of_decide_eq_true qy1
         have q11 : x3_1 < (a0.size : Int) := of_decide_eq_true qy1
         have hx11 := bt_at a0 x3_1
         replace p11 := eq_true p11
         replace q11 := eq_true q11
         go_wp2
         go_ret
         exact ⟨by first | rfl | (simp; done) | (simp [*]; done),by repeat (first | exact y1.refl _ | apply y1.step)⟩
        ·rw [if_neg c12] at H
         have c12b0 : decide (126 < (bt a0 x3_1)) = false := decide_eq_false c12
         clear c12
         by_cases c14 : (bt a0 x3_1) = 92
         ·rw [if_pos c14] at H
          have c14b0 : ((bt a0 x3_1) == 92) = true := beq_iff_eq.mpr c14
          have c14b1 : ((bt a0 x3_1) != 92) = false := bne_eq_false_iff_eq.mpr c14
          clear c14
          obtain rfl := Option.some.inj H
          have p7 : 0 ≤ (x3_1 : Int) := of_decide_eq_true qy1
          have q7 : x3_1 < (a0.size : Int) := of_decide_eq_true qy1
          have hx7 := bt_at a0 x3_1
          replace p7 := eq_true p7
          replace q7 := eq_true q7
          have p9 : 0 ≤ (x3_1 : Int) := of_decide_eq_true qy1
          have q9 : x3_1 < (a0.size : Int) := of_decide_eq_true qy1
          have hx9 := bt_at a0 x3_1
          replace p9 := eq_true p9
          replace q9 := eq_true q9
          have p11 : 0 ≤ (x3_1 : Int) := of_decide_eq_true qy1
          have q11 : x3_1 < (a0.size : Int) := of_decide_eq_true qy1
          have hx11 := bt_at a0 x3_1
          replace p11 := eq_true p11
          replace q11 := eq_true q11
          have p13 : 0 ≤ (x3_1 : Int) := of_decide_eq_true qy1
          have q13 : x3_1 < (a0.size : Int) := of_decide_eq_true qy1
          have hx13 := bt_at a0 x3_1
          replace p13 := eq_true p13
          replace q13 := eq_true q13
          go_wp2
          go_ret
          exact ⟨by first | rfl | (simp; done) | (simp [*]; done),by repeat (first | exact y1.refl _ | apply y1.step)⟩
         ·rw [if_neg c14] at H
          have c14b0 : ((bt a0 x3_1) == 92) = false := beq_eq_false_iff_ne.mpr c14
          have c14b1 : ((bt a0 x3_1) != 92) = true := bne_iff_ne.mpr c14
          have H' := y0.mk H
          clear H
          have p7 : 0 ≤ (x3_1 : Int) := of_decide_eq_true qy1
          have q7 : x3_1 < (a0.size : Int) := of_decide_eq_true qy1
          have hx7 := bt_at a0 x3_1
          replace p7 := eq_true p7
          replace q7 := eq_true q7
          have p9 : 0 ≤ (x3_1 : Int) := of_decide_eq_true qy1
          have q9 : x3_1 < (a0.size : Int) := of_decide_eq_true qy1
          have hx9 := bt_at a0 x3_1
          replace p9 := eq_true p9
          replace q9 := eq_true q9
          have p11 : 0 ≤ (x3_1 : Int) := of_decide_eq_true qy1
          have q11 : x3_1 < (a0.size : Int) := of_decide_eq_true qy1
          have hx11 := bt_at a0 x3_1
          replace p11 := eq_true p11
          replace q11 := eq_true q11
          have p13 : 0 ≤ (x3_1 : Int) := of_decide_eq_true qy1
          have q13 : x3_1 < (a0.size : Int) := of_decide_eq_true qy1
          have hx13 := bt_at a0 x3_1
          replace p13 := eq_true p13
          replace q13 := eq_true q13
          go_wp2
          go_roundg kj1
          case measure => have := HK1.out; have := HJ1.out; omega
          exact ⟨(wrap64 (x3_1 + 1)),qy2,H',⟨by have := HK1.out; have := HJ1.out; omega⟩,by repeat (first | exact y1.refl _ | apply y1.step)⟩
     ·replace c4 := Bool.eq_false_iff.mpr c4
      subst c4
      replace H := qF H
      obtain rfl := Option.some.inj H
      go_wp2
      go_ret
      exact ⟨by first | rfl | (simp; done) | (simp [*]; done),by repeat (first | exact y1.refl _ | apply y1.step)⟩
def impl_isDigit.f (a0 : Int) : Option (Bool) := if a0 ≥ 48 then (some (decide (a0 ≤ 57))) else (some false)
set_option maxHeartbeats 8000000 in
set_option maxRecDepth 100000 in
theorem impl_isDigit.calls (a0 : Int) (r : Bool) (w : World) (h : impl_isDigit.f a0 = some r) :
  Calls Tryz.prog 119 #[.int .u8 a0] w fun e w' => e = .returned (.bool r) ∧ y1 w w' := by
 have H : (if a0 ≥ 48 then (some (decide (a0 ≤ 57))) else (some false)) = some r := h
 clear h
 by_cases c2 : a0 ≥ 48
 ·rw [if_pos c2] at H
  have c2b0 : decide (48 ≤ a0) = true := decide_eq_true c2
  clear c2
  obtain rfl := Option.some.inj H
  go_enter Tryz.func119,Tryz.ntmps119
  go_wp2
  go_ret
  exact ⟨by first | rfl | (simp; done) | (simp [*]; done),by repeat (first | exact y1.refl _ | apply y1.step)⟩
 ·rw [if_neg c2] at H
  have c2b0 : decide (48 ≤ a0) = false := decide_eq_false c2
  clear c2
  obtain rfl := Option.some.inj H
  go_enter Tryz.func119,Tryz.ntmps119
  go_wp2
  go_ret
  exact ⟨by first | rfl | (simp; done) | (simp [*]; done),by repeat (first | exact y1.refl _ | apply y1.step)⟩
def ErrIs : Option Int → Value → Prop
 | none,ev => ev = .nilIface
 | some _,ev => ∃ te pe,ev = .iface te pe
theorem errIs_none {ev : Value} (h : ErrIs none ev) : ev = .nilIface := h
theorem errIs_some {q : Int} {ev : Value} (h : ErrIs (some q) ev) : ∃ te pe,ev = .iface te pe := h
/-- strconv.Atoi: the number, and whether there is an error. -/
def strconv_Atoi.f (a0 : ByteArray) : Option (Int × Option Int) :=
 if a0.size ≤ 281474976710656 then (match Lib.atoiAll a0.data.toList with
  | .ok v => some (v,none)
  | .range => some (Lib.atoiSat a0.data.toList,some 1)
  | _ => some (0,some 0)) else none
theorem strconv_Atoi.calls (a0 : ByteArray) (r1 : Int) (r2 : Option Int) (w : World) (hT : Tb w) (h : strconv_Atoi.f a0 = some (r1,r2)) :
  Calls Tryz.prog 120 #[.string a0] w fun e w' => ∃ ev,e = .returned (.tuple #[.int .i64 r1,ev]) ∧ ErrIs r2 ev ∧ Below w.heap.size w w' := by
 unfold strconv_Atoi.f at h
 by_cases h0 : a0.size ≤ 281474976710656
 ·rw [if_pos h0] at h
  rcases hn : Lib.atoiAll a0.data.toList with v | _ | _
  ·
   simp only [hn,Option.some.injEq,Prod.mk.injEq] at h
   obtain ⟨rfl,rfl⟩ := h
   refine (Tryz.strconv_Atoi_ok a0 (by omega) v hn w).mono ?_
   rintro e w' ⟨rfl,hw⟩
   refine ⟨_,rfl,rfl, ?_⟩
   rcases hw with rfl | ⟨t,rfl⟩
   ·exact Below.refl _ _
   ·exact bytes_below (Below.refl _ _) (Nat.le_refl _) _ _
  ·
   simp only [hn,Option.some.injEq,Prod.mk.injEq] at h
   obtain ⟨rfl,rfl⟩ := h
   obtain ⟨ev,h1,h2⟩ := hT.es
   refine (Tryz.strconv_Atoi_syntax a0 h0 hn ev w h1 h2).mono ?_
   rintro e w' ⟨n,rfl,_,_,hb⟩
   exact ⟨_,rfl,⟨_,_,rfl⟩,hb⟩
  ·
   simp only [hn,Option.some.injEq,Prod.mk.injEq] at h
   obtain ⟨rfl,rfl⟩ := h
   obtain ⟨ev,h1,h2⟩ := hT.er
   refine (Tryz.strconv_Atoi_range a0 h0 hn ev w h1 h2).mono ?_
   rintro e w' ⟨n,rfl,_,_,hb⟩
   exact ⟨_,rfl,⟨_,_,rfl⟩,hb⟩
 ·rw [if_neg h0] at h
  cases h
def strconv_Itoa.f (a0 : Int) : Option ByteArray := if -9223372036854775808 ≤ a0 then if a0 ≤ 9223372036854775807 then some ⟨(Lib.itoa a0).toArray⟩ else none else none
theorem strconv_Itoa.calls (a0 : Int) (r : ByteArray) (w : World) (hT : Tb w) (h : strconv_Itoa.f a0 = some r) :
  Calls Tryz.prog 121 #[.int .i64 a0] w fun e w' => e = .returned (.string r) ∧ Below w.heap.size w w' := by
 unfold strconv_Itoa.f at h
 by_cases h0 : -9223372036854775808 ≤ a0
 ·by_cases h1 : a0 ≤ 9223372036854775807
  ·rw [if_pos h0,if_pos h1] at h
   obtain rfl := Option.some.inj h
   refine (Tryz.strconv_Itoa a0 h0 h1 w hT.pow).mono ?_
   rintro e w' ⟨rfl,k,os,rfl⟩
   exact ⟨rfl,QRead.below_grow_drewN w k os⟩
  ·rw [if_pos h0,if_neg h1] at h
   cases h
 ·rw [if_neg h0] at h
  cases h
end Go.Proofs.YtkajecadkkgfmaaGreatDoor.Pe
end
section
namespace Go.Proofs.YtkajecadkkgfmaaGreatDoor.Pe
open Go.RowKit Go.Proofs.YtkajecadkkgfmaaGreatDoorW.PrintWords Go.Proofs.YtkajecadkkgfmaaGreatDoorW.PrintLast Go.Proofs.YtkajecadkkgfmaaGreatDoorW.PrintMore
attribute [local go_sem] max2_int min2_int max_two min_two max_three min_three max_four min_four   -- for this text's walks alone
set_option linter.unusedVariables false
set_option linter.unusedSimpArgs false
def impl_isLetter.f (a0 : Int) : Option (Bool) := if a0 ≥ 97 then (if a0 ≤ 122 then (some true) else (if a0 ≥ 65 then (some (decide (a0 ≤ 90))) else (some false))) else (if a0 ≥ 65 then (some (decide (a0 ≤ 90))) else (some false))
set_option maxHeartbeats 8000000 in
set_option maxRecDepth 100000 in
theorem impl_isLetter.calls (a0 : Int) (r : Bool) (w : World) (h : impl_isLetter.f a0 = some r) :
  Calls Tryz.prog 137 #[.int .u8 a0] w fun e w' => e = .returned (.bool r) ∧ y1 w w' := by
 have H : (if a0 ≥ 97 then (if a0 ≤ 122 then (some true) else (if a0 ≥ 65 then (some (decide (a0 ≤ 90))) else (some false))) else (if a0 ≥ 65 then (some (decide (a0 ≤ 90))) else (some false))) = some r := h
 clear h
 by_cases c2 : a0 ≥ 97
 ·rw [if_pos c2] at H
  have c2b0 : decide (97 ≤ a0) = true := decide_eq_true c2
  clear c2
  by_cases c3 : a0 ≤ 122
  ·rw [if_pos c3] at H
   have c3b0 := decide_eq_true c3
   clear c3
   obtain rfl := Option.some.inj H
   go_enter Tryz.func137,Tryz.ntmps137
   go_wp2
   go_ret
   exact ⟨by first | rfl | (simp; done) | (simp [*]; done),by repeat (first | exact y1.refl _ | apply y1.step)⟩
  ·rw [if_neg c3] at H
   have c3b0 := decide_eq_false c3
   clear c3
   by_cases c4 : a0 ≥ 65
   ·rw [if_pos c4] at H
    have c4b0 : decide (65 ≤ a0) = true := decide_eq_true c4
    clear c4
    obtain rfl := Option.some.inj H
    go_enter Tryz.func137,Tryz.ntmps137
    go_wp2
    go_ret
    exact ⟨by first | rfl | (simp; done) | (simp [*]; done),by repeat (first | exact y1.refl _ | apply y1.step)⟩
   ·rw [if_neg c4] at H
    have c4b0 : decide (65 ≤ a0) = false := decide_eq_false c4
    clear c4
    obtain rfl := Option.some.inj H
    go_enter Tryz.func137,Tryz.ntmps137
    go_wp2
    go_ret
    exact ⟨by first | rfl | (simp; done) | (simp [*]; done),by repeat (first | exact y1.refl _ | apply y1.step)⟩
 ·rw [if_neg c2] at H
  have c2b0 : decide (97 ≤ a0) = false := decide_eq_false c2
  clear c2
  by_cases c5 : a0 ≥ 65
  ·rw [if_pos c5] at H
   have c5b0 : decide (65 ≤ a0) = true := decide_eq_true c5
   clear c5
   obtain rfl := Option.some.inj H
   go_enter Tryz.func137,Tryz.ntmps137
   go_wp2
   go_ret
   exact ⟨by first | rfl | (simp; done) | (simp [*]; done),by repeat (first | exact y1.refl _ | apply y1.step)⟩
  ·rw [if_neg c5] at H
   have c5b0 : decide (65 ≤ a0) = false := decide_eq_false c5
   clear c5
   obtain rfl := Option.some.inj H
   go_enter Tryz.func137,Tryz.ntmps137
   go_wp2
   go_ret
   exact ⟨by first | rfl | (simp; done) | (simp [*]; done),by repeat (first | exact y1.refl _ | apply y1.step)⟩
def impl_isWordByte.f (a0 : Int) : Option (Bool) := (impl_isLetter.f a0).bind fun t332 => (if t332 = true then (some true) else ((impl_isDigit.f a0).bind fun t333 => (if t333 = true then (some true) else (some (a0 == 95)))))
set_option maxHeartbeats 8000000 in
set_option maxRecDepth 100000 in
theorem impl_isWordByte.calls (a0 : Int) (r : Bool) (w : World) (h : impl_isWordByte.f a0 = some r) :
  Calls Tryz.prog 136 #[.int .u8 a0] w fun e w' => e = .returned (.bool r) ∧ y1 w w' := by
 have H : ((impl_isLetter.f a0).bind fun t332 => (if t332 = true then (some true) else ((impl_isDigit.f a0).bind fun t333 => (if t333 = true then (some true) else (some (a0 == 95)))))) = some r := h
 clear h
 obtain ⟨t332,A2,H⟩ := qB H
 by_cases c3 : t332 = true
 ·subst c3
  replace H := qT H
  obtain rfl := Option.some.inj H
  go_enter Tryz.func136,Tryz.ntmps136
  go_wp2_with (first | ((with_reducible refine y15 (f := 137) rfl ?_); refine y17 (some 4) rfl rfl Tryz.func137 (by kernel_rfl) rfl #[.int .u8 a0] rfl qy0 ?_; (with_reducible refine (impl_isLetter.calls a0 true _ A2.out).mono ?_); rintro e w' ⟨rfl,⟨nd,rfl⟩⟩; refine ⟨_,rfl, ?_⟩))
  go_ret
  exact ⟨by first | rfl | (simp; done) | (simp [*]; done),by repeat (first | exact y1.refl _ | apply y1.step)⟩
 ·replace c3 := Bool.eq_false_iff.mpr c3
  subst c3
  replace H := qF H
  obtain ⟨t333,A4,H⟩ := qB H
  by_cases c5 : t333 = true
  ·subst c5
   replace H := qT H
   obtain rfl := Option.some.inj H
   go_enter Tryz.func136,Tryz.ntmps136
   go_wp2_with (first | ((with_reducible refine y15 (f := 137) rfl ?_); refine y17 (some 4) rfl rfl Tryz.func137 (by kernel_rfl) rfl #[.int .u8 a0] rfl qy0 ?_; (with_reducible refine (impl_isLetter.calls a0 false _ A2.out).mono ?_); rintro e w' ⟨rfl,⟨nd,rfl⟩⟩; refine ⟨_,rfl, ?_⟩) | (go_at_call 119; (with_reducible refine (impl_isDigit.calls a0 true _ A4.out).mono ?_); rintro e w' ⟨rfl,⟨nd,rfl⟩⟩))
   go_ret
   exact ⟨by first | rfl | (simp; done) | (simp [*]; done),by repeat (first | exact y1.refl _ | apply y1.step)⟩
  ·replace c5 := Bool.eq_false_iff.mpr c5
   subst c5
   replace H := qF H
   obtain rfl := Option.some.inj H
   go_enter Tryz.func136,Tryz.ntmps136
   go_wp2_with (first | ((with_reducible refine y15 (f := 137) rfl ?_); refine y17 (some 4) rfl rfl Tryz.func137 (by kernel_rfl) rfl #[.int .u8 a0] rfl qy0 ?_; (with_reducible refine (impl_isLetter.calls a0 false _ A2.out).mono ?_); rintro e w' ⟨rfl,⟨nd,rfl⟩⟩; refine ⟨_,rfl, ?_⟩) | (go_at_call 119; (with_reducible refine (impl_isDigit.calls a0 false _ A4.out).mono ?_); rintro e w' ⟨rfl,⟨nd,rfl⟩⟩))
   go_ret
   exact ⟨by first | rfl | (simp; done) | (simp [*]; done),by repeat (first | exact y1.refl _ | apply y1.step)⟩
def impl_nameLong.l0 : Nat → ByteArray → Int → Option (Int)
 | 0,_,_ => none
 | k + 1,x0,x3 => if x3 < (x0.size : Int) then (if 0 ≤ x3 then ((impl_isWordByte.f (bt x0 x3)).bind fun t334 => (if t334 = true then (if x3 > 0 then (impl_nameLong.l0 k x0 (wrap64 (x3 + 1))) else (if 0 < (x0.size : Int) then ((impl_isLetter.f (bt x0 0)).bind fun t335 => (if t335 = true then (impl_nameLong.l0 k x0 (wrap64 (x3 + 1))) else (some x3))) else (none))) else (some x3))) else (none)) else (some x3)
def impl_nameLong.f (k : Nat) (a0 : ByteArray) : Option (Int) := impl_nameLong.l0 k a0 0
set_option maxHeartbeats 8000000 in
set_option maxRecDepth 100000 in
theorem impl_nameLong.calls (k : Nat) (a0 : ByteArray) (r : Int) (w : World) (h : impl_nameLong.f k a0 = some r) :
  Calls Tryz.prog 122 #[.string a0] w fun e w' => e = .returned (.int .i64 r) ∧ y1 w w' := by
 have H : (impl_nameLong.l0 k a0 0) = some r := h
 clear h
 have H' := y0.mk H
 clear H
 go_enter Tryz.func122,Tryz.ntmps122
 go_wp2
 go_loopg [3] k (fun kq v3 w' => ∃ (x3_1 : Int),v3 = .int .i64 x3_1 ∧ y0 (impl_nameLong.l0 kq a0 x3_1 = some r) ∧ y0 (kq ≤ k) ∧ y1 w w')
 case atStart => exact ⟨(0),qy2,H',⟨Nat.le_refl _⟩,by repeat (first | exact y1.refl _ | apply y1.step)⟩
 case round =>
  clear H'
  obtain ⟨x3_1,rfl,HA,HK1,⟨m1,rfl⟩⟩ := hrel
  cases gk with
  | zero => exact absurd HA.out (by simp [impl_nameLong.l0])
  | succ k1 =>
   have H := HA.out
   clear HA
   simp only [impl_nameLong.l0] at H
   by_cases c2 : x3_1 < (a0.size : Int)
   ·rw [if_pos c2] at H
    have c2b0 := decide_eq_true c2
    clear c2
    obtain ⟨c3,H⟩ := qo H
    have c3b0 : decide (0 ≤ x3_1) = true := decide_eq_true c3
    clear c3
    obtain ⟨t334,A5,H⟩ := qB H
    by_cases c6 : t334 = true
    ·subst c6
     replace H := qT H
     by_cases c7 : x3_1 > 0
     ·rw [if_pos c7] at H
      have c7b0 : decide (0 < x3_1) = true := decide_eq_true c7
      clear c7
      have H' := y0.mk H
      clear H
      have p4 : 0 ≤ (x3_1 : Int) := of_decide_eq_true qy1
      have q4 : x3_1 < (a0.size : Int) := of_decide_eq_true qy1
      have hx4 := bt_at a0 x3_1
      replace p4 := eq_true p4
      replace q4 := eq_true q4
      go_wp2_with (first | (go_at_call 136; (with_reducible refine (impl_isWordByte.calls (bt a0 x3_1) true _ A5.out).mono ?_); rintro e w' ⟨rfl,⟨nd,rfl⟩⟩))
      go_roundg k1
      case measure => have := HK1.out; omega
      exact ⟨(wrap64 (x3_1 + 1)),qy2,H',⟨by have := HK1.out; omega⟩,by repeat (first | exact y1.refl _ | apply y1.step)⟩
     ·rw [if_neg c7] at H
      have c7b0 : decide (0 < x3_1) = false := decide_eq_false c7
      clear c7
      obtain ⟨c8,H⟩ := qo H
      have c8b0 : decide (0 < (a0.size : Int)) = true := decide_eq_true c8
      have c8b1 : decide (0 < a0.size) = true := decide_eq_true (by omega)
      clear c8
      obtain ⟨t335,A10,H⟩ := qB H
      by_cases c11 : t335 = true
      ·subst c11
       replace H := qT H
       have H' := y0.mk H
       clear H
       have p4 : 0 ≤ (x3_1 : Int) := of_decide_eq_true qy1
       have q4 : x3_1 < (a0.size : Int) := of_decide_eq_true qy1
       have hx4 := bt_at a0 x3_1
       replace p4 := eq_true p4
       replace q4 := eq_true q4
       go_wp2_with (first | (go_at_call 136; (with_reducible refine (impl_isWordByte.calls (bt a0 x3_1) true _ A5.out).mono ?_); rintro e w' ⟨rfl,⟨nd,rfl⟩⟩; have p9 : 0 ≤ (0 : Int) := (by omega); have q9 : 0 < a0.size := qy4; have hx9 : ∀ h : 0 < a0.size,((a0[0]'h).toNat : Int) = bt a0 0 := bt_at a0 0; clear p9; have qi9 : (0 < (a0.size : Int)) = True := eq_true (of_decide_eq_true qy1); replace q9 := eq_true q9) | (go_at_call 137; (with_reducible refine (impl_isLetter.calls (bt a0 0) true _ A10.out).mono ?_); rintro e w' ⟨rfl,⟨nd,rfl⟩⟩))
       go_roundg k1
       case measure => have := HK1.out; omega
       exact ⟨(wrap64 (x3_1 + 1)),qy2,H',⟨by have := HK1.out; omega⟩,by repeat (first | exact y1.refl _ | apply y1.step)⟩
      ·replace c11 := Bool.eq_false_iff.mpr c11
       subst c11
       replace H := qF H
       obtain rfl := Option.some.inj H
       have p4 : 0 ≤ (x3_1 : Int) := of_decide_eq_true qy1
       have q4 : x3_1 < (a0.size : Int) := of_decide_eq_true qy1
       have hx4 := bt_at a0 x3_1
       replace p4 := eq_true p4
       replace q4 := eq_true q4
       go_wp2_with (first | (go_at_call 136; (with_reducible refine (impl_isWordByte.calls (bt a0 x3_1) true _ A5.out).mono ?_); rintro e w' ⟨rfl,⟨nd,rfl⟩⟩; have p9 : 0 ≤ (0 : Int) := (by omega); have q9 : 0 < a0.size := qy4; have hx9 : ∀ h : 0 < a0.size,((a0[0]'h).toNat : Int) = bt a0 0 := bt_at a0 0; clear p9; have qi9 : (0 < (a0.size : Int)) = True := eq_true (of_decide_eq_true qy1); replace q9 := eq_true q9) | (go_at_call 137; (with_reducible refine (impl_isLetter.calls (bt a0 0) false _ A10.out).mono ?_); rintro e w' ⟨rfl,⟨nd,rfl⟩⟩))
       go_ret
       exact ⟨by first | rfl | (simp; done) | (simp [*]; done),by repeat (first | exact y1.refl _ | apply y1.step)⟩
    ·replace c6 := Bool.eq_false_iff.mpr c6
     subst c6
     replace H := qF H
     obtain rfl := Option.some.inj H
     have p4 : 0 ≤ (x3_1 : Int) := of_decide_eq_true qy1
     have q4 : x3_1 < (a0.size : Int) := of_decide_eq_true qy1
     have hx4 := bt_at a0 x3_1
     replace p4 := eq_true p4
     replace q4 := eq_true q4
     go_wp2_with (first | (go_at_call 136; (with_reducible refine (impl_isWordByte.calls (bt a0 x3_1) false _ A5.out).mono ?_); rintro e w' ⟨rfl,⟨nd,rfl⟩⟩))
     go_ret
     exact ⟨by first | rfl | (simp; done) | (simp [*]; done),by repeat (first | exact y1.refl _ | apply y1.step)⟩
   ·rw [if_neg c2] at H
    have c2b0 := decide_eq_false c2
    clear c2
    obtain rfl := Option.some.inj H
    go_wp2
    go_ret
    exact ⟨by first | rfl | (simp; done) | (simp [*]; done),by repeat (first | exact y1.refl _ | apply y1.step)⟩
end Go.Proofs.YtkajecadkkgfmaaGreatDoor.Pe
end
