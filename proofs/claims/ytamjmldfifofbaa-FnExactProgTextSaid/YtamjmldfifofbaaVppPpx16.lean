-- Cut by prune.py, a program of this session, out of the texts of this claim: Lean checks it.
import Derived.Test.YtamjmldfifofbaaVppPpx0
import Derived.Test.YtamjmldfifofbaaVppPpx3
namespace Go.Proofs.Ytamjmldfifofbaa.Pp
open Go.RowKit Go.Proofs.YtamjmldfifofbaaW.PrintWords Go.Proofs.YtamjmldfifofbaaW.PrintLast Go.Proofs.YtamjmldfifofbaaW.PrintMore
attribute [local go_sem] max2_int min2_int max_two min_two max_three min_three max_four min_four   -- for this text's walks alone
set_option linter.unusedVariables false
set_option linter.unusedSimpArgs false
def laws_toStringS.l0 : Nat → List ByteArray → List ByteArray → Int → Option (List ByteArray)
 | 0,_,_,_ => none
 | k + 1,x0,x3,x4 => if x4 < (x0.length : Int) then (if 0 ≤ x4 then (if x4 < (x3.length : Int) then (laws_toStringS.l0 k x0 (x3.set (x4 : Int).toNat (rdOf ByteArray.empty x0 x4)) (wrap64 (x4 + 1))) else (none)) else (none)) else (some x3)
def laws_toStringS.f (k : Nat) (l0 : List ByteArray) : Option (List ByteArray) := if 0 ≤ (l0.length : Int) then (if ((l0.length : Int) : Int).toNat ≤ 17592186044416 then (laws_toStringS.l0 k l0 (List.replicate ((l0.length : Int) : Int).toNat (⟨#[]⟩ : ByteArray)) 0) else (none)) else (none)
set_option maxHeartbeats 8000000 in
set_option maxRecDepth 100000 in
theorem laws_toStringS.calls (k : Nat) (A0 : Option Addr) (c0 : Nat) (l0 : List ByteArray) (r : List ByteArray) (w : World) (hr0 : Kd.C Kd.string w A0 l0.length l0) (hc0 : l0.length ≤ c0) (h : laws_toStringS.f k l0 = some r) :
  Calls Try.prog 88 #[.slice A0 l0.length c0] w fun e w' => ∃ v0_ : Value,e = .returned (v0_) ∧ Kd.R Kd.string 9 w' w.heap.size (fun _ => True) v0_ r ∧ Below w.heap.size w w' := by
 have HR0 := y0.mk hr0
 have HC0 := y0.mk hc0
 clear hr0 hc0
 have HB := y0.mk (Below.refl w.heap.size w)
 have H : (if 0 ≤ (l0.length : Int) then (if ((l0.length : Int) : Int).toNat ≤ 17592186044416 then (laws_toStringS.l0 k l0 (List.replicate ((l0.length : Int) : Int).toNat (⟨#[]⟩ : ByteArray)) 0) else (none)) else (none)) = some r := h
 clear h
 obtain ⟨c2,H⟩ := qo H
 have c2b0 := eq_true c2
 have c2b1 := decide_eq_true c2
 clear c2
 obtain ⟨c3,H⟩ := qo H
 have c3b0 := eq_true c3
 have c3b1 := decide_eq_true c3
 clear c3
 obtain ⟨y421,hy421⟩ : ∃ y_ : List ByteArray,y_ = (List.replicate ((l0.length : Int) : Int).toNat (⟨#[]⟩ : ByteArray)) := ⟨_,rfl⟩
 replace H : (laws_toStringS.l0 k l0 y421 0) = some r := by first | (rw [hy421]; with_reducible exact H) | (have H2_ := (Option.bind_some _ _).symm.trans H; rw [hy421]; with_reducible exact H2_) | (have H2_ := (Option.bind_some _ _).symm.trans H; with_reducible exact H2_) | with_reducible exact H | (rw [hy421]; exact H) | exact H
 have Ny421 := y0.mk hy421
 clear hy421
 have H' := y0.mk H
 clear H
 go_enter Try.func88,Try.ntmps88
 go_wp2_with (first | ((with_reducible refine y16 (N := 7) rfl ?_); refine Kd.R_make Kd.string _ 9 rfl (N := 7) rfl 54 _ _ rfl (l0.length : Int) rfl rfl Try.underlying54 (.string ⟨#[]⟩) 16 info9 rfl (by decide) (by omega) (⟨#[]⟩ : ByteArray) (ok := fun _ => True) (okp := fun _ => True) rfl (fun _ hk => hk) trivial (of_decide_eq_true qy1) (Nat.le_trans (Nat.mul_le_mul_right _ (of_decide_eq_true qy1 : (l0.length : Int).toNat ≤ 17592186044416)) (by omega)) (Below.refl _ _) (Nat.le_refl _) ?_; intro v422 w4 ho5 hb hg_ hnew_; clear hg_ hnew_; (first | rw [← Ny421.out] at ho5 | (simp only [Int.reduceToNat] at ho5; rw [← Ny421.out] at ho5)); have HO423 := y0.mk (Kd.R_lower ho5 (y3 qb)); replace HB := y0.mk (y4 qb hb); clear hb ho5))
 go_loopg [4] k (fun kq v4 w' => ∃ (x3_1 : List ByteArray) (x4_1 : Int),v4 = .int .i64 x4_1 ∧ y0 (laws_toStringS.l0 kq l0 x3_1 x4_1 = some r) ∧ y0 (kq ≤ k) ∧ y0 (Kd.R Kd.string 9 w' w.heap.size (fun _ => True) v422 x3_1) ∧ y0 (Below w.heap.size w w'))
 case atStart => exact ⟨(y421),(0),qy2,H',⟨Nat.le_refl _⟩,⟨qR HO423.out⟩,⟨qb⟩⟩
 case round =>
  clear H'
  (try clear c2b0 c2b1 c3b0 c3b1)
  obtain ⟨x3_1,x4_1,rfl,HA,HK1,HO_3,HB⟩ := hrel
  cases gk with
  | zero => exact absurd HA.out (by simp [laws_toStringS.l0])
  | succ k1 =>
   have H := HA.out
   clear HA
   simp only [laws_toStringS.l0] at H
   by_cases c6 : x4_1 < (l0.length : Int)
   ·rw [if_pos c6] at H
    have c6b0 := decide_eq_true c6
    clear c6
    obtain ⟨c7,H⟩ := qo H
    have c7b0 : decide (0 ≤ x4_1) = true := decide_eq_true c7
    clear c7
    obtain ⟨c8,H⟩ := qo H
    have c8b0 : decide (x4_1 < (x3_1.length : Int)) = true := decide_eq_true c8
    clear c8
    obtain ⟨y425,hy425⟩ : ∃ y_ : List ByteArray,y_ = (x3_1.set (x4_1 : Int).toNat (rdOf ByteArray.empty l0 x4_1)) := ⟨_,rfl⟩
    replace H : (laws_toStringS.l0 k1 l0 y425 (wrap64 (x4_1 + 1))) = some r := by first | (rw [hy425]; with_reducible exact H) | (have H2_ := (Option.bind_some _ _).symm.trans H; rw [hy425]; with_reducible exact H2_) | (have H2_ := (Option.bind_some _ _).symm.trans H; with_reducible exact H2_) | with_reducible exact H | (rw [hy425]; exact H) | exact H
    have Ny425 := y0.mk hy425
    clear hy425
    have H' := y0.mk H
    clear H
    have p424 : 0 ≤ (x4_1 : Int) := of_decide_eq_true qy1
    have q424 : x4_1 < (l0.length : Int) := of_decide_eq_true qy1
    obtain ⟨ad424,e424,hx424_0⟩ := Kd.at_string HR0.out x4_1 p424 q424
    cases e424
    replace hx424_0 := (HB.out.cell (World.block_lt_of_cell? w _ hx424_0)).trans hx424_0
    replace p424 := eq_true p424
    replace q424 := eq_true q424
    have p9 : 0 ≤ (x4_1 : Int) := of_decide_eq_true qy1
    have q9 : (x4_1 : Int) < ((x3_1.length : Int) : Int) := of_decide_eq_true qy1
    obtain ⟨go9,co9,eo9,gb9,gl9,cl9,HG9⟩ := Kd.R_form HO_3.out (by omega)
    (first | cases eo9 | (injection eo9 with ea_ en_ ec_; (first | subst ea_ | (injection ea_ with ea_; subst ea_)); subst ec_; clear en_))
    have GB9 := y0.mk gb9
    have GG9 := y0.mk HG9
    clear gb9 gl9 HG9
    obtain ⟨hx9_0,hf9_0⟩ := Kd.R_celln (⟨#[]⟩ : ByteArray) HO_3.out (x4_1 : Int) p9 q9
    replace p9 := eq_true p9
    replace q9 := eq_true q9
    have HP10 := Kd.R_putg HO_3.out (x4_1 : Int) (rdOf ByteArray.empty l0 x4_1)
    go_wp2_with (first | ((with_reducible refine gate_store (t := 9) (p := 20) rfl ?_); refine store_event (t := 9) (p := 20) (v := ?vo_w11) (w1 := (wr.setCell ⟨go9,(x4_1 : Int).toNat,none⟩ (.string (rdOf ByteArray.empty l0 x4_1)))) ?hg ?ho ?hn ?hr ?_; (case ho => rfl); (case hg => rfl); (case hn => rfl); (case hr => first | (go_simp; done) | (go_simp; rfl)); intro w11 hw; have hg : wr.grownBy w11 (some go9) := (by rw [hw]; exact HP10.2); have hp_ : Kd.R Kd.string 9 w11 w.heap.size (fun _ => True) (.slice (some ⟨go9,0,none⟩) x3_1.length co9) y425 := (by rw [hw,Ny425.out]; exact HP10.1); clear HP10; replace HO_3 := y0.mk (hp_); replace HB := y0.mk ((by rw [hw]; exact below_set (HB.out) GB9.out : Below w.heap.size w w11)); clear hg hw hp_))
    go_roundg k1
    case measure => have := HK1.out; omega
    exact ⟨(y425),(wrap64 (x4_1 + 1)),qy2,H',⟨by have := HK1.out; omega⟩,⟨qR HO_3.out⟩,⟨qb⟩⟩
   ·rw [if_neg c6] at H
    have c6b0 := decide_eq_false c6
    clear c6
    obtain rfl := Option.some.inj H
    go_wp2
    go_ret
    exact ⟨_,by first | rfl | (simp [y12,y13] <;> rfl) | (simp [*,y12,y13] <;> rfl),by (with_reducible repeat (first | apply Kd.R_alloc | apply Kd.R_drewN | apply Kd.R_drew)); exact HO_3.out,qb⟩
def laws_toCon.f (k : Nat) (a0_0 : ByteArray) (l0_1 : List ByteArray) : Option (ByteArray × List ByteArray) := (laws_toStringS.f k l0_1).bind fun t429 => (some (a0_0,t429))
set_option maxHeartbeats 8000000 in
set_option maxRecDepth 100000 in
theorem laws_toCon.calls (k : Nat) (a0_0 : ByteArray) (A0_1 : Option Addr) (c0_1 : Nat) (l0_1 : List ByteArray) (r1 : ByteArray) (r2 : List ByteArray) (w : World) (hr0_1 : Kd.C Kd.string w A0_1 l0_1.length l0_1) (hc0_1 : l0_1.length ≤ c0_1) (h : laws_toCon.f k a0_0 l0_1 = some (r1,r2)) :
  Calls Try.prog 97 #[.agg #[.string a0_0,.slice A0_1 l0_1.length c0_1]] w fun e w' => ∃ v1_ : Value,e = .returned (.agg #[.string r1,v1_]) ∧ Kd.R Kd.string 9 w' w.heap.size (fun _ => True) v1_ r2 ∧ Below w.heap.size w w' := by
 have hu147 := Try.underlying147
 have hu80 := Try.underlying80
 have HR0_1 := y0.mk hr0_1
 have HC0_1 := y0.mk hc0_1
 clear hr0_1 hc0_1
 have HB := y0.mk (Below.refl w.heap.size w)
 have H : ((laws_toStringS.f k l0_1).bind fun t429 => (some (a0_0,t429))) = some (r1,r2) := h
 clear h
 obtain ⟨t429,A2,H⟩ := qB H
 simp only [Option.some.injEq,Prod.mk.injEq] at H
 obtain ⟨rfl,rfl⟩ := H
 go_enter Try.func97,Try.ntmps97
 go_wp2_with (first | ((with_reducible refine y16 (N := 1) rfl ?_); refine qe 1 #[.string a0_0,.slice A0_1 l0_1.length c0_1] 147 ?_; intro gb426 hg w3 hbox hb; have BK426 := y0.mk (hbox); have GW426 := y0.mk (qg (w := w) hg); have GE426 := y0.mk (qg (w := w) hg); replace HB := y0.mk (y4 qb hb); clear hb hbox hg) | ((with_reducible refine y16 (N := 2) rfl ?_); refine qe 2 #[.string (⟨#[]⟩ : ByteArray),.slice none 0 0] 80 ?_; intro gb427 hg w4 hbox hb; have BK427 := y0.mk (hbox); have GW427 := y0.mk (qg (w := w) hg); have GE427 := y0.mk (qg (w := w) hg); replace HB := y0.mk (y4 qb hb); have NB426_427 := y0.mk (qn BK426.out hg); have NB427_426 := y0.mk (qm BK426.out hg); replace BK426 := y0.mk (qK BK426.out hb); clear hb hbox hg) | ((with_reducible refine y16 (N := 3) rfl ?_); refine qe 3 #[.string (⟨#[]⟩ : ByteArray),.slice none 0 0] 80 ?_; intro gb428 hg w5 hbox hb; have BK428 := y0.mk (hbox); have GW428 := y0.mk (qg (w := w) hg); have GE428 := y0.mk (qg (w := w) hg); replace HB := y0.mk (y4 qb hb); have NB426_428 := y0.mk (qn BK426.out hg); have NB428_426 := y0.mk (qm BK426.out hg); replace BK426 := y0.mk (qK BK426.out hb); have NB427_428 := y0.mk (qn BK427.out hg); have NB428_427 := y0.mk (qm BK427.out hg); replace BK427 := y0.mk (qK BK427.out hb); clear hb hbox hg; have hnb6 := NB426_427.out; have hnc6 := NB427_426.out; have hnb7 := NB426_428.out; have hnc7 := NB428_426.out; obtain ⟨hcz8_0,hcz8_1,hfz8_0,hfz8_1⟩ := qz2 BK426.out; have hnb9 := NB428_427.out; have hnc9 := NB427_428.out; obtain ⟨hcz10_0,hcz10_1,hfz10_0,hfz10_1⟩ := qz2 BK428.out) | ((with_reducible refine y15 (f := 88) rfl ?_); refine y17 (some 9) rfl rfl Try.func88 (by kernel_rfl) rfl #[.slice A0_1 l0_1.length c0_1] rfl qy0 ?_; (with_reducible refine (laws_toStringS.calls k _ _ l0_1 t429 _ (by exact Kd.C_below HR0_1.out qb) HC0_1.out A2.out).mono ?_); rintro e w11 ⟨v430,rfl,ho0,hb⟩; refine ⟨_,rfl, ?_⟩; have HO431 := y0.mk (Kd.R_lower ho0 (y3 qb)); replace BK426 := y0.mk (y6 (g := gb426) (o := .cells #[.string a0_0,.slice A0_1 l0_1.length c0_1] 147 (0,0)) (by (with_reducible repeat (first | refine y9 ?_ _ | refine y8 ?_ | refine y5 ?_ _)); refine y10 ?_ NB426_428.out _; (with_reducible repeat (first | refine y9 ?_ _ | refine y8 ?_ | refine y5 ?_ _)); exact BK426.out) hb); replace BK427 := y0.mk (y6 (g := gb427) (o := .cells #[.string (⟨#[]⟩ : ByteArray),.slice none 0 0] 80 (0,0)) (by (with_reducible repeat (first | refine y9 ?_ _ | refine y8 ?_ | refine y5 ?_ _)); refine y10 ?_ NB427_428.out _; (with_reducible repeat (first | refine y9 ?_ _ | refine y8 ?_ | refine y5 ?_ _)); exact BK427.out) hb); replace BK428 := y0.mk (y6 (g := gb428) (o := .cells #[.string a0_0,.slice none 0 0] 80 (0,0)) (by (with_reducible repeat (first | refine y9 ?_ _ | refine y8 ?_ | refine y5 ?_ _)); refine y11 (cs := #[.string (⟨#[]⟩ : ByteArray),.slice none 0 0]) ?_ 0 _ rfl; (with_reducible repeat (first | refine y9 ?_ _ | refine y8 ?_ | refine y5 ?_ _)); exact BK428.out) hb); replace HB := y0.mk (y4 qb hb); (try clear hb); (try clear hb2); (try clear hk); (try clear hi); (try clear ho0); obtain ⟨Ao12,co12,eo12⟩ := Kd.R_slice HO431.out; subst eo12; obtain ⟨hcz13_0,hcz13_1,hfz13_0,hfz13_1⟩ := qz2 BK428.out; obtain ⟨hcz14_0,hcz14_1,hfz14_0,hfz14_1⟩ := qz2 BK427.out))
 refine bodyPost_ret (results_cell_row rfl _ _ gb427 80 #[.string a0_0,.slice Ao12 t429.length co12] (0,0) _ rfl (by (with_reducible repeat (first | refine y9 ?_ _ | refine y8 ?_ | refine y5 ?_ _)); refine y11 (cs := #[.string a0_0,.slice none 0 0]) ?_ 1 _ rfl; (with_reducible repeat (first | refine y9 ?_ _ | refine y8 ?_ | refine y5 ?_ _)); refine y11 (cs := #[.string (⟨#[]⟩ : ByteArray),.slice none 0 0]) ?_ 0 _ rfl; (with_reducible repeat (first | refine y9 ?_ _ | refine y8 ?_ | refine y5 ?_ _)); refine y10 ?_ NB427_428.out _; (with_reducible repeat (first | refine y9 ?_ _ | refine y8 ?_ | refine y5 ?_ _)); exact BK427.out) Try.underlying80 rfl (by kernel_rfl)) rfl ?_
 exact ⟨_,by first | rfl | (simp [y12,y13] <;> rfl) | (simp [*,y12,y13] <;> rfl),by (with_reducible repeat (first | apply Kd.R_alloc | apply Kd.R_drewN | apply Kd.R_drew)); exact Kd.R_mono (Kd.R_far (p := ⟨gb427,1,none⟩) (Kd.R_far (p := ⟨gb427,0,none⟩) (Kd.R_far (p := ⟨gb428,1,none⟩) (Kd.R_types (Kd.R_types HO431.out BK428.out (by decide)) BK427.out (by decide)) (fun _ hk => hk.1.2) (.slice Ao12 t429.length co12)) (fun _ hk => hk.2) (.string a0_0)) (fun _ hk => hk.2) (.slice Ao12 t429.length co12)) (fun _ hk => trivial),qb⟩
def laws_toConS.l0 : Nat → List (S147) → List (S80) → Int → Option ((List (S80)))
 | 0,_,_,_ => none
 | k + 1,x0,x3,x4 => if x4 < (x0.length : Int) then (if 0 ≤ x4 then ((laws_toCon.f k ((rd_T147 x0 x4).f0) ((rd_T147 x0 x4).f1)).bind fun bt436 => (if x4 < (x3.length : Int) then (laws_toConS.l0 k x0 (x3.set (x4 : Int).toNat (⟨bt436.1,bt436.2⟩ : S80)) (wrap64 (x4 + 1))) else (none))) else (none)) else (some x3)
def laws_toConS.f (k : Nat) (l0 : List (S147)) : Option ((List (S80))) := if 0 ≤ (l0.length : Int) then (if ((l0.length : Int) : Int).toNat ≤ 7036874417766 then (laws_toConS.l0 k l0 (List.replicate ((l0.length : Int) : Int).toNat z80) 0) else (none)) else (none)
set_option maxHeartbeats 8000000 in
set_option maxRecDepth 100000 in
theorem laws_toConS.calls (k : Nat) (A0 : Option Addr) (c0 : Nat) (l0 : List (S147)) (r : List (S80)) (w : World) (hr0 : Kd.C k147 w A0 l0.length l0) (hc0 : l0.length ≤ c0) (h : laws_toConS.f k l0 = some r) :
  Calls Try.prog 87 #[.slice A0 l0.length c0] w fun e w' => ∃ v0_ : Value,e = .returned (v0_) ∧ Kd.S k80 80 w' w.heap.size (fun _ => True) v0_ r ∧ Below w.heap.size w w' := by
 have hu147 := Try.underlying147
 have hu80 := Try.underlying80
 have HR0 := y0.mk hr0
 have HC0 := y0.mk hc0
 clear hr0 hc0
 have HB := y0.mk (Below.refl w.heap.size w)
 have H : (if 0 ≤ (l0.length : Int) then (if ((l0.length : Int) : Int).toNat ≤ 7036874417766 then (laws_toConS.l0 k l0 (List.replicate ((l0.length : Int) : Int).toNat z80) 0) else (none)) else (none)) = some r := h
 clear h
 obtain ⟨c2,H⟩ := qo H
 have c2b0 := eq_true c2
 have c2b1 := decide_eq_true c2
 clear c2
 obtain ⟨c3,H⟩ := qo H
 have c3b0 := eq_true c3
 have c3b1 := decide_eq_true c3
 clear c3
 obtain ⟨y432,hy432⟩ : ∃ y_ : List (S80),y_ = (List.replicate ((l0.length : Int) : Int).toNat z80) := ⟨_,rfl⟩
 replace H : (laws_toConS.l0 k l0 y432 0) = some r := by first | (rw [hy432]; with_reducible exact H) | (have H2_ := (Option.bind_some _ _).symm.trans H; rw [hy432]; with_reducible exact H2_) | (have H2_ := (Option.bind_some _ _).symm.trans H; with_reducible exact H2_) | with_reducible exact H | (rw [hy432]; exact H) | exact H
 have Ny432 := y0.mk hy432
 clear hy432
 have H' := y0.mk H
 clear H
 go_enter Try.func87,Try.ntmps87
 go_wp2_with (first | ((with_reducible refine y16 (N := 7) rfl ?_); refine Kd.S_make k80 _ 80 rfl (N := 7) rfl 76 _ _ rfl (l0.length : Int) rfl rfl Try.underlying76 (.agg #[(.string ⟨#[]⟩),(.slice none 0 0)]) 40 info80 rfl (by decide) (by omega) z80 (ok := fun _ => True) (okp := fun _ => True) (k80_mkM _ _ _ z80 (Kd.R_nil _ _ _ _ _)) (fun _ hk => hk) trivial (of_decide_eq_true qy1) (Nat.le_trans (Nat.mul_le_mul_right _ (of_decide_eq_true qy1 : (l0.length : Int).toNat ≤ 7036874417766)) (by omega)) (Below.refl _ _) (Nat.le_refl _) ?_; intro v433 w4 ho5 hb hg_ hnew_; clear hg_ hnew_; (first | rw [← Ny432.out] at ho5 | (simp only [Int.reduceToNat] at ho5; rw [← Ny432.out] at ho5)); have HO434 := y0.mk (Kd.S_lower ho5 (y3 qb)); replace HB := y0.mk (y4 qb hb); clear hb ho5))
 go_loopg [4] k (fun kq v4 w' => ∃ (x3_1 : List (S80)) (x4_1 : Int),v4 = .int .i64 x4_1 ∧ y0 (laws_toConS.l0 kq l0 x3_1 x4_1 = some r) ∧ y0 (kq ≤ k) ∧ y0 (Kd.S k80 80 w' w.heap.size (fun _ => True) v433 x3_1) ∧ y0 (Below w.heap.size w w'))
 case atStart => exact ⟨(y432),(0),qy2,H',⟨Nat.le_refl _⟩,⟨qS HO434.out⟩,⟨qb⟩⟩
 case round =>
  clear H'
  (try clear c2b0 c2b1 c3b0 c3b1)
  obtain ⟨x3_1,x4_1,rfl,HA,HK1,HO_3,HB⟩ := hrel
  cases gk with
  | zero => exact absurd HA.out (by simp [laws_toConS.l0])
  | succ k1 =>
   have H := HA.out
   clear HA
   simp only [laws_toConS.l0] at H
   by_cases c6 : x4_1 < (l0.length : Int)
   ·rw [if_pos c6] at H
    have c6b0 := decide_eq_true c6
    clear c6
    obtain ⟨c7,H⟩ := qo H
    have c7b0 : decide (0 ≤ x4_1) = true := decide_eq_true c7
    clear c7
    obtain ⟨⟨t436,t437⟩,A8,H⟩ := qB H
    replace H : (if x4_1 < (x3_1.length : Int) then (laws_toConS.l0 k1 l0 (x3_1.set (x4_1 : Int).toNat (⟨t436,t437⟩ : S80)) (wrap64 (x4_1 + 1))) else (none)) = some r := H
    obtain ⟨c9,H⟩ := qo H
    have c9b0 : decide (x4_1 < (x3_1.length : Int)) = true := decide_eq_true c9
    clear c9
    obtain ⟨y440,hy440⟩ : ∃ y_ : List (S80),y_ = (x3_1.set (x4_1 : Int).toNat (⟨t436,t437⟩ : S80)) := ⟨_,rfl⟩
    replace H : (laws_toConS.l0 k1 l0 y440 (wrap64 (x4_1 + 1))) = some r := by first | (rw [hy440]; with_reducible exact H) | (have H2_ := (Option.bind_some _ _).symm.trans H; rw [hy440]; with_reducible exact H2_) | (have H2_ := (Option.bind_some _ _).symm.trans H; with_reducible exact H2_) | with_reducible exact H | (rw [hy440]; exact H) | exact H
    have Ny440 := y0.mk hy440
    clear hy440
    have H' := y0.mk H
    clear H
    have p435 : 0 ≤ (x4_1 : Int) := of_decide_eq_true qy1
    have q435 : x4_1 < (l0.length : Int) := of_decide_eq_true qy1
    obtain ⟨ad435,A435_1,c435_1,e435,hx435_0,hx435_1,hl435_1,hi435_1⟩ := at_T147 HR0.out x4_1 p435 q435
    cases e435
    replace hx435_0 := (HB.out.cell (World.block_lt_of_cell? w _ hx435_0)).trans hx435_0
    replace hx435_1 := (HB.out.cell (World.block_lt_of_cell? w _ hx435_1)).trans hx435_1
    have HR435_1 := y0.mk hi435_1
    have HC435_1 := y0.mk hl435_1
    clear hi435_1 hl435_1
    replace p435 := eq_true p435
    replace q435 := eq_true q435
    go_wp2_with (first | ((with_reducible refine y15 (f := 97) rfl ?_); refine y17 (some 20) rfl rfl Try.func97 (by kernel_rfl) rfl #[.agg #[.string ((rd_T147 l0 x4_1).f0),.slice A435_1 ((rd_T147 l0 x4_1).f1).length c435_1]] rfl qy0 ?_; (with_reducible refine (laws_toCon.calls k1 ((rd_T147 l0 x4_1).f0) _ _ ((rd_T147 l0 x4_1).f1) t436 t437 _ (qc (Kd.C_below HR435_1.out HB.out)) HC435_1.out A8.out).mono ?_); rintro e w11 ⟨v438,rfl,ho0,hb⟩; refine ⟨_,rfl, ?_⟩; replace HO_3 := y0.mk (Kd.S_elder' (qS HO_3.out) (Kd.R_base ho0) hb); have HO439 := y0.mk (Kd.R_lower ho0 (y3 qb)); replace HB := y0.mk (y4 qb hb); (try clear hb); (try clear hb2); (try clear hk); (try clear hi); (try clear ho0); have p10 : 0 ≤ (x4_1 : Int) := of_decide_eq_true qy1; have q10 : (x4_1 : Int) < ((x3_1.length : Int) : Int) := of_decide_eq_true qy1; obtain ⟨go10,co10,eo10,gb10,gl10,cl10,HG10⟩ := Kd.S_form HO_3.out (by omega); (first | cases eo10 | (injection eo10 with ea_ en_ ec_; (first | subst ea_ | (injection ea_ with ea_; subst ea_)); subst ec_; clear en_)); have GB10 := y0.mk gb10; have GG10 := y0.mk HG10; clear gb10 gl10 HG10; obtain ⟨_,ce10,hcl10,hM10,hcc10,hfr10,_,_⟩ := Kd.S_elem HO_3.out z80 (x4_1 : Int) p10 q10; obtain ⟨ve10_1,rfl,ge10_1⟩ := k80_openM hM10; have hx10_0 : w11.cell? ⟨go10,(x4_1 : Int).toNat * 2,none⟩ = some (.string ((y22 x3_1 x4_1).f0)) := hcc10 0 _ rfl; have hx10_1 : w11.cell? ⟨go10,(x4_1 : Int).toNat * 2 + 1,none⟩ = some (ve10_1) := hcc10 1 _ rfl; have hf10_0 : w11.frozen? ⟨go10,(x4_1 : Int).toNat * 2,none⟩ = false := hfr10 0; have hf10_1 : w11.frozen? ⟨go10,(x4_1 : Int).toNat * 2 + 1,none⟩ = false := hfr10 1; clear hcl10 hcc10 hfr10 hM10; replace p10 := eq_true p10; replace q10 := eq_true q10; have n_ := y0.mk (Kd.S_mono (ok' := (fun k_ => some k_ ≠ (v438 : Value).ownBlock)) HO_3.out (fun k_ hk => hk.2)); clear HO_3; have HO_3 := n_; clear n_; have HX12 := y0.mk (show Kd.S k80 80 w11 w.heap.size (fun k_ => ((fun _ => True)) k_ ∧ ¬ ((fun k_ => some k_ = (v438 : Value).ownBlock)) k_) (.slice (some ⟨go10,0,none⟩) x3_1.length co10) x3_1 from (qS (Kd.S_mono HO_3.out (fun k_ hk => ⟨trivial,fun e_ => hk e_⟩)))); obtain ⟨oki12,ce12,hcl12,hM12,hcc12,hfr12,hoki12,hH12⟩ := Kd.S_elem HX12.out z80 (x4_1 : Int) (of_decide_eq_true qy1) (by have h_ : (x4_1 : Int) < ((x3_1.length : Int) : Int) := of_decide_eq_true qy1; first | exact h_ | (have e_ := (Kd.S_reads' HO_3.out).1; omega) | simpa using h_); obtain ⟨ve12_1,rfl,ge12_1⟩ := k80_openM hM12; have HP12 := Kd.S_seg hH12 (of_decide_eq_true qy1) (by have h_ : (x4_1 : Int) < ((x3_1.length : Int) : Int) := of_decide_eq_true qy1; first | exact h_ | (have e_ := (Kd.S_reads' HO_3.out).1; omega) | simpa using h_) (seg := [.string t436,v438]) (j := 0) (show 2 ≤ 2 from by decide) (x' := (⟨t436,t437⟩ : S80)) (k80_mkM _ _ _ (⟨t436,t437⟩ : S80) (Kd.R_mono (Kd.R_tight rfl (Kd.R_mono (ok' := fun k_ => ((fun _ => True)) k_ ∧ k_ ≠ go10) (Kd.R_apart' (HO439.out) (Kd.S_typed HO_3.out) (by decide)) (fun k_ hk => ⟨trivial,fun e_ => (hk.2) (by rw [e_]; rfl)⟩))) (fun _ h_ => Or.inr (h_)))) (fun _ hk => hk) (fun k_ hk_ => ((Kd.R_mono (ok' := fun k_ => ((fun _ => True)) k_ ∧ k_ ≠ go10) (Kd.R_apart' (HO439.out) (Kd.S_typed HO_3.out) (by decide)) (fun k_ hk => ⟨trivial,fun e_ => (hk.2) (by rw [e_]; rfl)⟩))).1 k_ hk_.symm); have hx12_0 := hcc12 0 _ rfl; (try simp only [show (k80).sz = 2 from rfl,Nat.mul_one,Nat.add_zero] at hx12_0); have hf12_0 := hfr12 0; (try simp only [show (k80).sz = 2 from rfl,Nat.mul_one,Nat.add_zero] at hf12_0); have hx12_1 := hcc12 1 _ rfl; (try simp only [show (k80).sz = 2 from rfl,Nat.mul_one,Nat.add_zero] at hx12_1); have hf12_1 := hfr12 1; (try simp only [show (k80).sz = 2 from rfl,Nat.mul_one,Nat.add_zero] at hf12_1); clear hcl12 hcc12 hfr12 hM12 hoki12 hH12) | ((with_reducible refine gate_store (t := 80) (p := 21) rfl ?_); refine store_event (t := 80) (p := 21) (v := ?vo_w13) (w1 := ((w11.setCell ⟨go10,(x4_1 : Int).toNat * 2,none⟩ (.string t436)).setCell ⟨go10,(x4_1 : Int).toNat * 2 + 1,none⟩ (v438))) ?hg ?ho ?hn ?hr ?_; (case ho => rfl); (case hg => rfl); (case hn => rfl); (case hr => (first | (obtain ⟨_,_,eo_⟩ := Kd.R_slice HO439.out; subst eo_) | (obtain ⟨_,_,eo_⟩ := Kd.S_slice HO439.out; subst eo_) | (obtain ⟨_,_,eo_⟩ := Kd.N_slice HO439.out; subst eo_) | skip); first | (go_simp; done) | (go_simp; rfl)); intro w13 hw; have hg : w11.grownBy w13 (some go10) := (by rw [hw]; exact HP12.2); have hp_ : Kd.S k80 80 w13 w.heap.size (fun _ => True) (.slice (some ⟨go10,0,none⟩) x3_1.length co10) y440 := (by rw [hw,Ny440.out]; exact HP12.1); clear HP12; replace HO_3 := y0.mk (hp_); replace HB := y0.mk ((by rw [hw]; exact below_set (below_set (HB.out) GB10.out) GB10.out : Below w.heap.size w w13)); clear HO439; clear hg hw hp_))
    go_roundg k1
    case measure => have := HK1.out; omega
    exact ⟨(y440),(wrap64 (x4_1 + 1)),qy2,H',⟨by have := HK1.out; omega⟩,⟨qS HO_3.out⟩,⟨qb⟩⟩
   ·rw [if_neg c6] at H
    have c6b0 := decide_eq_false c6
    clear c6
    obtain rfl := Option.some.inj H
    go_wp2
    go_ret
    exact ⟨_,by first | rfl | (simp [y12,y13] <;> rfl) | (simp [*,y12,y13] <;> rfl),by (with_reducible repeat (first | apply Kd.S_alloc | apply Kd.S_drewN | apply Kd.S_drew)); exact HO_3.out,qb⟩
def laws_toTypeDecl.f (k : Nat) (a0_0 : ByteArray) (l0_1 : List (S147)) : Option (ByteArray × (List (S80))) := (laws_toConS.f k l0_1).bind fun t444 => (some (a0_0,t444))
set_option maxHeartbeats 8000000 in
set_option maxRecDepth 100000 in
theorem laws_toTypeDecl.calls (k : Nat) (a0_0 : ByteArray) (A0_1 : Option Addr) (c0_1 : Nat) (l0_1 : List (S147)) (r1 : ByteArray) (r2 : List (S80)) (w : World) (hr0_1 : Kd.C k147 w A0_1 l0_1.length l0_1) (hc0_1 : l0_1.length ≤ c0_1) (h : laws_toTypeDecl.f k a0_0 l0_1 = some (r1,r2)) :
  Calls Try.prog 66 #[.agg #[.string a0_0,.slice A0_1 l0_1.length c0_1]] w fun e w' => ∃ v1_ : Value,e = .returned (.agg #[.string r1,v1_]) ∧ Kd.S k80 80 w' w.heap.size (fun _ => True) v1_ r2 ∧ Below w.heap.size w w' := by
 have hu112 := Try.underlying112
 have hu78 := Try.underlying78
 have HR0_1 := y0.mk hr0_1
 have HC0_1 := y0.mk hc0_1
 clear hr0_1 hc0_1
 have HB := y0.mk (Below.refl w.heap.size w)
 have H : ((laws_toConS.f k l0_1).bind fun t444 => (some (a0_0,t444))) = some (r1,r2) := h
 clear h
 obtain ⟨t444,A2,H⟩ := qB H
 simp only [Option.some.injEq,Prod.mk.injEq] at H
 obtain ⟨rfl,rfl⟩ := H
 go_enter Try.func66,Try.ntmps66
 go_wp2_with (first | ((with_reducible refine y16 (N := 1) rfl ?_); refine qe 1 #[.string a0_0,.slice A0_1 l0_1.length c0_1] 112 ?_; intro gb441 hg w3 hbox hb; have BK441 := y0.mk (hbox); have GW441 := y0.mk (qg (w := w) hg); have GE441 := y0.mk (qg (w := w) hg); replace HB := y0.mk (y4 qb hb); clear hb hbox hg) | ((with_reducible refine y16 (N := 2) rfl ?_); refine qe 2 #[.string (⟨#[]⟩ : ByteArray),.slice none 0 0] 78 ?_; intro gb442 hg w4 hbox hb; have BK442 := y0.mk (hbox); have GW442 := y0.mk (qg (w := w) hg); have GE442 := y0.mk (qg (w := w) hg); replace HB := y0.mk (y4 qb hb); have NB441_442 := y0.mk (qn BK441.out hg); have NB442_441 := y0.mk (qm BK441.out hg); replace BK441 := y0.mk (qK BK441.out hb); clear hb hbox hg) | ((with_reducible refine y16 (N := 3) rfl ?_); refine qe 3 #[.string (⟨#[]⟩ : ByteArray),.slice none 0 0] 78 ?_; intro gb443 hg w5 hbox hb; have BK443 := y0.mk (hbox); have GW443 := y0.mk (qg (w := w) hg); have GE443 := y0.mk (qg (w := w) hg); replace HB := y0.mk (y4 qb hb); have NB441_443 := y0.mk (qn BK441.out hg); have NB443_441 := y0.mk (qm BK441.out hg); replace BK441 := y0.mk (qK BK441.out hb); have NB442_443 := y0.mk (qn BK442.out hg); have NB443_442 := y0.mk (qm BK442.out hg); replace BK442 := y0.mk (qK BK442.out hb); clear hb hbox hg; have hnb6 := NB441_442.out; have hnc6 := NB442_441.out; have hnb7 := NB441_443.out; have hnc7 := NB443_441.out; obtain ⟨hcz8_0,hcz8_1,hfz8_0,hfz8_1⟩ := qz2 BK441.out; have hnb9 := NB443_442.out; have hnc9 := NB442_443.out; obtain ⟨hcz10_0,hcz10_1,hfz10_0,hfz10_1⟩ := qz2 BK443.out) | ((with_reducible refine y15 (f := 87) rfl ?_); refine y17 (some 9) rfl rfl Try.func87 (by kernel_rfl) rfl #[.slice A0_1 l0_1.length c0_1] rfl qy0 ?_; (with_reducible refine (laws_toConS.calls k _ _ l0_1 t444 _ (by exact Kd.C_below HR0_1.out qb) HC0_1.out A2.out).mono ?_); rintro e w11 ⟨v445,rfl,ho0,hb⟩; refine ⟨_,rfl, ?_⟩; have HO446 := y0.mk (Kd.S_lower ho0 (y3 qb)); replace BK441 := y0.mk (y6 (g := gb441) (o := .cells #[.string a0_0,.slice A0_1 l0_1.length c0_1] 112 (0,0)) (by (with_reducible repeat (first | refine y9 ?_ _ | refine y8 ?_ | refine y5 ?_ _)); refine y10 ?_ NB441_443.out _; (with_reducible repeat (first | refine y9 ?_ _ | refine y8 ?_ | refine y5 ?_ _)); exact BK441.out) hb); replace BK442 := y0.mk (y6 (g := gb442) (o := .cells #[.string (⟨#[]⟩ : ByteArray),.slice none 0 0] 78 (0,0)) (by (with_reducible repeat (first | refine y9 ?_ _ | refine y8 ?_ | refine y5 ?_ _)); refine y10 ?_ NB442_443.out _; (with_reducible repeat (first | refine y9 ?_ _ | refine y8 ?_ | refine y5 ?_ _)); exact BK442.out) hb); replace BK443 := y0.mk (y6 (g := gb443) (o := .cells #[.string a0_0,.slice none 0 0] 78 (0,0)) (by (with_reducible repeat (first | refine y9 ?_ _ | refine y8 ?_ | refine y5 ?_ _)); refine y11 (cs := #[.string (⟨#[]⟩ : ByteArray),.slice none 0 0]) ?_ 0 _ rfl; (with_reducible repeat (first | refine y9 ?_ _ | refine y8 ?_ | refine y5 ?_ _)); exact BK443.out) hb); replace HB := y0.mk (y4 qb hb); (try clear hb); (try clear hb2); (try clear hk); (try clear hi); (try clear ho0); obtain ⟨Ao12,co12,eo12⟩ := Kd.S_slice HO446.out; subst eo12; obtain ⟨hcz13_0,hcz13_1,hfz13_0,hfz13_1⟩ := qz2 BK443.out; obtain ⟨hcz14_0,hcz14_1,hfz14_0,hfz14_1⟩ := qz2 BK442.out))
 refine bodyPost_ret (results_cell_row rfl _ _ gb442 78 #[.string a0_0,.slice Ao12 t444.length co12] (0,0) _ rfl (by (with_reducible repeat (first | refine y9 ?_ _ | refine y8 ?_ | refine y5 ?_ _)); refine y11 (cs := #[.string a0_0,.slice none 0 0]) ?_ 1 _ rfl; (with_reducible repeat (first | refine y9 ?_ _ | refine y8 ?_ | refine y5 ?_ _)); refine y11 (cs := #[.string (⟨#[]⟩ : ByteArray),.slice none 0 0]) ?_ 0 _ rfl; (with_reducible repeat (first | refine y9 ?_ _ | refine y8 ?_ | refine y5 ?_ _)); refine y10 ?_ NB442_443.out _; (with_reducible repeat (first | refine y9 ?_ _ | refine y8 ?_ | refine y5 ?_ _)); exact BK442.out) Try.underlying78 rfl (by kernel_rfl)) rfl ?_
 exact ⟨_,by first | rfl | (simp [y12,y13] <;> rfl) | (simp [*,y12,y13] <;> rfl),by (with_reducible repeat (first | apply Kd.S_alloc | apply Kd.S_drewN | apply Kd.S_drew)); exact Kd.S_mono (Kd.S_far (p := ⟨gb442,1,none⟩) (Kd.S_far (p := ⟨gb442,0,none⟩) (Kd.S_far (p := ⟨gb443,1,none⟩) (Kd.S_types (Kd.S_types HO446.out BK443.out (by decide)) BK442.out (by decide)) (fun _ hk => hk.1.2) (.slice Ao12 t444.length co12)) (fun _ hk => hk.2) (.string a0_0)) (fun _ hk => hk.2) (.slice Ao12 t444.length co12)) (fun _ hk => trivial),qb⟩
def laws_toTypeDeclS.l0 : Nat → List (S112) → List (S78) → Int → Option ((List (S78)))
 | 0,_,_,_ => none
 | k + 1,x0,x3,x4 => if x4 < (x0.length : Int) then (if 0 ≤ x4 then ((laws_toTypeDecl.f k ((rd_T112 x0 x4).f0) ((rd_T112 x0 x4).f1)).bind fun bt451 => (if x4 < (x3.length : Int) then (laws_toTypeDeclS.l0 k x0 (x3.set (x4 : Int).toNat (⟨bt451.1,bt451.2⟩ : S78)) (wrap64 (x4 + 1))) else (none))) else (none)) else (some x3)
def laws_toTypeDeclS.f (k : Nat) (l0 : List (S112)) : Option ((List (S78))) := if 0 ≤ (l0.length : Int) then (if ((l0.length : Int) : Int).toNat ≤ 7036874417766 then (laws_toTypeDeclS.l0 k l0 (List.replicate ((l0.length : Int) : Int).toNat z78) 0) else (none)) else (none)
set_option maxHeartbeats 8000000 in
set_option maxRecDepth 100000 in
theorem laws_toTypeDeclS.calls (k : Nat) (A0 : Option Addr) (c0 : Nat) (l0 : List (S112)) (r : List (S78)) (w : World) (hr0 : Kd.C k112 w A0 l0.length l0) (hc0 : l0.length ≤ c0) (h : laws_toTypeDeclS.f k l0 = some r) :
  Calls Try.prog 39 #[.slice A0 l0.length c0] w fun e w' => ∃ v0_ : Value,e = .returned (v0_) ∧ Kd.R k78 78 w' w.heap.size (fun _ => True) v0_ r ∧ Below w.heap.size w w' := by
 have hu112 := Try.underlying112
 have hu78 := Try.underlying78
 have HR0 := y0.mk hr0
 have HC0 := y0.mk hc0
 clear hr0 hc0
 have HB := y0.mk (Below.refl w.heap.size w)
 have H : (if 0 ≤ (l0.length : Int) then (if ((l0.length : Int) : Int).toNat ≤ 7036874417766 then (laws_toTypeDeclS.l0 k l0 (List.replicate ((l0.length : Int) : Int).toNat z78) 0) else (none)) else (none)) = some r := h
 clear h
 obtain ⟨c2,H⟩ := qo H
 have c2b0 := eq_true c2
 have c2b1 := decide_eq_true c2
 clear c2
 obtain ⟨c3,H⟩ := qo H
 have c3b0 := eq_true c3
 have c3b1 := decide_eq_true c3
 clear c3
 obtain ⟨y447,hy447⟩ : ∃ y_ : List (S78),y_ = (List.replicate ((l0.length : Int) : Int).toNat z78) := ⟨_,rfl⟩
 replace H : (laws_toTypeDeclS.l0 k l0 y447 0) = some r := by first | (rw [hy447]; with_reducible exact H) | (have H2_ := (Option.bind_some _ _).symm.trans H; rw [hy447]; with_reducible exact H2_) | (have H2_ := (Option.bind_some _ _).symm.trans H; with_reducible exact H2_) | with_reducible exact H | (rw [hy447]; exact H) | exact H
 have Ny447 := y0.mk hy447
 clear hy447
 have H' := y0.mk H
 clear H
 go_enter Try.func39,Try.ntmps39
 go_wp2_with (first | ((with_reducible refine y16 (N := 7) rfl ?_); refine Kd.R_make k78 _ 78 rfl (N := 7) rfl 46 _ _ rfl (l0.length : Int) rfl rfl Try.underlying46 (.agg #[(.string ⟨#[]⟩),(.slice none 0 0)]) 40 info78 rfl (by decide) (by omega) z78 (ok := fun _ => True) (okp := fun _ => True) (k78_mkM _ _ _ z78 (Kd.R_nil _ _ _ _ _)) (fun _ hk => hk) trivial (of_decide_eq_true qy1) (Nat.le_trans (Nat.mul_le_mul_right _ (of_decide_eq_true qy1 : (l0.length : Int).toNat ≤ 7036874417766)) (by omega)) (Below.refl _ _) (Nat.le_refl _) ?_; intro v448 w4 ho5 hb hg_ hnew_; clear hg_ hnew_; (first | rw [← Ny447.out] at ho5 | (simp only [Int.reduceToNat] at ho5; rw [← Ny447.out] at ho5)); have HO449 := y0.mk (Kd.R_lower ho5 (y3 qb)); replace HB := y0.mk (y4 qb hb); clear hb ho5))
 go_loopg [4] k (fun kq v4 w' => ∃ (x3_1 : List (S78)) (x4_1 : Int),v4 = .int .i64 x4_1 ∧ y0 (laws_toTypeDeclS.l0 kq l0 x3_1 x4_1 = some r) ∧ y0 (kq ≤ k) ∧ y0 (Kd.R k78 78 w' w.heap.size (fun _ => True) v448 x3_1) ∧ y0 (Below w.heap.size w w'))
 case atStart => exact ⟨(y447),(0),qy2,H',⟨Nat.le_refl _⟩,⟨qR HO449.out⟩,⟨qb⟩⟩
 case round =>
  clear H'
  (try clear c2b0 c2b1 c3b0 c3b1)
  obtain ⟨x3_1,x4_1,rfl,HA,HK1,HO_3,HB⟩ := hrel
  cases gk with
  | zero => exact absurd HA.out (by simp [laws_toTypeDeclS.l0])
  | succ k1 =>
   have H := HA.out
   clear HA
   simp only [laws_toTypeDeclS.l0] at H
   by_cases c6 : x4_1 < (l0.length : Int)
   ·rw [if_pos c6] at H
    have c6b0 := decide_eq_true c6
    clear c6
    obtain ⟨c7,H⟩ := qo H
    have c7b0 : decide (0 ≤ x4_1) = true := decide_eq_true c7
    clear c7
    obtain ⟨⟨t451,t452⟩,A8,H⟩ := qB H
    replace H : (if x4_1 < (x3_1.length : Int) then (laws_toTypeDeclS.l0 k1 l0 (x3_1.set (x4_1 : Int).toNat (⟨t451,t452⟩ : S78)) (wrap64 (x4_1 + 1))) else (none)) = some r := H
    obtain ⟨c9,H⟩ := qo H
    have c9b0 : decide (x4_1 < (x3_1.length : Int)) = true := decide_eq_true c9
    clear c9
    obtain ⟨y455,hy455⟩ : ∃ y_ : List (S78),y_ = (x3_1.set (x4_1 : Int).toNat (⟨t451,t452⟩ : S78)) := ⟨_,rfl⟩
    replace H : (laws_toTypeDeclS.l0 k1 l0 y455 (wrap64 (x4_1 + 1))) = some r := by first | (rw [hy455]; with_reducible exact H) | (have H2_ := (Option.bind_some _ _).symm.trans H; rw [hy455]; with_reducible exact H2_) | (have H2_ := (Option.bind_some _ _).symm.trans H; with_reducible exact H2_) | with_reducible exact H | (rw [hy455]; exact H) | exact H
    have Ny455 := y0.mk hy455
    clear hy455
    have H' := y0.mk H
    clear H
    have p450 : 0 ≤ (x4_1 : Int) := of_decide_eq_true qy1
    have q450 : x4_1 < (l0.length : Int) := of_decide_eq_true qy1
    obtain ⟨ad450,A450_1,c450_1,e450,hx450_0,hx450_1,hl450_1,hi450_1⟩ := at_T112 HR0.out x4_1 p450 q450
    cases e450
    replace hx450_0 := (HB.out.cell (World.block_lt_of_cell? w _ hx450_0)).trans hx450_0
    replace hx450_1 := (HB.out.cell (World.block_lt_of_cell? w _ hx450_1)).trans hx450_1
    have HR450_1 := y0.mk hi450_1
    have HC450_1 := y0.mk hl450_1
    clear hi450_1 hl450_1
    replace p450 := eq_true p450
    replace q450 := eq_true q450
    go_wp2_with (first | ((with_reducible refine y15 (f := 66) rfl ?_); refine y17 (some 20) rfl rfl Try.func66 (by kernel_rfl) rfl #[.agg #[.string ((rd_T112 l0 x4_1).f0),.slice A450_1 ((rd_T112 l0 x4_1).f1).length c450_1]] rfl qy0 ?_; (with_reducible refine (laws_toTypeDecl.calls k1 ((rd_T112 l0 x4_1).f0) _ _ ((rd_T112 l0 x4_1).f1) t451 t452 _ (qc (Kd.C_below HR450_1.out HB.out)) HC450_1.out A8.out).mono ?_); rintro e w11 ⟨v453,rfl,ho0,hb⟩; refine ⟨_,rfl, ?_⟩; replace HO_3 := y0.mk (Kd.R_elder' (qR HO_3.out) (Kd.S_base ho0) hb); have HO454 := y0.mk (Kd.S_lower ho0 (y3 qb)); replace HB := y0.mk (y4 qb hb); (try clear hb); (try clear hb2); (try clear hk); (try clear hi); (try clear ho0); have p10 : 0 ≤ (x4_1 : Int) := of_decide_eq_true qy1; have q10 : (x4_1 : Int) < ((x3_1.length : Int) : Int) := of_decide_eq_true qy1; obtain ⟨go10,co10,eo10,gb10,gl10,cl10,HG10⟩ := Kd.R_form HO_3.out (by omega); (first | cases eo10 | (injection eo10 with ea_ en_ ec_; (first | subst ea_ | (injection ea_ with ea_; subst ea_)); subst ec_; clear en_)); have GB10 := y0.mk gb10; have GG10 := y0.mk HG10; clear gb10 gl10 HG10; obtain ⟨ce10,hcl10,hM10,hcc10,hfr10⟩ := Kd.R_elem HO_3.out z78 (x4_1 : Int) p10 q10; obtain ⟨ve10_1,rfl,ge10_1⟩ := k78_openM hM10; have hx10_0 : w11.cell? ⟨go10,(x4_1 : Int).toNat * 2,none⟩ = some (.string ((y21 x3_1 x4_1).f0)) := hcc10 0 _ rfl; have hx10_1 : w11.cell? ⟨go10,(x4_1 : Int).toNat * 2 + 1,none⟩ = some (ve10_1) := hcc10 1 _ rfl; have hf10_0 : w11.frozen? ⟨go10,(x4_1 : Int).toNat * 2,none⟩ = false := hfr10 0; have hf10_1 : w11.frozen? ⟨go10,(x4_1 : Int).toNat * 2 + 1,none⟩ = false := hfr10 1; clear hcl10 hcc10 hfr10 hM10; replace p10 := eq_true p10; replace q10 := eq_true q10; have n_ := y0.mk (Kd.R_mono (ok' := (fun k_ => some k_ ≠ (v453 : Value).ownBlock)) HO_3.out (fun k_ hk => hk.2)); clear HO_3; have HO_3 := n_; clear n_; have HX12 := y0.mk (show Kd.R k78 78 w11 w.heap.size (fun _ => True) (.slice (some ⟨go10,0,none⟩) x3_1.length co10) x3_1 from (qR (Kd.R_mono HO_3.out (fun _ hk => trivial)))); obtain ⟨ce12,hcl12,hM12,hcc12,hfr12⟩ := Kd.R_elem HX12.out z78 (x4_1 : Int) (of_decide_eq_true qy1) (by have h_ : (x4_1 : Int) < ((x3_1.length : Int) : Int) := of_decide_eq_true qy1; first | exact h_ | (have e_ := (Kd.R_reads' HO_3.out).1; omega) | simpa using h_); obtain ⟨ve12_1,rfl,ge12_1⟩ := k78_openM hM12; have HP12 := Kd.R_seg HX12.out (x4_1 : Int) (of_decide_eq_true qy1) (by have h_ : (x4_1 : Int) < ((x3_1.length : Int) : Int) := of_decide_eq_true qy1; first | exact h_ | (have e_ := (Kd.R_reads' HO_3.out).1; omega) | simpa using h_) (seg := [.string t451,v453]) (j := 0) hcl12 hcc12 (show 2 ≤ 2 from by decide) (x' := (⟨t451,t452⟩ : S78)) (k78_mkM _ _ _ (⟨t451,t452⟩ : S78) (Kd.R_mono (Kd.R_apart' ((Kd.S_R HO454.out)) (Kd.R_typed HO_3.out) (by decide)) (fun k_ hk => ⟨trivial,fun e_ => (hk.2) (by rw [e_]; rfl)⟩))) (fun _ hk => hk); have hx12_0 := hcc12 0 _ rfl; (try simp only [show (k78).sz = 2 from rfl,Nat.mul_one,Nat.add_zero] at hx12_0); have hf12_0 := hfr12 0; (try simp only [show (k78).sz = 2 from rfl,Nat.mul_one,Nat.add_zero] at hf12_0); have hx12_1 := hcc12 1 _ rfl; (try simp only [show (k78).sz = 2 from rfl,Nat.mul_one,Nat.add_zero] at hx12_1); have hf12_1 := hfr12 1; (try simp only [show (k78).sz = 2 from rfl,Nat.mul_one,Nat.add_zero] at hf12_1); clear hcl12 hcc12 hfr12 hM12) | ((with_reducible refine gate_store (t := 78) (p := 21) rfl ?_); refine store_event (t := 78) (p := 21) (v := ?vo_w13) (w1 := ((w11.setCell ⟨go10,(x4_1 : Int).toNat * 2,none⟩ (.string t451)).setCell ⟨go10,(x4_1 : Int).toNat * 2 + 1,none⟩ (v453))) ?hg ?ho ?hn ?hr ?_; (case ho => rfl); (case hg => rfl); (case hn => rfl); (case hr => (first | (obtain ⟨_,_,eo_⟩ := Kd.R_slice HO454.out; subst eo_) | (obtain ⟨_,_,eo_⟩ := Kd.S_slice HO454.out; subst eo_) | (obtain ⟨_,_,eo_⟩ := Kd.N_slice HO454.out; subst eo_) | skip); first | (go_simp; done) | (go_simp; rfl)); intro w13 hw; have hg : w11.grownBy w13 (some go10) := (by rw [hw]; exact HP12.2); have hp_ : Kd.R k78 78 w13 w.heap.size (fun _ => True) (.slice (some ⟨go10,0,none⟩) x3_1.length co10) y455 := (by rw [hw,Ny455.out]; exact HP12.1); clear HP12; replace HO_3 := y0.mk (hp_); replace HB := y0.mk ((by rw [hw]; exact below_set (below_set (HB.out) GB10.out) GB10.out : Below w.heap.size w w13)); clear HO454; clear hg hw hp_))
    go_roundg k1
    case measure => have := HK1.out; omega
    exact ⟨(y455),(wrap64 (x4_1 + 1)),qy2,H',⟨by have := HK1.out; omega⟩,⟨qR HO_3.out⟩,⟨qb⟩⟩
   ·rw [if_neg c6] at H
    have c6b0 := decide_eq_false c6
    clear c6
    obtain rfl := Option.some.inj H
    go_wp2
    go_ret
    exact ⟨_,by first | rfl | (simp [y12,y13] <;> rfl) | (simp [*,y12,y13] <;> rfl),by (with_reducible repeat (first | apply Kd.R_alloc | apply Kd.R_drewN | apply Kd.R_drew)); exact HO_3.out,qb⟩
def laws_toRelDecl.f (k : Nat) (a0_0 : ByteArray) (l0_1 : List ByteArray) (a0_2 : Int) : Option (ByteArray × List ByteArray × Int) := (laws_toStringS.f k l0_1).bind fun t459 => (some (a0_0,t459,a0_2))
set_option maxHeartbeats 8000000 in
set_option maxRecDepth 100000 in
theorem laws_toRelDecl.calls (k : Nat) (a0_0 : ByteArray) (A0_1 : Option Addr) (c0_1 : Nat) (l0_1 : List ByteArray) (a0_2 : Int) (r1 : ByteArray) (r2 : List ByteArray) (r3 : Int) (w : World) (hr0_1 : Kd.C Kd.string w A0_1 l0_1.length l0_1) (hc0_1 : l0_1.length ≤ c0_1) (h : laws_toRelDecl.f k a0_0 l0_1 a0_2 = some (r1,r2,r3)) :
  Calls Try.prog 67 #[.agg #[.string a0_0,.slice A0_1 l0_1.length c0_1,.int .i64 a0_2]] w fun e w' => ∃ v1_ : Value,e = .returned (.agg #[.string r1,v1_,.int .i64 r3]) ∧ Kd.R Kd.string 9 w' w.heap.size (fun _ => True) v1_ r2 ∧ Below w.heap.size w w' := by
 have hu114 := Try.underlying114
 have hu84 := Try.underlying84
 have HR0_1 := y0.mk hr0_1
 have HC0_1 := y0.mk hc0_1
 clear hr0_1 hc0_1
 have HB := y0.mk (Below.refl w.heap.size w)
 have H : ((laws_toStringS.f k l0_1).bind fun t459 => (some (a0_0,t459,a0_2))) = some (r1,r2,r3) := h
 clear h
 obtain ⟨t459,A2,H⟩ := qB H
 simp only [Option.some.injEq,Prod.mk.injEq] at H
 obtain ⟨rfl,rfl,rfl⟩ := H
 go_enter Try.func67,Try.ntmps67
 go_wp2_with (first | ((with_reducible refine y16 (N := 1) rfl ?_); refine qe 1 #[.string a0_0,.slice A0_1 l0_1.length c0_1,.int .i64 a0_2] 114 ?_; intro gb456 hg w3 hbox hb; have BK456 := y0.mk (hbox); have GW456 := y0.mk (qg (w := w) hg); have GE456 := y0.mk (qg (w := w) hg); replace HB := y0.mk (y4 qb hb); clear hb hbox hg) | ((with_reducible refine y16 (N := 2) rfl ?_); refine qe 2 #[.string (⟨#[]⟩ : ByteArray),.slice none 0 0,.int .i64 0] 84 ?_; intro gb457 hg w4 hbox hb; have BK457 := y0.mk (hbox); have GW457 := y0.mk (qg (w := w) hg); have GE457 := y0.mk (qg (w := w) hg); replace HB := y0.mk (y4 qb hb); have NB456_457 := y0.mk (qn BK456.out hg); have NB457_456 := y0.mk (qm BK456.out hg); replace BK456 := y0.mk (qK BK456.out hb); clear hb hbox hg) | ((with_reducible refine y16 (N := 3) rfl ?_); refine qe 3 #[.string (⟨#[]⟩ : ByteArray),.slice none 0 0,.int .i64 0] 84 ?_; intro gb458 hg w5 hbox hb; have BK458 := y0.mk (hbox); have GW458 := y0.mk (qg (w := w) hg); have GE458 := y0.mk (qg (w := w) hg); replace HB := y0.mk (y4 qb hb); have NB456_458 := y0.mk (qn BK456.out hg); have NB458_456 := y0.mk (qm BK456.out hg); replace BK456 := y0.mk (qK BK456.out hb); have NB457_458 := y0.mk (qn BK457.out hg); have NB458_457 := y0.mk (qm BK457.out hg); replace BK457 := y0.mk (qK BK457.out hb); clear hb hbox hg; have hnb6 := NB456_457.out; have hnc6 := NB457_456.out; have hnb7 := NB456_458.out; have hnc7 := NB458_456.out; obtain ⟨hcz8_0,hcz8_1,hcz8_2,hfz8_0,hfz8_1,hfz8_2⟩ := qz3 BK456.out; have hnb9 := NB458_457.out; have hnc9 := NB457_458.out; obtain ⟨hcz10_0,hcz10_1,hcz10_2,hfz10_0,hfz10_1,hfz10_2⟩ := qz3 BK458.out) | ((with_reducible refine y15 (f := 88) rfl ?_); refine y17 (some 9) rfl rfl Try.func88 (by kernel_rfl) rfl #[.slice A0_1 l0_1.length c0_1] rfl qy0 ?_; (with_reducible refine (laws_toStringS.calls k _ _ l0_1 t459 _ (by exact Kd.C_below HR0_1.out qb) HC0_1.out A2.out).mono ?_); rintro e w11 ⟨v460,rfl,ho0,hb⟩; refine ⟨_,rfl, ?_⟩; have HO461 := y0.mk (Kd.R_lower ho0 (y3 qb)); replace BK456 := y0.mk (y6 (g := gb456) (o := .cells #[.string a0_0,.slice A0_1 l0_1.length c0_1,.int .i64 a0_2] 114 (0,0)) (by (with_reducible repeat (first | refine y9 ?_ _ | refine y8 ?_ | refine y5 ?_ _)); refine y10 ?_ NB456_458.out _; (with_reducible repeat (first | refine y9 ?_ _ | refine y8 ?_ | refine y5 ?_ _)); exact BK456.out) hb); replace BK457 := y0.mk (y6 (g := gb457) (o := .cells #[.string (⟨#[]⟩ : ByteArray),.slice none 0 0,.int .i64 0] 84 (0,0)) (by (with_reducible repeat (first | refine y9 ?_ _ | refine y8 ?_ | refine y5 ?_ _)); refine y10 ?_ NB457_458.out _; (with_reducible repeat (first | refine y9 ?_ _ | refine y8 ?_ | refine y5 ?_ _)); exact BK457.out) hb); replace BK458 := y0.mk (y6 (g := gb458) (o := .cells #[.string a0_0,.slice none 0 0,.int .i64 0] 84 (0,0)) (by (with_reducible repeat (first | refine y9 ?_ _ | refine y8 ?_ | refine y5 ?_ _)); refine y11 (cs := #[.string (⟨#[]⟩ : ByteArray),.slice none 0 0,.int .i64 0]) ?_ 0 _ rfl; (with_reducible repeat (first | refine y9 ?_ _ | refine y8 ?_ | refine y5 ?_ _)); exact BK458.out) hb); replace HB := y0.mk (y4 qb hb); (try clear hb); (try clear hb2); (try clear hk); (try clear hi); (try clear ho0); obtain ⟨Ao12,co12,eo12⟩ := Kd.R_slice HO461.out; subst eo12; obtain ⟨hcz13_0,hcz13_1,hcz13_2,hfz13_0,hfz13_1,hfz13_2⟩ := qz3 BK458.out; obtain ⟨hcz14_0,hcz14_1,hcz14_2,hfz14_0,hfz14_1,hfz14_2⟩ := qz3 BK456.out; obtain ⟨hcz15_0,hcz15_1,hcz15_2,hfz15_0,hfz15_1,hfz15_2⟩ := qz3 BK457.out))
 refine bodyPost_ret (results_cell_row rfl _ _ gb457 84 #[.string a0_0,.slice Ao12 t459.length co12,.int .i64 a0_2] (0,0) _ rfl (by (with_reducible repeat (first | refine y9 ?_ _ | refine y8 ?_ | refine y5 ?_ _)); refine y11 (cs := #[.string a0_0,.slice Ao12 t459.length co12,.int .i64 0]) ?_ 2 _ rfl; (with_reducible repeat (first | refine y9 ?_ _ | refine y8 ?_ | refine y5 ?_ _)); refine y11 (cs := #[.string a0_0,.slice none 0 0,.int .i64 0]) ?_ 1 _ rfl; (with_reducible repeat (first | refine y9 ?_ _ | refine y8 ?_ | refine y5 ?_ _)); refine y11 (cs := #[.string (⟨#[]⟩ : ByteArray),.slice none 0 0,.int .i64 0]) ?_ 0 _ rfl; (with_reducible repeat (first | refine y9 ?_ _ | refine y8 ?_ | refine y5 ?_ _)); refine y10 ?_ NB457_458.out _; (with_reducible repeat (first | refine y9 ?_ _ | refine y8 ?_ | refine y5 ?_ _)); refine y10 ?_ NB457_458.out _; (with_reducible repeat (first | refine y9 ?_ _ | refine y8 ?_ | refine y5 ?_ _)); exact BK457.out) Try.underlying84 rfl (by kernel_rfl)) rfl ?_
 exact ⟨_,by first | rfl | (simp [y12,y13] <;> rfl) | (simp [*,y12,y13] <;> rfl),by (with_reducible repeat (first | apply Kd.R_alloc | apply Kd.R_drewN | apply Kd.R_drew)); exact Kd.R_mono (Kd.R_far (p := ⟨gb457,2,none⟩) (Kd.R_far (p := ⟨gb457,1,none⟩) (Kd.R_far (p := ⟨gb457,0,none⟩) (Kd.R_far (p := ⟨gb458,2,none⟩) (Kd.R_far (p := ⟨gb458,1,none⟩) (Kd.R_types (Kd.R_types HO461.out BK458.out (by decide)) BK457.out (by decide)) (fun _ hk => hk.1.2) (.slice Ao12 t459.length co12)) (fun _ hk => hk.1.2) (.int .i64 a0_2)) (fun _ hk => hk.2) (.string a0_0)) (fun _ hk => hk.2) (.slice Ao12 t459.length co12)) (fun _ hk => hk.2) (.int .i64 a0_2)) (fun _ hk => trivial),qb⟩
def laws_toRelDeclS.l0 : Nat → List (S114) → List (S84) → Int → Option ((List (S84)))
 | 0,_,_,_ => none
 | k + 1,x0,x3,x4 => if x4 < (x0.length : Int) then (if 0 ≤ x4 then ((laws_toRelDecl.f k ((rd_T114 x0 x4).f0) ((rd_T114 x0 x4).f1) ((rd_T114 x0 x4).f2)).bind fun bt466 => (if x4 < (x3.length : Int) then (laws_toRelDeclS.l0 k x0 (x3.set (x4 : Int).toNat (⟨bt466.1,bt466.2.1,bt466.2.2⟩ : S84)) (wrap64 (x4 + 1))) else (none))) else (none)) else (some x3)
def laws_toRelDeclS.f (k : Nat) (l0 : List (S114)) : Option ((List (S84))) := if 0 ≤ (l0.length : Int) then (if ((l0.length : Int) : Int).toNat ≤ 5864062014805 then (laws_toRelDeclS.l0 k l0 (List.replicate ((l0.length : Int) : Int).toNat z84) 0) else (none)) else (none)
set_option maxHeartbeats 8000000 in
set_option maxRecDepth 100000 in
theorem laws_toRelDeclS.calls (k : Nat) (A0 : Option Addr) (c0 : Nat) (l0 : List (S114)) (r : List (S84)) (w : World) (hr0 : Kd.C k114 w A0 l0.length l0) (hc0 : l0.length ≤ c0) (h : laws_toRelDeclS.f k l0 = some r) :
  Calls Try.prog 40 #[.slice A0 l0.length c0] w fun e w' => ∃ v0_ : Value,e = .returned (v0_) ∧ Kd.S k84 84 w' w.heap.size (fun _ => True) v0_ r ∧ Below w.heap.size w w' := by
 have hu114 := Try.underlying114
 have hu84 := Try.underlying84
 have HR0 := y0.mk hr0
 have HC0 := y0.mk hc0
 clear hr0 hc0
 have HB := y0.mk (Below.refl w.heap.size w)
 have H : (if 0 ≤ (l0.length : Int) then (if ((l0.length : Int) : Int).toNat ≤ 5864062014805 then (laws_toRelDeclS.l0 k l0 (List.replicate ((l0.length : Int) : Int).toNat z84) 0) else (none)) else (none)) = some r := h
 clear h
 obtain ⟨c2,H⟩ := qo H
 have c2b0 := eq_true c2
 have c2b1 := decide_eq_true c2
 clear c2
 obtain ⟨c3,H⟩ := qo H
 have c3b0 := eq_true c3
 have c3b1 := decide_eq_true c3
 clear c3
 obtain ⟨y462,hy462⟩ : ∃ y_ : List (S84),y_ = (List.replicate ((l0.length : Int) : Int).toNat z84) := ⟨_,rfl⟩
 replace H : (laws_toRelDeclS.l0 k l0 y462 0) = some r := by first | (rw [hy462]; with_reducible exact H) | (have H2_ := (Option.bind_some _ _).symm.trans H; rw [hy462]; with_reducible exact H2_) | (have H2_ := (Option.bind_some _ _).symm.trans H; with_reducible exact H2_) | with_reducible exact H | (rw [hy462]; exact H) | exact H
 have Ny462 := y0.mk hy462
 clear hy462
 have H' := y0.mk H
 clear H
 go_enter Try.func40,Try.ntmps40
 go_wp2_with (first | ((with_reducible refine y16 (N := 7) rfl ?_); refine Kd.S_make k84 _ 84 rfl (N := 7) rfl 47 _ _ rfl (l0.length : Int) rfl rfl Try.underlying47 (.agg #[(.string ⟨#[]⟩),(.slice none 0 0),(.int .i64 0)]) 48 info84 rfl (by decide) (by omega) z84 (ok := fun _ => True) (okp := fun _ => True) (k84_mkM _ _ _ z84 (Kd.R_nil _ _ _ _ _)) (fun _ hk => hk) trivial (of_decide_eq_true qy1) (Nat.le_trans (Nat.mul_le_mul_right _ (of_decide_eq_true qy1 : (l0.length : Int).toNat ≤ 5864062014805)) (by omega)) (Below.refl _ _) (Nat.le_refl _) ?_; intro v463 w4 ho5 hb hg_ hnew_; clear hg_ hnew_; (first | rw [← Ny462.out] at ho5 | (simp only [Int.reduceToNat] at ho5; rw [← Ny462.out] at ho5)); have HO464 := y0.mk (Kd.S_lower ho5 (y3 qb)); replace HB := y0.mk (y4 qb hb); clear hb ho5))
 go_loopg [4] k (fun kq v4 w' => ∃ (x3_1 : List (S84)) (x4_1 : Int),v4 = .int .i64 x4_1 ∧ y0 (laws_toRelDeclS.l0 kq l0 x3_1 x4_1 = some r) ∧ y0 (kq ≤ k) ∧ y0 (Kd.S k84 84 w' w.heap.size (fun _ => True) v463 x3_1) ∧ y0 (Below w.heap.size w w'))
 case atStart => exact ⟨(y462),(0),qy2,H',⟨Nat.le_refl _⟩,⟨qS HO464.out⟩,⟨qb⟩⟩
 case round =>
  clear H'
  (try clear c2b0 c2b1 c3b0 c3b1)
  obtain ⟨x3_1,x4_1,rfl,HA,HK1,HO_3,HB⟩ := hrel
  cases gk with
  | zero => exact absurd HA.out (by simp [laws_toRelDeclS.l0])
  | succ k1 =>
   have H := HA.out
   clear HA
   simp only [laws_toRelDeclS.l0] at H
   by_cases c6 : x4_1 < (l0.length : Int)
   ·rw [if_pos c6] at H
    have c6b0 := decide_eq_true c6
    clear c6
    obtain ⟨c7,H⟩ := qo H
    have c7b0 : decide (0 ≤ x4_1) = true := decide_eq_true c7
    clear c7
    obtain ⟨⟨t466,t467,t470⟩,A8,H⟩ := qB H
    replace H : (if x4_1 < (x3_1.length : Int) then (laws_toRelDeclS.l0 k1 l0 (x3_1.set (x4_1 : Int).toNat (⟨t466,t467,t470⟩ : S84)) (wrap64 (x4_1 + 1))) else (none)) = some r := H
    obtain ⟨c9,H⟩ := qo H
    have c9b0 : decide (x4_1 < (x3_1.length : Int)) = true := decide_eq_true c9
    clear c9
    obtain ⟨y471,hy471⟩ : ∃ y_ : List (S84),y_ = (x3_1.set (x4_1 : Int).toNat (⟨t466,t467,t470⟩ : S84)) := ⟨_,rfl⟩
    replace H : (laws_toRelDeclS.l0 k1 l0 y471 (wrap64 (x4_1 + 1))) = some r := by first | (rw [hy471]; with_reducible exact H) | (have H2_ := (Option.bind_some _ _).symm.trans H; rw [hy471]; with_reducible exact H2_) | (have H2_ := (Option.bind_some _ _).symm.trans H; with_reducible exact H2_) | with_reducible exact H | (rw [hy471]; exact H) | exact H
    have Ny471 := y0.mk hy471
    clear hy471
    have H' := y0.mk H
    clear H
    have p465 : 0 ≤ (x4_1 : Int) := of_decide_eq_true qy1
    have q465 : x4_1 < (l0.length : Int) := of_decide_eq_true qy1
    obtain ⟨ad465,A465_1,c465_1,e465,hx465_0,hx465_1,hx465_2,hl465_1,hi465_1⟩ := at_T114 HR0.out x4_1 p465 q465
    cases e465
    replace hx465_0 := (HB.out.cell (World.block_lt_of_cell? w _ hx465_0)).trans hx465_0
    replace hx465_1 := (HB.out.cell (World.block_lt_of_cell? w _ hx465_1)).trans hx465_1
    replace hx465_2 := (HB.out.cell (World.block_lt_of_cell? w _ hx465_2)).trans hx465_2
    have HR465_1 := y0.mk hi465_1
    have HC465_1 := y0.mk hl465_1
    clear hi465_1 hl465_1
    replace p465 := eq_true p465
    replace q465 := eq_true q465
    go_wp2_with (first | ((with_reducible refine y15 (f := 67) rfl ?_); refine y17 (some 20) rfl rfl Try.func67 (by kernel_rfl) rfl #[.agg #[.string ((rd_T114 l0 x4_1).f0),.slice A465_1 ((rd_T114 l0 x4_1).f1).length c465_1,.int .i64 ((rd_T114 l0 x4_1).f2)]] rfl qy0 ?_; (with_reducible refine (laws_toRelDecl.calls k1 ((rd_T114 l0 x4_1).f0) _ _ ((rd_T114 l0 x4_1).f1) ((rd_T114 l0 x4_1).f2) t466 t467 t470 _ (qc (Kd.C_below HR465_1.out HB.out)) HC465_1.out A8.out).mono ?_); rintro e w11 ⟨v468,rfl,ho0,hb⟩; refine ⟨_,rfl, ?_⟩; replace HO_3 := y0.mk (Kd.S_elder' (qS HO_3.out) (Kd.R_base ho0) hb); have HO469 := y0.mk (Kd.R_lower ho0 (y3 qb)); replace HB := y0.mk (y4 qb hb); (try clear hb); (try clear hb2); (try clear hk); (try clear hi); (try clear ho0); have p10 : 0 ≤ (x4_1 : Int) := of_decide_eq_true qy1; have q10 : (x4_1 : Int) < ((x3_1.length : Int) : Int) := of_decide_eq_true qy1; obtain ⟨go10,co10,eo10,gb10,gl10,cl10,HG10⟩ := Kd.S_form HO_3.out (by omega); (first | cases eo10 | (injection eo10 with ea_ en_ ec_; (first | subst ea_ | (injection ea_ with ea_; subst ea_)); subst ec_; clear en_)); have GB10 := y0.mk gb10; have GG10 := y0.mk HG10; clear gb10 gl10 HG10; obtain ⟨_,ce10,hcl10,hM10,hcc10,hfr10,_,_⟩ := Kd.S_elem HO_3.out z84 (x4_1 : Int) p10 q10; obtain ⟨ve10_1,rfl,ge10_1⟩ := k84_openM hM10; have hx10_0 : w11.cell? ⟨go10,(x4_1 : Int).toNat * 3,none⟩ = some (.string ((y23 x3_1 x4_1).f0)) := hcc10 0 _ rfl; have hx10_1 : w11.cell? ⟨go10,(x4_1 : Int).toNat * 3 + 1,none⟩ = some (ve10_1) := hcc10 1 _ rfl; have hx10_2 : w11.cell? ⟨go10,(x4_1 : Int).toNat * 3 + 2,none⟩ = some (.int .i64 ((y23 x3_1 x4_1).f2)) := hcc10 2 _ rfl; have hf10_0 : w11.frozen? ⟨go10,(x4_1 : Int).toNat * 3,none⟩ = false := hfr10 0; have hf10_1 : w11.frozen? ⟨go10,(x4_1 : Int).toNat * 3 + 1,none⟩ = false := hfr10 1; have hf10_2 : w11.frozen? ⟨go10,(x4_1 : Int).toNat * 3 + 2,none⟩ = false := hfr10 2; clear hcl10 hcc10 hfr10 hM10; replace p10 := eq_true p10; replace q10 := eq_true q10; have n_ := y0.mk (Kd.S_mono (ok' := (fun k_ => some k_ ≠ (v468 : Value).ownBlock)) HO_3.out (fun k_ hk => hk.2)); clear HO_3; have HO_3 := n_; clear n_; have HX12 := y0.mk (show Kd.S k84 84 w11 w.heap.size (fun k_ => ((fun _ => True)) k_ ∧ ¬ ((fun k_ => some k_ = (v468 : Value).ownBlock)) k_) (.slice (some ⟨go10,0,none⟩) x3_1.length co10) x3_1 from (qS (Kd.S_mono HO_3.out (fun k_ hk => ⟨trivial,fun e_ => hk e_⟩)))); obtain ⟨oki12,ce12,hcl12,hM12,hcc12,hfr12,hoki12,hH12⟩ := Kd.S_elem HX12.out z84 (x4_1 : Int) (of_decide_eq_true qy1) (by have h_ : (x4_1 : Int) < ((x3_1.length : Int) : Int) := of_decide_eq_true qy1; first | exact h_ | (have e_ := (Kd.S_reads' HO_3.out).1; omega) | simpa using h_); obtain ⟨ve12_1,rfl,ge12_1⟩ := k84_openM hM12; have HP12 := Kd.S_seg hH12 (of_decide_eq_true qy1) (by have h_ : (x4_1 : Int) < ((x3_1.length : Int) : Int) := of_decide_eq_true qy1; first | exact h_ | (have e_ := (Kd.S_reads' HO_3.out).1; omega) | simpa using h_) (seg := [.string t466,v468,.int .i64 t470]) (j := 0) (show 3 ≤ 3 from by decide) (x' := (⟨t466,t467,t470⟩ : S84)) (k84_mkM _ _ _ (⟨t466,t467,t470⟩ : S84) (Kd.R_mono (Kd.R_tight rfl (Kd.R_mono (ok' := fun k_ => ((fun _ => True)) k_ ∧ k_ ≠ go10) (Kd.R_apart' (HO469.out) (Kd.S_typed HO_3.out) (by decide)) (fun k_ hk => ⟨trivial,fun e_ => (hk.2) (by rw [e_]; rfl)⟩))) (fun _ h_ => Or.inr (h_)))) (fun _ hk => hk) (fun k_ hk_ => ((Kd.R_mono (ok' := fun k_ => ((fun _ => True)) k_ ∧ k_ ≠ go10) (Kd.R_apart' (HO469.out) (Kd.S_typed HO_3.out) (by decide)) (fun k_ hk => ⟨trivial,fun e_ => (hk.2) (by rw [e_]; rfl)⟩))).1 k_ hk_.symm); have hx12_0 := hcc12 0 _ rfl; (try simp only [show (k84).sz = 3 from rfl,Nat.mul_one,Nat.add_zero] at hx12_0); have hf12_0 := hfr12 0; (try simp only [show (k84).sz = 3 from rfl,Nat.mul_one,Nat.add_zero] at hf12_0); have hx12_1 := hcc12 1 _ rfl; (try simp only [show (k84).sz = 3 from rfl,Nat.mul_one,Nat.add_zero] at hx12_1); have hf12_1 := hfr12 1; (try simp only [show (k84).sz = 3 from rfl,Nat.mul_one,Nat.add_zero] at hf12_1); have hx12_2 := hcc12 2 _ rfl; (try simp only [show (k84).sz = 3 from rfl,Nat.mul_one,Nat.add_zero] at hx12_2); have hf12_2 := hfr12 2; (try simp only [show (k84).sz = 3 from rfl,Nat.mul_one,Nat.add_zero] at hf12_2); clear hcl12 hcc12 hfr12 hM12 hoki12 hH12) | ((with_reducible refine gate_store (t := 84) (p := 21) rfl ?_); refine store_event (t := 84) (p := 21) (v := ?vo_w13) (w1 := (((w11.setCell ⟨go10,(x4_1 : Int).toNat * 3,none⟩ (.string t466)).setCell ⟨go10,(x4_1 : Int).toNat * 3 + 1,none⟩ (v468)).setCell ⟨go10,(x4_1 : Int).toNat * 3 + 2,none⟩ (.int .i64 t470))) ?hg ?ho ?hn ?hr ?_; (case ho => rfl); (case hg => rfl); (case hn => rfl); (case hr => (first | (obtain ⟨_,_,eo_⟩ := Kd.R_slice HO469.out; subst eo_) | (obtain ⟨_,_,eo_⟩ := Kd.S_slice HO469.out; subst eo_) | (obtain ⟨_,_,eo_⟩ := Kd.N_slice HO469.out; subst eo_) | skip); first | (go_simp; done) | (go_simp; rfl)); intro w13 hw; have hg : w11.grownBy w13 (some go10) := (by rw [hw]; exact HP12.2); have hp_ : Kd.S k84 84 w13 w.heap.size (fun _ => True) (.slice (some ⟨go10,0,none⟩) x3_1.length co10) y471 := (by rw [hw,Ny471.out]; exact HP12.1); clear HP12; replace HO_3 := y0.mk (hp_); replace HB := y0.mk ((by rw [hw]; exact below_set (below_set (below_set (HB.out) GB10.out) GB10.out) GB10.out : Below w.heap.size w w13)); clear HO469; clear hg hw hp_))
    go_roundg k1
    case measure => have := HK1.out; omega
    exact ⟨(y471),(wrap64 (x4_1 + 1)),qy2,H',⟨by have := HK1.out; omega⟩,⟨qS HO_3.out⟩,⟨qb⟩⟩
   ·rw [if_neg c6] at H
    have c6b0 := decide_eq_false c6
    clear c6
    obtain rfl := Option.some.inj H
    go_wp2
    go_ret
    exact ⟨_,by first | rfl | (simp [y12,y13] <;> rfl) | (simp [*,y12,y13] <;> rfl),by (with_reducible repeat (first | apply Kd.S_alloc | apply Kd.S_drewN | apply Kd.S_drew)); exact HO_3.out,qb⟩
def laws_toRuleS.l0 : Nat → List (S28) → List (S35) → Int → Option ((List (S35)))
 | 0,_,_,_ => none
 | k + 1,x0,x3,x4 => if x4 < (x0.length : Int) then (if 0 ≤ x4 then ((laws_toRule.f k ((rd_T28 x0 x4).f0) ((rd_T28 x0 x4).f1.f0) ((rd_T28 x0 x4).f1.f1) ((rd_T28 x0 x4).f1.f2) ((rd_T28 x0 x4).f2)).bind fun bt476 => (if x4 < (x3.length : Int) then (laws_toRuleS.l0 k x0 (x3.set (x4 : Int).toNat (⟨bt476.1,(⟨bt476.2.1,bt476.2.2.1,bt476.2.2.2.1⟩ : S32),bt476.2.2.2.2⟩ : S35)) (wrap64 (x4 + 1))) else (none))) else (none)) else (some x3)
def laws_toRuleS.f (k : Nat) (l0 : List (S28)) : Option ((List (S35))) := if 0 ≤ (l0.length : Int) then (if ((l0.length : Int) : Int).toNat ≤ 2932031007402 then (laws_toRuleS.l0 k l0 (List.replicate ((l0.length : Int) : Int).toNat z35) 0) else (none)) else (none)
set_option maxHeartbeats 8000000 in
set_option maxRecDepth 100000 in
theorem laws_toRuleS.calls (k : Nat) (A0 : Option Addr) (c0 : Nat) (l0 : List (S28)) (r : List (S35)) (w : World) (hr0 : Kd.C k28 w A0 l0.length l0) (hc0 : l0.length ≤ c0) (h : laws_toRuleS.f k l0 = some r) :
  Calls Try.prog 41 #[.slice A0 l0.length c0] w fun e w' => ∃ v0_ : Value,e = .returned (v0_) ∧ Kd.R k35 35 w' w.heap.size (fun _ => True) v0_ r ∧ Below w.heap.size w w' := by
 have hu28 := Try.underlying28
 have hu35 := Try.underlying35
 have HR0 := y0.mk hr0
 have HC0 := y0.mk hc0
 clear hr0 hc0
 have HB := y0.mk (Below.refl w.heap.size w)
 have H : (if 0 ≤ (l0.length : Int) then (if ((l0.length : Int) : Int).toNat ≤ 2932031007402 then (laws_toRuleS.l0 k l0 (List.replicate ((l0.length : Int) : Int).toNat z35) 0) else (none)) else (none)) = some r := h
 clear h
 obtain ⟨c2,H⟩ := qo H
 have c2b0 := eq_true c2
 have c2b1 := decide_eq_true c2
 clear c2
 obtain ⟨c3,H⟩ := qo H
 have c3b0 := eq_true c3
 have c3b1 := decide_eq_true c3
 clear c3
 obtain ⟨y472,hy472⟩ : ∃ y_ : List (S35),y_ = (List.replicate ((l0.length : Int) : Int).toNat z35) := ⟨_,rfl⟩
 replace H : (laws_toRuleS.l0 k l0 y472 0) = some r := by first | (rw [hy472]; with_reducible exact H) | (have H2_ := (Option.bind_some _ _).symm.trans H; rw [hy472]; with_reducible exact H2_) | (have H2_ := (Option.bind_some _ _).symm.trans H; with_reducible exact H2_) | with_reducible exact H | (rw [hy472]; exact H) | exact H
 have Ny472 := y0.mk hy472
 clear hy472
 have H' := y0.mk H
 clear H
 go_enter Try.func41,Try.ntmps41
 go_wp2_with (first | ((with_reducible refine y16 (N := 7) rfl ?_); refine Kd.R_make k35 _ 35 rfl (N := 7) rfl 48 _ _ rfl (l0.length : Int) rfl rfl Try.underlying48 (.agg #[(.slice none 0 0),(.int .i64 0),(.string ⟨#[]⟩),(.slice none 0 0),(.slice none 0 0)]) 96 info35 rfl (by decide) (by omega) z35 (ok := fun _ => True) (okp := fun _ => True) (k35_mkM _ _ _ z35 (Kd.R_nil _ _ _ _ _) (Kd.R_nil _ _ _ _ _) (Kd.R_nil _ _ _ _ _)) (fun _ hk => hk) trivial (of_decide_eq_true qy1) (Nat.le_trans (Nat.mul_le_mul_right _ (of_decide_eq_true qy1 : (l0.length : Int).toNat ≤ 2932031007402)) (by omega)) (Below.refl _ _) (Nat.le_refl _) ?_; intro v473 w4 ho5 hb hg_ hnew_; clear hg_ hnew_; (first | rw [← Ny472.out] at ho5 | (simp only [Int.reduceToNat] at ho5; rw [← Ny472.out] at ho5)); have HO474 := y0.mk (Kd.R_lower ho5 (y3 qb)); replace HB := y0.mk (y4 qb hb); clear hb ho5))
 go_loopg [4] k (fun kq v4 w' => ∃ (x3_1 : List (S35)) (x4_1 : Int),v4 = .int .i64 x4_1 ∧ y0 (laws_toRuleS.l0 kq l0 x3_1 x4_1 = some r) ∧ y0 (kq ≤ k) ∧ y0 (Kd.R k35 35 w' w.heap.size (fun _ => True) v473 x3_1) ∧ y0 (Below w.heap.size w w'))
 case atStart => exact ⟨(y472),(0),qy2,H',⟨Nat.le_refl _⟩,⟨qR HO474.out⟩,⟨qb⟩⟩
 case round =>
  clear H'
  (try clear c2b0 c2b1 c3b0 c3b1)
  obtain ⟨x3_1,x4_1,rfl,HA,HK1,HO_3,HB⟩ := hrel
  cases gk with
  | zero => exact absurd HA.out (by simp [laws_toRuleS.l0])
  | succ k1 =>
   have H := HA.out
   clear HA
   simp only [laws_toRuleS.l0] at H
   by_cases c6 : x4_1 < (l0.length : Int)
   ·rw [if_pos c6] at H
    have c6b0 := decide_eq_true c6
    clear c6
    obtain ⟨c7,H⟩ := qo H
    have c7b0 : decide (0 ≤ x4_1) = true := decide_eq_true c7
    clear c7
    obtain ⟨⟨t476,t479,t480,t481,t484⟩,A8,H⟩ := qB H
    replace H : (if x4_1 < (x3_1.length : Int) then (laws_toRuleS.l0 k1 l0 (x3_1.set (x4_1 : Int).toNat (⟨t476,(⟨t479,t480,t481⟩ : S32),t484⟩ : S35)) (wrap64 (x4_1 + 1))) else (none)) = some r := H
    obtain ⟨c9,H⟩ := qo H
    have c9b0 : decide (x4_1 < (x3_1.length : Int)) = true := decide_eq_true c9
    clear c9
    obtain ⟨y487,hy487⟩ : ∃ y_ : List (S35),y_ = (x3_1.set (x4_1 : Int).toNat (⟨t476,(⟨t479,t480,t481⟩ : S32),t484⟩ : S35)) := ⟨_,rfl⟩
    replace H : (laws_toRuleS.l0 k1 l0 y487 (wrap64 (x4_1 + 1))) = some r := by first | (rw [hy487]; with_reducible exact H) | (have H2_ := (Option.bind_some _ _).symm.trans H; rw [hy487]; with_reducible exact H2_) | (have H2_ := (Option.bind_some _ _).symm.trans H; with_reducible exact H2_) | with_reducible exact H | (rw [hy487]; exact H) | exact H
    have Ny487 := y0.mk hy487
    clear hy487
    have H' := y0.mk H
    clear H
    have p475 : 0 ≤ (x4_1 : Int) := of_decide_eq_true qy1
    have q475 : x4_1 < (l0.length : Int) := of_decide_eq_true qy1
    obtain ⟨ad475,A475_0,c475_0,A475_3,c475_3,A475_4,c475_4,e475,hx475_0,hx475_1,hx475_2,hx475_3,hx475_4,hl475_0,hi475_0,hl475_3,hi475_3,hl475_4,hi475_4⟩ := at_T28 HR0.out x4_1 p475 q475
    cases e475
    replace hx475_0 := (HB.out.cell (World.block_lt_of_cell? w _ hx475_0)).trans hx475_0
    replace hx475_1 := (HB.out.cell (World.block_lt_of_cell? w _ hx475_1)).trans hx475_1
    replace hx475_2 := (HB.out.cell (World.block_lt_of_cell? w _ hx475_2)).trans hx475_2
    replace hx475_3 := (HB.out.cell (World.block_lt_of_cell? w _ hx475_3)).trans hx475_3
    replace hx475_4 := (HB.out.cell (World.block_lt_of_cell? w _ hx475_4)).trans hx475_4
    have HR475_0 := y0.mk hi475_0
    have HC475_0 := y0.mk hl475_0
    clear hi475_0 hl475_0
    have HR475_3 := y0.mk hi475_3
    have HC475_3 := y0.mk hl475_3
    clear hi475_3 hl475_3
    have HR475_4 := y0.mk hi475_4
    have HC475_4 := y0.mk hl475_4
    clear hi475_4 hl475_4
    replace p475 := eq_true p475
    replace q475 := eq_true q475
    go_wp2_with (first | ((with_reducible refine y15 (f := 8) rfl ?_); refine y17 (some 20) rfl rfl Try.func8 (by kernel_rfl) rfl #[.agg #[.slice A475_0 ((rd_T28 l0 x4_1).f0).length c475_0,.int .i64 ((rd_T28 l0 x4_1).f1.f0),.string ((rd_T28 l0 x4_1).f1.f1),.slice A475_3 ((rd_T28 l0 x4_1).f1.f2).length c475_3,.slice A475_4 ((rd_T28 l0 x4_1).f2).length c475_4]] rfl qy0 ?_; (with_reducible refine (laws_toRule.calls k1 _ _ ((rd_T28 l0 x4_1).f0) ((rd_T28 l0 x4_1).f1.f0) ((rd_T28 l0 x4_1).f1.f1) _ _ ((rd_T28 l0 x4_1).f1.f2) _ _ ((rd_T28 l0 x4_1).f2) t476 t479 t480 t481 t484 _ (qc (Kd.C_below HR475_0.out HB.out)) HC475_0.out (qc (Kd.C_below HR475_3.out HB.out)) HC475_3.out (qc (Kd.C_below HR475_4.out HB.out)) HC475_4.out A8.out).mono ?_); rintro e w11 ⟨v477,v482,v485,rfl,ho0,ho1,ho2,hb⟩; refine ⟨_,rfl, ?_⟩; replace HO_3 := y0.mk (Kd.R_mono (Kd.R_told (Kd.R_told (Kd.R_told (Kd.R_old (qR HO_3.out) hb) (Kd.S_base ho0)) (Kd.R_base ho1)) (Kd.S_base ho2)) (fun _ h_ => h_.1)); have HO478 := y0.mk (Kd.S_lower ho0 (y3 qb)); have HO483 := y0.mk (Kd.R_lower ho1 (y3 qb)); have HO486 := y0.mk (Kd.S_lower ho2 (y3 qb)); replace HB := y0.mk (y4 qb hb); (try clear hb); (try clear hb2); (try clear hk); (try clear hi); (try clear ho0); (try clear ho1); (try clear ho2); have p10 : 0 ≤ (x4_1 : Int) := of_decide_eq_true qy1; have q10 : (x4_1 : Int) < ((x3_1.length : Int) : Int) := of_decide_eq_true qy1; obtain ⟨go10,co10,eo10,gb10,gl10,cl10,HG10⟩ := Kd.R_form HO_3.out (by omega); (first | cases eo10 | (injection eo10 with ea_ en_ ec_; (first | subst ea_ | (injection ea_ with ea_; subst ea_)); subst ec_; clear en_)); have GB10 := y0.mk gb10; have GG10 := y0.mk HG10; clear gb10 gl10 HG10; obtain ⟨ce10,hcl10,hM10,hcc10,hfr10⟩ := Kd.R_elem HO_3.out z35 (x4_1 : Int) p10 q10; obtain ⟨ve10_0,ve10_3,ve10_4,rfl,ge10_0,ge10_3,ge10_4⟩ := k35_openM hM10; have hx10_0 : w11.cell? ⟨go10,(x4_1 : Int).toNat * 5,none⟩ = some (ve10_0) := hcc10 0 _ rfl; have hx10_1 : w11.cell? ⟨go10,(x4_1 : Int).toNat * 5 + 1,none⟩ = some (.int .i64 ((y20 x3_1 x4_1).f1.f0)) := hcc10 1 _ rfl; have hx10_2 : w11.cell? ⟨go10,(x4_1 : Int).toNat * 5 + 2,none⟩ = some (.string ((y20 x3_1 x4_1).f1.f1)) := hcc10 2 _ rfl; have hx10_3 : w11.cell? ⟨go10,(x4_1 : Int).toNat * 5 + 3,none⟩ = some (ve10_3) := hcc10 3 _ rfl; have hx10_4 : w11.cell? ⟨go10,(x4_1 : Int).toNat * 5 + 4,none⟩ = some (ve10_4) := hcc10 4 _ rfl; have hf10_0 : w11.frozen? ⟨go10,(x4_1 : Int).toNat * 5,none⟩ = false := hfr10 0; have hf10_1 : w11.frozen? ⟨go10,(x4_1 : Int).toNat * 5 + 1,none⟩ = false := hfr10 1; have hf10_2 : w11.frozen? ⟨go10,(x4_1 : Int).toNat * 5 + 2,none⟩ = false := hfr10 2; have hf10_3 : w11.frozen? ⟨go10,(x4_1 : Int).toNat * 5 + 3,none⟩ = false := hfr10 3; have hf10_4 : w11.frozen? ⟨go10,(x4_1 : Int).toNat * 5 + 4,none⟩ = false := hfr10 4; clear hcl10 hcc10 hfr10 hM10; replace p10 := eq_true p10; replace q10 := eq_true q10; have n_ := y0.mk (Kd.R_mono (ok' := (fun k_ => some k_ ≠ (v477 : Value).ownBlock ∧ some k_ ≠ (v482 : Value).ownBlock ∧ some k_ ≠ (v485 : Value).ownBlock)) HO_3.out (fun k_ hk => ⟨hk.1.1.2,⟨hk.1.2,hk.2⟩⟩)); clear HO_3; have HO_3 := n_; clear n_; have HX12 := y0.mk (show Kd.R k35 35 w11 w.heap.size (fun _ => True) (.slice (some ⟨go10,0,none⟩) x3_1.length co10) x3_1 from (qR (Kd.R_mono HO_3.out (fun _ hk => trivial)))); obtain ⟨ce12,hcl12,hM12,hcc12,hfr12⟩ := Kd.R_elem HX12.out z35 (x4_1 : Int) (of_decide_eq_true qy1) (by have h_ : (x4_1 : Int) < ((x3_1.length : Int) : Int) := of_decide_eq_true qy1; first | exact h_ | (have e_ := (Kd.R_reads' HO_3.out).1; omega) | simpa using h_); obtain ⟨ve12_0,ve12_3,ve12_4,rfl,ge12_0,ge12_3,ge12_4⟩ := k35_openM hM12; have HP12 := Kd.R_seg HX12.out (x4_1 : Int) (of_decide_eq_true qy1) (by have h_ : (x4_1 : Int) < ((x3_1.length : Int) : Int) := of_decide_eq_true qy1; first | exact h_ | (have e_ := (Kd.R_reads' HO_3.out).1; omega) | simpa using h_) (seg := [v477,.int .i64 t479,.string t480,v482,v485]) (j := 0) hcl12 hcc12 (show 5 ≤ 5 from by decide) (x' := (⟨t476,(⟨t479,t480,t481⟩ : S32),t484⟩ : S35)) (k35_mkM _ _ _ (⟨t476,(⟨t479,t480,t481⟩ : S32),t484⟩ : S35) (Kd.R_mono (Kd.R_apart' ((Kd.S_R HO478.out)) (Kd.R_typed HO_3.out) (by decide)) (fun k_ hk => ⟨trivial,fun e_ => (hk.2) (by rw [e_]; rfl)⟩)) (Kd.R_mono (Kd.R_apart' (HO483.out) (Kd.R_typed HO_3.out) (by decide)) (fun k_ hk => ⟨trivial,fun e_ => (hk.2) (by rw [e_]; rfl)⟩)) (Kd.R_mono (Kd.R_apart' ((Kd.S_R HO486.out)) (Kd.R_typed HO_3.out) (by decide)) (fun k_ hk => ⟨trivial,fun e_ => (hk.2) (by rw [e_]; rfl)⟩))) (fun _ hk => hk); have hx12_0 := hcc12 0 _ rfl; (try simp only [show (k35).sz = 5 from rfl,Nat.mul_one,Nat.add_zero] at hx12_0); have hf12_0 := hfr12 0; (try simp only [show (k35).sz = 5 from rfl,Nat.mul_one,Nat.add_zero] at hf12_0); have hx12_1 := hcc12 1 _ rfl; (try simp only [show (k35).sz = 5 from rfl,Nat.mul_one,Nat.add_zero] at hx12_1); have hf12_1 := hfr12 1; (try simp only [show (k35).sz = 5 from rfl,Nat.mul_one,Nat.add_zero] at hf12_1); have hx12_2 := hcc12 2 _ rfl; (try simp only [show (k35).sz = 5 from rfl,Nat.mul_one,Nat.add_zero] at hx12_2); have hf12_2 := hfr12 2; (try simp only [show (k35).sz = 5 from rfl,Nat.mul_one,Nat.add_zero] at hf12_2); have hx12_3 := hcc12 3 _ rfl; (try simp only [show (k35).sz = 5 from rfl,Nat.mul_one,Nat.add_zero] at hx12_3); have hf12_3 := hfr12 3; (try simp only [show (k35).sz = 5 from rfl,Nat.mul_one,Nat.add_zero] at hf12_3); have hx12_4 := hcc12 4 _ rfl; (try simp only [show (k35).sz = 5 from rfl,Nat.mul_one,Nat.add_zero] at hx12_4); have hf12_4 := hfr12 4; (try simp only [show (k35).sz = 5 from rfl,Nat.mul_one,Nat.add_zero] at hf12_4); clear hcl12 hcc12 hfr12 hM12) | ((with_reducible refine gate_store (t := 35) (p := 21) rfl ?_); refine store_event (t := 35) (p := 21) (v := ?vo_w13) (w1 := (((((w11.setCell ⟨go10,(x4_1 : Int).toNat * 5,none⟩ (v477)).setCell ⟨go10,(x4_1 : Int).toNat * 5 + 1,none⟩ (.int .i64 t479)).setCell ⟨go10,(x4_1 : Int).toNat * 5 + 2,none⟩ (.string t480)).setCell ⟨go10,(x4_1 : Int).toNat * 5 + 3,none⟩ (v482)).setCell ⟨go10,(x4_1 : Int).toNat * 5 + 4,none⟩ (v485))) ?hg ?ho ?hn ?hr ?_; (case ho => rfl); (case hg => rfl); (case hn => rfl); (case hr => (first | (obtain ⟨_,_,eo_⟩ := Kd.R_slice HO478.out; subst eo_) | (obtain ⟨_,_,eo_⟩ := Kd.S_slice HO478.out; subst eo_) | (obtain ⟨_,_,eo_⟩ := Kd.N_slice HO478.out; subst eo_) | skip); (first | (obtain ⟨_,_,eo_⟩ := Kd.R_slice HO483.out; subst eo_) | (obtain ⟨_,_,eo_⟩ := Kd.S_slice HO483.out; subst eo_) | (obtain ⟨_,_,eo_⟩ := Kd.N_slice HO483.out; subst eo_) | skip); (first | (obtain ⟨_,_,eo_⟩ := Kd.R_slice HO486.out; subst eo_) | (obtain ⟨_,_,eo_⟩ := Kd.S_slice HO486.out; subst eo_) | (obtain ⟨_,_,eo_⟩ := Kd.N_slice HO486.out; subst eo_) | skip); first | (go_simp; done) | (go_simp; rfl)); intro w13 hw; have hg : w11.grownBy w13 (some go10) := (by rw [hw]; exact HP12.2); have hp_ : Kd.R k35 35 w13 w.heap.size (fun _ => True) (.slice (some ⟨go10,0,none⟩) x3_1.length co10) y487 := (by rw [hw,Ny487.out]; exact HP12.1); clear HP12; replace HO_3 := y0.mk (hp_); replace HB := y0.mk ((by rw [hw]; exact below_set (below_set (below_set (below_set (below_set (HB.out) GB10.out) GB10.out) GB10.out) GB10.out) GB10.out : Below w.heap.size w w13)); clear HO478 HO483 HO486; clear hg hw hp_))
    go_roundg k1
    case measure => have := HK1.out; omega
    exact ⟨(y487),(wrap64 (x4_1 + 1)),qy2,H',⟨by have := HK1.out; omega⟩,⟨qR HO_3.out⟩,⟨qb⟩⟩
   ·rw [if_neg c6] at H
    have c6b0 := decide_eq_false c6
    clear c6
    obtain rfl := Option.some.inj H
    go_wp2
    go_ret
    exact ⟨_,by first | rfl | (simp [y12,y13] <;> rfl) | (simp [*,y12,y13] <;> rfl),by (with_reducible repeat (first | apply Kd.R_alloc | apply Kd.R_drewN | apply Kd.R_drew)); exact HO_3.out,qb⟩
def laws_toProg.f (k : Nat) (l0_0 : List (S112)) (l0_1 : List (S114)) (l0_2 : List (S28)) : Option ((List (S78)) × (List (S84)) × (List (S35))) := (laws_toTypeDeclS.f k l0_0).bind fun t491 => ((laws_toRelDeclS.f k l0_1).bind fun t494 => ((laws_toRuleS.f k l0_2).bind fun t497 => (some (t491,t494,t497))))
set_option maxHeartbeats 8000000 in
set_option maxRecDepth 100000 in
theorem laws_toProg.calls (k : Nat) (A0_0 : Option Addr) (c0_0 : Nat) (l0_0 : List (S112)) (A0_1 : Option Addr) (c0_1 : Nat) (l0_1 : List (S114)) (A0_2 : Option Addr) (c0_2 : Nat) (l0_2 : List (S28)) (r1 : List (S78)) (r2 : List (S84)) (r3 : List (S35)) (w : World) (hr0_0 : Kd.C k112 w A0_0 l0_0.length l0_0) (hc0_0 : l0_0.length ≤ c0_0) (hr0_1 : Kd.C k114 w A0_1 l0_1.length l0_1) (hc0_1 : l0_1.length ≤ c0_1) (hr0_2 : Kd.C k28 w A0_2 l0_2.length l0_2) (hc0_2 : l0_2.length ≤ c0_2) (h : laws_toProg.f k l0_0 l0_1 l0_2 = some (r1,r2,r3)) :
  Calls Try.prog 13 #[.agg #[.slice A0_0 l0_0.length c0_0,.slice A0_1 l0_1.length c0_1,.slice A0_2 l0_2.length c0_2]] w fun e w' => ∃ v0_ v1_ v2_ : Value,e = .returned (.agg #[v0_,v1_,v2_]) ∧ Kd.R k78 78 w' w.heap.size (fun _ => True) v0_ r1 ∧ Kd.S k84 84 w' w.heap.size (fun _ => True) v1_ r2 ∧ Kd.R k35 35 w' w.heap.size (fun _ => True) v2_ r3 ∧ Below w.heap.size w w' := by
 have hu43 := Try.underlying43
 have hu50 := Try.underlying50
 have HR0_0 := y0.mk hr0_0
 have HC0_0 := y0.mk hc0_0
 clear hr0_0 hc0_0
 have HR0_1 := y0.mk hr0_1
 have HC0_1 := y0.mk hc0_1
 clear hr0_1 hc0_1
 have HR0_2 := y0.mk hr0_2
 have HC0_2 := y0.mk hc0_2
 clear hr0_2 hc0_2
 have HB := y0.mk (Below.refl w.heap.size w)
 have H : ((laws_toTypeDeclS.f k l0_0).bind fun t491 => ((laws_toRelDeclS.f k l0_1).bind fun t494 => ((laws_toRuleS.f k l0_2).bind fun t497 => (some (t491,t494,t497))))) = some (r1,r2,r3) := h
 clear h
 obtain ⟨t491,A2,H⟩ := qB H
 obtain ⟨t494,A3,H⟩ := qB H
 obtain ⟨t497,A4,H⟩ := qB H
 simp only [Option.some.injEq,Prod.mk.injEq] at H
 obtain ⟨rfl,rfl,rfl⟩ := H
 go_enter Try.func13,Try.ntmps13
 go_wp2_with (first | ((with_reducible refine y16 (N := 1) rfl ?_); refine qe 1 #[.slice A0_0 l0_0.length c0_0,.slice A0_1 l0_1.length c0_1,.slice A0_2 l0_2.length c0_2] 43 ?_; intro gb488 hg w5 hbox hb; have BK488 := y0.mk (hbox); have GW488 := y0.mk (qg (w := w) hg); have GE488 := y0.mk (qg (w := w) hg); replace HB := y0.mk (y4 qb hb); clear hb hbox hg) | ((with_reducible refine y16 (N := 2) rfl ?_); refine qe 2 #[.slice none 0 0,.slice none 0 0,.slice none 0 0] 50 ?_; intro gb489 hg w6 hbox hb; have BK489 := y0.mk (hbox); have GW489 := y0.mk (qg (w := w) hg); have GE489 := y0.mk (qg (w := w) hg); replace HB := y0.mk (y4 qb hb); have NB488_489 := y0.mk (qn BK488.out hg); have NB489_488 := y0.mk (qm BK488.out hg); replace BK488 := y0.mk (qK BK488.out hb); clear hb hbox hg) | ((with_reducible refine y16 (N := 3) rfl ?_); refine qe 3 #[.slice none 0 0,.slice none 0 0,.slice none 0 0] 50 ?_; intro gb490 hg w7 hbox hb; have BK490 := y0.mk (hbox); have GW490 := y0.mk (qg (w := w) hg); have GE490 := y0.mk (qg (w := w) hg); replace HB := y0.mk (y4 qb hb); have NB488_490 := y0.mk (qn BK488.out hg); have NB490_488 := y0.mk (qm BK488.out hg); replace BK488 := y0.mk (qK BK488.out hb); have NB489_490 := y0.mk (qn BK489.out hg); have NB490_489 := y0.mk (qm BK489.out hg); replace BK489 := y0.mk (qK BK489.out hb); clear hb hbox hg; have hnb8 := NB488_489.out; have hnc8 := NB489_488.out; have hnb9 := NB488_490.out; have hnc9 := NB490_488.out; obtain ⟨hcz10_0,hcz10_1,hcz10_2,hfz10_0,hfz10_1,hfz10_2⟩ := qz3 BK488.out) | ((with_reducible refine y15 (f := 39) rfl ?_); refine y17 (some 6) rfl rfl Try.func39 (by kernel_rfl) rfl #[.slice A0_0 l0_0.length c0_0] rfl qy0 ?_; (with_reducible refine (laws_toTypeDeclS.calls k _ _ l0_0 t491 _ (qc (Kd.C_below HR0_0.out HB.out)) HC0_0.out A2.out).mono ?_); rintro e w11 ⟨v492,rfl,ho0,hb⟩; refine ⟨_,rfl, ?_⟩; have HO493 := y0.mk (Kd.R_lower ho0 (y3 qb)); replace BK488 := y0.mk (qK BK488.out hb); replace BK489 := y0.mk (qK BK489.out hb); replace BK490 := y0.mk (qK BK490.out hb); replace HB := y0.mk (y4 qb hb); (try clear hb); (try clear hb2); (try clear hk); (try clear hi); (try clear ho0); obtain ⟨Ao12,co12,eo12⟩ := Kd.R_slice HO493.out; subst eo12; have hnb13 := NB490_489.out; have hnc13 := NB489_490.out; obtain ⟨hcz14_0,hcz14_1,hcz14_2,hfz14_0,hfz14_1,hfz14_2⟩ := qz3 BK490.out; obtain ⟨hcz15_0,hcz15_1,hcz15_2,hfz15_0,hfz15_1,hfz15_2⟩ := qz3 BK488.out) | ((with_reducible refine y15 (f := 40) rfl ?_); refine y17 (some 10) rfl rfl Try.func40 (by kernel_rfl) rfl #[.slice A0_1 l0_1.length c0_1] rfl qy0 ?_; (with_reducible refine (laws_toRelDeclS.calls k _ _ l0_1 t494 _ (by exact Kd.C_below HR0_1.out qb) HC0_1.out A3.out).mono ?_); rintro e w16 ⟨v495,rfl,ho0,hb⟩; refine ⟨_,rfl, ?_⟩; replace HO493 := y0.mk (Kd.R_below (qR ((Kd.R_mono (Kd.R_far (p := ⟨gb490,0,none⟩) (Kd.R_types HO493.out BK490.out (by decide)) (fun _ hk => hk.2) (.slice Ao12 t491.length co12)) (fun _ h_ => h_.1)))) hb); have HO496 := y0.mk (Kd.S_lower ho0 (y3 qb)); replace BK488 := y0.mk (y6 (g := gb488) (o := .cells #[.slice A0_0 l0_0.length c0_0,.slice A0_1 l0_1.length c0_1,.slice A0_2 l0_2.length c0_2] 43 (0,0)) (by (with_reducible repeat (first | refine y9 ?_ _ | refine y8 ?_ | refine y5 ?_ _)); refine y10 ?_ NB488_490.out _; (with_reducible repeat (first | refine y9 ?_ _ | refine y8 ?_ | refine y5 ?_ _)); exact BK488.out) hb); replace BK489 := y0.mk (y6 (g := gb489) (o := .cells #[.slice none 0 0,.slice none 0 0,.slice none 0 0] 50 (0,0)) (by (with_reducible repeat (first | refine y9 ?_ _ | refine y8 ?_ | refine y5 ?_ _)); refine y10 ?_ NB489_490.out _; (with_reducible repeat (first | refine y9 ?_ _ | refine y8 ?_ | refine y5 ?_ _)); exact BK489.out) hb); replace BK490 := y0.mk (y6 (g := gb490) (o := .cells #[.slice Ao12 t491.length co12,.slice none 0 0,.slice none 0 0] 50 (0,0)) (by (with_reducible repeat (first | refine y9 ?_ _ | refine y8 ?_ | refine y5 ?_ _)); refine y11 (cs := #[.slice none 0 0,.slice none 0 0,.slice none 0 0]) ?_ 0 _ rfl; (with_reducible repeat (first | refine y9 ?_ _ | refine y8 ?_ | refine y5 ?_ _)); exact BK490.out) hb); replace HB := y0.mk (y4 qb hb); (try clear hb); (try clear hb2); (try clear hk); (try clear hi); (try clear ho0); obtain ⟨Ao17,co17,eo17⟩ := Kd.S_slice HO496.out; subst eo17; obtain ⟨hcz18_0,hcz18_1,hcz18_2,hfz18_0,hfz18_1,hfz18_2⟩ := qz3 BK490.out; obtain ⟨hcz19_0,hcz19_1,hcz19_2,hfz19_0,hfz19_1,hfz19_2⟩ := qz3 BK488.out) | ((with_reducible refine y15 (f := 41) rfl ?_); refine y17 (some 14) rfl rfl Try.func41 (by kernel_rfl) rfl #[.slice A0_2 l0_2.length c0_2] rfl qy0 ?_; (with_reducible refine (laws_toRuleS.calls k _ _ l0_2 t497 _ (by exact Kd.C_below HR0_2.out qb) HC0_2.out A4.out).mono ?_); rintro e w20 ⟨v498,rfl,ho0,hb⟩; refine ⟨_,rfl, ?_⟩; replace HO493 := y0.mk (Kd.R_below (qR ((Kd.R_mono (Kd.R_far (p := ⟨gb490,1,none⟩) (Kd.R_types HO493.out BK490.out (by decide)) (fun _ hk => hk.2) (.slice Ao17 t494.length co17)) (fun _ h_ => h_.1)))) hb); replace HO496 := y0.mk (Kd.S_below (qS ((Kd.S_mono (Kd.S_far (p := ⟨gb490,1,none⟩) (Kd.S_types HO496.out BK490.out (by decide)) (fun _ hk => hk.2) (.slice Ao17 t494.length co17)) (fun _ h_ => h_.1)))) hb); have HO499 := y0.mk (Kd.R_lower ho0 (y3 qb)); replace BK488 := y0.mk (y6 (g := gb488) (o := .cells #[.slice A0_0 l0_0.length c0_0,.slice A0_1 l0_1.length c0_1,.slice A0_2 l0_2.length c0_2] 43 (0,0)) (by (with_reducible repeat (first | refine y9 ?_ _ | refine y8 ?_ | refine y5 ?_ _)); refine y10 ?_ NB488_490.out _; (with_reducible repeat (first | refine y9 ?_ _ | refine y8 ?_ | refine y5 ?_ _)); exact BK488.out) hb); replace BK489 := y0.mk (y6 (g := gb489) (o := .cells #[.slice none 0 0,.slice none 0 0,.slice none 0 0] 50 (0,0)) (by (with_reducible repeat (first | refine y9 ?_ _ | refine y8 ?_ | refine y5 ?_ _)); refine y10 ?_ NB489_490.out _; (with_reducible repeat (first | refine y9 ?_ _ | refine y8 ?_ | refine y5 ?_ _)); exact BK489.out) hb); replace BK490 := y0.mk (y6 (g := gb490) (o := .cells #[.slice Ao12 t491.length co12,.slice Ao17 t494.length co17,.slice none 0 0] 50 (0,0)) (by (with_reducible repeat (first | refine y9 ?_ _ | refine y8 ?_ | refine y5 ?_ _)); refine y11 (cs := #[.slice Ao12 t491.length co12,.slice none 0 0,.slice none 0 0]) ?_ 1 _ rfl; (with_reducible repeat (first | refine y9 ?_ _ | refine y8 ?_ | refine y5 ?_ _)); exact BK490.out) hb); replace HB := y0.mk (y4 qb hb); (try clear hb); (try clear hb2); (try clear hk); (try clear hi); (try clear ho0); obtain ⟨Ao21,co21,eo21⟩ := Kd.R_slice HO499.out; subst eo21; obtain ⟨hcz22_0,hcz22_1,hcz22_2,hfz22_0,hfz22_1,hfz22_2⟩ := qz3 BK490.out; obtain ⟨hcz23_0,hcz23_1,hcz23_2,hfz23_0,hfz23_1,hfz23_2⟩ := qz3 BK489.out))
 refine bodyPost_ret (results_cell_row rfl _ _ gb489 50 #[.slice Ao12 t491.length co12,.slice Ao17 t494.length co17,.slice Ao21 t497.length co21] (0,0) _ rfl (by (with_reducible repeat (first | refine y9 ?_ _ | refine y8 ?_ | refine y5 ?_ _)); refine y11 (cs := #[.slice Ao12 t491.length co12,.slice Ao17 t494.length co17,.slice none 0 0]) ?_ 2 _ rfl; (with_reducible repeat (first | refine y9 ?_ _ | refine y8 ?_ | refine y5 ?_ _)); refine y11 (cs := #[.slice Ao12 t491.length co12,.slice none 0 0,.slice none 0 0]) ?_ 1 _ rfl; (with_reducible repeat (first | refine y9 ?_ _ | refine y8 ?_ | refine y5 ?_ _)); refine y11 (cs := #[.slice none 0 0,.slice none 0 0,.slice none 0 0]) ?_ 0 _ rfl; (with_reducible repeat (first | refine y9 ?_ _ | refine y8 ?_ | refine y5 ?_ _)); refine y10 ?_ NB489_490.out _; (with_reducible repeat (first | refine y9 ?_ _ | refine y8 ?_ | refine y5 ?_ _)); exact BK489.out) Try.underlying50 rfl (by kernel_rfl)) rfl ?_
 exact ⟨_,_,_,by first | rfl | (simp [y12,y13] <;> rfl) | (simp [*,y12,y13] <;> rfl),by (with_reducible repeat (first | apply Kd.R_alloc | apply Kd.R_drewN | apply Kd.R_drew)); exact Kd.R_mono (Kd.R_far (p := ⟨gb489,2,none⟩) (Kd.R_far (p := ⟨gb489,1,none⟩) (Kd.R_far (p := ⟨gb489,0,none⟩) (Kd.R_far (p := ⟨gb490,2,none⟩) (Kd.R_types (Kd.R_types HO493.out BK490.out (by decide)) BK489.out (by decide)) (fun _ hk => hk.1.2) (.slice Ao21 t497.length co21)) (fun _ hk => hk.2) (.slice Ao12 t491.length co12)) (fun _ hk => hk.2) (.slice Ao17 t494.length co17)) (fun _ hk => hk.2) (.slice Ao21 t497.length co21)) (fun _ hk => trivial),by (with_reducible repeat (first | apply Kd.S_alloc | apply Kd.S_drewN | apply Kd.S_drew)); exact Kd.S_mono (Kd.S_far (p := ⟨gb489,2,none⟩) (Kd.S_far (p := ⟨gb489,1,none⟩) (Kd.S_far (p := ⟨gb489,0,none⟩) (Kd.S_far (p := ⟨gb490,2,none⟩) (Kd.S_types (Kd.S_types HO496.out BK490.out (by decide)) BK489.out (by decide)) (fun _ hk => hk.1.2) (.slice Ao21 t497.length co21)) (fun _ hk => hk.2) (.slice Ao12 t491.length co12)) (fun _ hk => hk.2) (.slice Ao17 t494.length co17)) (fun _ hk => hk.2) (.slice Ao21 t497.length co21)) (fun _ hk => trivial),by (with_reducible repeat (first | apply Kd.R_alloc | apply Kd.R_drewN | apply Kd.R_drew)); exact Kd.R_mono (Kd.R_far (p := ⟨gb489,2,none⟩) (Kd.R_far (p := ⟨gb489,1,none⟩) (Kd.R_far (p := ⟨gb489,0,none⟩) (Kd.R_far (p := ⟨gb490,2,none⟩) (Kd.R_types (Kd.R_types HO499.out BK490.out (by decide)) BK489.out (by decide)) (fun _ hk => hk.1.2) (.slice Ao21 t497.length co21)) (fun _ hk => hk.2) (.slice Ao12 t491.length co12)) (fun _ hk => hk.2) (.slice Ao17 t494.length co17)) (fun _ hk => hk.2) (.slice Ao21 t497.length co21)) (fun _ hk => trivial),qb⟩
def impl_modeWords.f  : Option (List ByteArray) := some (([(⟨#[]⟩ : ByteArray),(⟨#[105,110,112,117,116]⟩ : ByteArray),(⟨#[111,117,116,112,117,116]⟩ : ByteArray),(⟨#[105,110,108,105,110,101]⟩ : ByteArray)] : List ByteArray))
set_option maxHeartbeats 8000000 in
set_option maxRecDepth 100000 in
theorem impl_modeWords.calls  (r : List ByteArray) (w : World) (h : impl_modeWords.f  = some r) :
  Calls Try.prog 68 #[] w fun e w' => ∃ v0_ : Value,e = .returned (v0_) ∧ Kd.R Kd.string 9 w' w.heap.size (fun _ => True) v0_ r ∧ Below w.heap.size w w' := by
 have HB := y0.mk (Below.refl w.heap.size w)
 have H : (some (([(⟨#[]⟩ : ByteArray),(⟨#[105,110,112,117,116]⟩ : ByteArray),(⟨#[111,117,116,112,117,116]⟩ : ByteArray),(⟨#[105,110,108,105,110,101]⟩ : ByteArray)] : List ByteArray))) = some r := h
 clear h
 obtain ⟨y500,hy500⟩ : ∃ y_ : List ByteArray,y_ = (([(⟨#[]⟩ : ByteArray),(⟨#[105,110,112,117,116]⟩ : ByteArray),(⟨#[111,117,116,112,117,116]⟩ : ByteArray),(⟨#[105,110,108,105,110,101]⟩ : ByteArray)] : List ByteArray)) := ⟨_,rfl⟩
 replace H : (some y500) = some r := by first | (rw [hy500]; with_reducible exact H) | (have H2_ := (Option.bind_some _ _).symm.trans H; rw [hy500]; with_reducible exact H2_) | (have H2_ := (Option.bind_some _ _).symm.trans H; with_reducible exact H2_) | with_reducible exact H | (rw [hy500]; exact H) | exact H
 have Ny500 := y0.mk hy500
 clear hy500
 obtain rfl := Option.some.inj H
 go_enter Try.func68,Try.ntmps68
 go_wp2_with (first | ((with_reducible refine y16 (N := 1) rfl ?_); refine Kd.R_lit Kd.string _ 9 ?hg (N := 1) ?hd (xs := ([(⟨#[]⟩ : ByteArray),(⟨#[105,110,112,117,116]⟩ : ByteArray),(⟨#[111,117,116,112,117,116]⟩ : ByteArray),(⟨#[105,110,108,105,110,101]⟩ : ByteArray)] : List ByteArray)) (inner := [.string (⟨#[]⟩ : ByteArray),.string (⟨#[105,110,112,117,116]⟩ : ByteArray),.string (⟨#[111,117,116,112,117,116]⟩ : ByteArray),.string (⟨#[105,110,108,105,110,101]⟩ : ByteArray)]) (ok := fun _ => True) (okp := fun _ => True) ?hr ?hp (fun _ hk => hk) trivial (Below.refl _ _) (Nat.le_refl _) (by simp) ?_; (case hd => rfl); (case hg => rfl); (case hr => first | (go_simp; done) | (go_simp; rfl)); (case hp => exact (Reps.one (show Kd.M Kd.string _ _ _ (⟨#[]⟩ : ByteArray) [.string (⟨#[]⟩ : ByteArray)] from rfl) (Reps.one (show Kd.M Kd.string _ _ _ (⟨#[105,110,112,117,116]⟩ : ByteArray) [.string (⟨#[105,110,112,117,116]⟩ : ByteArray)] from rfl) (Reps.one (show Kd.M Kd.string _ _ _ (⟨#[111,117,116,112,117,116]⟩ : ByteArray) [.string (⟨#[111,117,116,112,117,116]⟩ : ByteArray)] from rfl) (Reps.one (show Kd.M Kd.string _ _ _ (⟨#[105,110,108,105,110,101]⟩ : ByteArray) [.string (⟨#[105,110,108,105,110,101]⟩ : ByteArray)] from rfl) (Reps.none _ _)))))); intro v501 w1 ho2 hb hg_ hnew_; clear hg_ hnew_; (first | rw [← Ny500.out] at ho2 | (simp only [Int.reduceToNat] at ho2; rw [← Ny500.out] at ho2)); have HO502 := y0.mk (Kd.R_lower ho2 (y3 qb)); replace HB := y0.mk (y4 qb hb); clear hb ho2))
 go_ret
 exact ⟨_,by first | rfl | (simp [y12,y13] <;> rfl) | (simp [*,y12,y13] <;> rfl),by (with_reducible repeat (first | apply Kd.R_alloc | apply Kd.R_drewN | apply Kd.R_drew)); exact HO502.out,qb⟩
end Go.Proofs.Ytamjmldfifofbaa.Pp
