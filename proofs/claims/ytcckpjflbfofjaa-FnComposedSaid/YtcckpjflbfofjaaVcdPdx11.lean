-- Cut by prune.py, a program of this session, out of the texts of this claim: Lean checks it.
import Derived.Test.YtcckpjflbfofjaaVcdQComp
import Derived.Test.YtcckpjflbfofjaaVcdPdx0
import Derived.Test.YtcckpjflbfofjaaVcdPdx7
section
namespace Go.Proofs.Ytcckpjflbfofjaa.Pd
open Go.RowKit Go.Proofs.YtcckpjflbfofjaaW.PrintWords Go.Proofs.YtcckpjflbfofjaaW.PrintLast Go.Proofs.YtcckpjflbfofjaaW.PrintMore
attribute [local go_sem] max2_int min2_int max_two min_two max_three min_three max_four min_four   -- for this text's walks alone
set_option linter.unusedVariables false
set_option linter.unusedSimpArgs false
def impl_Compose.f (k : Nat) (a0_0 : Int) (a0_1 : Int) (l0_2 : List (S53)) (a1_0 : Int) (a1_1 : Int) (l1_2 : List (S53)) : Option (Int × Int × (List (S53)) × Bool) := (impl_isGraph.f k a0_0 a0_1 l0_2).bind fun t229 => (if t229 = true then ((impl_isGraph.f k a1_0 a1_1 l1_2).bind fun t230 => (if t230 = true then (if a1_0 = a0_1 then ((impl_compose.f a0_0 a0_1 l0_2 a1_0 a1_1 l1_2).bind fun bt231 => (some (bt231.1,bt231.2.1,bt231.2.2,true))) else (some (0,0,([] : List (S53)),false))) else (some (0,0,([] : List (S53)),false)))) else (some (0,0,([] : List (S53)),false)))
set_option maxHeartbeats 8000000 in
set_option maxRecDepth 100000 in
theorem impl_Compose.calls (k : Nat) (a0_0 : Int) (a0_1 : Int) (A0_2 : Option Addr) (c0_2 : Nat) (l0_2 : List (S53)) (a1_0 : Int) (a1_1 : Int) (A1_2 : Option Addr) (c1_2 : Nat) (l1_2 : List (S53)) (r1 : Int) (r2 : Int) (r3 : List (S53)) (r4 : Bool) (w : World) (hr0_2 : Kd.C k53 w A0_2 l0_2.length l0_2) (hc0_2 : l0_2.length ≤ c0_2) (hr1_2 : Kd.C k53 w A1_2 l1_2.length l1_2) (hc1_2 : l1_2.length ≤ c1_2) (h : impl_Compose.f k a0_0 a0_1 l0_2 a1_0 a1_1 l1_2 = some (r1,r2,r3,r4)) :
  Calls Try.prog 10 #[.agg #[.int .i64 a0_0,.int .i64 a0_1,.slice A0_2 l0_2.length c0_2],.agg #[.int .i64 a1_0,.int .i64 a1_1,.slice A1_2 l1_2.length c1_2]] w fun e w' => ∃ v2_ : Value,e = .returned (.tuple #[.agg #[.int .i64 r1,.int .i64 r2,v2_],.bool r4]) ∧ Kd.R k53 53 w' w.heap.size (fun _ => True) v2_ r3 ∧ Below w.heap.size w w' := by
 have hu28 := Try.underlying28
 have HR0_2 := y0.mk hr0_2
 have HC0_2 := y0.mk hc0_2
 clear hr0_2 hc0_2
 have HR1_2 := y0.mk hr1_2
 have HC1_2 := y0.mk hc1_2
 clear hr1_2 hc1_2
 have HB := y0.mk (Below.refl w.heap.size w)
 have H : ((impl_isGraph.f k a0_0 a0_1 l0_2).bind fun t229 => (if t229 = true then ((impl_isGraph.f k a1_0 a1_1 l1_2).bind fun t230 => (if t230 = true then (if a1_0 = a0_1 then ((impl_compose.f a0_0 a0_1 l0_2 a1_0 a1_1 l1_2).bind fun bt231 => (some (bt231.1,bt231.2.1,bt231.2.2,true))) else (some (0,0,([] : List (S53)),false))) else (some (0,0,([] : List (S53)),false)))) else (some (0,0,([] : List (S53)),false)))) = some (r1,r2,r3,r4) := h
 clear h
 obtain ⟨t229,A3,H⟩ := qB H
 by_cases c4 : t229 = true
 ·subst c4
  replace H := qT H
  obtain ⟨t230,A5,H⟩ := qB H
  by_cases c6 : t230 = true
  ·subst c6
   replace H := qT H
   by_cases c7 : a1_0 = a0_1
   ·rw [if_pos c7] at H
    have c7b0 : (a1_0 == a0_1) = true := beq_iff_eq.mpr c7
    have c7b1 : (a1_0 != a0_1) = false := bne_eq_false_iff_eq.mpr c7
    clear c7
    obtain ⟨⟨t231,t232,t233⟩,A8,H⟩ := qB H
    replace H : (some (t231,t232,t233,true)) = some (r1,r2,r3,r4) := H
    simp only [Option.some.injEq,Prod.mk.injEq] at H
    obtain ⟨rfl,rfl,rfl,rfl⟩ := H
    go_enter Try.func10,Try.ntmps10
    go_wp2_with (first | ((with_reducible refine y20 (N := 2) rfl ?_); refine qe 2 #[.int .i64 a0_0,.int .i64 a0_1,.slice A0_2 l0_2.length c0_2] 28 ?_; intro gb226 hg w9 hbox hb; have BK226 := y0.mk (hbox); have GW226 := y0.mk (qg (w := w) hg); have GE226 := y0.mk (qg (w := w) hg); replace HB := y0.mk (y7 qb hb); clear hb hbox hg) | ((with_reducible refine y20 (N := 3) rfl ?_); refine qe 3 #[.int .i64 a1_0,.int .i64 a1_1,.slice A1_2 l1_2.length c1_2] 28 ?_; intro gb227 hg w10 hbox hb; have BK227 := y0.mk (hbox); have GW227 := y0.mk (qg (w := w) hg); have GE227 := y0.mk (qg (w := w) hg); replace HB := y0.mk (y7 qb hb); have NB226_227 := y0.mk (qn BK226.out hg); have NB227_226 := y0.mk (qm BK226.out hg); replace BK226 := y0.mk (qK BK226.out hb); clear hb hbox hg) | ((with_reducible refine y20 (N := 4) rfl ?_); refine qe 4 #[.int .i64 0,.int .i64 0,.slice none 0 0] 28 ?_; intro gb228 hg w11 hbox hb; have BK228 := y0.mk (hbox); have GW228 := y0.mk (qg (w := w) hg); have GE228 := y0.mk (qg (w := w) hg); replace HB := y0.mk (y7 qb hb); have NB226_228 := y0.mk (qn BK226.out hg); have NB228_226 := y0.mk (qm BK226.out hg); replace BK226 := y0.mk (qK BK226.out hb); have NB227_228 := y0.mk (qn BK227.out hg); have NB228_227 := y0.mk (qm BK227.out hg); replace BK227 := y0.mk (qK BK227.out hb); clear hb hbox hg; have hnb12 := NB226_227.out; have hnc12 := NB227_226.out; have hnb13 := NB226_228.out; have hnc13 := NB228_226.out; obtain ⟨hcz14_0,hcz14_1,hcz14_2,hfz14_0,hfz14_1,hfz14_2⟩ := qz3 BK226.out) | ((with_reducible refine y19 (f := 29) rfl ?_); refine goesL_ (some 7) rfl rfl Try.func29 (by kernel_rfl) rfl #[.agg #[.int .i64 a0_0,.int .i64 a0_1,.slice A0_2 l0_2.length c0_2]] rfl qy0 ?_; (with_reducible refine (impl_isGraph.calls k a0_0 a0_1 _ _ l0_2 true _ (qc (Kd.C_below HR0_2.out HB.out)) HC0_2.out A3.out).mono ?_); rintro e w15 ⟨rfl,hb⟩; refine ⟨_,rfl, ?_⟩; replace BK226 := y0.mk (qK BK226.out hb); replace BK227 := y0.mk (qK BK227.out hb); replace BK228 := y0.mk (qK BK228.out hb); replace HB := y0.mk (y7 qb hb); (try clear hb); (try clear hb2); (try clear hk); (try clear hi); have hnb16 := NB227_228.out; have hnc16 := NB228_227.out; obtain ⟨hcz17_0,hcz17_1,hcz17_2,hfz17_0,hfz17_1,hfz17_2⟩ := qz3 BK227.out) | (go_at_call 29; (with_reducible refine (impl_isGraph.calls k a1_0 a1_1 _ _ l1_2 true _ (qc (Kd.C_below HR1_2.out HB.out)) HC1_2.out A5.out).mono ?_); rintro e w18 ⟨rfl,hb⟩; replace BK226 := y0.mk (qK BK226.out hb); replace BK227 := y0.mk (qK BK227.out hb); replace BK228 := y0.mk (qK BK228.out hb); replace HB := y0.mk (y7 qb hb); (try clear hb); (try clear hb2); (try clear hk); (try clear hi); obtain ⟨hcz19_0,hcz19_1,hcz19_2,hfz19_0,hfz19_1,hfz19_2⟩ := qz3 BK227.out; obtain ⟨hcz20_0,hcz20_1,hcz20_2,hfz20_0,hfz20_1,hfz20_2⟩ := qz3 BK226.out) | ((with_reducible refine y19 (f := 30) rfl ?_); refine goesL_ (some 24) rfl rfl Try.func30 (by kernel_rfl) rfl #[.agg #[.int .i64 a0_0,.int .i64 a0_1,.slice A0_2 l0_2.length c0_2],.agg #[.int .i64 a1_0,.int .i64 a1_1,.slice A1_2 l1_2.length c1_2]] rfl qy0 ?_; (with_reducible refine (impl_compose.calls a0_0 a0_1 _ _ l0_2 a1_0 a1_1 _ _ l1_2 t231 t232 t233 _ (qc (Kd.C_below HR0_2.out HB.out)) HC0_2.out (qc (Kd.C_below HR1_2.out HB.out)) HC1_2.out A8.out).mono ?_); rintro e w21 ⟨v234,rfl,ho0,hb⟩; refine ⟨_,rfl, ?_⟩; have HO235 := y0.mk (Kd.R_lower ho0 (y6 qb)); replace BK226 := y0.mk (qK BK226.out hb); replace BK227 := y0.mk (qK BK227.out hb); replace BK228 := y0.mk (qK BK228.out hb); replace HB := y0.mk (y7 qb hb); (try clear hb); (try clear hb2); (try clear hk); (try clear hi); (try clear ho0); obtain ⟨hcz22_0,hcz22_1,hcz22_2,hfz22_0,hfz22_1,hfz22_2⟩ := qz3 BK228.out; obtain ⟨Ao23,co23,eo23⟩ := Kd.R_slice HO235.out; subst eo23))
    refine bodyPost_ret (results_ct rfl _ _ gb228 28 #[.int .i64 t231,.int .i64 t232,.slice Ao23 t233.length co23] (0,0) _ rfl (by (with_reducible repeat (first | refine y12 ?_ _ | refine y11 ?_ | refine y8 ?_ _)); refine y16 (cs := #[.int .i64 t231,.int .i64 t232,.slice none 0 0]) ?_ 2 _ rfl; (with_reducible repeat (first | refine y12 ?_ _ | refine y11 ?_ | refine y8 ?_ _)); refine y16 (cs := #[.int .i64 t231,.int .i64 0,.slice none 0 0]) ?_ 1 _ rfl; (with_reducible repeat (first | refine y12 ?_ _ | refine y11 ?_ | refine y8 ?_ _)); refine y16 (cs := #[.int .i64 0,.int .i64 0,.slice none 0 0]) ?_ 0 _ rfl; (with_reducible repeat (first | refine y12 ?_ _ | refine y11 ?_ | refine y8 ?_ _)); exact BK228.out) Try.underlying28 rfl (by kernel_rfl)) rfl ?_
    exact ⟨_,by first | rfl | (simp [y17,y18] <;> rfl) | (simp [*,y17,y18] <;> rfl),by (with_reducible repeat (first | apply Kd.R_alloc | apply Kd.R_drewN | apply Kd.R_drew)); exact Kd.R_mono (Kd.R_far (p := ⟨gb228,2,none⟩) (Kd.R_far (p := ⟨gb228,1,none⟩) (Kd.R_far (p := ⟨gb228,0,none⟩) (Kd.R_types HO235.out BK228.out (by decide)) (fun _ hk => hk.2) (.int .i64 t231)) (fun _ hk => hk.2) (.int .i64 t232)) (fun _ hk => hk.2) (.slice Ao23 t233.length co23)) (fun _ hk => trivial),qb⟩
   ·rw [if_neg c7] at H
    have c7b0 : (a1_0 == a0_1) = false := beq_eq_false_iff_ne.mpr c7
    have c7b1 : (a1_0 != a0_1) = true := bne_iff_ne.mpr c7
    simp only [Option.some.injEq,Prod.mk.injEq] at H
    obtain ⟨rfl,rfl,rfl,rfl⟩ := H
    go_enter Try.func10,Try.ntmps10
    go_wp2_with (first | ((with_reducible refine y20 (N := 2) rfl ?_); refine qe 2 #[.int .i64 a0_0,.int .i64 a0_1,.slice A0_2 l0_2.length c0_2] 28 ?_; intro gb226 hg w24 hbox hb; have BK226 := y0.mk (hbox); have GW226 := y0.mk (qg (w := w) hg); have GE226 := y0.mk (qg (w := w) hg); replace HB := y0.mk (y7 qb hb); clear hb hbox hg) | ((with_reducible refine y20 (N := 3) rfl ?_); refine qe 3 #[.int .i64 a1_0,.int .i64 a1_1,.slice A1_2 l1_2.length c1_2] 28 ?_; intro gb227 hg w25 hbox hb; have BK227 := y0.mk (hbox); have GW227 := y0.mk (qg (w := w) hg); have GE227 := y0.mk (qg (w := w) hg); replace HB := y0.mk (y7 qb hb); have NB226_227 := y0.mk (qn BK226.out hg); have NB227_226 := y0.mk (qm BK226.out hg); replace BK226 := y0.mk (qK BK226.out hb); clear hb hbox hg) | ((with_reducible refine y20 (N := 4) rfl ?_); refine qe 4 #[.int .i64 0,.int .i64 0,.slice none 0 0] 28 ?_; intro gb228 hg w26 hbox hb; have BK228 := y0.mk (hbox); have GW228 := y0.mk (qg (w := w) hg); have GE228 := y0.mk (qg (w := w) hg); replace HB := y0.mk (y7 qb hb); have NB226_228 := y0.mk (qn BK226.out hg); have NB228_226 := y0.mk (qm BK226.out hg); replace BK226 := y0.mk (qK BK226.out hb); have NB227_228 := y0.mk (qn BK227.out hg); have NB228_227 := y0.mk (qm BK227.out hg); replace BK227 := y0.mk (qK BK227.out hb); clear hb hbox hg; have hnb27 := NB226_227.out; have hnc27 := NB227_226.out; have hnb28 := NB226_228.out; have hnc28 := NB228_226.out; obtain ⟨hcz29_0,hcz29_1,hcz29_2,hfz29_0,hfz29_1,hfz29_2⟩ := qz3 BK226.out) | ((with_reducible refine y19 (f := 29) rfl ?_); refine goesL_ (some 7) rfl rfl Try.func29 (by kernel_rfl) rfl #[.agg #[.int .i64 a0_0,.int .i64 a0_1,.slice A0_2 l0_2.length c0_2]] rfl qy0 ?_; (with_reducible refine (impl_isGraph.calls k a0_0 a0_1 _ _ l0_2 true _ (qc (Kd.C_below HR0_2.out HB.out)) HC0_2.out A3.out).mono ?_); rintro e w30 ⟨rfl,hb⟩; refine ⟨_,rfl, ?_⟩; replace BK226 := y0.mk (qK BK226.out hb); replace BK227 := y0.mk (qK BK227.out hb); replace BK228 := y0.mk (qK BK228.out hb); replace HB := y0.mk (y7 qb hb); (try clear hb); (try clear hb2); (try clear hk); (try clear hi); have hnb31 := NB227_228.out; have hnc31 := NB228_227.out; obtain ⟨hcz32_0,hcz32_1,hcz32_2,hfz32_0,hfz32_1,hfz32_2⟩ := qz3 BK227.out) | (go_at_call 29; (with_reducible refine (impl_isGraph.calls k a1_0 a1_1 _ _ l1_2 true _ (qc (Kd.C_below HR1_2.out HB.out)) HC1_2.out A5.out).mono ?_); rintro e w33 ⟨rfl,hb⟩; replace BK226 := y0.mk (qK BK226.out hb); replace BK227 := y0.mk (qK BK227.out hb); replace BK228 := y0.mk (qK BK228.out hb); replace HB := y0.mk (y7 qb hb); (try clear hb); (try clear hb2); (try clear hk); (try clear hi); obtain ⟨hcz34_0,hcz34_1,hcz34_2,hfz34_0,hfz34_1,hfz34_2⟩ := qz3 BK227.out; obtain ⟨hcz35_0,hcz35_1,hcz35_2,hfz35_0,hfz35_1,hfz35_2⟩ := qz3 BK226.out; obtain ⟨hcz36_0,hcz36_1,hcz36_2,hfz36_0,hfz36_1,hfz36_2⟩ := qz3 BK228.out))
    refine bodyPost_ret (results_ct rfl _ _ gb228 28 #[.int .i64 0,.int .i64 0,.slice none 0 0] (0,0) _ rfl (by (with_reducible repeat (first | refine y12 ?_ _ | refine y11 ?_ | refine y8 ?_ _)); refine y16 (cs := #[.int .i64 0,.int .i64 0,.slice none 0 0]) ?_ 2 _ rfl; (with_reducible repeat (first | refine y12 ?_ _ | refine y11 ?_ | refine y8 ?_ _)); refine y16 (cs := #[.int .i64 0,.int .i64 0,.slice none 0 0]) ?_ 1 _ rfl; (with_reducible repeat (first | refine y12 ?_ _ | refine y11 ?_ | refine y8 ?_ _)); refine y16 (cs := #[.int .i64 0,.int .i64 0,.slice none 0 0]) ?_ 0 _ rfl; (with_reducible repeat (first | refine y12 ?_ _ | refine y11 ?_ | refine y8 ?_ _)); exact BK228.out) Try.underlying28 rfl (by kernel_rfl)) rfl ?_
    exact ⟨_,by first | rfl | (simp [y17,y18] <;> rfl) | (simp [*,y17,y18] <;> rfl),by first | exact Kd.R_nil _ _ _ _ _ | exact Kd.N_nil _ _ _ _ _ | exact Kd.V_nil _ _ _ _ _ | exact Kd.Q_nil _ _ _ _ _ | exact Kd.S_nil _ _ _ _ _,qb⟩
  ·replace c6 := Bool.eq_false_iff.mpr c6
   subst c6
   replace H := qF H
   simp only [Option.some.injEq,Prod.mk.injEq] at H
   obtain ⟨rfl,rfl,rfl,rfl⟩ := H
   go_enter Try.func10,Try.ntmps10
   go_wp2_with (first | ((with_reducible refine y20 (N := 2) rfl ?_); refine qe 2 #[.int .i64 a0_0,.int .i64 a0_1,.slice A0_2 l0_2.length c0_2] 28 ?_; intro gb226 hg w37 hbox hb; have BK226 := y0.mk (hbox); have GW226 := y0.mk (qg (w := w) hg); have GE226 := y0.mk (qg (w := w) hg); replace HB := y0.mk (y7 qb hb); clear hb hbox hg) | ((with_reducible refine y20 (N := 3) rfl ?_); refine qe 3 #[.int .i64 a1_0,.int .i64 a1_1,.slice A1_2 l1_2.length c1_2] 28 ?_; intro gb227 hg w38 hbox hb; have BK227 := y0.mk (hbox); have GW227 := y0.mk (qg (w := w) hg); have GE227 := y0.mk (qg (w := w) hg); replace HB := y0.mk (y7 qb hb); have NB226_227 := y0.mk (qn BK226.out hg); have NB227_226 := y0.mk (qm BK226.out hg); replace BK226 := y0.mk (qK BK226.out hb); clear hb hbox hg) | ((with_reducible refine y20 (N := 4) rfl ?_); refine qe 4 #[.int .i64 0,.int .i64 0,.slice none 0 0] 28 ?_; intro gb228 hg w39 hbox hb; have BK228 := y0.mk (hbox); have GW228 := y0.mk (qg (w := w) hg); have GE228 := y0.mk (qg (w := w) hg); replace HB := y0.mk (y7 qb hb); have NB226_228 := y0.mk (qn BK226.out hg); have NB228_226 := y0.mk (qm BK226.out hg); replace BK226 := y0.mk (qK BK226.out hb); have NB227_228 := y0.mk (qn BK227.out hg); have NB228_227 := y0.mk (qm BK227.out hg); replace BK227 := y0.mk (qK BK227.out hb); clear hb hbox hg; have hnb40 := NB226_227.out; have hnc40 := NB227_226.out; have hnb41 := NB226_228.out; have hnc41 := NB228_226.out; obtain ⟨hcz42_0,hcz42_1,hcz42_2,hfz42_0,hfz42_1,hfz42_2⟩ := qz3 BK226.out) | ((with_reducible refine y19 (f := 29) rfl ?_); refine goesL_ (some 7) rfl rfl Try.func29 (by kernel_rfl) rfl #[.agg #[.int .i64 a0_0,.int .i64 a0_1,.slice A0_2 l0_2.length c0_2]] rfl qy0 ?_; (with_reducible refine (impl_isGraph.calls k a0_0 a0_1 _ _ l0_2 true _ (qc (Kd.C_below HR0_2.out HB.out)) HC0_2.out A3.out).mono ?_); rintro e w43 ⟨rfl,hb⟩; refine ⟨_,rfl, ?_⟩; replace BK226 := y0.mk (qK BK226.out hb); replace BK227 := y0.mk (qK BK227.out hb); replace BK228 := y0.mk (qK BK228.out hb); replace HB := y0.mk (y7 qb hb); (try clear hb); (try clear hb2); (try clear hk); (try clear hi); have hnb44 := NB227_228.out; have hnc44 := NB228_227.out; obtain ⟨hcz45_0,hcz45_1,hcz45_2,hfz45_0,hfz45_1,hfz45_2⟩ := qz3 BK227.out) | (go_at_call 29; (with_reducible refine (impl_isGraph.calls k a1_0 a1_1 _ _ l1_2 false _ (qc (Kd.C_below HR1_2.out HB.out)) HC1_2.out A5.out).mono ?_); rintro e w46 ⟨rfl,hb⟩; replace BK226 := y0.mk (qK BK226.out hb); replace BK227 := y0.mk (qK BK227.out hb); replace BK228 := y0.mk (qK BK228.out hb); replace HB := y0.mk (y7 qb hb); (try clear hb); (try clear hb2); (try clear hk); (try clear hi); obtain ⟨hcz47_0,hcz47_1,hcz47_2,hfz47_0,hfz47_1,hfz47_2⟩ := qz3 BK228.out))
   refine bodyPost_ret (results_ct rfl _ _ gb228 28 #[.int .i64 0,.int .i64 0,.slice none 0 0] (0,0) _ rfl (by (with_reducible repeat (first | refine y12 ?_ _ | refine y11 ?_ | refine y8 ?_ _)); refine y16 (cs := #[.int .i64 0,.int .i64 0,.slice none 0 0]) ?_ 2 _ rfl; (with_reducible repeat (first | refine y12 ?_ _ | refine y11 ?_ | refine y8 ?_ _)); refine y16 (cs := #[.int .i64 0,.int .i64 0,.slice none 0 0]) ?_ 1 _ rfl; (with_reducible repeat (first | refine y12 ?_ _ | refine y11 ?_ | refine y8 ?_ _)); refine y16 (cs := #[.int .i64 0,.int .i64 0,.slice none 0 0]) ?_ 0 _ rfl; (with_reducible repeat (first | refine y12 ?_ _ | refine y11 ?_ | refine y8 ?_ _)); exact BK228.out) Try.underlying28 rfl (by kernel_rfl)) rfl ?_
   exact ⟨_,by first | rfl | (simp [y17,y18] <;> rfl) | (simp [*,y17,y18] <;> rfl),by first | exact Kd.R_nil _ _ _ _ _ | exact Kd.N_nil _ _ _ _ _ | exact Kd.V_nil _ _ _ _ _ | exact Kd.Q_nil _ _ _ _ _ | exact Kd.S_nil _ _ _ _ _,qb⟩
 ·replace c4 := Bool.eq_false_iff.mpr c4
  subst c4
  replace H := qF H
  simp only [Option.some.injEq,Prod.mk.injEq] at H
  obtain ⟨rfl,rfl,rfl,rfl⟩ := H
  go_enter Try.func10,Try.ntmps10
  go_wp2_with (first | ((with_reducible refine y20 (N := 2) rfl ?_); refine qe 2 #[.int .i64 a0_0,.int .i64 a0_1,.slice A0_2 l0_2.length c0_2] 28 ?_; intro gb226 hg w48 hbox hb; have BK226 := y0.mk (hbox); have GW226 := y0.mk (qg (w := w) hg); have GE226 := y0.mk (qg (w := w) hg); replace HB := y0.mk (y7 qb hb); clear hb hbox hg) | ((with_reducible refine y20 (N := 3) rfl ?_); refine qe 3 #[.int .i64 a1_0,.int .i64 a1_1,.slice A1_2 l1_2.length c1_2] 28 ?_; intro gb227 hg w49 hbox hb; have BK227 := y0.mk (hbox); have GW227 := y0.mk (qg (w := w) hg); have GE227 := y0.mk (qg (w := w) hg); replace HB := y0.mk (y7 qb hb); have NB226_227 := y0.mk (qn BK226.out hg); have NB227_226 := y0.mk (qm BK226.out hg); replace BK226 := y0.mk (qK BK226.out hb); clear hb hbox hg) | ((with_reducible refine y20 (N := 4) rfl ?_); refine qe 4 #[.int .i64 0,.int .i64 0,.slice none 0 0] 28 ?_; intro gb228 hg w50 hbox hb; have BK228 := y0.mk (hbox); have GW228 := y0.mk (qg (w := w) hg); have GE228 := y0.mk (qg (w := w) hg); replace HB := y0.mk (y7 qb hb); have NB226_228 := y0.mk (qn BK226.out hg); have NB228_226 := y0.mk (qm BK226.out hg); replace BK226 := y0.mk (qK BK226.out hb); have NB227_228 := y0.mk (qn BK227.out hg); have NB228_227 := y0.mk (qm BK227.out hg); replace BK227 := y0.mk (qK BK227.out hb); clear hb hbox hg; have hnb51 := NB226_227.out; have hnc51 := NB227_226.out; have hnb52 := NB226_228.out; have hnc52 := NB228_226.out; obtain ⟨hcz53_0,hcz53_1,hcz53_2,hfz53_0,hfz53_1,hfz53_2⟩ := qz3 BK226.out) | ((with_reducible refine y19 (f := 29) rfl ?_); refine goesL_ (some 7) rfl rfl Try.func29 (by kernel_rfl) rfl #[.agg #[.int .i64 a0_0,.int .i64 a0_1,.slice A0_2 l0_2.length c0_2]] rfl qy0 ?_; (with_reducible refine (impl_isGraph.calls k a0_0 a0_1 _ _ l0_2 false _ (qc (Kd.C_below HR0_2.out HB.out)) HC0_2.out A3.out).mono ?_); rintro e w54 ⟨rfl,hb⟩; refine ⟨_,rfl, ?_⟩; replace BK226 := y0.mk (qK BK226.out hb); replace BK227 := y0.mk (qK BK227.out hb); replace BK228 := y0.mk (qK BK228.out hb); replace HB := y0.mk (y7 qb hb); (try clear hb); (try clear hb2); (try clear hk); (try clear hi); have hnb55 := NB228_227.out; have hnc55 := NB227_228.out; obtain ⟨hcz56_0,hcz56_1,hcz56_2,hfz56_0,hfz56_1,hfz56_2⟩ := qz3 BK228.out))
  refine bodyPost_ret (results_ct rfl _ _ gb228 28 #[.int .i64 0,.int .i64 0,.slice none 0 0] (0,0) _ rfl (by (with_reducible repeat (first | refine y12 ?_ _ | refine y11 ?_ | refine y8 ?_ _)); refine y16 (cs := #[.int .i64 0,.int .i64 0,.slice none 0 0]) ?_ 2 _ rfl; (with_reducible repeat (first | refine y12 ?_ _ | refine y11 ?_ | refine y8 ?_ _)); refine y16 (cs := #[.int .i64 0,.int .i64 0,.slice none 0 0]) ?_ 1 _ rfl; (with_reducible repeat (first | refine y12 ?_ _ | refine y11 ?_ | refine y8 ?_ _)); refine y16 (cs := #[.int .i64 0,.int .i64 0,.slice none 0 0]) ?_ 0 _ rfl; (with_reducible repeat (first | refine y12 ?_ _ | refine y11 ?_ | refine y8 ?_ _)); exact BK228.out) Try.underlying28 rfl (by kernel_rfl)) rfl ?_
  exact ⟨_,by first | rfl | (simp [y17,y18] <;> rfl) | (simp [*,y17,y18] <;> rfl),by first | exact Kd.R_nil _ _ _ _ _ | exact Kd.N_nil _ _ _ _ _ | exact Kd.V_nil _ _ _ _ _ | exact Kd.Q_nil _ _ _ _ _ | exact Kd.S_nil _ _ _ _ _,qb⟩
end Go.Proofs.Ytcckpjflbfofjaa.Pd
end
section
namespace Go.Proofs.Ytcckpjflbfofjaa.Pd
open Go.RowKit Go.Proofs.YtcckpjflbfofjaaW.PrintWords Go.Proofs.YtcckpjflbfofjaaW.PrintLast Go.Proofs.YtcckpjflbfofjaaW.PrintMore
attribute [local go_sem] max2_int min2_int max_two min_two max_three min_three max_four min_four   -- for this text's walks alone
set_option linter.unusedVariables false
set_option linter.unusedSimpArgs false
def laws_big.f (l0 : List Int) : Option (Bool) := some (decide ((l0.length : Int) > 1048576))
set_option maxHeartbeats 8000000 in
set_option maxRecDepth 100000 in
theorem laws_big.calls (A0 : Option Addr) (c0 : Nat) (l0 : List Int) (r : Bool) (w : World) (hr0 : Kd.C (Kd.int .u8) w A0 l0.length l0) (hc0 : l0.length ≤ c0) (h : laws_big.f l0 = some r) :
  Calls Try.prog 16 #[.slice A0 l0.length c0] w fun e w' => e = .returned (.bool r) ∧ Drawn0 w w' := by
 have HR0 := y0.mk hr0
 have HC0 := y0.mk hc0
 clear hr0 hc0
 have H : (some (decide ((l0.length : Int) > 1048576))) = some r := h
 clear h
 obtain rfl := Option.some.inj H
 go_enter Try.func16,Try.ntmps16
 go_wp2
 go_ret
 exact ⟨by first | rfl | (simp; done) | (simp [*]; done),by repeat (first | exact Drawn0.refl _ | apply Drawn0.step)⟩
/-- A state of type 73 at block g of W; what its slices lead to came in by w0. -/
def y1 (w0 W : World) (g : Nat) (f0 : List Int) (f1 : Int) (f2 : Int) : Prop := ∃ A0 c0,W.heap[g]? = some (.cells #[.slice A0 f0.length c0,.int .i64 f1,.int .i64 f2] 73 (0,0)) ∧ w0.heap.size ≤ g ∧ Kd.C (Kd.int .u8) w0 A0 f0.length f0
theorem y1.grown {w0 W : World} {g : Nat} {f0 : List Int} {f1 : Int} {f2 : Int} {W1 : World} {row : Option Nat} (h : y1 w0 W g f0 f1 f2) (hw : W.grownBy W1 row) (hne : some g ≠ row) : y1 w0 W1 g f0 f1 f2 := by
 obtain ⟨A0,c0,hb,hg,hr0⟩ := h
 exact ⟨A0,c0,blk_grown hb hw hne,hg,hr0⟩
theorem y1.kept {w0 W : World} {g : Nat} {f0 : List Int} {f1 : Int} {f2 : Int} {W1 : World} {S : Nat → Prop} (h : y1 w0 W g f0 f1 f2) (hk : Kept W W1 S) (hne : ¬ S g) : y1 w0 W1 g f0 f1 f2 := by
 obtain ⟨A0,c0,hb,hg,hr0⟩ := h
 exact ⟨A0,c0,blk_kept hb hk hne,hg,hr0⟩
theorem y1.below {w0 W : World} {g : Nat} {f0 : List Int} {f1 : Int} {f2 : Int} {W1 : World} (h : y1 w0 W g f0 f1 f2) (hw : Below W.heap.size W W1) : y1 w0 W1 g f0 f1 f2 := h.grown (grown_of_below hw none) (by simp)
theorem y1.alloc {w0 W : World} {g : Nat} {f0 : List Int} {f1 : Int} {f2 : Int} (h : y1 w0 W g f0 f1 f2) (o : Obj) : y1 w0 (W.alloc o) g f0 f1 f2 := h.below (y3 (Below.refl _ _) o)
theorem y1.drewN {w0 W : World} {g : Nat} {f0 : List Int} {f1 : Int} {f2 : Int} (h : y1 w0 W g f0 f1 f2) (m : Nat) : y1 w0 (W.drewN m) g f0 f1 f2 := h
theorem y1.drew {w0 W : World} {g : Nat} {f0 : List Int} {f1 : Int} {f2 : Int} (h : y1 w0 W g f0 f1 f2) : y1 w0 W.drew g f0 f1 f2 := h
theorem y1.at_ {w0 W : World} {g : Nat} {f0 : List Int} {f1 : Int} {f2 : Int} {w' : World} {m : Nat} (hq : W.drewN m = w') (h : y1 w0 W g f0 f1 f2) : y1 w0 w' g f0 f1 f2 := by subst hq; exact y1.drewN h m
theorem y1.apart {w0 W : World} {g : Nat} {f0 : List Int} {f1 : Int} {f2 : Int} {α : Type} {d : Kd α} {e : Nat} {base : Nat} {ok : Nat → Prop} {v : Value} {xs : List α} (h : y1 w0 W g f0 f1 f2) (ho : d.R e W base ok v xs) (ht : ∀ q,q ∈ e :: d.E → q ≠ 73) : d.R e W base (fun k => ok k ∧ k ≠ g) v xs := by
 obtain ⟨A0,c0,hb,hg,hr0⟩ := h
 exact Kd.R_types ho hb ht
theorem y1.own_ne {w0 W : World} {g : Nat} {f0 : List Int} {f1 : Int} {f2 : Int} {α : Type} {d : Kd α} {e : Nat} {base : Nat} {ok : Nat → Prop} {v : Value} {xs : List α} (h : y1 w0 W g f0 f1 f2) (ho : d.R e W base ok v xs) (ht : e ≠ 73) : some g ≠ v.ownBlock := by
 obtain ⟨A0,c0,hb,hg,hr0⟩ := h
 exact Kd.R_ne ho hb ht
theorem y1.lt {w0 W : World} {g : Nat} {f0 : List Int} {f1 : Int} {f2 : Int} (h : y1 w0 W g f0 f1 f2) : g < W.heap.size := by
 obtain ⟨A0,c0,hb,hg,hr0⟩ := h
 exact blk_lt hb
theorem y1.ge {w0 W : World} {g : Nat} {f0 : List Int} {f1 : Int} {f2 : Int} (h : y1 w0 W g f0 f1 f2) : w0.heap.size ≤ g := by
 obtain ⟨A0,c0,hb,hg,hr0⟩ := h
 exact hg
theorem y1.ne_blk {w0 W : World} {g : Nat} {f0 : List Int} {f1 : Int} {f2 : Int} {a : Nat} {cs : Array Value} {t : TypeId} {fr : Nat × Nat} (h : y1 w0 W g f0 f1 f2) (hb2 : W.heap[a]? = some (.cells cs t fr)) (ht : t ≠ 73) : g ≠ a := by
 obtain ⟨A0,c0,hb,hg,hr0⟩ := h
 rintro rfl
 rw [hb] at hb2
 injection hb2 with hb2
 injection hb2 with _ ht2
 exact ht ht2.symm
theorem y1.far {w0 W : World} {g : Nat} {f0 : List Int} {f1 : Int} {f2 : Int} {p : Addr} (h : y1 w0 W g f0 f1 f2) (hne : g ≠ p.block) (u : Value) : y1 w0 (W.setCell p u) g f0 f1 f2 := by
 obtain ⟨A0,c0,hb,hg,hr0⟩ := h
 exact ⟨A0,c0,y13 hb hne u,hg,hr0⟩
theorem cellS73_0 {W : World} {g : Nat} {A0 : Option Addr} {c0 : Nat} {f0 : List Int} {f1 : Int} {f2 : Int} (h : W.heap[g]? = some (.cells #[.slice A0 f0.length c0,.int .i64 f1,.int .i64 f2] 73 (0,0))) : W.cell? ⟨g,0,none⟩ = some (.slice A0 f0.length c0) := (y10 h 0).trans rfl
theorem cellS73_1 {W : World} {g : Nat} {A0 : Option Addr} {c0 : Nat} {f0 : List Int} {f1 : Int} {f2 : Int} (h : W.heap[g]? = some (.cells #[.slice A0 f0.length c0,.int .i64 f1,.int .i64 f2] 73 (0,0))) : W.cell? ⟨g,1,none⟩ = some (.int .i64 f1) := (y10 h 1).trans rfl
theorem y1.set_1 {w0 W : World} {g : Nat} {f0 : List Int} {f1 : Int} {f2 : Int} (h : y1 w0 W g f0 f1 f2) (x : Int) : y1 w0 (W.setCell ⟨g,1,none⟩ (.int .i64 x)) g f0 x f2 := by
 obtain ⟨A0,c0,hb,hg,hr0⟩ := h
 exact ⟨A0,c0,by simpa using blk_set hb 1 (.int .i64 x),hg,hr0⟩
theorem cellS73_2 {W : World} {g : Nat} {A0 : Option Addr} {c0 : Nat} {f0 : List Int} {f1 : Int} {f2 : Int} (h : W.heap[g]? = some (.cells #[.slice A0 f0.length c0,.int .i64 f1,.int .i64 f2] 73 (0,0))) : W.cell? ⟨g,2,none⟩ = some (.int .i64 f2) := (y10 h 2).trans rfl
theorem y1.set_2 {w0 W : World} {g : Nat} {f0 : List Int} {f1 : Int} {f2 : Int} (h : y1 w0 W g f0 f1 f2) (x : Int) : y1 w0 (W.setCell ⟨g,2,none⟩ (.int .i64 x)) g f0 f1 x := by
 obtain ⟨A0,c0,hb,hg,hr0⟩ := h
 exact ⟨A0,c0,by simpa using blk_set hb 2 (.int .i64 x),hg,hr0⟩
def spec_l01Open.f (l0 : List Int) : Option (List Int × Int × Int) := some (l0,0,61 + ((l0.length : Int) % 1000))
set_option maxHeartbeats 8000000 in
set_option maxRecDepth 100000 in
theorem spec_l01Open.calls (A0 : Option Addr) (c0 : Nat) (l0 : List Int) (r1 : List Int) (r2 : Int) (r3 : Int) (w0 w : World) (hB : Below w0.heap.size w0 w) (hr0 : Kd.C (Kd.int .u8) w0 A0 l0.length l0) (hc0 : l0.length ≤ c0) (h : spec_l01Open.f l0 = some (r1,r2,r3)) :
  Calls Try.prog 36 #[.slice A0 l0.length c0] w fun e w' => ∃ g_ : Nat,e = .returned (.pointer (some ⟨g_,0,none⟩)) ∧ y1 w0 w' g_ r1 r2 r3 ∧ Below w0.heap.size w0 w' ∧ Below w.heap.size w w' := by
 have hu73 := Try.underlying73
 have HR0 := y0.mk hr0
 have HC0 := y0.mk hc0
 clear hr0 hc0
 have HBW := y0.mk (Below.refl w.heap.size w)
 have HW0 := y0.mk hB.size
 have HB := y0.mk hB
 clear hB
 have H : (some (l0,0,61 + ((l0.length : Int) % 1000))) = some (r1,r2,r3) := h
 clear h
 simp only [Option.some.injEq,Prod.mk.injEq] at H
 obtain ⟨rfl,rfl,rfl⟩ := H
 go_enter Try.func36,Try.ntmps36
 go_wp2_with (first | ((with_reducible refine y20 (N := 9) rfl ?_); refine qe 9 #[.slice A0 l0.length c0,.int .i64 0,.int .i64 (61 + ((l0.length : Int) % 1000))] 73 ?_; intro gb327 hg w2 hbox hb; replace HB := y0.mk (y7 qb hb); have BK327 := y0.mk (hbox); have GW327 := y0.mk ((by rw [hg]; exact (y6 (by repeat (first | (with_reducible first | exact HBW.out | apply y3 | apply y24 | apply y4) | exact HBW.out))) : w.heap.size ≤ gb327)); have GE327 := y0.mk ((Nat.le_trans HW0.out (by rw [hg]; exact (y6 (by repeat (first | (with_reducible first | exact HBW.out | apply y3 | apply y24 | apply y4) | exact HBW.out))) : w.heap.size ≤ gb327) : w0.heap.size ≤ gb327)); replace HBW := y0.mk (y7 HBW.out hb); clear hb hbox hg))
 go_ret
 exact ⟨_,rfl,(show y1 w0 _ gb327 l0 0 (61 + ((l0.length : Int) % 1000)) from ⟨_,_,by (with_reducible repeat (first | refine y12 ?_ _ | refine y11 ?_ | refine y8 ?_ _)); exact BK327.out,GE327.out,HR0.out⟩),qb,by repeat (first | (with_reducible first | exact HBW.out | apply y3 | apply y24 | apply y4 | refine y5 ?_ GW327.out) | exact HBW.out)⟩
def z2_.f (s0_0 : List Int) (s0_1 : Int) (s0_2 : Int) (a1 : Int) : Option (Int × Int × Int) := if a1 < 2 then (some (0,s0_1,s0_2)) else (if s0_1 < (s0_0.length : Int) then (if 0 ≤ s0_1 then (if a1 = 0 then (none) else (some (Int.tmod (wrap64 (rd s0_0 s0_1)) a1,wrap64 (s0_1 + 1),s0_2))) else (none)) else (if (s0_0.length : Int) > 0 then (if (s0_0.length : Int) = 0 then (none) else (if 0 ≤ (Int.tmod s0_1 (s0_0.length : Int)) then (if (Int.tmod s0_1 (s0_0.length : Int)) < (s0_0.length : Int) then (if a1 = 0 then (none) else (some (Int.tmod (wrap64 ((wrap64 (Int.tdiv (Int.tmod (wrap64 ((wrap64 (s0_2 * 1103)) + 12345)) 65521) 7)) + (wrap64 (rd s0_0 (Int.tmod s0_1 (s0_0.length : Int)))))) a1,wrap64 (s0_1 + 1),Int.tmod (wrap64 ((wrap64 (s0_2 * 1103)) + 12345)) 65521))) else (none)) else (none))) else (if a1 = 0 then (none) else (some ((0 : Int) % a1,wrap64 (s0_1 + 1),Int.tmod (wrap64 ((wrap64 (s0_2 * 1103)) + 12345)) 65521)))))
set_option maxHeartbeats 8000000 in
set_option maxRecDepth 100000 in
theorem z2_.calls (g : Nat) (s0_0 : List Int) (s0_1 : Int) (s0_2 : Int) (a1 : Int) (r1 : Int) (r2 : Int) (r3 : Int) (w0 w : World) (hI : y1 w0 w g s0_0 s0_1 s0_2) (hB : Below w0.heap.size w0 w) (h : z2_.f s0_0 s0_1 s0_2 a1 = some (r1,r2,r3)) :
  Calls Try.prog 49 #[.pointer (some ⟨g,0,none⟩),.int .i64 a1] w fun e w' => e = .returned (.int .i64 r1) ∧ y1 w0 w' g s0_0 r2 r3 ∧ Below w0.heap.size w0 w' ∧ y2 w w' g none := by
 have HI0 := y0.mk hI
 have HK := y0.mk (y2.refl w g none)
 have HL := y0.mk hB.size
 clear hI
 have HW0 := y0.mk hB.size
 have HB := y0.mk hB
 clear hB
 have H : (if a1 < 2 then (some (0,s0_1,s0_2)) else (if s0_1 < (s0_0.length : Int) then (if 0 ≤ s0_1 then (if a1 = 0 then (none) else (some (Int.tmod (wrap64 (rd s0_0 s0_1)) a1,wrap64 (s0_1 + 1),s0_2))) else (none)) else (if (s0_0.length : Int) > 0 then (if (s0_0.length : Int) = 0 then (none) else (if 0 ≤ (Int.tmod s0_1 (s0_0.length : Int)) then (if (Int.tmod s0_1 (s0_0.length : Int)) < (s0_0.length : Int) then (if a1 = 0 then (none) else (some (Int.tmod (wrap64 ((wrap64 (Int.tdiv (Int.tmod (wrap64 ((wrap64 (s0_2 * 1103)) + 12345)) 65521) 7)) + (wrap64 (rd s0_0 (Int.tmod s0_1 (s0_0.length : Int)))))) a1,wrap64 (s0_1 + 1),Int.tmod (wrap64 ((wrap64 (s0_2 * 1103)) + 12345)) 65521))) else (none)) else (none))) else (if a1 = 0 then (none) else (some ((0 : Int) % a1,wrap64 (s0_1 + 1),Int.tmod (wrap64 ((wrap64 (s0_2 * 1103)) + 12345)) 65521)))))) = some (r1,r2,r3) := h
 clear h
 by_cases c3 : a1 < 2
 ·rw [if_pos c3] at H
  have c3b0 := decide_eq_true c3
  clear c3
  simp only [Option.some.injEq,Prod.mk.injEq] at H
  obtain ⟨rfl,rfl,rfl⟩ := H
  go_enter Try.func49,Try.ntmps49
  go_wp2
  repeat (go_quiet (fail); try go_wp2)
  go_ret
  exact ⟨by first | rfl | (simp [y17,y18] <;> rfl) | (simp [*,y17,y18] <;> rfl),by repeat (first | (with_reducible first | exact HI0.out | apply y1.alloc | apply y1.drewN | apply y1.drew | apply y1.set_1 | apply y1.set_2) | exact HI0.out),by repeat (first | (with_reducible first | exact HB.out | apply y3 | apply y24 | apply y4 | refine y5 ?_ (y1.ge HI0.out)) | exact HB.out),by repeat (first | (with_reducible first | exact HK.out | apply y2.set_ | apply y23 | apply y22 | apply y21) | exact HK.out)⟩
 ·rw [if_neg c3] at H
  have c3b0 := decide_eq_false c3
  clear c3
  by_cases c4 : s0_1 < (s0_0.length : Int)
  ·rw [if_pos c4] at H
   have c4b0 := decide_eq_true c4
   clear c4
   obtain ⟨c5,H⟩ := qo H
   have c5b0 : decide (0 ≤ s0_1) = true := decide_eq_true c5
   clear c5
   obtain ⟨c6,H⟩ := qi H
   have c6b0 : (a1 == 0) = false := beq_eq_false_iff_ne.mpr c6
   have c6b1 : (a1 != 0) = true := bne_iff_ne.mpr c6
   simp only [Option.some.injEq,Prod.mk.injEq] at H
   obtain ⟨rfl,rfl,rfl⟩ := H
   obtain ⟨ASz7_0,cSz7_0,HGz7,hgz7,HSz7_0⟩ := HI0.out
   have hcz7_0 := cellS73_0 HGz7
   have hcz7_1 := cellS73_1 HGz7
   have hcz7_2 := cellS73_2 HGz7
   have hfz7_1 := y15 HGz7 1
   have hfz7_2 := y15 HGz7 2
   clear HGz7 hgz7
   have p328 : 0 ≤ (s0_1 : Int) := of_decide_eq_true qy1
   have q328 : s0_1 < (s0_0.length : Int) := of_decide_eq_true qy1
   obtain ⟨ad328,e328,hx328_0⟩ := Kd.at_int HSz7_0 s0_1 p328 q328
   cases e328
   replace hx328_0 := pw_cell_below HB.out hx328_0
   replace p328 := eq_true p328
   replace q328 := eq_true q328
   go_enter Try.func49,Try.ntmps49
   go_wp2
   repeat (go_quiet (fail); try go_wp2)
   go_ret
   exact ⟨by first | rfl | (simp [y17,y18] <;> rfl) | (simp [*,y17,y18] <;> rfl),by repeat (first | (with_reducible first | exact HI0.out | apply y1.alloc | apply y1.drewN | apply y1.drew | apply y1.set_1 | apply y1.set_2) | exact HI0.out),by repeat (first | (with_reducible first | exact HB.out | apply y3 | apply y24 | apply y4 | refine y5 ?_ (y1.ge HI0.out)) | exact HB.out),by repeat (first | (with_reducible first | exact HK.out | apply y2.set_ | apply y23 | apply y22 | apply y21) | exact HK.out)⟩
  ·rw [if_neg c4] at H
   have c4b0 := decide_eq_false c4
   clear c4
   by_cases c8 : (s0_0.length : Int) > 0
   ·rw [if_pos c8] at H
    have c8b0 : decide (0 < (s0_0.length : Int)) = true := decide_eq_true c8
    have c8b1 : decide (0 < s0_0.length) = true := decide_eq_true (by omega)
    clear c8
    obtain ⟨c9,H⟩ := qi H
    have c9b0 : ((s0_0.length : Int) == 0) = false := beq_eq_false_iff_ne.mpr c9
    have c9b1 : ((s0_0.length : Int) != 0) = true := bne_iff_ne.mpr c9
    have c9b2 : ¬ (s0_0 = []) := fun h_ => c9 (by rw [h_]; rfl)
    obtain ⟨ji10,hji10⟩ : ∃ j_ : Int,(Int.tmod s0_1 (s0_0.length : Int)) = j_ := ⟨_,rfl⟩
    replace H : (if 0 ≤ (ji10) then (if (ji10) < (s0_0.length : Int) then (if a1 = 0 then (none) else (some (Int.tmod (wrap64 ((wrap64 (Int.tdiv (Int.tmod (wrap64 ((wrap64 (s0_2 * 1103)) + 12345)) 65521) 7)) + (wrap64 (rd s0_0 (ji10))))) a1,wrap64 (s0_1 + 1),Int.tmod (wrap64 ((wrap64 (s0_2 * 1103)) + 12345)) 65521))) else (none)) else (none)) = some (r1,r2,r3) := by first | (rw [hji10] at H; exact H) | (simp only [hji10] at H ⊢; exact H)
    obtain ⟨c11,H⟩ := qo H
    have c11b0 : decide (0 ≤ (ji10)) = true := decide_eq_true c11
    clear c11
    obtain ⟨c12,H⟩ := qo H
    have c12b0 : decide ((ji10) < (s0_0.length : Int)) = true := decide_eq_true c12
    clear c12
    obtain ⟨c13,H⟩ := qi H
    have c13b0 : (a1 == 0) = false := beq_eq_false_iff_ne.mpr c13
    have c13b1 : (a1 != 0) = true := bne_iff_ne.mpr c13
    simp only [Option.some.injEq,Prod.mk.injEq] at H
    obtain ⟨rfl,rfl,rfl⟩ := H
    obtain ⟨ASz14_0,cSz14_0,HGz14,hgz14,HSz14_0⟩ := HI0.out
    have hcz14_0 := cellS73_0 HGz14
    have hcz14_1 := cellS73_1 HGz14
    have hcz14_2 := cellS73_2 HGz14
    have hfz14_1 := y15 HGz14 1
    have hfz14_2 := y15 HGz14 2
    clear HGz14 hgz14
    have p329 : 0 ≤ ((ji10) : Int) := of_decide_eq_true qy1
    have q329 : (ji10) < (s0_0.length : Int) := of_decide_eq_true qy1
    obtain ⟨ad329,e329,hx329_0⟩ := Kd.at_int HSz14_0 (ji10) p329 q329
    cases e329
    have hn329_0 : ad329.block ≠ g := Nat.ne_of_lt (Nat.lt_of_lt_of_le (by have := World.block_lt_of_cell? _ _ hx329_0; first | rwa [add_block] at this | exact this) (y1.ge HI0.out))
    replace hx329_0 := pw_cell_below HB.out hx329_0
    replace hx329_0 := (cell_far (p := ⟨g,2,none⟩) (by first | (rw [add_block]; exact hn329_0) | (show (Addr.add _ _).block ≠ _; rw [add_block]; exact hn329_0) | exact hn329_0) (.int .i64 (Int.tmod (wrap64 ((wrap64 (s0_2 * 1103)) + 12345)) 65521))).trans hx329_0
    (try have hy329_0 := fun (n_ : Nat) => (show (((w.drewN n_).setCell ⟨g,2,none⟩ (.int .i64 (Int.tmod (wrap64 ((wrap64 (s0_2 * 1103)) + 12345)) 65521)))).cell? _ = some _ from hx329_0))
    clear hn329_0
    replace p329 := eq_true p329
    replace q329 := eq_true q329
    go_enter Try.func49,Try.ntmps49
    go_wp2
    repeat (go_quiet (fail); try go_wp2)
    go_ret
    exact ⟨by first | rfl | (simp [y17,y18] <;> rfl) | (simp only [← hji10]; first | rfl | (simp [y17,y18] <;> rfl)) | (simp [*,y17,y18] <;> rfl),by repeat (first | (with_reducible first | exact HI0.out | apply y1.alloc | apply y1.drewN | apply y1.drew | apply y1.set_1 | apply y1.set_2) | exact HI0.out),by repeat (first | (with_reducible first | exact HB.out | apply y3 | apply y24 | apply y4 | refine y5 ?_ (y1.ge HI0.out)) | exact HB.out),by repeat (first | (with_reducible first | exact HK.out | apply y2.set_ | apply y23 | apply y22 | apply y21) | exact HK.out)⟩
   ·rw [if_neg c8] at H
    have c8b0 : decide (0 < (s0_0.length : Int)) = false := decide_eq_false c8
    have c8b1 : decide (0 < s0_0.length) = false := decide_eq_false (by omega)
    clear c8
    obtain ⟨c15,H⟩ := qi H
    have c15b0 : (a1 == 0) = false := beq_eq_false_iff_ne.mpr c15
    have c15b1 : (a1 != 0) = true := bne_iff_ne.mpr c15
    simp only [Option.some.injEq,Prod.mk.injEq] at H
    obtain ⟨rfl,rfl,rfl⟩ := H
    obtain ⟨ASz16_0,cSz16_0,HGz16,hgz16,HSz16_0⟩ := HI0.out
    have hcz16_0 := cellS73_0 HGz16
    have hcz16_1 := cellS73_1 HGz16
    have hcz16_2 := cellS73_2 HGz16
    have hfz16_1 := y15 HGz16 1
    have hfz16_2 := y15 HGz16 2
    clear HGz16 hgz16
    go_enter Try.func49,Try.ntmps49
    go_wp2
    repeat (go_quiet (fail); try go_wp2)
    go_ret
    exact ⟨by first | rfl | (simp [y17,y18] <;> rfl) | (simp [*,y17,y18] <;> rfl),by repeat (first | (with_reducible first | exact HI0.out | apply y1.alloc | apply y1.drewN | apply y1.drew | apply y1.set_1 | apply y1.set_2) | exact HI0.out),by repeat (first | (with_reducible first | exact HB.out | apply y3 | apply y24 | apply y4 | refine y5 ?_ (y1.ge HI0.out)) | exact HB.out),by repeat (first | (with_reducible first | exact HK.out | apply y2.set_ | apply y23 | apply y22 | apply y21) | exact HK.out)⟩
def spec_l01Cur_once.f (s0_0 : List Int) (s0_1 : Int) (s0_2 : Int) (a1 : Int) : Option (Bool × Int × Int) := (z2_.f s0_0 s0_1 s0_2 a1).bind fun bt330 => (some ((bt330.1 == (wrap64 (a1 - 1))),bt330.2.1,bt330.2.2))
set_option maxHeartbeats 8000000 in
set_option maxRecDepth 100000 in
theorem spec_l01Cur_once.calls (g : Nat) (s0_0 : List Int) (s0_1 : Int) (s0_2 : Int) (a1 : Int) (r1 : Bool) (r2 : Int) (r3 : Int) (w0 w : World) (hI : y1 w0 w g s0_0 s0_1 s0_2) (hB : Below w0.heap.size w0 w) (h : spec_l01Cur_once.f s0_0 s0_1 s0_2 a1 = some (r1,r2,r3)) :
  Calls Try.prog 50 #[.pointer (some ⟨g,0,none⟩),.int .i64 a1] w fun e w' => e = .returned (.bool r1) ∧ y1 w0 w' g s0_0 r2 r3 ∧ Below w0.heap.size w0 w' ∧ y2 w w' g none := by
 have HI0 := y0.mk hI
 have HK := y0.mk (y2.refl w g none)
 have HL := y0.mk hB.size
 clear hI
 have HW0 := y0.mk hB.size
 have HB := y0.mk hB
 clear hB
 have H : ((z2_.f s0_0 s0_1 s0_2 a1).bind fun bt330 => (some ((bt330.1 == (wrap64 (a1 - 1))),bt330.2.1,bt330.2.2))) = some (r1,r2,r3) := h
 clear h
 obtain ⟨⟨t330,t331,t332⟩,A3,H⟩ := qB H
 replace H : (some ((t330 == (wrap64 (a1 - 1))),t331,t332)) = some (r1,r2,r3) := H
 simp only [Option.some.injEq,Prod.mk.injEq] at H
 obtain ⟨rfl,rfl,rfl⟩ := H
 go_enter Try.func50,Try.ntmps50
 go_wp2_with (first | ((with_reducible refine y19 (f := 49) rfl ?_); refine goesL_ (some 7) rfl rfl Try.func49 (by kernel_rfl) rfl #[.pointer (some ⟨g,0,none⟩),.int .i64 a1] rfl qy0 ?_; (with_reducible refine (z2_.calls g s0_0 s0_1 s0_2 a1 t330 t331 t332 w0 _ (by repeat (first | (with_reducible first | exact HI0.out | apply y1.alloc | apply y1.drewN | apply y1.drew | apply y1.set_1 | apply y1.set_2) | exact HI0.out)) (by repeat (first | (with_reducible first | exact HB.out | apply y3 | apply y24 | apply y4 | refine y5 ?_ (y1.ge HI0.out)) | exact HB.out)) A3.out).mono ?_); rintro e w4 ⟨rfl,hi,hb,hk⟩; refine ⟨_,rfl, ?_⟩; replace HK := y0.mk (y2.trans (by repeat (first | (with_reducible first | exact HK.out | apply y2.set_ | apply y23 | apply y22 | apply y21) | exact HK.out)) hk (.inl rfl)); replace HB := y0.mk (hb); replace HI0 := y0.mk (hi); (try clear hb); (try clear hb2); (try clear hk); (try clear hi)))
 go_ret
 exact ⟨by first | rfl | (simp [y17,y18] <;> rfl) | (simp [*,y17,y18] <;> rfl),by repeat (first | (with_reducible first | exact HI0.out | apply y1.alloc | apply y1.drewN | apply y1.drew | apply y1.set_1 | apply y1.set_2) | exact HI0.out),by repeat (first | (with_reducible first | exact HB.out | apply y3 | apply y24 | apply y4 | refine y5 ?_ (y1.ge HI0.out)) | exact HB.out),by repeat (first | (with_reducible first | exact HK.out | apply y2.set_ | apply y23 | apply y22 | apply y21) | exact HK.out)⟩
def spec_l01Cur_raw.f (s0_0 : List Int) (s0_1 : Int) (s0_2 : Int) : Option (Int × Int × Int) := (z2_.f s0_0 s0_1 s0_2 8).bind fun bt333 => (if bt333.1 = 0 then ((z2_.f s0_0 bt333.2.1 bt333.2.2 256).bind fun bt336 => (some (wrap64 (bt336.1 - 128),bt336.2.1,bt336.2.2))) else (if bt333.1 = 1 then ((some (([9223372036854775807,(-9223372036854775808),4611686018427387904,1000,1001,(-1000),100000,100001] : List Int) : List Int)).bind fun y339 => ((z2_.f s0_0 bt333.2.1 bt333.2.2 8).bind fun bt342 => (if 0 ≤ bt342.1 then (if bt342.1 < (y339.length : Int) then (some (rd y339 bt342.1,bt342.2.1,bt342.2.2)) else (none)) else (none)))) else ((z2_.f s0_0 bt333.2.1 bt333.2.2 14).bind fun bt346 => (some (wrap64 (bt346.1 - 3),bt346.2.1,bt346.2.2)))))
set_option maxHeartbeats 8000000 in
set_option maxRecDepth 100000 in
theorem spec_l01Cur_raw.calls (g : Nat) (s0_0 : List Int) (s0_1 : Int) (s0_2 : Int) (r1 : Int) (r2 : Int) (r3 : Int) (w0 w : World) (hI : y1 w0 w g s0_0 s0_1 s0_2) (hB : Below w0.heap.size w0 w) (h : spec_l01Cur_raw.f s0_0 s0_1 s0_2 = some (r1,r2,r3)) :
  Calls Try.prog 51 #[.pointer (some ⟨g,0,none⟩)] w fun e w' => e = .returned (.int .i64 r1) ∧ y1 w0 w' g s0_0 r2 r3 ∧ Below w0.heap.size w0 w' ∧ y2 w w' g none := by
 have HI0 := y0.mk hI
 have HK := y0.mk (y2.refl w g none)
 have HL := y0.mk hB.size
 clear hI
 have HW0 := y0.mk hB.size
 have HB := y0.mk hB
 clear hB
 have H : ((z2_.f s0_0 s0_1 s0_2 8).bind fun bt333 => (if bt333.1 = 0 then ((z2_.f s0_0 bt333.2.1 bt333.2.2 256).bind fun bt336 => (some (wrap64 (bt336.1 - 128),bt336.2.1,bt336.2.2))) else (if bt333.1 = 1 then ((some (([9223372036854775807,(-9223372036854775808),4611686018427387904,1000,1001,(-1000),100000,100001] : List Int) : List Int)).bind fun y339 => ((z2_.f s0_0 bt333.2.1 bt333.2.2 8).bind fun bt342 => (if 0 ≤ bt342.1 then (if bt342.1 < (y339.length : Int) then (some (rd y339 bt342.1,bt342.2.1,bt342.2.2)) else (none)) else (none)))) else ((z2_.f s0_0 bt333.2.1 bt333.2.2 14).bind fun bt346 => (some (wrap64 (bt346.1 - 3),bt346.2.1,bt346.2.2)))))) = some (r1,r2,r3) := h
 clear h
 obtain ⟨⟨t333,t334,t335⟩,A2,H⟩ := qB H
 replace H : (if t333 = 0 then ((z2_.f s0_0 t334 t335 256).bind fun bt336 => (some (wrap64 (bt336.1 - 128),bt336.2.1,bt336.2.2))) else (if t333 = 1 then ((some (([9223372036854775807,(-9223372036854775808),4611686018427387904,1000,1001,(-1000),100000,100001] : List Int) : List Int)).bind fun y339 => ((z2_.f s0_0 t334 t335 8).bind fun bt342 => (if 0 ≤ bt342.1 then (if bt342.1 < (y339.length : Int) then (some (rd y339 bt342.1,bt342.2.1,bt342.2.2)) else (none)) else (none)))) else ((z2_.f s0_0 t334 t335 14).bind fun bt346 => (some (wrap64 (bt346.1 - 3),bt346.2.1,bt346.2.2))))) = some (r1,r2,r3) := H
 by_cases c3 : t333 = 0
 ·rw [if_pos c3] at H
  have c3b0 : (t333 == 0) = true := beq_iff_eq.mpr c3
  have c3b1 : (t333 != 0) = false := bne_eq_false_iff_eq.mpr c3
  clear c3
  obtain ⟨⟨t336,t337,t338⟩,A4,H⟩ := qB H
  replace H : (some (wrap64 (t336 - 128),t337,t338)) = some (r1,r2,r3) := H
  simp only [Option.some.injEq,Prod.mk.injEq] at H
  obtain ⟨rfl,rfl,rfl⟩ := H
  go_enter Try.func51,Try.ntmps51
  go_wp2_with (first | ((with_reducible refine y19 (f := 49) rfl ?_); refine goesL_ (some 4) rfl rfl Try.func49 (by kernel_rfl) rfl #[.pointer (some ⟨g,0,none⟩),.int .i64 8] rfl qy0 ?_; (with_reducible refine (z2_.calls g s0_0 s0_1 s0_2 8 t333 t334 t335 w0 _ (by repeat (first | (with_reducible first | exact HI0.out | apply y1.alloc | apply y1.drewN | apply y1.drew | apply y1.set_1 | apply y1.set_2) | exact HI0.out)) (by repeat (first | (with_reducible first | exact HB.out | apply y3 | apply y24 | apply y4 | refine y5 ?_ (y1.ge HI0.out)) | exact HB.out)) A2.out).mono ?_); rintro e w5 ⟨rfl,hi,hb,hk⟩; refine ⟨_,rfl, ?_⟩; replace HK := y0.mk (y2.trans (by repeat (first | (with_reducible first | exact HK.out | apply y2.set_ | apply y23 | apply y22 | apply y21) | exact HK.out)) hk (.inl rfl)); replace HB := y0.mk (hb); replace HI0 := y0.mk (hi); (try clear hb); (try clear hb2); (try clear hk); (try clear hi)) | ((with_reducible refine y19 (f := 49) rfl ?_); refine goesL_ (some 8) rfl rfl Try.func49 (by kernel_rfl) rfl #[.pointer (some ⟨g,0,none⟩),.int .i64 256] rfl qy0 ?_; (with_reducible refine (z2_.calls g s0_0 t334 t335 256 t336 t337 t338 w0 _ (by repeat (first | (with_reducible first | exact HI0.out | apply y1.alloc | apply y1.drewN | apply y1.drew | apply y1.set_1 | apply y1.set_2) | exact HI0.out)) (by repeat (first | (with_reducible first | exact HB.out | apply y3 | apply y24 | apply y4 | refine y5 ?_ (y1.ge HI0.out)) | exact HB.out)) A4.out).mono ?_); rintro e w6 ⟨rfl,hi,hb,hk⟩; refine ⟨_,rfl, ?_⟩; replace HK := y0.mk (y2.trans (by repeat (first | (with_reducible first | exact HK.out | apply y2.set_ | apply y23 | apply y22 | apply y21) | exact HK.out)) hk (.inl rfl)); replace HB := y0.mk (hb); replace HI0 := y0.mk (hi); (try clear hb); (try clear hb2); (try clear hk); (try clear hi)))
  go_ret
  exact ⟨by first | rfl | (simp [y17,y18] <;> rfl) | (simp [*,y17,y18] <;> rfl),by repeat (first | (with_reducible first | exact HI0.out | apply y1.alloc | apply y1.drewN | apply y1.drew | apply y1.set_1 | apply y1.set_2) | exact HI0.out),by repeat (first | (with_reducible first | exact HB.out | apply y3 | apply y24 | apply y4 | refine y5 ?_ (y1.ge HI0.out)) | exact HB.out),by repeat (first | (with_reducible first | exact HK.out | apply y2.set_ | apply y23 | apply y22 | apply y21) | exact HK.out)⟩
 ·rw [if_neg c3] at H
  have c3b0 : (t333 == 0) = false := beq_eq_false_iff_ne.mpr c3
  have c3b1 : (t333 != 0) = true := bne_iff_ne.mpr c3
  by_cases c7 : t333 = 1
  ·rw [if_pos c7] at H
   have c7b0 : (t333 == 1) = true := beq_iff_eq.mpr c7
   have c7b1 : (t333 != 1) = false := bne_eq_false_iff_eq.mpr c7
   clear c7
   obtain ⟨y339,hy339⟩ : ∃ y_ : List Int,y_ = (([9223372036854775807,(-9223372036854775808),4611686018427387904,1000,1001,(-1000),100000,100001] : List Int)) := ⟨_,rfl⟩
   replace H : ((z2_.f s0_0 t334 t335 8).bind fun bt342 => (if 0 ≤ bt342.1 then (if bt342.1 < (y339.length : Int) then (some (rd y339 bt342.1,bt342.2.1,bt342.2.2)) else (none)) else (none))) = some (r1,r2,r3) := by first | (rw [hy339]; with_reducible exact H) | (have H2_ := (Option.bind_some _ _).symm.trans H; rw [hy339]; with_reducible exact H2_) | (have H2_ := (Option.bind_some _ _).symm.trans H; with_reducible exact H2_) | with_reducible exact H | (rw [hy339]; exact H) | exact H
   have Ny339 := y0.mk hy339
   clear hy339
   obtain ⟨⟨t342,t343,t344⟩,A8,H⟩ := qB H
   replace H : (if 0 ≤ t342 then (if t342 < (y339.length : Int) then (some (rd y339 t342,t343,t344)) else (none)) else (none)) = some (r1,r2,r3) := H
   obtain ⟨c9,H⟩ := qo H
   have c9b0 : decide (0 ≤ t342) = true := decide_eq_true c9
   clear c9
   obtain ⟨c10,H⟩ := qo H
   have c10b0 : decide (t342 < (y339.length : Int)) = true := decide_eq_true c10
   clear c10
   simp only [Option.some.injEq,Prod.mk.injEq] at H
   obtain ⟨rfl,rfl,rfl⟩ := H
   go_enter Try.func51,Try.ntmps51
   go_wp2_with (first | ((with_reducible refine y19 (f := 49) rfl ?_); refine goesL_ (some 4) rfl rfl Try.func49 (by kernel_rfl) rfl #[.pointer (some ⟨g,0,none⟩),.int .i64 8] rfl qy0 ?_; (with_reducible refine (z2_.calls g s0_0 s0_1 s0_2 8 t333 t334 t335 w0 _ (by repeat (first | (with_reducible first | exact HI0.out | apply y1.alloc | apply y1.drewN | apply y1.drew | apply y1.set_1 | apply y1.set_2) | exact HI0.out)) (by repeat (first | (with_reducible first | exact HB.out | apply y3 | apply y24 | apply y4 | refine y5 ?_ (y1.ge HI0.out)) | exact HB.out)) A2.out).mono ?_); rintro e w11 ⟨rfl,hi,hb,hk⟩; refine ⟨_,rfl, ?_⟩; replace HK := y0.mk (y2.trans (by repeat (first | (with_reducible first | exact HK.out | apply y2.set_ | apply y23 | apply y22 | apply y21) | exact HK.out)) hk (.inl rfl)); replace HB := y0.mk (hb); replace HI0 := y0.mk (hi); (try clear hb); (try clear hb2); (try clear hk); (try clear hi)) | ((with_reducible refine y20 (N := 12) rfl ?_); refine Kd.R_lit (Kd.int .i64) _ 3 ?hg (N := 12) ?hd (xs := ([9223372036854775807,(-9223372036854775808),4611686018427387904,1000,1001,(-1000),100000,100001] : List Int)) (inner := [.int .i64 9223372036854775807,.int .i64 (-9223372036854775808),.int .i64 4611686018427387904,.int .i64 1000,.int .i64 1001,.int .i64 (-1000),.int .i64 100000,.int .i64 100001]) (ok := fun _ => True) (okp := fun _ => True) ?hr ?hp (fun _ hk => hk) trivial (Below.refl _ _) (Nat.le_refl _) (by simp) ?_; (case hd => rfl); (case hg => rfl); (case hr => first | (go_simp; done) | (go_simp; rfl)); (case hp => exact (Reps.one (show Kd.M (Kd.int .i64) _ _ _ 9223372036854775807 [.int .i64 9223372036854775807] from rfl) (Reps.one (show Kd.M (Kd.int .i64) _ _ _ (-9223372036854775808) [.int .i64 (-9223372036854775808)] from rfl) (Reps.one (show Kd.M (Kd.int .i64) _ _ _ 4611686018427387904 [.int .i64 4611686018427387904] from rfl) (Reps.one (show Kd.M (Kd.int .i64) _ _ _ 1000 [.int .i64 1000] from rfl) (Reps.one (show Kd.M (Kd.int .i64) _ _ _ 1001 [.int .i64 1001] from rfl) (Reps.one (show Kd.M (Kd.int .i64) _ _ _ (-1000) [.int .i64 (-1000)] from rfl) (Reps.one (show Kd.M (Kd.int .i64) _ _ _ 100000 [.int .i64 100000] from rfl) (Reps.one (show Kd.M (Kd.int .i64) _ _ _ 100001 [.int .i64 100001] from rfl) (Reps.none _ _)))))))))); intro v340 w12 ho13 hb hg_ hnew_; clear hg_ hnew_; (first | rw [← Ny339.out] at ho13 | (simp only [Int.reduceToNat] at ho13; rw [← Ny339.out] at ho13)); have HO341 := y0.mk (Kd.R_lower ho13 (keep_size (w := w) (g := g) (row := none) (by repeat (first | (with_reducible first | exact HK.out | apply y2.set_ | apply y23 | apply y22 | apply y21) | exact HK.out)))); replace HK := y0.mk (y2.trans (by repeat (first | (with_reducible first | exact HK.out | apply y2.set_ | apply y23 | apply y22 | apply y21) | exact HK.out)) (y2.of_below hb g none) (.inl rfl)); replace HB := y0.mk (y7 (by repeat (first | (with_reducible first | exact HB.out | apply y3 | apply y24 | apply y4 | refine y5 ?_ (y1.ge HI0.out)) | exact HB.out)) hb); replace HI0 := y0.mk (y1.below (by repeat (first | (with_reducible first | exact HI0.out | apply y1.alloc | apply y1.drewN | apply y1.drew | apply y1.set_1 | apply y1.set_2) | exact HI0.out)) hb); clear hb ho13) | ((with_reducible refine y19 (f := 49) rfl ?_); refine goesL_ (some 14) rfl rfl Try.func49 (by kernel_rfl) rfl #[.pointer (some ⟨g,0,none⟩),.int .i64 8] rfl qy0 ?_; (with_reducible refine (z2_.calls g s0_0 t334 t335 8 t342 t343 t344 w0 _ (by repeat (first | (with_reducible first | exact HI0.out | apply y1.alloc | apply y1.drewN | apply y1.drew | apply y1.set_1 | apply y1.set_2) | exact HI0.out)) (by repeat (first | (with_reducible first | exact HB.out | apply y3 | apply y24 | apply y4 | refine y5 ?_ (y1.ge HI0.out)) | exact HB.out)) A8.out).mono ?_); rintro e w14 ⟨rfl,hi,hb,hk⟩; refine ⟨_,rfl, ?_⟩; replace HO341 := y0.mk (Kd.R_mono (Kd.R_keep (y1.apart (show y1 w0 _ g s0_0 t334 t335 from by repeat (first | (with_reducible first | exact HI0.out | apply y1.alloc | apply y1.drewN | apply y1.drew | apply y1.set_1 | apply y1.set_2) | exact HI0.out)) (qR HO341.out) (by decide)) hk (fun _ h => h.2)) (fun _ h => h.1)); replace HK := y0.mk (y2.trans (by repeat (first | (with_reducible first | exact HK.out | apply y2.set_ | apply y23 | apply y22 | apply y21) | exact HK.out)) hk (.inl rfl)); replace HB := y0.mk (hb); replace HI0 := y0.mk (hi); (try clear hb); (try clear hb2); (try clear hk); (try clear hi); obtain ⟨Ao15,co15,eo15⟩ := Kd.R_slice HO341.out; subst eo15; have p345 : 0 ≤ (t342 : Int) := of_decide_eq_true qy1; have q345 : t342 < (y339.length : Int) := of_decide_eq_true qy1; obtain ⟨ad345,e345,hx345_0⟩ := Kd.at_int (Kd.R_reads' HO341.out).2.2 t342 p345 q345; cases e345; replace p345 := eq_true p345; replace q345 := eq_true q345))
   go_ret
   exact ⟨by first | rfl | (simp [y17,y18] <;> rfl) | (simp [*,y17,y18] <;> rfl),by repeat (first | (with_reducible first | exact HI0.out | apply y1.alloc | apply y1.drewN | apply y1.drew | apply y1.set_1 | apply y1.set_2) | exact HI0.out),by repeat (first | (with_reducible first | exact HB.out | apply y3 | apply y24 | apply y4 | refine y5 ?_ (y1.ge HI0.out)) | exact HB.out),by repeat (first | (with_reducible first | exact HK.out | apply y2.set_ | apply y23 | apply y22 | apply y21) | exact HK.out)⟩
  ·rw [if_neg c7] at H
   have c7b0 : (t333 == 1) = false := beq_eq_false_iff_ne.mpr c7
   have c7b1 : (t333 != 1) = true := bne_iff_ne.mpr c7
   obtain ⟨⟨t346,t347,t348⟩,A16,H⟩ := qB H
   replace H : (some (wrap64 (t346 - 3),t347,t348)) = some (r1,r2,r3) := H
   simp only [Option.some.injEq,Prod.mk.injEq] at H
   obtain ⟨rfl,rfl,rfl⟩ := H
   go_enter Try.func51,Try.ntmps51
   go_wp2_with (first | ((with_reducible refine y19 (f := 49) rfl ?_); refine goesL_ (some 4) rfl rfl Try.func49 (by kernel_rfl) rfl #[.pointer (some ⟨g,0,none⟩),.int .i64 8] rfl qy0 ?_; (with_reducible refine (z2_.calls g s0_0 s0_1 s0_2 8 t333 t334 t335 w0 _ (by repeat (first | (with_reducible first | exact HI0.out | apply y1.alloc | apply y1.drewN | apply y1.drew | apply y1.set_1 | apply y1.set_2) | exact HI0.out)) (by repeat (first | (with_reducible first | exact HB.out | apply y3 | apply y24 | apply y4 | refine y5 ?_ (y1.ge HI0.out)) | exact HB.out)) A2.out).mono ?_); rintro e w17 ⟨rfl,hi,hb,hk⟩; refine ⟨_,rfl, ?_⟩; replace HK := y0.mk (y2.trans (by repeat (first | (with_reducible first | exact HK.out | apply y2.set_ | apply y23 | apply y22 | apply y21) | exact HK.out)) hk (.inl rfl)); replace HB := y0.mk (hb); replace HI0 := y0.mk (hi); (try clear hb); (try clear hb2); (try clear hk); (try clear hi)) | ((with_reducible refine y19 (f := 49) rfl ?_); refine goesL_ (some 18) rfl rfl Try.func49 (by kernel_rfl) rfl #[.pointer (some ⟨g,0,none⟩),.int .i64 14] rfl qy0 ?_; (with_reducible refine (z2_.calls g s0_0 t334 t335 14 t346 t347 t348 w0 _ (by repeat (first | (with_reducible first | exact HI0.out | apply y1.alloc | apply y1.drewN | apply y1.drew | apply y1.set_1 | apply y1.set_2) | exact HI0.out)) (by repeat (first | (with_reducible first | exact HB.out | apply y3 | apply y24 | apply y4 | refine y5 ?_ (y1.ge HI0.out)) | exact HB.out)) A16.out).mono ?_); rintro e w18 ⟨rfl,hi,hb,hk⟩; refine ⟨_,rfl, ?_⟩; replace HK := y0.mk (y2.trans (by repeat (first | (with_reducible first | exact HK.out | apply y2.set_ | apply y23 | apply y22 | apply y21) | exact HK.out)) hk (.inl rfl)); replace HB := y0.mk (hb); replace HI0 := y0.mk (hi); (try clear hb); (try clear hb2); (try clear hk); (try clear hi)))
   go_ret
   exact ⟨by first | rfl | (simp [y17,y18] <;> rfl) | (simp [*,y17,y18] <;> rfl),by repeat (first | (with_reducible first | exact HI0.out | apply y1.alloc | apply y1.drewN | apply y1.drew | apply y1.set_1 | apply y1.set_2) | exact HI0.out),by repeat (first | (with_reducible first | exact HB.out | apply y3 | apply y24 | apply y4 | refine y5 ?_ (y1.ge HI0.out)) | exact HB.out),by repeat (first | (with_reducible first | exact HK.out | apply y2.set_ | apply y23 | apply y22 | apply y21) | exact HK.out)⟩
end Go.Proofs.Ytcckpjflbfofjaa.Pd
end
section
namespace Go.Proofs.Ytcckpjflbfofjaa.Pd
open Go.RowKit Go.Proofs.YtcckpjflbfofjaaW.PrintWords Go.Proofs.YtcckpjflbfofjaaW.PrintLast Go.Proofs.YtcckpjflbfofjaaW.PrintMore
attribute [local go_sem] max2_int min2_int max_two min_two max_three min_three max_four min_four   -- for this text's walks alone
set_option linter.unusedVariables false
set_option linter.unusedSimpArgs false
mutual
def z1_.l0 : Nat → Int → List Int → Int → Int → Int → Int → List (S53) → Option (Int × Int × (List (S53)) × Int × Int)
 | 0,_,_,_,_,_,_,_ => none
 | k + 1,x4,x1000,x1001,x1002,x357000,x357001,x357002 => if x4 < 3 then (z1_.l1 k x4 0 x1000 x1001 x1002 x357000 x357001 x357002) else ((spec_l01Cur_once.f x1000 x1001 x1002 20).bind fun bt366 => (if bt366.1 = true then ((spec_l01Cur_raw.f x1000 bt366.2.1 bt366.2.2).bind fun bt369 => ((spec_l01Cur_raw.f x1000 bt369.2.1 bt369.2.2).bind fun bt372 => (if x357002.length < 5864062014805 then (some (x357000,x357001,(x357002 ++ [(⟨bt369.1,bt372.1,false⟩ : S53)]),bt372.2.1,bt372.2.2)) else (none)))) else (some (x357000,x357001,x357002,bt366.2.1,bt366.2.2))))
def z1_.l1 : Nat → Int → Int → List Int → Int → Int → Int → Int → List (S53) → Option (Int × Int × (List (S53)) × Int × Int)
 | 0,_,_,_,_,_,_,_,_ => none
 | k + 1,x4,x5,x1000,x1001,x1002,x357000,x357001,x357002 => if x5 < 3 then ((z2_.f x1000 x1001 x1002 3).bind fun bt357 => (if bt357.1 = 0 then ((z2_.f x1000 bt357.2.1 bt357.2.2 2).bind fun bt360 => (if x357002.length < 5864062014805 then (z1_.l1 k x4 (wrap64 (x5 + 1)) x1000 bt360.2.1 bt360.2.2 x357000 x357001 (x357002 ++ [(⟨x4,x5,(bt360.1 == 0)⟩ : S53)])) else (none))) else (z1_.l1 k x4 (wrap64 (x5 + 1)) x1000 bt357.2.1 bt357.2.2 x357000 x357001 x357002))) else (z1_.l0 k (wrap64 (x4 + 1)) x1000 x1001 x1002 x357000 x357001 x357002)
end
def z1_.f (k : Nat) (s0_0 : List Int) (s0_1 : Int) (s0_2 : Int) : Option (Int × Int × (List (S53)) × Int × Int) := (z2_.f s0_0 s0_1 s0_2 2).bind fun bt350 => ((z2_.f s0_0 bt350.2.1 bt350.2.2 2).bind fun bt353 => (z1_.l0 k 0 s0_0 bt353.2.1 bt353.2.2 bt350.1 bt353.1 ([] : List (S53))))
theorem z1_.mono_l : ∀ k,(∀ y0 y1 y2 y3 y4 y5 y6,LeO (z1_.l0 k y0 y1 y2 y3 y4 y5 y6) (z1_.l0 (k + 1) y0 y1 y2 y3 y4 y5 y6)) ∧ (∀ y0 y1 y2 y3 y4 y5 y6 y7,LeO (z1_.l1 k y0 y1 y2 y3 y4 y5 y6 y7) (z1_.l1 (k + 1) y0 y1 y2 y3 y4 y5 y6 y7))
 | 0 => ⟨fun _ _ _ _ _ _ _ r h => by simp [z1_.l0] at h,fun _ _ _ _ _ _ _ _ r h => by simp [z1_.l1] at h⟩
 | k + 1 => by
  obtain ⟨ih0,ih1⟩ := z1_.mono_l k
  refine ⟨?_, ?_⟩
  ·intro y0 y1 y2 y3 y4 y5 y6
   unfold z1_.l0
   repeat' first
   | (with_reducible exact ih0 _ _ _ _ _ _ _)
   | (with_reducible exact ih1 _ _ _ _ _ _ _ _)
   | (with_reducible exact LeO.refl _)
   | (with_reducible exact LeO.none _)
   | (with_reducible refine LeO.ite ?_ ?_)
   | (with_reducible refine LeO.bind ?_ (fun _ => ?_))
   | exact ih0 _ _ _ _ _ _ _
   | exact ih1 _ _ _ _ _ _ _ _
   | exact LeO.none _
   | refine LeO.ite ?_ ?_
   | refine LeO.bind ?_ (fun _ => ?_)
  ·intro y0 y1 y2 y3 y4 y5 y6 y7
   unfold z1_.l1
   repeat' first
   | (with_reducible exact ih0 _ _ _ _ _ _ _)
   | (with_reducible exact ih1 _ _ _ _ _ _ _ _)
   | (with_reducible exact LeO.refl _)
   | (with_reducible exact LeO.none _)
   | (with_reducible refine LeO.ite ?_ ?_)
   | (with_reducible refine LeO.bind ?_ (fun _ => ?_))
   | exact ih0 _ _ _ _ _ _ _
   | exact ih1 _ _ _ _ _ _ _ _
   | exact LeO.none _
   | refine LeO.ite ?_ ?_
   | refine LeO.bind ?_ (fun _ => ?_)
theorem z1_.mono : ∀ a0 a1 a2 k,LeO (z1_.f k a0 a1 a2) (z1_.f (k + 1) a0 a1 a2) := by
 intro a0 a1 a2 k
 obtain ⟨ih0,ih1⟩ := z1_.mono_l k
 unfold z1_.f
 repeat' first
   | (with_reducible exact ih0 _ _ _ _ _ _ _)
   | (with_reducible exact ih1 _ _ _ _ _ _ _ _)
   | (with_reducible exact LeO.refl _)
   | (with_reducible exact LeO.none _)
   | (with_reducible refine LeO.ite ?_ ?_)
   | (with_reducible refine LeO.bind ?_ (fun _ => ?_))
   | exact ih0 _ _ _ _ _ _ _
   | exact ih1 _ _ _ _ _ _ _ _
   | exact LeO.none _
   | refine LeO.ite ?_ ?_
   | refine LeO.bind ?_ (fun _ => ?_)
def z1_.T9 : Bool × List (List Nat × List Nat) := (true,[([],[]),([0],[0]),([],[]),([],[]),([],[]),([4],[4]),([5],[5]),([2,3,6],[2,3,6]),([7],[7]),([1,8,5],[1,8]),([0,1,2,3,4,5,6,7,8,9],[]),([10,9,9,0,1,2,3,4,5,6,7,8,9],[9,10])])
def z1_.B9 : List Nat := [0,1,0,0,0,16,48,124,252,511,1023,2047]
theorem z1_.tab9 : rtab .any (opsOf Try.f37 9) = z1_.T9 := by kernel_rfl
theorem z1_.bits9 : waitsOk z1_.T9.2 z1_.B9 = true := by kernel_rfl
def z1_.T11 : Bool × List (List Nat × List Nat) := (true,[([],[]),([0],[0]),([],[]),([2],[2]),([],[]),([4,3],[4]),([3,5],[3,5]),([6],[6]),([1,7,5],[1,7]),([0,1,2,3,4,5,6,7,8],[]),([9,8,8,0,1,2,3,4,5,6,7,8],[8,9])])
def z1_.B11 : List Nat := [0,1,0,4,0,28,60,124,255,511,1023]
theorem z1_.tab11 : rtab .any (opsOf Try.f37 11) = z1_.T11 := by kernel_rfl
theorem z1_.bits11 : waitsOk z1_.T11.2 z1_.B11 = true := by kernel_rfl
set_option maxHeartbeats 8000000 in
set_option maxRecDepth 100000 in
theorem z1_.calls (k : Nat) (g : Nat) (s0_0 : List Int) (s0_1 : Int) (s0_2 : Int) (r1 : Int) (r2 : Int) (r3 : List (S53)) (r4 : Int) (r5 : Int) (w0 w : World) (hI : y1 w0 w g s0_0 s0_1 s0_2) (hB : Below w0.heap.size w0 w) (h : z1_.f k s0_0 s0_1 s0_2 = some (r1,r2,r3,r4,r5)) :
  Calls Try.prog 37 #[.pointer (some ⟨g,0,none⟩)] w fun e w' => ∃ v2_ : Value,e = .returned (.agg #[.int .i64 r1,.int .i64 r2,v2_]) ∧ Kd.R k53 53 w' w.heap.size (fun _ => True) v2_ r3 ∧ y1 w0 w' g s0_0 r4 r5 ∧ Below w0.heap.size w0 w' ∧ y2 w w' g none := by
 have hu28 := Try.underlying28
 have hu53 := Try.underlying53
 have HI0 := y0.mk hI
 have HK := y0.mk (y2.refl w g none)
 have HL := y0.mk hB.size
 clear hI
 have HW0 := y0.mk hB.size
 have HB := y0.mk hB
 clear hB
 have H : ((z2_.f s0_0 s0_1 s0_2 2).bind fun bt350 => ((z2_.f s0_0 bt350.2.1 bt350.2.2 2).bind fun bt353 => (z1_.l0 k 0 s0_0 bt353.2.1 bt353.2.2 bt350.1 bt353.1 ([] : List (S53))))) = some (r1,r2,r3,r4,r5) := h
 clear h
 obtain ⟨⟨t350,t351,t352⟩,A2,H⟩ := qB H
 replace H : ((z2_.f s0_0 t351 t352 2).bind fun bt353 => (z1_.l0 k 0 s0_0 bt353.2.1 bt353.2.2 t350 bt353.1 ([] : List (S53)))) = some (r1,r2,r3,r4,r5) := H
 obtain ⟨⟨t353,t354,t355⟩,A3,H⟩ := qB H
 replace H : (z1_.l0 k 0 s0_0 t354 t355 t350 t353 ([] : List (S53))) = some (r1,r2,r3,r4,r5) := H
 have H' := y0.mk H
 clear H
 go_enter Try.func37,Try.ntmps37
 go_wp2_with (first | ((with_reducible refine y20 (N := 2) rfl ?_); refine qe 2 #[.int .i64 0,.int .i64 0,.slice none 0 0] 28 ?_; intro gb349 hg w4 hbox hb; replace HB := y0.mk (y7 (by repeat (first | (with_reducible first | exact HB.out | apply y3 | apply y24 | apply y4 | refine y5 ?_ (y1.ge HI0.out)) | exact HB.out)) hb); have BK349 := y0.mk (hbox); have GW349 := y0.mk ((by rw [hg]; exact (keep_size (w := w) (g := g) (row := none) (by repeat (first | (with_reducible first | exact HK.out | apply y2.set_ | apply y23 | apply y22 | apply y21) | exact HK.out))) : w.heap.size ≤ gb349)); have GE349 := y0.mk ((Nat.le_trans HW0.out (by rw [hg]; exact (keep_size (w := w) (g := g) (row := none) (by repeat (first | (with_reducible first | exact HK.out | apply y2.set_ | apply y23 | apply y22 | apply y21) | exact HK.out))) : w.heap.size ≤ gb349) : w0.heap.size ≤ gb349)); replace HK := y0.mk (y2.trans (by repeat (first | (with_reducible first | exact HK.out | apply y2.set_ | apply y23 | apply y22 | apply y21) | exact HK.out)) (y2.of_below hb g none) (.inl rfl)); have NB0_349 := y0.mk ((by rw [hg]; exact Nat.ne_of_lt (y1.lt (show y1 w0 _ g s0_0 s0_1 s0_2 from by repeat (first | (with_reducible first | exact HI0.out | apply y1.alloc | apply y1.drewN | apply y1.drew | apply y1.set_1 | apply y1.set_2) | exact HI0.out))) : g ≠ gb349)); have NB349_0 := y0.mk ((by rw [hg]; exact Nat.ne_of_gt (y1.lt (show y1 w0 _ g s0_0 s0_1 s0_2 from by repeat (first | (with_reducible first | exact HI0.out | apply y1.alloc | apply y1.drewN | apply y1.drew | apply y1.set_1 | apply y1.set_2) | exact HI0.out))) : gb349 ≠ g)); replace HI0 := y0.mk (y1.below (by repeat (first | (with_reducible first | exact HI0.out | apply y1.alloc | apply y1.drewN | apply y1.drew | apply y1.set_1 | apply y1.set_2) | exact HI0.out)) hb); clear hb hbox hg) | ((with_reducible refine y19 (f := 49) rfl ?_); refine goesL_ (some 7) rfl rfl Try.func49 (by kernel_rfl) rfl #[.pointer (some ⟨g,0,none⟩),.int .i64 2] rfl qy0 ?_; (with_reducible refine (z2_.calls g s0_0 s0_1 s0_2 2 t350 t351 t352 w0 _ (by repeat (first | (with_reducible first | exact HI0.out | apply y1.alloc | apply y1.drewN | apply y1.drew | apply y1.set_1 | apply y1.set_2 | refine y1.far ?_ NB0_349.out _) | exact HI0.out)) (by repeat (first | (with_reducible first | exact HB.out | apply y3 | apply y24 | apply y4 | refine y5 ?_ (y1.ge HI0.out) | refine y5 ?_ GE349.out) | exact HB.out)) A2.out).mono ?_); rintro e w5 ⟨rfl,hi,hb,hk⟩; refine ⟨_,rfl, ?_⟩; replace BK349 := y0.mk (y2.blk hk (g' := gb349) (o := .cells #[.int .i64 0,.int .i64 0,.slice none 0 0] 28 (0,0)) (qk BK349.out) NB349_0.out (by simp)); replace HK := y0.mk (y2.trans (by repeat (first | (with_reducible first | exact HK.out | apply y2.set_ | apply y23 | apply y22 | apply y21 | refine keep_far ?_ GW349.out _) | exact HK.out)) hk (.inl rfl)); replace HB := y0.mk (hb); replace HI0 := y0.mk (hi); (try clear hb); (try clear hb2); (try clear hk); (try clear hi)) | ((with_reducible refine y19 (f := 49) rfl ?_); refine goesL_ (some 9) rfl rfl Try.func49 (by kernel_rfl) rfl #[.pointer (some ⟨g,0,none⟩),.int .i64 2] rfl qy0 ?_; (with_reducible refine (z2_.calls g s0_0 t351 t352 2 t353 t354 t355 w0 _ (by repeat (first | (with_reducible first | exact HI0.out | apply y1.alloc | apply y1.drewN | apply y1.drew | apply y1.set_1 | apply y1.set_2 | refine y1.far ?_ NB0_349.out _) | exact HI0.out)) (by repeat (first | (with_reducible first | exact HB.out | apply y3 | apply y24 | apply y4 | refine y5 ?_ (y1.ge HI0.out) | refine y5 ?_ GE349.out) | exact HB.out)) A3.out).mono ?_); rintro e w6 ⟨rfl,hi,hb,hk⟩; refine ⟨_,rfl, ?_⟩; replace BK349 := y0.mk (y2.blk hk (g' := gb349) (o := .cells #[.int .i64 0,.int .i64 0,.slice none 0 0] 28 (0,0)) (qk BK349.out) NB349_0.out (by simp)); replace HK := y0.mk (y2.trans (by repeat (first | (with_reducible first | exact HK.out | apply y2.set_ | apply y23 | apply y22 | apply y21 | refine keep_far ?_ GW349.out _) | exact HK.out)) hk (.inl rfl)); replace HB := y0.mk (hb); replace HI0 := y0.mk (hi); (try clear hb); (try clear hb2); (try clear hk); (try clear hi)) | ((with_reducible refine y20 (N := 3) rfl ?_); refine qe 3 #[.int .i64 0,.int .i64 0,.slice none 0 0] 28 ?_; intro gb356 hg w7 hbox hb; replace HB := y0.mk (y7 (by repeat (first | (with_reducible first | exact HB.out | apply y3 | apply y24 | apply y4 | refine y5 ?_ (y1.ge HI0.out) | refine y5 ?_ GE349.out) | exact HB.out)) hb); have BK356 := y0.mk (hbox); have GW356 := y0.mk ((by rw [hg]; exact (keep_size (w := w) (g := g) (row := none) (by repeat (first | (with_reducible first | exact HK.out | apply y2.set_ | apply y23 | apply y22 | apply y21 | refine keep_far ?_ GW349.out _) | exact HK.out))) : w.heap.size ≤ gb356)); have GE356 := y0.mk ((Nat.le_trans HW0.out (by rw [hg]; exact (keep_size (w := w) (g := g) (row := none) (by repeat (first | (with_reducible first | exact HK.out | apply y2.set_ | apply y23 | apply y22 | apply y21 | refine keep_far ?_ GW349.out _) | exact HK.out))) : w.heap.size ≤ gb356) : w0.heap.size ≤ gb356)); replace HK := y0.mk (y2.trans (by repeat (first | (with_reducible first | exact HK.out | apply y2.set_ | apply y23 | apply y22 | apply y21 | refine keep_far ?_ GW349.out _) | exact HK.out)) (y2.of_below hb g none) (.inl rfl)); have NB349_356 := y0.mk (qn BK349.out hg); have NB356_349 := y0.mk (qm BK349.out hg); replace BK349 := y0.mk (qK BK349.out hb); have NB0_356 := y0.mk ((by rw [hg]; exact Nat.ne_of_lt (y1.lt (show y1 w0 _ g s0_0 t354 t355 from by repeat (first | (with_reducible first | exact HI0.out | apply y1.alloc | apply y1.drewN | apply y1.drew | apply y1.set_1 | apply y1.set_2 | refine y1.far ?_ NB0_349.out _) | exact HI0.out))) : g ≠ gb356)); have NB356_0 := y0.mk ((by rw [hg]; exact Nat.ne_of_gt (y1.lt (show y1 w0 _ g s0_0 t354 t355 from by repeat (first | (with_reducible first | exact HI0.out | apply y1.alloc | apply y1.drewN | apply y1.drew | apply y1.set_1 | apply y1.set_2 | refine y1.far ?_ NB0_349.out _) | exact HI0.out))) : gb356 ≠ g)); replace HI0 := y0.mk (y1.below (by repeat (first | (with_reducible first | exact HI0.out | apply y1.alloc | apply y1.drewN | apply y1.drew | apply y1.set_1 | apply y1.set_2 | refine y1.far ?_ NB0_349.out _) | exact HI0.out)) hb); clear hb hbox hg; have hnb8 := NB356_349.out; have hnc8 := NB349_356.out; have hnb9 := NB356_0.out; have hnc9 := NB0_356.out; obtain ⟨hcz10_0,hcz10_1,hcz10_2,hfz10_0,hfz10_1,hfz10_2⟩ := qz3 BK356.out))
 go_loopg [4] k (fun kq v4 w' => ∃ (x4_1 : Int) (x1001_1 : Int) (x1002_1 : Int) (x357002_1 : List (S53)) (u357002 : Value),v4 = .int .i64 x4_1 ∧ y0 (z1_.l0 kq x4_1 s0_0 x1001_1 x1002_1 t350 t353 x357002_1 = some (r1,r2,r3,r4,r5)) ∧ y0 (kq ≤ k) ∧ y0 (Kd.R k53 53 w' w.heap.size (fun _ => True) u357002 x357002_1) ∧ y0 (w'.heap[gb349]? = some (.cells #[.int .i64 0,.int .i64 0,(.slice none 0 0)] 28 (0,0))) ∧ y0 (w'.heap[gb356]? = some (.cells #[.int .i64 t350,.int .i64 t353,u357002] 28 (0,0))) ∧ y0 (y1 w0 w' g s0_0 x1001_1 x1002_1) ∧ y0 (y2 w w' g none) ∧ y0 (Below w0.heap.size w0 w'))
 case atStart => exact ⟨(0),(t354),(t355),(([] : List (S53))),(.slice none 0 0),qy2,H',⟨Nat.le_refl _⟩,⟨by first | exact Kd.R_nil _ _ _ _ _ | exact Kd.N_nil _ _ _ _ _ | exact Kd.V_nil _ _ _ _ _ | exact Kd.Q_nil _ _ _ _ _ | exact Kd.S_nil _ _ _ _ _⟩,⟨by (with_reducible repeat (first | refine y12 ?_ _ | refine y11 ?_ | refine y8 ?_ _)); refine y13 ?_ NB349_356.out _; (with_reducible repeat (first | refine y12 ?_ _ | refine y11 ?_ | refine y8 ?_ _)); refine y13 ?_ NB349_356.out _; (with_reducible repeat (first | refine y12 ?_ _ | refine y11 ?_ | refine y8 ?_ _)); refine y13 ?_ NB349_356.out _; (with_reducible repeat (first | refine y12 ?_ _ | refine y11 ?_ | refine y8 ?_ _)); exact BK349.out⟩,⟨by (with_reducible repeat (first | refine y12 ?_ _ | refine y11 ?_ | refine y8 ?_ _)); refine y16 (cs := #[.int .i64 t350,.int .i64 t353,.slice none 0 0]) ?_ 2 _ rfl; (with_reducible repeat (first | refine y12 ?_ _ | refine y11 ?_ | refine y8 ?_ _)); refine y16 (cs := #[.int .i64 t350,.int .i64 0,.slice none 0 0]) ?_ 1 _ rfl; (with_reducible repeat (first | refine y12 ?_ _ | refine y11 ?_ | refine y8 ?_ _)); refine y16 (cs := #[.int .i64 0,.int .i64 0,.slice none 0 0]) ?_ 0 _ rfl; (with_reducible repeat (first | refine y12 ?_ _ | refine y11 ?_ | refine y8 ?_ _)); exact BK356.out⟩,⟨by repeat (first | (with_reducible first | exact HI0.out | apply y1.alloc | apply y1.drewN | apply y1.drew | apply y1.set_1 | apply y1.set_2 | refine y1.far ?_ NB0_349.out _ | refine y1.far ?_ NB0_356.out _) | exact HI0.out)⟩,⟨by repeat (first | (with_reducible first | exact HK.out | apply y2.set_ | apply y23 | apply y22 | apply y21 | refine keep_far ?_ GW349.out _ | refine keep_far ?_ GW356.out _) | exact HK.out)⟩,⟨by repeat (first | (with_reducible first | exact HB.out | apply y3 | apply y24 | apply y4 | refine y5 ?_ (y1.ge HI0.out) | refine y5 ?_ GE349.out | refine y5 ?_ GE356.out) | exact HB.out)⟩⟩
 case round =>
  clear H'
  (try clear hcz10_0 hcz10_1 hcz10_2 hfz10_0 hfz10_1 hfz10_2)
  obtain ⟨x4_1,x1001_1,x1002_1,x357002_1,u357002,rfl,HA,HK1,HO_357002,BK349,BK356,HI0,HK,HB⟩ := hrel
  cases gk with
  | zero => exact absurd HA.out (by simp [z1_.l0])
  | succ k1 =>
   have H := HA.out
   clear HA
   simp only [z1_.l0] at H
   by_cases c11 : x4_1 < 3
   ·rw [if_pos c11] at H
    have c11b0 := decide_eq_true c11
    clear c11
    have H' := y0.mk H
    clear H
    go_wp2
    go_loopg [5] k1 (fun kq v5 w' => ∃ (x5_2 : Int) (x1001_2 : Int) (x1002_2 : Int) (x357002_2 : List (S53)) (u357002 : Value),v5 = .int .i64 x5_2 ∧ y0 (z1_.l1 kq x4_1 x5_2 s0_0 x1001_2 x1002_2 t350 t353 x357002_2 = some (r1,r2,r3,r4,r5)) ∧ y0 (kq ≤ k1) ∧ y0 (Kd.R k53 53 w' w.heap.size (fun _ => True) u357002 x357002_2) ∧ y0 (w'.heap[gb349]? = some (.cells #[.int .i64 0,.int .i64 0,(.slice none 0 0)] 28 (0,0))) ∧ y0 (w'.heap[gb356]? = some (.cells #[.int .i64 t350,.int .i64 t353,u357002] 28 (0,0))) ∧ y0 (y1 w0 w' g s0_0 x1001_2 x1002_2) ∧ y0 (y2 w w' g none) ∧ y0 (Below w0.heap.size w0 w'))
    case atStart => exact ⟨(0),(x1001_1),(x1002_1),(x357002_1),(u357002),qy2,H',⟨Nat.le_refl _⟩,⟨qR HO_357002.out⟩,⟨qk BK349.out⟩,⟨qk BK356.out⟩,⟨by repeat (first | (with_reducible first | exact HI0.out | apply y1.alloc | apply y1.drewN | apply y1.drew | apply y1.set_1 | apply y1.set_2 | refine y1.far ?_ NB0_349.out _ | refine y1.far ?_ NB0_356.out _) | exact HI0.out)⟩,⟨by repeat (first | (with_reducible first | exact HK.out | apply y2.set_ | apply y23 | apply y22 | apply y21 | refine keep_far ?_ GW349.out _ | refine keep_far ?_ GW356.out _) | exact HK.out)⟩,⟨by repeat (first | (with_reducible first | exact HB.out | apply y3 | apply y24 | apply y4 | refine y5 ?_ (y1.ge HI0.out) | refine y5 ?_ GE349.out | refine y5 ?_ GE356.out) | exact HB.out)⟩⟩
    case round =>
     clear H'
     (try clear c11b0)
     obtain ⟨x5_2,x1001_2,x1002_2,x357002_2,u357002,rfl,HA,HK2,HO_357002,BK349,BK356,HI0,HK,HB⟩ := hrel
     cases gk with
     | zero => exact absurd HA.out (by simp [z1_.l1])
     | succ k2 =>
      have H := HA.out
      clear HA
      simp only [z1_.l1] at H
      by_cases c12 : x5_2 < 3
      ·rw [if_pos c12] at H
       have c12b0 := decide_eq_true c12
       clear c12
       obtain ⟨⟨t357,t358,t359⟩,A13,H⟩ := qB H
       replace H : (if t357 = 0 then ((z2_.f s0_0 t358 t359 2).bind fun bt360 => (if x357002_2.length < 5864062014805 then (z1_.l1 k2 x4_1 (wrap64 (x5_2 + 1)) s0_0 bt360.2.1 bt360.2.2 t350 t353 (x357002_2 ++ [(⟨x4_1,x5_2,(bt360.1 == 0)⟩ : S53)])) else (none))) else (z1_.l1 k2 x4_1 (wrap64 (x5_2 + 1)) s0_0 t358 t359 t350 t353 x357002_2)) = some (r1,r2,r3,r4,r5) := H
       by_cases c14 : t357 = 0
       ·rw [if_pos c14] at H
        have c14b0 : (t357 == 0) = true := beq_iff_eq.mpr c14
        have c14b1 : (t357 != 0) = false := bne_eq_false_iff_eq.mpr c14
        clear c14
        obtain ⟨⟨t360,t361,t362⟩,A15,H⟩ := qB H
        replace H : (if x357002_2.length < 5864062014805 then (z1_.l1 k2 x4_1 (wrap64 (x5_2 + 1)) s0_0 t361 t362 t350 t353 (x357002_2 ++ [(⟨x4_1,x5_2,(t360 == 0)⟩ : S53)])) else (none)) = some (r1,r2,r3,r4,r5) := H
        obtain ⟨c16,H⟩ := qo H
        have LMc16 := y0.mk c16
        clear c16
        obtain ⟨y363,hy363⟩ : ∃ y_ : List (S53),y_ = (x357002_2 ++ [(⟨x4_1,x5_2,(t360 == 0)⟩ : S53)]) := ⟨_,rfl⟩
        replace H : (z1_.l1 k2 x4_1 (wrap64 (x5_2 + 1)) s0_0 t361 t362 t350 t353 y363) = some (r1,r2,r3,r4,r5) := by first | (rw [hy363]; with_reducible exact H) | (have H2_ := (Option.bind_some _ _).symm.trans H; rw [hy363]; with_reducible exact H2_) | (have H2_ := (Option.bind_some _ _).symm.trans H; with_reducible exact H2_) | with_reducible exact H | (rw [hy363]; exact H) | exact H
        have Ny363 := y0.mk hy363
        clear hy363
        have H' := y0.mk H
        clear H
        try go_wp2_with (first | ((with_reducible refine y19 (f := 49) rfl ?_); refine goesL_ (some 20) rfl rfl Try.func49 (by kernel_rfl) rfl #[.pointer (some ⟨g,0,none⟩),.int .i64 3] rfl qy0 ?_; (with_reducible refine (z2_.calls g s0_0 x1001_2 x1002_2 3 t357 t358 t359 w0 _ (by repeat (first | (with_reducible first | exact HI0.out | apply y1.alloc | apply y1.drewN | apply y1.drew | apply y1.set_1 | apply y1.set_2 | refine y1.far ?_ NB0_349.out _ | refine y1.far ?_ NB0_356.out _) | exact HI0.out)) (by repeat (first | (with_reducible first | exact HB.out | apply y3 | apply y24 | apply y4 | refine y5 ?_ (y1.ge HI0.out) | refine y5 ?_ GE349.out | refine y5 ?_ GE356.out) | exact HB.out)) A13.out).mono ?_); rintro e w17 ⟨rfl,hi,hb,hk⟩; refine ⟨_,rfl, ?_⟩; replace HO_357002 := y0.mk (Kd.R_mono (Kd.R_keep (y1.apart (show y1 w0 _ g s0_0 x1001_2 x1002_2 from by repeat (first | (with_reducible first | exact HI0.out | apply y1.alloc | apply y1.drewN | apply y1.drew | apply y1.set_1 | apply y1.set_2 | refine y1.far ?_ NB0_349.out _ | refine y1.far ?_ NB0_356.out _) | exact HI0.out)) (qR HO_357002.out) (by decide)) hk (fun _ h => h.2)) (fun _ h => h.1)); replace BK349 := y0.mk (y2.blk hk (g' := gb349) (o := .cells #[.int .i64 0,.int .i64 0,.slice none 0 0] 28 (0,0)) (qk BK349.out) NB349_0.out (by simp)); replace BK356 := y0.mk (y2.blk hk (g' := gb356) (o := .cells #[.int .i64 t350,.int .i64 t353,u357002] 28 (0,0)) (qk BK356.out) NB356_0.out (by simp)); replace HK := y0.mk (y2.trans (by repeat (first | (with_reducible first | exact HK.out | apply y2.set_ | apply y23 | apply y22 | apply y21 | refine keep_far ?_ GW349.out _ | refine keep_far ?_ GW356.out _) | exact HK.out)) hk (.inl rfl)); replace HB := y0.mk (hb); replace HI0 := y0.mk (hi); (try clear hb); (try clear hb2); (try clear hk); (try clear hi)))
        replace HO_357002 := y0.mk (Kd.R_drew HO_357002.out)
        replace BK349 := y0.mk (y11 BK349.out)
        replace BK356 := y0.mk (y11 BK356.out)
        replace HI0 := y0.mk (y1.drew HI0.out)
        replace HK := y0.mk (y22 HK.out)
        replace HB := y0.mk (y4 HB.out)
        refine start_ (n := 12) (S := fun w' => w'.cell? ⟨gb356,0,none⟩ = some (.int .i64 t350) ∧ w'.cell? ⟨gb356,1,none⟩ = some (.int .i64 t353) ∧ w'.cell? ⟨gb356,2,none⟩ = some (u357002)) (ds := [11]) (fl_ 12 0) (by kernel_rfl) rfl rfl ⟨(y10 BK356.out 0).trans rfl,(y10 BK356.out 1).trans rfl,(y10 BK356.out 2).trans rfl⟩ (fun hHeld => ?_); refine with_tabW z1_.tab9 z1_.bits9 (fun HT_ HW_ => ?_)
        generalize w17.drew = w18 at HO_357002 BK349 BK356 HI0 HK HB hHeld ⊢
        refine qp 0 22 (fl_ 12 1) ?_
        refine qp 2 24 (fl_ 12 5) ?_
        refine qp 3 25 (fl_ 12 13) ?_
        refine qp 4 26 (fl_ 12 29) ?_
        refine qt 1 23 (fl_ 12 31) hHeld ?_
        refine one_ (i := 5) (N := some 27) (fl_ 12 63) rfl rfl (one_of HT_.out (by kernel_rfl)) (by decide) (fun K hK => ?_)
        refine goes_ Try.func49 (by kernel_rfl) rfl #[.pointer (some ⟨g,0,none⟩),.int .i64 2] (by rfl) rfl rfl qy0 ?_
        with_reducible refine (z2_.calls g s0_0 t358 t359 2 t360 t361 t362 w0 _ (by repeat (first | (with_reducible first | exact HI0.out | apply y1.alloc | apply y1.drewN | apply y1.drew | apply y1.set_1 | apply y1.set_2 | refine y1.far ?_ NB0_349.out _ | refine y1.far ?_ NB0_356.out _) | exact HI0.out)) (by repeat (first | (with_reducible first | exact HB.out | apply y3 | apply y24 | apply y4 | refine y5 ?_ (y1.ge HI0.out) | refine y5 ?_ GE349.out | refine y5 ?_ GE356.out) | exact HB.out)) A15.out).mono ?_
        rintro e w19 ⟨rfl,hi,hb,hk⟩
        refine ⟨_,rfl, ?_⟩
        replace HO_357002 := y0.mk (Kd.R_mono (Kd.R_keep (y1.apart (show y1 w0 _ g s0_0 t358 t359 from by repeat (first | (with_reducible first | exact HI0.out | apply y1.alloc | apply y1.drewN | apply y1.drew | apply y1.set_1 | apply y1.set_2 | refine y1.far ?_ NB0_349.out _ | refine y1.far ?_ NB0_356.out _) | exact HI0.out)) (qR HO_357002.out) (by decide)) hk (fun _ h => h.2)) (fun _ h => h.1))
        replace BK349 := y0.mk (y2.blk hk (g' := gb349) (o := .cells #[.int .i64 0,.int .i64 0,.slice none 0 0] 28 (0,0)) (qk BK349.out) NB349_0.out (by simp))
        replace BK356 := y0.mk (y2.blk hk (g' := gb356) (o := .cells #[.int .i64 t350,.int .i64 t353,u357002] 28 (0,0)) (qk BK356.out) NB356_0.out (by simp))
        replace HK := y0.mk (y2.trans (by repeat (first | (with_reducible first | exact HK.out | apply y2.set_ | apply y23 | apply y22 | apply y21 | refine keep_far ?_ GW349.out _ | refine keep_far ?_ GW356.out _) | exact HK.out)) hk (.inl rfl))
        replace HB := y0.mk (hb)
        replace HI0 := y0.mk (hi)
        (try clear hb)
        (try clear hb2)
        (try clear hk)
        (try clear hi)
        refine hK.out _ _ ⟨(y10 BK356.out 0).trans rfl,(y10 BK356.out 1).trans rfl,(y10 BK356.out 2).trans rfl⟩ (fun hHeld => ?_)
        clear hK K
        refine norm_ (a' := ?_) ?_ ?_
        rotate_left
        ·show Act.put _ (some 27) _ = _
         simp only [Act.put,qS_,qZ_,qC_,i64_w,i32_w]
         rfl
        refine qp 6 28 (fl_ 12 127) ?_
        refine qp 7 29 (fl_ 12 255) ?_
        refine one_ (i := 8) (N := some 30) (fl_ 12 511) rfl rfl (one_of HT_.out (by kernel_rfl)) (by decide) (fun K hK => ?_)
        refine value_ (w1 := ?_) (v := ?_) (by rfl) rfl ?_ ?_
        rotate_left 2
        ·go_simp
         constructor
         ·rfl
         ·rfl
        refine hK.out _ _ ⟨(y10 (y8 BK356.out _) 0).trans rfl,(y10 (y8 BK356.out _) 1).trans rfl,(y10 (y8 BK356.out _) 2).trans rfl⟩ (fun hHeld => ?_)
        clear hK K
        refine norm_ (a' := ?_) ?_ ?_
        rotate_left
        ·show Act.put _ (some 30) _ = _
         simp only [Act.put,qS_,qZ_,qC_,i64_w,i32_w]
         rfl
        refine one_ (i := 9) (N := some 31) (fl_ 12 1023) rfl rfl (one_of HT_.out (by kernel_rfl)) (by decide) (fun K hK => ?_)
        refine Kd.R_append_step k53 w.heap.size (by rfl) (.tmp 23) (.tmp 30) 26 53 (.agg #[(.int .i64 0),(.int .i64 0),(.bool false)]) 24 rfl Try.underlying26 info53 rfl (by decide) (by omega) u357002 x357002_2 (⟨x4_1,x5_2,(t360 == 0)⟩ : S53) [.int .i64 x4_1,.int .i64 x5_2,.bool (t360 == 0)] (fun _ => True) (fun _ => False) rfl rfl ?aP (fun _ hk => hk.elim) ?aF ?aO (Below.refl _ _) ?aS ?aL ?_
        (case aP => exact k53_mkM _ _ _ (⟨x4_1,x5_2,(t360 == 0)⟩ : S53))
        (case aF => exact (fun _ _ => trivial))
        (case aO => exact (qR HO_357002.out))
        (case aS => exact (keep_size (w := w) (g := g) (row := none) (by repeat (first | (with_reducible first | exact HK.out | apply y2.set_ | apply y23 | apply y22 | apply y21 | refine keep_far ?_ GW349.out _ | refine keep_far ?_ GW356.out _) | exact HK.out))))
        (case aL => have := LMc16.out; omega)
        intro v364 w20 ho hb hg hat
        rw [← Ny363.out] at ho
        replace BK349 := y0.mk (blk_grown (qk BK349.out) hg (Kd.R_ne HO_357002.out BK349.out (by decide)))
        replace BK356 := y0.mk (blk_grown (qk BK356.out) hg (Kd.R_ne HO_357002.out BK356.out (by decide)))
        replace HB := y0.mk (below_weaken (by repeat (first | (with_reducible first | exact HB.out | apply y3 | apply y24 | apply y4 | refine y5 ?_ (y1.ge HI0.out) | refine y5 ?_ GE349.out | refine y5 ?_ GE356.out) | exact HB.out)) HL.out hb)
        replace HI0 := y0.mk (y1.grown (by repeat (first | (with_reducible first | exact HI0.out | apply y1.alloc | apply y1.drewN | apply y1.drew | apply y1.set_1 | apply y1.set_2 | refine y1.far ?_ NB0_349.out _ | refine y1.far ?_ NB0_356.out _) | exact HI0.out)) hg (y1.own_ne HI0.out HO_357002.out (by decide)))
        replace HK := y0.mk (y2.trans (by repeat (first | (with_reducible first | exact HK.out | apply y2.set_ | apply y23 | apply y22 | apply y21 | refine keep_far ?_ GW349.out _ | refine keep_far ?_ GW356.out _) | exact HK.out)) (y2.of_grown hg g) (Kd.R_base2 HO_357002.out))
        have HO365 := y0.mk (ho)
        clear HO_357002
        clear ho hb hg hat
        obtain ⟨Ao21,co21,eo21⟩ := Kd.R_slice HO365.out
        (first | subst eo21 | (injection eo21 with f1_ f2_ f3_; have f4_ := f1_.symm; have f5_ := f3_.symm; clear f1_ f2_ f3_; subst f4_; subst f5_))
        refine hK.out _ _ ⟨(y10 BK356.out 0).trans rfl,(y10 BK356.out 1).trans rfl,(y10 BK356.out 2).trans rfl⟩ (fun hHeld => ?_)
        clear hK K
        refine norm_ (a' := ?_) ?_ ?_
        rotate_left
        ·show Act.put _ (some 31) _ = _
         simp only [Act.put,qS_,qZ_,qC_,i64_w,i32_w]
         rfl
        refine qp 10 32 (fl_ 12 2047) ?_
        refine last_ (i := 11) (N := none) (fl_ 12 4095) rfl rfl (one_of HT_.out (by kernel_rfl)) (by decide) (fun K hK => ?_)
        have hs22 : w20.cell? ⟨gb356,2,none⟩ = some (u357002) := (y10 BK356.out 2).trans rfl
        have hfs22 := y15 BK356.out 2
        have hns22_0 := NB349_356.out
        have hms22_0 := NB356_349.out
        refine skip_ (w1 := ?_) (by rfl) rfl ?_ ?_
        rotate_left
        ·go_simp
         rfl
        refine hK.out _ _ ?_
        clear hK K
        refine done_ (done_of HT_.out (by kernel_rfl)) ?_
        try go_wp2
        go_roundg k2
        case measure => have := HK1.out; have := HK2.out; omega
        exact ⟨(wrap64 (x5_2 + 1)),(t361),(t362),(y363),(.slice Ao21 y363.length co21),qy2,H',⟨by have := HK1.out; have := HK2.out; omega⟩,⟨qR (Kd.R_mono (Kd.R_far (p := ⟨gb356,2,none⟩) (Kd.R_types HO365.out BK356.out (by decide)) (fun _ hk => hk.2) (.slice Ao21 y363.length co21)) (fun _ hk => trivial))⟩,⟨by (with_reducible repeat (first | refine y12 ?_ _ | refine y11 ?_ | refine y8 ?_ _)); refine y13 ?_ NB349_356.out _; (with_reducible repeat (first | refine y12 ?_ _ | refine y11 ?_ | refine y8 ?_ _)); exact BK349.out⟩,⟨by (with_reducible repeat (first | refine y12 ?_ _ | refine y11 ?_ | refine y8 ?_ _)); refine y16 (cs := #[.int .i64 t350,.int .i64 t353,u357002]) ?_ 2 _ rfl; (with_reducible repeat (first | refine y12 ?_ _ | refine y11 ?_ | refine y8 ?_ _)); exact BK356.out⟩,⟨by repeat (first | (with_reducible first | exact HI0.out | apply y1.alloc | apply y1.drewN | apply y1.drew | apply y1.set_1 | apply y1.set_2 | refine y1.far ?_ NB0_349.out _ | refine y1.far ?_ NB0_356.out _) | exact HI0.out)⟩,⟨by repeat (first | (with_reducible first | exact HK.out | apply y2.set_ | apply y23 | apply y22 | apply y21 | refine keep_far ?_ GW349.out _ | refine keep_far ?_ GW356.out _) | exact HK.out)⟩,⟨by repeat (first | (with_reducible first | exact HB.out | apply y3 | apply y24 | apply y4 | refine y5 ?_ (y1.ge HI0.out) | refine y5 ?_ GE349.out | refine y5 ?_ GE356.out) | exact HB.out)⟩⟩
       ·rw [if_neg c14] at H
        have c14b0 : (t357 == 0) = false := beq_eq_false_iff_ne.mpr c14
        have c14b1 : (t357 != 0) = true := bne_iff_ne.mpr c14
        have H' := y0.mk H
        clear H
        go_wp2_with (first | ((with_reducible refine y19 (f := 49) rfl ?_); refine goesL_ (some 20) rfl rfl Try.func49 (by kernel_rfl) rfl #[.pointer (some ⟨g,0,none⟩),.int .i64 3] rfl qy0 ?_; (with_reducible refine (z2_.calls g s0_0 x1001_2 x1002_2 3 t357 t358 t359 w0 _ (by repeat (first | (with_reducible first | exact HI0.out | apply y1.alloc | apply y1.drewN | apply y1.drew | apply y1.set_1 | apply y1.set_2 | refine y1.far ?_ NB0_349.out _ | refine y1.far ?_ NB0_356.out _) | exact HI0.out)) (by repeat (first | (with_reducible first | exact HB.out | apply y3 | apply y24 | apply y4 | refine y5 ?_ (y1.ge HI0.out) | refine y5 ?_ GE349.out | refine y5 ?_ GE356.out) | exact HB.out)) A13.out).mono ?_); rintro e w23 ⟨rfl,hi,hb,hk⟩; refine ⟨_,rfl, ?_⟩; replace HO_357002 := y0.mk (Kd.R_mono (Kd.R_keep (y1.apart (show y1 w0 _ g s0_0 x1001_2 x1002_2 from by repeat (first | (with_reducible first | exact HI0.out | apply y1.alloc | apply y1.drewN | apply y1.drew | apply y1.set_1 | apply y1.set_2 | refine y1.far ?_ NB0_349.out _ | refine y1.far ?_ NB0_356.out _) | exact HI0.out)) (qR HO_357002.out) (by decide)) hk (fun _ h => h.2)) (fun _ h => h.1)); replace BK349 := y0.mk (y2.blk hk (g' := gb349) (o := .cells #[.int .i64 0,.int .i64 0,.slice none 0 0] 28 (0,0)) (qk BK349.out) NB349_0.out (by simp)); replace BK356 := y0.mk (y2.blk hk (g' := gb356) (o := .cells #[.int .i64 t350,.int .i64 t353,u357002] 28 (0,0)) (qk BK356.out) NB356_0.out (by simp)); replace HK := y0.mk (y2.trans (by repeat (first | (with_reducible first | exact HK.out | apply y2.set_ | apply y23 | apply y22 | apply y21 | refine keep_far ?_ GW349.out _ | refine keep_far ?_ GW356.out _) | exact HK.out)) hk (.inl rfl)); replace HB := y0.mk (hb); replace HI0 := y0.mk (hi); (try clear hb); (try clear hb2); (try clear hk); (try clear hi)))
        go_roundg k2
        case measure => have := HK1.out; have := HK2.out; omega
        exact ⟨(wrap64 (x5_2 + 1)),(t358),(t359),(x357002_2),(u357002),qy2,H',⟨by have := HK1.out; have := HK2.out; omega⟩,⟨qR HO_357002.out⟩,⟨qk BK349.out⟩,⟨qk BK356.out⟩,⟨by repeat (first | (with_reducible first | exact HI0.out | apply y1.alloc | apply y1.drewN | apply y1.drew | apply y1.set_1 | apply y1.set_2 | refine y1.far ?_ NB0_349.out _ | refine y1.far ?_ NB0_356.out _) | exact HI0.out)⟩,⟨by repeat (first | (with_reducible first | exact HK.out | apply y2.set_ | apply y23 | apply y22 | apply y21 | refine keep_far ?_ GW349.out _ | refine keep_far ?_ GW356.out _) | exact HK.out)⟩,⟨by repeat (first | (with_reducible first | exact HB.out | apply y3 | apply y24 | apply y4 | refine y5 ?_ (y1.ge HI0.out) | refine y5 ?_ GE349.out | refine y5 ?_ GE356.out) | exact HB.out)⟩⟩
      ·rw [if_neg c12] at H
       have c12b0 := decide_eq_false c12
       clear c12
       have H' := y0.mk H
       clear H
       go_wp2
       go_roundg k2
       case measure => have := HK1.out; have := HK2.out; omega
       exact ⟨(wrap64 (x4_1 + 1)),(x1001_2),(x1002_2),(x357002_2),(u357002),qy2,H',⟨by have := HK1.out; have := HK2.out; omega⟩,⟨qR HO_357002.out⟩,⟨qk BK349.out⟩,⟨qk BK356.out⟩,⟨by repeat (first | (with_reducible first | exact HI0.out | apply y1.alloc | apply y1.drewN | apply y1.drew | apply y1.set_1 | apply y1.set_2 | refine y1.far ?_ NB0_349.out _ | refine y1.far ?_ NB0_356.out _) | exact HI0.out)⟩,⟨by repeat (first | (with_reducible first | exact HK.out | apply y2.set_ | apply y23 | apply y22 | apply y21 | refine keep_far ?_ GW349.out _ | refine keep_far ?_ GW356.out _) | exact HK.out)⟩,⟨by repeat (first | (with_reducible first | exact HB.out | apply y3 | apply y24 | apply y4 | refine y5 ?_ (y1.ge HI0.out) | refine y5 ?_ GE349.out | refine y5 ?_ GE356.out) | exact HB.out)⟩⟩
   ·rw [if_neg c11] at H
    have c11b0 := decide_eq_false c11
    clear c11
    obtain ⟨⟨t366,t367,t368⟩,A24,H⟩ := qB H
    replace H : (if t366 = true then ((spec_l01Cur_raw.f s0_0 t367 t368).bind fun bt369 => ((spec_l01Cur_raw.f s0_0 bt369.2.1 bt369.2.2).bind fun bt372 => (if x357002_1.length < 5864062014805 then (some (t350,t353,(x357002_1 ++ [(⟨bt369.1,bt372.1,false⟩ : S53)]),bt372.2.1,bt372.2.2)) else (none)))) else (some (t350,t353,x357002_1,t367,t368))) = some (r1,r2,r3,r4,r5) := H
    by_cases c25 : t366 = true
    ·subst c25
     replace H := qT H
     obtain ⟨⟨t369,t370,t371⟩,A26,H⟩ := qB H
     replace H : ((spec_l01Cur_raw.f s0_0 t370 t371).bind fun bt372 => (if x357002_1.length < 5864062014805 then (some (t350,t353,(x357002_1 ++ [(⟨t369,bt372.1,false⟩ : S53)]),bt372.2.1,bt372.2.2)) else (none))) = some (r1,r2,r3,r4,r5) := H
     obtain ⟨⟨t372,t373,t374⟩,A27,H⟩ := qB H
     replace H : (if x357002_1.length < 5864062014805 then (some (t350,t353,(x357002_1 ++ [(⟨t369,t372,false⟩ : S53)]),t373,t374)) else (none)) = some (r1,r2,r3,r4,r5) := H
     obtain ⟨c28,H⟩ := qo H
     have LMc28 := y0.mk c28
     clear c28
     obtain ⟨y375,hy375⟩ : ∃ y_ : List (S53),y_ = (x357002_1 ++ [(⟨t369,t372,false⟩ : S53)]) := ⟨_,rfl⟩
     replace H : (some (t350,t353,y375,t373,t374)) = some (r1,r2,r3,r4,r5) := by first | (rw [hy375]; with_reducible exact H) | (have H2_ := (Option.bind_some _ _).symm.trans H; rw [hy375]; with_reducible exact H2_) | (have H2_ := (Option.bind_some _ _).symm.trans H; with_reducible exact H2_) | with_reducible exact H | (rw [hy375]; exact H) | exact H
     have Ny375 := y0.mk hy375
     clear hy375
     simp only [Option.some.injEq,Prod.mk.injEq] at H
     obtain ⟨rfl,rfl,rfl,rfl,rfl⟩ := H
     try go_wp2_with (first | ((with_reducible refine y19 (f := 50) rfl ?_); refine goesL_ (some 34) rfl rfl Try.func50 (by kernel_rfl) rfl #[.pointer (some ⟨g,0,none⟩),.int .i64 20] rfl qy0 ?_; (with_reducible refine (spec_l01Cur_once.calls g s0_0 x1001_1 x1002_1 20 true t367 t368 w0 _ (by repeat (first | (with_reducible first | exact HI0.out | apply y1.alloc | apply y1.drewN | apply y1.drew | apply y1.set_1 | apply y1.set_2 | refine y1.far ?_ NB0_349.out _ | refine y1.far ?_ NB0_356.out _) | exact HI0.out)) (by repeat (first | (with_reducible first | exact HB.out | apply y3 | apply y24 | apply y4 | refine y5 ?_ (y1.ge HI0.out) | refine y5 ?_ GE349.out | refine y5 ?_ GE356.out) | exact HB.out)) A24.out).mono ?_); rintro e w29 ⟨rfl,hi,hb,hk⟩; refine ⟨_,rfl, ?_⟩; replace HO_357002 := y0.mk (Kd.R_mono (Kd.R_keep (y1.apart (show y1 w0 _ g s0_0 x1001_1 x1002_1 from by repeat (first | (with_reducible first | exact HI0.out | apply y1.alloc | apply y1.drewN | apply y1.drew | apply y1.set_1 | apply y1.set_2 | refine y1.far ?_ NB0_349.out _ | refine y1.far ?_ NB0_356.out _) | exact HI0.out)) (qR HO_357002.out) (by decide)) hk (fun _ h => h.2)) (fun _ h => h.1)); replace BK349 := y0.mk (y2.blk hk (g' := gb349) (o := .cells #[.int .i64 0,.int .i64 0,.slice none 0 0] 28 (0,0)) (qk BK349.out) NB349_0.out (by simp)); replace BK356 := y0.mk (y2.blk hk (g' := gb356) (o := .cells #[.int .i64 t350,.int .i64 t353,u357002] 28 (0,0)) (qk BK356.out) NB356_0.out (by simp)); replace HK := y0.mk (y2.trans (by repeat (first | (with_reducible first | exact HK.out | apply y2.set_ | apply y23 | apply y22 | apply y21 | refine keep_far ?_ GW349.out _ | refine keep_far ?_ GW356.out _) | exact HK.out)) hk (.inl rfl)); replace HB := y0.mk (hb); replace HI0 := y0.mk (hi); (try clear hb); (try clear hb2); (try clear hk); (try clear hi)))
     replace HO_357002 := y0.mk (Kd.R_drew HO_357002.out)
     replace BK349 := y0.mk (y11 BK349.out)
     replace BK356 := y0.mk (y11 BK356.out)
     replace HI0 := y0.mk (y1.drew HI0.out)
     replace HK := y0.mk (y22 HK.out)
     replace HB := y0.mk (y4 HB.out)
     refine start_ (n := 11) (S := fun w' => w'.cell? ⟨gb356,0,none⟩ = some (.int .i64 t350) ∧ w'.cell? ⟨gb356,1,none⟩ = some (.int .i64 t353) ∧ w'.cell? ⟨gb356,2,none⟩ = some (u357002)) (ds := [10]) (fl_ 11 0) (by kernel_rfl) rfl rfl ⟨(y10 BK356.out 0).trans rfl,(y10 BK356.out 1).trans rfl,(y10 BK356.out 2).trans rfl⟩ (fun hHeld => ?_); refine with_tabW z1_.tab11 z1_.bits11 (fun HT_ HW_ => ?_)
     generalize w29.drew = w30 at HO_357002 BK349 BK356 HI0 HK HB hHeld ⊢
     refine qp 0 35 (fl_ 11 1) ?_
     refine qp 2 37 (fl_ 11 5) ?_
     refine qp 4 39 (fl_ 11 21) ?_
     refine qt 1 36 (fl_ 11 23) hHeld ?_
     refine one_ (i := 3) (N := some 38) (fl_ 11 31) rfl rfl (one_of HT_.out (by kernel_rfl)) (by decide) (fun K hK => ?_)
     refine goes_ Try.func51 (by kernel_rfl) rfl #[.pointer (some ⟨g,0,none⟩)] (by rfl) rfl rfl qy0 ?_
     with_reducible refine (spec_l01Cur_raw.calls g s0_0 t367 t368 t369 t370 t371 w0 _ (by repeat (first | (with_reducible first | exact HI0.out | apply y1.alloc | apply y1.drewN | apply y1.drew | apply y1.set_1 | apply y1.set_2 | refine y1.far ?_ NB0_349.out _ | refine y1.far ?_ NB0_356.out _) | exact HI0.out)) (by repeat (first | (with_reducible first | exact HB.out | apply y3 | apply y24 | apply y4 | refine y5 ?_ (y1.ge HI0.out) | refine y5 ?_ GE349.out | refine y5 ?_ GE356.out) | exact HB.out)) A26.out).mono ?_
     rintro e w31 ⟨rfl,hi,hb,hk⟩
     refine ⟨_,rfl, ?_⟩
     replace HO_357002 := y0.mk (Kd.R_mono (Kd.R_keep (y1.apart (show y1 w0 _ g s0_0 t367 t368 from by repeat (first | (with_reducible first | exact HI0.out | apply y1.alloc | apply y1.drewN | apply y1.drew | apply y1.set_1 | apply y1.set_2 | refine y1.far ?_ NB0_349.out _ | refine y1.far ?_ NB0_356.out _) | exact HI0.out)) (qR HO_357002.out) (by decide)) hk (fun _ h => h.2)) (fun _ h => h.1))
     replace BK349 := y0.mk (y2.blk hk (g' := gb349) (o := .cells #[.int .i64 0,.int .i64 0,.slice none 0 0] 28 (0,0)) (qk BK349.out) NB349_0.out (by simp))
     replace BK356 := y0.mk (y2.blk hk (g' := gb356) (o := .cells #[.int .i64 t350,.int .i64 t353,u357002] 28 (0,0)) (qk BK356.out) NB356_0.out (by simp))
     replace HK := y0.mk (y2.trans (by repeat (first | (with_reducible first | exact HK.out | apply y2.set_ | apply y23 | apply y22 | apply y21 | refine keep_far ?_ GW349.out _ | refine keep_far ?_ GW356.out _) | exact HK.out)) hk (.inl rfl))
     replace HB := y0.mk (hb)
     replace HI0 := y0.mk (hi)
     (try clear hb)
     (try clear hb2)
     (try clear hk)
     (try clear hi)
     refine hK.out _ _ ⟨(y10 BK356.out 0).trans rfl,(y10 BK356.out 1).trans rfl,(y10 BK356.out 2).trans rfl⟩ (fun hHeld => ?_)
     clear hK K
     refine norm_ (a' := ?_) ?_ ?_
     rotate_left
     ·show Act.put _ (some 38) _ = _
      simp only [Act.put,qS_,qZ_,qC_,i64_w,i32_w]
      rfl
     refine one_ (i := 5) (N := some 40) (fl_ 11 63) rfl rfl (one_of HT_.out (by kernel_rfl)) (by decide) (fun K hK => ?_)
     refine goes_ Try.func51 (by kernel_rfl) rfl #[.pointer (some ⟨g,0,none⟩)] (by rfl) rfl rfl qy0 ?_
     with_reducible refine (spec_l01Cur_raw.calls g s0_0 t370 t371 t372 t373 t374 w0 _ (by repeat (first | (with_reducible first | exact HI0.out | apply y1.alloc | apply y1.drewN | apply y1.drew | apply y1.set_1 | apply y1.set_2 | refine y1.far ?_ NB0_349.out _ | refine y1.far ?_ NB0_356.out _) | exact HI0.out)) (by repeat (first | (with_reducible first | exact HB.out | apply y3 | apply y24 | apply y4 | refine y5 ?_ (y1.ge HI0.out) | refine y5 ?_ GE349.out | refine y5 ?_ GE356.out) | exact HB.out)) A27.out).mono ?_
     rintro e w32 ⟨rfl,hi,hb,hk⟩
     refine ⟨_,rfl, ?_⟩
     replace HO_357002 := y0.mk (Kd.R_mono (Kd.R_keep (y1.apart (show y1 w0 _ g s0_0 t370 t371 from by repeat (first | (with_reducible first | exact HI0.out | apply y1.alloc | apply y1.drewN | apply y1.drew | apply y1.set_1 | apply y1.set_2 | refine y1.far ?_ NB0_349.out _ | refine y1.far ?_ NB0_356.out _) | exact HI0.out)) (qR HO_357002.out) (by decide)) hk (fun _ h => h.2)) (fun _ h => h.1))
     replace BK349 := y0.mk (y2.blk hk (g' := gb349) (o := .cells #[.int .i64 0,.int .i64 0,.slice none 0 0] 28 (0,0)) (qk BK349.out) NB349_0.out (by simp))
     replace BK356 := y0.mk (y2.blk hk (g' := gb356) (o := .cells #[.int .i64 t350,.int .i64 t353,u357002] 28 (0,0)) (qk BK356.out) NB356_0.out (by simp))
     replace HK := y0.mk (y2.trans (by repeat (first | (with_reducible first | exact HK.out | apply y2.set_ | apply y23 | apply y22 | apply y21 | refine keep_far ?_ GW349.out _ | refine keep_far ?_ GW356.out _) | exact HK.out)) hk (.inl rfl))
     replace HB := y0.mk (hb)
     replace HI0 := y0.mk (hi)
     (try clear hb)
     (try clear hb2)
     (try clear hk)
     (try clear hi)
     refine hK.out _ _ ⟨(y10 BK356.out 0).trans rfl,(y10 BK356.out 1).trans rfl,(y10 BK356.out 2).trans rfl⟩ (fun hHeld => ?_)
     clear hK K
     refine norm_ (a' := ?_) ?_ ?_
     rotate_left
     ·show Act.put _ (some 40) _ = _
      simp only [Act.put,qS_,qZ_,qC_,i64_w,i32_w]
      rfl
     refine qp 6 41 (fl_ 11 127) ?_
     refine one_ (i := 7) (N := some 42) (fl_ 11 255) rfl rfl (one_of HT_.out (by kernel_rfl)) (by decide) (fun K hK => ?_)
     refine value_ (w1 := ?_) (v := ?_) (by rfl) rfl ?_ ?_
     rotate_left 2
     ·go_simp
      constructor
      ·rfl
      ·rfl
     refine hK.out _ _ ⟨(y10 (y8 BK356.out _) 0).trans rfl,(y10 (y8 BK356.out _) 1).trans rfl,(y10 (y8 BK356.out _) 2).trans rfl⟩ (fun hHeld => ?_)
     clear hK K
     refine norm_ (a' := ?_) ?_ ?_
     rotate_left
     ·show Act.put _ (some 42) _ = _
      simp only [Act.put,qS_,qZ_,qC_,i64_w,i32_w]
      rfl
     refine one_ (i := 8) (N := some 43) (fl_ 11 511) rfl rfl (one_of HT_.out (by kernel_rfl)) (by decide) (fun K hK => ?_)
     refine Kd.R_append_step k53 w.heap.size (by rfl) (.tmp 36) (.tmp 42) 26 53 (.agg #[(.int .i64 0),(.int .i64 0),(.bool false)]) 24 rfl Try.underlying26 info53 rfl (by decide) (by omega) u357002 x357002_1 (⟨t369,t372,false⟩ : S53) [.int .i64 t369,.int .i64 t372,.bool false] (fun _ => True) (fun _ => False) rfl rfl ?aP (fun _ hk => hk.elim) ?aF ?aO (Below.refl _ _) ?aS ?aL ?_
     (case aP => exact k53_mkM _ _ _ (⟨t369,t372,false⟩ : S53))
     (case aF => exact (fun _ _ => trivial))
     (case aO => exact (qR HO_357002.out))
     (case aS => exact (keep_size (w := w) (g := g) (row := none) (by repeat (first | (with_reducible first | exact HK.out | apply y2.set_ | apply y23 | apply y22 | apply y21 | refine keep_far ?_ GW349.out _ | refine keep_far ?_ GW356.out _) | exact HK.out))))
     (case aL => have := LMc28.out; omega)
     intro v376 w33 ho hb hg hat
     rw [← Ny375.out] at ho
     replace BK349 := y0.mk (blk_grown (qk BK349.out) hg (Kd.R_ne HO_357002.out BK349.out (by decide)))
     replace BK356 := y0.mk (blk_grown (qk BK356.out) hg (Kd.R_ne HO_357002.out BK356.out (by decide)))
     replace HB := y0.mk (below_weaken (by repeat (first | (with_reducible first | exact HB.out | apply y3 | apply y24 | apply y4 | refine y5 ?_ (y1.ge HI0.out) | refine y5 ?_ GE349.out | refine y5 ?_ GE356.out) | exact HB.out)) HL.out hb)
     replace HI0 := y0.mk (y1.grown (by repeat (first | (with_reducible first | exact HI0.out | apply y1.alloc | apply y1.drewN | apply y1.drew | apply y1.set_1 | apply y1.set_2 | refine y1.far ?_ NB0_349.out _ | refine y1.far ?_ NB0_356.out _) | exact HI0.out)) hg (y1.own_ne HI0.out HO_357002.out (by decide)))
     replace HK := y0.mk (y2.trans (by repeat (first | (with_reducible first | exact HK.out | apply y2.set_ | apply y23 | apply y22 | apply y21 | refine keep_far ?_ GW349.out _ | refine keep_far ?_ GW356.out _) | exact HK.out)) (y2.of_grown hg g) (Kd.R_base2 HO_357002.out))
     have HO377 := y0.mk (ho)
     clear HO_357002
     clear ho hb hg hat
     obtain ⟨Ao34,co34,eo34⟩ := Kd.R_slice HO377.out
     (first | subst eo34 | (injection eo34 with f1_ f2_ f3_; have f4_ := f1_.symm; have f5_ := f3_.symm; clear f1_ f2_ f3_; subst f4_; subst f5_))
     refine hK.out _ _ ⟨(y10 BK356.out 0).trans rfl,(y10 BK356.out 1).trans rfl,(y10 BK356.out 2).trans rfl⟩ (fun hHeld => ?_)
     clear hK K
     refine norm_ (a' := ?_) ?_ ?_
     rotate_left
     ·show Act.put _ (some 43) _ = _
      simp only [Act.put,qS_,qZ_,qC_,i64_w,i32_w]
      rfl
     refine qp 9 44 (fl_ 11 1023) ?_
     refine last_ (i := 10) (N := none) (fl_ 11 2047) rfl rfl (one_of HT_.out (by kernel_rfl)) (by decide) (fun K hK => ?_)
     have hs35 : w33.cell? ⟨gb356,2,none⟩ = some (u357002) := (y10 BK356.out 2).trans rfl
     have hfs35 := y15 BK356.out 2
     have hns35_0 := NB349_356.out
     have hms35_0 := NB356_349.out
     refine skip_ (w1 := ?_) (by rfl) rfl ?_ ?_
     rotate_left
     ·go_simp
      rfl
     refine hK.out _ _ ?_
     clear hK K
     refine done_ (done_of HT_.out (by kernel_rfl)) ?_
     have hnb36 := NB356_349.out
     have hnc36 := NB349_356.out
     have hnb37 := NB356_0.out
     have hnc37 := NB0_356.out
     obtain ⟨hcz38_0,hcz38_1,hcz38_2,hfz38_0,hfz38_1,hfz38_2⟩ := qz3 BK356.out
     have hnb39 := NB349_0.out
     have hnc39 := NB0_349.out
     obtain ⟨hcz40_0,hcz40_1,hcz40_2,hfz40_0,hfz40_1,hfz40_2⟩ := qz3 BK349.out
     try go_wp2
     refine bodyPost_ret (results_cell_row rfl _ _ gb349 28 #[.int .i64 t350,.int .i64 t353,.slice Ao34 y375.length co34] (0,0) _ rfl (by (with_reducible repeat (first | refine y12 ?_ _ | refine y11 ?_ | refine y8 ?_ _)); refine y16 (cs := #[.int .i64 t350,.int .i64 t353,.slice none 0 0]) ?_ 2 _ rfl; (with_reducible repeat (first | refine y12 ?_ _ | refine y11 ?_ | refine y8 ?_ _)); refine y16 (cs := #[.int .i64 t350,.int .i64 0,.slice none 0 0]) ?_ 1 _ rfl; (with_reducible repeat (first | refine y12 ?_ _ | refine y11 ?_ | refine y8 ?_ _)); refine y16 (cs := #[.int .i64 0,.int .i64 0,.slice none 0 0]) ?_ 0 _ rfl; (with_reducible repeat (first | refine y12 ?_ _ | refine y11 ?_ | refine y8 ?_ _)); refine y13 ?_ NB349_356.out _; (with_reducible repeat (first | refine y12 ?_ _ | refine y11 ?_ | refine y8 ?_ _)); exact BK349.out) Try.underlying28 rfl (by kernel_rfl)) rfl ?_
     exact ⟨_,by first | rfl | (simp [y17,y18] <;> rfl) | (simp [*,y17,y18] <;> rfl),by (with_reducible repeat (first | apply Kd.R_alloc | apply Kd.R_drewN | apply Kd.R_drew)); exact Kd.R_mono (Kd.R_far (p := ⟨gb349,2,none⟩) (Kd.R_far (p := ⟨gb349,1,none⟩) (Kd.R_far (p := ⟨gb349,0,none⟩) (Kd.R_far (p := ⟨gb356,2,none⟩) (Kd.R_types (Kd.R_types HO377.out BK356.out (by decide)) BK349.out (by decide)) (fun _ hk => hk.1.2) (.slice Ao34 y375.length co34)) (fun _ hk => hk.2) (.int .i64 t350)) (fun _ hk => hk.2) (.int .i64 t353)) (fun _ hk => hk.2) (.slice Ao34 y375.length co34)) (fun _ hk => trivial),by repeat (first | (with_reducible first | exact HI0.out | apply y1.alloc | apply y1.drewN | apply y1.drew | apply y1.set_1 | apply y1.set_2 | refine y1.far ?_ NB0_349.out _ | refine y1.far ?_ NB0_356.out _) | exact HI0.out),by repeat (first | (with_reducible first | exact HB.out | apply y3 | apply y24 | apply y4 | refine y5 ?_ (y1.ge HI0.out) | refine y5 ?_ GE349.out | refine y5 ?_ GE356.out) | exact HB.out),by repeat (first | (with_reducible first | exact HK.out | apply y2.set_ | apply y23 | apply y22 | apply y21 | refine keep_far ?_ GW349.out _ | refine keep_far ?_ GW356.out _) | exact HK.out)⟩
    ·replace c25 := Bool.eq_false_iff.mpr c25
     subst c25
     replace H := qF H
     simp only [Option.some.injEq,Prod.mk.injEq] at H
     obtain ⟨rfl,rfl,rfl,rfl,rfl⟩ := H
     go_wp2_with (first | ((with_reducible refine y19 (f := 50) rfl ?_); refine goesL_ (some 34) rfl rfl Try.func50 (by kernel_rfl) rfl #[.pointer (some ⟨g,0,none⟩),.int .i64 20] rfl qy0 ?_; (with_reducible refine (spec_l01Cur_once.calls g s0_0 x1001_1 x1002_1 20 false t367 t368 w0 _ (by repeat (first | (with_reducible first | exact HI0.out | apply y1.alloc | apply y1.drewN | apply y1.drew | apply y1.set_1 | apply y1.set_2 | refine y1.far ?_ NB0_349.out _ | refine y1.far ?_ NB0_356.out _) | exact HI0.out)) (by repeat (first | (with_reducible first | exact HB.out | apply y3 | apply y24 | apply y4 | refine y5 ?_ (y1.ge HI0.out) | refine y5 ?_ GE349.out | refine y5 ?_ GE356.out) | exact HB.out)) A24.out).mono ?_); rintro e w41 ⟨rfl,hi,hb,hk⟩; refine ⟨_,rfl, ?_⟩; replace HO_357002 := y0.mk (Kd.R_mono (Kd.R_keep (y1.apart (show y1 w0 _ g s0_0 x1001_1 x1002_1 from by repeat (first | (with_reducible first | exact HI0.out | apply y1.alloc | apply y1.drewN | apply y1.drew | apply y1.set_1 | apply y1.set_2 | refine y1.far ?_ NB0_349.out _ | refine y1.far ?_ NB0_356.out _) | exact HI0.out)) (qR HO_357002.out) (by decide)) hk (fun _ h => h.2)) (fun _ h => h.1)); replace BK349 := y0.mk (y2.blk hk (g' := gb349) (o := .cells #[.int .i64 0,.int .i64 0,.slice none 0 0] 28 (0,0)) (qk BK349.out) NB349_0.out (by simp)); replace BK356 := y0.mk (y2.blk hk (g' := gb356) (o := .cells #[.int .i64 t350,.int .i64 t353,u357002] 28 (0,0)) (qk BK356.out) NB356_0.out (by simp)); replace HK := y0.mk (y2.trans (by repeat (first | (with_reducible first | exact HK.out | apply y2.set_ | apply y23 | apply y22 | apply y21 | refine keep_far ?_ GW349.out _ | refine keep_far ?_ GW356.out _) | exact HK.out)) hk (.inl rfl)); replace HB := y0.mk (hb); replace HI0 := y0.mk (hi); (try clear hb); (try clear hb2); (try clear hk); (try clear hi); have hnb42 := NB356_349.out; have hnc42 := NB349_356.out; have hnb43 := NB356_0.out; have hnc43 := NB0_356.out; obtain ⟨hcz44_0,hcz44_1,hcz44_2,hfz44_0,hfz44_1,hfz44_2⟩ := qz3 BK356.out; have hnb45 := NB349_0.out; have hnc45 := NB0_349.out; obtain ⟨hcz46_0,hcz46_1,hcz46_2,hfz46_0,hfz46_1,hfz46_2⟩ := qz3 BK349.out; obtain ⟨Ao47,co47,eo47⟩ := Kd.R_slice HO_357002.out; subst eo47))
     refine bodyPost_ret (results_cell_row rfl _ _ gb349 28 #[.int .i64 t350,.int .i64 t353,.slice Ao47 x357002_1.length co47] (0,0) _ rfl (by (with_reducible repeat (first | refine y12 ?_ _ | refine y11 ?_ | refine y8 ?_ _)); refine y16 (cs := #[.int .i64 t350,.int .i64 t353,.slice none 0 0]) ?_ 2 _ rfl; (with_reducible repeat (first | refine y12 ?_ _ | refine y11 ?_ | refine y8 ?_ _)); refine y16 (cs := #[.int .i64 t350,.int .i64 0,.slice none 0 0]) ?_ 1 _ rfl; (with_reducible repeat (first | refine y12 ?_ _ | refine y11 ?_ | refine y8 ?_ _)); refine y16 (cs := #[.int .i64 0,.int .i64 0,.slice none 0 0]) ?_ 0 _ rfl; (with_reducible repeat (first | refine y12 ?_ _ | refine y11 ?_ | refine y8 ?_ _)); exact BK349.out) Try.underlying28 rfl (by kernel_rfl)) rfl ?_
     exact ⟨_,by first | rfl | (simp [y17,y18] <;> rfl) | (simp [*,y17,y18] <;> rfl),by (with_reducible repeat (first | apply Kd.R_alloc | apply Kd.R_drewN | apply Kd.R_drew)); exact Kd.R_mono (Kd.R_far (p := ⟨gb349,2,none⟩) (Kd.R_far (p := ⟨gb349,1,none⟩) (Kd.R_far (p := ⟨gb349,0,none⟩) (Kd.R_types HO_357002.out BK349.out (by decide)) (fun _ hk => hk.2) (.int .i64 t350)) (fun _ hk => hk.2) (.int .i64 t353)) (fun _ hk => hk.2) (.slice Ao47 x357002_1.length co47)) (fun _ hk => trivial),by repeat (first | (with_reducible first | exact HI0.out | apply y1.alloc | apply y1.drewN | apply y1.drew | apply y1.set_1 | apply y1.set_2 | refine y1.far ?_ NB0_349.out _ | refine y1.far ?_ NB0_356.out _) | exact HI0.out),by repeat (first | (with_reducible first | exact HB.out | apply y3 | apply y24 | apply y4 | refine y5 ?_ (y1.ge HI0.out) | refine y5 ?_ GE349.out | refine y5 ?_ GE356.out) | exact HB.out),by repeat (first | (with_reducible first | exact HK.out | apply y2.set_ | apply y23 | apply y22 | apply y21 | refine keep_far ?_ GW349.out _ | refine keep_far ?_ GW356.out _) | exact HK.out)⟩
end Go.Proofs.Ytcckpjflbfofjaa.Pd
end
section
namespace Go.Proofs.Ytcckpjflbfofjaa.Pd
open Go.RowKit Go.Proofs.YtcckpjflbfofjaaW.PrintWords Go.Proofs.YtcckpjflbfofjaaW.PrintLast Go.Proofs.YtcckpjflbfofjaaW.PrintMore
attribute [local go_sem] max2_int min2_int max_two min_two max_three min_three max_four min_four   -- for this text's walks alone
set_option linter.unusedVariables false
set_option linter.unusedSimpArgs false
attribute [local go_sem high] eqA53
def spec_DrawCompose.f (k : Nat) (l0 : List Int) : Option (Int × Int × (List (S53)) × Int × Int × (List (S53))) := (spec_l01Open.f l0).bind fun bt380 => ((z1_.f k bt380.1 bt380.2.1 bt380.2.2).bind fun bt384 => ((z1_.f k bt380.1 bt384.2.2.2.1 bt384.2.2.2.2).bind fun bt392 => (some (bt384.1,bt384.2.1,bt384.2.2.1,bt392.1,bt392.2.1,bt392.2.2.1))))
theorem spec_DrawCompose.mono : ∀ a0 k,LeO (spec_DrawCompose.f k a0) (spec_DrawCompose.f (k + 1) a0) := by
 intro a0 k
 unfold spec_DrawCompose.f
 repeat' first
   | (with_reducible exact z1_.mono _ _ _ _)
   | (with_reducible exact LeO.refl _)
   | (with_reducible exact LeO.none _)
   | (with_reducible refine LeO.ite ?_ ?_)
   | (with_reducible refine LeO.bind ?_ (fun _ => ?_))
   | exact z1_.mono _ _ _ _
   | exact LeO.none _
   | refine LeO.ite ?_ ?_
   | refine LeO.bind ?_ (fun _ => ?_)
set_option maxHeartbeats 8000000 in
set_option maxRecDepth 100000 in
theorem spec_DrawCompose.calls (k : Nat) (A0 : Option Addr) (c0 : Nat) (l0 : List Int) (r1 : Int) (r2 : Int) (r3 : List (S53)) (r4 : Int) (r5 : Int) (r6 : List (S53)) (w : World) (hr0 : Kd.C (Kd.int .u8) w A0 l0.length l0) (hc0 : l0.length ≤ c0) (h : spec_DrawCompose.f k l0 = some (r1,r2,r3,r4,r5,r6)) :
  Calls Try.prog 17 #[.slice A0 l0.length c0] w fun e w' => ∃ v2_ v5_ : Value,e = .returned (.tuple #[.agg #[.int .i64 r1,.int .i64 r2,v2_],.agg #[.int .i64 r4,.int .i64 r5,v5_]]) ∧ Kd.R k53 53 w' w.heap.size (fun k_ => some k_ ≠ (v5_ : Value).ownBlock) v2_ r3 ∧ Kd.R k53 53 w' w.heap.size (fun k_ => some k_ ≠ (v2_ : Value).ownBlock) v5_ r6 ∧ Below w.heap.size w w' := by
 have hu28 := Try.underlying28
 have HR0 := y0.mk hr0
 have HC0 := y0.mk hc0
 clear hr0 hc0
 have HB := y0.mk (Below.refl w.heap.size w)
 have H : ((spec_l01Open.f l0).bind fun bt380 => ((z1_.f k bt380.1 bt380.2.1 bt380.2.2).bind fun bt384 => ((z1_.f k bt380.1 bt384.2.2.2.1 bt384.2.2.2.2).bind fun bt392 => (some (bt384.1,bt384.2.1,bt384.2.2.1,bt392.1,bt392.2.1,bt392.2.2.1))))) = some (r1,r2,r3,r4,r5,r6) := h
 clear h
 obtain ⟨⟨t380,t381,t382⟩,A2,H⟩ := qB H
 replace H : ((z1_.f k t380 t381 t382).bind fun bt384 => ((z1_.f k t380 bt384.2.2.2.1 bt384.2.2.2.2).bind fun bt392 => (some (bt384.1,bt384.2.1,bt384.2.2.1,bt392.1,bt392.2.1,bt392.2.2.1)))) = some (r1,r2,r3,r4,r5,r6) := H
 obtain ⟨⟨t384,t385,t386,t389,t390⟩,A3,H⟩ := qB H
 replace H : ((z1_.f k t380 t389 t390).bind fun bt392 => (some (t384,t385,t386,bt392.1,bt392.2.1,bt392.2.2.1))) = some (r1,r2,r3,r4,r5,r6) := H
 obtain ⟨⟨t392,t393,t394,t397,t398⟩,A4,H⟩ := qB H
 replace H : (some (t384,t385,t386,t392,t393,t394)) = some (r1,r2,r3,r4,r5,r6) := H
 simp only [Option.some.injEq,Prod.mk.injEq] at H
 obtain ⟨rfl,rfl,rfl,rfl,rfl,rfl⟩ := H
 go_enter Try.func17,Try.ntmps17
 try go_wp2_with (first | ((with_reducible refine y20 (N := 2) rfl ?_); refine qe 2 #[.int .i64 0,.int .i64 0,.slice none 0 0] 28 ?_; intro gb378 hg w5 hbox hb; have BK378 := y0.mk (hbox); have GW378 := y0.mk (qg (w := w) hg); have GE378 := y0.mk (qg (w := w) hg); replace HB := y0.mk (y7 qb hb); clear hb hbox hg) | ((with_reducible refine y20 (N := 3) rfl ?_); refine qe 3 #[.int .i64 0,.int .i64 0,.slice none 0 0] 28 ?_; intro gb379 hg w6 hbox hb; have BK379 := y0.mk (hbox); have GW379 := y0.mk (qg (w := w) hg); have GE379 := y0.mk (qg (w := w) hg); replace HB := y0.mk (y7 qb hb); have NB378_379 := y0.mk (qn BK378.out hg); have NB379_378 := y0.mk (qm BK378.out hg); replace BK378 := y0.mk (qK BK378.out hb); clear hb hbox hg) | ((with_reducible refine y19 (f := 36) rfl ?_); refine goesL_ (some 7) rfl rfl Try.func36 (by kernel_rfl) rfl #[.slice A0 l0.length c0] rfl qy0 ?_; (with_reducible refine (spec_l01Open.calls _ _ l0 t380 t381 t382 w _ (by repeat (first | (with_reducible first | exact HB.out | apply y3 | apply y24 | apply y4 | refine y5 ?_ GE378.out | refine y5 ?_ GE379.out) | exact HB.out)) HR0.out HC0.out A2.out).mono ?_); rintro e w7 ⟨g383,rfl,hi,hb,hb2⟩; refine ⟨_,rfl, ?_⟩; replace HB := y0.mk (hb); have HI383 := y0.mk (hi); have NB383_378 := y0.mk (y1.ne_blk hi (qK BK378.out hb2) (by decide)); have NB378_383 := y0.mk (Ne.symm (y1.ne_blk hi (qK BK378.out hb2) (by decide))); replace BK378 := y0.mk (qK BK378.out hb2); have NB383_379 := y0.mk (y1.ne_blk hi (qK BK379.out hb2) (by decide)); have NB379_383 := y0.mk (Ne.symm (y1.ne_blk hi (qK BK379.out hb2) (by decide))); replace BK379 := y0.mk (qK BK379.out hb2); (try clear hb); (try clear hb2); (try clear hk); (try clear hi)) | ((with_reducible refine y19 (f := 37) rfl ?_); refine goesL_ (some 9) rfl rfl Try.func37 (by kernel_rfl) rfl #[.pointer (some ⟨g383,0,none⟩)] rfl qy0 ?_; (with_reducible refine (z1_.calls k g383 t380 t381 t382 t384 t385 t386 t389 t390 w _ (by repeat (first | (with_reducible first | exact HI383.out | apply y1.alloc | apply y1.drewN | apply y1.drew | apply y1.set_1 | apply y1.set_2 | refine y1.far ?_ NB383_378.out _ | refine y1.far ?_ NB383_379.out _) | exact HI383.out)) (by repeat (first | (with_reducible first | exact HB.out | apply y3 | apply y24 | apply y4 | refine y5 ?_ (y1.ge HI383.out) | refine y5 ?_ GE378.out | refine y5 ?_ GE379.out) | exact HB.out)) A3.out).mono ?_); rintro e w8 ⟨v387,rfl,ho0,hi,hb,hk⟩; refine ⟨_,rfl, ?_⟩; replace BK378 := y0.mk (y2.blk hk (g' := gb378) (o := .cells #[.int .i64 0,.int .i64 0,.slice none 0 0] 28 (0,0)) (qk BK378.out) NB378_383.out (by simp)); replace BK379 := y0.mk (y2.blk hk (g' := gb379) (o := .cells #[.int .i64 0,.int .i64 0,.slice none 0 0] 28 (0,0)) (qk BK379.out) NB379_383.out (by simp)); have HO388 := y0.mk (Kd.R_lower ho0 (y6 (by repeat (first | (with_reducible first | exact HB.out | apply y3 | apply y24 | apply y4 | refine y5 ?_ (y1.ge HI383.out) | refine y5 ?_ GE378.out | refine y5 ?_ GE379.out) | exact HB.out)))); replace HB := y0.mk (hb); replace HI383 := y0.mk (hi); (try clear hb); (try clear hb2); (try clear hk); (try clear hi); (try clear ho0)) | ((with_reducible refine y20 (N := 5) rfl ?_); refine qe 5 #[.int .i64 0,.int .i64 0,.slice none 0 0] 28 ?_; intro gb391 hg w9 hbox hb; replace HO388 := y0.mk (Kd.R_below (qR HO388.out) hb); have BK391 := y0.mk (hbox); have GW391 := y0.mk ((by rw [hg]; exact (y6 (by repeat (first | (with_reducible first | exact HB.out | apply y3 | apply y24 | apply y4 | refine y5 ?_ (y1.ge HI383.out) | refine y5 ?_ GE378.out | refine y5 ?_ GE379.out) | exact HB.out))) : w.heap.size ≤ gb391)); have GE391 := y0.mk ((by rw [hg]; exact (y6 (by repeat (first | (with_reducible first | exact HB.out | apply y3 | apply y24 | apply y4 | refine y5 ?_ (y1.ge HI383.out) | refine y5 ?_ GE378.out | refine y5 ?_ GE379.out) | exact HB.out))) : w.heap.size ≤ gb391)); replace HB := y0.mk (y7 (by repeat (first | (with_reducible first | exact HB.out | apply y3 | apply y24 | apply y4 | refine y5 ?_ (y1.ge HI383.out) | refine y5 ?_ GE378.out | refine y5 ?_ GE379.out) | exact HB.out)) hb); have NB378_391 := y0.mk (qn BK378.out hg); have NB391_378 := y0.mk (qm BK378.out hg); replace BK378 := y0.mk (qK BK378.out hb); have NB379_391 := y0.mk (qn BK379.out hg); have NB391_379 := y0.mk (qm BK379.out hg); replace BK379 := y0.mk (qK BK379.out hb); have NB383_391 := y0.mk ((by rw [hg]; exact Nat.ne_of_lt (y1.lt (show y1 w _ g383 t380 t389 t390 from by repeat (first | (with_reducible first | exact HI383.out | apply y1.alloc | apply y1.drewN | apply y1.drew | apply y1.set_1 | apply y1.set_2 | refine y1.far ?_ NB383_378.out _ | refine y1.far ?_ NB383_379.out _) | exact HI383.out))) : g383 ≠ gb391)); have NB391_383 := y0.mk ((by rw [hg]; exact Nat.ne_of_gt (y1.lt (show y1 w _ g383 t380 t389 t390 from by repeat (first | (with_reducible first | exact HI383.out | apply y1.alloc | apply y1.drewN | apply y1.drew | apply y1.set_1 | apply y1.set_2 | refine y1.far ?_ NB383_378.out _ | refine y1.far ?_ NB383_379.out _) | exact HI383.out))) : gb391 ≠ g383)); replace HI383 := y0.mk (y1.below (by repeat (first | (with_reducible first | exact HI383.out | apply y1.alloc | apply y1.drewN | apply y1.drew | apply y1.set_1 | apply y1.set_2 | refine y1.far ?_ NB383_378.out _ | refine y1.far ?_ NB383_379.out _) | exact HI383.out)) hb); clear hb hbox hg; have hnb10 := NB391_378.out; have hnc10 := NB378_391.out; have hnb11 := NB391_379.out; have hnc11 := NB379_391.out; have hnb12 := NB391_383.out; have hnc12 := NB383_391.out; obtain ⟨hcz13_0,hcz13_1,hcz13_2,hfz13_0,hfz13_1,hfz13_2⟩ := qz3 BK391.out; obtain ⟨Ao14,co14,eo14⟩ := Kd.R_slice HO388.out; subst eo14))
 have n0_ : y0 (Kd.R k53 53 (((w9.setCell ⟨gb391,0,none⟩ (.int .i64 t384)).setCell ⟨gb391,1,none⟩ (.int .i64 t385)).setCell ⟨gb391,2,none⟩ (.slice Ao14 t386.length co14)) w.heap.size (fun _ => True) (.slice Ao14 t386.length co14) t386) := ⟨qR (Kd.R_mono (Kd.R_far (p := ⟨gb391,2,none⟩) (Kd.R_far (p := ⟨gb391,1,none⟩) (Kd.R_far (p := ⟨gb391,0,none⟩) (Kd.R_types HO388.out BK391.out (by decide)) (fun _ hk => hk.2) (.int .i64 t384)) (fun _ hk => hk.2) (.int .i64 t385)) (fun _ hk => hk.2) (.slice Ao14 t386.length co14)) (fun _ hk => trivial))⟩
 have n1_ : y0 ((((w9.setCell ⟨gb391,0,none⟩ (.int .i64 t384)).setCell ⟨gb391,1,none⟩ (.int .i64 t385)).setCell ⟨gb391,2,none⟩ (.slice Ao14 t386.length co14)).heap[gb378]? = some (.cells #[.int .i64 0,.int .i64 0,.slice none 0 0] 28 (0,0))) := ⟨by (with_reducible repeat (first | refine y12 ?_ _ | refine y11 ?_ | refine y8 ?_ _)); refine y13 ?_ NB378_391.out _; (with_reducible repeat (first | refine y12 ?_ _ | refine y11 ?_ | refine y8 ?_ _)); refine y13 ?_ NB378_391.out _; (with_reducible repeat (first | refine y12 ?_ _ | refine y11 ?_ | refine y8 ?_ _)); refine y13 ?_ NB378_391.out _; (with_reducible repeat (first | refine y12 ?_ _ | refine y11 ?_ | refine y8 ?_ _)); exact BK378.out⟩
 have n2_ : y0 ((((w9.setCell ⟨gb391,0,none⟩ (.int .i64 t384)).setCell ⟨gb391,1,none⟩ (.int .i64 t385)).setCell ⟨gb391,2,none⟩ (.slice Ao14 t386.length co14)).heap[gb379]? = some (.cells #[.int .i64 0,.int .i64 0,.slice none 0 0] 28 (0,0))) := ⟨by (with_reducible repeat (first | refine y12 ?_ _ | refine y11 ?_ | refine y8 ?_ _)); refine y13 ?_ NB379_391.out _; (with_reducible repeat (first | refine y12 ?_ _ | refine y11 ?_ | refine y8 ?_ _)); refine y13 ?_ NB379_391.out _; (with_reducible repeat (first | refine y12 ?_ _ | refine y11 ?_ | refine y8 ?_ _)); refine y13 ?_ NB379_391.out _; (with_reducible repeat (first | refine y12 ?_ _ | refine y11 ?_ | refine y8 ?_ _)); exact BK379.out⟩
 have n3_ : y0 ((((w9.setCell ⟨gb391,0,none⟩ (.int .i64 t384)).setCell ⟨gb391,1,none⟩ (.int .i64 t385)).setCell ⟨gb391,2,none⟩ (.slice Ao14 t386.length co14)).heap[gb391]? = some (.cells #[.int .i64 t384,.int .i64 t385,.slice Ao14 t386.length co14] 28 (0,0))) := ⟨by (with_reducible repeat (first | refine y12 ?_ _ | refine y11 ?_ | refine y8 ?_ _)); refine y16 (cs := #[.int .i64 t384,.int .i64 t385,.slice none 0 0]) ?_ 2 _ rfl; (with_reducible repeat (first | refine y12 ?_ _ | refine y11 ?_ | refine y8 ?_ _)); refine y16 (cs := #[.int .i64 t384,.int .i64 0,.slice none 0 0]) ?_ 1 _ rfl; (with_reducible repeat (first | refine y12 ?_ _ | refine y11 ?_ | refine y8 ?_ _)); refine y16 (cs := #[.int .i64 0,.int .i64 0,.slice none 0 0]) ?_ 0 _ rfl; (with_reducible repeat (first | refine y12 ?_ _ | refine y11 ?_ | refine y8 ?_ _)); exact BK391.out⟩
 have n4_ : y0 (y1 w (((w9.setCell ⟨gb391,0,none⟩ (.int .i64 t384)).setCell ⟨gb391,1,none⟩ (.int .i64 t385)).setCell ⟨gb391,2,none⟩ (.slice Ao14 t386.length co14)) g383 t380 t389 t390) := ⟨by repeat (first | (with_reducible first | exact HI383.out | apply y1.alloc | apply y1.drewN | apply y1.drew | apply y1.set_1 | apply y1.set_2 | refine y1.far ?_ NB383_378.out _ | refine y1.far ?_ NB383_379.out _ | refine y1.far ?_ NB383_391.out _) | exact HI383.out)⟩
 have n5_ : y0 (Below w.heap.size w (((w9.setCell ⟨gb391,0,none⟩ (.int .i64 t384)).setCell ⟨gb391,1,none⟩ (.int .i64 t385)).setCell ⟨gb391,2,none⟩ (.slice Ao14 t386.length co14))) := ⟨by repeat (first | (with_reducible first | exact HB.out | apply y3 | apply y24 | apply y4 | refine y5 ?_ (y1.ge HI383.out) | refine y5 ?_ GE378.out | refine y5 ?_ GE379.out | refine y5 ?_ GE391.out) | exact HB.out)⟩
 (try clear HO388)
 (try clear BK378)
 (try clear BK379)
 (try clear BK391)
 (try clear HI383)
 (try clear HB)
 generalize (((w9.setCell ⟨gb391,0,none⟩ (.int .i64 t384)).setCell ⟨gb391,1,none⟩ (.int .i64 t385)).setCell ⟨gb391,2,none⟩ (.slice Ao14 t386.length co14)) = w15 at n0_ n1_ n2_ n3_ n4_ n5_ ⊢
 have HO388 := n0_
 have BK378 := n1_
 have BK379 := n2_
 have BK391 := n3_
 have HI383 := n4_
 have HB := n5_
 clear n0_ n1_ n2_ n3_ n4_ n5_
 replace HO388 := y0.mk (Kd.R_drew HO388.out)
 replace BK378 := y0.mk (y11 BK378.out)
 replace BK379 := y0.mk (y11 BK379.out)
 replace BK391 := y0.mk (y11 BK391.out)
 replace HI383 := y0.mk (y1.drew HI383.out)
 replace HB := y0.mk (y4 HB.out)
 refine start_ (n := 5) (S := fun w' => w'.cell? ⟨gb391,0,none⟩ = some (.int .i64 t384) ∧ w'.cell? ⟨gb391,1,none⟩ = some (.int .i64 t385) ∧ w'.cell? ⟨gb391,2,none⟩ = some (.slice Ao14 t386.length co14)) (ds := []) #[false,false,false,false,false] (by kernel_rfl) rfl rfl ⟨(y10 BK391.out 0).trans rfl,(y10 BK391.out 1).trans rfl,(y10 BK391.out 2).trans rfl⟩ (fun hHeld => ?_)
 generalize w15.drew = w16 at HO388 BK378 BK379 BK391 HI383 HB hHeld ⊢
 refine pure_ (i := 1) (N := some 11) (v := ?_) (a' := ?_) #[false,true,false,false,false] rfl rfl (by kernel_rfl) (fun _ _ _ h => h) (Or.inl ⟨by rfl, ?_⟩) ?_ ?_
 rotate_left
 ·intro w'
  go_simp
  with_reducible rfl
 rotate_left
 ·simp only [Act.put,qS_,qZ_,qC_,i64_w,i32_w]
  rfl
 refine take_ (i := 0) (N := some 10) (v := ?_) (a' := ?_) #[true,true,false,false,false] rfl rfl (by kernel_rfl) (fun _ _ _ h => h) (Or.inl ⟨by rfl, ?_⟩) hHeld ?_ ?_
 rotate_left
 ·rintro w' ⟨s0,s1,s2⟩
  go_simp
  with_reducible rfl
 rotate_left
 ·simp only [Act.put,qS_,qZ_,qC_,i64_w,i32_w]
  rfl
 refine one_ (i := 2) (N := some 12) #[true,true,true,false,false] rfl rfl (by kernel_rfl) (by decide) (fun K hK => ?_)
 refine goes_ Try.func37 (by kernel_rfl) rfl #[.pointer (some ⟨g383,0,none⟩)] (by rfl) rfl rfl qy0 ?_
 with_reducible refine (z1_.calls k g383 t380 t389 t390 t392 t393 t394 t397 t398 w _ (by repeat (first | (with_reducible first | exact HI383.out | apply y1.alloc | apply y1.drewN | apply y1.drew | apply y1.set_1 | apply y1.set_2 | refine y1.far ?_ NB383_378.out _ | refine y1.far ?_ NB383_379.out _ | refine y1.far ?_ NB383_391.out _) | exact HI383.out)) (by repeat (first | (with_reducible first | exact HB.out | apply y3 | apply y24 | apply y4 | refine y5 ?_ (y1.ge HI383.out) | refine y5 ?_ GE378.out | refine y5 ?_ GE379.out | refine y5 ?_ GE391.out) | exact HB.out)) A4.out).mono ?_
 rintro e w17 ⟨v395,rfl,ho0,hi,hb,hk⟩
 refine ⟨_,rfl, ?_⟩
 replace BK378 := y0.mk (y2.blk hk (g' := gb378) (o := .cells #[.int .i64 0,.int .i64 0,.slice none 0 0] 28 (0,0)) (qk BK378.out) NB378_383.out (by simp))
 replace BK379 := y0.mk (y2.blk hk (g' := gb379) (o := .cells #[.int .i64 0,.int .i64 0,.slice none 0 0] 28 (0,0)) (qk BK379.out) NB379_383.out (by simp))
 replace BK391 := y0.mk (y2.blk hk (g' := gb391) (o := .cells #[.int .i64 t384,.int .i64 t385,.slice Ao14 t386.length co14] 28 (0,0)) (qk BK391.out) NB391_383.out (by simp))
 have HO396 := y0.mk (Kd.R_lower (Kd.R_new' ho0 (Kd.R_lt (qR HO388.out))) (y6 (by repeat (first | (with_reducible first | exact HB.out | apply y3 | apply y24 | apply y4 | refine y5 ?_ (y1.ge HI383.out) | refine y5 ?_ GE378.out | refine y5 ?_ GE379.out | refine y5 ?_ GE391.out) | exact HB.out))))
 replace HO388 := y0.mk (Kd.R_mono (Kd.R_told (Kd.R_oldK (y1.apart (show y1 w _ g383 t380 t389 t390 from by repeat (first | (with_reducible first | exact HI383.out | apply y1.alloc | apply y1.drewN | apply y1.drew | apply y1.set_1 | apply y1.set_2 | refine y1.far ?_ NB383_378.out _ | refine y1.far ?_ NB383_379.out _ | refine y1.far ?_ NB383_391.out _) | exact HI383.out)) (qR HO388.out) (by decide)) hk) (Kd.R_base ho0)) (fun _ h_ => h_.1))
 replace HB := y0.mk (hb)
 replace HI383 := y0.mk (hi)
 (try clear hb)
 (try clear hb2)
 (try clear hk)
 (try clear hi)
 (try clear ho0)
 obtain ⟨Ao23,co23,eo23⟩ := Kd.R_slice HO396.out
 (first | subst eo23 | (injection eo23 with f1_ f2_ f3_; have f4_ := f1_.symm; have f5_ := f3_.symm; clear f1_ f2_ f3_; subst f4_; subst f5_))
 refine hK.out _ _ ⟨(y10 BK391.out 0).trans rfl,(y10 BK391.out 1).trans rfl,(y10 BK391.out 2).trans rfl⟩ (fun hHeld => ?_)
 clear hK K
 refine norm_ (a' := ?_) ?_ ?_
 rotate_left
 ·show Act.put _ (some 12) _ = _
  simp only [Act.put,qS_,qZ_,qC_,i64_w,i32_w]
  rfl
 refine one_ (i := 3) (N := none) #[true,true,true,true,false] rfl rfl (by kernel_rfl) (by decide) (fun K hK => ?_)
 have hs18 : w17.cell? ⟨gb378,0,none⟩ = some (.int .i64 0) := (y10 BK378.out 0).trans rfl
 have hfs18 := y15 BK378.out 0
 have hns18_1 := NB379_378.out
 have hns18_2 := NB391_378.out
 have hms18_1 := NB378_379.out
 have hms18_2 := NB378_391.out
 have hs19 : w17.cell? ⟨gb378,1,none⟩ = some (.int .i64 0) := (y10 BK378.out 1).trans rfl
 have hfs19 := y15 BK378.out 1
 have hns19_1 := NB379_378.out
 have hns19_2 := NB391_378.out
 have hms19_1 := NB378_379.out
 have hms19_2 := NB378_391.out
 have hs20 : w17.cell? ⟨gb378,2,none⟩ = some (.slice none 0 0) := (y10 BK378.out 2).trans rfl
 have hfs20 := y15 BK378.out 2
 have hns20_1 := NB379_378.out
 have hns20_2 := NB391_378.out
 have hms20_1 := NB378_379.out
 have hms20_2 := NB378_391.out
 refine skip_ (w1 := ?_) (by rfl) rfl ?_ ?_
 rotate_left
 ·go_simp
  rfl
 refine hK.out _ _ ⟨((cell_far (p := ⟨gb378,_,none⟩) NB391_378.out _).trans (((cell_far (p := ⟨gb378,_,none⟩) NB391_378.out _).trans (((cell_far (p := ⟨gb378,_,none⟩) NB391_378.out _).trans (hHeld.1)))))),((cell_far (p := ⟨gb378,_,none⟩) NB391_378.out _).trans (((cell_far (p := ⟨gb378,_,none⟩) NB391_378.out _).trans (((cell_far (p := ⟨gb378,_,none⟩) NB391_378.out _).trans (hHeld.2.1)))))),((cell_far (p := ⟨gb378,_,none⟩) NB391_378.out _).trans (((cell_far (p := ⟨gb378,_,none⟩) NB391_378.out _).trans (((cell_far (p := ⟨gb378,_,none⟩) NB391_378.out _).trans (hHeld.2.2))))))⟩ (fun hHeld => ?_)
 clear hK K
 refine one_ (i := 4) (N := none) #[true,true,true,true,true] rfl rfl (by kernel_rfl) (by decide) (fun K hK => ?_)
 have hs21 : w17.cell? ⟨gb379,0,none⟩ = some (.int .i64 0) := (y10 BK379.out 0).trans rfl
 have hfs21 := y15 BK379.out 0
 have hns21_0 := NB378_379.out
 have hns21_2 := NB391_379.out
 have hms21_0 := NB379_378.out
 have hms21_2 := NB379_391.out
 have hs22 : w17.cell? ⟨gb379,1,none⟩ = some (.int .i64 0) := (y10 BK379.out 1).trans rfl
 have hfs22 := y15 BK379.out 1
 have hns22_0 := NB378_379.out
 have hns22_2 := NB391_379.out
 have hms22_0 := NB379_378.out
 have hms22_2 := NB379_391.out
 have hs24 : w17.cell? ⟨gb379,2,none⟩ = some (.slice none 0 0) := (y10 BK379.out 2).trans rfl
 have hfs24 := y15 BK379.out 2
 have hns24_0 := NB378_379.out
 have hns24_2 := NB391_379.out
 have hms24_0 := NB379_378.out
 have hms24_2 := NB379_391.out
 refine skip_ (w1 := ?_) (by rfl) rfl ?_ ?_
 rotate_left
 ·go_simp
  rfl
 refine hK.out _ _ ⟨((cell_far (p := ⟨gb379,_,none⟩) NB391_379.out _).trans (((cell_far (p := ⟨gb379,_,none⟩) NB391_379.out _).trans (((cell_far (p := ⟨gb379,_,none⟩) NB391_379.out _).trans (hHeld.1)))))),((cell_far (p := ⟨gb379,_,none⟩) NB391_379.out _).trans (((cell_far (p := ⟨gb379,_,none⟩) NB391_379.out _).trans (((cell_far (p := ⟨gb379,_,none⟩) NB391_379.out _).trans (hHeld.2.1)))))),((cell_far (p := ⟨gb379,_,none⟩) NB391_379.out _).trans (((cell_far (p := ⟨gb379,_,none⟩) NB391_379.out _).trans (((cell_far (p := ⟨gb379,_,none⟩) NB391_379.out _).trans (hHeld.2.2))))))⟩ (fun hHeld => ?_)
 clear hK K
 refine done_ (by kernel_rfl) ?_
 try go_wp2
 refine bodyPost_ret (results_cc rfl _ _ gb378 gb379 28 28 #[.int .i64 t384,.int .i64 t385,.slice Ao14 t386.length co14] #[.int .i64 t392,.int .i64 t393,.slice Ao23 t394.length co23] (0,0) (0,0) _ _ rfl (by (with_reducible repeat (first | refine y12 ?_ _ | refine y11 ?_ | refine y8 ?_ _)); refine y13 ?_ NB378_379.out _; (with_reducible repeat (first | refine y12 ?_ _ | refine y11 ?_ | refine y8 ?_ _)); refine y13 ?_ NB378_379.out _; (with_reducible repeat (first | refine y12 ?_ _ | refine y11 ?_ | refine y8 ?_ _)); refine y13 ?_ NB378_379.out _; (with_reducible repeat (first | refine y12 ?_ _ | refine y11 ?_ | refine y8 ?_ _)); refine y16 (cs := #[.int .i64 t384,.int .i64 t385,.slice none 0 0]) ?_ 2 _ rfl; (with_reducible repeat (first | refine y12 ?_ _ | refine y11 ?_ | refine y8 ?_ _)); refine y16 (cs := #[.int .i64 t384,.int .i64 0,.slice none 0 0]) ?_ 1 _ rfl; (with_reducible repeat (first | refine y12 ?_ _ | refine y11 ?_ | refine y8 ?_ _)); refine y16 (cs := #[.int .i64 0,.int .i64 0,.slice none 0 0]) ?_ 0 _ rfl; (with_reducible repeat (first | refine y12 ?_ _ | refine y11 ?_ | refine y8 ?_ _)); exact BK378.out) Try.underlying28 rfl (by kernel_rfl) rfl (by (with_reducible repeat (first | refine y12 ?_ _ | refine y11 ?_ | refine y8 ?_ _)); refine y16 (cs := #[.int .i64 t392,.int .i64 t393,.slice none 0 0]) ?_ 2 _ rfl; (with_reducible repeat (first | refine y12 ?_ _ | refine y11 ?_ | refine y8 ?_ _)); refine y16 (cs := #[.int .i64 t392,.int .i64 0,.slice none 0 0]) ?_ 1 _ rfl; (with_reducible repeat (first | refine y12 ?_ _ | refine y11 ?_ | refine y8 ?_ _)); refine y16 (cs := #[.int .i64 0,.int .i64 0,.slice none 0 0]) ?_ 0 _ rfl; (with_reducible repeat (first | refine y12 ?_ _ | refine y11 ?_ | refine y8 ?_ _)); refine y13 ?_ NB379_378.out _; (with_reducible repeat (first | refine y12 ?_ _ | refine y11 ?_ | refine y8 ?_ _)); refine y13 ?_ NB379_378.out _; (with_reducible repeat (first | refine y12 ?_ _ | refine y11 ?_ | refine y8 ?_ _)); refine y13 ?_ NB379_378.out _; (with_reducible repeat (first | refine y12 ?_ _ | refine y11 ?_ | refine y8 ?_ _)); exact BK379.out) Try.underlying28 rfl (by kernel_rfl)) rfl ?_
 exact ⟨_,_,by first | rfl | (simp [y17,y18] <;> rfl) | (simp [*,y17,y18] <;> rfl),by (with_reducible repeat (first | apply Kd.R_alloc | apply Kd.R_drewN | apply Kd.R_drew)); exact Kd.R_mono (Kd.R_far (p := ⟨gb379,2,none⟩) (Kd.R_far (p := ⟨gb379,1,none⟩) (Kd.R_far (p := ⟨gb379,0,none⟩) (Kd.R_far (p := ⟨gb378,2,none⟩) (Kd.R_far (p := ⟨gb378,1,none⟩) (Kd.R_far (p := ⟨gb378,0,none⟩) (Kd.R_types (Kd.R_types HO388.out BK378.out (by decide)) BK379.out (by decide)) (fun _ hk => hk.1.2) (.int .i64 t384)) (fun _ hk => hk.1.2) (.int .i64 t385)) (fun _ hk => hk.1.2) (.slice Ao14 t386.length co14)) (fun _ hk => hk.2) (.int .i64 t392)) (fun _ hk => hk.2) (.int .i64 t393)) (fun _ hk => hk.2) (.slice Ao23 t394.length co23)) (fun _ hk => hk.1.1.2),by (with_reducible repeat (first | apply Kd.R_alloc | apply Kd.R_drewN | apply Kd.R_drew)); exact Kd.R_mono (Kd.R_far (p := ⟨gb379,2,none⟩) (Kd.R_far (p := ⟨gb379,1,none⟩) (Kd.R_far (p := ⟨gb379,0,none⟩) (Kd.R_far (p := ⟨gb378,2,none⟩) (Kd.R_far (p := ⟨gb378,1,none⟩) (Kd.R_far (p := ⟨gb378,0,none⟩) (Kd.R_types (Kd.R_types HO396.out BK378.out (by decide)) BK379.out (by decide)) (fun _ hk => hk.1.2) (.int .i64 t384)) (fun _ hk => hk.1.2) (.int .i64 t385)) (fun _ hk => hk.1.2) (.slice Ao14 t386.length co14)) (fun _ hk => hk.2) (.int .i64 t392)) (fun _ hk => hk.2) (.int .i64 t393)) (fun _ hk => hk.2) (.slice Ao23 t394.length co23)) (fun _ hk => hk.1.1.2),by repeat (first | (with_reducible first | exact HB.out | apply y3 | apply y24 | apply y4 | refine y5 ?_ (y1.ge HI383.out) | refine y5 ?_ GE378.out | refine y5 ?_ GE379.out | refine y5 ?_ GE391.out) | exact HB.out)⟩
mutual
def laws_sameGraph.j0 : Nat → Bool → Int → Int → List (S53) → Int → Int → List (S53) → Option (Bool)
 | 0,_,_,_,_,_,_,_ => none
 | k + 1,x26,x400000,x400001,x400002,x401000,x401001,x401002 => if x26 = true then (some false) else (laws_sameGraph.l0 k 0 x400000 x400001 x400002 x401000 x401001 x401002)
def laws_sameGraph.l0 : Nat → Int → Int → Int → List (S53) → Int → Int → List (S53) → Option (Bool)
 | 0,_,_,_,_,_,_,_ => none
 | k + 1,x5,x400000,x400001,x400002,x401000,x401001,x401002 => if x5 < (x400002.length : Int) then (if 0 ≤ x5 then (if x5 < (x401002.length : Int) then (if (!(((y25 x400002 x5).f0) == ((y25 x401002 x5).f0)) || (!(((y25 x400002 x5).f1) == ((y25 x401002 x5).f1)) || (!(((y25 x400002 x5).f2) == ((y25 x401002 x5).f2))))) = true then (some false) else (laws_sameGraph.l0 k (wrap64 (x5 + 1)) x400000 x400001 x400002 x401000 x401001 x401002)) else (none)) else (none)) else (some true)
end
def laws_sameGraph.f (k : Nat) (a0_0 : Int) (a0_1 : Int) (l0_2 : List (S53)) (a1_0 : Int) (a1_1 : Int) (l1_2 : List (S53)) : Option (Bool) := if a0_0 = a1_0 then (if a0_1 = a1_1 then (laws_sameGraph.j0 k ((l0_2.length : Int) != (l1_2.length : Int)) a0_0 a0_1 l0_2 a1_0 a1_1 l1_2) else (laws_sameGraph.j0 k true a0_0 a0_1 l0_2 a1_0 a1_1 l1_2)) else (laws_sameGraph.j0 k true a0_0 a0_1 l0_2 a1_0 a1_1 l1_2)
set_option maxHeartbeats 8000000 in
set_option maxRecDepth 100000 in
theorem laws_sameGraph.calls (k : Nat) (a0_0 : Int) (a0_1 : Int) (A0_2 : Option Addr) (c0_2 : Nat) (l0_2 : List (S53)) (a1_0 : Int) (a1_1 : Int) (A1_2 : Option Addr) (c1_2 : Nat) (l1_2 : List (S53)) (r : Bool) (w : World) (hr0_2 : Kd.C k53 w A0_2 l0_2.length l0_2) (hc0_2 : l0_2.length ≤ c0_2) (hr1_2 : Kd.C k53 w A1_2 l1_2.length l1_2) (hc1_2 : l1_2.length ≤ c1_2) (h : laws_sameGraph.f k a0_0 a0_1 l0_2 a1_0 a1_1 l1_2 = some r) :
  Calls Try.prog 18 #[.agg #[.int .i64 a0_0,.int .i64 a0_1,.slice A0_2 l0_2.length c0_2],.agg #[.int .i64 a1_0,.int .i64 a1_1,.slice A1_2 l1_2.length c1_2]] w fun e w' => e = .returned (.bool r) ∧ Below w.heap.size w w' := by
 have hu28 := Try.underlying28
 have hu53 := Try.underlying53
 have HR0_2 := y0.mk hr0_2
 have HC0_2 := y0.mk hc0_2
 clear hr0_2 hc0_2
 have HR1_2 := y0.mk hr1_2
 have HC1_2 := y0.mk hc1_2
 clear hr1_2 hc1_2
 have HB := y0.mk (Below.refl w.heap.size w)
 have H : (if a0_0 = a1_0 then (if a0_1 = a1_1 then (laws_sameGraph.j0 k ((l0_2.length : Int) != (l1_2.length : Int)) a0_0 a0_1 l0_2 a1_0 a1_1 l1_2) else (laws_sameGraph.j0 k true a0_0 a0_1 l0_2 a1_0 a1_1 l1_2)) else (laws_sameGraph.j0 k true a0_0 a0_1 l0_2 a1_0 a1_1 l1_2)) = some r := h
 clear h
 have HC3 := y0.mk H
 clear H
 go_enter Try.func18,Try.ntmps18
 go_upto_region 1 with (first | ((with_reducible refine y20 (N := 2) rfl ?_); (try (refine gate_guard (by rfl) ?_; dsimp only)); refine qe 2 #[.int .i64 a0_0,.int .i64 a0_1,.slice A0_2 l0_2.length c0_2] 28 ?_; intro gb399 hg w4 hbox hb; have BK399 := y0.mk (hbox); have GW399 := y0.mk (qg (w := w) hg); have GE399 := y0.mk (qg (w := w) hg); replace HB := y0.mk (y7 qb hb); clear hb hbox hg) | ((with_reducible refine y20 (N := 3) rfl ?_); (try (refine gate_guard (by rfl) ?_; dsimp only)); refine qe 3 #[.int .i64 a1_0,.int .i64 a1_1,.slice A1_2 l1_2.length c1_2] 28 ?_; intro gb400 hg w5 hbox hb; have BK400 := y0.mk (hbox); have GW400 := y0.mk (qg (w := w) hg); have GE400 := y0.mk (qg (w := w) hg); replace HB := y0.mk (y7 qb hb); have NB399_400 := y0.mk (qn BK399.out hg); have NB400_399 := y0.mk (qm BK399.out hg); replace BK399 := y0.mk (qK BK399.out hb); clear hb hbox hg))
 repeat (go_quiet (first | ((with_reducible refine y20 (N := 2) rfl ?_); (try (refine gate_guard (by rfl) ?_; dsimp only)); refine qe 2 #[.int .i64 a0_0,.int .i64 a0_1,.slice A0_2 l0_2.length c0_2] 28 ?_; intro gb399 hg w4 hbox hb; have BK399 := y0.mk (hbox); have GW399 := y0.mk (qg (w := w) hg); have GE399 := y0.mk (qg (w := w) hg); replace HB := y0.mk (y7 qb hb); clear hb hbox hg) | ((with_reducible refine y20 (N := 3) rfl ?_); (try (refine gate_guard (by rfl) ?_; dsimp only)); refine qe 3 #[.int .i64 a1_0,.int .i64 a1_1,.slice A1_2 l1_2.length c1_2] 28 ?_; intro gb400 hg w5 hbox hb; have BK400 := y0.mk (hbox); have GW400 := y0.mk (qg (w := w) hg); have GE400 := y0.mk (qg (w := w) hg); replace HB := y0.mk (y7 qb hb); have NB399_400 := y0.mk (qn BK399.out hg); have NB400_399 := y0.mk (qm BK399.out hg); replace BK399 := y0.mk (qK BK399.out hb); clear hb hbox hg)); go_upto_region 1 with (first | ((with_reducible refine y20 (N := 2) rfl ?_); (try (refine gate_guard (by rfl) ?_; dsimp only)); refine qe 2 #[.int .i64 a0_0,.int .i64 a0_1,.slice A0_2 l0_2.length c0_2] 28 ?_; intro gb399 hg w4 hbox hb; have BK399 := y0.mk (hbox); have GW399 := y0.mk (qg (w := w) hg); have GE399 := y0.mk (qg (w := w) hg); replace HB := y0.mk (y7 qb hb); clear hb hbox hg) | ((with_reducible refine y20 (N := 3) rfl ?_); (try (refine gate_guard (by rfl) ?_; dsimp only)); refine qe 3 #[.int .i64 a1_0,.int .i64 a1_1,.slice A1_2 l1_2.length c1_2] 28 ?_; intro gb400 hg w5 hbox hb; have BK400 := y0.mk (hbox); have GW400 := y0.mk (qg (w := w) hg); have GE400 := y0.mk (qg (w := w) hg); replace HB := y0.mk (y7 qb hb); have NB399_400 := y0.mk (qn BK399.out hg); have NB400_399 := y0.mk (qm BK399.out hg); replace BK399 := y0.mk (qK BK399.out hb); clear hb hbox hg)))
 (try simp only [Act.put,qS_,qZ_,qC_])
 go_cut [26] (fun v26 wc => ∃ (kq : Nat) (x26_2 : Bool),v26 = .bool x26_2 ∧ y0 (laws_sameGraph.j0 kq x26_2 a0_0 a0_1 l0_2 a1_0 a1_1 l1_2 = some r) ∧ y0 (kq ≤ k) ∧ y0 (wc.heap[gb399]? = some (.cells #[.int .i64 a0_0,.int .i64 a0_1,(.slice A0_2 l0_2.length c0_2)] 28 (0,0))) ∧ y0 (wc.heap[gb400]? = some (.cells #[.int .i64 a1_0,.int .i64 a1_1,(.slice A1_2 l1_2.length c1_2)] 28 (0,0))) ∧ y0 (Below w.heap.size w wc))
 case first =>
  have H := HC3.out
  clear HC3
  by_cases c6 : a0_0 = a1_0
  ·rw [if_pos c6] at H
   have c6b0 : (a0_0 == a1_0) = true := beq_iff_eq.mpr c6
   have c6b1 : (a0_0 != a1_0) = false := bne_eq_false_iff_eq.mpr c6
   clear c6
   (first | rw [c6b0] | (simp only [i64_w,i32_w]; rw [c6b0]) | skip)
   by_cases c7 : a0_1 = a1_1
   ·rw [if_pos c7] at H
    have c7b0 : (a0_1 == a1_1) = true := beq_iff_eq.mpr c7
    have c7b1 : (a0_1 != a1_1) = false := bne_eq_false_iff_eq.mpr c7
    clear c7
    have H' := y0.mk H
    clear H
    have hnb8 := NB399_400.out
    have hnc8 := NB400_399.out
    obtain ⟨hcz9_0,hcz9_1,hcz9_2,hfz9_0,hfz9_1,hfz9_2⟩ := qz3 BK399.out
    obtain ⟨hcz10_0,hcz10_1,hcz10_2,hfz10_0,hfz10_1,hfz10_2⟩ := qz3 BK400.out
    go_wp2
    repeat (go_quiet (fail); try go_wp2)
    go_meet
    exact ⟨_,(((l0_2.length : Int) != (l1_2.length : Int))),qy2,H',⟨by first | omega | exact Nat.le_refl _⟩,⟨qk BK399.out⟩,⟨qk BK400.out⟩,⟨qb⟩⟩
   ·rw [if_neg c7] at H
    have c7b0 : (a0_1 == a1_1) = false := beq_eq_false_iff_ne.mpr c7
    have c7b1 : (a0_1 != a1_1) = true := bne_iff_ne.mpr c7
    have H' := y0.mk H
    clear H
    have hnb11 := NB399_400.out
    have hnc11 := NB400_399.out
    obtain ⟨hcz12_0,hcz12_1,hcz12_2,hfz12_0,hfz12_1,hfz12_2⟩ := qz3 BK399.out
    obtain ⟨hcz13_0,hcz13_1,hcz13_2,hfz13_0,hfz13_1,hfz13_2⟩ := qz3 BK400.out
    go_wp2
    repeat (go_quiet (fail); try go_wp2)
    go_meet
    exact ⟨_,(true),qy2,H',⟨by first | omega | exact Nat.le_refl _⟩,⟨qk BK399.out⟩,⟨qk BK400.out⟩,⟨qb⟩⟩
  ·rw [if_neg c6] at H
   have c6b0 : (a0_0 == a1_0) = false := beq_eq_false_iff_ne.mpr c6
   have c6b1 : (a0_0 != a1_0) = true := bne_iff_ne.mpr c6
   (first | rw [c6b0] | (simp only [i64_w,i32_w]; rw [c6b0]) | skip)
   have H' := y0.mk H
   clear H
   have hnb14 := NB399_400.out
   have hnc14 := NB400_399.out
   obtain ⟨hcz15_0,hcz15_1,hcz15_2,hfz15_0,hfz15_1,hfz15_2⟩ := qz3 BK399.out
   obtain ⟨hcz16_0,hcz16_1,hcz16_2,hfz16_0,hfz16_1,hfz16_2⟩ := qz3 BK400.out
   go_wp2
   repeat (go_quiet (fail); try go_wp2)
   go_meet
   exact ⟨_,(true),qy2,H',⟨by first | omega | exact Nat.le_refl _⟩,⟨qk BK399.out⟩,⟨qk BK400.out⟩,⟨qb⟩⟩
 case rest =>
  clear HC3
  obtain ⟨kq,x26_2,rfl,HA,HJ2,BK399,BK400,HB⟩ := hcut
  cases kq with
  | zero => exact absurd HA.out (by simp [laws_sameGraph.j0])
  | succ kj2 =>
   have H := HA.out
   clear HA
   simp only [laws_sameGraph.j0] at H
   by_cases c17 : x26_2 = true
   ·subst c17
    replace H := qT H
    obtain rfl := Option.some.inj H
    go_wp2
    repeat (go_quiet (fail); try go_wp2)
    go_ret
    exact ⟨by first | rfl | (simp [y17,y18] <;> rfl) | (simp [*,y17,y18] <;> rfl),qb⟩
   ·replace c17 := Bool.eq_false_iff.mpr c17
    subst c17
    replace H := qF H
    have H' := y0.mk H
    clear H
    go_wp2
    repeat (go_quiet (fail); try go_wp2)
    go_loopg [5] kj2 (fun kq v5 w' => ∃ (x5_2 : Int),v5 = .int .i64 x5_2 ∧ y0 (laws_sameGraph.l0 kq x5_2 a0_0 a0_1 l0_2 a1_0 a1_1 l1_2 = some r) ∧ y0 (kq ≤ kj2) ∧ y0 (w'.heap[gb399]? = some (.cells #[.int .i64 a0_0,.int .i64 a0_1,(.slice A0_2 l0_2.length c0_2)] 28 (0,0))) ∧ y0 (w'.heap[gb400]? = some (.cells #[.int .i64 a1_0,.int .i64 a1_1,(.slice A1_2 l1_2.length c1_2)] 28 (0,0))) ∧ y0 (Below w.heap.size w w'))
    case atStart => exact ⟨(0),qy2,H',⟨Nat.le_refl _⟩,⟨qk BK399.out⟩,⟨qk BK400.out⟩,⟨qb⟩⟩
    case round =>
     clear H'
     (try clear c17)
     obtain ⟨x5_2,rfl,HA,HK2,BK399,BK400,HB⟩ := hrel
     cases gk with
     | zero => exact absurd HA.out (by simp [laws_sameGraph.l0])
     | succ k2 =>
      have H := HA.out
      clear HA
      simp only [laws_sameGraph.l0] at H
      by_cases c18 : x5_2 < (l0_2.length : Int)
      ·rw [if_pos c18] at H
       have c18b0 := decide_eq_true c18
       clear c18
       obtain ⟨c19,H⟩ := qo H
       have c19b0 : decide (0 ≤ x5_2) = true := decide_eq_true c19
       clear c19
       obtain ⟨c20,H⟩ := qo H
       have c20b0 : decide (x5_2 < (l1_2.length : Int)) = true := decide_eq_true c20
       clear c20
       by_cases c21 : (!(((y25 l0_2 x5_2).f0) == ((y25 l1_2 x5_2).f0)) || (!(((y25 l0_2 x5_2).f1) == ((y25 l1_2 x5_2).f1)) || (!(((y25 l0_2 x5_2).f2) == ((y25 l1_2 x5_2).f2))))) = true
       ·rw [if_pos c21] at H
        have c21b0 : (!(((y25 l0_2 x5_2).f0) == ((y25 l1_2 x5_2).f0)) || (!(((y25 l0_2 x5_2).f1) == ((y25 l1_2 x5_2).f1)) || (!(((y25 l0_2 x5_2).f2) == ((y25 l1_2 x5_2).f2))))) = true := c21
        clear c21
        obtain rfl := Option.some.inj H
        have hnb22 := NB399_400.out
        have hnc22 := NB400_399.out
        obtain ⟨hcz23_0,hcz23_1,hcz23_2,hfz23_0,hfz23_1,hfz23_2⟩ := qz3 BK399.out
        have p401 : 0 ≤ (x5_2 : Int) := of_decide_eq_true qy1
        have q401 : x5_2 < (l0_2.length : Int) := of_decide_eq_true qy1
        obtain ⟨ad401,e401,hx401_0,hx401_1,hx401_2⟩ := at_T53 HR0_2.out x5_2 p401 q401
        cases e401
        replace hx401_0 := (HB.out.cell (World.block_lt_of_cell? w _ hx401_0)).trans hx401_0
        replace hx401_1 := (HB.out.cell (World.block_lt_of_cell? w _ hx401_1)).trans hx401_1
        replace hx401_2 := (HB.out.cell (World.block_lt_of_cell? w _ hx401_2)).trans hx401_2
        replace p401 := eq_true p401
        replace q401 := eq_true q401
        obtain ⟨hcz24_0,hcz24_1,hcz24_2,hfz24_0,hfz24_1,hfz24_2⟩ := qz3 BK400.out
        have p402 : 0 ≤ (x5_2 : Int) := of_decide_eq_true qy1
        have q402 : x5_2 < (l1_2.length : Int) := of_decide_eq_true qy1
        obtain ⟨ad402,e402,hx402_0,hx402_1,hx402_2⟩ := at_T53 HR1_2.out x5_2 p402 q402
        cases e402
        replace hx402_0 := (HB.out.cell (World.block_lt_of_cell? w _ hx402_0)).trans hx402_0
        replace hx402_1 := (HB.out.cell (World.block_lt_of_cell? w _ hx402_1)).trans hx402_1
        replace hx402_2 := (HB.out.cell (World.block_lt_of_cell? w _ hx402_2)).trans hx402_2
        replace p402 := eq_true p402
        replace q402 := eq_true q402
        go_wp2
        repeat (go_quiet (fail); try go_wp2)
        go_ret
        exact ⟨by first | rfl | (simp [y17,y18] <;> rfl) | (simp [*,y17,y18] <;> rfl),qb⟩
       ·rw [if_neg c21] at H
        have c21b0 : (!(((y25 l0_2 x5_2).f0) == ((y25 l1_2 x5_2).f0)) || (!(((y25 l0_2 x5_2).f1) == ((y25 l1_2 x5_2).f1)) || (!(((y25 l0_2 x5_2).f2) == ((y25 l1_2 x5_2).f2))))) = false := by simpa using c21
        clear c21
        have H' := y0.mk H
        clear H
        have hnb25 := NB399_400.out
        have hnc25 := NB400_399.out
        obtain ⟨hcz26_0,hcz26_1,hcz26_2,hfz26_0,hfz26_1,hfz26_2⟩ := qz3 BK399.out
        have p401 : 0 ≤ (x5_2 : Int) := of_decide_eq_true qy1
        have q401 : x5_2 < (l0_2.length : Int) := of_decide_eq_true qy1
        obtain ⟨ad401,e401,hx401_0,hx401_1,hx401_2⟩ := at_T53 HR0_2.out x5_2 p401 q401
        cases e401
        replace hx401_0 := (HB.out.cell (World.block_lt_of_cell? w _ hx401_0)).trans hx401_0
        replace hx401_1 := (HB.out.cell (World.block_lt_of_cell? w _ hx401_1)).trans hx401_1
        replace hx401_2 := (HB.out.cell (World.block_lt_of_cell? w _ hx401_2)).trans hx401_2
        replace p401 := eq_true p401
        replace q401 := eq_true q401
        obtain ⟨hcz27_0,hcz27_1,hcz27_2,hfz27_0,hfz27_1,hfz27_2⟩ := qz3 BK400.out
        have p402 : 0 ≤ (x5_2 : Int) := of_decide_eq_true qy1
        have q402 : x5_2 < (l1_2.length : Int) := of_decide_eq_true qy1
        obtain ⟨ad402,e402,hx402_0,hx402_1,hx402_2⟩ := at_T53 HR1_2.out x5_2 p402 q402
        cases e402
        replace hx402_0 := (HB.out.cell (World.block_lt_of_cell? w _ hx402_0)).trans hx402_0
        replace hx402_1 := (HB.out.cell (World.block_lt_of_cell? w _ hx402_1)).trans hx402_1
        replace hx402_2 := (HB.out.cell (World.block_lt_of_cell? w _ hx402_2)).trans hx402_2
        replace p402 := eq_true p402
        replace q402 := eq_true q402
        go_wp2
        repeat (go_quiet (fail); try go_wp2)
        go_roundg k2
        case measure => have := HJ2.out; have := HK2.out; omega
        exact ⟨(wrap64 (x5_2 + 1)),qy2,H',⟨by have := HJ2.out; have := HK2.out; omega⟩,⟨qk BK399.out⟩,⟨qk BK400.out⟩,⟨qb⟩⟩
      ·rw [if_neg c18] at H
       have c18b0 := decide_eq_false c18
       clear c18
       obtain rfl := Option.some.inj H
       have hnb28 := NB399_400.out
       have hnc28 := NB400_399.out
       obtain ⟨hcz29_0,hcz29_1,hcz29_2,hfz29_0,hfz29_1,hfz29_2⟩ := qz3 BK399.out
       go_wp2
       repeat (go_quiet (fail); try go_wp2)
       go_ret
       exact ⟨by first | rfl | (simp [y17,y18] <;> rfl) | (simp [*,y17,y18] <;> rfl),qb⟩
end Go.Proofs.Ytcckpjflbfofjaa.Pd
end
