-- Cut by prune.py, a program of this session, out of the texts of this claim: Lean checks it.
import Derived.Test.YtcckpjflbfofjaaVceQComp
import Derived.Test.YtcckpjflbfofjaaVcePdx0
import Derived.Test.YtcckpjflbfofjaaVcePdx4
import Derived.Test.YtcckpjflbfofjaaVcePdx8
section
namespace Go.Proofs.Ytcckpjflbfofjaa.Pd
open Go.RowKit Go.Proofs.YtcckpjflbfofjaaW.PrintWords Go.Proofs.YtcckpjflbfofjaaW.PrintLast Go.Proofs.YtcckpjflbfofjaaW.PrintMore
attribute [local go_sem] max2_int min2_int max_two min_two max_three min_three max_four min_four   -- for this text's walks alone
set_option linter.unusedVariables false
set_option linter.unusedSimpArgs false
def impl_Compose.f (k : Nat) (a0_0 : Int) (a0_1 : Int) (l0_2 : List (S53)) (a1_0 : Int) (a1_1 : Int) (l1_2 : List (S53)) : Option (Int × Int × (List (S53)) × Bool) := (impl_isGraph.f k a0_0 a0_1 l0_2).bind fun t229 => (if t229 = true then ((impl_isGraph.f k a1_0 a1_1 l1_2).bind fun t230 => (if t230 = true then (if a1_0 = a0_1 then ((impl_compose.f a0_0 a0_1 l0_2 a1_0 a1_1 l1_2).bind fun bt231 => (some (bt231.1,bt231.2.1,bt231.2.2,true))) else (some (0,0,([] : List (S53)),false))) else (some (0,0,([] : List (S53)),false)))) else (some (0,0,([] : List (S53)),false)))
set_option maxHeartbeats 8000000 in
set_option maxRecDepth 100000 in
theorem impl_Compose.calls (k : Nat) (a0_0 : Int) (a0_1 : Int) (A0_2 : Option Addr) (c0_2 : Nat) (l0_2 : List (S53)) (a1_0 : Int) (a1_1 : Int) (A1_2 : Option Addr) (c1_2 : Nat) (l1_2 : List (S53)) (r1 : Int) (r2 : Int) (r3 : List (S53)) (r4 : Bool) (w : World) (hr0_2 : Kd.C k53 w A0_2 l0_2.length l0_2) (hc0_2 : l0_2.length ≤ c0_2) (hr1_2 : Kd.C k53 w A1_2 l1_2.length l1_2) (hc1_2 : l1_2.length ≤ c1_2) (h : impl_Compose.f k a0_0 a0_1 l0_2 a1_0 a1_1 l1_2 = some (r1,r2,r3,r4)) :
  Calls Try.prog 10 #[.agg #[.int .i64 a0_0,.int .i64 a0_1,.slice A0_2 l0_2.length c0_2],.agg #[.int .i64 a1_0,.int .i64 a1_1,.slice A1_2 l1_2.length c1_2]] w fun e w' => ∃ v2_ : Value,e = .returned (.tuple #[.agg #[.int .i64 r1,.int .i64 r2,v2_],.bool r4]) ∧ Kd.R k53 53 w' w.heap.size (fun _ => True) v2_ r3 ∧ Below w.heap.size w w' := by
 have hu28 := Try.underlying28
 have HR0_2 := y0.mk hr0_2
 have HC0_2 := y0.mk hc0_2
 clear hr0_2 hc0_2
 have HR1_2 := y0.mk hr1_2
 have HC1_2 := y0.mk hc1_2
 clear hr1_2 hc1_2
 have HB := y0.mk (Below.refl w.heap.size w)
 have H : ((impl_isGraph.f k a0_0 a0_1 l0_2).bind fun t229 => (if t229 = true then ((impl_isGraph.f k a1_0 a1_1 l1_2).bind fun t230 => (if t230 = true then (if a1_0 = a0_1 then ((impl_compose.f a0_0 a0_1 l0_2 a1_0 a1_1 l1_2).bind fun bt231 => (some (bt231.1,bt231.2.1,bt231.2.2,true))) else (some (0,0,([] : List (S53)),false))) else (some (0,0,([] : List (S53)),false)))) else (some (0,0,([] : List (S53)),false)))) = some (r1,r2,r3,r4) := h
 clear h
 obtain ⟨t229,A3,H⟩ := qB H
 by_cases c4 : t229 = true
 ·subst c4
  replace H := qT H
  obtain ⟨t230,A5,H⟩ := qB H
  by_cases c6 : t230 = true
  ·subst c6
   replace H := qT H
   by_cases c7 : a1_0 = a0_1
   ·rw [if_pos c7] at H
    have c7b0 : (a1_0 == a0_1) = true := beq_iff_eq.mpr c7
    have c7b1 : (a1_0 != a0_1) = false := bne_eq_false_iff_eq.mpr c7
    clear c7
    obtain ⟨⟨t231,t232,t233⟩,A8,H⟩ := qB H
    replace H : (some (t231,t232,t233,true)) = some (r1,r2,r3,r4) := H
    simp only [Option.some.injEq,Prod.mk.injEq] at H
    obtain ⟨rfl,rfl,rfl,rfl⟩ := H
    go_enter Try.func10,Try.ntmps10
    go_wp2_with (first | ((with_reducible refine y18 (N := 2) rfl ?_); refine qe 2 #[.int .i64 a0_0,.int .i64 a0_1,.slice A0_2 l0_2.length c0_2] 28 ?_; intro gb226 hg w9 hbox hb; have BK226 := y0.mk (hbox); have GW226 := y0.mk (qg (w := w) hg); have GE226 := y0.mk (qg (w := w) hg); replace HB := y0.mk (y5 qb hb); clear hb hbox hg) | ((with_reducible refine y18 (N := 3) rfl ?_); refine qe 3 #[.int .i64 a1_0,.int .i64 a1_1,.slice A1_2 l1_2.length c1_2] 28 ?_; intro gb227 hg w10 hbox hb; have BK227 := y0.mk (hbox); have GW227 := y0.mk (qg (w := w) hg); have GE227 := y0.mk (qg (w := w) hg); replace HB := y0.mk (y5 qb hb); have NB226_227 := y0.mk (qn BK226.out hg); have NB227_226 := y0.mk (qm BK226.out hg); replace BK226 := y0.mk (qK BK226.out hb); clear hb hbox hg) | ((with_reducible refine y18 (N := 4) rfl ?_); refine qe 4 #[.int .i64 0,.int .i64 0,.slice none 0 0] 28 ?_; intro gb228 hg w11 hbox hb; have BK228 := y0.mk (hbox); have GW228 := y0.mk (qg (w := w) hg); have GE228 := y0.mk (qg (w := w) hg); replace HB := y0.mk (y5 qb hb); have NB226_228 := y0.mk (qn BK226.out hg); have NB228_226 := y0.mk (qm BK226.out hg); replace BK226 := y0.mk (qK BK226.out hb); have NB227_228 := y0.mk (qn BK227.out hg); have NB228_227 := y0.mk (qm BK227.out hg); replace BK227 := y0.mk (qK BK227.out hb); clear hb hbox hg; have hnb12 := NB226_227.out; have hnc12 := NB227_226.out; have hnb13 := NB226_228.out; have hnc13 := NB228_226.out; obtain ⟨hcz14_0,hcz14_1,hcz14_2,hfz14_0,hfz14_1,hfz14_2⟩ := qz3 BK226.out) | ((with_reducible refine y17 (f := 29) rfl ?_); refine goesL_ (some 7) rfl rfl Try.func29 (by kernel_rfl) rfl #[.agg #[.int .i64 a0_0,.int .i64 a0_1,.slice A0_2 l0_2.length c0_2]] rfl qy0 ?_; (with_reducible refine (impl_isGraph.calls k a0_0 a0_1 _ _ l0_2 true _ (qc (Kd.C_below HR0_2.out HB.out)) HC0_2.out A3.out).mono ?_); rintro e w15 ⟨rfl,hb⟩; refine ⟨_,rfl, ?_⟩; replace BK226 := y0.mk (qK BK226.out hb); replace BK227 := y0.mk (qK BK227.out hb); replace BK228 := y0.mk (qK BK228.out hb); replace HB := y0.mk (y5 qb hb); (try clear hb); (try clear hb2); (try clear hk); (try clear hi); have hnb16 := NB227_228.out; have hnc16 := NB228_227.out; obtain ⟨hcz17_0,hcz17_1,hcz17_2,hfz17_0,hfz17_1,hfz17_2⟩ := qz3 BK227.out) | (go_at_call 29; (with_reducible refine (impl_isGraph.calls k a1_0 a1_1 _ _ l1_2 true _ (qc (Kd.C_below HR1_2.out HB.out)) HC1_2.out A5.out).mono ?_); rintro e w18 ⟨rfl,hb⟩; replace BK226 := y0.mk (qK BK226.out hb); replace BK227 := y0.mk (qK BK227.out hb); replace BK228 := y0.mk (qK BK228.out hb); replace HB := y0.mk (y5 qb hb); (try clear hb); (try clear hb2); (try clear hk); (try clear hi); obtain ⟨hcz19_0,hcz19_1,hcz19_2,hfz19_0,hfz19_1,hfz19_2⟩ := qz3 BK227.out; obtain ⟨hcz20_0,hcz20_1,hcz20_2,hfz20_0,hfz20_1,hfz20_2⟩ := qz3 BK226.out) | ((with_reducible refine y17 (f := 30) rfl ?_); refine goesL_ (some 24) rfl rfl Try.func30 (by kernel_rfl) rfl #[.agg #[.int .i64 a0_0,.int .i64 a0_1,.slice A0_2 l0_2.length c0_2],.agg #[.int .i64 a1_0,.int .i64 a1_1,.slice A1_2 l1_2.length c1_2]] rfl qy0 ?_; (with_reducible refine (impl_compose.calls a0_0 a0_1 _ _ l0_2 a1_0 a1_1 _ _ l1_2 t231 t232 t233 _ (qc (Kd.C_below HR0_2.out HB.out)) HC0_2.out (qc (Kd.C_below HR1_2.out HB.out)) HC1_2.out A8.out).mono ?_); rintro e w21 ⟨v234,rfl,ho0,hb⟩; refine ⟨_,rfl, ?_⟩; have HO235 := y0.mk (Kd.R_lower ho0 (y4 qb)); replace BK226 := y0.mk (qK BK226.out hb); replace BK227 := y0.mk (qK BK227.out hb); replace BK228 := y0.mk (qK BK228.out hb); replace HB := y0.mk (y5 qb hb); (try clear hb); (try clear hb2); (try clear hk); (try clear hi); (try clear ho0); obtain ⟨hcz22_0,hcz22_1,hcz22_2,hfz22_0,hfz22_1,hfz22_2⟩ := qz3 BK228.out; obtain ⟨Ao23,co23,eo23⟩ := Kd.R_slice HO235.out; subst eo23))
    refine bodyPost_ret (results_ct rfl _ _ gb228 28 #[.int .i64 t231,.int .i64 t232,.slice Ao23 t233.length co23] (0,0) _ rfl (by (with_reducible repeat (first | refine y10 ?_ _ | refine y9 ?_ | refine y6 ?_ _)); refine y14 (cs := #[.int .i64 t231,.int .i64 t232,.slice none 0 0]) ?_ 2 _ rfl; (with_reducible repeat (first | refine y10 ?_ _ | refine y9 ?_ | refine y6 ?_ _)); refine y14 (cs := #[.int .i64 t231,.int .i64 0,.slice none 0 0]) ?_ 1 _ rfl; (with_reducible repeat (first | refine y10 ?_ _ | refine y9 ?_ | refine y6 ?_ _)); refine y14 (cs := #[.int .i64 0,.int .i64 0,.slice none 0 0]) ?_ 0 _ rfl; (with_reducible repeat (first | refine y10 ?_ _ | refine y9 ?_ | refine y6 ?_ _)); exact BK228.out) Try.underlying28 rfl (by kernel_rfl)) rfl ?_
    exact ⟨_,by first | rfl | (simp [y15,y16] <;> rfl) | (simp [*,y15,y16] <;> rfl),by (with_reducible repeat (first | apply Kd.R_alloc | apply Kd.R_drewN | apply Kd.R_drew)); exact Kd.R_mono (Kd.R_far (p := ⟨gb228,2,none⟩) (Kd.R_far (p := ⟨gb228,1,none⟩) (Kd.R_far (p := ⟨gb228,0,none⟩) (Kd.R_types HO235.out BK228.out (by decide)) (fun _ hk => hk.2) (.int .i64 t231)) (fun _ hk => hk.2) (.int .i64 t232)) (fun _ hk => hk.2) (.slice Ao23 t233.length co23)) (fun _ hk => trivial),qb⟩
   ·rw [if_neg c7] at H
    have c7b0 : (a1_0 == a0_1) = false := beq_eq_false_iff_ne.mpr c7
    have c7b1 : (a1_0 != a0_1) = true := bne_iff_ne.mpr c7
    simp only [Option.some.injEq,Prod.mk.injEq] at H
    obtain ⟨rfl,rfl,rfl,rfl⟩ := H
    go_enter Try.func10,Try.ntmps10
    go_wp2_with (first | ((with_reducible refine y18 (N := 2) rfl ?_); refine qe 2 #[.int .i64 a0_0,.int .i64 a0_1,.slice A0_2 l0_2.length c0_2] 28 ?_; intro gb226 hg w24 hbox hb; have BK226 := y0.mk (hbox); have GW226 := y0.mk (qg (w := w) hg); have GE226 := y0.mk (qg (w := w) hg); replace HB := y0.mk (y5 qb hb); clear hb hbox hg) | ((with_reducible refine y18 (N := 3) rfl ?_); refine qe 3 #[.int .i64 a1_0,.int .i64 a1_1,.slice A1_2 l1_2.length c1_2] 28 ?_; intro gb227 hg w25 hbox hb; have BK227 := y0.mk (hbox); have GW227 := y0.mk (qg (w := w) hg); have GE227 := y0.mk (qg (w := w) hg); replace HB := y0.mk (y5 qb hb); have NB226_227 := y0.mk (qn BK226.out hg); have NB227_226 := y0.mk (qm BK226.out hg); replace BK226 := y0.mk (qK BK226.out hb); clear hb hbox hg) | ((with_reducible refine y18 (N := 4) rfl ?_); refine qe 4 #[.int .i64 0,.int .i64 0,.slice none 0 0] 28 ?_; intro gb228 hg w26 hbox hb; have BK228 := y0.mk (hbox); have GW228 := y0.mk (qg (w := w) hg); have GE228 := y0.mk (qg (w := w) hg); replace HB := y0.mk (y5 qb hb); have NB226_228 := y0.mk (qn BK226.out hg); have NB228_226 := y0.mk (qm BK226.out hg); replace BK226 := y0.mk (qK BK226.out hb); have NB227_228 := y0.mk (qn BK227.out hg); have NB228_227 := y0.mk (qm BK227.out hg); replace BK227 := y0.mk (qK BK227.out hb); clear hb hbox hg; have hnb27 := NB226_227.out; have hnc27 := NB227_226.out; have hnb28 := NB226_228.out; have hnc28 := NB228_226.out; obtain ⟨hcz29_0,hcz29_1,hcz29_2,hfz29_0,hfz29_1,hfz29_2⟩ := qz3 BK226.out) | ((with_reducible refine y17 (f := 29) rfl ?_); refine goesL_ (some 7) rfl rfl Try.func29 (by kernel_rfl) rfl #[.agg #[.int .i64 a0_0,.int .i64 a0_1,.slice A0_2 l0_2.length c0_2]] rfl qy0 ?_; (with_reducible refine (impl_isGraph.calls k a0_0 a0_1 _ _ l0_2 true _ (qc (Kd.C_below HR0_2.out HB.out)) HC0_2.out A3.out).mono ?_); rintro e w30 ⟨rfl,hb⟩; refine ⟨_,rfl, ?_⟩; replace BK226 := y0.mk (qK BK226.out hb); replace BK227 := y0.mk (qK BK227.out hb); replace BK228 := y0.mk (qK BK228.out hb); replace HB := y0.mk (y5 qb hb); (try clear hb); (try clear hb2); (try clear hk); (try clear hi); have hnb31 := NB227_228.out; have hnc31 := NB228_227.out; obtain ⟨hcz32_0,hcz32_1,hcz32_2,hfz32_0,hfz32_1,hfz32_2⟩ := qz3 BK227.out) | (go_at_call 29; (with_reducible refine (impl_isGraph.calls k a1_0 a1_1 _ _ l1_2 true _ (qc (Kd.C_below HR1_2.out HB.out)) HC1_2.out A5.out).mono ?_); rintro e w33 ⟨rfl,hb⟩; replace BK226 := y0.mk (qK BK226.out hb); replace BK227 := y0.mk (qK BK227.out hb); replace BK228 := y0.mk (qK BK228.out hb); replace HB := y0.mk (y5 qb hb); (try clear hb); (try clear hb2); (try clear hk); (try clear hi); obtain ⟨hcz34_0,hcz34_1,hcz34_2,hfz34_0,hfz34_1,hfz34_2⟩ := qz3 BK227.out; obtain ⟨hcz35_0,hcz35_1,hcz35_2,hfz35_0,hfz35_1,hfz35_2⟩ := qz3 BK226.out; obtain ⟨hcz36_0,hcz36_1,hcz36_2,hfz36_0,hfz36_1,hfz36_2⟩ := qz3 BK228.out))
    refine bodyPost_ret (results_ct rfl _ _ gb228 28 #[.int .i64 0,.int .i64 0,.slice none 0 0] (0,0) _ rfl (by (with_reducible repeat (first | refine y10 ?_ _ | refine y9 ?_ | refine y6 ?_ _)); refine y14 (cs := #[.int .i64 0,.int .i64 0,.slice none 0 0]) ?_ 2 _ rfl; (with_reducible repeat (first | refine y10 ?_ _ | refine y9 ?_ | refine y6 ?_ _)); refine y14 (cs := #[.int .i64 0,.int .i64 0,.slice none 0 0]) ?_ 1 _ rfl; (with_reducible repeat (first | refine y10 ?_ _ | refine y9 ?_ | refine y6 ?_ _)); refine y14 (cs := #[.int .i64 0,.int .i64 0,.slice none 0 0]) ?_ 0 _ rfl; (with_reducible repeat (first | refine y10 ?_ _ | refine y9 ?_ | refine y6 ?_ _)); exact BK228.out) Try.underlying28 rfl (by kernel_rfl)) rfl ?_
    exact ⟨_,by first | rfl | (simp [y15,y16] <;> rfl) | (simp [*,y15,y16] <;> rfl),by first | exact Kd.R_nil _ _ _ _ _ | exact Kd.N_nil _ _ _ _ _ | exact Kd.V_nil _ _ _ _ _ | exact Kd.Q_nil _ _ _ _ _ | exact Kd.S_nil _ _ _ _ _,qb⟩
  ·replace c6 := Bool.eq_false_iff.mpr c6
   subst c6
   replace H := qF H
   simp only [Option.some.injEq,Prod.mk.injEq] at H
   obtain ⟨rfl,rfl,rfl,rfl⟩ := H
   go_enter Try.func10,Try.ntmps10
   go_wp2_with (first | ((with_reducible refine y18 (N := 2) rfl ?_); refine qe 2 #[.int .i64 a0_0,.int .i64 a0_1,.slice A0_2 l0_2.length c0_2] 28 ?_; intro gb226 hg w37 hbox hb; have BK226 := y0.mk (hbox); have GW226 := y0.mk (qg (w := w) hg); have GE226 := y0.mk (qg (w := w) hg); replace HB := y0.mk (y5 qb hb); clear hb hbox hg) | ((with_reducible refine y18 (N := 3) rfl ?_); refine qe 3 #[.int .i64 a1_0,.int .i64 a1_1,.slice A1_2 l1_2.length c1_2] 28 ?_; intro gb227 hg w38 hbox hb; have BK227 := y0.mk (hbox); have GW227 := y0.mk (qg (w := w) hg); have GE227 := y0.mk (qg (w := w) hg); replace HB := y0.mk (y5 qb hb); have NB226_227 := y0.mk (qn BK226.out hg); have NB227_226 := y0.mk (qm BK226.out hg); replace BK226 := y0.mk (qK BK226.out hb); clear hb hbox hg) | ((with_reducible refine y18 (N := 4) rfl ?_); refine qe 4 #[.int .i64 0,.int .i64 0,.slice none 0 0] 28 ?_; intro gb228 hg w39 hbox hb; have BK228 := y0.mk (hbox); have GW228 := y0.mk (qg (w := w) hg); have GE228 := y0.mk (qg (w := w) hg); replace HB := y0.mk (y5 qb hb); have NB226_228 := y0.mk (qn BK226.out hg); have NB228_226 := y0.mk (qm BK226.out hg); replace BK226 := y0.mk (qK BK226.out hb); have NB227_228 := y0.mk (qn BK227.out hg); have NB228_227 := y0.mk (qm BK227.out hg); replace BK227 := y0.mk (qK BK227.out hb); clear hb hbox hg; have hnb40 := NB226_227.out; have hnc40 := NB227_226.out; have hnb41 := NB226_228.out; have hnc41 := NB228_226.out; obtain ⟨hcz42_0,hcz42_1,hcz42_2,hfz42_0,hfz42_1,hfz42_2⟩ := qz3 BK226.out) | ((with_reducible refine y17 (f := 29) rfl ?_); refine goesL_ (some 7) rfl rfl Try.func29 (by kernel_rfl) rfl #[.agg #[.int .i64 a0_0,.int .i64 a0_1,.slice A0_2 l0_2.length c0_2]] rfl qy0 ?_; (with_reducible refine (impl_isGraph.calls k a0_0 a0_1 _ _ l0_2 true _ (qc (Kd.C_below HR0_2.out HB.out)) HC0_2.out A3.out).mono ?_); rintro e w43 ⟨rfl,hb⟩; refine ⟨_,rfl, ?_⟩; replace BK226 := y0.mk (qK BK226.out hb); replace BK227 := y0.mk (qK BK227.out hb); replace BK228 := y0.mk (qK BK228.out hb); replace HB := y0.mk (y5 qb hb); (try clear hb); (try clear hb2); (try clear hk); (try clear hi); have hnb44 := NB227_228.out; have hnc44 := NB228_227.out; obtain ⟨hcz45_0,hcz45_1,hcz45_2,hfz45_0,hfz45_1,hfz45_2⟩ := qz3 BK227.out) | (go_at_call 29; (with_reducible refine (impl_isGraph.calls k a1_0 a1_1 _ _ l1_2 false _ (qc (Kd.C_below HR1_2.out HB.out)) HC1_2.out A5.out).mono ?_); rintro e w46 ⟨rfl,hb⟩; replace BK226 := y0.mk (qK BK226.out hb); replace BK227 := y0.mk (qK BK227.out hb); replace BK228 := y0.mk (qK BK228.out hb); replace HB := y0.mk (y5 qb hb); (try clear hb); (try clear hb2); (try clear hk); (try clear hi); obtain ⟨hcz47_0,hcz47_1,hcz47_2,hfz47_0,hfz47_1,hfz47_2⟩ := qz3 BK228.out))
   refine bodyPost_ret (results_ct rfl _ _ gb228 28 #[.int .i64 0,.int .i64 0,.slice none 0 0] (0,0) _ rfl (by (with_reducible repeat (first | refine y10 ?_ _ | refine y9 ?_ | refine y6 ?_ _)); refine y14 (cs := #[.int .i64 0,.int .i64 0,.slice none 0 0]) ?_ 2 _ rfl; (with_reducible repeat (first | refine y10 ?_ _ | refine y9 ?_ | refine y6 ?_ _)); refine y14 (cs := #[.int .i64 0,.int .i64 0,.slice none 0 0]) ?_ 1 _ rfl; (with_reducible repeat (first | refine y10 ?_ _ | refine y9 ?_ | refine y6 ?_ _)); refine y14 (cs := #[.int .i64 0,.int .i64 0,.slice none 0 0]) ?_ 0 _ rfl; (with_reducible repeat (first | refine y10 ?_ _ | refine y9 ?_ | refine y6 ?_ _)); exact BK228.out) Try.underlying28 rfl (by kernel_rfl)) rfl ?_
   exact ⟨_,by first | rfl | (simp [y15,y16] <;> rfl) | (simp [*,y15,y16] <;> rfl),by first | exact Kd.R_nil _ _ _ _ _ | exact Kd.N_nil _ _ _ _ _ | exact Kd.V_nil _ _ _ _ _ | exact Kd.Q_nil _ _ _ _ _ | exact Kd.S_nil _ _ _ _ _,qb⟩
 ·replace c4 := Bool.eq_false_iff.mpr c4
  subst c4
  replace H := qF H
  simp only [Option.some.injEq,Prod.mk.injEq] at H
  obtain ⟨rfl,rfl,rfl,rfl⟩ := H
  go_enter Try.func10,Try.ntmps10
  go_wp2_with (first | ((with_reducible refine y18 (N := 2) rfl ?_); refine qe 2 #[.int .i64 a0_0,.int .i64 a0_1,.slice A0_2 l0_2.length c0_2] 28 ?_; intro gb226 hg w48 hbox hb; have BK226 := y0.mk (hbox); have GW226 := y0.mk (qg (w := w) hg); have GE226 := y0.mk (qg (w := w) hg); replace HB := y0.mk (y5 qb hb); clear hb hbox hg) | ((with_reducible refine y18 (N := 3) rfl ?_); refine qe 3 #[.int .i64 a1_0,.int .i64 a1_1,.slice A1_2 l1_2.length c1_2] 28 ?_; intro gb227 hg w49 hbox hb; have BK227 := y0.mk (hbox); have GW227 := y0.mk (qg (w := w) hg); have GE227 := y0.mk (qg (w := w) hg); replace HB := y0.mk (y5 qb hb); have NB226_227 := y0.mk (qn BK226.out hg); have NB227_226 := y0.mk (qm BK226.out hg); replace BK226 := y0.mk (qK BK226.out hb); clear hb hbox hg) | ((with_reducible refine y18 (N := 4) rfl ?_); refine qe 4 #[.int .i64 0,.int .i64 0,.slice none 0 0] 28 ?_; intro gb228 hg w50 hbox hb; have BK228 := y0.mk (hbox); have GW228 := y0.mk (qg (w := w) hg); have GE228 := y0.mk (qg (w := w) hg); replace HB := y0.mk (y5 qb hb); have NB226_228 := y0.mk (qn BK226.out hg); have NB228_226 := y0.mk (qm BK226.out hg); replace BK226 := y0.mk (qK BK226.out hb); have NB227_228 := y0.mk (qn BK227.out hg); have NB228_227 := y0.mk (qm BK227.out hg); replace BK227 := y0.mk (qK BK227.out hb); clear hb hbox hg; have hnb51 := NB226_227.out; have hnc51 := NB227_226.out; have hnb52 := NB226_228.out; have hnc52 := NB228_226.out; obtain ⟨hcz53_0,hcz53_1,hcz53_2,hfz53_0,hfz53_1,hfz53_2⟩ := qz3 BK226.out) | ((with_reducible refine y17 (f := 29) rfl ?_); refine goesL_ (some 7) rfl rfl Try.func29 (by kernel_rfl) rfl #[.agg #[.int .i64 a0_0,.int .i64 a0_1,.slice A0_2 l0_2.length c0_2]] rfl qy0 ?_; (with_reducible refine (impl_isGraph.calls k a0_0 a0_1 _ _ l0_2 false _ (qc (Kd.C_below HR0_2.out HB.out)) HC0_2.out A3.out).mono ?_); rintro e w54 ⟨rfl,hb⟩; refine ⟨_,rfl, ?_⟩; replace BK226 := y0.mk (qK BK226.out hb); replace BK227 := y0.mk (qK BK227.out hb); replace BK228 := y0.mk (qK BK228.out hb); replace HB := y0.mk (y5 qb hb); (try clear hb); (try clear hb2); (try clear hk); (try clear hi); have hnb55 := NB228_227.out; have hnc55 := NB227_228.out; obtain ⟨hcz56_0,hcz56_1,hcz56_2,hfz56_0,hfz56_1,hfz56_2⟩ := qz3 BK228.out))
  refine bodyPost_ret (results_ct rfl _ _ gb228 28 #[.int .i64 0,.int .i64 0,.slice none 0 0] (0,0) _ rfl (by (with_reducible repeat (first | refine y10 ?_ _ | refine y9 ?_ | refine y6 ?_ _)); refine y14 (cs := #[.int .i64 0,.int .i64 0,.slice none 0 0]) ?_ 2 _ rfl; (with_reducible repeat (first | refine y10 ?_ _ | refine y9 ?_ | refine y6 ?_ _)); refine y14 (cs := #[.int .i64 0,.int .i64 0,.slice none 0 0]) ?_ 1 _ rfl; (with_reducible repeat (first | refine y10 ?_ _ | refine y9 ?_ | refine y6 ?_ _)); refine y14 (cs := #[.int .i64 0,.int .i64 0,.slice none 0 0]) ?_ 0 _ rfl; (with_reducible repeat (first | refine y10 ?_ _ | refine y9 ?_ | refine y6 ?_ _)); exact BK228.out) Try.underlying28 rfl (by kernel_rfl)) rfl ?_
  exact ⟨_,by first | rfl | (simp [y15,y16] <;> rfl) | (simp [*,y15,y16] <;> rfl),by first | exact Kd.R_nil _ _ _ _ _ | exact Kd.N_nil _ _ _ _ _ | exact Kd.V_nil _ _ _ _ _ | exact Kd.Q_nil _ _ _ _ _ | exact Kd.S_nil _ _ _ _ _,qb⟩
def laws_markArcS.l0 : Nat → List (S53) → Int → Int → Option (Int × (List (S53)))
 | 0,_,_,_ => none
 | k + 1,x0,x1,x5 => if x5 < (x0.length : Int) then (if 0 ≤ x5 then ((some (x0.set (x5 : Int).toNat (⟨x1,(y22 x0 x5).f1,(y22 x0 x5).f2⟩ : S53) : List (S53))).bind fun y236 => ((some (y236.set (x5 : Int).toNat (⟨(y22 y236 x5).f0,wrap64 (x1 + 1),(y22 y236 x5).f2⟩ : S53) : List (S53))).bind fun y237 => (laws_markArcS.l0 k (y237.set (x5 : Int).toNat (⟨(y22 y237 x5).f0,(y22 y237 x5).f1,((Int.tmod (wrap64 ((wrap64 (x1 + 1)) + 1)) 3) == 0)⟩ : S53)) (wrap64 ((wrap64 ((wrap64 (x1 + 1)) + 1)) + 1)) (wrap64 (x5 + 1))))) else (none)) else (some (x1,x0))
def laws_markArcS.f (k : Nat) (l0 : List (S53)) (a1 : Int) : Option (Int × (List (S53))) := laws_markArcS.l0 k l0 a1 0
set_option maxHeartbeats 8000000 in
set_option maxRecDepth 100000 in
theorem laws_markArcS.calls (k : Nat) (P0_ : Nat → Prop) (u9000_ : Value) (l0 : List (S53)) (a1 : Int) (r1 : Int) (r2 : List (S53)) (w0 w : World) (hB : Below w0.heap.size w0 w) (ho0 : Kd.R k53 53 w w0.heap.size P0_ u9000_ l0) (h : laws_markArcS.f k l0 a1 = some (r1,r2)) :
  Calls Try.prog 32 #[u9000_,.int .i64 a1] w fun e w' => e = .returned (.int .i64 r1) ∧ Kd.R k53 53 w' w0.heap.size (fun k_ => (P0_ k_ ∨ w.heap.size ≤ k_)) u9000_ r2 ∧ Below w0.heap.size w0 w' ∧ Kept w w' (fun k_ => P0_ k_) := by
 have HO0 := y0.mk (show Kd.R k53 53 w w0.heap.size (fun k_ => (P0_ k_ ∨ w.heap.size ≤ k_)) u9000_ l0 from Kd.R_mono ho0 (fun k_ hk => (.inl hk)))
 have HK := y0.mk (Kept.refl w (fun k_ => P0_ k_))
 have HW0 := y0.mk hB.size
 have HB := y0.mk hB
 clear hB
 have H : (laws_markArcS.l0 k l0 a1 0) = some (r1,r2) := h
 clear h
 have H' := y0.mk H
 clear H
 go_enter Try.func32,Try.ntmps32
 go_wp2
 go_loopg [1,5] k (fun kq v1 v5 w' => ∃ (x0_1 : List (S53)) (x1_1 : Int) (x5_1 : Int),v1 = .int .i64 x1_1 ∧ v5 = .int .i64 x5_1 ∧ y0 (laws_markArcS.l0 kq x0_1 x1_1 x5_1 = some (r1,r2)) ∧ y0 (kq ≤ k) ∧ y0 (Kd.R k53 53 w' w0.heap.size (fun k_ => (P0_ k_ ∨ w.heap.size ≤ k_)) u9000_ x0_1) ∧ y0 (Kept w w' (fun k_ => P0_ k_)) ∧ y0 (Below w0.heap.size w0 w'))
 case atStart => exact ⟨(l0),(a1),(0),qy2,qy2,H',⟨Nat.le_refl _⟩,⟨qR HO0.out⟩,⟨by repeat (first | (with_reducible first | exact HK.out | apply Kept.alloc | apply Kept.drewN | apply Kept.drew) | exact HK.out)⟩,⟨qb⟩⟩
 case round =>
  clear H'
  obtain ⟨x0_1,x1_1,x5_1,rfl,rfl,HA,HK1,HO_0,HK,HB⟩ := hrel
  cases gk with
  | zero => exact absurd HA.out (by simp [laws_markArcS.l0])
  | succ k1 =>
   have H := HA.out
   clear HA
   simp only [laws_markArcS.l0] at H
   by_cases c3 : x5_1 < (x0_1.length : Int)
   ·rw [if_pos c3] at H
    have c3b0 := decide_eq_true c3
    clear c3
    obtain ⟨c4,H⟩ := qo H
    have c4b0 : decide (0 ≤ x5_1) = true := decide_eq_true c4
    clear c4
    obtain ⟨y236,hy236⟩ : ∃ y_ : List (S53),y_ = (x0_1.set (x5_1 : Int).toNat (⟨x1_1,(y22 x0_1 x5_1).f1,(y22 x0_1 x5_1).f2⟩ : S53)) := ⟨_,rfl⟩
    replace H : ((some (y236.set (x5_1 : Int).toNat (⟨(y22 y236 x5_1).f0,wrap64 (x1_1 + 1),(y22 y236 x5_1).f2⟩ : S53) : List (S53))).bind fun y237 => (laws_markArcS.l0 k1 (y237.set (x5_1 : Int).toNat (⟨(y22 y237 x5_1).f0,(y22 y237 x5_1).f1,((Int.tmod (wrap64 ((wrap64 (x1_1 + 1)) + 1)) 3) == 0)⟩ : S53)) (wrap64 ((wrap64 ((wrap64 (x1_1 + 1)) + 1)) + 1)) (wrap64 (x5_1 + 1)))) = some (r1,r2) := by first | (rw [hy236]; with_reducible exact H) | (have H2_ := (Option.bind_some _ _).symm.trans H; rw [hy236]; with_reducible exact H2_) | (have H2_ := (Option.bind_some _ _).symm.trans H; with_reducible exact H2_) | with_reducible exact H | (rw [hy236]; exact H) | exact H
    have Ny236 := y0.mk hy236
    clear hy236
    obtain ⟨y237,hy237⟩ : ∃ y_ : List (S53),y_ = (y236.set (x5_1 : Int).toNat (⟨(y22 y236 x5_1).f0,wrap64 (x1_1 + 1),(y22 y236 x5_1).f2⟩ : S53)) := ⟨_,rfl⟩
    replace H : (laws_markArcS.l0 k1 (y237.set (x5_1 : Int).toNat (⟨(y22 y237 x5_1).f0,(y22 y237 x5_1).f1,((Int.tmod (wrap64 ((wrap64 (x1_1 + 1)) + 1)) 3) == 0)⟩ : S53)) (wrap64 ((wrap64 ((wrap64 (x1_1 + 1)) + 1)) + 1)) (wrap64 (x5_1 + 1))) = some (r1,r2) := by first | (rw [hy237]; with_reducible exact H) | (have H2_ := (Option.bind_some _ _).symm.trans H; rw [hy237]; with_reducible exact H2_) | (have H2_ := (Option.bind_some _ _).symm.trans H; with_reducible exact H2_) | with_reducible exact H | (rw [hy237]; exact H) | exact H
    have Ny237 := y0.mk hy237
    clear hy237
    obtain ⟨y238,hy238⟩ : ∃ y_ : List (S53),y_ = (y237.set (x5_1 : Int).toNat (⟨(y22 y237 x5_1).f0,(y22 y237 x5_1).f1,((Int.tmod (wrap64 ((wrap64 (x1_1 + 1)) + 1)) 3) == 0)⟩ : S53)) := ⟨_,rfl⟩
    replace H : (laws_markArcS.l0 k1 y238 (wrap64 ((wrap64 ((wrap64 (x1_1 + 1)) + 1)) + 1)) (wrap64 (x5_1 + 1))) = some (r1,r2) := by first | (rw [hy238]; with_reducible exact H) | (have H2_ := (Option.bind_some _ _).symm.trans H; rw [hy238]; with_reducible exact H2_) | (have H2_ := (Option.bind_some _ _).symm.trans H; with_reducible exact H2_) | with_reducible exact H | (rw [hy238]; exact H) | exact H
    have Ny238 := y0.mk hy238
    clear hy238
    have H' := y0.mk H
    clear H
    obtain ⟨Ao8,co8,eo8⟩ := Kd.R_slice HO_0.out
    subst eo8
    have p5 : 0 ≤ (x5_1 : Int) := of_decide_eq_true qy1
    have q5 : (x5_1 : Int) < ((x0_1.length : Int) : Int) := of_decide_eq_true qy1
    obtain ⟨go5,co5,eo5,gb5,gl5,cl5,HG5⟩ := Kd.R_form HO_0.out (by omega)
    (first | cases eo5 | (injection eo5 with ea_ en_ ec_; (first | subst ea_ | (injection ea_ with ea_; subst ea_)); subst ec_; clear en_))
    have GB5 := y0.mk gb5
    have GG5 := y0.mk HG5
    clear gb5 gl5 HG5
    have HMgo5 := y0.mk (show (P0_ go5 ∨ w.heap.size ≤ go5) from (HO_0.out.1 _ rfl))
    obtain ⟨ce5,hcl5,hM5,hcc5,hfr5⟩ := Kd.R_elem HO_0.out z53 (x5_1 : Int) p5 q5
    obtain rfl := k53_openM hM5
    have hx5_0 : wr.cell? ⟨go5,(x5_1 : Int).toNat * 3,none⟩ = some (.int .i64 ((y22 x0_1 x5_1).f0)) := hcc5 0 _ rfl
    have hx5_1 : wr.cell? ⟨go5,(x5_1 : Int).toNat * 3 + 1,none⟩ = some (.int .i64 ((y22 x0_1 x5_1).f1)) := hcc5 1 _ rfl
    have hx5_2 : wr.cell? ⟨go5,(x5_1 : Int).toNat * 3 + 2,none⟩ = some (.bool ((y22 x0_1 x5_1).f2)) := hcc5 2 _ rfl
    have hf5_0 : wr.frozen? ⟨go5,(x5_1 : Int).toNat * 3,none⟩ = false := hfr5 0
    have hf5_1 : wr.frozen? ⟨go5,(x5_1 : Int).toNat * 3 + 1,none⟩ = false := hfr5 1
    have hf5_2 : wr.frozen? ⟨go5,(x5_1 : Int).toNat * 3 + 2,none⟩ = false := hfr5 2
    clear hcl5 hcc5 hfr5 hM5
    replace p5 := eq_true p5
    replace q5 := eq_true q5
    have HX9 := y0.mk (show Kd.R k53 53 wr w0.heap.size (fun k_ => (P0_ k_ ∨ w.heap.size ≤ k_)) (.slice (some ⟨go5,0,none⟩) x0_1.length co8) x0_1 from (qR HO_0.out))
    obtain ⟨ce9,hcl9,hM9,hcc9,hfr9⟩ := Kd.R_elem HX9.out z53 (x5_1 : Int) (of_decide_eq_true qy1) (by have h_ : (x5_1 : Int) < ((x0_1.length : Int) : Int) := of_decide_eq_true qy1; first | exact h_ | (have e_ := (Kd.R_reads' HO_0.out).1; omega) | simpa using h_)
    obtain rfl := k53_openM hM9
    have HP9 := Kd.R_seg HX9.out (x5_1 : Int) (of_decide_eq_true qy1) (by have h_ : (x5_1 : Int) < ((x0_1.length : Int) : Int) := of_decide_eq_true qy1; first | exact h_ | (have e_ := (Kd.R_reads' HO_0.out).1; omega) | simpa using h_) (seg := [.int .i64 x1_1]) (j := 0) hcl9 hcc9 (show 1 ≤ 3 from by decide) (x' := (⟨x1_1,(y22 x0_1 x5_1).f1,(y22 x0_1 x5_1).f2⟩ : S53)) (k53_mkM _ _ _ (⟨x1_1,(y22 x0_1 x5_1).f1,(y22 x0_1 x5_1).f2⟩ : S53) ) (fun _ hk => hk)
    have hx9_0 := hcc9 0 _ rfl
    (try simp only [show (k53).sz = 3 from rfl,Nat.mul_one,Nat.add_zero] at hx9_0)
    have hf9_0 := hfr9 0
    (try simp only [show (k53).sz = 3 from rfl,Nat.mul_one,Nat.add_zero] at hf9_0)
    clear hcl9 hcc9 hfr9 hM9
    go_wp2_with (first | ((with_reducible refine gate_store (t := 3) (p := 16) rfl ?_); refine store_event (t := 3) (p := 16) (v := ?vo_w10) (w1 := (wr.setCell ⟨go5,(x5_1 : Int).toNat * 3,none⟩ (.int .i64 x1_1))) ?hg ?ho ?hn ?hr ?_; (case ho => rfl); (case hg => rfl); (case hn => rfl); (case hr => first | (go_simp; done) | (go_simp; rfl)); intro w10 hw; have hg : wr.grownBy w10 (some go5) := (by rw [hw]; exact HP9.2); have hp_ : Kd.R k53 53 w10 w0.heap.size (fun k_ => (P0_ k_ ∨ w.heap.size ≤ k_)) (.slice (some ⟨go5,0,none⟩) x0_1.length co8) y236 := (by rw [hw,Ny236.out]; exact HP9.1); clear HP9; replace HB := y0.mk ((by rw [hw]; exact y3 (HB.out) GB5.out : Below w0.heap.size w0 w10)); replace HK := y0.mk (Kept.of_grown (S := (fun k_ => P0_ k_)) hg (by repeat (first | (with_reducible first | exact HK.out | apply Kept.alloc | apply Kept.drewN | apply Kept.drew) | exact HK.out)) (fun k_ e_ => (HO_0.out.1 k_ e_))); replace HO_0 := y0.mk (hp_); clear hg hw hp_; have p6 : 0 ≤ (x5_1 : Int) := of_decide_eq_true qy1; have q6 : (x5_1 : Int) < ((x0_1.length : Int) : Int) := of_decide_eq_true qy1; obtain ⟨ce6,hcl6,hM6,hcc6,hfr6⟩ := Kd.R_elem HO_0.out z53 (x5_1 : Int) p6 q6; obtain rfl := k53_openM hM6; have hx6_0 : w10.cell? ⟨go5,(x5_1 : Int).toNat * 3,none⟩ = some (.int .i64 ((y22 y236 x5_1).f0)) := hcc6 0 _ rfl; have hx6_1 : w10.cell? ⟨go5,(x5_1 : Int).toNat * 3 + 1,none⟩ = some (.int .i64 ((y22 y236 x5_1).f1)) := hcc6 1 _ rfl; have hx6_2 : w10.cell? ⟨go5,(x5_1 : Int).toNat * 3 + 2,none⟩ = some (.bool ((y22 y236 x5_1).f2)) := hcc6 2 _ rfl; have hf6_0 : w10.frozen? ⟨go5,(x5_1 : Int).toNat * 3,none⟩ = false := hfr6 0; have hf6_1 : w10.frozen? ⟨go5,(x5_1 : Int).toNat * 3 + 1,none⟩ = false := hfr6 1; have hf6_2 : w10.frozen? ⟨go5,(x5_1 : Int).toNat * 3 + 2,none⟩ = false := hfr6 2; clear hcl6 hcc6 hfr6 hM6; replace p6 := eq_true p6; replace q6 := eq_true q6; have HX11 := y0.mk (show Kd.R k53 53 w10 w0.heap.size (fun k_ => (P0_ k_ ∨ w.heap.size ≤ k_)) (.slice (some ⟨go5,0,none⟩) x0_1.length co8) y236 from (qR HO_0.out)); obtain ⟨ce11,hcl11,hM11,hcc11,hfr11⟩ := Kd.R_elem HX11.out z53 (x5_1 : Int) (of_decide_eq_true qy1) (by have h_ : (x5_1 : Int) < ((x0_1.length : Int) : Int) := of_decide_eq_true qy1; first | exact h_ | (have e_ := (Kd.R_reads' HO_0.out).1; omega) | simpa using h_); obtain rfl := k53_openM hM11; have HP11 := Kd.R_seg HX11.out (x5_1 : Int) (of_decide_eq_true qy1) (by have h_ : (x5_1 : Int) < ((x0_1.length : Int) : Int) := of_decide_eq_true qy1; first | exact h_ | (have e_ := (Kd.R_reads' HO_0.out).1; omega) | simpa using h_) (seg := [.int .i64 (wrap64 (x1_1 + 1))]) (j := 1) hcl11 hcc11 (show 2 ≤ 3 from by decide) (x' := (⟨(y22 y236 x5_1).f0,wrap64 (x1_1 + 1),(y22 y236 x5_1).f2⟩ : S53)) (k53_mkM _ _ _ (⟨(y22 y236 x5_1).f0,wrap64 (x1_1 + 1),(y22 y236 x5_1).f2⟩ : S53) ) (fun _ hk => hk); have hx11_1 := hcc11 1 _ rfl; (try simp only [show (k53).sz = 3 from rfl,Nat.mul_one,Nat.add_zero] at hx11_1); have hf11_1 := hfr11 1; (try simp only [show (k53).sz = 3 from rfl,Nat.mul_one,Nat.add_zero] at hf11_1); clear hcl11 hcc11 hfr11 hM11) | ((with_reducible refine gate_store (t := 3) (p := 23) rfl ?_); refine store_event (t := 3) (p := 23) (v := ?vo_w12) (w1 := (w10.setCell ⟨go5,(x5_1 : Int).toNat * 3 + 1,none⟩ (.int .i64 (wrap64 (x1_1 + 1))))) ?hg ?ho ?hn ?hr ?_; (case ho => rfl); (case hg => rfl); (case hn => rfl); (case hr => first | (go_simp; done) | (go_simp; rfl)); intro w12 hw; have hg : w10.grownBy w12 (some go5) := (by rw [hw]; exact HP11.2); have hp_ : Kd.R k53 53 w12 w0.heap.size (fun k_ => (P0_ k_ ∨ w.heap.size ≤ k_)) (.slice (some ⟨go5,0,none⟩) x0_1.length co8) y237 := (by rw [hw,Ny237.out]; exact HP11.1); clear HP11; replace HB := y0.mk ((by rw [hw]; exact y3 (HB.out) GB5.out : Below w0.heap.size w0 w12)); replace HK := y0.mk (Kept.of_grown (S := (fun k_ => P0_ k_)) hg (by repeat (first | (with_reducible first | exact HK.out | apply Kept.alloc | apply Kept.drewN | apply Kept.drew) | exact HK.out)) (fun k_ e_ => (HO_0.out.1 k_ e_))); replace HO_0 := y0.mk (hp_); clear hg hw hp_; have p7 : 0 ≤ (x5_1 : Int) := of_decide_eq_true qy1; have q7 : (x5_1 : Int) < ((x0_1.length : Int) : Int) := of_decide_eq_true qy1; obtain ⟨ce7,hcl7,hM7,hcc7,hfr7⟩ := Kd.R_elem HO_0.out z53 (x5_1 : Int) p7 q7; obtain rfl := k53_openM hM7; have hx7_0 : w12.cell? ⟨go5,(x5_1 : Int).toNat * 3,none⟩ = some (.int .i64 ((y22 y237 x5_1).f0)) := hcc7 0 _ rfl; have hx7_1 : w12.cell? ⟨go5,(x5_1 : Int).toNat * 3 + 1,none⟩ = some (.int .i64 ((y22 y237 x5_1).f1)) := hcc7 1 _ rfl; have hx7_2 : w12.cell? ⟨go5,(x5_1 : Int).toNat * 3 + 2,none⟩ = some (.bool ((y22 y237 x5_1).f2)) := hcc7 2 _ rfl; have hf7_0 : w12.frozen? ⟨go5,(x5_1 : Int).toNat * 3,none⟩ = false := hfr7 0; have hf7_1 : w12.frozen? ⟨go5,(x5_1 : Int).toNat * 3 + 1,none⟩ = false := hfr7 1; have hf7_2 : w12.frozen? ⟨go5,(x5_1 : Int).toNat * 3 + 2,none⟩ = false := hfr7 2; clear hcl7 hcc7 hfr7 hM7; replace p7 := eq_true p7; replace q7 := eq_true q7; have HX13 := y0.mk (show Kd.R k53 53 w12 w0.heap.size (fun k_ => (P0_ k_ ∨ w.heap.size ≤ k_)) (.slice (some ⟨go5,0,none⟩) x0_1.length co8) y237 from (qR HO_0.out)); obtain ⟨ce13,hcl13,hM13,hcc13,hfr13⟩ := Kd.R_elem HX13.out z53 (x5_1 : Int) (of_decide_eq_true qy1) (by have h_ : (x5_1 : Int) < ((x0_1.length : Int) : Int) := of_decide_eq_true qy1; first | exact h_ | (have e_ := (Kd.R_reads' HO_0.out).1; omega) | simpa using h_); obtain rfl := k53_openM hM13; have HP13 := Kd.R_seg HX13.out (x5_1 : Int) (of_decide_eq_true qy1) (by have h_ : (x5_1 : Int) < ((x0_1.length : Int) : Int) := of_decide_eq_true qy1; first | exact h_ | (have e_ := (Kd.R_reads' HO_0.out).1; omega) | simpa using h_) (seg := [.bool ((Int.tmod (wrap64 ((wrap64 (x1_1 + 1)) + 1)) 3) == 0)]) (j := 2) hcl13 hcc13 (show 3 ≤ 3 from by decide) (x' := (⟨(y22 y237 x5_1).f0,(y22 y237 x5_1).f1,((Int.tmod (wrap64 ((wrap64 (x1_1 + 1)) + 1)) 3) == 0)⟩ : S53)) (k53_mkM _ _ _ (⟨(y22 y237 x5_1).f0,(y22 y237 x5_1).f1,((Int.tmod (wrap64 ((wrap64 (x1_1 + 1)) + 1)) 3) == 0)⟩ : S53) ) (fun _ hk => hk); have hx13_2 := hcc13 2 _ rfl; (try simp only [show (k53).sz = 3 from rfl,Nat.mul_one,Nat.add_zero] at hx13_2); have hf13_2 := hfr13 2; (try simp only [show (k53).sz = 3 from rfl,Nat.mul_one,Nat.add_zero] at hf13_2); clear hcl13 hcc13 hfr13 hM13) | ((with_reducible refine gate_store (t := 4) (p := 32) rfl ?_); refine store_event (t := 4) (p := 32) (v := ?vo_w14) (w1 := (w12.setCell ⟨go5,(x5_1 : Int).toNat * 3 + 2,none⟩ (.bool ((Int.tmod (wrap64 ((wrap64 (x1_1 + 1)) + 1)) 3) == 0)))) ?hg ?ho ?hn ?hr ?_; (case ho => rfl); (case hg => rfl); (case hn => rfl); (case hr => first | (go_simp; done) | (go_simp; rfl)); intro w14 hw; have hg : w12.grownBy w14 (some go5) := (by rw [hw]; exact HP13.2); have hp_ : Kd.R k53 53 w14 w0.heap.size (fun k_ => (P0_ k_ ∨ w.heap.size ≤ k_)) (.slice (some ⟨go5,0,none⟩) x0_1.length co8) y238 := (by rw [hw,Ny238.out]; exact HP13.1); clear HP13; replace HB := y0.mk ((by rw [hw]; exact y3 (HB.out) GB5.out : Below w0.heap.size w0 w14)); replace HK := y0.mk (Kept.of_grown (S := (fun k_ => P0_ k_)) hg (by repeat (first | (with_reducible first | exact HK.out | apply Kept.alloc | apply Kept.drewN | apply Kept.drew) | exact HK.out)) (fun k_ e_ => (HO_0.out.1 k_ e_))); replace HO_0 := y0.mk (hp_); clear hg hw hp_))
    go_roundg k1
    case measure => have := HK1.out; omega
    exact ⟨(y238),(wrap64 ((wrap64 ((wrap64 (x1_1 + 1)) + 1)) + 1)),(wrap64 (x5_1 + 1)),qy2,qy2,H',⟨by have := HK1.out; omega⟩,⟨qR HO_0.out⟩,⟨by repeat (first | (with_reducible first | exact HK.out | apply Kept.alloc | apply Kept.drewN | apply Kept.drew) | exact HK.out)⟩,⟨qb⟩⟩
   ·rw [if_neg c3] at H
    have c3b0 := decide_eq_false c3
    clear c3
    simp only [Option.some.injEq,Prod.mk.injEq] at H
    obtain ⟨rfl,rfl⟩ := H
    obtain ⟨Ao15,co15,eo15⟩ := Kd.R_slice HO_0.out
    subst eo15
    go_wp2
    go_ret
    exact ⟨by first | rfl | (simp [y15,y16] <;> rfl) | (simp [*,y15,y16] <;> rfl),by (with_reducible repeat (first | apply Kd.R_alloc | apply Kd.R_drewN | apply Kd.R_drew)); exact HO_0.out,qb,by repeat (first | (with_reducible first | exact HK.out | apply Kept.alloc | apply Kept.drewN | apply Kept.drew) | exact HK.out)⟩
def laws_markGraph.f (k : Nat) (a0_0 : Int) (a0_1 : Int) (l0_2 : List (S53)) (a1 : Int) : Option (Int × (List (S53))) := (laws_markArcS.f k l0_2 a1).bind fun bt240 => (some (bt240.1,bt240.2))
set_option maxHeartbeats 8000000 in
set_option maxRecDepth 100000 in
theorem laws_markGraph.calls (k : Nat) (a0_0 : Int) (a0_1 : Int) (P0_2_ : Nat → Prop) (u9000_ : Value) (l0_2 : List (S53)) (a1 : Int) (r1 : Int) (r2 : List (S53)) (w0 w : World) (hB : Below w0.heap.size w0 w) (ho0_2 : Kd.R k53 53 w w0.heap.size P0_2_ u9000_ l0_2) (h : laws_markGraph.f k a0_0 a0_1 l0_2 a1 = some (r1,r2)) :
  Calls Try.prog 12 #[.agg #[.int .i64 a0_0,.int .i64 a0_1,u9000_],.int .i64 a1] w fun e w' => e = .returned (.int .i64 r1) ∧ Kd.R k53 53 w' w0.heap.size (fun k_ => (P0_2_ k_ ∨ w.heap.size ≤ k_)) u9000_ r2 ∧ Below w0.heap.size w0 w' ∧ Kept w w' (fun k_ => P0_2_ k_) := by
 have hu28 := Try.underlying28
 have HO0_2 := y0.mk (show Kd.R k53 53 w w0.heap.size (fun k_ => (P0_2_ k_ ∨ w.heap.size ≤ k_)) u9000_ l0_2 from Kd.R_mono ho0_2 (fun k_ hk => (.inl hk)))
 have HK := y0.mk (Kept.refl w (fun k_ => P0_2_ k_))
 have HW0 := y0.mk hB.size
 have HB := y0.mk hB
 clear hB
 have H : ((laws_markArcS.f k l0_2 a1).bind fun bt240 => (some (bt240.1,bt240.2))) = some (r1,r2) := h
 clear h
 obtain ⟨⟨t240,t241⟩,A3,H⟩ := qB H
 replace H : (some (t240,t241)) = some (r1,r2) := H
 simp only [Option.some.injEq,Prod.mk.injEq] at H
 obtain ⟨rfl,rfl⟩ := H
 obtain ⟨Ao4,co4,eo4⟩ := Kd.R_slice HO0_2.out
 subst eo4
 go_enter Try.func12,Try.ntmps12
 go_wp2_with (first | ((with_reducible refine y18 (N := 2) rfl ?_); refine qe 2 #[.int .i64 a0_0,.int .i64 a0_1,.slice Ao4 l0_2.length co4] 28 ?_; intro gb239 hg w5 hbox hb; replace HO0_2 := y0.mk (Kd.R_below (qR HO0_2.out) hb); have BK239 := y0.mk (hbox); have GW239 := y0.mk ((by rw [hg]; exact (by first | exact HK.out.1 | exact (show Kept w _ (fun k_ => P0_2_ k_) from by repeat (first | (with_reducible first | exact HK.out | apply Kept.alloc | apply Kept.drewN | apply Kept.drew) | exact HK.out)).1) : w.heap.size ≤ gb239)); replace HK := y0.mk (Kept.below (S := (fun k_ => P0_2_ k_)) (by repeat (first | (with_reducible first | exact HK.out | apply Kept.alloc | apply Kept.drewN | apply Kept.drew) | exact HK.out)) hb); have GE239 := y0.mk ((by rw [hg]; exact (y4 qb) : w0.heap.size ≤ gb239)); replace HB := y0.mk (y5 qb hb); clear hb hbox hg; obtain ⟨hcz6_0,hcz6_1,hcz6_2,hfz6_0,hfz6_1,hfz6_2⟩ := qz3 BK239.out) | ((with_reducible refine y17 (f := 32) rfl ?_); refine goesL_ (some 8) rfl rfl Try.func32 (by kernel_rfl) rfl #[.slice Ao4 l0_2.length co4,.int .i64 a1] rfl qy0 ?_; (with_reducible refine (laws_markArcS.calls k (fun k_ => some k_ = (.slice Ao4 l0_2.length co4 : Value).ownBlock) (.slice Ao4 l0_2.length co4) l0_2 a1 t240 t241 w0 _ (by repeat (first | (with_reducible first | exact HB.out | apply y1 | apply y21 | apply y2 | refine y3 ?_ GE239.out) | exact HB.out)) (by exact Kd.R_tight rfl HO0_2.out) A3.out).mono ?_); rintro e w7 ⟨rfl,hy0,hb,hkp⟩; refine ⟨_,rfl, ?_⟩; replace BK239 := y0.mk (blk_kept (qk BK239.out) hkp (fun hs_ => (fun e_ => (Kd.R_ne HO0_2.out BK239.out (by decide)) e_) hs_)); replace HK := y0.mk (Kept.then_ (S := (fun k_ => P0_2_ k_)) (by repeat (first | (with_reducible first | exact HK.out | apply Kept.alloc | apply Kept.drewN | apply Kept.drew | refine Kept.setCell ?_ (.inr GW239.out) _) | exact HK.out)) hkp (fun k_ hs_ => (fun e_ => (HO0_2.out.1 k_ e_.symm)) hs_)); replace HO0_2 := y0.mk (Kd.R_reok rfl hy0 (fun k_ e_ => HO0_2.out.1 k_ e_)); replace HB := y0.mk (hb); (try clear hb); (try clear hkp); (try clear hy0)))
 go_ret
 exact ⟨by first | rfl | (simp [y15,y16] <;> rfl) | (simp [*,y15,y16] <;> rfl),by (with_reducible repeat (first | apply Kd.R_alloc | apply Kd.R_drewN | apply Kd.R_drew)); exact HO0_2.out,qb,by repeat (first | (with_reducible first | exact HK.out | apply Kept.alloc | apply Kept.drewN | apply Kept.drew | refine Kept.setCell ?_ (.inr GW239.out) _) | exact HK.out)⟩
end Go.Proofs.Ytcckpjflbfofjaa.Pd
end
section
namespace Go.Proofs.Ytcckpjflbfofjaa.Pd
open Go.RowKit Go.Proofs.YtcckpjflbfofjaaW.PrintWords Go.Proofs.YtcckpjflbfofjaaW.PrintLast Go.Proofs.YtcckpjflbfofjaaW.PrintMore
attribute [local go_sem] max2_int min2_int max_two min_two max_three min_three max_four min_four   -- for this text's walks alone
set_option linter.unusedVariables false
set_option linter.unusedSimpArgs false
def laws_heldArcS.l0 : Nat → List (S53) → Int → Int → Option (Int)
 | 0,_,_,_ => none
 | k + 1,x0,x1,x5 => if x5 < (x0.length : Int) then (if 0 ≤ x5 then (if ((y22 x0 x5).f0) = x1 then (if ((y22 x0 x5).f1) = (wrap64 (x1 + 1)) then (if (((y22 x0 x5).f2) != ((Int.tmod (wrap64 ((wrap64 (x1 + 1)) + 1)) 3) == 0)) = true then (some (-1)) else (laws_heldArcS.l0 k x0 (wrap64 ((wrap64 ((wrap64 (x1 + 1)) + 1)) + 1)) (wrap64 (x5 + 1)))) else (some (-1))) else (some (-1))) else (none)) else (some x1)
def laws_heldArcS.f (k : Nat) (l0 : List (S53)) (a1 : Int) : Option (Int) := laws_heldArcS.l0 k l0 a1 0
set_option maxHeartbeats 8000000 in
set_option maxRecDepth 100000 in
theorem laws_heldArcS.calls (k : Nat) (A0 : Option Addr) (c0 : Nat) (l0 : List (S53)) (a1 : Int) (r : Int) (w : World) (hr0 : Kd.C k53 w A0 l0.length l0) (hc0 : l0.length ≤ c0) (h : laws_heldArcS.f k l0 a1 = some r) :
  Calls Try.prog 33 #[.slice A0 l0.length c0,.int .i64 a1] w fun e w' => e = .returned (.int .i64 r) ∧ Drawn0 w w' := by
 have HR0 := y0.mk hr0
 have HC0 := y0.mk hc0
 clear hr0 hc0
 have H : (laws_heldArcS.l0 k l0 a1 0) = some r := h
 clear h
 have H' := y0.mk H
 clear H
 go_enter Try.func33,Try.ntmps33
 go_wp2
 go_loopg [1,5] k (fun kq v1 v5 w' => ∃ (x1_1 : Int) (x5_1 : Int),v1 = .int .i64 x1_1 ∧ v5 = .int .i64 x5_1 ∧ y0 (laws_heldArcS.l0 kq l0 x1_1 x5_1 = some r) ∧ y0 (kq ≤ k) ∧ Drawn0 w w')
 case atStart => exact ⟨(a1),(0),qy2,qy2,H',⟨Nat.le_refl _⟩,by repeat (first | exact Drawn0.refl _ | apply Drawn0.step)⟩
 case round =>
  clear H'
  obtain ⟨x1_1,x5_1,rfl,rfl,HA,HK1,⟨m1,rfl⟩⟩ := hrel
  cases gk with
  | zero => exact absurd HA.out (by simp [laws_heldArcS.l0])
  | succ k1 =>
   have H := HA.out
   clear HA
   simp only [laws_heldArcS.l0] at H
   by_cases c3 : x5_1 < (l0.length : Int)
   ·rw [if_pos c3] at H
    have c3b0 := decide_eq_true c3
    clear c3
    obtain ⟨c4,H⟩ := qo H
    have c4b0 : decide (0 ≤ x5_1) = true := decide_eq_true c4
    clear c4
    by_cases c5 : ((y22 l0 x5_1).f0) = x1_1
    ·rw [if_pos c5] at H
     have c5b0 : (((y22 l0 x5_1).f0) == x1_1) = true := beq_iff_eq.mpr c5
     have c5b1 : (((y22 l0 x5_1).f0) != x1_1) = false := bne_eq_false_iff_eq.mpr c5
     clear c5
     by_cases c6 : ((y22 l0 x5_1).f1) = (wrap64 (x1_1 + 1))
     ·rw [if_pos c6] at H
      have c6b0 : (((y22 l0 x5_1).f1) == (wrap64 (x1_1 + 1))) = true := beq_iff_eq.mpr c6
      have c6b1 : (((y22 l0 x5_1).f1) != (wrap64 (x1_1 + 1))) = false := bne_eq_false_iff_eq.mpr c6
      clear c6
      by_cases c7 : (((y22 l0 x5_1).f2) != ((Int.tmod (wrap64 ((wrap64 (x1_1 + 1)) + 1)) 3) == 0)) = true
      ·rw [if_pos c7] at H
       have c7b0 : (((y22 l0 x5_1).f2) != ((Int.tmod (wrap64 ((wrap64 (x1_1 + 1)) + 1)) 3) == 0)) = true := c7
       (try (have c7b1 : decide (((y22 l0 x5_1).f2) = ((Int.tmod (wrap64 ((wrap64 (x1_1 + 1)) + 1)) 3) == 0)) = false := by simpa using c7))
       (try (have c7b2 : (((y22 l0 x5_1).f2) == ((Int.tmod (wrap64 ((wrap64 (x1_1 + 1)) + 1)) 3) == 0)) = false := by simpa using c7))
       (try (have c7b3 : ¬ (((y22 l0 x5_1).f2) = ((Int.tmod (wrap64 ((wrap64 (x1_1 + 1)) + 1)) 3) == 0)) := by simpa using c7))
       clear c7
       obtain rfl := Option.some.inj H
       have p242 : 0 ≤ (x5_1 : Int) := of_decide_eq_true qy1
       have q242 : x5_1 < (l0.length : Int) := of_decide_eq_true qy1
       obtain ⟨ad242,e242,hx242_0,hx242_1,hx242_2⟩ := at_T53 HR0.out x5_1 p242 q242
       cases e242
       replace p242 := eq_true p242
       replace q242 := eq_true q242
       have p243 : 0 ≤ (x5_1 : Int) := of_decide_eq_true qy1
       have q243 : x5_1 < (l0.length : Int) := of_decide_eq_true qy1
       obtain ⟨ad243,e243,hx243_0,hx243_1,hx243_2⟩ := at_T53 HR0.out x5_1 p243 q243
       obtain rfl : ad242 = ad243 := (by injection e243)
       replace p243 := eq_true p243
       replace q243 := eq_true q243
       have p244 : 0 ≤ (x5_1 : Int) := of_decide_eq_true qy1
       have q244 : x5_1 < (l0.length : Int) := of_decide_eq_true qy1
       obtain ⟨ad244,e244,hx244_0,hx244_1,hx244_2⟩ := at_T53 HR0.out x5_1 p244 q244
       obtain rfl : ad242 = ad244 := (by injection e244)
       replace p244 := eq_true p244
       replace q244 := eq_true q244
       go_wp2
       go_ret
       exact ⟨by first | rfl | (simp; done) | (simp [*]; done),by repeat (first | exact Drawn0.refl _ | apply Drawn0.step)⟩
      ·rw [if_neg c7] at H
       have c7b0 : (((y22 l0 x5_1).f2) != ((Int.tmod (wrap64 ((wrap64 (x1_1 + 1)) + 1)) 3) == 0)) = false := by simpa using c7
       (try (have c7b1 : decide (((y22 l0 x5_1).f2) = ((Int.tmod (wrap64 ((wrap64 (x1_1 + 1)) + 1)) 3) == 0)) = true := by simpa using c7))
       (try (have c7b2 : (((y22 l0 x5_1).f2) == ((Int.tmod (wrap64 ((wrap64 (x1_1 + 1)) + 1)) 3) == 0)) = true := by simpa using c7))
       clear c7
       have H' := y0.mk H
       clear H
       have p242 : 0 ≤ (x5_1 : Int) := of_decide_eq_true qy1
       have q242 : x5_1 < (l0.length : Int) := of_decide_eq_true qy1
       obtain ⟨ad242,e242,hx242_0,hx242_1,hx242_2⟩ := at_T53 HR0.out x5_1 p242 q242
       cases e242
       replace p242 := eq_true p242
       replace q242 := eq_true q242
       have p243 : 0 ≤ (x5_1 : Int) := of_decide_eq_true qy1
       have q243 : x5_1 < (l0.length : Int) := of_decide_eq_true qy1
       obtain ⟨ad243,e243,hx243_0,hx243_1,hx243_2⟩ := at_T53 HR0.out x5_1 p243 q243
       obtain rfl : ad242 = ad243 := (by injection e243)
       replace p243 := eq_true p243
       replace q243 := eq_true q243
       have p244 : 0 ≤ (x5_1 : Int) := of_decide_eq_true qy1
       have q244 : x5_1 < (l0.length : Int) := of_decide_eq_true qy1
       obtain ⟨ad244,e244,hx244_0,hx244_1,hx244_2⟩ := at_T53 HR0.out x5_1 p244 q244
       obtain rfl : ad242 = ad244 := (by injection e244)
       replace p244 := eq_true p244
       replace q244 := eq_true q244
       go_wp2
       go_roundg k1
       case measure => have := HK1.out; omega
       exact ⟨(wrap64 ((wrap64 ((wrap64 (x1_1 + 1)) + 1)) + 1)),(wrap64 (x5_1 + 1)),qy2,qy2,H',⟨by have := HK1.out; omega⟩,by repeat (first | exact Drawn0.refl _ | apply Drawn0.step)⟩
     ·rw [if_neg c6] at H
      have c6b0 : (((y22 l0 x5_1).f1) == (wrap64 (x1_1 + 1))) = false := beq_eq_false_iff_ne.mpr c6
      have c6b1 : (((y22 l0 x5_1).f1) != (wrap64 (x1_1 + 1))) = true := bne_iff_ne.mpr c6
      obtain rfl := Option.some.inj H
      have p242 : 0 ≤ (x5_1 : Int) := of_decide_eq_true qy1
      have q242 : x5_1 < (l0.length : Int) := of_decide_eq_true qy1
      obtain ⟨ad242,e242,hx242_0,hx242_1,hx242_2⟩ := at_T53 HR0.out x5_1 p242 q242
      cases e242
      replace p242 := eq_true p242
      replace q242 := eq_true q242
      have p243 : 0 ≤ (x5_1 : Int) := of_decide_eq_true qy1
      have q243 : x5_1 < (l0.length : Int) := of_decide_eq_true qy1
      obtain ⟨ad243,e243,hx243_0,hx243_1,hx243_2⟩ := at_T53 HR0.out x5_1 p243 q243
      obtain rfl : ad242 = ad243 := (by injection e243)
      replace p243 := eq_true p243
      replace q243 := eq_true q243
      go_wp2
      go_ret
      exact ⟨by first | rfl | (simp; done) | (simp [*]; done),by repeat (first | exact Drawn0.refl _ | apply Drawn0.step)⟩
    ·rw [if_neg c5] at H
     have c5b0 : (((y22 l0 x5_1).f0) == x1_1) = false := beq_eq_false_iff_ne.mpr c5
     have c5b1 : (((y22 l0 x5_1).f0) != x1_1) = true := bne_iff_ne.mpr c5
     obtain rfl := Option.some.inj H
     have p242 : 0 ≤ (x5_1 : Int) := of_decide_eq_true qy1
     have q242 : x5_1 < (l0.length : Int) := of_decide_eq_true qy1
     obtain ⟨ad242,e242,hx242_0,hx242_1,hx242_2⟩ := at_T53 HR0.out x5_1 p242 q242
     cases e242
     replace p242 := eq_true p242
     replace q242 := eq_true q242
     go_wp2
     go_ret
     exact ⟨by first | rfl | (simp; done) | (simp [*]; done),by repeat (first | exact Drawn0.refl _ | apply Drawn0.step)⟩
   ·rw [if_neg c3] at H
    have c3b0 := decide_eq_false c3
    clear c3
    obtain rfl := Option.some.inj H
    go_wp2
    go_ret
    exact ⟨by first | rfl | (simp; done) | (simp [*]; done),by repeat (first | exact Drawn0.refl _ | apply Drawn0.step)⟩
def laws_heldGraph.f (k : Nat) (a0_0 : Int) (a0_1 : Int) (l0_2 : List (S53)) (a1 : Int) : Option (Int) := (laws_heldArcS.f k l0_2 a1).bind fun t246 => (if t246 < 0 then (some (-1)) else (some t246))
set_option maxHeartbeats 8000000 in
set_option maxRecDepth 100000 in
theorem laws_heldGraph.calls (k : Nat) (a0_0 : Int) (a0_1 : Int) (A0_2 : Option Addr) (c0_2 : Nat) (l0_2 : List (S53)) (a1 : Int) (r : Int) (w : World) (hr0_2 : Kd.C k53 w A0_2 l0_2.length l0_2) (hc0_2 : l0_2.length ≤ c0_2) (h : laws_heldGraph.f k a0_0 a0_1 l0_2 a1 = some r) :
  Calls Try.prog 13 #[.agg #[.int .i64 a0_0,.int .i64 a0_1,.slice A0_2 l0_2.length c0_2],.int .i64 a1] w fun e w' => e = .returned (.int .i64 r) ∧ Below w.heap.size w w' := by
 have hu28 := Try.underlying28
 have HR0_2 := y0.mk hr0_2
 have HC0_2 := y0.mk hc0_2
 clear hr0_2 hc0_2
 have HB := y0.mk (Below.refl w.heap.size w)
 have H : ((laws_heldArcS.f k l0_2 a1).bind fun t246 => (if t246 < 0 then (some (-1)) else (some t246))) = some r := h
 clear h
 obtain ⟨t246,A3,H⟩ := qB H
 by_cases c4 : t246 < 0
 ·rw [if_pos c4] at H
  have c4b0 := decide_eq_true c4
  clear c4
  obtain rfl := Option.some.inj H
  go_enter Try.func13,Try.ntmps13
  go_wp2_with (first | ((with_reducible refine y18 (N := 2) rfl ?_); refine qe 2 #[.int .i64 a0_0,.int .i64 a0_1,.slice A0_2 l0_2.length c0_2] 28 ?_; intro gb245 hg w5 hbox hb; have BK245 := y0.mk (hbox); have GW245 := y0.mk (qg (w := w) hg); have GE245 := y0.mk (qg (w := w) hg); replace HB := y0.mk (y5 qb hb); clear hb hbox hg; obtain ⟨hcz6_0,hcz6_1,hcz6_2,hfz6_0,hfz6_1,hfz6_2⟩ := qz3 BK245.out) | ((with_reducible refine y17 (f := 33) rfl ?_); refine goesL_ (some 8) rfl rfl Try.func33 (by kernel_rfl) rfl #[.slice A0_2 l0_2.length c0_2,.int .i64 a1] rfl qy0 ?_; (with_reducible refine (laws_heldArcS.calls k _ _ l0_2 a1 t246 _ (qc (Kd.C_below HR0_2.out HB.out)) HC0_2.out A3.out).mono ?_); rintro e w' ⟨rfl,⟨nd,rfl⟩⟩; refine ⟨_,rfl, ?_⟩))
  go_ret
  exact ⟨by first | rfl | (simp [y15,y16] <;> rfl) | (simp [*,y15,y16] <;> rfl),qb⟩
 ·rw [if_neg c4] at H
  have c4b0 := decide_eq_false c4
  clear c4
  obtain rfl := Option.some.inj H
  go_enter Try.func13,Try.ntmps13
  go_wp2_with (first | ((with_reducible refine y18 (N := 2) rfl ?_); refine qe 2 #[.int .i64 a0_0,.int .i64 a0_1,.slice A0_2 l0_2.length c0_2] 28 ?_; intro gb245 hg w7 hbox hb; have BK245 := y0.mk (hbox); have GW245 := y0.mk (qg (w := w) hg); have GE245 := y0.mk (qg (w := w) hg); replace HB := y0.mk (y5 qb hb); clear hb hbox hg; obtain ⟨hcz8_0,hcz8_1,hcz8_2,hfz8_0,hfz8_1,hfz8_2⟩ := qz3 BK245.out) | ((with_reducible refine y17 (f := 33) rfl ?_); refine goesL_ (some 8) rfl rfl Try.func33 (by kernel_rfl) rfl #[.slice A0_2 l0_2.length c0_2,.int .i64 a1] rfl qy0 ?_; (with_reducible refine (laws_heldArcS.calls k _ _ l0_2 a1 t246 _ (qc (Kd.C_below HR0_2.out HB.out)) HC0_2.out A3.out).mono ?_); rintro e w' ⟨rfl,⟨nd,rfl⟩⟩; refine ⟨_,rfl, ?_⟩))
  go_ret
  exact ⟨by first | rfl | (simp [y15,y16] <;> rfl) | (simp [*,y15,y16] <;> rfl),qb⟩
end Go.Proofs.Ytcckpjflbfofjaa.Pd
end
