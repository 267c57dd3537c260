-- Cut by prune.py, a program of this session, out of the texts of this claim: Lean checks it.
import Derived.Test.YtcckpjflbfofjaaVfaPdx0
import Derived.Test.YtcckpjflbfofjaaVfaPdx4
section
namespace Go.Proofs.Ytcckpjflbfofjaa.Pd
open Go.RowKit Go.Proofs.YtcckpjflbfofjaaW.PrintWords Go.Proofs.YtcckpjflbfofjaaW.PrintLast Go.Proofs.YtcckpjflbfofjaaW.PrintMore
attribute [local go_sem] max2_int min2_int max_two min_two max_three min_three max_four min_four   -- for this text's walks alone
set_option linter.unusedVariables false
set_option linter.unusedSimpArgs false
mutual
def spec_Falls.j0 : Nat → Bool → Int → Int → List (S53) → Option (Bool)
 | 0,_,_,_,_ => none
 | k + 1,x22,x155000,x155001,x155002 => if x22 = true then (some true) else (spec_Falls.l0 k 0 x155000 x155001 x155002)
def spec_Falls.l0 : Nat → Int → Int → Int → List (S53) → Option (Bool)
 | 0,_,_,_,_ => none
 | k + 1,x5,x155000,x155001,x155002 => if x5 < (x155002.length : Int) then (if 0 ≤ x5 then (if (y19 x155002 x5).f2 = true then (if ((y19 x155002 x5).f0) = ((y19 x155002 x5).f1) then (some true) else (spec_Falls.l0 k (wrap64 (x5 + 1)) x155000 x155001 x155002)) else (spec_Falls.l0 k (wrap64 (x5 + 1)) x155000 x155001 x155002)) else (none)) else (some false)
end
def spec_Falls.f (k : Nat) (a0_0 : Int) (a0_1 : Int) (l0_2 : List (S53)) : Option (Bool) := (z1_.f k a0_0 a0_1 l0_2).bind fun t155 => (if t155 = true then ((z0_.f k a0_0 a0_1 l0_2 a0_0 a0_1 l0_2).bind fun bt156 => (if bt156.2.2.2 = true then ((spec_l08Same.f k a0_0 a0_1 l0_2 bt156.1 bt156.2.1 bt156.2.2.1).bind fun t163 => (spec_Falls.j0 k (!t163) a0_0 a0_1 l0_2)) else (spec_Falls.j0 k true a0_0 a0_1 l0_2))) else (some false))
set_option maxHeartbeats 8000000 in
set_option maxRecDepth 100000 in
theorem spec_Falls.calls (k : Nat) (a0_0 : Int) (a0_1 : Int) (A0_2 : Option Addr) (c0_2 : Nat) (l0_2 : List (S53)) (r : Bool) (w : World) (hr0_2 : Kd.C k53 w A0_2 l0_2.length l0_2) (hc0_2 : l0_2.length ≤ c0_2) (h : spec_Falls.f k a0_0 a0_1 l0_2 = some r) :
  Calls Try.prog 14 #[.agg #[.int .i64 a0_0,.int .i64 a0_1,.slice A0_2 l0_2.length c0_2]] w fun e w' => e = .returned (.bool r) ∧ Below w.heap.size w w' := by
 have hu28 := Try.underlying28
 have HR0_2 := y0.mk hr0_2
 have HC0_2 := y0.mk hc0_2
 clear hr0_2 hc0_2
 have HB := y0.mk (Below.refl w.heap.size w)
 have H : ((z1_.f k a0_0 a0_1 l0_2).bind fun t155 => (if t155 = true then ((z0_.f k a0_0 a0_1 l0_2 a0_0 a0_1 l0_2).bind fun bt156 => (if bt156.2.2.2 = true then ((spec_l08Same.f k a0_0 a0_1 l0_2 bt156.1 bt156.2.1 bt156.2.2.1).bind fun t163 => (spec_Falls.j0 k (!t163) a0_0 a0_1 l0_2)) else (spec_Falls.j0 k true a0_0 a0_1 l0_2))) else (some false))) = some r := h
 clear h
 obtain ⟨t155,A2,H⟩ := qB H
 by_cases c3 : t155 = true
 ·subst c3
  replace H := qT H
  obtain ⟨⟨t156,t157,t158,t161⟩,A4,H⟩ := qB H
  replace H : (if t161 = true then ((spec_l08Same.f k a0_0 a0_1 l0_2 t156 t157 t158).bind fun t163 => (spec_Falls.j0 k (!t163) a0_0 a0_1 l0_2)) else (spec_Falls.j0 k true a0_0 a0_1 l0_2)) = some r := H
  have HC5 := y0.mk H
  clear H
  go_enter Try.func14,Try.ntmps14
  go_upto_region 4 with (first | ((with_reducible refine y15 (N := 1) rfl ?_); refine qe 1 #[.int .i64 a0_0,.int .i64 a0_1,.slice A0_2 l0_2.length c0_2] 28 ?_; intro gb154 hg w6 hbox hb; have BK154 := y0.mk (hbox); have GW154 := y0.mk (qg (w := w) hg); have GE154 := y0.mk (qg (w := w) hg); replace HB := y0.mk (y4 qb hb); clear hb hbox hg; obtain ⟨hcz7_0,hcz7_1,hcz7_2,hfz7_0,hfz7_1,hfz7_2⟩ := qz3 BK154.out) | (go_at_call 27; (with_reducible refine (z1_.calls k a0_0 a0_1 _ _ l0_2 true _ (qc (Kd.C_below HR0_2.out HB.out)) HC0_2.out A2.out).mono ?_); rintro e w8 ⟨rfl,hb⟩; replace BK154 := y0.mk (qK BK154.out hb); replace HB := y0.mk (y4 qb hb); (try clear hb); (try clear hb2); (try clear hk); (try clear hi); obtain ⟨hcz9_0,hcz9_1,hcz9_2,hfz9_0,hfz9_1,hfz9_2⟩ := qz3 BK154.out) | (go_at_call 8; (with_reducible refine (z0_.calls k a0_0 a0_1 _ _ l0_2 a0_0 a0_1 _ _ l0_2 t156 t157 t158 t161 _ (qc (Kd.C_below HR0_2.out HB.out)) HC0_2.out (qc (Kd.C_below HR0_2.out HB.out)) HC0_2.out A4.out).mono ?_); rintro e w10 ⟨v159,rfl,ho0,hb⟩; have HO160 := y0.mk (Kd.R_lower ho0 (below_size qb)); replace BK154 := y0.mk (qK BK154.out hb); replace HB := y0.mk (y4 qb hb); (try clear hb); (try clear hb2); (try clear hk); (try clear hi); (try clear ho0)) | ((with_reducible refine y15 (N := 3) rfl ?_); refine qe 3 #[.int .i64 0,.int .i64 0,.slice none 0 0] 28 ?_; intro gb162 hg w11 hbox hb; replace HO160 := y0.mk (Kd.R_below (qR HO160.out) hb); have BK162 := y0.mk (hbox); have GW162 := y0.mk (qg (w := w) hg); have GE162 := y0.mk (qg (w := w) hg); replace HB := y0.mk (y4 qb hb); have NB154_162 := y0.mk (qn BK154.out hg); have NB162_154 := y0.mk (qm BK154.out hg); replace BK154 := y0.mk (qK BK154.out hb); clear hb hbox hg; have hnb12 := NB162_154.out; have hnc12 := NB154_162.out; obtain ⟨hcz13_0,hcz13_1,hcz13_2,hfz13_0,hfz13_1,hfz13_2⟩ := qz3 BK162.out; obtain ⟨Ao14,co14,eo14⟩ := Kd.R_slice HO160.out; subst eo14))
  repeat (go_quiet (first | ((with_reducible refine y15 (N := 1) rfl ?_); refine qe 1 #[.int .i64 a0_0,.int .i64 a0_1,.slice A0_2 l0_2.length c0_2] 28 ?_; intro gb154 hg w6 hbox hb; have BK154 := y0.mk (hbox); have GW154 := y0.mk (qg (w := w) hg); have GE154 := y0.mk (qg (w := w) hg); replace HB := y0.mk (y4 qb hb); clear hb hbox hg; obtain ⟨hcz7_0,hcz7_1,hcz7_2,hfz7_0,hfz7_1,hfz7_2⟩ := qz3 BK154.out) | (go_at_call 27; (with_reducible refine (z1_.calls k a0_0 a0_1 _ _ l0_2 true _ (qc (Kd.C_below HR0_2.out HB.out)) HC0_2.out A2.out).mono ?_); rintro e w8 ⟨rfl,hb⟩; replace BK154 := y0.mk (qK BK154.out hb); replace HB := y0.mk (y4 qb hb); (try clear hb); (try clear hb2); (try clear hk); (try clear hi); obtain ⟨hcz9_0,hcz9_1,hcz9_2,hfz9_0,hfz9_1,hfz9_2⟩ := qz3 BK154.out) | (go_at_call 8; (with_reducible refine (z0_.calls k a0_0 a0_1 _ _ l0_2 a0_0 a0_1 _ _ l0_2 t156 t157 t158 t161 _ (qc (Kd.C_below HR0_2.out HB.out)) HC0_2.out (qc (Kd.C_below HR0_2.out HB.out)) HC0_2.out A4.out).mono ?_); rintro e w10 ⟨v159,rfl,ho0,hb⟩; have HO160 := y0.mk (Kd.R_lower ho0 (below_size qb)); replace BK154 := y0.mk (qK BK154.out hb); replace HB := y0.mk (y4 qb hb); (try clear hb); (try clear hb2); (try clear hk); (try clear hi); (try clear ho0)) | ((with_reducible refine y15 (N := 3) rfl ?_); refine qe 3 #[.int .i64 0,.int .i64 0,.slice none 0 0] 28 ?_; intro gb162 hg w11 hbox hb; replace HO160 := y0.mk (Kd.R_below (qR HO160.out) hb); have BK162 := y0.mk (hbox); have GW162 := y0.mk (qg (w := w) hg); have GE162 := y0.mk (qg (w := w) hg); replace HB := y0.mk (y4 qb hb); have NB154_162 := y0.mk (qn BK154.out hg); have NB162_154 := y0.mk (qm BK154.out hg); replace BK154 := y0.mk (qK BK154.out hb); clear hb hbox hg; have hnb12 := NB162_154.out; have hnc12 := NB154_162.out; obtain ⟨hcz13_0,hcz13_1,hcz13_2,hfz13_0,hfz13_1,hfz13_2⟩ := qz3 BK162.out; obtain ⟨Ao14,co14,eo14⟩ := Kd.R_slice HO160.out; subst eo14)); go_upto_region 4 with (first | ((with_reducible refine y15 (N := 1) rfl ?_); refine qe 1 #[.int .i64 a0_0,.int .i64 a0_1,.slice A0_2 l0_2.length c0_2] 28 ?_; intro gb154 hg w6 hbox hb; have BK154 := y0.mk (hbox); have GW154 := y0.mk (qg (w := w) hg); have GE154 := y0.mk (qg (w := w) hg); replace HB := y0.mk (y4 qb hb); clear hb hbox hg; obtain ⟨hcz7_0,hcz7_1,hcz7_2,hfz7_0,hfz7_1,hfz7_2⟩ := qz3 BK154.out) | (go_at_call 27; (with_reducible refine (z1_.calls k a0_0 a0_1 _ _ l0_2 true _ (qc (Kd.C_below HR0_2.out HB.out)) HC0_2.out A2.out).mono ?_); rintro e w8 ⟨rfl,hb⟩; replace BK154 := y0.mk (qK BK154.out hb); replace HB := y0.mk (y4 qb hb); (try clear hb); (try clear hb2); (try clear hk); (try clear hi); obtain ⟨hcz9_0,hcz9_1,hcz9_2,hfz9_0,hfz9_1,hfz9_2⟩ := qz3 BK154.out) | (go_at_call 8; (with_reducible refine (z0_.calls k a0_0 a0_1 _ _ l0_2 a0_0 a0_1 _ _ l0_2 t156 t157 t158 t161 _ (qc (Kd.C_below HR0_2.out HB.out)) HC0_2.out (qc (Kd.C_below HR0_2.out HB.out)) HC0_2.out A4.out).mono ?_); rintro e w10 ⟨v159,rfl,ho0,hb⟩; have HO160 := y0.mk (Kd.R_lower ho0 (below_size qb)); replace BK154 := y0.mk (qK BK154.out hb); replace HB := y0.mk (y4 qb hb); (try clear hb); (try clear hb2); (try clear hk); (try clear hi); (try clear ho0)) | ((with_reducible refine y15 (N := 3) rfl ?_); refine qe 3 #[.int .i64 0,.int .i64 0,.slice none 0 0] 28 ?_; intro gb162 hg w11 hbox hb; replace HO160 := y0.mk (Kd.R_below (qR HO160.out) hb); have BK162 := y0.mk (hbox); have GW162 := y0.mk (qg (w := w) hg); have GE162 := y0.mk (qg (w := w) hg); replace HB := y0.mk (y4 qb hb); have NB154_162 := y0.mk (qn BK154.out hg); have NB162_154 := y0.mk (qm BK154.out hg); replace BK154 := y0.mk (qK BK154.out hb); clear hb hbox hg; have hnb12 := NB162_154.out; have hnc12 := NB154_162.out; obtain ⟨hcz13_0,hcz13_1,hcz13_2,hfz13_0,hfz13_1,hfz13_2⟩ := qz3 BK162.out; obtain ⟨Ao14,co14,eo14⟩ := Kd.R_slice HO160.out; subst eo14)))
  (try simp only [Act.put,qS_,qZ_,qC_])
  go_cut [22] (fun v22 wc => ∃ (kq : Nat) (x22_4 : Bool),v22 = .bool x22_4 ∧ y0 (spec_Falls.j0 kq x22_4 a0_0 a0_1 l0_2 = some r) ∧ y0 (kq ≤ k) ∧ y0 (Kd.R k53 53 wc w.heap.size (fun _ => True) (.slice Ao14 t158.length co14) t158) ∧ y0 (wc.heap[gb154]? = some (.cells #[.int .i64 a0_0,.int .i64 a0_1,(.slice A0_2 l0_2.length c0_2)] 28 (0,0))) ∧ y0 (wc.heap[gb162]? = some (.cells #[.int .i64 t156,.int .i64 t157,(.slice Ao14 t158.length co14)] 28 (0,0))) ∧ y0 (Below w.heap.size w wc))
  case first =>
   have H := HC5.out
   clear HC5
   by_cases c15 : t161 = true
   ·subst c15
    replace H := qT H
    obtain ⟨t163,A16,H⟩ := qB H
    have H' := y0.mk H
    clear H
    have hnb17 := NB154_162.out
    have hnc17 := NB162_154.out
    obtain ⟨hcz18_0,hcz18_1,hcz18_2,hfz18_0,hfz18_1,hfz18_2⟩ := qz3 BK154.out
    obtain ⟨hcz19_0,hcz19_1,hcz19_2,hfz19_0,hfz19_1,hfz19_2⟩ := qz3 BK162.out
    go_wp2_with (first | (go_at_call 34; (with_reducible refine (spec_l08Same.calls k a0_0 a0_1 _ _ l0_2 t156 t157 _ _ t158 t163 _ (by exact Kd.C_below HR0_2.out qb) HC0_2.out (by refine (Kd.R_reads' (e := 53) (base := w.heap.size) (ok := fun k_ => True) (n := t158.length) (c := co14) ?_).2.2; exact (qR ((Kd.R_mono (Kd.R_far (p := ⟨gb162,2,none⟩) (Kd.R_far (p := ⟨gb162,1,none⟩) (Kd.R_far (p := ⟨gb162,0,none⟩) (Kd.R_types HO160.out BK162.out (by decide)) (fun _ hk => hk.2) (.int .i64 t156)) (fun _ hk => hk.2) (.int .i64 t157)) (fun _ hk => hk.2) (.slice Ao14 t158.length co14)) (fun _ h_ => h_.1))))) (by exact (Kd.R_reads' HO160.out).2.1) A16.out).mono ?_); rintro e w20 ⟨rfl,hb⟩; replace HO160 := y0.mk (Kd.R_below (qR ((Kd.R_mono (Kd.R_far (p := ⟨gb162,2,none⟩) (Kd.R_far (p := ⟨gb162,1,none⟩) (Kd.R_far (p := ⟨gb162,0,none⟩) (Kd.R_types HO160.out BK162.out (by decide)) (fun _ hk => hk.2) (.int .i64 t156)) (fun _ hk => hk.2) (.int .i64 t157)) (fun _ hk => hk.2) (.slice Ao14 t158.length co14)) (fun _ h_ => h_.1)))) hb); replace BK154 := y0.mk (y6 (g := gb154) (o := .cells #[.int .i64 a0_0,.int .i64 a0_1,.slice A0_2 l0_2.length c0_2] 28 (0,0)) (by (with_reducible repeat (first | refine y9 ?_ _ | refine y8 ?_ | refine y5 ?_ _)); refine blk_far ?_ NB154_162.out _; (with_reducible repeat (first | refine y9 ?_ _ | refine y8 ?_ | refine y5 ?_ _)); refine blk_far ?_ NB154_162.out _; (with_reducible repeat (first | refine y9 ?_ _ | refine y8 ?_ | refine y5 ?_ _)); refine blk_far ?_ NB154_162.out _; (with_reducible repeat (first | refine y9 ?_ _ | refine y8 ?_ | refine y5 ?_ _)); exact BK154.out) hb); replace BK162 := y0.mk (y6 (g := gb162) (o := .cells #[.int .i64 t156,.int .i64 t157,.slice Ao14 t158.length co14] 28 (0,0)) (by (with_reducible repeat (first | refine y9 ?_ _ | refine y8 ?_ | refine y5 ?_ _)); refine y12 (cs := #[.int .i64 t156,.int .i64 t157,.slice none 0 0]) ?_ 2 _ rfl; (with_reducible repeat (first | refine y9 ?_ _ | refine y8 ?_ | refine y5 ?_ _)); refine y12 (cs := #[.int .i64 t156,.int .i64 0,.slice none 0 0]) ?_ 1 _ rfl; (with_reducible repeat (first | refine y9 ?_ _ | refine y8 ?_ | refine y5 ?_ _)); refine y12 (cs := #[.int .i64 0,.int .i64 0,.slice none 0 0]) ?_ 0 _ rfl; (with_reducible repeat (first | refine y9 ?_ _ | refine y8 ?_ | refine y5 ?_ _)); exact BK162.out) hb); replace HB := y0.mk (y4 qb hb); (try clear hb); (try clear hb2); (try clear hk); (try clear hi)))
    repeat (go_quiet (first | (go_at_call 34; (with_reducible refine (spec_l08Same.calls k a0_0 a0_1 _ _ l0_2 t156 t157 _ _ t158 t163 _ (by exact Kd.C_below HR0_2.out qb) HC0_2.out (by refine (Kd.R_reads' (e := 53) (base := w.heap.size) (ok := fun k_ => True) (n := t158.length) (c := co14) ?_).2.2; exact (qR ((Kd.R_mono (Kd.R_far (p := ⟨gb162,2,none⟩) (Kd.R_far (p := ⟨gb162,1,none⟩) (Kd.R_far (p := ⟨gb162,0,none⟩) (Kd.R_types HO160.out BK162.out (by decide)) (fun _ hk => hk.2) (.int .i64 t156)) (fun _ hk => hk.2) (.int .i64 t157)) (fun _ hk => hk.2) (.slice Ao14 t158.length co14)) (fun _ h_ => h_.1))))) (by exact (Kd.R_reads' HO160.out).2.1) A16.out).mono ?_); rintro e w20 ⟨rfl,hb⟩; replace HO160 := y0.mk (Kd.R_below (qR ((Kd.R_mono (Kd.R_far (p := ⟨gb162,2,none⟩) (Kd.R_far (p := ⟨gb162,1,none⟩) (Kd.R_far (p := ⟨gb162,0,none⟩) (Kd.R_types HO160.out BK162.out (by decide)) (fun _ hk => hk.2) (.int .i64 t156)) (fun _ hk => hk.2) (.int .i64 t157)) (fun _ hk => hk.2) (.slice Ao14 t158.length co14)) (fun _ h_ => h_.1)))) hb); replace BK154 := y0.mk (y6 (g := gb154) (o := .cells #[.int .i64 a0_0,.int .i64 a0_1,.slice A0_2 l0_2.length c0_2] 28 (0,0)) (by (with_reducible repeat (first | refine y9 ?_ _ | refine y8 ?_ | refine y5 ?_ _)); refine blk_far ?_ NB154_162.out _; (with_reducible repeat (first | refine y9 ?_ _ | refine y8 ?_ | refine y5 ?_ _)); refine blk_far ?_ NB154_162.out _; (with_reducible repeat (first | refine y9 ?_ _ | refine y8 ?_ | refine y5 ?_ _)); refine blk_far ?_ NB154_162.out _; (with_reducible repeat (first | refine y9 ?_ _ | refine y8 ?_ | refine y5 ?_ _)); exact BK154.out) hb); replace BK162 := y0.mk (y6 (g := gb162) (o := .cells #[.int .i64 t156,.int .i64 t157,.slice Ao14 t158.length co14] 28 (0,0)) (by (with_reducible repeat (first | refine y9 ?_ _ | refine y8 ?_ | refine y5 ?_ _)); refine y12 (cs := #[.int .i64 t156,.int .i64 t157,.slice none 0 0]) ?_ 2 _ rfl; (with_reducible repeat (first | refine y9 ?_ _ | refine y8 ?_ | refine y5 ?_ _)); refine y12 (cs := #[.int .i64 t156,.int .i64 0,.slice none 0 0]) ?_ 1 _ rfl; (with_reducible repeat (first | refine y9 ?_ _ | refine y8 ?_ | refine y5 ?_ _)); refine y12 (cs := #[.int .i64 0,.int .i64 0,.slice none 0 0]) ?_ 0 _ rfl; (with_reducible repeat (first | refine y9 ?_ _ | refine y8 ?_ | refine y5 ?_ _)); exact BK162.out) hb); replace HB := y0.mk (y4 qb hb); (try clear hb); (try clear hb2); (try clear hk); (try clear hi))); try go_wp2_with (first | (go_at_call 34; (with_reducible refine (spec_l08Same.calls k a0_0 a0_1 _ _ l0_2 t156 t157 _ _ t158 t163 _ (by exact Kd.C_below HR0_2.out qb) HC0_2.out (by refine (Kd.R_reads' (e := 53) (base := w.heap.size) (ok := fun k_ => True) (n := t158.length) (c := co14) ?_).2.2; exact (qR ((Kd.R_mono (Kd.R_far (p := ⟨gb162,2,none⟩) (Kd.R_far (p := ⟨gb162,1,none⟩) (Kd.R_far (p := ⟨gb162,0,none⟩) (Kd.R_types HO160.out BK162.out (by decide)) (fun _ hk => hk.2) (.int .i64 t156)) (fun _ hk => hk.2) (.int .i64 t157)) (fun _ hk => hk.2) (.slice Ao14 t158.length co14)) (fun _ h_ => h_.1))))) (by exact (Kd.R_reads' HO160.out).2.1) A16.out).mono ?_); rintro e w20 ⟨rfl,hb⟩; replace HO160 := y0.mk (Kd.R_below (qR ((Kd.R_mono (Kd.R_far (p := ⟨gb162,2,none⟩) (Kd.R_far (p := ⟨gb162,1,none⟩) (Kd.R_far (p := ⟨gb162,0,none⟩) (Kd.R_types HO160.out BK162.out (by decide)) (fun _ hk => hk.2) (.int .i64 t156)) (fun _ hk => hk.2) (.int .i64 t157)) (fun _ hk => hk.2) (.slice Ao14 t158.length co14)) (fun _ h_ => h_.1)))) hb); replace BK154 := y0.mk (y6 (g := gb154) (o := .cells #[.int .i64 a0_0,.int .i64 a0_1,.slice A0_2 l0_2.length c0_2] 28 (0,0)) (by (with_reducible repeat (first | refine y9 ?_ _ | refine y8 ?_ | refine y5 ?_ _)); refine blk_far ?_ NB154_162.out _; (with_reducible repeat (first | refine y9 ?_ _ | refine y8 ?_ | refine y5 ?_ _)); refine blk_far ?_ NB154_162.out _; (with_reducible repeat (first | refine y9 ?_ _ | refine y8 ?_ | refine y5 ?_ _)); refine blk_far ?_ NB154_162.out _; (with_reducible repeat (first | refine y9 ?_ _ | refine y8 ?_ | refine y5 ?_ _)); exact BK154.out) hb); replace BK162 := y0.mk (y6 (g := gb162) (o := .cells #[.int .i64 t156,.int .i64 t157,.slice Ao14 t158.length co14] 28 (0,0)) (by (with_reducible repeat (first | refine y9 ?_ _ | refine y8 ?_ | refine y5 ?_ _)); refine y12 (cs := #[.int .i64 t156,.int .i64 t157,.slice none 0 0]) ?_ 2 _ rfl; (with_reducible repeat (first | refine y9 ?_ _ | refine y8 ?_ | refine y5 ?_ _)); refine y12 (cs := #[.int .i64 t156,.int .i64 0,.slice none 0 0]) ?_ 1 _ rfl; (with_reducible repeat (first | refine y9 ?_ _ | refine y8 ?_ | refine y5 ?_ _)); refine y12 (cs := #[.int .i64 0,.int .i64 0,.slice none 0 0]) ?_ 0 _ rfl; (with_reducible repeat (first | refine y9 ?_ _ | refine y8 ?_ | refine y5 ?_ _)); exact BK162.out) hb); replace HB := y0.mk (y4 qb hb); (try clear hb); (try clear hb2); (try clear hk); (try clear hi))))
    go_meet
    exact ⟨_,(!t163),qy2,H',⟨by first | omega | exact Nat.le_refl _⟩,⟨qR HO160.out⟩,⟨qk BK154.out⟩,⟨qk BK162.out⟩,⟨qb⟩⟩
   ·replace c15 := Bool.eq_false_iff.mpr c15
    subst c15
    replace H := qF H
    have H' := y0.mk H
    clear H
    go_wp2
    repeat (go_quiet (fail); try go_wp2)
    go_meet
    exact ⟨_,(true),qy2,H',⟨by first | omega | exact Nat.le_refl _⟩,⟨qR (Kd.R_mono (Kd.R_far (p := ⟨gb162,2,none⟩) (Kd.R_far (p := ⟨gb162,1,none⟩) (Kd.R_far (p := ⟨gb162,0,none⟩) (Kd.R_types HO160.out BK162.out (by decide)) (fun _ hk => hk.2) (.int .i64 t156)) (fun _ hk => hk.2) (.int .i64 t157)) (fun _ hk => hk.2) (.slice Ao14 t158.length co14)) (fun _ hk => trivial))⟩,⟨by (with_reducible repeat (first | refine y9 ?_ _ | refine y8 ?_ | refine y5 ?_ _)); refine blk_far ?_ NB154_162.out _; (with_reducible repeat (first | refine y9 ?_ _ | refine y8 ?_ | refine y5 ?_ _)); refine blk_far ?_ NB154_162.out _; (with_reducible repeat (first | refine y9 ?_ _ | refine y8 ?_ | refine y5 ?_ _)); refine blk_far ?_ NB154_162.out _; (with_reducible repeat (first | refine y9 ?_ _ | refine y8 ?_ | refine y5 ?_ _)); exact BK154.out⟩,⟨by (with_reducible repeat (first | refine y9 ?_ _ | refine y8 ?_ | refine y5 ?_ _)); refine y12 (cs := #[.int .i64 t156,.int .i64 t157,.slice none 0 0]) ?_ 2 _ rfl; (with_reducible repeat (first | refine y9 ?_ _ | refine y8 ?_ | refine y5 ?_ _)); refine y12 (cs := #[.int .i64 t156,.int .i64 0,.slice none 0 0]) ?_ 1 _ rfl; (with_reducible repeat (first | refine y9 ?_ _ | refine y8 ?_ | refine y5 ?_ _)); refine y12 (cs := #[.int .i64 0,.int .i64 0,.slice none 0 0]) ?_ 0 _ rfl; (with_reducible repeat (first | refine y9 ?_ _ | refine y8 ?_ | refine y5 ?_ _)); exact BK162.out⟩,⟨qb⟩⟩
  case rest =>
   clear HC5
   (try clear c3 hcz13_0 hcz13_1 hcz13_2 hcz7_0 hcz7_1 hcz7_2 hcz9_0 hcz9_1 hcz9_2 hfz13_0 hfz13_1 hfz13_2 hfz7_0 hfz7_1 hfz7_2 hfz9_0 hfz9_1 hfz9_2)
   obtain ⟨kq,x22_4,rfl,HA,HJ4,HO_163002,BK154,BK162,HB⟩ := hcut
   cases kq with
   | zero => exact absurd HA.out (by simp [spec_Falls.j0])
   | succ kj4 =>
    have H := HA.out
    clear HA
    simp only [spec_Falls.j0] at H
    by_cases c21 : x22_4 = true
    ·subst c21
     replace H := qT H
     obtain rfl := Option.some.inj H
     go_wp2
     repeat (go_quiet (fail); try go_wp2)
     go_ret
     exact ⟨by first | rfl | (simp [y13,y14] <;> rfl) | (simp [*,y13,y14] <;> rfl),qb⟩
    ·replace c21 := Bool.eq_false_iff.mpr c21
     subst c21
     replace H := qF H
     have H' := y0.mk H
     clear H
     go_wp2
     repeat (go_quiet (fail); try go_wp2)
     go_loopg [5] kj4 (fun kq v5 w' => ∃ (x5_2 : Int),v5 = .int .i64 x5_2 ∧ y0 (spec_Falls.l0 kq x5_2 a0_0 a0_1 l0_2 = some r) ∧ y0 (kq ≤ kj4) ∧ y0 (Kd.R k53 53 w' w.heap.size (fun _ => True) (.slice Ao14 t158.length co14) t158) ∧ y0 (w'.heap[gb154]? = some (.cells #[.int .i64 a0_0,.int .i64 a0_1,(.slice A0_2 l0_2.length c0_2)] 28 (0,0))) ∧ y0 (w'.heap[gb162]? = some (.cells #[.int .i64 t156,.int .i64 t157,(.slice Ao14 t158.length co14)] 28 (0,0))) ∧ y0 (Below w.heap.size w w'))
     case atStart => exact ⟨(0),qy2,H',⟨Nat.le_refl _⟩,⟨qR HO_163002.out⟩,⟨qk BK154.out⟩,⟨qk BK162.out⟩,⟨qb⟩⟩
     case round =>
      clear H'
      (try clear c21)
      obtain ⟨x5_2,rfl,HA,HK2,HO_163002,BK154,BK162,HB⟩ := hrel
      cases gk with
      | zero => exact absurd HA.out (by simp [spec_Falls.l0])
      | succ k2 =>
       have H := HA.out
       clear HA
       simp only [spec_Falls.l0] at H
       by_cases c22 : x5_2 < (l0_2.length : Int)
       ·rw [if_pos c22] at H
        have c22b0 := decide_eq_true c22
        clear c22
        obtain ⟨c23,H⟩ := qo H
        have c23b0 : decide (0 ≤ x5_2) = true := decide_eq_true c23
        clear c23
        obtain ⟨bq24,hbq24⟩ : ∃ b_ : Bool,b_ = ((y19 l0_2 x5_2).f2) := ⟨_,rfl⟩
        replace H : (if bq24 = true then (if ((y19 l0_2 x5_2).f0) = ((y19 l0_2 x5_2).f1) then (some true) else (spec_Falls.l0 k2 (wrap64 (x5_2 + 1)) a0_0 a0_1 l0_2)) else (spec_Falls.l0 k2 (wrap64 (x5_2 + 1)) a0_0 a0_1 l0_2)) = some r := by rw [← hbq24] at H; exact H
        have Nbq24 := y0.mk hbq24
        clear hbq24
        by_cases c25 : bq24 = true
        ·subst c25
         replace H := qT H
         by_cases c26 : ((y19 l0_2 x5_2).f0) = ((y19 l0_2 x5_2).f1)
         ·rw [if_pos c26] at H
          have c26b0 : (((y19 l0_2 x5_2).f0) == ((y19 l0_2 x5_2).f1)) = true := beq_iff_eq.mpr c26
          have c26b1 : (((y19 l0_2 x5_2).f0) != ((y19 l0_2 x5_2).f1)) = false := bne_eq_false_iff_eq.mpr c26
          clear c26
          obtain rfl := Option.some.inj H
          have hnb27 := NB154_162.out
          have hnc27 := NB162_154.out
          obtain ⟨hcz28_0,hcz28_1,hcz28_2,hfz28_0,hfz28_1,hfz28_2⟩ := qz3 BK154.out
          have p164 : 0 ≤ (x5_2 : Int) := of_decide_eq_true qy1
          have q164 : x5_2 < (l0_2.length : Int) := of_decide_eq_true qy1
          obtain ⟨ad164,e164,hx164_0,hx164_1,hx164_2⟩ := at_T53 HR0_2.out x5_2 p164 q164
          (try rw [← Nbq24.out] at hx164_2)
          cases e164
          replace hx164_0 := (HB.out.cell (World.block_lt_of_cell? w _ hx164_0)).trans hx164_0
          replace hx164_1 := (HB.out.cell (World.block_lt_of_cell? w _ hx164_1)).trans hx164_1
          replace hx164_2 := (HB.out.cell (World.block_lt_of_cell? w _ hx164_2)).trans hx164_2
          replace p164 := eq_true p164
          replace q164 := eq_true q164
          have p165 : 0 ≤ (x5_2 : Int) := of_decide_eq_true qy1
          have q165 : x5_2 < (l0_2.length : Int) := of_decide_eq_true qy1
          obtain ⟨ad165,e165,hx165_0,hx165_1,hx165_2⟩ := at_T53 HR0_2.out x5_2 p165 q165
          (try rw [← Nbq24.out] at hx165_2)
          obtain rfl : ad164 = ad165 := (by injection e165)
          replace hx165_0 := (HB.out.cell (World.block_lt_of_cell? w _ hx165_0)).trans hx165_0
          replace hx165_1 := (HB.out.cell (World.block_lt_of_cell? w _ hx165_1)).trans hx165_1
          replace hx165_2 := (HB.out.cell (World.block_lt_of_cell? w _ hx165_2)).trans hx165_2
          replace p165 := eq_true p165
          replace q165 := eq_true q165
          have p166 : 0 ≤ (x5_2 : Int) := of_decide_eq_true qy1
          have q166 : x5_2 < (l0_2.length : Int) := of_decide_eq_true qy1
          obtain ⟨ad166,e166,hx166_0,hx166_1,hx166_2⟩ := at_T53 HR0_2.out x5_2 p166 q166
          (try rw [← Nbq24.out] at hx166_2)
          obtain rfl : ad164 = ad166 := (by injection e166)
          replace hx166_0 := (HB.out.cell (World.block_lt_of_cell? w _ hx166_0)).trans hx166_0
          replace hx166_1 := (HB.out.cell (World.block_lt_of_cell? w _ hx166_1)).trans hx166_1
          replace hx166_2 := (HB.out.cell (World.block_lt_of_cell? w _ hx166_2)).trans hx166_2
          replace p166 := eq_true p166
          replace q166 := eq_true q166
          go_wp2
          repeat (go_quiet (fail); try go_wp2)
          go_ret
          exact ⟨by first | rfl | (simp [y13,y14] <;> rfl) | (simp [*,y13,y14] <;> rfl),qb⟩
         ·rw [if_neg c26] at H
          have c26b0 : (((y19 l0_2 x5_2).f0) == ((y19 l0_2 x5_2).f1)) = false := beq_eq_false_iff_ne.mpr c26
          have c26b1 : (((y19 l0_2 x5_2).f0) != ((y19 l0_2 x5_2).f1)) = true := bne_iff_ne.mpr c26
          have H' := y0.mk H
          clear H
          have hnb29 := NB154_162.out
          have hnc29 := NB162_154.out
          obtain ⟨hcz30_0,hcz30_1,hcz30_2,hfz30_0,hfz30_1,hfz30_2⟩ := qz3 BK154.out
          have p164 : 0 ≤ (x5_2 : Int) := of_decide_eq_true qy1
          have q164 : x5_2 < (l0_2.length : Int) := of_decide_eq_true qy1
          obtain ⟨ad164,e164,hx164_0,hx164_1,hx164_2⟩ := at_T53 HR0_2.out x5_2 p164 q164
          (try rw [← Nbq24.out] at hx164_2)
          cases e164
          replace hx164_0 := (HB.out.cell (World.block_lt_of_cell? w _ hx164_0)).trans hx164_0
          replace hx164_1 := (HB.out.cell (World.block_lt_of_cell? w _ hx164_1)).trans hx164_1
          replace hx164_2 := (HB.out.cell (World.block_lt_of_cell? w _ hx164_2)).trans hx164_2
          replace p164 := eq_true p164
          replace q164 := eq_true q164
          have p165 : 0 ≤ (x5_2 : Int) := of_decide_eq_true qy1
          have q165 : x5_2 < (l0_2.length : Int) := of_decide_eq_true qy1
          obtain ⟨ad165,e165,hx165_0,hx165_1,hx165_2⟩ := at_T53 HR0_2.out x5_2 p165 q165
          (try rw [← Nbq24.out] at hx165_2)
          obtain rfl : ad164 = ad165 := (by injection e165)
          replace hx165_0 := (HB.out.cell (World.block_lt_of_cell? w _ hx165_0)).trans hx165_0
          replace hx165_1 := (HB.out.cell (World.block_lt_of_cell? w _ hx165_1)).trans hx165_1
          replace hx165_2 := (HB.out.cell (World.block_lt_of_cell? w _ hx165_2)).trans hx165_2
          replace p165 := eq_true p165
          replace q165 := eq_true q165
          have p166 : 0 ≤ (x5_2 : Int) := of_decide_eq_true qy1
          have q166 : x5_2 < (l0_2.length : Int) := of_decide_eq_true qy1
          obtain ⟨ad166,e166,hx166_0,hx166_1,hx166_2⟩ := at_T53 HR0_2.out x5_2 p166 q166
          (try rw [← Nbq24.out] at hx166_2)
          obtain rfl : ad164 = ad166 := (by injection e166)
          replace hx166_0 := (HB.out.cell (World.block_lt_of_cell? w _ hx166_0)).trans hx166_0
          replace hx166_1 := (HB.out.cell (World.block_lt_of_cell? w _ hx166_1)).trans hx166_1
          replace hx166_2 := (HB.out.cell (World.block_lt_of_cell? w _ hx166_2)).trans hx166_2
          replace p166 := eq_true p166
          replace q166 := eq_true q166
          go_wp2
          repeat (go_quiet (fail); try go_wp2)
          go_roundg k2
          case measure => have := HJ4.out; have := HK2.out; omega
          exact ⟨(wrap64 (x5_2 + 1)),qy2,H',⟨by have := HJ4.out; have := HK2.out; omega⟩,⟨qR HO_163002.out⟩,⟨qk BK154.out⟩,⟨qk BK162.out⟩,⟨qb⟩⟩
        ·replace c25 := Bool.eq_false_iff.mpr c25
         subst c25
         replace H := qF H
         have H' := y0.mk H
         clear H
         have hnb31 := NB154_162.out
         have hnc31 := NB162_154.out
         obtain ⟨hcz32_0,hcz32_1,hcz32_2,hfz32_0,hfz32_1,hfz32_2⟩ := qz3 BK154.out
         have p164 : 0 ≤ (x5_2 : Int) := of_decide_eq_true qy1
         have q164 : x5_2 < (l0_2.length : Int) := of_decide_eq_true qy1
         obtain ⟨ad164,e164,hx164_0,hx164_1,hx164_2⟩ := at_T53 HR0_2.out x5_2 p164 q164
         (try rw [← Nbq24.out] at hx164_2)
         cases e164
         replace hx164_0 := (HB.out.cell (World.block_lt_of_cell? w _ hx164_0)).trans hx164_0
         replace hx164_1 := (HB.out.cell (World.block_lt_of_cell? w _ hx164_1)).trans hx164_1
         replace hx164_2 := (HB.out.cell (World.block_lt_of_cell? w _ hx164_2)).trans hx164_2
         replace p164 := eq_true p164
         replace q164 := eq_true q164
         go_wp2
         repeat (go_quiet (fail); try go_wp2)
         go_roundg k2
         case measure => have := HJ4.out; have := HK2.out; omega
         exact ⟨(wrap64 (x5_2 + 1)),qy2,H',⟨by have := HJ4.out; have := HK2.out; omega⟩,⟨qR HO_163002.out⟩,⟨qk BK154.out⟩,⟨qk BK162.out⟩,⟨qb⟩⟩
       ·rw [if_neg c22] at H
        have c22b0 := decide_eq_false c22
        clear c22
        obtain rfl := Option.some.inj H
        have hnb33 := NB154_162.out
        have hnc33 := NB162_154.out
        obtain ⟨hcz34_0,hcz34_1,hcz34_2,hfz34_0,hfz34_1,hfz34_2⟩ := qz3 BK154.out
        go_wp2
        repeat (go_quiet (fail); try go_wp2)
        go_ret
        exact ⟨by first | rfl | (simp [y13,y14] <;> rfl) | (simp [*,y13,y14] <;> rfl),qb⟩
 ·replace c3 := Bool.eq_false_iff.mpr c3
  subst c3
  replace H := qF H
  obtain rfl := Option.some.inj H
  go_enter Try.func14,Try.ntmps14
  go_wp2_with (first | ((with_reducible refine y15 (N := 1) rfl ?_); refine qe 1 #[.int .i64 a0_0,.int .i64 a0_1,.slice A0_2 l0_2.length c0_2] 28 ?_; intro gb154 hg w35 hbox hb; have BK154 := y0.mk (hbox); have GW154 := y0.mk (qg (w := w) hg); have GE154 := y0.mk (qg (w := w) hg); replace HB := y0.mk (y4 qb hb); clear hb hbox hg; obtain ⟨hcz36_0,hcz36_1,hcz36_2,hfz36_0,hfz36_1,hfz36_2⟩ := qz3 BK154.out) | (go_at_call 27; (with_reducible refine (z1_.calls k a0_0 a0_1 _ _ l0_2 false _ (qc (Kd.C_below HR0_2.out HB.out)) HC0_2.out A2.out).mono ?_); rintro e w37 ⟨rfl,hb⟩; replace BK154 := y0.mk (qK BK154.out hb); replace HB := y0.mk (y4 qb hb); (try clear hb); (try clear hb2); (try clear hk); (try clear hi)))
  repeat (go_quiet (first | ((with_reducible refine y15 (N := 1) rfl ?_); refine qe 1 #[.int .i64 a0_0,.int .i64 a0_1,.slice A0_2 l0_2.length c0_2] 28 ?_; intro gb154 hg w35 hbox hb; have BK154 := y0.mk (hbox); have GW154 := y0.mk (qg (w := w) hg); have GE154 := y0.mk (qg (w := w) hg); replace HB := y0.mk (y4 qb hb); clear hb hbox hg; obtain ⟨hcz36_0,hcz36_1,hcz36_2,hfz36_0,hfz36_1,hfz36_2⟩ := qz3 BK154.out) | (go_at_call 27; (with_reducible refine (z1_.calls k a0_0 a0_1 _ _ l0_2 false _ (qc (Kd.C_below HR0_2.out HB.out)) HC0_2.out A2.out).mono ?_); rintro e w37 ⟨rfl,hb⟩; replace BK154 := y0.mk (qK BK154.out hb); replace HB := y0.mk (y4 qb hb); (try clear hb); (try clear hb2); (try clear hk); (try clear hi))); try go_wp2_with (first | ((with_reducible refine y15 (N := 1) rfl ?_); refine qe 1 #[.int .i64 a0_0,.int .i64 a0_1,.slice A0_2 l0_2.length c0_2] 28 ?_; intro gb154 hg w35 hbox hb; have BK154 := y0.mk (hbox); have GW154 := y0.mk (qg (w := w) hg); have GE154 := y0.mk (qg (w := w) hg); replace HB := y0.mk (y4 qb hb); clear hb hbox hg; obtain ⟨hcz36_0,hcz36_1,hcz36_2,hfz36_0,hfz36_1,hfz36_2⟩ := qz3 BK154.out) | (go_at_call 27; (with_reducible refine (z1_.calls k a0_0 a0_1 _ _ l0_2 false _ (qc (Kd.C_below HR0_2.out HB.out)) HC0_2.out A2.out).mono ?_); rintro e w37 ⟨rfl,hb⟩; replace BK154 := y0.mk (qK BK154.out hb); replace HB := y0.mk (y4 qb hb); (try clear hb); (try clear hb2); (try clear hk); (try clear hi))))
  go_ret
  exact ⟨by first | rfl | (simp [y13,y14] <;> rfl) | (simp [*,y13,y14] <;> rfl),qb⟩
def impl_in.f (a0 : Int) (a1 : Int) (a2 : Int) : Option (Bool) := if a0 ≥ a1 then (some (decide (a0 ≤ a2))) else (some false)
set_option maxHeartbeats 8000000 in
set_option maxRecDepth 100000 in
theorem impl_in.calls (a0 : Int) (a1 : Int) (a2 : Int) (r : Bool) (w : World) (h : impl_in.f a0 a1 a2 = some r) :
  Calls Try.prog 42 #[.int .i64 a0,.int .i64 a1,.int .i64 a2] w fun e w' => e = .returned (.bool r) ∧ Drawn0 w w' := by
 have H : (if a0 ≥ a1 then (some (decide (a0 ≤ a2))) else (some false)) = some r := h
 clear h
 by_cases c4 : a0 ≥ a1
 ·rw [if_pos c4] at H
  have c4b0 : decide (a1 ≤ a0) = true := decide_eq_true c4
  clear c4
  obtain rfl := Option.some.inj H
  go_enter Try.func42,Try.ntmps42
  go_wp2
  go_ret
  exact ⟨by first | rfl | (simp; done) | (simp [*]; done),by repeat (first | exact Drawn0.refl _ | apply Drawn0.step)⟩
 ·rw [if_neg c4] at H
  have c4b0 : decide (a1 ≤ a0) = false := decide_eq_false c4
  clear c4
  obtain rfl := Option.some.inj H
  go_enter Try.func42,Try.ntmps42
  go_wp2
  go_ret
  exact ⟨by first | rfl | (simp; done) | (simp [*]; done),by repeat (first | exact Drawn0.refl _ | apply Drawn0.step)⟩
def cmp_Or_int.l0 : Nat → Int → List Int → Int → Int → Option (Int)
 | 0,_,_,_,_ => none
 | k + 1,x3,x6,x7,x8 => if x8 < x7 then (if 0 ≤ x8 then (if x8 < (x6.length : Int) then (if (rd x6 x8) = x3 then (cmp_Or_int.l0 k x3 x6 x7 (wrap64 (x8 + 1))) else (some (rd x6 x8))) else (none)) else (none)) else (some x3)
def cmp_Or_int.f (k : Nat) (l0 : List Int) : Option (Int) := cmp_Or_int.l0 k 0 l0 (l0.length : Int) 0
set_option maxHeartbeats 8000000 in
set_option maxRecDepth 100000 in
theorem cmp_Or_int.calls (k : Nat) (A0 : Option Addr) (c0 : Nat) (l0 : List Int) (r : Int) (w : World) (hr0 : Kd.C (Kd.int .i64) w A0 l0.length l0) (hc0 : l0.length ≤ c0) (h : cmp_Or_int.f k l0 = some r) :
  Calls Try.prog 55 #[.slice A0 l0.length c0] w fun e w' => e = .returned (.int .i64 r) ∧ Drawn0 w w' := by
 have HR0 := y0.mk hr0
 have HC0 := y0.mk hc0
 clear hr0 hc0
 have H : (cmp_Or_int.l0 k 0 l0 (l0.length : Int) 0) = some r := h
 clear h
 have H' := y0.mk H
 clear H
 go_enter Try.func55,Try.ntmps55
 go_wp2
 go_loopg [8] k (fun kq v8 w' => ∃ (x8_1 : Int),v8 = .int .i64 x8_1 ∧ y0 (cmp_Or_int.l0 kq 0 l0 (l0.length : Int) x8_1 = some r) ∧ y0 (kq ≤ k) ∧ Drawn0 w w')
 case atStart => exact ⟨(0),qy2,H',⟨Nat.le_refl _⟩,by repeat (first | exact Drawn0.refl _ | apply Drawn0.step)⟩
 case round =>
  clear H'
  obtain ⟨x8_1,rfl,HA,HK1,⟨m1,rfl⟩⟩ := hrel
  cases gk with
  | zero => exact absurd HA.out (by simp [cmp_Or_int.l0])
  | succ k1 =>
   have H := HA.out
   clear HA
   simp only [cmp_Or_int.l0] at H
   by_cases c2 : x8_1 < (l0.length : Int)
   ·rw [if_pos c2] at H
    have c2b0 := decide_eq_true c2
    clear c2
    obtain ⟨c3,H⟩ := qo H
    have c3b0 : decide (0 ≤ x8_1) = true := decide_eq_true c3
    clear c3
    obtain ⟨c4,H⟩ := qo H
    have c4b0 : decide (x8_1 < (l0.length : Int)) = true := decide_eq_true c4
    clear c4
    by_cases c5 : (rd l0 x8_1) = 0
    ·rw [if_pos c5] at H
     have c5b0 : ((rd l0 x8_1) == 0) = true := beq_iff_eq.mpr c5
     have c5b1 : ((rd l0 x8_1) != 0) = false := bne_eq_false_iff_eq.mpr c5
     clear c5
     have H' := y0.mk H
     clear H
     have p167 : 0 ≤ (x8_1 : Int) := of_decide_eq_true qy1
     have q167 : x8_1 < (l0.length : Int) := of_decide_eq_true qy1
     obtain ⟨ad167,e167,hx167_0⟩ := Kd.at_int HR0.out x8_1 p167 q167
     cases e167
     replace p167 := eq_true p167
     replace q167 := eq_true q167
     go_wp2
     go_roundg k1
     case measure => have := HK1.out; omega
     exact ⟨(wrap64 (x8_1 + 1)),qy2,H',⟨by have := HK1.out; omega⟩,by repeat (first | exact Drawn0.refl _ | apply Drawn0.step)⟩
    ·rw [if_neg c5] at H
     have c5b0 : ((rd l0 x8_1) == 0) = false := beq_eq_false_iff_ne.mpr c5
     have c5b1 : ((rd l0 x8_1) != 0) = true := bne_iff_ne.mpr c5
     obtain rfl := Option.some.inj H
     have p167 : 0 ≤ (x8_1 : Int) := of_decide_eq_true qy1
     have q167 : x8_1 < (l0.length : Int) := of_decide_eq_true qy1
     obtain ⟨ad167,e167,hx167_0⟩ := Kd.at_int HR0.out x8_1 p167 q167
     cases e167
     replace p167 := eq_true p167
     replace q167 := eq_true q167
     go_wp2
     go_ret
     exact ⟨by first | rfl | (simp; done) | (simp [*]; done),by repeat (first | exact Drawn0.refl _ | apply Drawn0.step)⟩
   ·rw [if_neg c2] at H
    have c2b0 := decide_eq_false c2
    clear c2
    obtain rfl := Option.some.inj H
    go_wp2
    go_ret
    exact ⟨by first | rfl | (simp; done) | (simp [*]; done),by repeat (first | exact Drawn0.refl _ | apply Drawn0.step)⟩
def cmp_isNaN_int.f (a0 : Int) : Option (Bool) := some (a0 != a0)
set_option maxHeartbeats 8000000 in
set_option maxRecDepth 100000 in
theorem cmp_isNaN_int.calls (a0 : Int) (r : Bool) (w : World) (h : cmp_isNaN_int.f a0 = some r) :
  Calls Try.prog 62 #[.int .i64 a0] w fun e w' => e = .returned (.bool r) ∧ Drawn0 w w' := by
 have H : (some (a0 != a0)) = some r := h
 clear h
 obtain rfl := Option.some.inj H
 go_enter Try.func62,Try.ntmps62
 go_wp2
 go_ret
 exact ⟨by first | rfl | (simp; done) | (simp [*]; done),by repeat (first | exact Drawn0.refl _ | apply Drawn0.step)⟩
def cmp_Compare_int.f (a0 : Int) (a1 : Int) : Option (Int) := (cmp_isNaN_int.f a0).bind fun t168 => ((cmp_isNaN_int.f a1).bind fun t169 => (if t168 = true then (if t169 = true then (some 0) else (some (-1))) else (if t169 = true then (some 1) else (if a0 < a1 then (some (-1)) else (if a0 > a1 then (some 1) else (some 0))))))
set_option maxHeartbeats 8000000 in
set_option maxRecDepth 100000 in
theorem cmp_Compare_int.calls (a0 : Int) (a1 : Int) (r : Int) (w : World) (h : cmp_Compare_int.f a0 a1 = some r) :
  Calls Try.prog 56 #[.int .i64 a0,.int .i64 a1] w fun e w' => e = .returned (.int .i64 r) ∧ Drawn0 w w' := by
 have H : ((cmp_isNaN_int.f a0).bind fun t168 => ((cmp_isNaN_int.f a1).bind fun t169 => (if t168 = true then (if t169 = true then (some 0) else (some (-1))) else (if t169 = true then (some 1) else (if a0 < a1 then (some (-1)) else (if a0 > a1 then (some 1) else (some 0))))))) = some r := h
 clear h
 obtain ⟨t168,A3,H⟩ := qB H
 obtain ⟨t169,A4,H⟩ := qB H
 by_cases c5 : t168 = true
 ·subst c5
  replace H := qT H
  by_cases c6 : t169 = true
  ·subst c6
   replace H := qT H
   obtain rfl := Option.some.inj H
   go_enter Try.func56,Try.ntmps56
   go_wp2_with (first | ((with_reducible refine gate_callee (f := 62) rfl ?_); refine goesL_ (some 8) rfl rfl Try.func62 (by kernel_rfl) rfl #[.int .i64 a0] rfl qy0 ?_; (with_reducible refine (cmp_isNaN_int.calls a0 true _ A3.out).mono ?_); rintro e w' ⟨rfl,⟨nd,rfl⟩⟩; refine ⟨_,rfl, ?_⟩) | ((with_reducible refine gate_callee (f := 62) rfl ?_); refine goesL_ (some 10) rfl rfl Try.func62 (by kernel_rfl) rfl #[.int .i64 a1] rfl qy0 ?_; (with_reducible refine (cmp_isNaN_int.calls a1 true _ A4.out).mono ?_); rintro e w' ⟨rfl,⟨nd,rfl⟩⟩; refine ⟨_,rfl, ?_⟩))
   go_ret
   exact ⟨by first | rfl | (simp; done) | (simp [*]; done),by repeat (first | exact Drawn0.refl _ | apply Drawn0.step)⟩
  ·replace c6 := Bool.eq_false_iff.mpr c6
   subst c6
   replace H := qF H
   obtain rfl := Option.some.inj H
   go_enter Try.func56,Try.ntmps56
   go_wp2_with (first | ((with_reducible refine gate_callee (f := 62) rfl ?_); refine goesL_ (some 8) rfl rfl Try.func62 (by kernel_rfl) rfl #[.int .i64 a0] rfl qy0 ?_; (with_reducible refine (cmp_isNaN_int.calls a0 true _ A3.out).mono ?_); rintro e w' ⟨rfl,⟨nd,rfl⟩⟩; refine ⟨_,rfl, ?_⟩) | ((with_reducible refine gate_callee (f := 62) rfl ?_); refine goesL_ (some 10) rfl rfl Try.func62 (by kernel_rfl) rfl #[.int .i64 a1] rfl qy0 ?_; (with_reducible refine (cmp_isNaN_int.calls a1 false _ A4.out).mono ?_); rintro e w' ⟨rfl,⟨nd,rfl⟩⟩; refine ⟨_,rfl, ?_⟩))
   go_ret
   exact ⟨by first | rfl | (simp; done) | (simp [*]; done),by repeat (first | exact Drawn0.refl _ | apply Drawn0.step)⟩
 ·replace c5 := Bool.eq_false_iff.mpr c5
  subst c5
  replace H := qF H
  by_cases c7 : t169 = true
  ·subst c7
   replace H := qT H
   obtain rfl := Option.some.inj H
   go_enter Try.func56,Try.ntmps56
   go_wp2_with (first | ((with_reducible refine gate_callee (f := 62) rfl ?_); refine goesL_ (some 8) rfl rfl Try.func62 (by kernel_rfl) rfl #[.int .i64 a0] rfl qy0 ?_; (with_reducible refine (cmp_isNaN_int.calls a0 false _ A3.out).mono ?_); rintro e w' ⟨rfl,⟨nd,rfl⟩⟩; refine ⟨_,rfl, ?_⟩) | ((with_reducible refine gate_callee (f := 62) rfl ?_); refine goesL_ (some 10) rfl rfl Try.func62 (by kernel_rfl) rfl #[.int .i64 a1] rfl qy0 ?_; (with_reducible refine (cmp_isNaN_int.calls a1 true _ A4.out).mono ?_); rintro e w' ⟨rfl,⟨nd,rfl⟩⟩; refine ⟨_,rfl, ?_⟩))
   go_ret
   exact ⟨by first | rfl | (simp; done) | (simp [*]; done),by repeat (first | exact Drawn0.refl _ | apply Drawn0.step)⟩
  ·replace c7 := Bool.eq_false_iff.mpr c7
   subst c7
   replace H := qF H
   by_cases c8 : a0 < a1
   ·rw [if_pos c8] at H
    have c8b0 := decide_eq_true c8
    clear c8
    obtain rfl := Option.some.inj H
    go_enter Try.func56,Try.ntmps56
    go_wp2_with (first | ((with_reducible refine gate_callee (f := 62) rfl ?_); refine goesL_ (some 8) rfl rfl Try.func62 (by kernel_rfl) rfl #[.int .i64 a0] rfl qy0 ?_; (with_reducible refine (cmp_isNaN_int.calls a0 false _ A3.out).mono ?_); rintro e w' ⟨rfl,⟨nd,rfl⟩⟩; refine ⟨_,rfl, ?_⟩) | ((with_reducible refine gate_callee (f := 62) rfl ?_); refine goesL_ (some 10) rfl rfl Try.func62 (by kernel_rfl) rfl #[.int .i64 a1] rfl qy0 ?_; (with_reducible refine (cmp_isNaN_int.calls a1 false _ A4.out).mono ?_); rintro e w' ⟨rfl,⟨nd,rfl⟩⟩; refine ⟨_,rfl, ?_⟩))
    go_ret
    exact ⟨by first | rfl | (simp; done) | (simp [*]; done),by repeat (first | exact Drawn0.refl _ | apply Drawn0.step)⟩
   ·rw [if_neg c8] at H
    have c8b0 := decide_eq_false c8
    clear c8
    by_cases c9 : a0 > a1
    ·rw [if_pos c9] at H
     have c9b0 : decide (a1 < a0) = true := decide_eq_true c9
     clear c9
     obtain rfl := Option.some.inj H
     go_enter Try.func56,Try.ntmps56
     go_wp2_with (first | ((with_reducible refine gate_callee (f := 62) rfl ?_); refine goesL_ (some 8) rfl rfl Try.func62 (by kernel_rfl) rfl #[.int .i64 a0] rfl qy0 ?_; (with_reducible refine (cmp_isNaN_int.calls a0 false _ A3.out).mono ?_); rintro e w' ⟨rfl,⟨nd,rfl⟩⟩; refine ⟨_,rfl, ?_⟩) | ((with_reducible refine gate_callee (f := 62) rfl ?_); refine goesL_ (some 10) rfl rfl Try.func62 (by kernel_rfl) rfl #[.int .i64 a1] rfl qy0 ?_; (with_reducible refine (cmp_isNaN_int.calls a1 false _ A4.out).mono ?_); rintro e w' ⟨rfl,⟨nd,rfl⟩⟩; refine ⟨_,rfl, ?_⟩))
     go_ret
     exact ⟨by first | rfl | (simp; done) | (simp [*]; done),by repeat (first | exact Drawn0.refl _ | apply Drawn0.step)⟩
    ·rw [if_neg c9] at H
     have c9b0 : decide (a1 < a0) = false := decide_eq_false c9
     clear c9
     obtain rfl := Option.some.inj H
     go_enter Try.func56,Try.ntmps56
     go_wp2_with (first | ((with_reducible refine gate_callee (f := 62) rfl ?_); refine goesL_ (some 8) rfl rfl Try.func62 (by kernel_rfl) rfl #[.int .i64 a0] rfl qy0 ?_; (with_reducible refine (cmp_isNaN_int.calls a0 false _ A3.out).mono ?_); rintro e w' ⟨rfl,⟨nd,rfl⟩⟩; refine ⟨_,rfl, ?_⟩) | ((with_reducible refine gate_callee (f := 62) rfl ?_); refine goesL_ (some 10) rfl rfl Try.func62 (by kernel_rfl) rfl #[.int .i64 a1] rfl qy0 ?_; (with_reducible refine (cmp_isNaN_int.calls a1 false _ A4.out).mono ?_); rintro e w' ⟨rfl,⟨nd,rfl⟩⟩; refine ⟨_,rfl, ?_⟩))
     go_ret
     exact ⟨by first | rfl | (simp; done) | (simp [*]; done),by repeat (first | exact Drawn0.refl _ | apply Drawn0.step)⟩
end Go.Proofs.Ytcckpjflbfofjaa.Pd
end
section
namespace Go.Proofs.Ytcckpjflbfofjaa.Pd
open Go.RowKit Go.Proofs.YtcckpjflbfofjaaW.PrintWords Go.Proofs.YtcckpjflbfofjaaW.PrintLast Go.Proofs.YtcckpjflbfofjaaW.PrintMore
attribute [local go_sem] max2_int min2_int max_two min_two max_three min_three max_four min_four   -- for this text's walks alone
set_option linter.unusedVariables false
set_option linter.unusedSimpArgs false
def impl_compareArcs.f (k : Nat) (a0_0 : Int) (a0_1 : Int) (a0_2 : Bool) (a1_0 : Int) (a1_1 : Int) (a1_2 : Bool) : Option (Int) := (cmp_Compare_int.f a0_0 a1_0).bind fun t172 => ((cmp_Compare_int.f a0_1 a1_1).bind fun t173 => ((cmp_Or_int.f k (([t172,t173] : List Int))).bind fun t177 => (some t177)))
def impl_compareArcs.T1 : Bool × List (List Nat × List Nat) := (true,[([],[]),([0],[0]),([],[]),([2],[2]),([1,3],[1,3]),([],[]),([5],[5]),([],[]),([7],[7]),([6,8,4],[6,8]),([4,9],[4,9]),([10,9],[10]),([11,11,0,1,2,3,4,5,6,7,8,9,10,11],[11])])
def impl_compareArcs.B1 : List Nat := [0,1,0,4,15,0,32,0,128,511,1023,2047,4095]
theorem impl_compareArcs.tab1 : rtab .any (opsOf Try.f43 1) = impl_compareArcs.T1 := by kernel_rfl
theorem impl_compareArcs.bits1 : waitsOk impl_compareArcs.T1.2 impl_compareArcs.B1 = true := by kernel_rfl
set_option maxHeartbeats 8000000 in
set_option maxRecDepth 100000 in
theorem impl_compareArcs.calls (k : Nat) (a0_0 : Int) (a0_1 : Int) (a0_2 : Bool) (a1_0 : Int) (a1_1 : Int) (a1_2 : Bool) (r : Int) (w : World) (h : impl_compareArcs.f k a0_0 a0_1 a0_2 a1_0 a1_1 a1_2 = some r) :
  Calls Try.prog 43 #[.agg #[.int .i64 a0_0,.int .i64 a0_1,.bool a0_2],.agg #[.int .i64 a1_0,.int .i64 a1_1,.bool a1_2]] w fun e w' => e = .returned (.int .i64 r) ∧ Below w.heap.size w w' := by
 have hu53 := Try.underlying53
 have HB := y0.mk (Below.refl w.heap.size w)
 have H : ((cmp_Compare_int.f a0_0 a1_0).bind fun t172 => ((cmp_Compare_int.f a0_1 a1_1).bind fun t173 => ((cmp_Or_int.f k (([t172,t173] : List Int))).bind fun t177 => (some t177)))) = some r := h
 clear h
 obtain ⟨t172,A3,H⟩ := qB H
 obtain ⟨t173,A4,H⟩ := qB H
 obtain ⟨y174,hy174⟩ : ∃ y_ : List Int,y_ = (([t172,t173] : List Int)) := ⟨_,rfl⟩
 replace H : ((cmp_Or_int.f k y174).bind fun t177 => (some t177)) = some r := by first | (rw [hy174]; with_reducible exact H) | (have H2_ := (Option.bind_some _ _).symm.trans H; rw [hy174]; with_reducible exact H2_) | (have H2_ := (Option.bind_some _ _).symm.trans H; with_reducible exact H2_) | with_reducible exact H | (rw [hy174]; exact H) | exact H
 have Ny174 := y0.mk hy174
 clear hy174
 obtain ⟨t177,A5,H⟩ := qB H
 obtain rfl := Option.some.inj H
 go_enter Try.func43,Try.ntmps43
 try go_wp2_with (first | ((with_reducible refine y15 (N := 2) rfl ?_); refine qe 2 #[.int .i64 a0_0,.int .i64 a0_1,.bool a0_2] 53 ?_; intro gb170 hg w6 hbox hb; have BK170 := y0.mk (hbox); have GW170 := y0.mk (qg (w := w) hg); have GE170 := y0.mk (qg (w := w) hg); replace HB := y0.mk (y4 qb hb); clear hb hbox hg) | ((with_reducible refine y15 (N := 3) rfl ?_); refine qe 3 #[.int .i64 a1_0,.int .i64 a1_1,.bool a1_2] 53 ?_; intro gb171 hg w7 hbox hb; have BK171 := y0.mk (hbox); have GW171 := y0.mk (qg (w := w) hg); have GE171 := y0.mk (qg (w := w) hg); replace HB := y0.mk (y4 qb hb); have NB170_171 := y0.mk (qn BK170.out hg); have NB171_170 := y0.mk (qm BK170.out hg); replace BK170 := y0.mk (qK BK170.out hb); clear hb hbox hg))
 replace BK170 := y0.mk (y8 BK170.out)
 replace BK171 := y0.mk (y8 BK171.out)
 replace HB := y0.mk (y2 HB.out)
 refine start_ (n := 13) (S := fun w' => w'.cell? ⟨gb170,0,none⟩ = some (.int .i64 a0_0) ∧ w'.cell? ⟨gb170,1,none⟩ = some (.int .i64 a0_1) ∧ w'.cell? ⟨gb170,2,none⟩ = some (.bool a0_2) ∧ w'.cell? ⟨gb171,0,none⟩ = some (.int .i64 a1_0) ∧ w'.cell? ⟨gb171,1,none⟩ = some (.int .i64 a1_1) ∧ w'.cell? ⟨gb171,2,none⟩ = some (.bool a1_2)) (ds := []) (fl_ 13 0) (by kernel_rfl) rfl rfl ⟨(y7 BK170.out 0).trans rfl,(y7 BK170.out 1).trans rfl,(y7 BK170.out 2).trans rfl,(y7 BK171.out 0).trans rfl,(y7 BK171.out 1).trans rfl,(y7 BK171.out 2).trans rfl⟩ (fun hHeld => ?_); refine with_tabW impl_compareArcs.tab1 impl_compareArcs.bits1 (fun HT_ HW_ => ?_)
 generalize w7.drew = w8 at BK170 BK171 HB hHeld ⊢
 refine qp 0 5 (fl_ 13 1) ?_
 refine qp 2 7 (fl_ 13 5) ?_
 refine qp 5 10 (fl_ 13 37) ?_
 refine qp 7 12 (fl_ 13 165) ?_
 refine qt 1 6 (fl_ 13 167) hHeld ?_
 refine qt 3 8 (fl_ 13 175) hHeld ?_
 refine qt 6 11 (fl_ 13 239) hHeld ?_
 refine qt 8 13 (fl_ 13 495) hHeld ?_
 refine one_ (i := 4) (N := some 9) (fl_ 13 511) rfl rfl (one_of HT_.out (by kernel_rfl)) (by decide) (fun K hK => ?_)
 refine goes_ Try.func56 (by kernel_rfl) rfl #[.int .i64 a0_0,.int .i64 a1_0] (by rfl) rfl rfl qy0 ?_
 with_reducible refine (cmp_Compare_int.calls a0_0 a1_0 t172 _ A3.out).mono ?_
 rintro e w' ⟨rfl,⟨nd,rfl⟩⟩
 refine ⟨_,rfl, ?_⟩
 refine hK.out _ _ ⟨(y7 BK170.out 0).trans rfl,(y7 BK170.out 1).trans rfl,(y7 BK170.out 2).trans rfl,(y7 BK171.out 0).trans rfl,(y7 BK171.out 1).trans rfl,(y7 BK171.out 2).trans rfl⟩ (fun hHeld => ?_)
 clear hK K
 refine norm_ (a' := ?_) ?_ ?_
 rotate_left
 ·show Act.put _ (some 9) _ = _
  simp only [Act.put,qS_,qZ_,qC_,y17,y16]
  rfl
 refine one_ (i := 9) (N := some 14) (fl_ 13 1023) rfl rfl (one_of HT_.out (by kernel_rfl)) (by decide) (fun K hK => ?_)
 refine goes_ Try.func56 (by kernel_rfl) rfl #[.int .i64 a0_1,.int .i64 a1_1] (by rfl) rfl rfl qy0 ?_
 with_reducible refine (cmp_Compare_int.calls a0_1 a1_1 t173 _ A4.out).mono ?_
 rintro e w' ⟨rfl,⟨nd,rfl⟩⟩
 refine ⟨_,rfl, ?_⟩
 refine hK.out _ _ ⟨(y7 BK170.out 0).trans rfl,(y7 BK170.out 1).trans rfl,(y7 BK170.out 2).trans rfl,(y7 BK171.out 0).trans rfl,(y7 BK171.out 1).trans rfl,(y7 BK171.out 2).trans rfl⟩ (fun hHeld => ?_)
 clear hK K
 refine norm_ (a' := ?_) ?_ ?_
 rotate_left
 ·show Act.put _ (some 14) _ = _
  simp only [Act.put,qS_,qZ_,qC_,y17,y16]
  rfl
 refine one_ (i := 10) (N := some 15) (fl_ 13 2047) rfl rfl (one_of HT_.out (by kernel_rfl)) (by decide) (fun K hK => ?_)
 refine Kd.R_lit_step (Kd.int .i64) _ 3 ?hg (N := 15) ?hd (xs := ([t172,t173] : List Int)) (inner := [.int .i64 t172,.int .i64 t173]) (ok := fun _ => True) (okp := fun _ => True) ?hr ?hp (fun _ hk => hk) trivial (Below.refl _ _) (Nat.le_refl _) (by simp) ?_; (case hd => rfl); (case hg => rfl); (case hr => first | (go_simp; done) | (go_simp; rfl)); (case hp => exact (Reps.one (show Kd.M (Kd.int .i64) _ _ _ t172 [.int .i64 t172] from rfl) (Reps.one (show Kd.M (Kd.int .i64) _ _ _ t173 [.int .i64 t173] from rfl) (Reps.none _ _))))
 intro v175 w9 ho10 hb hg_ hnew_
 clear hg_ hnew_
 (first | rw [← Ny174.out] at ho10 | (simp only [Int.reduceToNat] at ho10; rw [← Ny174.out] at ho10))
 have HO176 := y0.mk (Kd.R_lower ho10 (below_size qb))
 replace BK170 := y0.mk (qK BK170.out hb)
 replace BK171 := y0.mk (qK BK171.out hb)
 replace HB := y0.mk (y4 qb hb)
 clear hb ho10
 obtain ⟨Ao11,co11,eo11⟩ := Kd.R_slice HO176.out
 (first | subst eo11 | (injection eo11 with f1_ f2_ f3_; have f4_ := f1_.symm; have f5_ := f3_.symm; clear f1_ f2_ f3_; subst f4_; subst f5_))
 refine hK.out _ _ ⟨(y7 BK170.out 0).trans rfl,(y7 BK170.out 1).trans rfl,(y7 BK170.out 2).trans rfl,(y7 BK171.out 0).trans rfl,(y7 BK171.out 1).trans rfl,(y7 BK171.out 2).trans rfl⟩ (fun hHeld => ?_)
 clear hK K
 refine norm_ (a' := ?_) ?_ ?_
 rotate_left
 ·show Act.put _ (some 15) _ = _
  simp only [Act.put,qS_,qZ_,qC_,y17,y16]
  rfl
 refine one_ (i := 11) (N := some 16) (fl_ 13 4095) rfl rfl (one_of HT_.out (by kernel_rfl)) (by decide) (fun K hK => ?_)
 refine goes_ Try.func55 (by kernel_rfl) rfl #[.slice Ao11 y174.length co11] (by rfl) rfl rfl qy0 ?_
 with_reducible refine (cmp_Or_int.calls k _ _ y174 t177 _ (qc ((Kd.R_reads' HO176.out).2.2)) (by exact (Kd.R_reads' HO176.out).2.1) A5.out).mono ?_
 rintro e w' ⟨rfl,⟨nd,rfl⟩⟩
 refine ⟨_,rfl, ?_⟩
 refine hK.out _ _ ⟨(y7 BK170.out 0).trans rfl,(y7 BK170.out 1).trans rfl,(y7 BK170.out 2).trans rfl,(y7 BK171.out 0).trans rfl,(y7 BK171.out 1).trans rfl,(y7 BK171.out 2).trans rfl⟩ (fun hHeld => ?_)
 clear hK K
 refine norm_ (a' := ?_) ?_ ?_
 rotate_left
 ·show Act.put _ (some 16) _ = _
  simp only [Act.put,qS_,qZ_,qC_,y17,y16]
  rfl
 refine qp 12 4 (fl_ 13 8191) ?_
 refine done_ (done_of HT_.out (by kernel_rfl)) ?_
 try go_wp2
 go_ret
 exact ⟨by first | rfl | (simp [y13,y14] <;> rfl) | (simp [*,y13,y14] <;> rfl),qb⟩
end Go.Proofs.Ytcckpjflbfofjaa.Pd
end
section
namespace Go.Proofs.Ytcckpjflbfofjaa.Pd
open Go.RowKit Go.Proofs.YtcckpjflbfofjaaW.PrintWords Go.Proofs.YtcckpjflbfofjaaW.PrintLast Go.Proofs.YtcckpjflbfofjaaW.PrintMore
attribute [local go_sem] max2_int min2_int max_two min_two max_three min_three max_four min_four   -- for this text's walks alone
set_option linter.unusedVariables false
set_option linter.unusedSimpArgs false
def impl_isGraph.l0 : Nat → List (S53) → Int → Int → Int → Int → List (S53) → Option (Bool)
 | 0,_,_,_,_,_,_ => none
 | k + 1,x6,x7,x8,x179000,x179001,x179002 => if x8 < x7 then (if 0 ≤ x8 then (if x8 < (x6.length : Int) then ((impl_in.f ((y19 x6 x8).f0) 0 5).bind fun t181 => (if t181 = true then ((impl_in.f ((y19 x6 x8).f1) 0 5).bind fun t182 => (if t182 = true then (if x8 > 0 then (if 0 ≤ (wrap64 (x8 - 1)) then (if (wrap64 (x8 - 1)) < (x179002.length : Int) then ((impl_compareArcs.f k ((y19 x179002 (wrap64 (x8 - 1))).f0) ((y19 x179002 (wrap64 (x8 - 1))).f1) ((y19 x179002 (wrap64 (x8 - 1))).f2) ((y19 x6 x8).f0) ((y19 x6 x8).f1) ((y19 x6 x8).f2)).bind fun t184 => (if t184 ≥ 0 then (some false) else (impl_isGraph.l0 k x6 x7 (wrap64 (x8 + 1)) x179000 x179001 x179002))) else (none)) else (none)) else (impl_isGraph.l0 k x6 x7 (wrap64 (x8 + 1)) x179000 x179001 x179002)) else (some false))) else (some false))) else (none)) else (none)) else (some true)
def impl_isGraph.f (k : Nat) (a0_0 : Int) (a0_1 : Int) (l0_2 : List (S53)) : Option (Bool) := impl_isGraph.l0 k l0_2 (l0_2.length : Int) 0 a0_0 a0_1 l0_2
def impl_isGraph.T4 : Bool × List (List Nat × List Nat) := (true,[([],[]),([0],[0]),([1],[1]),([2],[2]),([3,2],[3]),([4],[4]),([5,4],[4,5]),([6,4,4],[4,6]),([7,4],[4,7]),([4,8],[4,8]),([9,7],[9]),([10],[10]),([11,10],[10,11]),([12,10,10],[10,12]),([13],[13]),([14,13],[13,14]),([13],[13]),([16,13],[13,16]),([15,17,13],[13,15,17]),([18,13],[13,18]),([13],[13]),([19,20,13,13],[13,19,20]),([21,13],[13,21]),([13,22,10],[10,13,22]),([10,23],[10,23])])
def impl_isGraph.B4 : List Nat := [0,1,3,7,15,31,63,127,255,511,1023,2047,4095,8191,16383,32767,16383,81919,262143,524287,16383,2097151,4194303,8388607,16777215]
theorem impl_isGraph.tab4 : rtab .any (opsOf Try.f29 4) = impl_isGraph.T4 := by kernel_rfl
theorem impl_isGraph.bits4 : waitsOk impl_isGraph.T4.2 impl_isGraph.B4 = true := by kernel_rfl
set_option maxHeartbeats 8000000 in
set_option maxRecDepth 100000 in
theorem impl_isGraph.calls (k : Nat) (a0_0 : Int) (a0_1 : Int) (A0_2 : Option Addr) (c0_2 : Nat) (l0_2 : List (S53)) (r : Bool) (w : World) (hr0_2 : Kd.C k53 w A0_2 l0_2.length l0_2) (hc0_2 : l0_2.length ≤ c0_2) (h : impl_isGraph.f k a0_0 a0_1 l0_2 = some r) :
  Calls Try.prog 29 #[.agg #[.int .i64 a0_0,.int .i64 a0_1,.slice A0_2 l0_2.length c0_2]] w fun e w' => e = .returned (.bool r) ∧ Below w.heap.size w w' := by
 have hu28 := Try.underlying28
 have hu53 := Try.underlying53
 have HR0_2 := y0.mk hr0_2
 have HC0_2 := y0.mk hc0_2
 clear hr0_2 hc0_2
 have HB := y0.mk (Below.refl w.heap.size w)
 have H : (impl_isGraph.l0 k l0_2 (l0_2.length : Int) 0 a0_0 a0_1 l0_2) = some r := h
 clear h
 have H' := y0.mk H
 clear H
 go_enter Try.func29,Try.ntmps29
 go_wp2_with (first | ((with_reducible refine y15 (N := 1) rfl ?_); refine qe 1 #[.int .i64 a0_0,.int .i64 a0_1,.slice A0_2 l0_2.length c0_2] 28 ?_; intro gb178 hg w2 hbox hb; have BK178 := y0.mk (hbox); have GW178 := y0.mk (qg (w := w) hg); have GE178 := y0.mk (qg (w := w) hg); replace HB := y0.mk (y4 qb hb); clear hb hbox hg; obtain ⟨hcz3_0,hcz3_1,hcz3_2,hfz3_0,hfz3_1,hfz3_2⟩ := qz3 BK178.out))
 go_loopg [8] k (fun kq v8 w' => ∃ (x8_1 : Int),v8 = .int .i64 x8_1 ∧ y0 (impl_isGraph.l0 kq l0_2 (l0_2.length : Int) x8_1 a0_0 a0_1 l0_2 = some r) ∧ y0 (kq ≤ k) ∧ y0 (w'.heap[gb178]? = some (.cells #[.int .i64 a0_0,.int .i64 a0_1,(.slice A0_2 l0_2.length c0_2)] 28 (0,0))) ∧ y0 (Below w.heap.size w w'))
 case atStart => exact ⟨(0),qy2,H',⟨Nat.le_refl _⟩,⟨qk BK178.out⟩,⟨qb⟩⟩
 case round =>
  clear H'
  (try clear hcz3_0 hcz3_1 hcz3_2 hfz3_0 hfz3_1 hfz3_2)
  obtain ⟨x8_1,rfl,HA,HK1,BK178,HB⟩ := hrel
  cases gk with
  | zero => exact absurd HA.out (by simp [impl_isGraph.l0])
  | succ k1 =>
   have H := HA.out
   clear HA
   simp only [impl_isGraph.l0] at H
   by_cases c4 : x8_1 < (l0_2.length : Int)
   ·rw [if_pos c4] at H
    have c4b0 := decide_eq_true c4
    clear c4
    obtain ⟨c5,H⟩ := qo H
    have c5b0 : decide (0 ≤ x8_1) = true := decide_eq_true c5
    clear c5
    obtain ⟨c6,H⟩ := qo H
    have c6b0 : decide (x8_1 < (l0_2.length : Int)) = true := decide_eq_true c6
    clear c6
    obtain ⟨t181,A7,H⟩ := qB H
    by_cases c8 : t181 = true
    ·subst c8
     replace H := qT H
     obtain ⟨t182,A9,H⟩ := qB H
     by_cases c10 : t182 = true
     ·subst c10
      replace H := qT H
      by_cases c11 : x8_1 > 0
      ·rw [if_pos c11] at H
       have c11b0 : decide (0 < x8_1) = true := decide_eq_true c11
       clear c11
       obtain ⟨ji12,hji12⟩ : ∃ j_ : Int,(wrap64 (x8_1 - 1)) = j_ := ⟨_,rfl⟩
       replace H : (if 0 ≤ (ji12) then (if (ji12) < (l0_2.length : Int) then ((impl_compareArcs.f k1 ((y19 l0_2 (ji12)).f0) ((y19 l0_2 (ji12)).f1) ((y19 l0_2 (ji12)).f2) ((y19 l0_2 x8_1).f0) ((y19 l0_2 x8_1).f1) ((y19 l0_2 x8_1).f2)).bind fun t184 => (if t184 ≥ 0 then (some false) else (impl_isGraph.l0 k1 l0_2 (l0_2.length : Int) (wrap64 (x8_1 + 1)) a0_0 a0_1 l0_2))) else (none)) else (none)) = some r := by first | (rw [hji12] at H; exact H) | (simp only [hji12] at H ⊢; exact H)
       (try rw [hji12] at A7)
       (try rw [hji12] at A9)
       have hji12w : (IntKind.i64.wrap (x8_1 - 1)) = ji12 := (y17 _).trans hji12
       obtain ⟨c13,H⟩ := qo H
       have c13b0 : decide (0 ≤ (ji12)) = true := decide_eq_true c13
       clear c13
       obtain ⟨c14,H⟩ := qo H
       have c14b0 : decide ((ji12) < (l0_2.length : Int)) = true := decide_eq_true c14
       clear c14
       obtain ⟨t184,A15,H⟩ := qB H
       by_cases c16 : t184 ≥ 0
       ·rw [if_pos c16] at H
        have c16b0 : decide (0 ≤ t184) = true := decide_eq_true c16
        clear c16
        obtain rfl := Option.some.inj H
        have p179 : 0 ≤ (x8_1 : Int) := of_decide_eq_true qy1
        have q179 : x8_1 < (l0_2.length : Int) := of_decide_eq_true qy1
        obtain ⟨ad179,e179,hx179_0,hx179_1,hx179_2⟩ := at_T53 HR0_2.out x8_1 p179 q179
        cases e179
        replace hx179_0 := (HB.out.cell (World.block_lt_of_cell? w _ hx179_0)).trans hx179_0
        replace hx179_1 := (HB.out.cell (World.block_lt_of_cell? w _ hx179_1)).trans hx179_1
        replace hx179_2 := (HB.out.cell (World.block_lt_of_cell? w _ hx179_2)).trans hx179_2
        replace p179 := eq_true p179
        replace q179 := eq_true q179
        try go_wp2_with (first | ((with_reducible refine y15 (N := 4) rfl ?_); refine qe 4 #[.int .i64 0,.int .i64 0,.bool false] 53 ?_; intro gb180 hg w17 hbox hb; have BK180 := y0.mk (hbox); have GW180 := y0.mk (qg (w := w) hg); have GE180 := y0.mk (qg (w := w) hg); replace HB := y0.mk (y4 qb hb); have NB178_180 := y0.mk (qn BK178.out hg); have NB180_178 := y0.mk (qm BK178.out hg); replace BK178 := y0.mk (qK BK178.out hb); clear hb hbox hg; have hnb18 := NB180_178.out; have hnc18 := NB178_180.out; obtain ⟨hcz19_0,hcz19_1,hcz19_2,hfz19_0,hfz19_1,hfz19_2⟩ := qz3 BK180.out))
        have n0_ : y0 ((((w17.setCell ⟨gb180,0,none⟩ (.int .i64 ((y19 l0_2 x8_1).f0))).setCell ⟨gb180,1,none⟩ (.int .i64 ((y19 l0_2 x8_1).f1))).setCell ⟨gb180,2,none⟩ (.bool ((y19 l0_2 x8_1).f2))).heap[gb178]? = some (.cells #[.int .i64 a0_0,.int .i64 a0_1,.slice (some ad179) l0_2.length c0_2] 28 (0,0))) := ⟨by (with_reducible repeat (first | refine y9 ?_ _ | refine y8 ?_ | refine y5 ?_ _)); refine blk_far ?_ NB178_180.out _; (with_reducible repeat (first | refine y9 ?_ _ | refine y8 ?_ | refine y5 ?_ _)); refine blk_far ?_ NB178_180.out _; (with_reducible repeat (first | refine y9 ?_ _ | refine y8 ?_ | refine y5 ?_ _)); refine blk_far ?_ NB178_180.out _; (with_reducible repeat (first | refine y9 ?_ _ | refine y8 ?_ | refine y5 ?_ _)); exact BK178.out⟩
        have n1_ : y0 ((((w17.setCell ⟨gb180,0,none⟩ (.int .i64 ((y19 l0_2 x8_1).f0))).setCell ⟨gb180,1,none⟩ (.int .i64 ((y19 l0_2 x8_1).f1))).setCell ⟨gb180,2,none⟩ (.bool ((y19 l0_2 x8_1).f2))).heap[gb180]? = some (.cells #[.int .i64 ((y19 l0_2 x8_1).f0),.int .i64 ((y19 l0_2 x8_1).f1),.bool ((y19 l0_2 x8_1).f2)] 53 (0,0))) := ⟨by (with_reducible repeat (first | refine y9 ?_ _ | refine y8 ?_ | refine y5 ?_ _)); refine y12 (cs := #[.int .i64 ((y19 l0_2 x8_1).f0),.int .i64 ((y19 l0_2 x8_1).f1),.bool false]) ?_ 2 _ rfl; (with_reducible repeat (first | refine y9 ?_ _ | refine y8 ?_ | refine y5 ?_ _)); refine y12 (cs := #[.int .i64 ((y19 l0_2 x8_1).f0),.int .i64 0,.bool false]) ?_ 1 _ rfl; (with_reducible repeat (first | refine y9 ?_ _ | refine y8 ?_ | refine y5 ?_ _)); refine y12 (cs := #[.int .i64 0,.int .i64 0,.bool false]) ?_ 0 _ rfl; (with_reducible repeat (first | refine y9 ?_ _ | refine y8 ?_ | refine y5 ?_ _)); exact BK180.out⟩
        have n2_ : y0 (Below w.heap.size w (((w17.setCell ⟨gb180,0,none⟩ (.int .i64 ((y19 l0_2 x8_1).f0))).setCell ⟨gb180,1,none⟩ (.int .i64 ((y19 l0_2 x8_1).f1))).setCell ⟨gb180,2,none⟩ (.bool ((y19 l0_2 x8_1).f2)))) := ⟨qb⟩
        (try clear BK178)
        (try clear BK180)
        (try clear HB)
        generalize (((w17.setCell ⟨gb180,0,none⟩ (.int .i64 ((y19 l0_2 x8_1).f0))).setCell ⟨gb180,1,none⟩ (.int .i64 ((y19 l0_2 x8_1).f1))).setCell ⟨gb180,2,none⟩ (.bool ((y19 l0_2 x8_1).f2))) = w20 at n0_ n1_ n2_ ⊢
        have BK178 := n0_
        have BK180 := n1_
        have HB := n2_
        clear n0_ n1_ n2_
        replace BK178 := y0.mk (y8 BK178.out)
        replace BK180 := y0.mk (y8 BK180.out)
        replace HB := y0.mk (y2 HB.out)
        have p183 : 0 ≤ ((ji12) : Int) := of_decide_eq_true qy1
        have q183 : (ji12) < (l0_2.length : Int) := of_decide_eq_true qy1
        obtain ⟨ad183,e183,hx183_0,hx183_1,hx183_2⟩ := at_T53 HR0_2.out (ji12) p183 q183
        have hw183_2 := hx183_2
        have hw183_1 := hx183_1
        have hw183_0 := hx183_0
        obtain rfl : ad179 = ad183 := (by injection e183)
        replace hx183_0 := (HB.out.cell (World.block_lt_of_cell? w _ hx183_0)).trans hx183_0
        replace hx183_1 := (HB.out.cell (World.block_lt_of_cell? w _ hx183_1)).trans hx183_1
        replace hx183_2 := (HB.out.cell (World.block_lt_of_cell? w _ hx183_2)).trans hx183_2
        replace p183 := eq_true p183
        replace q183 := eq_true q183
        refine start_ (n := 25) (S := fun w' => w'.cell? ⟨gb180,0,none⟩ = some (.int .i64 ((y19 l0_2 x8_1).f0)) ∧ w'.cell? ⟨gb180,1,none⟩ = some (.int .i64 ((y19 l0_2 x8_1).f1)) ∧ w'.cell? ⟨gb180,2,none⟩ = some (.bool ((y19 l0_2 x8_1).f2)) ∧ w'.cell? ⟨gb178,0,none⟩ = some (.int .i64 a0_0) ∧ w'.cell? ⟨gb178,1,none⟩ = some (.int .i64 a0_1) ∧ w'.cell? ⟨gb178,2,none⟩ = some (.slice (some ad179) l0_2.length c0_2) ∧ w'.cell? (ad179.add (((ji12)).toNat * 3)) = some (.int .i64 ((y19 l0_2 (ji12)).f0)) ∧ w'.cell? ⟨(ad179.add (((ji12)).toNat * 3)).block,(ad179.add (((ji12)).toNat * 3)).off + 1,none⟩ = some (.int .i64 ((y19 l0_2 (ji12)).f1)) ∧ w'.cell? ⟨(ad179.add (((ji12)).toNat * 3)).block,(ad179.add (((ji12)).toNat * 3)).off + 2,none⟩ = some (.bool ((y19 l0_2 (ji12)).f2))) (ds := []) (fl_ 25 0) (by kernel_rfl) rfl rfl ⟨(y7 BK180.out 0).trans rfl,(y7 BK180.out 1).trans rfl,(y7 BK180.out 2).trans rfl,(y7 BK178.out 0).trans rfl,(y7 BK178.out 1).trans rfl,(y7 BK178.out 2).trans rfl,((HB.out.cell (World.block_lt_of_cell? w _ hw183_0)).trans hw183_0),((HB.out.cell (World.block_lt_of_cell? w _ hw183_1)).trans hw183_1),((HB.out.cell (World.block_lt_of_cell? w _ hw183_2)).trans hw183_2)⟩ (fun hHeld => ?_); refine with_tabW impl_isGraph.tab4 impl_isGraph.bits4 (fun HT_ HW_ => ?_)
        generalize w20.drew = w21 at BK178 BK180 HB hx183_0 hx183_1 hx183_2 hHeld ⊢
        refine qp 0 13 (fl_ 25 1) ?_
        refine qt 1 14 (fl_ 25 3) hHeld ?_
        refine one_ (i := 2) (N := some 15) (fl_ 25 7) rfl rfl (one_of HT_.out (by kernel_rfl)) (by decide) (fun K hK => ?_)
        refine goes_ Try.func42 (by kernel_rfl) rfl #[.int .i64 ((y19 l0_2 x8_1).f0),.int .i64 0,.int .i64 5] (by rfl) rfl rfl qy0 ?_
        with_reducible refine (impl_in.calls ((y19 l0_2 x8_1).f0) 0 5 true _ A7.out).mono ?_
        rintro e w' ⟨rfl,⟨nd,rfl⟩⟩
        refine ⟨_,rfl, ?_⟩
        refine hK.out _ _ ⟨(y7 BK180.out 0).trans rfl,(y7 BK180.out 1).trans rfl,(y7 BK180.out 2).trans rfl,(y7 BK178.out 0).trans rfl,(y7 BK178.out 1).trans rfl,(y7 BK178.out 2).trans rfl,((HB.out.cell (World.block_lt_of_cell? w _ hw183_0)).trans hw183_0),((HB.out.cell (World.block_lt_of_cell? w _ hw183_1)).trans hw183_1),((HB.out.cell (World.block_lt_of_cell? w _ hw183_2)).trans hw183_2)⟩ (fun hHeld => ?_)
        clear hK K
        refine norm_ (a' := ?_) ?_ ?_
        rotate_left
        ·show Act.put _ (some 15) _ = _
         simp only [Act.put,qS_,qZ_,qC_,y17,y16]
         rfl
        refine qp 3 16 (fl_ 25 15) ?_
        refine qp 4 17 (fl_ 25 31) ?_
        refine qp 5 18 (fl_ 25 63) ?_
        refine qt 6 19 (fl_ 25 127) hHeld ?_
        refine one_ (i := 7) (N := some 20) (fl_ 25 255) rfl rfl (one_of HT_.out (by kernel_rfl)) (by decide) (fun K hK => ?_)
        refine goes_ Try.func42 (by kernel_rfl) rfl #[.int .i64 ((y19 l0_2 x8_1).f1),.int .i64 0,.int .i64 5] (by rfl) rfl rfl qy0 ?_
        with_reducible refine (impl_in.calls ((y19 l0_2 x8_1).f1) 0 5 true _ A9.out).mono ?_
        rintro e w' ⟨rfl,⟨nd,rfl⟩⟩
        refine ⟨_,rfl, ?_⟩
        refine hK.out _ _ ⟨(y7 BK180.out 0).trans rfl,(y7 BK180.out 1).trans rfl,(y7 BK180.out 2).trans rfl,(y7 BK178.out 0).trans rfl,(y7 BK178.out 1).trans rfl,(y7 BK178.out 2).trans rfl,((HB.out.cell (World.block_lt_of_cell? w _ hw183_0)).trans hw183_0),((HB.out.cell (World.block_lt_of_cell? w _ hw183_1)).trans hw183_1),((HB.out.cell (World.block_lt_of_cell? w _ hw183_2)).trans hw183_2)⟩ (fun hHeld => ?_)
        clear hK K
        refine norm_ (a' := ?_) ?_ ?_
        rotate_left
        ·show Act.put _ (some 20) _ = _
         simp only [Act.put,qS_,qZ_,qC_,y17,y16]
         rfl
        refine qp 8 21 (fl_ 25 511) ?_
        refine qp 9 22 (fl_ 25 1023) ?_
        refine qp 10 23 (fl_ 25 2047) ?_
        refine qp 11 24 (fl_ 25 4095) ?_
        refine qp 12 25 (fl_ 25 8191) ?_
        refine qp 13 26 (fl_ 25 16383) ?_
        refine qp 14 27 (fl_ 25 32767) ?_
        refine qp 16 29 (fl_ 25 98303) ?_
        refine qp 17 30 (fl_ 25 229375) ?_
        refine qt 15 28 (fl_ 25 262143) hHeld ?_
        refine qp 18 31 (fl_ 25 524287) ?_
        refine qt 19 32 (fl_ 25 1048575) hHeld ?_
        refine qt 20 33 (fl_ 25 2097151) hHeld ?_
        refine one_ (i := 21) (N := some 34) (fl_ 25 4194303) rfl rfl (one_of HT_.out (by kernel_rfl)) (by decide) (fun K hK => ?_)
        refine goes_ Try.func43 (by kernel_rfl) rfl #[.agg #[.int .i64 ((y19 l0_2 (ji12)).f0),.int .i64 ((y19 l0_2 (ji12)).f1),.bool ((y19 l0_2 (ji12)).f2)],.agg #[.int .i64 ((y19 l0_2 x8_1).f0),.int .i64 ((y19 l0_2 x8_1).f1),.bool ((y19 l0_2 x8_1).f2)]] (by rfl) rfl rfl (by (try simp only [qM_,List.map_cons,List.map_nil]); first | done | (simp only [hji12]; rfl) | rfl | (simp only [qD_,qT_]; rfl)) ?_
        with_reducible refine (impl_compareArcs.calls k1 ((y19 l0_2 (ji12)).f0) ((y19 l0_2 (ji12)).f1) ((y19 l0_2 (ji12)).f2) ((y19 l0_2 x8_1).f0) ((y19 l0_2 x8_1).f1) ((y19 l0_2 x8_1).f2) t184 _ A15.out).mono ?_
        rintro e w22 ⟨rfl,hb⟩
        refine ⟨_,rfl, ?_⟩
        replace BK178 := y0.mk (qK BK178.out hb)
        replace BK180 := y0.mk (qK BK180.out hb)
        replace HB := y0.mk (y4 qb hb)
        (try clear hb)
        (try clear hb2)
        (try clear hk)
        (try clear hi)
        refine hK.out _ _ ⟨(y7 BK180.out 0).trans rfl,(y7 BK180.out 1).trans rfl,(y7 BK180.out 2).trans rfl,(y7 BK178.out 0).trans rfl,(y7 BK178.out 1).trans rfl,(y7 BK178.out 2).trans rfl,((HB.out.cell (World.block_lt_of_cell? w _ hw183_0)).trans hw183_0),((HB.out.cell (World.block_lt_of_cell? w _ hw183_1)).trans hw183_1),((HB.out.cell (World.block_lt_of_cell? w _ hw183_2)).trans hw183_2)⟩ (fun hHeld => ?_)
        clear hK K
        refine norm_ (a' := ?_) ?_ ?_
        rotate_left
        ·show Act.put _ (some 34) _ = _
         simp only [Act.put,qS_,qZ_,qC_,y17,y16]
         rfl
        refine qp 22 35 (fl_ 25 8388607) ?_
        refine qp 23 36 (fl_ 25 16777215) ?_
        refine qp 24 37 (fl_ 25 33554431) ?_
        refine done_ (done_of HT_.out (by kernel_rfl)) ?_
        try go_wp2
        go_ret
        exact ⟨by first | rfl | (simp [y13,y14] <;> rfl) | (simp only [← hji12]; first | rfl | (simp [y13,y14] <;> rfl)) | (simp [*,y13,y14] <;> rfl),qb⟩
       ·rw [if_neg c16] at H
        have c16b0 : decide (0 ≤ t184) = false := decide_eq_false c16
        clear c16
        have H' := y0.mk H
        clear H
        have p179 : 0 ≤ (x8_1 : Int) := of_decide_eq_true qy1
        have q179 : x8_1 < (l0_2.length : Int) := of_decide_eq_true qy1
        obtain ⟨ad179,e179,hx179_0,hx179_1,hx179_2⟩ := at_T53 HR0_2.out x8_1 p179 q179
        cases e179
        replace hx179_0 := (HB.out.cell (World.block_lt_of_cell? w _ hx179_0)).trans hx179_0
        replace hx179_1 := (HB.out.cell (World.block_lt_of_cell? w _ hx179_1)).trans hx179_1
        replace hx179_2 := (HB.out.cell (World.block_lt_of_cell? w _ hx179_2)).trans hx179_2
        replace p179 := eq_true p179
        replace q179 := eq_true q179
        try go_wp2_with (first | ((with_reducible refine y15 (N := 4) rfl ?_); refine qe 4 #[.int .i64 0,.int .i64 0,.bool false] 53 ?_; intro gb180 hg w23 hbox hb; have BK180 := y0.mk (hbox); have GW180 := y0.mk (qg (w := w) hg); have GE180 := y0.mk (qg (w := w) hg); replace HB := y0.mk (y4 qb hb); have NB178_180 := y0.mk (qn BK178.out hg); have NB180_178 := y0.mk (qm BK178.out hg); replace BK178 := y0.mk (qK BK178.out hb); clear hb hbox hg; have hnb24 := NB180_178.out; have hnc24 := NB178_180.out; obtain ⟨hcz25_0,hcz25_1,hcz25_2,hfz25_0,hfz25_1,hfz25_2⟩ := qz3 BK180.out))
        have n0_ : y0 ((((w23.setCell ⟨gb180,0,none⟩ (.int .i64 ((y19 l0_2 x8_1).f0))).setCell ⟨gb180,1,none⟩ (.int .i64 ((y19 l0_2 x8_1).f1))).setCell ⟨gb180,2,none⟩ (.bool ((y19 l0_2 x8_1).f2))).heap[gb178]? = some (.cells #[.int .i64 a0_0,.int .i64 a0_1,.slice (some ad179) l0_2.length c0_2] 28 (0,0))) := ⟨by (with_reducible repeat (first | refine y9 ?_ _ | refine y8 ?_ | refine y5 ?_ _)); refine blk_far ?_ NB178_180.out _; (with_reducible repeat (first | refine y9 ?_ _ | refine y8 ?_ | refine y5 ?_ _)); refine blk_far ?_ NB178_180.out _; (with_reducible repeat (first | refine y9 ?_ _ | refine y8 ?_ | refine y5 ?_ _)); refine blk_far ?_ NB178_180.out _; (with_reducible repeat (first | refine y9 ?_ _ | refine y8 ?_ | refine y5 ?_ _)); exact BK178.out⟩
        have n1_ : y0 ((((w23.setCell ⟨gb180,0,none⟩ (.int .i64 ((y19 l0_2 x8_1).f0))).setCell ⟨gb180,1,none⟩ (.int .i64 ((y19 l0_2 x8_1).f1))).setCell ⟨gb180,2,none⟩ (.bool ((y19 l0_2 x8_1).f2))).heap[gb180]? = some (.cells #[.int .i64 ((y19 l0_2 x8_1).f0),.int .i64 ((y19 l0_2 x8_1).f1),.bool ((y19 l0_2 x8_1).f2)] 53 (0,0))) := ⟨by (with_reducible repeat (first | refine y9 ?_ _ | refine y8 ?_ | refine y5 ?_ _)); refine y12 (cs := #[.int .i64 ((y19 l0_2 x8_1).f0),.int .i64 ((y19 l0_2 x8_1).f1),.bool false]) ?_ 2 _ rfl; (with_reducible repeat (first | refine y9 ?_ _ | refine y8 ?_ | refine y5 ?_ _)); refine y12 (cs := #[.int .i64 ((y19 l0_2 x8_1).f0),.int .i64 0,.bool false]) ?_ 1 _ rfl; (with_reducible repeat (first | refine y9 ?_ _ | refine y8 ?_ | refine y5 ?_ _)); refine y12 (cs := #[.int .i64 0,.int .i64 0,.bool false]) ?_ 0 _ rfl; (with_reducible repeat (first | refine y9 ?_ _ | refine y8 ?_ | refine y5 ?_ _)); exact BK180.out⟩
        have n2_ : y0 (Below w.heap.size w (((w23.setCell ⟨gb180,0,none⟩ (.int .i64 ((y19 l0_2 x8_1).f0))).setCell ⟨gb180,1,none⟩ (.int .i64 ((y19 l0_2 x8_1).f1))).setCell ⟨gb180,2,none⟩ (.bool ((y19 l0_2 x8_1).f2)))) := ⟨qb⟩
        (try clear BK178)
        (try clear BK180)
        (try clear HB)
        generalize (((w23.setCell ⟨gb180,0,none⟩ (.int .i64 ((y19 l0_2 x8_1).f0))).setCell ⟨gb180,1,none⟩ (.int .i64 ((y19 l0_2 x8_1).f1))).setCell ⟨gb180,2,none⟩ (.bool ((y19 l0_2 x8_1).f2))) = w26 at n0_ n1_ n2_ ⊢
        have BK178 := n0_
        have BK180 := n1_
        have HB := n2_
        clear n0_ n1_ n2_
        replace BK178 := y0.mk (y8 BK178.out)
        replace BK180 := y0.mk (y8 BK180.out)
        replace HB := y0.mk (y2 HB.out)
        have p183 : 0 ≤ ((ji12) : Int) := of_decide_eq_true qy1
        have q183 : (ji12) < (l0_2.length : Int) := of_decide_eq_true qy1
        obtain ⟨ad183,e183,hx183_0,hx183_1,hx183_2⟩ := at_T53 HR0_2.out (ji12) p183 q183
        have hw183_2 := hx183_2
        have hw183_1 := hx183_1
        have hw183_0 := hx183_0
        obtain rfl : ad179 = ad183 := (by injection e183)
        replace hx183_0 := (HB.out.cell (World.block_lt_of_cell? w _ hx183_0)).trans hx183_0
        replace hx183_1 := (HB.out.cell (World.block_lt_of_cell? w _ hx183_1)).trans hx183_1
        replace hx183_2 := (HB.out.cell (World.block_lt_of_cell? w _ hx183_2)).trans hx183_2
        replace p183 := eq_true p183
        replace q183 := eq_true q183
        refine start_ (n := 25) (S := fun w' => w'.cell? ⟨gb180,0,none⟩ = some (.int .i64 ((y19 l0_2 x8_1).f0)) ∧ w'.cell? ⟨gb180,1,none⟩ = some (.int .i64 ((y19 l0_2 x8_1).f1)) ∧ w'.cell? ⟨gb180,2,none⟩ = some (.bool ((y19 l0_2 x8_1).f2)) ∧ w'.cell? ⟨gb178,0,none⟩ = some (.int .i64 a0_0) ∧ w'.cell? ⟨gb178,1,none⟩ = some (.int .i64 a0_1) ∧ w'.cell? ⟨gb178,2,none⟩ = some (.slice (some ad179) l0_2.length c0_2) ∧ w'.cell? (ad179.add (((ji12)).toNat * 3)) = some (.int .i64 ((y19 l0_2 (ji12)).f0)) ∧ w'.cell? ⟨(ad179.add (((ji12)).toNat * 3)).block,(ad179.add (((ji12)).toNat * 3)).off + 1,none⟩ = some (.int .i64 ((y19 l0_2 (ji12)).f1)) ∧ w'.cell? ⟨(ad179.add (((ji12)).toNat * 3)).block,(ad179.add (((ji12)).toNat * 3)).off + 2,none⟩ = some (.bool ((y19 l0_2 (ji12)).f2))) (ds := []) (fl_ 25 0) (by kernel_rfl) rfl rfl ⟨(y7 BK180.out 0).trans rfl,(y7 BK180.out 1).trans rfl,(y7 BK180.out 2).trans rfl,(y7 BK178.out 0).trans rfl,(y7 BK178.out 1).trans rfl,(y7 BK178.out 2).trans rfl,((HB.out.cell (World.block_lt_of_cell? w _ hw183_0)).trans hw183_0),((HB.out.cell (World.block_lt_of_cell? w _ hw183_1)).trans hw183_1),((HB.out.cell (World.block_lt_of_cell? w _ hw183_2)).trans hw183_2)⟩ (fun hHeld => ?_); refine with_tabW impl_isGraph.tab4 impl_isGraph.bits4 (fun HT_ HW_ => ?_)
        generalize w26.drew = w27 at BK178 BK180 HB hx183_0 hx183_1 hx183_2 hHeld ⊢
        refine qp 0 13 (fl_ 25 1) ?_
        refine qt 1 14 (fl_ 25 3) hHeld ?_
        refine one_ (i := 2) (N := some 15) (fl_ 25 7) rfl rfl (one_of HT_.out (by kernel_rfl)) (by decide) (fun K hK => ?_)
        refine goes_ Try.func42 (by kernel_rfl) rfl #[.int .i64 ((y19 l0_2 x8_1).f0),.int .i64 0,.int .i64 5] (by rfl) rfl rfl qy0 ?_
        with_reducible refine (impl_in.calls ((y19 l0_2 x8_1).f0) 0 5 true _ A7.out).mono ?_
        rintro e w' ⟨rfl,⟨nd,rfl⟩⟩
        refine ⟨_,rfl, ?_⟩
        refine hK.out _ _ ⟨(y7 BK180.out 0).trans rfl,(y7 BK180.out 1).trans rfl,(y7 BK180.out 2).trans rfl,(y7 BK178.out 0).trans rfl,(y7 BK178.out 1).trans rfl,(y7 BK178.out 2).trans rfl,((HB.out.cell (World.block_lt_of_cell? w _ hw183_0)).trans hw183_0),((HB.out.cell (World.block_lt_of_cell? w _ hw183_1)).trans hw183_1),((HB.out.cell (World.block_lt_of_cell? w _ hw183_2)).trans hw183_2)⟩ (fun hHeld => ?_)
        clear hK K
        refine norm_ (a' := ?_) ?_ ?_
        rotate_left
        ·show Act.put _ (some 15) _ = _
         simp only [Act.put,qS_,qZ_,qC_,y17,y16]
         rfl
        refine qp 3 16 (fl_ 25 15) ?_
        refine qp 4 17 (fl_ 25 31) ?_
        refine qp 5 18 (fl_ 25 63) ?_
        refine qt 6 19 (fl_ 25 127) hHeld ?_
        refine one_ (i := 7) (N := some 20) (fl_ 25 255) rfl rfl (one_of HT_.out (by kernel_rfl)) (by decide) (fun K hK => ?_)
        refine goes_ Try.func42 (by kernel_rfl) rfl #[.int .i64 ((y19 l0_2 x8_1).f1),.int .i64 0,.int .i64 5] (by rfl) rfl rfl qy0 ?_
        with_reducible refine (impl_in.calls ((y19 l0_2 x8_1).f1) 0 5 true _ A9.out).mono ?_
        rintro e w' ⟨rfl,⟨nd,rfl⟩⟩
        refine ⟨_,rfl, ?_⟩
        refine hK.out _ _ ⟨(y7 BK180.out 0).trans rfl,(y7 BK180.out 1).trans rfl,(y7 BK180.out 2).trans rfl,(y7 BK178.out 0).trans rfl,(y7 BK178.out 1).trans rfl,(y7 BK178.out 2).trans rfl,((HB.out.cell (World.block_lt_of_cell? w _ hw183_0)).trans hw183_0),((HB.out.cell (World.block_lt_of_cell? w _ hw183_1)).trans hw183_1),((HB.out.cell (World.block_lt_of_cell? w _ hw183_2)).trans hw183_2)⟩ (fun hHeld => ?_)
        clear hK K
        refine norm_ (a' := ?_) ?_ ?_
        rotate_left
        ·show Act.put _ (some 20) _ = _
         simp only [Act.put,qS_,qZ_,qC_,y17,y16]
         rfl
        refine qp 8 21 (fl_ 25 511) ?_
        refine qp 9 22 (fl_ 25 1023) ?_
        refine qp 10 23 (fl_ 25 2047) ?_
        refine qp 11 24 (fl_ 25 4095) ?_
        refine qp 12 25 (fl_ 25 8191) ?_
        refine qp 13 26 (fl_ 25 16383) ?_
        refine qp 14 27 (fl_ 25 32767) ?_
        refine qp 16 29 (fl_ 25 98303) ?_
        refine qp 17 30 (fl_ 25 229375) ?_
        refine qt 15 28 (fl_ 25 262143) hHeld ?_
        refine qp 18 31 (fl_ 25 524287) ?_
        refine qt 19 32 (fl_ 25 1048575) hHeld ?_
        refine qt 20 33 (fl_ 25 2097151) hHeld ?_
        refine one_ (i := 21) (N := some 34) (fl_ 25 4194303) rfl rfl (one_of HT_.out (by kernel_rfl)) (by decide) (fun K hK => ?_)
        refine goes_ Try.func43 (by kernel_rfl) rfl #[.agg #[.int .i64 ((y19 l0_2 (ji12)).f0),.int .i64 ((y19 l0_2 (ji12)).f1),.bool ((y19 l0_2 (ji12)).f2)],.agg #[.int .i64 ((y19 l0_2 x8_1).f0),.int .i64 ((y19 l0_2 x8_1).f1),.bool ((y19 l0_2 x8_1).f2)]] (by rfl) rfl rfl (by (try simp only [qM_,List.map_cons,List.map_nil]); first | done | (simp only [hji12]; rfl) | rfl | (simp only [qD_,qT_]; rfl)) ?_
        with_reducible refine (impl_compareArcs.calls k1 ((y19 l0_2 (ji12)).f0) ((y19 l0_2 (ji12)).f1) ((y19 l0_2 (ji12)).f2) ((y19 l0_2 x8_1).f0) ((y19 l0_2 x8_1).f1) ((y19 l0_2 x8_1).f2) t184 _ A15.out).mono ?_
        rintro e w28 ⟨rfl,hb⟩
        refine ⟨_,rfl, ?_⟩
        replace BK178 := y0.mk (qK BK178.out hb)
        replace BK180 := y0.mk (qK BK180.out hb)
        replace HB := y0.mk (y4 qb hb)
        (try clear hb)
        (try clear hb2)
        (try clear hk)
        (try clear hi)
        refine hK.out _ _ ⟨(y7 BK180.out 0).trans rfl,(y7 BK180.out 1).trans rfl,(y7 BK180.out 2).trans rfl,(y7 BK178.out 0).trans rfl,(y7 BK178.out 1).trans rfl,(y7 BK178.out 2).trans rfl,((HB.out.cell (World.block_lt_of_cell? w _ hw183_0)).trans hw183_0),((HB.out.cell (World.block_lt_of_cell? w _ hw183_1)).trans hw183_1),((HB.out.cell (World.block_lt_of_cell? w _ hw183_2)).trans hw183_2)⟩ (fun hHeld => ?_)
        clear hK K
        refine norm_ (a' := ?_) ?_ ?_
        rotate_left
        ·show Act.put _ (some 34) _ = _
         simp only [Act.put,qS_,qZ_,qC_,y17,y16]
         rfl
        refine qp 22 35 (fl_ 25 8388607) ?_
        refine qp 23 36 (fl_ 25 16777215) ?_
        refine qp 24 37 (fl_ 25 33554431) ?_
        refine done_ (done_of HT_.out (by kernel_rfl)) ?_
        try go_wp2
        go_roundg k1
        case measure => have := HK1.out; omega
        exact ⟨(wrap64 (x8_1 + 1)),qy2,H',⟨by have := HK1.out; omega⟩,⟨qk BK178.out⟩,⟨qb⟩⟩
      ·rw [if_neg c11] at H
       have c11b0 : decide (0 < x8_1) = false := decide_eq_false c11
       clear c11
       have H' := y0.mk H
       clear H
       have p179 : 0 ≤ (x8_1 : Int) := of_decide_eq_true qy1
       have q179 : x8_1 < (l0_2.length : Int) := of_decide_eq_true qy1
       obtain ⟨ad179,e179,hx179_0,hx179_1,hx179_2⟩ := at_T53 HR0_2.out x8_1 p179 q179
       cases e179
       replace hx179_0 := (HB.out.cell (World.block_lt_of_cell? w _ hx179_0)).trans hx179_0
       replace hx179_1 := (HB.out.cell (World.block_lt_of_cell? w _ hx179_1)).trans hx179_1
       replace hx179_2 := (HB.out.cell (World.block_lt_of_cell? w _ hx179_2)).trans hx179_2
       replace p179 := eq_true p179
       replace q179 := eq_true q179
       try go_wp2_with (first | ((with_reducible refine y15 (N := 4) rfl ?_); refine qe 4 #[.int .i64 0,.int .i64 0,.bool false] 53 ?_; intro gb180 hg w29 hbox hb; have BK180 := y0.mk (hbox); have GW180 := y0.mk (qg (w := w) hg); have GE180 := y0.mk (qg (w := w) hg); replace HB := y0.mk (y4 qb hb); have NB178_180 := y0.mk (qn BK178.out hg); have NB180_178 := y0.mk (qm BK178.out hg); replace BK178 := y0.mk (qK BK178.out hb); clear hb hbox hg; have hnb30 := NB180_178.out; have hnc30 := NB178_180.out; obtain ⟨hcz31_0,hcz31_1,hcz31_2,hfz31_0,hfz31_1,hfz31_2⟩ := qz3 BK180.out))
       have n0_ : y0 ((((w29.setCell ⟨gb180,0,none⟩ (.int .i64 ((y19 l0_2 x8_1).f0))).setCell ⟨gb180,1,none⟩ (.int .i64 ((y19 l0_2 x8_1).f1))).setCell ⟨gb180,2,none⟩ (.bool ((y19 l0_2 x8_1).f2))).heap[gb178]? = some (.cells #[.int .i64 a0_0,.int .i64 a0_1,.slice (some ad179) l0_2.length c0_2] 28 (0,0))) := ⟨by (with_reducible repeat (first | refine y9 ?_ _ | refine y8 ?_ | refine y5 ?_ _)); refine blk_far ?_ NB178_180.out _; (with_reducible repeat (first | refine y9 ?_ _ | refine y8 ?_ | refine y5 ?_ _)); refine blk_far ?_ NB178_180.out _; (with_reducible repeat (first | refine y9 ?_ _ | refine y8 ?_ | refine y5 ?_ _)); refine blk_far ?_ NB178_180.out _; (with_reducible repeat (first | refine y9 ?_ _ | refine y8 ?_ | refine y5 ?_ _)); exact BK178.out⟩
       have n1_ : y0 ((((w29.setCell ⟨gb180,0,none⟩ (.int .i64 ((y19 l0_2 x8_1).f0))).setCell ⟨gb180,1,none⟩ (.int .i64 ((y19 l0_2 x8_1).f1))).setCell ⟨gb180,2,none⟩ (.bool ((y19 l0_2 x8_1).f2))).heap[gb180]? = some (.cells #[.int .i64 ((y19 l0_2 x8_1).f0),.int .i64 ((y19 l0_2 x8_1).f1),.bool ((y19 l0_2 x8_1).f2)] 53 (0,0))) := ⟨by (with_reducible repeat (first | refine y9 ?_ _ | refine y8 ?_ | refine y5 ?_ _)); refine y12 (cs := #[.int .i64 ((y19 l0_2 x8_1).f0),.int .i64 ((y19 l0_2 x8_1).f1),.bool false]) ?_ 2 _ rfl; (with_reducible repeat (first | refine y9 ?_ _ | refine y8 ?_ | refine y5 ?_ _)); refine y12 (cs := #[.int .i64 ((y19 l0_2 x8_1).f0),.int .i64 0,.bool false]) ?_ 1 _ rfl; (with_reducible repeat (first | refine y9 ?_ _ | refine y8 ?_ | refine y5 ?_ _)); refine y12 (cs := #[.int .i64 0,.int .i64 0,.bool false]) ?_ 0 _ rfl; (with_reducible repeat (first | refine y9 ?_ _ | refine y8 ?_ | refine y5 ?_ _)); exact BK180.out⟩
       have n2_ : y0 (Below w.heap.size w (((w29.setCell ⟨gb180,0,none⟩ (.int .i64 ((y19 l0_2 x8_1).f0))).setCell ⟨gb180,1,none⟩ (.int .i64 ((y19 l0_2 x8_1).f1))).setCell ⟨gb180,2,none⟩ (.bool ((y19 l0_2 x8_1).f2)))) := ⟨qb⟩
       (try clear BK178)
       (try clear BK180)
       (try clear HB)
       generalize (((w29.setCell ⟨gb180,0,none⟩ (.int .i64 ((y19 l0_2 x8_1).f0))).setCell ⟨gb180,1,none⟩ (.int .i64 ((y19 l0_2 x8_1).f1))).setCell ⟨gb180,2,none⟩ (.bool ((y19 l0_2 x8_1).f2))) = w32 at n0_ n1_ n2_ ⊢
       have BK178 := n0_
       have BK180 := n1_
       have HB := n2_
       clear n0_ n1_ n2_
       replace BK178 := y0.mk (y8 BK178.out)
       replace BK180 := y0.mk (y8 BK180.out)
       replace HB := y0.mk (y2 HB.out)
       refine start_ (n := 25) (S := fun w' => w'.cell? ⟨gb180,0,none⟩ = some (.int .i64 ((y19 l0_2 x8_1).f0)) ∧ w'.cell? ⟨gb180,1,none⟩ = some (.int .i64 ((y19 l0_2 x8_1).f1)) ∧ w'.cell? ⟨gb180,2,none⟩ = some (.bool ((y19 l0_2 x8_1).f2))) (ds := []) (fl_ 25 0) (by kernel_rfl) rfl rfl ⟨(y7 BK180.out 0).trans rfl,(y7 BK180.out 1).trans rfl,(y7 BK180.out 2).trans rfl⟩ (fun hHeld => ?_); refine with_tabW impl_isGraph.tab4 impl_isGraph.bits4 (fun HT_ HW_ => ?_)
       generalize w32.drew = w33 at BK178 BK180 HB hHeld ⊢
       refine qp 0 13 (fl_ 25 1) ?_
       refine qt 1 14 (fl_ 25 3) hHeld ?_
       refine one_ (i := 2) (N := some 15) (fl_ 25 7) rfl rfl (one_of HT_.out (by kernel_rfl)) (by decide) (fun K hK => ?_)
       refine goes_ Try.func42 (by kernel_rfl) rfl #[.int .i64 ((y19 l0_2 x8_1).f0),.int .i64 0,.int .i64 5] (by rfl) rfl rfl qy0 ?_
       with_reducible refine (impl_in.calls ((y19 l0_2 x8_1).f0) 0 5 true _ A7.out).mono ?_
       rintro e w' ⟨rfl,⟨nd,rfl⟩⟩
       refine ⟨_,rfl, ?_⟩
       refine hK.out _ _ ⟨(y7 BK180.out 0).trans rfl,(y7 BK180.out 1).trans rfl,(y7 BK180.out 2).trans rfl⟩ (fun hHeld => ?_)
       clear hK K
       refine norm_ (a' := ?_) ?_ ?_
       rotate_left
       ·show Act.put _ (some 15) _ = _
        simp only [Act.put,qS_,qZ_,qC_,y17,y16]
        rfl
       refine qp 3 16 (fl_ 25 15) ?_
       refine qp 4 17 (fl_ 25 31) ?_
       refine qp 5 18 (fl_ 25 63) ?_
       refine qt 6 19 (fl_ 25 127) hHeld ?_
       refine one_ (i := 7) (N := some 20) (fl_ 25 255) rfl rfl (one_of HT_.out (by kernel_rfl)) (by decide) (fun K hK => ?_)
       refine goes_ Try.func42 (by kernel_rfl) rfl #[.int .i64 ((y19 l0_2 x8_1).f1),.int .i64 0,.int .i64 5] (by rfl) rfl rfl qy0 ?_
       with_reducible refine (impl_in.calls ((y19 l0_2 x8_1).f1) 0 5 true _ A9.out).mono ?_
       rintro e w' ⟨rfl,⟨nd,rfl⟩⟩
       refine ⟨_,rfl, ?_⟩
       refine hK.out _ _ ⟨(y7 BK180.out 0).trans rfl,(y7 BK180.out 1).trans rfl,(y7 BK180.out 2).trans rfl⟩ (fun hHeld => ?_)
       clear hK K
       refine norm_ (a' := ?_) ?_ ?_
       rotate_left
       ·show Act.put _ (some 20) _ = _
        simp only [Act.put,qS_,qZ_,qC_,y17,y16]
        rfl
       refine qp 8 21 (fl_ 25 511) ?_
       refine qp 9 22 (fl_ 25 1023) ?_
       refine qp 10 23 (fl_ 25 2047) ?_
       refine qp 11 24 (fl_ 25 4095) ?_
       refine qp 12 25 (fl_ 25 8191) ?_
       refine qp 13 26 (fl_ 25 16383) ?_
       refine pure_ (i := 14) (N := some 27) (v := undef) (a' := ?_) (fl_ 25 32767) rfl rfl (any_of HT_.out (by kernel_rfl)) (fun _ _ _ h => h) (Or.inr ⟨by rfl,rfl⟩) ?_ ?_
       rotate_left
       ·simp only [Act.put,qS_,qZ_,qC_,y17,y16]
        rfl
       refine pure_ (i := 15) (N := some 28) (v := undef) (a' := ?_) (fl_ 25 65535) rfl rfl (any_of HT_.out (by kernel_rfl)) (fun _ _ _ h => h) (Or.inr ⟨by rfl,rfl⟩) ?_ ?_
       rotate_left
       ·simp only [Act.put,qS_,qZ_,qC_,y17,y16]
        rfl
       refine pure_ (i := 16) (N := some 29) (v := undef) (a' := ?_) (fl_ 25 131071) rfl rfl (any_of HT_.out (by kernel_rfl)) (fun _ _ _ h => h) (Or.inr ⟨by rfl,rfl⟩) ?_ ?_
       rotate_left
       ·simp only [Act.put,qS_,qZ_,qC_,y17,y16]
        rfl
       refine pure_ (i := 17) (N := some 30) (v := undef) (a' := ?_) (fl_ 25 262143) rfl rfl (any_of HT_.out (by kernel_rfl)) (fun _ _ _ h => h) (Or.inr ⟨by rfl,rfl⟩) ?_ ?_
       rotate_left
       ·simp only [Act.put,qS_,qZ_,qC_,y17,y16]
        rfl
       refine pure_ (i := 18) (N := some 31) (v := undef) (a' := ?_) (fl_ 25 524287) rfl rfl (any_of HT_.out (by kernel_rfl)) (fun _ _ _ h => h) (Or.inr ⟨by rfl,rfl⟩) ?_ ?_
       rotate_left
       ·simp only [Act.put,qS_,qZ_,qC_,y17,y16]
        rfl
       refine pure_ (i := 19) (N := some 32) (v := undef) (a' := ?_) (fl_ 25 1048575) rfl rfl (any_of HT_.out (by kernel_rfl)) (fun _ _ _ h => h) (Or.inr ⟨by rfl,rfl⟩) ?_ ?_
       rotate_left
       ·simp only [Act.put,qS_,qZ_,qC_,y17,y16]
        rfl
       refine pure_ (i := 20) (N := some 33) (v := undef) (a' := ?_) (fl_ 25 2097151) rfl rfl (any_of HT_.out (by kernel_rfl)) (fun _ _ _ h => h) (Or.inr ⟨by rfl,rfl⟩) ?_ ?_
       rotate_left
       ·simp only [Act.put,qS_,qZ_,qC_,y17,y16]
        rfl
       refine pure_ (i := 21) (N := some 34) (v := undef) (a' := ?_) (fl_ 25 4194303) rfl rfl (any_of HT_.out (by kernel_rfl)) (fun _ _ _ h => h) (Or.inr ⟨by rfl,rfl⟩) ?_ ?_
       rotate_left
       ·simp only [Act.put,qS_,qZ_,qC_,y17,y16]
        rfl
       refine pure_ (i := 22) (N := some 35) (v := undef) (a' := ?_) (fl_ 25 8388607) rfl rfl (any_of HT_.out (by kernel_rfl)) (fun _ _ _ h => h) (Or.inr ⟨by rfl,rfl⟩) ?_ ?_
       rotate_left
       ·simp only [Act.put,qS_,qZ_,qC_,y17,y16]
        rfl
       refine qp 23 36 (fl_ 25 16777215) ?_
       refine qp 24 37 (fl_ 25 33554431) ?_
       refine done_ (done_of HT_.out (by kernel_rfl)) ?_
       try go_wp2
       go_roundg k1
       case measure => have := HK1.out; omega
       exact ⟨(wrap64 (x8_1 + 1)),qy2,H',⟨by have := HK1.out; omega⟩,⟨qk BK178.out⟩,⟨qb⟩⟩
     ·replace c10 := Bool.eq_false_iff.mpr c10
      subst c10
      replace H := qF H
      obtain rfl := Option.some.inj H
      have p179 : 0 ≤ (x8_1 : Int) := of_decide_eq_true qy1
      have q179 : x8_1 < (l0_2.length : Int) := of_decide_eq_true qy1
      obtain ⟨ad179,e179,hx179_0,hx179_1,hx179_2⟩ := at_T53 HR0_2.out x8_1 p179 q179
      cases e179
      replace hx179_0 := (HB.out.cell (World.block_lt_of_cell? w _ hx179_0)).trans hx179_0
      replace hx179_1 := (HB.out.cell (World.block_lt_of_cell? w _ hx179_1)).trans hx179_1
      replace hx179_2 := (HB.out.cell (World.block_lt_of_cell? w _ hx179_2)).trans hx179_2
      replace p179 := eq_true p179
      replace q179 := eq_true q179
      try go_wp2_with (first | ((with_reducible refine y15 (N := 4) rfl ?_); refine qe 4 #[.int .i64 0,.int .i64 0,.bool false] 53 ?_; intro gb180 hg w34 hbox hb; have BK180 := y0.mk (hbox); have GW180 := y0.mk (qg (w := w) hg); have GE180 := y0.mk (qg (w := w) hg); replace HB := y0.mk (y4 qb hb); have NB178_180 := y0.mk (qn BK178.out hg); have NB180_178 := y0.mk (qm BK178.out hg); replace BK178 := y0.mk (qK BK178.out hb); clear hb hbox hg; have hnb35 := NB180_178.out; have hnc35 := NB178_180.out; obtain ⟨hcz36_0,hcz36_1,hcz36_2,hfz36_0,hfz36_1,hfz36_2⟩ := qz3 BK180.out))
      have n0_ : y0 ((((w34.setCell ⟨gb180,0,none⟩ (.int .i64 ((y19 l0_2 x8_1).f0))).setCell ⟨gb180,1,none⟩ (.int .i64 ((y19 l0_2 x8_1).f1))).setCell ⟨gb180,2,none⟩ (.bool ((y19 l0_2 x8_1).f2))).heap[gb178]? = some (.cells #[.int .i64 a0_0,.int .i64 a0_1,.slice (some ad179) l0_2.length c0_2] 28 (0,0))) := ⟨by (with_reducible repeat (first | refine y9 ?_ _ | refine y8 ?_ | refine y5 ?_ _)); refine blk_far ?_ NB178_180.out _; (with_reducible repeat (first | refine y9 ?_ _ | refine y8 ?_ | refine y5 ?_ _)); refine blk_far ?_ NB178_180.out _; (with_reducible repeat (first | refine y9 ?_ _ | refine y8 ?_ | refine y5 ?_ _)); refine blk_far ?_ NB178_180.out _; (with_reducible repeat (first | refine y9 ?_ _ | refine y8 ?_ | refine y5 ?_ _)); exact BK178.out⟩
      have n1_ : y0 ((((w34.setCell ⟨gb180,0,none⟩ (.int .i64 ((y19 l0_2 x8_1).f0))).setCell ⟨gb180,1,none⟩ (.int .i64 ((y19 l0_2 x8_1).f1))).setCell ⟨gb180,2,none⟩ (.bool ((y19 l0_2 x8_1).f2))).heap[gb180]? = some (.cells #[.int .i64 ((y19 l0_2 x8_1).f0),.int .i64 ((y19 l0_2 x8_1).f1),.bool ((y19 l0_2 x8_1).f2)] 53 (0,0))) := ⟨by (with_reducible repeat (first | refine y9 ?_ _ | refine y8 ?_ | refine y5 ?_ _)); refine y12 (cs := #[.int .i64 ((y19 l0_2 x8_1).f0),.int .i64 ((y19 l0_2 x8_1).f1),.bool false]) ?_ 2 _ rfl; (with_reducible repeat (first | refine y9 ?_ _ | refine y8 ?_ | refine y5 ?_ _)); refine y12 (cs := #[.int .i64 ((y19 l0_2 x8_1).f0),.int .i64 0,.bool false]) ?_ 1 _ rfl; (with_reducible repeat (first | refine y9 ?_ _ | refine y8 ?_ | refine y5 ?_ _)); refine y12 (cs := #[.int .i64 0,.int .i64 0,.bool false]) ?_ 0 _ rfl; (with_reducible repeat (first | refine y9 ?_ _ | refine y8 ?_ | refine y5 ?_ _)); exact BK180.out⟩
      have n2_ : y0 (Below w.heap.size w (((w34.setCell ⟨gb180,0,none⟩ (.int .i64 ((y19 l0_2 x8_1).f0))).setCell ⟨gb180,1,none⟩ (.int .i64 ((y19 l0_2 x8_1).f1))).setCell ⟨gb180,2,none⟩ (.bool ((y19 l0_2 x8_1).f2)))) := ⟨qb⟩
      (try clear BK178)
      (try clear BK180)
      (try clear HB)
      generalize (((w34.setCell ⟨gb180,0,none⟩ (.int .i64 ((y19 l0_2 x8_1).f0))).setCell ⟨gb180,1,none⟩ (.int .i64 ((y19 l0_2 x8_1).f1))).setCell ⟨gb180,2,none⟩ (.bool ((y19 l0_2 x8_1).f2))) = w37 at n0_ n1_ n2_ ⊢
      have BK178 := n0_
      have BK180 := n1_
      have HB := n2_
      clear n0_ n1_ n2_
      replace BK178 := y0.mk (y8 BK178.out)
      replace BK180 := y0.mk (y8 BK180.out)
      replace HB := y0.mk (y2 HB.out)
      refine start_ (n := 25) (S := fun w' => w'.cell? ⟨gb180,0,none⟩ = some (.int .i64 ((y19 l0_2 x8_1).f0)) ∧ w'.cell? ⟨gb180,1,none⟩ = some (.int .i64 ((y19 l0_2 x8_1).f1)) ∧ w'.cell? ⟨gb180,2,none⟩ = some (.bool ((y19 l0_2 x8_1).f2))) (ds := []) (fl_ 25 0) (by kernel_rfl) rfl rfl ⟨(y7 BK180.out 0).trans rfl,(y7 BK180.out 1).trans rfl,(y7 BK180.out 2).trans rfl⟩ (fun hHeld => ?_); refine with_tabW impl_isGraph.tab4 impl_isGraph.bits4 (fun HT_ HW_ => ?_)
      generalize w37.drew = w38 at BK178 BK180 HB hHeld ⊢
      refine qp 0 13 (fl_ 25 1) ?_
      refine qt 1 14 (fl_ 25 3) hHeld ?_
      refine one_ (i := 2) (N := some 15) (fl_ 25 7) rfl rfl (one_of HT_.out (by kernel_rfl)) (by decide) (fun K hK => ?_)
      refine goes_ Try.func42 (by kernel_rfl) rfl #[.int .i64 ((y19 l0_2 x8_1).f0),.int .i64 0,.int .i64 5] (by rfl) rfl rfl qy0 ?_
      with_reducible refine (impl_in.calls ((y19 l0_2 x8_1).f0) 0 5 true _ A7.out).mono ?_
      rintro e w' ⟨rfl,⟨nd,rfl⟩⟩
      refine ⟨_,rfl, ?_⟩
      refine hK.out _ _ ⟨(y7 BK180.out 0).trans rfl,(y7 BK180.out 1).trans rfl,(y7 BK180.out 2).trans rfl⟩ (fun hHeld => ?_)
      clear hK K
      refine norm_ (a' := ?_) ?_ ?_
      rotate_left
      ·show Act.put _ (some 15) _ = _
       simp only [Act.put,qS_,qZ_,qC_,y17,y16]
       rfl
      refine qp 3 16 (fl_ 25 15) ?_
      refine qp 4 17 (fl_ 25 31) ?_
      refine qp 5 18 (fl_ 25 63) ?_
      refine qt 6 19 (fl_ 25 127) hHeld ?_
      refine one_ (i := 7) (N := some 20) (fl_ 25 255) rfl rfl (one_of HT_.out (by kernel_rfl)) (by decide) (fun K hK => ?_)
      refine goes_ Try.func42 (by kernel_rfl) rfl #[.int .i64 ((y19 l0_2 x8_1).f1),.int .i64 0,.int .i64 5] (by rfl) rfl rfl qy0 ?_
      with_reducible refine (impl_in.calls ((y19 l0_2 x8_1).f1) 0 5 false _ A9.out).mono ?_
      rintro e w' ⟨rfl,⟨nd,rfl⟩⟩
      refine ⟨_,rfl, ?_⟩
      refine hK.out _ _ ⟨(y7 BK180.out 0).trans rfl,(y7 BK180.out 1).trans rfl,(y7 BK180.out 2).trans rfl⟩ (fun hHeld => ?_)
      clear hK K
      refine norm_ (a' := ?_) ?_ ?_
      rotate_left
      ·show Act.put _ (some 20) _ = _
       simp only [Act.put,qS_,qZ_,qC_,y17,y16]
       rfl
      refine qp 8 21 (fl_ 25 511) ?_
      refine qp 9 22 (fl_ 25 1023) ?_
      refine qp 10 23 (fl_ 25 2047) ?_
      refine pure_ (i := 11) (N := some 24) (v := undef) (a' := ?_) (fl_ 25 4095) rfl rfl (any_of HT_.out (by kernel_rfl)) (fun _ _ _ h => h) (Or.inr ⟨by rfl,rfl⟩) ?_ ?_
      rotate_left
      ·simp only [Act.put,qS_,qZ_,qC_,y17,y16]
       rfl
      refine pure_ (i := 12) (N := some 25) (v := undef) (a' := ?_) (fl_ 25 8191) rfl rfl (any_of HT_.out (by kernel_rfl)) (fun _ _ _ h => h) (Or.inr ⟨by rfl,rfl⟩) ?_ ?_
      rotate_left
      ·simp only [Act.put,qS_,qZ_,qC_,y17,y16]
       rfl
      refine pure_ (i := 13) (N := some 26) (v := undef) (a' := ?_) (fl_ 25 16383) rfl rfl (any_of HT_.out (by kernel_rfl)) (fun _ _ _ h => h) (Or.inr ⟨by rfl,rfl⟩) ?_ ?_
      rotate_left
      ·simp only [Act.put,qS_,qZ_,qC_,y17,y16]
       rfl
      refine pure_ (i := 14) (N := some 27) (v := undef) (a' := ?_) (fl_ 25 32767) rfl rfl (any_of HT_.out (by kernel_rfl)) (fun _ _ _ h => h) (Or.inr ⟨by rfl,rfl⟩) ?_ ?_
      rotate_left
      ·simp only [Act.put,qS_,qZ_,qC_,y17,y16]
       rfl
      refine pure_ (i := 15) (N := some 28) (v := undef) (a' := ?_) (fl_ 25 65535) rfl rfl (any_of HT_.out (by kernel_rfl)) (fun _ _ _ h => h) (Or.inr ⟨by rfl,rfl⟩) ?_ ?_
      rotate_left
      ·simp only [Act.put,qS_,qZ_,qC_,y17,y16]
       rfl
      refine pure_ (i := 16) (N := some 29) (v := undef) (a' := ?_) (fl_ 25 131071) rfl rfl (any_of HT_.out (by kernel_rfl)) (fun _ _ _ h => h) (Or.inr ⟨by rfl,rfl⟩) ?_ ?_
      rotate_left
      ·simp only [Act.put,qS_,qZ_,qC_,y17,y16]
       rfl
      refine pure_ (i := 17) (N := some 30) (v := undef) (a' := ?_) (fl_ 25 262143) rfl rfl (any_of HT_.out (by kernel_rfl)) (fun _ _ _ h => h) (Or.inr ⟨by rfl,rfl⟩) ?_ ?_
      rotate_left
      ·simp only [Act.put,qS_,qZ_,qC_,y17,y16]
       rfl
      refine pure_ (i := 18) (N := some 31) (v := undef) (a' := ?_) (fl_ 25 524287) rfl rfl (any_of HT_.out (by kernel_rfl)) (fun _ _ _ h => h) (Or.inr ⟨by rfl,rfl⟩) ?_ ?_
      rotate_left
      ·simp only [Act.put,qS_,qZ_,qC_,y17,y16]
       rfl
      refine pure_ (i := 19) (N := some 32) (v := undef) (a' := ?_) (fl_ 25 1048575) rfl rfl (any_of HT_.out (by kernel_rfl)) (fun _ _ _ h => h) (Or.inr ⟨by rfl,rfl⟩) ?_ ?_
      rotate_left
      ·simp only [Act.put,qS_,qZ_,qC_,y17,y16]
       rfl
      refine pure_ (i := 20) (N := some 33) (v := undef) (a' := ?_) (fl_ 25 2097151) rfl rfl (any_of HT_.out (by kernel_rfl)) (fun _ _ _ h => h) (Or.inr ⟨by rfl,rfl⟩) ?_ ?_
      rotate_left
      ·simp only [Act.put,qS_,qZ_,qC_,y17,y16]
       rfl
      refine pure_ (i := 21) (N := some 34) (v := undef) (a' := ?_) (fl_ 25 4194303) rfl rfl (any_of HT_.out (by kernel_rfl)) (fun _ _ _ h => h) (Or.inr ⟨by rfl,rfl⟩) ?_ ?_
      rotate_left
      ·simp only [Act.put,qS_,qZ_,qC_,y17,y16]
       rfl
      refine pure_ (i := 22) (N := some 35) (v := undef) (a' := ?_) (fl_ 25 8388607) rfl rfl (any_of HT_.out (by kernel_rfl)) (fun _ _ _ h => h) (Or.inr ⟨by rfl,rfl⟩) ?_ ?_
      rotate_left
      ·simp only [Act.put,qS_,qZ_,qC_,y17,y16]
       rfl
      refine pure_ (i := 23) (N := some 36) (v := undef) (a' := ?_) (fl_ 25 16777215) rfl rfl (any_of HT_.out (by kernel_rfl)) (fun _ _ _ h => h) (Or.inr ⟨by rfl,rfl⟩) ?_ ?_
      rotate_left
      ·simp only [Act.put,qS_,qZ_,qC_,y17,y16]
       rfl
      refine qp 24 37 (fl_ 25 33554431) ?_
      refine done_ (done_of HT_.out (by kernel_rfl)) ?_
      try go_wp2
      go_ret
      exact ⟨by first | rfl | (simp [y13,y14] <;> rfl) | (simp [*,y13,y14] <;> rfl),qb⟩
    ·replace c8 := Bool.eq_false_iff.mpr c8
     subst c8
     replace H := qF H
     obtain rfl := Option.some.inj H
     have p179 : 0 ≤ (x8_1 : Int) := of_decide_eq_true qy1
     have q179 : x8_1 < (l0_2.length : Int) := of_decide_eq_true qy1
     obtain ⟨ad179,e179,hx179_0,hx179_1,hx179_2⟩ := at_T53 HR0_2.out x8_1 p179 q179
     cases e179
     replace hx179_0 := (HB.out.cell (World.block_lt_of_cell? w _ hx179_0)).trans hx179_0
     replace hx179_1 := (HB.out.cell (World.block_lt_of_cell? w _ hx179_1)).trans hx179_1
     replace hx179_2 := (HB.out.cell (World.block_lt_of_cell? w _ hx179_2)).trans hx179_2
     replace p179 := eq_true p179
     replace q179 := eq_true q179
     try go_wp2_with (first | ((with_reducible refine y15 (N := 4) rfl ?_); refine qe 4 #[.int .i64 0,.int .i64 0,.bool false] 53 ?_; intro gb180 hg w39 hbox hb; have BK180 := y0.mk (hbox); have GW180 := y0.mk (qg (w := w) hg); have GE180 := y0.mk (qg (w := w) hg); replace HB := y0.mk (y4 qb hb); have NB178_180 := y0.mk (qn BK178.out hg); have NB180_178 := y0.mk (qm BK178.out hg); replace BK178 := y0.mk (qK BK178.out hb); clear hb hbox hg; have hnb40 := NB180_178.out; have hnc40 := NB178_180.out; obtain ⟨hcz41_0,hcz41_1,hcz41_2,hfz41_0,hfz41_1,hfz41_2⟩ := qz3 BK180.out))
     have n0_ : y0 ((((w39.setCell ⟨gb180,0,none⟩ (.int .i64 ((y19 l0_2 x8_1).f0))).setCell ⟨gb180,1,none⟩ (.int .i64 ((y19 l0_2 x8_1).f1))).setCell ⟨gb180,2,none⟩ (.bool ((y19 l0_2 x8_1).f2))).heap[gb178]? = some (.cells #[.int .i64 a0_0,.int .i64 a0_1,.slice (some ad179) l0_2.length c0_2] 28 (0,0))) := ⟨by (with_reducible repeat (first | refine y9 ?_ _ | refine y8 ?_ | refine y5 ?_ _)); refine blk_far ?_ NB178_180.out _; (with_reducible repeat (first | refine y9 ?_ _ | refine y8 ?_ | refine y5 ?_ _)); refine blk_far ?_ NB178_180.out _; (with_reducible repeat (first | refine y9 ?_ _ | refine y8 ?_ | refine y5 ?_ _)); refine blk_far ?_ NB178_180.out _; (with_reducible repeat (first | refine y9 ?_ _ | refine y8 ?_ | refine y5 ?_ _)); exact BK178.out⟩
     have n1_ : y0 ((((w39.setCell ⟨gb180,0,none⟩ (.int .i64 ((y19 l0_2 x8_1).f0))).setCell ⟨gb180,1,none⟩ (.int .i64 ((y19 l0_2 x8_1).f1))).setCell ⟨gb180,2,none⟩ (.bool ((y19 l0_2 x8_1).f2))).heap[gb180]? = some (.cells #[.int .i64 ((y19 l0_2 x8_1).f0),.int .i64 ((y19 l0_2 x8_1).f1),.bool ((y19 l0_2 x8_1).f2)] 53 (0,0))) := ⟨by (with_reducible repeat (first | refine y9 ?_ _ | refine y8 ?_ | refine y5 ?_ _)); refine y12 (cs := #[.int .i64 ((y19 l0_2 x8_1).f0),.int .i64 ((y19 l0_2 x8_1).f1),.bool false]) ?_ 2 _ rfl; (with_reducible repeat (first | refine y9 ?_ _ | refine y8 ?_ | refine y5 ?_ _)); refine y12 (cs := #[.int .i64 ((y19 l0_2 x8_1).f0),.int .i64 0,.bool false]) ?_ 1 _ rfl; (with_reducible repeat (first | refine y9 ?_ _ | refine y8 ?_ | refine y5 ?_ _)); refine y12 (cs := #[.int .i64 0,.int .i64 0,.bool false]) ?_ 0 _ rfl; (with_reducible repeat (first | refine y9 ?_ _ | refine y8 ?_ | refine y5 ?_ _)); exact BK180.out⟩
     have n2_ : y0 (Below w.heap.size w (((w39.setCell ⟨gb180,0,none⟩ (.int .i64 ((y19 l0_2 x8_1).f0))).setCell ⟨gb180,1,none⟩ (.int .i64 ((y19 l0_2 x8_1).f1))).setCell ⟨gb180,2,none⟩ (.bool ((y19 l0_2 x8_1).f2)))) := ⟨qb⟩
     (try clear BK178)
     (try clear BK180)
     (try clear HB)
     generalize (((w39.setCell ⟨gb180,0,none⟩ (.int .i64 ((y19 l0_2 x8_1).f0))).setCell ⟨gb180,1,none⟩ (.int .i64 ((y19 l0_2 x8_1).f1))).setCell ⟨gb180,2,none⟩ (.bool ((y19 l0_2 x8_1).f2))) = w42 at n0_ n1_ n2_ ⊢
     have BK178 := n0_
     have BK180 := n1_
     have HB := n2_
     clear n0_ n1_ n2_
     replace BK178 := y0.mk (y8 BK178.out)
     replace BK180 := y0.mk (y8 BK180.out)
     replace HB := y0.mk (y2 HB.out)
     refine start_ (n := 25) (S := fun w' => w'.cell? ⟨gb180,0,none⟩ = some (.int .i64 ((y19 l0_2 x8_1).f0)) ∧ w'.cell? ⟨gb180,1,none⟩ = some (.int .i64 ((y19 l0_2 x8_1).f1)) ∧ w'.cell? ⟨gb180,2,none⟩ = some (.bool ((y19 l0_2 x8_1).f2))) (ds := []) (fl_ 25 0) (by kernel_rfl) rfl rfl ⟨(y7 BK180.out 0).trans rfl,(y7 BK180.out 1).trans rfl,(y7 BK180.out 2).trans rfl⟩ (fun hHeld => ?_); refine with_tabW impl_isGraph.tab4 impl_isGraph.bits4 (fun HT_ HW_ => ?_)
     generalize w42.drew = w43 at BK178 BK180 HB hHeld ⊢
     refine qp 0 13 (fl_ 25 1) ?_
     refine qt 1 14 (fl_ 25 3) hHeld ?_
     refine one_ (i := 2) (N := some 15) (fl_ 25 7) rfl rfl (one_of HT_.out (by kernel_rfl)) (by decide) (fun K hK => ?_)
     refine goes_ Try.func42 (by kernel_rfl) rfl #[.int .i64 ((y19 l0_2 x8_1).f0),.int .i64 0,.int .i64 5] (by rfl) rfl rfl qy0 ?_
     with_reducible refine (impl_in.calls ((y19 l0_2 x8_1).f0) 0 5 false _ A7.out).mono ?_
     rintro e w' ⟨rfl,⟨nd,rfl⟩⟩
     refine ⟨_,rfl, ?_⟩
     refine hK.out _ _ ⟨(y7 BK180.out 0).trans rfl,(y7 BK180.out 1).trans rfl,(y7 BK180.out 2).trans rfl⟩ (fun hHeld => ?_)
     clear hK K
     refine norm_ (a' := ?_) ?_ ?_
     rotate_left
     ·show Act.put _ (some 15) _ = _
      simp only [Act.put,qS_,qZ_,qC_,y17,y16]
      rfl
     refine qp 3 16 (fl_ 25 15) ?_
     refine qp 4 17 (fl_ 25 31) ?_
     refine pure_ (i := 5) (N := some 18) (v := undef) (a' := ?_) (fl_ 25 63) rfl rfl (any_of HT_.out (by kernel_rfl)) (fun _ _ _ h => h) (Or.inr ⟨by rfl,rfl⟩) ?_ ?_
     rotate_left
     ·simp only [Act.put,qS_,qZ_,qC_,y17,y16]
      rfl
     refine pure_ (i := 6) (N := some 19) (v := undef) (a' := ?_) (fl_ 25 127) rfl rfl (any_of HT_.out (by kernel_rfl)) (fun _ _ _ h => h) (Or.inr ⟨by rfl,rfl⟩) ?_ ?_
     rotate_left
     ·simp only [Act.put,qS_,qZ_,qC_,y17,y16]
      rfl
     refine pure_ (i := 7) (N := some 20) (v := undef) (a' := ?_) (fl_ 25 255) rfl rfl (any_of HT_.out (by kernel_rfl)) (fun _ _ _ h => h) (Or.inr ⟨by rfl,rfl⟩) ?_ ?_
     rotate_left
     ·simp only [Act.put,qS_,qZ_,qC_,y17,y16]
      rfl
     refine pure_ (i := 8) (N := some 21) (v := undef) (a' := ?_) (fl_ 25 511) rfl rfl (any_of HT_.out (by kernel_rfl)) (fun _ _ _ h => h) (Or.inr ⟨by rfl,rfl⟩) ?_ ?_
     rotate_left
     ·simp only [Act.put,qS_,qZ_,qC_,y17,y16]
      rfl
     refine qp 9 22 (fl_ 25 1023) ?_
     refine qp 10 23 (fl_ 25 2047) ?_
     refine pure_ (i := 11) (N := some 24) (v := undef) (a' := ?_) (fl_ 25 4095) rfl rfl (any_of HT_.out (by kernel_rfl)) (fun _ _ _ h => h) (Or.inr ⟨by rfl,rfl⟩) ?_ ?_
     rotate_left
     ·simp only [Act.put,qS_,qZ_,qC_,y17,y16]
      rfl
     refine pure_ (i := 12) (N := some 25) (v := undef) (a' := ?_) (fl_ 25 8191) rfl rfl (any_of HT_.out (by kernel_rfl)) (fun _ _ _ h => h) (Or.inr ⟨by rfl,rfl⟩) ?_ ?_
     rotate_left
     ·simp only [Act.put,qS_,qZ_,qC_,y17,y16]
      rfl
     refine pure_ (i := 13) (N := some 26) (v := undef) (a' := ?_) (fl_ 25 16383) rfl rfl (any_of HT_.out (by kernel_rfl)) (fun _ _ _ h => h) (Or.inr ⟨by rfl,rfl⟩) ?_ ?_
     rotate_left
     ·simp only [Act.put,qS_,qZ_,qC_,y17,y16]
      rfl
     refine pure_ (i := 14) (N := some 27) (v := undef) (a' := ?_) (fl_ 25 32767) rfl rfl (any_of HT_.out (by kernel_rfl)) (fun _ _ _ h => h) (Or.inr ⟨by rfl,rfl⟩) ?_ ?_
     rotate_left
     ·simp only [Act.put,qS_,qZ_,qC_,y17,y16]
      rfl
     refine pure_ (i := 15) (N := some 28) (v := undef) (a' := ?_) (fl_ 25 65535) rfl rfl (any_of HT_.out (by kernel_rfl)) (fun _ _ _ h => h) (Or.inr ⟨by rfl,rfl⟩) ?_ ?_
     rotate_left
     ·simp only [Act.put,qS_,qZ_,qC_,y17,y16]
      rfl
     refine pure_ (i := 16) (N := some 29) (v := undef) (a' := ?_) (fl_ 25 131071) rfl rfl (any_of HT_.out (by kernel_rfl)) (fun _ _ _ h => h) (Or.inr ⟨by rfl,rfl⟩) ?_ ?_
     rotate_left
     ·simp only [Act.put,qS_,qZ_,qC_,y17,y16]
      rfl
     refine pure_ (i := 17) (N := some 30) (v := undef) (a' := ?_) (fl_ 25 262143) rfl rfl (any_of HT_.out (by kernel_rfl)) (fun _ _ _ h => h) (Or.inr ⟨by rfl,rfl⟩) ?_ ?_
     rotate_left
     ·simp only [Act.put,qS_,qZ_,qC_,y17,y16]
      rfl
     refine pure_ (i := 18) (N := some 31) (v := undef) (a' := ?_) (fl_ 25 524287) rfl rfl (any_of HT_.out (by kernel_rfl)) (fun _ _ _ h => h) (Or.inr ⟨by rfl,rfl⟩) ?_ ?_
     rotate_left
     ·simp only [Act.put,qS_,qZ_,qC_,y17,y16]
      rfl
     refine pure_ (i := 19) (N := some 32) (v := undef) (a' := ?_) (fl_ 25 1048575) rfl rfl (any_of HT_.out (by kernel_rfl)) (fun _ _ _ h => h) (Or.inr ⟨by rfl,rfl⟩) ?_ ?_
     rotate_left
     ·simp only [Act.put,qS_,qZ_,qC_,y17,y16]
      rfl
     refine pure_ (i := 20) (N := some 33) (v := undef) (a' := ?_) (fl_ 25 2097151) rfl rfl (any_of HT_.out (by kernel_rfl)) (fun _ _ _ h => h) (Or.inr ⟨by rfl,rfl⟩) ?_ ?_
     rotate_left
     ·simp only [Act.put,qS_,qZ_,qC_,y17,y16]
      rfl
     refine pure_ (i := 21) (N := some 34) (v := undef) (a' := ?_) (fl_ 25 4194303) rfl rfl (any_of HT_.out (by kernel_rfl)) (fun _ _ _ h => h) (Or.inr ⟨by rfl,rfl⟩) ?_ ?_
     rotate_left
     ·simp only [Act.put,qS_,qZ_,qC_,y17,y16]
      rfl
     refine pure_ (i := 22) (N := some 35) (v := undef) (a' := ?_) (fl_ 25 8388607) rfl rfl (any_of HT_.out (by kernel_rfl)) (fun _ _ _ h => h) (Or.inr ⟨by rfl,rfl⟩) ?_ ?_
     rotate_left
     ·simp only [Act.put,qS_,qZ_,qC_,y17,y16]
      rfl
     refine pure_ (i := 23) (N := some 36) (v := undef) (a' := ?_) (fl_ 25 16777215) rfl rfl (any_of HT_.out (by kernel_rfl)) (fun _ _ _ h => h) (Or.inr ⟨by rfl,rfl⟩) ?_ ?_
     rotate_left
     ·simp only [Act.put,qS_,qZ_,qC_,y17,y16]
      rfl
     refine qp 24 37 (fl_ 25 33554431) ?_
     refine done_ (done_of HT_.out (by kernel_rfl)) ?_
     try go_wp2
     go_ret
     exact ⟨by first | rfl | (simp [y13,y14] <;> rfl) | (simp [*,y13,y14] <;> rfl),qb⟩
   ·rw [if_neg c4] at H
    have c4b0 := decide_eq_false c4
    clear c4
    obtain rfl := Option.some.inj H
    go_wp2
    go_ret
    exact ⟨by first | rfl | (simp [y13,y14] <;> rfl) | (simp [*,y13,y14] <;> rfl),qb⟩
end Go.Proofs.Ytcckpjflbfofjaa.Pd
end
