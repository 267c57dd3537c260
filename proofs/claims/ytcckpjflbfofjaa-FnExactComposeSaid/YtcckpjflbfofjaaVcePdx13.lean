-- Cut by prune.py, a program of this session, out of the texts of this claim: Lean checks it.
import Derived.Test.YtcckpjflbfofjaaVcePdx0
import Derived.Test.YtcckpjflbfofjaaVcePdx4
import Derived.Test.YtcckpjflbfofjaaVcePdx11
namespace Go.Proofs.Ytcckpjflbfofjaa.Pd
open Go.RowKit Go.Proofs.YtcckpjflbfofjaaW.PrintWords Go.Proofs.YtcckpjflbfofjaaW.PrintLast Go.Proofs.YtcckpjflbfofjaaW.PrintMore
attribute [local go_sem] max2_int min2_int max_two min_two max_three min_three max_four min_four   -- for this text's walks alone
set_option linter.unusedVariables false
set_option linter.unusedSimpArgs false
mutual
def laws_FnExactCompose.j0 : Nat → Bool → Bool → Bool → Int → Int → List (S64) → Int → Int → List (S64) → Int → Int → List (S53) → Int → Int → List (S53) → Int → Int → List (S53) → Int → Int → List (S53) → Option (Bool)
 | 0,_,_,_,_,_,_,_,_,_,_,_,_,_,_,_,_,_,_,_,_,_ => none
 | k + 1,x7,x11,x53,x248000,x248001,x248002,x249000,x249001,x249002,x268000,x268001,x268002,x274000,x274001,x274002,x280000,x280001,x280002,x287000,x287001,x287002 => if x53 = true then (some false) else ((laws_toGraph.f k x248000 x248001 x248002).bind fun bt288 => ((laws_eqGraph.f k x274000 x274001 x274002 bt288.1 bt288.2.1 bt288.2.2).bind fun t293 => (if t293 = true then ((laws_toGraph.f k x249000 x249001 x249002).bind fun bt294 => ((laws_eqGraph.f k x280000 x280001 x280002 bt294.1 bt294.2.1 bt294.2.2).bind fun t299 => (if t299 = true then ((laws_markGraph.f k x274000 x274001 x274002 1).bind fun bt300 => ((laws_markGraph.f k x280000 x280001 x280002 bt300.1).bind fun bt302 => (if bt302.1 < 0 then (laws_FnExactCompose.j1 k x7 true x248000 x248001 x248002 x249000 x249001 x249002 x268000 x268001 x268002 x287000 x287001 x287002) else ((laws_eqGraph.f k x287000 x287001 x287002 x268000 x268001 x268002).bind fun t304 => (if t304 = true then (laws_FnExactCompose.j1 k x7 (x11 != x7) x248000 x248001 x248002 x249000 x249001 x249002 x268000 x268001 x268002 x287000 x287001 x287002) else (laws_FnExactCompose.j1 k x7 true x248000 x248001 x248002 x249000 x249001 x249002 x268000 x268001 x268002 x287000 x287001 x287002)))))) else (some false)))) else (some false))))
def laws_FnExactCompose.j1 : Nat → Bool → Bool → Int → Int → List (S64) → Int → Int → List (S64) → Int → Int → List (S53) → Int → Int → List (S53) → Option (Bool)
 | 0,_,_,_,_,_,_,_,_,_,_,_,_,_,_ => none
 | k + 1,x7,x82,x248000,x248001,x248002,x249000,x249001,x249002,x268000,x268001,x268002,x287000,x287001,x287002 => if x82 = true then (some false) else ((laws_markGraph.f k x287000 x287001 x287002 1).bind fun bt305 => ((laws_heldGraph.f k x287000 x287001 bt305.2 1).bind fun t307 => (if t307 < 0 then (some false) else (if t307 = bt305.1 then ((laws_toGraph.f k x248000 x248001 x248002).bind fun bt308 => ((laws_toGraph.f k x249000 x249001 x249002).bind fun bt313 => ((impl_Compose.f k bt308.1 bt308.2.1 bt308.2.2 bt313.1 bt313.2.1 bt313.2.2).bind fun bt318 => ((laws_eqGraph.f k bt318.1 bt318.2.1 bt318.2.2.1 x268000 x268001 x268002).bind fun t325 => (if t325 = true then (laws_FnExactCompose.j2 k bt305.1 (bt318.2.2.2 != x7) x287000 x287001 bt305.2) else (laws_FnExactCompose.j2 k bt305.1 true x287000 x287001 bt305.2)))))) else (some false)))))
def laws_FnExactCompose.j2 : Nat → Int → Bool → Int → Int → List (S53) → Option (Bool)
 | 0,_,_,_,_,_ => none
 | k + 1,x13,x110,x287000,x287001,x287002 => if x110 = true then (some false) else ((laws_heldGraph.f k x287000 x287001 x287002 1).bind fun t326 => (if t326 < 0 then (some false) else (if t326 = x13 then (some true) else (some false))))
end
def laws_FnExactCompose.f (k : Nat) (a0_0 : Int) (a0_1 : Int) (l0_2 : List (S64)) (a1_0 : Int) (a1_1 : Int) (l1_2 : List (S64)) : Option (Bool) := (laws_szGraph.f a0_0 a0_1 l0_2 1048576).bind fun t249 => (if t249 < 0 then (some true) else ((laws_szGraph.f a1_0 a1_1 l1_2 t249).bind fun t250 => (if t250 < 0 then (some true) else ((laws_toGraph.f k a0_0 a0_1 l0_2).bind fun bt251 => ((laws_toGraph.f k a1_0 a1_1 l1_2).bind fun bt256 => ((z0_.f k bt251.1 bt251.2.1 bt251.2.2 bt256.1 bt256.2.1 bt256.2.2).bind fun bt261 => ((laws_toGraph.f k a0_0 a0_1 l0_2).bind fun bt268 => ((laws_toGraph.f k a1_0 a1_1 l1_2).bind fun bt274 => ((impl_Compose.f k bt268.1 bt268.2.1 bt268.2.2 bt274.1 bt274.2.1 bt274.2.2).bind fun bt280 => ((laws_eqGraph.f k bt280.1 bt280.2.1 bt280.2.2.1 bt261.1 bt261.2.1 bt261.2.2.1).bind fun t287 => (if t287 = true then (laws_FnExactCompose.j0 k bt261.2.2.2 bt280.2.2.2 (bt280.2.2.2 != bt261.2.2.2) a0_0 a0_1 l0_2 a1_0 a1_1 l1_2 bt261.1 bt261.2.1 bt261.2.2.1 bt268.1 bt268.2.1 bt268.2.2 bt274.1 bt274.2.1 bt274.2.2 bt280.1 bt280.2.1 bt280.2.2.1) else (laws_FnExactCompose.j0 k bt261.2.2.2 bt280.2.2.2 true a0_0 a0_1 l0_2 a1_0 a1_1 l1_2 bt261.1 bt261.2.1 bt261.2.2.1 bt268.1 bt268.2.1 bt268.2.2 bt274.1 bt274.2.1 bt274.2.2 bt280.1 bt280.2.1 bt280.2.2.1))))))))))))
def laws_FnExactCompose.T8 : Bool × List (List Nat × List Nat) := (true,[([],[]),([0],[0]),([],[]),([2,1],[2]),([1,3,3],[1,3]),([4],[4]),([5],[5]),([5],[5]),([],[]),([8,6,4,0,1,2,3,4,5,6,8],[6,8]),([7,9,0,1,2,3,4,5,6,7,8,9],[7])])
def laws_FnExactCompose.B8 : List Nat := [0,1,0,7,15,31,63,63,0,383,1023]
theorem laws_FnExactCompose.tab8 : rtab .any (opsOf Try.f3 8) = laws_FnExactCompose.T8 := by kernel_rfl
theorem laws_FnExactCompose.bits8 : waitsOk laws_FnExactCompose.T8.2 laws_FnExactCompose.B8 = true := by kernel_rfl
def laws_FnExactCompose.T31 : Bool × List (List Nat × List Nat) := (true,[([],[]),([0],[0]),([],[]),([2,1],[2]),([1,3,3],[1,3]),([4],[4]),([5],[5]),([5],[5]),([],[]),([8,6,4,0,1,2,3,4,5,6,8],[6,8]),([7,9,0,1,2,3,4,5,6,7,8,9],[7])])
def laws_FnExactCompose.B31 : List Nat := [0,1,0,7,15,31,63,63,0,383,1023]
theorem laws_FnExactCompose.tab31 : rtab .any (opsOf Try.f3 31) = laws_FnExactCompose.T31 := by kernel_rfl
theorem laws_FnExactCompose.bits31 : waitsOk laws_FnExactCompose.T31.2 laws_FnExactCompose.B31 = true := by kernel_rfl
set_option maxHeartbeats 8000000 in
set_option maxRecDepth 100000 in
theorem laws_FnExactCompose.calls (k : Nat) (a0_0 : Int) (a0_1 : Int) (A0_2 : Option Addr) (c0_2 : Nat) (l0_2 : List (S64)) (a1_0 : Int) (a1_1 : Int) (A1_2 : Option Addr) (c1_2 : Nat) (l1_2 : List (S64)) (r : Bool) (w : World) (hr0_2 : Kd.C k64 w A0_2 l0_2.length l0_2) (hc0_2 : l0_2.length ≤ c0_2) (hr1_2 : Kd.C k64 w A1_2 l1_2.length l1_2) (hc1_2 : l1_2.length ≤ c1_2) (h : laws_FnExactCompose.f k a0_0 a0_1 l0_2 a1_0 a1_1 l1_2 = some r) (htrue_ : r = true) :
  Calls Try.prog 3 #[.agg #[.int .i64 a0_0,.int .i64 a0_1,.slice A0_2 l0_2.length c0_2],.agg #[.int .i64 a1_0,.int .i64 a1_1,.slice A1_2 l1_2.length c1_2]] w fun e w' => e = .returned (.bool r) ∧ Below w.heap.size w w' := by
 have hu24 := Try.underlying24
 have hu28 := Try.underlying28
 have HR0_2 := y0.mk hr0_2
 have HC0_2 := y0.mk hc0_2
 clear hr0_2 hc0_2
 have HR1_2 := y0.mk hr1_2
 have HC1_2 := y0.mk hc1_2
 clear hr1_2 hc1_2
 have HB := y0.mk (Below.refl w.heap.size w)
 have H : ((laws_szGraph.f a0_0 a0_1 l0_2 1048576).bind fun t249 => (if t249 < 0 then (some true) else ((laws_szGraph.f a1_0 a1_1 l1_2 t249).bind fun t250 => (if t250 < 0 then (some true) else ((laws_toGraph.f k a0_0 a0_1 l0_2).bind fun bt251 => ((laws_toGraph.f k a1_0 a1_1 l1_2).bind fun bt256 => ((z0_.f k bt251.1 bt251.2.1 bt251.2.2 bt256.1 bt256.2.1 bt256.2.2).bind fun bt261 => ((laws_toGraph.f k a0_0 a0_1 l0_2).bind fun bt268 => ((laws_toGraph.f k a1_0 a1_1 l1_2).bind fun bt274 => ((impl_Compose.f k bt268.1 bt268.2.1 bt268.2.2 bt274.1 bt274.2.1 bt274.2.2).bind fun bt280 => ((laws_eqGraph.f k bt280.1 bt280.2.1 bt280.2.2.1 bt261.1 bt261.2.1 bt261.2.2.1).bind fun t287 => (if t287 = true then (laws_FnExactCompose.j0 k bt261.2.2.2 bt280.2.2.2 (bt280.2.2.2 != bt261.2.2.2) a0_0 a0_1 l0_2 a1_0 a1_1 l1_2 bt261.1 bt261.2.1 bt261.2.2.1 bt268.1 bt268.2.1 bt268.2.2 bt274.1 bt274.2.1 bt274.2.2 bt280.1 bt280.2.1 bt280.2.2.1) else (laws_FnExactCompose.j0 k bt261.2.2.2 bt280.2.2.2 true a0_0 a0_1 l0_2 a1_0 a1_1 l1_2 bt261.1 bt261.2.1 bt261.2.2.1 bt268.1 bt268.2.1 bt268.2.2 bt274.1 bt274.2.1 bt274.2.2 bt280.1 bt280.2.1 bt280.2.2.1))))))))))))) = some r := h
 clear h
 obtain ⟨t249,A3,H⟩ := qB H
 by_cases c4 : t249 < 0
 ·as_aux_lemma =>
  rw [if_pos c4] at H
  have c4b0 := decide_eq_true c4
  clear c4
  obtain rfl := Option.some.inj H
  go_enter Try.func3,Try.ntmps3
  go_wp2_with (first | ((with_reducible refine y18 (N := 2) rfl ?_); refine qe 2 #[.int .i64 a0_0,.int .i64 a0_1,.slice A0_2 l0_2.length c0_2] 24 ?_; intro gb247 hg w5 hbox hb; have BK247 := y0.mk (hbox); have GW247 := y0.mk (qg (w := w) hg); have GE247 := y0.mk (qg (w := w) hg); replace HB := y0.mk (y5 qb hb); clear hb hbox hg) | ((with_reducible refine y18 (N := 3) rfl ?_); refine qe 3 #[.int .i64 a1_0,.int .i64 a1_1,.slice A1_2 l1_2.length c1_2] 24 ?_; intro gb248 hg w6 hbox hb; have BK248 := y0.mk (hbox); have GW248 := y0.mk (qg (w := w) hg); have GE248 := y0.mk (qg (w := w) hg); replace HB := y0.mk (y5 qb hb); have NB247_248 := y0.mk (qn BK247.out hg); have NB248_247 := y0.mk (qm BK247.out hg); replace BK247 := y0.mk (qK BK247.out hb); clear hb hbox hg; have hnb7 := NB247_248.out; have hnc7 := NB248_247.out; obtain ⟨hcz8_0,hcz8_1,hcz8_2,hfz8_0,hfz8_1,hfz8_2⟩ := qz3 BK247.out) | ((with_reducible refine y17 (f := 7) rfl ?_); refine goesL_ (some 19) rfl rfl Try.func7 (by kernel_rfl) rfl #[.agg #[.int .i64 a0_0,.int .i64 a0_1,.slice A0_2 l0_2.length c0_2],.int .i64 1048576] rfl qy0 ?_; (with_reducible refine (laws_szGraph.calls a0_0 a0_1 _ _ l0_2 1048576 t249 _ (qc (Kd.C_below HR0_2.out HB.out)) HC0_2.out A3.out).mono ?_); rintro e w9 ⟨rfl,hb⟩; refine ⟨_,rfl, ?_⟩; replace BK247 := y0.mk (qK BK247.out hb); replace BK248 := y0.mk (qK BK248.out hb); replace HB := y0.mk (y5 qb hb); (try clear hb); (try clear hb2); (try clear hk); (try clear hi)))
  go_ret
  exact ⟨by first | rfl | (simp [y15,y16] <;> rfl) | (simp [*,y15,y16] <;> rfl),qb⟩
 ·as_aux_lemma =>
  rw [if_neg c4] at H
  have c4b0 := decide_eq_false c4
  clear c4
  obtain ⟨t250,A10,H⟩ := qB H
  by_cases c11 : t250 < 0
  ·as_aux_lemma =>
   rw [if_pos c11] at H
   have c11b0 := decide_eq_true c11
   clear c11
   obtain rfl := Option.some.inj H
   go_enter Try.func3,Try.ntmps3
   go_wp2_with (first | ((with_reducible refine y18 (N := 2) rfl ?_); refine qe 2 #[.int .i64 a0_0,.int .i64 a0_1,.slice A0_2 l0_2.length c0_2] 24 ?_; intro gb247 hg w12 hbox hb; have BK247 := y0.mk (hbox); have GW247 := y0.mk (qg (w := w) hg); have GE247 := y0.mk (qg (w := w) hg); replace HB := y0.mk (y5 qb hb); clear hb hbox hg) | ((with_reducible refine y18 (N := 3) rfl ?_); refine qe 3 #[.int .i64 a1_0,.int .i64 a1_1,.slice A1_2 l1_2.length c1_2] 24 ?_; intro gb248 hg w13 hbox hb; have BK248 := y0.mk (hbox); have GW248 := y0.mk (qg (w := w) hg); have GE248 := y0.mk (qg (w := w) hg); replace HB := y0.mk (y5 qb hb); have NB247_248 := y0.mk (qn BK247.out hg); have NB248_247 := y0.mk (qm BK247.out hg); replace BK247 := y0.mk (qK BK247.out hb); clear hb hbox hg; have hnb14 := NB247_248.out; have hnc14 := NB248_247.out; obtain ⟨hcz15_0,hcz15_1,hcz15_2,hfz15_0,hfz15_1,hfz15_2⟩ := qz3 BK247.out) | ((with_reducible refine y17 (f := 7) rfl ?_); refine goesL_ (some 19) rfl rfl Try.func7 (by kernel_rfl) rfl #[.agg #[.int .i64 a0_0,.int .i64 a0_1,.slice A0_2 l0_2.length c0_2],.int .i64 1048576] rfl qy0 ?_; (with_reducible refine (laws_szGraph.calls a0_0 a0_1 _ _ l0_2 1048576 t249 _ (qc (Kd.C_below HR0_2.out HB.out)) HC0_2.out A3.out).mono ?_); rintro e w16 ⟨rfl,hb⟩; refine ⟨_,rfl, ?_⟩; replace BK247 := y0.mk (qK BK247.out hb); replace BK248 := y0.mk (qK BK248.out hb); replace HB := y0.mk (y5 qb hb); (try clear hb); (try clear hb2); (try clear hk); (try clear hi); obtain ⟨hcz17_0,hcz17_1,hcz17_2,hfz17_0,hfz17_1,hfz17_2⟩ := qz3 BK248.out) | ((with_reducible refine y17 (f := 7) rfl ?_); refine goesL_ (some 24) rfl rfl Try.func7 (by kernel_rfl) rfl #[.agg #[.int .i64 a1_0,.int .i64 a1_1,.slice A1_2 l1_2.length c1_2],.int .i64 t249] rfl qy0 ?_; (with_reducible refine (laws_szGraph.calls a1_0 a1_1 _ _ l1_2 t249 t250 _ (qc (Kd.C_below HR1_2.out HB.out)) HC1_2.out A10.out).mono ?_); rintro e w18 ⟨rfl,hb⟩; refine ⟨_,rfl, ?_⟩; replace BK247 := y0.mk (qK BK247.out hb); replace BK248 := y0.mk (qK BK248.out hb); replace HB := y0.mk (y5 qb hb); (try clear hb); (try clear hb2); (try clear hk); (try clear hi)))
   go_ret
   exact ⟨by first | rfl | (simp [y15,y16] <;> rfl) | (simp [*,y15,y16] <;> rfl),qb⟩
  ·as_aux_lemma =>
   rw [if_neg c11] at H
   have c11b0 := decide_eq_false c11
   clear c11
   obtain ⟨⟨t251,t252,t253⟩,A19,H⟩ := qB H
   replace H : ((laws_toGraph.f k a1_0 a1_1 l1_2).bind fun bt256 => ((z0_.f k t251 t252 t253 bt256.1 bt256.2.1 bt256.2.2).bind fun bt261 => ((laws_toGraph.f k a0_0 a0_1 l0_2).bind fun bt268 => ((laws_toGraph.f k a1_0 a1_1 l1_2).bind fun bt274 => ((impl_Compose.f k bt268.1 bt268.2.1 bt268.2.2 bt274.1 bt274.2.1 bt274.2.2).bind fun bt280 => ((laws_eqGraph.f k bt280.1 bt280.2.1 bt280.2.2.1 bt261.1 bt261.2.1 bt261.2.2.1).bind fun t287 => (if t287 = true then (laws_FnExactCompose.j0 k bt261.2.2.2 bt280.2.2.2 (bt280.2.2.2 != bt261.2.2.2) a0_0 a0_1 l0_2 a1_0 a1_1 l1_2 bt261.1 bt261.2.1 bt261.2.2.1 bt268.1 bt268.2.1 bt268.2.2 bt274.1 bt274.2.1 bt274.2.2 bt280.1 bt280.2.1 bt280.2.2.1) else (laws_FnExactCompose.j0 k bt261.2.2.2 bt280.2.2.2 true a0_0 a0_1 l0_2 a1_0 a1_1 l1_2 bt261.1 bt261.2.1 bt261.2.2.1 bt268.1 bt268.2.1 bt268.2.2 bt274.1 bt274.2.1 bt274.2.2 bt280.1 bt280.2.1 bt280.2.2.1)))))))) = some r := H
   obtain ⟨⟨t256,t257,t258⟩,A20,H⟩ := qB H
   replace H : ((z0_.f k t251 t252 t253 t256 t257 t258).bind fun bt261 => ((laws_toGraph.f k a0_0 a0_1 l0_2).bind fun bt268 => ((laws_toGraph.f k a1_0 a1_1 l1_2).bind fun bt274 => ((impl_Compose.f k bt268.1 bt268.2.1 bt268.2.2 bt274.1 bt274.2.1 bt274.2.2).bind fun bt280 => ((laws_eqGraph.f k bt280.1 bt280.2.1 bt280.2.2.1 bt261.1 bt261.2.1 bt261.2.2.1).bind fun t287 => (if t287 = true then (laws_FnExactCompose.j0 k bt261.2.2.2 bt280.2.2.2 (bt280.2.2.2 != bt261.2.2.2) a0_0 a0_1 l0_2 a1_0 a1_1 l1_2 bt261.1 bt261.2.1 bt261.2.2.1 bt268.1 bt268.2.1 bt268.2.2 bt274.1 bt274.2.1 bt274.2.2 bt280.1 bt280.2.1 bt280.2.2.1) else (laws_FnExactCompose.j0 k bt261.2.2.2 bt280.2.2.2 true a0_0 a0_1 l0_2 a1_0 a1_1 l1_2 bt261.1 bt261.2.1 bt261.2.2.1 bt268.1 bt268.2.1 bt268.2.2 bt274.1 bt274.2.1 bt274.2.2 bt280.1 bt280.2.1 bt280.2.2.1))))))) = some r := H
   obtain ⟨⟨t261,t262,t263,t266⟩,A21,H⟩ := qB H
   replace H : ((laws_toGraph.f k a0_0 a0_1 l0_2).bind fun bt268 => ((laws_toGraph.f k a1_0 a1_1 l1_2).bind fun bt274 => ((impl_Compose.f k bt268.1 bt268.2.1 bt268.2.2 bt274.1 bt274.2.1 bt274.2.2).bind fun bt280 => ((laws_eqGraph.f k bt280.1 bt280.2.1 bt280.2.2.1 t261 t262 t263).bind fun t287 => (if t287 = true then (laws_FnExactCompose.j0 k t266 bt280.2.2.2 (bt280.2.2.2 != t266) a0_0 a0_1 l0_2 a1_0 a1_1 l1_2 t261 t262 t263 bt268.1 bt268.2.1 bt268.2.2 bt274.1 bt274.2.1 bt274.2.2 bt280.1 bt280.2.1 bt280.2.2.1) else (laws_FnExactCompose.j0 k t266 bt280.2.2.2 true a0_0 a0_1 l0_2 a1_0 a1_1 l1_2 t261 t262 t263 bt268.1 bt268.2.1 bt268.2.2 bt274.1 bt274.2.1 bt274.2.2 bt280.1 bt280.2.1 bt280.2.2.1)))))) = some r := H
   obtain ⟨⟨t268,t269,t270⟩,A22,H⟩ := qB H
   replace H : ((laws_toGraph.f k a1_0 a1_1 l1_2).bind fun bt274 => ((impl_Compose.f k t268 t269 t270 bt274.1 bt274.2.1 bt274.2.2).bind fun bt280 => ((laws_eqGraph.f k bt280.1 bt280.2.1 bt280.2.2.1 t261 t262 t263).bind fun t287 => (if t287 = true then (laws_FnExactCompose.j0 k t266 bt280.2.2.2 (bt280.2.2.2 != t266) a0_0 a0_1 l0_2 a1_0 a1_1 l1_2 t261 t262 t263 t268 t269 t270 bt274.1 bt274.2.1 bt274.2.2 bt280.1 bt280.2.1 bt280.2.2.1) else (laws_FnExactCompose.j0 k t266 bt280.2.2.2 true a0_0 a0_1 l0_2 a1_0 a1_1 l1_2 t261 t262 t263 t268 t269 t270 bt274.1 bt274.2.1 bt274.2.2 bt280.1 bt280.2.1 bt280.2.2.1))))) = some r := H
   obtain ⟨⟨t274,t275,t276⟩,A23,H⟩ := qB H
   replace H : ((impl_Compose.f k t268 t269 t270 t274 t275 t276).bind fun bt280 => ((laws_eqGraph.f k bt280.1 bt280.2.1 bt280.2.2.1 t261 t262 t263).bind fun t287 => (if t287 = true then (laws_FnExactCompose.j0 k t266 bt280.2.2.2 (bt280.2.2.2 != t266) a0_0 a0_1 l0_2 a1_0 a1_1 l1_2 t261 t262 t263 t268 t269 t270 t274 t275 t276 bt280.1 bt280.2.1 bt280.2.2.1) else (laws_FnExactCompose.j0 k t266 bt280.2.2.2 true a0_0 a0_1 l0_2 a1_0 a1_1 l1_2 t261 t262 t263 t268 t269 t270 t274 t275 t276 bt280.1 bt280.2.1 bt280.2.2.1)))) = some r := H
   obtain ⟨⟨t280,t281,t282,t285⟩,A24,H⟩ := qB H
   replace H : ((laws_eqGraph.f k t280 t281 t282 t261 t262 t263).bind fun t287 => (if t287 = true then (laws_FnExactCompose.j0 k t266 t285 (t285 != t266) a0_0 a0_1 l0_2 a1_0 a1_1 l1_2 t261 t262 t263 t268 t269 t270 t274 t275 t276 t280 t281 t282) else (laws_FnExactCompose.j0 k t266 t285 true a0_0 a0_1 l0_2 a1_0 a1_1 l1_2 t261 t262 t263 t268 t269 t270 t274 t275 t276 t280 t281 t282))) = some r := H
   have HC25 := y0.mk H
   clear H
   go_enter Try.func3,Try.ntmps3
   try go_wp2_with (first | ((with_reducible refine y18 (N := 2) rfl ?_); refine qe 2 #[.int .i64 a0_0,.int .i64 a0_1,.slice A0_2 l0_2.length c0_2] 24 ?_; intro gb247 hg w26 hbox hb; have BK247 := y0.mk (hbox); have GW247 := y0.mk (qg (w := w) hg); have GE247 := y0.mk (qg (w := w) hg); replace HB := y0.mk (y5 qb hb); clear hb hbox hg) | ((with_reducible refine y18 (N := 3) rfl ?_); refine qe 3 #[.int .i64 a1_0,.int .i64 a1_1,.slice A1_2 l1_2.length c1_2] 24 ?_; intro gb248 hg w27 hbox hb; have BK248 := y0.mk (hbox); have GW248 := y0.mk (qg (w := w) hg); have GE248 := y0.mk (qg (w := w) hg); replace HB := y0.mk (y5 qb hb); have NB247_248 := y0.mk (qn BK247.out hg); have NB248_247 := y0.mk (qm BK247.out hg); replace BK247 := y0.mk (qK BK247.out hb); clear hb hbox hg; have hnb28 := NB247_248.out; have hnc28 := NB248_247.out; obtain ⟨hcz29_0,hcz29_1,hcz29_2,hfz29_0,hfz29_1,hfz29_2⟩ := qz3 BK247.out) | ((with_reducible refine y17 (f := 7) rfl ?_); refine goesL_ (some 19) rfl rfl Try.func7 (by kernel_rfl) rfl #[.agg #[.int .i64 a0_0,.int .i64 a0_1,.slice A0_2 l0_2.length c0_2],.int .i64 1048576] rfl qy0 ?_; (with_reducible refine (laws_szGraph.calls a0_0 a0_1 _ _ l0_2 1048576 t249 _ (qc (Kd.C_below HR0_2.out HB.out)) HC0_2.out A3.out).mono ?_); rintro e w30 ⟨rfl,hb⟩; refine ⟨_,rfl, ?_⟩; replace BK247 := y0.mk (qK BK247.out hb); replace BK248 := y0.mk (qK BK248.out hb); replace HB := y0.mk (y5 qb hb); (try clear hb); (try clear hb2); (try clear hk); (try clear hi); obtain ⟨hcz31_0,hcz31_1,hcz31_2,hfz31_0,hfz31_1,hfz31_2⟩ := qz3 BK248.out) | ((with_reducible refine y17 (f := 7) rfl ?_); refine goesL_ (some 24) rfl rfl Try.func7 (by kernel_rfl) rfl #[.agg #[.int .i64 a1_0,.int .i64 a1_1,.slice A1_2 l1_2.length c1_2],.int .i64 t249] rfl qy0 ?_; (with_reducible refine (laws_szGraph.calls a1_0 a1_1 _ _ l1_2 t249 t250 _ (qc (Kd.C_below HR1_2.out HB.out)) HC1_2.out A10.out).mono ?_); rintro e w32 ⟨rfl,hb⟩; refine ⟨_,rfl, ?_⟩; replace BK247 := y0.mk (qK BK247.out hb); replace BK248 := y0.mk (qK BK248.out hb); replace HB := y0.mk (y5 qb hb); (try clear hb); (try clear hb2); (try clear hk); (try clear hi)))
   replace BK247 := y0.mk (y9 BK247.out)
   replace BK248 := y0.mk (y9 BK248.out)
   replace HB := y0.mk (y2 HB.out)
   refine start_ (n := 11) (S := fun w' => w'.cell? ⟨gb247,0,none⟩ = some (.int .i64 a0_0) ∧ w'.cell? ⟨gb247,1,none⟩ = some (.int .i64 a0_1) ∧ w'.cell? ⟨gb247,2,none⟩ = some (.slice A0_2 l0_2.length c0_2) ∧ w'.cell? ⟨gb248,0,none⟩ = some (.int .i64 a1_0) ∧ w'.cell? ⟨gb248,1,none⟩ = some (.int .i64 a1_1) ∧ w'.cell? ⟨gb248,2,none⟩ = some (.slice A1_2 l1_2.length c1_2)) (ds := []) (fl_ 11 0) (by kernel_rfl) rfl rfl ⟨(y8 BK247.out 0).trans rfl,(y8 BK247.out 1).trans rfl,(y8 BK247.out 2).trans rfl,(y8 BK248.out 0).trans rfl,(y8 BK248.out 1).trans rfl,(y8 BK248.out 2).trans rfl⟩ (fun hHeld => ?_); refine with_tabW laws_FnExactCompose.tab8 laws_FnExactCompose.bits8 (fun HT_ HW_ => ?_)
   generalize w32.drew = w33 at BK247 BK248 HB hHeld ⊢
   refine qt 0 28 (fl_ 11 1) hHeld ?_
   refine qt 2 30 (fl_ 11 5) hHeld ?_
   refine join_ (σ := Value × Value × Value × Nat) 2 (fl_ 11 511) (fun s_ => [(29,.agg #[.int .i64 t251,.int .i64 t252,s_.1]),(31,.agg #[.int .i64 t256,.int .i64 t257,s_.2.1]),(32,.tuple #[.agg #[.int .i64 t261,.int .i64 t262,s_.2.2.1],.bool t266]),(6,.pointer (some ⟨s_.2.2.2,0,none⟩)),(27,.tuple #[.agg #[.int .i64 t261,.int .i64 t262,s_.2.2.1],.bool t266]),(33,.agg #[.int .i64 t261,.int .i64 t262,s_.2.2.1]),(34,.bool t266)]) (fun s_ w' => (w'.cell? ⟨gb247,0,none⟩ = some (.int .i64 a0_0) ∧ w'.cell? ⟨gb247,1,none⟩ = some (.int .i64 a0_1) ∧ w'.cell? ⟨gb247,2,none⟩ = some (.slice A0_2 l0_2.length c0_2) ∧ w'.cell? ⟨gb248,0,none⟩ = some (.int .i64 a1_0) ∧ w'.cell? ⟨gb248,1,none⟩ = some (.int .i64 a1_1) ∧ w'.cell? ⟨gb248,2,none⟩ = some (.slice A1_2 l1_2.length c1_2)) ∧ (Kd.R k53 53 w' w.heap.size (fun k_ => some k_ ≠ (s_.2.1 : Value).ownBlock ∧ some k_ ≠ (s_.2.2.1 : Value).ownBlock) s_.1 t253) ∧ (Kd.R k53 53 w' w.heap.size (fun k_ => some k_ ≠ (s_.1 : Value).ownBlock ∧ some k_ ≠ (s_.2.2.1 : Value).ownBlock) s_.2.1 t258) ∧ (Kd.R k53 53 w' w.heap.size (fun k_ => some k_ ≠ (s_.1 : Value).ownBlock ∧ some k_ ≠ (s_.2.1 : Value).ownBlock) s_.2.2.1 t263) ∧ (w'.heap[gb247]? = some (.cells #[.int .i64 a0_0,.int .i64 a0_1,.slice A0_2 l0_2.length c0_2] 24 (0,0))) ∧ (w'.heap[gb248]? = some (.cells #[.int .i64 a1_0,.int .i64 a1_1,.slice A1_2 l1_2.length c1_2] 24 (0,0))) ∧ (w'.heap[s_.2.2.2]? = some (.cells #[.int .i64 0,.int .i64 0,.slice none 0 0] 28 (0,0))) ∧ (w.heap.size ≤ s_.2.2.2) ∧ (w.heap.size ≤ s_.2.2.2) ∧ (gb247 ≠ s_.2.2.2) ∧ (s_.2.2.2 ≠ gb247) ∧ (gb248 ≠ s_.2.2.2) ∧ (s_.2.2.2 ≠ gb248) ∧ (Below w.heap.size w w')) ?_ ?_
   rotate_left
   ·intro hCont
    refine two_ (i := 1) (j := 8) (Ni := some 29) (Nj := some 6) (fl_ 11 7) (fl_ 11 261) rfl rfl rfl rfl (two_of HT_.out (by kernel_rfl)) (by decide) (by decide) (fun K hK => ?_) (fun K hK => ?_)
    ·skip
     refine goes_ Try.func9 (by kernel_rfl) rfl #[.agg #[.int .i64 a0_0,.int .i64 a0_1,.slice A0_2 l0_2.length c0_2]] (by rfl) rfl rfl qy0 ?_
     with_reducible refine (laws_toGraph.calls k a0_0 a0_1 _ _ l0_2 t251 t252 t253 _ (qc (Kd.C_below HR0_2.out HB.out)) HC0_2.out A19.out).mono ?_
     rintro e w34 ⟨v254,rfl,ho0,hb⟩
     refine ⟨_,rfl, ?_⟩
     have HO255 := y0.mk (Kd.R_lower ho0 (y4 qb))
     replace BK247 := y0.mk (qK BK247.out hb)
     replace BK248 := y0.mk (qK BK248.out hb)
     replace HB := y0.mk (y5 qb hb)
     (try clear hb)
     (try clear hb2)
     (try clear hk)
     (try clear hi)
     (try clear ho0)
     refine hK.out _ _ ⟨(y8 BK247.out 0).trans rfl,(y8 BK247.out 1).trans rfl,(y8 BK247.out 2).trans rfl,(y8 BK248.out 0).trans rfl,(y8 BK248.out 1).trans rfl,(y8 BK248.out 2).trans rfl⟩ (fun hHeld => ?_)
     clear hK K
     refine norm_ (a' := ?_) ?_ ?_
     rotate_left
     ·show Act.put _ (some 29) _ = _
      simp only [Act.put,qS_,qZ_,qC_,y20,y19]
      rfl
     refine two_ (i := 3) (j := 8) (Ni := some 31) (Nj := some 6) (fl_ 11 15) (fl_ 11 263) rfl rfl rfl rfl (two_of HT_.out (by kernel_rfl)) (by decide) (by decide) (fun K hK => ?_) (fun K hK => ?_)
     ·skip
      refine goes_ Try.func9 (by kernel_rfl) rfl #[.agg #[.int .i64 a1_0,.int .i64 a1_1,.slice A1_2 l1_2.length c1_2]] (by rfl) rfl rfl qy0 ?_
      with_reducible refine (laws_toGraph.calls k a1_0 a1_1 _ _ l1_2 t256 t257 t258 _ (qc (Kd.C_below HR1_2.out HB.out)) HC1_2.out A20.out).mono ?_
      rintro e w35 ⟨v259,rfl,ho0,hb⟩
      refine ⟨_,rfl, ?_⟩
      have HO260 := y0.mk (Kd.R_lower (Kd.R_new' ho0 (Kd.R_lt (qR HO255.out))) (y4 qb))
      replace HO255 := y0.mk (Kd.R_elder' (qR HO255.out) (Kd.R_base ho0) hb)
      replace BK247 := y0.mk (qK BK247.out hb)
      replace BK248 := y0.mk (qK BK248.out hb)
      replace HB := y0.mk (y5 qb hb)
      (try clear hb)
      (try clear hb2)
      (try clear hk)
      (try clear hi)
      (try clear ho0)
      obtain ⟨Ao36,co36,eo36⟩ := Kd.R_slice HO255.out
      (first | subst eo36 | (injection eo36 with f1_ f2_ f3_; have f4_ := f1_.symm; have f5_ := f3_.symm; clear f1_ f2_ f3_; subst f4_; subst f5_))
      obtain ⟨Ao37,co37,eo37⟩ := Kd.R_slice HO260.out
      (first | subst eo37 | (injection eo37 with f1_ f2_ f3_; have f4_ := f1_.symm; have f5_ := f3_.symm; clear f1_ f2_ f3_; subst f4_; subst f5_))
      refine hK.out _ _ ⟨(y8 BK247.out 0).trans rfl,(y8 BK247.out 1).trans rfl,(y8 BK247.out 2).trans rfl,(y8 BK248.out 0).trans rfl,(y8 BK248.out 1).trans rfl,(y8 BK248.out 2).trans rfl⟩ (fun hHeld => ?_)
      clear hK K
      refine norm_ (a' := ?_) ?_ ?_
      rotate_left
      ·show Act.put _ (some 31) _ = _
       simp only [Act.put,qS_,qZ_,qC_,y20,y19]
       rfl
      refine two_ (i := 4) (j := 8) (Ni := some 32) (Nj := some 6) (fl_ 11 31) (fl_ 11 271) rfl rfl rfl rfl (two_of HT_.out (by kernel_rfl)) (by decide) (by decide) (fun K hK => ?_) (fun K hK => ?_)
      ·skip
       refine goes_ Try.func8 (by kernel_rfl) rfl #[.agg #[.int .i64 t251,.int .i64 t252,.slice Ao36 t253.length co36],.agg #[.int .i64 t256,.int .i64 t257,.slice Ao37 t258.length co37]] (by rfl) rfl rfl qy0 ?_
       with_reducible refine (z0_.calls k t251 t252 _ _ t253 t256 t257 _ _ t258 t261 t262 t263 t266 _ (qc ((Kd.R_reads' HO255.out).2.2)) (by exact (Kd.R_reads' HO255.out).2.1) (qc ((Kd.R_reads' HO260.out).2.2)) (by exact (Kd.R_reads' HO260.out).2.1) A21.out).mono ?_
       rintro e w38 ⟨v264,rfl,ho0,hb⟩
       refine ⟨_,rfl, ?_⟩
       have HO265 := y0.mk (Kd.R_lower (Kd.R_new' (Kd.R_new' ho0 (Kd.R_lt (qR HO255.out))) (Kd.R_lt (qR HO260.out))) (y4 qb))
       replace HO255 := y0.mk (Kd.R_elder' (qR HO255.out) (Kd.R_base ho0) hb)
       replace HO260 := y0.mk (Kd.R_elder' (qR HO260.out) (Kd.R_base ho0) hb)
       replace BK247 := y0.mk (qK BK247.out hb)
       replace BK248 := y0.mk (qK BK248.out hb)
       replace HB := y0.mk (y5 qb hb)
       (try clear hb)
       (try clear hb2)
       (try clear hk)
       (try clear hi)
       (try clear ho0)
       refine hK.out _ _ ⟨(y8 BK247.out 0).trans rfl,(y8 BK247.out 1).trans rfl,(y8 BK247.out 2).trans rfl,(y8 BK248.out 0).trans rfl,(y8 BK248.out 1).trans rfl,(y8 BK248.out 2).trans rfl⟩ (fun hHeld => ?_)
       clear hK K
       refine norm_ (a' := ?_) ?_ ?_
       rotate_left
       ·show Act.put _ (some 32) _ = _
        simp only [Act.put,qS_,qZ_,qC_,y20,y19]
        rfl
       refine qp 5 27 (fl_ 11 63) ?_
       refine qp 6 33 (fl_ 11 127) ?_
       refine qp 7 34 (fl_ 11 255) ?_
       refine one_ (i := 8) (N := some 6) (fl_ 11 511) rfl rfl (one_of HT_.out (by kernel_rfl)) (by decide) (fun K hK => ?_)
       refine box_step ?hg (N := 6) ?hd (cs := #[.int .i64 0,.int .i64 0,.slice none 0 0]) (t := 28) ?hr ?_; (case hd => rfl); (case hg => rfl); (case hr => first | (go_simp; done) | (go_simp; rfl))
       intro gb267 hg w39 hbox hb
       replace HO255 := y0.mk (Kd.R_below (qR HO255.out) hb)
       replace HO260 := y0.mk (Kd.R_below (qR HO260.out) hb)
       replace HO265 := y0.mk (Kd.R_below (qR HO265.out) hb)
       have BK267 := y0.mk (hbox)
       have GW267 := y0.mk (qg (w := w) hg)
       have GE267 := y0.mk (qg (w := w) hg)
       replace HB := y0.mk (y5 qb hb)
       have NB247_267 := y0.mk (qn BK247.out hg)
       have NB267_247 := y0.mk (qm BK247.out hg)
       replace BK247 := y0.mk (qK BK247.out hb)
       have NB248_267 := y0.mk (qn BK248.out hg)
       have NB267_248 := y0.mk (qm BK248.out hg)
       replace BK248 := y0.mk (qK BK248.out hb)
       clear hb hbox hg
       refine hK.out _ _ ⟨(y8 BK247.out 0).trans rfl,(y8 BK247.out 1).trans rfl,(y8 BK247.out 2).trans rfl,(y8 BK248.out 0).trans rfl,(y8 BK248.out 1).trans rfl,(y8 BK248.out 2).trans rfl⟩ (fun hHeld => ?_)
       clear hK K
       refine norm_ (a' := ?_) ?_ ?_
       rotate_left
       ·show Act.put _ (some 6) _ = _
        simp only [Act.put,qS_,qZ_,qC_,y20,y19]
        rfl
       exact norm_ qy3 (hCont (.slice Ao36 t253.length co36,.slice Ao37 t258.length co37,v264,gb267) _ ⟨hHeld,(qR (Kd.R_mono HO255.out (fun _ hk => ⟨hk.1.2,hk.2⟩))),(qR (Kd.R_mono HO260.out (fun _ hk => ⟨hk.1.2,hk.2⟩))),(qR (Kd.R_mono HO265.out (fun _ hk => ⟨hk.1.2,hk.2⟩))),(qk BK247.out),(qk BK248.out),(qk BK267.out),GW267.out,GE267.out,NB247_267.out,NB267_247.out,NB248_267.out,NB267_248.out,qb⟩)
      ·skip
       refine box_step ?hg (N := 6) ?hd (cs := #[.int .i64 0,.int .i64 0,.slice none 0 0]) (t := 28) ?hr ?_; (case hd => rfl); (case hg => rfl); (case hr => first | (go_simp; done) | (go_simp; rfl))
       intro gb267 hg w36 hbox hb
       replace HO255 := y0.mk (Kd.R_below (qR HO255.out) hb)
       replace HO260 := y0.mk (Kd.R_below (qR HO260.out) hb)
       have BK267 := y0.mk (hbox)
       have GW267 := y0.mk (qg (w := w) hg)
       have GE267 := y0.mk (qg (w := w) hg)
       replace HB := y0.mk (y5 qb hb)
       have NB247_267 := y0.mk (qn BK247.out hg)
       have NB267_247 := y0.mk (qm BK247.out hg)
       replace BK247 := y0.mk (qK BK247.out hb)
       have NB248_267 := y0.mk (qn BK248.out hg)
       have NB267_248 := y0.mk (qm BK248.out hg)
       replace BK248 := y0.mk (qK BK248.out hb)
       clear hb hbox hg
       obtain ⟨Ao37,co37,eo37⟩ := Kd.R_slice HO255.out
       (first | subst eo37 | (injection eo37 with f1_ f2_ f3_; have f4_ := f1_.symm; have f5_ := f3_.symm; clear f1_ f2_ f3_; subst f4_; subst f5_))
       obtain ⟨Ao38,co38,eo38⟩ := Kd.R_slice HO260.out
       (first | subst eo38 | (injection eo38 with f1_ f2_ f3_; have f4_ := f1_.symm; have f5_ := f3_.symm; clear f1_ f2_ f3_; subst f4_; subst f5_))
       refine hK.out _ _ ⟨(y8 BK247.out 0).trans rfl,(y8 BK247.out 1).trans rfl,(y8 BK247.out 2).trans rfl,(y8 BK248.out 0).trans rfl,(y8 BK248.out 1).trans rfl,(y8 BK248.out 2).trans rfl⟩ (fun hHeld => ?_)
       clear hK K
       refine norm_ (a' := ?_) ?_ ?_
       rotate_left
       ·show Act.put _ (some 6) _ = _
        simp only [Act.put,qS_,qZ_,qC_,y20,y19]
        rfl
       refine one_ (i := 4) (N := some 32) (fl_ 11 287) rfl rfl (one_of HT_.out (by kernel_rfl)) (by decide) (fun K hK => ?_)
       refine goes_ Try.func8 (by kernel_rfl) rfl #[.agg #[.int .i64 t251,.int .i64 t252,.slice Ao37 t253.length co37],.agg #[.int .i64 t256,.int .i64 t257,.slice Ao38 t258.length co38]] (by rfl) rfl rfl qy0 ?_
       with_reducible refine (z0_.calls k t251 t252 _ _ t253 t256 t257 _ _ t258 t261 t262 t263 t266 _ (qc ((Kd.R_reads' HO255.out).2.2)) (by exact (Kd.R_reads' HO255.out).2.1) (qc ((Kd.R_reads' HO260.out).2.2)) (by exact (Kd.R_reads' HO260.out).2.1) A21.out).mono ?_
       rintro e w39 ⟨v264,rfl,ho0,hb⟩
       refine ⟨_,rfl, ?_⟩
       have HO265 := y0.mk (Kd.R_lower (Kd.R_new' (Kd.R_new' ho0 (Kd.R_lt (qR HO255.out))) (Kd.R_lt (qR HO260.out))) (y4 qb))
       replace HO255 := y0.mk (Kd.R_elder' (qR HO255.out) (Kd.R_base ho0) hb)
       replace HO260 := y0.mk (Kd.R_elder' (qR HO260.out) (Kd.R_base ho0) hb)
       replace BK247 := y0.mk (qK BK247.out hb)
       replace BK248 := y0.mk (qK BK248.out hb)
       replace BK267 := y0.mk (qK BK267.out hb)
       replace HB := y0.mk (y5 qb hb)
       (try clear hb)
       (try clear hb2)
       (try clear hk)
       (try clear hi)
       (try clear ho0)
       refine hK.out _ _ ⟨(y8 BK247.out 0).trans rfl,(y8 BK247.out 1).trans rfl,(y8 BK247.out 2).trans rfl,(y8 BK248.out 0).trans rfl,(y8 BK248.out 1).trans rfl,(y8 BK248.out 2).trans rfl⟩ (fun hHeld => ?_)
       clear hK K
       refine norm_ (a' := ?_) ?_ ?_
       rotate_left
       ·show Act.put _ (some 32) _ = _
        simp only [Act.put,qS_,qZ_,qC_,y20,y19]
        rfl
       refine qp 5 27 (fl_ 11 319) ?_
       refine qp 6 33 (fl_ 11 383) ?_
       refine qp 7 34 (fl_ 11 511) ?_
       exact norm_ qy3 (hCont (.slice Ao37 t253.length co37,.slice Ao38 t258.length co38,v264,gb267) _ ⟨hHeld,(qR (Kd.R_mono HO255.out (fun _ hk => ⟨hk.1.2,hk.2⟩))),(qR (Kd.R_mono HO260.out (fun _ hk => ⟨hk.1.2,hk.2⟩))),(qR (Kd.R_mono HO265.out (fun _ hk => ⟨hk.1.2,hk.2⟩))),(qk BK247.out),(qk BK248.out),(qk BK267.out),GW267.out,GE267.out,NB247_267.out,NB267_247.out,NB248_267.out,NB267_248.out,qb⟩)
     ·skip
      refine box_step ?hg (N := 6) ?hd (cs := #[.int .i64 0,.int .i64 0,.slice none 0 0]) (t := 28) ?hr ?_; (case hd => rfl); (case hg => rfl); (case hr => first | (go_simp; done) | (go_simp; rfl))
      intro gb267 hg w35 hbox hb
      replace HO255 := y0.mk (Kd.R_below (qR HO255.out) hb)
      have BK267 := y0.mk (hbox)
      have GW267 := y0.mk (qg (w := w) hg)
      have GE267 := y0.mk (qg (w := w) hg)
      replace HB := y0.mk (y5 qb hb)
      have NB247_267 := y0.mk (qn BK247.out hg)
      have NB267_247 := y0.mk (qm BK247.out hg)
      replace BK247 := y0.mk (qK BK247.out hb)
      have NB248_267 := y0.mk (qn BK248.out hg)
      have NB267_248 := y0.mk (qm BK248.out hg)
      replace BK248 := y0.mk (qK BK248.out hb)
      clear hb hbox hg
      refine hK.out _ _ ⟨(y8 BK247.out 0).trans rfl,(y8 BK247.out 1).trans rfl,(y8 BK247.out 2).trans rfl,(y8 BK248.out 0).trans rfl,(y8 BK248.out 1).trans rfl,(y8 BK248.out 2).trans rfl⟩ (fun hHeld => ?_)
      clear hK K
      refine norm_ (a' := ?_) ?_ ?_
      rotate_left
      ·show Act.put _ (some 6) _ = _
       simp only [Act.put,qS_,qZ_,qC_,y20,y19]
       rfl
      refine one_ (i := 3) (N := some 31) (fl_ 11 271) rfl rfl (one_of HT_.out (by kernel_rfl)) (by decide) (fun K hK => ?_)
      refine goes_ Try.func9 (by kernel_rfl) rfl #[.agg #[.int .i64 a1_0,.int .i64 a1_1,.slice A1_2 l1_2.length c1_2]] (by rfl) rfl rfl qy0 ?_
      with_reducible refine (laws_toGraph.calls k a1_0 a1_1 _ _ l1_2 t256 t257 t258 _ (qc (Kd.C_below HR1_2.out HB.out)) HC1_2.out A20.out).mono ?_
      rintro e w36 ⟨v259,rfl,ho0,hb⟩
      refine ⟨_,rfl, ?_⟩
      have HO260 := y0.mk (Kd.R_lower (Kd.R_new' ho0 (Kd.R_lt (qR HO255.out))) (y4 qb))
      replace HO255 := y0.mk (Kd.R_elder' (qR HO255.out) (Kd.R_base ho0) hb)
      replace BK247 := y0.mk (qK BK247.out hb)
      replace BK248 := y0.mk (qK BK248.out hb)
      replace BK267 := y0.mk (qK BK267.out hb)
      replace HB := y0.mk (y5 qb hb)
      (try clear hb)
      (try clear hb2)
      (try clear hk)
      (try clear hi)
      (try clear ho0)
      obtain ⟨Ao37,co37,eo37⟩ := Kd.R_slice HO255.out
      (first | subst eo37 | (injection eo37 with f1_ f2_ f3_; have f4_ := f1_.symm; have f5_ := f3_.symm; clear f1_ f2_ f3_; subst f4_; subst f5_))
      obtain ⟨Ao38,co38,eo38⟩ := Kd.R_slice HO260.out
      (first | subst eo38 | (injection eo38 with f1_ f2_ f3_; have f4_ := f1_.symm; have f5_ := f3_.symm; clear f1_ f2_ f3_; subst f4_; subst f5_))
      refine hK.out _ _ ⟨(y8 BK247.out 0).trans rfl,(y8 BK247.out 1).trans rfl,(y8 BK247.out 2).trans rfl,(y8 BK248.out 0).trans rfl,(y8 BK248.out 1).trans rfl,(y8 BK248.out 2).trans rfl⟩ (fun hHeld => ?_)
      clear hK K
      refine norm_ (a' := ?_) ?_ ?_
      rotate_left
      ·show Act.put _ (some 31) _ = _
       simp only [Act.put,qS_,qZ_,qC_,y20,y19]
       rfl
      refine one_ (i := 4) (N := some 32) (fl_ 11 287) rfl rfl (one_of HT_.out (by kernel_rfl)) (by decide) (fun K hK => ?_)
      refine goes_ Try.func8 (by kernel_rfl) rfl #[.agg #[.int .i64 t251,.int .i64 t252,.slice Ao37 t253.length co37],.agg #[.int .i64 t256,.int .i64 t257,.slice Ao38 t258.length co38]] (by rfl) rfl rfl qy0 ?_
      with_reducible refine (z0_.calls k t251 t252 _ _ t253 t256 t257 _ _ t258 t261 t262 t263 t266 _ (qc ((Kd.R_reads' HO255.out).2.2)) (by exact (Kd.R_reads' HO255.out).2.1) (qc ((Kd.R_reads' HO260.out).2.2)) (by exact (Kd.R_reads' HO260.out).2.1) A21.out).mono ?_
      rintro e w39 ⟨v264,rfl,ho0,hb⟩
      refine ⟨_,rfl, ?_⟩
      have HO265 := y0.mk (Kd.R_lower (Kd.R_new' (Kd.R_new' ho0 (Kd.R_lt (qR HO255.out))) (Kd.R_lt (qR HO260.out))) (y4 qb))
      replace HO255 := y0.mk (Kd.R_elder' (qR HO255.out) (Kd.R_base ho0) hb)
      replace HO260 := y0.mk (Kd.R_elder' (qR HO260.out) (Kd.R_base ho0) hb)
      replace BK247 := y0.mk (qK BK247.out hb)
      replace BK248 := y0.mk (qK BK248.out hb)
      replace BK267 := y0.mk (qK BK267.out hb)
      replace HB := y0.mk (y5 qb hb)
      (try clear hb)
      (try clear hb2)
      (try clear hk)
      (try clear hi)
      (try clear ho0)
      refine hK.out _ _ ⟨(y8 BK247.out 0).trans rfl,(y8 BK247.out 1).trans rfl,(y8 BK247.out 2).trans rfl,(y8 BK248.out 0).trans rfl,(y8 BK248.out 1).trans rfl,(y8 BK248.out 2).trans rfl⟩ (fun hHeld => ?_)
      clear hK K
      refine norm_ (a' := ?_) ?_ ?_
      rotate_left
      ·show Act.put _ (some 32) _ = _
       simp only [Act.put,qS_,qZ_,qC_,y20,y19]
       rfl
      refine qp 5 27 (fl_ 11 319) ?_
      refine qp 6 33 (fl_ 11 383) ?_
      refine qp 7 34 (fl_ 11 511) ?_
      exact norm_ qy3 (hCont (.slice Ao37 t253.length co37,.slice Ao38 t258.length co38,v264,gb267) _ ⟨hHeld,(qR (Kd.R_mono HO255.out (fun _ hk => ⟨hk.1.2,hk.2⟩))),(qR (Kd.R_mono HO260.out (fun _ hk => ⟨hk.1.2,hk.2⟩))),(qR (Kd.R_mono HO265.out (fun _ hk => ⟨hk.1.2,hk.2⟩))),(qk BK247.out),(qk BK248.out),(qk BK267.out),GW267.out,GE267.out,NB247_267.out,NB267_247.out,NB248_267.out,NB267_248.out,qb⟩)
    ·skip
     refine box_step ?hg (N := 6) ?hd (cs := #[.int .i64 0,.int .i64 0,.slice none 0 0]) (t := 28) ?hr ?_; (case hd => rfl); (case hg => rfl); (case hr => first | (go_simp; done) | (go_simp; rfl))
     intro gb267 hg w34 hbox hb
     have BK267 := y0.mk (hbox)
     have GW267 := y0.mk (qg (w := w) hg)
     have GE267 := y0.mk (qg (w := w) hg)
     replace HB := y0.mk (y5 qb hb)
     have NB247_267 := y0.mk (qn BK247.out hg)
     have NB267_247 := y0.mk (qm BK247.out hg)
     replace BK247 := y0.mk (qK BK247.out hb)
     have NB248_267 := y0.mk (qn BK248.out hg)
     have NB267_248 := y0.mk (qm BK248.out hg)
     replace BK248 := y0.mk (qK BK248.out hb)
     clear hb hbox hg
     refine hK.out _ _ ⟨(y8 BK247.out 0).trans rfl,(y8 BK247.out 1).trans rfl,(y8 BK247.out 2).trans rfl,(y8 BK248.out 0).trans rfl,(y8 BK248.out 1).trans rfl,(y8 BK248.out 2).trans rfl⟩ (fun hHeld => ?_)
     clear hK K
     refine norm_ (a' := ?_) ?_ ?_
     rotate_left
     ·show Act.put _ (some 6) _ = _
      simp only [Act.put,qS_,qZ_,qC_,y20,y19]
      rfl
     refine one_ (i := 1) (N := some 29) (fl_ 11 263) rfl rfl (one_of HT_.out (by kernel_rfl)) (by decide) (fun K hK => ?_)
     refine goes_ Try.func9 (by kernel_rfl) rfl #[.agg #[.int .i64 a0_0,.int .i64 a0_1,.slice A0_2 l0_2.length c0_2]] (by rfl) rfl rfl qy0 ?_
     with_reducible refine (laws_toGraph.calls k a0_0 a0_1 _ _ l0_2 t251 t252 t253 _ (qc (Kd.C_below HR0_2.out HB.out)) HC0_2.out A19.out).mono ?_
     rintro e w35 ⟨v254,rfl,ho0,hb⟩
     refine ⟨_,rfl, ?_⟩
     have HO255 := y0.mk (Kd.R_lower ho0 (y4 qb))
     replace BK247 := y0.mk (qK BK247.out hb)
     replace BK248 := y0.mk (qK BK248.out hb)
     replace BK267 := y0.mk (qK BK267.out hb)
     replace HB := y0.mk (y5 qb hb)
     (try clear hb)
     (try clear hb2)
     (try clear hk)
     (try clear hi)
     (try clear ho0)
     refine hK.out _ _ ⟨(y8 BK247.out 0).trans rfl,(y8 BK247.out 1).trans rfl,(y8 BK247.out 2).trans rfl,(y8 BK248.out 0).trans rfl,(y8 BK248.out 1).trans rfl,(y8 BK248.out 2).trans rfl⟩ (fun hHeld => ?_)
     clear hK K
     refine norm_ (a' := ?_) ?_ ?_
     rotate_left
     ·show Act.put _ (some 29) _ = _
      simp only [Act.put,qS_,qZ_,qC_,y20,y19]
      rfl
     refine one_ (i := 3) (N := some 31) (fl_ 11 271) rfl rfl (one_of HT_.out (by kernel_rfl)) (by decide) (fun K hK => ?_)
     refine goes_ Try.func9 (by kernel_rfl) rfl #[.agg #[.int .i64 a1_0,.int .i64 a1_1,.slice A1_2 l1_2.length c1_2]] (by rfl) rfl rfl qy0 ?_
     with_reducible refine (laws_toGraph.calls k a1_0 a1_1 _ _ l1_2 t256 t257 t258 _ (qc (Kd.C_below HR1_2.out HB.out)) HC1_2.out A20.out).mono ?_
     rintro e w36 ⟨v259,rfl,ho0,hb⟩
     refine ⟨_,rfl, ?_⟩
     have HO260 := y0.mk (Kd.R_lower (Kd.R_new' ho0 (Kd.R_lt (qR HO255.out))) (y4 qb))
     replace HO255 := y0.mk (Kd.R_elder' (qR HO255.out) (Kd.R_base ho0) hb)
     replace BK247 := y0.mk (qK BK247.out hb)
     replace BK248 := y0.mk (qK BK248.out hb)
     replace BK267 := y0.mk (qK BK267.out hb)
     replace HB := y0.mk (y5 qb hb)
     (try clear hb)
     (try clear hb2)
     (try clear hk)
     (try clear hi)
     (try clear ho0)
     obtain ⟨Ao37,co37,eo37⟩ := Kd.R_slice HO255.out
     (first | subst eo37 | (injection eo37 with f1_ f2_ f3_; have f4_ := f1_.symm; have f5_ := f3_.symm; clear f1_ f2_ f3_; subst f4_; subst f5_))
     obtain ⟨Ao38,co38,eo38⟩ := Kd.R_slice HO260.out
     (first | subst eo38 | (injection eo38 with f1_ f2_ f3_; have f4_ := f1_.symm; have f5_ := f3_.symm; clear f1_ f2_ f3_; subst f4_; subst f5_))
     refine hK.out _ _ ⟨(y8 BK247.out 0).trans rfl,(y8 BK247.out 1).trans rfl,(y8 BK247.out 2).trans rfl,(y8 BK248.out 0).trans rfl,(y8 BK248.out 1).trans rfl,(y8 BK248.out 2).trans rfl⟩ (fun hHeld => ?_)
     clear hK K
     refine norm_ (a' := ?_) ?_ ?_
     rotate_left
     ·show Act.put _ (some 31) _ = _
      simp only [Act.put,qS_,qZ_,qC_,y20,y19]
      rfl
     refine one_ (i := 4) (N := some 32) (fl_ 11 287) rfl rfl (one_of HT_.out (by kernel_rfl)) (by decide) (fun K hK => ?_)
     refine goes_ Try.func8 (by kernel_rfl) rfl #[.agg #[.int .i64 t251,.int .i64 t252,.slice Ao37 t253.length co37],.agg #[.int .i64 t256,.int .i64 t257,.slice Ao38 t258.length co38]] (by rfl) rfl rfl qy0 ?_
     with_reducible refine (z0_.calls k t251 t252 _ _ t253 t256 t257 _ _ t258 t261 t262 t263 t266 _ (qc ((Kd.R_reads' HO255.out).2.2)) (by exact (Kd.R_reads' HO255.out).2.1) (qc ((Kd.R_reads' HO260.out).2.2)) (by exact (Kd.R_reads' HO260.out).2.1) A21.out).mono ?_
     rintro e w39 ⟨v264,rfl,ho0,hb⟩
     refine ⟨_,rfl, ?_⟩
     have HO265 := y0.mk (Kd.R_lower (Kd.R_new' (Kd.R_new' ho0 (Kd.R_lt (qR HO255.out))) (Kd.R_lt (qR HO260.out))) (y4 qb))
     replace HO255 := y0.mk (Kd.R_elder' (qR HO255.out) (Kd.R_base ho0) hb)
     replace HO260 := y0.mk (Kd.R_elder' (qR HO260.out) (Kd.R_base ho0) hb)
     replace BK247 := y0.mk (qK BK247.out hb)
     replace BK248 := y0.mk (qK BK248.out hb)
     replace BK267 := y0.mk (qK BK267.out hb)
     replace HB := y0.mk (y5 qb hb)
     (try clear hb)
     (try clear hb2)
     (try clear hk)
     (try clear hi)
     (try clear ho0)
     refine hK.out _ _ ⟨(y8 BK247.out 0).trans rfl,(y8 BK247.out 1).trans rfl,(y8 BK247.out 2).trans rfl,(y8 BK248.out 0).trans rfl,(y8 BK248.out 1).trans rfl,(y8 BK248.out 2).trans rfl⟩ (fun hHeld => ?_)
     clear hK K
     refine norm_ (a' := ?_) ?_ ?_
     rotate_left
     ·show Act.put _ (some 32) _ = _
      simp only [Act.put,qS_,qZ_,qC_,y20,y19]
      rfl
     refine qp 5 27 (fl_ 11 319) ?_
     refine qp 6 33 (fl_ 11 383) ?_
     refine qp 7 34 (fl_ 11 511) ?_
     exact norm_ qy3 (hCont (.slice Ao37 t253.length co37,.slice Ao38 t258.length co38,v264,gb267) _ ⟨hHeld,(qR (Kd.R_mono HO255.out (fun _ hk => ⟨hk.1.2,hk.2⟩))),(qR (Kd.R_mono HO260.out (fun _ hk => ⟨hk.1.2,hk.2⟩))),(qR (Kd.R_mono HO265.out (fun _ hk => ⟨hk.1.2,hk.2⟩))),(qk BK247.out),(qk BK248.out),(qk BK267.out),GW267.out,GE267.out,NB247_267.out,NB267_247.out,NB248_267.out,NB267_248.out,qb⟩)
   rintro ⟨v254,v259,v264,gb267⟩ w40 ⟨hS_,h0_,h1_,h2_,h3_,h4_,h5_,h6_,h7_,h8_,h9_,h10_,h11_,h12_⟩
   have n0_ : y0 (Kd.R k53 53 w40 w.heap.size (fun k_ => some k_ ≠ (v259 : Value).ownBlock ∧ some k_ ≠ (v264 : Value).ownBlock) v254 t253) := ⟨h0_⟩
   have n1_ : y0 (Kd.R k53 53 w40 w.heap.size (fun k_ => some k_ ≠ (v254 : Value).ownBlock ∧ some k_ ≠ (v264 : Value).ownBlock) v259 t258) := ⟨h1_⟩
   have n2_ : y0 (Kd.R k53 53 w40 w.heap.size (fun k_ => some k_ ≠ (v254 : Value).ownBlock ∧ some k_ ≠ (v259 : Value).ownBlock) v264 t263) := ⟨h2_⟩
   have n3_ : y0 (w40.heap[gb247]? = some (.cells #[.int .i64 a0_0,.int .i64 a0_1,.slice A0_2 l0_2.length c0_2] 24 (0,0))) := ⟨h3_⟩
   have n4_ : y0 (w40.heap[gb248]? = some (.cells #[.int .i64 a1_0,.int .i64 a1_1,.slice A1_2 l1_2.length c1_2] 24 (0,0))) := ⟨h4_⟩
   have n5_ : y0 (w40.heap[gb267]? = some (.cells #[.int .i64 0,.int .i64 0,.slice none 0 0] 28 (0,0))) := ⟨h5_⟩
   have n6_ : y0 (w.heap.size ≤ gb267) := ⟨h6_⟩
   have n7_ : y0 (w.heap.size ≤ gb267) := ⟨h7_⟩
   have n8_ : y0 (gb247 ≠ gb267) := ⟨h8_⟩
   have n9_ : y0 (gb267 ≠ gb247) := ⟨h9_⟩
   have n10_ : y0 (gb248 ≠ gb267) := ⟨h10_⟩
   have n11_ : y0 (gb267 ≠ gb248) := ⟨h11_⟩
   have n12_ : y0 (Below w.heap.size w w40) := ⟨h12_⟩
   clear BK247
   clear BK248
   clear HB
   clear h0_ h1_ h2_ h3_ h4_ h5_ h6_ h7_ h8_ h9_ h10_ h11_ h12_
   have HO255 := n0_
   have HO260 := n1_
   have HO265 := n2_
   have BK247 := n3_
   have BK248 := n4_
   have BK267 := n5_
   have GW267 := n6_
   have GE267 := n7_
   have NB247_267 := n8_
   have NB267_247 := n9_
   have NB248_267 := n10_
   have NB267_248 := n11_
   have HB := n12_
   clear n0_ n1_ n2_ n3_ n4_ n5_ n6_ n7_ n8_ n9_ n10_ n11_ n12_
   have hHeld : w40.cell? ⟨gb247,0,none⟩ = some (.int .i64 a0_0) ∧ w40.cell? ⟨gb247,1,none⟩ = some (.int .i64 a0_1) ∧ w40.cell? ⟨gb247,2,none⟩ = some (.slice A0_2 l0_2.length c0_2) ∧ w40.cell? ⟨gb248,0,none⟩ = some (.int .i64 a1_0) ∧ w40.cell? ⟨gb248,1,none⟩ = some (.int .i64 a1_1) ∧ w40.cell? ⟨gb248,2,none⟩ = some (.slice A1_2 l1_2.length c1_2) := hS_
   obtain ⟨Ao43,co43,eo43⟩ := Kd.R_slice HO265.out
   (first | subst eo43 | (injection eo43 with f1_ f2_ f3_; have f4_ := f1_.symm; have f5_ := f3_.symm; clear f1_ f2_ f3_; subst f4_; subst f5_))
   refine norm_ (a' := ?_) ?_ ?_
   rotate_left
   ·simp only [putAll,Act.put,qS_,qZ_,qC_]
    rfl
   refine one_ (i := 9) (N := none) (fl_ 11 1023) rfl rfl (one_of HT_.out (by kernel_rfl)) (by decide) (fun K hK => ?_)
   have hs41 : w40.cell? ⟨gb267,0,none⟩ = some (.int .i64 0) := (y8 BK267.out 0).trans rfl
   have hfs41 := y13 BK267.out 0
   have hns41_0 := NB247_267.out
   have hns41_1 := NB248_267.out
   have hms41_0 := NB267_247.out
   have hms41_1 := NB267_248.out
   have hs42 : w40.cell? ⟨gb267,1,none⟩ = some (.int .i64 0) := (y8 BK267.out 1).trans rfl
   have hfs42 := y13 BK267.out 1
   have hns42_0 := NB247_267.out
   have hns42_1 := NB248_267.out
   have hms42_0 := NB267_247.out
   have hms42_1 := NB267_248.out
   have hs44 : w40.cell? ⟨gb267,2,none⟩ = some (.slice none 0 0) := (y8 BK267.out 2).trans rfl
   have hfs44 := y13 BK267.out 2
   have hns44_0 := NB247_267.out
   have hns44_1 := NB248_267.out
   have hms44_0 := NB267_247.out
   have hms44_1 := NB267_248.out
   refine skip_ (w1 := ?_) (by rfl) rfl ?_ ?_
   rotate_left
   ·go_simp
    rfl
   refine hK.out _ _ ⟨((cell_far (p := ⟨gb267,_,none⟩) NB247_267.out _).trans (((cell_far (p := ⟨gb267,_,none⟩) NB247_267.out _).trans (((cell_far (p := ⟨gb267,_,none⟩) NB247_267.out _).trans (hHeld.1)))))),((cell_far (p := ⟨gb267,_,none⟩) NB247_267.out _).trans (((cell_far (p := ⟨gb267,_,none⟩) NB247_267.out _).trans (((cell_far (p := ⟨gb267,_,none⟩) NB247_267.out _).trans (hHeld.2.1)))))),((cell_far (p := ⟨gb267,_,none⟩) NB247_267.out _).trans (((cell_far (p := ⟨gb267,_,none⟩) NB247_267.out _).trans (((cell_far (p := ⟨gb267,_,none⟩) NB247_267.out _).trans (hHeld.2.2.1)))))),((cell_far (p := ⟨gb267,_,none⟩) NB248_267.out _).trans (((cell_far (p := ⟨gb267,_,none⟩) NB248_267.out _).trans (((cell_far (p := ⟨gb267,_,none⟩) NB248_267.out _).trans (hHeld.2.2.2.1)))))),((cell_far (p := ⟨gb267,_,none⟩) NB248_267.out _).trans (((cell_far (p := ⟨gb267,_,none⟩) NB248_267.out _).trans (((cell_far (p := ⟨gb267,_,none⟩) NB248_267.out _).trans (hHeld.2.2.2.2.1)))))),((cell_far (p := ⟨gb267,_,none⟩) NB248_267.out _).trans (((cell_far (p := ⟨gb267,_,none⟩) NB248_267.out _).trans (((cell_far (p := ⟨gb267,_,none⟩) NB248_267.out _).trans (hHeld.2.2.2.2.2))))))⟩ (fun hHeld => ?_)
   clear hK K
   refine qp 10 7 (fl_ 11 2047) ?_
   refine done_ (done_of HT_.out (by kernel_rfl)) ?_
   have hnb45 := NB247_267.out
   have hnc45 := NB267_247.out
   obtain ⟨hcz46_0,hcz46_1,hcz46_2,hfz46_0,hfz46_1,hfz46_2⟩ := qz3 BK247.out
   go_upto_region 12 with (first | ((with_reducible refine y17 (f := 9) rfl ?_); refine goesL_ (some 36) rfl rfl Try.func9 (by kernel_rfl) rfl #[.agg #[.int .i64 a0_0,.int .i64 a0_1,.slice A0_2 l0_2.length c0_2]] rfl qy0 ?_; (with_reducible refine (laws_toGraph.calls k a0_0 a0_1 _ _ l0_2 t268 t269 t270 _ (by exact Kd.C_below HR0_2.out qb) HC0_2.out A22.out).mono ?_); rintro e w47 ⟨v271,rfl,ho0,hb⟩; refine ⟨_,rfl, ?_⟩; have HO272 := y0.mk (Kd.R_lower (Kd.R_new' (Kd.R_new' (Kd.R_new' ho0 (Kd.R_lt (qR ((Kd.R_mono (Kd.R_far (p := ⟨gb267,2,none⟩) (Kd.R_far (p := ⟨gb267,1,none⟩) (Kd.R_far (p := ⟨gb267,0,none⟩) (Kd.R_types HO255.out BK267.out (by decide)) (fun _ hk => hk.2) (.int .i64 t261)) (fun _ hk => hk.2) (.int .i64 t262)) (fun _ hk => hk.2) (.slice Ao43 t263.length co43)) (fun _ h_ => h_.1)))))) (Kd.R_lt (qR ((Kd.R_mono (Kd.R_far (p := ⟨gb267,2,none⟩) (Kd.R_far (p := ⟨gb267,1,none⟩) (Kd.R_far (p := ⟨gb267,0,none⟩) (Kd.R_types HO260.out BK267.out (by decide)) (fun _ hk => hk.2) (.int .i64 t261)) (fun _ hk => hk.2) (.int .i64 t262)) (fun _ hk => hk.2) (.slice Ao43 t263.length co43)) (fun _ h_ => h_.1)))))) (Kd.R_lt (qR ((Kd.R_mono (Kd.R_far (p := ⟨gb267,2,none⟩) (Kd.R_far (p := ⟨gb267,1,none⟩) (Kd.R_far (p := ⟨gb267,0,none⟩) (Kd.R_types HO265.out BK267.out (by decide)) (fun _ hk => hk.2) (.int .i64 t261)) (fun _ hk => hk.2) (.int .i64 t262)) (fun _ hk => hk.2) (.slice Ao43 t263.length co43)) (fun _ h_ => h_.1)))))) (y4 qb)); replace HO255 := y0.mk (Kd.R_elder' (qR ((Kd.R_mono (Kd.R_far (p := ⟨gb267,2,none⟩) (Kd.R_far (p := ⟨gb267,1,none⟩) (Kd.R_far (p := ⟨gb267,0,none⟩) (Kd.R_types HO255.out BK267.out (by decide)) (fun _ hk => hk.2) (.int .i64 t261)) (fun _ hk => hk.2) (.int .i64 t262)) (fun _ hk => hk.2) (.slice Ao43 t263.length co43)) (fun _ h_ => h_.1)))) (Kd.R_base ho0) hb); replace HO260 := y0.mk (Kd.R_elder' (qR ((Kd.R_mono (Kd.R_far (p := ⟨gb267,2,none⟩) (Kd.R_far (p := ⟨gb267,1,none⟩) (Kd.R_far (p := ⟨gb267,0,none⟩) (Kd.R_types HO260.out BK267.out (by decide)) (fun _ hk => hk.2) (.int .i64 t261)) (fun _ hk => hk.2) (.int .i64 t262)) (fun _ hk => hk.2) (.slice Ao43 t263.length co43)) (fun _ h_ => h_.1)))) (Kd.R_base ho0) hb); replace HO265 := y0.mk (Kd.R_elder' (qR ((Kd.R_mono (Kd.R_far (p := ⟨gb267,2,none⟩) (Kd.R_far (p := ⟨gb267,1,none⟩) (Kd.R_far (p := ⟨gb267,0,none⟩) (Kd.R_types HO265.out BK267.out (by decide)) (fun _ hk => hk.2) (.int .i64 t261)) (fun _ hk => hk.2) (.int .i64 t262)) (fun _ hk => hk.2) (.slice Ao43 t263.length co43)) (fun _ h_ => h_.1)))) (Kd.R_base ho0) hb); replace BK247 := y0.mk (y7 (g := gb247) (o := .cells #[.int .i64 a0_0,.int .i64 a0_1,.slice A0_2 l0_2.length c0_2] 24 (0,0)) (by (with_reducible repeat (first | refine y10 ?_ _ | refine y9 ?_ | refine y6 ?_ _)); refine y11 ?_ NB247_267.out _; (with_reducible repeat (first | refine y10 ?_ _ | refine y9 ?_ | refine y6 ?_ _)); refine y11 ?_ NB247_267.out _; (with_reducible repeat (first | refine y10 ?_ _ | refine y9 ?_ | refine y6 ?_ _)); refine y11 ?_ NB247_267.out _; (with_reducible repeat (first | refine y10 ?_ _ | refine y9 ?_ | refine y6 ?_ _)); exact BK247.out) hb); replace BK248 := y0.mk (y7 (g := gb248) (o := .cells #[.int .i64 a1_0,.int .i64 a1_1,.slice A1_2 l1_2.length c1_2] 24 (0,0)) (by (with_reducible repeat (first | refine y10 ?_ _ | refine y9 ?_ | refine y6 ?_ _)); refine y11 ?_ NB248_267.out _; (with_reducible repeat (first | refine y10 ?_ _ | refine y9 ?_ | refine y6 ?_ _)); refine y11 ?_ NB248_267.out _; (with_reducible repeat (first | refine y10 ?_ _ | refine y9 ?_ | refine y6 ?_ _)); refine y11 ?_ NB248_267.out _; (with_reducible repeat (first | refine y10 ?_ _ | refine y9 ?_ | refine y6 ?_ _)); exact BK248.out) hb); replace BK267 := y0.mk (y7 (g := gb267) (o := .cells #[.int .i64 t261,.int .i64 t262,.slice Ao43 t263.length co43] 28 (0,0)) (by (with_reducible repeat (first | refine y10 ?_ _ | refine y9 ?_ | refine y6 ?_ _)); refine y14 (cs := #[.int .i64 t261,.int .i64 t262,.slice none 0 0]) ?_ 2 _ rfl; (with_reducible repeat (first | refine y10 ?_ _ | refine y9 ?_ | refine y6 ?_ _)); refine y14 (cs := #[.int .i64 t261,.int .i64 0,.slice none 0 0]) ?_ 1 _ rfl; (with_reducible repeat (first | refine y10 ?_ _ | refine y9 ?_ | refine y6 ?_ _)); refine y14 (cs := #[.int .i64 0,.int .i64 0,.slice none 0 0]) ?_ 0 _ rfl; (with_reducible repeat (first | refine y10 ?_ _ | refine y9 ?_ | refine y6 ?_ _)); exact BK267.out) hb); replace HB := y0.mk (y5 qb hb); (try clear hb); (try clear hb2); (try clear hk); (try clear hi); (try clear ho0)) | ((with_reducible refine y18 (N := 8) rfl ?_); refine qe 8 #[.int .i64 0,.int .i64 0,.slice none 0 0] 28 ?_; intro gb273 hg w48 hbox hb; replace HO255 := y0.mk (Kd.R_below (qR HO255.out) hb); replace HO260 := y0.mk (Kd.R_below (qR HO260.out) hb); replace HO265 := y0.mk (Kd.R_below (qR HO265.out) hb); replace HO272 := y0.mk (Kd.R_below (qR HO272.out) hb); have BK273 := y0.mk (hbox); have GW273 := y0.mk (qg (w := w) hg); have GE273 := y0.mk (qg (w := w) hg); replace HB := y0.mk (y5 qb hb); have NB247_273 := y0.mk (qn BK247.out hg); have NB273_247 := y0.mk (qm BK247.out hg); replace BK247 := y0.mk (qK BK247.out hb); have NB248_273 := y0.mk (qn BK248.out hg); have NB273_248 := y0.mk (qm BK248.out hg); replace BK248 := y0.mk (qK BK248.out hb); have NB267_273 := y0.mk (qn BK267.out hg); have NB273_267 := y0.mk (qm BK267.out hg); replace BK267 := y0.mk (qK BK267.out hb); clear hb hbox hg; have hnb49 := NB273_247.out; have hnc49 := NB247_273.out; have hnb50 := NB273_248.out; have hnc50 := NB248_273.out; have hnb51 := NB273_267.out; have hnc51 := NB267_273.out; obtain ⟨hcz52_0,hcz52_1,hcz52_2,hfz52_0,hfz52_1,hfz52_2⟩ := qz3 BK273.out; obtain ⟨Ao53,co53,eo53⟩ := Kd.R_slice HO272.out; subst eo53; have hnb54 := NB248_267.out; have hnc54 := NB267_248.out; obtain ⟨hcz55_0,hcz55_1,hcz55_2,hfz55_0,hfz55_1,hfz55_2⟩ := qz3 BK248.out) | ((with_reducible refine y17 (f := 9) rfl ?_); refine goesL_ (some 38) rfl rfl Try.func9 (by kernel_rfl) rfl #[.agg #[.int .i64 a1_0,.int .i64 a1_1,.slice A1_2 l1_2.length c1_2]] rfl qy0 ?_; (with_reducible refine (laws_toGraph.calls k a1_0 a1_1 _ _ l1_2 t274 t275 t276 _ (by exact Kd.C_below HR1_2.out qb) HC1_2.out A23.out).mono ?_); rintro e w56 ⟨v277,rfl,ho0,hb⟩; refine ⟨_,rfl, ?_⟩; have HO278 := y0.mk (Kd.R_lower (Kd.R_new' (Kd.R_new' (Kd.R_new' (Kd.R_new' ho0 (Kd.R_lt (qR ((Kd.R_mono (Kd.R_far (p := ⟨gb273,2,none⟩) (Kd.R_far (p := ⟨gb273,1,none⟩) (Kd.R_far (p := ⟨gb273,0,none⟩) (Kd.R_types HO255.out BK273.out (by decide)) (fun _ hk => hk.2) (.int .i64 t268)) (fun _ hk => hk.2) (.int .i64 t269)) (fun _ hk => hk.2) (.slice Ao53 t270.length co53)) (fun _ h_ => h_.1)))))) (Kd.R_lt (qR ((Kd.R_mono (Kd.R_far (p := ⟨gb273,2,none⟩) (Kd.R_far (p := ⟨gb273,1,none⟩) (Kd.R_far (p := ⟨gb273,0,none⟩) (Kd.R_types HO260.out BK273.out (by decide)) (fun _ hk => hk.2) (.int .i64 t268)) (fun _ hk => hk.2) (.int .i64 t269)) (fun _ hk => hk.2) (.slice Ao53 t270.length co53)) (fun _ h_ => h_.1)))))) (Kd.R_lt (qR ((Kd.R_mono (Kd.R_far (p := ⟨gb273,2,none⟩) (Kd.R_far (p := ⟨gb273,1,none⟩) (Kd.R_far (p := ⟨gb273,0,none⟩) (Kd.R_types HO265.out BK273.out (by decide)) (fun _ hk => hk.2) (.int .i64 t268)) (fun _ hk => hk.2) (.int .i64 t269)) (fun _ hk => hk.2) (.slice Ao53 t270.length co53)) (fun _ h_ => h_.1)))))) (Kd.R_lt (qR ((Kd.R_mono (Kd.R_far (p := ⟨gb273,2,none⟩) (Kd.R_far (p := ⟨gb273,1,none⟩) (Kd.R_far (p := ⟨gb273,0,none⟩) (Kd.R_types HO272.out BK273.out (by decide)) (fun _ hk => hk.2) (.int .i64 t268)) (fun _ hk => hk.2) (.int .i64 t269)) (fun _ hk => hk.2) (.slice Ao53 t270.length co53)) (fun _ h_ => h_.1)))))) (y4 qb)); replace HO255 := y0.mk (Kd.R_elder' (qR ((Kd.R_mono (Kd.R_far (p := ⟨gb273,2,none⟩) (Kd.R_far (p := ⟨gb273,1,none⟩) (Kd.R_far (p := ⟨gb273,0,none⟩) (Kd.R_types HO255.out BK273.out (by decide)) (fun _ hk => hk.2) (.int .i64 t268)) (fun _ hk => hk.2) (.int .i64 t269)) (fun _ hk => hk.2) (.slice Ao53 t270.length co53)) (fun _ h_ => h_.1)))) (Kd.R_base ho0) hb); replace HO260 := y0.mk (Kd.R_elder' (qR ((Kd.R_mono (Kd.R_far (p := ⟨gb273,2,none⟩) (Kd.R_far (p := ⟨gb273,1,none⟩) (Kd.R_far (p := ⟨gb273,0,none⟩) (Kd.R_types HO260.out BK273.out (by decide)) (fun _ hk => hk.2) (.int .i64 t268)) (fun _ hk => hk.2) (.int .i64 t269)) (fun _ hk => hk.2) (.slice Ao53 t270.length co53)) (fun _ h_ => h_.1)))) (Kd.R_base ho0) hb); replace HO265 := y0.mk (Kd.R_elder' (qR ((Kd.R_mono (Kd.R_far (p := ⟨gb273,2,none⟩) (Kd.R_far (p := ⟨gb273,1,none⟩) (Kd.R_far (p := ⟨gb273,0,none⟩) (Kd.R_types HO265.out BK273.out (by decide)) (fun _ hk => hk.2) (.int .i64 t268)) (fun _ hk => hk.2) (.int .i64 t269)) (fun _ hk => hk.2) (.slice Ao53 t270.length co53)) (fun _ h_ => h_.1)))) (Kd.R_base ho0) hb); replace HO272 := y0.mk (Kd.R_elder' (qR ((Kd.R_mono (Kd.R_far (p := ⟨gb273,2,none⟩) (Kd.R_far (p := ⟨gb273,1,none⟩) (Kd.R_far (p := ⟨gb273,0,none⟩) (Kd.R_types HO272.out BK273.out (by decide)) (fun _ hk => hk.2) (.int .i64 t268)) (fun _ hk => hk.2) (.int .i64 t269)) (fun _ hk => hk.2) (.slice Ao53 t270.length co53)) (fun _ h_ => h_.1)))) (Kd.R_base ho0) hb); replace BK247 := y0.mk (y7 (g := gb247) (o := .cells #[.int .i64 a0_0,.int .i64 a0_1,.slice A0_2 l0_2.length c0_2] 24 (0,0)) (by (with_reducible repeat (first | refine y10 ?_ _ | refine y9 ?_ | refine y6 ?_ _)); refine y11 ?_ NB247_273.out _; (with_reducible repeat (first | refine y10 ?_ _ | refine y9 ?_ | refine y6 ?_ _)); refine y11 ?_ NB247_273.out _; (with_reducible repeat (first | refine y10 ?_ _ | refine y9 ?_ | refine y6 ?_ _)); refine y11 ?_ NB247_273.out _; (with_reducible repeat (first | refine y10 ?_ _ | refine y9 ?_ | refine y6 ?_ _)); exact BK247.out) hb); replace BK248 := y0.mk (y7 (g := gb248) (o := .cells #[.int .i64 a1_0,.int .i64 a1_1,.slice A1_2 l1_2.length c1_2] 24 (0,0)) (by (with_reducible repeat (first | refine y10 ?_ _ | refine y9 ?_ | refine y6 ?_ _)); refine y11 ?_ NB248_273.out _; (with_reducible repeat (first | refine y10 ?_ _ | refine y9 ?_ | refine y6 ?_ _)); refine y11 ?_ NB248_273.out _; (with_reducible repeat (first | refine y10 ?_ _ | refine y9 ?_ | refine y6 ?_ _)); refine y11 ?_ NB248_273.out _; (with_reducible repeat (first | refine y10 ?_ _ | refine y9 ?_ | refine y6 ?_ _)); exact BK248.out) hb); replace BK267 := y0.mk (y7 (g := gb267) (o := .cells #[.int .i64 t261,.int .i64 t262,.slice Ao43 t263.length co43] 28 (0,0)) (by (with_reducible repeat (first | refine y10 ?_ _ | refine y9 ?_ | refine y6 ?_ _)); refine y11 ?_ NB267_273.out _; (with_reducible repeat (first | refine y10 ?_ _ | refine y9 ?_ | refine y6 ?_ _)); refine y11 ?_ NB267_273.out _; (with_reducible repeat (first | refine y10 ?_ _ | refine y9 ?_ | refine y6 ?_ _)); refine y11 ?_ NB267_273.out _; (with_reducible repeat (first | refine y10 ?_ _ | refine y9 ?_ | refine y6 ?_ _)); exact BK267.out) hb); replace BK273 := y0.mk (y7 (g := gb273) (o := .cells #[.int .i64 t268,.int .i64 t269,.slice Ao53 t270.length co53] 28 (0,0)) (by (with_reducible repeat (first | refine y10 ?_ _ | refine y9 ?_ | refine y6 ?_ _)); refine y14 (cs := #[.int .i64 t268,.int .i64 t269,.slice none 0 0]) ?_ 2 _ rfl; (with_reducible repeat (first | refine y10 ?_ _ | refine y9 ?_ | refine y6 ?_ _)); refine y14 (cs := #[.int .i64 t268,.int .i64 0,.slice none 0 0]) ?_ 1 _ rfl; (with_reducible repeat (first | refine y10 ?_ _ | refine y9 ?_ | refine y6 ?_ _)); refine y14 (cs := #[.int .i64 0,.int .i64 0,.slice none 0 0]) ?_ 0 _ rfl; (with_reducible repeat (first | refine y10 ?_ _ | refine y9 ?_ | refine y6 ?_ _)); exact BK273.out) hb); replace HB := y0.mk (y5 qb hb); (try clear hb); (try clear hb2); (try clear hk); (try clear hi); (try clear ho0)) | ((with_reducible refine y18 (N := 9) rfl ?_); refine qe 9 #[.int .i64 0,.int .i64 0,.slice none 0 0] 28 ?_; intro gb279 hg w57 hbox hb; replace HO255 := y0.mk (Kd.R_below (qR HO255.out) hb); replace HO260 := y0.mk (Kd.R_below (qR HO260.out) hb); replace HO265 := y0.mk (Kd.R_below (qR HO265.out) hb); replace HO272 := y0.mk (Kd.R_below (qR HO272.out) hb); replace HO278 := y0.mk (Kd.R_below (qR HO278.out) hb); have BK279 := y0.mk (hbox); have GW279 := y0.mk (qg (w := w) hg); have GE279 := y0.mk (qg (w := w) hg); replace HB := y0.mk (y5 qb hb); have NB247_279 := y0.mk (qn BK247.out hg); have NB279_247 := y0.mk (qm BK247.out hg); replace BK247 := y0.mk (qK BK247.out hb); have NB248_279 := y0.mk (qn BK248.out hg); have NB279_248 := y0.mk (qm BK248.out hg); replace BK248 := y0.mk (qK BK248.out hb); have NB267_279 := y0.mk (qn BK267.out hg); have NB279_267 := y0.mk (qm BK267.out hg); replace BK267 := y0.mk (qK BK267.out hb); have NB273_279 := y0.mk (qn BK273.out hg); have NB279_273 := y0.mk (qm BK273.out hg); replace BK273 := y0.mk (qK BK273.out hb); clear hb hbox hg; have hnb58 := NB279_247.out; have hnc58 := NB247_279.out; have hnb59 := NB279_248.out; have hnc59 := NB248_279.out; have hnb60 := NB279_267.out; have hnc60 := NB267_279.out; have hnb61 := NB279_273.out; have hnc61 := NB273_279.out; obtain ⟨hcz62_0,hcz62_1,hcz62_2,hfz62_0,hfz62_1,hfz62_2⟩ := qz3 BK279.out; obtain ⟨Ao63,co63,eo63⟩ := Kd.R_slice HO278.out; subst eo63; obtain ⟨hcz64_0,hcz64_1,hcz64_2,hfz64_0,hfz64_1,hfz64_2⟩ := qz3 BK273.out) | ((with_reducible refine y17 (f := 10) rfl ?_); refine goesL_ (some 42) rfl rfl Try.func10 (by kernel_rfl) rfl #[.agg #[.int .i64 t268,.int .i64 t269,.slice Ao53 t270.length co53],.agg #[.int .i64 t274,.int .i64 t275,.slice Ao63 t276.length co63]] rfl qy0 ?_; (with_reducible refine (impl_Compose.calls k t268 t269 _ _ t270 t274 t275 _ _ t276 t280 t281 t282 t285 _ (by refine (Kd.R_reads' (e := 53) (base := w.heap.size) (ok := fun k_ => ((((True ∧ some k_ ≠ (v254 : Value).ownBlock) ∧ some k_ ≠ (v259 : Value).ownBlock) ∧ some k_ ≠ (.slice Ao43 t263.length co43 : Value).ownBlock) ∧ some k_ ≠ (.slice Ao63 t276.length co63 : Value).ownBlock)) (n := t270.length) (c := co53) ?_).2.2; exact (qR ((Kd.R_mono (Kd.R_far (p := ⟨gb279,2,none⟩) (Kd.R_far (p := ⟨gb279,1,none⟩) (Kd.R_far (p := ⟨gb279,0,none⟩) (Kd.R_types HO272.out BK279.out (by decide)) (fun _ hk => hk.2) (.int .i64 t274)) (fun _ hk => hk.2) (.int .i64 t275)) (fun _ hk => hk.2) (.slice Ao63 t276.length co63)) (fun _ h_ => h_.1))))) (by exact (Kd.R_reads' HO272.out).2.1) (by refine (Kd.R_reads' (e := 53) (base := w.heap.size) (ok := fun k_ => ((((True ∧ some k_ ≠ (v254 : Value).ownBlock) ∧ some k_ ≠ (v259 : Value).ownBlock) ∧ some k_ ≠ (.slice Ao43 t263.length co43 : Value).ownBlock) ∧ some k_ ≠ (.slice Ao53 t270.length co53 : Value).ownBlock)) (n := t276.length) (c := co63) ?_).2.2; exact (qR ((Kd.R_mono (Kd.R_far (p := ⟨gb279,2,none⟩) (Kd.R_far (p := ⟨gb279,1,none⟩) (Kd.R_far (p := ⟨gb279,0,none⟩) (Kd.R_types HO278.out BK279.out (by decide)) (fun _ hk => hk.2) (.int .i64 t274)) (fun _ hk => hk.2) (.int .i64 t275)) (fun _ hk => hk.2) (.slice Ao63 t276.length co63)) (fun _ h_ => h_.1))))) (by exact (Kd.R_reads' HO278.out).2.1) A24.out).mono ?_); rintro e w65 ⟨v283,rfl,ho0,hb⟩; refine ⟨_,rfl, ?_⟩; have HO284 := y0.mk (Kd.R_lower (Kd.R_new' (Kd.R_new' (Kd.R_new' (Kd.R_new' (Kd.R_new' ho0 (Kd.R_lt (qR ((Kd.R_mono (Kd.R_far (p := ⟨gb279,2,none⟩) (Kd.R_far (p := ⟨gb279,1,none⟩) (Kd.R_far (p := ⟨gb279,0,none⟩) (Kd.R_types HO255.out BK279.out (by decide)) (fun _ hk => hk.2) (.int .i64 t274)) (fun _ hk => hk.2) (.int .i64 t275)) (fun _ hk => hk.2) (.slice Ao63 t276.length co63)) (fun _ h_ => h_.1)))))) (Kd.R_lt (qR ((Kd.R_mono (Kd.R_far (p := ⟨gb279,2,none⟩) (Kd.R_far (p := ⟨gb279,1,none⟩) (Kd.R_far (p := ⟨gb279,0,none⟩) (Kd.R_types HO260.out BK279.out (by decide)) (fun _ hk => hk.2) (.int .i64 t274)) (fun _ hk => hk.2) (.int .i64 t275)) (fun _ hk => hk.2) (.slice Ao63 t276.length co63)) (fun _ h_ => h_.1)))))) (Kd.R_lt (qR ((Kd.R_mono (Kd.R_far (p := ⟨gb279,2,none⟩) (Kd.R_far (p := ⟨gb279,1,none⟩) (Kd.R_far (p := ⟨gb279,0,none⟩) (Kd.R_types HO265.out BK279.out (by decide)) (fun _ hk => hk.2) (.int .i64 t274)) (fun _ hk => hk.2) (.int .i64 t275)) (fun _ hk => hk.2) (.slice Ao63 t276.length co63)) (fun _ h_ => h_.1)))))) (Kd.R_lt (qR ((Kd.R_mono (Kd.R_far (p := ⟨gb279,2,none⟩) (Kd.R_far (p := ⟨gb279,1,none⟩) (Kd.R_far (p := ⟨gb279,0,none⟩) (Kd.R_types HO272.out BK279.out (by decide)) (fun _ hk => hk.2) (.int .i64 t274)) (fun _ hk => hk.2) (.int .i64 t275)) (fun _ hk => hk.2) (.slice Ao63 t276.length co63)) (fun _ h_ => h_.1)))))) (Kd.R_lt (qR ((Kd.R_mono (Kd.R_far (p := ⟨gb279,2,none⟩) (Kd.R_far (p := ⟨gb279,1,none⟩) (Kd.R_far (p := ⟨gb279,0,none⟩) (Kd.R_types HO278.out BK279.out (by decide)) (fun _ hk => hk.2) (.int .i64 t274)) (fun _ hk => hk.2) (.int .i64 t275)) (fun _ hk => hk.2) (.slice Ao63 t276.length co63)) (fun _ h_ => h_.1)))))) (y4 qb)); replace HO255 := y0.mk (Kd.R_elder' (qR ((Kd.R_mono (Kd.R_far (p := ⟨gb279,2,none⟩) (Kd.R_far (p := ⟨gb279,1,none⟩) (Kd.R_far (p := ⟨gb279,0,none⟩) (Kd.R_types HO255.out BK279.out (by decide)) (fun _ hk => hk.2) (.int .i64 t274)) (fun _ hk => hk.2) (.int .i64 t275)) (fun _ hk => hk.2) (.slice Ao63 t276.length co63)) (fun _ h_ => h_.1)))) (Kd.R_base ho0) hb); replace HO260 := y0.mk (Kd.R_elder' (qR ((Kd.R_mono (Kd.R_far (p := ⟨gb279,2,none⟩) (Kd.R_far (p := ⟨gb279,1,none⟩) (Kd.R_far (p := ⟨gb279,0,none⟩) (Kd.R_types HO260.out BK279.out (by decide)) (fun _ hk => hk.2) (.int .i64 t274)) (fun _ hk => hk.2) (.int .i64 t275)) (fun _ hk => hk.2) (.slice Ao63 t276.length co63)) (fun _ h_ => h_.1)))) (Kd.R_base ho0) hb); replace HO265 := y0.mk (Kd.R_elder' (qR ((Kd.R_mono (Kd.R_far (p := ⟨gb279,2,none⟩) (Kd.R_far (p := ⟨gb279,1,none⟩) (Kd.R_far (p := ⟨gb279,0,none⟩) (Kd.R_types HO265.out BK279.out (by decide)) (fun _ hk => hk.2) (.int .i64 t274)) (fun _ hk => hk.2) (.int .i64 t275)) (fun _ hk => hk.2) (.slice Ao63 t276.length co63)) (fun _ h_ => h_.1)))) (Kd.R_base ho0) hb); replace HO272 := y0.mk (Kd.R_elder' (qR ((Kd.R_mono (Kd.R_far (p := ⟨gb279,2,none⟩) (Kd.R_far (p := ⟨gb279,1,none⟩) (Kd.R_far (p := ⟨gb279,0,none⟩) (Kd.R_types HO272.out BK279.out (by decide)) (fun _ hk => hk.2) (.int .i64 t274)) (fun _ hk => hk.2) (.int .i64 t275)) (fun _ hk => hk.2) (.slice Ao63 t276.length co63)) (fun _ h_ => h_.1)))) (Kd.R_base ho0) hb); replace HO278 := y0.mk (Kd.R_elder' (qR ((Kd.R_mono (Kd.R_far (p := ⟨gb279,2,none⟩) (Kd.R_far (p := ⟨gb279,1,none⟩) (Kd.R_far (p := ⟨gb279,0,none⟩) (Kd.R_types HO278.out BK279.out (by decide)) (fun _ hk => hk.2) (.int .i64 t274)) (fun _ hk => hk.2) (.int .i64 t275)) (fun _ hk => hk.2) (.slice Ao63 t276.length co63)) (fun _ h_ => h_.1)))) (Kd.R_base ho0) hb); replace BK247 := y0.mk (y7 (g := gb247) (o := .cells #[.int .i64 a0_0,.int .i64 a0_1,.slice A0_2 l0_2.length c0_2] 24 (0,0)) (by (with_reducible repeat (first | refine y10 ?_ _ | refine y9 ?_ | refine y6 ?_ _)); refine y11 ?_ NB247_279.out _; (with_reducible repeat (first | refine y10 ?_ _ | refine y9 ?_ | refine y6 ?_ _)); refine y11 ?_ NB247_279.out _; (with_reducible repeat (first | refine y10 ?_ _ | refine y9 ?_ | refine y6 ?_ _)); refine y11 ?_ NB247_279.out _; (with_reducible repeat (first | refine y10 ?_ _ | refine y9 ?_ | refine y6 ?_ _)); exact BK247.out) hb); replace BK248 := y0.mk (y7 (g := gb248) (o := .cells #[.int .i64 a1_0,.int .i64 a1_1,.slice A1_2 l1_2.length c1_2] 24 (0,0)) (by (with_reducible repeat (first | refine y10 ?_ _ | refine y9 ?_ | refine y6 ?_ _)); refine y11 ?_ NB248_279.out _; (with_reducible repeat (first | refine y10 ?_ _ | refine y9 ?_ | refine y6 ?_ _)); refine y11 ?_ NB248_279.out _; (with_reducible repeat (first | refine y10 ?_ _ | refine y9 ?_ | refine y6 ?_ _)); refine y11 ?_ NB248_279.out _; (with_reducible repeat (first | refine y10 ?_ _ | refine y9 ?_ | refine y6 ?_ _)); exact BK248.out) hb); replace BK267 := y0.mk (y7 (g := gb267) (o := .cells #[.int .i64 t261,.int .i64 t262,.slice Ao43 t263.length co43] 28 (0,0)) (by (with_reducible repeat (first | refine y10 ?_ _ | refine y9 ?_ | refine y6 ?_ _)); refine y11 ?_ NB267_279.out _; (with_reducible repeat (first | refine y10 ?_ _ | refine y9 ?_ | refine y6 ?_ _)); refine y11 ?_ NB267_279.out _; (with_reducible repeat (first | refine y10 ?_ _ | refine y9 ?_ | refine y6 ?_ _)); refine y11 ?_ NB267_279.out _; (with_reducible repeat (first | refine y10 ?_ _ | refine y9 ?_ | refine y6 ?_ _)); exact BK267.out) hb); replace BK273 := y0.mk (y7 (g := gb273) (o := .cells #[.int .i64 t268,.int .i64 t269,.slice Ao53 t270.length co53] 28 (0,0)) (by (with_reducible repeat (first | refine y10 ?_ _ | refine y9 ?_ | refine y6 ?_ _)); refine y11 ?_ NB273_279.out _; (with_reducible repeat (first | refine y10 ?_ _ | refine y9 ?_ | refine y6 ?_ _)); refine y11 ?_ NB273_279.out _; (with_reducible repeat (first | refine y10 ?_ _ | refine y9 ?_ | refine y6 ?_ _)); refine y11 ?_ NB273_279.out _; (with_reducible repeat (first | refine y10 ?_ _ | refine y9 ?_ | refine y6 ?_ _)); exact BK273.out) hb); replace BK279 := y0.mk (y7 (g := gb279) (o := .cells #[.int .i64 t274,.int .i64 t275,.slice Ao63 t276.length co63] 28 (0,0)) (by (with_reducible repeat (first | refine y10 ?_ _ | refine y9 ?_ | refine y6 ?_ _)); refine y14 (cs := #[.int .i64 t274,.int .i64 t275,.slice none 0 0]) ?_ 2 _ rfl; (with_reducible repeat (first | refine y10 ?_ _ | refine y9 ?_ | refine y6 ?_ _)); refine y14 (cs := #[.int .i64 t274,.int .i64 0,.slice none 0 0]) ?_ 1 _ rfl; (with_reducible repeat (first | refine y10 ?_ _ | refine y9 ?_ | refine y6 ?_ _)); refine y14 (cs := #[.int .i64 0,.int .i64 0,.slice none 0 0]) ?_ 0 _ rfl; (with_reducible repeat (first | refine y10 ?_ _ | refine y9 ?_ | refine y6 ?_ _)); exact BK279.out) hb); replace HB := y0.mk (y5 qb hb); (try clear hb); (try clear hb2); (try clear hk); (try clear hi); (try clear ho0)) | ((with_reducible refine y18 (N := 10) rfl ?_); refine qe 10 #[.int .i64 0,.int .i64 0,.slice none 0 0] 28 ?_; intro gb286 hg w66 hbox hb; replace HO255 := y0.mk (Kd.R_below (qR HO255.out) hb); replace HO260 := y0.mk (Kd.R_below (qR HO260.out) hb); replace HO265 := y0.mk (Kd.R_below (qR HO265.out) hb); replace HO272 := y0.mk (Kd.R_below (qR HO272.out) hb); replace HO278 := y0.mk (Kd.R_below (qR HO278.out) hb); replace HO284 := y0.mk (Kd.R_below (qR HO284.out) hb); have BK286 := y0.mk (hbox); have GW286 := y0.mk (qg (w := w) hg); have GE286 := y0.mk (qg (w := w) hg); replace HB := y0.mk (y5 qb hb); have NB247_286 := y0.mk (qn BK247.out hg); have NB286_247 := y0.mk (qm BK247.out hg); replace BK247 := y0.mk (qK BK247.out hb); have NB248_286 := y0.mk (qn BK248.out hg); have NB286_248 := y0.mk (qm BK248.out hg); replace BK248 := y0.mk (qK BK248.out hb); have NB267_286 := y0.mk (qn BK267.out hg); have NB286_267 := y0.mk (qm BK267.out hg); replace BK267 := y0.mk (qK BK267.out hb); have NB273_286 := y0.mk (qn BK273.out hg); have NB286_273 := y0.mk (qm BK273.out hg); replace BK273 := y0.mk (qK BK273.out hb); have NB279_286 := y0.mk (qn BK279.out hg); have NB286_279 := y0.mk (qm BK279.out hg); replace BK279 := y0.mk (qK BK279.out hb); clear hb hbox hg; have hnb67 := NB286_247.out; have hnc67 := NB247_286.out; have hnb68 := NB286_248.out; have hnc68 := NB248_286.out; have hnb69 := NB286_267.out; have hnc69 := NB267_286.out; have hnb70 := NB286_273.out; have hnc70 := NB273_286.out; have hnb71 := NB286_279.out; have hnc71 := NB279_286.out; obtain ⟨hcz72_0,hcz72_1,hcz72_2,hfz72_0,hfz72_1,hfz72_2⟩ := qz3 BK286.out; obtain ⟨Ao73,co73,eo73⟩ := Kd.R_slice HO284.out; subst eo73))
   (try simp only [Act.put,qS_,qZ_,qC_])
   go_cut [53] (fun v53 wc => ∃ (kq : Nat) (x53_24 : Bool),v53 = .bool x53_24 ∧ y0 (laws_FnExactCompose.j0 kq t266 t285 x53_24 a0_0 a0_1 l0_2 a1_0 a1_1 l1_2 t261 t262 t263 t268 t269 t270 t274 t275 t276 t280 t281 t282 = some r) ∧ y0 (kq ≤ k) ∧ y0 (Kd.R k53 53 wc w.heap.size (fun k_ => some k_ ≠ ((.slice Ao53 t270.length co53) : Value).ownBlock ∧ some k_ ≠ ((.slice Ao63 t276.length co63) : Value).ownBlock ∧ some k_ ≠ ((.slice Ao73 t282.length co73) : Value).ownBlock) (.slice Ao43 t263.length co43) t263) ∧ y0 (Kd.R k53 53 wc w.heap.size (fun k_ => some k_ ≠ ((.slice Ao43 t263.length co43) : Value).ownBlock ∧ some k_ ≠ ((.slice Ao63 t276.length co63) : Value).ownBlock ∧ some k_ ≠ ((.slice Ao73 t282.length co73) : Value).ownBlock) (.slice Ao53 t270.length co53) t270) ∧ y0 (Kd.R k53 53 wc w.heap.size (fun k_ => some k_ ≠ ((.slice Ao43 t263.length co43) : Value).ownBlock ∧ some k_ ≠ ((.slice Ao53 t270.length co53) : Value).ownBlock ∧ some k_ ≠ ((.slice Ao73 t282.length co73) : Value).ownBlock) (.slice Ao63 t276.length co63) t276) ∧ y0 (Kd.R k53 53 wc w.heap.size (fun k_ => some k_ ≠ ((.slice Ao43 t263.length co43) : Value).ownBlock ∧ some k_ ≠ ((.slice Ao53 t270.length co53) : Value).ownBlock ∧ some k_ ≠ ((.slice Ao63 t276.length co63) : Value).ownBlock) (.slice Ao73 t282.length co73) t282) ∧ y0 (wc.heap[gb247]? = some (.cells #[.int .i64 a0_0,.int .i64 a0_1,(.slice A0_2 l0_2.length c0_2)] 24 (0,0))) ∧ y0 (wc.heap[gb248]? = some (.cells #[.int .i64 a1_0,.int .i64 a1_1,(.slice A1_2 l1_2.length c1_2)] 24 (0,0))) ∧ y0 (wc.heap[gb267]? = some (.cells #[.int .i64 t261,.int .i64 t262,(.slice Ao43 t263.length co43)] 28 (0,0))) ∧ y0 (wc.heap[gb273]? = some (.cells #[.int .i64 t268,.int .i64 t269,(.slice Ao53 t270.length co53)] 28 (0,0))) ∧ y0 (wc.heap[gb279]? = some (.cells #[.int .i64 t274,.int .i64 t275,(.slice Ao63 t276.length co63)] 28 (0,0))) ∧ y0 (wc.heap[gb286]? = some (.cells #[.int .i64 t280,.int .i64 t281,(.slice Ao73 t282.length co73)] 28 (0,0))) ∧ y0 (Below w.heap.size w wc))
   case first =>
    have H := HC25.out
    clear HC25
    obtain ⟨t287,A74,H⟩ := qB H
    by_cases c75 : t287 = true
    ·subst c75
     replace H := qT H
     have H' := y0.mk H
     clear H
     have hnb76 := NB286_247.out
     have hnc76 := NB247_286.out
     have hnb77 := NB286_248.out
     have hnc77 := NB248_286.out
     have hnb78 := NB286_267.out
     have hnc78 := NB267_286.out
     have hnb79 := NB286_273.out
     have hnc79 := NB273_286.out
     have hnb80 := NB286_279.out
     have hnc80 := NB279_286.out
     obtain ⟨hcz81_0,hcz81_1,hcz81_2,hfz81_0,hfz81_1,hfz81_2⟩ := qz3 BK286.out
     have hnb82 := NB267_247.out
     have hnc82 := NB247_267.out
     have hnb83 := NB267_248.out
     have hnc83 := NB248_267.out
     have hnb84 := NB267_273.out
     have hnc84 := NB273_267.out
     have hnb85 := NB267_279.out
     have hnc85 := NB279_267.out
     obtain ⟨hcz86_0,hcz86_1,hcz86_2,hfz86_0,hfz86_1,hfz86_2⟩ := qz3 BK267.out
     go_wp2_with (first | ((with_reducible refine y17 (f := 11) rfl ?_); refine goesL_ (some 47) rfl rfl Try.func11 (by kernel_rfl) rfl #[.agg #[.int .i64 t280,.int .i64 t281,.slice Ao73 t282.length co73],.agg #[.int .i64 t261,.int .i64 t262,.slice Ao43 t263.length co43]] rfl qy0 ?_; (with_reducible refine (laws_eqGraph.calls k t280 t281 _ _ t282 t261 t262 _ _ t263 true _ (by refine (Kd.R_reads' (e := 53) (base := w.heap.size) (ok := fun k_ => (((((True ∧ some k_ ≠ (v254 : Value).ownBlock) ∧ some k_ ≠ (v259 : Value).ownBlock) ∧ some k_ ≠ (.slice Ao43 t263.length co43 : Value).ownBlock) ∧ some k_ ≠ (.slice Ao53 t270.length co53 : Value).ownBlock) ∧ some k_ ≠ (.slice Ao63 t276.length co63 : Value).ownBlock)) (n := t282.length) (c := co73) ?_).2.2; exact (qR ((Kd.R_mono (Kd.R_far (p := ⟨gb286,2,none⟩) (Kd.R_far (p := ⟨gb286,1,none⟩) (Kd.R_far (p := ⟨gb286,0,none⟩) (Kd.R_types HO284.out BK286.out (by decide)) (fun _ hk => hk.2) (.int .i64 t280)) (fun _ hk => hk.2) (.int .i64 t281)) (fun _ hk => hk.2) (.slice Ao73 t282.length co73)) (fun _ h_ => h_.1))))) (by exact (Kd.R_reads' HO284.out).2.1) (by refine (Kd.R_reads' (e := 53) (base := w.heap.size) (ok := fun k_ => ((((some k_ ≠ (v254 : Value).ownBlock ∧ some k_ ≠ (v259 : Value).ownBlock) ∧ some k_ ≠ (.slice Ao53 t270.length co53 : Value).ownBlock) ∧ some k_ ≠ (.slice Ao63 t276.length co63 : Value).ownBlock) ∧ some k_ ≠ (.slice Ao73 t282.length co73 : Value).ownBlock)) (n := t263.length) (c := co43) ?_).2.2; exact (qR ((Kd.R_mono (Kd.R_far (p := ⟨gb286,2,none⟩) (Kd.R_far (p := ⟨gb286,1,none⟩) (Kd.R_far (p := ⟨gb286,0,none⟩) (Kd.R_types HO265.out BK286.out (by decide)) (fun _ hk => hk.2) (.int .i64 t280)) (fun _ hk => hk.2) (.int .i64 t281)) (fun _ hk => hk.2) (.slice Ao73 t282.length co73)) (fun _ h_ => h_.1))))) (by exact (Kd.R_reads' HO265.out).2.1) A74.out).mono ?_); rintro e w87 ⟨rfl,hb⟩; refine ⟨_,rfl, ?_⟩; replace HO255 := y0.mk (Kd.R_below (qR ((Kd.R_mono (Kd.R_far (p := ⟨gb286,2,none⟩) (Kd.R_far (p := ⟨gb286,1,none⟩) (Kd.R_far (p := ⟨gb286,0,none⟩) (Kd.R_types HO255.out BK286.out (by decide)) (fun _ hk => hk.2) (.int .i64 t280)) (fun _ hk => hk.2) (.int .i64 t281)) (fun _ hk => hk.2) (.slice Ao73 t282.length co73)) (fun _ h_ => h_.1)))) hb); replace HO260 := y0.mk (Kd.R_below (qR ((Kd.R_mono (Kd.R_far (p := ⟨gb286,2,none⟩) (Kd.R_far (p := ⟨gb286,1,none⟩) (Kd.R_far (p := ⟨gb286,0,none⟩) (Kd.R_types HO260.out BK286.out (by decide)) (fun _ hk => hk.2) (.int .i64 t280)) (fun _ hk => hk.2) (.int .i64 t281)) (fun _ hk => hk.2) (.slice Ao73 t282.length co73)) (fun _ h_ => h_.1)))) hb); replace HO265 := y0.mk (Kd.R_below (qR ((Kd.R_mono (Kd.R_far (p := ⟨gb286,2,none⟩) (Kd.R_far (p := ⟨gb286,1,none⟩) (Kd.R_far (p := ⟨gb286,0,none⟩) (Kd.R_types HO265.out BK286.out (by decide)) (fun _ hk => hk.2) (.int .i64 t280)) (fun _ hk => hk.2) (.int .i64 t281)) (fun _ hk => hk.2) (.slice Ao73 t282.length co73)) (fun _ h_ => h_.1)))) hb); replace HO272 := y0.mk (Kd.R_below (qR ((Kd.R_mono (Kd.R_far (p := ⟨gb286,2,none⟩) (Kd.R_far (p := ⟨gb286,1,none⟩) (Kd.R_far (p := ⟨gb286,0,none⟩) (Kd.R_types HO272.out BK286.out (by decide)) (fun _ hk => hk.2) (.int .i64 t280)) (fun _ hk => hk.2) (.int .i64 t281)) (fun _ hk => hk.2) (.slice Ao73 t282.length co73)) (fun _ h_ => h_.1)))) hb); replace HO278 := y0.mk (Kd.R_below (qR ((Kd.R_mono (Kd.R_far (p := ⟨gb286,2,none⟩) (Kd.R_far (p := ⟨gb286,1,none⟩) (Kd.R_far (p := ⟨gb286,0,none⟩) (Kd.R_types HO278.out BK286.out (by decide)) (fun _ hk => hk.2) (.int .i64 t280)) (fun _ hk => hk.2) (.int .i64 t281)) (fun _ hk => hk.2) (.slice Ao73 t282.length co73)) (fun _ h_ => h_.1)))) hb); replace HO284 := y0.mk (Kd.R_below (qR ((Kd.R_mono (Kd.R_far (p := ⟨gb286,2,none⟩) (Kd.R_far (p := ⟨gb286,1,none⟩) (Kd.R_far (p := ⟨gb286,0,none⟩) (Kd.R_types HO284.out BK286.out (by decide)) (fun _ hk => hk.2) (.int .i64 t280)) (fun _ hk => hk.2) (.int .i64 t281)) (fun _ hk => hk.2) (.slice Ao73 t282.length co73)) (fun _ h_ => h_.1)))) hb); replace BK247 := y0.mk (y7 (g := gb247) (o := .cells #[.int .i64 a0_0,.int .i64 a0_1,.slice A0_2 l0_2.length c0_2] 24 (0,0)) (by (with_reducible repeat (first | refine y10 ?_ _ | refine y9 ?_ | refine y6 ?_ _)); refine y11 ?_ NB247_286.out _; (with_reducible repeat (first | refine y10 ?_ _ | refine y9 ?_ | refine y6 ?_ _)); refine y11 ?_ NB247_286.out _; (with_reducible repeat (first | refine y10 ?_ _ | refine y9 ?_ | refine y6 ?_ _)); refine y11 ?_ NB247_286.out _; (with_reducible repeat (first | refine y10 ?_ _ | refine y9 ?_ | refine y6 ?_ _)); exact BK247.out) hb); replace BK248 := y0.mk (y7 (g := gb248) (o := .cells #[.int .i64 a1_0,.int .i64 a1_1,.slice A1_2 l1_2.length c1_2] 24 (0,0)) (by (with_reducible repeat (first | refine y10 ?_ _ | refine y9 ?_ | refine y6 ?_ _)); refine y11 ?_ NB248_286.out _; (with_reducible repeat (first | refine y10 ?_ _ | refine y9 ?_ | refine y6 ?_ _)); refine y11 ?_ NB248_286.out _; (with_reducible repeat (first | refine y10 ?_ _ | refine y9 ?_ | refine y6 ?_ _)); refine y11 ?_ NB248_286.out _; (with_reducible repeat (first | refine y10 ?_ _ | refine y9 ?_ | refine y6 ?_ _)); exact BK248.out) hb); replace BK267 := y0.mk (y7 (g := gb267) (o := .cells #[.int .i64 t261,.int .i64 t262,.slice Ao43 t263.length co43] 28 (0,0)) (by (with_reducible repeat (first | refine y10 ?_ _ | refine y9 ?_ | refine y6 ?_ _)); refine y11 ?_ NB267_286.out _; (with_reducible repeat (first | refine y10 ?_ _ | refine y9 ?_ | refine y6 ?_ _)); refine y11 ?_ NB267_286.out _; (with_reducible repeat (first | refine y10 ?_ _ | refine y9 ?_ | refine y6 ?_ _)); refine y11 ?_ NB267_286.out _; (with_reducible repeat (first | refine y10 ?_ _ | refine y9 ?_ | refine y6 ?_ _)); exact BK267.out) hb); replace BK273 := y0.mk (y7 (g := gb273) (o := .cells #[.int .i64 t268,.int .i64 t269,.slice Ao53 t270.length co53] 28 (0,0)) (by (with_reducible repeat (first | refine y10 ?_ _ | refine y9 ?_ | refine y6 ?_ _)); refine y11 ?_ NB273_286.out _; (with_reducible repeat (first | refine y10 ?_ _ | refine y9 ?_ | refine y6 ?_ _)); refine y11 ?_ NB273_286.out _; (with_reducible repeat (first | refine y10 ?_ _ | refine y9 ?_ | refine y6 ?_ _)); refine y11 ?_ NB273_286.out _; (with_reducible repeat (first | refine y10 ?_ _ | refine y9 ?_ | refine y6 ?_ _)); exact BK273.out) hb); replace BK279 := y0.mk (y7 (g := gb279) (o := .cells #[.int .i64 t274,.int .i64 t275,.slice Ao63 t276.length co63] 28 (0,0)) (by (with_reducible repeat (first | refine y10 ?_ _ | refine y9 ?_ | refine y6 ?_ _)); refine y11 ?_ NB279_286.out _; (with_reducible repeat (first | refine y10 ?_ _ | refine y9 ?_ | refine y6 ?_ _)); refine y11 ?_ NB279_286.out _; (with_reducible repeat (first | refine y10 ?_ _ | refine y9 ?_ | refine y6 ?_ _)); refine y11 ?_ NB279_286.out _; (with_reducible repeat (first | refine y10 ?_ _ | refine y9 ?_ | refine y6 ?_ _)); exact BK279.out) hb); replace BK286 := y0.mk (y7 (g := gb286) (o := .cells #[.int .i64 t280,.int .i64 t281,.slice Ao73 t282.length co73] 28 (0,0)) (by (with_reducible repeat (first | refine y10 ?_ _ | refine y9 ?_ | refine y6 ?_ _)); refine y14 (cs := #[.int .i64 t280,.int .i64 t281,.slice none 0 0]) ?_ 2 _ rfl; (with_reducible repeat (first | refine y10 ?_ _ | refine y9 ?_ | refine y6 ?_ _)); refine y14 (cs := #[.int .i64 t280,.int .i64 0,.slice none 0 0]) ?_ 1 _ rfl; (with_reducible repeat (first | refine y10 ?_ _ | refine y9 ?_ | refine y6 ?_ _)); refine y14 (cs := #[.int .i64 0,.int .i64 0,.slice none 0 0]) ?_ 0 _ rfl; (with_reducible repeat (first | refine y10 ?_ _ | refine y9 ?_ | refine y6 ?_ _)); exact BK286.out) hb); replace HB := y0.mk (y5 qb hb); (try clear hb); (try clear hb2); (try clear hk); (try clear hi)))
     go_meet
     exact ⟨_,((t285 != t266)),qy2,H',⟨by first | omega | exact Nat.le_refl _⟩,⟨qR (Kd.R_mono HO265.out (fun _ hk => ⟨hk.1.1.2,⟨hk.1.2,hk.2⟩⟩))⟩,⟨qR (Kd.R_mono HO272.out (fun _ hk => ⟨hk.1.1.2,⟨hk.1.2,hk.2⟩⟩))⟩,⟨qR (Kd.R_mono HO278.out (fun _ hk => ⟨hk.1.1.2,⟨hk.1.2,hk.2⟩⟩))⟩,⟨qR (Kd.R_mono HO284.out (fun _ hk => ⟨hk.1.1.2,⟨hk.1.2,hk.2⟩⟩))⟩,⟨qk BK247.out⟩,⟨qk BK248.out⟩,⟨qk BK267.out⟩,⟨qk BK273.out⟩,⟨qk BK279.out⟩,⟨qk BK286.out⟩,⟨qb⟩⟩
    ·replace c75 := Bool.eq_false_iff.mpr c75
     subst c75
     replace H := qF H
     have H' := y0.mk H
     clear H
     have hnb88 := NB286_247.out
     have hnc88 := NB247_286.out
     have hnb89 := NB286_248.out
     have hnc89 := NB248_286.out
     have hnb90 := NB286_267.out
     have hnc90 := NB267_286.out
     have hnb91 := NB286_273.out
     have hnc91 := NB273_286.out
     have hnb92 := NB286_279.out
     have hnc92 := NB279_286.out
     obtain ⟨hcz93_0,hcz93_1,hcz93_2,hfz93_0,hfz93_1,hfz93_2⟩ := qz3 BK286.out
     have hnb94 := NB267_247.out
     have hnc94 := NB247_267.out
     have hnb95 := NB267_248.out
     have hnc95 := NB248_267.out
     have hnb96 := NB267_273.out
     have hnc96 := NB273_267.out
     have hnb97 := NB267_279.out
     have hnc97 := NB279_267.out
     obtain ⟨hcz98_0,hcz98_1,hcz98_2,hfz98_0,hfz98_1,hfz98_2⟩ := qz3 BK267.out
     go_wp2_with (first | ((with_reducible refine y17 (f := 11) rfl ?_); refine goesL_ (some 47) rfl rfl Try.func11 (by kernel_rfl) rfl #[.agg #[.int .i64 t280,.int .i64 t281,.slice Ao73 t282.length co73],.agg #[.int .i64 t261,.int .i64 t262,.slice Ao43 t263.length co43]] rfl qy0 ?_; (with_reducible refine (laws_eqGraph.calls k t280 t281 _ _ t282 t261 t262 _ _ t263 false _ (by refine (Kd.R_reads' (e := 53) (base := w.heap.size) (ok := fun k_ => (((((True ∧ some k_ ≠ (v254 : Value).ownBlock) ∧ some k_ ≠ (v259 : Value).ownBlock) ∧ some k_ ≠ (.slice Ao43 t263.length co43 : Value).ownBlock) ∧ some k_ ≠ (.slice Ao53 t270.length co53 : Value).ownBlock) ∧ some k_ ≠ (.slice Ao63 t276.length co63 : Value).ownBlock)) (n := t282.length) (c := co73) ?_).2.2; exact (qR ((Kd.R_mono (Kd.R_far (p := ⟨gb286,2,none⟩) (Kd.R_far (p := ⟨gb286,1,none⟩) (Kd.R_far (p := ⟨gb286,0,none⟩) (Kd.R_types HO284.out BK286.out (by decide)) (fun _ hk => hk.2) (.int .i64 t280)) (fun _ hk => hk.2) (.int .i64 t281)) (fun _ hk => hk.2) (.slice Ao73 t282.length co73)) (fun _ h_ => h_.1))))) (by exact (Kd.R_reads' HO284.out).2.1) (by refine (Kd.R_reads' (e := 53) (base := w.heap.size) (ok := fun k_ => ((((some k_ ≠ (v254 : Value).ownBlock ∧ some k_ ≠ (v259 : Value).ownBlock) ∧ some k_ ≠ (.slice Ao53 t270.length co53 : Value).ownBlock) ∧ some k_ ≠ (.slice Ao63 t276.length co63 : Value).ownBlock) ∧ some k_ ≠ (.slice Ao73 t282.length co73 : Value).ownBlock)) (n := t263.length) (c := co43) ?_).2.2; exact (qR ((Kd.R_mono (Kd.R_far (p := ⟨gb286,2,none⟩) (Kd.R_far (p := ⟨gb286,1,none⟩) (Kd.R_far (p := ⟨gb286,0,none⟩) (Kd.R_types HO265.out BK286.out (by decide)) (fun _ hk => hk.2) (.int .i64 t280)) (fun _ hk => hk.2) (.int .i64 t281)) (fun _ hk => hk.2) (.slice Ao73 t282.length co73)) (fun _ h_ => h_.1))))) (by exact (Kd.R_reads' HO265.out).2.1) A74.out).mono ?_); rintro e w99 ⟨rfl,hb⟩; refine ⟨_,rfl, ?_⟩; replace HO255 := y0.mk (Kd.R_below (qR ((Kd.R_mono (Kd.R_far (p := ⟨gb286,2,none⟩) (Kd.R_far (p := ⟨gb286,1,none⟩) (Kd.R_far (p := ⟨gb286,0,none⟩) (Kd.R_types HO255.out BK286.out (by decide)) (fun _ hk => hk.2) (.int .i64 t280)) (fun _ hk => hk.2) (.int .i64 t281)) (fun _ hk => hk.2) (.slice Ao73 t282.length co73)) (fun _ h_ => h_.1)))) hb); replace HO260 := y0.mk (Kd.R_below (qR ((Kd.R_mono (Kd.R_far (p := ⟨gb286,2,none⟩) (Kd.R_far (p := ⟨gb286,1,none⟩) (Kd.R_far (p := ⟨gb286,0,none⟩) (Kd.R_types HO260.out BK286.out (by decide)) (fun _ hk => hk.2) (.int .i64 t280)) (fun _ hk => hk.2) (.int .i64 t281)) (fun _ hk => hk.2) (.slice Ao73 t282.length co73)) (fun _ h_ => h_.1)))) hb); replace HO265 := y0.mk (Kd.R_below (qR ((Kd.R_mono (Kd.R_far (p := ⟨gb286,2,none⟩) (Kd.R_far (p := ⟨gb286,1,none⟩) (Kd.R_far (p := ⟨gb286,0,none⟩) (Kd.R_types HO265.out BK286.out (by decide)) (fun _ hk => hk.2) (.int .i64 t280)) (fun _ hk => hk.2) (.int .i64 t281)) (fun _ hk => hk.2) (.slice Ao73 t282.length co73)) (fun _ h_ => h_.1)))) hb); replace HO272 := y0.mk (Kd.R_below (qR ((Kd.R_mono (Kd.R_far (p := ⟨gb286,2,none⟩) (Kd.R_far (p := ⟨gb286,1,none⟩) (Kd.R_far (p := ⟨gb286,0,none⟩) (Kd.R_types HO272.out BK286.out (by decide)) (fun _ hk => hk.2) (.int .i64 t280)) (fun _ hk => hk.2) (.int .i64 t281)) (fun _ hk => hk.2) (.slice Ao73 t282.length co73)) (fun _ h_ => h_.1)))) hb); replace HO278 := y0.mk (Kd.R_below (qR ((Kd.R_mono (Kd.R_far (p := ⟨gb286,2,none⟩) (Kd.R_far (p := ⟨gb286,1,none⟩) (Kd.R_far (p := ⟨gb286,0,none⟩) (Kd.R_types HO278.out BK286.out (by decide)) (fun _ hk => hk.2) (.int .i64 t280)) (fun _ hk => hk.2) (.int .i64 t281)) (fun _ hk => hk.2) (.slice Ao73 t282.length co73)) (fun _ h_ => h_.1)))) hb); replace HO284 := y0.mk (Kd.R_below (qR ((Kd.R_mono (Kd.R_far (p := ⟨gb286,2,none⟩) (Kd.R_far (p := ⟨gb286,1,none⟩) (Kd.R_far (p := ⟨gb286,0,none⟩) (Kd.R_types HO284.out BK286.out (by decide)) (fun _ hk => hk.2) (.int .i64 t280)) (fun _ hk => hk.2) (.int .i64 t281)) (fun _ hk => hk.2) (.slice Ao73 t282.length co73)) (fun _ h_ => h_.1)))) hb); replace BK247 := y0.mk (y7 (g := gb247) (o := .cells #[.int .i64 a0_0,.int .i64 a0_1,.slice A0_2 l0_2.length c0_2] 24 (0,0)) (by (with_reducible repeat (first | refine y10 ?_ _ | refine y9 ?_ | refine y6 ?_ _)); refine y11 ?_ NB247_286.out _; (with_reducible repeat (first | refine y10 ?_ _ | refine y9 ?_ | refine y6 ?_ _)); refine y11 ?_ NB247_286.out _; (with_reducible repeat (first | refine y10 ?_ _ | refine y9 ?_ | refine y6 ?_ _)); refine y11 ?_ NB247_286.out _; (with_reducible repeat (first | refine y10 ?_ _ | refine y9 ?_ | refine y6 ?_ _)); exact BK247.out) hb); replace BK248 := y0.mk (y7 (g := gb248) (o := .cells #[.int .i64 a1_0,.int .i64 a1_1,.slice A1_2 l1_2.length c1_2] 24 (0,0)) (by (with_reducible repeat (first | refine y10 ?_ _ | refine y9 ?_ | refine y6 ?_ _)); refine y11 ?_ NB248_286.out _; (with_reducible repeat (first | refine y10 ?_ _ | refine y9 ?_ | refine y6 ?_ _)); refine y11 ?_ NB248_286.out _; (with_reducible repeat (first | refine y10 ?_ _ | refine y9 ?_ | refine y6 ?_ _)); refine y11 ?_ NB248_286.out _; (with_reducible repeat (first | refine y10 ?_ _ | refine y9 ?_ | refine y6 ?_ _)); exact BK248.out) hb); replace BK267 := y0.mk (y7 (g := gb267) (o := .cells #[.int .i64 t261,.int .i64 t262,.slice Ao43 t263.length co43] 28 (0,0)) (by (with_reducible repeat (first | refine y10 ?_ _ | refine y9 ?_ | refine y6 ?_ _)); refine y11 ?_ NB267_286.out _; (with_reducible repeat (first | refine y10 ?_ _ | refine y9 ?_ | refine y6 ?_ _)); refine y11 ?_ NB267_286.out _; (with_reducible repeat (first | refine y10 ?_ _ | refine y9 ?_ | refine y6 ?_ _)); refine y11 ?_ NB267_286.out _; (with_reducible repeat (first | refine y10 ?_ _ | refine y9 ?_ | refine y6 ?_ _)); exact BK267.out) hb); replace BK273 := y0.mk (y7 (g := gb273) (o := .cells #[.int .i64 t268,.int .i64 t269,.slice Ao53 t270.length co53] 28 (0,0)) (by (with_reducible repeat (first | refine y10 ?_ _ | refine y9 ?_ | refine y6 ?_ _)); refine y11 ?_ NB273_286.out _; (with_reducible repeat (first | refine y10 ?_ _ | refine y9 ?_ | refine y6 ?_ _)); refine y11 ?_ NB273_286.out _; (with_reducible repeat (first | refine y10 ?_ _ | refine y9 ?_ | refine y6 ?_ _)); refine y11 ?_ NB273_286.out _; (with_reducible repeat (first | refine y10 ?_ _ | refine y9 ?_ | refine y6 ?_ _)); exact BK273.out) hb); replace BK279 := y0.mk (y7 (g := gb279) (o := .cells #[.int .i64 t274,.int .i64 t275,.slice Ao63 t276.length co63] 28 (0,0)) (by (with_reducible repeat (first | refine y10 ?_ _ | refine y9 ?_ | refine y6 ?_ _)); refine y11 ?_ NB279_286.out _; (with_reducible repeat (first | refine y10 ?_ _ | refine y9 ?_ | refine y6 ?_ _)); refine y11 ?_ NB279_286.out _; (with_reducible repeat (first | refine y10 ?_ _ | refine y9 ?_ | refine y6 ?_ _)); refine y11 ?_ NB279_286.out _; (with_reducible repeat (first | refine y10 ?_ _ | refine y9 ?_ | refine y6 ?_ _)); exact BK279.out) hb); replace BK286 := y0.mk (y7 (g := gb286) (o := .cells #[.int .i64 t280,.int .i64 t281,.slice Ao73 t282.length co73] 28 (0,0)) (by (with_reducible repeat (first | refine y10 ?_ _ | refine y9 ?_ | refine y6 ?_ _)); refine y14 (cs := #[.int .i64 t280,.int .i64 t281,.slice none 0 0]) ?_ 2 _ rfl; (with_reducible repeat (first | refine y10 ?_ _ | refine y9 ?_ | refine y6 ?_ _)); refine y14 (cs := #[.int .i64 t280,.int .i64 0,.slice none 0 0]) ?_ 1 _ rfl; (with_reducible repeat (first | refine y10 ?_ _ | refine y9 ?_ | refine y6 ?_ _)); refine y14 (cs := #[.int .i64 0,.int .i64 0,.slice none 0 0]) ?_ 0 _ rfl; (with_reducible repeat (first | refine y10 ?_ _ | refine y9 ?_ | refine y6 ?_ _)); exact BK286.out) hb); replace HB := y0.mk (y5 qb hb); (try clear hb); (try clear hb2); (try clear hk); (try clear hi)))
     go_meet
     exact ⟨_,(true),qy2,H',⟨by first | omega | exact Nat.le_refl _⟩,⟨qR (Kd.R_mono HO265.out (fun _ hk => ⟨hk.1.1.2,⟨hk.1.2,hk.2⟩⟩))⟩,⟨qR (Kd.R_mono HO272.out (fun _ hk => ⟨hk.1.1.2,⟨hk.1.2,hk.2⟩⟩))⟩,⟨qR (Kd.R_mono HO278.out (fun _ hk => ⟨hk.1.1.2,⟨hk.1.2,hk.2⟩⟩))⟩,⟨qR (Kd.R_mono HO284.out (fun _ hk => ⟨hk.1.1.2,⟨hk.1.2,hk.2⟩⟩))⟩,⟨qk BK247.out⟩,⟨qk BK248.out⟩,⟨qk BK267.out⟩,⟨qk BK273.out⟩,⟨qk BK279.out⟩,⟨qk BK286.out⟩,⟨qb⟩⟩
   case rest =>
    clear HC25
    (try clear hcz46_0 hcz46_1 hcz46_2 hcz52_0 hcz52_1 hcz52_2 hcz55_0 hcz55_1 hcz55_2 hcz62_0 hcz62_1 hcz62_2 hcz64_0 hcz64_1 hcz64_2 hcz72_0 hcz72_1 hcz72_2 hfz46_0 hfz46_1 hfz46_2 hfz52_0 hfz52_1 hfz52_2 hfz55_0 hfz55_1 hfz55_2 hfz62_0 hfz62_1 hfz62_2 hfz64_0 hfz64_1 hfz64_2 hfz72_0 hfz72_1 hfz72_2)
    obtain ⟨kq,x53_24,rfl,HA,HJ24,HO_268002,HO_274002,HO_280002,HO_287002,BK247,BK248,BK267,BK273,BK279,BK286,HB⟩ := hcut
    cases kq with
    | zero => exact absurd HA.out (by simp [laws_FnExactCompose.j0])
    | succ kj24 =>
     have H := HA.out
     clear HA
     simp only [laws_FnExactCompose.j0] at H
     by_cases c100 : x53_24 = true
     ·subst c100
      replace H := qT H
      exact absurd ((Option.some.inj H).trans htrue_) (by decide)
     ·replace c100 := Bool.eq_false_iff.mpr c100
      subst c100
      replace H := qF H
      obtain ⟨⟨t288,t289,t290⟩,A101,H⟩ := qB H
      replace H : ((laws_eqGraph.f kj24 t268 t269 t270 t288 t289 t290).bind fun t293 => (if t293 = true then ((laws_toGraph.f kj24 a1_0 a1_1 l1_2).bind fun bt294 => ((laws_eqGraph.f kj24 t274 t275 t276 bt294.1 bt294.2.1 bt294.2.2).bind fun t299 => (if t299 = true then ((laws_markGraph.f kj24 t268 t269 t270 1).bind fun bt300 => ((laws_markGraph.f kj24 t274 t275 t276 bt300.1).bind fun bt302 => (if bt302.1 < 0 then (laws_FnExactCompose.j1 kj24 t266 true a0_0 a0_1 l0_2 a1_0 a1_1 l1_2 t261 t262 t263 t280 t281 t282) else ((laws_eqGraph.f kj24 t280 t281 t282 t261 t262 t263).bind fun t304 => (if t304 = true then (laws_FnExactCompose.j1 kj24 t266 (t285 != t266) a0_0 a0_1 l0_2 a1_0 a1_1 l1_2 t261 t262 t263 t280 t281 t282) else (laws_FnExactCompose.j1 kj24 t266 true a0_0 a0_1 l0_2 a1_0 a1_1 l1_2 t261 t262 t263 t280 t281 t282)))))) else (some false)))) else (some false))) = some r := H
      obtain ⟨t293,A102,H⟩ := qB H
      by_cases c103 : t293 = true
      ·subst c103
       replace H := qT H
       obtain ⟨⟨t294,t295,t296⟩,A104,H⟩ := qB H
       replace H : ((laws_eqGraph.f kj24 t274 t275 t276 t294 t295 t296).bind fun t299 => (if t299 = true then ((laws_markGraph.f kj24 t268 t269 t270 1).bind fun bt300 => ((laws_markGraph.f kj24 t274 t275 t276 bt300.1).bind fun bt302 => (if bt302.1 < 0 then (laws_FnExactCompose.j1 kj24 t266 true a0_0 a0_1 l0_2 a1_0 a1_1 l1_2 t261 t262 t263 t280 t281 t282) else ((laws_eqGraph.f kj24 t280 t281 t282 t261 t262 t263).bind fun t304 => (if t304 = true then (laws_FnExactCompose.j1 kj24 t266 (t285 != t266) a0_0 a0_1 l0_2 a1_0 a1_1 l1_2 t261 t262 t263 t280 t281 t282) else (laws_FnExactCompose.j1 kj24 t266 true a0_0 a0_1 l0_2 a1_0 a1_1 l1_2 t261 t262 t263 t280 t281 t282)))))) else (some false))) = some r := H
       obtain ⟨t299,A105,H⟩ := qB H
       by_cases c106 : t299 = true
       ·subst c106
        replace H := qT H
        obtain ⟨⟨t300,t301⟩,A107,H⟩ := qB H
        replace H : ((laws_markGraph.f kj24 t274 t275 t276 t300).bind fun bt302 => (if bt302.1 < 0 then (laws_FnExactCompose.j1 kj24 t266 true a0_0 a0_1 l0_2 a1_0 a1_1 l1_2 t261 t262 t263 t280 t281 t282) else ((laws_eqGraph.f kj24 t280 t281 t282 t261 t262 t263).bind fun t304 => (if t304 = true then (laws_FnExactCompose.j1 kj24 t266 (t285 != t266) a0_0 a0_1 l0_2 a1_0 a1_1 l1_2 t261 t262 t263 t280 t281 t282) else (laws_FnExactCompose.j1 kj24 t266 true a0_0 a0_1 l0_2 a1_0 a1_1 l1_2 t261 t262 t263 t280 t281 t282))))) = some r := H
        obtain ⟨⟨t302,t303⟩,A108,H⟩ := qB H
        replace H : (if t302 < 0 then (laws_FnExactCompose.j1 kj24 t266 true a0_0 a0_1 l0_2 a1_0 a1_1 l1_2 t261 t262 t263 t280 t281 t282) else ((laws_eqGraph.f kj24 t280 t281 t282 t261 t262 t263).bind fun t304 => (if t304 = true then (laws_FnExactCompose.j1 kj24 t266 (t285 != t266) a0_0 a0_1 l0_2 a1_0 a1_1 l1_2 t261 t262 t263 t280 t281 t282) else (laws_FnExactCompose.j1 kj24 t266 true a0_0 a0_1 l0_2 a1_0 a1_1 l1_2 t261 t262 t263 t280 t281 t282)))) = some r := H
        have HC109 := y0.mk H
        clear H
        try go_wp2
        replace HO_268002 := y0.mk (Kd.R_drew HO_268002.out)
        replace HO_274002 := y0.mk (Kd.R_drew HO_274002.out)
        replace HO_280002 := y0.mk (Kd.R_drew HO_280002.out)
        replace HO_287002 := y0.mk (Kd.R_drew HO_287002.out)
        replace BK247 := y0.mk (y9 BK247.out)
        replace BK248 := y0.mk (y9 BK248.out)
        replace BK267 := y0.mk (y9 BK267.out)
        replace BK273 := y0.mk (y9 BK273.out)
        replace BK279 := y0.mk (y9 BK279.out)
        replace BK286 := y0.mk (y9 BK286.out)
        replace HB := y0.mk (y2 HB.out)
        refine start_ (n := 5) (S := fun w' => w'.cell? ⟨gb273,0,none⟩ = some (.int .i64 t268) ∧ w'.cell? ⟨gb273,1,none⟩ = some (.int .i64 t269) ∧ w'.cell? ⟨gb273,2,none⟩ = some (.slice Ao53 t270.length co53) ∧ w'.cell? ⟨gb247,0,none⟩ = some (.int .i64 a0_0) ∧ w'.cell? ⟨gb247,1,none⟩ = some (.int .i64 a0_1) ∧ w'.cell? ⟨gb247,2,none⟩ = some (.slice A0_2 l0_2.length c0_2)) (ds := []) #[false,false,false,false,false] (by kernel_rfl) rfl rfl ⟨(y8 BK273.out 0).trans rfl,(y8 BK273.out 1).trans rfl,(y8 BK273.out 2).trans rfl,(y8 BK247.out 0).trans rfl,(y8 BK247.out 1).trans rfl,(y8 BK247.out 2).trans rfl⟩ (fun hHeld => ?_)
        generalize wc.drew = w110 at HO_268002 HO_274002 HO_280002 HO_287002 BK247 BK248 BK267 BK273 BK279 BK286 HB hHeld ⊢
        refine take_ (i := 0) (N := some 54) (v := ?_) (a' := ?_) #[true,false,false,false,false] rfl rfl (by kernel_rfl) (fun _ _ _ h => h) (Or.inl ⟨by rfl, ?_⟩) hHeld ?_ ?_
        rotate_left
        ·rintro w' ⟨s0,s1,s2,s3,s4,s5⟩
         go_simp
         with_reducible rfl
        rotate_left
        ·simp only [Act.put,qS_,qZ_,qC_,y20,y19]
         rfl
        refine take_ (i := 1) (N := some 55) (v := ?_) (a' := ?_) #[true,true,false,false,false] rfl rfl (by kernel_rfl) (fun _ _ _ h => h) (Or.inl ⟨by rfl, ?_⟩) hHeld ?_ ?_
        rotate_left
        ·rintro w' ⟨s0,s1,s2,s3,s4,s5⟩
         go_simp
         with_reducible rfl
        rotate_left
        ·simp only [Act.put,qS_,qZ_,qC_,y20,y19]
         rfl
        refine one_ (i := 2) (N := some 56) #[true,true,true,false,false] rfl rfl (by kernel_rfl) (by decide) (fun K hK => ?_)
        refine goes_ Try.func9 (by kernel_rfl) rfl #[.agg #[.int .i64 a0_0,.int .i64 a0_1,.slice A0_2 l0_2.length c0_2]] (by rfl) rfl rfl qy0 ?_
        with_reducible refine (laws_toGraph.calls kj24 a0_0 a0_1 _ _ l0_2 t288 t289 t290 _ (qc (Kd.C_below HR0_2.out HB.out)) HC0_2.out A101.out).mono ?_
        rintro e w111 ⟨v291,rfl,ho0,hb⟩
        refine ⟨_,rfl, ?_⟩
        have HO292 := y0.mk (Kd.R_lower (Kd.R_new' (Kd.R_new' (Kd.R_new' (Kd.R_new' ho0 (Kd.R_lt (qR HO_268002.out))) (Kd.R_lt (qR HO_274002.out))) (Kd.R_lt (qR HO_280002.out))) (Kd.R_lt (qR HO_287002.out))) (y4 qb))
        replace HO_268002 := y0.mk (Kd.R_elder' (qR HO_268002.out) (Kd.R_base ho0) hb)
        replace HO_274002 := y0.mk (Kd.R_elder' (qR HO_274002.out) (Kd.R_base ho0) hb)
        replace HO_280002 := y0.mk (Kd.R_elder' (qR HO_280002.out) (Kd.R_base ho0) hb)
        replace HO_287002 := y0.mk (Kd.R_elder' (qR HO_287002.out) (Kd.R_base ho0) hb)
        replace BK247 := y0.mk (qK BK247.out hb)
        replace BK248 := y0.mk (qK BK248.out hb)
        replace BK267 := y0.mk (qK BK267.out hb)
        replace BK273 := y0.mk (qK BK273.out hb)
        replace BK279 := y0.mk (qK BK279.out hb)
        replace BK286 := y0.mk (qK BK286.out hb)
        replace HB := y0.mk (y5 qb hb)
        (try clear hb)
        (try clear hb2)
        (try clear hk)
        (try clear hi)
        (try clear ho0)
        obtain ⟨Ao112,co112,eo112⟩ := Kd.R_slice HO292.out
        (first | subst eo112 | (injection eo112 with f1_ f2_ f3_; have f4_ := f1_.symm; have f5_ := f3_.symm; clear f1_ f2_ f3_; subst f4_; subst f5_))
        refine hK.out _ _ ⟨(y8 BK273.out 0).trans rfl,(y8 BK273.out 1).trans rfl,(y8 BK273.out 2).trans rfl,(y8 BK247.out 0).trans rfl,(y8 BK247.out 1).trans rfl,(y8 BK247.out 2).trans rfl⟩ (fun hHeld => ?_)
        clear hK K
        refine norm_ (a' := ?_) ?_ ?_
        rotate_left
        ·show Act.put _ (some 56) _ = _
         simp only [Act.put,qS_,qZ_,qC_,y20,y19]
         rfl
        refine one_ (i := 3) (N := some 57) #[true,true,true,true,false] rfl rfl (by kernel_rfl) (by decide) (fun K hK => ?_)
        refine goes_ Try.func11 (by kernel_rfl) rfl #[.agg #[.int .i64 t268,.int .i64 t269,.slice Ao53 t270.length co53],.agg #[.int .i64 t288,.int .i64 t289,.slice Ao112 t290.length co112]] (by rfl) rfl rfl qy0 ?_
        with_reducible refine (laws_eqGraph.calls kj24 t268 t269 _ _ t270 t288 t289 _ _ t290 true _ (qc ((Kd.R_reads' HO_274002.out).2.2)) (by exact (Kd.R_reads' HO_274002.out).2.1) (qc ((Kd.R_reads' HO292.out).2.2)) (by exact (Kd.R_reads' HO292.out).2.1) A102.out).mono ?_
        rintro e w113 ⟨rfl,hb⟩
        refine ⟨_,rfl, ?_⟩
        replace HO_268002 := y0.mk (Kd.R_below (qR HO_268002.out) hb)
        replace HO_274002 := y0.mk (Kd.R_below (qR HO_274002.out) hb)
        replace HO_280002 := y0.mk (Kd.R_below (qR HO_280002.out) hb)
        replace HO_287002 := y0.mk (Kd.R_below (qR HO_287002.out) hb)
        replace HO292 := y0.mk (Kd.R_below (qR HO292.out) hb)
        replace BK247 := y0.mk (qK BK247.out hb)
        replace BK248 := y0.mk (qK BK248.out hb)
        replace BK267 := y0.mk (qK BK267.out hb)
        replace BK273 := y0.mk (qK BK273.out hb)
        replace BK279 := y0.mk (qK BK279.out hb)
        replace BK286 := y0.mk (qK BK286.out hb)
        replace HB := y0.mk (y5 qb hb)
        (try clear hb)
        (try clear hb2)
        (try clear hk)
        (try clear hi)
        refine hK.out _ _ ⟨(y8 BK273.out 0).trans rfl,(y8 BK273.out 1).trans rfl,(y8 BK273.out 2).trans rfl,(y8 BK247.out 0).trans rfl,(y8 BK247.out 1).trans rfl,(y8 BK247.out 2).trans rfl⟩ (fun hHeld => ?_)
        clear hK K
        refine norm_ (a' := ?_) ?_ ?_
        rotate_left
        ·show Act.put _ (some 57) _ = _
         simp only [Act.put,qS_,qZ_,qC_,y20,y19]
         rfl
        refine pure_ (i := 4) (N := some 58) (v := ?_) (a' := ?_) #[true,true,true,true,true] rfl rfl (by kernel_rfl) (fun _ _ _ h => h) (Or.inl ⟨by rfl, ?_⟩) ?_ ?_
        rotate_left
        ·intro w'
         go_simp
         with_reducible rfl
        rotate_left
        ·simp only [Act.put,qS_,qZ_,qC_,y20,y19]
         rfl
        refine done_ (by kernel_rfl) ?_
        try go_wp2
        replace HO_268002 := y0.mk (Kd.R_drew HO_268002.out)
        replace HO_274002 := y0.mk (Kd.R_drew HO_274002.out)
        replace HO_280002 := y0.mk (Kd.R_drew HO_280002.out)
        replace HO_287002 := y0.mk (Kd.R_drew HO_287002.out)
        replace HO292 := y0.mk (Kd.R_drew HO292.out)
        replace BK247 := y0.mk (y9 BK247.out)
        replace BK248 := y0.mk (y9 BK248.out)
        replace BK267 := y0.mk (y9 BK267.out)
        replace BK273 := y0.mk (y9 BK273.out)
        replace BK279 := y0.mk (y9 BK279.out)
        replace BK286 := y0.mk (y9 BK286.out)
        replace HB := y0.mk (y2 HB.out)
        refine start_ (n := 5) (S := fun w' => w'.cell? ⟨gb279,0,none⟩ = some (.int .i64 t274) ∧ w'.cell? ⟨gb279,1,none⟩ = some (.int .i64 t275) ∧ w'.cell? ⟨gb279,2,none⟩ = some (.slice Ao63 t276.length co63) ∧ w'.cell? ⟨gb248,0,none⟩ = some (.int .i64 a1_0) ∧ w'.cell? ⟨gb248,1,none⟩ = some (.int .i64 a1_1) ∧ w'.cell? ⟨gb248,2,none⟩ = some (.slice A1_2 l1_2.length c1_2)) (ds := []) #[false,false,false,false,false] (by kernel_rfl) rfl rfl ⟨(y8 BK279.out 0).trans rfl,(y8 BK279.out 1).trans rfl,(y8 BK279.out 2).trans rfl,(y8 BK248.out 0).trans rfl,(y8 BK248.out 1).trans rfl,(y8 BK248.out 2).trans rfl⟩ (fun hHeld => ?_)
        generalize w113.drew = w114 at HO_268002 HO_274002 HO_280002 HO_287002 HO292 BK247 BK248 BK267 BK273 BK279 BK286 HB hHeld ⊢
        refine take_ (i := 0) (N := some 59) (v := ?_) (a' := ?_) #[true,false,false,false,false] rfl rfl (by kernel_rfl) (fun _ _ _ h => h) (Or.inl ⟨by rfl, ?_⟩) hHeld ?_ ?_
        rotate_left
        ·rintro w' ⟨s0,s1,s2,s3,s4,s5⟩
         go_simp
         with_reducible rfl
        rotate_left
        ·simp only [Act.put,qS_,qZ_,qC_,y20,y19]
         rfl
        refine take_ (i := 1) (N := some 60) (v := ?_) (a' := ?_) #[true,true,false,false,false] rfl rfl (by kernel_rfl) (fun _ _ _ h => h) (Or.inl ⟨by rfl, ?_⟩) hHeld ?_ ?_
        rotate_left
        ·rintro w' ⟨s0,s1,s2,s3,s4,s5⟩
         go_simp
         with_reducible rfl
        rotate_left
        ·simp only [Act.put,qS_,qZ_,qC_,y20,y19]
         rfl
        refine one_ (i := 2) (N := some 61) #[true,true,true,false,false] rfl rfl (by kernel_rfl) (by decide) (fun K hK => ?_)
        refine goes_ Try.func9 (by kernel_rfl) rfl #[.agg #[.int .i64 a1_0,.int .i64 a1_1,.slice A1_2 l1_2.length c1_2]] (by rfl) rfl rfl qy0 ?_
        with_reducible refine (laws_toGraph.calls kj24 a1_0 a1_1 _ _ l1_2 t294 t295 t296 _ (qc (Kd.C_below HR1_2.out HB.out)) HC1_2.out A104.out).mono ?_
        rintro e w115 ⟨v297,rfl,ho0,hb⟩
        refine ⟨_,rfl, ?_⟩
        have HO298 := y0.mk (Kd.R_lower (Kd.R_new' (Kd.R_new' (Kd.R_new' (Kd.R_new' (Kd.R_new' ho0 (Kd.R_lt (qR HO_268002.out))) (Kd.R_lt (qR HO_274002.out))) (Kd.R_lt (qR HO_280002.out))) (Kd.R_lt (qR HO_287002.out))) (Kd.R_lt (qR HO292.out))) (y4 qb))
        replace HO_268002 := y0.mk (Kd.R_elder' (qR HO_268002.out) (Kd.R_base ho0) hb)
        replace HO_274002 := y0.mk (Kd.R_elder' (qR HO_274002.out) (Kd.R_base ho0) hb)
        replace HO_280002 := y0.mk (Kd.R_elder' (qR HO_280002.out) (Kd.R_base ho0) hb)
        replace HO_287002 := y0.mk (Kd.R_elder' (qR HO_287002.out) (Kd.R_base ho0) hb)
        replace HO292 := y0.mk (Kd.R_elder' (qR HO292.out) (Kd.R_base ho0) hb)
        replace BK247 := y0.mk (qK BK247.out hb)
        replace BK248 := y0.mk (qK BK248.out hb)
        replace BK267 := y0.mk (qK BK267.out hb)
        replace BK273 := y0.mk (qK BK273.out hb)
        replace BK279 := y0.mk (qK BK279.out hb)
        replace BK286 := y0.mk (qK BK286.out hb)
        replace HB := y0.mk (y5 qb hb)
        (try clear hb)
        (try clear hb2)
        (try clear hk)
        (try clear hi)
        (try clear ho0)
        obtain ⟨Ao116,co116,eo116⟩ := Kd.R_slice HO298.out
        (first | subst eo116 | (injection eo116 with f1_ f2_ f3_; have f4_ := f1_.symm; have f5_ := f3_.symm; clear f1_ f2_ f3_; subst f4_; subst f5_))
        refine hK.out _ _ ⟨(y8 BK279.out 0).trans rfl,(y8 BK279.out 1).trans rfl,(y8 BK279.out 2).trans rfl,(y8 BK248.out 0).trans rfl,(y8 BK248.out 1).trans rfl,(y8 BK248.out 2).trans rfl⟩ (fun hHeld => ?_)
        clear hK K
        refine norm_ (a' := ?_) ?_ ?_
        rotate_left
        ·show Act.put _ (some 61) _ = _
         simp only [Act.put,qS_,qZ_,qC_,y20,y19]
         rfl
        refine one_ (i := 3) (N := some 62) #[true,true,true,true,false] rfl rfl (by kernel_rfl) (by decide) (fun K hK => ?_)
        refine goes_ Try.func11 (by kernel_rfl) rfl #[.agg #[.int .i64 t274,.int .i64 t275,.slice Ao63 t276.length co63],.agg #[.int .i64 t294,.int .i64 t295,.slice Ao116 t296.length co116]] (by rfl) rfl rfl qy0 ?_
        with_reducible refine (laws_eqGraph.calls kj24 t274 t275 _ _ t276 t294 t295 _ _ t296 true _ (qc ((Kd.R_reads' HO_280002.out).2.2)) (by exact (Kd.R_reads' HO_280002.out).2.1) (qc ((Kd.R_reads' HO298.out).2.2)) (by exact (Kd.R_reads' HO298.out).2.1) A105.out).mono ?_
        rintro e w117 ⟨rfl,hb⟩
        refine ⟨_,rfl, ?_⟩
        replace HO_268002 := y0.mk (Kd.R_below (qR HO_268002.out) hb)
        replace HO_274002 := y0.mk (Kd.R_below (qR HO_274002.out) hb)
        replace HO_280002 := y0.mk (Kd.R_below (qR HO_280002.out) hb)
        replace HO_287002 := y0.mk (Kd.R_below (qR HO_287002.out) hb)
        replace HO292 := y0.mk (Kd.R_below (qR HO292.out) hb)
        replace HO298 := y0.mk (Kd.R_below (qR HO298.out) hb)
        replace BK247 := y0.mk (qK BK247.out hb)
        replace BK248 := y0.mk (qK BK248.out hb)
        replace BK267 := y0.mk (qK BK267.out hb)
        replace BK273 := y0.mk (qK BK273.out hb)
        replace BK279 := y0.mk (qK BK279.out hb)
        replace BK286 := y0.mk (qK BK286.out hb)
        replace HB := y0.mk (y5 qb hb)
        (try clear hb)
        (try clear hb2)
        (try clear hk)
        (try clear hi)
        refine hK.out _ _ ⟨(y8 BK279.out 0).trans rfl,(y8 BK279.out 1).trans rfl,(y8 BK279.out 2).trans rfl,(y8 BK248.out 0).trans rfl,(y8 BK248.out 1).trans rfl,(y8 BK248.out 2).trans rfl⟩ (fun hHeld => ?_)
        clear hK K
        refine norm_ (a' := ?_) ?_ ?_
        rotate_left
        ·show Act.put _ (some 62) _ = _
         simp only [Act.put,qS_,qZ_,qC_,y20,y19]
         rfl
        refine pure_ (i := 4) (N := some 63) (v := ?_) (a' := ?_) #[true,true,true,true,true] rfl rfl (by kernel_rfl) (fun _ _ _ h => h) (Or.inl ⟨by rfl, ?_⟩) ?_ ?_
        rotate_left
        ·intro w'
         go_simp
         with_reducible rfl
        rotate_left
        ·simp only [Act.put,qS_,qZ_,qC_,y20,y19]
         rfl
        refine done_ (by kernel_rfl) ?_
        have hnb118 := NB273_247.out
        have hnc118 := NB247_273.out
        have hnb119 := NB273_248.out
        have hnc119 := NB248_273.out
        have hnb120 := NB273_267.out
        have hnc120 := NB267_273.out
        have hnb121 := NB273_279.out
        have hnc121 := NB279_273.out
        have hnb122 := NB273_286.out
        have hnc122 := NB286_273.out
        obtain ⟨hcz123_0,hcz123_1,hcz123_2,hfz123_0,hfz123_1,hfz123_2⟩ := qz3 BK273.out
        go_upto_region 21 with (first | ((with_reducible refine y17 (f := 12) rfl ?_); refine goesL_ (some 66) rfl rfl Try.func12 (by kernel_rfl) rfl #[.agg #[.int .i64 t268,.int .i64 t269,.slice Ao53 t270.length co53],.int .i64 1] rfl qy0 ?_; (with_reducible refine (laws_markGraph.calls kj24 t268 t269 (fun k_ => some k_ = (.slice Ao53 t270.length co53 : Value).ownBlock) (.slice Ao53 t270.length co53) t270 1 t300 t301 w _ (by repeat (first | (with_reducible first | exact HB.out | apply y1 | apply y21 | apply y2 | refine y3 ?_ GE247.out | refine y3 ?_ GE248.out | refine y3 ?_ GE267.out | refine y3 ?_ GE273.out | refine y3 ?_ GE279.out | refine y3 ?_ GE286.out) | exact HB.out)) (by exact Kd.R_tight rfl HO_274002.out) A107.out).mono ?_); rintro e w124 ⟨rfl,hy0,hb,hkp⟩; refine ⟨_,rfl, ?_⟩; replace HO_268002 := y0.mk (Kd.R_mono (ok' := fun k_ => some k_ ≠ (.slice Ao53 t270.length co53 : Value).ownBlock ∧ some k_ ≠ (.slice Ao63 t276.length co63 : Value).ownBlock ∧ some k_ ≠ (.slice Ao73 t282.length co73 : Value).ownBlock ∧ some k_ ≠ (.slice Ao112 t290.length co112 : Value).ownBlock ∧ some k_ ≠ (.slice Ao116 t296.length co116 : Value).ownBlock) (Kd.R_keptB (HO_268002.out) hkp (fun k_ hk_ hs_ => (hk_.1.1.1) hs_)) (fun k_ hk_ => ⟨hk_.1.1.1.1,hk_.1.1.1.2.1,hk_.1.1.1.2.2,hk_.1.1.2,hk_.1.2⟩)); replace HO_280002 := y0.mk (Kd.R_mono (ok' := fun k_ => some k_ ≠ (.slice Ao43 t263.length co43 : Value).ownBlock ∧ some k_ ≠ (.slice Ao53 t270.length co53 : Value).ownBlock ∧ some k_ ≠ (.slice Ao73 t282.length co73 : Value).ownBlock ∧ some k_ ≠ (.slice Ao112 t290.length co112 : Value).ownBlock ∧ some k_ ≠ (.slice Ao116 t296.length co116 : Value).ownBlock) (Kd.R_keptB (HO_280002.out) hkp (fun k_ hk_ hs_ => (hk_.1.1.2.1) hs_)) (fun k_ hk_ => ⟨hk_.1.1.1.1,hk_.1.1.1.2.1,hk_.1.1.1.2.2,hk_.1.1.2,hk_.1.2⟩)); replace HO_287002 := y0.mk (Kd.R_mono (ok' := fun k_ => some k_ ≠ (.slice Ao43 t263.length co43 : Value).ownBlock ∧ some k_ ≠ (.slice Ao53 t270.length co53 : Value).ownBlock ∧ some k_ ≠ (.slice Ao63 t276.length co63 : Value).ownBlock ∧ some k_ ≠ (.slice Ao112 t290.length co112 : Value).ownBlock ∧ some k_ ≠ (.slice Ao116 t296.length co116 : Value).ownBlock) (Kd.R_keptB (HO_287002.out) hkp (fun k_ hk_ hs_ => (hk_.1.1.2.1) hs_)) (fun k_ hk_ => ⟨hk_.1.1.1.1,hk_.1.1.1.2.1,hk_.1.1.1.2.2,hk_.1.1.2,hk_.1.2⟩)); replace BK247 := y0.mk (blk_kept (qk BK247.out) hkp (fun hs_ => (fun e_ => (Kd.R_ne HO_274002.out BK247.out (by decide)) e_) hs_)); replace BK248 := y0.mk (blk_kept (qk BK248.out) hkp (fun hs_ => (fun e_ => (Kd.R_ne HO_274002.out BK248.out (by decide)) e_) hs_)); replace BK267 := y0.mk (blk_kept (qk BK267.out) hkp (fun hs_ => (fun e_ => (Kd.R_ne HO_274002.out BK267.out (by decide)) e_) hs_)); replace BK273 := y0.mk (blk_kept (qk BK273.out) hkp (fun hs_ => (fun e_ => (Kd.R_ne HO_274002.out BK273.out (by decide)) e_) hs_)); replace BK279 := y0.mk (blk_kept (qk BK279.out) hkp (fun hs_ => (fun e_ => (Kd.R_ne HO_274002.out BK279.out (by decide)) e_) hs_)); replace BK286 := y0.mk (blk_kept (qk BK286.out) hkp (fun hs_ => (fun e_ => (Kd.R_ne HO_274002.out BK286.out (by decide)) e_) hs_)); replace HO_274002 := y0.mk (Kd.R_reok rfl hy0 (fun k_ e_ => HO_274002.out.1 k_ e_)); replace HO292 := y0.mk (Kd.R_mono (ok' := fun k_ => some k_ ≠ (.slice Ao43 t263.length co43 : Value).ownBlock ∧ some k_ ≠ (.slice Ao53 t270.length co53 : Value).ownBlock ∧ some k_ ≠ (.slice Ao63 t276.length co63 : Value).ownBlock ∧ some k_ ≠ (.slice Ao73 t282.length co73 : Value).ownBlock ∧ some k_ ≠ (.slice Ao116 t296.length co116 : Value).ownBlock) (Kd.R_keptB (HO292.out) hkp (fun k_ hk_ hs_ => (hk_.1.1.1.2) hs_)) (fun k_ hk_ => ⟨hk_.1.1.1.1.1.2,hk_.1.1.1.1.2,hk_.1.1.1.2,hk_.1.1.2,hk_.1.2⟩)); replace HO298 := y0.mk (Kd.R_mono (ok' := fun k_ => some k_ ≠ (.slice Ao43 t263.length co43 : Value).ownBlock ∧ some k_ ≠ (.slice Ao53 t270.length co53 : Value).ownBlock ∧ some k_ ≠ (.slice Ao63 t276.length co63 : Value).ownBlock ∧ some k_ ≠ (.slice Ao73 t282.length co73 : Value).ownBlock ∧ some k_ ≠ (.slice Ao112 t290.length co112 : Value).ownBlock) (Kd.R_keptB (HO298.out) hkp (fun k_ hk_ hs_ => (hk_.1.1.1.2) hs_)) (fun k_ hk_ => ⟨hk_.1.1.1.1.1.2,hk_.1.1.1.1.2,hk_.1.1.1.2,hk_.1.1.2,hk_.1.2⟩)); replace HB := y0.mk (hb); (try clear hb); (try clear hkp); (try clear hy0); have hnb125 := NB279_247.out; have hnc125 := NB247_279.out; have hnb126 := NB279_248.out; have hnc126 := NB248_279.out; have hnb127 := NB279_267.out; have hnc127 := NB267_279.out; have hnb128 := NB279_286.out; have hnc128 := NB286_279.out; obtain ⟨hcz129_0,hcz129_1,hcz129_2,hfz129_0,hfz129_1,hfz129_2⟩ := qz3 BK279.out) | ((with_reducible refine y17 (f := 12) rfl ?_); refine goesL_ (some 69) rfl rfl Try.func12 (by kernel_rfl) rfl #[.agg #[.int .i64 t274,.int .i64 t275,.slice Ao63 t276.length co63],.int .i64 t300] rfl qy0 ?_; (with_reducible refine (laws_markGraph.calls kj24 t274 t275 (fun k_ => some k_ = (.slice Ao63 t276.length co63 : Value).ownBlock) (.slice Ao63 t276.length co63) t276 t300 t302 t303 w _ (by repeat (first | (with_reducible first | exact HB.out | apply y1 | apply y21 | apply y2 | refine y3 ?_ GE247.out | refine y3 ?_ GE248.out | refine y3 ?_ GE267.out | refine y3 ?_ GE273.out | refine y3 ?_ GE279.out | refine y3 ?_ GE286.out) | exact HB.out)) (by exact Kd.R_tight rfl HO_280002.out) A108.out).mono ?_); rintro e w130 ⟨rfl,hy0,hb,hkp⟩; refine ⟨_,rfl, ?_⟩; replace HO_268002 := y0.mk (Kd.R_mono (ok' := fun k_ => some k_ ≠ (.slice Ao53 t270.length co53 : Value).ownBlock ∧ some k_ ≠ (.slice Ao63 t276.length co63 : Value).ownBlock ∧ some k_ ≠ (.slice Ao73 t282.length co73 : Value).ownBlock ∧ some k_ ≠ (.slice Ao112 t290.length co112 : Value).ownBlock ∧ some k_ ≠ (.slice Ao116 t296.length co116 : Value).ownBlock) (Kd.R_keptB (HO_268002.out) hkp (fun k_ hk_ hs_ => (hk_.2.1) hs_)) (fun k_ hk_ => ⟨hk_.1.1,hk_.1.2.1,hk_.1.2.2.1,hk_.1.2.2.2.1,hk_.1.2.2.2.2⟩)); replace HO_274002 := y0.mk (Kd.R_mono (ok' := fun k_ => some k_ ≠ (.slice Ao43 t263.length co43 : Value).ownBlock ∧ some k_ ≠ (.slice Ao63 t276.length co63 : Value).ownBlock ∧ some k_ ≠ (.slice Ao73 t282.length co73 : Value).ownBlock ∧ some k_ ≠ (.slice Ao112 t290.length co112 : Value).ownBlock ∧ some k_ ≠ (.slice Ao116 t296.length co116 : Value).ownBlock) (Kd.R_keptB (HO_274002.out) hkp (fun k_ hk_ hs_ => (hk_.1.1.2.1) hs_)) (fun k_ hk_ => ⟨hk_.1.1.1.1,hk_.1.1.1.2.1,hk_.1.1.1.2.2,hk_.1.1.2,hk_.1.2⟩)); replace HO_287002 := y0.mk (Kd.R_mono (ok' := fun k_ => some k_ ≠ (.slice Ao43 t263.length co43 : Value).ownBlock ∧ some k_ ≠ (.slice Ao53 t270.length co53 : Value).ownBlock ∧ some k_ ≠ (.slice Ao63 t276.length co63 : Value).ownBlock ∧ some k_ ≠ (.slice Ao112 t290.length co112 : Value).ownBlock ∧ some k_ ≠ (.slice Ao116 t296.length co116 : Value).ownBlock) (Kd.R_keptB (HO_287002.out) hkp (fun k_ hk_ hs_ => (hk_.2.2.1) hs_)) (fun k_ hk_ => ⟨hk_.1.1,hk_.1.2.1,hk_.1.2.2.1,hk_.1.2.2.2.1,hk_.1.2.2.2.2⟩)); replace BK247 := y0.mk (blk_kept (qk BK247.out) hkp (fun hs_ => (fun e_ => (Kd.R_ne HO_280002.out BK247.out (by decide)) e_) hs_)); replace BK248 := y0.mk (blk_kept (qk BK248.out) hkp (fun hs_ => (fun e_ => (Kd.R_ne HO_280002.out BK248.out (by decide)) e_) hs_)); replace BK267 := y0.mk (blk_kept (qk BK267.out) hkp (fun hs_ => (fun e_ => (Kd.R_ne HO_280002.out BK267.out (by decide)) e_) hs_)); replace BK273 := y0.mk (blk_kept (qk BK273.out) hkp (fun hs_ => (fun e_ => (Kd.R_ne HO_280002.out BK273.out (by decide)) e_) hs_)); replace BK279 := y0.mk (blk_kept (qk BK279.out) hkp (fun hs_ => (fun e_ => (Kd.R_ne HO_280002.out BK279.out (by decide)) e_) hs_)); replace BK286 := y0.mk (blk_kept (qk BK286.out) hkp (fun hs_ => (fun e_ => (Kd.R_ne HO_280002.out BK286.out (by decide)) e_) hs_)); replace HO_280002 := y0.mk (Kd.R_reok rfl hy0 (fun k_ e_ => HO_280002.out.1 k_ e_)); replace HO292 := y0.mk (Kd.R_mono (ok' := fun k_ => some k_ ≠ (.slice Ao43 t263.length co43 : Value).ownBlock ∧ some k_ ≠ (.slice Ao53 t270.length co53 : Value).ownBlock ∧ some k_ ≠ (.slice Ao63 t276.length co63 : Value).ownBlock ∧ some k_ ≠ (.slice Ao73 t282.length co73 : Value).ownBlock ∧ some k_ ≠ (.slice Ao116 t296.length co116 : Value).ownBlock) (Kd.R_keptB (HO292.out) hkp (fun k_ hk_ hs_ => (hk_.2.2.1) hs_)) (fun k_ hk_ => ⟨hk_.1.1,hk_.1.2.1,hk_.1.2.2.1,hk_.1.2.2.2.1,hk_.1.2.2.2.2⟩)); replace HO298 := y0.mk (Kd.R_mono (ok' := fun k_ => some k_ ≠ (.slice Ao43 t263.length co43 : Value).ownBlock ∧ some k_ ≠ (.slice Ao53 t270.length co53 : Value).ownBlock ∧ some k_ ≠ (.slice Ao63 t276.length co63 : Value).ownBlock ∧ some k_ ≠ (.slice Ao73 t282.length co73 : Value).ownBlock ∧ some k_ ≠ (.slice Ao112 t290.length co112 : Value).ownBlock) (Kd.R_keptB (HO298.out) hkp (fun k_ hk_ hs_ => (hk_.2.2.1) hs_)) (fun k_ hk_ => ⟨hk_.1.1,hk_.1.2.1,hk_.1.2.2.1,hk_.1.2.2.2.1,hk_.1.2.2.2.2⟩)); replace HB := y0.mk (hb); (try clear hb); (try clear hkp); (try clear hy0)))
        (try simp only [Act.put,qS_,qZ_,qC_])
        go_cut [82] (fun v82 wc => ∃ (kq : Nat) (x82_108 : Bool),v82 = .bool x82_108 ∧ y0 (laws_FnExactCompose.j1 kq t266 x82_108 a0_0 a0_1 l0_2 a1_0 a1_1 l1_2 t261 t262 t263 t280 t281 t282 = some r) ∧ y0 (kq ≤ kj24) ∧ y0 (Kd.R k53 53 wc w.heap.size (fun k_ => some k_ ≠ ((.slice Ao53 t270.length co53) : Value).ownBlock ∧ some k_ ≠ ((.slice Ao63 t276.length co63) : Value).ownBlock ∧ some k_ ≠ ((.slice Ao73 t282.length co73) : Value).ownBlock) (.slice Ao43 t263.length co43) t263) ∧ y0 (Kd.R k53 53 wc w.heap.size (fun k_ => some k_ ≠ ((.slice Ao43 t263.length co43) : Value).ownBlock ∧ some k_ ≠ ((.slice Ao63 t276.length co63) : Value).ownBlock ∧ some k_ ≠ ((.slice Ao73 t282.length co73) : Value).ownBlock) (.slice Ao53 t270.length co53) t301) ∧ y0 (Kd.R k53 53 wc w.heap.size (fun k_ => some k_ ≠ ((.slice Ao43 t263.length co43) : Value).ownBlock ∧ some k_ ≠ ((.slice Ao53 t270.length co53) : Value).ownBlock ∧ some k_ ≠ ((.slice Ao73 t282.length co73) : Value).ownBlock) (.slice Ao63 t276.length co63) t303) ∧ y0 (Kd.R k53 53 wc w.heap.size (fun k_ => some k_ ≠ ((.slice Ao43 t263.length co43) : Value).ownBlock ∧ some k_ ≠ ((.slice Ao53 t270.length co53) : Value).ownBlock ∧ some k_ ≠ ((.slice Ao63 t276.length co63) : Value).ownBlock) (.slice Ao73 t282.length co73) t282) ∧ y0 (wc.heap[gb247]? = some (.cells #[.int .i64 a0_0,.int .i64 a0_1,(.slice A0_2 l0_2.length c0_2)] 24 (0,0))) ∧ y0 (wc.heap[gb248]? = some (.cells #[.int .i64 a1_0,.int .i64 a1_1,(.slice A1_2 l1_2.length c1_2)] 24 (0,0))) ∧ y0 (wc.heap[gb267]? = some (.cells #[.int .i64 t261,.int .i64 t262,(.slice Ao43 t263.length co43)] 28 (0,0))) ∧ y0 (wc.heap[gb273]? = some (.cells #[.int .i64 t268,.int .i64 t269,(.slice Ao53 t270.length co53)] 28 (0,0))) ∧ y0 (wc.heap[gb279]? = some (.cells #[.int .i64 t274,.int .i64 t275,(.slice Ao63 t276.length co63)] 28 (0,0))) ∧ y0 (wc.heap[gb286]? = some (.cells #[.int .i64 t280,.int .i64 t281,(.slice Ao73 t282.length co73)] 28 (0,0))) ∧ y0 (Below w.heap.size w wc))
        case first =>
         have H := HC109.out
         clear HC109
         by_cases c131 : t302 < 0
         ·as_aux_lemma =>
          rw [if_pos c131] at H
          have c131b0 := decide_eq_true c131
          clear c131
          (first | rw [c131b0] | (simp only [y20,y19]; rw [c131b0]) | skip)
          have H' := y0.mk H
          clear H
          go_wp2
          go_meet
          exact ⟨_,(true),qy2,H',⟨by have := HJ24.out; first | omega | exact Nat.le_refl _⟩,⟨qR (Kd.R_mono HO_268002.out (fun _ hk => ⟨hk.1,⟨hk.2.1,hk.2.2.1⟩⟩))⟩,⟨qR (Kd.R_mono HO_274002.out (fun _ hk => ⟨hk.1,⟨hk.2.1,hk.2.2.1⟩⟩))⟩,⟨qR (Kd.R_mono HO_280002.out (fun _ hk => ⟨hk.1,⟨hk.2.1,hk.2.2.1⟩⟩))⟩,⟨qR (Kd.R_mono HO_287002.out (fun _ hk => ⟨hk.1,⟨hk.2.1,hk.2.2.1⟩⟩))⟩,⟨qk BK247.out⟩,⟨qk BK248.out⟩,⟨qk BK267.out⟩,⟨qk BK273.out⟩,⟨qk BK279.out⟩,⟨qk BK286.out⟩,⟨qb⟩⟩
         ·as_aux_lemma =>
          rw [if_neg c131] at H
          have c131b0 := decide_eq_false c131
          clear c131
          (first | rw [c131b0] | (simp only [y20,y19]; rw [c131b0]) | skip)
          obtain ⟨t304,A132,H⟩ := qB H
          by_cases c133 : t304 = true
          ·subst c133
           replace H := qT H
           have H' := y0.mk H
           clear H
           have hnb134 := NB286_247.out
           have hnc134 := NB247_286.out
           have hnb135 := NB286_248.out
           have hnc135 := NB248_286.out
           have hnb136 := NB286_267.out
           have hnc136 := NB267_286.out
           have hnb137 := NB286_273.out
           have hnc137 := NB273_286.out
           have hnb138 := NB286_279.out
           have hnc138 := NB279_286.out
           obtain ⟨hcz139_0,hcz139_1,hcz139_2,hfz139_0,hfz139_1,hfz139_2⟩ := qz3 BK286.out
           have hnb140 := NB267_247.out
           have hnc140 := NB247_267.out
           have hnb141 := NB267_248.out
           have hnc141 := NB248_267.out
           have hnb142 := NB267_273.out
           have hnc142 := NB273_267.out
           have hnb143 := NB267_279.out
           have hnc143 := NB279_267.out
           obtain ⟨hcz144_0,hcz144_1,hcz144_2,hfz144_0,hfz144_1,hfz144_2⟩ := qz3 BK267.out
           go_wp2_with (first | (go_at_call 11; (with_reducible refine (laws_eqGraph.calls kj24 t280 t281 _ _ t282 t261 t262 _ _ t263 true _ (qc ((Kd.R_reads' HO_287002.out).2.2)) (by exact (Kd.R_reads' HO_287002.out).2.1) (qc ((Kd.R_reads' HO_268002.out).2.2)) (by exact (Kd.R_reads' HO_268002.out).2.1) A132.out).mono ?_); rintro e w145 ⟨rfl,hb⟩; replace HO_268002 := y0.mk (Kd.R_below (qR HO_268002.out) hb); replace HO_274002 := y0.mk (Kd.R_below (qR HO_274002.out) hb); replace HO_280002 := y0.mk (Kd.R_below (qR HO_280002.out) hb); replace HO_287002 := y0.mk (Kd.R_below (qR HO_287002.out) hb); replace HO292 := y0.mk (Kd.R_below (qR HO292.out) hb); replace HO298 := y0.mk (Kd.R_below (qR HO298.out) hb); replace BK247 := y0.mk (qK BK247.out hb); replace BK248 := y0.mk (qK BK248.out hb); replace BK267 := y0.mk (qK BK267.out hb); replace BK273 := y0.mk (qK BK273.out hb); replace BK279 := y0.mk (qK BK279.out hb); replace BK286 := y0.mk (qK BK286.out hb); replace HB := y0.mk (y5 qb hb); (try clear hb); (try clear hb2); (try clear hk); (try clear hi)))
           go_meet
           exact ⟨_,((t285 != t266)),qy2,H',⟨by have := HJ24.out; first | omega | exact Nat.le_refl _⟩,⟨qR (Kd.R_mono HO_268002.out (fun _ hk => ⟨hk.1,⟨hk.2.1,hk.2.2.1⟩⟩))⟩,⟨qR (Kd.R_mono HO_274002.out (fun _ hk => ⟨hk.1,⟨hk.2.1,hk.2.2.1⟩⟩))⟩,⟨qR (Kd.R_mono HO_280002.out (fun _ hk => ⟨hk.1,⟨hk.2.1,hk.2.2.1⟩⟩))⟩,⟨qR (Kd.R_mono HO_287002.out (fun _ hk => ⟨hk.1,⟨hk.2.1,hk.2.2.1⟩⟩))⟩,⟨qk BK247.out⟩,⟨qk BK248.out⟩,⟨qk BK267.out⟩,⟨qk BK273.out⟩,⟨qk BK279.out⟩,⟨qk BK286.out⟩,⟨qb⟩⟩
          ·replace c133 := Bool.eq_false_iff.mpr c133
           subst c133
           replace H := qF H
           have H' := y0.mk H
           clear H
           have hnb146 := NB286_247.out
           have hnc146 := NB247_286.out
           have hnb147 := NB286_248.out
           have hnc147 := NB248_286.out
           have hnb148 := NB286_267.out
           have hnc148 := NB267_286.out
           have hnb149 := NB286_273.out
           have hnc149 := NB273_286.out
           have hnb150 := NB286_279.out
           have hnc150 := NB279_286.out
           obtain ⟨hcz151_0,hcz151_1,hcz151_2,hfz151_0,hfz151_1,hfz151_2⟩ := qz3 BK286.out
           have hnb152 := NB267_247.out
           have hnc152 := NB247_267.out
           have hnb153 := NB267_248.out
           have hnc153 := NB248_267.out
           have hnb154 := NB267_273.out
           have hnc154 := NB273_267.out
           have hnb155 := NB267_279.out
           have hnc155 := NB279_267.out
           obtain ⟨hcz156_0,hcz156_1,hcz156_2,hfz156_0,hfz156_1,hfz156_2⟩ := qz3 BK267.out
           go_wp2_with (first | (go_at_call 11; (with_reducible refine (laws_eqGraph.calls kj24 t280 t281 _ _ t282 t261 t262 _ _ t263 false _ (qc ((Kd.R_reads' HO_287002.out).2.2)) (by exact (Kd.R_reads' HO_287002.out).2.1) (qc ((Kd.R_reads' HO_268002.out).2.2)) (by exact (Kd.R_reads' HO_268002.out).2.1) A132.out).mono ?_); rintro e w157 ⟨rfl,hb⟩; replace HO_268002 := y0.mk (Kd.R_below (qR HO_268002.out) hb); replace HO_274002 := y0.mk (Kd.R_below (qR HO_274002.out) hb); replace HO_280002 := y0.mk (Kd.R_below (qR HO_280002.out) hb); replace HO_287002 := y0.mk (Kd.R_below (qR HO_287002.out) hb); replace HO292 := y0.mk (Kd.R_below (qR HO292.out) hb); replace HO298 := y0.mk (Kd.R_below (qR HO298.out) hb); replace BK247 := y0.mk (qK BK247.out hb); replace BK248 := y0.mk (qK BK248.out hb); replace BK267 := y0.mk (qK BK267.out hb); replace BK273 := y0.mk (qK BK273.out hb); replace BK279 := y0.mk (qK BK279.out hb); replace BK286 := y0.mk (qK BK286.out hb); replace HB := y0.mk (y5 qb hb); (try clear hb); (try clear hb2); (try clear hk); (try clear hi)))
           go_meet
           exact ⟨_,(true),qy2,H',⟨by have := HJ24.out; first | omega | exact Nat.le_refl _⟩,⟨qR (Kd.R_mono HO_268002.out (fun _ hk => ⟨hk.1,⟨hk.2.1,hk.2.2.1⟩⟩))⟩,⟨qR (Kd.R_mono HO_274002.out (fun _ hk => ⟨hk.1,⟨hk.2.1,hk.2.2.1⟩⟩))⟩,⟨qR (Kd.R_mono HO_280002.out (fun _ hk => ⟨hk.1,⟨hk.2.1,hk.2.2.1⟩⟩))⟩,⟨qR (Kd.R_mono HO_287002.out (fun _ hk => ⟨hk.1,⟨hk.2.1,hk.2.2.1⟩⟩))⟩,⟨qk BK247.out⟩,⟨qk BK248.out⟩,⟨qk BK267.out⟩,⟨qk BK273.out⟩,⟨qk BK279.out⟩,⟨qk BK286.out⟩,⟨qb⟩⟩
        case rest =>
         clear HC109
         (try clear c100 c103 c106 hcz123_0 hcz123_1 hcz123_2 hcz129_0 hcz129_1 hcz129_2 hfz123_0 hfz123_1 hfz123_2 hfz129_0 hfz129_1 hfz129_2)
         obtain ⟨kq,x82_108,rfl,HA,HJ108,HO_268002,HO_274002,HO_280002,HO_287002,BK247,BK248,BK267,BK273,BK279,BK286,HB⟩ := hcut
         have hl274002_108 := (Kd.R_reads' HO_274002.out).1
         rw [hl274002_108] at HO_274002
         (try simp only [hl274002_108])
         (try simp only [hl274002_108] at BK247)
         (try simp only [hl274002_108] at BK248)
         (try simp only [hl274002_108] at BK267)
         (try simp only [hl274002_108] at BK273)
         (try simp only [hl274002_108] at BK279)
         (try simp only [hl274002_108] at BK286)
         (try simp only [hl274002_108] at HO_268002)
         (try simp only [hl274002_108] at HO_280002)
         (try simp only [hl274002_108] at HO_287002)
         have hl280002_108 := (Kd.R_reads' HO_280002.out).1
         rw [hl280002_108] at HO_280002
         (try simp only [hl280002_108])
         (try simp only [hl280002_108] at BK247)
         (try simp only [hl280002_108] at BK248)
         (try simp only [hl280002_108] at BK267)
         (try simp only [hl280002_108] at BK273)
         (try simp only [hl280002_108] at BK279)
         (try simp only [hl280002_108] at BK286)
         (try simp only [hl280002_108] at HO_268002)
         (try simp only [hl280002_108] at HO_274002)
         (try simp only [hl280002_108] at HO_287002)
         cases kq with
         | zero => exact absurd HA.out (by simp [laws_FnExactCompose.j1])
         | succ kj108 =>
          have H := HA.out
          clear HA
          simp only [laws_FnExactCompose.j1] at H
          by_cases c158 : x82_108 = true
          ·subst c158
           replace H := qT H
           exact absurd ((Option.some.inj H).trans htrue_) (by decide)
          ·replace c158 := Bool.eq_false_iff.mpr c158
           subst c158
           replace H := qF H
           obtain ⟨⟨t305,t306⟩,A159,H⟩ := qB H
           replace H : ((laws_heldGraph.f kj108 t280 t281 t306 1).bind fun t307 => (if t307 < 0 then (some false) else (if t307 = t305 then ((laws_toGraph.f kj108 a0_0 a0_1 l0_2).bind fun bt308 => ((laws_toGraph.f kj108 a1_0 a1_1 l1_2).bind fun bt313 => ((impl_Compose.f kj108 bt308.1 bt308.2.1 bt308.2.2 bt313.1 bt313.2.1 bt313.2.2).bind fun bt318 => ((laws_eqGraph.f kj108 bt318.1 bt318.2.1 bt318.2.2.1 t261 t262 t263).bind fun t325 => (if t325 = true then (laws_FnExactCompose.j2 kj108 t305 (bt318.2.2.2 != t266) t280 t281 t306) else (laws_FnExactCompose.j2 kj108 t305 true t280 t281 t306)))))) else (some false)))) = some r := H
           obtain ⟨t307,A160,H⟩ := qB H
           by_cases c161 : t307 < 0
           ·as_aux_lemma =>
            rw [if_pos c161] at H
            have c161b0 := decide_eq_true c161
            clear c161
            exact absurd ((Option.some.inj H).trans htrue_) (by decide)
           ·as_aux_lemma =>
            rw [if_neg c161] at H
            have c161b0 := decide_eq_false c161
            clear c161
            by_cases c171 : t307 = t305
            ·as_aux_lemma =>
             rw [if_pos c171] at H
             have c171b0 : (t307 == t305) = true := beq_iff_eq.mpr c171
             have c171b1 : (t307 != t305) = false := bne_eq_false_iff_eq.mpr c171
             clear c171
             obtain ⟨⟨t308,t309,t310⟩,A172,H⟩ := qB H
             replace H : ((laws_toGraph.f kj108 a1_0 a1_1 l1_2).bind fun bt313 => ((impl_Compose.f kj108 t308 t309 t310 bt313.1 bt313.2.1 bt313.2.2).bind fun bt318 => ((laws_eqGraph.f kj108 bt318.1 bt318.2.1 bt318.2.2.1 t261 t262 t263).bind fun t325 => (if t325 = true then (laws_FnExactCompose.j2 kj108 t305 (bt318.2.2.2 != t266) t280 t281 t306) else (laws_FnExactCompose.j2 kj108 t305 true t280 t281 t306))))) = some r := H
             obtain ⟨⟨t313,t314,t315⟩,A173,H⟩ := qB H
             replace H : ((impl_Compose.f kj108 t308 t309 t310 t313 t314 t315).bind fun bt318 => ((laws_eqGraph.f kj108 bt318.1 bt318.2.1 bt318.2.2.1 t261 t262 t263).bind fun t325 => (if t325 = true then (laws_FnExactCompose.j2 kj108 t305 (bt318.2.2.2 != t266) t280 t281 t306) else (laws_FnExactCompose.j2 kj108 t305 true t280 t281 t306)))) = some r := H
             obtain ⟨⟨t318,t319,t320,t323⟩,A174,H⟩ := qB H
             replace H : ((laws_eqGraph.f kj108 t318 t319 t320 t261 t262 t263).bind fun t325 => (if t325 = true then (laws_FnExactCompose.j2 kj108 t305 (t323 != t266) t280 t281 t306) else (laws_FnExactCompose.j2 kj108 t305 true t280 t281 t306))) = some r := H
             have HC175 := y0.mk H
             clear H
             have hnb176 := NB286_247.out
             have hnc176 := NB247_286.out
             have hnb177 := NB286_248.out
             have hnc177 := NB248_286.out
             have hnb178 := NB286_267.out
             have hnc178 := NB267_286.out
             have hnb179 := NB286_273.out
             have hnc179 := NB273_286.out
             have hnb180 := NB286_279.out
             have hnc180 := NB279_286.out
             obtain ⟨hcz181_0,hcz181_1,hcz181_2,hfz181_0,hfz181_1,hfz181_2⟩ := qz3 BK286.out
             try go_wp2_with (first | ((with_reducible refine y17 (f := 12) rfl ?_); refine goesL_ (some 85) rfl rfl Try.func12 (by kernel_rfl) rfl #[.agg #[.int .i64 t280,.int .i64 t281,.slice Ao73 t282.length co73],.int .i64 1] rfl qy0 ?_; (with_reducible refine (laws_markGraph.calls kj108 t280 t281 (fun k_ => some k_ = (.slice Ao73 t282.length co73 : Value).ownBlock) (.slice Ao73 t282.length co73) t282 1 t305 t306 w _ (by repeat (first | (with_reducible first | exact HB.out | apply y1 | apply y21 | apply y2 | refine y3 ?_ GE247.out | refine y3 ?_ GE248.out | refine y3 ?_ GE267.out | refine y3 ?_ GE273.out | refine y3 ?_ GE279.out | refine y3 ?_ GE286.out) | exact HB.out)) (by exact Kd.R_tight rfl HO_287002.out) A159.out).mono ?_); rintro e w182 ⟨rfl,hy0,hb,hkp⟩; refine ⟨_,rfl, ?_⟩; replace HO_268002 := y0.mk (Kd.R_mono (ok' := fun k_ => some k_ ≠ (.slice Ao53 t301.length co53 : Value).ownBlock ∧ some k_ ≠ (.slice Ao63 t303.length co63 : Value).ownBlock ∧ some k_ ≠ (.slice Ao73 t282.length co73 : Value).ownBlock) (Kd.R_keptB (HO_268002.out) hkp (fun k_ hk_ hs_ => (hk_.2.2) hs_)) (fun k_ hk_ => ⟨hk_.1.1,hk_.1.2.1,hk_.1.2.2⟩)); replace HO_274002 := y0.mk (Kd.R_mono (ok' := fun k_ => some k_ ≠ (.slice Ao43 t263.length co43 : Value).ownBlock ∧ some k_ ≠ (.slice Ao63 t303.length co63 : Value).ownBlock ∧ some k_ ≠ (.slice Ao73 t282.length co73 : Value).ownBlock) (Kd.R_keptB (HO_274002.out) hkp (fun k_ hk_ hs_ => (hk_.2.2) hs_)) (fun k_ hk_ => ⟨hk_.1.1,hk_.1.2.1,hk_.1.2.2⟩)); replace HO_280002 := y0.mk (Kd.R_mono (ok' := fun k_ => some k_ ≠ (.slice Ao43 t263.length co43 : Value).ownBlock ∧ some k_ ≠ (.slice Ao53 t301.length co53 : Value).ownBlock ∧ some k_ ≠ (.slice Ao73 t282.length co73 : Value).ownBlock) (Kd.R_keptB (HO_280002.out) hkp (fun k_ hk_ hs_ => (hk_.2.2) hs_)) (fun k_ hk_ => ⟨hk_.1.1,hk_.1.2.1,hk_.1.2.2⟩)); replace BK247 := y0.mk (blk_kept (qk BK247.out) hkp (fun hs_ => (fun e_ => (Kd.R_ne HO_287002.out BK247.out (by decide)) e_) hs_)); replace BK248 := y0.mk (blk_kept (qk BK248.out) hkp (fun hs_ => (fun e_ => (Kd.R_ne HO_287002.out BK248.out (by decide)) e_) hs_)); replace BK267 := y0.mk (blk_kept (qk BK267.out) hkp (fun hs_ => (fun e_ => (Kd.R_ne HO_287002.out BK267.out (by decide)) e_) hs_)); replace BK273 := y0.mk (blk_kept (qk BK273.out) hkp (fun hs_ => (fun e_ => (Kd.R_ne HO_287002.out BK273.out (by decide)) e_) hs_)); replace BK279 := y0.mk (blk_kept (qk BK279.out) hkp (fun hs_ => (fun e_ => (Kd.R_ne HO_287002.out BK279.out (by decide)) e_) hs_)); replace BK286 := y0.mk (blk_kept (qk BK286.out) hkp (fun hs_ => (fun e_ => (Kd.R_ne HO_287002.out BK286.out (by decide)) e_) hs_)); replace HO_287002 := y0.mk (Kd.R_reok rfl hy0 (fun k_ e_ => HO_287002.out.1 k_ e_)); replace HB := y0.mk (hb); (try clear hb); (try clear hkp); (try clear hy0); obtain ⟨hcz183_0,hcz183_1,hcz183_2,hfz183_0,hfz183_1,hfz183_2⟩ := qz3 BK286.out) | ((with_reducible refine y17 (f := 13) rfl ?_); refine goesL_ (some 88) rfl rfl Try.func13 (by kernel_rfl) rfl #[.agg #[.int .i64 t280,.int .i64 t281,.slice Ao73 t306.length co73],.int .i64 1] rfl (by (try simp only [qM_,List.map_cons,List.map_nil]); first | done | (rw [show t306.length = t282.length from (Kd.R_reads' HO_287002.out).1.symm] <;> rfl) | rfl | (simp only [qD_,qT_]; rfl)) ?_; (with_reducible refine (laws_heldGraph.calls kj108 t280 t281 _ _ t306 1 t307 _ (qc ((Kd.R_reads' HO_287002.out).2.2)) (by rw [show t306.length = t282.length from (Kd.R_reads' HO_287002.out).1.symm]; exact (Kd.R_reads' HO_287002.out).2.1) A160.out).mono ?_); rintro e w184 ⟨rfl,hb⟩; refine ⟨_,rfl, ?_⟩; replace HO_268002 := y0.mk (Kd.R_below (qR HO_268002.out) hb); replace HO_274002 := y0.mk (Kd.R_below (qR HO_274002.out) hb); replace HO_280002 := y0.mk (Kd.R_below (qR HO_280002.out) hb); replace HO_287002 := y0.mk (Kd.R_below (qR HO_287002.out) hb); replace BK247 := y0.mk (qK BK247.out hb); replace BK248 := y0.mk (qK BK248.out hb); replace BK267 := y0.mk (qK BK267.out hb); replace BK273 := y0.mk (qK BK273.out hb); replace BK279 := y0.mk (qK BK279.out hb); replace BK286 := y0.mk (qK BK286.out hb); replace HB := y0.mk (y5 qb hb); (try clear hb); (try clear hb2); (try clear hk); (try clear hi)))
             replace HO_268002 := y0.mk (Kd.R_drew HO_268002.out)
             replace HO_274002 := y0.mk (Kd.R_drew HO_274002.out)
             replace HO_280002 := y0.mk (Kd.R_drew HO_280002.out)
             replace HO_287002 := y0.mk (Kd.R_drew HO_287002.out)
             replace BK247 := y0.mk (y9 BK247.out)
             replace BK248 := y0.mk (y9 BK248.out)
             replace BK267 := y0.mk (y9 BK267.out)
             replace BK273 := y0.mk (y9 BK273.out)
             replace BK279 := y0.mk (y9 BK279.out)
             replace BK286 := y0.mk (y9 BK286.out)
             replace HB := y0.mk (y2 HB.out)
             refine start_ (n := 11) (S := fun w' => w'.cell? ⟨gb247,0,none⟩ = some (.int .i64 a0_0) ∧ w'.cell? ⟨gb247,1,none⟩ = some (.int .i64 a0_1) ∧ w'.cell? ⟨gb247,2,none⟩ = some (.slice A0_2 l0_2.length c0_2) ∧ w'.cell? ⟨gb248,0,none⟩ = some (.int .i64 a1_0) ∧ w'.cell? ⟨gb248,1,none⟩ = some (.int .i64 a1_1) ∧ w'.cell? ⟨gb248,2,none⟩ = some (.slice A1_2 l1_2.length c1_2)) (ds := []) (fl_ 11 0) (by kernel_rfl) rfl rfl ⟨(y8 BK247.out 0).trans rfl,(y8 BK247.out 1).trans rfl,(y8 BK247.out 2).trans rfl,(y8 BK248.out 0).trans rfl,(y8 BK248.out 1).trans rfl,(y8 BK248.out 2).trans rfl⟩ (fun hHeld => ?_); refine with_tabW laws_FnExactCompose.tab31 laws_FnExactCompose.bits31 (fun HT_ HW_ => ?_)
             generalize w184.drew = w185 at HO_268002 HO_274002 HO_280002 HO_287002 BK247 BK248 BK267 BK273 BK279 BK286 HB hHeld ⊢
             refine qt 0 95 (fl_ 11 1) hHeld ?_
             refine qt 2 97 (fl_ 11 5) hHeld ?_
             refine join_ (σ := Value × Value × Value × Nat) 2 (fl_ 11 511) (fun s_ => [(96,.agg #[.int .i64 t308,.int .i64 t309,s_.1]),(98,.agg #[.int .i64 t313,.int .i64 t314,s_.2.1]),(99,.tuple #[.agg #[.int .i64 t318,.int .i64 t319,s_.2.2.1],.bool t323]),(15,.pointer (some ⟨s_.2.2.2,0,none⟩)),(94,.tuple #[.agg #[.int .i64 t318,.int .i64 t319,s_.2.2.1],.bool t323]),(100,.agg #[.int .i64 t318,.int .i64 t319,s_.2.2.1]),(101,.bool t323)]) (fun s_ w' => (w'.cell? ⟨gb247,0,none⟩ = some (.int .i64 a0_0) ∧ w'.cell? ⟨gb247,1,none⟩ = some (.int .i64 a0_1) ∧ w'.cell? ⟨gb247,2,none⟩ = some (.slice A0_2 l0_2.length c0_2) ∧ w'.cell? ⟨gb248,0,none⟩ = some (.int .i64 a1_0) ∧ w'.cell? ⟨gb248,1,none⟩ = some (.int .i64 a1_1) ∧ w'.cell? ⟨gb248,2,none⟩ = some (.slice A1_2 l1_2.length c1_2)) ∧ (Kd.R k53 53 w' w.heap.size (fun k_ => some k_ ≠ (s_.2.1 : Value).ownBlock ∧ some k_ ≠ (s_.2.2.1 : Value).ownBlock ∧ some k_ ≠ (.slice Ao43 t263.length co43 : Value).ownBlock ∧ some k_ ≠ (.slice Ao53 t301.length co53 : Value).ownBlock ∧ some k_ ≠ (.slice Ao63 t303.length co63 : Value).ownBlock ∧ some k_ ≠ (.slice Ao73 t282.length co73 : Value).ownBlock) s_.1 t310) ∧ (Kd.R k53 53 w' w.heap.size (fun k_ => some k_ ≠ (s_.1 : Value).ownBlock ∧ some k_ ≠ (s_.2.2.1 : Value).ownBlock ∧ some k_ ≠ (.slice Ao43 t263.length co43 : Value).ownBlock ∧ some k_ ≠ (.slice Ao53 t301.length co53 : Value).ownBlock ∧ some k_ ≠ (.slice Ao63 t303.length co63 : Value).ownBlock ∧ some k_ ≠ (.slice Ao73 t282.length co73 : Value).ownBlock) s_.2.1 t315) ∧ (Kd.R k53 53 w' w.heap.size (fun k_ => some k_ ≠ (s_.1 : Value).ownBlock ∧ some k_ ≠ (s_.2.1 : Value).ownBlock ∧ some k_ ≠ (.slice Ao43 t263.length co43 : Value).ownBlock ∧ some k_ ≠ (.slice Ao53 t301.length co53 : Value).ownBlock ∧ some k_ ≠ (.slice Ao63 t303.length co63 : Value).ownBlock ∧ some k_ ≠ (.slice Ao73 t282.length co73 : Value).ownBlock) s_.2.2.1 t320) ∧ (Kd.R k53 53 w' w.heap.size (fun k_ => some k_ ≠ (s_.1 : Value).ownBlock ∧ some k_ ≠ (s_.2.1 : Value).ownBlock ∧ some k_ ≠ (s_.2.2.1 : Value).ownBlock ∧ some k_ ≠ (.slice Ao53 t301.length co53 : Value).ownBlock ∧ some k_ ≠ (.slice Ao63 t303.length co63 : Value).ownBlock ∧ some k_ ≠ (.slice Ao73 t282.length co73 : Value).ownBlock) (.slice Ao43 t263.length co43) t263) ∧ (Kd.R k53 53 w' w.heap.size (fun k_ => some k_ ≠ (s_.1 : Value).ownBlock ∧ some k_ ≠ (s_.2.1 : Value).ownBlock ∧ some k_ ≠ (s_.2.2.1 : Value).ownBlock ∧ some k_ ≠ (.slice Ao43 t263.length co43 : Value).ownBlock ∧ some k_ ≠ (.slice Ao63 t303.length co63 : Value).ownBlock ∧ some k_ ≠ (.slice Ao73 t282.length co73 : Value).ownBlock) (.slice Ao53 t301.length co53) t301) ∧ (Kd.R k53 53 w' w.heap.size (fun k_ => some k_ ≠ (s_.1 : Value).ownBlock ∧ some k_ ≠ (s_.2.1 : Value).ownBlock ∧ some k_ ≠ (s_.2.2.1 : Value).ownBlock ∧ some k_ ≠ (.slice Ao43 t263.length co43 : Value).ownBlock ∧ some k_ ≠ (.slice Ao53 t301.length co53 : Value).ownBlock ∧ some k_ ≠ (.slice Ao73 t282.length co73 : Value).ownBlock) (.slice Ao63 t303.length co63) t303) ∧ (Kd.R k53 53 w' w.heap.size (fun k_ => some k_ ≠ (s_.1 : Value).ownBlock ∧ some k_ ≠ (s_.2.1 : Value).ownBlock ∧ some k_ ≠ (s_.2.2.1 : Value).ownBlock ∧ some k_ ≠ (.slice Ao43 t263.length co43 : Value).ownBlock ∧ some k_ ≠ (.slice Ao53 t301.length co53 : Value).ownBlock ∧ some k_ ≠ (.slice Ao63 t303.length co63 : Value).ownBlock) (.slice Ao73 t282.length co73) t306) ∧ (w'.heap[gb247]? = some (.cells #[.int .i64 a0_0,.int .i64 a0_1,.slice A0_2 l0_2.length c0_2] 24 (0,0))) ∧ (w'.heap[gb248]? = some (.cells #[.int .i64 a1_0,.int .i64 a1_1,.slice A1_2 l1_2.length c1_2] 24 (0,0))) ∧ (w'.heap[gb267]? = some (.cells #[.int .i64 t261,.int .i64 t262,.slice Ao43 t263.length co43] 28 (0,0))) ∧ (w'.heap[gb273]? = some (.cells #[.int .i64 t268,.int .i64 t269,.slice Ao53 t301.length co53] 28 (0,0))) ∧ (w'.heap[gb279]? = some (.cells #[.int .i64 t274,.int .i64 t275,.slice Ao63 t303.length co63] 28 (0,0))) ∧ (w'.heap[gb286]? = some (.cells #[.int .i64 t280,.int .i64 t281,.slice Ao73 t282.length co73] 28 (0,0))) ∧ (w'.heap[s_.2.2.2]? = some (.cells #[.int .i64 0,.int .i64 0,.slice none 0 0] 28 (0,0))) ∧ (w.heap.size ≤ s_.2.2.2) ∧ (w.heap.size ≤ s_.2.2.2) ∧ (gb247 ≠ s_.2.2.2) ∧ (s_.2.2.2 ≠ gb247) ∧ (gb248 ≠ s_.2.2.2) ∧ (s_.2.2.2 ≠ gb248) ∧ (gb267 ≠ s_.2.2.2) ∧ (s_.2.2.2 ≠ gb267) ∧ (gb273 ≠ s_.2.2.2) ∧ (s_.2.2.2 ≠ gb273) ∧ (gb279 ≠ s_.2.2.2) ∧ (s_.2.2.2 ≠ gb279) ∧ (gb286 ≠ s_.2.2.2) ∧ (s_.2.2.2 ≠ gb286) ∧ (Below w.heap.size w w')) ?_ ?_
             rotate_left
             ·intro hCont
              refine two_ (i := 1) (j := 8) (Ni := some 96) (Nj := some 15) (fl_ 11 7) (fl_ 11 261) rfl rfl rfl rfl (two_of HT_.out (by kernel_rfl)) (by decide) (by decide) (fun K hK => ?_) (fun K hK => ?_)
              ·skip
               refine goes_ Try.func9 (by kernel_rfl) rfl #[.agg #[.int .i64 a0_0,.int .i64 a0_1,.slice A0_2 l0_2.length c0_2]] (by rfl) rfl rfl qy0 ?_
               with_reducible refine (laws_toGraph.calls kj108 a0_0 a0_1 _ _ l0_2 t308 t309 t310 _ (qc (Kd.C_below HR0_2.out HB.out)) HC0_2.out A172.out).mono ?_
               rintro e w186 ⟨v311,rfl,ho0,hb⟩
               refine ⟨_,rfl, ?_⟩
               have HO312 := y0.mk (Kd.R_lower (Kd.R_new' (Kd.R_new' (Kd.R_new' (Kd.R_new' ho0 (Kd.R_lt (qR HO_268002.out))) (Kd.R_lt (qR HO_274002.out))) (Kd.R_lt (qR HO_280002.out))) (Kd.R_lt (qR HO_287002.out))) (y4 qb))
               replace HO_268002 := y0.mk (Kd.R_elder' (qR HO_268002.out) (Kd.R_base ho0) hb)
               replace HO_274002 := y0.mk (Kd.R_elder' (qR HO_274002.out) (Kd.R_base ho0) hb)
               replace HO_280002 := y0.mk (Kd.R_elder' (qR HO_280002.out) (Kd.R_base ho0) hb)
               replace HO_287002 := y0.mk (Kd.R_elder' (qR HO_287002.out) (Kd.R_base ho0) hb)
               replace BK247 := y0.mk (qK BK247.out hb)
               replace BK248 := y0.mk (qK BK248.out hb)
               replace BK267 := y0.mk (qK BK267.out hb)
               replace BK273 := y0.mk (qK BK273.out hb)
               replace BK279 := y0.mk (qK BK279.out hb)
               replace BK286 := y0.mk (qK BK286.out hb)
               replace HB := y0.mk (y5 qb hb)
               (try clear hb)
               (try clear hb2)
               (try clear hk)
               (try clear hi)
               (try clear ho0)
               refine hK.out _ _ ⟨(y8 BK247.out 0).trans rfl,(y8 BK247.out 1).trans rfl,(y8 BK247.out 2).trans rfl,(y8 BK248.out 0).trans rfl,(y8 BK248.out 1).trans rfl,(y8 BK248.out 2).trans rfl⟩ (fun hHeld => ?_)
               clear hK K
               refine norm_ (a' := ?_) ?_ ?_
               rotate_left
               ·show Act.put _ (some 96) _ = _
                simp only [Act.put,qS_,qZ_,qC_,y20,y19]
                rfl
               refine two_ (i := 3) (j := 8) (Ni := some 98) (Nj := some 15) (fl_ 11 15) (fl_ 11 263) rfl rfl rfl rfl (two_of HT_.out (by kernel_rfl)) (by decide) (by decide) (fun K hK => ?_) (fun K hK => ?_)
               ·skip
                refine goes_ Try.func9 (by kernel_rfl) rfl #[.agg #[.int .i64 a1_0,.int .i64 a1_1,.slice A1_2 l1_2.length c1_2]] (by rfl) rfl rfl qy0 ?_
                with_reducible refine (laws_toGraph.calls kj108 a1_0 a1_1 _ _ l1_2 t313 t314 t315 _ (qc (Kd.C_below HR1_2.out HB.out)) HC1_2.out A173.out).mono ?_
                rintro e w187 ⟨v316,rfl,ho0,hb⟩
                refine ⟨_,rfl, ?_⟩
                have HO317 := y0.mk (Kd.R_lower (Kd.R_new' (Kd.R_new' (Kd.R_new' (Kd.R_new' (Kd.R_new' ho0 (Kd.R_lt (qR HO_268002.out))) (Kd.R_lt (qR HO_274002.out))) (Kd.R_lt (qR HO_280002.out))) (Kd.R_lt (qR HO_287002.out))) (Kd.R_lt (qR HO312.out))) (y4 qb))
                replace HO_268002 := y0.mk (Kd.R_elder' (qR HO_268002.out) (Kd.R_base ho0) hb)
                replace HO_274002 := y0.mk (Kd.R_elder' (qR HO_274002.out) (Kd.R_base ho0) hb)
                replace HO_280002 := y0.mk (Kd.R_elder' (qR HO_280002.out) (Kd.R_base ho0) hb)
                replace HO_287002 := y0.mk (Kd.R_elder' (qR HO_287002.out) (Kd.R_base ho0) hb)
                replace HO312 := y0.mk (Kd.R_elder' (qR HO312.out) (Kd.R_base ho0) hb)
                replace BK247 := y0.mk (qK BK247.out hb)
                replace BK248 := y0.mk (qK BK248.out hb)
                replace BK267 := y0.mk (qK BK267.out hb)
                replace BK273 := y0.mk (qK BK273.out hb)
                replace BK279 := y0.mk (qK BK279.out hb)
                replace BK286 := y0.mk (qK BK286.out hb)
                replace HB := y0.mk (y5 qb hb)
                (try clear hb)
                (try clear hb2)
                (try clear hk)
                (try clear hi)
                (try clear ho0)
                obtain ⟨Ao188,co188,eo188⟩ := Kd.R_slice HO312.out
                (first | subst eo188 | (injection eo188 with f1_ f2_ f3_; have f4_ := f1_.symm; have f5_ := f3_.symm; clear f1_ f2_ f3_; subst f4_; subst f5_))
                obtain ⟨Ao189,co189,eo189⟩ := Kd.R_slice HO317.out
                (first | subst eo189 | (injection eo189 with f1_ f2_ f3_; have f4_ := f1_.symm; have f5_ := f3_.symm; clear f1_ f2_ f3_; subst f4_; subst f5_))
                refine hK.out _ _ ⟨(y8 BK247.out 0).trans rfl,(y8 BK247.out 1).trans rfl,(y8 BK247.out 2).trans rfl,(y8 BK248.out 0).trans rfl,(y8 BK248.out 1).trans rfl,(y8 BK248.out 2).trans rfl⟩ (fun hHeld => ?_)
                clear hK K
                refine norm_ (a' := ?_) ?_ ?_
                rotate_left
                ·show Act.put _ (some 98) _ = _
                 simp only [Act.put,qS_,qZ_,qC_,y20,y19]
                 rfl
                refine two_ (i := 4) (j := 8) (Ni := some 99) (Nj := some 15) (fl_ 11 31) (fl_ 11 271) rfl rfl rfl rfl (two_of HT_.out (by kernel_rfl)) (by decide) (by decide) (fun K hK => ?_) (fun K hK => ?_)
                ·skip
                 refine goes_ Try.func10 (by kernel_rfl) rfl #[.agg #[.int .i64 t308,.int .i64 t309,.slice Ao188 t310.length co188],.agg #[.int .i64 t313,.int .i64 t314,.slice Ao189 t315.length co189]] (by rfl) rfl rfl qy0 ?_
                 with_reducible refine (impl_Compose.calls kj108 t308 t309 _ _ t310 t313 t314 _ _ t315 t318 t319 t320 t323 _ (qc ((Kd.R_reads' HO312.out).2.2)) (by exact (Kd.R_reads' HO312.out).2.1) (qc ((Kd.R_reads' HO317.out).2.2)) (by exact (Kd.R_reads' HO317.out).2.1) A174.out).mono ?_
                 rintro e w190 ⟨v321,rfl,ho0,hb⟩
                 refine ⟨_,rfl, ?_⟩
                 have HO322 := y0.mk (Kd.R_lower (Kd.R_new' (Kd.R_new' (Kd.R_new' (Kd.R_new' (Kd.R_new' (Kd.R_new' ho0 (Kd.R_lt (qR HO_268002.out))) (Kd.R_lt (qR HO_274002.out))) (Kd.R_lt (qR HO_280002.out))) (Kd.R_lt (qR HO_287002.out))) (Kd.R_lt (qR HO312.out))) (Kd.R_lt (qR HO317.out))) (y4 qb))
                 replace HO_268002 := y0.mk (Kd.R_elder' (qR HO_268002.out) (Kd.R_base ho0) hb)
                 replace HO_274002 := y0.mk (Kd.R_elder' (qR HO_274002.out) (Kd.R_base ho0) hb)
                 replace HO_280002 := y0.mk (Kd.R_elder' (qR HO_280002.out) (Kd.R_base ho0) hb)
                 replace HO_287002 := y0.mk (Kd.R_elder' (qR HO_287002.out) (Kd.R_base ho0) hb)
                 replace HO312 := y0.mk (Kd.R_elder' (qR HO312.out) (Kd.R_base ho0) hb)
                 replace HO317 := y0.mk (Kd.R_elder' (qR HO317.out) (Kd.R_base ho0) hb)
                 replace BK247 := y0.mk (qK BK247.out hb)
                 replace BK248 := y0.mk (qK BK248.out hb)
                 replace BK267 := y0.mk (qK BK267.out hb)
                 replace BK273 := y0.mk (qK BK273.out hb)
                 replace BK279 := y0.mk (qK BK279.out hb)
                 replace BK286 := y0.mk (qK BK286.out hb)
                 replace HB := y0.mk (y5 qb hb)
                 (try clear hb)
                 (try clear hb2)
                 (try clear hk)
                 (try clear hi)
                 (try clear ho0)
                 refine hK.out _ _ ⟨(y8 BK247.out 0).trans rfl,(y8 BK247.out 1).trans rfl,(y8 BK247.out 2).trans rfl,(y8 BK248.out 0).trans rfl,(y8 BK248.out 1).trans rfl,(y8 BK248.out 2).trans rfl⟩ (fun hHeld => ?_)
                 clear hK K
                 refine norm_ (a' := ?_) ?_ ?_
                 rotate_left
                 ·show Act.put _ (some 99) _ = _
                  simp only [Act.put,qS_,qZ_,qC_,y20,y19]
                  rfl
                 refine qp 5 94 (fl_ 11 63) ?_
                 refine qp 6 100 (fl_ 11 127) ?_
                 refine qp 7 101 (fl_ 11 255) ?_
                 refine one_ (i := 8) (N := some 15) (fl_ 11 511) rfl rfl (one_of HT_.out (by kernel_rfl)) (by decide) (fun K hK => ?_)
                 refine box_step ?hg (N := 15) ?hd (cs := #[.int .i64 0,.int .i64 0,.slice none 0 0]) (t := 28) ?hr ?_; (case hd => rfl); (case hg => rfl); (case hr => first | (go_simp; done) | (go_simp; rfl))
                 intro gb324 hg w191 hbox hb
                 replace HO_268002 := y0.mk (Kd.R_below (qR HO_268002.out) hb)
                 replace HO_274002 := y0.mk (Kd.R_below (qR HO_274002.out) hb)
                 replace HO_280002 := y0.mk (Kd.R_below (qR HO_280002.out) hb)
                 replace HO_287002 := y0.mk (Kd.R_below (qR HO_287002.out) hb)
                 replace HO312 := y0.mk (Kd.R_below (qR HO312.out) hb)
                 replace HO317 := y0.mk (Kd.R_below (qR HO317.out) hb)
                 replace HO322 := y0.mk (Kd.R_below (qR HO322.out) hb)
                 have BK324 := y0.mk (hbox)
                 have GW324 := y0.mk (qg (w := w) hg)
                 have GE324 := y0.mk (qg (w := w) hg)
                 replace HB := y0.mk (y5 qb hb)
                 have NB247_324 := y0.mk (qn BK247.out hg)
                 have NB324_247 := y0.mk (qm BK247.out hg)
                 replace BK247 := y0.mk (qK BK247.out hb)
                 have NB248_324 := y0.mk (qn BK248.out hg)
                 have NB324_248 := y0.mk (qm BK248.out hg)
                 replace BK248 := y0.mk (qK BK248.out hb)
                 have NB267_324 := y0.mk (qn BK267.out hg)
                 have NB324_267 := y0.mk (qm BK267.out hg)
                 replace BK267 := y0.mk (qK BK267.out hb)
                 have NB273_324 := y0.mk (qn BK273.out hg)
                 have NB324_273 := y0.mk (qm BK273.out hg)
                 replace BK273 := y0.mk (qK BK273.out hb)
                 have NB279_324 := y0.mk (qn BK279.out hg)
                 have NB324_279 := y0.mk (qm BK279.out hg)
                 replace BK279 := y0.mk (qK BK279.out hb)
                 have NB286_324 := y0.mk (qn BK286.out hg)
                 have NB324_286 := y0.mk (qm BK286.out hg)
                 replace BK286 := y0.mk (qK BK286.out hb)
                 clear hb hbox hg
                 refine hK.out _ _ ⟨(y8 BK247.out 0).trans rfl,(y8 BK247.out 1).trans rfl,(y8 BK247.out 2).trans rfl,(y8 BK248.out 0).trans rfl,(y8 BK248.out 1).trans rfl,(y8 BK248.out 2).trans rfl⟩ (fun hHeld => ?_)
                 clear hK K
                 refine norm_ (a' := ?_) ?_ ?_
                 rotate_left
                 ·show Act.put _ (some 15) _ = _
                  simp only [Act.put,qS_,qZ_,qC_,y20,y19]
                  rfl
                 exact norm_ qy3 (hCont (.slice Ao188 t310.length co188,.slice Ao189 t315.length co189,v321,gb324) _ ⟨hHeld,(qR (Kd.R_mono HO312.out (fun _ hk => ⟨hk.1.2,⟨hk.2,⟨hk.1.1.1.1.1.2,⟨hk.1.1.1.1.2,⟨hk.1.1.1.2,hk.1.1.2⟩⟩⟩⟩⟩))),(qR (Kd.R_mono HO317.out (fun _ hk => ⟨hk.1.2,⟨hk.2,⟨hk.1.1.1.1.1.2,⟨hk.1.1.1.1.2,⟨hk.1.1.1.2,hk.1.1.2⟩⟩⟩⟩⟩))),(qR (Kd.R_mono HO322.out (fun _ hk => ⟨hk.1.2,⟨hk.2,⟨hk.1.1.1.1.1.2,⟨hk.1.1.1.1.2,⟨hk.1.1.1.2,hk.1.1.2⟩⟩⟩⟩⟩))),(qR (Kd.R_mono HO_268002.out (fun _ hk => ⟨hk.1.1.2,⟨hk.1.2,⟨hk.2,⟨hk.1.1.1.1,⟨hk.1.1.1.2.1,hk.1.1.1.2.2⟩⟩⟩⟩⟩))),(qR (Kd.R_mono HO_274002.out (fun _ hk => ⟨hk.1.1.2,⟨hk.1.2,⟨hk.2,⟨hk.1.1.1.1,⟨hk.1.1.1.2.1,hk.1.1.1.2.2⟩⟩⟩⟩⟩))),(qR (Kd.R_mono HO_280002.out (fun _ hk => ⟨hk.1.1.2,⟨hk.1.2,⟨hk.2,⟨hk.1.1.1.1,⟨hk.1.1.1.2.1,hk.1.1.1.2.2⟩⟩⟩⟩⟩))),(qR (Kd.R_mono HO_287002.out (fun _ hk => ⟨hk.1.1.2,⟨hk.1.2,⟨hk.2,⟨hk.1.1.1.1,⟨hk.1.1.1.2.1,hk.1.1.1.2.2⟩⟩⟩⟩⟩))),(qk BK247.out),(qk BK248.out),(qk BK267.out),(qk BK273.out),(qk BK279.out),(qk BK286.out),(qk BK324.out),GW324.out,GE324.out,NB247_324.out,NB324_247.out,NB248_324.out,NB324_248.out,NB267_324.out,NB324_267.out,NB273_324.out,NB324_273.out,NB279_324.out,NB324_279.out,NB286_324.out,NB324_286.out,qb⟩)
                ·skip
                 refine box_step ?hg (N := 15) ?hd (cs := #[.int .i64 0,.int .i64 0,.slice none 0 0]) (t := 28) ?hr ?_; (case hd => rfl); (case hg => rfl); (case hr => first | (go_simp; done) | (go_simp; rfl))
                 intro gb324 hg w188 hbox hb
                 replace HO_268002 := y0.mk (Kd.R_below (qR HO_268002.out) hb)
                 replace HO_274002 := y0.mk (Kd.R_below (qR HO_274002.out) hb)
                 replace HO_280002 := y0.mk (Kd.R_below (qR HO_280002.out) hb)
                 replace HO_287002 := y0.mk (Kd.R_below (qR HO_287002.out) hb)
                 replace HO312 := y0.mk (Kd.R_below (qR HO312.out) hb)
                 replace HO317 := y0.mk (Kd.R_below (qR HO317.out) hb)
                 have BK324 := y0.mk (hbox)
                 have GW324 := y0.mk (qg (w := w) hg)
                 have GE324 := y0.mk (qg (w := w) hg)
                 replace HB := y0.mk (y5 qb hb)
                 have NB247_324 := y0.mk (qn BK247.out hg)
                 have NB324_247 := y0.mk (qm BK247.out hg)
                 replace BK247 := y0.mk (qK BK247.out hb)
                 have NB248_324 := y0.mk (qn BK248.out hg)
                 have NB324_248 := y0.mk (qm BK248.out hg)
                 replace BK248 := y0.mk (qK BK248.out hb)
                 have NB267_324 := y0.mk (qn BK267.out hg)
                 have NB324_267 := y0.mk (qm BK267.out hg)
                 replace BK267 := y0.mk (qK BK267.out hb)
                 have NB273_324 := y0.mk (qn BK273.out hg)
                 have NB324_273 := y0.mk (qm BK273.out hg)
                 replace BK273 := y0.mk (qK BK273.out hb)
                 have NB279_324 := y0.mk (qn BK279.out hg)
                 have NB324_279 := y0.mk (qm BK279.out hg)
                 replace BK279 := y0.mk (qK BK279.out hb)
                 have NB286_324 := y0.mk (qn BK286.out hg)
                 have NB324_286 := y0.mk (qm BK286.out hg)
                 replace BK286 := y0.mk (qK BK286.out hb)
                 clear hb hbox hg
                 obtain ⟨Ao189,co189,eo189⟩ := Kd.R_slice HO312.out
                 (first | subst eo189 | (injection eo189 with f1_ f2_ f3_; have f4_ := f1_.symm; have f5_ := f3_.symm; clear f1_ f2_ f3_; subst f4_; subst f5_))
                 obtain ⟨Ao190,co190,eo190⟩ := Kd.R_slice HO317.out
                 (first | subst eo190 | (injection eo190 with f1_ f2_ f3_; have f4_ := f1_.symm; have f5_ := f3_.symm; clear f1_ f2_ f3_; subst f4_; subst f5_))
                 refine hK.out _ _ ⟨(y8 BK247.out 0).trans rfl,(y8 BK247.out 1).trans rfl,(y8 BK247.out 2).trans rfl,(y8 BK248.out 0).trans rfl,(y8 BK248.out 1).trans rfl,(y8 BK248.out 2).trans rfl⟩ (fun hHeld => ?_)
                 clear hK K
                 refine norm_ (a' := ?_) ?_ ?_
                 rotate_left
                 ·show Act.put _ (some 15) _ = _
                  simp only [Act.put,qS_,qZ_,qC_,y20,y19]
                  rfl
                 refine one_ (i := 4) (N := some 99) (fl_ 11 287) rfl rfl (one_of HT_.out (by kernel_rfl)) (by decide) (fun K hK => ?_)
                 refine goes_ Try.func10 (by kernel_rfl) rfl #[.agg #[.int .i64 t308,.int .i64 t309,.slice Ao189 t310.length co189],.agg #[.int .i64 t313,.int .i64 t314,.slice Ao190 t315.length co190]] (by rfl) rfl rfl qy0 ?_
                 with_reducible refine (impl_Compose.calls kj108 t308 t309 _ _ t310 t313 t314 _ _ t315 t318 t319 t320 t323 _ (qc ((Kd.R_reads' HO312.out).2.2)) (by exact (Kd.R_reads' HO312.out).2.1) (qc ((Kd.R_reads' HO317.out).2.2)) (by exact (Kd.R_reads' HO317.out).2.1) A174.out).mono ?_
                 rintro e w191 ⟨v321,rfl,ho0,hb⟩
                 refine ⟨_,rfl, ?_⟩
                 have HO322 := y0.mk (Kd.R_lower (Kd.R_new' (Kd.R_new' (Kd.R_new' (Kd.R_new' (Kd.R_new' (Kd.R_new' ho0 (Kd.R_lt (qR HO_268002.out))) (Kd.R_lt (qR HO_274002.out))) (Kd.R_lt (qR HO_280002.out))) (Kd.R_lt (qR HO_287002.out))) (Kd.R_lt (qR HO312.out))) (Kd.R_lt (qR HO317.out))) (y4 qb))
                 replace HO_268002 := y0.mk (Kd.R_elder' (qR HO_268002.out) (Kd.R_base ho0) hb)
                 replace HO_274002 := y0.mk (Kd.R_elder' (qR HO_274002.out) (Kd.R_base ho0) hb)
                 replace HO_280002 := y0.mk (Kd.R_elder' (qR HO_280002.out) (Kd.R_base ho0) hb)
                 replace HO_287002 := y0.mk (Kd.R_elder' (qR HO_287002.out) (Kd.R_base ho0) hb)
                 replace HO312 := y0.mk (Kd.R_elder' (qR HO312.out) (Kd.R_base ho0) hb)
                 replace HO317 := y0.mk (Kd.R_elder' (qR HO317.out) (Kd.R_base ho0) hb)
                 replace BK247 := y0.mk (qK BK247.out hb)
                 replace BK248 := y0.mk (qK BK248.out hb)
                 replace BK267 := y0.mk (qK BK267.out hb)
                 replace BK273 := y0.mk (qK BK273.out hb)
                 replace BK279 := y0.mk (qK BK279.out hb)
                 replace BK286 := y0.mk (qK BK286.out hb)
                 replace BK324 := y0.mk (qK BK324.out hb)
                 replace HB := y0.mk (y5 qb hb)
                 (try clear hb)
                 (try clear hb2)
                 (try clear hk)
                 (try clear hi)
                 (try clear ho0)
                 refine hK.out _ _ ⟨(y8 BK247.out 0).trans rfl,(y8 BK247.out 1).trans rfl,(y8 BK247.out 2).trans rfl,(y8 BK248.out 0).trans rfl,(y8 BK248.out 1).trans rfl,(y8 BK248.out 2).trans rfl⟩ (fun hHeld => ?_)
                 clear hK K
                 refine norm_ (a' := ?_) ?_ ?_
                 rotate_left
                 ·show Act.put _ (some 99) _ = _
                  simp only [Act.put,qS_,qZ_,qC_,y20,y19]
                  rfl
                 refine qp 5 94 (fl_ 11 319) ?_
                 refine qp 6 100 (fl_ 11 383) ?_
                 refine qp 7 101 (fl_ 11 511) ?_
                 exact norm_ qy3 (hCont (.slice Ao189 t310.length co189,.slice Ao190 t315.length co190,v321,gb324) _ ⟨hHeld,(qR (Kd.R_mono HO312.out (fun _ hk => ⟨hk.1.2,⟨hk.2,⟨hk.1.1.1.1.1.2,⟨hk.1.1.1.1.2,⟨hk.1.1.1.2,hk.1.1.2⟩⟩⟩⟩⟩))),(qR (Kd.R_mono HO317.out (fun _ hk => ⟨hk.1.2,⟨hk.2,⟨hk.1.1.1.1.1.2,⟨hk.1.1.1.1.2,⟨hk.1.1.1.2,hk.1.1.2⟩⟩⟩⟩⟩))),(qR (Kd.R_mono HO322.out (fun _ hk => ⟨hk.1.2,⟨hk.2,⟨hk.1.1.1.1.1.2,⟨hk.1.1.1.1.2,⟨hk.1.1.1.2,hk.1.1.2⟩⟩⟩⟩⟩))),(qR (Kd.R_mono HO_268002.out (fun _ hk => ⟨hk.1.1.2,⟨hk.1.2,⟨hk.2,⟨hk.1.1.1.1,⟨hk.1.1.1.2.1,hk.1.1.1.2.2⟩⟩⟩⟩⟩))),(qR (Kd.R_mono HO_274002.out (fun _ hk => ⟨hk.1.1.2,⟨hk.1.2,⟨hk.2,⟨hk.1.1.1.1,⟨hk.1.1.1.2.1,hk.1.1.1.2.2⟩⟩⟩⟩⟩))),(qR (Kd.R_mono HO_280002.out (fun _ hk => ⟨hk.1.1.2,⟨hk.1.2,⟨hk.2,⟨hk.1.1.1.1,⟨hk.1.1.1.2.1,hk.1.1.1.2.2⟩⟩⟩⟩⟩))),(qR (Kd.R_mono HO_287002.out (fun _ hk => ⟨hk.1.1.2,⟨hk.1.2,⟨hk.2,⟨hk.1.1.1.1,⟨hk.1.1.1.2.1,hk.1.1.1.2.2⟩⟩⟩⟩⟩))),(qk BK247.out),(qk BK248.out),(qk BK267.out),(qk BK273.out),(qk BK279.out),(qk BK286.out),(qk BK324.out),GW324.out,GE324.out,NB247_324.out,NB324_247.out,NB248_324.out,NB324_248.out,NB267_324.out,NB324_267.out,NB273_324.out,NB324_273.out,NB279_324.out,NB324_279.out,NB286_324.out,NB324_286.out,qb⟩)
               ·skip
                refine box_step ?hg (N := 15) ?hd (cs := #[.int .i64 0,.int .i64 0,.slice none 0 0]) (t := 28) ?hr ?_; (case hd => rfl); (case hg => rfl); (case hr => first | (go_simp; done) | (go_simp; rfl))
                intro gb324 hg w187 hbox hb
                replace HO_268002 := y0.mk (Kd.R_below (qR HO_268002.out) hb)
                replace HO_274002 := y0.mk (Kd.R_below (qR HO_274002.out) hb)
                replace HO_280002 := y0.mk (Kd.R_below (qR HO_280002.out) hb)
                replace HO_287002 := y0.mk (Kd.R_below (qR HO_287002.out) hb)
                replace HO312 := y0.mk (Kd.R_below (qR HO312.out) hb)
                have BK324 := y0.mk (hbox)
                have GW324 := y0.mk (qg (w := w) hg)
                have GE324 := y0.mk (qg (w := w) hg)
                replace HB := y0.mk (y5 qb hb)
                have NB247_324 := y0.mk (qn BK247.out hg)
                have NB324_247 := y0.mk (qm BK247.out hg)
                replace BK247 := y0.mk (qK BK247.out hb)
                have NB248_324 := y0.mk (qn BK248.out hg)
                have NB324_248 := y0.mk (qm BK248.out hg)
                replace BK248 := y0.mk (qK BK248.out hb)
                have NB267_324 := y0.mk (qn BK267.out hg)
                have NB324_267 := y0.mk (qm BK267.out hg)
                replace BK267 := y0.mk (qK BK267.out hb)
                have NB273_324 := y0.mk (qn BK273.out hg)
                have NB324_273 := y0.mk (qm BK273.out hg)
                replace BK273 := y0.mk (qK BK273.out hb)
                have NB279_324 := y0.mk (qn BK279.out hg)
                have NB324_279 := y0.mk (qm BK279.out hg)
                replace BK279 := y0.mk (qK BK279.out hb)
                have NB286_324 := y0.mk (qn BK286.out hg)
                have NB324_286 := y0.mk (qm BK286.out hg)
                replace BK286 := y0.mk (qK BK286.out hb)
                clear hb hbox hg
                refine hK.out _ _ ⟨(y8 BK247.out 0).trans rfl,(y8 BK247.out 1).trans rfl,(y8 BK247.out 2).trans rfl,(y8 BK248.out 0).trans rfl,(y8 BK248.out 1).trans rfl,(y8 BK248.out 2).trans rfl⟩ (fun hHeld => ?_)
                clear hK K
                refine norm_ (a' := ?_) ?_ ?_
                rotate_left
                ·show Act.put _ (some 15) _ = _
                 simp only [Act.put,qS_,qZ_,qC_,y20,y19]
                 rfl
                refine one_ (i := 3) (N := some 98) (fl_ 11 271) rfl rfl (one_of HT_.out (by kernel_rfl)) (by decide) (fun K hK => ?_)
                refine goes_ Try.func9 (by kernel_rfl) rfl #[.agg #[.int .i64 a1_0,.int .i64 a1_1,.slice A1_2 l1_2.length c1_2]] (by rfl) rfl rfl qy0 ?_
                with_reducible refine (laws_toGraph.calls kj108 a1_0 a1_1 _ _ l1_2 t313 t314 t315 _ (qc (Kd.C_below HR1_2.out HB.out)) HC1_2.out A173.out).mono ?_
                rintro e w188 ⟨v316,rfl,ho0,hb⟩
                refine ⟨_,rfl, ?_⟩
                have HO317 := y0.mk (Kd.R_lower (Kd.R_new' (Kd.R_new' (Kd.R_new' (Kd.R_new' (Kd.R_new' ho0 (Kd.R_lt (qR HO_268002.out))) (Kd.R_lt (qR HO_274002.out))) (Kd.R_lt (qR HO_280002.out))) (Kd.R_lt (qR HO_287002.out))) (Kd.R_lt (qR HO312.out))) (y4 qb))
                replace HO_268002 := y0.mk (Kd.R_elder' (qR HO_268002.out) (Kd.R_base ho0) hb)
                replace HO_274002 := y0.mk (Kd.R_elder' (qR HO_274002.out) (Kd.R_base ho0) hb)
                replace HO_280002 := y0.mk (Kd.R_elder' (qR HO_280002.out) (Kd.R_base ho0) hb)
                replace HO_287002 := y0.mk (Kd.R_elder' (qR HO_287002.out) (Kd.R_base ho0) hb)
                replace HO312 := y0.mk (Kd.R_elder' (qR HO312.out) (Kd.R_base ho0) hb)
                replace BK247 := y0.mk (qK BK247.out hb)
                replace BK248 := y0.mk (qK BK248.out hb)
                replace BK267 := y0.mk (qK BK267.out hb)
                replace BK273 := y0.mk (qK BK273.out hb)
                replace BK279 := y0.mk (qK BK279.out hb)
                replace BK286 := y0.mk (qK BK286.out hb)
                replace BK324 := y0.mk (qK BK324.out hb)
                replace HB := y0.mk (y5 qb hb)
                (try clear hb)
                (try clear hb2)
                (try clear hk)
                (try clear hi)
                (try clear ho0)
                obtain ⟨Ao189,co189,eo189⟩ := Kd.R_slice HO312.out
                (first | subst eo189 | (injection eo189 with f1_ f2_ f3_; have f4_ := f1_.symm; have f5_ := f3_.symm; clear f1_ f2_ f3_; subst f4_; subst f5_))
                obtain ⟨Ao190,co190,eo190⟩ := Kd.R_slice HO317.out
                (first | subst eo190 | (injection eo190 with f1_ f2_ f3_; have f4_ := f1_.symm; have f5_ := f3_.symm; clear f1_ f2_ f3_; subst f4_; subst f5_))
                refine hK.out _ _ ⟨(y8 BK247.out 0).trans rfl,(y8 BK247.out 1).trans rfl,(y8 BK247.out 2).trans rfl,(y8 BK248.out 0).trans rfl,(y8 BK248.out 1).trans rfl,(y8 BK248.out 2).trans rfl⟩ (fun hHeld => ?_)
                clear hK K
                refine norm_ (a' := ?_) ?_ ?_
                rotate_left
                ·show Act.put _ (some 98) _ = _
                 simp only [Act.put,qS_,qZ_,qC_,y20,y19]
                 rfl
                refine one_ (i := 4) (N := some 99) (fl_ 11 287) rfl rfl (one_of HT_.out (by kernel_rfl)) (by decide) (fun K hK => ?_)
                refine goes_ Try.func10 (by kernel_rfl) rfl #[.agg #[.int .i64 t308,.int .i64 t309,.slice Ao189 t310.length co189],.agg #[.int .i64 t313,.int .i64 t314,.slice Ao190 t315.length co190]] (by rfl) rfl rfl qy0 ?_
                with_reducible refine (impl_Compose.calls kj108 t308 t309 _ _ t310 t313 t314 _ _ t315 t318 t319 t320 t323 _ (qc ((Kd.R_reads' HO312.out).2.2)) (by exact (Kd.R_reads' HO312.out).2.1) (qc ((Kd.R_reads' HO317.out).2.2)) (by exact (Kd.R_reads' HO317.out).2.1) A174.out).mono ?_
                rintro e w191 ⟨v321,rfl,ho0,hb⟩
                refine ⟨_,rfl, ?_⟩
                have HO322 := y0.mk (Kd.R_lower (Kd.R_new' (Kd.R_new' (Kd.R_new' (Kd.R_new' (Kd.R_new' (Kd.R_new' ho0 (Kd.R_lt (qR HO_268002.out))) (Kd.R_lt (qR HO_274002.out))) (Kd.R_lt (qR HO_280002.out))) (Kd.R_lt (qR HO_287002.out))) (Kd.R_lt (qR HO312.out))) (Kd.R_lt (qR HO317.out))) (y4 qb))
                replace HO_268002 := y0.mk (Kd.R_elder' (qR HO_268002.out) (Kd.R_base ho0) hb)
                replace HO_274002 := y0.mk (Kd.R_elder' (qR HO_274002.out) (Kd.R_base ho0) hb)
                replace HO_280002 := y0.mk (Kd.R_elder' (qR HO_280002.out) (Kd.R_base ho0) hb)
                replace HO_287002 := y0.mk (Kd.R_elder' (qR HO_287002.out) (Kd.R_base ho0) hb)
                replace HO312 := y0.mk (Kd.R_elder' (qR HO312.out) (Kd.R_base ho0) hb)
                replace HO317 := y0.mk (Kd.R_elder' (qR HO317.out) (Kd.R_base ho0) hb)
                replace BK247 := y0.mk (qK BK247.out hb)
                replace BK248 := y0.mk (qK BK248.out hb)
                replace BK267 := y0.mk (qK BK267.out hb)
                replace BK273 := y0.mk (qK BK273.out hb)
                replace BK279 := y0.mk (qK BK279.out hb)
                replace BK286 := y0.mk (qK BK286.out hb)
                replace BK324 := y0.mk (qK BK324.out hb)
                replace HB := y0.mk (y5 qb hb)
                (try clear hb)
                (try clear hb2)
                (try clear hk)
                (try clear hi)
                (try clear ho0)
                refine hK.out _ _ ⟨(y8 BK247.out 0).trans rfl,(y8 BK247.out 1).trans rfl,(y8 BK247.out 2).trans rfl,(y8 BK248.out 0).trans rfl,(y8 BK248.out 1).trans rfl,(y8 BK248.out 2).trans rfl⟩ (fun hHeld => ?_)
                clear hK K
                refine norm_ (a' := ?_) ?_ ?_
                rotate_left
                ·show Act.put _ (some 99) _ = _
                 simp only [Act.put,qS_,qZ_,qC_,y20,y19]
                 rfl
                refine qp 5 94 (fl_ 11 319) ?_
                refine qp 6 100 (fl_ 11 383) ?_
                refine qp 7 101 (fl_ 11 511) ?_
                exact norm_ qy3 (hCont (.slice Ao189 t310.length co189,.slice Ao190 t315.length co190,v321,gb324) _ ⟨hHeld,(qR (Kd.R_mono HO312.out (fun _ hk => ⟨hk.1.2,⟨hk.2,⟨hk.1.1.1.1.1.2,⟨hk.1.1.1.1.2,⟨hk.1.1.1.2,hk.1.1.2⟩⟩⟩⟩⟩))),(qR (Kd.R_mono HO317.out (fun _ hk => ⟨hk.1.2,⟨hk.2,⟨hk.1.1.1.1.1.2,⟨hk.1.1.1.1.2,⟨hk.1.1.1.2,hk.1.1.2⟩⟩⟩⟩⟩))),(qR (Kd.R_mono HO322.out (fun _ hk => ⟨hk.1.2,⟨hk.2,⟨hk.1.1.1.1.1.2,⟨hk.1.1.1.1.2,⟨hk.1.1.1.2,hk.1.1.2⟩⟩⟩⟩⟩))),(qR (Kd.R_mono HO_268002.out (fun _ hk => ⟨hk.1.1.2,⟨hk.1.2,⟨hk.2,⟨hk.1.1.1.1,⟨hk.1.1.1.2.1,hk.1.1.1.2.2⟩⟩⟩⟩⟩))),(qR (Kd.R_mono HO_274002.out (fun _ hk => ⟨hk.1.1.2,⟨hk.1.2,⟨hk.2,⟨hk.1.1.1.1,⟨hk.1.1.1.2.1,hk.1.1.1.2.2⟩⟩⟩⟩⟩))),(qR (Kd.R_mono HO_280002.out (fun _ hk => ⟨hk.1.1.2,⟨hk.1.2,⟨hk.2,⟨hk.1.1.1.1,⟨hk.1.1.1.2.1,hk.1.1.1.2.2⟩⟩⟩⟩⟩))),(qR (Kd.R_mono HO_287002.out (fun _ hk => ⟨hk.1.1.2,⟨hk.1.2,⟨hk.2,⟨hk.1.1.1.1,⟨hk.1.1.1.2.1,hk.1.1.1.2.2⟩⟩⟩⟩⟩))),(qk BK247.out),(qk BK248.out),(qk BK267.out),(qk BK273.out),(qk BK279.out),(qk BK286.out),(qk BK324.out),GW324.out,GE324.out,NB247_324.out,NB324_247.out,NB248_324.out,NB324_248.out,NB267_324.out,NB324_267.out,NB273_324.out,NB324_273.out,NB279_324.out,NB324_279.out,NB286_324.out,NB324_286.out,qb⟩)
              ·skip
               refine box_step ?hg (N := 15) ?hd (cs := #[.int .i64 0,.int .i64 0,.slice none 0 0]) (t := 28) ?hr ?_; (case hd => rfl); (case hg => rfl); (case hr => first | (go_simp; done) | (go_simp; rfl))
               intro gb324 hg w186 hbox hb
               replace HO_268002 := y0.mk (Kd.R_below (qR HO_268002.out) hb)
               replace HO_274002 := y0.mk (Kd.R_below (qR HO_274002.out) hb)
               replace HO_280002 := y0.mk (Kd.R_below (qR HO_280002.out) hb)
               replace HO_287002 := y0.mk (Kd.R_below (qR HO_287002.out) hb)
               have BK324 := y0.mk (hbox)
               have GW324 := y0.mk (qg (w := w) hg)
               have GE324 := y0.mk (qg (w := w) hg)
               replace HB := y0.mk (y5 qb hb)
               have NB247_324 := y0.mk (qn BK247.out hg)
               have NB324_247 := y0.mk (qm BK247.out hg)
               replace BK247 := y0.mk (qK BK247.out hb)
               have NB248_324 := y0.mk (qn BK248.out hg)
               have NB324_248 := y0.mk (qm BK248.out hg)
               replace BK248 := y0.mk (qK BK248.out hb)
               have NB267_324 := y0.mk (qn BK267.out hg)
               have NB324_267 := y0.mk (qm BK267.out hg)
               replace BK267 := y0.mk (qK BK267.out hb)
               have NB273_324 := y0.mk (qn BK273.out hg)
               have NB324_273 := y0.mk (qm BK273.out hg)
               replace BK273 := y0.mk (qK BK273.out hb)
               have NB279_324 := y0.mk (qn BK279.out hg)
               have NB324_279 := y0.mk (qm BK279.out hg)
               replace BK279 := y0.mk (qK BK279.out hb)
               have NB286_324 := y0.mk (qn BK286.out hg)
               have NB324_286 := y0.mk (qm BK286.out hg)
               replace BK286 := y0.mk (qK BK286.out hb)
               clear hb hbox hg
               refine hK.out _ _ ⟨(y8 BK247.out 0).trans rfl,(y8 BK247.out 1).trans rfl,(y8 BK247.out 2).trans rfl,(y8 BK248.out 0).trans rfl,(y8 BK248.out 1).trans rfl,(y8 BK248.out 2).trans rfl⟩ (fun hHeld => ?_)
               clear hK K
               refine norm_ (a' := ?_) ?_ ?_
               rotate_left
               ·show Act.put _ (some 15) _ = _
                simp only [Act.put,qS_,qZ_,qC_,y20,y19]
                rfl
               refine one_ (i := 1) (N := some 96) (fl_ 11 263) rfl rfl (one_of HT_.out (by kernel_rfl)) (by decide) (fun K hK => ?_)
               refine goes_ Try.func9 (by kernel_rfl) rfl #[.agg #[.int .i64 a0_0,.int .i64 a0_1,.slice A0_2 l0_2.length c0_2]] (by rfl) rfl rfl qy0 ?_
               with_reducible refine (laws_toGraph.calls kj108 a0_0 a0_1 _ _ l0_2 t308 t309 t310 _ (qc (Kd.C_below HR0_2.out HB.out)) HC0_2.out A172.out).mono ?_
               rintro e w187 ⟨v311,rfl,ho0,hb⟩
               refine ⟨_,rfl, ?_⟩
               have HO312 := y0.mk (Kd.R_lower (Kd.R_new' (Kd.R_new' (Kd.R_new' (Kd.R_new' ho0 (Kd.R_lt (qR HO_268002.out))) (Kd.R_lt (qR HO_274002.out))) (Kd.R_lt (qR HO_280002.out))) (Kd.R_lt (qR HO_287002.out))) (y4 qb))
               replace HO_268002 := y0.mk (Kd.R_elder' (qR HO_268002.out) (Kd.R_base ho0) hb)
               replace HO_274002 := y0.mk (Kd.R_elder' (qR HO_274002.out) (Kd.R_base ho0) hb)
               replace HO_280002 := y0.mk (Kd.R_elder' (qR HO_280002.out) (Kd.R_base ho0) hb)
               replace HO_287002 := y0.mk (Kd.R_elder' (qR HO_287002.out) (Kd.R_base ho0) hb)
               replace BK247 := y0.mk (qK BK247.out hb)
               replace BK248 := y0.mk (qK BK248.out hb)
               replace BK267 := y0.mk (qK BK267.out hb)
               replace BK273 := y0.mk (qK BK273.out hb)
               replace BK279 := y0.mk (qK BK279.out hb)
               replace BK286 := y0.mk (qK BK286.out hb)
               replace BK324 := y0.mk (qK BK324.out hb)
               replace HB := y0.mk (y5 qb hb)
               (try clear hb)
               (try clear hb2)
               (try clear hk)
               (try clear hi)
               (try clear ho0)
               refine hK.out _ _ ⟨(y8 BK247.out 0).trans rfl,(y8 BK247.out 1).trans rfl,(y8 BK247.out 2).trans rfl,(y8 BK248.out 0).trans rfl,(y8 BK248.out 1).trans rfl,(y8 BK248.out 2).trans rfl⟩ (fun hHeld => ?_)
               clear hK K
               refine norm_ (a' := ?_) ?_ ?_
               rotate_left
               ·show Act.put _ (some 96) _ = _
                simp only [Act.put,qS_,qZ_,qC_,y20,y19]
                rfl
               refine one_ (i := 3) (N := some 98) (fl_ 11 271) rfl rfl (one_of HT_.out (by kernel_rfl)) (by decide) (fun K hK => ?_)
               refine goes_ Try.func9 (by kernel_rfl) rfl #[.agg #[.int .i64 a1_0,.int .i64 a1_1,.slice A1_2 l1_2.length c1_2]] (by rfl) rfl rfl qy0 ?_
               with_reducible refine (laws_toGraph.calls kj108 a1_0 a1_1 _ _ l1_2 t313 t314 t315 _ (qc (Kd.C_below HR1_2.out HB.out)) HC1_2.out A173.out).mono ?_
               rintro e w188 ⟨v316,rfl,ho0,hb⟩
               refine ⟨_,rfl, ?_⟩
               have HO317 := y0.mk (Kd.R_lower (Kd.R_new' (Kd.R_new' (Kd.R_new' (Kd.R_new' (Kd.R_new' ho0 (Kd.R_lt (qR HO_268002.out))) (Kd.R_lt (qR HO_274002.out))) (Kd.R_lt (qR HO_280002.out))) (Kd.R_lt (qR HO_287002.out))) (Kd.R_lt (qR HO312.out))) (y4 qb))
               replace HO_268002 := y0.mk (Kd.R_elder' (qR HO_268002.out) (Kd.R_base ho0) hb)
               replace HO_274002 := y0.mk (Kd.R_elder' (qR HO_274002.out) (Kd.R_base ho0) hb)
               replace HO_280002 := y0.mk (Kd.R_elder' (qR HO_280002.out) (Kd.R_base ho0) hb)
               replace HO_287002 := y0.mk (Kd.R_elder' (qR HO_287002.out) (Kd.R_base ho0) hb)
               replace HO312 := y0.mk (Kd.R_elder' (qR HO312.out) (Kd.R_base ho0) hb)
               replace BK247 := y0.mk (qK BK247.out hb)
               replace BK248 := y0.mk (qK BK248.out hb)
               replace BK267 := y0.mk (qK BK267.out hb)
               replace BK273 := y0.mk (qK BK273.out hb)
               replace BK279 := y0.mk (qK BK279.out hb)
               replace BK286 := y0.mk (qK BK286.out hb)
               replace BK324 := y0.mk (qK BK324.out hb)
               replace HB := y0.mk (y5 qb hb)
               (try clear hb)
               (try clear hb2)
               (try clear hk)
               (try clear hi)
               (try clear ho0)
               obtain ⟨Ao189,co189,eo189⟩ := Kd.R_slice HO312.out
               (first | subst eo189 | (injection eo189 with f1_ f2_ f3_; have f4_ := f1_.symm; have f5_ := f3_.symm; clear f1_ f2_ f3_; subst f4_; subst f5_))
               obtain ⟨Ao190,co190,eo190⟩ := Kd.R_slice HO317.out
               (first | subst eo190 | (injection eo190 with f1_ f2_ f3_; have f4_ := f1_.symm; have f5_ := f3_.symm; clear f1_ f2_ f3_; subst f4_; subst f5_))
               refine hK.out _ _ ⟨(y8 BK247.out 0).trans rfl,(y8 BK247.out 1).trans rfl,(y8 BK247.out 2).trans rfl,(y8 BK248.out 0).trans rfl,(y8 BK248.out 1).trans rfl,(y8 BK248.out 2).trans rfl⟩ (fun hHeld => ?_)
               clear hK K
               refine norm_ (a' := ?_) ?_ ?_
               rotate_left
               ·show Act.put _ (some 98) _ = _
                simp only [Act.put,qS_,qZ_,qC_,y20,y19]
                rfl
               refine one_ (i := 4) (N := some 99) (fl_ 11 287) rfl rfl (one_of HT_.out (by kernel_rfl)) (by decide) (fun K hK => ?_)
               refine goes_ Try.func10 (by kernel_rfl) rfl #[.agg #[.int .i64 t308,.int .i64 t309,.slice Ao189 t310.length co189],.agg #[.int .i64 t313,.int .i64 t314,.slice Ao190 t315.length co190]] (by rfl) rfl rfl qy0 ?_
               with_reducible refine (impl_Compose.calls kj108 t308 t309 _ _ t310 t313 t314 _ _ t315 t318 t319 t320 t323 _ (qc ((Kd.R_reads' HO312.out).2.2)) (by exact (Kd.R_reads' HO312.out).2.1) (qc ((Kd.R_reads' HO317.out).2.2)) (by exact (Kd.R_reads' HO317.out).2.1) A174.out).mono ?_
               rintro e w191 ⟨v321,rfl,ho0,hb⟩
               refine ⟨_,rfl, ?_⟩
               have HO322 := y0.mk (Kd.R_lower (Kd.R_new' (Kd.R_new' (Kd.R_new' (Kd.R_new' (Kd.R_new' (Kd.R_new' ho0 (Kd.R_lt (qR HO_268002.out))) (Kd.R_lt (qR HO_274002.out))) (Kd.R_lt (qR HO_280002.out))) (Kd.R_lt (qR HO_287002.out))) (Kd.R_lt (qR HO312.out))) (Kd.R_lt (qR HO317.out))) (y4 qb))
               replace HO_268002 := y0.mk (Kd.R_elder' (qR HO_268002.out) (Kd.R_base ho0) hb)
               replace HO_274002 := y0.mk (Kd.R_elder' (qR HO_274002.out) (Kd.R_base ho0) hb)
               replace HO_280002 := y0.mk (Kd.R_elder' (qR HO_280002.out) (Kd.R_base ho0) hb)
               replace HO_287002 := y0.mk (Kd.R_elder' (qR HO_287002.out) (Kd.R_base ho0) hb)
               replace HO312 := y0.mk (Kd.R_elder' (qR HO312.out) (Kd.R_base ho0) hb)
               replace HO317 := y0.mk (Kd.R_elder' (qR HO317.out) (Kd.R_base ho0) hb)
               replace BK247 := y0.mk (qK BK247.out hb)
               replace BK248 := y0.mk (qK BK248.out hb)
               replace BK267 := y0.mk (qK BK267.out hb)
               replace BK273 := y0.mk (qK BK273.out hb)
               replace BK279 := y0.mk (qK BK279.out hb)
               replace BK286 := y0.mk (qK BK286.out hb)
               replace BK324 := y0.mk (qK BK324.out hb)
               replace HB := y0.mk (y5 qb hb)
               (try clear hb)
               (try clear hb2)
               (try clear hk)
               (try clear hi)
               (try clear ho0)
               refine hK.out _ _ ⟨(y8 BK247.out 0).trans rfl,(y8 BK247.out 1).trans rfl,(y8 BK247.out 2).trans rfl,(y8 BK248.out 0).trans rfl,(y8 BK248.out 1).trans rfl,(y8 BK248.out 2).trans rfl⟩ (fun hHeld => ?_)
               clear hK K
               refine norm_ (a' := ?_) ?_ ?_
               rotate_left
               ·show Act.put _ (some 99) _ = _
                simp only [Act.put,qS_,qZ_,qC_,y20,y19]
                rfl
               refine qp 5 94 (fl_ 11 319) ?_
               refine qp 6 100 (fl_ 11 383) ?_
               refine qp 7 101 (fl_ 11 511) ?_
               exact norm_ qy3 (hCont (.slice Ao189 t310.length co189,.slice Ao190 t315.length co190,v321,gb324) _ ⟨hHeld,(qR (Kd.R_mono HO312.out (fun _ hk => ⟨hk.1.2,⟨hk.2,⟨hk.1.1.1.1.1.2,⟨hk.1.1.1.1.2,⟨hk.1.1.1.2,hk.1.1.2⟩⟩⟩⟩⟩))),(qR (Kd.R_mono HO317.out (fun _ hk => ⟨hk.1.2,⟨hk.2,⟨hk.1.1.1.1.1.2,⟨hk.1.1.1.1.2,⟨hk.1.1.1.2,hk.1.1.2⟩⟩⟩⟩⟩))),(qR (Kd.R_mono HO322.out (fun _ hk => ⟨hk.1.2,⟨hk.2,⟨hk.1.1.1.1.1.2,⟨hk.1.1.1.1.2,⟨hk.1.1.1.2,hk.1.1.2⟩⟩⟩⟩⟩))),(qR (Kd.R_mono HO_268002.out (fun _ hk => ⟨hk.1.1.2,⟨hk.1.2,⟨hk.2,⟨hk.1.1.1.1,⟨hk.1.1.1.2.1,hk.1.1.1.2.2⟩⟩⟩⟩⟩))),(qR (Kd.R_mono HO_274002.out (fun _ hk => ⟨hk.1.1.2,⟨hk.1.2,⟨hk.2,⟨hk.1.1.1.1,⟨hk.1.1.1.2.1,hk.1.1.1.2.2⟩⟩⟩⟩⟩))),(qR (Kd.R_mono HO_280002.out (fun _ hk => ⟨hk.1.1.2,⟨hk.1.2,⟨hk.2,⟨hk.1.1.1.1,⟨hk.1.1.1.2.1,hk.1.1.1.2.2⟩⟩⟩⟩⟩))),(qR (Kd.R_mono HO_287002.out (fun _ hk => ⟨hk.1.1.2,⟨hk.1.2,⟨hk.2,⟨hk.1.1.1.1,⟨hk.1.1.1.2.1,hk.1.1.1.2.2⟩⟩⟩⟩⟩))),(qk BK247.out),(qk BK248.out),(qk BK267.out),(qk BK273.out),(qk BK279.out),(qk BK286.out),(qk BK324.out),GW324.out,GE324.out,NB247_324.out,NB324_247.out,NB248_324.out,NB324_248.out,NB267_324.out,NB324_267.out,NB273_324.out,NB324_273.out,NB279_324.out,NB324_279.out,NB286_324.out,NB324_286.out,qb⟩)
             rintro ⟨v311,v316,v321,gb324⟩ w192 ⟨hS_,h0_,h1_,h2_,h3_,h4_,h5_,h6_,h7_,h8_,h9_,h10_,h11_,h12_,h13_,h14_,h15_,h16_,h17_,h18_,h19_,h20_,h21_,h22_,h23_,h24_,h25_,h26_,h27_,h28_⟩
             have n0_ : y0 (Kd.R k53 53 w192 w.heap.size (fun k_ => some k_ ≠ (v316 : Value).ownBlock ∧ some k_ ≠ (v321 : Value).ownBlock ∧ some k_ ≠ (.slice Ao43 t263.length co43 : Value).ownBlock ∧ some k_ ≠ (.slice Ao53 t301.length co53 : Value).ownBlock ∧ some k_ ≠ (.slice Ao63 t303.length co63 : Value).ownBlock ∧ some k_ ≠ (.slice Ao73 t282.length co73 : Value).ownBlock) v311 t310) := ⟨h0_⟩
             have n1_ : y0 (Kd.R k53 53 w192 w.heap.size (fun k_ => some k_ ≠ (v311 : Value).ownBlock ∧ some k_ ≠ (v321 : Value).ownBlock ∧ some k_ ≠ (.slice Ao43 t263.length co43 : Value).ownBlock ∧ some k_ ≠ (.slice Ao53 t301.length co53 : Value).ownBlock ∧ some k_ ≠ (.slice Ao63 t303.length co63 : Value).ownBlock ∧ some k_ ≠ (.slice Ao73 t282.length co73 : Value).ownBlock) v316 t315) := ⟨h1_⟩
             have n2_ : y0 (Kd.R k53 53 w192 w.heap.size (fun k_ => some k_ ≠ (v311 : Value).ownBlock ∧ some k_ ≠ (v316 : Value).ownBlock ∧ some k_ ≠ (.slice Ao43 t263.length co43 : Value).ownBlock ∧ some k_ ≠ (.slice Ao53 t301.length co53 : Value).ownBlock ∧ some k_ ≠ (.slice Ao63 t303.length co63 : Value).ownBlock ∧ some k_ ≠ (.slice Ao73 t282.length co73 : Value).ownBlock) v321 t320) := ⟨h2_⟩
             have n3_ : y0 (Kd.R k53 53 w192 w.heap.size (fun k_ => some k_ ≠ (v311 : Value).ownBlock ∧ some k_ ≠ (v316 : Value).ownBlock ∧ some k_ ≠ (v321 : Value).ownBlock ∧ some k_ ≠ (.slice Ao53 t301.length co53 : Value).ownBlock ∧ some k_ ≠ (.slice Ao63 t303.length co63 : Value).ownBlock ∧ some k_ ≠ (.slice Ao73 t282.length co73 : Value).ownBlock) (.slice Ao43 t263.length co43) t263) := ⟨h3_⟩
             have n4_ : y0 (Kd.R k53 53 w192 w.heap.size (fun k_ => some k_ ≠ (v311 : Value).ownBlock ∧ some k_ ≠ (v316 : Value).ownBlock ∧ some k_ ≠ (v321 : Value).ownBlock ∧ some k_ ≠ (.slice Ao43 t263.length co43 : Value).ownBlock ∧ some k_ ≠ (.slice Ao63 t303.length co63 : Value).ownBlock ∧ some k_ ≠ (.slice Ao73 t282.length co73 : Value).ownBlock) (.slice Ao53 t301.length co53) t301) := ⟨h4_⟩
             have n5_ : y0 (Kd.R k53 53 w192 w.heap.size (fun k_ => some k_ ≠ (v311 : Value).ownBlock ∧ some k_ ≠ (v316 : Value).ownBlock ∧ some k_ ≠ (v321 : Value).ownBlock ∧ some k_ ≠ (.slice Ao43 t263.length co43 : Value).ownBlock ∧ some k_ ≠ (.slice Ao53 t301.length co53 : Value).ownBlock ∧ some k_ ≠ (.slice Ao73 t282.length co73 : Value).ownBlock) (.slice Ao63 t303.length co63) t303) := ⟨h5_⟩
             have n6_ : y0 (Kd.R k53 53 w192 w.heap.size (fun k_ => some k_ ≠ (v311 : Value).ownBlock ∧ some k_ ≠ (v316 : Value).ownBlock ∧ some k_ ≠ (v321 : Value).ownBlock ∧ some k_ ≠ (.slice Ao43 t263.length co43 : Value).ownBlock ∧ some k_ ≠ (.slice Ao53 t301.length co53 : Value).ownBlock ∧ some k_ ≠ (.slice Ao63 t303.length co63 : Value).ownBlock) (.slice Ao73 t282.length co73) t306) := ⟨h6_⟩
             have n7_ : y0 (w192.heap[gb247]? = some (.cells #[.int .i64 a0_0,.int .i64 a0_1,.slice A0_2 l0_2.length c0_2] 24 (0,0))) := ⟨h7_⟩
             have n8_ : y0 (w192.heap[gb248]? = some (.cells #[.int .i64 a1_0,.int .i64 a1_1,.slice A1_2 l1_2.length c1_2] 24 (0,0))) := ⟨h8_⟩
             have n9_ : y0 (w192.heap[gb267]? = some (.cells #[.int .i64 t261,.int .i64 t262,.slice Ao43 t263.length co43] 28 (0,0))) := ⟨h9_⟩
             have n10_ : y0 (w192.heap[gb273]? = some (.cells #[.int .i64 t268,.int .i64 t269,.slice Ao53 t301.length co53] 28 (0,0))) := ⟨h10_⟩
             have n11_ : y0 (w192.heap[gb279]? = some (.cells #[.int .i64 t274,.int .i64 t275,.slice Ao63 t303.length co63] 28 (0,0))) := ⟨h11_⟩
             have n12_ : y0 (w192.heap[gb286]? = some (.cells #[.int .i64 t280,.int .i64 t281,.slice Ao73 t282.length co73] 28 (0,0))) := ⟨h12_⟩
             have n13_ : y0 (w192.heap[gb324]? = some (.cells #[.int .i64 0,.int .i64 0,.slice none 0 0] 28 (0,0))) := ⟨h13_⟩
             have n14_ : y0 (w.heap.size ≤ gb324) := ⟨h14_⟩
             have n15_ : y0 (w.heap.size ≤ gb324) := ⟨h15_⟩
             have n16_ : y0 (gb247 ≠ gb324) := ⟨h16_⟩
             have n17_ : y0 (gb324 ≠ gb247) := ⟨h17_⟩
             have n18_ : y0 (gb248 ≠ gb324) := ⟨h18_⟩
             have n19_ : y0 (gb324 ≠ gb248) := ⟨h19_⟩
             have n20_ : y0 (gb267 ≠ gb324) := ⟨h20_⟩
             have n21_ : y0 (gb324 ≠ gb267) := ⟨h21_⟩
             have n22_ : y0 (gb273 ≠ gb324) := ⟨h22_⟩
             have n23_ : y0 (gb324 ≠ gb273) := ⟨h23_⟩
             have n24_ : y0 (gb279 ≠ gb324) := ⟨h24_⟩
             have n25_ : y0 (gb324 ≠ gb279) := ⟨h25_⟩
             have n26_ : y0 (gb286 ≠ gb324) := ⟨h26_⟩
             have n27_ : y0 (gb324 ≠ gb286) := ⟨h27_⟩
             have n28_ : y0 (Below w.heap.size w w192) := ⟨h28_⟩
             clear HO_268002
             clear HO_274002
             clear HO_280002
             clear HO_287002
             clear BK247
             clear BK248
             clear BK267
             clear BK273
             clear BK279
             clear BK286
             clear HB
             clear h0_ h1_ h2_ h3_ h4_ h5_ h6_ h7_ h8_ h9_ h10_ h11_ h12_ h13_ h14_ h15_ h16_ h17_ h18_ h19_ h20_ h21_ h22_ h23_ h24_ h25_ h26_ h27_ h28_
             have HO312 := n0_
             have HO317 := n1_
             have HO322 := n2_
             have HO_268002 := n3_
             have HO_274002 := n4_
             have HO_280002 := n5_
             have HO_287002 := n6_
             have BK247 := n7_
             have BK248 := n8_
             have BK267 := n9_
             have BK273 := n10_
             have BK279 := n11_
             have BK286 := n12_
             have BK324 := n13_
             have GW324 := n14_
             have GE324 := n15_
             have NB247_324 := n16_
             have NB324_247 := n17_
             have NB248_324 := n18_
             have NB324_248 := n19_
             have NB267_324 := n20_
             have NB324_267 := n21_
             have NB273_324 := n22_
             have NB324_273 := n23_
             have NB279_324 := n24_
             have NB324_279 := n25_
             have NB286_324 := n26_
             have NB324_286 := n27_
             have HB := n28_
             clear n0_ n1_ n2_ n3_ n4_ n5_ n6_ n7_ n8_ n9_ n10_ n11_ n12_ n13_ n14_ n15_ n16_ n17_ n18_ n19_ n20_ n21_ n22_ n23_ n24_ n25_ n26_ n27_ n28_
             have hHeld : w192.cell? ⟨gb247,0,none⟩ = some (.int .i64 a0_0) ∧ w192.cell? ⟨gb247,1,none⟩ = some (.int .i64 a0_1) ∧ w192.cell? ⟨gb247,2,none⟩ = some (.slice A0_2 l0_2.length c0_2) ∧ w192.cell? ⟨gb248,0,none⟩ = some (.int .i64 a1_0) ∧ w192.cell? ⟨gb248,1,none⟩ = some (.int .i64 a1_1) ∧ w192.cell? ⟨gb248,2,none⟩ = some (.slice A1_2 l1_2.length c1_2) := hS_
             obtain ⟨Ao195,co195,eo195⟩ := Kd.R_slice HO322.out
             (first | subst eo195 | (injection eo195 with f1_ f2_ f3_; have f4_ := f1_.symm; have f5_ := f3_.symm; clear f1_ f2_ f3_; subst f4_; subst f5_))
             refine norm_ (a' := ?_) ?_ ?_
             rotate_left
             ·simp only [putAll,Act.put,qS_,qZ_,qC_]
              rfl
             refine one_ (i := 9) (N := none) (fl_ 11 1023) rfl rfl (one_of HT_.out (by kernel_rfl)) (by decide) (fun K hK => ?_)
             have hs193 : w192.cell? ⟨gb324,0,none⟩ = some (.int .i64 0) := (y8 BK324.out 0).trans rfl
             have hfs193 := y13 BK324.out 0
             have hns193_0 := NB247_324.out
             have hns193_1 := NB248_324.out
             have hns193_2 := NB267_324.out
             have hns193_3 := NB273_324.out
             have hns193_4 := NB279_324.out
             have hns193_5 := NB286_324.out
             have hms193_0 := NB324_247.out
             have hms193_1 := NB324_248.out
             have hms193_2 := NB324_267.out
             have hms193_3 := NB324_273.out
             have hms193_4 := NB324_279.out
             have hms193_5 := NB324_286.out
             have hs194 : w192.cell? ⟨gb324,1,none⟩ = some (.int .i64 0) := (y8 BK324.out 1).trans rfl
             have hfs194 := y13 BK324.out 1
             have hns194_0 := NB247_324.out
             have hns194_1 := NB248_324.out
             have hns194_2 := NB267_324.out
             have hns194_3 := NB273_324.out
             have hns194_4 := NB279_324.out
             have hns194_5 := NB286_324.out
             have hms194_0 := NB324_247.out
             have hms194_1 := NB324_248.out
             have hms194_2 := NB324_267.out
             have hms194_3 := NB324_273.out
             have hms194_4 := NB324_279.out
             have hms194_5 := NB324_286.out
             have hs196 : w192.cell? ⟨gb324,2,none⟩ = some (.slice none 0 0) := (y8 BK324.out 2).trans rfl
             have hfs196 := y13 BK324.out 2
             have hns196_0 := NB247_324.out
             have hns196_1 := NB248_324.out
             have hns196_2 := NB267_324.out
             have hns196_3 := NB273_324.out
             have hns196_4 := NB279_324.out
             have hns196_5 := NB286_324.out
             have hms196_0 := NB324_247.out
             have hms196_1 := NB324_248.out
             have hms196_2 := NB324_267.out
             have hms196_3 := NB324_273.out
             have hms196_4 := NB324_279.out
             have hms196_5 := NB324_286.out
             refine skip_ (w1 := ?_) (by rfl) rfl ?_ ?_
             rotate_left
             ·go_simp
              rfl
             refine hK.out _ _ ⟨((cell_far (p := ⟨gb324,_,none⟩) NB247_324.out _).trans (((cell_far (p := ⟨gb324,_,none⟩) NB247_324.out _).trans (((cell_far (p := ⟨gb324,_,none⟩) NB247_324.out _).trans (hHeld.1)))))),((cell_far (p := ⟨gb324,_,none⟩) NB247_324.out _).trans (((cell_far (p := ⟨gb324,_,none⟩) NB247_324.out _).trans (((cell_far (p := ⟨gb324,_,none⟩) NB247_324.out _).trans (hHeld.2.1)))))),((cell_far (p := ⟨gb324,_,none⟩) NB247_324.out _).trans (((cell_far (p := ⟨gb324,_,none⟩) NB247_324.out _).trans (((cell_far (p := ⟨gb324,_,none⟩) NB247_324.out _).trans (hHeld.2.2.1)))))),((cell_far (p := ⟨gb324,_,none⟩) NB248_324.out _).trans (((cell_far (p := ⟨gb324,_,none⟩) NB248_324.out _).trans (((cell_far (p := ⟨gb324,_,none⟩) NB248_324.out _).trans (hHeld.2.2.2.1)))))),((cell_far (p := ⟨gb324,_,none⟩) NB248_324.out _).trans (((cell_far (p := ⟨gb324,_,none⟩) NB248_324.out _).trans (((cell_far (p := ⟨gb324,_,none⟩) NB248_324.out _).trans (hHeld.2.2.2.2.1)))))),((cell_far (p := ⟨gb324,_,none⟩) NB248_324.out _).trans (((cell_far (p := ⟨gb324,_,none⟩) NB248_324.out _).trans (((cell_far (p := ⟨gb324,_,none⟩) NB248_324.out _).trans (hHeld.2.2.2.2.2))))))⟩ (fun hHeld => ?_)
             clear hK K
             refine qp 10 16 (fl_ 11 2047) ?_
             refine done_ (done_of HT_.out (by kernel_rfl)) ?_
             go_upto_region 32 with (fail)
             go_cut [110] (fun v110 wc => ∃ (kq : Nat) (x110_174 : Bool),v110 = .bool x110_174 ∧ y0 (laws_FnExactCompose.j2 kq t305 x110_174 t280 t281 t306 = some r) ∧ y0 (kq ≤ kj108) ∧ y0 (Kd.R k53 53 wc w.heap.size (fun k_ => some k_ ≠ ((.slice Ao53 t301.length co53) : Value).ownBlock ∧ some k_ ≠ ((.slice Ao63 t303.length co63) : Value).ownBlock ∧ some k_ ≠ ((.slice Ao73 t282.length co73) : Value).ownBlock ∧ some k_ ≠ ((.slice Ao195 t320.length co195) : Value).ownBlock) (.slice Ao43 t263.length co43) t263) ∧ y0 (Kd.R k53 53 wc w.heap.size (fun k_ => some k_ ≠ ((.slice Ao43 t263.length co43) : Value).ownBlock ∧ some k_ ≠ ((.slice Ao63 t303.length co63) : Value).ownBlock ∧ some k_ ≠ ((.slice Ao73 t282.length co73) : Value).ownBlock ∧ some k_ ≠ ((.slice Ao195 t320.length co195) : Value).ownBlock) (.slice Ao53 t301.length co53) t301) ∧ y0 (Kd.R k53 53 wc w.heap.size (fun k_ => some k_ ≠ ((.slice Ao43 t263.length co43) : Value).ownBlock ∧ some k_ ≠ ((.slice Ao53 t301.length co53) : Value).ownBlock ∧ some k_ ≠ ((.slice Ao73 t282.length co73) : Value).ownBlock ∧ some k_ ≠ ((.slice Ao195 t320.length co195) : Value).ownBlock) (.slice Ao63 t303.length co63) t303) ∧ y0 (Kd.R k53 53 wc w.heap.size (fun k_ => some k_ ≠ ((.slice Ao43 t263.length co43) : Value).ownBlock ∧ some k_ ≠ ((.slice Ao53 t301.length co53) : Value).ownBlock ∧ some k_ ≠ ((.slice Ao63 t303.length co63) : Value).ownBlock ∧ some k_ ≠ ((.slice Ao195 t320.length co195) : Value).ownBlock) (.slice Ao73 t282.length co73) t306) ∧ y0 (Kd.R k53 53 wc w.heap.size (fun k_ => some k_ ≠ ((.slice Ao43 t263.length co43) : Value).ownBlock ∧ some k_ ≠ ((.slice Ao53 t301.length co53) : Value).ownBlock ∧ some k_ ≠ ((.slice Ao63 t303.length co63) : Value).ownBlock ∧ some k_ ≠ ((.slice Ao73 t282.length co73) : Value).ownBlock) (.slice Ao195 t320.length co195) t320) ∧ y0 (wc.heap[gb247]? = some (.cells #[.int .i64 a0_0,.int .i64 a0_1,(.slice A0_2 l0_2.length c0_2)] 24 (0,0))) ∧ y0 (wc.heap[gb248]? = some (.cells #[.int .i64 a1_0,.int .i64 a1_1,(.slice A1_2 l1_2.length c1_2)] 24 (0,0))) ∧ y0 (wc.heap[gb267]? = some (.cells #[.int .i64 t261,.int .i64 t262,(.slice Ao43 t263.length co43)] 28 (0,0))) ∧ y0 (wc.heap[gb273]? = some (.cells #[.int .i64 t268,.int .i64 t269,(.slice Ao53 t301.length co53)] 28 (0,0))) ∧ y0 (wc.heap[gb279]? = some (.cells #[.int .i64 t274,.int .i64 t275,(.slice Ao63 t303.length co63)] 28 (0,0))) ∧ y0 (wc.heap[gb286]? = some (.cells #[.int .i64 t280,.int .i64 t281,(.slice Ao73 t282.length co73)] 28 (0,0))) ∧ y0 (wc.heap[gb324]? = some (.cells #[.int .i64 t318,.int .i64 t319,(.slice Ao195 t320.length co195)] 28 (0,0))) ∧ y0 (Below w.heap.size w wc))
             case first =>
              have H := HC175.out
              clear HC175
              obtain ⟨t325,A197,H⟩ := qB H
              by_cases c198 : t325 = true
              ·subst c198
               replace H := qT H
               have H' := y0.mk H
               clear H
               have hnb199 := NB324_247.out
               have hnc199 := NB247_324.out
               have hnb200 := NB324_248.out
               have hnc200 := NB248_324.out
               have hnb201 := NB324_267.out
               have hnc201 := NB267_324.out
               have hnb202 := NB324_273.out
               have hnc202 := NB273_324.out
               have hnb203 := NB324_279.out
               have hnc203 := NB279_324.out
               have hnb204 := NB324_286.out
               have hnc204 := NB286_324.out
               obtain ⟨hcz205_0,hcz205_1,hcz205_2,hfz205_0,hfz205_1,hfz205_2⟩ := qz3 BK324.out
               have hnb206 := NB267_247.out
               have hnc206 := NB247_267.out
               have hnb207 := NB267_248.out
               have hnc207 := NB248_267.out
               have hnb208 := NB267_273.out
               have hnc208 := NB273_267.out
               have hnb209 := NB267_279.out
               have hnc209 := NB279_267.out
               have hnb210 := NB267_286.out
               have hnc210 := NB286_267.out
               obtain ⟨hcz211_0,hcz211_1,hcz211_2,hfz211_0,hfz211_1,hfz211_2⟩ := qz3 BK267.out
               go_wp2_with (first | ((with_reducible refine y17 (f := 11) rfl ?_); refine goesL_ (some 104) rfl rfl Try.func11 (by kernel_rfl) rfl #[.agg #[.int .i64 t318,.int .i64 t319,.slice Ao195 t320.length co195],.agg #[.int .i64 t261,.int .i64 t262,.slice Ao43 t263.length co43]] rfl qy0 ?_; (with_reducible refine (laws_eqGraph.calls kj108 t318 t319 _ _ t320 t261 t262 _ _ t263 true _ (by refine (Kd.R_reads' (e := 53) (base := w.heap.size) (ok := fun k_ => (some k_ ≠ (v311 : Value).ownBlock ∧ (some k_ ≠ (v316 : Value).ownBlock ∧ (some k_ ≠ (.slice Ao43 t263.length co43 : Value).ownBlock ∧ (some k_ ≠ (.slice Ao53 t301.length co53 : Value).ownBlock ∧ (some k_ ≠ (.slice Ao63 t303.length co63 : Value).ownBlock ∧ some k_ ≠ (.slice Ao73 t282.length co73 : Value).ownBlock)))))) (n := t320.length) (c := co195) ?_).2.2; exact (qR ((Kd.R_mono (Kd.R_far (p := ⟨gb324,2,none⟩) (Kd.R_far (p := ⟨gb324,1,none⟩) (Kd.R_far (p := ⟨gb324,0,none⟩) (Kd.R_types HO322.out BK324.out (by decide)) (fun _ hk => hk.2) (.int .i64 t318)) (fun _ hk => hk.2) (.int .i64 t319)) (fun _ hk => hk.2) (.slice Ao195 t320.length co195)) (fun _ h_ => h_.1))))) (by exact (Kd.R_reads' HO322.out).2.1) (by refine (Kd.R_reads' (e := 53) (base := w.heap.size) (ok := fun k_ => (some k_ ≠ (v311 : Value).ownBlock ∧ (some k_ ≠ (v316 : Value).ownBlock ∧ (some k_ ≠ (.slice Ao195 t320.length co195 : Value).ownBlock ∧ (some k_ ≠ (.slice Ao53 t301.length co53 : Value).ownBlock ∧ (some k_ ≠ (.slice Ao63 t303.length co63 : Value).ownBlock ∧ some k_ ≠ (.slice Ao73 t282.length co73 : Value).ownBlock)))))) (n := t263.length) (c := co43) ?_).2.2; exact (qR ((Kd.R_mono (Kd.R_far (p := ⟨gb324,2,none⟩) (Kd.R_far (p := ⟨gb324,1,none⟩) (Kd.R_far (p := ⟨gb324,0,none⟩) (Kd.R_types HO_268002.out BK324.out (by decide)) (fun _ hk => hk.2) (.int .i64 t318)) (fun _ hk => hk.2) (.int .i64 t319)) (fun _ hk => hk.2) (.slice Ao195 t320.length co195)) (fun _ h_ => h_.1))))) (by exact (Kd.R_reads' HO_268002.out).2.1) A197.out).mono ?_); rintro e w212 ⟨rfl,hb⟩; refine ⟨_,rfl, ?_⟩; replace HO_268002 := y0.mk (Kd.R_below (qR ((Kd.R_mono (Kd.R_far (p := ⟨gb324,2,none⟩) (Kd.R_far (p := ⟨gb324,1,none⟩) (Kd.R_far (p := ⟨gb324,0,none⟩) (Kd.R_types HO_268002.out BK324.out (by decide)) (fun _ hk => hk.2) (.int .i64 t318)) (fun _ hk => hk.2) (.int .i64 t319)) (fun _ hk => hk.2) (.slice Ao195 t320.length co195)) (fun _ h_ => h_.1)))) hb); replace HO_274002 := y0.mk (Kd.R_below (qR ((Kd.R_mono (Kd.R_far (p := ⟨gb324,2,none⟩) (Kd.R_far (p := ⟨gb324,1,none⟩) (Kd.R_far (p := ⟨gb324,0,none⟩) (Kd.R_types HO_274002.out BK324.out (by decide)) (fun _ hk => hk.2) (.int .i64 t318)) (fun _ hk => hk.2) (.int .i64 t319)) (fun _ hk => hk.2) (.slice Ao195 t320.length co195)) (fun _ h_ => h_.1)))) hb); replace HO_280002 := y0.mk (Kd.R_below (qR ((Kd.R_mono (Kd.R_far (p := ⟨gb324,2,none⟩) (Kd.R_far (p := ⟨gb324,1,none⟩) (Kd.R_far (p := ⟨gb324,0,none⟩) (Kd.R_types HO_280002.out BK324.out (by decide)) (fun _ hk => hk.2) (.int .i64 t318)) (fun _ hk => hk.2) (.int .i64 t319)) (fun _ hk => hk.2) (.slice Ao195 t320.length co195)) (fun _ h_ => h_.1)))) hb); replace HO_287002 := y0.mk (Kd.R_below (qR ((Kd.R_mono (Kd.R_far (p := ⟨gb324,2,none⟩) (Kd.R_far (p := ⟨gb324,1,none⟩) (Kd.R_far (p := ⟨gb324,0,none⟩) (Kd.R_types HO_287002.out BK324.out (by decide)) (fun _ hk => hk.2) (.int .i64 t318)) (fun _ hk => hk.2) (.int .i64 t319)) (fun _ hk => hk.2) (.slice Ao195 t320.length co195)) (fun _ h_ => h_.1)))) hb); replace HO312 := y0.mk (Kd.R_below (qR ((Kd.R_mono (Kd.R_far (p := ⟨gb324,2,none⟩) (Kd.R_far (p := ⟨gb324,1,none⟩) (Kd.R_far (p := ⟨gb324,0,none⟩) (Kd.R_types HO312.out BK324.out (by decide)) (fun _ hk => hk.2) (.int .i64 t318)) (fun _ hk => hk.2) (.int .i64 t319)) (fun _ hk => hk.2) (.slice Ao195 t320.length co195)) (fun _ h_ => h_.1)))) hb); replace HO317 := y0.mk (Kd.R_below (qR ((Kd.R_mono (Kd.R_far (p := ⟨gb324,2,none⟩) (Kd.R_far (p := ⟨gb324,1,none⟩) (Kd.R_far (p := ⟨gb324,0,none⟩) (Kd.R_types HO317.out BK324.out (by decide)) (fun _ hk => hk.2) (.int .i64 t318)) (fun _ hk => hk.2) (.int .i64 t319)) (fun _ hk => hk.2) (.slice Ao195 t320.length co195)) (fun _ h_ => h_.1)))) hb); replace HO322 := y0.mk (Kd.R_below (qR ((Kd.R_mono (Kd.R_far (p := ⟨gb324,2,none⟩) (Kd.R_far (p := ⟨gb324,1,none⟩) (Kd.R_far (p := ⟨gb324,0,none⟩) (Kd.R_types HO322.out BK324.out (by decide)) (fun _ hk => hk.2) (.int .i64 t318)) (fun _ hk => hk.2) (.int .i64 t319)) (fun _ hk => hk.2) (.slice Ao195 t320.length co195)) (fun _ h_ => h_.1)))) hb); replace BK247 := y0.mk (y7 (g := gb247) (o := .cells #[.int .i64 a0_0,.int .i64 a0_1,.slice A0_2 l0_2.length c0_2] 24 (0,0)) (by (with_reducible repeat (first | refine y10 ?_ _ | refine y9 ?_ | refine y6 ?_ _)); refine y11 ?_ NB247_324.out _; (with_reducible repeat (first | refine y10 ?_ _ | refine y9 ?_ | refine y6 ?_ _)); refine y11 ?_ NB247_324.out _; (with_reducible repeat (first | refine y10 ?_ _ | refine y9 ?_ | refine y6 ?_ _)); refine y11 ?_ NB247_324.out _; (with_reducible repeat (first | refine y10 ?_ _ | refine y9 ?_ | refine y6 ?_ _)); exact BK247.out) hb); replace BK248 := y0.mk (y7 (g := gb248) (o := .cells #[.int .i64 a1_0,.int .i64 a1_1,.slice A1_2 l1_2.length c1_2] 24 (0,0)) (by (with_reducible repeat (first | refine y10 ?_ _ | refine y9 ?_ | refine y6 ?_ _)); refine y11 ?_ NB248_324.out _; (with_reducible repeat (first | refine y10 ?_ _ | refine y9 ?_ | refine y6 ?_ _)); refine y11 ?_ NB248_324.out _; (with_reducible repeat (first | refine y10 ?_ _ | refine y9 ?_ | refine y6 ?_ _)); refine y11 ?_ NB248_324.out _; (with_reducible repeat (first | refine y10 ?_ _ | refine y9 ?_ | refine y6 ?_ _)); exact BK248.out) hb); replace BK267 := y0.mk (y7 (g := gb267) (o := .cells #[.int .i64 t261,.int .i64 t262,.slice Ao43 t263.length co43] 28 (0,0)) (by (with_reducible repeat (first | refine y10 ?_ _ | refine y9 ?_ | refine y6 ?_ _)); refine y11 ?_ NB267_324.out _; (with_reducible repeat (first | refine y10 ?_ _ | refine y9 ?_ | refine y6 ?_ _)); refine y11 ?_ NB267_324.out _; (with_reducible repeat (first | refine y10 ?_ _ | refine y9 ?_ | refine y6 ?_ _)); refine y11 ?_ NB267_324.out _; (with_reducible repeat (first | refine y10 ?_ _ | refine y9 ?_ | refine y6 ?_ _)); exact BK267.out) hb); replace BK273 := y0.mk (y7 (g := gb273) (o := .cells #[.int .i64 t268,.int .i64 t269,.slice Ao53 t301.length co53] 28 (0,0)) (by (with_reducible repeat (first | refine y10 ?_ _ | refine y9 ?_ | refine y6 ?_ _)); refine y11 ?_ NB273_324.out _; (with_reducible repeat (first | refine y10 ?_ _ | refine y9 ?_ | refine y6 ?_ _)); refine y11 ?_ NB273_324.out _; (with_reducible repeat (first | refine y10 ?_ _ | refine y9 ?_ | refine y6 ?_ _)); refine y11 ?_ NB273_324.out _; (with_reducible repeat (first | refine y10 ?_ _ | refine y9 ?_ | refine y6 ?_ _)); exact BK273.out) hb); replace BK279 := y0.mk (y7 (g := gb279) (o := .cells #[.int .i64 t274,.int .i64 t275,.slice Ao63 t303.length co63] 28 (0,0)) (by (with_reducible repeat (first | refine y10 ?_ _ | refine y9 ?_ | refine y6 ?_ _)); refine y11 ?_ NB279_324.out _; (with_reducible repeat (first | refine y10 ?_ _ | refine y9 ?_ | refine y6 ?_ _)); refine y11 ?_ NB279_324.out _; (with_reducible repeat (first | refine y10 ?_ _ | refine y9 ?_ | refine y6 ?_ _)); refine y11 ?_ NB279_324.out _; (with_reducible repeat (first | refine y10 ?_ _ | refine y9 ?_ | refine y6 ?_ _)); exact BK279.out) hb); replace BK286 := y0.mk (y7 (g := gb286) (o := .cells #[.int .i64 t280,.int .i64 t281,.slice Ao73 t282.length co73] 28 (0,0)) (by (with_reducible repeat (first | refine y10 ?_ _ | refine y9 ?_ | refine y6 ?_ _)); refine y11 ?_ NB286_324.out _; (with_reducible repeat (first | refine y10 ?_ _ | refine y9 ?_ | refine y6 ?_ _)); refine y11 ?_ NB286_324.out _; (with_reducible repeat (first | refine y10 ?_ _ | refine y9 ?_ | refine y6 ?_ _)); refine y11 ?_ NB286_324.out _; (with_reducible repeat (first | refine y10 ?_ _ | refine y9 ?_ | refine y6 ?_ _)); exact BK286.out) hb); replace BK324 := y0.mk (y7 (g := gb324) (o := .cells #[.int .i64 t318,.int .i64 t319,.slice Ao195 t320.length co195] 28 (0,0)) (by (with_reducible repeat (first | refine y10 ?_ _ | refine y9 ?_ | refine y6 ?_ _)); refine y14 (cs := #[.int .i64 t318,.int .i64 t319,.slice none 0 0]) ?_ 2 _ rfl; (with_reducible repeat (first | refine y10 ?_ _ | refine y9 ?_ | refine y6 ?_ _)); refine y14 (cs := #[.int .i64 t318,.int .i64 0,.slice none 0 0]) ?_ 1 _ rfl; (with_reducible repeat (first | refine y10 ?_ _ | refine y9 ?_ | refine y6 ?_ _)); refine y14 (cs := #[.int .i64 0,.int .i64 0,.slice none 0 0]) ?_ 0 _ rfl; (with_reducible repeat (first | refine y10 ?_ _ | refine y9 ?_ | refine y6 ?_ _)); exact BK324.out) hb); replace HB := y0.mk (y5 qb hb); (try clear hb); (try clear hb2); (try clear hk); (try clear hi)))
               go_meet
               exact ⟨_,((t323 != t266)),qy2,H',⟨by have := HJ24.out; have := HJ108.out; first | omega | exact Nat.le_refl _⟩,⟨by (try simp only [hl274002_108]); (try simp only [hl280002_108]); (with_reducible repeat (first | apply Kd.R_alloc | apply Kd.R_drewN | apply Kd.R_drew)); exact Kd.R_mono HO_268002.out (fun _ hk => ⟨hk.2.2.2.1,⟨hk.2.2.2.2.1,⟨hk.2.2.2.2.2,hk.2.2.1⟩⟩⟩)⟩,⟨by (try simp only [hl274002_108]); (try simp only [hl280002_108]); (with_reducible repeat (first | apply Kd.R_alloc | apply Kd.R_drewN | apply Kd.R_drew)); exact Kd.R_mono HO_274002.out (fun _ hk => ⟨hk.2.2.2.1,⟨hk.2.2.2.2.1,⟨hk.2.2.2.2.2,hk.2.2.1⟩⟩⟩)⟩,⟨by (try simp only [hl274002_108]); (try simp only [hl280002_108]); (with_reducible repeat (first | apply Kd.R_alloc | apply Kd.R_drewN | apply Kd.R_drew)); exact Kd.R_mono HO_280002.out (fun _ hk => ⟨hk.2.2.2.1,⟨hk.2.2.2.2.1,⟨hk.2.2.2.2.2,hk.2.2.1⟩⟩⟩)⟩,⟨by (try simp only [hl274002_108]); (try simp only [hl280002_108]); (with_reducible repeat (first | apply Kd.R_alloc | apply Kd.R_drewN | apply Kd.R_drew)); exact Kd.R_mono HO_287002.out (fun _ hk => ⟨hk.2.2.2.1,⟨hk.2.2.2.2.1,⟨hk.2.2.2.2.2,hk.2.2.1⟩⟩⟩)⟩,⟨by (try simp only [hl274002_108]); (try simp only [hl280002_108]); (with_reducible repeat (first | apply Kd.R_alloc | apply Kd.R_drewN | apply Kd.R_drew)); exact Kd.R_mono HO322.out (fun _ hk => ⟨hk.2.2.1,⟨hk.2.2.2.1,⟨hk.2.2.2.2.1,hk.2.2.2.2.2⟩⟩⟩)⟩,⟨by (try simp only [hl274002_108]); (try simp only [hl280002_108]); (with_reducible repeat (first | refine y10 ?_ _ | refine y9 ?_ | refine y6 ?_ _)); exact BK247.out⟩,⟨by (try simp only [hl274002_108]); (try simp only [hl280002_108]); (with_reducible repeat (first | refine y10 ?_ _ | refine y9 ?_ | refine y6 ?_ _)); exact BK248.out⟩,⟨by (try simp only [hl274002_108]); (try simp only [hl280002_108]); (with_reducible repeat (first | refine y10 ?_ _ | refine y9 ?_ | refine y6 ?_ _)); exact BK267.out⟩,⟨by (try simp only [hl274002_108]); (try simp only [hl280002_108]); (with_reducible repeat (first | refine y10 ?_ _ | refine y9 ?_ | refine y6 ?_ _)); exact BK273.out⟩,⟨by (try simp only [hl274002_108]); (try simp only [hl280002_108]); (with_reducible repeat (first | refine y10 ?_ _ | refine y9 ?_ | refine y6 ?_ _)); exact BK279.out⟩,⟨by (try simp only [hl274002_108]); (try simp only [hl280002_108]); (with_reducible repeat (first | refine y10 ?_ _ | refine y9 ?_ | refine y6 ?_ _)); exact BK286.out⟩,⟨by (try simp only [hl274002_108]); (try simp only [hl280002_108]); (with_reducible repeat (first | refine y10 ?_ _ | refine y9 ?_ | refine y6 ?_ _)); exact BK324.out⟩,⟨qb⟩⟩
              ·replace c198 := Bool.eq_false_iff.mpr c198
               subst c198
               replace H := qF H
               have H' := y0.mk H
               clear H
               have hnb213 := NB324_247.out
               have hnc213 := NB247_324.out
               have hnb214 := NB324_248.out
               have hnc214 := NB248_324.out
               have hnb215 := NB324_267.out
               have hnc215 := NB267_324.out
               have hnb216 := NB324_273.out
               have hnc216 := NB273_324.out
               have hnb217 := NB324_279.out
               have hnc217 := NB279_324.out
               have hnb218 := NB324_286.out
               have hnc218 := NB286_324.out
               obtain ⟨hcz219_0,hcz219_1,hcz219_2,hfz219_0,hfz219_1,hfz219_2⟩ := qz3 BK324.out
               have hnb220 := NB267_247.out
               have hnc220 := NB247_267.out
               have hnb221 := NB267_248.out
               have hnc221 := NB248_267.out
               have hnb222 := NB267_273.out
               have hnc222 := NB273_267.out
               have hnb223 := NB267_279.out
               have hnc223 := NB279_267.out
               have hnb224 := NB267_286.out
               have hnc224 := NB286_267.out
               obtain ⟨hcz225_0,hcz225_1,hcz225_2,hfz225_0,hfz225_1,hfz225_2⟩ := qz3 BK267.out
               go_wp2_with (first | ((with_reducible refine y17 (f := 11) rfl ?_); refine goesL_ (some 104) rfl rfl Try.func11 (by kernel_rfl) rfl #[.agg #[.int .i64 t318,.int .i64 t319,.slice Ao195 t320.length co195],.agg #[.int .i64 t261,.int .i64 t262,.slice Ao43 t263.length co43]] rfl qy0 ?_; (with_reducible refine (laws_eqGraph.calls kj108 t318 t319 _ _ t320 t261 t262 _ _ t263 false _ (by refine (Kd.R_reads' (e := 53) (base := w.heap.size) (ok := fun k_ => (some k_ ≠ (v311 : Value).ownBlock ∧ (some k_ ≠ (v316 : Value).ownBlock ∧ (some k_ ≠ (.slice Ao43 t263.length co43 : Value).ownBlock ∧ (some k_ ≠ (.slice Ao53 t301.length co53 : Value).ownBlock ∧ (some k_ ≠ (.slice Ao63 t303.length co63 : Value).ownBlock ∧ some k_ ≠ (.slice Ao73 t282.length co73 : Value).ownBlock)))))) (n := t320.length) (c := co195) ?_).2.2; exact (qR ((Kd.R_mono (Kd.R_far (p := ⟨gb324,2,none⟩) (Kd.R_far (p := ⟨gb324,1,none⟩) (Kd.R_far (p := ⟨gb324,0,none⟩) (Kd.R_types HO322.out BK324.out (by decide)) (fun _ hk => hk.2) (.int .i64 t318)) (fun _ hk => hk.2) (.int .i64 t319)) (fun _ hk => hk.2) (.slice Ao195 t320.length co195)) (fun _ h_ => h_.1))))) (by exact (Kd.R_reads' HO322.out).2.1) (by refine (Kd.R_reads' (e := 53) (base := w.heap.size) (ok := fun k_ => (some k_ ≠ (v311 : Value).ownBlock ∧ (some k_ ≠ (v316 : Value).ownBlock ∧ (some k_ ≠ (.slice Ao195 t320.length co195 : Value).ownBlock ∧ (some k_ ≠ (.slice Ao53 t301.length co53 : Value).ownBlock ∧ (some k_ ≠ (.slice Ao63 t303.length co63 : Value).ownBlock ∧ some k_ ≠ (.slice Ao73 t282.length co73 : Value).ownBlock)))))) (n := t263.length) (c := co43) ?_).2.2; exact (qR ((Kd.R_mono (Kd.R_far (p := ⟨gb324,2,none⟩) (Kd.R_far (p := ⟨gb324,1,none⟩) (Kd.R_far (p := ⟨gb324,0,none⟩) (Kd.R_types HO_268002.out BK324.out (by decide)) (fun _ hk => hk.2) (.int .i64 t318)) (fun _ hk => hk.2) (.int .i64 t319)) (fun _ hk => hk.2) (.slice Ao195 t320.length co195)) (fun _ h_ => h_.1))))) (by exact (Kd.R_reads' HO_268002.out).2.1) A197.out).mono ?_); rintro e w226 ⟨rfl,hb⟩; refine ⟨_,rfl, ?_⟩; replace HO_268002 := y0.mk (Kd.R_below (qR ((Kd.R_mono (Kd.R_far (p := ⟨gb324,2,none⟩) (Kd.R_far (p := ⟨gb324,1,none⟩) (Kd.R_far (p := ⟨gb324,0,none⟩) (Kd.R_types HO_268002.out BK324.out (by decide)) (fun _ hk => hk.2) (.int .i64 t318)) (fun _ hk => hk.2) (.int .i64 t319)) (fun _ hk => hk.2) (.slice Ao195 t320.length co195)) (fun _ h_ => h_.1)))) hb); replace HO_274002 := y0.mk (Kd.R_below (qR ((Kd.R_mono (Kd.R_far (p := ⟨gb324,2,none⟩) (Kd.R_far (p := ⟨gb324,1,none⟩) (Kd.R_far (p := ⟨gb324,0,none⟩) (Kd.R_types HO_274002.out BK324.out (by decide)) (fun _ hk => hk.2) (.int .i64 t318)) (fun _ hk => hk.2) (.int .i64 t319)) (fun _ hk => hk.2) (.slice Ao195 t320.length co195)) (fun _ h_ => h_.1)))) hb); replace HO_280002 := y0.mk (Kd.R_below (qR ((Kd.R_mono (Kd.R_far (p := ⟨gb324,2,none⟩) (Kd.R_far (p := ⟨gb324,1,none⟩) (Kd.R_far (p := ⟨gb324,0,none⟩) (Kd.R_types HO_280002.out BK324.out (by decide)) (fun _ hk => hk.2) (.int .i64 t318)) (fun _ hk => hk.2) (.int .i64 t319)) (fun _ hk => hk.2) (.slice Ao195 t320.length co195)) (fun _ h_ => h_.1)))) hb); replace HO_287002 := y0.mk (Kd.R_below (qR ((Kd.R_mono (Kd.R_far (p := ⟨gb324,2,none⟩) (Kd.R_far (p := ⟨gb324,1,none⟩) (Kd.R_far (p := ⟨gb324,0,none⟩) (Kd.R_types HO_287002.out BK324.out (by decide)) (fun _ hk => hk.2) (.int .i64 t318)) (fun _ hk => hk.2) (.int .i64 t319)) (fun _ hk => hk.2) (.slice Ao195 t320.length co195)) (fun _ h_ => h_.1)))) hb); replace HO312 := y0.mk (Kd.R_below (qR ((Kd.R_mono (Kd.R_far (p := ⟨gb324,2,none⟩) (Kd.R_far (p := ⟨gb324,1,none⟩) (Kd.R_far (p := ⟨gb324,0,none⟩) (Kd.R_types HO312.out BK324.out (by decide)) (fun _ hk => hk.2) (.int .i64 t318)) (fun _ hk => hk.2) (.int .i64 t319)) (fun _ hk => hk.2) (.slice Ao195 t320.length co195)) (fun _ h_ => h_.1)))) hb); replace HO317 := y0.mk (Kd.R_below (qR ((Kd.R_mono (Kd.R_far (p := ⟨gb324,2,none⟩) (Kd.R_far (p := ⟨gb324,1,none⟩) (Kd.R_far (p := ⟨gb324,0,none⟩) (Kd.R_types HO317.out BK324.out (by decide)) (fun _ hk => hk.2) (.int .i64 t318)) (fun _ hk => hk.2) (.int .i64 t319)) (fun _ hk => hk.2) (.slice Ao195 t320.length co195)) (fun _ h_ => h_.1)))) hb); replace HO322 := y0.mk (Kd.R_below (qR ((Kd.R_mono (Kd.R_far (p := ⟨gb324,2,none⟩) (Kd.R_far (p := ⟨gb324,1,none⟩) (Kd.R_far (p := ⟨gb324,0,none⟩) (Kd.R_types HO322.out BK324.out (by decide)) (fun _ hk => hk.2) (.int .i64 t318)) (fun _ hk => hk.2) (.int .i64 t319)) (fun _ hk => hk.2) (.slice Ao195 t320.length co195)) (fun _ h_ => h_.1)))) hb); replace BK247 := y0.mk (y7 (g := gb247) (o := .cells #[.int .i64 a0_0,.int .i64 a0_1,.slice A0_2 l0_2.length c0_2] 24 (0,0)) (by (with_reducible repeat (first | refine y10 ?_ _ | refine y9 ?_ | refine y6 ?_ _)); refine y11 ?_ NB247_324.out _; (with_reducible repeat (first | refine y10 ?_ _ | refine y9 ?_ | refine y6 ?_ _)); refine y11 ?_ NB247_324.out _; (with_reducible repeat (first | refine y10 ?_ _ | refine y9 ?_ | refine y6 ?_ _)); refine y11 ?_ NB247_324.out _; (with_reducible repeat (first | refine y10 ?_ _ | refine y9 ?_ | refine y6 ?_ _)); exact BK247.out) hb); replace BK248 := y0.mk (y7 (g := gb248) (o := .cells #[.int .i64 a1_0,.int .i64 a1_1,.slice A1_2 l1_2.length c1_2] 24 (0,0)) (by (with_reducible repeat (first | refine y10 ?_ _ | refine y9 ?_ | refine y6 ?_ _)); refine y11 ?_ NB248_324.out _; (with_reducible repeat (first | refine y10 ?_ _ | refine y9 ?_ | refine y6 ?_ _)); refine y11 ?_ NB248_324.out _; (with_reducible repeat (first | refine y10 ?_ _ | refine y9 ?_ | refine y6 ?_ _)); refine y11 ?_ NB248_324.out _; (with_reducible repeat (first | refine y10 ?_ _ | refine y9 ?_ | refine y6 ?_ _)); exact BK248.out) hb); replace BK267 := y0.mk (y7 (g := gb267) (o := .cells #[.int .i64 t261,.int .i64 t262,.slice Ao43 t263.length co43] 28 (0,0)) (by (with_reducible repeat (first | refine y10 ?_ _ | refine y9 ?_ | refine y6 ?_ _)); refine y11 ?_ NB267_324.out _; (with_reducible repeat (first | refine y10 ?_ _ | refine y9 ?_ | refine y6 ?_ _)); refine y11 ?_ NB267_324.out _; (with_reducible repeat (first | refine y10 ?_ _ | refine y9 ?_ | refine y6 ?_ _)); refine y11 ?_ NB267_324.out _; (with_reducible repeat (first | refine y10 ?_ _ | refine y9 ?_ | refine y6 ?_ _)); exact BK267.out) hb); replace BK273 := y0.mk (y7 (g := gb273) (o := .cells #[.int .i64 t268,.int .i64 t269,.slice Ao53 t301.length co53] 28 (0,0)) (by (with_reducible repeat (first | refine y10 ?_ _ | refine y9 ?_ | refine y6 ?_ _)); refine y11 ?_ NB273_324.out _; (with_reducible repeat (first | refine y10 ?_ _ | refine y9 ?_ | refine y6 ?_ _)); refine y11 ?_ NB273_324.out _; (with_reducible repeat (first | refine y10 ?_ _ | refine y9 ?_ | refine y6 ?_ _)); refine y11 ?_ NB273_324.out _; (with_reducible repeat (first | refine y10 ?_ _ | refine y9 ?_ | refine y6 ?_ _)); exact BK273.out) hb); replace BK279 := y0.mk (y7 (g := gb279) (o := .cells #[.int .i64 t274,.int .i64 t275,.slice Ao63 t303.length co63] 28 (0,0)) (by (with_reducible repeat (first | refine y10 ?_ _ | refine y9 ?_ | refine y6 ?_ _)); refine y11 ?_ NB279_324.out _; (with_reducible repeat (first | refine y10 ?_ _ | refine y9 ?_ | refine y6 ?_ _)); refine y11 ?_ NB279_324.out _; (with_reducible repeat (first | refine y10 ?_ _ | refine y9 ?_ | refine y6 ?_ _)); refine y11 ?_ NB279_324.out _; (with_reducible repeat (first | refine y10 ?_ _ | refine y9 ?_ | refine y6 ?_ _)); exact BK279.out) hb); replace BK286 := y0.mk (y7 (g := gb286) (o := .cells #[.int .i64 t280,.int .i64 t281,.slice Ao73 t282.length co73] 28 (0,0)) (by (with_reducible repeat (first | refine y10 ?_ _ | refine y9 ?_ | refine y6 ?_ _)); refine y11 ?_ NB286_324.out _; (with_reducible repeat (first | refine y10 ?_ _ | refine y9 ?_ | refine y6 ?_ _)); refine y11 ?_ NB286_324.out _; (with_reducible repeat (first | refine y10 ?_ _ | refine y9 ?_ | refine y6 ?_ _)); refine y11 ?_ NB286_324.out _; (with_reducible repeat (first | refine y10 ?_ _ | refine y9 ?_ | refine y6 ?_ _)); exact BK286.out) hb); replace BK324 := y0.mk (y7 (g := gb324) (o := .cells #[.int .i64 t318,.int .i64 t319,.slice Ao195 t320.length co195] 28 (0,0)) (by (with_reducible repeat (first | refine y10 ?_ _ | refine y9 ?_ | refine y6 ?_ _)); refine y14 (cs := #[.int .i64 t318,.int .i64 t319,.slice none 0 0]) ?_ 2 _ rfl; (with_reducible repeat (first | refine y10 ?_ _ | refine y9 ?_ | refine y6 ?_ _)); refine y14 (cs := #[.int .i64 t318,.int .i64 0,.slice none 0 0]) ?_ 1 _ rfl; (with_reducible repeat (first | refine y10 ?_ _ | refine y9 ?_ | refine y6 ?_ _)); refine y14 (cs := #[.int .i64 0,.int .i64 0,.slice none 0 0]) ?_ 0 _ rfl; (with_reducible repeat (first | refine y10 ?_ _ | refine y9 ?_ | refine y6 ?_ _)); exact BK324.out) hb); replace HB := y0.mk (y5 qb hb); (try clear hb); (try clear hb2); (try clear hk); (try clear hi)))
               go_meet
               exact ⟨_,(true),qy2,H',⟨by have := HJ24.out; have := HJ108.out; first | omega | exact Nat.le_refl _⟩,⟨by (try simp only [hl274002_108]); (try simp only [hl280002_108]); (with_reducible repeat (first | apply Kd.R_alloc | apply Kd.R_drewN | apply Kd.R_drew)); exact Kd.R_mono HO_268002.out (fun _ hk => ⟨hk.2.2.2.1,⟨hk.2.2.2.2.1,⟨hk.2.2.2.2.2,hk.2.2.1⟩⟩⟩)⟩,⟨by (try simp only [hl274002_108]); (try simp only [hl280002_108]); (with_reducible repeat (first | apply Kd.R_alloc | apply Kd.R_drewN | apply Kd.R_drew)); exact Kd.R_mono HO_274002.out (fun _ hk => ⟨hk.2.2.2.1,⟨hk.2.2.2.2.1,⟨hk.2.2.2.2.2,hk.2.2.1⟩⟩⟩)⟩,⟨by (try simp only [hl274002_108]); (try simp only [hl280002_108]); (with_reducible repeat (first | apply Kd.R_alloc | apply Kd.R_drewN | apply Kd.R_drew)); exact Kd.R_mono HO_280002.out (fun _ hk => ⟨hk.2.2.2.1,⟨hk.2.2.2.2.1,⟨hk.2.2.2.2.2,hk.2.2.1⟩⟩⟩)⟩,⟨by (try simp only [hl274002_108]); (try simp only [hl280002_108]); (with_reducible repeat (first | apply Kd.R_alloc | apply Kd.R_drewN | apply Kd.R_drew)); exact Kd.R_mono HO_287002.out (fun _ hk => ⟨hk.2.2.2.1,⟨hk.2.2.2.2.1,⟨hk.2.2.2.2.2,hk.2.2.1⟩⟩⟩)⟩,⟨by (try simp only [hl274002_108]); (try simp only [hl280002_108]); (with_reducible repeat (first | apply Kd.R_alloc | apply Kd.R_drewN | apply Kd.R_drew)); exact Kd.R_mono HO322.out (fun _ hk => ⟨hk.2.2.1,⟨hk.2.2.2.1,⟨hk.2.2.2.2.1,hk.2.2.2.2.2⟩⟩⟩)⟩,⟨by (try simp only [hl274002_108]); (try simp only [hl280002_108]); (with_reducible repeat (first | refine y10 ?_ _ | refine y9 ?_ | refine y6 ?_ _)); exact BK247.out⟩,⟨by (try simp only [hl274002_108]); (try simp only [hl280002_108]); (with_reducible repeat (first | refine y10 ?_ _ | refine y9 ?_ | refine y6 ?_ _)); exact BK248.out⟩,⟨by (try simp only [hl274002_108]); (try simp only [hl280002_108]); (with_reducible repeat (first | refine y10 ?_ _ | refine y9 ?_ | refine y6 ?_ _)); exact BK267.out⟩,⟨by (try simp only [hl274002_108]); (try simp only [hl280002_108]); (with_reducible repeat (first | refine y10 ?_ _ | refine y9 ?_ | refine y6 ?_ _)); exact BK273.out⟩,⟨by (try simp only [hl274002_108]); (try simp only [hl280002_108]); (with_reducible repeat (first | refine y10 ?_ _ | refine y9 ?_ | refine y6 ?_ _)); exact BK279.out⟩,⟨by (try simp only [hl274002_108]); (try simp only [hl280002_108]); (with_reducible repeat (first | refine y10 ?_ _ | refine y9 ?_ | refine y6 ?_ _)); exact BK286.out⟩,⟨by (try simp only [hl274002_108]); (try simp only [hl280002_108]); (with_reducible repeat (first | refine y10 ?_ _ | refine y9 ?_ | refine y6 ?_ _)); exact BK324.out⟩,⟨qb⟩⟩
             case rest =>
              clear HC175
              obtain ⟨kq,x110_174,rfl,HA,HJ174,HO_268002,HO_274002,HO_280002,HO_287002,HO_325002,BK247,BK248,BK267,BK273,BK279,BK286,BK324,HB⟩ := hcut
              have hl287002_174 := (Kd.R_reads' HO_287002.out).1
              rw [hl287002_174] at HO_287002
              (try simp only [hl287002_174])
              (try simp only [hl287002_174] at BK247)
              (try simp only [hl287002_174] at BK248)
              (try simp only [hl287002_174] at BK267)
              (try simp only [hl287002_174] at BK273)
              (try simp only [hl287002_174] at BK279)
              (try simp only [hl287002_174] at BK286)
              (try simp only [hl287002_174] at BK324)
              (try simp only [hl287002_174] at HO_268002)
              (try simp only [hl287002_174] at HO_274002)
              (try simp only [hl287002_174] at HO_280002)
              (try simp only [hl287002_174] at HO_325002)
              cases kq with
              | zero => exact absurd HA.out (by simp [laws_FnExactCompose.j2])
              | succ kj174 =>
               have H := HA.out
               clear HA
               simp only [laws_FnExactCompose.j2] at H
               by_cases c227 : x110_174 = true
               ·subst c227
                replace H := qT H
                exact absurd ((Option.some.inj H).trans htrue_) (by decide)
               ·replace c227 := Bool.eq_false_iff.mpr c227
                subst c227
                replace H := qF H
                obtain ⟨t326,A228,H⟩ := qB H
                by_cases c229 : t326 < 0
                ·as_aux_lemma =>
                 rw [if_pos c229] at H
                 have c229b0 := decide_eq_true c229
                 clear c229
                 exact absurd ((Option.some.inj H).trans htrue_) (by decide)
                ·as_aux_lemma =>
                 rw [if_neg c229] at H
                 have c229b0 := decide_eq_false c229
                 clear c229
                 by_cases c238 : t326 = t305
                 ·as_aux_lemma =>
                  rw [if_pos c238] at H
                  have c238b0 : (t326 == t305) = true := beq_iff_eq.mpr c238
                  have c238b1 : (t326 != t305) = false := bne_eq_false_iff_eq.mpr c238
                  clear c238
                  obtain rfl := Option.some.inj H
                  have hnb239 := NB286_247.out
                  have hnc239 := NB247_286.out
                  have hnb240 := NB286_248.out
                  have hnc240 := NB248_286.out
                  have hnb241 := NB286_267.out
                  have hnc241 := NB267_286.out
                  have hnb242 := NB286_273.out
                  have hnc242 := NB273_286.out
                  have hnb243 := NB286_279.out
                  have hnc243 := NB279_286.out
                  have hnb244 := NB286_324.out
                  have hnc244 := NB324_286.out
                  obtain ⟨hcz245_0,hcz245_1,hcz245_2,hfz245_0,hfz245_1,hfz245_2⟩ := qz3 BK286.out
                  go_wp2_with (first | ((with_reducible refine y17 (f := 13) rfl ?_); refine goesL_ (some 113) rfl rfl Try.func13 (by kernel_rfl) rfl #[.agg #[.int .i64 t280,.int .i64 t281,.slice Ao73 t306.length co73],.int .i64 1] rfl qy0 ?_; (with_reducible refine (laws_heldGraph.calls kj174 t280 t281 _ _ t306 1 t326 _ (qc ((Kd.R_reads' HO_287002.out).2.2)) (by exact (Kd.R_reads' HO_287002.out).2.1) A228.out).mono ?_); rintro e w246 ⟨rfl,hb⟩; refine ⟨_,rfl, ?_⟩; replace HO_268002 := y0.mk (Kd.R_below (qR HO_268002.out) hb); replace HO_274002 := y0.mk (Kd.R_below (qR HO_274002.out) hb); replace HO_280002 := y0.mk (Kd.R_below (qR HO_280002.out) hb); replace HO_287002 := y0.mk (Kd.R_below (qR HO_287002.out) hb); replace HO_325002 := y0.mk (Kd.R_below (qR HO_325002.out) hb); replace BK247 := y0.mk (qK BK247.out hb); replace BK248 := y0.mk (qK BK248.out hb); replace BK267 := y0.mk (qK BK267.out hb); replace BK273 := y0.mk (qK BK273.out hb); replace BK279 := y0.mk (qK BK279.out hb); replace BK286 := y0.mk (qK BK286.out hb); replace BK324 := y0.mk (qK BK324.out hb); replace HB := y0.mk (y5 qb hb); (try clear hb); (try clear hb2); (try clear hk); (try clear hi)))
                  go_ret
                  exact ⟨by first | rfl | (simp [y15,y16] <;> rfl) | (simp [*,y15,y16] <;> rfl),qb⟩
                 ·as_aux_lemma =>
                  rw [if_neg c238] at H
                  have c238b0 : (t326 == t305) = false := beq_eq_false_iff_ne.mpr c238
                  have c238b1 : (t326 != t305) = true := bne_iff_ne.mpr c238
                  exact absurd ((Option.some.inj H).trans htrue_) (by decide)
            ·as_aux_lemma =>
             rw [if_neg c171] at H
             have c171b0 : (t307 == t305) = false := beq_eq_false_iff_ne.mpr c171
             have c171b1 : (t307 != t305) = true := bne_iff_ne.mpr c171
             exact absurd ((Option.some.inj H).trans htrue_) (by decide)
       ·replace c106 := Bool.eq_false_iff.mpr c106
        subst c106
        replace H := qF H
        exact absurd ((Option.some.inj H).trans htrue_) (by decide)
      ·replace c103 := Bool.eq_false_iff.mpr c103
       subst c103
       replace H := qF H
       exact absurd ((Option.some.inj H).trans htrue_) (by decide)
/-- THE ONE PURE STATEMENT of laws_FnExactCompose. -/
def laws_FnExactCompose.Pure : Prop := ∀ (x0 : S24) (x1 : S24),okT24 x0 → okT24 x1 → ∃ k,laws_FnExactCompose.f k x0.f0 x0.f1 x0.f2 x1.f0 x1.f1 x1.f2 = some true
theorem laws_FnExactCompose.walk (P : laws_FnExactCompose.Pure) (x0 : S24) (x1 : S24) (A0_2 : Option Addr) (c0_2 : Nat) (A1_2 : Option Addr) (c1_2 : Nat) (w : World) (hr0_2 : Kd.C k64 w A0_2 x0.f2.length x0.f2) (hc0_2 : x0.f2.length ≤ c0_2) (hr1_2 : Kd.C k64 w A1_2 x1.f2.length x1.f2) (hc1_2 : x1.f2.length ≤ c1_2) (k0 : okT24 x0) (k1 : okT24 x1) :
  Calls Try.prog 3 #[.agg #[.int .i64 x0.f0,.int .i64 x0.f1,.slice A0_2 x0.f2.length c0_2],.agg #[.int .i64 x1.f0,.int .i64 x1.f1,.slice A1_2 x1.f2.length c1_2]] w fun e w' => e = .returned (.bool true) ∧ Below w.heap.size w w' := by
 obtain ⟨k,h⟩ := P x0 x1 k0 k1
 refine (laws_FnExactCompose.calls k x0.f0 x0.f1 A0_2 c0_2 x0.f2 x1.f0 x1.f1 A1_2 c1_2 x1.f2 true w hr0_2 hc0_2 hr1_2 hc1_2 h rfl).mono ?_
 rintro e w' ⟨rfl,hd⟩
 exact ⟨rfl,hd⟩
end Go.Proofs.Ytcckpjflbfofjaa.Pd
