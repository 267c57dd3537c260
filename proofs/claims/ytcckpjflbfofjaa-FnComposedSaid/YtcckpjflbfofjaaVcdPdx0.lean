-- Cut by prune.py, a program of this session, out of the texts of this claim: Lean checks it.
import Derived.Test.YtcckpjflbfofjaaProg
import Derived.Below
import Derived.Deep.Draws
import Derived.Deep.AppendLies
import Derived.Maps.AppendAt
import Derived.OwnWalk
import Derived.Laws.BytesArg
import Derived.Laws.MakeOwn
import Derived.Laws.OwnMore
import Derived.Deep.OwnRows
import Derived.Tactics
import Derived.Lib.ConvBytes
import Derived.Laws.Slices
import Derived.WalkKit
import Derived.KernelRfl
import Derived.RowKit3
import Derived.Deep.LoopGhost
import Derived.Deep.QuietTactic
import Derived.BigQuiet
import Derived.WideLaws
import Derived.Deep.DeepCutAuto
import Derived.Deep.CutBlock
import Derived.Deep.RegionHeld3
import Derived.Laws.Rows
import Derived.Lib.AppendStr
import Derived.ArgAppend
import Derived.Laws.IdiomCopy
import Derived.OrdersHeld
import Derived.Laws.BitsLemmas
import Derived.RowKit
import Derived.Test.YtcckpjflbfofjaaVcdWWords
import Derived.Test.YtcckpjflbfofjaaVcdWLast
import Derived.Test.YtcckpjflbfofjaaVcdWTab
import Derived.Test.YtcckpjflbfofjaaVcdWApart
import Derived.Test.YtcckpjflbfofjaaVcdWFoot
import Derived.Test.YtcckpjflbfofjaaVcdWKept
import Derived.Test.YtcckpjflbfofjaaVcdWShare
import Derived.Test.YtcckpjflbfofjaaVcdWN
import Derived.Test.YtcckpjflbfofjaaVcdWEqStruct
import Derived.Test.YtcckpjflbfofjaaVcdWRepsOne
import Derived.Test.YtcckpjflbfofjaaVcdWGuard
import Derived.Test.YtcckpjflbfofjaaVcdWMore
import Derived.Lib.LaidTab
import Derived.WalkSmall
import Derived.Test.YtcckpjflbfofjaaVcdShelf
import Derived.Test.YtcckpjflbfofjaaVcdQRead
section
namespace Go.Proofs.Ytcckpjflbfofjaa.Pd
open Go.RowKit Go.Proofs.YtcckpjflbfofjaaW.PrintWords Go.Proofs.YtcckpjflbfofjaaW.PrintLast Go.Proofs.YtcckpjflbfofjaaW.PrintMore
attribute [local go_sem] max2_int min2_int max_two min_two max_three min_three max_four min_four   -- for this text's walks alone
set_option linter.unusedVariables false
set_option linter.unusedSimpArgs false
theorem qy0 {P : Prop} (h : P := by (try simp only [qM_,List.map_cons,List.map_nil]); first | done | rfl | (simp only [qD_,qT_]; rfl)) : P := h
theorem qy1 {P : Prop} (h : P := by first | (with_reducible assumption) | assumption) : P := h
theorem qy2 {P : Prop} (h : P := by first | rfl | (simp; done) | (simp [*]; done)) : P := h
theorem qb {w W : World} (h : Below w.heap.size w W := by repeat (first | (with_reducible first | exact HB.out | apply y3 | apply y24 | apply y4 | refine y5 ?_ (y0.out (by with_reducible assumption))) | exact HB.out)) : Below w.heap.size w W := h
theorem qg {w W : World} {g : Nat} (e : g = W.heap.size) (h : Below w.heap.size w W := by repeat (first | (with_reducible first | exact HB.out | apply y3 | apply y24 | apply y4 | refine y5 ?_ (y0.out (by with_reducible assumption))) | exact HB.out)) : w.heap.size ≤ g := by rw [e]; exact y6 h
theorem qk {w W : World} {g : Nat} {o : Obj} (h : w.heap[g]? = some o) (h1 : Below w.heap.size w W := by repeat (first | with_reducible exact Below.refl _ _ | with_reducible apply y3 | with_reducible apply y24 | with_reducible apply y4)) : W.heap[g]? = some o := y9 h h1
theorem qK {w W w2 : World} {g : Nat} {o : Obj} (h : w.heap[g]? = some o) (hb : Below W.heap.size W w2) (h1 : Below w.heap.size w W := by repeat (first | with_reducible exact Below.refl _ _ | with_reducible apply y3 | with_reducible apply y24 | with_reducible apply y4)) : w2.heap[g]? = some o := y9 (y9 h h1) hb
theorem qn {w W : World} {g g2 : Nat} {o : Obj} (h : w.heap[g]? = some o) (e : g2 = W.heap.size) (h1 : Below w.heap.size w W := by repeat (first | with_reducible exact Below.refl _ _ | with_reducible apply y3 | with_reducible apply y24 | with_reducible apply y4)) : g ≠ g2 := by rw [e]; exact Nat.ne_of_lt (blk_lt (y9 h h1))
theorem qm {w W : World} {g g2 : Nat} {o : Obj} (h : w.heap[g]? = some o) (e : g2 = W.heap.size) (h1 : Below w.heap.size w W := by repeat (first | with_reducible exact Below.refl _ _ | with_reducible apply y3 | with_reducible apply y24 | with_reducible apply y4)) : g2 ≠ g := Ne.symm (qn h e h1)
theorem qc {α : Type} {d : Kd α} {w W : World} {A : Option Addr} {n : Nat} {xs : List α} (h : d.C w A n xs) (h1 : Below w.heap.size w W := by repeat (first | with_reducible exact Below.refl _ _ | with_reducible apply y3 | with_reducible apply y24 | with_reducible apply y4)) : d.C W A n xs := Kd.C_below h h1
theorem qo {P : Prop} [Decidable P] {α : Type} {X Y : Option α} {r : α} (h : (if P then X else Y) = some r) (hn : ¬ (Y = some r) := by simp) : P ∧ X = some r := by
 by_cases c : P
 ·rw [if_pos c] at h
  exact ⟨c,h⟩
 ·rw [if_neg c] at h
  exact absurd h hn
theorem qi {P : Prop} [Decidable P] {α : Type} {X Y : Option α} {r : α} (h : (if P then X else Y) = some r) (hn : ¬ (X = some r) := by simp) : ¬ P ∧ Y = some r := by
 by_cases c : P
 ·rw [if_pos c] at h
  exact absurd h hn
 ·rw [if_neg c] at h
  exact ⟨c,h⟩
theorem qB {α β : Type} {x : Option α} {f : α → Option β} {r : β} (h : x.bind f = some r) : ∃ t,y0 (x = some t) ∧ f t = some r := by
 obtain ⟨t,a,b⟩ := Option.bind_eq_some_iff.mp h
 exact ⟨t,⟨a⟩,b⟩
theorem qT {α : Type} {X Y : Option α} {r : α} {d : Decidable (true = true)} (h : (@ite _ (true = true) d X Y) = some r) : X = some r := by rwa [if_pos rfl] at h
theorem qF {α : Type} {X Y : Option α} {r : α} {d : Decidable (false = true)} (h : (@ite _ (false = true) d X Y) = some r) : Y = some r := by rwa [if_neg Bool.false_ne_true] at h
theorem qR {α : Type} {d : Kd α} {e base : Nat} {w W : World} {ok : Nat → Prop} {v : Value} {xs : List α} (h : d.R e w base ok v xs) (h1 : Below w.heap.size w W := by repeat (first | with_reducible exact Below.refl _ _ | with_reducible apply y3 | with_reducible apply y24 | with_reducible apply y4)) : d.R e W base ok v xs := Kd.R_below h h1
theorem qz3 {w : World} {g t : Nat} {a0 a1 a2 : Value} (h : w.heap[g]? = some (.cells #[a0,a1,a2] t (0,0))) : w.cell? ⟨g,0,none⟩ = some a0 ∧ w.cell? ⟨g,1,none⟩ = some a1 ∧ w.cell? ⟨g,2,none⟩ = some a2 ∧ w.frozen? ⟨g,0,none⟩ = false ∧ w.frozen? ⟨g,1,none⟩ = false ∧ w.frozen? ⟨g,2,none⟩ = false := ⟨(y10 h 0).trans rfl,(y10 h 1).trans rfl,(y10 h 2).trans rfl,y15 h 0,y15 h 1,y15 h 2⟩
section
variable {P : Program} {ops : Array Oper} {rest : List Oper} {o : Oper} {a : Act} {Q : Exit → Act → World → Prop}
theorem qe {W : World} (N : Tmp) (cs : Array Value) (t : TypeId) (h : ∀ g,g = W.heap.size → ∀ w1,w1.heap[g]? = some (.cells cs t (0,0)) → Below W.heap.size W w1 → wpList P ops Q rest (a.put o.dst (.pointer (some ⟨g,0,none⟩))) w1) (hg : o.guard = none := by rfl) (hd : o.dst = some N := by rfl)
  (hr : (execOp a.eval o).run P W = .ok (.value (.pointer (some ⟨W.heap.size,0,none⟩))) (W.alloc (.cells cs t (0,0))) := by first | (go_simp; done) | (go_simp; rfl)) : wpList P ops Q (o :: rest) a W := box_event hg hd hr h
end
section
variable {P : Program} {ops : Array Oper} {Q : Exit → Act → World → Prop} {md : Region.Mode} {S : World → Prop} {ds : List Nat}
theorem qp {oi : Oper} {v : Value} {fuel : Nat} {l : Array Bool} {a a' : Act} {w : World} (i : Nat) (N : Tmp) (l' : Array Bool) (h : wpAnyLast P md ops Q S ds fuel l' a' w) (hi : ops[i]? = some oi := by exact rfl) (hN : oi.dst = some N := by exact rfl) (hc : anyB md ops l l' i = true := by exact any_of HT_.out (by kernel_rfl))
  (hQ : ∀ c a w,Q (.panic c) (a.put oi.dst v) w → Q (.panic c) a w := by exact fun _ _ _ h => h) (hy : Yields P ops oi v a := by refine Or.inl ⟨by rfl, ?_⟩; intro w'; go_simp; with_reducible rfl) (ha : a.put (some N) v = a' := by simp only [Act.put,qS_,qZ_,qC_,i64_w,i32_w]; rfl) : wpAnyLast P md ops Q S ds (fuel + 1) l a w := pure_ l' hi hN hc hQ hy ha h
theorem qt {oi : Oper} {v : Value} {fuel : Nat} {l : Array Bool} {a a' : Act} {w : World} (i : Nat) (N : Tmp) (l' : Array Bool) (hS : S w) (h : wpAnyLast P md ops Q S ds fuel l' a' w) (hi : ops[i]? = some oi := by exact rfl) (hN : oi.dst = some N := by exact rfl) (hc : takeB md ops ds l l' i = true := by exact take_ofW HT_.out HW_.out (by kernel_rfl))
  (hQ : ∀ c a w,Q (.panic c) (a.put oi.dst v) w → Q (.panic c) a w := by exact fun _ _ _ h => h) (hy : YieldsIf P ops S oi v a := by refine Or.inl ⟨by rfl, ?_⟩; intro w' hs_; (repeat (obtain ⟨s_,hs_⟩ : _ ∧ _ := hs_)); go_simp; with_reducible rfl) (ha : a.put (some N) v = a' := by simp only [Act.put,qS_,qZ_,qC_,i64_w,i32_w]; rfl) : wpAnyLast P md ops Q S ds (fuel + 1) l a w := take_ l' hi hN hc hQ hy hS ha h
end
def errW : Option Int → Value
 | none => .nilIface
 | some c => .iface 0 (.int .i64 c)
theorem y17 : errW none = .nilIface := rfl
theorem y18 (c : Int) : errW (some c) = .iface 0 (.int .i64 c) := rfl
theorem info53 : (Try.prog.info? 53).map (fun i => (i.zero,i.size,i.bytes)) = some (some (.agg #[(.int .i64 0),(.int .i64 0),(.bool false)]),3,24) := by kernel_rfl
structure S64 where
 f0 : Int
 f1 : Int
 f2 : Bool
structure S53 where
 f0 : Int
 f1 : Int
 f2 : Bool
def z53 : S53 := ⟨(0 : Int),(0 : Int),false⟩
def k53 : Kd S53 := Kd.iso (Kd.pair (Kd.int .i64) (Kd.pair (Kd.int .i64) Kd.bool)) (fun x : S53 => (x.f0,x.f1,x.f2))
theorem k53_open {w : World} {x : S53} {cs : List Value} (h : k53.K w x cs) : cs = [.int .i64 x.f0,.int .i64 x.f1,.bool x.f2] := by
 obtain ⟨_,_,rfl,rfl,⟨_,_,rfl,rfl,rfl⟩⟩ := h
 exact rfl
theorem k53_openM {w : World} {base : Nat} {ok : Nat → Prop} {x : S53} {cs : List Value} (h : k53.M w base ok x cs) : cs = [.int .i64 x.f0,.int .i64 x.f1,.bool x.f2] := by
 obtain ⟨_,_,rfl,rfl,⟨_,_,rfl,rfl,rfl⟩⟩ := h
 exact rfl
theorem k53_mkM (w : World) (base : Nat) (ok : Nat → Prop) (x : S53)  : k53.M w base ok x [.int .i64 x.f0,.int .i64 x.f1,.bool x.f2] := ⟨[.int .i64 x.f0],[.int .i64 x.f1,.bool x.f2],rfl,rfl,⟨[.int .i64 x.f1],[.bool x.f2],rfl,rfl,rfl⟩⟩
def y25 (xs : List S53) (i : Int) : S53 := xs.getD i.toNat z53
theorem at_T53 {w : World} {A : Option Addr} {n : Nat} {xs : List S53} (h : Kd.C k53 w A n xs) (i : Int) (h0 : 0 ≤ i) (h1 : i < n) : ∃ ad , A = some ad ∧ w.cell? (ad.add (i.toNat * 3)) = some (.int .i64 (y25 xs i).f0) ∧ w.cell? ⟨(ad.add (i.toNat * 3)).block,(ad.add (i.toNat * 3)).off + 1,none⟩ = some (.int .i64 (y25 xs i).f1) ∧ w.cell? ⟨(ad.add (i.toNat * 3)).block,(ad.add (i.toNat * 3)).off + 2,none⟩ = some (.bool (y25 xs i).f2) := by
 obtain ⟨ad,c,e,_,hK,hc0⟩ := Kd.C_get h z53 i h0 h1
 have hc : ∀ j u,c[j]? = some u → w.cell? (ad.add (i.toNat * 3 + j)) = some u := hc0
 obtain rfl := k53_open hK
 exact ⟨ad,e,hc 0 _ rfl,by rw [← add_field _ _ 1 (by omega)]; exact hc 1 _ rfl,by rw [← add_field _ _ 2 (by omega)]; exact hc 2 _ rfl⟩
structure S28 where
 f0 : Int
 f1 : Int
 f2 : (List S53)
structure S24 where
 f0 : Int
 f1 : Int
 f2 : (List S64)
/-- What the library's package-level variables hold: carried by every walk that comes to them. -/
structure Tb (w : World) : Prop where
theorem Tb.below {w w' : World} (h : Tb w) (hb : Below w.heap.size w w') : Tb w' := by
 constructor
theorem Tb.drawn {w w' : World} (h : Tb w) (hd : Drawn0 w w') : Tb w' := h.below hd.below
end Go.Proofs.Ytcckpjflbfofjaa.Pd
end
section
namespace Go.Proofs.Ytcckpjflbfofjaa.Pd
open Go.RowKit Go.Proofs.YtcckpjflbfofjaaW.PrintWords Go.Proofs.YtcckpjflbfofjaaW.PrintLast Go.Proofs.YtcckpjflbfofjaaW.PrintMore
attribute [local go_sem] max2_int min2_int max_two min_two max_three min_three max_four min_four   -- for this text's walks alone
set_option linter.unusedVariables false
set_option linter.unusedSimpArgs false
def spec_l01Between.f (a0 : Int) (a1 : Int) (a2 : Int) : Option (Bool) := if a0 ≥ a1 then (some (decide (a0 ≤ a2))) else (some false)
set_option maxHeartbeats 8000000 in
set_option maxRecDepth 100000 in
theorem spec_l01Between.calls (a0 : Int) (a1 : Int) (a2 : Int) (r : Bool) (w : World) (h : spec_l01Between.f a0 a1 a2 = some r) :
  Calls Try.prog 40 #[.int .i64 a0,.int .i64 a1,.int .i64 a2] w fun e w' => e = .returned (.bool r) ∧ Drawn0 w w' := by
 have H : (if a0 ≥ a1 then (some (decide (a0 ≤ a2))) else (some false)) = some r := h
 clear h
 by_cases c4 : a0 ≥ a1
 ·rw [if_pos c4] at H
  have c4b0 : decide (a1 ≤ a0) = true := decide_eq_true c4
  clear c4
  obtain rfl := Option.some.inj H
  go_enter Try.func40,Try.ntmps40
  go_wp2
  go_ret
  exact ⟨by first | rfl | (simp; done) | (simp [*]; done),by repeat (first | exact Drawn0.refl _ | apply Drawn0.step)⟩
 ·rw [if_neg c4] at H
  have c4b0 : decide (a1 ≤ a0) = false := decide_eq_false c4
  clear c4
  obtain rfl := Option.some.inj H
  go_enter Try.func40,Try.ntmps40
  go_wp2
  go_ret
  exact ⟨by first | rfl | (simp; done) | (simp [*]; done),by repeat (first | exact Drawn0.refl _ | apply Drawn0.step)⟩
mutual
def spec_l08Right.l0 : Nat → Int → Int → Int → List (S53) → Option (Bool)
 | 0,_,_,_,_ => none
 | k + 1,x3,x129000,x129001,x129002 => if x3 < (x129002.length : Int) then (if 0 ≤ x3 then ((spec_l01Between.f ((y25 x129002 x3).f0) 0 5).bind fun t131 => (if t131 = true then ((spec_l01Between.f ((y25 x129002 x3).f1) 0 5).bind fun t132 => (spec_l08Right.j1 k x3 (!t132) x129000 x129001 x129002 ((y25 x129002 x3).f0) ((y25 x129002 x3).f1) ((y25 x129002 x3).f2))) else (spec_l08Right.j1 k x3 true x129000 x129001 x129002 ((y25 x129002 x3).f0) ((y25 x129002 x3).f1) ((y25 x129002 x3).f2)))) else (none)) else (some true)
def spec_l08Right.j1 : Nat → Int → Bool → Int → Int → List (S53) → Int → Int → Bool → Option (Bool)
 | 0,_,_,_,_,_,_,_,_ => none
 | k + 1,x3,x26,x129000,x129001,x129002,x131000,x131001,x131002 => if x26 = true then (some false) else (if x3 > 0 then (if 0 ≤ (wrap64 (x3 - 1)) then (if (wrap64 (x3 - 1)) < (x129002.length : Int) then (if (wrap64 ((wrap64 (10 * ((y25 x129002 (wrap64 (x3 - 1))).f0))) + ((y25 x129002 (wrap64 (x3 - 1))).f1))) ≥ (wrap64 ((wrap64 (10 * x131000)) + x131001)) then (some false) else (spec_l08Right.l0 k (wrap64 (x3 + 1)) x129000 x129001 x129002)) else (none)) else (none)) else (spec_l08Right.l0 k (wrap64 (x3 + 1)) x129000 x129001 x129002))
end
def spec_l08Right.f (k : Nat) (a0_0 : Int) (a0_1 : Int) (l0_2 : List (S53)) : Option (Bool) := spec_l08Right.l0 k 0 a0_0 a0_1 l0_2
set_option maxHeartbeats 8000000 in
set_option maxRecDepth 100000 in
theorem spec_l08Right.calls (k : Nat) (a0_0 : Int) (a0_1 : Int) (A0_2 : Option Addr) (c0_2 : Nat) (l0_2 : List (S53)) (r : Bool) (w : World) (hr0_2 : Kd.C k53 w A0_2 l0_2.length l0_2) (hc0_2 : l0_2.length ≤ c0_2) (h : spec_l08Right.f k a0_0 a0_1 l0_2 = some r) :
  Calls Try.prog 27 #[.agg #[.int .i64 a0_0,.int .i64 a0_1,.slice A0_2 l0_2.length c0_2]] w fun e w' => e = .returned (.bool r) ∧ Below w.heap.size w w' := by
 have hu28 := Try.underlying28
 have hu53 := Try.underlying53
 have HR0_2 := y0.mk hr0_2
 have HC0_2 := y0.mk hc0_2
 clear hr0_2 hc0_2
 have HB := y0.mk (Below.refl w.heap.size w)
 have H : (spec_l08Right.l0 k 0 a0_0 a0_1 l0_2) = some r := h
 clear h
 have H' := y0.mk H
 clear H
 go_enter Try.func27,Try.ntmps27
 go_wp2_with (first | ((with_reducible refine y20 (N := 1) rfl ?_); refine qe 1 #[.int .i64 a0_0,.int .i64 a0_1,.slice A0_2 l0_2.length c0_2] 28 ?_; intro gb128 hg w2 hbox hb; have BK128 := y0.mk (hbox); have GW128 := y0.mk (qg (w := w) hg); have GE128 := y0.mk (qg (w := w) hg); replace HB := y0.mk (y7 qb hb); clear hb hbox hg))
 repeat (go_quiet (first | ((with_reducible refine y20 (N := 1) rfl ?_); refine qe 1 #[.int .i64 a0_0,.int .i64 a0_1,.slice A0_2 l0_2.length c0_2] 28 ?_; intro gb128 hg w2 hbox hb; have BK128 := y0.mk (hbox); have GW128 := y0.mk (qg (w := w) hg); have GE128 := y0.mk (qg (w := w) hg); replace HB := y0.mk (y7 qb hb); clear hb hbox hg)); try go_wp2_with (first | ((with_reducible refine y20 (N := 1) rfl ?_); refine qe 1 #[.int .i64 a0_0,.int .i64 a0_1,.slice A0_2 l0_2.length c0_2] 28 ?_; intro gb128 hg w2 hbox hb; have BK128 := y0.mk (hbox); have GW128 := y0.mk (qg (w := w) hg); have GE128 := y0.mk (qg (w := w) hg); replace HB := y0.mk (y7 qb hb); clear hb hbox hg)))
 go_loopg [3] k (fun kq v3 w' => ∃ (x3_1 : Int),v3 = .int .i64 x3_1 ∧ y0 (spec_l08Right.l0 kq x3_1 a0_0 a0_1 l0_2 = some r) ∧ y0 (kq ≤ k) ∧ y0 (w'.heap[gb128]? = some (.cells #[.int .i64 a0_0,.int .i64 a0_1,(.slice A0_2 l0_2.length c0_2)] 28 (0,0))) ∧ y0 (Below w.heap.size w w'))
 case atStart => exact ⟨(0),qy2,H',⟨Nat.le_refl _⟩,⟨qk BK128.out⟩,⟨qb⟩⟩
 case round =>
  clear H'
  obtain ⟨x3_1,rfl,HA,HK1,BK128,HB⟩ := hrel
  cases gk with
  | zero => exact absurd HA.out (by simp [spec_l08Right.l0])
  | succ k1 =>
   have H := HA.out
   clear HA
   simp only [spec_l08Right.l0] at H
   by_cases c3 : x3_1 < (l0_2.length : Int)
   ·rw [if_pos c3] at H
    have c3b0 := decide_eq_true c3
    clear c3
    obtain ⟨c4,H⟩ := qo H
    have c4b0 : decide (0 ≤ x3_1) = true := decide_eq_true c4
    clear c4
    have HC5 := y0.mk H
    clear H
    obtain ⟨hcz6_0,hcz6_1,hcz6_2,hfz6_0,hfz6_1,hfz6_2⟩ := qz3 BK128.out
    have p129 : 0 ≤ (x3_1 : Int) := of_decide_eq_true qy1
    have q129 : x3_1 < (l0_2.length : Int) := of_decide_eq_true qy1
    obtain ⟨ad129,e129,hx129_0,hx129_1,hx129_2⟩ := at_T53 HR0_2.out x3_1 p129 q129
    cases e129
    replace hx129_0 := (HB.out.cell (World.block_lt_of_cell? w _ hx129_0)).trans hx129_0
    replace hx129_1 := (HB.out.cell (World.block_lt_of_cell? w _ hx129_1)).trans hx129_1
    replace hx129_2 := (HB.out.cell (World.block_lt_of_cell? w _ hx129_2)).trans hx129_2
    replace p129 := eq_true p129
    replace q129 := eq_true q129
    go_upto_region 5 with (first | ((with_reducible refine y20 (N := 4) rfl ?_); refine qe 4 #[.int .i64 0,.int .i64 0,.bool false] 53 ?_; intro gb130 hg w7 hbox hb; have BK130 := y0.mk (hbox); have GW130 := y0.mk (qg (w := w) hg); have GE130 := y0.mk (qg (w := w) hg); replace HB := y0.mk (y7 qb hb); have NB128_130 := y0.mk (qn BK128.out hg); have NB130_128 := y0.mk (qm BK128.out hg); replace BK128 := y0.mk (qK BK128.out hb); clear hb hbox hg; have hnb8 := NB130_128.out; have hnc8 := NB128_130.out; obtain ⟨hcz9_0,hcz9_1,hcz9_2,hfz9_0,hfz9_1,hfz9_2⟩ := qz3 BK130.out))
    repeat (go_quiet (first | ((with_reducible refine y20 (N := 4) rfl ?_); refine qe 4 #[.int .i64 0,.int .i64 0,.bool false] 53 ?_; intro gb130 hg w7 hbox hb; have BK130 := y0.mk (hbox); have GW130 := y0.mk (qg (w := w) hg); have GE130 := y0.mk (qg (w := w) hg); replace HB := y0.mk (y7 qb hb); have NB128_130 := y0.mk (qn BK128.out hg); have NB130_128 := y0.mk (qm BK128.out hg); replace BK128 := y0.mk (qK BK128.out hb); clear hb hbox hg; have hnb8 := NB130_128.out; have hnc8 := NB128_130.out; obtain ⟨hcz9_0,hcz9_1,hcz9_2,hfz9_0,hfz9_1,hfz9_2⟩ := qz3 BK130.out)); go_upto_region 5 with (first | ((with_reducible refine y20 (N := 4) rfl ?_); refine qe 4 #[.int .i64 0,.int .i64 0,.bool false] 53 ?_; intro gb130 hg w7 hbox hb; have BK130 := y0.mk (hbox); have GW130 := y0.mk (qg (w := w) hg); have GE130 := y0.mk (qg (w := w) hg); replace HB := y0.mk (y7 qb hb); have NB128_130 := y0.mk (qn BK128.out hg); have NB130_128 := y0.mk (qm BK128.out hg); replace BK128 := y0.mk (qK BK128.out hb); clear hb hbox hg; have hnb8 := NB130_128.out; have hnc8 := NB128_130.out; obtain ⟨hcz9_0,hcz9_1,hcz9_2,hfz9_0,hfz9_1,hfz9_2⟩ := qz3 BK130.out)))
    (try simp only [Act.put,qS_,qZ_,qC_])
    go_cut [26] (fun v26 wc => ∃ (kq : Nat) (x26_4 : Bool),v26 = .bool x26_4 ∧ y0 (spec_l08Right.j1 kq x3_1 x26_4 a0_0 a0_1 l0_2 ((y25 l0_2 x3_1).f0) ((y25 l0_2 x3_1).f1) ((y25 l0_2 x3_1).f2) = some r) ∧ y0 (kq ≤ k1) ∧ y0 (wc.heap[gb128]? = some (.cells #[.int .i64 a0_0,.int .i64 a0_1,(.slice (some ad129) l0_2.length c0_2)] 28 (0,0))) ∧ y0 (wc.heap[gb130]? = some (.cells #[.int .i64 ((y25 l0_2 x3_1).f0),.int .i64 ((y25 l0_2 x3_1).f1),.bool ((y25 l0_2 x3_1).f2)] 53 (0,0))) ∧ y0 (Below w.heap.size w wc))
    case first =>
     have H := HC5.out
     clear HC5
     obtain ⟨t131,A10,H⟩ := qB H
     by_cases c11 : t131 = true
     ·subst c11
      replace H := qT H
      obtain ⟨t132,A12,H⟩ := qB H
      have H' := y0.mk H
      clear H
      have hnb13 := NB130_128.out
      have hnc13 := NB128_130.out
      obtain ⟨hcz14_0,hcz14_1,hcz14_2,hfz14_0,hfz14_1,hfz14_2⟩ := qz3 BK130.out
      go_wp2_with (first | (go_at_call 40; (with_reducible refine (spec_l01Between.calls ((y25 l0_2 x3_1).f0) 0 5 true _ A10.out).mono ?_); rintro e w' ⟨rfl,⟨nd,rfl⟩⟩; (try first | exact ⟨rfl,_,World.drewN_drewN _ _ _⟩ | exact ⟨rfl,_,Eq.trans (World.drewN_drewN _ _ _) (congrArg (World.drewN _) (Nat.add_assoc _ _ _))⟩)) | (go_at_call 40; (with_reducible refine (spec_l01Between.calls ((y25 l0_2 x3_1).f1) 0 5 t132 _ A12.out).mono ?_); rintro e w' ⟨rfl,⟨nd,rfl⟩⟩; (try first | exact ⟨rfl,_,World.drewN_drewN _ _ _⟩ | exact ⟨rfl,_,Eq.trans (World.drewN_drewN _ _ _) (congrArg (World.drewN _) (Nat.add_assoc _ _ _))⟩)))
      repeat (go_quiet (first | (go_at_call 40; (with_reducible refine (spec_l01Between.calls ((y25 l0_2 x3_1).f0) 0 5 true _ A10.out).mono ?_); rintro e w' ⟨rfl,⟨nd,rfl⟩⟩; (try first | exact ⟨rfl,_,World.drewN_drewN _ _ _⟩ | exact ⟨rfl,_,Eq.trans (World.drewN_drewN _ _ _) (congrArg (World.drewN _) (Nat.add_assoc _ _ _))⟩)) | (go_at_call 40; (with_reducible refine (spec_l01Between.calls ((y25 l0_2 x3_1).f1) 0 5 t132 _ A12.out).mono ?_); rintro e w' ⟨rfl,⟨nd,rfl⟩⟩; (try first | exact ⟨rfl,_,World.drewN_drewN _ _ _⟩ | exact ⟨rfl,_,Eq.trans (World.drewN_drewN _ _ _) (congrArg (World.drewN _) (Nat.add_assoc _ _ _))⟩))); try go_wp2_with (first | (go_at_call 40; (with_reducible refine (spec_l01Between.calls ((y25 l0_2 x3_1).f0) 0 5 true _ A10.out).mono ?_); rintro e w' ⟨rfl,⟨nd,rfl⟩⟩; (try first | exact ⟨rfl,_,World.drewN_drewN _ _ _⟩ | exact ⟨rfl,_,Eq.trans (World.drewN_drewN _ _ _) (congrArg (World.drewN _) (Nat.add_assoc _ _ _))⟩)) | (go_at_call 40; (with_reducible refine (spec_l01Between.calls ((y25 l0_2 x3_1).f1) 0 5 t132 _ A12.out).mono ?_); rintro e w' ⟨rfl,⟨nd,rfl⟩⟩; (try first | exact ⟨rfl,_,World.drewN_drewN _ _ _⟩ | exact ⟨rfl,_,Eq.trans (World.drewN_drewN _ _ _) (congrArg (World.drewN _) (Nat.add_assoc _ _ _))⟩))))
      go_meet
      exact ⟨_,(!t132),qy2,H',⟨by have := HK1.out; first | omega | exact Nat.le_refl _⟩,⟨by (with_reducible repeat (first | refine y12 ?_ _ | refine y11 ?_ | refine y8 ?_ _)); refine y13 ?_ NB128_130.out _; (with_reducible repeat (first | refine y12 ?_ _ | refine y11 ?_ | refine y8 ?_ _)); refine y13 ?_ NB128_130.out _; (with_reducible repeat (first | refine y12 ?_ _ | refine y11 ?_ | refine y8 ?_ _)); refine y13 ?_ NB128_130.out _; (with_reducible repeat (first | refine y12 ?_ _ | refine y11 ?_ | refine y8 ?_ _)); exact BK128.out⟩,⟨by (with_reducible repeat (first | refine y12 ?_ _ | refine y11 ?_ | refine y8 ?_ _)); refine y16 (cs := #[.int .i64 ((y25 l0_2 x3_1).f0),.int .i64 ((y25 l0_2 x3_1).f1),.bool false]) ?_ 2 _ rfl; (with_reducible repeat (first | refine y12 ?_ _ | refine y11 ?_ | refine y8 ?_ _)); refine y16 (cs := #[.int .i64 ((y25 l0_2 x3_1).f0),.int .i64 0,.bool false]) ?_ 1 _ rfl; (with_reducible repeat (first | refine y12 ?_ _ | refine y11 ?_ | refine y8 ?_ _)); refine y16 (cs := #[.int .i64 0,.int .i64 0,.bool false]) ?_ 0 _ rfl; (with_reducible repeat (first | refine y12 ?_ _ | refine y11 ?_ | refine y8 ?_ _)); exact BK130.out⟩,⟨qb⟩⟩
     ·replace c11 := Bool.eq_false_iff.mpr c11
      subst c11
      replace H := qF H
      have H' := y0.mk H
      clear H
      have hnb15 := NB130_128.out
      have hnc15 := NB128_130.out
      obtain ⟨hcz16_0,hcz16_1,hcz16_2,hfz16_0,hfz16_1,hfz16_2⟩ := qz3 BK130.out
      go_wp2_with (first | (go_at_call 40; (with_reducible refine (spec_l01Between.calls ((y25 l0_2 x3_1).f0) 0 5 false _ A10.out).mono ?_); rintro e w' ⟨rfl,⟨nd,rfl⟩⟩; (try first | exact ⟨rfl,_,World.drewN_drewN _ _ _⟩ | exact ⟨rfl,_,Eq.trans (World.drewN_drewN _ _ _) (congrArg (World.drewN _) (Nat.add_assoc _ _ _))⟩)))
      repeat (go_quiet (first | (go_at_call 40; (with_reducible refine (spec_l01Between.calls ((y25 l0_2 x3_1).f0) 0 5 false _ A10.out).mono ?_); rintro e w' ⟨rfl,⟨nd,rfl⟩⟩; (try first | exact ⟨rfl,_,World.drewN_drewN _ _ _⟩ | exact ⟨rfl,_,Eq.trans (World.drewN_drewN _ _ _) (congrArg (World.drewN _) (Nat.add_assoc _ _ _))⟩))); try go_wp2_with (first | (go_at_call 40; (with_reducible refine (spec_l01Between.calls ((y25 l0_2 x3_1).f0) 0 5 false _ A10.out).mono ?_); rintro e w' ⟨rfl,⟨nd,rfl⟩⟩; (try first | exact ⟨rfl,_,World.drewN_drewN _ _ _⟩ | exact ⟨rfl,_,Eq.trans (World.drewN_drewN _ _ _) (congrArg (World.drewN _) (Nat.add_assoc _ _ _))⟩))))
      go_meet
      exact ⟨_,(true),qy2,H',⟨by have := HK1.out; first | omega | exact Nat.le_refl _⟩,⟨by (with_reducible repeat (first | refine y12 ?_ _ | refine y11 ?_ | refine y8 ?_ _)); refine y13 ?_ NB128_130.out _; (with_reducible repeat (first | refine y12 ?_ _ | refine y11 ?_ | refine y8 ?_ _)); refine y13 ?_ NB128_130.out _; (with_reducible repeat (first | refine y12 ?_ _ | refine y11 ?_ | refine y8 ?_ _)); refine y13 ?_ NB128_130.out _; (with_reducible repeat (first | refine y12 ?_ _ | refine y11 ?_ | refine y8 ?_ _)); exact BK128.out⟩,⟨by (with_reducible repeat (first | refine y12 ?_ _ | refine y11 ?_ | refine y8 ?_ _)); refine y16 (cs := #[.int .i64 ((y25 l0_2 x3_1).f0),.int .i64 ((y25 l0_2 x3_1).f1),.bool false]) ?_ 2 _ rfl; (with_reducible repeat (first | refine y12 ?_ _ | refine y11 ?_ | refine y8 ?_ _)); refine y16 (cs := #[.int .i64 ((y25 l0_2 x3_1).f0),.int .i64 0,.bool false]) ?_ 1 _ rfl; (with_reducible repeat (first | refine y12 ?_ _ | refine y11 ?_ | refine y8 ?_ _)); refine y16 (cs := #[.int .i64 0,.int .i64 0,.bool false]) ?_ 0 _ rfl; (with_reducible repeat (first | refine y12 ?_ _ | refine y11 ?_ | refine y8 ?_ _)); exact BK130.out⟩,⟨qb⟩⟩
    case rest =>
     clear HC5
     (try clear c3b0 c4b0 hcz6_0 hcz6_1 hcz6_2 hcz9_0 hcz9_1 hcz9_2 hfz6_0 hfz6_1 hfz6_2 hfz9_0 hfz9_1 hfz9_2 hx129_0 hx129_1 hx129_2 p129 q129)
     obtain ⟨kq,x26_4,rfl,HA,HJ4,BK128,BK130,HB⟩ := hcut
     cases kq with
     | zero => exact absurd HA.out (by simp [spec_l08Right.j1])
     | succ kj4 =>
      have H := HA.out
      clear HA
      simp only [spec_l08Right.j1] at H
      by_cases c17 : x26_4 = true
      ·subst c17
       replace H := qT H
       obtain rfl := Option.some.inj H
       go_wp2
       repeat (go_quiet (fail); try go_wp2)
       go_ret
       exact ⟨by first | rfl | (simp [y17,y18] <;> rfl) | (simp [*,y17,y18] <;> rfl),qb⟩
      ·replace c17 := Bool.eq_false_iff.mpr c17
       subst c17
       replace H := qF H
       by_cases c18 : x3_1 > 0
       ·rw [if_pos c18] at H
        have c18b0 : decide (0 < x3_1) = true := decide_eq_true c18
        clear c18
        obtain ⟨ji19,hji19⟩ : ∃ j_ : Int,(wrap64 (x3_1 - 1)) = j_ := ⟨_,rfl⟩
        replace H : (if 0 ≤ (ji19) then (if (ji19) < (l0_2.length : Int) then (if (wrap64 ((wrap64 (10 * ((y25 l0_2 (ji19)).f0))) + ((y25 l0_2 (ji19)).f1))) ≥ (wrap64 ((wrap64 (10 * ((y25 l0_2 x3_1).f0))) + ((y25 l0_2 x3_1).f1))) then (some false) else (spec_l08Right.l0 kj4 (wrap64 (x3_1 + 1)) a0_0 a0_1 l0_2)) else (none)) else (none)) = some r := by first | (rw [hji19] at H; exact H) | (simp only [hji19] at H ⊢; exact H)
        have hji19w : (IntKind.i64.wrap (x3_1 - 1)) = ji19 := (i64_w _).trans hji19
        obtain ⟨c20,H⟩ := qo H
        have c20b0 : decide (0 ≤ (ji19)) = true := decide_eq_true c20
        clear c20
        obtain ⟨c21,H⟩ := qo H
        have c21b0 : decide ((ji19) < (l0_2.length : Int)) = true := decide_eq_true c21
        clear c21
        by_cases c22 : (wrap64 ((wrap64 (10 * ((y25 l0_2 (ji19)).f0))) + ((y25 l0_2 (ji19)).f1))) ≥ (wrap64 ((wrap64 (10 * ((y25 l0_2 x3_1).f0))) + ((y25 l0_2 x3_1).f1)))
        ·rw [if_pos c22] at H
         have c22b0 : decide ((wrap64 ((wrap64 (10 * ((y25 l0_2 x3_1).f0))) + ((y25 l0_2 x3_1).f1))) ≤ (wrap64 ((wrap64 (10 * ((y25 l0_2 (ji19)).f0))) + ((y25 l0_2 (ji19)).f1)))) = true := decide_eq_true c22
         clear c22
         obtain rfl := Option.some.inj H
         have hnb23 := NB128_130.out
         have hnc23 := NB130_128.out
         obtain ⟨hcz24_0,hcz24_1,hcz24_2,hfz24_0,hfz24_1,hfz24_2⟩ := qz3 BK128.out
         have p133 : 0 ≤ ((ji19) : Int) := of_decide_eq_true qy1
         have q133 : (ji19) < (l0_2.length : Int) := of_decide_eq_true qy1
         obtain ⟨ad133,e133,hx133_0,hx133_1,hx133_2⟩ := at_T53 HR0_2.out (ji19) p133 q133
         obtain rfl : ad129 = ad133 := (by injection e133)
         replace hx133_0 := (HB.out.cell (World.block_lt_of_cell? w _ hx133_0)).trans hx133_0
         replace hx133_1 := (HB.out.cell (World.block_lt_of_cell? w _ hx133_1)).trans hx133_1
         replace hx133_2 := (HB.out.cell (World.block_lt_of_cell? w _ hx133_2)).trans hx133_2
         replace p133 := eq_true p133
         replace q133 := eq_true q133
         have p134 : 0 ≤ ((ji19) : Int) := of_decide_eq_true qy1
         have q134 : (ji19) < (l0_2.length : Int) := of_decide_eq_true qy1
         obtain ⟨ad134,e134,hx134_0,hx134_1,hx134_2⟩ := at_T53 HR0_2.out (ji19) p134 q134
         obtain rfl : ad129 = ad134 := (by injection e134)
         replace hx134_0 := (HB.out.cell (World.block_lt_of_cell? w _ hx134_0)).trans hx134_0
         replace hx134_1 := (HB.out.cell (World.block_lt_of_cell? w _ hx134_1)).trans hx134_1
         replace hx134_2 := (HB.out.cell (World.block_lt_of_cell? w _ hx134_2)).trans hx134_2
         replace p134 := eq_true p134
         replace q134 := eq_true q134
         obtain ⟨hcz25_0,hcz25_1,hcz25_2,hfz25_0,hfz25_1,hfz25_2⟩ := qz3 BK130.out
         go_wp2
         repeat (go_quiet (fail); try go_wp2)
         go_ret
         exact ⟨by first | rfl | (simp [y17,y18] <;> rfl) | (simp only [← hji19]; first | rfl | (simp [y17,y18] <;> rfl)) | (simp [*,y17,y18] <;> rfl),qb⟩
        ·rw [if_neg c22] at H
         have c22b0 : decide ((wrap64 ((wrap64 (10 * ((y25 l0_2 x3_1).f0))) + ((y25 l0_2 x3_1).f1))) ≤ (wrap64 ((wrap64 (10 * ((y25 l0_2 (ji19)).f0))) + ((y25 l0_2 (ji19)).f1)))) = false := decide_eq_false c22
         clear c22
         have H' := y0.mk H
         clear H
         have hnb26 := NB128_130.out
         have hnc26 := NB130_128.out
         obtain ⟨hcz27_0,hcz27_1,hcz27_2,hfz27_0,hfz27_1,hfz27_2⟩ := qz3 BK128.out
         have p133 : 0 ≤ ((ji19) : Int) := of_decide_eq_true qy1
         have q133 : (ji19) < (l0_2.length : Int) := of_decide_eq_true qy1
         obtain ⟨ad133,e133,hx133_0,hx133_1,hx133_2⟩ := at_T53 HR0_2.out (ji19) p133 q133
         obtain rfl : ad129 = ad133 := (by injection e133)
         replace hx133_0 := (HB.out.cell (World.block_lt_of_cell? w _ hx133_0)).trans hx133_0
         replace hx133_1 := (HB.out.cell (World.block_lt_of_cell? w _ hx133_1)).trans hx133_1
         replace hx133_2 := (HB.out.cell (World.block_lt_of_cell? w _ hx133_2)).trans hx133_2
         replace p133 := eq_true p133
         replace q133 := eq_true q133
         have p134 : 0 ≤ ((ji19) : Int) := of_decide_eq_true qy1
         have q134 : (ji19) < (l0_2.length : Int) := of_decide_eq_true qy1
         obtain ⟨ad134,e134,hx134_0,hx134_1,hx134_2⟩ := at_T53 HR0_2.out (ji19) p134 q134
         obtain rfl : ad129 = ad134 := (by injection e134)
         replace hx134_0 := (HB.out.cell (World.block_lt_of_cell? w _ hx134_0)).trans hx134_0
         replace hx134_1 := (HB.out.cell (World.block_lt_of_cell? w _ hx134_1)).trans hx134_1
         replace hx134_2 := (HB.out.cell (World.block_lt_of_cell? w _ hx134_2)).trans hx134_2
         replace p134 := eq_true p134
         replace q134 := eq_true q134
         obtain ⟨hcz28_0,hcz28_1,hcz28_2,hfz28_0,hfz28_1,hfz28_2⟩ := qz3 BK130.out
         go_wp2
         repeat (go_quiet (fail); try go_wp2)
         go_roundg kj4
         case measure => have := HK1.out; have := HJ4.out; omega
         exact ⟨(wrap64 (x3_1 + 1)),qy2,H',⟨by have := HK1.out; have := HJ4.out; omega⟩,⟨qk BK128.out⟩,⟨qb⟩⟩
       ·rw [if_neg c18] at H
        have c18b0 : decide (0 < x3_1) = false := decide_eq_false c18
        clear c18
        have H' := y0.mk H
        clear H
        go_wp2
        repeat (go_quiet (fail); try go_wp2)
        go_roundg kj4
        case measure => have := HK1.out; have := HJ4.out; omega
        exact ⟨(wrap64 (x3_1 + 1)),qy2,H',⟨by have := HK1.out; have := HJ4.out; omega⟩,⟨qk BK128.out⟩,⟨qb⟩⟩
   ·rw [if_neg c3] at H
    have c3b0 := decide_eq_false c3
    clear c3
    obtain rfl := Option.some.inj H
    obtain ⟨hcz29_0,hcz29_1,hcz29_2,hfz29_0,hfz29_1,hfz29_2⟩ := qz3 BK128.out
    go_wp2
    repeat (go_quiet (fail); try go_wp2)
    go_ret
    exact ⟨by first | rfl | (simp [y17,y18] <;> rfl) | (simp [*,y17,y18] <;> rfl),qb⟩
end Go.Proofs.Ytcckpjflbfofjaa.Pd
end
section
namespace Go.Proofs.Ytcckpjflbfofjaa.Pd
open Go.RowKit Go.Proofs.YtcckpjflbfofjaaW.PrintWords Go.Proofs.YtcckpjflbfofjaaW.PrintLast Go.Proofs.YtcckpjflbfofjaaW.PrintMore
attribute [local go_sem] max2_int min2_int max_two min_two max_three min_three max_four min_four   -- for this text's walks alone
set_option linter.unusedVariables false
set_option linter.unusedSimpArgs false
mutual
def z0_.j0 : Nat → Bool → Int → Int → List (S53) → Int → Int → List (S53) → Option (Int × Int × (List (S53)) × Bool)
 | 0,_,_,_,_,_,_,_ => none
 | k + 1,x27,x136000,x136001,x136002,x137000,x137001,x137002 => if x27 = true then (some (0,0,([] : List (S53)),false)) else (z0_.l0 k 0 x136000 x136001 x136002 x137000 x137001 x137002 x136000 x137001 ([] : List (S53)))
def z0_.l0 : Nat → Int → Int → Int → List (S53) → Int → Int → List (S53) → Int → Int → List (S53) → Option (Int × Int × (List (S53)) × Bool)
 | 0,_,_,_,_,_,_,_,_,_,_ => none
 | k + 1,x7,x136000,x136001,x136002,x137000,x137001,x137002,x141000,x141001,x141002 => if x7 < 6 then (z0_.l1 k x7 0 x136000 x136001 x136002 x137000 x137001 x137002 x141000 x141001 x141002) else (some (x141000,x141001,x141002,true))
def z0_.l1 : Nat → Int → Int → Int → Int → List (S53) → Int → Int → List (S53) → Int → Int → List (S53) → Option (Int × Int × (List (S53)) × Bool)
 | 0,_,_,_,_,_,_,_,_,_,_,_ => none
 | k + 1,x7,x8,x136000,x136001,x136002,x137000,x137001,x137002,x141000,x141001,x141002 => if x8 < 6 then (z0_.l2 k x7 x8 false false 0 x136000 x136001 x136002 x137000 x137001 x137002 x141000 x141001 x141002) else (z0_.l0 k (wrap64 (x7 + 1)) x136000 x136001 x136002 x137000 x137001 x137002 x141000 x141001 x141002)
def z0_.l2 : Nat → Int → Int → Bool → Bool → Int → Int → Int → List (S53) → Int → Int → List (S53) → Int → Int → List (S53) → Option (Int × Int × (List (S53)) × Bool)
 | 0,_,_,_,_,_,_,_,_,_,_,_,_,_,_ => none
 | k + 1,x7,x8,x9,x10,x11,x136000,x136001,x136002,x137000,x137001,x137002,x141000,x141001,x141002 => if x11 < (x136002.length : Int) then (z0_.l3 k x7 x8 x9 x10 x11 0 x136000 x136001 x136002 x137000 x137001 x137002 x141000 x141001 x141002) else (if x9 = true then (if x141002.length < 5864062014805 then (z0_.l1 k x7 (wrap64 (x8 + 1)) x136000 x136001 x136002 x137000 x137001 x137002 x141000 x141001 (x141002 ++ [(⟨x7,x8,x10⟩ : S53)])) else (none)) else (z0_.l1 k x7 (wrap64 (x8 + 1)) x136000 x136001 x136002 x137000 x137001 x137002 x141000 x141001 x141002))
def z0_.l3 : Nat → Int → Int → Bool → Bool → Int → Int → Int → Int → List (S53) → Int → Int → List (S53) → Int → Int → List (S53) → Option (Int × Int × (List (S53)) × Bool)
 | 0,_,_,_,_,_,_,_,_,_,_,_,_,_,_,_ => none
 | k + 1,x7,x8,x9,x10,x11,x12,x136000,x136001,x136002,x137000,x137001,x137002,x141000,x141001,x141002 => if x12 < (x137002.length : Int) then (if 0 ≤ x11 then (if x11 < (x136002.length : Int) then (if ((y25 x136002 x11).f0) = x7 then (if 0 ≤ x12 then (if ((y25 x136002 x11).f1) = ((y25 x137002 x12).f0) then (if ((y25 x137002 x12).f1) = x8 then (if x10 = true then (z0_.l3 k x7 x8 true true x11 (wrap64 (x12 + 1)) x136000 x136001 x136002 x137000 x137001 x137002 x141000 x141001 x141002) else (if (y25 x136002 x11).f2 = true then (z0_.l3 k x7 x8 true true x11 (wrap64 (x12 + 1)) x136000 x136001 x136002 x137000 x137001 x137002 x141000 x141001 x141002) else (z0_.l3 k x7 x8 true ((y25 x137002 x12).f2) x11 (wrap64 (x12 + 1)) x136000 x136001 x136002 x137000 x137001 x137002 x141000 x141001 x141002))) else (z0_.l3 k x7 x8 x9 x10 x11 (wrap64 (x12 + 1)) x136000 x136001 x136002 x137000 x137001 x137002 x141000 x141001 x141002)) else (z0_.l3 k x7 x8 x9 x10 x11 (wrap64 (x12 + 1)) x136000 x136001 x136002 x137000 x137001 x137002 x141000 x141001 x141002)) else (none)) else (z0_.l3 k x7 x8 x9 x10 x11 (wrap64 (x12 + 1)) x136000 x136001 x136002 x137000 x137001 x137002 x141000 x141001 x141002)) else (none)) else (none)) else (z0_.l2 k x7 x8 x9 x10 (wrap64 (x11 + 1)) x136000 x136001 x136002 x137000 x137001 x137002 x141000 x141001 x141002)
end
def z0_.f (k : Nat) (a0_0 : Int) (a0_1 : Int) (l0_2 : List (S53)) (a1_0 : Int) (a1_1 : Int) (l1_2 : List (S53)) : Option (Int × Int × (List (S53)) × Bool) := (spec_l08Right.f k a0_0 a0_1 l0_2).bind fun t138 => (if t138 = true then ((spec_l08Right.f k a1_0 a1_1 l1_2).bind fun t139 => (if t139 = true then (z0_.j0 k (a0_1 != a1_0) a0_0 a0_1 l0_2 a1_0 a1_1 l1_2) else (z0_.j0 k true a0_0 a0_1 l0_2 a1_0 a1_1 l1_2))) else (z0_.j0 k true a0_0 a0_1 l0_2 a1_0 a1_1 l1_2))
set_option maxHeartbeats 8000000 in
set_option maxRecDepth 100000 in
theorem z0_.calls (k : Nat) (a0_0 : Int) (a0_1 : Int) (A0_2 : Option Addr) (c0_2 : Nat) (l0_2 : List (S53)) (a1_0 : Int) (a1_1 : Int) (A1_2 : Option Addr) (c1_2 : Nat) (l1_2 : List (S53)) (r1 : Int) (r2 : Int) (r3 : List (S53)) (r4 : Bool) (w : World) (hr0_2 : Kd.C k53 w A0_2 l0_2.length l0_2) (hc0_2 : l0_2.length ≤ c0_2) (hr1_2 : Kd.C k53 w A1_2 l1_2.length l1_2) (hc1_2 : l1_2.length ≤ c1_2) (h : z0_.f k a0_0 a0_1 l0_2 a1_0 a1_1 l1_2 = some (r1,r2,r3,r4)) :
  Calls Try.prog 8 #[.agg #[.int .i64 a0_0,.int .i64 a0_1,.slice A0_2 l0_2.length c0_2],.agg #[.int .i64 a1_0,.int .i64 a1_1,.slice A1_2 l1_2.length c1_2]] w fun e w' => ∃ v2_ : Value,e = .returned (.tuple #[.agg #[.int .i64 r1,.int .i64 r2,v2_],.bool r4]) ∧ Kd.R k53 53 w' w.heap.size (fun _ => True) v2_ r3 ∧ Below w.heap.size w w' := by
 have hu28 := Try.underlying28
 have hu53 := Try.underlying53
 have HR0_2 := y0.mk hr0_2
 have HC0_2 := y0.mk hc0_2
 clear hr0_2 hc0_2
 have HR1_2 := y0.mk hr1_2
 have HC1_2 := y0.mk hc1_2
 clear hr1_2 hc1_2
 have HB := y0.mk (Below.refl w.heap.size w)
 have H : ((spec_l08Right.f k a0_0 a0_1 l0_2).bind fun t138 => (if t138 = true then ((spec_l08Right.f k a1_0 a1_1 l1_2).bind fun t139 => (if t139 = true then (z0_.j0 k (a0_1 != a1_0) a0_0 a0_1 l0_2 a1_0 a1_1 l1_2) else (z0_.j0 k true a0_0 a0_1 l0_2 a1_0 a1_1 l1_2))) else (z0_.j0 k true a0_0 a0_1 l0_2 a1_0 a1_1 l1_2))) = some (r1,r2,r3,r4) := h
 clear h
 have HC3 := y0.mk H
 clear H
 go_enter Try.func8,Try.ntmps8
 go_upto_region 1 with (first | ((with_reducible refine y20 (N := 2) rfl ?_); refine qe 2 #[.int .i64 a0_0,.int .i64 a0_1,.slice A0_2 l0_2.length c0_2] 28 ?_; intro gb135 hg w4 hbox hb; have BK135 := y0.mk (hbox); have GW135 := y0.mk (qg (w := w) hg); have GE135 := y0.mk (qg (w := w) hg); replace HB := y0.mk (y7 qb hb); clear hb hbox hg) | ((with_reducible refine y20 (N := 3) rfl ?_); refine qe 3 #[.int .i64 a1_0,.int .i64 a1_1,.slice A1_2 l1_2.length c1_2] 28 ?_; intro gb136 hg w5 hbox hb; have BK136 := y0.mk (hbox); have GW136 := y0.mk (qg (w := w) hg); have GE136 := y0.mk (qg (w := w) hg); replace HB := y0.mk (y7 qb hb); have NB135_136 := y0.mk (qn BK135.out hg); have NB136_135 := y0.mk (qm BK135.out hg); replace BK135 := y0.mk (qK BK135.out hb); clear hb hbox hg) | ((with_reducible refine y20 (N := 4) rfl ?_); refine qe 4 #[.int .i64 0,.int .i64 0,.slice none 0 0] 28 ?_; intro gb137 hg w6 hbox hb; have BK137 := y0.mk (hbox); have GW137 := y0.mk (qg (w := w) hg); have GE137 := y0.mk (qg (w := w) hg); replace HB := y0.mk (y7 qb hb); have NB135_137 := y0.mk (qn BK135.out hg); have NB137_135 := y0.mk (qm BK135.out hg); replace BK135 := y0.mk (qK BK135.out hb); have NB136_137 := y0.mk (qn BK136.out hg); have NB137_136 := y0.mk (qm BK136.out hg); replace BK136 := y0.mk (qK BK136.out hb); clear hb hbox hg))
 repeat (go_quiet (first | ((with_reducible refine y20 (N := 2) rfl ?_); refine qe 2 #[.int .i64 a0_0,.int .i64 a0_1,.slice A0_2 l0_2.length c0_2] 28 ?_; intro gb135 hg w4 hbox hb; have BK135 := y0.mk (hbox); have GW135 := y0.mk (qg (w := w) hg); have GE135 := y0.mk (qg (w := w) hg); replace HB := y0.mk (y7 qb hb); clear hb hbox hg) | ((with_reducible refine y20 (N := 3) rfl ?_); refine qe 3 #[.int .i64 a1_0,.int .i64 a1_1,.slice A1_2 l1_2.length c1_2] 28 ?_; intro gb136 hg w5 hbox hb; have BK136 := y0.mk (hbox); have GW136 := y0.mk (qg (w := w) hg); have GE136 := y0.mk (qg (w := w) hg); replace HB := y0.mk (y7 qb hb); have NB135_136 := y0.mk (qn BK135.out hg); have NB136_135 := y0.mk (qm BK135.out hg); replace BK135 := y0.mk (qK BK135.out hb); clear hb hbox hg) | ((with_reducible refine y20 (N := 4) rfl ?_); refine qe 4 #[.int .i64 0,.int .i64 0,.slice none 0 0] 28 ?_; intro gb137 hg w6 hbox hb; have BK137 := y0.mk (hbox); have GW137 := y0.mk (qg (w := w) hg); have GE137 := y0.mk (qg (w := w) hg); replace HB := y0.mk (y7 qb hb); have NB135_137 := y0.mk (qn BK135.out hg); have NB137_135 := y0.mk (qm BK135.out hg); replace BK135 := y0.mk (qK BK135.out hb); have NB136_137 := y0.mk (qn BK136.out hg); have NB137_136 := y0.mk (qm BK136.out hg); replace BK136 := y0.mk (qK BK136.out hb); clear hb hbox hg)); go_upto_region 1 with (first | ((with_reducible refine y20 (N := 2) rfl ?_); refine qe 2 #[.int .i64 a0_0,.int .i64 a0_1,.slice A0_2 l0_2.length c0_2] 28 ?_; intro gb135 hg w4 hbox hb; have BK135 := y0.mk (hbox); have GW135 := y0.mk (qg (w := w) hg); have GE135 := y0.mk (qg (w := w) hg); replace HB := y0.mk (y7 qb hb); clear hb hbox hg) | ((with_reducible refine y20 (N := 3) rfl ?_); refine qe 3 #[.int .i64 a1_0,.int .i64 a1_1,.slice A1_2 l1_2.length c1_2] 28 ?_; intro gb136 hg w5 hbox hb; have BK136 := y0.mk (hbox); have GW136 := y0.mk (qg (w := w) hg); have GE136 := y0.mk (qg (w := w) hg); replace HB := y0.mk (y7 qb hb); have NB135_136 := y0.mk (qn BK135.out hg); have NB136_135 := y0.mk (qm BK135.out hg); replace BK135 := y0.mk (qK BK135.out hb); clear hb hbox hg) | ((with_reducible refine y20 (N := 4) rfl ?_); refine qe 4 #[.int .i64 0,.int .i64 0,.slice none 0 0] 28 ?_; intro gb137 hg w6 hbox hb; have BK137 := y0.mk (hbox); have GW137 := y0.mk (qg (w := w) hg); have GE137 := y0.mk (qg (w := w) hg); replace HB := y0.mk (y7 qb hb); have NB135_137 := y0.mk (qn BK135.out hg); have NB137_135 := y0.mk (qm BK135.out hg); replace BK135 := y0.mk (qK BK135.out hb); have NB136_137 := y0.mk (qn BK136.out hg); have NB137_136 := y0.mk (qm BK136.out hg); replace BK136 := y0.mk (qK BK136.out hb); clear hb hbox hg)))
 (try simp only [Act.put,qS_,qZ_,qC_])
 go_cut [27] (fun v27 wc => ∃ (kq : Nat) (x27_2 : Bool),v27 = .bool x27_2 ∧ y0 (z0_.j0 kq x27_2 a0_0 a0_1 l0_2 a1_0 a1_1 l1_2 = some (r1,r2,r3,r4)) ∧ y0 (kq ≤ k) ∧ y0 (wc.heap[gb135]? = some (.cells #[.int .i64 a0_0,.int .i64 a0_1,(.slice A0_2 l0_2.length c0_2)] 28 (0,0))) ∧ y0 (wc.heap[gb136]? = some (.cells #[.int .i64 a1_0,.int .i64 a1_1,(.slice A1_2 l1_2.length c1_2)] 28 (0,0))) ∧ y0 (wc.heap[gb137]? = some (.cells #[.int .i64 0,.int .i64 0,(.slice none 0 0)] 28 (0,0))) ∧ y0 (Below w.heap.size w wc))
 case first =>
  have H := HC3.out
  clear HC3
  obtain ⟨t138,A7,H⟩ := qB H
  by_cases c8 : t138 = true
  ·subst c8
   replace H := qT H
   obtain ⟨t139,A9,H⟩ := qB H
   by_cases c10 : t139 = true
   ·subst c10
    replace H := qT H
    have H' := y0.mk H
    clear H
    have hnb11 := NB135_136.out
    have hnc11 := NB136_135.out
    have hnb12 := NB135_137.out
    have hnc12 := NB137_135.out
    obtain ⟨hcz13_0,hcz13_1,hcz13_2,hfz13_0,hfz13_1,hfz13_2⟩ := qz3 BK135.out
    go_wp2_with (first | (go_at_call 27; (with_reducible refine (spec_l08Right.calls k a0_0 a0_1 _ _ l0_2 true _ (qc (Kd.C_below HR0_2.out HB.out)) HC0_2.out A7.out).mono ?_); rintro e w14 ⟨rfl,hb⟩; replace BK135 := y0.mk (qK BK135.out hb); replace BK136 := y0.mk (qK BK136.out hb); replace BK137 := y0.mk (qK BK137.out hb); replace HB := y0.mk (y7 qb hb); (try clear hb); (try clear hb2); (try clear hk); (try clear hi); have hnb15 := NB136_137.out; have hnc15 := NB137_136.out; obtain ⟨hcz16_0,hcz16_1,hcz16_2,hfz16_0,hfz16_1,hfz16_2⟩ := qz3 BK136.out) | (go_at_call 27; (with_reducible refine (spec_l08Right.calls k a1_0 a1_1 _ _ l1_2 true _ (qc (Kd.C_below HR1_2.out HB.out)) HC1_2.out A9.out).mono ?_); rintro e w17 ⟨rfl,hb⟩; replace BK135 := y0.mk (qK BK135.out hb); replace BK136 := y0.mk (qK BK136.out hb); replace BK137 := y0.mk (qK BK137.out hb); replace HB := y0.mk (y7 qb hb); (try clear hb); (try clear hb2); (try clear hk); (try clear hi); obtain ⟨hcz18_0,hcz18_1,hcz18_2,hfz18_0,hfz18_1,hfz18_2⟩ := qz3 BK135.out; obtain ⟨hcz19_0,hcz19_1,hcz19_2,hfz19_0,hfz19_1,hfz19_2⟩ := qz3 BK136.out))
    repeat (go_quiet (first | (go_at_call 27; (with_reducible refine (spec_l08Right.calls k a0_0 a0_1 _ _ l0_2 true _ (qc (Kd.C_below HR0_2.out HB.out)) HC0_2.out A7.out).mono ?_); rintro e w14 ⟨rfl,hb⟩; replace BK135 := y0.mk (qK BK135.out hb); replace BK136 := y0.mk (qK BK136.out hb); replace BK137 := y0.mk (qK BK137.out hb); replace HB := y0.mk (y7 qb hb); (try clear hb); (try clear hb2); (try clear hk); (try clear hi); have hnb15 := NB136_137.out; have hnc15 := NB137_136.out; obtain ⟨hcz16_0,hcz16_1,hcz16_2,hfz16_0,hfz16_1,hfz16_2⟩ := qz3 BK136.out) | (go_at_call 27; (with_reducible refine (spec_l08Right.calls k a1_0 a1_1 _ _ l1_2 true _ (qc (Kd.C_below HR1_2.out HB.out)) HC1_2.out A9.out).mono ?_); rintro e w17 ⟨rfl,hb⟩; replace BK135 := y0.mk (qK BK135.out hb); replace BK136 := y0.mk (qK BK136.out hb); replace BK137 := y0.mk (qK BK137.out hb); replace HB := y0.mk (y7 qb hb); (try clear hb); (try clear hb2); (try clear hk); (try clear hi); obtain ⟨hcz18_0,hcz18_1,hcz18_2,hfz18_0,hfz18_1,hfz18_2⟩ := qz3 BK135.out; obtain ⟨hcz19_0,hcz19_1,hcz19_2,hfz19_0,hfz19_1,hfz19_2⟩ := qz3 BK136.out)); try go_wp2_with (first | (go_at_call 27; (with_reducible refine (spec_l08Right.calls k a0_0 a0_1 _ _ l0_2 true _ (qc (Kd.C_below HR0_2.out HB.out)) HC0_2.out A7.out).mono ?_); rintro e w14 ⟨rfl,hb⟩; replace BK135 := y0.mk (qK BK135.out hb); replace BK136 := y0.mk (qK BK136.out hb); replace BK137 := y0.mk (qK BK137.out hb); replace HB := y0.mk (y7 qb hb); (try clear hb); (try clear hb2); (try clear hk); (try clear hi); have hnb15 := NB136_137.out; have hnc15 := NB137_136.out; obtain ⟨hcz16_0,hcz16_1,hcz16_2,hfz16_0,hfz16_1,hfz16_2⟩ := qz3 BK136.out) | (go_at_call 27; (with_reducible refine (spec_l08Right.calls k a1_0 a1_1 _ _ l1_2 true _ (qc (Kd.C_below HR1_2.out HB.out)) HC1_2.out A9.out).mono ?_); rintro e w17 ⟨rfl,hb⟩; replace BK135 := y0.mk (qK BK135.out hb); replace BK136 := y0.mk (qK BK136.out hb); replace BK137 := y0.mk (qK BK137.out hb); replace HB := y0.mk (y7 qb hb); (try clear hb); (try clear hb2); (try clear hk); (try clear hi); obtain ⟨hcz18_0,hcz18_1,hcz18_2,hfz18_0,hfz18_1,hfz18_2⟩ := qz3 BK135.out; obtain ⟨hcz19_0,hcz19_1,hcz19_2,hfz19_0,hfz19_1,hfz19_2⟩ := qz3 BK136.out)))
    go_meet
    exact ⟨_,((a0_1 != a1_0)),qy2,H',⟨by first | omega | exact Nat.le_refl _⟩,⟨qk BK135.out⟩,⟨qk BK136.out⟩,⟨qk BK137.out⟩,⟨qb⟩⟩
   ·replace c10 := Bool.eq_false_iff.mpr c10
    subst c10
    replace H := qF H
    have H' := y0.mk H
    clear H
    have hnb20 := NB135_136.out
    have hnc20 := NB136_135.out
    have hnb21 := NB135_137.out
    have hnc21 := NB137_135.out
    obtain ⟨hcz22_0,hcz22_1,hcz22_2,hfz22_0,hfz22_1,hfz22_2⟩ := qz3 BK135.out
    go_wp2_with (first | (go_at_call 27; (with_reducible refine (spec_l08Right.calls k a0_0 a0_1 _ _ l0_2 true _ (qc (Kd.C_below HR0_2.out HB.out)) HC0_2.out A7.out).mono ?_); rintro e w23 ⟨rfl,hb⟩; replace BK135 := y0.mk (qK BK135.out hb); replace BK136 := y0.mk (qK BK136.out hb); replace BK137 := y0.mk (qK BK137.out hb); replace HB := y0.mk (y7 qb hb); (try clear hb); (try clear hb2); (try clear hk); (try clear hi); have hnb24 := NB136_137.out; have hnc24 := NB137_136.out; obtain ⟨hcz25_0,hcz25_1,hcz25_2,hfz25_0,hfz25_1,hfz25_2⟩ := qz3 BK136.out) | (go_at_call 27; (with_reducible refine (spec_l08Right.calls k a1_0 a1_1 _ _ l1_2 false _ (qc (Kd.C_below HR1_2.out HB.out)) HC1_2.out A9.out).mono ?_); rintro e w26 ⟨rfl,hb⟩; replace BK135 := y0.mk (qK BK135.out hb); replace BK136 := y0.mk (qK BK136.out hb); replace BK137 := y0.mk (qK BK137.out hb); replace HB := y0.mk (y7 qb hb); (try clear hb); (try clear hb2); (try clear hk); (try clear hi)))
    repeat (go_quiet (first | (go_at_call 27; (with_reducible refine (spec_l08Right.calls k a0_0 a0_1 _ _ l0_2 true _ (qc (Kd.C_below HR0_2.out HB.out)) HC0_2.out A7.out).mono ?_); rintro e w23 ⟨rfl,hb⟩; replace BK135 := y0.mk (qK BK135.out hb); replace BK136 := y0.mk (qK BK136.out hb); replace BK137 := y0.mk (qK BK137.out hb); replace HB := y0.mk (y7 qb hb); (try clear hb); (try clear hb2); (try clear hk); (try clear hi); have hnb24 := NB136_137.out; have hnc24 := NB137_136.out; obtain ⟨hcz25_0,hcz25_1,hcz25_2,hfz25_0,hfz25_1,hfz25_2⟩ := qz3 BK136.out) | (go_at_call 27; (with_reducible refine (spec_l08Right.calls k a1_0 a1_1 _ _ l1_2 false _ (qc (Kd.C_below HR1_2.out HB.out)) HC1_2.out A9.out).mono ?_); rintro e w26 ⟨rfl,hb⟩; replace BK135 := y0.mk (qK BK135.out hb); replace BK136 := y0.mk (qK BK136.out hb); replace BK137 := y0.mk (qK BK137.out hb); replace HB := y0.mk (y7 qb hb); (try clear hb); (try clear hb2); (try clear hk); (try clear hi))); try go_wp2_with (first | (go_at_call 27; (with_reducible refine (spec_l08Right.calls k a0_0 a0_1 _ _ l0_2 true _ (qc (Kd.C_below HR0_2.out HB.out)) HC0_2.out A7.out).mono ?_); rintro e w23 ⟨rfl,hb⟩; replace BK135 := y0.mk (qK BK135.out hb); replace BK136 := y0.mk (qK BK136.out hb); replace BK137 := y0.mk (qK BK137.out hb); replace HB := y0.mk (y7 qb hb); (try clear hb); (try clear hb2); (try clear hk); (try clear hi); have hnb24 := NB136_137.out; have hnc24 := NB137_136.out; obtain ⟨hcz25_0,hcz25_1,hcz25_2,hfz25_0,hfz25_1,hfz25_2⟩ := qz3 BK136.out) | (go_at_call 27; (with_reducible refine (spec_l08Right.calls k a1_0 a1_1 _ _ l1_2 false _ (qc (Kd.C_below HR1_2.out HB.out)) HC1_2.out A9.out).mono ?_); rintro e w26 ⟨rfl,hb⟩; replace BK135 := y0.mk (qK BK135.out hb); replace BK136 := y0.mk (qK BK136.out hb); replace BK137 := y0.mk (qK BK137.out hb); replace HB := y0.mk (y7 qb hb); (try clear hb); (try clear hb2); (try clear hk); (try clear hi))))
    go_meet
    exact ⟨_,(true),qy2,H',⟨by first | omega | exact Nat.le_refl _⟩,⟨qk BK135.out⟩,⟨qk BK136.out⟩,⟨qk BK137.out⟩,⟨qb⟩⟩
  ·replace c8 := Bool.eq_false_iff.mpr c8
   subst c8
   replace H := qF H
   have H' := y0.mk H
   clear H
   have hnb27 := NB135_136.out
   have hnc27 := NB136_135.out
   have hnb28 := NB135_137.out
   have hnc28 := NB137_135.out
   obtain ⟨hcz29_0,hcz29_1,hcz29_2,hfz29_0,hfz29_1,hfz29_2⟩ := qz3 BK135.out
   go_wp2_with (first | (go_at_call 27; (with_reducible refine (spec_l08Right.calls k a0_0 a0_1 _ _ l0_2 false _ (qc (Kd.C_below HR0_2.out HB.out)) HC0_2.out A7.out).mono ?_); rintro e w30 ⟨rfl,hb⟩; replace BK135 := y0.mk (qK BK135.out hb); replace BK136 := y0.mk (qK BK136.out hb); replace BK137 := y0.mk (qK BK137.out hb); replace HB := y0.mk (y7 qb hb); (try clear hb); (try clear hb2); (try clear hk); (try clear hi)))
   repeat (go_quiet (first | (go_at_call 27; (with_reducible refine (spec_l08Right.calls k a0_0 a0_1 _ _ l0_2 false _ (qc (Kd.C_below HR0_2.out HB.out)) HC0_2.out A7.out).mono ?_); rintro e w30 ⟨rfl,hb⟩; replace BK135 := y0.mk (qK BK135.out hb); replace BK136 := y0.mk (qK BK136.out hb); replace BK137 := y0.mk (qK BK137.out hb); replace HB := y0.mk (y7 qb hb); (try clear hb); (try clear hb2); (try clear hk); (try clear hi))); try go_wp2_with (first | (go_at_call 27; (with_reducible refine (spec_l08Right.calls k a0_0 a0_1 _ _ l0_2 false _ (qc (Kd.C_below HR0_2.out HB.out)) HC0_2.out A7.out).mono ?_); rintro e w30 ⟨rfl,hb⟩; replace BK135 := y0.mk (qK BK135.out hb); replace BK136 := y0.mk (qK BK136.out hb); replace BK137 := y0.mk (qK BK137.out hb); replace HB := y0.mk (y7 qb hb); (try clear hb); (try clear hb2); (try clear hk); (try clear hi))))
   go_meet
   exact ⟨_,(true),qy2,H',⟨by first | omega | exact Nat.le_refl _⟩,⟨qk BK135.out⟩,⟨qk BK136.out⟩,⟨qk BK137.out⟩,⟨qb⟩⟩
 case rest =>
  clear HC3
  obtain ⟨kq,x27_2,rfl,HA,HJ2,BK135,BK136,BK137,HB⟩ := hcut
  cases kq with
  | zero => exact absurd HA.out (by simp [z0_.j0])
  | succ kj2 =>
   have H := HA.out
   clear HA
   simp only [z0_.j0] at H
   by_cases c31 : x27_2 = true
   ·subst c31
    replace H := qT H
    simp only [Option.some.injEq,Prod.mk.injEq] at H
    obtain ⟨rfl,rfl,rfl,rfl⟩ := H
    have hnb32 := NB137_135.out
    have hnc32 := NB135_137.out
    have hnb33 := NB137_136.out
    have hnc33 := NB136_137.out
    obtain ⟨hcz34_0,hcz34_1,hcz34_2,hfz34_0,hfz34_1,hfz34_2⟩ := qz3 BK137.out
    go_wp2
    repeat (go_quiet (fail); try go_wp2)
    refine bodyPost_ret (results_ct rfl _ _ gb137 28 #[.int .i64 0,.int .i64 0,.slice none 0 0] (0,0) _ rfl (by (with_reducible repeat (first | refine y12 ?_ _ | refine y11 ?_ | refine y8 ?_ _)); refine y16 (cs := #[.int .i64 0,.int .i64 0,.slice none 0 0]) ?_ 2 _ rfl; (with_reducible repeat (first | refine y12 ?_ _ | refine y11 ?_ | refine y8 ?_ _)); refine y16 (cs := #[.int .i64 0,.int .i64 0,.slice none 0 0]) ?_ 1 _ rfl; (with_reducible repeat (first | refine y12 ?_ _ | refine y11 ?_ | refine y8 ?_ _)); refine y16 (cs := #[.int .i64 0,.int .i64 0,.slice none 0 0]) ?_ 0 _ rfl; (with_reducible repeat (first | refine y12 ?_ _ | refine y11 ?_ | refine y8 ?_ _)); exact BK137.out) Try.underlying28 rfl (by kernel_rfl)) rfl ?_
    exact ⟨_,by first | rfl | (simp [y17,y18] <;> rfl) | (simp [*,y17,y18] <;> rfl),by first | exact Kd.R_nil _ _ _ _ _ | exact Kd.N_nil _ _ _ _ _ | exact Kd.V_nil _ _ _ _ _ | exact Kd.Q_nil _ _ _ _ _ | exact Kd.S_nil _ _ _ _ _,qb⟩
   ·replace c31 := Bool.eq_false_iff.mpr c31
    subst c31
    replace H := qF H
    have H' := y0.mk H
    clear H
    have hnb35 := NB135_136.out
    have hnc35 := NB136_135.out
    have hnb36 := NB135_137.out
    have hnc36 := NB137_135.out
    obtain ⟨hcz37_0,hcz37_1,hcz37_2,hfz37_0,hfz37_1,hfz37_2⟩ := qz3 BK135.out
    have hnb38 := NB136_137.out
    have hnc38 := NB137_136.out
    obtain ⟨hcz39_0,hcz39_1,hcz39_2,hfz39_0,hfz39_1,hfz39_2⟩ := qz3 BK136.out
    go_wp2_with (first | ((with_reducible refine y20 (N := 6) rfl ?_); refine qe 6 #[.int .i64 0,.int .i64 0,.slice none 0 0] 28 ?_; intro gb140 hg w40 hbox hb; have BK140 := y0.mk (hbox); have GW140 := y0.mk (qg (w := w) hg); have GE140 := y0.mk (qg (w := w) hg); replace HB := y0.mk (y7 qb hb); have NB135_140 := y0.mk (qn BK135.out hg); have NB140_135 := y0.mk (qm BK135.out hg); replace BK135 := y0.mk (qK BK135.out hb); have NB136_140 := y0.mk (qn BK136.out hg); have NB140_136 := y0.mk (qm BK136.out hg); replace BK136 := y0.mk (qK BK136.out hb); have NB137_140 := y0.mk (qn BK137.out hg); have NB140_137 := y0.mk (qm BK137.out hg); replace BK137 := y0.mk (qK BK137.out hb); clear hb hbox hg; have hnb41 := NB140_135.out; have hnc41 := NB135_140.out; have hnb42 := NB140_136.out; have hnc42 := NB136_140.out; have hnb43 := NB140_137.out; have hnc43 := NB137_140.out; obtain ⟨hcz44_0,hcz44_1,hcz44_2,hfz44_0,hfz44_1,hfz44_2⟩ := qz3 BK140.out))
    repeat (go_quiet (first | ((with_reducible refine y20 (N := 6) rfl ?_); refine qe 6 #[.int .i64 0,.int .i64 0,.slice none 0 0] 28 ?_; intro gb140 hg w40 hbox hb; have BK140 := y0.mk (hbox); have GW140 := y0.mk (qg (w := w) hg); have GE140 := y0.mk (qg (w := w) hg); replace HB := y0.mk (y7 qb hb); have NB135_140 := y0.mk (qn BK135.out hg); have NB140_135 := y0.mk (qm BK135.out hg); replace BK135 := y0.mk (qK BK135.out hb); have NB136_140 := y0.mk (qn BK136.out hg); have NB140_136 := y0.mk (qm BK136.out hg); replace BK136 := y0.mk (qK BK136.out hb); have NB137_140 := y0.mk (qn BK137.out hg); have NB140_137 := y0.mk (qm BK137.out hg); replace BK137 := y0.mk (qK BK137.out hb); clear hb hbox hg; have hnb41 := NB140_135.out; have hnc41 := NB135_140.out; have hnb42 := NB140_136.out; have hnc42 := NB136_140.out; have hnb43 := NB140_137.out; have hnc43 := NB137_140.out; obtain ⟨hcz44_0,hcz44_1,hcz44_2,hfz44_0,hfz44_1,hfz44_2⟩ := qz3 BK140.out)); try go_wp2_with (first | ((with_reducible refine y20 (N := 6) rfl ?_); refine qe 6 #[.int .i64 0,.int .i64 0,.slice none 0 0] 28 ?_; intro gb140 hg w40 hbox hb; have BK140 := y0.mk (hbox); have GW140 := y0.mk (qg (w := w) hg); have GE140 := y0.mk (qg (w := w) hg); replace HB := y0.mk (y7 qb hb); have NB135_140 := y0.mk (qn BK135.out hg); have NB140_135 := y0.mk (qm BK135.out hg); replace BK135 := y0.mk (qK BK135.out hb); have NB136_140 := y0.mk (qn BK136.out hg); have NB140_136 := y0.mk (qm BK136.out hg); replace BK136 := y0.mk (qK BK136.out hb); have NB137_140 := y0.mk (qn BK137.out hg); have NB140_137 := y0.mk (qm BK137.out hg); replace BK137 := y0.mk (qK BK137.out hb); clear hb hbox hg; have hnb41 := NB140_135.out; have hnc41 := NB135_140.out; have hnb42 := NB140_136.out; have hnc42 := NB136_140.out; have hnb43 := NB140_137.out; have hnc43 := NB137_140.out; obtain ⟨hcz44_0,hcz44_1,hcz44_2,hfz44_0,hfz44_1,hfz44_2⟩ := qz3 BK140.out)))
    go_loopg [7] kj2 (fun kq v7 w' => ∃ (x7_2 : Int) (x141002_2 : List (S53)) (u141002 : Value),v7 = .int .i64 x7_2 ∧ y0 (z0_.l0 kq x7_2 a0_0 a0_1 l0_2 a1_0 a1_1 l1_2 a0_0 a1_1 x141002_2 = some (r1,r2,r3,r4)) ∧ y0 (kq ≤ kj2) ∧ y0 (Kd.R k53 53 w' w.heap.size (fun _ => True) u141002 x141002_2) ∧ y0 (w'.heap[gb135]? = some (.cells #[.int .i64 a0_0,.int .i64 a0_1,(.slice A0_2 l0_2.length c0_2)] 28 (0,0))) ∧ y0 (w'.heap[gb136]? = some (.cells #[.int .i64 a1_0,.int .i64 a1_1,(.slice A1_2 l1_2.length c1_2)] 28 (0,0))) ∧ y0 (w'.heap[gb137]? = some (.cells #[.int .i64 0,.int .i64 0,(.slice none 0 0)] 28 (0,0))) ∧ y0 (w'.heap[gb140]? = some (.cells #[.int .i64 a0_0,.int .i64 a1_1,u141002] 28 (0,0))) ∧ y0 (Below w.heap.size w w'))
    case atStart => exact ⟨(0),(([] : List (S53))),(.slice none 0 0),qy2,H',⟨Nat.le_refl _⟩,⟨by first | exact Kd.R_nil _ _ _ _ _ | exact Kd.N_nil _ _ _ _ _ | exact Kd.V_nil _ _ _ _ _ | exact Kd.Q_nil _ _ _ _ _ | exact Kd.S_nil _ _ _ _ _⟩,⟨by (with_reducible repeat (first | refine y12 ?_ _ | refine y11 ?_ | refine y8 ?_ _)); refine y13 ?_ NB135_140.out _; (with_reducible repeat (first | refine y12 ?_ _ | refine y11 ?_ | refine y8 ?_ _)); refine y13 ?_ NB135_140.out _; (with_reducible repeat (first | refine y12 ?_ _ | refine y11 ?_ | refine y8 ?_ _)); refine y13 ?_ NB135_140.out _; (with_reducible repeat (first | refine y12 ?_ _ | refine y11 ?_ | refine y8 ?_ _)); exact BK135.out⟩,⟨by (with_reducible repeat (first | refine y12 ?_ _ | refine y11 ?_ | refine y8 ?_ _)); refine y13 ?_ NB136_140.out _; (with_reducible repeat (first | refine y12 ?_ _ | refine y11 ?_ | refine y8 ?_ _)); refine y13 ?_ NB136_140.out _; (with_reducible repeat (first | refine y12 ?_ _ | refine y11 ?_ | refine y8 ?_ _)); refine y13 ?_ NB136_140.out _; (with_reducible repeat (first | refine y12 ?_ _ | refine y11 ?_ | refine y8 ?_ _)); exact BK136.out⟩,⟨by (with_reducible repeat (first | refine y12 ?_ _ | refine y11 ?_ | refine y8 ?_ _)); refine y13 ?_ NB137_140.out _; (with_reducible repeat (first | refine y12 ?_ _ | refine y11 ?_ | refine y8 ?_ _)); refine y13 ?_ NB137_140.out _; (with_reducible repeat (first | refine y12 ?_ _ | refine y11 ?_ | refine y8 ?_ _)); refine y13 ?_ NB137_140.out _; (with_reducible repeat (first | refine y12 ?_ _ | refine y11 ?_ | refine y8 ?_ _)); exact BK137.out⟩,⟨by (with_reducible repeat (first | refine y12 ?_ _ | refine y11 ?_ | refine y8 ?_ _)); refine y16 (cs := #[.int .i64 a0_0,.int .i64 a1_1,.slice none 0 0]) ?_ 2 _ rfl; (with_reducible repeat (first | refine y12 ?_ _ | refine y11 ?_ | refine y8 ?_ _)); refine y16 (cs := #[.int .i64 a0_0,.int .i64 0,.slice none 0 0]) ?_ 1 _ rfl; (with_reducible repeat (first | refine y12 ?_ _ | refine y11 ?_ | refine y8 ?_ _)); refine y16 (cs := #[.int .i64 0,.int .i64 0,.slice none 0 0]) ?_ 0 _ rfl; (with_reducible repeat (first | refine y12 ?_ _ | refine y11 ?_ | refine y8 ?_ _)); exact BK140.out⟩,⟨qb⟩⟩
    case round =>
     clear H'
     (try clear c31 hcz37_0 hcz37_1 hcz37_2 hcz39_0 hcz39_1 hcz39_2 hcz44_0 hcz44_1 hcz44_2 hfz37_0 hfz37_1 hfz37_2 hfz39_0 hfz39_1 hfz39_2 hfz44_0 hfz44_1 hfz44_2)
     obtain ⟨x7_2,x141002_2,u141002,rfl,HA,HK2,HO_141002,BK135,BK136,BK137,BK140,HB⟩ := hrel
     cases gk with
     | zero => exact absurd HA.out (by simp [z0_.l0])
     | succ k2 =>
      have H := HA.out
      clear HA
      simp only [z0_.l0] at H
      by_cases c45 : x7_2 < 6
      ·rw [if_pos c45] at H
       have c45b0 := decide_eq_true c45
       clear c45
       have H' := y0.mk H
       clear H
       go_wp2
       repeat (go_quiet (fail); try go_wp2)
       go_loopg [8] k2 (fun kq v8 w' => ∃ (x8_3 : Int) (x141002_3 : List (S53)) (u141002 : Value),v8 = .int .i64 x8_3 ∧ y0 (z0_.l1 kq x7_2 x8_3 a0_0 a0_1 l0_2 a1_0 a1_1 l1_2 a0_0 a1_1 x141002_3 = some (r1,r2,r3,r4)) ∧ y0 (kq ≤ k2) ∧ y0 (Kd.R k53 53 w' w.heap.size (fun _ => True) u141002 x141002_3) ∧ y0 (w'.heap[gb135]? = some (.cells #[.int .i64 a0_0,.int .i64 a0_1,(.slice A0_2 l0_2.length c0_2)] 28 (0,0))) ∧ y0 (w'.heap[gb136]? = some (.cells #[.int .i64 a1_0,.int .i64 a1_1,(.slice A1_2 l1_2.length c1_2)] 28 (0,0))) ∧ y0 (w'.heap[gb137]? = some (.cells #[.int .i64 0,.int .i64 0,(.slice none 0 0)] 28 (0,0))) ∧ y0 (w'.heap[gb140]? = some (.cells #[.int .i64 a0_0,.int .i64 a1_1,u141002] 28 (0,0))) ∧ y0 (Below w.heap.size w w'))
       case atStart => exact ⟨(0),(x141002_2),(u141002),qy2,H',⟨Nat.le_refl _⟩,⟨qR HO_141002.out⟩,⟨qk BK135.out⟩,⟨qk BK136.out⟩,⟨qk BK137.out⟩,⟨qk BK140.out⟩,⟨qb⟩⟩
       case round =>
        clear H'
        (try clear c45b0)
        obtain ⟨x8_3,x141002_3,u141002,rfl,HA,HK3,HO_141002,BK135,BK136,BK137,BK140,HB⟩ := hrel
        cases gk with
        | zero => exact absurd HA.out (by simp [z0_.l1])
        | succ k3 =>
         have H := HA.out
         clear HA
         simp only [z0_.l1] at H
         by_cases c46 : x8_3 < 6
         ·rw [if_pos c46] at H
          have c46b0 := decide_eq_true c46
          clear c46
          have H' := y0.mk H
          clear H
          go_wp2
          repeat (go_quiet (fail); try go_wp2)
          go_loopg [9,10,11] k3 (fun kq v9 v10 v11 w' => ∃ (x9_4 : Bool) (x10_4 : Bool) (x11_4 : Int),v9 = .bool x9_4 ∧ v10 = .bool x10_4 ∧ v11 = .int .i64 x11_4 ∧ y0 (z0_.l2 kq x7_2 x8_3 x9_4 x10_4 x11_4 a0_0 a0_1 l0_2 a1_0 a1_1 l1_2 a0_0 a1_1 x141002_3 = some (r1,r2,r3,r4)) ∧ y0 (kq ≤ k3) ∧ y0 (Kd.R k53 53 w' w.heap.size (fun _ => True) u141002 x141002_3) ∧ y0 (w'.heap[gb135]? = some (.cells #[.int .i64 a0_0,.int .i64 a0_1,(.slice A0_2 l0_2.length c0_2)] 28 (0,0))) ∧ y0 (w'.heap[gb136]? = some (.cells #[.int .i64 a1_0,.int .i64 a1_1,(.slice A1_2 l1_2.length c1_2)] 28 (0,0))) ∧ y0 (w'.heap[gb137]? = some (.cells #[.int .i64 0,.int .i64 0,(.slice none 0 0)] 28 (0,0))) ∧ y0 (w'.heap[gb140]? = some (.cells #[.int .i64 a0_0,.int .i64 a1_1,u141002] 28 (0,0))) ∧ y0 (Below w.heap.size w w'))
          case atStart => exact ⟨(false),(false),(0),qy2,qy2,qy2,H',⟨Nat.le_refl _⟩,⟨qR HO_141002.out⟩,⟨qk BK135.out⟩,⟨qk BK136.out⟩,⟨qk BK137.out⟩,⟨qk BK140.out⟩,⟨qb⟩⟩
          case round =>
           clear H'
           (try clear c46b0)
           obtain ⟨x9_4,x10_4,x11_4,rfl,rfl,rfl,HA,HK4,HO_141002,BK135,BK136,BK137,BK140,HB⟩ := hrel
           cases gk with
           | zero => exact absurd HA.out (by simp [z0_.l2])
           | succ k4 =>
            have H := HA.out
            clear HA
            simp only [z0_.l2] at H
            by_cases c47 : x11_4 < (l0_2.length : Int)
            ·rw [if_pos c47] at H
             have c47b0 := decide_eq_true c47
             clear c47
             have H' := y0.mk H
             clear H
             have hnb48 := NB135_136.out
             have hnc48 := NB136_135.out
             have hnb49 := NB135_137.out
             have hnc49 := NB137_135.out
             have hnb50 := NB135_140.out
             have hnc50 := NB140_135.out
             obtain ⟨hcz51_0,hcz51_1,hcz51_2,hfz51_0,hfz51_1,hfz51_2⟩ := qz3 BK135.out
             go_wp2
             repeat (go_quiet (fail); try go_wp2)
             go_loopg [9,10,12] k4 (fun kq v9 v10 v12 w' => ∃ (x9_5 : Bool) (x10_5 : Bool) (x12_5 : Int),v9 = .bool x9_5 ∧ v10 = .bool x10_5 ∧ v12 = .int .i64 x12_5 ∧ y0 (z0_.l3 kq x7_2 x8_3 x9_5 x10_5 x11_4 x12_5 a0_0 a0_1 l0_2 a1_0 a1_1 l1_2 a0_0 a1_1 x141002_3 = some (r1,r2,r3,r4)) ∧ y0 (kq ≤ k4) ∧ y0 (Kd.R k53 53 w' w.heap.size (fun _ => True) u141002 x141002_3) ∧ y0 (w'.heap[gb135]? = some (.cells #[.int .i64 a0_0,.int .i64 a0_1,(.slice A0_2 l0_2.length c0_2)] 28 (0,0))) ∧ y0 (w'.heap[gb136]? = some (.cells #[.int .i64 a1_0,.int .i64 a1_1,(.slice A1_2 l1_2.length c1_2)] 28 (0,0))) ∧ y0 (w'.heap[gb137]? = some (.cells #[.int .i64 0,.int .i64 0,(.slice none 0 0)] 28 (0,0))) ∧ y0 (w'.heap[gb140]? = some (.cells #[.int .i64 a0_0,.int .i64 a1_1,u141002] 28 (0,0))) ∧ y0 (Below w.heap.size w w'))
             case atStart => exact ⟨(x9_4),(x10_4),(0),qy2,qy2,qy2,H',⟨Nat.le_refl _⟩,⟨qR HO_141002.out⟩,⟨qk BK135.out⟩,⟨qk BK136.out⟩,⟨qk BK137.out⟩,⟨qk BK140.out⟩,⟨qb⟩⟩
             case round =>
              clear H'
              (try clear c47b0 hcz51_0 hcz51_1 hcz51_2 hfz51_0 hfz51_1 hfz51_2)
              obtain ⟨x9_5,x10_5,x12_5,rfl,rfl,rfl,HA,HK5,HO_141002,BK135,BK136,BK137,BK140,HB⟩ := hrel
              cases gk with
              | zero => exact absurd HA.out (by simp [z0_.l3])
              | succ k5 =>
               have H := HA.out
               clear HA
               simp only [z0_.l3] at H
               by_cases c52 : x12_5 < (l1_2.length : Int)
               ·rw [if_pos c52] at H
                have c52b0 := decide_eq_true c52
                clear c52
                obtain ⟨c53,H⟩ := qo H
                have c53b0 : decide (0 ≤ x11_4) = true := decide_eq_true c53
                clear c53
                obtain ⟨c54,H⟩ := qo H
                have c54b0 : decide (x11_4 < (l0_2.length : Int)) = true := decide_eq_true c54
                clear c54
                by_cases c55 : ((y25 l0_2 x11_4).f0) = x7_2
                ·rw [if_pos c55] at H
                 have c55b0 : (((y25 l0_2 x11_4).f0) == x7_2) = true := beq_iff_eq.mpr c55
                 have c55b1 : (((y25 l0_2 x11_4).f0) != x7_2) = false := bne_eq_false_iff_eq.mpr c55
                 clear c55
                 obtain ⟨c56,H⟩ := qo H
                 have c56b0 : decide (0 ≤ x12_5) = true := decide_eq_true c56
                 clear c56
                 by_cases c57 : ((y25 l0_2 x11_4).f1) = ((y25 l1_2 x12_5).f0)
                 ·rw [if_pos c57] at H
                  have c57b0 : (((y25 l0_2 x11_4).f1) == ((y25 l1_2 x12_5).f0)) = true := beq_iff_eq.mpr c57
                  have c57b1 : (((y25 l0_2 x11_4).f1) != ((y25 l1_2 x12_5).f0)) = false := bne_eq_false_iff_eq.mpr c57
                  clear c57
                  by_cases c58 : ((y25 l1_2 x12_5).f1) = x8_3
                  ·rw [if_pos c58] at H
                   have c58b0 : (((y25 l1_2 x12_5).f1) == x8_3) = true := beq_iff_eq.mpr c58
                   have c58b1 : (((y25 l1_2 x12_5).f1) != x8_3) = false := bne_eq_false_iff_eq.mpr c58
                   clear c58
                   by_cases c59 : x10_5 = true
                   ·subst c59
                    replace H := qT H
                    have H' := y0.mk H
                    clear H
                    have hnb60 := NB136_135.out
                    have hnc60 := NB135_136.out
                    have hnb61 := NB136_137.out
                    have hnc61 := NB137_136.out
                    have hnb62 := NB136_140.out
                    have hnc62 := NB140_136.out
                    obtain ⟨hcz63_0,hcz63_1,hcz63_2,hfz63_0,hfz63_1,hfz63_2⟩ := qz3 BK136.out
                    have hnb64 := NB135_137.out
                    have hnc64 := NB137_135.out
                    have hnb65 := NB135_140.out
                    have hnc65 := NB140_135.out
                    obtain ⟨hcz66_0,hcz66_1,hcz66_2,hfz66_0,hfz66_1,hfz66_2⟩ := qz3 BK135.out
                    have p144 : 0 ≤ (x11_4 : Int) := of_decide_eq_true qy1
                    have q144 : x11_4 < (l0_2.length : Int) := of_decide_eq_true qy1
                    obtain ⟨ad144,e144,hx144_0,hx144_1,hx144_2⟩ := at_T53 HR0_2.out x11_4 p144 q144
                    cases e144
                    replace hx144_0 := (HB.out.cell (World.block_lt_of_cell? w _ hx144_0)).trans hx144_0
                    replace hx144_1 := (HB.out.cell (World.block_lt_of_cell? w _ hx144_1)).trans hx144_1
                    replace hx144_2 := (HB.out.cell (World.block_lt_of_cell? w _ hx144_2)).trans hx144_2
                    replace p144 := eq_true p144
                    replace q144 := eq_true q144
                    have p145 : 0 ≤ (x11_4 : Int) := of_decide_eq_true qy1
                    have q145 : x11_4 < (l0_2.length : Int) := of_decide_eq_true qy1
                    obtain ⟨ad145,e145,hx145_0,hx145_1,hx145_2⟩ := at_T53 HR0_2.out x11_4 p145 q145
                    obtain rfl : ad144 = ad145 := (by injection e145)
                    replace hx145_0 := (HB.out.cell (World.block_lt_of_cell? w _ hx145_0)).trans hx145_0
                    replace hx145_1 := (HB.out.cell (World.block_lt_of_cell? w _ hx145_1)).trans hx145_1
                    replace hx145_2 := (HB.out.cell (World.block_lt_of_cell? w _ hx145_2)).trans hx145_2
                    replace p145 := eq_true p145
                    replace q145 := eq_true q145
                    have p146 : 0 ≤ (x12_5 : Int) := of_decide_eq_true qy1
                    have q146 : x12_5 < (l1_2.length : Int) := of_decide_eq_true qy1
                    obtain ⟨ad146,e146,hx146_0,hx146_1,hx146_2⟩ := at_T53 HR1_2.out x12_5 p146 q146
                    cases e146
                    replace hx146_0 := (HB.out.cell (World.block_lt_of_cell? w _ hx146_0)).trans hx146_0
                    replace hx146_1 := (HB.out.cell (World.block_lt_of_cell? w _ hx146_1)).trans hx146_1
                    replace hx146_2 := (HB.out.cell (World.block_lt_of_cell? w _ hx146_2)).trans hx146_2
                    replace p146 := eq_true p146
                    replace q146 := eq_true q146
                    have p147 : 0 ≤ (x12_5 : Int) := of_decide_eq_true qy1
                    have q147 : x12_5 < (l1_2.length : Int) := of_decide_eq_true qy1
                    obtain ⟨ad147,e147,hx147_0,hx147_1,hx147_2⟩ := at_T53 HR1_2.out x12_5 p147 q147
                    obtain rfl : ad146 = ad147 := (by injection e147)
                    replace hx147_0 := (HB.out.cell (World.block_lt_of_cell? w _ hx147_0)).trans hx147_0
                    replace hx147_1 := (HB.out.cell (World.block_lt_of_cell? w _ hx147_1)).trans hx147_1
                    replace hx147_2 := (HB.out.cell (World.block_lt_of_cell? w _ hx147_2)).trans hx147_2
                    replace p147 := eq_true p147
                    replace q147 := eq_true q147
                    go_wp2
                    repeat (go_quiet (fail); try go_wp2)
                    go_roundg k5
                    case measure => have := HJ2.out; have := HK2.out; have := HK3.out; have := HK4.out; have := HK5.out; omega
                    exact ⟨(true),(true),(wrap64 (x12_5 + 1)),qy2,qy2,qy2,H',⟨by have := HJ2.out; have := HK2.out; have := HK3.out; have := HK4.out; have := HK5.out; omega⟩,⟨qR HO_141002.out⟩,⟨qk BK135.out⟩,⟨qk BK136.out⟩,⟨qk BK137.out⟩,⟨qk BK140.out⟩,⟨qb⟩⟩
                   ·replace c59 := Bool.eq_false_iff.mpr c59
                    subst c59
                    replace H := qF H
                    obtain ⟨bq67,hbq67⟩ : ∃ b_ : Bool,b_ = ((y25 l0_2 x11_4).f2) := ⟨_,rfl⟩
                    replace H : (if bq67 = true then (z0_.l3 k5 x7_2 x8_3 true true x11_4 (wrap64 (x12_5 + 1)) a0_0 a0_1 l0_2 a1_0 a1_1 l1_2 a0_0 a1_1 x141002_3) else (z0_.l3 k5 x7_2 x8_3 true ((y25 l1_2 x12_5).f2) x11_4 (wrap64 (x12_5 + 1)) a0_0 a0_1 l0_2 a1_0 a1_1 l1_2 a0_0 a1_1 x141002_3)) = some (r1,r2,r3,r4) := by rw [← hbq67] at H; exact H
                    have Nbq67 := y0.mk hbq67
                    clear hbq67
                    by_cases c68 : bq67 = true
                    ·subst c68
                     replace H := qT H
                     have H' := y0.mk H
                     clear H
                     have hnb69 := NB136_135.out
                     have hnc69 := NB135_136.out
                     have hnb70 := NB136_137.out
                     have hnc70 := NB137_136.out
                     have hnb71 := NB136_140.out
                     have hnc71 := NB140_136.out
                     obtain ⟨hcz72_0,hcz72_1,hcz72_2,hfz72_0,hfz72_1,hfz72_2⟩ := qz3 BK136.out
                     have hnb73 := NB135_137.out
                     have hnc73 := NB137_135.out
                     have hnb74 := NB135_140.out
                     have hnc74 := NB140_135.out
                     obtain ⟨hcz75_0,hcz75_1,hcz75_2,hfz75_0,hfz75_1,hfz75_2⟩ := qz3 BK135.out
                     have p144 : 0 ≤ (x11_4 : Int) := of_decide_eq_true qy1
                     have q144 : x11_4 < (l0_2.length : Int) := of_decide_eq_true qy1
                     obtain ⟨ad144,e144,hx144_0,hx144_1,hx144_2⟩ := at_T53 HR0_2.out x11_4 p144 q144
                     (try rw [← Nbq67.out] at hx144_2)
                     cases e144
                     replace hx144_0 := (HB.out.cell (World.block_lt_of_cell? w _ hx144_0)).trans hx144_0
                     replace hx144_1 := (HB.out.cell (World.block_lt_of_cell? w _ hx144_1)).trans hx144_1
                     replace hx144_2 := (HB.out.cell (World.block_lt_of_cell? w _ hx144_2)).trans hx144_2
                     replace p144 := eq_true p144
                     replace q144 := eq_true q144
                     have p145 : 0 ≤ (x11_4 : Int) := of_decide_eq_true qy1
                     have q145 : x11_4 < (l0_2.length : Int) := of_decide_eq_true qy1
                     obtain ⟨ad145,e145,hx145_0,hx145_1,hx145_2⟩ := at_T53 HR0_2.out x11_4 p145 q145
                     (try rw [← Nbq67.out] at hx145_2)
                     obtain rfl : ad144 = ad145 := (by injection e145)
                     replace hx145_0 := (HB.out.cell (World.block_lt_of_cell? w _ hx145_0)).trans hx145_0
                     replace hx145_1 := (HB.out.cell (World.block_lt_of_cell? w _ hx145_1)).trans hx145_1
                     replace hx145_2 := (HB.out.cell (World.block_lt_of_cell? w _ hx145_2)).trans hx145_2
                     replace p145 := eq_true p145
                     replace q145 := eq_true q145
                     have p146 : 0 ≤ (x12_5 : Int) := of_decide_eq_true qy1
                     have q146 : x12_5 < (l1_2.length : Int) := of_decide_eq_true qy1
                     obtain ⟨ad146,e146,hx146_0,hx146_1,hx146_2⟩ := at_T53 HR1_2.out x12_5 p146 q146
                     (try rw [← Nbq67.out] at hx146_2)
                     cases e146
                     replace hx146_0 := (HB.out.cell (World.block_lt_of_cell? w _ hx146_0)).trans hx146_0
                     replace hx146_1 := (HB.out.cell (World.block_lt_of_cell? w _ hx146_1)).trans hx146_1
                     replace hx146_2 := (HB.out.cell (World.block_lt_of_cell? w _ hx146_2)).trans hx146_2
                     replace p146 := eq_true p146
                     replace q146 := eq_true q146
                     have p147 : 0 ≤ (x12_5 : Int) := of_decide_eq_true qy1
                     have q147 : x12_5 < (l1_2.length : Int) := of_decide_eq_true qy1
                     obtain ⟨ad147,e147,hx147_0,hx147_1,hx147_2⟩ := at_T53 HR1_2.out x12_5 p147 q147
                     (try rw [← Nbq67.out] at hx147_2)
                     obtain rfl : ad146 = ad147 := (by injection e147)
                     replace hx147_0 := (HB.out.cell (World.block_lt_of_cell? w _ hx147_0)).trans hx147_0
                     replace hx147_1 := (HB.out.cell (World.block_lt_of_cell? w _ hx147_1)).trans hx147_1
                     replace hx147_2 := (HB.out.cell (World.block_lt_of_cell? w _ hx147_2)).trans hx147_2
                     replace p147 := eq_true p147
                     replace q147 := eq_true q147
                     have p148 : 0 ≤ (x11_4 : Int) := of_decide_eq_true qy1
                     have q148 : x11_4 < (l0_2.length : Int) := of_decide_eq_true qy1
                     obtain ⟨ad148,e148,hx148_0,hx148_1,hx148_2⟩ := at_T53 HR0_2.out x11_4 p148 q148
                     (try rw [← Nbq67.out] at hx148_2)
                     obtain rfl : ad144 = ad148 := (by injection e148)
                     replace hx148_0 := (HB.out.cell (World.block_lt_of_cell? w _ hx148_0)).trans hx148_0
                     replace hx148_1 := (HB.out.cell (World.block_lt_of_cell? w _ hx148_1)).trans hx148_1
                     replace hx148_2 := (HB.out.cell (World.block_lt_of_cell? w _ hx148_2)).trans hx148_2
                     replace p148 := eq_true p148
                     replace q148 := eq_true q148
                     go_wp2
                     repeat (go_quiet (fail); try go_wp2)
                     go_roundg k5
                     case measure => have := HJ2.out; have := HK2.out; have := HK3.out; have := HK4.out; have := HK5.out; omega
                     exact ⟨(true),(true),(wrap64 (x12_5 + 1)),qy2,qy2,qy2,H',⟨by have := HJ2.out; have := HK2.out; have := HK3.out; have := HK4.out; have := HK5.out; omega⟩,⟨qR HO_141002.out⟩,⟨qk BK135.out⟩,⟨qk BK136.out⟩,⟨qk BK137.out⟩,⟨qk BK140.out⟩,⟨qb⟩⟩
                    ·replace c68 := Bool.eq_false_iff.mpr c68
                     subst c68
                     replace H := qF H
                     have H' := y0.mk H
                     clear H
                     have hnb76 := NB136_135.out
                     have hnc76 := NB135_136.out
                     have hnb77 := NB136_137.out
                     have hnc77 := NB137_136.out
                     have hnb78 := NB136_140.out
                     have hnc78 := NB140_136.out
                     obtain ⟨hcz79_0,hcz79_1,hcz79_2,hfz79_0,hfz79_1,hfz79_2⟩ := qz3 BK136.out
                     have hnb80 := NB135_137.out
                     have hnc80 := NB137_135.out
                     have hnb81 := NB135_140.out
                     have hnc81 := NB140_135.out
                     obtain ⟨hcz82_0,hcz82_1,hcz82_2,hfz82_0,hfz82_1,hfz82_2⟩ := qz3 BK135.out
                     have p144 : 0 ≤ (x11_4 : Int) := of_decide_eq_true qy1
                     have q144 : x11_4 < (l0_2.length : Int) := of_decide_eq_true qy1
                     obtain ⟨ad144,e144,hx144_0,hx144_1,hx144_2⟩ := at_T53 HR0_2.out x11_4 p144 q144
                     (try rw [← Nbq67.out] at hx144_2)
                     cases e144
                     replace hx144_0 := (HB.out.cell (World.block_lt_of_cell? w _ hx144_0)).trans hx144_0
                     replace hx144_1 := (HB.out.cell (World.block_lt_of_cell? w _ hx144_1)).trans hx144_1
                     replace hx144_2 := (HB.out.cell (World.block_lt_of_cell? w _ hx144_2)).trans hx144_2
                     replace p144 := eq_true p144
                     replace q144 := eq_true q144
                     have p145 : 0 ≤ (x11_4 : Int) := of_decide_eq_true qy1
                     have q145 : x11_4 < (l0_2.length : Int) := of_decide_eq_true qy1
                     obtain ⟨ad145,e145,hx145_0,hx145_1,hx145_2⟩ := at_T53 HR0_2.out x11_4 p145 q145
                     (try rw [← Nbq67.out] at hx145_2)
                     obtain rfl : ad144 = ad145 := (by injection e145)
                     replace hx145_0 := (HB.out.cell (World.block_lt_of_cell? w _ hx145_0)).trans hx145_0
                     replace hx145_1 := (HB.out.cell (World.block_lt_of_cell? w _ hx145_1)).trans hx145_1
                     replace hx145_2 := (HB.out.cell (World.block_lt_of_cell? w _ hx145_2)).trans hx145_2
                     replace p145 := eq_true p145
                     replace q145 := eq_true q145
                     have p146 : 0 ≤ (x12_5 : Int) := of_decide_eq_true qy1
                     have q146 : x12_5 < (l1_2.length : Int) := of_decide_eq_true qy1
                     obtain ⟨ad146,e146,hx146_0,hx146_1,hx146_2⟩ := at_T53 HR1_2.out x12_5 p146 q146
                     (try rw [← Nbq67.out] at hx146_2)
                     cases e146
                     replace hx146_0 := (HB.out.cell (World.block_lt_of_cell? w _ hx146_0)).trans hx146_0
                     replace hx146_1 := (HB.out.cell (World.block_lt_of_cell? w _ hx146_1)).trans hx146_1
                     replace hx146_2 := (HB.out.cell (World.block_lt_of_cell? w _ hx146_2)).trans hx146_2
                     replace p146 := eq_true p146
                     replace q146 := eq_true q146
                     have p147 : 0 ≤ (x12_5 : Int) := of_decide_eq_true qy1
                     have q147 : x12_5 < (l1_2.length : Int) := of_decide_eq_true qy1
                     obtain ⟨ad147,e147,hx147_0,hx147_1,hx147_2⟩ := at_T53 HR1_2.out x12_5 p147 q147
                     (try rw [← Nbq67.out] at hx147_2)
                     obtain rfl : ad146 = ad147 := (by injection e147)
                     replace hx147_0 := (HB.out.cell (World.block_lt_of_cell? w _ hx147_0)).trans hx147_0
                     replace hx147_1 := (HB.out.cell (World.block_lt_of_cell? w _ hx147_1)).trans hx147_1
                     replace hx147_2 := (HB.out.cell (World.block_lt_of_cell? w _ hx147_2)).trans hx147_2
                     replace p147 := eq_true p147
                     replace q147 := eq_true q147
                     have p148 : 0 ≤ (x11_4 : Int) := of_decide_eq_true qy1
                     have q148 : x11_4 < (l0_2.length : Int) := of_decide_eq_true qy1
                     obtain ⟨ad148,e148,hx148_0,hx148_1,hx148_2⟩ := at_T53 HR0_2.out x11_4 p148 q148
                     (try rw [← Nbq67.out] at hx148_2)
                     obtain rfl : ad144 = ad148 := (by injection e148)
                     replace hx148_0 := (HB.out.cell (World.block_lt_of_cell? w _ hx148_0)).trans hx148_0
                     replace hx148_1 := (HB.out.cell (World.block_lt_of_cell? w _ hx148_1)).trans hx148_1
                     replace hx148_2 := (HB.out.cell (World.block_lt_of_cell? w _ hx148_2)).trans hx148_2
                     replace p148 := eq_true p148
                     replace q148 := eq_true q148
                     have p149 : 0 ≤ (x12_5 : Int) := of_decide_eq_true qy1
                     have q149 : x12_5 < (l1_2.length : Int) := of_decide_eq_true qy1
                     obtain ⟨ad149,e149,hx149_0,hx149_1,hx149_2⟩ := at_T53 HR1_2.out x12_5 p149 q149
                     (try rw [← Nbq67.out] at hx149_2)
                     obtain rfl : ad146 = ad149 := (by injection e149)
                     replace hx149_0 := (HB.out.cell (World.block_lt_of_cell? w _ hx149_0)).trans hx149_0
                     replace hx149_1 := (HB.out.cell (World.block_lt_of_cell? w _ hx149_1)).trans hx149_1
                     replace hx149_2 := (HB.out.cell (World.block_lt_of_cell? w _ hx149_2)).trans hx149_2
                     replace p149 := eq_true p149
                     replace q149 := eq_true q149
                     go_wp2
                     repeat (go_quiet (fail); try go_wp2)
                     go_roundg k5
                     case measure => have := HJ2.out; have := HK2.out; have := HK3.out; have := HK4.out; have := HK5.out; omega
                     exact ⟨(true),((y25 l1_2 x12_5).f2),(wrap64 (x12_5 + 1)),qy2,qy2,qy2,H',⟨by have := HJ2.out; have := HK2.out; have := HK3.out; have := HK4.out; have := HK5.out; omega⟩,⟨qR HO_141002.out⟩,⟨qk BK135.out⟩,⟨qk BK136.out⟩,⟨qk BK137.out⟩,⟨qk BK140.out⟩,⟨qb⟩⟩
                  ·rw [if_neg c58] at H
                   have c58b0 : (((y25 l1_2 x12_5).f1) == x8_3) = false := beq_eq_false_iff_ne.mpr c58
                   have c58b1 : (((y25 l1_2 x12_5).f1) != x8_3) = true := bne_iff_ne.mpr c58
                   have H' := y0.mk H
                   clear H
                   have hnb83 := NB136_135.out
                   have hnc83 := NB135_136.out
                   have hnb84 := NB136_137.out
                   have hnc84 := NB137_136.out
                   have hnb85 := NB136_140.out
                   have hnc85 := NB140_136.out
                   obtain ⟨hcz86_0,hcz86_1,hcz86_2,hfz86_0,hfz86_1,hfz86_2⟩ := qz3 BK136.out
                   have hnb87 := NB135_137.out
                   have hnc87 := NB137_135.out
                   have hnb88 := NB135_140.out
                   have hnc88 := NB140_135.out
                   obtain ⟨hcz89_0,hcz89_1,hcz89_2,hfz89_0,hfz89_1,hfz89_2⟩ := qz3 BK135.out
                   have p144 : 0 ≤ (x11_4 : Int) := of_decide_eq_true qy1
                   have q144 : x11_4 < (l0_2.length : Int) := of_decide_eq_true qy1
                   obtain ⟨ad144,e144,hx144_0,hx144_1,hx144_2⟩ := at_T53 HR0_2.out x11_4 p144 q144
                   cases e144
                   replace hx144_0 := (HB.out.cell (World.block_lt_of_cell? w _ hx144_0)).trans hx144_0
                   replace hx144_1 := (HB.out.cell (World.block_lt_of_cell? w _ hx144_1)).trans hx144_1
                   replace hx144_2 := (HB.out.cell (World.block_lt_of_cell? w _ hx144_2)).trans hx144_2
                   replace p144 := eq_true p144
                   replace q144 := eq_true q144
                   have p145 : 0 ≤ (x11_4 : Int) := of_decide_eq_true qy1
                   have q145 : x11_4 < (l0_2.length : Int) := of_decide_eq_true qy1
                   obtain ⟨ad145,e145,hx145_0,hx145_1,hx145_2⟩ := at_T53 HR0_2.out x11_4 p145 q145
                   obtain rfl : ad144 = ad145 := (by injection e145)
                   replace hx145_0 := (HB.out.cell (World.block_lt_of_cell? w _ hx145_0)).trans hx145_0
                   replace hx145_1 := (HB.out.cell (World.block_lt_of_cell? w _ hx145_1)).trans hx145_1
                   replace hx145_2 := (HB.out.cell (World.block_lt_of_cell? w _ hx145_2)).trans hx145_2
                   replace p145 := eq_true p145
                   replace q145 := eq_true q145
                   have p146 : 0 ≤ (x12_5 : Int) := of_decide_eq_true qy1
                   have q146 : x12_5 < (l1_2.length : Int) := of_decide_eq_true qy1
                   obtain ⟨ad146,e146,hx146_0,hx146_1,hx146_2⟩ := at_T53 HR1_2.out x12_5 p146 q146
                   cases e146
                   replace hx146_0 := (HB.out.cell (World.block_lt_of_cell? w _ hx146_0)).trans hx146_0
                   replace hx146_1 := (HB.out.cell (World.block_lt_of_cell? w _ hx146_1)).trans hx146_1
                   replace hx146_2 := (HB.out.cell (World.block_lt_of_cell? w _ hx146_2)).trans hx146_2
                   replace p146 := eq_true p146
                   replace q146 := eq_true q146
                   have p147 : 0 ≤ (x12_5 : Int) := of_decide_eq_true qy1
                   have q147 : x12_5 < (l1_2.length : Int) := of_decide_eq_true qy1
                   obtain ⟨ad147,e147,hx147_0,hx147_1,hx147_2⟩ := at_T53 HR1_2.out x12_5 p147 q147
                   obtain rfl : ad146 = ad147 := (by injection e147)
                   replace hx147_0 := (HB.out.cell (World.block_lt_of_cell? w _ hx147_0)).trans hx147_0
                   replace hx147_1 := (HB.out.cell (World.block_lt_of_cell? w _ hx147_1)).trans hx147_1
                   replace hx147_2 := (HB.out.cell (World.block_lt_of_cell? w _ hx147_2)).trans hx147_2
                   replace p147 := eq_true p147
                   replace q147 := eq_true q147
                   go_wp2
                   repeat (go_quiet (fail); try go_wp2)
                   go_roundg k5
                   case measure => have := HJ2.out; have := HK2.out; have := HK3.out; have := HK4.out; have := HK5.out; omega
                   exact ⟨(x9_5),(x10_5),(wrap64 (x12_5 + 1)),qy2,qy2,qy2,H',⟨by have := HJ2.out; have := HK2.out; have := HK3.out; have := HK4.out; have := HK5.out; omega⟩,⟨qR HO_141002.out⟩,⟨qk BK135.out⟩,⟨qk BK136.out⟩,⟨qk BK137.out⟩,⟨qk BK140.out⟩,⟨qb⟩⟩
                 ·rw [if_neg c57] at H
                  have c57b0 : (((y25 l0_2 x11_4).f1) == ((y25 l1_2 x12_5).f0)) = false := beq_eq_false_iff_ne.mpr c57
                  have c57b1 : (((y25 l0_2 x11_4).f1) != ((y25 l1_2 x12_5).f0)) = true := bne_iff_ne.mpr c57
                  have H' := y0.mk H
                  clear H
                  have hnb90 := NB136_135.out
                  have hnc90 := NB135_136.out
                  have hnb91 := NB136_137.out
                  have hnc91 := NB137_136.out
                  have hnb92 := NB136_140.out
                  have hnc92 := NB140_136.out
                  obtain ⟨hcz93_0,hcz93_1,hcz93_2,hfz93_0,hfz93_1,hfz93_2⟩ := qz3 BK136.out
                  have hnb94 := NB135_137.out
                  have hnc94 := NB137_135.out
                  have hnb95 := NB135_140.out
                  have hnc95 := NB140_135.out
                  obtain ⟨hcz96_0,hcz96_1,hcz96_2,hfz96_0,hfz96_1,hfz96_2⟩ := qz3 BK135.out
                  have p144 : 0 ≤ (x11_4 : Int) := of_decide_eq_true qy1
                  have q144 : x11_4 < (l0_2.length : Int) := of_decide_eq_true qy1
                  obtain ⟨ad144,e144,hx144_0,hx144_1,hx144_2⟩ := at_T53 HR0_2.out x11_4 p144 q144
                  cases e144
                  replace hx144_0 := (HB.out.cell (World.block_lt_of_cell? w _ hx144_0)).trans hx144_0
                  replace hx144_1 := (HB.out.cell (World.block_lt_of_cell? w _ hx144_1)).trans hx144_1
                  replace hx144_2 := (HB.out.cell (World.block_lt_of_cell? w _ hx144_2)).trans hx144_2
                  replace p144 := eq_true p144
                  replace q144 := eq_true q144
                  have p145 : 0 ≤ (x11_4 : Int) := of_decide_eq_true qy1
                  have q145 : x11_4 < (l0_2.length : Int) := of_decide_eq_true qy1
                  obtain ⟨ad145,e145,hx145_0,hx145_1,hx145_2⟩ := at_T53 HR0_2.out x11_4 p145 q145
                  obtain rfl : ad144 = ad145 := (by injection e145)
                  replace hx145_0 := (HB.out.cell (World.block_lt_of_cell? w _ hx145_0)).trans hx145_0
                  replace hx145_1 := (HB.out.cell (World.block_lt_of_cell? w _ hx145_1)).trans hx145_1
                  replace hx145_2 := (HB.out.cell (World.block_lt_of_cell? w _ hx145_2)).trans hx145_2
                  replace p145 := eq_true p145
                  replace q145 := eq_true q145
                  have p146 : 0 ≤ (x12_5 : Int) := of_decide_eq_true qy1
                  have q146 : x12_5 < (l1_2.length : Int) := of_decide_eq_true qy1
                  obtain ⟨ad146,e146,hx146_0,hx146_1,hx146_2⟩ := at_T53 HR1_2.out x12_5 p146 q146
                  cases e146
                  replace hx146_0 := (HB.out.cell (World.block_lt_of_cell? w _ hx146_0)).trans hx146_0
                  replace hx146_1 := (HB.out.cell (World.block_lt_of_cell? w _ hx146_1)).trans hx146_1
                  replace hx146_2 := (HB.out.cell (World.block_lt_of_cell? w _ hx146_2)).trans hx146_2
                  replace p146 := eq_true p146
                  replace q146 := eq_true q146
                  go_wp2
                  repeat (go_quiet (fail); try go_wp2)
                  go_roundg k5
                  case measure => have := HJ2.out; have := HK2.out; have := HK3.out; have := HK4.out; have := HK5.out; omega
                  exact ⟨(x9_5),(x10_5),(wrap64 (x12_5 + 1)),qy2,qy2,qy2,H',⟨by have := HJ2.out; have := HK2.out; have := HK3.out; have := HK4.out; have := HK5.out; omega⟩,⟨qR HO_141002.out⟩,⟨qk BK135.out⟩,⟨qk BK136.out⟩,⟨qk BK137.out⟩,⟨qk BK140.out⟩,⟨qb⟩⟩
                ·rw [if_neg c55] at H
                 have c55b0 : (((y25 l0_2 x11_4).f0) == x7_2) = false := beq_eq_false_iff_ne.mpr c55
                 have c55b1 : (((y25 l0_2 x11_4).f0) != x7_2) = true := bne_iff_ne.mpr c55
                 have H' := y0.mk H
                 clear H
                 have hnb97 := NB136_135.out
                 have hnc97 := NB135_136.out
                 have hnb98 := NB136_137.out
                 have hnc98 := NB137_136.out
                 have hnb99 := NB136_140.out
                 have hnc99 := NB140_136.out
                 obtain ⟨hcz100_0,hcz100_1,hcz100_2,hfz100_0,hfz100_1,hfz100_2⟩ := qz3 BK136.out
                 have hnb101 := NB135_137.out
                 have hnc101 := NB137_135.out
                 have hnb102 := NB135_140.out
                 have hnc102 := NB140_135.out
                 obtain ⟨hcz103_0,hcz103_1,hcz103_2,hfz103_0,hfz103_1,hfz103_2⟩ := qz3 BK135.out
                 have p144 : 0 ≤ (x11_4 : Int) := of_decide_eq_true qy1
                 have q144 : x11_4 < (l0_2.length : Int) := of_decide_eq_true qy1
                 obtain ⟨ad144,e144,hx144_0,hx144_1,hx144_2⟩ := at_T53 HR0_2.out x11_4 p144 q144
                 cases e144
                 replace hx144_0 := (HB.out.cell (World.block_lt_of_cell? w _ hx144_0)).trans hx144_0
                 replace hx144_1 := (HB.out.cell (World.block_lt_of_cell? w _ hx144_1)).trans hx144_1
                 replace hx144_2 := (HB.out.cell (World.block_lt_of_cell? w _ hx144_2)).trans hx144_2
                 replace p144 := eq_true p144
                 replace q144 := eq_true q144
                 go_wp2
                 repeat (go_quiet (fail); try go_wp2)
                 go_roundg k5
                 case measure => have := HJ2.out; have := HK2.out; have := HK3.out; have := HK4.out; have := HK5.out; omega
                 exact ⟨(x9_5),(x10_5),(wrap64 (x12_5 + 1)),qy2,qy2,qy2,H',⟨by have := HJ2.out; have := HK2.out; have := HK3.out; have := HK4.out; have := HK5.out; omega⟩,⟨qR HO_141002.out⟩,⟨qk BK135.out⟩,⟨qk BK136.out⟩,⟨qk BK137.out⟩,⟨qk BK140.out⟩,⟨qb⟩⟩
               ·rw [if_neg c52] at H
                have c52b0 := decide_eq_false c52
                clear c52
                have H' := y0.mk H
                clear H
                have hnb104 := NB136_135.out
                have hnc104 := NB135_136.out
                have hnb105 := NB136_137.out
                have hnc105 := NB137_136.out
                have hnb106 := NB136_140.out
                have hnc106 := NB140_136.out
                obtain ⟨hcz107_0,hcz107_1,hcz107_2,hfz107_0,hfz107_1,hfz107_2⟩ := qz3 BK136.out
                go_wp2
                repeat (go_quiet (fail); try go_wp2)
                go_roundg k5
                case measure => have := HJ2.out; have := HK2.out; have := HK3.out; have := HK4.out; have := HK5.out; omega
                exact ⟨(x9_5),(x10_5),(wrap64 (x11_4 + 1)),qy2,qy2,qy2,H',⟨by have := HJ2.out; have := HK2.out; have := HK3.out; have := HK4.out; have := HK5.out; omega⟩,⟨qR HO_141002.out⟩,⟨qk BK135.out⟩,⟨qk BK136.out⟩,⟨qk BK137.out⟩,⟨qk BK140.out⟩,⟨qb⟩⟩
            ·rw [if_neg c47] at H
             have c47b0 := decide_eq_false c47
             clear c47
             by_cases c108 : x9_4 = true
             ·subst c108
              replace H := qT H
              obtain ⟨c109,H⟩ := qo H
              have LMc109 := y0.mk c109
              clear c109
              obtain ⟨y141,hy141⟩ : ∃ y_ : List (S53),y_ = (x141002_3 ++ [(⟨x7_2,x8_3,x10_4⟩ : S53)]) := ⟨_,rfl⟩
              replace H : (z0_.l1 k4 x7_2 (wrap64 (x8_3 + 1)) a0_0 a0_1 l0_2 a1_0 a1_1 l1_2 a0_0 a1_1 y141) = some (r1,r2,r3,r4) := by first | (rw [hy141]; with_reducible exact H) | (have H2_ := (Option.bind_some _ _).symm.trans H; rw [hy141]; with_reducible exact H2_) | (have H2_ := (Option.bind_some _ _).symm.trans H; with_reducible exact H2_) | with_reducible exact H | (rw [hy141]; exact H) | exact H
              have Ny141 := y0.mk hy141
              clear hy141
              have H' := y0.mk H
              clear H
              have hnb110 := NB135_136.out
              have hnc110 := NB136_135.out
              have hnb111 := NB135_137.out
              have hnc111 := NB137_135.out
              have hnb112 := NB135_140.out
              have hnc112 := NB140_135.out
              obtain ⟨hcz113_0,hcz113_1,hcz113_2,hfz113_0,hfz113_1,hfz113_2⟩ := qz3 BK135.out
              have hnb114 := NB140_136.out
              have hnc114 := NB136_140.out
              have hnb115 := NB140_137.out
              have hnc115 := NB137_140.out
              obtain ⟨hcz116_0,hcz116_1,hcz116_2,hfz116_0,hfz116_1,hfz116_2⟩ := qz3 BK140.out
              go_wp2_with (first | ((with_reducible refine gate_builtin (b := .append) (xs := #[.tmp 108,.tmp 113]) rfl ?_); at_builtin; refine Kd.R_append k53 (w0 := w) w.heap.size rfl (.tmp 108) (.tmp 113) 26 53 (.agg #[(.int .i64 0),(.int .i64 0),(.bool false)]) 24 rfl Try.underlying26 info53 rfl (by decide) (by omega) u141002 x141002_3 (⟨x7_2,x8_3,x10_4⟩ : S53) [.int .i64 x7_2,.int .i64 x8_3,.bool x10_4] (fun _ => True) (fun _ => False) rfl rfl ?aP (fun _ hk => hk.elim) ?aF ?aO ?aB ?aS ?aL ?_; (case aP => exact k53_mkM _ _ _ (⟨x7_2,x8_3,x10_4⟩ : S53)); (case aB => exact qb); (case aF => exact (fun _ _ => trivial)); (case aO => exact (qR HO_141002.out)); (case aS => exact (y6 qb)); (case aL => have := LMc109.out; omega); intro v142 w117 ho hb hg hat; rw [← Ny141.out] at ho; replace BK135 := y0.mk (blk_grown (qk BK135.out) hg (Kd.R_ne HO_141002.out BK135.out (by decide))); replace BK136 := y0.mk (blk_grown (qk BK136.out) hg (Kd.R_ne HO_141002.out BK136.out (by decide))); replace BK137 := y0.mk (blk_grown (qk BK137.out) hg (Kd.R_ne HO_141002.out BK137.out (by decide))); replace BK140 := y0.mk (blk_grown (qk BK140.out) hg (Kd.R_ne HO_141002.out BK140.out (by decide))); replace HB := y0.mk (hb); have HO143 := y0.mk (ho); clear HO_141002; clear ho hb hg hat; obtain ⟨Ao118,co118,eo118⟩ := Kd.R_slice HO143.out; subst eo118; obtain ⟨hcz119_0,hcz119_1,hcz119_2,hfz119_0,hfz119_1,hfz119_2⟩ := qz3 BK140.out))
              repeat (go_quiet (first | ((with_reducible refine gate_builtin (b := .append) (xs := #[.tmp 108,.tmp 113]) rfl ?_); at_builtin; refine Kd.R_append k53 (w0 := w) w.heap.size rfl (.tmp 108) (.tmp 113) 26 53 (.agg #[(.int .i64 0),(.int .i64 0),(.bool false)]) 24 rfl Try.underlying26 info53 rfl (by decide) (by omega) u141002 x141002_3 (⟨x7_2,x8_3,x10_4⟩ : S53) [.int .i64 x7_2,.int .i64 x8_3,.bool x10_4] (fun _ => True) (fun _ => False) rfl rfl ?aP (fun _ hk => hk.elim) ?aF ?aO ?aB ?aS ?aL ?_; (case aP => exact k53_mkM _ _ _ (⟨x7_2,x8_3,x10_4⟩ : S53)); (case aB => exact qb); (case aF => exact (fun _ _ => trivial)); (case aO => exact (qR HO_141002.out)); (case aS => exact (y6 qb)); (case aL => have := LMc109.out; omega); intro v142 w117 ho hb hg hat; rw [← Ny141.out] at ho; replace BK135 := y0.mk (blk_grown (qk BK135.out) hg (Kd.R_ne HO_141002.out BK135.out (by decide))); replace BK136 := y0.mk (blk_grown (qk BK136.out) hg (Kd.R_ne HO_141002.out BK136.out (by decide))); replace BK137 := y0.mk (blk_grown (qk BK137.out) hg (Kd.R_ne HO_141002.out BK137.out (by decide))); replace BK140 := y0.mk (blk_grown (qk BK140.out) hg (Kd.R_ne HO_141002.out BK140.out (by decide))); replace HB := y0.mk (hb); have HO143 := y0.mk (ho); clear HO_141002; clear ho hb hg hat; obtain ⟨Ao118,co118,eo118⟩ := Kd.R_slice HO143.out; subst eo118; obtain ⟨hcz119_0,hcz119_1,hcz119_2,hfz119_0,hfz119_1,hfz119_2⟩ := qz3 BK140.out)); try go_wp2_with (first | ((with_reducible refine gate_builtin (b := .append) (xs := #[.tmp 108,.tmp 113]) rfl ?_); at_builtin; refine Kd.R_append k53 (w0 := w) w.heap.size rfl (.tmp 108) (.tmp 113) 26 53 (.agg #[(.int .i64 0),(.int .i64 0),(.bool false)]) 24 rfl Try.underlying26 info53 rfl (by decide) (by omega) u141002 x141002_3 (⟨x7_2,x8_3,x10_4⟩ : S53) [.int .i64 x7_2,.int .i64 x8_3,.bool x10_4] (fun _ => True) (fun _ => False) rfl rfl ?aP (fun _ hk => hk.elim) ?aF ?aO ?aB ?aS ?aL ?_; (case aP => exact k53_mkM _ _ _ (⟨x7_2,x8_3,x10_4⟩ : S53)); (case aB => exact qb); (case aF => exact (fun _ _ => trivial)); (case aO => exact (qR HO_141002.out)); (case aS => exact (y6 qb)); (case aL => have := LMc109.out; omega); intro v142 w117 ho hb hg hat; rw [← Ny141.out] at ho; replace BK135 := y0.mk (blk_grown (qk BK135.out) hg (Kd.R_ne HO_141002.out BK135.out (by decide))); replace BK136 := y0.mk (blk_grown (qk BK136.out) hg (Kd.R_ne HO_141002.out BK136.out (by decide))); replace BK137 := y0.mk (blk_grown (qk BK137.out) hg (Kd.R_ne HO_141002.out BK137.out (by decide))); replace BK140 := y0.mk (blk_grown (qk BK140.out) hg (Kd.R_ne HO_141002.out BK140.out (by decide))); replace HB := y0.mk (hb); have HO143 := y0.mk (ho); clear HO_141002; clear ho hb hg hat; obtain ⟨Ao118,co118,eo118⟩ := Kd.R_slice HO143.out; subst eo118; obtain ⟨hcz119_0,hcz119_1,hcz119_2,hfz119_0,hfz119_1,hfz119_2⟩ := qz3 BK140.out)))
              go_roundg k4
              case measure => have := HJ2.out; have := HK2.out; have := HK3.out; have := HK4.out; omega
              exact ⟨(wrap64 (x8_3 + 1)),(y141),(.slice Ao118 y141.length co118),qy2,H',⟨by have := HJ2.out; have := HK2.out; have := HK3.out; have := HK4.out; omega⟩,⟨qR (Kd.R_mono (Kd.R_far (p := ⟨gb140,2,none⟩) (Kd.R_types HO143.out BK140.out (by decide)) (fun _ hk => hk.2) (.slice Ao118 y141.length co118)) (fun _ hk => trivial))⟩,⟨by (with_reducible repeat (first | refine y12 ?_ _ | refine y11 ?_ | refine y8 ?_ _)); refine y13 ?_ NB135_140.out _; (with_reducible repeat (first | refine y12 ?_ _ | refine y11 ?_ | refine y8 ?_ _)); exact BK135.out⟩,⟨by (with_reducible repeat (first | refine y12 ?_ _ | refine y11 ?_ | refine y8 ?_ _)); refine y13 ?_ NB136_140.out _; (with_reducible repeat (first | refine y12 ?_ _ | refine y11 ?_ | refine y8 ?_ _)); exact BK136.out⟩,⟨by (with_reducible repeat (first | refine y12 ?_ _ | refine y11 ?_ | refine y8 ?_ _)); refine y13 ?_ NB137_140.out _; (with_reducible repeat (first | refine y12 ?_ _ | refine y11 ?_ | refine y8 ?_ _)); exact BK137.out⟩,⟨by (with_reducible repeat (first | refine y12 ?_ _ | refine y11 ?_ | refine y8 ?_ _)); refine y16 (cs := #[.int .i64 a0_0,.int .i64 a1_1,u141002]) ?_ 2 _ rfl; (with_reducible repeat (first | refine y12 ?_ _ | refine y11 ?_ | refine y8 ?_ _)); exact BK140.out⟩,⟨qb⟩⟩
             ·replace c108 := Bool.eq_false_iff.mpr c108
              subst c108
              replace H := qF H
              have H' := y0.mk H
              clear H
              have hnb120 := NB135_136.out
              have hnc120 := NB136_135.out
              have hnb121 := NB135_137.out
              have hnc121 := NB137_135.out
              have hnb122 := NB135_140.out
              have hnc122 := NB140_135.out
              obtain ⟨hcz123_0,hcz123_1,hcz123_2,hfz123_0,hfz123_1,hfz123_2⟩ := qz3 BK135.out
              go_wp2
              repeat (go_quiet (fail); try go_wp2)
              go_roundg k4
              case measure => have := HJ2.out; have := HK2.out; have := HK3.out; have := HK4.out; omega
              exact ⟨(wrap64 (x8_3 + 1)),(x141002_3),(u141002),qy2,H',⟨by have := HJ2.out; have := HK2.out; have := HK3.out; have := HK4.out; omega⟩,⟨qR HO_141002.out⟩,⟨qk BK135.out⟩,⟨qk BK136.out⟩,⟨qk BK137.out⟩,⟨qk BK140.out⟩,⟨qb⟩⟩
         ·rw [if_neg c46] at H
          have c46b0 := decide_eq_false c46
          clear c46
          have H' := y0.mk H
          clear H
          go_wp2
          repeat (go_quiet (fail); try go_wp2)
          go_roundg k3
          case measure => have := HJ2.out; have := HK2.out; have := HK3.out; omega
          exact ⟨(wrap64 (x7_2 + 1)),(x141002_3),(u141002),qy2,H',⟨by have := HJ2.out; have := HK2.out; have := HK3.out; omega⟩,⟨qR HO_141002.out⟩,⟨qk BK135.out⟩,⟨qk BK136.out⟩,⟨qk BK137.out⟩,⟨qk BK140.out⟩,⟨qb⟩⟩
      ·rw [if_neg c45] at H
       have c45b0 := decide_eq_false c45
       clear c45
       simp only [Option.some.injEq,Prod.mk.injEq] at H
       obtain ⟨rfl,rfl,rfl,rfl⟩ := H
       have hnb124 := NB140_135.out
       have hnc124 := NB135_140.out
       have hnb125 := NB140_136.out
       have hnc125 := NB136_140.out
       have hnb126 := NB140_137.out
       have hnc126 := NB137_140.out
       obtain ⟨hcz127_0,hcz127_1,hcz127_2,hfz127_0,hfz127_1,hfz127_2⟩ := qz3 BK140.out
       have hnb128 := NB137_135.out
       have hnc128 := NB135_137.out
       have hnb129 := NB137_136.out
       have hnc129 := NB136_137.out
       obtain ⟨hcz130_0,hcz130_1,hcz130_2,hfz130_0,hfz130_1,hfz130_2⟩ := qz3 BK137.out
       obtain ⟨Ao131,co131,eo131⟩ := Kd.R_slice HO_141002.out
       subst eo131
       go_wp2
       repeat (go_quiet (fail); try go_wp2)
       refine bodyPost_ret (results_ct rfl _ _ gb137 28 #[.int .i64 a0_0,.int .i64 a1_1,.slice Ao131 x141002_2.length co131] (0,0) _ rfl (by (with_reducible repeat (first | refine y12 ?_ _ | refine y11 ?_ | refine y8 ?_ _)); refine y16 (cs := #[.int .i64 a0_0,.int .i64 a1_1,.slice none 0 0]) ?_ 2 _ rfl; (with_reducible repeat (first | refine y12 ?_ _ | refine y11 ?_ | refine y8 ?_ _)); refine y16 (cs := #[.int .i64 a0_0,.int .i64 0,.slice none 0 0]) ?_ 1 _ rfl; (with_reducible repeat (first | refine y12 ?_ _ | refine y11 ?_ | refine y8 ?_ _)); refine y16 (cs := #[.int .i64 0,.int .i64 0,.slice none 0 0]) ?_ 0 _ rfl; (with_reducible repeat (first | refine y12 ?_ _ | refine y11 ?_ | refine y8 ?_ _)); exact BK137.out) Try.underlying28 rfl (by kernel_rfl)) rfl ?_
       exact ⟨_,by first | rfl | (simp [y17,y18] <;> rfl) | (simp [*,y17,y18] <;> rfl),by (with_reducible repeat (first | apply Kd.R_alloc | apply Kd.R_drewN | apply Kd.R_drew)); exact Kd.R_mono (Kd.R_far (p := ⟨gb137,2,none⟩) (Kd.R_far (p := ⟨gb137,1,none⟩) (Kd.R_far (p := ⟨gb137,0,none⟩) (Kd.R_types HO_141002.out BK137.out (by decide)) (fun _ hk => hk.2) (.int .i64 a0_0)) (fun _ hk => hk.2) (.int .i64 a1_1)) (fun _ hk => hk.2) (.slice Ao131 x141002_2.length co131)) (fun _ hk => trivial),qb⟩
end Go.Proofs.Ytcckpjflbfofjaa.Pd
end
section
namespace Go.Proofs.Ytcckpjflbfofjaa.Pd
open Go.RowKit Go.Proofs.YtcckpjflbfofjaaW.PrintWords Go.Proofs.YtcckpjflbfofjaaW.PrintLast Go.Proofs.YtcckpjflbfofjaaW.PrintMore
attribute [local go_sem] max2_int min2_int max_two min_two max_three min_three max_four min_four   -- for this text's walks alone
set_option linter.unusedVariables false
set_option linter.unusedSimpArgs false
theorem eqA53 (d : Nat) (w : World) (x0 y0 : Int) (x1 y1 : Int) (x2 y2 : Bool) :
  (Op.equalIn (d + 2) 53 (.agg #[.int .i64 x0,.int .i64 x1,.bool x2]) (.agg #[.int .i64 y0,.int .i64 y1,.bool y2])).run Try.prog w = .ok (x0 == y0 && (x1 == y1 && (x2 == y2))) w := by
 refine eqA_of Try.underlying53 (by kernel_rfl) ?_
 refine eqf_cons (by rfl) (by go_simp; rfl) (by go_simp; rfl) (by go_simp) ?_
 refine eqf_cons (by rfl) (by go_simp; rfl) (by go_simp; rfl) (by go_simp) ?_
 exact eqf_last (by rfl) (by go_simp; rfl) (by go_simp; rfl) (by go_simp)
end Go.Proofs.Ytcckpjflbfofjaa.Pd
end
section
namespace Go.Proofs.Ytcckpjflbfofjaa.Pd
open Go.RowKit Go.Proofs.YtcckpjflbfofjaaW.PrintWords Go.Proofs.YtcckpjflbfofjaaW.PrintLast Go.Proofs.YtcckpjflbfofjaaW.PrintMore
attribute [local go_sem] max2_int min2_int max_two min_two max_three min_three max_four min_four   -- for this text's walks alone
set_option linter.unusedVariables false
set_option linter.unusedSimpArgs false
def impl_in.f (a0 : Int) (a1 : Int) (a2 : Int) : Option (Bool) := if a0 ≥ a1 then (some (decide (a0 ≤ a2))) else (some false)
set_option maxHeartbeats 8000000 in
set_option maxRecDepth 100000 in
theorem impl_in.calls (a0 : Int) (a1 : Int) (a2 : Int) (r : Bool) (w : World) (h : impl_in.f a0 a1 a2 = some r) :
  Calls Try.prog 42 #[.int .i64 a0,.int .i64 a1,.int .i64 a2] w fun e w' => e = .returned (.bool r) ∧ Drawn0 w w' := by
 have H : (if a0 ≥ a1 then (some (decide (a0 ≤ a2))) else (some false)) = some r := h
 clear h
 by_cases c4 : a0 ≥ a1
 ·rw [if_pos c4] at H
  have c4b0 : decide (a1 ≤ a0) = true := decide_eq_true c4
  clear c4
  obtain rfl := Option.some.inj H
  go_enter Try.func42,Try.ntmps42
  go_wp2
  go_ret
  exact ⟨by first | rfl | (simp; done) | (simp [*]; done),by repeat (first | exact Drawn0.refl _ | apply Drawn0.step)⟩
 ·rw [if_neg c4] at H
  have c4b0 : decide (a1 ≤ a0) = false := decide_eq_false c4
  clear c4
  obtain rfl := Option.some.inj H
  go_enter Try.func42,Try.ntmps42
  go_wp2
  go_ret
  exact ⟨by first | rfl | (simp; done) | (simp [*]; done),by repeat (first | exact Drawn0.refl _ | apply Drawn0.step)⟩
def cmp_Or_int.l0 : Nat → Int → List Int → Int → Int → Option (Int)
 | 0,_,_,_,_ => none
 | k + 1,x3,x6,x7,x8 => if x8 < x7 then (if 0 ≤ x8 then (if x8 < (x6.length : Int) then (if (rd x6 x8) = x3 then (cmp_Or_int.l0 k x3 x6 x7 (wrap64 (x8 + 1))) else (some (rd x6 x8))) else (none)) else (none)) else (some x3)
def cmp_Or_int.f (k : Nat) (l0 : List Int) : Option (Int) := cmp_Or_int.l0 k 0 l0 (l0.length : Int) 0
set_option maxHeartbeats 8000000 in
set_option maxRecDepth 100000 in
theorem cmp_Or_int.calls (k : Nat) (A0 : Option Addr) (c0 : Nat) (l0 : List Int) (r : Int) (w : World) (hr0 : Kd.C (Kd.int .i64) w A0 l0.length l0) (hc0 : l0.length ≤ c0) (h : cmp_Or_int.f k l0 = some r) :
  Calls Try.prog 55 #[.slice A0 l0.length c0] w fun e w' => e = .returned (.int .i64 r) ∧ Drawn0 w w' := by
 have HR0 := y0.mk hr0
 have HC0 := y0.mk hc0
 clear hr0 hc0
 have H : (cmp_Or_int.l0 k 0 l0 (l0.length : Int) 0) = some r := h
 clear h
 have H' := y0.mk H
 clear H
 go_enter Try.func55,Try.ntmps55
 go_wp2
 go_loopg [8] k (fun kq v8 w' => ∃ (x8_1 : Int),v8 = .int .i64 x8_1 ∧ y0 (cmp_Or_int.l0 kq 0 l0 (l0.length : Int) x8_1 = some r) ∧ y0 (kq ≤ k) ∧ Drawn0 w w')
 case atStart => exact ⟨(0),qy2,H',⟨Nat.le_refl _⟩,by repeat (first | exact Drawn0.refl _ | apply Drawn0.step)⟩
 case round =>
  clear H'
  obtain ⟨x8_1,rfl,HA,HK1,⟨m1,rfl⟩⟩ := hrel
  cases gk with
  | zero => exact absurd HA.out (by simp [cmp_Or_int.l0])
  | succ k1 =>
   have H := HA.out
   clear HA
   simp only [cmp_Or_int.l0] at H
   by_cases c2 : x8_1 < (l0.length : Int)
   ·rw [if_pos c2] at H
    have c2b0 := decide_eq_true c2
    clear c2
    obtain ⟨c3,H⟩ := qo H
    have c3b0 : decide (0 ≤ x8_1) = true := decide_eq_true c3
    clear c3
    obtain ⟨c4,H⟩ := qo H
    have c4b0 : decide (x8_1 < (l0.length : Int)) = true := decide_eq_true c4
    clear c4
    by_cases c5 : (rd l0 x8_1) = 0
    ·rw [if_pos c5] at H
     have c5b0 : ((rd l0 x8_1) == 0) = true := beq_iff_eq.mpr c5
     have c5b1 : ((rd l0 x8_1) != 0) = false := bne_eq_false_iff_eq.mpr c5
     clear c5
     have H' := y0.mk H
     clear H
     have p167 : 0 ≤ (x8_1 : Int) := of_decide_eq_true qy1
     have q167 : x8_1 < (l0.length : Int) := of_decide_eq_true qy1
     obtain ⟨ad167,e167,hx167_0⟩ := Kd.at_int HR0.out x8_1 p167 q167
     cases e167
     replace p167 := eq_true p167
     replace q167 := eq_true q167
     go_wp2
     go_roundg k1
     case measure => have := HK1.out; omega
     exact ⟨(wrap64 (x8_1 + 1)),qy2,H',⟨by have := HK1.out; omega⟩,by repeat (first | exact Drawn0.refl _ | apply Drawn0.step)⟩
    ·rw [if_neg c5] at H
     have c5b0 : ((rd l0 x8_1) == 0) = false := beq_eq_false_iff_ne.mpr c5
     have c5b1 : ((rd l0 x8_1) != 0) = true := bne_iff_ne.mpr c5
     obtain rfl := Option.some.inj H
     have p167 : 0 ≤ (x8_1 : Int) := of_decide_eq_true qy1
     have q167 : x8_1 < (l0.length : Int) := of_decide_eq_true qy1
     obtain ⟨ad167,e167,hx167_0⟩ := Kd.at_int HR0.out x8_1 p167 q167
     cases e167
     replace p167 := eq_true p167
     replace q167 := eq_true q167
     go_wp2
     go_ret
     exact ⟨by first | rfl | (simp; done) | (simp [*]; done),by repeat (first | exact Drawn0.refl _ | apply Drawn0.step)⟩
   ·rw [if_neg c2] at H
    have c2b0 := decide_eq_false c2
    clear c2
    obtain rfl := Option.some.inj H
    go_wp2
    go_ret
    exact ⟨by first | rfl | (simp; done) | (simp [*]; done),by repeat (first | exact Drawn0.refl _ | apply Drawn0.step)⟩
def cmp_isNaN_int.f (a0 : Int) : Option (Bool) := some (a0 != a0)
set_option maxHeartbeats 8000000 in
set_option maxRecDepth 100000 in
theorem cmp_isNaN_int.calls (a0 : Int) (r : Bool) (w : World) (h : cmp_isNaN_int.f a0 = some r) :
  Calls Try.prog 62 #[.int .i64 a0] w fun e w' => e = .returned (.bool r) ∧ Drawn0 w w' := by
 have H : (some (a0 != a0)) = some r := h
 clear h
 obtain rfl := Option.some.inj H
 go_enter Try.func62,Try.ntmps62
 go_wp2
 go_ret
 exact ⟨by first | rfl | (simp; done) | (simp [*]; done),by repeat (first | exact Drawn0.refl _ | apply Drawn0.step)⟩
def cmp_Compare_int.f (a0 : Int) (a1 : Int) : Option (Int) := (cmp_isNaN_int.f a0).bind fun t168 => ((cmp_isNaN_int.f a1).bind fun t169 => (if t168 = true then (if t169 = true then (some 0) else (some (-1))) else (if t169 = true then (some 1) else (if a0 < a1 then (some (-1)) else (if a0 > a1 then (some 1) else (some 0))))))
set_option maxHeartbeats 8000000 in
set_option maxRecDepth 100000 in
theorem cmp_Compare_int.calls (a0 : Int) (a1 : Int) (r : Int) (w : World) (h : cmp_Compare_int.f a0 a1 = some r) :
  Calls Try.prog 56 #[.int .i64 a0,.int .i64 a1] w fun e w' => e = .returned (.int .i64 r) ∧ Drawn0 w w' := by
 have H : ((cmp_isNaN_int.f a0).bind fun t168 => ((cmp_isNaN_int.f a1).bind fun t169 => (if t168 = true then (if t169 = true then (some 0) else (some (-1))) else (if t169 = true then (some 1) else (if a0 < a1 then (some (-1)) else (if a0 > a1 then (some 1) else (some 0))))))) = some r := h
 clear h
 obtain ⟨t168,A3,H⟩ := qB H
 obtain ⟨t169,A4,H⟩ := qB H
 by_cases c5 : t168 = true
 ·subst c5
  replace H := qT H
  by_cases c6 : t169 = true
  ·subst c6
   replace H := qT H
   obtain rfl := Option.some.inj H
   go_enter Try.func56,Try.ntmps56
   go_wp2_with (first | ((with_reducible refine y19 (f := 62) rfl ?_); refine goesL_ (some 8) rfl rfl Try.func62 (by kernel_rfl) rfl #[.int .i64 a0] rfl qy0 ?_; (with_reducible refine (cmp_isNaN_int.calls a0 true _ A3.out).mono ?_); rintro e w' ⟨rfl,⟨nd,rfl⟩⟩; refine ⟨_,rfl, ?_⟩) | ((with_reducible refine y19 (f := 62) rfl ?_); refine goesL_ (some 10) rfl rfl Try.func62 (by kernel_rfl) rfl #[.int .i64 a1] rfl qy0 ?_; (with_reducible refine (cmp_isNaN_int.calls a1 true _ A4.out).mono ?_); rintro e w' ⟨rfl,⟨nd,rfl⟩⟩; refine ⟨_,rfl, ?_⟩))
   go_ret
   exact ⟨by first | rfl | (simp; done) | (simp [*]; done),by repeat (first | exact Drawn0.refl _ | apply Drawn0.step)⟩
  ·replace c6 := Bool.eq_false_iff.mpr c6
   subst c6
   replace H := qF H
   obtain rfl := Option.some.inj H
   go_enter Try.func56,Try.ntmps56
   go_wp2_with (first | ((with_reducible refine y19 (f := 62) rfl ?_); refine goesL_ (some 8) rfl rfl Try.func62 (by kernel_rfl) rfl #[.int .i64 a0] rfl qy0 ?_; (with_reducible refine (cmp_isNaN_int.calls a0 true _ A3.out).mono ?_); rintro e w' ⟨rfl,⟨nd,rfl⟩⟩; refine ⟨_,rfl, ?_⟩) | ((with_reducible refine y19 (f := 62) rfl ?_); refine goesL_ (some 10) rfl rfl Try.func62 (by kernel_rfl) rfl #[.int .i64 a1] rfl qy0 ?_; (with_reducible refine (cmp_isNaN_int.calls a1 false _ A4.out).mono ?_); rintro e w' ⟨rfl,⟨nd,rfl⟩⟩; refine ⟨_,rfl, ?_⟩))
   go_ret
   exact ⟨by first | rfl | (simp; done) | (simp [*]; done),by repeat (first | exact Drawn0.refl _ | apply Drawn0.step)⟩
 ·replace c5 := Bool.eq_false_iff.mpr c5
  subst c5
  replace H := qF H
  by_cases c7 : t169 = true
  ·subst c7
   replace H := qT H
   obtain rfl := Option.some.inj H
   go_enter Try.func56,Try.ntmps56
   go_wp2_with (first | ((with_reducible refine y19 (f := 62) rfl ?_); refine goesL_ (some 8) rfl rfl Try.func62 (by kernel_rfl) rfl #[.int .i64 a0] rfl qy0 ?_; (with_reducible refine (cmp_isNaN_int.calls a0 false _ A3.out).mono ?_); rintro e w' ⟨rfl,⟨nd,rfl⟩⟩; refine ⟨_,rfl, ?_⟩) | ((with_reducible refine y19 (f := 62) rfl ?_); refine goesL_ (some 10) rfl rfl Try.func62 (by kernel_rfl) rfl #[.int .i64 a1] rfl qy0 ?_; (with_reducible refine (cmp_isNaN_int.calls a1 true _ A4.out).mono ?_); rintro e w' ⟨rfl,⟨nd,rfl⟩⟩; refine ⟨_,rfl, ?_⟩))
   go_ret
   exact ⟨by first | rfl | (simp; done) | (simp [*]; done),by repeat (first | exact Drawn0.refl _ | apply Drawn0.step)⟩
  ·replace c7 := Bool.eq_false_iff.mpr c7
   subst c7
   replace H := qF H
   by_cases c8 : a0 < a1
   ·rw [if_pos c8] at H
    have c8b0 := decide_eq_true c8
    clear c8
    obtain rfl := Option.some.inj H
    go_enter Try.func56,Try.ntmps56
    go_wp2_with (first | ((with_reducible refine y19 (f := 62) rfl ?_); refine goesL_ (some 8) rfl rfl Try.func62 (by kernel_rfl) rfl #[.int .i64 a0] rfl qy0 ?_; (with_reducible refine (cmp_isNaN_int.calls a0 false _ A3.out).mono ?_); rintro e w' ⟨rfl,⟨nd,rfl⟩⟩; refine ⟨_,rfl, ?_⟩) | ((with_reducible refine y19 (f := 62) rfl ?_); refine goesL_ (some 10) rfl rfl Try.func62 (by kernel_rfl) rfl #[.int .i64 a1] rfl qy0 ?_; (with_reducible refine (cmp_isNaN_int.calls a1 false _ A4.out).mono ?_); rintro e w' ⟨rfl,⟨nd,rfl⟩⟩; refine ⟨_,rfl, ?_⟩))
    go_ret
    exact ⟨by first | rfl | (simp; done) | (simp [*]; done),by repeat (first | exact Drawn0.refl _ | apply Drawn0.step)⟩
   ·rw [if_neg c8] at H
    have c8b0 := decide_eq_false c8
    clear c8
    by_cases c9 : a0 > a1
    ·rw [if_pos c9] at H
     have c9b0 : decide (a1 < a0) = true := decide_eq_true c9
     clear c9
     obtain rfl := Option.some.inj H
     go_enter Try.func56,Try.ntmps56
     go_wp2_with (first | ((with_reducible refine y19 (f := 62) rfl ?_); refine goesL_ (some 8) rfl rfl Try.func62 (by kernel_rfl) rfl #[.int .i64 a0] rfl qy0 ?_; (with_reducible refine (cmp_isNaN_int.calls a0 false _ A3.out).mono ?_); rintro e w' ⟨rfl,⟨nd,rfl⟩⟩; refine ⟨_,rfl, ?_⟩) | ((with_reducible refine y19 (f := 62) rfl ?_); refine goesL_ (some 10) rfl rfl Try.func62 (by kernel_rfl) rfl #[.int .i64 a1] rfl qy0 ?_; (with_reducible refine (cmp_isNaN_int.calls a1 false _ A4.out).mono ?_); rintro e w' ⟨rfl,⟨nd,rfl⟩⟩; refine ⟨_,rfl, ?_⟩))
     go_ret
     exact ⟨by first | rfl | (simp; done) | (simp [*]; done),by repeat (first | exact Drawn0.refl _ | apply Drawn0.step)⟩
    ·rw [if_neg c9] at H
     have c9b0 : decide (a1 < a0) = false := decide_eq_false c9
     clear c9
     obtain rfl := Option.some.inj H
     go_enter Try.func56,Try.ntmps56
     go_wp2_with (first | ((with_reducible refine y19 (f := 62) rfl ?_); refine goesL_ (some 8) rfl rfl Try.func62 (by kernel_rfl) rfl #[.int .i64 a0] rfl qy0 ?_; (with_reducible refine (cmp_isNaN_int.calls a0 false _ A3.out).mono ?_); rintro e w' ⟨rfl,⟨nd,rfl⟩⟩; refine ⟨_,rfl, ?_⟩) | ((with_reducible refine y19 (f := 62) rfl ?_); refine goesL_ (some 10) rfl rfl Try.func62 (by kernel_rfl) rfl #[.int .i64 a1] rfl qy0 ?_; (with_reducible refine (cmp_isNaN_int.calls a1 false _ A4.out).mono ?_); rintro e w' ⟨rfl,⟨nd,rfl⟩⟩; refine ⟨_,rfl, ?_⟩))
     go_ret
     exact ⟨by first | rfl | (simp; done) | (simp [*]; done),by repeat (first | exact Drawn0.refl _ | apply Drawn0.step)⟩
end Go.Proofs.Ytcckpjflbfofjaa.Pd
end
