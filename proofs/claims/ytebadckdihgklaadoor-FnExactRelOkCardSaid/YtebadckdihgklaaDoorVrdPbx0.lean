-- Cut by prune.py, a program of this session, out of the texts of this claim: Lean checks it.
import Derived.Test.YtebadckdihgklaaDoorProg
import Derived.Below
import Derived.Deep.Draws
import Derived.Deep.AppendLies
import Derived.Maps.AppendAt
import Derived.OwnWalk
import Derived.Laws.BytesArg
import Derived.Laws.MakeOwn
import Derived.Laws.OwnMore
import Derived.Deep.OwnRows
import Derived.Tactics
import Derived.Lib.ConvBytes
import Derived.Laws.Slices
import Derived.WalkKit
import Derived.KernelRfl
import Derived.RowKit3
import Derived.Deep.LoopGhost
import Derived.Deep.QuietTactic
import Derived.BigQuiet
import Derived.WideLaws
import Derived.Deep.DeepCutAuto
import Derived.Deep.CutBlock
import Derived.Deep.RegionHeld3
import Derived.Laws.Rows
import Derived.Lib.AppendStr
import Derived.ArgAppend
import Derived.Laws.IdiomCopy
import Derived.OrdersHeld
import Derived.Laws.BitsLemmas
import Derived.RowKit
import Derived.Test.YtebadckdihgklaaDoorVrdWWords
import Derived.Test.YtebadckdihgklaaDoorVrdWLast
import Derived.Test.YtebadckdihgklaaDoorVrdWTab
import Derived.Test.YtebadckdihgklaaDoorVrdWApart
import Derived.Test.YtebadckdihgklaaDoorVrdWFoot
import Derived.Test.YtebadckdihgklaaDoorVrdWKept
import Derived.Test.YtebadckdihgklaaDoorVrdWShare
import Derived.Test.YtebadckdihgklaaDoorVrdWN
import Derived.Laws.StructEq
import Derived.Test.YtebadckdihgklaaDoorVrdWRepsOne
import Derived.Test.YtebadckdihgklaaDoorVrdWGuard
import Derived.Test.YtebadckdihgklaaDoorVrdWMore
import Derived.Test.YtebadckdihgklaaDoorVrdShelf
import Derived.Lib.LaidTab
import Derived.WalkSmall
import Derived.Test.YtebadckdihgklaaDoorVrdQRead
section
namespace Go.Proofs.YtebadckdihgklaaDoor.Pb
open Go.RowKit Go.Proofs.YtebadckdihgklaaDoorW.PrintWords Go.Proofs.YtebadckdihgklaaDoorW.PrintLast Go.Proofs.YtebadckdihgklaaDoorW.PrintMore
attribute [local go_sem] max2_int min2_int max_two min_two max_three min_three max_four min_four   -- for this text's walks alone
set_option linter.unusedVariables false
set_option linter.unusedSimpArgs false
theorem qy0 {P : Prop} (h : P := by (try simp only [qM_,List.map_cons,List.map_nil]); first | done | rfl | (simp only [qD_,qT_]; rfl)) : P := h
theorem qy1 {P : Prop} (h : P := by first | (with_reducible assumption) | assumption) : P := h
theorem qy2 {P : Prop} (h : P := by first | rfl | (simp; done) | (simp [*]; done)) : P := h
theorem qy3 {P : Prop} (h : P := by have : (0 : Int) < (a0.size : Int) := of_decide_eq_true (by first | (with_reducible assumption) | assumption); omega) : P := h
theorem qb {w W : World} (h : Below w.heap.size w W := by repeat (first | (with_reducible first | exact HB.out | apply below_alloc | apply pw_below_drewN | apply y3 | refine below_set ?_ (y0.out (by with_reducible assumption))) | exact HB.out)) : Below w.heap.size w W := h
theorem qg {w W : World} {g : Nat} (e : g = W.heap.size) (h : Below w.heap.size w W := by repeat (first | (with_reducible first | exact HB.out | apply below_alloc | apply pw_below_drewN | apply y3 | refine below_set ?_ (y0.out (by with_reducible assumption))) | exact HB.out)) : w.heap.size ≤ g := by rw [e]; exact y4 h
theorem qk {w W : World} {g : Nat} {o : Obj} (h : w.heap[g]? = some o) (h1 : Below w.heap.size w W := by repeat (first | with_reducible exact Below.refl _ _ | with_reducible apply below_alloc | with_reducible apply pw_below_drewN | with_reducible apply y3)) : W.heap[g]? = some o := blk_below h h1
theorem qK {w W w2 : World} {g : Nat} {o : Obj} (h : w.heap[g]? = some o) (hb : Below W.heap.size W w2) (h1 : Below w.heap.size w W := by repeat (first | with_reducible exact Below.refl _ _ | with_reducible apply below_alloc | with_reducible apply pw_below_drewN | with_reducible apply y3)) : w2.heap[g]? = some o := blk_below (blk_below h h1) hb
theorem qn {w W : World} {g g2 : Nat} {o : Obj} (h : w.heap[g]? = some o) (e : g2 = W.heap.size) (h1 : Below w.heap.size w W := by repeat (first | with_reducible exact Below.refl _ _ | with_reducible apply below_alloc | with_reducible apply pw_below_drewN | with_reducible apply y3)) : g ≠ g2 := by rw [e]; exact Nat.ne_of_lt (blk_lt (blk_below h h1))
theorem qm {w W : World} {g g2 : Nat} {o : Obj} (h : w.heap[g]? = some o) (e : g2 = W.heap.size) (h1 : Below w.heap.size w W := by repeat (first | with_reducible exact Below.refl _ _ | with_reducible apply below_alloc | with_reducible apply pw_below_drewN | with_reducible apply y3)) : g2 ≠ g := Ne.symm (qn h e h1)
theorem qc {α : Type} {d : Kd α} {w W : World} {A : Option Addr} {n : Nat} {xs : List α} (h : d.C w A n xs) (h1 : Below w.heap.size w W := by repeat (first | with_reducible exact Below.refl _ _ | with_reducible apply below_alloc | with_reducible apply pw_below_drewN | with_reducible apply y3)) : d.C W A n xs := Kd.C_below h h1
theorem qo {P : Prop} [Decidable P] {α : Type} {X Y : Option α} {r : α} (h : (if P then X else Y) = some r) (hn : ¬ (Y = some r) := by simp) : P ∧ X = some r := by
 by_cases c : P
 ·rw [if_pos c] at h
  exact ⟨c,h⟩
 ·rw [if_neg c] at h
  exact absurd h hn
theorem qB {α β : Type} {x : Option α} {f : α → Option β} {r : β} (h : x.bind f = some r) : ∃ t,y0 (x = some t) ∧ f t = some r := by
 obtain ⟨t,a,b⟩ := Option.bind_eq_some_iff.mp h
 exact ⟨t,⟨a⟩,b⟩
theorem qT {α : Type} {X Y : Option α} {r : α} {d : Decidable (true = true)} (h : (@ite _ (true = true) d X Y) = some r) : X = some r := by rwa [if_pos rfl] at h
theorem qF {α : Type} {X Y : Option α} {r : α} {d : Decidable (false = true)} (h : (@ite _ (false = true) d X Y) = some r) : Y = some r := by rwa [if_neg Bool.false_ne_true] at h
theorem qR {α : Type} {d : Kd α} {e base : Nat} {w W : World} {ok : Nat → Prop} {v : Value} {xs : List α} (h : d.R e w base ok v xs) (h1 : Below w.heap.size w W := by repeat (first | with_reducible exact Below.refl _ _ | with_reducible apply below_alloc | with_reducible apply pw_below_drewN | with_reducible apply y3)) : d.R e W base ok v xs := Kd.R_below h h1
theorem qS {α : Type} {d : Kd α} {e base : Nat} {w W : World} {ok : Nat → Prop} {v : Value} {xs : List α} (h : Kd.S d e w base ok v xs) (h1 : Below w.heap.size w W := by repeat (first | with_reducible exact Below.refl _ _ | with_reducible apply below_alloc | with_reducible apply pw_below_drewN | with_reducible apply y3)) : Kd.S d e W base ok v xs := Kd.S_below h h1
theorem qz1 {w : World} {g t : Nat} {a0 : Value} (h : w.heap[g]? = some (.cells #[a0] t (0,0))) : w.cell? ⟨g,0,none⟩ = some a0 ∧ w.frozen? ⟨g,0,none⟩ = false := ⟨(y6 h 0).trans rfl,blk_frozen h 0⟩
theorem qz2 {w : World} {g t : Nat} {a0 a1 : Value} (h : w.heap[g]? = some (.cells #[a0,a1] t (0,0))) : w.cell? ⟨g,0,none⟩ = some a0 ∧ w.cell? ⟨g,1,none⟩ = some a1 ∧ w.frozen? ⟨g,0,none⟩ = false ∧ w.frozen? ⟨g,1,none⟩ = false := ⟨(y6 h 0).trans rfl,(y6 h 1).trans rfl,blk_frozen h 0,blk_frozen h 1⟩
section
variable {P : Program} {ops : Array Oper} {rest : List Oper} {o : Oper} {a : Act} {Q : Exit → Act → World → Prop}
theorem qe {W : World} (N : Tmp) (cs : Array Value) (t : TypeId) (h : ∀ g,g = W.heap.size → ∀ w1,w1.heap[g]? = some (.cells cs t (0,0)) → Below W.heap.size W w1 → wpList P ops Q rest (a.put o.dst (.pointer (some ⟨g,0,none⟩))) w1) (hg : o.guard = none := by rfl) (hd : o.dst = some N := by rfl)
  (hr : (execOp a.eval o).run P W = .ok (.value (.pointer (some ⟨W.heap.size,0,none⟩))) (W.alloc (.cells cs t (0,0))) := by first | (go_simp; done) | (go_simp; rfl)) : wpList P ops Q (o :: rest) a W := box_event hg hd hr h
end
section
variable {P : Program} {ops : Array Oper} {Q : Exit → Act → World → Prop} {md : Region.Mode} {S : World → Prop} {ds : List Nat}
theorem qp {oi : Oper} {v : Value} {fuel : Nat} {l : Array Bool} {a a' : Act} {w : World} (i : Nat) (N : Tmp) (l' : Array Bool) (h : wpAnyLast P md ops Q S ds fuel l' a' w) (hi : ops[i]? = some oi := by exact rfl) (hN : oi.dst = some N := by exact rfl) (hc : anyB md ops l l' i = true := by exact y2 HT_.out (by kernel_rfl))
  (hQ : ∀ c a w,Q (.panic c) (a.put oi.dst v) w → Q (.panic c) a w := by exact fun _ _ _ h => h) (hy : Yields P ops oi v a := by refine Or.inl ⟨by rfl, ?_⟩; intro w'; go_simp; with_reducible rfl) (ha : a.put (some N) v = a' := by simp only [Act.put,qS_,qZ_,qC_,y13,y12]; rfl) : wpAnyLast P md ops Q S ds (fuel + 1) l a w := pure_ l' hi hN hc hQ hy ha h
theorem qt {oi : Oper} {v : Value} {fuel : Nat} {l : Array Bool} {a a' : Act} {w : World} (i : Nat) (N : Tmp) (l' : Array Bool) (hS : S w) (h : wpAnyLast P md ops Q S ds fuel l' a' w) (hi : ops[i]? = some oi := by exact rfl) (hN : oi.dst = some N := by exact rfl) (hc : takeB md ops ds l l' i = true := by exact take_ofW HT_.out HW_.out (by kernel_rfl))
  (hQ : ∀ c a w,Q (.panic c) (a.put oi.dst v) w → Q (.panic c) a w := by exact fun _ _ _ h => h) (hy : YieldsIf P ops S oi v a := by refine Or.inl ⟨by rfl, ?_⟩; intro w' hs_; (repeat (obtain ⟨s_,hs_⟩ : _ ∧ _ := hs_)); go_simp; with_reducible rfl) (ha : a.put (some N) v = a' := by simp only [Act.put,qS_,qZ_,qC_,y13,y12]; rfl) : wpAnyLast P md ops Q S ds (fuel + 1) l a w := take_ l' hi hN hc hQ hy hS ha h
end
def errW : Option Int → Value
 | none => .nilIface
 | some c => .iface 0 (.int .i64 c)
theorem y8 : errW none = .nilIface := rfl
theorem y9 (c : Int) : errW (some c) = .iface 0 (.int .i64 c) := rfl
theorem info5 : (Tryd.prog.info? 5).map (fun i => (i.zero,i.size,i.bytes)) = some (some (.int .u8 0),1,1) := by kernel_rfl
theorem info9 : (Tryd.prog.info? 9).map (fun i => (i.zero,i.size,i.bytes)) = some (some (.string ⟨#[]⟩),1,16) := by kernel_rfl
theorem info36 : (Tryd.prog.info? 36).map (fun i => (i.zero,i.size,i.bytes)) = some (some (.agg #[(.slice none 0 0)]),1,24) := by kernel_rfl
structure S54 where
 f0 : Int
 f1 : ByteArray
 f2 : Int
structure S33 where
 f0 : (List ByteArray)
def z33 : S33 := ⟨([] : List ByteArray)⟩
def k33 : Kd S33 := Kd.iso (Kd.slice 9 Kd.string) (fun x : S33 => x.f0)
theorem k33_open {w : World} {x : S33} {cs : List Value} (h : k33.K w x cs) : ∃ A0 c0,cs = [.slice A0 x.f0.length c0] ∧ x.f0.length ≤ c0 ∧ Kd.string.C w A0 x.f0.length x.f0 := by
 obtain ⟨A0,c0,rfl,l0,g0⟩ := h
 exact ⟨A0,c0,rfl,l0,g0⟩
def rd_T33 (xs : List S33) (i : Int) : S33 := xs.getD i.toNat z33
theorem at_T33 {w : World} {A : Option Addr} {n : Nat} {xs : List S33} (h : Kd.C k33 w A n xs) (i : Int) (h0 : 0 ≤ i) (h1 : i < n) : ∃ ad A0 c0,A = some ad ∧ w.cell? (ad.add i.toNat) = some (.slice A0 (rd_T33 xs i).f0.length c0) ∧ (rd_T33 xs i).f0.length ≤ c0 ∧ Kd.string.C w A0 (rd_T33 xs i).f0.length (rd_T33 xs i).f0 := by
 obtain ⟨ad,c,e,_,hK,hc0⟩ := Kd.C_get h z33 i h0 h1
 have hc : ∀ j u,c[j]? = some u → w.cell? (ad.add (i.toNat * 1 + j)) = some u := hc0
 obtain ⟨A0,c0,rfl,l0,g0⟩ := k33_open hK
 exact ⟨ad,A0,c0,e,by have hq := hc 0 _ rfl; rwa [Nat.mul_one,Nat.add_zero] at hq,l0,g0⟩
structure S36 where
 f0 : (List ByteArray)
def z36 : S36 := ⟨([] : List ByteArray)⟩
def k36 : Kd S36 := Kd.iso (Kd.slice 9 Kd.string) (fun x : S36 => x.f0)
theorem k36_open {w : World} {x : S36} {cs : List Value} (h : k36.K w x cs) : ∃ A0 c0,cs = [.slice A0 x.f0.length c0] ∧ x.f0.length ≤ c0 ∧ Kd.string.C w A0 x.f0.length x.f0 := by
 obtain ⟨A0,c0,rfl,l0,g0⟩ := h
 exact ⟨A0,c0,rfl,l0,g0⟩
theorem k36_openM {w : World} {base : Nat} {ok : Nat → Prop} {x : S36} {cs : List Value} (h : k36.M w base ok x cs) : ∃ v0,cs = [v0] ∧ Kd.string.R 9 w base ok v0 x.f0 := by
 obtain ⟨v0,rfl,g0⟩ := h
 exact ⟨v0,rfl,g0⟩
theorem k36_mkM (w : World) (base : Nat) (ok : Nat → Prop) (x : S36) {v0 : Value} (g0 : Kd.string.R 9 w base ok v0 x.f0) : k36.M w base ok x [v0] := ⟨v0,rfl,g0⟩
def y14 (xs : List S36) (i : Int) : S36 := xs.getD i.toNat z36
theorem at_T36 {w : World} {A : Option Addr} {n : Nat} {xs : List S36} (h : Kd.C k36 w A n xs) (i : Int) (h0 : 0 ≤ i) (h1 : i < n) : ∃ ad A0 c0,A = some ad ∧ w.cell? (ad.add i.toNat) = some (.slice A0 (y14 xs i).f0.length c0) ∧ (y14 xs i).f0.length ≤ c0 ∧ Kd.string.C w A0 (y14 xs i).f0.length (y14 xs i).f0 := by
 obtain ⟨ad,c,e,_,hK,hc0⟩ := Kd.C_get h z36 i h0 h1
 have hc : ∀ j u,c[j]? = some u → w.cell? (ad.add (i.toNat * 1 + j)) = some u := hc0
 obtain ⟨A0,c0,rfl,l0,g0⟩ := k36_open hK
 exact ⟨ad,A0,c0,e,by have hq := hc 0 _ rfl; rwa [Nat.mul_one,Nat.add_zero] at hq,l0,g0⟩
structure S65 where
 f0 : Int
 f1 : (List S33)
def k65 : Kd S65 := Kd.iso (Kd.pair (Kd.int .i64) (Kd.slice 33 k33)) (fun x : S65 => (x.f0,x.f1))
theorem k65_open {w : World} {x : S65} {cs : List Value} (h : k65.K w x cs) : ∃ A1 c1,cs = [.int .i64 x.f0,.slice A1 x.f1.length c1] ∧ x.f1.length ≤ c1 ∧ k33.C w A1 x.f1.length x.f1 := by
 obtain ⟨_,_,rfl,rfl,⟨A1,c1,rfl,l1,g1⟩⟩ := h
 exact ⟨A1,c1,rfl,l1,g1⟩
/-- What the library's package-level variables hold: carried by every walk that comes to them. -/
structure Tb (w : World) : Prop where
 pow : Lib.TabIs Tryd.prog w "internal/strconv.uint64pow10" .u64 Lib.pow10Tab
 es : ∃ ev,w.cell? ⟨1,0,none⟩ = some ev ∧ (ev = .nilIface ∨ ∃ te pe,ev = .iface te pe)
 er : ∃ ev,w.cell? ⟨2,0,none⟩ = some ev ∧ (ev = .nilIface ∨ ∃ te pe,ev = .iface te pe)
 ml : ∃ m,w.cell? ⟨3,0,none⟩ = some (.int .i64 m)
theorem gPow : Tryd.prog.globalNamed "internal/strconv.uint64pow10" = some 0 := by kernel_rfl
theorem var_block {P : Program} {w : World} {n : String} {cs : Array Value} {g : Nat} (hg : P.globalNamed n = some g) (h : w.var? P n = some cs) : g < w.heap.size := by
 unfold World.var? at h
 rw [hg] at h
 simp only [Option.bind_some] at h
 split at h
 ·rename_i hh
  exact (Array.getElem?_eq_some_iff.1 hh).1
 ·cases h
theorem Tb.below {w w' : World} (h : Tb w) (hb : Below w.heap.size w w') : Tb w' := by
 constructor
 ·exact var?_below hb gPow (var_block gPow h.pow) h.pow
 ·obtain ⟨ev,h1,h2⟩ := h.es; exact ⟨ev,pw_cell_below hb h1,h2⟩
 ·obtain ⟨ev,h1,h2⟩ := h.er; exact ⟨ev,pw_cell_below hb h1,h2⟩
 ·obtain ⟨m,h1⟩ := h.ml; exact ⟨m,pw_cell_below hb h1⟩
theorem Tb.drawn {w w' : World} (h : Tb w) (hd : y1 w w') : Tb w' := h.below hd.below
def okT33 (b : S33) : Prop := (fun l => l.length ≤ maxLen ∧ l.length * 16 ≤ 140737488351232 ∧ ∀ x ∈ l,(fun a => a.size ≤ 140737488351232) x) b.f0
def okT65 (b : S65) : Prop := (fun a => (Lit.int .i64 a).wf = true) b.f0 ∧ (fun l => l.length ≤ maxLen ∧ l.length * 24 ≤ 140737488351232 ∧ ∀ x ∈ l,okT33 x) b.f1
end Go.Proofs.YtebadckdihgklaaDoor.Pb
end
section
namespace Go.Proofs.YtebadckdihgklaaDoor.Pb
open Go.RowKit Go.Proofs.YtebadckdihgklaaDoorW.PrintWords Go.Proofs.YtebadckdihgklaaDoorW.PrintLast Go.Proofs.YtebadckdihgklaaDoorW.PrintMore
attribute [local go_sem] max2_int min2_int max_two min_two max_three min_three max_four min_four   -- for this text's walks alone
set_option linter.unusedVariables false
set_option linter.unusedSimpArgs false
def spec_NumText.l0 : Nat → Int → List Int → Int → Option (ByteArray)
 | 0,_,_,_ => none
 | k + 1,x0,x3,x4 => if x4 = 0 then (if x0 < 0 then ((some (([45] : List Int) : List Int)).bind fun y104 => (if y104.length + x3.length < 140737488355328 then (some (strOfNums (y104 ++ x3))) else (none))) else (some (strOfNums x3))) else (if (Int.tmod x4 10) < 0 then ((some (([(wrap64 (48 + (wrap64 (-(Int.tmod x4 10))))) % 256] : List Int) : List Int)).bind fun y110 => (if y110.length + x3.length < 140737488355328 then (spec_NumText.l0 k x0 (y110 ++ x3) (wrap64 (Int.tdiv x4 10))) else (none))) else ((some (([(wrap64 (48 + (Int.tmod x4 10))) % 256] : List Int) : List Int)).bind fun y116 => (if y116.length + x3.length < 140737488355328 then (spec_NumText.l0 k x0 (y116 ++ x3) (wrap64 (Int.tdiv x4 10))) else (none))))
def spec_NumText.f (k : Nat) (a0 : Int) : Option (ByteArray) := if a0 = 0 then (some (⟨#[48]⟩ : ByteArray)) else (spec_NumText.l0 k a0 (([] : List Int)) a0)
set_option maxHeartbeats 8000000 in
set_option maxRecDepth 100000 in
theorem spec_NumText.calls (k : Nat) (a0 : Int) (r : ByteArray) (w : World) (h : spec_NumText.f k a0 = some r) :
  Calls Tryd.prog 20 #[.int .i64 a0] w fun e w' => e = .returned (.string r) ∧ Below w.heap.size w w' := by
 have HB := y0.mk (Below.refl w.heap.size w)
 have H : (if a0 = 0 then (some (⟨#[48]⟩ : ByteArray)) else (spec_NumText.l0 k a0 (([] : List Int)) a0)) = some r := h
 clear h
 by_cases c2 : a0 = 0
 ·rw [if_pos c2] at H
  have c2b0 : (a0 == 0) = true := beq_iff_eq.mpr c2
  have c2b1 : (a0 != 0) = false := bne_eq_false_iff_eq.mpr c2
  clear c2
  obtain rfl := Option.some.inj H
  go_enter Tryd.func20,Tryd.ntmps20
  go_wp2
  go_ret
  exact ⟨by first | rfl | (simp [y8,y9] <;> rfl) | (simp [*,y8,y9] <;> rfl),qb⟩
 ·rw [if_neg c2] at H
  have c2b0 : (a0 == 0) = false := beq_eq_false_iff_ne.mpr c2
  have c2b1 : (a0 != 0) = true := bne_iff_ne.mpr c2
  obtain ⟨y101,hy101⟩ : ∃ y_ : List Int,y_ = (([] : List Int)) := ⟨_,rfl⟩
  replace H : (spec_NumText.l0 k a0 y101 a0) = some r := by first | (rw [hy101]; with_reducible exact H) | (have H2_ := (Option.bind_some _ _).symm.trans H; rw [hy101]; with_reducible exact H2_) | (have H2_ := (Option.bind_some _ _).symm.trans H; with_reducible exact H2_) | with_reducible exact H | (rw [hy101]; exact H) | exact H
  have Ny101 := y0.mk hy101
  clear hy101
  have H' := y0.mk H
  clear H
  go_enter Tryd.func20,Tryd.ntmps20
  go_wp2_with (first | ((with_reducible refine gate_dst (N := 8) rfl ?_); refine Kd.R_lit (Kd.int .u8) _ 5 ?hg (N := 8) ?hd (xs := ([] : List Int)) (inner := []) (ok := fun _ => True) (okp := fun _ => True) ?hr ?hp (fun _ hk => hk) trivial (Below.refl _ _) (Nat.le_refl _) (by simp) ?_; (case hd => rfl); (case hg => rfl); (case hr => first | (go_simp; done) | (go_simp; rfl)); (case hp => exact (Reps.none _ _)); intro v102 w3 ho4 hb hg_ hnew_; clear hg_ hnew_; (first | rw [← Ny101.out] at ho4 | (simp only [Int.reduceToNat] at ho4; rw [← Ny101.out] at ho4)); have HO103 := y0.mk (Kd.R_lower ho4 (y4 qb)); replace HB := y0.mk (y5 qb hb); clear hb ho4))
  go_loopg [3,4] k (fun kq v3 v4 w' => ∃ (x3_1 : List Int) (x4_1 : Int),v4 = .int .i64 x4_1 ∧ y0 (spec_NumText.l0 kq a0 x3_1 x4_1 = some r) ∧ y0 (kq ≤ k) ∧ y0 (Kd.R (Kd.int .u8) 5 w' w.heap.size (fun _ => True) v3 x3_1) ∧ y0 (Below w.heap.size w w'))
  case atStart => exact ⟨(y101),(a0),qy2,H',⟨Nat.le_refl _⟩,⟨qR HO103.out⟩,⟨qb⟩⟩
  case round =>
   clear H'
   (try clear c2b0 c2b1)
   obtain ⟨x3_1,x4_1,rfl,HA,HK1,HO_3,HB⟩ := hrel
   cases gk with
   | zero => exact absurd HA.out (by simp [spec_NumText.l0])
   | succ k1 =>
    have H := HA.out
    clear HA
    simp only [spec_NumText.l0] at H
    by_cases c5 : x4_1 = 0
    ·rw [if_pos c5] at H
     have c5b0 : (x4_1 == 0) = true := beq_iff_eq.mpr c5
     have c5b1 : (x4_1 != 0) = false := bne_eq_false_iff_eq.mpr c5
     clear c5
     by_cases c6 : a0 < 0
     ·rw [if_pos c6] at H
      have c6b0 := decide_eq_true c6
      clear c6
      obtain ⟨y104,hy104⟩ : ∃ y_ : List Int,y_ = (([45] : List Int)) := ⟨_,rfl⟩
      replace H : (if y104.length + x3_1.length < 140737488355328 then (some (strOfNums (y104 ++ x3_1))) else (none)) = some r := by first | (rw [hy104]; with_reducible exact H) | (have H2_ := (Option.bind_some _ _).symm.trans H; rw [hy104]; with_reducible exact H2_) | (have H2_ := (Option.bind_some _ _).symm.trans H; with_reducible exact H2_) | with_reducible exact H | (rw [hy104]; exact H) | exact H
      have Ny104 := y0.mk hy104
      clear hy104
      obtain ⟨c7,H⟩ := qo H
      have LMc7 := y0.mk c7
      clear c7
      obtain ⟨y107,hy107⟩ : ∃ y_ : List Int,y_ = (y104 ++ x3_1) := ⟨_,rfl⟩
      replace H : (some (strOfNums y107)) = some r := by first | (rw [hy107]; with_reducible exact H) | (have H2_ := (Option.bind_some _ _).symm.trans H; rw [hy107]; with_reducible exact H2_) | (have H2_ := (Option.bind_some _ _).symm.trans H; with_reducible exact H2_) | with_reducible exact H | (rw [hy107]; exact H) | exact H
      have Ny107 := y0.mk hy107
      clear hy107
      obtain rfl := Option.some.inj H
      go_wp2_with (first | ((with_reducible refine gate_dst (N := 28) rfl ?_); refine Kd.R_lit (Kd.int .u8) _ 5 ?hg (N := 28) ?hd (xs := ([45] : List Int)) (inner := [.int .u8 45]) (ok := fun _ => True) (okp := fun _ => True) ?hr ?hp (fun _ hk => hk) trivial (Below.refl _ _) (Nat.le_refl _) (by simp) ?_; (case hd => rfl); (case hg => rfl); (case hr => first | (go_simp; done) | (go_simp; rfl)); (case hp => exact (Reps.one (show Kd.M (Kd.int .u8) _ _ _ 45 [.int .u8 45] from rfl) (Reps.none _ _))); intro v105 w8 ho9 hb hg_ hnew_; clear hg_ hnew_; (first | rw [← Ny104.out] at ho9 | (simp only [Int.reduceToNat] at ho9; rw [← Ny104.out] at ho9)); have HO106 := y0.mk (Kd.R_lower (Kd.R_new' ho9 (Kd.R_lt (qR HO_3.out))) (y4 qb)); replace HO_3 := y0.mk (Kd.R_elder' (qR HO_3.out) (Kd.R_base ho9) hb); replace HB := y0.mk (y5 qb hb); clear hb ho9; obtain ⟨Ao11,co11,eo11⟩ := Kd.R_slice HO_3.out; subst eo11) | ((with_reducible refine gate_builtin (b := .append) (xs := #[.tmp 28,.tmp 29]) rfl ?_); at_builtin; refine Kd.R_append_rows (Kd.int .u8) (w0 := w) w.heap.size rfl (.tmp 28) (.tmp 29) 24 5 (.int .u8 0) 1 rfl Tryd.underlying24 info5 rfl (by decide) (by omega) v105 y104 x3_1 _ _ _ (fun k_ => some k_ ≠ (.slice Ao11 x3_1.length co11 : Value).ownBlock) (fun _ => False) rfl rfl ?aO ?aR (fun _ _ h => h) (fun _ h => h.elim) ?aF ?aB ?aS ?aL ?_; (case aR => repeat (first | exact (Kd.R_reads' HO_3.out).2.2 | (with_reducible refine Kd.C_alloc ?_ _) | (with_reducible refine Kd.C_drewN ?_ _) | (with_reducible refine Kd.C_drew ?_))); (case aB => exact qb); (case aF => exact (fun k_ hk => Kd.fresh' (Kd.R_lt (qR HO_3.out)) k_ hk)); (case aO => exact (qR (Kd.R_mono HO106.out (fun _ hk => hk.2)))); (case aS => exact (y4 qb)); (case aL => have := LMc7.out; omega); intro v108 w10 ho hb hg hat; rw [← Ny107.out] at ho; replace HO_3 := y0.mk (Kd.R_after (ok := (fun _ => True)) (qR HO_3.out) hg hat); replace HB := y0.mk (hb); have HO109 := y0.mk (ho); clear HO106; clear ho hb hg hat; have hcv12 := own_string (P := Tryd.prog) Tryd.underlying24 Tryd.underlying5 Tryd.underlying9 (Kd.own_of_R HO109.out)))
      go_ret
      exact ⟨by first | rfl | (simp [y8,y9] <;> rfl) | (simp [*,y8,y9] <;> rfl),qb⟩
     ·rw [if_neg c6] at H
      have c6b0 := decide_eq_false c6
      clear c6
      obtain rfl := Option.some.inj H
      have hcv13 := own_string (P := Tryd.prog) Tryd.underlying24 Tryd.underlying5 Tryd.underlying9 (Kd.own_of_R HO_3.out)
      go_wp2
      go_ret
      exact ⟨by first | rfl | (simp [y8,y9] <;> rfl) | (simp [*,y8,y9] <;> rfl),qb⟩
    ·rw [if_neg c5] at H
     have c5b0 : (x4_1 == 0) = false := beq_eq_false_iff_ne.mpr c5
     have c5b1 : (x4_1 != 0) = true := bne_iff_ne.mpr c5
     by_cases c14 : (Int.tmod x4_1 10) < 0
     ·rw [if_pos c14] at H
      have c14b0 := decide_eq_true c14
      clear c14
      obtain ⟨y110,hy110⟩ : ∃ y_ : List Int,y_ = (([(wrap64 (48 + (wrap64 (-(Int.tmod x4_1 10))))) % 256] : List Int)) := ⟨_,rfl⟩
      replace H : (if y110.length + x3_1.length < 140737488355328 then (spec_NumText.l0 k1 a0 (y110 ++ x3_1) (wrap64 (Int.tdiv x4_1 10))) else (none)) = some r := by first | (rw [hy110]; with_reducible exact H) | (have H2_ := (Option.bind_some _ _).symm.trans H; rw [hy110]; with_reducible exact H2_) | (have H2_ := (Option.bind_some _ _).symm.trans H; with_reducible exact H2_) | with_reducible exact H | (rw [hy110]; exact H) | exact H
      have Ny110 := y0.mk hy110
      clear hy110
      obtain ⟨c15,H⟩ := qo H
      have LMc15 := y0.mk c15
      clear c15
      obtain ⟨y113,hy113⟩ : ∃ y_ : List Int,y_ = (y110 ++ x3_1) := ⟨_,rfl⟩
      replace H : (spec_NumText.l0 k1 a0 y113 (wrap64 (Int.tdiv x4_1 10))) = some r := by first | (rw [hy113]; with_reducible exact H) | (have H2_ := (Option.bind_some _ _).symm.trans H; rw [hy113]; with_reducible exact H2_) | (have H2_ := (Option.bind_some _ _).symm.trans H; with_reducible exact H2_) | with_reducible exact H | (rw [hy113]; exact H) | exact H
      have Ny113 := y0.mk hy113
      clear hy113
      have H' := y0.mk H
      clear H
      go_wp2_with (first | ((with_reducible refine gate_dst (N := 23) rfl ?_); refine Kd.R_lit (Kd.int .u8) _ 5 ?hg (N := 23) ?hd (xs := ([(wrap64 (48 + (wrap64 (-(Int.tmod x4_1 10))))) % 256] : List Int)) (inner := [.int .u8 ((wrap64 (48 + (wrap64 (-(Int.tmod x4_1 10))))) % 256)]) (ok := fun _ => True) (okp := fun _ => True) ?hr ?hp (fun _ hk => hk) trivial (Below.refl _ _) (Nat.le_refl _) (by simp) ?_; (case hd => rfl); (case hg => rfl); (case hr => first | (go_simp; done) | (go_simp; rfl)); (case hp => exact (Reps.one (show Kd.M (Kd.int .u8) _ _ _ ((wrap64 (48 + (wrap64 (-(Int.tmod x4_1 10))))) % 256) [.int .u8 ((wrap64 (48 + (wrap64 (-(Int.tmod x4_1 10))))) % 256)] from rfl) (Reps.none _ _))); intro v111 w16 ho17 hb hg_ hnew_; clear hg_ hnew_; (first | rw [← Ny110.out] at ho17 | (simp only [Int.reduceToNat] at ho17; rw [← Ny110.out] at ho17)); have HO112 := y0.mk (Kd.R_lower (Kd.R_new' ho17 (Kd.R_lt (qR HO_3.out))) (y4 qb)); replace HO_3 := y0.mk (Kd.R_elder' (qR HO_3.out) (Kd.R_base ho17) hb); replace HB := y0.mk (y5 qb hb); clear hb ho17; obtain ⟨Ao19,co19,eo19⟩ := Kd.R_slice HO_3.out; subst eo19) | ((with_reducible refine gate_builtin (b := .append) (xs := #[.tmp 23,.tmp 24]) rfl ?_); at_builtin; refine Kd.R_append_rows (Kd.int .u8) (w0 := w) w.heap.size rfl (.tmp 23) (.tmp 24) 24 5 (.int .u8 0) 1 rfl Tryd.underlying24 info5 rfl (by decide) (by omega) v111 y110 x3_1 _ _ _ (fun k_ => some k_ ≠ (.slice Ao19 x3_1.length co19 : Value).ownBlock) (fun _ => False) rfl rfl ?aO ?aR (fun _ _ h => h) (fun _ h => h.elim) ?aF ?aB ?aS ?aL ?_; (case aR => repeat (first | exact (Kd.R_reads' HO_3.out).2.2 | (with_reducible refine Kd.C_alloc ?_ _) | (with_reducible refine Kd.C_drewN ?_ _) | (with_reducible refine Kd.C_drew ?_))); (case aB => exact qb); (case aF => exact (fun k_ hk => Kd.fresh' (Kd.R_lt (qR HO_3.out)) k_ hk)); (case aO => exact (qR (Kd.R_mono HO112.out (fun _ hk => hk.2)))); (case aS => exact (y4 qb)); (case aL => have := LMc15.out; omega); intro v114 w18 ho hb hg hat; rw [← Ny113.out] at ho; replace HO_3 := y0.mk (Kd.R_after (ok := (fun _ => True)) (qR HO_3.out) hg hat); replace HB := y0.mk (hb); have HO115 := y0.mk (ho); clear HO112; clear ho hb hg hat))
      go_roundg k1
      case measure => have := HK1.out; omega
      exact ⟨(y113),(wrap64 (Int.tdiv x4_1 10)),qy2,H',⟨by have := HK1.out; omega⟩,⟨qR (Kd.R_mono HO115.out (fun _ hk => trivial))⟩,⟨qb⟩⟩
     ·rw [if_neg c14] at H
      have c14b0 := decide_eq_false c14
      clear c14
      obtain ⟨y116,hy116⟩ : ∃ y_ : List Int,y_ = (([(wrap64 (48 + (Int.tmod x4_1 10))) % 256] : List Int)) := ⟨_,rfl⟩
      replace H : (if y116.length + x3_1.length < 140737488355328 then (spec_NumText.l0 k1 a0 (y116 ++ x3_1) (wrap64 (Int.tdiv x4_1 10))) else (none)) = some r := by first | (rw [hy116]; with_reducible exact H) | (have H2_ := (Option.bind_some _ _).symm.trans H; rw [hy116]; with_reducible exact H2_) | (have H2_ := (Option.bind_some _ _).symm.trans H; with_reducible exact H2_) | with_reducible exact H | (rw [hy116]; exact H) | exact H
      have Ny116 := y0.mk hy116
      clear hy116
      obtain ⟨c20,H⟩ := qo H
      have LMc20 := y0.mk c20
      clear c20
      obtain ⟨y119,hy119⟩ : ∃ y_ : List Int,y_ = (y116 ++ x3_1) := ⟨_,rfl⟩
      replace H : (spec_NumText.l0 k1 a0 y119 (wrap64 (Int.tdiv x4_1 10))) = some r := by first | (rw [hy119]; with_reducible exact H) | (have H2_ := (Option.bind_some _ _).symm.trans H; rw [hy119]; with_reducible exact H2_) | (have H2_ := (Option.bind_some _ _).symm.trans H; with_reducible exact H2_) | with_reducible exact H | (rw [hy119]; exact H) | exact H
      have Ny119 := y0.mk hy119
      clear hy119
      have H' := y0.mk H
      clear H
      go_wp2_with (first | ((with_reducible refine gate_dst (N := 23) rfl ?_); refine Kd.R_lit (Kd.int .u8) _ 5 ?hg (N := 23) ?hd (xs := ([(wrap64 (48 + (Int.tmod x4_1 10))) % 256] : List Int)) (inner := [.int .u8 ((wrap64 (48 + (Int.tmod x4_1 10))) % 256)]) (ok := fun _ => True) (okp := fun _ => True) ?hr ?hp (fun _ hk => hk) trivial (Below.refl _ _) (Nat.le_refl _) (by simp) ?_; (case hd => rfl); (case hg => rfl); (case hr => first | (go_simp; done) | (go_simp; rfl)); (case hp => exact (Reps.one (show Kd.M (Kd.int .u8) _ _ _ ((wrap64 (48 + (Int.tmod x4_1 10))) % 256) [.int .u8 ((wrap64 (48 + (Int.tmod x4_1 10))) % 256)] from rfl) (Reps.none _ _))); intro v117 w21 ho22 hb hg_ hnew_; clear hg_ hnew_; (first | rw [← Ny116.out] at ho22 | (simp only [Int.reduceToNat] at ho22; rw [← Ny116.out] at ho22)); have HO118 := y0.mk (Kd.R_lower (Kd.R_new' ho22 (Kd.R_lt (qR HO_3.out))) (y4 qb)); replace HO_3 := y0.mk (Kd.R_elder' (qR HO_3.out) (Kd.R_base ho22) hb); replace HB := y0.mk (y5 qb hb); clear hb ho22; obtain ⟨Ao24,co24,eo24⟩ := Kd.R_slice HO_3.out; subst eo24) | ((with_reducible refine gate_builtin (b := .append) (xs := #[.tmp 23,.tmp 24]) rfl ?_); at_builtin; refine Kd.R_append_rows (Kd.int .u8) (w0 := w) w.heap.size rfl (.tmp 23) (.tmp 24) 24 5 (.int .u8 0) 1 rfl Tryd.underlying24 info5 rfl (by decide) (by omega) v117 y116 x3_1 _ _ _ (fun k_ => some k_ ≠ (.slice Ao24 x3_1.length co24 : Value).ownBlock) (fun _ => False) rfl rfl ?aO ?aR (fun _ _ h => h) (fun _ h => h.elim) ?aF ?aB ?aS ?aL ?_; (case aR => repeat (first | exact (Kd.R_reads' HO_3.out).2.2 | (with_reducible refine Kd.C_alloc ?_ _) | (with_reducible refine Kd.C_drewN ?_ _) | (with_reducible refine Kd.C_drew ?_))); (case aB => exact qb); (case aF => exact (fun k_ hk => Kd.fresh' (Kd.R_lt (qR HO_3.out)) k_ hk)); (case aO => exact (qR (Kd.R_mono HO118.out (fun _ hk => hk.2)))); (case aS => exact (y4 qb)); (case aL => have := LMc20.out; omega); intro v120 w23 ho hb hg hat; rw [← Ny119.out] at ho; replace HO_3 := y0.mk (Kd.R_after (ok := (fun _ => True)) (qR HO_3.out) hg hat); replace HB := y0.mk (hb); have HO121 := y0.mk (ho); clear HO118; clear ho hb hg hat))
      go_roundg k1
      case measure => have := HK1.out; omega
      exact ⟨(y119),(wrap64 (Int.tdiv x4_1 10)),qy2,H',⟨by have := HK1.out; omega⟩,⟨qR (Kd.R_mono HO121.out (fun _ hk => trivial))⟩,⟨qb⟩⟩
def strconv_Itoa.f (a0 : Int) : Option ByteArray := if -9223372036854775808 ≤ a0 then if a0 ≤ 9223372036854775807 then some ⟨(Lib.itoa a0).toArray⟩ else none else none
theorem strconv_Itoa.calls (a0 : Int) (r : ByteArray) (w : World) (hT : Tb w) (h : strconv_Itoa.f a0 = some r) :
  Calls Tryd.prog 65 #[.int .i64 a0] w fun e w' => e = .returned (.string r) ∧ Below w.heap.size w w' := by
 unfold strconv_Itoa.f at h
 by_cases h0 : -9223372036854775808 ≤ a0
 ·by_cases h1 : a0 ≤ 9223372036854775807
  ·rw [if_pos h0,if_pos h1] at h
   obtain rfl := Option.some.inj h
   refine (Tryd.strconv_Itoa a0 h0 h1 w hT.pow).mono ?_
   rintro e w' ⟨rfl,k,os,rfl⟩
   exact ⟨rfl,QRead.below_grow_drewN w k os⟩
  ·rw [if_pos h0,if_neg h1] at h
   cases h
 ·rw [if_neg h0] at h
  cases h
def spec_l01Between.f (a0 : Int) (a1 : Int) (a2 : Int) : Option (Bool) := if a0 ≥ a1 then (some (decide (a0 ≤ a2))) else (some false)
set_option maxHeartbeats 8000000 in
set_option maxRecDepth 100000 in
theorem spec_l01Between.calls (a0 : Int) (a1 : Int) (a2 : Int) (r : Bool) (w : World) (h : spec_l01Between.f a0 a1 a2 = some r) :
  Calls Tryd.prog 66 #[.int .i64 a0,.int .i64 a1,.int .i64 a2] w fun e w' => e = .returned (.bool r) ∧ y1 w w' := by
 have H : (if a0 ≥ a1 then (some (decide (a0 ≤ a2))) else (some false)) = some r := h
 clear h
 by_cases c4 : a0 ≥ a1
 ·rw [if_pos c4] at H
  have c4b0 : decide (a1 ≤ a0) = true := decide_eq_true c4
  clear c4
  obtain rfl := Option.some.inj H
  go_enter Tryd.func66,Tryd.ntmps66
  go_wp2
  go_ret
  exact ⟨by first | rfl | (simp; done) | (simp [*]; done),by repeat (first | exact y1.refl _ | apply y1.step)⟩
 ·rw [if_neg c4] at H
  have c4b0 : decide (a1 ≤ a0) = false := decide_eq_false c4
  clear c4
  obtain rfl := Option.some.inj H
  go_enter Tryd.func66,Tryd.ntmps66
  go_wp2
  go_ret
  exact ⟨by first | rfl | (simp; done) | (simp [*]; done),by repeat (first | exact y1.refl _ | apply y1.step)⟩
def impl_in.f (a0 : Int) (a1 : Int) (a2 : Int) : Option (Bool) := if a0 ≥ a1 then (some (decide (a0 ≤ a2))) else (some false)
set_option maxHeartbeats 8000000 in
set_option maxRecDepth 100000 in
theorem impl_in.calls (a0 : Int) (a1 : Int) (a2 : Int) (r : Bool) (w : World) (h : impl_in.f a0 a1 a2 = some r) :
  Calls Tryd.prog 67 #[.int .i64 a0,.int .i64 a1,.int .i64 a2] w fun e w' => e = .returned (.bool r) ∧ y1 w w' := by
 have H : (if a0 ≥ a1 then (some (decide (a0 ≤ a2))) else (some false)) = some r := h
 clear h
 by_cases c4 : a0 ≥ a1
 ·rw [if_pos c4] at H
  have c4b0 : decide (a1 ≤ a0) = true := decide_eq_true c4
  clear c4
  obtain rfl := Option.some.inj H
  go_enter Tryd.func67,Tryd.ntmps67
  go_wp2
  go_ret
  exact ⟨by first | rfl | (simp; done) | (simp [*]; done),by repeat (first | exact y1.refl _ | apply y1.step)⟩
 ·rw [if_neg c4] at H
  have c4b0 : decide (a1 ≤ a0) = false := decide_eq_false c4
  clear c4
  obtain rfl := Option.some.inj H
  go_enter Tryd.func67,Tryd.ntmps67
  go_wp2
  go_ret
  exact ⟨by first | rfl | (simp; done) | (simp [*]; done),by repeat (first | exact y1.refl _ | apply y1.step)⟩
/-- A state of type 92 at block g of W; what its slices lead to came in by w0. -/
def IsS92 (w0 W : World) (g : Nat) (f0 : List Int) (f1 : Int) (f2 : Int) : Prop := ∃ A0 c0,W.heap[g]? = some (.cells #[.slice A0 f0.length c0,.int .i64 f1,.int .i64 f2] 92 (0,0)) ∧ w0.heap.size ≤ g ∧ Kd.C (Kd.int .u8) w0 A0 f0.length f0
theorem IsS92.grown {w0 W : World} {g : Nat} {f0 : List Int} {f1 : Int} {f2 : Int} {W1 : World} {row : Option Nat} (h : IsS92 w0 W g f0 f1 f2) (hw : W.grownBy W1 row) (hne : some g ≠ row) : IsS92 w0 W1 g f0 f1 f2 := by
 obtain ⟨A0,c0,hb,hg,hr0⟩ := h
 exact ⟨A0,c0,blk_grown hb hw hne,hg,hr0⟩
theorem IsS92.kept {w0 W : World} {g : Nat} {f0 : List Int} {f1 : Int} {f2 : Int} {W1 : World} {S : Nat → Prop} (h : IsS92 w0 W g f0 f1 f2) (hk : Kept W W1 S) (hne : ¬ S g) : IsS92 w0 W1 g f0 f1 f2 := by
 obtain ⟨A0,c0,hb,hg,hr0⟩ := h
 exact ⟨A0,c0,blk_kept hb hk hne,hg,hr0⟩
theorem IsS92.below {w0 W : World} {g : Nat} {f0 : List Int} {f1 : Int} {f2 : Int} {W1 : World} (h : IsS92 w0 W g f0 f1 f2) (hw : Below W.heap.size W W1) : IsS92 w0 W1 g f0 f1 f2 := h.grown (grown_of_below hw none) (by simp)
theorem IsS92.alloc {w0 W : World} {g : Nat} {f0 : List Int} {f1 : Int} {f2 : Int} (h : IsS92 w0 W g f0 f1 f2) (o : Obj) : IsS92 w0 (W.alloc o) g f0 f1 f2 := h.below (below_alloc (Below.refl _ _) o)
theorem IsS92.drewN {w0 W : World} {g : Nat} {f0 : List Int} {f1 : Int} {f2 : Int} (h : IsS92 w0 W g f0 f1 f2) (m : Nat) : IsS92 w0 (W.drewN m) g f0 f1 f2 := h
theorem IsS92.drew {w0 W : World} {g : Nat} {f0 : List Int} {f1 : Int} {f2 : Int} (h : IsS92 w0 W g f0 f1 f2) : IsS92 w0 W.drew g f0 f1 f2 := h
theorem IsS92.at_ {w0 W : World} {g : Nat} {f0 : List Int} {f1 : Int} {f2 : Int} {w' : World} {m : Nat} (hq : W.drewN m = w') (h : IsS92 w0 W g f0 f1 f2) : IsS92 w0 w' g f0 f1 f2 := by subst hq; exact IsS92.drewN h m
theorem IsS92.apart {w0 W : World} {g : Nat} {f0 : List Int} {f1 : Int} {f2 : Int} {α : Type} {d : Kd α} {e : Nat} {base : Nat} {ok : Nat → Prop} {v : Value} {xs : List α} (h : IsS92 w0 W g f0 f1 f2) (ho : d.R e W base ok v xs) (ht : ∀ q,q ∈ e :: d.E → q ≠ 92) : d.R e W base (fun k => ok k ∧ k ≠ g) v xs := by
 obtain ⟨A0,c0,hb,hg,hr0⟩ := h
 exact Kd.R_types ho hb ht
end Go.Proofs.YtebadckdihgklaaDoor.Pb
end
section
namespace Go.Proofs.YtebadckdihgklaaDoor.Pb
open Go.RowKit Go.Proofs.YtebadckdihgklaaDoorW.PrintWords Go.Proofs.YtebadckdihgklaaDoorW.PrintLast Go.Proofs.YtebadckdihgklaaDoorW.PrintMore
attribute [local go_sem] max2_int min2_int max_two min_two max_three min_three max_four min_four   -- for this text's walks alone
set_option linter.unusedVariables false
set_option linter.unusedSimpArgs false
def ErrIs : Option Int → Value → Prop
 | none,ev => ev = .nilIface
 | some _,ev => ∃ te pe,ev = .iface te pe
theorem errIs_none {ev : Value} (h : ErrIs none ev) : ev = .nilIface := h
theorem errIs_some {q : Int} {ev : Value} (h : ErrIs (some q) ev) : ∃ te pe,ev = .iface te pe := h
/-- strconv.Atoi: the number, and whether there is an error. -/
def strconv_Atoi.f (a0 : ByteArray) : Option (Int × Option Int) :=
 if a0.size ≤ 281474976710656 then (match Lib.atoiAll a0.data.toList with
  | .ok v => some (v,none)
  | .range => some (Lib.atoiSat a0.data.toList,some 1)
  | _ => some (0,some 0)) else none
theorem strconv_Atoi.calls (a0 : ByteArray) (r1 : Int) (r2 : Option Int) (w : World) (hT : Tb w) (h : strconv_Atoi.f a0 = some (r1,r2)) :
  Calls Tryd.prog 102 #[.string a0] w fun e w' => ∃ ev,e = .returned (.tuple #[.int .i64 r1,ev]) ∧ ErrIs r2 ev ∧ Below w.heap.size w w' := by
 unfold strconv_Atoi.f at h
 by_cases h0 : a0.size ≤ 281474976710656
 ·rw [if_pos h0] at h
  rcases hn : Lib.atoiAll a0.data.toList with v | _ | _
  ·
   simp only [hn,Option.some.injEq,Prod.mk.injEq] at h
   obtain ⟨rfl,rfl⟩ := h
   refine (Tryd.strconv_Atoi_ok a0 (by omega) v hn w).mono ?_
   rintro e w' ⟨rfl,hw⟩
   refine ⟨_,rfl,rfl, ?_⟩
   rcases hw with rfl | ⟨t,rfl⟩
   ·exact Below.refl _ _
   ·exact bytes_below (Below.refl _ _) (Nat.le_refl _) _ _
  ·
   simp only [hn,Option.some.injEq,Prod.mk.injEq] at h
   obtain ⟨rfl,rfl⟩ := h
   obtain ⟨ev,h1,h2⟩ := hT.es
   refine (Tryd.strconv_Atoi_syntax a0 h0 hn ev w h1 h2).mono ?_
   rintro e w' ⟨n,rfl,_,_,hb⟩
   exact ⟨_,rfl,⟨_,_,rfl⟩,hb⟩
  ·
   simp only [hn,Option.some.injEq,Prod.mk.injEq] at h
   obtain ⟨rfl,rfl⟩ := h
   obtain ⟨ev,h1,h2⟩ := hT.er
   refine (Tryd.strconv_Atoi_range a0 h0 hn ev w h1 h2).mono ?_
   rintro e w' ⟨n,rfl,_,_,hb⟩
   exact ⟨_,rfl,⟨_,_,rfl⟩,hb⟩
 ·rw [if_neg h0] at h
  cases h
def impl_isDigit.f (a0 : Int) : Option (Bool) := if a0 ≥ 48 then (some (decide (a0 ≤ 57))) else (some false)
set_option maxHeartbeats 8000000 in
set_option maxRecDepth 100000 in
theorem impl_isDigit.calls (a0 : Int) (r : Bool) (w : World) (h : impl_isDigit.f a0 = some r) :
  Calls Tryd.prog 122 #[.int .u8 a0] w fun e w' => e = .returned (.bool r) ∧ y1 w w' := by
 have H : (if a0 ≥ 48 then (some (decide (a0 ≤ 57))) else (some false)) = some r := h
 clear h
 by_cases c2 : a0 ≥ 48
 ·rw [if_pos c2] at H
  have c2b0 : decide (48 ≤ a0) = true := decide_eq_true c2
  clear c2
  obtain rfl := Option.some.inj H
  go_enter Tryd.func122,Tryd.ntmps122
  go_wp2
  go_ret
  exact ⟨by first | rfl | (simp; done) | (simp [*]; done),by repeat (first | exact y1.refl _ | apply y1.step)⟩
 ·rw [if_neg c2] at H
  have c2b0 : decide (48 ≤ a0) = false := decide_eq_false c2
  clear c2
  obtain rfl := Option.some.inj H
  go_enter Tryd.func122,Tryd.ntmps122
  go_wp2
  go_ret
  exact ⟨by first | rfl | (simp; done) | (simp [*]; done),by repeat (first | exact y1.refl _ | apply y1.step)⟩
def impl_isLetter.f (a0 : Int) : Option (Bool) := if a0 ≥ 97 then (if a0 ≤ 122 then (some true) else (if a0 ≥ 65 then (some (decide (a0 ≤ 90))) else (some false))) else (if a0 ≥ 65 then (some (decide (a0 ≤ 90))) else (some false))
set_option maxHeartbeats 8000000 in
set_option maxRecDepth 100000 in
theorem impl_isLetter.calls (a0 : Int) (r : Bool) (w : World) (h : impl_isLetter.f a0 = some r) :
  Calls Tryd.prog 130 #[.int .u8 a0] w fun e w' => e = .returned (.bool r) ∧ y1 w w' := by
 have H : (if a0 ≥ 97 then (if a0 ≤ 122 then (some true) else (if a0 ≥ 65 then (some (decide (a0 ≤ 90))) else (some false))) else (if a0 ≥ 65 then (some (decide (a0 ≤ 90))) else (some false))) = some r := h
 clear h
 by_cases c2 : a0 ≥ 97
 ·rw [if_pos c2] at H
  have c2b0 : decide (97 ≤ a0) = true := decide_eq_true c2
  clear c2
  by_cases c3 : a0 ≤ 122
  ·rw [if_pos c3] at H
   have c3b0 := decide_eq_true c3
   clear c3
   obtain rfl := Option.some.inj H
   go_enter Tryd.func130,Tryd.ntmps130
   go_wp2
   go_ret
   exact ⟨by first | rfl | (simp; done) | (simp [*]; done),by repeat (first | exact y1.refl _ | apply y1.step)⟩
  ·rw [if_neg c3] at H
   have c3b0 := decide_eq_false c3
   clear c3
   by_cases c4 : a0 ≥ 65
   ·rw [if_pos c4] at H
    have c4b0 : decide (65 ≤ a0) = true := decide_eq_true c4
    clear c4
    obtain rfl := Option.some.inj H
    go_enter Tryd.func130,Tryd.ntmps130
    go_wp2
    go_ret
    exact ⟨by first | rfl | (simp; done) | (simp [*]; done),by repeat (first | exact y1.refl _ | apply y1.step)⟩
   ·rw [if_neg c4] at H
    have c4b0 : decide (65 ≤ a0) = false := decide_eq_false c4
    clear c4
    obtain rfl := Option.some.inj H
    go_enter Tryd.func130,Tryd.ntmps130
    go_wp2
    go_ret
    exact ⟨by first | rfl | (simp; done) | (simp [*]; done),by repeat (first | exact y1.refl _ | apply y1.step)⟩
 ·rw [if_neg c2] at H
  have c2b0 : decide (97 ≤ a0) = false := decide_eq_false c2
  clear c2
  by_cases c5 : a0 ≥ 65
  ·rw [if_pos c5] at H
   have c5b0 : decide (65 ≤ a0) = true := decide_eq_true c5
   clear c5
   obtain rfl := Option.some.inj H
   go_enter Tryd.func130,Tryd.ntmps130
   go_wp2
   go_ret
   exact ⟨by first | rfl | (simp; done) | (simp [*]; done),by repeat (first | exact y1.refl _ | apply y1.step)⟩
  ·rw [if_neg c5] at H
   have c5b0 : decide (65 ≤ a0) = false := decide_eq_false c5
   clear c5
   obtain rfl := Option.some.inj H
   go_enter Tryd.func130,Tryd.ntmps130
   go_wp2
   go_ret
   exact ⟨by first | rfl | (simp; done) | (simp [*]; done),by repeat (first | exact y1.refl _ | apply y1.step)⟩
def impl_isWordByte.f (a0 : Int) : Option (Bool) := (impl_isLetter.f a0).bind fun t164 => (if t164 = true then (some true) else ((impl_isDigit.f a0).bind fun t165 => (if t165 = true then (some true) else (some (a0 == 95)))))
set_option maxHeartbeats 8000000 in
set_option maxRecDepth 100000 in
theorem impl_isWordByte.calls (a0 : Int) (r : Bool) (w : World) (h : impl_isWordByte.f a0 = some r) :
  Calls Tryd.prog 129 #[.int .u8 a0] w fun e w' => e = .returned (.bool r) ∧ y1 w w' := by
 have H : ((impl_isLetter.f a0).bind fun t164 => (if t164 = true then (some true) else ((impl_isDigit.f a0).bind fun t165 => (if t165 = true then (some true) else (some (a0 == 95)))))) = some r := h
 clear h
 obtain ⟨t164,A2,H⟩ := qB H
 by_cases c3 : t164 = true
 ·subst c3
  replace H := qT H
  obtain rfl := Option.some.inj H
  go_enter Tryd.func129,Tryd.ntmps129
  go_wp2_with (first | ((with_reducible refine y10 (f := 130) rfl ?_); refine y11 (some 4) rfl rfl Tryd.func130 (by kernel_rfl) rfl #[.int .u8 a0] rfl qy0 ?_; (with_reducible refine (impl_isLetter.calls a0 true _ A2.out).mono ?_); rintro e w' ⟨rfl,⟨nd,rfl⟩⟩; refine ⟨_,rfl, ?_⟩))
  go_ret
  exact ⟨by first | rfl | (simp; done) | (simp [*]; done),by repeat (first | exact y1.refl _ | apply y1.step)⟩
 ·replace c3 := Bool.eq_false_iff.mpr c3
  subst c3
  replace H := qF H
  obtain ⟨t165,A4,H⟩ := qB H
  by_cases c5 : t165 = true
  ·subst c5
   replace H := qT H
   obtain rfl := Option.some.inj H
   go_enter Tryd.func129,Tryd.ntmps129
   go_wp2_with (first | ((with_reducible refine y10 (f := 130) rfl ?_); refine y11 (some 4) rfl rfl Tryd.func130 (by kernel_rfl) rfl #[.int .u8 a0] rfl qy0 ?_; (with_reducible refine (impl_isLetter.calls a0 false _ A2.out).mono ?_); rintro e w' ⟨rfl,⟨nd,rfl⟩⟩; refine ⟨_,rfl, ?_⟩) | (go_at_call 122; (with_reducible refine (impl_isDigit.calls a0 true _ A4.out).mono ?_); rintro e w' ⟨rfl,⟨nd,rfl⟩⟩))
   go_ret
   exact ⟨by first | rfl | (simp; done) | (simp [*]; done),by repeat (first | exact y1.refl _ | apply y1.step)⟩
  ·replace c5 := Bool.eq_false_iff.mpr c5
   subst c5
   replace H := qF H
   obtain rfl := Option.some.inj H
   go_enter Tryd.func129,Tryd.ntmps129
   go_wp2_with (first | ((with_reducible refine y10 (f := 130) rfl ?_); refine y11 (some 4) rfl rfl Tryd.func130 (by kernel_rfl) rfl #[.int .u8 a0] rfl qy0 ?_; (with_reducible refine (impl_isLetter.calls a0 false _ A2.out).mono ?_); rintro e w' ⟨rfl,⟨nd,rfl⟩⟩; refine ⟨_,rfl, ?_⟩) | (go_at_call 122; (with_reducible refine (impl_isDigit.calls a0 false _ A4.out).mono ?_); rintro e w' ⟨rfl,⟨nd,rfl⟩⟩))
   go_ret
   exact ⟨by first | rfl | (simp; done) | (simp [*]; done),by repeat (first | exact y1.refl _ | apply y1.step)⟩
def impl_nameLong.l0 : Nat → ByteArray → Int → Option (Int)
 | 0,_,_ => none
 | k + 1,x0,x3 => if x3 < (x0.size : Int) then (if 0 ≤ x3 then ((impl_isWordByte.f (bt x0 x3)).bind fun t166 => (if t166 = true then (if x3 > 0 then (impl_nameLong.l0 k x0 (wrap64 (x3 + 1))) else (if 0 < (x0.size : Int) then ((impl_isLetter.f (bt x0 0)).bind fun t167 => (if t167 = true then (impl_nameLong.l0 k x0 (wrap64 (x3 + 1))) else (some x3))) else (none))) else (some x3))) else (none)) else (some x3)
def impl_nameLong.f (k : Nat) (a0 : ByteArray) : Option (Int) := impl_nameLong.l0 k a0 0
set_option maxHeartbeats 8000000 in
set_option maxRecDepth 100000 in
theorem impl_nameLong.calls (k : Nat) (a0 : ByteArray) (r : Int) (w : World) (h : impl_nameLong.f k a0 = some r) :
  Calls Tryd.prog 106 #[.string a0] w fun e w' => e = .returned (.int .i64 r) ∧ y1 w w' := by
 have H : (impl_nameLong.l0 k a0 0) = some r := h
 clear h
 have H' := y0.mk H
 clear H
 go_enter Tryd.func106,Tryd.ntmps106
 go_wp2
 go_loopg [3] k (fun kq v3 w' => ∃ (x3_1 : Int),v3 = .int .i64 x3_1 ∧ y0 (impl_nameLong.l0 kq a0 x3_1 = some r) ∧ y0 (kq ≤ k) ∧ y1 w w')
 case atStart => exact ⟨(0),qy2,H',⟨Nat.le_refl _⟩,by repeat (first | exact y1.refl _ | apply y1.step)⟩
 case round =>
  clear H'
  obtain ⟨x3_1,rfl,HA,HK1,⟨m1,rfl⟩⟩ := hrel
  cases gk with
  | zero => exact absurd HA.out (by simp [impl_nameLong.l0])
  | succ k1 =>
   have H := HA.out
   clear HA
   simp only [impl_nameLong.l0] at H
   by_cases c2 : x3_1 < (a0.size : Int)
   ·rw [if_pos c2] at H
    have c2b0 := decide_eq_true c2
    clear c2
    obtain ⟨c3,H⟩ := qo H
    have c3b0 : decide (0 ≤ x3_1) = true := decide_eq_true c3
    clear c3
    obtain ⟨t166,A5,H⟩ := qB H
    by_cases c6 : t166 = true
    ·subst c6
     replace H := qT H
     by_cases c7 : x3_1 > 0
     ·rw [if_pos c7] at H
      have c7b0 : decide (0 < x3_1) = true := decide_eq_true c7
      clear c7
      have H' := y0.mk H
      clear H
      have p4 : 0 ≤ (x3_1 : Int) := of_decide_eq_true qy1
      have q4 : x3_1 < (a0.size : Int) := of_decide_eq_true qy1
      have hx4 := bt_at a0 x3_1
      replace p4 := eq_true p4
      replace q4 := eq_true q4
      go_wp2_with (first | (go_at_call 129; (with_reducible refine (impl_isWordByte.calls (bt a0 x3_1) true _ A5.out).mono ?_); rintro e w' ⟨rfl,⟨nd,rfl⟩⟩))
      go_roundg k1
      case measure => have := HK1.out; omega
      exact ⟨(wrap64 (x3_1 + 1)),qy2,H',⟨by have := HK1.out; omega⟩,by repeat (first | exact y1.refl _ | apply y1.step)⟩
     ·rw [if_neg c7] at H
      have c7b0 : decide (0 < x3_1) = false := decide_eq_false c7
      clear c7
      obtain ⟨c8,H⟩ := qo H
      have c8b0 : decide (0 < (a0.size : Int)) = true := decide_eq_true c8
      have c8b1 : decide (0 < a0.size) = true := decide_eq_true (by omega)
      clear c8
      obtain ⟨t167,A10,H⟩ := qB H
      by_cases c11 : t167 = true
      ·subst c11
       replace H := qT H
       have H' := y0.mk H
       clear H
       have p4 : 0 ≤ (x3_1 : Int) := of_decide_eq_true qy1
       have q4 : x3_1 < (a0.size : Int) := of_decide_eq_true qy1
       have hx4 := bt_at a0 x3_1
       replace p4 := eq_true p4
       replace q4 := eq_true q4
       go_wp2_with (first | (go_at_call 129; (with_reducible refine (impl_isWordByte.calls (bt a0 x3_1) true _ A5.out).mono ?_); rintro e w' ⟨rfl,⟨nd,rfl⟩⟩; have p9 : 0 ≤ (0 : Int) := (by omega); have q9 : 0 < a0.size := qy3; have hx9 : ∀ h : 0 < a0.size,((a0[0]'h).toNat : Int) = bt a0 0 := bt_at a0 0; clear p9; have qi9 : (0 < (a0.size : Int)) = True := eq_true (of_decide_eq_true qy1); replace q9 := eq_true q9) | (go_at_call 130; (with_reducible refine (impl_isLetter.calls (bt a0 0) true _ A10.out).mono ?_); rintro e w' ⟨rfl,⟨nd,rfl⟩⟩))
       go_roundg k1
       case measure => have := HK1.out; omega
       exact ⟨(wrap64 (x3_1 + 1)),qy2,H',⟨by have := HK1.out; omega⟩,by repeat (first | exact y1.refl _ | apply y1.step)⟩
      ·replace c11 := Bool.eq_false_iff.mpr c11
       subst c11
       replace H := qF H
       obtain rfl := Option.some.inj H
       have p4 : 0 ≤ (x3_1 : Int) := of_decide_eq_true qy1
       have q4 : x3_1 < (a0.size : Int) := of_decide_eq_true qy1
       have hx4 := bt_at a0 x3_1
       replace p4 := eq_true p4
       replace q4 := eq_true q4
       go_wp2_with (first | (go_at_call 129; (with_reducible refine (impl_isWordByte.calls (bt a0 x3_1) true _ A5.out).mono ?_); rintro e w' ⟨rfl,⟨nd,rfl⟩⟩; have p9 : 0 ≤ (0 : Int) := (by omega); have q9 : 0 < a0.size := qy3; have hx9 : ∀ h : 0 < a0.size,((a0[0]'h).toNat : Int) = bt a0 0 := bt_at a0 0; clear p9; have qi9 : (0 < (a0.size : Int)) = True := eq_true (of_decide_eq_true qy1); replace q9 := eq_true q9) | (go_at_call 130; (with_reducible refine (impl_isLetter.calls (bt a0 0) false _ A10.out).mono ?_); rintro e w' ⟨rfl,⟨nd,rfl⟩⟩))
       go_ret
       exact ⟨by first | rfl | (simp; done) | (simp [*]; done),by repeat (first | exact y1.refl _ | apply y1.step)⟩
    ·replace c6 := Bool.eq_false_iff.mpr c6
     subst c6
     replace H := qF H
     obtain rfl := Option.some.inj H
     have p4 : 0 ≤ (x3_1 : Int) := of_decide_eq_true qy1
     have q4 : x3_1 < (a0.size : Int) := of_decide_eq_true qy1
     have hx4 := bt_at a0 x3_1
     replace p4 := eq_true p4
     replace q4 := eq_true q4
     go_wp2_with (first | (go_at_call 129; (with_reducible refine (impl_isWordByte.calls (bt a0 x3_1) false _ A5.out).mono ?_); rintro e w' ⟨rfl,⟨nd,rfl⟩⟩))
     go_ret
     exact ⟨by first | rfl | (simp; done) | (simp [*]; done),by repeat (first | exact y1.refl _ | apply y1.step)⟩
   ·rw [if_neg c2] at H
    have c2b0 := decide_eq_false c2
    clear c2
    obtain rfl := Option.some.inj H
    go_wp2
    go_ret
    exact ⟨by first | rfl | (simp; done) | (simp [*]; done),by repeat (first | exact y1.refl _ | apply y1.step)⟩
end Go.Proofs.YtebadckdihgklaaDoor.Pb
end
section
namespace Go.Proofs.YtebadckdihgklaaDoor.Pb
open Go.RowKit Go.Proofs.YtebadckdihgklaaDoorW.PrintWords Go.Proofs.YtebadckdihgklaaDoorW.PrintLast Go.Proofs.YtebadckdihgklaaDoorW.PrintMore
attribute [local go_sem] max2_int min2_int max_two min_two max_three min_three max_four min_four   -- for this text's walks alone
set_option linter.unusedVariables false
set_option linter.unusedSimpArgs false
mutual
def impl_symbolLong.l0 : Nat → ByteArray → Int → Option (Int)
 | 0,_,_ => none
 | k + 1,x0,x3 => if x3 < (x0.size : Int) then (impl_symbolLong.j1 k x0 x3 (decide (x3 ≤ 21))) else (impl_symbolLong.j1 k x0 x3 false)
def impl_symbolLong.j1 : Nat → ByteArray → Int → Bool → Option (Int)
 | 0,_,_,_ => none
 | k + 1,x0,x3,x11 => if x11 = true then (if 0 ≤ x3 then (if x3 < (x0.size : Int) then (if (bt x0 x3) = 34 then (some (wrap64 (x3 + 1))) else (if (bt x0 x3) < 32 then (some 0) else (if (bt x0 x3) > 126 then (some 0) else (if (bt x0 x3) = 92 then (some 0) else (impl_symbolLong.l0 k x0 (wrap64 (x3 + 1))))))) else (none)) else (none)) else (some 0)
end
def impl_symbolLong.f (k : Nat) (a0 : ByteArray) : Option (Int) := impl_symbolLong.l0 k a0 1
set_option maxHeartbeats 8000000 in
set_option maxRecDepth 100000 in
theorem impl_symbolLong.calls (k : Nat) (a0 : ByteArray) (r : Int) (w : World) (h : impl_symbolLong.f k a0 = some r) :
  Calls Tryd.prog 121 #[.string a0] w fun e w' => e = .returned (.int .i64 r) ∧ y1 w w' := by
 have H : (impl_symbolLong.l0 k a0 1) = some r := h
 clear h
 have H' := y0.mk H
 clear H
 go_enter Tryd.func121,Tryd.ntmps121
 go_wp2
 go_loopg [3] k (fun kq v3 w' => ∃ (x3_1 : Int),v3 = .int .i64 x3_1 ∧ y0 (impl_symbolLong.l0 kq a0 x3_1 = some r) ∧ y0 (kq ≤ k) ∧ y1 w w')
 case atStart => exact ⟨(1),qy2,H',⟨Nat.le_refl _⟩,by repeat (first | exact y1.refl _ | apply y1.step)⟩
 case round =>
  clear H'
  obtain ⟨x3_1,rfl,HA,HK1,⟨m1,rfl⟩⟩ := hrel
  cases gk with
  | zero => exact absurd HA.out (by simp [impl_symbolLong.l0])
  | succ k1 =>
   have H := HA.out
   clear HA
   simp only [impl_symbolLong.l0] at H
   have HC2 := y0.mk H
   clear H
   go_upto_region 2 with (fail)
   go_cut [11] (fun v11 wc => ∃ (kq : Nat) (x11_1 : Bool),v11 = .bool x11_1 ∧ y0 (impl_symbolLong.j1 kq a0 x3_1 x11_1 = some r) ∧ y0 (kq ≤ k1) ∧ y1 w wc)
   case first =>
    have H := HC2.out
    clear HC2
    by_cases c3 : x3_1 < (a0.size : Int)
    ·rw [if_pos c3] at H
     have c3b0 := decide_eq_true c3
     clear c3
     (first | rw [c3b0] | (simp only [y13,y12]; rw [c3b0]) | skip)
     have H' := y0.mk H
     clear H
     go_wp2
     go_meet
     exact ⟨_,(decide (x3_1 ≤ 21)),qy2,H',⟨by have := HK1.out; first | omega | exact Nat.le_refl _⟩,by repeat (first | exact y1.refl _ | apply y1.step)⟩
    ·rw [if_neg c3] at H
     have c3b0 := decide_eq_false c3
     clear c3
     (first | rw [c3b0] | (simp only [y13,y12]; rw [c3b0]) | skip)
     have H' := y0.mk H
     clear H
     go_wp2
     go_meet
     exact ⟨_,(false),qy2,H',⟨by have := HK1.out; first | omega | exact Nat.le_refl _⟩,by repeat (first | exact y1.refl _ | apply y1.step)⟩
   case rest =>
    clear HC2
    obtain ⟨kq,x11_1,rfl,HA,HJ1,⟨mc1,rfl⟩⟩ := hcut
    cases kq with
    | zero => exact absurd HA.out (by simp [impl_symbolLong.j1])
    | succ kj1 =>
     have H := HA.out
     clear HA
     simp only [impl_symbolLong.j1] at H
     by_cases c4 : x11_1 = true
     ·subst c4
      replace H := qT H
      obtain ⟨c5,H⟩ := qo H
      have c5b0 : decide (0 ≤ x3_1) = true := decide_eq_true c5
      clear c5
      obtain ⟨c6,H⟩ := qo H
      have c6b0 : decide (x3_1 < (a0.size : Int)) = true := decide_eq_true c6
      clear c6
      by_cases c8 : (bt a0 x3_1) = 34
      ·rw [if_pos c8] at H
       have c8b0 : ((bt a0 x3_1) == 34) = true := beq_iff_eq.mpr c8
       have c8b1 : ((bt a0 x3_1) != 34) = false := bne_eq_false_iff_eq.mpr c8
       clear c8
       obtain rfl := Option.some.inj H
       have p7 : 0 ≤ (x3_1 : Int) := of_decide_eq_true qy1
       have q7 : x3_1 < (a0.size : Int) := of_decide_eq_true qy1
       have hx7 := bt_at a0 x3_1
       replace p7 := eq_true p7
       replace q7 := eq_true q7
       go_wp2
       go_ret
       exact ⟨by first | rfl | (simp; done) | (simp [*]; done),by repeat (first | exact y1.refl _ | apply y1.step)⟩
      ·rw [if_neg c8] at H
       have c8b0 : ((bt a0 x3_1) == 34) = false := beq_eq_false_iff_ne.mpr c8
       have c8b1 : ((bt a0 x3_1) != 34) = true := bne_iff_ne.mpr c8
       by_cases c10 : (bt a0 x3_1) < 32
       ·rw [if_pos c10] at H
        have c10b0 := decide_eq_true c10
        clear c10
        obtain rfl := Option.some.inj H
        have p7 : 0 ≤ (x3_1 : Int) := of_decide_eq_true qy1
        have q7 : x3_1 < (a0.size : Int) := of_decide_eq_true qy1
        have hx7 := bt_at a0 x3_1
        replace p7 := eq_true p7
        replace q7 := eq_true q7
        have p9 : 0 ≤ (x3_1 : Int) := of_decide_eq_true qy1
        have q9 : x3_1 < (a0.size : Int) := of_decide_eq_true qy1
        have hx9 := bt_at a0 x3_1
        replace p9 := eq_true p9
        replace q9 := eq_true q9
        go_wp2
        go_ret
        exact ⟨by first | rfl | (simp; done) | (simp [*]; done),by repeat (first | exact y1.refl _ | apply y1.step)⟩
       ·rw [if_neg c10] at H
        have c10b0 := decide_eq_false c10
        clear c10
        by_cases c12 : (bt a0 x3_1) > 126
        ·rw [if_pos c12] at H
         have c12b0 : decide (126 < (bt a0 x3_1)) = true := decide_eq_true c12
         clear c12
         obtain rfl := Option.some.inj H
         have p7 : 0 ≤ (x3_1 : Int) := of_decide_eq_true qy1
         have q7 : x3_1 < (a0.size : Int) := of_decide_eq_true qy1
         have hx7 := bt_at a0 x3_1
         replace p7 := eq_true p7
         replace q7 := eq_true q7
         have p9 : 0 ≤ (x3_1 : Int) := of_decide_eq_true qy1
         have q9 : x3_1 < (a0.size : Int) := of_decide_eq_true qy1
         have hx9 := bt_at a0 x3_1
         replace p9 := eq_true p9
         replace q9 := eq_true q9
         have p11 : 0 ≤ (x3_1 : Int) := of_decide_eq_true qy1
         have q11 : x3_1 < (a0.size : Int) := of_decide_eq_true qy1
         have hx11 := bt_at a0 x3_1
         replace p11 := eq_true p11
         replace q11 := eq_true q11
         go_wp2
         go_ret
         exact ⟨by first | rfl | (simp; done) | (simp [*]; done),by repeat (first | exact y1.refl _ | apply y1.step)⟩
        ·rw [if_neg c12] at H
         have c12b0 : decide (126 < (bt a0 x3_1)) = false := decide_eq_false c12
         clear c12
         by_cases c14 : (bt a0 x3_1) = 92
         ·rw [if_pos c14] at H
          have c14b0 : ((bt a0 x3_1) == 92) = true := beq_iff_eq.mpr c14
          have c14b1 : ((bt a0 x3_1) != 92) = false := bne_eq_false_iff_eq.mpr c14
          clear c14
          obtain rfl := Option.some.inj H
          have p7 : 0 ≤ (x3_1 : Int) := of_decide_eq_true qy1
          have q7 : x3_1 < (a0.size : Int) := of_decide_eq_true qy1
          have hx7 := bt_at a0 x3_1
          replace p7 := eq_true p7
          replace q7 := eq_true q7
          have p9 : 0 ≤ (x3_1 : Int) := of_decide_eq_true qy1
          have q9 : x3_1 < (a0.size : Int) := of_decide_eq_true qy1
          have hx9 := bt_at a0 x3_1
          replace p9 := eq_true p9
          replace q9 := eq_true q9
          have p11 : 0 ≤ (x3_1 : Int) := of_decide_eq_true qy1
          have q11 : x3_1 < (a0.size : Int) := of_decide_eq_true qy1
          have hx11 := bt_at a0 x3_1
          replace p11 := eq_true p11
          replace q11 := eq_true q11
          have p13 : 0 ≤ (x3_1 : Int) := of_decide_eq_true qy1
          have q13 : x3_1 < (a0.size : Int) := of_decide_eq_true qy1
          have hx13 := bt_at a0 x3_1
          replace p13 := eq_true p13
          replace q13 := eq_true q13
          go_wp2
          go_ret
          exact ⟨by first | rfl | (simp; done) | (simp [*]; done),by repeat (first | exact y1.refl _ | apply y1.step)⟩
         ·rw [if_neg c14] at H
          have c14b0 : ((bt a0 x3_1) == 92) = false := beq_eq_false_iff_ne.mpr c14
          have c14b1 : ((bt a0 x3_1) != 92) = true := bne_iff_ne.mpr c14
          have H' := y0.mk H
          clear H
          have p7 : 0 ≤ (x3_1 : Int) := of_decide_eq_true qy1
          have q7 : x3_1 < (a0.size : Int) := of_decide_eq_true qy1
          have hx7 := bt_at a0 x3_1
          replace p7 := eq_true p7
          replace q7 := eq_true q7
          have p9 : 0 ≤ (x3_1 : Int) := of_decide_eq_true qy1
          have q9 : x3_1 < (a0.size : Int) := of_decide_eq_true qy1
          have hx9 := bt_at a0 x3_1
          replace p9 := eq_true p9
          replace q9 := eq_true q9
          have p11 : 0 ≤ (x3_1 : Int) := of_decide_eq_true qy1
          have q11 : x3_1 < (a0.size : Int) := of_decide_eq_true qy1
          have hx11 := bt_at a0 x3_1
          replace p11 := eq_true p11
          replace q11 := eq_true q11
          have p13 : 0 ≤ (x3_1 : Int) := of_decide_eq_true qy1
          have q13 : x3_1 < (a0.size : Int) := of_decide_eq_true qy1
          have hx13 := bt_at a0 x3_1
          replace p13 := eq_true p13
          replace q13 := eq_true q13
          go_wp2
          go_roundg kj1
          case measure => have := HK1.out; have := HJ1.out; omega
          exact ⟨(wrap64 (x3_1 + 1)),qy2,H',⟨by have := HK1.out; have := HJ1.out; omega⟩,by repeat (first | exact y1.refl _ | apply y1.step)⟩
     ·replace c4 := Bool.eq_false_iff.mpr c4
      subst c4
      replace H := qF H
      obtain rfl := Option.some.inj H
      go_wp2
      go_ret
      exact ⟨by first | rfl | (simp; done) | (simp [*]; done),by repeat (first | exact y1.refl _ | apply y1.step)⟩
end Go.Proofs.YtebadckdihgklaaDoor.Pb
end
section
namespace Go.Proofs.YtebadckdihgklaaDoor.Pb
open Go.RowKit Go.Proofs.YtebadckdihgklaaDoorW.PrintWords Go.Proofs.YtebadckdihgklaaDoorW.PrintLast Go.Proofs.YtebadckdihgklaaDoorW.PrintMore
attribute [local go_sem] max2_int min2_int max_two min_two max_three min_three max_four min_four   -- for this text's walks alone
set_option linter.unusedVariables false
set_option linter.unusedSimpArgs false
mutual
def impl_termAt.j0 : Nat → ByteArray → Bool → Option (Int × Int)
 | 0,_,_ => none
 | k + 1,x0,x23 => if x23 = true then (impl_termAt.l0 k x0 1) else (if 0 < (x0.size : Int) then (if (bt x0 0) ≥ 65 then (impl_termAt.j3 k x0 (decide ((bt x0 0) ≤ 90))) else (impl_termAt.j3 k x0 false)) else (none))
def impl_termAt.j2 : Nat → ByteArray → Int → Option (Int × Int)
 | 0,_,_ => none
 | k + 1,x0,x5 => if 0 ≤ x5 then (if x5 ≤ (x0.size : Int) then ((strconv_Atoi.f (x0.extract 0 (x5 : Int).toNat)).bind fun bt171 => (if bt171.2.isNone = true then ((impl_in.f bt171.1 (-1000000) 1000000).bind fun t174 => (if t174 = true then ((strconv_Itoa.f bt171.1).bind fun t175 => (if t175.toList = (x0.extract 0 (x5 : Int).toNat).toList then (some (1,x5)) else (some (0,0)))) else (some (0,0)))) else (some (0,0)))) else (none)) else (none)
def impl_termAt.l0 : Nat → ByteArray → Int → Option (Int × Int)
 | 0,_,_ => none
 | k + 1,x0,x5 => if x5 < (x0.size : Int) then (if 0 ≤ x5 then ((impl_isDigit.f (bt x0 x5)).bind fun t170 => (if t170 = true then (impl_termAt.l0 k x0 (wrap64 (x5 + 1))) else (impl_termAt.j2 k x0 x5))) else (none)) else (impl_termAt.j2 k x0 x5)
def impl_termAt.j3 : Nat → ByteArray → Bool → Option (Int × Int)
 | 0,_,_ => none
 | k + 1,x0,x66 => if x66 = true then ((impl_nameLong.f k x0).bind fun t176 => (if t176 > 20 then (some (0,0)) else (if t176 = (x0.size : Int) then (impl_termAt.j4 k x0 t176 true) else (if 0 ≤ t176 then (if t176 < (x0.size : Int) then (impl_termAt.j4 k x0 t176 ((bt x0 t176) != 40)) else (none)) else (none))))) else (some (0,0))
def impl_termAt.j4 : Nat → ByteArray → Int → Bool → Option (Int × Int)
 | 0,_,_,_ => none
 | k + 1,x0,x8,x88 => if x88 = true then (some (3,x8)) else (impl_termAt.l1 k x0 x8 true)
def impl_termAt.l1 : Nat → ByteArray → Int → Bool → Option (Int × Int)
 | 0,_,_,_ => none
 | k + 1,x0,x8,x9 => if x9 = true then (if 0 ≤ (wrap64 (x8 + 1)) then (if (wrap64 (x8 + 1)) ≤ (x0.size : Int) then ((impl_termAt.f k (x0.extract ((wrap64 (x8 + 1)) : Int).toNat x0.size)).bind fun bt177 => (if bt177.1 = 0 then (some (0,0)) else (if (wrap64 (x8 + (wrap64 (1 + bt177.2)))) < (x0.size : Int) then (if 0 ≤ (wrap64 (x8 + (wrap64 (1 + bt177.2)))) then (impl_termAt.l1 k x0 (wrap64 (x8 + (wrap64 (1 + bt177.2)))) ((bt x0 (wrap64 (x8 + (wrap64 (1 + bt177.2))))) == 44)) else (none)) else (impl_termAt.l1 k x0 (wrap64 (x8 + (wrap64 (1 + bt177.2)))) false)))) else (none)) else (none)) else (if x8 < (x0.size : Int) then (if 0 ≤ x8 then (if (bt x0 x8) = 41 then (some (3,wrap64 (x8 + 1))) else (some (0,0))) else (none)) else (some (0,0)))
def impl_termAt.f : Nat → ByteArray → Option (Int × Int)
 | 0,_ => none
 | k + 1,a0 => if a0.toList = ([] : List UInt8) then (some (0,0)) else (if 0 < (a0.size : Int) then (if (bt a0 0) = 34 then ((impl_symbolLong.f k a0).bind fun t168 => (if t168 > 0 then (some (2,t168)) else (some (0,0)))) else (if (bt a0 0) = 45 then (impl_termAt.j0 k a0 true) else ((impl_isDigit.f (bt a0 0)).bind fun t169 => (impl_termAt.j0 k a0 t169)))) else (none))
end
def impl_termAt.T12 : Bool × List (List Nat × List Nat) := (true,[([],[]),([0],[0]),([1],[1]),([2],[2]),([3,2,2],[2,3]),([2,4],[2,4]),([5,4],[5]),([6],[6]),([7,6,6],[6,7]),([6],[6]),([6],[6]),([9,10,6],[6,9,10]),([8,11,6],[6,8,11]),([6,12],[6,12])])
def impl_termAt.B12 : List Nat := [0,1,3,7,15,31,63,127,255,127,127,1663,4095,8191]
theorem impl_termAt.tab12 : rtab .any (opsOf Tryd.f101 12) = impl_termAt.T12 := by kernel_rfl
theorem impl_termAt.bits12 : waitsOk impl_termAt.T12.2 impl_termAt.B12 = true := by kernel_rfl
set_option maxHeartbeats 8000000 in
set_option maxRecDepth 100000 in
theorem impl_termAt.calls (k : Nat) : ∀ (a0 : ByteArray) (r1 : Int) (r2 : Int) (w : World) (hT : Tb w) (h : impl_termAt.f k a0 = some (r1,r2)),
  Calls Tryd.prog 101 #[.string a0] w fun e w' => e = .returned (.tuple #[.int .i64 r1,.int .i64 r2]) ∧ Below w.heap.size w w' := by
 induction k using Nat.strongRecOn with
 | _ k ih =>
 intro a0 r1 r2 w hT h
 cases k with
 | zero => exact absurd h (by simp [impl_termAt.f])
 | succ k =>
 simp only [impl_termAt.f] at h
 have hu96 := Tryd.underlying96
 have HT := y0.mk hT
 clear hT
 have HB := y0.mk (Below.refl w.heap.size w)
 have H : (if a0.toList = ([] : List UInt8) then (some (0,0)) else (if 0 < (a0.size : Int) then (if (bt a0 0) = 34 then ((impl_symbolLong.f k a0).bind fun t168 => (if t168 > 0 then (some (2,t168)) else (some (0,0)))) else (if (bt a0 0) = 45 then (impl_termAt.j0 k a0 true) else ((impl_isDigit.f (bt a0 0)).bind fun t169 => (impl_termAt.j0 k a0 t169)))) else (none))) = some (r1,r2) := h
 clear h
 by_cases c2 : a0.toList = ([] : List UInt8)
 ·rw [if_pos c2] at H
  have c2b0 : (a0.toList == ([] : List UInt8)) = true := beq_iff_eq.mpr c2
  have c2b1 : (a0.toList != ([] : List UInt8)) = false := bne_eq_false_iff_eq.mpr c2
  clear c2
  simp only [Option.some.injEq,Prod.mk.injEq] at H
  obtain ⟨rfl,rfl⟩ := H
  go_enter Tryd.func101,Tryd.ntmps101
  go_wp2
  go_ret2
  exact ⟨by first | rfl | (simp [y8,y9] <;> rfl) | (simp [*,y8,y9] <;> rfl),qb⟩
 ·rw [if_neg c2] at H
  have c2b0 : (a0.toList == ([] : List UInt8)) = false := beq_eq_false_iff_ne.mpr c2
  have c2b1 : (a0.toList != ([] : List UInt8)) = true := bne_iff_ne.mpr c2
  obtain ⟨c3,H⟩ := qo H
  have c3b0 : decide (0 < (a0.size : Int)) = true := decide_eq_true c3
  have c3b1 : decide (0 < a0.size) = true := decide_eq_true (by omega)
  clear c3
  by_cases c5 : (bt a0 0) = 34
  ·rw [if_pos c5] at H
   have c5b0 : ((bt a0 0) == 34) = true := beq_iff_eq.mpr c5
   have c5b1 : ((bt a0 0) != 34) = false := bne_eq_false_iff_eq.mpr c5
   clear c5
   obtain ⟨t168,A6,H⟩ := qB H
   by_cases c7 : t168 > 0
   ·rw [if_pos c7] at H
    have c7b0 : decide (0 < t168) = true := decide_eq_true c7
    clear c7
    simp only [Option.some.injEq,Prod.mk.injEq] at H
    obtain ⟨rfl,rfl⟩ := H
    have p4 : 0 ≤ (0 : Int) := (by omega)
    have q4 : 0 < a0.size := qy3
    have hx4 : ∀ h : 0 < a0.size,((a0[0]'h).toNat : Int) = bt a0 0 := bt_at a0 0
    clear p4
    have qi4 : (0 < (a0.size : Int)) = True := eq_true (of_decide_eq_true qy1)
    replace q4 := eq_true q4
    go_enter Tryd.func101,Tryd.ntmps101
    go_wp2_with (first | ((with_reducible refine y10 (f := 121) rfl ?_); refine y11 (some 19) rfl rfl Tryd.func121 (by kernel_rfl) rfl #[.string a0] rfl qy0 ?_; (with_reducible refine (impl_symbolLong.calls k a0 t168 _ A6.out).mono ?_); rintro e w' ⟨rfl,⟨nd,rfl⟩⟩; refine ⟨_,rfl, ?_⟩))
    go_ret2
    exact ⟨by first | rfl | (simp [y8,y9] <;> rfl) | (simp [*,y8,y9] <;> rfl),qb⟩
   ·rw [if_neg c7] at H
    have c7b0 : decide (0 < t168) = false := decide_eq_false c7
    clear c7
    simp only [Option.some.injEq,Prod.mk.injEq] at H
    obtain ⟨rfl,rfl⟩ := H
    have p4 : 0 ≤ (0 : Int) := (by omega)
    have q4 : 0 < a0.size := qy3
    have hx4 : ∀ h : 0 < a0.size,((a0[0]'h).toNat : Int) = bt a0 0 := bt_at a0 0
    clear p4
    have qi4 : (0 < (a0.size : Int)) = True := eq_true (of_decide_eq_true qy1)
    replace q4 := eq_true q4
    go_enter Tryd.func101,Tryd.ntmps101
    go_wp2_with (first | ((with_reducible refine y10 (f := 121) rfl ?_); refine y11 (some 19) rfl rfl Tryd.func121 (by kernel_rfl) rfl #[.string a0] rfl qy0 ?_; (with_reducible refine (impl_symbolLong.calls k a0 t168 _ A6.out).mono ?_); rintro e w' ⟨rfl,⟨nd,rfl⟩⟩; refine ⟨_,rfl, ?_⟩))
    go_ret2
    exact ⟨by first | rfl | (simp [y8,y9] <;> rfl) | (simp [*,y8,y9] <;> rfl),qb⟩
  ·rw [if_neg c5] at H
   have c5b0 : ((bt a0 0) == 34) = false := beq_eq_false_iff_ne.mpr c5
   have c5b1 : ((bt a0 0) != 34) = true := bne_iff_ne.mpr c5
   have HC8 := y0.mk H
   clear H
   have p4 : 0 ≤ (0 : Int) := (by omega)
   have q4 : 0 < a0.size := qy3
   have hx4 : ∀ h : 0 < a0.size,((a0[0]'h).toNat : Int) = bt a0 0 := bt_at a0 0
   clear p4
   have qi4 : (0 < (a0.size : Int)) = True := eq_true (of_decide_eq_true qy1)
   replace q4 := eq_true q4
   go_enter Tryd.func101,Tryd.ntmps101
   go_upto_region 7 with (fail)
   go_cut [23] (fun v23 wc => ∃ (kq : Nat) (x23_7 : Bool),v23 = .bool x23_7 ∧ y0 (impl_termAt.j0 kq a0 x23_7 = some (r1,r2)) ∧ y0 (kq ≤ k) ∧ y0 (Below w.heap.size w wc))
   case first =>
    have H := HC8.out
    clear HC8
    by_cases c10 : (bt a0 0) = 45
    ·rw [if_pos c10] at H
     have c10b0 : ((bt a0 0) == 45) = true := beq_iff_eq.mpr c10
     have c10b1 : ((bt a0 0) != 45) = false := bne_eq_false_iff_eq.mpr c10
     clear c10
     (first | rw [c10b0] | (simp only [y13,y12]; rw [c10b0]) | skip)
     have H' := y0.mk H
     clear H
     have p9 : 0 ≤ (0 : Int) := (by omega)
     have q9 : 0 < a0.size := qy3
     have hx9 : ∀ h : 0 < a0.size,((a0[0]'h).toNat : Int) = bt a0 0 := bt_at a0 0
     clear p9
     have qi9 : (0 < (a0.size : Int)) = True := eq_true (of_decide_eq_true qy1)
     replace q9 := eq_true q9
     go_wp2
     go_meet
     exact ⟨_,(true),qy2,H',⟨by first | omega | exact Nat.le_refl _⟩,⟨qb⟩⟩
    ·rw [if_neg c10] at H
     have c10b0 : ((bt a0 0) == 45) = false := beq_eq_false_iff_ne.mpr c10
     have c10b1 : ((bt a0 0) != 45) = true := bne_iff_ne.mpr c10
     (first | rw [c10b0] | (simp only [y13,y12]; rw [c10b0]) | skip)
     obtain ⟨t169,A12,H⟩ := qB H
     have H' := y0.mk H
     clear H
     have p9 : 0 ≤ (0 : Int) := (by omega)
     have q9 : 0 < a0.size := qy3
     have hx9 : ∀ h : 0 < a0.size,((a0[0]'h).toNat : Int) = bt a0 0 := bt_at a0 0
     clear p9
     have qi9 : (0 < (a0.size : Int)) = True := eq_true (of_decide_eq_true qy1)
     replace q9 := eq_true q9
     have p11 : 0 ≤ (0 : Int) := (by omega)
     have q11 : 0 < a0.size := qy3
     have hx11 : ∀ h : 0 < a0.size,((a0[0]'h).toNat : Int) = bt a0 0 := bt_at a0 0
     clear p11
     have qi11 : (0 < (a0.size : Int)) = True := eq_true (of_decide_eq_true qy1)
     replace q11 := eq_true q11
     go_wp2_with (first | (go_at_call 122; (with_reducible refine (impl_isDigit.calls (bt a0 0) t169 _ A12.out).mono ?_); rintro e w' ⟨rfl,⟨nd,rfl⟩⟩))
     go_meet
     exact ⟨_,(t169),qy2,H',⟨by first | omega | exact Nat.le_refl _⟩,⟨qb⟩⟩
   case rest =>
    clear HC8
    (try clear c2b0 c2b1 c3b0 c3b1 q4 hx4 qi4 c5b0 c5b1 q4)
    obtain ⟨kq,x23_7,rfl,HA,HJ7,HB⟩ := hcut
    cases kq with
    | zero => exact absurd HA.out (by simp [impl_termAt.j0])
    | succ kj7 =>
     have H := HA.out
     clear HA
     simp only [impl_termAt.j0] at H
     by_cases c13 : x23_7 = true
     ·subst c13
      replace H := qT H
      have HC14 := y0.mk H
      clear H
      go_upto_block 1 with (fail)
      go_cut [5] (fun v5 wc => ∃ (kq : Nat) (x5_13 : Int),v5 = .int .i64 x5_13 ∧ y0 (impl_termAt.j2 kq a0 x5_13 = some (r1,r2)) ∧ y0 (kq ≤ kj7) ∧ y0 (Below w.heap.size w wc))
      case first =>
       have H := HC14.out
       clear HC14
       have H' := y0.mk H
       clear H
       go_wp2
       go_loopg [5] kj7 (fun kq v5 w' => ∃ (x5_2 : Int),v5 = .int .i64 x5_2 ∧ y0 (impl_termAt.l0 kq a0 x5_2 = some (r1,r2)) ∧ y0 (kq ≤ kj7) ∧ y0 (Below w.heap.size w w'))
       case atStart => exact ⟨(1),qy2,H',⟨Nat.le_refl _⟩,⟨qb⟩⟩
       case round =>
        clear H'
        (try clear c13)
        obtain ⟨x5_2,rfl,HA,HK2,HB⟩ := hrel
        cases gk with
        | zero => exact absurd HA.out (by simp [impl_termAt.l0])
        | succ k2 =>
         have H := HA.out
         clear HA
         simp only [impl_termAt.l0] at H
         by_cases c15 : x5_2 < (a0.size : Int)
         ·rw [if_pos c15] at H
          have c15b0 := decide_eq_true c15
          clear c15
          (first | rw [c15b0] | (simp only [y13,y12]; rw [c15b0]) | skip)
          obtain ⟨c16,H⟩ := qo H
          have c16b0 : decide (0 ≤ x5_2) = true := decide_eq_true c16
          clear c16
          obtain ⟨t170,A18,H⟩ := qB H
          by_cases c19 : t170 = true
          ·subst c19
           replace H := qT H
           have H' := y0.mk H
           clear H
           have p17 : 0 ≤ (x5_2 : Int) := of_decide_eq_true qy1
           have q17 : x5_2 < (a0.size : Int) := of_decide_eq_true qy1
           have hx17 := bt_at a0 x5_2
           replace p17 := eq_true p17
           replace q17 := eq_true q17
           go_wp2_with (first | (go_at_call 122; (with_reducible refine (impl_isDigit.calls (bt a0 x5_2) true _ A18.out).mono ?_); rintro e w' ⟨rfl,⟨nd,rfl⟩⟩))
           go_roundg k2
           case measure => have := HJ7.out; have := HK2.out; omega
           exact ⟨(wrap64 (x5_2 + 1)),qy2,H',⟨by have := HJ7.out; have := HK2.out; omega⟩,⟨qb⟩⟩
          ·replace c19 := Bool.eq_false_iff.mpr c19
           subst c19
           replace H := qF H
           have H' := y0.mk H
           clear H
           have p17 : 0 ≤ (x5_2 : Int) := of_decide_eq_true qy1
           have q17 : x5_2 < (a0.size : Int) := of_decide_eq_true qy1
           have hx17 := bt_at a0 x5_2
           replace p17 := eq_true p17
           replace q17 := eq_true q17
           go_wp2_with (first | (go_at_call 122; (with_reducible refine (impl_isDigit.calls (bt a0 x5_2) false _ A18.out).mono ?_); rintro e w' ⟨rfl,⟨nd,rfl⟩⟩))
           go_meet
           exact ⟨_,(x5_2),qy2,H',⟨by have := HJ7.out; have := HK2.out; first | omega | exact Nat.le_refl _⟩,⟨qb⟩⟩
         ·rw [if_neg c15] at H
          have c15b0 := decide_eq_false c15
          clear c15
          (first | rw [c15b0] | (simp only [y13,y12]; rw [c15b0]) | skip)
          have H' := y0.mk H
          clear H
          go_wp2
          go_meet
          exact ⟨_,(x5_2),qy2,H',⟨by have := HJ7.out; have := HK2.out; first | omega | exact Nat.le_refl _⟩,⟨qb⟩⟩
      case rest =>
       clear HC14
       obtain ⟨kq,x5_13,rfl,HA,HJ13,HB⟩ := hcut
       cases kq with
       | zero => exact absurd HA.out (by simp [impl_termAt.j2])
       | succ kj13 =>
        have H := HA.out
        clear HA
        simp only [impl_termAt.j2] at H
        obtain ⟨c20,H⟩ := qo H
        have c20b0 := eq_true c20
        have c20b1 := decide_eq_true c20
        clear c20
        obtain ⟨c21,H⟩ := qo H
        have c21b0 := eq_true c21
        have c21b1 := decide_eq_true c21
        clear c21
        obtain ⟨⟨t171,t172⟩,A22,H⟩ := qB H
        replace H : (if t172.isNone = true then ((impl_in.f t171 (-1000000) 1000000).bind fun t174 => (if t174 = true then ((strconv_Itoa.f t171).bind fun t175 => (if t175.toList = (a0.extract 0 (x5_13 : Int).toNat).toList then (some (1,x5_13)) else (some (0,0)))) else (some (0,0)))) else (some (0,0))) = some (r1,r2) := H
        rcases t172 with _ | q173
        ·have H1 : ((impl_in.f t171 (-1000000) 1000000).bind fun t174 => (if t174 = true then ((strconv_Itoa.f t171).bind fun t175 => (if t175.toList = (a0.extract 0 (x5_13 : Int).toNat).toList then (some (1,x5_13)) else (some (0,0)))) else (some (0,0)))) = some (r1,r2) := by rw [if_pos (show (none : Option Int).isNone = true by rfl)] at H; exact H
         clear H
         have H := H1
         clear H1
         try simp only [y8,y9]
         obtain ⟨t174,A23,H⟩ := qB H
         by_cases c24 : t174 = true
         ·subst c24
          replace H := qT H
          obtain ⟨t175,A25,H⟩ := qB H
          have c26b0 := eq_true (of_decide_eq_true qy1 : 0 ≤ x5_13)
          have c27b0 := eq_true (of_decide_eq_true qy1 : x5_13 ≤ (a0.size : Int))
          by_cases c28 : t175.toList = (a0.extract 0 (x5_13 : Int).toNat).toList
          ·rw [if_pos c28] at H
           have c28b0 : (t175.toList == (a0.extract 0 (x5_13 : Int).toNat).toList) = true := beq_iff_eq.mpr c28
           have c28b1 : (t175.toList != (a0.extract 0 (x5_13 : Int).toNat).toList) = false := bne_eq_false_iff_eq.mpr c28
           clear c28
           simp only [Option.some.injEq,Prod.mk.injEq] at H
           obtain ⟨rfl,rfl⟩ := H
           try go_wp2_with (first | ((with_reducible refine y10 (f := 102) rfl ?_); refine y11 (some 48) rfl rfl Tryd.func102 (by kernel_rfl) rfl #[.string (a0.extract 0 (x5_13 : Int).toNat)] rfl qy0 ?_; (with_reducible refine (strconv_Atoi.calls (a0.extract 0 (x5_13 : Int).toNat) t171 none _ (by exact Tb.below HT.out qb) A22.out).mono ?_); rintro e w29 ⟨ev_,rfl,hev_,hb⟩; obtain rfl := errIs_none hev_; refine ⟨_,rfl, ?_⟩; replace HB := y0.mk (y5 qb hb); (try clear hb); (try clear hb2); (try clear hk); (try clear hi); (try simp only [y8,y9])))
           replace HB := y0.mk (y3 HB.out)
           refine start_ (n := 14) (S := fun w' => True) (ds := []) (fl_ 14 0) (by kernel_rfl) rfl rfl trivial (fun hHeld => ?_); refine with_tabW impl_termAt.tab12 impl_termAt.bits12 (fun HT_ HW_ => ?_)
           generalize w29.drew = w30 at HB hHeld ⊢
           refine qp 0 51 (fl_ 14 1) ?_
           refine qp 1 52 (fl_ 14 3) ?_
           refine qp 2 53 (fl_ 14 7) ?_
           refine qp 3 54 (fl_ 14 15) ?_
           refine one_ (i := 4) (N := some 55) (fl_ 14 31) rfl rfl (one_of HT_.out (by kernel_rfl)) (by decide) (fun K hK => ?_)
           refine goes_ Tryd.func67 (by kernel_rfl) rfl #[.int .i64 t171,.int .i64 (-1000000),.int .i64 1000000] (by rfl) rfl rfl qy0 ?_
           with_reducible refine (impl_in.calls t171 (-1000000) 1000000 true _ A23.out).mono ?_
           rintro e w' ⟨rfl,⟨nd,rfl⟩⟩
           refine ⟨_,rfl, ?_⟩
           refine hK.out _ _ trivial (fun hHeld => ?_)
           clear hK K
           refine norm_ (a' := ?_) ?_ ?_
           rotate_left
           ·show Act.put _ (some 55) _ = _
            simp only [Act.put,qS_,qZ_,qC_,y13,y12]
            rfl
           refine qp 5 56 (fl_ 14 63) ?_
           refine qp 6 57 (fl_ 14 127) ?_
           refine qp 7 58 (fl_ 14 255) ?_
           refine qp 9 60 (fl_ 14 767) ?_
           refine qp 10 61 (fl_ 14 1791) ?_
           refine qp 11 62 (fl_ 14 3839) ?_
           refine one_ (i := 8) (N := some 59) (fl_ 14 4095) rfl rfl (one_of HT_.out (by kernel_rfl)) (by decide) (fun K hK => ?_)
           refine goes_ Tryd.func65 (by kernel_rfl) rfl #[.int .i64 t171] (by rfl) rfl rfl qy0 ?_
           with_reducible refine (strconv_Itoa.calls t171 t175 _ (by exact Tb.below HT.out qb) A25.out).mono ?_
           rintro e w31 ⟨rfl,hb⟩
           refine ⟨_,rfl, ?_⟩
           replace HB := y0.mk (y5 qb hb)
           (try clear hb)
           (try clear hb2)
           (try clear hk)
           (try clear hi)
           refine hK.out _ _ trivial (fun hHeld => ?_)
           clear hK K
           refine norm_ (a' := ?_) ?_ ?_
           rotate_left
           ·show Act.put _ (some 59) _ = _
            simp only [Act.put,qS_,qZ_,qC_,y13,y12]
            rfl
           refine qp 12 63 (fl_ 14 8191) ?_
           refine qp 13 64 (fl_ 14 16383) ?_
           refine done_ (done_of HT_.out (by kernel_rfl)) ?_
           try go_wp2
           go_ret2
           exact ⟨by first | rfl | (simp [y8,y9] <;> rfl) | (simp [*,y8,y9] <;> rfl),qb⟩
          ·rw [if_neg c28] at H
           have c28b0 : (t175.toList == (a0.extract 0 (x5_13 : Int).toNat).toList) = false := beq_eq_false_iff_ne.mpr c28
           have c28b1 : (t175.toList != (a0.extract 0 (x5_13 : Int).toNat).toList) = true := bne_iff_ne.mpr c28
           simp only [Option.some.injEq,Prod.mk.injEq] at H
           obtain ⟨rfl,rfl⟩ := H
           try go_wp2_with (first | ((with_reducible refine y10 (f := 102) rfl ?_); refine y11 (some 48) rfl rfl Tryd.func102 (by kernel_rfl) rfl #[.string (a0.extract 0 (x5_13 : Int).toNat)] rfl qy0 ?_; (with_reducible refine (strconv_Atoi.calls (a0.extract 0 (x5_13 : Int).toNat) t171 none _ (by exact Tb.below HT.out qb) A22.out).mono ?_); rintro e w32 ⟨ev_,rfl,hev_,hb⟩; obtain rfl := errIs_none hev_; refine ⟨_,rfl, ?_⟩; replace HB := y0.mk (y5 qb hb); (try clear hb); (try clear hb2); (try clear hk); (try clear hi); (try simp only [y8,y9])))
           replace HB := y0.mk (y3 HB.out)
           refine start_ (n := 14) (S := fun w' => True) (ds := []) (fl_ 14 0) (by kernel_rfl) rfl rfl trivial (fun hHeld => ?_); refine with_tabW impl_termAt.tab12 impl_termAt.bits12 (fun HT_ HW_ => ?_)
           generalize w32.drew = w33 at HB hHeld ⊢
           refine qp 0 51 (fl_ 14 1) ?_
           refine qp 1 52 (fl_ 14 3) ?_
           refine qp 2 53 (fl_ 14 7) ?_
           refine qp 3 54 (fl_ 14 15) ?_
           refine one_ (i := 4) (N := some 55) (fl_ 14 31) rfl rfl (one_of HT_.out (by kernel_rfl)) (by decide) (fun K hK => ?_)
           refine goes_ Tryd.func67 (by kernel_rfl) rfl #[.int .i64 t171,.int .i64 (-1000000),.int .i64 1000000] (by rfl) rfl rfl qy0 ?_
           with_reducible refine (impl_in.calls t171 (-1000000) 1000000 true _ A23.out).mono ?_
           rintro e w' ⟨rfl,⟨nd,rfl⟩⟩
           refine ⟨_,rfl, ?_⟩
           refine hK.out _ _ trivial (fun hHeld => ?_)
           clear hK K
           refine norm_ (a' := ?_) ?_ ?_
           rotate_left
           ·show Act.put _ (some 55) _ = _
            simp only [Act.put,qS_,qZ_,qC_,y13,y12]
            rfl
           refine qp 5 56 (fl_ 14 63) ?_
           refine qp 6 57 (fl_ 14 127) ?_
           refine qp 7 58 (fl_ 14 255) ?_
           refine qp 9 60 (fl_ 14 767) ?_
           refine qp 10 61 (fl_ 14 1791) ?_
           refine qp 11 62 (fl_ 14 3839) ?_
           refine one_ (i := 8) (N := some 59) (fl_ 14 4095) rfl rfl (one_of HT_.out (by kernel_rfl)) (by decide) (fun K hK => ?_)
           refine goes_ Tryd.func65 (by kernel_rfl) rfl #[.int .i64 t171] (by rfl) rfl rfl qy0 ?_
           with_reducible refine (strconv_Itoa.calls t171 t175 _ (by exact Tb.below HT.out qb) A25.out).mono ?_
           rintro e w34 ⟨rfl,hb⟩
           refine ⟨_,rfl, ?_⟩
           replace HB := y0.mk (y5 qb hb)
           (try clear hb)
           (try clear hb2)
           (try clear hk)
           (try clear hi)
           refine hK.out _ _ trivial (fun hHeld => ?_)
           clear hK K
           refine norm_ (a' := ?_) ?_ ?_
           rotate_left
           ·show Act.put _ (some 59) _ = _
            simp only [Act.put,qS_,qZ_,qC_,y13,y12]
            rfl
           refine qp 12 63 (fl_ 14 8191) ?_
           refine qp 13 64 (fl_ 14 16383) ?_
           refine done_ (done_of HT_.out (by kernel_rfl)) ?_
           try go_wp2
           go_ret2
           exact ⟨by first | rfl | (simp [y8,y9] <;> rfl) | (simp [*,y8,y9] <;> rfl),qb⟩
         ·replace c24 := Bool.eq_false_iff.mpr c24
          subst c24
          replace H := qF H
          simp only [Option.some.injEq,Prod.mk.injEq] at H
          obtain ⟨rfl,rfl⟩ := H
          try go_wp2_with (first | ((with_reducible refine y10 (f := 102) rfl ?_); refine y11 (some 48) rfl rfl Tryd.func102 (by kernel_rfl) rfl #[.string (a0.extract 0 (x5_13 : Int).toNat)] rfl qy0 ?_; (with_reducible refine (strconv_Atoi.calls (a0.extract 0 (x5_13 : Int).toNat) t171 none _ (by exact Tb.below HT.out qb) A22.out).mono ?_); rintro e w35 ⟨ev_,rfl,hev_,hb⟩; obtain rfl := errIs_none hev_; refine ⟨_,rfl, ?_⟩; replace HB := y0.mk (y5 qb hb); (try clear hb); (try clear hb2); (try clear hk); (try clear hi); (try simp only [y8,y9])))
          replace HB := y0.mk (y3 HB.out)
          refine start_ (n := 14) (S := fun w' => True) (ds := []) (fl_ 14 0) (by kernel_rfl) rfl rfl trivial (fun hHeld => ?_); refine with_tabW impl_termAt.tab12 impl_termAt.bits12 (fun HT_ HW_ => ?_)
          generalize w35.drew = w36 at HB hHeld ⊢
          refine qp 0 51 (fl_ 14 1) ?_
          refine qp 1 52 (fl_ 14 3) ?_
          refine qp 2 53 (fl_ 14 7) ?_
          refine qp 3 54 (fl_ 14 15) ?_
          refine one_ (i := 4) (N := some 55) (fl_ 14 31) rfl rfl (one_of HT_.out (by kernel_rfl)) (by decide) (fun K hK => ?_)
          refine goes_ Tryd.func67 (by kernel_rfl) rfl #[.int .i64 t171,.int .i64 (-1000000),.int .i64 1000000] (by rfl) rfl rfl qy0 ?_
          with_reducible refine (impl_in.calls t171 (-1000000) 1000000 false _ A23.out).mono ?_
          rintro e w' ⟨rfl,⟨nd,rfl⟩⟩
          refine ⟨_,rfl, ?_⟩
          refine hK.out _ _ trivial (fun hHeld => ?_)
          clear hK K
          refine norm_ (a' := ?_) ?_ ?_
          rotate_left
          ·show Act.put _ (some 55) _ = _
           simp only [Act.put,qS_,qZ_,qC_,y13,y12]
           rfl
          refine qp 5 56 (fl_ 14 63) ?_
          refine qp 6 57 (fl_ 14 127) ?_
          refine pure_ (i := 7) (N := some 58) (v := undef) (a' := ?_) (fl_ 14 255) rfl rfl (y2 HT_.out (by kernel_rfl)) (fun _ _ _ h => h) (Or.inr ⟨by rfl,rfl⟩) ?_ ?_
          rotate_left
          ·simp only [Act.put,qS_,qZ_,qC_,y13,y12]
           rfl
          refine pure_ (i := 8) (N := some 59) (v := undef) (a' := ?_) (fl_ 14 511) rfl rfl (y2 HT_.out (by kernel_rfl)) (fun _ _ _ h => h) (Or.inr ⟨by rfl,rfl⟩) ?_ ?_
          rotate_left
          ·simp only [Act.put,qS_,qZ_,qC_,y13,y12]
           rfl
          refine pure_ (i := 9) (N := some 60) (v := undef) (a' := ?_) (fl_ 14 1023) rfl rfl (y2 HT_.out (by kernel_rfl)) (fun _ _ _ h => h) (Or.inr ⟨by rfl,rfl⟩) ?_ ?_
          rotate_left
          ·simp only [Act.put,qS_,qZ_,qC_,y13,y12]
           rfl
          refine pure_ (i := 10) (N := some 61) (v := undef) (a' := ?_) (fl_ 14 2047) rfl rfl (y2 HT_.out (by kernel_rfl)) (fun _ _ _ h => h) (Or.inr ⟨by rfl,rfl⟩) ?_ ?_
          rotate_left
          ·simp only [Act.put,qS_,qZ_,qC_,y13,y12]
           rfl
          refine pure_ (i := 11) (N := some 62) (v := undef) (a' := ?_) (fl_ 14 4095) rfl rfl (y2 HT_.out (by kernel_rfl)) (fun _ _ _ h => h) (Or.inr ⟨by rfl,rfl⟩) ?_ ?_
          rotate_left
          ·simp only [Act.put,qS_,qZ_,qC_,y13,y12]
           rfl
          refine pure_ (i := 12) (N := some 63) (v := undef) (a' := ?_) (fl_ 14 8191) rfl rfl (y2 HT_.out (by kernel_rfl)) (fun _ _ _ h => h) (Or.inr ⟨by rfl,rfl⟩) ?_ ?_
          rotate_left
          ·simp only [Act.put,qS_,qZ_,qC_,y13,y12]
           rfl
          refine qp 13 64 (fl_ 14 16383) ?_
          refine done_ (done_of HT_.out (by kernel_rfl)) ?_
          try go_wp2
          go_ret2
          exact ⟨by first | rfl | (simp [y8,y9] <;> rfl) | (simp [*,y8,y9] <;> rfl),qb⟩
        ·have H1 : (some (0,0)) = some (r1,r2) := by rw [if_neg (show ¬ (some q173).isNone = true by simp)] at H; exact H
         clear H
         have H := H1
         clear H1
         try simp only [y8,y9]
         simp only [Option.some.injEq,Prod.mk.injEq] at H
         obtain ⟨rfl,rfl⟩ := H
         try go_wp2_with (first | ((with_reducible refine y10 (f := 102) rfl ?_); refine y11 (some 48) rfl rfl Tryd.func102 (by kernel_rfl) rfl #[.string (a0.extract 0 (x5_13 : Int).toNat)] rfl qy0 ?_; (with_reducible refine (strconv_Atoi.calls (a0.extract 0 (x5_13 : Int).toNat) t171 (some q173) _ (by exact Tb.below HT.out qb) A22.out).mono ?_); rintro e w37 ⟨ev_,rfl,hev_,hb⟩; obtain ⟨te_,pe_,rfl⟩ := errIs_some hev_; refine ⟨_,rfl, ?_⟩; replace HB := y0.mk (y5 qb hb); (try clear hb); (try clear hb2); (try clear hk); (try clear hi); (try simp only [y8,y9])))
         replace HB := y0.mk (y3 HB.out)
         refine start_ (n := 14) (S := fun w' => True) (ds := []) (fl_ 14 0) (by kernel_rfl) rfl rfl trivial (fun hHeld => ?_); refine with_tabW impl_termAt.tab12 impl_termAt.bits12 (fun HT_ HW_ => ?_)
         generalize w37.drew = w38 at HB hHeld ⊢
         refine qp 0 51 (fl_ 14 1) ?_
         refine qp 1 52 (fl_ 14 3) ?_
         refine qp 2 53 (fl_ 14 7) ?_
         refine pure_ (i := 3) (N := some 54) (v := undef) (a' := ?_) (fl_ 14 15) rfl rfl (y2 HT_.out (by kernel_rfl)) (fun _ _ _ h => h) (Or.inr ⟨by rfl,rfl⟩) ?_ ?_
         rotate_left
         ·simp only [Act.put,qS_,qZ_,qC_,y13,y12]
          rfl
         refine pure_ (i := 4) (N := some 55) (v := undef) (a' := ?_) (fl_ 14 31) rfl rfl (y2 HT_.out (by kernel_rfl)) (fun _ _ _ h => h) (Or.inr ⟨by rfl,rfl⟩) ?_ ?_
         rotate_left
         ·simp only [Act.put,qS_,qZ_,qC_,y13,y12]
          rfl
         refine qp 5 56 (fl_ 14 63) ?_
         refine qp 6 57 (fl_ 14 127) ?_
         refine pure_ (i := 7) (N := some 58) (v := undef) (a' := ?_) (fl_ 14 255) rfl rfl (y2 HT_.out (by kernel_rfl)) (fun _ _ _ h => h) (Or.inr ⟨by rfl,rfl⟩) ?_ ?_
         rotate_left
         ·simp only [Act.put,qS_,qZ_,qC_,y13,y12]
          rfl
         refine pure_ (i := 8) (N := some 59) (v := undef) (a' := ?_) (fl_ 14 511) rfl rfl (y2 HT_.out (by kernel_rfl)) (fun _ _ _ h => h) (Or.inr ⟨by rfl,rfl⟩) ?_ ?_
         rotate_left
         ·simp only [Act.put,qS_,qZ_,qC_,y13,y12]
          rfl
         refine pure_ (i := 9) (N := some 60) (v := undef) (a' := ?_) (fl_ 14 1023) rfl rfl (y2 HT_.out (by kernel_rfl)) (fun _ _ _ h => h) (Or.inr ⟨by rfl,rfl⟩) ?_ ?_
         rotate_left
         ·simp only [Act.put,qS_,qZ_,qC_,y13,y12]
          rfl
         refine pure_ (i := 10) (N := some 61) (v := undef) (a' := ?_) (fl_ 14 2047) rfl rfl (y2 HT_.out (by kernel_rfl)) (fun _ _ _ h => h) (Or.inr ⟨by rfl,rfl⟩) ?_ ?_
         rotate_left
         ·simp only [Act.put,qS_,qZ_,qC_,y13,y12]
          rfl
         refine pure_ (i := 11) (N := some 62) (v := undef) (a' := ?_) (fl_ 14 4095) rfl rfl (y2 HT_.out (by kernel_rfl)) (fun _ _ _ h => h) (Or.inr ⟨by rfl,rfl⟩) ?_ ?_
         rotate_left
         ·simp only [Act.put,qS_,qZ_,qC_,y13,y12]
          rfl
         refine pure_ (i := 12) (N := some 63) (v := undef) (a' := ?_) (fl_ 14 8191) rfl rfl (y2 HT_.out (by kernel_rfl)) (fun _ _ _ h => h) (Or.inr ⟨by rfl,rfl⟩) ?_ ?_
         rotate_left
         ·simp only [Act.put,qS_,qZ_,qC_,y13,y12]
          rfl
         refine qp 13 64 (fl_ 14 16383) ?_
         refine done_ (done_of HT_.out (by kernel_rfl)) ?_
         try go_wp2
         go_ret2
         exact ⟨by first | rfl | (simp [y8,y9] <;> rfl) | (simp [*,y8,y9] <;> rfl),qb⟩
     ·replace c13 := Bool.eq_false_iff.mpr c13
      subst c13
      replace H := qF H
      have HC39 := y0.mk H
      clear H
      go_upto_region 14 with (fail)
      go_cut [66] (fun v66 wc => ∃ (kq : Nat) (x66_38 : Bool),v66 = .bool x66_38 ∧ y0 (impl_termAt.j3 kq a0 x66_38 = some (r1,r2)) ∧ y0 (kq ≤ kj7) ∧ y0 (Below w.heap.size w wc))
      case first =>
       have H := HC39.out
       clear HC39
       obtain ⟨c40,H⟩ := qo H
       have c40b0 : decide (0 < (a0.size : Int)) = true := decide_eq_true c40
       have c40b1 : decide (0 < a0.size) = true := decide_eq_true (by omega)
       clear c40
       (first | rw [c40b0] | (simp only [y13,y12]; rw [c40b0]) | skip)
       by_cases c42 : (bt a0 0) ≥ 65
       ·rw [if_pos c42] at H
        have c42b0 : decide (65 ≤ (bt a0 0)) = true := decide_eq_true c42
        clear c42
        have H' := y0.mk H
        clear H
        have p41 : 0 ≤ (0 : Int) := (by omega)
        have q41 : 0 < a0.size := qy3
        have hx41 : ∀ h : 0 < a0.size,((a0[0]'h).toNat : Int) = bt a0 0 := bt_at a0 0
        clear p41
        have qi41 : (0 < (a0.size : Int)) = True := eq_true (of_decide_eq_true qy1)
        replace q41 := eq_true q41
        have p43 : 0 ≤ (0 : Int) := (by omega)
        have q43 : 0 < a0.size := qy3
        have hx43 : ∀ h : 0 < a0.size,((a0[0]'h).toNat : Int) = bt a0 0 := bt_at a0 0
        clear p43
        have qi43 : (0 < (a0.size : Int)) = True := eq_true (of_decide_eq_true qy1)
        replace q43 := eq_true q43
        go_wp2
        go_meet
        exact ⟨_,(decide ((bt a0 0) ≤ 90)),qy2,H',⟨by have := HJ7.out; first | omega | exact Nat.le_refl _⟩,⟨qb⟩⟩
       ·rw [if_neg c42] at H
        have c42b0 : decide (65 ≤ (bt a0 0)) = false := decide_eq_false c42
        clear c42
        have H' := y0.mk H
        clear H
        have p41 : 0 ≤ (0 : Int) := (by omega)
        have q41 : 0 < a0.size := qy3
        have hx41 : ∀ h : 0 < a0.size,((a0[0]'h).toNat : Int) = bt a0 0 := bt_at a0 0
        clear p41
        have qi41 : (0 < (a0.size : Int)) = True := eq_true (of_decide_eq_true qy1)
        replace q41 := eq_true q41
        go_wp2
        go_meet
        exact ⟨_,(false),qy2,H',⟨by have := HJ7.out; first | omega | exact Nat.le_refl _⟩,⟨qb⟩⟩
      case rest =>
       clear HC39
       (try clear c13)
       obtain ⟨kq,x66_38,rfl,HA,HJ38,HB⟩ := hcut
       cases kq with
       | zero => exact absurd HA.out (by simp [impl_termAt.j3])
       | succ kj38 =>
        have H := HA.out
        clear HA
        simp only [impl_termAt.j3] at H
        by_cases c44 : x66_38 = true
        ·subst c44
         replace H := qT H
         obtain ⟨t176,A45,H⟩ := qB H
         by_cases c46 : t176 > 20
         ·rw [if_pos c46] at H
          have c46b0 : decide (20 < t176) = true := decide_eq_true c46
          clear c46
          simp only [Option.some.injEq,Prod.mk.injEq] at H
          obtain ⟨rfl,rfl⟩ := H
          go_wp2_with (first | ((with_reducible refine y10 (f := 106) rfl ?_); refine y11 (some 76) rfl rfl Tryd.func106 (by kernel_rfl) rfl #[.string a0] rfl qy0 ?_; (with_reducible refine (impl_nameLong.calls kj38 a0 t176 _ A45.out).mono ?_); rintro e w' ⟨rfl,⟨nd,rfl⟩⟩; refine ⟨_,rfl, ?_⟩))
          go_ret2
          exact ⟨by first | rfl | (simp [y8,y9] <;> rfl) | (simp [*,y8,y9] <;> rfl),qb⟩
         ·rw [if_neg c46] at H
          have c46b0 : decide (20 < t176) = false := decide_eq_false c46
          clear c46
          have HC47 := y0.mk H
          clear H
          go_upto_region 18 with (first | ((with_reducible refine y10 (f := 106) rfl ?_); refine y11 (some 76) rfl rfl Tryd.func106 (by kernel_rfl) rfl #[.string a0] rfl qy0 ?_; (with_reducible refine (impl_nameLong.calls kj38 a0 t176 _ A45.out).mono ?_); rintro e w' ⟨rfl,⟨nd,rfl⟩⟩; refine ⟨_,rfl, ?_⟩))
          (try simp only [Act.put,qS_,qZ_,qC_])
          go_cut [88] (fun v88 wc => ∃ (kq : Nat) (x88_46 : Bool),v88 = .bool x88_46 ∧ y0 (impl_termAt.j4 kq a0 t176 x88_46 = some (r1,r2)) ∧ y0 (kq ≤ kj38) ∧ y0 (Below w.heap.size w wc))
          case first =>
           have H := HC47.out
           clear HC47
           by_cases c48 : t176 = (a0.size : Int)
           ·rw [if_pos c48] at H
            have c48b0 : (t176 == (a0.size : Int)) = true := beq_iff_eq.mpr c48
            have c48b1 : (t176 != (a0.size : Int)) = false := bne_eq_false_iff_eq.mpr c48
            clear c48
            (first | rw [c48b0] | (simp only [y13,y12]; rw [c48b0]) | skip)
            have H' := y0.mk H
            clear H
            go_wp2
            go_meet
            exact ⟨_,(true),qy2,H',⟨by have := HJ7.out; have := HJ38.out; first | omega | exact Nat.le_refl _⟩,⟨qb⟩⟩
           ·rw [if_neg c48] at H
            have c48b0 : (t176 == (a0.size : Int)) = false := beq_eq_false_iff_ne.mpr c48
            have c48b1 : (t176 != (a0.size : Int)) = true := bne_iff_ne.mpr c48
            (first | rw [c48b0] | (simp only [y13,y12]; rw [c48b0]) | skip)
            obtain ⟨c49,H⟩ := qo H
            have c49b0 : decide (0 ≤ t176) = true := decide_eq_true c49
            clear c49
            obtain ⟨c50,H⟩ := qo H
            have c50b0 : decide (t176 < (a0.size : Int)) = true := decide_eq_true c50
            clear c50
            have H' := y0.mk H
            clear H
            have p51 : 0 ≤ (t176 : Int) := of_decide_eq_true qy1
            have q51 : t176 < (a0.size : Int) := of_decide_eq_true qy1
            have hx51 := bt_at a0 t176
            replace p51 := eq_true p51
            replace q51 := eq_true q51
            go_wp2
            go_meet
            exact ⟨_,(((bt a0 t176) != 40)),qy2,H',⟨by have := HJ7.out; have := HJ38.out; first | omega | exact Nat.le_refl _⟩,⟨qb⟩⟩
          case rest =>
           clear HC47
           (try clear c44 c46b0)
           obtain ⟨kq,x88_46,rfl,HA,HJ46,HB⟩ := hcut
           cases kq with
           | zero => exact absurd HA.out (by simp [impl_termAt.j4])
           | succ kj46 =>
            have H := HA.out
            clear HA
            simp only [impl_termAt.j4] at H
            by_cases c52 : x88_46 = true
            ·subst c52
             replace H := qT H
             simp only [Option.some.injEq,Prod.mk.injEq] at H
             obtain ⟨rfl,rfl⟩ := H
             go_wp2
             go_ret2
             exact ⟨by first | rfl | (simp [y8,y9] <;> rfl) | (simp [*,y8,y9] <;> rfl),qb⟩
            ·replace c52 := Bool.eq_false_iff.mpr c52
             subst c52
             replace H := qF H
             have H' := y0.mk H
             clear H
             go_wp2
             go_loopg [8,9] kj46 (fun kq v8 v9 w' => ∃ (x8_4 : Int) (x9_4 : Bool),v8 = .int .i64 x8_4 ∧ v9 = .bool x9_4 ∧ y0 (impl_termAt.l1 kq a0 x8_4 x9_4 = some (r1,r2)) ∧ y0 (kq ≤ kj46) ∧ y0 (Below w.heap.size w w'))
             case atStart => exact ⟨(t176),(true),qy2,qy2,H',⟨Nat.le_refl _⟩,⟨qb⟩⟩
             case round =>
              clear H'
              (try clear c52)
              obtain ⟨x8_4,x9_4,rfl,rfl,HA,HK4,HB⟩ := hrel
              cases gk with
              | zero => exact absurd HA.out (by simp [impl_termAt.l1])
              | succ k4 =>
               have H := HA.out
               clear HA
               simp only [impl_termAt.l1] at H
               by_cases c53 : x9_4 = true
               ·subst c53
                replace H := qT H
                obtain ⟨ji54,hji54⟩ : ∃ j_ : Int,(wrap64 (x8_4 + 1)) = j_ := ⟨_,rfl⟩
                replace H : (if 0 ≤ (ji54) then (if (ji54) ≤ (a0.size : Int) then ((impl_termAt.f k4 (a0.extract ((ji54) : Int).toNat a0.size)).bind fun bt177 => (if bt177.1 = 0 then (some (0,0)) else (if (wrap64 (x8_4 + (wrap64 (1 + bt177.2)))) < (a0.size : Int) then (if 0 ≤ (wrap64 (x8_4 + (wrap64 (1 + bt177.2)))) then (impl_termAt.l1 k4 a0 (wrap64 (x8_4 + (wrap64 (1 + bt177.2)))) ((bt a0 (wrap64 (x8_4 + (wrap64 (1 + bt177.2))))) == 44)) else (none)) else (impl_termAt.l1 k4 a0 (wrap64 (x8_4 + (wrap64 (1 + bt177.2)))) false)))) else (none)) else (none)) = some (r1,r2) := by first | (rw [hji54] at H; exact H) | (simp only [hji54] at H ⊢; exact H)
                have hji54w : (IntKind.i64.wrap (x8_4 + 1)) = ji54 := (y13 _).trans hji54
                obtain ⟨c55,H⟩ := qo H
                have c55b0 := eq_true c55
                have c55b1 := decide_eq_true c55
                clear c55
                obtain ⟨c56,H⟩ := qo H
                have c56b0 := eq_true c56
                have c56b1 := decide_eq_true c56
                clear c56
                obtain ⟨⟨t177,t178⟩,A57,H⟩ := qB H
                replace H : (if t177 = 0 then (some (0,0)) else (if (wrap64 (x8_4 + (wrap64 (1 + t178)))) < (a0.size : Int) then (if 0 ≤ (wrap64 (x8_4 + (wrap64 (1 + t178)))) then (impl_termAt.l1 k4 a0 (wrap64 (x8_4 + (wrap64 (1 + t178)))) ((bt a0 (wrap64 (x8_4 + (wrap64 (1 + t178))))) == 44)) else (none)) else (impl_termAt.l1 k4 a0 (wrap64 (x8_4 + (wrap64 (1 + t178)))) false))) = some (r1,r2) := H
                by_cases c58 : t177 = 0
                ·rw [if_pos c58] at H
                 have c58b0 : (t177 == 0) = true := beq_iff_eq.mpr c58
                 have c58b1 : (t177 != 0) = false := bne_eq_false_iff_eq.mpr c58
                 clear c58
                 simp only [Option.some.injEq,Prod.mk.injEq] at H
                 obtain ⟨rfl,rfl⟩ := H
                 go_wp2_with (first | ((with_reducible refine y10 (f := 101) rfl ?_); refine y11 (some 106) rfl rfl Tryd.func101 (by kernel_rfl) rfl #[.string (a0.extract ((ji54) : Int).toNat a0.size)] rfl (by (try simp only [qM_,List.map_cons,List.map_nil]); first | done | (simp only [hji54]; rfl) | rfl | (simp only [qD_,qT_]; rfl)) ?_; (with_reducible refine (ih k4 (by have := HJ7.out; have := HJ38.out; have := HJ46.out; have := HK4.out; omega) (a0.extract ((ji54) : Int).toNat a0.size) t177 t178 _ (by exact Tb.below HT.out qb) A57.out).mono ?_); rintro e w59 ⟨rfl,hb⟩; refine ⟨_,rfl, ?_⟩; replace HB := y0.mk (y5 qb hb); (try clear hb); (try clear hb2); (try clear hk); (try clear hi)))
                 go_ret2
                 exact ⟨by first | rfl | (simp [y8,y9] <;> rfl) | (simp only [← hji54]; first | rfl | (simp [y8,y9] <;> rfl)) | (simp [*,y8,y9] <;> rfl),qb⟩
                ·rw [if_neg c58] at H
                 have c58b0 : (t177 == 0) = false := beq_eq_false_iff_ne.mpr c58
                 have c58b1 : (t177 != 0) = true := bne_iff_ne.mpr c58
                 by_cases c60 : (wrap64 (x8_4 + (wrap64 (1 + t178)))) < (a0.size : Int)
                 ·rw [if_pos c60] at H
                  have c60b0 := decide_eq_true c60
                  clear c60
                  obtain ⟨ji61,hji61⟩ : ∃ j_ : Int,(wrap64 (x8_4 + (wrap64 (1 + t178)))) = j_ := ⟨_,rfl⟩
                  replace H : (if 0 ≤ (ji61) then (impl_termAt.l1 k4 a0 ji61 ((bt a0 (ji61)) == 44)) else (none)) = some (r1,r2) := by first | (rw [hji61] at H; exact H) | (simp only [hji61] at H ⊢; exact H)
                  (try rw [hji61] at c60b0)
                  (try rw [hji61] at A57)
                  have hji61w : (IntKind.i64.wrap (x8_4 + (wrap64 (1 + t178)))) = ji61 := (y13 _).trans hji61
                  obtain ⟨c62,H⟩ := qo H
                  have c62b0 : decide (0 ≤ (ji61)) = true := decide_eq_true c62
                  clear c62
                  have H' := y0.mk H
                  clear H
                  go_wp2_with (first | ((with_reducible refine y10 (f := 101) rfl ?_); refine y11 (some 106) rfl rfl Tryd.func101 (by kernel_rfl) rfl #[.string (a0.extract ((ji54) : Int).toNat a0.size)] rfl (by (try simp only [qM_,List.map_cons,List.map_nil]); first | done | (simp only [hji54]; rfl) | rfl | (simp only [qD_,qT_]; rfl)) ?_; (with_reducible refine (ih k4 (by have := HJ7.out; have := HJ38.out; have := HJ46.out; have := HK4.out; omega) (a0.extract ((ji54) : Int).toNat a0.size) t177 t178 _ (by exact Tb.below HT.out qb) A57.out).mono ?_); rintro e w64 ⟨rfl,hb⟩; refine ⟨_,rfl, ?_⟩; replace HB := y0.mk (y5 qb hb); (try clear hb); (try clear hb2); (try clear hk); (try clear hi); have p63 : 0 ≤ ((ji61) : Int) := of_decide_eq_true qy1; have q63 : (ji61) < (a0.size : Int) := of_decide_eq_true qy1; have hx63 := bt_at a0 (ji61); replace p63 := eq_true p63; replace q63 := eq_true q63))
                  go_roundg k4
                  case measure => have := HJ7.out; have := HJ38.out; have := HJ46.out; have := HK4.out; omega
                  exact ⟨(ji61),(((bt a0 (ji61)) == 44)),(by first | rfl | (simp; done) | (simp only [← hji61] <;> (first | rfl | simp)) | (simp [*]; done)),(by first | rfl | (simp; done) | (simp only [← hji61] <;> (first | rfl | simp)) | (simp [*]; done)),H',⟨by have := HJ7.out; have := HJ38.out; have := HJ46.out; have := HK4.out; omega⟩,⟨qb⟩⟩
                 ·rw [if_neg c60] at H
                  have c60b0 := decide_eq_false c60
                  clear c60
                  have H' := y0.mk H
                  clear H
                  go_wp2_with (first | ((with_reducible refine y10 (f := 101) rfl ?_); refine y11 (some 106) rfl rfl Tryd.func101 (by kernel_rfl) rfl #[.string (a0.extract ((ji54) : Int).toNat a0.size)] rfl (by (try simp only [qM_,List.map_cons,List.map_nil]); first | done | (simp only [hji54]; rfl) | rfl | (simp only [qD_,qT_]; rfl)) ?_; (with_reducible refine (ih k4 (by have := HJ7.out; have := HJ38.out; have := HJ46.out; have := HK4.out; omega) (a0.extract ((ji54) : Int).toNat a0.size) t177 t178 _ (by exact Tb.below HT.out qb) A57.out).mono ?_); rintro e w65 ⟨rfl,hb⟩; refine ⟨_,rfl, ?_⟩; replace HB := y0.mk (y5 qb hb); (try clear hb); (try clear hb2); (try clear hk); (try clear hi)))
                  go_roundg k4
                  case measure => have := HJ7.out; have := HJ38.out; have := HJ46.out; have := HK4.out; omega
                  exact ⟨(wrap64 (x8_4 + (wrap64 (1 + t178)))),(false),qy2,qy2,H',⟨by have := HJ7.out; have := HJ38.out; have := HJ46.out; have := HK4.out; omega⟩,⟨qb⟩⟩
               ·replace c53 := Bool.eq_false_iff.mpr c53
                subst c53
                replace H := qF H
                by_cases c66 : x8_4 < (a0.size : Int)
                ·rw [if_pos c66] at H
                 have c66b0 := decide_eq_true c66
                 clear c66
                 obtain ⟨c67,H⟩ := qo H
                 have c67b0 : decide (0 ≤ x8_4) = true := decide_eq_true c67
                 clear c67
                 by_cases c69 : (bt a0 x8_4) = 41
                 ·rw [if_pos c69] at H
                  have c69b0 : ((bt a0 x8_4) == 41) = true := beq_iff_eq.mpr c69
                  have c69b1 : ((bt a0 x8_4) != 41) = false := bne_eq_false_iff_eq.mpr c69
                  clear c69
                  simp only [Option.some.injEq,Prod.mk.injEq] at H
                  obtain ⟨rfl,rfl⟩ := H
                  have p68 : 0 ≤ (x8_4 : Int) := of_decide_eq_true qy1
                  have q68 : x8_4 < (a0.size : Int) := of_decide_eq_true qy1
                  have hx68 := bt_at a0 x8_4
                  replace p68 := eq_true p68
                  replace q68 := eq_true q68
                  go_wp2
                  go_ret2
                  exact ⟨by first | rfl | (simp [y8,y9] <;> rfl) | (simp [*,y8,y9] <;> rfl),qb⟩
                 ·rw [if_neg c69] at H
                  have c69b0 : ((bt a0 x8_4) == 41) = false := beq_eq_false_iff_ne.mpr c69
                  have c69b1 : ((bt a0 x8_4) != 41) = true := bne_iff_ne.mpr c69
                  simp only [Option.some.injEq,Prod.mk.injEq] at H
                  obtain ⟨rfl,rfl⟩ := H
                  have p68 : 0 ≤ (x8_4 : Int) := of_decide_eq_true qy1
                  have q68 : x8_4 < (a0.size : Int) := of_decide_eq_true qy1
                  have hx68 := bt_at a0 x8_4
                  replace p68 := eq_true p68
                  replace q68 := eq_true q68
                  go_wp2
                  go_ret2
                  exact ⟨by first | rfl | (simp [y8,y9] <;> rfl) | (simp [*,y8,y9] <;> rfl),qb⟩
                ·rw [if_neg c66] at H
                 have c66b0 := decide_eq_false c66
                 clear c66
                 simp only [Option.some.injEq,Prod.mk.injEq] at H
                 obtain ⟨rfl,rfl⟩ := H
                 go_wp2
                 go_ret2
                 exact ⟨by first | rfl | (simp [y8,y9] <;> rfl) | (simp [*,y8,y9] <;> rfl),qb⟩
        ·replace c44 := Bool.eq_false_iff.mpr c44
         subst c44
         replace H := qF H
         simp only [Option.some.injEq,Prod.mk.injEq] at H
         obtain ⟨rfl,rfl⟩ := H
         go_wp2
         go_ret2
         exact ⟨by first | rfl | (simp [y8,y9] <;> rfl) | (simp [*,y8,y9] <;> rfl),qb⟩
end Go.Proofs.YtebadckdihgklaaDoor.Pb
end
section
namespace Go.Proofs.YtebadckdihgklaaDoor.Pb
open Go.RowKit Go.Proofs.YtebadckdihgklaaDoorW.PrintWords Go.Proofs.YtebadckdihgklaaDoorW.PrintLast Go.Proofs.YtebadckdihgklaaDoorW.PrintMore
attribute [local go_sem] max2_int min2_int max_two min_two max_three min_three max_four min_four   -- for this text's walks alone
set_option linter.unusedVariables false
set_option linter.unusedSimpArgs false
def impl_kindOf.f (k : Nat) (a0 : ByteArray) : Option (Int) := (impl_termAt.f k a0).bind fun bt179 => (if (a0.size : Int) > 200 then (some 0) else (if bt179.2 = (a0.size : Int) then (some bt179.1) else (some 0)))
set_option maxHeartbeats 8000000 in
set_option maxRecDepth 100000 in
theorem impl_kindOf.calls (k : Nat) (a0 : ByteArray) (r : Int) (w : World) (hT : Tb w) (h : impl_kindOf.f k a0 = some r) :
  Calls Tryd.prog 71 #[.string a0] w fun e w' => e = .returned (.int .i64 r) ∧ Below w.heap.size w w' := by
 have HT := y0.mk hT
 clear hT
 have HB := y0.mk (Below.refl w.heap.size w)
 have H : ((impl_termAt.f k a0).bind fun bt179 => (if (a0.size : Int) > 200 then (some 0) else (if bt179.2 = (a0.size : Int) then (some bt179.1) else (some 0)))) = some r := h
 clear h
 obtain ⟨⟨t179,t180⟩,A2,H⟩ := qB H
 replace H : (if (a0.size : Int) > 200 then (some 0) else (if t180 = (a0.size : Int) then (some t179) else (some 0))) = some r := H
 by_cases c3 : (a0.size : Int) > 200
 ·rw [if_pos c3] at H
  have c3b0 : decide (200 < (a0.size : Int)) = true := decide_eq_true c3
  have c3b1 : decide (200 < a0.size) = true := decide_eq_true (by omega)
  clear c3
  obtain rfl := Option.some.inj H
  go_enter Tryd.func71,Tryd.ntmps71
  go_wp2_with (first | ((with_reducible refine y10 (f := 101) rfl ?_); refine y11 (some 7) rfl rfl Tryd.func101 (by kernel_rfl) rfl #[.string a0] rfl qy0 ?_; (with_reducible refine (impl_termAt.calls k a0 t179 t180 _ (by exact Tb.below HT.out qb) A2.out).mono ?_); rintro e w4 ⟨rfl,hb⟩; refine ⟨_,rfl, ?_⟩; replace HB := y0.mk (y5 qb hb); (try clear hb); (try clear hb2); (try clear hk); (try clear hi)))
  go_ret
  exact ⟨by first | rfl | (simp [y8,y9] <;> rfl) | (simp [*,y8,y9] <;> rfl),qb⟩
 ·rw [if_neg c3] at H
  have c3b0 : decide (200 < (a0.size : Int)) = false := decide_eq_false c3
  have c3b1 : decide (200 < a0.size) = false := decide_eq_false (by omega)
  clear c3
  by_cases c5 : t180 = (a0.size : Int)
  ·rw [if_pos c5] at H
   have c5b0 : (t180 == (a0.size : Int)) = true := beq_iff_eq.mpr c5
   have c5b1 : (t180 != (a0.size : Int)) = false := bne_eq_false_iff_eq.mpr c5
   clear c5
   obtain rfl := Option.some.inj H
   go_enter Tryd.func71,Tryd.ntmps71
   go_wp2_with (first | ((with_reducible refine y10 (f := 101) rfl ?_); refine y11 (some 7) rfl rfl Tryd.func101 (by kernel_rfl) rfl #[.string a0] rfl qy0 ?_; (with_reducible refine (impl_termAt.calls k a0 t179 t180 _ (by exact Tb.below HT.out qb) A2.out).mono ?_); rintro e w6 ⟨rfl,hb⟩; refine ⟨_,rfl, ?_⟩; replace HB := y0.mk (y5 qb hb); (try clear hb); (try clear hb2); (try clear hk); (try clear hi)))
   go_ret
   exact ⟨by first | rfl | (simp [y8,y9] <;> rfl) | (simp [*,y8,y9] <;> rfl),qb⟩
  ·rw [if_neg c5] at H
   have c5b0 : (t180 == (a0.size : Int)) = false := beq_eq_false_iff_ne.mpr c5
   have c5b1 : (t180 != (a0.size : Int)) = true := bne_iff_ne.mpr c5
   obtain rfl := Option.some.inj H
   go_enter Tryd.func71,Tryd.ntmps71
   go_wp2_with (first | ((with_reducible refine y10 (f := 101) rfl ?_); refine y11 (some 7) rfl rfl Tryd.func101 (by kernel_rfl) rfl #[.string a0] rfl qy0 ?_; (with_reducible refine (impl_termAt.calls k a0 t179 t180 _ (by exact Tb.below HT.out qb) A2.out).mono ?_); rintro e w7 ⟨rfl,hb⟩; refine ⟨_,rfl, ?_⟩; replace HB := y0.mk (y5 qb hb); (try clear hb); (try clear hb2); (try clear hk); (try clear hi)))
   go_ret
   exact ⟨by first | rfl | (simp [y8,y9] <;> rfl) | (simp [*,y8,y9] <;> rfl),qb⟩
def impl_numOf.f (a0 : ByteArray) : Option (Int) := (strconv_Atoi.f a0).bind fun bt181 => (some bt181.1)
set_option maxHeartbeats 8000000 in
set_option maxRecDepth 100000 in
theorem impl_numOf.calls (a0 : ByteArray) (r : Int) (w : World) (hT : Tb w) (h : impl_numOf.f a0 = some r) :
  Calls Tryd.prog 72 #[.string a0] w fun e w' => e = .returned (.int .i64 r) ∧ Below w.heap.size w w' := by
 have HT := y0.mk hT
 clear hT
 have HB := y0.mk (Below.refl w.heap.size w)
 have H : ((strconv_Atoi.f a0).bind fun bt181 => (some bt181.1)) = some r := h
 clear h
 obtain ⟨⟨t181,t182⟩,A2,H⟩ := qB H
 replace H : (some t181) = some r := H
 obtain rfl := Option.some.inj H
 go_enter Tryd.func72,Tryd.ntmps72
 go_wp2_with (first | ((with_reducible refine y10 (f := 102) rfl ?_); refine y11 (some 7) rfl rfl Tryd.func102 (by kernel_rfl) rfl #[.string a0] rfl qy0 ?_; (with_reducible refine (strconv_Atoi.calls a0 t181 t182 _ (by exact Tb.below HT.out qb) A2.out).mono ?_); rintro e w3 ⟨ev_,rfl,hev_,hb⟩; refine ⟨_,rfl, ?_⟩; replace HB := y0.mk (y5 qb hb); (try clear hb); (try clear hb2); (try clear hk); (try clear hi); (try simp only [y8,y9])))
 go_ret
 exact ⟨by first | rfl | (simp [y8,y9] <;> rfl) | (simp [*,y8,y9] <;> rfl),qb⟩
def spec_l01Digit.f (a0 : Int) : Option (Bool) := if a0 ≥ 48 then (some (decide (a0 ≤ 57))) else (some false)
set_option maxHeartbeats 8000000 in
set_option maxRecDepth 100000 in
theorem spec_l01Digit.calls (a0 : Int) (r : Bool) (w : World) (h : spec_l01Digit.f a0 = some r) :
  Calls Tryd.prog 88 #[.int .u8 a0] w fun e w' => e = .returned (.bool r) ∧ y1 w w' := by
 have H : (if a0 ≥ 48 then (some (decide (a0 ≤ 57))) else (some false)) = some r := h
 clear h
 by_cases c2 : a0 ≥ 48
 ·rw [if_pos c2] at H
  have c2b0 : decide (48 ≤ a0) = true := decide_eq_true c2
  clear c2
  obtain rfl := Option.some.inj H
  go_enter Tryd.func88,Tryd.ntmps88
  go_wp2
  go_ret
  exact ⟨by first | rfl | (simp; done) | (simp [*]; done),by repeat (first | exact y1.refl _ | apply y1.step)⟩
 ·rw [if_neg c2] at H
  have c2b0 : decide (48 ≤ a0) = false := decide_eq_false c2
  clear c2
  obtain rfl := Option.some.inj H
  go_enter Tryd.func88,Tryd.ntmps88
  go_wp2
  go_ret
  exact ⟨by first | rfl | (simp; done) | (simp [*]; done),by repeat (first | exact y1.refl _ | apply y1.step)⟩
end Go.Proofs.YtebadckdihgklaaDoor.Pb
end
section
namespace Go.Proofs.YtebadckdihgklaaDoor.Pb
open Go.RowKit Go.Proofs.YtebadckdihgklaaDoorW.PrintWords Go.Proofs.YtebadckdihgklaaDoorW.PrintLast Go.Proofs.YtebadckdihgklaaDoorW.PrintMore
attribute [local go_sem] max2_int min2_int max_two min_two max_three min_three max_four min_four   -- for this text's walks alone
set_option linter.unusedVariables false
set_option linter.unusedSimpArgs false
mutual
def z5_.j0 : Nat → ByteArray → Int → ByteArray → Bool → Option (Int × Bool)
 | 0,_,_,_,_ => none
 | k + 1,x0,x4,x5,x15 => if x15 = true then (if 1 ≤ (x0.size : Int) then (z5_.j1 k x0 x4 (x0.extract 1 x0.size)) else (none)) else (z5_.j1 k x0 x4 x5)
def z5_.j1 : Nat → ByteArray → Int → ByteArray → Option (Int × Bool)
 | 0,_,_,_ => none
 | k + 1,x0,x4,x5 => (spec_l01Between.f (x5.size : Int) 1 7).bind fun t192 => (if t192 = true then (z5_.l0 k x0 x4 x5 0) else (some (0,false)))
def z5_.l0 : Nat → ByteArray → Int → ByteArray → Int → Option (Int × Bool)
 | 0,_,_,_,_ => none
 | k + 1,x0,x4,x5,x6 => if x6 < (x5.size : Int) then (if 0 ≤ x6 then ((spec_l01Digit.f (bt x5 x6)).bind fun t193 => (if t193 = true then (z5_.l0 k x0 (wrap64 ((wrap64 (10 * x4)) + (((bt x5 x6) - 48) % 256))) x5 (wrap64 (x6 + 1))) else (some (0,false)))) else (none)) else (if x5.toList = x0.toList then ((spec_NumText.f k x4).bind fun t194 => (if t194.toList = x0.toList then ((spec_l01Between.f x4 (-1000000) 1000000).bind fun t195 => (some (x4,t195))) else (some (x4,false)))) else ((spec_NumText.f k (wrap64 (-x4))).bind fun t196 => (if t196.toList = x0.toList then ((spec_l01Between.f (wrap64 (-x4)) (-1000000) 1000000).bind fun t197 => (some (wrap64 (-x4),t197))) else (some (wrap64 (-x4),false)))))
end
def z5_.f (k : Nat) (a0 : ByteArray) : Option (Int × Bool) := if (a0.size : Int) > 0 then (if 0 < (a0.size : Int) then (z5_.j0 k a0 0 a0 ((bt a0 0) == 45)) else (none)) else (z5_.j0 k a0 0 a0 false)
set_option maxHeartbeats 8000000 in
set_option maxRecDepth 100000 in
theorem z5_.calls (k : Nat) (a0 : ByteArray) (r1 : Int) (r2 : Bool) (w : World) (h : z5_.f k a0 = some (r1,r2)) :
  Calls Tryd.prog 73 #[.string a0] w fun e w' => e = .returned (.tuple #[.int .i64 r1,.bool r2]) ∧ Below w.heap.size w w' := by
 have HB := y0.mk (Below.refl w.heap.size w)
 have H : (if (a0.size : Int) > 0 then (if 0 < (a0.size : Int) then (z5_.j0 k a0 0 a0 ((bt a0 0) == 45)) else (none)) else (z5_.j0 k a0 0 a0 false)) = some (r1,r2) := h
 clear h
 have HC2 := y0.mk H
 clear H
 go_enter Tryd.func73,Tryd.ntmps73
 go_upto_region 3 with (fail)
 go_cut [15] (fun v15 wc => ∃ (kq : Nat) (x15_1 : Bool),v15 = .bool x15_1 ∧ y0 (z5_.j0 kq a0 0 a0 x15_1 = some (r1,r2)) ∧ y0 (kq ≤ k) ∧ y0 (Below w.heap.size w wc))
 case first =>
  have H := HC2.out
  clear HC2
  by_cases c3 : (a0.size : Int) > 0
  ·rw [if_pos c3] at H
   have c3b0 : decide (0 < (a0.size : Int)) = true := decide_eq_true c3
   have c3b1 : decide (0 < a0.size) = true := decide_eq_true (by omega)
   clear c3
   (first | rw [c3b0] | (simp only [y13,y12]; rw [c3b0]) | skip)
   obtain ⟨c4,H⟩ := qo H
   have c4b0 : decide (0 < (a0.size : Int)) = true := decide_eq_true c4
   have c4b1 : decide (0 < a0.size) = true := decide_eq_true (by omega)
   clear c4
   have H' := y0.mk H
   clear H
   have p5 : 0 ≤ (0 : Int) := (by omega)
   have q5 : 0 < a0.size := qy3
   have hx5 : ∀ h : 0 < a0.size,((a0[0]'h).toNat : Int) = bt a0 0 := bt_at a0 0
   clear p5
   have qi5 : (0 < (a0.size : Int)) = True := eq_true (of_decide_eq_true qy1)
   replace q5 := eq_true q5
   go_wp2
   go_meet
   exact ⟨_,(((bt a0 0) == 45)),qy2,H',⟨by first | omega | exact Nat.le_refl _⟩,⟨qb⟩⟩
  ·rw [if_neg c3] at H
   have c3b0 : decide (0 < (a0.size : Int)) = false := decide_eq_false c3
   have c3b1 : decide (0 < a0.size) = false := decide_eq_false (by omega)
   clear c3
   (first | rw [c3b0] | (simp only [y13,y12]; rw [c3b0]) | skip)
   have H' := y0.mk H
   clear H
   go_wp2
   go_meet
   exact ⟨_,(false),qy2,H',⟨by first | omega | exact Nat.le_refl _⟩,⟨qb⟩⟩
 case rest =>
  clear HC2
  obtain ⟨kq,x15_1,rfl,HA,HJ1,HB⟩ := hcut
  cases kq with
  | zero => exact absurd HA.out (by simp [z5_.j0])
  | succ kj1 =>
   have H := HA.out
   clear HA
   simp only [z5_.j0] at H
   have HC6 := y0.mk H
   clear H
   go_upto_if 15 with (fail)
   go_cut [5] (fun v5 wc => ∃ (kq : Nat) (x5_5 : ByteArray),v5 = .string x5_5 ∧ y0 (z5_.j1 kq a0 0 x5_5 = some (r1,r2)) ∧ y0 (kq ≤ kj1) ∧ y0 (Below w.heap.size w wc))
   case first =>
    have H := HC6.out
    clear HC6
    by_cases c7 : x15_1 = true
    ·subst c7
     replace H := qT H
     obtain ⟨c8,H⟩ := qo H
     have c8b0 := eq_true c8
     have c8b1 := decide_eq_true c8
     clear c8
     have H' := y0.mk H
     clear H
     go_wp2
     go_meet
     exact ⟨_,(a0.extract 1 a0.size),qy2,H',⟨by have := HJ1.out; first | omega | exact Nat.le_refl _⟩,⟨qb⟩⟩
    ·replace c7 := Bool.eq_false_iff.mpr c7
     subst c7
     replace H := qF H
     have H' := y0.mk H
     clear H
     go_wp2
     go_meet
     exact ⟨_,(a0),qy2,H',⟨by have := HJ1.out; first | omega | exact Nat.le_refl _⟩,⟨qb⟩⟩
   case rest =>
    clear HC6
    obtain ⟨kq,x5_5,rfl,HA,HJ5,HB⟩ := hcut
    cases kq with
    | zero => exact absurd HA.out (by simp [z5_.j1])
    | succ kj5 =>
     have H := HA.out
     clear HA
     simp only [z5_.j1] at H
     obtain ⟨t192,A9,H⟩ := qB H
     by_cases c10 : t192 = true
     ·subst c10
      replace H := qT H
      have H' := y0.mk H
      clear H
      go_wp2_with (first | ((with_reducible refine y10 (f := 66) rfl ?_); refine y11 (some 20) rfl rfl Tryd.func66 (by kernel_rfl) rfl #[.int .i64 (x5_5.size : Int),.int .i64 1,.int .i64 7] rfl qy0 ?_; (with_reducible refine (spec_l01Between.calls (x5_5.size : Int) 1 7 true _ A9.out).mono ?_); rintro e w' ⟨rfl,⟨nd,rfl⟩⟩; refine ⟨_,rfl, ?_⟩))
      go_loopg [4,6] kj5 (fun kq v4 v6 w' => ∃ (x4_3 : Int) (x6_3 : Int),v4 = .int .i64 x4_3 ∧ v6 = .int .i64 x6_3 ∧ y0 (z5_.l0 kq a0 x4_3 x5_5 x6_3 = some (r1,r2)) ∧ y0 (kq ≤ kj5) ∧ y0 (Below w.heap.size w w'))
      case atStart => exact ⟨(0),(0),qy2,qy2,H',⟨Nat.le_refl _⟩,⟨qb⟩⟩
      case round =>
       clear H'
       (try clear c10)
       obtain ⟨x4_3,x6_3,rfl,rfl,HA,HK3,HB⟩ := hrel
       cases gk with
       | zero => exact absurd HA.out (by simp [z5_.l0])
       | succ k3 =>
        have H := HA.out
        clear HA
        simp only [z5_.l0] at H
        by_cases c11 : x6_3 < (x5_5.size : Int)
        ·rw [if_pos c11] at H
         have c11b0 := decide_eq_true c11
         clear c11
         obtain ⟨c12,H⟩ := qo H
         have c12b0 : decide (0 ≤ x6_3) = true := decide_eq_true c12
         clear c12
         obtain ⟨t193,A14,H⟩ := qB H
         by_cases c15 : t193 = true
         ·subst c15
          replace H := qT H
          have H' := y0.mk H
          clear H
          have p13 : 0 ≤ (x6_3 : Int) := of_decide_eq_true qy1
          have q13 : x6_3 < (x5_5.size : Int) := of_decide_eq_true qy1
          have hx13 := bt_at x5_5 x6_3
          replace p13 := eq_true p13
          replace q13 := eq_true q13
          go_wp2_with (first | ((with_reducible refine y10 (f := 88) rfl ?_); refine y11 (some 31) rfl rfl Tryd.func88 (by kernel_rfl) rfl #[.int .u8 (bt x5_5 x6_3)] rfl qy0 ?_; (with_reducible refine (spec_l01Digit.calls (bt x5_5 x6_3) true _ A14.out).mono ?_); rintro e w' ⟨rfl,⟨nd,rfl⟩⟩; refine ⟨_,rfl, ?_⟩; have p16 : 0 ≤ (x6_3 : Int) := of_decide_eq_true qy1; have q16 : x6_3 < (x5_5.size : Int) := of_decide_eq_true qy1; have hx16 := bt_at x5_5 x6_3; replace p16 := eq_true p16; replace q16 := eq_true q16))
          go_roundg k3
          case measure => have := HJ1.out; have := HJ5.out; have := HK3.out; omega
          exact ⟨(wrap64 ((wrap64 (10 * x4_3)) + (((bt x5_5 x6_3) - 48) % 256))),(wrap64 (x6_3 + 1)),qy2,qy2,H',⟨by have := HJ1.out; have := HJ5.out; have := HK3.out; omega⟩,⟨qb⟩⟩
         ·replace c15 := Bool.eq_false_iff.mpr c15
          subst c15
          replace H := qF H
          simp only [Option.some.injEq,Prod.mk.injEq] at H
          obtain ⟨rfl,rfl⟩ := H
          have p13 : 0 ≤ (x6_3 : Int) := of_decide_eq_true qy1
          have q13 : x6_3 < (x5_5.size : Int) := of_decide_eq_true qy1
          have hx13 := bt_at x5_5 x6_3
          replace p13 := eq_true p13
          replace q13 := eq_true q13
          go_wp2_with (first | ((with_reducible refine y10 (f := 88) rfl ?_); refine y11 (some 31) rfl rfl Tryd.func88 (by kernel_rfl) rfl #[.int .u8 (bt x5_5 x6_3)] rfl qy0 ?_; (with_reducible refine (spec_l01Digit.calls (bt x5_5 x6_3) false _ A14.out).mono ?_); rintro e w' ⟨rfl,⟨nd,rfl⟩⟩; refine ⟨_,rfl, ?_⟩))
          go_ret2
          exact ⟨by first | rfl | (simp [y8,y9] <;> rfl) | (simp [*,y8,y9] <;> rfl),qb⟩
        ·rw [if_neg c11] at H
         have c11b0 := decide_eq_false c11
         clear c11
         by_cases c17 : x5_5.toList = a0.toList
         ·rw [if_pos c17] at H
          have c17b0 : (x5_5.toList == a0.toList) = true := beq_iff_eq.mpr c17
          have c17b1 : (x5_5.toList != a0.toList) = false := bne_eq_false_iff_eq.mpr c17
          clear c17
          obtain ⟨t194,A18,H⟩ := qB H
          by_cases c19 : t194.toList = a0.toList
          ·rw [if_pos c19] at H
           have c19b0 : (t194.toList == a0.toList) = true := beq_iff_eq.mpr c19
           have c19b1 : (t194.toList != a0.toList) = false := bne_eq_false_iff_eq.mpr c19
           clear c19
           obtain ⟨t195,A20,H⟩ := qB H
           simp only [Option.some.injEq,Prod.mk.injEq] at H
           obtain ⟨rfl,rfl⟩ := H
           go_wp2_with (first | ((with_reducible refine y10 (f := 20) rfl ?_); refine y11 (some 48) rfl rfl Tryd.func20 (by kernel_rfl) rfl #[.int .i64 x4_3] rfl qy0 ?_; (with_reducible refine (spec_NumText.calls k3 x4_3 t194 _ A18.out).mono ?_); rintro e w21 ⟨rfl,hb⟩; refine ⟨_,rfl, ?_⟩; replace HB := y0.mk (y5 qb hb); (try clear hb); (try clear hb2); (try clear hk); (try clear hi)) | (go_at_call 66; (with_reducible refine (spec_l01Between.calls x4_3 (-1000000) 1000000 t195 _ A20.out).mono ?_); rintro e w' ⟨rfl,⟨nd,rfl⟩⟩))
           go_ret2
           exact ⟨by first | rfl | (simp [y8,y9] <;> rfl) | (simp [*,y8,y9] <;> rfl),qb⟩
          ·rw [if_neg c19] at H
           have c19b0 : (t194.toList == a0.toList) = false := beq_eq_false_iff_ne.mpr c19
           have c19b1 : (t194.toList != a0.toList) = true := bne_iff_ne.mpr c19
           simp only [Option.some.injEq,Prod.mk.injEq] at H
           obtain ⟨rfl,rfl⟩ := H
           go_wp2_with (first | ((with_reducible refine y10 (f := 20) rfl ?_); refine y11 (some 48) rfl rfl Tryd.func20 (by kernel_rfl) rfl #[.int .i64 x4_3] rfl qy0 ?_; (with_reducible refine (spec_NumText.calls k3 x4_3 t194 _ A18.out).mono ?_); rintro e w22 ⟨rfl,hb⟩; refine ⟨_,rfl, ?_⟩; replace HB := y0.mk (y5 qb hb); (try clear hb); (try clear hb2); (try clear hk); (try clear hi)))
           go_ret2
           exact ⟨by first | rfl | (simp [y8,y9] <;> rfl) | (simp [*,y8,y9] <;> rfl),qb⟩
         ·rw [if_neg c17] at H
          have c17b0 : (x5_5.toList == a0.toList) = false := beq_eq_false_iff_ne.mpr c17
          have c17b1 : (x5_5.toList != a0.toList) = true := bne_iff_ne.mpr c17
          obtain ⟨t196,A23,H⟩ := qB H
          by_cases c24 : t196.toList = a0.toList
          ·rw [if_pos c24] at H
           have c24b0 : (t196.toList == a0.toList) = true := beq_iff_eq.mpr c24
           have c24b1 : (t196.toList != a0.toList) = false := bne_eq_false_iff_eq.mpr c24
           clear c24
           obtain ⟨t197,A25,H⟩ := qB H
           simp only [Option.some.injEq,Prod.mk.injEq] at H
           obtain ⟨rfl,rfl⟩ := H
           go_wp2_with (first | ((with_reducible refine y10 (f := 20) rfl ?_); refine y11 (some 48) rfl rfl Tryd.func20 (by kernel_rfl) rfl #[.int .i64 (wrap64 (-x4_3))] rfl qy0 ?_; (with_reducible refine (spec_NumText.calls k3 (wrap64 (-x4_3)) t196 _ A23.out).mono ?_); rintro e w26 ⟨rfl,hb⟩; refine ⟨_,rfl, ?_⟩; replace HB := y0.mk (y5 qb hb); (try clear hb); (try clear hb2); (try clear hk); (try clear hi)) | (go_at_call 66; (with_reducible refine (spec_l01Between.calls (wrap64 (-x4_3)) (-1000000) 1000000 t197 _ A25.out).mono ?_); rintro e w' ⟨rfl,⟨nd,rfl⟩⟩))
           go_ret2
           exact ⟨by first | rfl | (simp [y8,y9] <;> rfl) | (simp [*,y8,y9] <;> rfl),qb⟩
          ·rw [if_neg c24] at H
           have c24b0 : (t196.toList == a0.toList) = false := beq_eq_false_iff_ne.mpr c24
           have c24b1 : (t196.toList != a0.toList) = true := bne_iff_ne.mpr c24
           simp only [Option.some.injEq,Prod.mk.injEq] at H
           obtain ⟨rfl,rfl⟩ := H
           go_wp2_with (first | ((with_reducible refine y10 (f := 20) rfl ?_); refine y11 (some 48) rfl rfl Tryd.func20 (by kernel_rfl) rfl #[.int .i64 (wrap64 (-x4_3))] rfl qy0 ?_; (with_reducible refine (spec_NumText.calls k3 (wrap64 (-x4_3)) t196 _ A23.out).mono ?_); rintro e w27 ⟨rfl,hb⟩; refine ⟨_,rfl, ?_⟩; replace HB := y0.mk (y5 qb hb); (try clear hb); (try clear hb2); (try clear hk); (try clear hi)))
           go_ret2
           exact ⟨by first | rfl | (simp [y8,y9] <;> rfl) | (simp [*,y8,y9] <;> rfl),qb⟩
     ·replace c10 := Bool.eq_false_iff.mpr c10
      subst c10
      replace H := qF H
      simp only [Option.some.injEq,Prod.mk.injEq] at H
      obtain ⟨rfl,rfl⟩ := H
      go_wp2_with (first | ((with_reducible refine y10 (f := 66) rfl ?_); refine y11 (some 20) rfl rfl Tryd.func66 (by kernel_rfl) rfl #[.int .i64 (x5_5.size : Int),.int .i64 1,.int .i64 7] rfl qy0 ?_; (with_reducible refine (spec_l01Between.calls (x5_5.size : Int) 1 7 false _ A9.out).mono ?_); rintro e w' ⟨rfl,⟨nd,rfl⟩⟩; refine ⟨_,rfl, ?_⟩))
      go_ret2
      exact ⟨by first | rfl | (simp [y8,y9] <;> rfl) | (simp [*,y8,y9] <;> rfl),qb⟩
end Go.Proofs.YtebadckdihgklaaDoor.Pb
end
