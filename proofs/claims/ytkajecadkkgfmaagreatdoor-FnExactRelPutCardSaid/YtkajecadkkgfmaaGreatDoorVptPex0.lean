-- Cut by prune.py, a program of this session, out of the texts of this claim: Lean checks it.
import Derived.Test.YtkajecadkkgfmaaGreatDoorProg
import Derived.Below
import Derived.Deep.Draws
import Derived.Deep.AppendLies
import Derived.Maps.AppendAt
import Derived.OwnWalk
import Derived.Laws.BytesArg
import Derived.Laws.MakeOwn
import Derived.Laws.OwnMore
import Derived.Deep.OwnRows
import Derived.Tactics
import Derived.Lib.ConvBytes
import Derived.Laws.Slices
import Derived.WalkKit
import Derived.KernelRfl
import Derived.RowKit3
import Derived.Deep.LoopGhost
import Derived.Deep.QuietTactic
import Derived.BigQuiet
import Derived.WideLaws
import Derived.Deep.DeepCutAuto
import Derived.Deep.CutBlock
import Derived.Deep.RegionHeld3
import Derived.Laws.Rows
import Derived.Lib.AppendStr
import Derived.ArgAppend
import Derived.Laws.IdiomCopy
import Derived.OrdersHeld
import Derived.Laws.BitsLemmas
import Derived.RowKit
import Derived.Test.YtkajecadkkgfmaaGreatDoorVptWWords
import Derived.Test.YtkajecadkkgfmaaGreatDoorVptWLast
import Derived.Test.YtkajecadkkgfmaaGreatDoorVptWTab
import Derived.Test.YtkajecadkkgfmaaGreatDoorVptWApart
import Derived.Test.YtkajecadkkgfmaaGreatDoorVptWFoot
import Derived.Test.YtkajecadkkgfmaaGreatDoorVptWKept
import Derived.Test.YtkajecadkkgfmaaGreatDoorVptWShare
import Derived.Test.YtkajecadkkgfmaaGreatDoorVptWN
import Derived.Laws.StructEq
import Derived.Test.YtkajecadkkgfmaaGreatDoorVptWRepsOne
import Derived.Test.YtkajecadkkgfmaaGreatDoorVptWGuard
import Derived.Test.YtkajecadkkgfmaaGreatDoorVptWNEv
import Derived.Test.YtkajecadkkgfmaaGreatDoorVptWMore
import Derived.Test.YtkajecadkkgfmaaGreatDoorVptQIv
import Derived.Test.YtkajecadkkgfmaaGreatDoorVptQIns
import Derived.Test.YtkajecadkkgfmaaGreatDoorVptShelf
import Derived.Lib.LaidTab
import Derived.WalkSmall
import Derived.Test.YtkajecadkkgfmaaGreatDoorVptQRead
section
namespace Go.Proofs.YtkajecadkkgfmaaGreatDoor.Pe
open Go.RowKit Go.Proofs.YtkajecadkkgfmaaGreatDoorW.PrintWords Go.Proofs.YtkajecadkkgfmaaGreatDoorW.PrintLast Go.Proofs.YtkajecadkkgfmaaGreatDoorW.PrintMore
attribute [local go_sem] max2_int min2_int max_two min_two max_three min_three max_four min_four   -- for this text's walks alone
set_option linter.unusedVariables false
set_option linter.unusedSimpArgs false
theorem qy0 {P : Prop} (h : P := by (try simp only [qM_,List.map_cons,List.map_nil]); first | done | rfl | (simp only [qD_,qT_]; rfl)) : P := h
theorem qy1 {P : Prop} (h : P := by first | (with_reducible assumption) | assumption) : P := h
theorem qy2 {P : Prop} (h : P := by first | rfl | (simp; done) | (simp [*]; done)) : P := h
theorem qy3 {P : Prop} (h : P := by (try simp only [qM_,List.map_cons,List.map_nil]); first | done | rfl) : P := h
theorem qy4 {P : Prop} (h : P := by have : (0 : Int) < (a0.size : Int) := of_decide_eq_true (by first | (with_reducible assumption) | assumption); omega) : P := h
theorem qy5 {P : Prop} (h : P := by simp only [putAll,Act.put,qS_,qZ_,qC_]) : P := h
theorem qb {w W : World} (h : Below w.heap.size w W := by repeat (first | (with_reducible first | exact HB.out | apply y3 | apply pw_below_drewN | apply y4 | refine below_set ?_ (y0.out (by with_reducible assumption))) | exact HB.out)) : Below w.heap.size w W := h
theorem qg {w W : World} {g : Nat} (e : g = W.heap.size) (h : Below w.heap.size w W := by repeat (first | (with_reducible first | exact HB.out | apply y3 | apply pw_below_drewN | apply y4 | refine below_set ?_ (y0.out (by with_reducible assumption))) | exact HB.out)) : w.heap.size ≤ g := by rw [e]; exact y5 h
theorem qk {w W : World} {g : Nat} {o : Obj} (h : w.heap[g]? = some o) (h1 : Below w.heap.size w W := by repeat (first | with_reducible exact Below.refl _ _ | with_reducible apply y3 | with_reducible apply pw_below_drewN | with_reducible apply y4)) : W.heap[g]? = some o := y8 h h1
theorem qK {w W w2 : World} {g : Nat} {o : Obj} (h : w.heap[g]? = some o) (hb : Below W.heap.size W w2) (h1 : Below w.heap.size w W := by repeat (first | with_reducible exact Below.refl _ _ | with_reducible apply y3 | with_reducible apply pw_below_drewN | with_reducible apply y4)) : w2.heap[g]? = some o := y8 (y8 h h1) hb
theorem qn {w W : World} {g g2 : Nat} {o : Obj} (h : w.heap[g]? = some o) (e : g2 = W.heap.size) (h1 : Below w.heap.size w W := by repeat (first | with_reducible exact Below.refl _ _ | with_reducible apply y3 | with_reducible apply pw_below_drewN | with_reducible apply y4)) : g ≠ g2 := by rw [e]; exact Nat.ne_of_lt (blk_lt (y8 h h1))
theorem qm {w W : World} {g g2 : Nat} {o : Obj} (h : w.heap[g]? = some o) (e : g2 = W.heap.size) (h1 : Below w.heap.size w W := by repeat (first | with_reducible exact Below.refl _ _ | with_reducible apply y3 | with_reducible apply pw_below_drewN | with_reducible apply y4)) : g2 ≠ g := Ne.symm (qn h e h1)
theorem qc {α : Type} {d : Kd α} {w W : World} {A : Option Addr} {n : Nat} {xs : List α} (h : d.C w A n xs) (h1 : Below w.heap.size w W := by repeat (first | with_reducible exact Below.refl _ _ | with_reducible apply y3 | with_reducible apply pw_below_drewN | with_reducible apply y4)) : d.C W A n xs := Kd.C_below h h1
theorem qo {P : Prop} [Decidable P] {α : Type} {X Y : Option α} {r : α} (h : (if P then X else Y) = some r) (hn : ¬ (Y = some r) := by simp) : P ∧ X = some r := by
 by_cases c : P
 ·rw [if_pos c] at h
  exact ⟨c,h⟩
 ·rw [if_neg c] at h
  exact absurd h hn
theorem qB {α β : Type} {x : Option α} {f : α → Option β} {r : β} (h : x.bind f = some r) : ∃ t,y0 (x = some t) ∧ f t = some r := by
 obtain ⟨t,a,b⟩ := Option.bind_eq_some_iff.mp h
 exact ⟨t,⟨a⟩,b⟩
theorem qT {α : Type} {X Y : Option α} {r : α} {d : Decidable (true = true)} (h : (@ite _ (true = true) d X Y) = some r) : X = some r := by rwa [if_pos rfl] at h
theorem qF {α : Type} {X Y : Option α} {r : α} {d : Decidable (false = true)} (h : (@ite _ (false = true) d X Y) = some r) : Y = some r := by rwa [if_neg Bool.false_ne_true] at h
theorem qR {α : Type} {d : Kd α} {e base : Nat} {w W : World} {ok : Nat → Prop} {v : Value} {xs : List α} (h : d.R e w base ok v xs) (h1 : Below w.heap.size w W := by repeat (first | with_reducible exact Below.refl _ _ | with_reducible apply y3 | with_reducible apply pw_below_drewN | with_reducible apply y4)) : d.R e W base ok v xs := Kd.R_below h h1
theorem qS {α : Type} {d : Kd α} {e base : Nat} {w W : World} {ok : Nat → Prop} {v : Value} {xs : List α} (h : Kd.S d e w base ok v xs) (h1 : Below w.heap.size w W := by repeat (first | with_reducible exact Below.refl _ _ | with_reducible apply y3 | with_reducible apply pw_below_drewN | with_reducible apply y4)) : Kd.S d e W base ok v xs := Kd.S_below h h1
theorem qN {α : Type} {d : Kd α} {e base : Nat} {w W : World} {ok : Nat → Prop} {v : Value} {xs : List α} (h : Kd.N d e w base ok v xs) (h1 : Below w.heap.size w W := by repeat (first | with_reducible exact Below.refl _ _ | with_reducible apply y3 | with_reducible apply pw_below_drewN | with_reducible apply y4)) : Kd.N d e W base ok v xs := Kd.N_below h h1
theorem qV {α : Type} {d : Kd α} {e base : Nat} {w W : World} {ok : Nat → Prop} {v : Value} {xs : List α} (h : Kd.V d e w base ok v xs) (h1 : Below w.heap.size w W := by repeat (first | with_reducible exact Below.refl _ _ | with_reducible apply y3 | with_reducible apply pw_below_drewN | with_reducible apply y4)) : Kd.V d e W base ok v xs := Kd.V_below h h1
theorem qz1 {w : World} {g t : Nat} {a0 : Value} (h : w.heap[g]? = some (.cells #[a0] t (0,0))) : w.cell? ⟨g,0,none⟩ = some a0 ∧ w.frozen? ⟨g,0,none⟩ = false := ⟨(y9 h 0).trans rfl,blk_frozen h 0⟩
theorem qz2 {w : World} {g t : Nat} {a0 a1 : Value} (h : w.heap[g]? = some (.cells #[a0,a1] t (0,0))) : w.cell? ⟨g,0,none⟩ = some a0 ∧ w.cell? ⟨g,1,none⟩ = some a1 ∧ w.frozen? ⟨g,0,none⟩ = false ∧ w.frozen? ⟨g,1,none⟩ = false := ⟨(y9 h 0).trans rfl,(y9 h 1).trans rfl,blk_frozen h 0,blk_frozen h 1⟩
section
variable {P : Program} {ops : Array Oper} {rest : List Oper} {o : Oper} {a : Act} {Q : Exit → Act → World → Prop}
theorem qe {W : World} (N : Tmp) (cs : Array Value) (t : TypeId) (h : ∀ g,g = W.heap.size → ∀ w1,w1.heap[g]? = some (.cells cs t (0,0)) → Below W.heap.size W w1 → wpList P ops Q rest (a.put o.dst (.pointer (some ⟨g,0,none⟩))) w1) (hg : o.guard = none := by rfl) (hd : o.dst = some N := by rfl)
  (hr : (execOp a.eval o).run P W = .ok (.value (.pointer (some ⟨W.heap.size,0,none⟩))) (W.alloc (.cells cs t (0,0))) := by first | (go_simp; done) | (go_simp; rfl)) : wpList P ops Q (o :: rest) a W := box_event hg hd hr h
end
section
variable {P : Program} {ops : Array Oper} {Q : Exit → Act → World → Prop} {md : Region.Mode} {S : World → Prop} {ds : List Nat}
theorem qp {oi : Oper} {v : Value} {fuel : Nat} {l : Array Bool} {a a' : Act} {w : World} (i : Nat) (N : Tmp) (l' : Array Bool) (h : y23 P md ops Q S ds fuel l' a' w) (hi : ops[i]? = some oi := by exact rfl) (hN : oi.dst = some N := by exact rfl) (hc : anyB md ops l l' i = true := by exact y2 HT_.out (by kernel_rfl))
  (hQ : ∀ c a w,Q (.panic c) (a.put oi.dst v) w → Q (.panic c) a w := by exact fun _ _ _ h => h) (hy : Yields P ops oi v a := by refine Or.inl ⟨by rfl, ?_⟩; intro w'; go_simp; with_reducible rfl) (ha : a.put (some N) v = a' := by simp only [Act.put,qS_,qZ_,qC_,y19,y18]; rfl) : y23 P md ops Q S ds (fuel + 1) l a w := y20 l' hi hN hc hQ hy ha h
theorem qt {oi : Oper} {v : Value} {fuel : Nat} {l : Array Bool} {a a' : Act} {w : World} (i : Nat) (N : Tmp) (l' : Array Bool) (hS : S w) (h : y23 P md ops Q S ds fuel l' a' w) (hi : ops[i]? = some oi := by exact rfl) (hN : oi.dst = some N := by exact rfl) (hc : takeB md ops ds l l' i = true := by exact take_ofW HT_.out HW_.out (by kernel_rfl))
  (hQ : ∀ c a w,Q (.panic c) (a.put oi.dst v) w → Q (.panic c) a w := by exact fun _ _ _ h => h) (hy : YieldsIf P ops S oi v a := by refine Or.inl ⟨by rfl, ?_⟩; intro w' hs_; (repeat (obtain ⟨s_,hs_⟩ : _ ∧ _ := hs_)); go_simp; with_reducible rfl) (ha : a.put (some N) v = a' := by simp only [Act.put,qS_,qZ_,qC_,y19,y18]; rfl) : y23 P md ops Q S ds (fuel + 1) l a w := take_ l' hi hN hc hQ hy hS ha h
end
def errW : Option Int → Value
 | none => .nilIface
 | some c => .iface 0 (.int .i64 c)
theorem y13 : errW none = .nilIface := rfl
theorem y14 (c : Int) : errW (some c) = .iface 0 (.int .i64 c) := rfl
theorem info5 : (Tryz.prog.info? 5).map (fun i => (i.zero,i.size,i.bytes)) = some (some (.int .u8 0),1,1) := by kernel_rfl
theorem info9 : (Tryz.prog.info? 9).map (fun i => (i.zero,i.size,i.bytes)) = some (some (.string ⟨#[]⟩),1,16) := by kernel_rfl
theorem info36 : (Tryz.prog.info? 36).map (fun i => (i.zero,i.size,i.bytes)) = some (some (.agg #[(.slice none 0 0)]),1,24) := by kernel_rfl
structure S27 where
 f0 : (List ByteArray)
def z27 : S27 := ⟨([] : List ByteArray)⟩
def k27 : Kd S27 := Kd.iso (Kd.slice 9 Kd.string) (fun x : S27 => x.f0)
theorem k27_open {w : World} {x : S27} {cs : List Value} (h : k27.K w x cs) : ∃ A0 c0,cs = [.slice A0 x.f0.length c0] ∧ x.f0.length ≤ c0 ∧ Kd.string.C w A0 x.f0.length x.f0 := by
 obtain ⟨A0,c0,rfl,l0,g0⟩ := h
 exact ⟨A0,c0,rfl,l0,g0⟩
def rd_T27 (xs : List S27) (i : Int) : S27 := xs.getD i.toNat z27
theorem at_T27 {w : World} {A : Option Addr} {n : Nat} {xs : List S27} (h : Kd.C k27 w A n xs) (i : Int) (h0 : 0 ≤ i) (h1 : i < n) : ∃ ad A0 c0,A = some ad ∧ w.cell? (ad.add i.toNat) = some (.slice A0 (rd_T27 xs i).f0.length c0) ∧ (rd_T27 xs i).f0.length ≤ c0 ∧ Kd.string.C w A0 (rd_T27 xs i).f0.length (rd_T27 xs i).f0 := by
 obtain ⟨ad,c,e,_,hK,hc0⟩ := Kd.C_get h z27 i h0 h1
 have hc : ∀ j u,c[j]? = some u → w.cell? (ad.add (i.toNat * 1 + j)) = some u := hc0
 obtain ⟨A0,c0,rfl,l0,g0⟩ := k27_open hK
 exact ⟨ad,A0,c0,e,by have hq := hc 0 _ rfl; rwa [Nat.mul_one,Nat.add_zero] at hq,l0,g0⟩
structure S36 where
 f0 : (List ByteArray)
def z36 : S36 := ⟨([] : List ByteArray)⟩
def k36 : Kd S36 := Kd.iso (Kd.slice 9 Kd.string) (fun x : S36 => x.f0)
theorem k36_open {w : World} {x : S36} {cs : List Value} (h : k36.K w x cs) : ∃ A0 c0,cs = [.slice A0 x.f0.length c0] ∧ x.f0.length ≤ c0 ∧ Kd.string.C w A0 x.f0.length x.f0 := by
 obtain ⟨A0,c0,rfl,l0,g0⟩ := h
 exact ⟨A0,c0,rfl,l0,g0⟩
theorem k36_openM {w : World} {base : Nat} {ok : Nat → Prop} {x : S36} {cs : List Value} (h : k36.M w base ok x cs) : ∃ v0,cs = [v0] ∧ Kd.string.R 9 w base ok v0 x.f0 := by
 obtain ⟨v0,rfl,g0⟩ := h
 exact ⟨v0,rfl,g0⟩
theorem k36_mk (w : World) (x : S36) {A0 : Option Addr} {c0 : Nat} (l0 : x.f0.length ≤ c0) (g0 : Kd.string.C w A0 x.f0.length x.f0) : k36.K w x [.slice A0 x.f0.length c0] := ⟨A0,c0,rfl,l0,g0⟩
theorem k36_mkM (w : World) (base : Nat) (ok : Nat → Prop) (x : S36) {v0 : Value} (g0 : Kd.string.R 9 w base ok v0 x.f0) : k36.M w base ok x [v0] := ⟨v0,rfl,g0⟩
theorem k36_openF {W : World} {ok : Nat → Prop} {x : S36} {cs : List Value} (h : Kd.FK k36 W ok x cs) : ∃ A0 c0,cs = [.slice A0 x.f0.length c0] ∧ x.f0.length ≤ c0 ∧ Kd.F Kd.string W ok A0 x.f0.length x.f0 := by
 obtain ⟨A0,c0,rfl,l0,_⟩ := k36_open (Kd.FK_now h)
 exact ⟨A0,c0,rfl,l0,(fun W' hW => by obtain ⟨A0_,c0_,he,l0_,g0_⟩ := k36_open (h W' hW); injection (Option.some.inj (show some (Value.slice A0 x.f0.length c0) = some (Value.slice A0_ x.f0.length c0_) from congrArg (fun l => l[0]?) he)) with ha_ _ _; rw [ha_]; exact g0_)⟩
theorem k36_mkF (W : World) (ok : Nat → Prop) (x : S36) {A0 : Option Addr} {c0 : Nat} (l0 : x.f0.length ≤ c0) (g0 : Kd.F Kd.string W ok A0 x.f0.length x.f0) : Kd.FK k36 W ok x [.slice A0 x.f0.length c0] := fun W2 hW => k36_mk W2 x l0 (g0 W2 hW)
def y21 (xs : List S36) (i : Int) : S36 := xs.getD i.toNat z36
theorem at_T36 {w : World} {A : Option Addr} {n : Nat} {xs : List S36} (h : Kd.C k36 w A n xs) (i : Int) (h0 : 0 ≤ i) (h1 : i < n) : ∃ ad A0 c0,A = some ad ∧ w.cell? (ad.add i.toNat) = some (.slice A0 (y21 xs i).f0.length c0) ∧ (y21 xs i).f0.length ≤ c0 ∧ Kd.string.C w A0 (y21 xs i).f0.length (y21 xs i).f0 := by
 obtain ⟨ad,c,e,_,hK,hc0⟩ := Kd.C_get h z36 i h0 h1
 have hc : ∀ j u,c[j]? = some u → w.cell? (ad.add (i.toNat * 1 + j)) = some u := hc0
 obtain ⟨A0,c0,rfl,l0,g0⟩ := k36_open hK
 exact ⟨ad,A0,c0,e,by have hq := hc 0 _ rfl; rwa [Nat.mul_one,Nat.add_zero] at hq,l0,g0⟩
structure S32 where
 f0 : Int
 f1 : (List S36)
structure S24 where
 f0 : Int
 f1 : (List S27)
def k24 : Kd S24 := Kd.iso (Kd.pair (Kd.int .i64) (Kd.slice 27 k27)) (fun x : S24 => (x.f0,x.f1))
theorem k24_open {w : World} {x : S24} {cs : List Value} (h : k24.K w x cs) : ∃ A1 c1,cs = [.int .i64 x.f0,.slice A1 x.f1.length c1] ∧ x.f1.length ≤ c1 ∧ k27.C w A1 x.f1.length x.f1 := by
 obtain ⟨_,_,rfl,rfl,⟨A1,c1,rfl,l1,g1⟩⟩ := h
 exact ⟨A1,c1,rfl,l1,g1⟩
/-- What the library's package-level variables hold: carried by every walk that comes to them. -/
structure Tb (w : World) : Prop where
 pow : Lib.TabIs Tryz.prog w "internal/strconv.uint64pow10" .u64 Lib.pow10Tab
 es : ∃ ev,w.cell? ⟨0,0,none⟩ = some ev ∧ (ev = .nilIface ∨ ∃ te pe,ev = .iface te pe)
 er : ∃ ev,w.cell? ⟨1,0,none⟩ = some ev ∧ (ev = .nilIface ∨ ∃ te pe,ev = .iface te pe)
 ml : ∃ m,w.cell? ⟨3,0,none⟩ = some (.int .i64 m)
theorem gPow : Tryz.prog.globalNamed "internal/strconv.uint64pow10" = some 2 := by kernel_rfl
theorem var_block {P : Program} {w : World} {n : String} {cs : Array Value} {g : Nat} (hg : P.globalNamed n = some g) (h : w.var? P n = some cs) : g < w.heap.size := by
 unfold World.var? at h
 rw [hg] at h
 simp only [Option.bind_some] at h
 split at h
 ·rename_i hh
  exact (Array.getElem?_eq_some_iff.1 hh).1
 ·cases h
theorem Tb.below {w w' : World} (h : Tb w) (hb : Below w.heap.size w w') : Tb w' := by
 constructor
 ·exact var?_below hb gPow (var_block gPow h.pow) h.pow
 ·obtain ⟨ev,h1,h2⟩ := h.es; exact ⟨ev,pw_cell_below hb h1,h2⟩
 ·obtain ⟨ev,h1,h2⟩ := h.er; exact ⟨ev,pw_cell_below hb h1,h2⟩
 ·obtain ⟨m,h1⟩ := h.ml; exact ⟨m,pw_cell_below hb h1⟩
theorem Tb.drawn {w w' : World} (h : Tb w) (hd : y1 w w') : Tb w' := h.below hd.below
def okT27 (b : S27) : Prop := (fun l => l.length ≤ maxLen ∧ l.length * 16 ≤ 140737488351232 ∧ ∀ x ∈ l,(fun a => a.size ≤ 140737488351232) x) b.f0
def okT24 (b : S24) : Prop := (fun a => (Lit.int .i64 a).wf = true) b.f0 ∧ (fun l => l.length ≤ maxLen ∧ l.length * 24 ≤ 140737488351232 ∧ ∀ x ∈ l,okT27 x) b.f1
end Go.Proofs.YtkajecadkkgfmaaGreatDoor.Pe
end
section
namespace Go.Proofs.YtkajecadkkgfmaaGreatDoor.Pe
open Go.RowKit Go.Proofs.YtkajecadkkgfmaaGreatDoorW.PrintWords Go.Proofs.YtkajecadkkgfmaaGreatDoorW.PrintLast Go.Proofs.YtkajecadkkgfmaaGreatDoorW.PrintMore
attribute [local go_sem] max2_int min2_int max_two min_two max_three min_three max_four min_four   -- for this text's walks alone
set_option linter.unusedVariables false
set_option linter.unusedSimpArgs false
def laws_szStringS.l0 : Nat → List ByteArray → Int → Int → Option (Int)
 | 0,_,_,_ => none
 | k + 1,x0,x1,x5 => if x5 < (x0.length : Int) then (if 0 ≤ x5 then (if (wrap64 (x1 - ((rdOf ByteArray.empty x0 x5).size : Int))) < 0 then (some (-1)) else (laws_szStringS.l0 k x0 (wrap64 (x1 - ((rdOf ByteArray.empty x0 x5).size : Int))) (wrap64 (x5 + 1)))) else (none)) else (some x1)
def laws_szStringS.f (k : Nat) (l0 : List ByteArray) (a1 : Int) : Option (Int) := if (wrap64 (a1 - (l0.length : Int))) < 0 then (some (-1)) else (laws_szStringS.l0 k l0 (wrap64 (a1 - (l0.length : Int))) 0)
set_option maxHeartbeats 8000000 in
set_option maxRecDepth 100000 in
theorem laws_szStringS.calls (k : Nat) (A0 : Option Addr) (c0 : Nat) (l0 : List ByteArray) (a1 : Int) (r : Int) (w : World) (hr0 : Kd.C Kd.string w A0 l0.length l0) (hc0 : l0.length ≤ c0) (h : laws_szStringS.f k l0 a1 = some r) :
  Calls Tryz.prog 34 #[.slice A0 l0.length c0,.int .i64 a1] w fun e w' => e = .returned (.int .i64 r) ∧ y1 w w' := by
 have HR0 := y0.mk hr0
 have HC0 := y0.mk hc0
 clear hr0 hc0
 have H : (if (wrap64 (a1 - (l0.length : Int))) < 0 then (some (-1)) else (laws_szStringS.l0 k l0 (wrap64 (a1 - (l0.length : Int))) 0)) = some r := h
 clear h
 by_cases c3 : (wrap64 (a1 - (l0.length : Int))) < 0
 ·rw [if_pos c3] at H
  have c3b0 := decide_eq_true c3
  clear c3
  obtain rfl := Option.some.inj H
  go_enter Tryz.func34,Tryz.ntmps34
  go_wp2
  go_ret
  exact ⟨by first | rfl | (simp; done) | (simp [*]; done),by repeat (first | exact y1.refl _ | apply y1.step)⟩
 ·rw [if_neg c3] at H
  have c3b0 := decide_eq_false c3
  clear c3
  have H' := y0.mk H
  clear H
  go_enter Tryz.func34,Tryz.ntmps34
  go_wp2
  go_loopg [1,5] k (fun kq v1 v5 w' => ∃ (x1_1 : Int) (x5_1 : Int),v1 = .int .i64 x1_1 ∧ v5 = .int .i64 x5_1 ∧ y0 (laws_szStringS.l0 kq l0 x1_1 x5_1 = some r) ∧ y0 (kq ≤ k) ∧ y1 w w')
  case atStart => exact ⟨(wrap64 (a1 - (l0.length : Int))),(0),qy2,qy2,H',⟨Nat.le_refl _⟩,by repeat (first | exact y1.refl _ | apply y1.step)⟩
  case round =>
   clear H'
   (try clear c3b0)
   obtain ⟨x1_1,x5_1,rfl,rfl,HA,HK1,⟨m1,rfl⟩⟩ := hrel
   cases gk with
   | zero => exact absurd HA.out (by simp [laws_szStringS.l0])
   | succ k1 =>
    have H := HA.out
    clear HA
    simp only [laws_szStringS.l0] at H
    by_cases c4 : x5_1 < (l0.length : Int)
    ·rw [if_pos c4] at H
     have c4b0 := decide_eq_true c4
     clear c4
     obtain ⟨c5,H⟩ := qo H
     have c5b0 : decide (0 ≤ x5_1) = true := decide_eq_true c5
     clear c5
     by_cases c6 : (wrap64 (x1_1 - ((rdOf ByteArray.empty l0 x5_1).size : Int))) < 0
     ·rw [if_pos c6] at H
      have c6b0 := decide_eq_true c6
      clear c6
      obtain rfl := Option.some.inj H
      have p101 : 0 ≤ (x5_1 : Int) := of_decide_eq_true qy1
      have q101 : x5_1 < (l0.length : Int) := of_decide_eq_true qy1
      obtain ⟨ad101,e101,hx101_0⟩ := Kd.at_string HR0.out x5_1 p101 q101
      cases e101
      replace p101 := eq_true p101
      replace q101 := eq_true q101
      go_wp2
      go_ret
      exact ⟨by first | rfl | (simp; done) | (simp [*]; done),by repeat (first | exact y1.refl _ | apply y1.step)⟩
     ·rw [if_neg c6] at H
      have c6b0 := decide_eq_false c6
      clear c6
      have H' := y0.mk H
      clear H
      have p101 : 0 ≤ (x5_1 : Int) := of_decide_eq_true qy1
      have q101 : x5_1 < (l0.length : Int) := of_decide_eq_true qy1
      obtain ⟨ad101,e101,hx101_0⟩ := Kd.at_string HR0.out x5_1 p101 q101
      cases e101
      replace p101 := eq_true p101
      replace q101 := eq_true q101
      go_wp2
      go_roundg k1
      case measure => have := HK1.out; omega
      exact ⟨(wrap64 (x1_1 - ((rdOf ByteArray.empty l0 x5_1).size : Int))),(wrap64 (x5_1 + 1)),qy2,qy2,H',⟨by have := HK1.out; omega⟩,by repeat (first | exact y1.refl _ | apply y1.step)⟩
    ·rw [if_neg c4] at H
     have c4b0 := decide_eq_false c4
     clear c4
     obtain rfl := Option.some.inj H
     go_wp2
     go_ret
     exact ⟨by first | rfl | (simp; done) | (simp [*]; done),by repeat (first | exact y1.refl _ | apply y1.step)⟩
def laws_szTuple.f (k : Nat) (l0_0 : List ByteArray) (a1 : Int) : Option (Int) := (laws_szStringS.f k l0_0 a1).bind fun t103 => (if t103 < 0 then (some (-1)) else (some t103))
set_option maxHeartbeats 8000000 in
set_option maxRecDepth 100000 in
theorem laws_szTuple.calls (k : Nat) (A0_0 : Option Addr) (c0_0 : Nat) (l0_0 : List ByteArray) (a1 : Int) (r : Int) (w : World) (hr0_0 : Kd.C Kd.string w A0_0 l0_0.length l0_0) (hc0_0 : l0_0.length ≤ c0_0) (h : laws_szTuple.f k l0_0 a1 = some r) :
  Calls Tryz.prog 9 #[.agg #[.slice A0_0 l0_0.length c0_0],.int .i64 a1] w fun e w' => e = .returned (.int .i64 r) ∧ Below w.heap.size w w' := by
 have hu27 := Tryz.underlying27
 have HR0_0 := y0.mk hr0_0
 have HC0_0 := y0.mk hc0_0
 clear hr0_0 hc0_0
 have HB := y0.mk (Below.refl w.heap.size w)
 have H : ((laws_szStringS.f k l0_0 a1).bind fun t103 => (if t103 < 0 then (some (-1)) else (some t103))) = some r := h
 clear h
 obtain ⟨t103,A3,H⟩ := qB H
 by_cases c4 : t103 < 0
 ·rw [if_pos c4] at H
  have c4b0 := decide_eq_true c4
  clear c4
  obtain rfl := Option.some.inj H
  go_enter Tryz.func9,Tryz.ntmps9
  go_wp2_with (first | ((with_reducible refine y16 (N := 2) rfl ?_); refine qe 2 #[.slice A0_0 l0_0.length c0_0] 27 ?_; intro gb102 hg w5 hbox hb; have BK102 := y0.mk (hbox); have GW102 := y0.mk (qg (w := w) hg); have GE102 := y0.mk (qg (w := w) hg); replace HB := y0.mk (y6 qb hb); clear hb hbox hg; obtain ⟨hcz6_0,hfz6_0⟩ := qz1 BK102.out) | ((with_reducible refine y15 (f := 34) rfl ?_); refine y17 (some 8) rfl rfl Tryz.func34 (by kernel_rfl) rfl #[.slice A0_0 l0_0.length c0_0,.int .i64 a1] rfl qy0 ?_; (with_reducible refine (laws_szStringS.calls k _ _ l0_0 a1 t103 _ (qc (Kd.C_below HR0_0.out HB.out)) HC0_0.out A3.out).mono ?_); rintro e w' ⟨rfl,⟨nd,rfl⟩⟩; refine ⟨_,rfl, ?_⟩))
  go_ret
  exact ⟨by first | rfl | (simp [y13,y14] <;> rfl) | (simp [*,y13,y14] <;> rfl),qb⟩
 ·rw [if_neg c4] at H
  have c4b0 := decide_eq_false c4
  clear c4
  obtain rfl := Option.some.inj H
  go_enter Tryz.func9,Tryz.ntmps9
  go_wp2_with (first | ((with_reducible refine y16 (N := 2) rfl ?_); refine qe 2 #[.slice A0_0 l0_0.length c0_0] 27 ?_; intro gb102 hg w7 hbox hb; have BK102 := y0.mk (hbox); have GW102 := y0.mk (qg (w := w) hg); have GE102 := y0.mk (qg (w := w) hg); replace HB := y0.mk (y6 qb hb); clear hb hbox hg; obtain ⟨hcz8_0,hfz8_0⟩ := qz1 BK102.out) | ((with_reducible refine y15 (f := 34) rfl ?_); refine y17 (some 8) rfl rfl Tryz.func34 (by kernel_rfl) rfl #[.slice A0_0 l0_0.length c0_0,.int .i64 a1] rfl qy0 ?_; (with_reducible refine (laws_szStringS.calls k _ _ l0_0 a1 t103 _ (qc (Kd.C_below HR0_0.out HB.out)) HC0_0.out A3.out).mono ?_); rintro e w' ⟨rfl,⟨nd,rfl⟩⟩; refine ⟨_,rfl, ?_⟩))
  go_ret
  exact ⟨by first | rfl | (simp [y13,y14] <;> rfl) | (simp [*,y13,y14] <;> rfl),qb⟩
def laws_szTupleS.l0 : Nat → List (S27) → Int → Int → Option (Int)
 | 0,_,_,_ => none
 | k + 1,x0,x1,x5 => if x5 < (x0.length : Int) then (if 0 ≤ x5 then ((laws_szTuple.f k ((rd_T27 x0 x5).f0) x1).bind fun t105 => (if t105 < 0 then (some (-1)) else (laws_szTupleS.l0 k x0 t105 (wrap64 (x5 + 1))))) else (none)) else (some x1)
def laws_szTupleS.f (k : Nat) (l0 : List (S27)) (a1 : Int) : Option (Int) := if (wrap64 (a1 - (l0.length : Int))) < 0 then (some (-1)) else (laws_szTupleS.l0 k l0 (wrap64 (a1 - (l0.length : Int))) 0)
set_option maxHeartbeats 8000000 in
set_option maxRecDepth 100000 in
theorem laws_szTupleS.calls (k : Nat) (A0 : Option Addr) (c0 : Nat) (l0 : List (S27)) (a1 : Int) (r : Int) (w : World) (hr0 : Kd.C k27 w A0 l0.length l0) (hc0 : l0.length ≤ c0) (h : laws_szTupleS.f k l0 a1 = some r) :
  Calls Tryz.prog 33 #[.slice A0 l0.length c0,.int .i64 a1] w fun e w' => e = .returned (.int .i64 r) ∧ Below w.heap.size w w' := by
 have hu27 := Tryz.underlying27
 have HR0 := y0.mk hr0
 have HC0 := y0.mk hc0
 clear hr0 hc0
 have HB := y0.mk (Below.refl w.heap.size w)
 have H : (if (wrap64 (a1 - (l0.length : Int))) < 0 then (some (-1)) else (laws_szTupleS.l0 k l0 (wrap64 (a1 - (l0.length : Int))) 0)) = some r := h
 clear h
 by_cases c3 : (wrap64 (a1 - (l0.length : Int))) < 0
 ·rw [if_pos c3] at H
  have c3b0 := decide_eq_true c3
  clear c3
  obtain rfl := Option.some.inj H
  go_enter Tryz.func33,Tryz.ntmps33
  go_wp2
  go_ret
  exact ⟨by first | rfl | (simp [y13,y14] <;> rfl) | (simp [*,y13,y14] <;> rfl),qb⟩
 ·rw [if_neg c3] at H
  have c3b0 := decide_eq_false c3
  clear c3
  have H' := y0.mk H
  clear H
  go_enter Tryz.func33,Tryz.ntmps33
  go_wp2
  go_loopg [1,5] k (fun kq v1 v5 w' => ∃ (x1_1 : Int) (x5_1 : Int),v1 = .int .i64 x1_1 ∧ v5 = .int .i64 x5_1 ∧ y0 (laws_szTupleS.l0 kq l0 x1_1 x5_1 = some r) ∧ y0 (kq ≤ k) ∧ y0 (Below w.heap.size w w'))
  case atStart => exact ⟨(wrap64 (a1 - (l0.length : Int))),(0),qy2,qy2,H',⟨Nat.le_refl _⟩,⟨qb⟩⟩
  case round =>
   clear H'
   (try clear c3b0)
   obtain ⟨x1_1,x5_1,rfl,rfl,HA,HK1,HB⟩ := hrel
   cases gk with
   | zero => exact absurd HA.out (by simp [laws_szTupleS.l0])
   | succ k1 =>
    have H := HA.out
    clear HA
    simp only [laws_szTupleS.l0] at H
    by_cases c4 : x5_1 < (l0.length : Int)
    ·rw [if_pos c4] at H
     have c4b0 := decide_eq_true c4
     clear c4
     obtain ⟨c5,H⟩ := qo H
     have c5b0 : decide (0 ≤ x5_1) = true := decide_eq_true c5
     clear c5
     obtain ⟨t105,A6,H⟩ := qB H
     by_cases c7 : t105 < 0
     ·rw [if_pos c7] at H
      have c7b0 := decide_eq_true c7
      clear c7
      obtain rfl := Option.some.inj H
      have p104 : 0 ≤ (x5_1 : Int) := of_decide_eq_true qy1
      have q104 : x5_1 < (l0.length : Int) := of_decide_eq_true qy1
      obtain ⟨ad104,A104_0,c104_0,e104,hx104_0,hl104_0,hi104_0⟩ := at_T27 HR0.out x5_1 p104 q104
      cases e104
      replace hx104_0 := (HB.out.cell (World.block_lt_of_cell? w _ hx104_0)).trans hx104_0
      have HR104_0 := y0.mk hi104_0
      have HC104_0 := y0.mk hl104_0
      clear hi104_0 hl104_0
      replace p104 := eq_true p104
      replace q104 := eq_true q104
      go_wp2_with (first | ((with_reducible refine y15 (f := 9) rfl ?_); refine y17 (some 23) rfl rfl Tryz.func9 (by kernel_rfl) rfl #[.agg #[.slice A104_0 ((rd_T27 l0 x5_1).f0).length c104_0],.int .i64 x1_1] rfl qy0 ?_; (with_reducible refine (laws_szTuple.calls k1 _ _ ((rd_T27 l0 x5_1).f0) x1_1 t105 _ (qc (Kd.C_below HR104_0.out HB.out)) HC104_0.out A6.out).mono ?_); rintro e w8 ⟨rfl,hb⟩; refine ⟨_,rfl, ?_⟩; replace HB := y0.mk (y6 qb hb); (try clear hb); (try clear hb2); (try clear hk); (try clear hi)))
      go_ret
      exact ⟨by first | rfl | (simp [y13,y14] <;> rfl) | (simp [*,y13,y14] <;> rfl),qb⟩
     ·rw [if_neg c7] at H
      have c7b0 := decide_eq_false c7
      clear c7
      have H' := y0.mk H
      clear H
      have p104 : 0 ≤ (x5_1 : Int) := of_decide_eq_true qy1
      have q104 : x5_1 < (l0.length : Int) := of_decide_eq_true qy1
      obtain ⟨ad104,A104_0,c104_0,e104,hx104_0,hl104_0,hi104_0⟩ := at_T27 HR0.out x5_1 p104 q104
      cases e104
      replace hx104_0 := (HB.out.cell (World.block_lt_of_cell? w _ hx104_0)).trans hx104_0
      have HR104_0 := y0.mk hi104_0
      have HC104_0 := y0.mk hl104_0
      clear hi104_0 hl104_0
      replace p104 := eq_true p104
      replace q104 := eq_true q104
      go_wp2_with (first | ((with_reducible refine y15 (f := 9) rfl ?_); refine y17 (some 23) rfl rfl Tryz.func9 (by kernel_rfl) rfl #[.agg #[.slice A104_0 ((rd_T27 l0 x5_1).f0).length c104_0],.int .i64 x1_1] rfl qy0 ?_; (with_reducible refine (laws_szTuple.calls k1 _ _ ((rd_T27 l0 x5_1).f0) x1_1 t105 _ (qc (Kd.C_below HR104_0.out HB.out)) HC104_0.out A6.out).mono ?_); rintro e w9 ⟨rfl,hb⟩; refine ⟨_,rfl, ?_⟩; replace HB := y0.mk (y6 qb hb); (try clear hb); (try clear hb2); (try clear hk); (try clear hi)))
      go_roundg k1
      case measure => have := HK1.out; omega
      exact ⟨(t105),(wrap64 (x5_1 + 1)),qy2,qy2,H',⟨by have := HK1.out; omega⟩,⟨qb⟩⟩
    ·rw [if_neg c4] at H
     have c4b0 := decide_eq_false c4
     clear c4
     obtain rfl := Option.some.inj H
     go_wp2
     go_ret
     exact ⟨by first | rfl | (simp [y13,y14] <;> rfl) | (simp [*,y13,y14] <;> rfl),qb⟩
def laws_szRel.f (k : Nat) (a0_0 : Int) (l0_1 : List (S27)) (a1 : Int) : Option (Int) := (laws_szTupleS.f k l0_1 a1).bind fun t107 => (if t107 < 0 then (some (-1)) else (some t107))
set_option maxHeartbeats 8000000 in
set_option maxRecDepth 100000 in
theorem laws_szRel.calls (k : Nat) (a0_0 : Int) (A0_1 : Option Addr) (c0_1 : Nat) (l0_1 : List (S27)) (a1 : Int) (r : Int) (w : World) (hr0_1 : Kd.C k27 w A0_1 l0_1.length l0_1) (hc0_1 : l0_1.length ≤ c0_1) (h : laws_szRel.f k a0_0 l0_1 a1 = some r) :
  Calls Tryz.prog 8 #[.agg #[.int .i64 a0_0,.slice A0_1 l0_1.length c0_1],.int .i64 a1] w fun e w' => e = .returned (.int .i64 r) ∧ Below w.heap.size w w' := by
 have hu24 := Tryz.underlying24
 have HR0_1 := y0.mk hr0_1
 have HC0_1 := y0.mk hc0_1
 clear hr0_1 hc0_1
 have HB := y0.mk (Below.refl w.heap.size w)
 have H : ((laws_szTupleS.f k l0_1 a1).bind fun t107 => (if t107 < 0 then (some (-1)) else (some t107))) = some r := h
 clear h
 obtain ⟨t107,A3,H⟩ := qB H
 by_cases c4 : t107 < 0
 ·rw [if_pos c4] at H
  have c4b0 := decide_eq_true c4
  clear c4
  obtain rfl := Option.some.inj H
  go_enter Tryz.func8,Tryz.ntmps8
  go_wp2_with (first | ((with_reducible refine y16 (N := 2) rfl ?_); refine qe 2 #[.int .i64 a0_0,.slice A0_1 l0_1.length c0_1] 24 ?_; intro gb106 hg w5 hbox hb; have BK106 := y0.mk (hbox); have GW106 := y0.mk (qg (w := w) hg); have GE106 := y0.mk (qg (w := w) hg); replace HB := y0.mk (y6 qb hb); clear hb hbox hg; obtain ⟨hcz6_0,hcz6_1,hfz6_0,hfz6_1⟩ := qz2 BK106.out) | ((with_reducible refine y15 (f := 33) rfl ?_); refine y17 (some 8) rfl rfl Tryz.func33 (by kernel_rfl) rfl #[.slice A0_1 l0_1.length c0_1,.int .i64 a1] rfl qy0 ?_; (with_reducible refine (laws_szTupleS.calls k _ _ l0_1 a1 t107 _ (qc (Kd.C_below HR0_1.out HB.out)) HC0_1.out A3.out).mono ?_); rintro e w7 ⟨rfl,hb⟩; refine ⟨_,rfl, ?_⟩; replace BK106 := y0.mk (qK BK106.out hb); replace HB := y0.mk (y6 qb hb); (try clear hb); (try clear hb2); (try clear hk); (try clear hi)))
  go_ret
  exact ⟨by first | rfl | (simp [y13,y14] <;> rfl) | (simp [*,y13,y14] <;> rfl),qb⟩
 ·rw [if_neg c4] at H
  have c4b0 := decide_eq_false c4
  clear c4
  obtain rfl := Option.some.inj H
  go_enter Tryz.func8,Tryz.ntmps8
  go_wp2_with (first | ((with_reducible refine y16 (N := 2) rfl ?_); refine qe 2 #[.int .i64 a0_0,.slice A0_1 l0_1.length c0_1] 24 ?_; intro gb106 hg w8 hbox hb; have BK106 := y0.mk (hbox); have GW106 := y0.mk (qg (w := w) hg); have GE106 := y0.mk (qg (w := w) hg); replace HB := y0.mk (y6 qb hb); clear hb hbox hg; obtain ⟨hcz9_0,hcz9_1,hfz9_0,hfz9_1⟩ := qz2 BK106.out) | ((with_reducible refine y15 (f := 33) rfl ?_); refine y17 (some 8) rfl rfl Tryz.func33 (by kernel_rfl) rfl #[.slice A0_1 l0_1.length c0_1,.int .i64 a1] rfl qy0 ?_; (with_reducible refine (laws_szTupleS.calls k _ _ l0_1 a1 t107 _ (qc (Kd.C_below HR0_1.out HB.out)) HC0_1.out A3.out).mono ?_); rintro e w10 ⟨rfl,hb⟩; refine ⟨_,rfl, ?_⟩; replace BK106 := y0.mk (qK BK106.out hb); replace HB := y0.mk (y6 qb hb); (try clear hb); (try clear hb2); (try clear hk); (try clear hi)))
  go_ret
  exact ⟨by first | rfl | (simp [y13,y14] <;> rfl) | (simp [*,y13,y14] <;> rfl),qb⟩
def laws_toStringS.l0 : Nat → List ByteArray → List ByteArray → Int → Option (List ByteArray)
 | 0,_,_,_ => none
 | k + 1,x0,x3,x4 => if x4 < (x0.length : Int) then (if 0 ≤ x4 then (if x4 < (x3.length : Int) then (laws_toStringS.l0 k x0 (x3.set (x4 : Int).toNat (rdOf ByteArray.empty x0 x4)) (wrap64 (x4 + 1))) else (none)) else (none)) else (some x3)
def laws_toStringS.f (k : Nat) (l0 : List ByteArray) : Option (List ByteArray) := if 0 ≤ (l0.length : Int) then (if ((l0.length : Int) : Int).toNat ≤ 17592186044416 then (laws_toStringS.l0 k l0 (List.replicate ((l0.length : Int) : Int).toNat (⟨#[]⟩ : ByteArray)) 0) else (none)) else (none)
set_option maxHeartbeats 8000000 in
set_option maxRecDepth 100000 in
theorem laws_toStringS.calls (k : Nat) (A0 : Option Addr) (c0 : Nat) (l0 : List ByteArray) (r : List ByteArray) (w : World) (hr0 : Kd.C Kd.string w A0 l0.length l0) (hc0 : l0.length ≤ c0) (h : laws_toStringS.f k l0 = some r) :
  Calls Tryz.prog 39 #[.slice A0 l0.length c0] w fun e w' => ∃ v0_ : Value,e = .returned (v0_) ∧ Kd.R Kd.string 9 w' w.heap.size (fun _ => True) v0_ r ∧ Below w.heap.size w w' := by
 have HR0 := y0.mk hr0
 have HC0 := y0.mk hc0
 clear hr0 hc0
 have HB := y0.mk (Below.refl w.heap.size w)
 have H : (if 0 ≤ (l0.length : Int) then (if ((l0.length : Int) : Int).toNat ≤ 17592186044416 then (laws_toStringS.l0 k l0 (List.replicate ((l0.length : Int) : Int).toNat (⟨#[]⟩ : ByteArray)) 0) else (none)) else (none)) = some r := h
 clear h
 obtain ⟨c2,H⟩ := qo H
 have c2b0 := eq_true c2
 have c2b1 := decide_eq_true c2
 clear c2
 obtain ⟨c3,H⟩ := qo H
 have c3b0 := eq_true c3
 have c3b1 := decide_eq_true c3
 clear c3
 obtain ⟨y108,hy108⟩ : ∃ y_ : List ByteArray,y_ = (List.replicate ((l0.length : Int) : Int).toNat (⟨#[]⟩ : ByteArray)) := ⟨_,rfl⟩
 replace H : (laws_toStringS.l0 k l0 y108 0) = some r := by first | (rw [hy108]; with_reducible exact H) | (have H2_ := (Option.bind_some _ _).symm.trans H; rw [hy108]; with_reducible exact H2_) | (have H2_ := (Option.bind_some _ _).symm.trans H; with_reducible exact H2_) | with_reducible exact H | (rw [hy108]; exact H) | exact H
 have Ny108 := y0.mk hy108
 clear hy108
 have H' := y0.mk H
 clear H
 go_enter Tryz.func39,Tryz.ntmps39
 go_wp2_with (first | ((with_reducible refine y16 (N := 7) rfl ?_); refine Kd.R_make Kd.string _ 9 rfl (N := 7) rfl 25 _ _ rfl (l0.length : Int) rfl rfl Tryz.underlying25 (.string ⟨#[]⟩) 16 info9 rfl (by decide) (by omega) (⟨#[]⟩ : ByteArray) (ok := fun _ => True) (okp := fun _ => True) rfl (fun _ hk => hk) trivial (of_decide_eq_true qy1) (Nat.le_trans (Nat.mul_le_mul_right _ (of_decide_eq_true qy1 : (l0.length : Int).toNat ≤ 17592186044416)) (by omega)) (Below.refl _ _) (Nat.le_refl _) ?_; intro v109 w4 ho5 hb hg_ hnew_; clear hg_ hnew_; (first | rw [← Ny108.out] at ho5 | (simp only [Int.reduceToNat] at ho5; rw [← Ny108.out] at ho5)); have HO110 := y0.mk (Kd.R_lower ho5 (y5 qb)); replace HB := y0.mk (y6 qb hb); clear hb ho5))
 go_loopg [4] k (fun kq v4 w' => ∃ (x3_1 : List ByteArray) (x4_1 : Int),v4 = .int .i64 x4_1 ∧ y0 (laws_toStringS.l0 kq l0 x3_1 x4_1 = some r) ∧ y0 (kq ≤ k) ∧ y0 (Kd.R Kd.string 9 w' w.heap.size (fun _ => True) v109 x3_1) ∧ y0 (Below w.heap.size w w'))
 case atStart => exact ⟨(y108),(0),qy2,H',⟨Nat.le_refl _⟩,⟨qR HO110.out⟩,⟨qb⟩⟩
 case round =>
  clear H'
  (try clear c2b0 c2b1 c3b0 c3b1)
  obtain ⟨x3_1,x4_1,rfl,HA,HK1,HO_3,HB⟩ := hrel
  cases gk with
  | zero => exact absurd HA.out (by simp [laws_toStringS.l0])
  | succ k1 =>
   have H := HA.out
   clear HA
   simp only [laws_toStringS.l0] at H
   by_cases c6 : x4_1 < (l0.length : Int)
   ·rw [if_pos c6] at H
    have c6b0 := decide_eq_true c6
    clear c6
    obtain ⟨c7,H⟩ := qo H
    have c7b0 : decide (0 ≤ x4_1) = true := decide_eq_true c7
    clear c7
    obtain ⟨c8,H⟩ := qo H
    have c8b0 : decide (x4_1 < (x3_1.length : Int)) = true := decide_eq_true c8
    clear c8
    obtain ⟨y112,hy112⟩ : ∃ y_ : List ByteArray,y_ = (x3_1.set (x4_1 : Int).toNat (rdOf ByteArray.empty l0 x4_1)) := ⟨_,rfl⟩
    replace H : (laws_toStringS.l0 k1 l0 y112 (wrap64 (x4_1 + 1))) = some r := by first | (rw [hy112]; with_reducible exact H) | (have H2_ := (Option.bind_some _ _).symm.trans H; rw [hy112]; with_reducible exact H2_) | (have H2_ := (Option.bind_some _ _).symm.trans H; with_reducible exact H2_) | with_reducible exact H | (rw [hy112]; exact H) | exact H
    have Ny112 := y0.mk hy112
    clear hy112
    have H' := y0.mk H
    clear H
    have p111 : 0 ≤ (x4_1 : Int) := of_decide_eq_true qy1
    have q111 : x4_1 < (l0.length : Int) := of_decide_eq_true qy1
    obtain ⟨ad111,e111,hx111_0⟩ := Kd.at_string HR0.out x4_1 p111 q111
    cases e111
    replace hx111_0 := (HB.out.cell (World.block_lt_of_cell? w _ hx111_0)).trans hx111_0
    replace p111 := eq_true p111
    replace q111 := eq_true q111
    have p9 : 0 ≤ (x4_1 : Int) := of_decide_eq_true qy1
    have q9 : (x4_1 : Int) < ((x3_1.length : Int) : Int) := of_decide_eq_true qy1
    obtain ⟨go9,co9,eo9,gb9,gl9,cl9,HG9⟩ := Kd.R_form HO_3.out (by omega)
    (first | cases eo9 | (injection eo9 with ea_ en_ ec_; (first | subst ea_ | (injection ea_ with ea_; subst ea_)); subst ec_; clear en_))
    have GB9 := y0.mk gb9
    have GG9 := y0.mk HG9
    clear gb9 gl9 HG9
    obtain ⟨hx9_0,hf9_0⟩ := Kd.R_celln (⟨#[]⟩ : ByteArray) HO_3.out (x4_1 : Int) p9 q9
    replace p9 := eq_true p9
    replace q9 := eq_true q9
    have HP10 := Kd.R_putg HO_3.out (x4_1 : Int) (rdOf ByteArray.empty l0 x4_1)
    go_wp2_with (first | ((with_reducible refine gate_store (t := 9) (p := 20) rfl ?_); refine store_event (t := 9) (p := 20) (v := ?vo_w11) (w1 := (wr.setCell ⟨go9,(x4_1 : Int).toNat,none⟩ (.string (rdOf ByteArray.empty l0 x4_1)))) ?hg ?ho ?hn ?hr ?_; (case ho => rfl); (case hg => rfl); (case hn => rfl); (case hr => first | (go_simp; done) | (go_simp; rfl)); intro w11 hw; have hg : wr.grownBy w11 (some go9) := (by rw [hw]; exact HP10.2); have hp_ : Kd.R Kd.string 9 w11 w.heap.size (fun _ => True) (.slice (some ⟨go9,0,none⟩) x3_1.length co9) y112 := (by rw [hw,Ny112.out]; exact HP10.1); clear HP10; replace HO_3 := y0.mk (hp_); replace HB := y0.mk ((by rw [hw]; exact below_set (HB.out) GB9.out : Below w.heap.size w w11)); clear hg hw hp_))
    go_roundg k1
    case measure => have := HK1.out; omega
    exact ⟨(y112),(wrap64 (x4_1 + 1)),qy2,H',⟨by have := HK1.out; omega⟩,⟨qR HO_3.out⟩,⟨qb⟩⟩
   ·rw [if_neg c6] at H
    have c6b0 := decide_eq_false c6
    clear c6
    obtain rfl := Option.some.inj H
    go_wp2
    go_ret
    exact ⟨_,by first | rfl | (simp [y13,y14] <;> rfl) | (simp [*,y13,y14] <;> rfl),by (with_reducible repeat (first | apply Kd.R_alloc | apply Kd.R_drewN | apply Kd.R_drew)); exact HO_3.out,qb⟩
def laws_toTuple.f (k : Nat) (l0_0 : List ByteArray) : Option (List ByteArray) := (laws_toStringS.f k l0_0).bind fun t116 => (some t116)
set_option maxHeartbeats 8000000 in
set_option maxRecDepth 100000 in
theorem laws_toTuple.calls (k : Nat) (A0_0 : Option Addr) (c0_0 : Nat) (l0_0 : List ByteArray) (r : List ByteArray) (w : World) (hr0_0 : Kd.C Kd.string w A0_0 l0_0.length l0_0) (hc0_0 : l0_0.length ≤ c0_0) (h : laws_toTuple.f k l0_0 = some r) :
  Calls Tryz.prog 12 #[.agg #[.slice A0_0 l0_0.length c0_0]] w fun e w' => ∃ v0_ : Value,e = .returned (.agg #[v0_]) ∧ Kd.R Kd.string 9 w' w.heap.size (fun _ => True) v0_ r ∧ Below w.heap.size w w' := by
 have hu27 := Tryz.underlying27
 have hu36 := Tryz.underlying36
 have HR0_0 := y0.mk hr0_0
 have HC0_0 := y0.mk hc0_0
 clear hr0_0 hc0_0
 have HB := y0.mk (Below.refl w.heap.size w)
 have H : ((laws_toStringS.f k l0_0).bind fun t116 => (some t116)) = some r := h
 clear h
 obtain ⟨t116,A2,H⟩ := qB H
 obtain rfl := Option.some.inj H
 go_enter Tryz.func12,Tryz.ntmps12
 go_wp2_with (first | ((with_reducible refine y16 (N := 1) rfl ?_); refine qe 1 #[.slice A0_0 l0_0.length c0_0] 27 ?_; intro gb113 hg w3 hbox hb; have BK113 := y0.mk (hbox); have GW113 := y0.mk (qg (w := w) hg); have GE113 := y0.mk (qg (w := w) hg); replace HB := y0.mk (y6 qb hb); clear hb hbox hg) | ((with_reducible refine y16 (N := 2) rfl ?_); refine qe 2 #[.slice none 0 0] 36 ?_; intro gb114 hg w4 hbox hb; have BK114 := y0.mk (hbox); have GW114 := y0.mk (qg (w := w) hg); have GE114 := y0.mk (qg (w := w) hg); replace HB := y0.mk (y6 qb hb); have NB113_114 := y0.mk (qn BK113.out hg); have NB114_113 := y0.mk (qm BK113.out hg); replace BK113 := y0.mk (qK BK113.out hb); clear hb hbox hg) | ((with_reducible refine y16 (N := 3) rfl ?_); refine qe 3 #[.slice none 0 0] 36 ?_; intro gb115 hg w5 hbox hb; have BK115 := y0.mk (hbox); have GW115 := y0.mk (qg (w := w) hg); have GE115 := y0.mk (qg (w := w) hg); replace HB := y0.mk (y6 qb hb); have NB113_115 := y0.mk (qn BK113.out hg); have NB115_113 := y0.mk (qm BK113.out hg); replace BK113 := y0.mk (qK BK113.out hb); have NB114_115 := y0.mk (qn BK114.out hg); have NB115_114 := y0.mk (qm BK114.out hg); replace BK114 := y0.mk (qK BK114.out hb); clear hb hbox hg; have hnb6 := NB113_114.out; have hnc6 := NB114_113.out; have hnb7 := NB113_115.out; have hnc7 := NB115_113.out; obtain ⟨hcz8_0,hfz8_0⟩ := qz1 BK113.out) | ((with_reducible refine y15 (f := 39) rfl ?_); refine y17 (some 6) rfl rfl Tryz.func39 (by kernel_rfl) rfl #[.slice A0_0 l0_0.length c0_0] rfl qy0 ?_; (with_reducible refine (laws_toStringS.calls k _ _ l0_0 t116 _ (qc (Kd.C_below HR0_0.out HB.out)) HC0_0.out A2.out).mono ?_); rintro e w9 ⟨v117,rfl,ho0,hb⟩; refine ⟨_,rfl, ?_⟩; have HO118 := y0.mk (Kd.R_lower ho0 (y5 qb)); replace BK113 := y0.mk (qK BK113.out hb); replace BK114 := y0.mk (qK BK114.out hb); replace BK115 := y0.mk (qK BK115.out hb); replace HB := y0.mk (y6 qb hb); (try clear hb); (try clear hb2); (try clear hk); (try clear hi); (try clear ho0); obtain ⟨Ao10,co10,eo10⟩ := Kd.R_slice HO118.out; subst eo10; have hnb11 := NB115_114.out; have hnc11 := NB114_115.out; obtain ⟨hcz12_0,hfz12_0⟩ := qz1 BK115.out; obtain ⟨hcz13_0,hfz13_0⟩ := qz1 BK114.out))
 refine bodyPost_ret (results_cell_row rfl _ _ gb114 36 #[.slice Ao10 t116.length co10] (0,0) _ rfl (by (with_reducible repeat (first | refine y11 ?_ _ | refine y10 ?_ | refine y7 ?_ _)); refine blk_put (cs := #[.slice none 0 0]) ?_ 0 _ rfl; (with_reducible repeat (first | refine y11 ?_ _ | refine y10 ?_ | refine y7 ?_ _)); refine y12 ?_ NB114_115.out _; (with_reducible repeat (first | refine y11 ?_ _ | refine y10 ?_ | refine y7 ?_ _)); exact BK114.out) Tryz.underlying36 rfl (by kernel_rfl)) rfl ?_
 exact ⟨_,by first | rfl | (simp [y13,y14] <;> rfl) | (simp [*,y13,y14] <;> rfl),by (with_reducible repeat (first | apply Kd.R_alloc | apply Kd.R_drewN | apply Kd.R_drew)); exact Kd.R_mono (Kd.R_far (p := ⟨gb114,0,none⟩) (Kd.R_far (p := ⟨gb115,0,none⟩) (Kd.R_types (Kd.R_types HO118.out BK115.out (by decide)) BK114.out (by decide)) (fun _ hk => hk.1.2) (.slice Ao10 t116.length co10)) (fun _ hk => hk.2) (.slice Ao10 t116.length co10)) (fun _ hk => trivial),qb⟩
def laws_toTupleS.l0 : Nat → List (S27) → List (S36) → Int → Option ((List (S36)))
 | 0,_,_,_ => none
 | k + 1,x0,x3,x4 => if x4 < (x0.length : Int) then (if 0 ≤ x4 then ((laws_toTuple.f k ((rd_T27 x0 x4).f0)).bind fun t123 => (if x4 < (x3.length : Int) then (laws_toTupleS.l0 k x0 (x3.set (x4 : Int).toNat (⟨t123⟩ : S36)) (wrap64 (x4 + 1))) else (none))) else (none)) else (some x3)
def laws_toTupleS.f (k : Nat) (l0 : List (S27)) : Option ((List (S36))) := if 0 ≤ (l0.length : Int) then (if ((l0.length : Int) : Int).toNat ≤ 11728124029610 then (laws_toTupleS.l0 k l0 (List.replicate ((l0.length : Int) : Int).toNat z36) 0) else (none)) else (none)
set_option maxHeartbeats 8000000 in
set_option maxRecDepth 100000 in
theorem laws_toTupleS.calls (k : Nat) (A0 : Option Addr) (c0 : Nat) (l0 : List (S27)) (r : List (S36)) (w : World) (hr0 : Kd.C k27 w A0 l0.length l0) (hc0 : l0.length ≤ c0) (h : laws_toTupleS.f k l0 = some r) :
  Calls Tryz.prog 38 #[.slice A0 l0.length c0] w fun e w' => ∃ v0_ : Value,e = .returned (v0_) ∧ Kd.S k36 36 w' w.heap.size (fun _ => True) v0_ r ∧ Below w.heap.size w w' := by
 have hu27 := Tryz.underlying27
 have hu36 := Tryz.underlying36
 have HR0 := y0.mk hr0
 have HC0 := y0.mk hc0
 clear hr0 hc0
 have HB := y0.mk (Below.refl w.heap.size w)
 have H : (if 0 ≤ (l0.length : Int) then (if ((l0.length : Int) : Int).toNat ≤ 11728124029610 then (laws_toTupleS.l0 k l0 (List.replicate ((l0.length : Int) : Int).toNat z36) 0) else (none)) else (none)) = some r := h
 clear h
 obtain ⟨c2,H⟩ := qo H
 have c2b0 := eq_true c2
 have c2b1 := decide_eq_true c2
 clear c2
 obtain ⟨c3,H⟩ := qo H
 have c3b0 := eq_true c3
 have c3b1 := decide_eq_true c3
 clear c3
 obtain ⟨y119,hy119⟩ : ∃ y_ : List (S36),y_ = (List.replicate ((l0.length : Int) : Int).toNat z36) := ⟨_,rfl⟩
 replace H : (laws_toTupleS.l0 k l0 y119 0) = some r := by first | (rw [hy119]; with_reducible exact H) | (have H2_ := (Option.bind_some _ _).symm.trans H; rw [hy119]; with_reducible exact H2_) | (have H2_ := (Option.bind_some _ _).symm.trans H; with_reducible exact H2_) | with_reducible exact H | (rw [hy119]; exact H) | exact H
 have Ny119 := y0.mk hy119
 clear hy119
 have H' := y0.mk H
 clear H
 go_enter Tryz.func38,Tryz.ntmps38
 go_wp2_with (first | ((with_reducible refine y16 (N := 7) rfl ?_); refine Kd.S_make k36 _ 36 rfl (N := 7) rfl 30 _ _ rfl (l0.length : Int) rfl rfl Tryz.underlying30 (.agg #[(.slice none 0 0)]) 24 info36 rfl (by decide) (by omega) z36 (ok := fun _ => True) (okp := fun _ => True) (k36_mkM _ _ _ z36 (Kd.R_nil _ _ _ _ _)) (fun _ hk => hk) trivial (of_decide_eq_true qy1) (Nat.le_trans (Nat.mul_le_mul_right _ (of_decide_eq_true qy1 : (l0.length : Int).toNat ≤ 11728124029610)) (by omega)) (Below.refl _ _) (Nat.le_refl _) ?_; intro v120 w4 ho5 hb hg_ hnew_; clear hg_ hnew_; (first | rw [← Ny119.out] at ho5 | (simp only [Int.reduceToNat] at ho5; rw [← Ny119.out] at ho5)); have HO121 := y0.mk (Kd.S_lower ho5 (y5 qb)); replace HB := y0.mk (y6 qb hb); clear hb ho5))
 go_loopg [4] k (fun kq v4 w' => ∃ (x3_1 : List (S36)) (x4_1 : Int),v4 = .int .i64 x4_1 ∧ y0 (laws_toTupleS.l0 kq l0 x3_1 x4_1 = some r) ∧ y0 (kq ≤ k) ∧ y0 (Kd.S k36 36 w' w.heap.size (fun _ => True) v120 x3_1) ∧ y0 (Below w.heap.size w w'))
 case atStart => exact ⟨(y119),(0),qy2,H',⟨Nat.le_refl _⟩,⟨qS HO121.out⟩,⟨qb⟩⟩
 case round =>
  clear H'
  (try clear c2b0 c2b1 c3b0 c3b1)
  obtain ⟨x3_1,x4_1,rfl,HA,HK1,HO_3,HB⟩ := hrel
  cases gk with
  | zero => exact absurd HA.out (by simp [laws_toTupleS.l0])
  | succ k1 =>
   have H := HA.out
   clear HA
   simp only [laws_toTupleS.l0] at H
   by_cases c6 : x4_1 < (l0.length : Int)
   ·rw [if_pos c6] at H
    have c6b0 := decide_eq_true c6
    clear c6
    obtain ⟨c7,H⟩ := qo H
    have c7b0 : decide (0 ≤ x4_1) = true := decide_eq_true c7
    clear c7
    obtain ⟨t123,A8,H⟩ := qB H
    obtain ⟨c9,H⟩ := qo H
    have c9b0 : decide (x4_1 < (x3_1.length : Int)) = true := decide_eq_true c9
    clear c9
    obtain ⟨y126,hy126⟩ : ∃ y_ : List (S36),y_ = (x3_1.set (x4_1 : Int).toNat (⟨t123⟩ : S36)) := ⟨_,rfl⟩
    replace H : (laws_toTupleS.l0 k1 l0 y126 (wrap64 (x4_1 + 1))) = some r := by first | (rw [hy126]; with_reducible exact H) | (have H2_ := (Option.bind_some _ _).symm.trans H; rw [hy126]; with_reducible exact H2_) | (have H2_ := (Option.bind_some _ _).symm.trans H; with_reducible exact H2_) | with_reducible exact H | (rw [hy126]; exact H) | exact H
    have Ny126 := y0.mk hy126
    clear hy126
    have H' := y0.mk H
    clear H
    have p122 : 0 ≤ (x4_1 : Int) := of_decide_eq_true qy1
    have q122 : x4_1 < (l0.length : Int) := of_decide_eq_true qy1
    obtain ⟨ad122,A122_0,c122_0,e122,hx122_0,hl122_0,hi122_0⟩ := at_T27 HR0.out x4_1 p122 q122
    cases e122
    replace hx122_0 := (HB.out.cell (World.block_lt_of_cell? w _ hx122_0)).trans hx122_0
    have HR122_0 := y0.mk hi122_0
    have HC122_0 := y0.mk hl122_0
    clear hi122_0 hl122_0
    replace p122 := eq_true p122
    replace q122 := eq_true q122
    go_wp2_with (first | ((with_reducible refine y15 (f := 12) rfl ?_); refine y17 (some 20) rfl rfl Tryz.func12 (by kernel_rfl) rfl #[.agg #[.slice A122_0 ((rd_T27 l0 x4_1).f0).length c122_0]] rfl qy0 ?_; (with_reducible refine (laws_toTuple.calls k1 _ _ ((rd_T27 l0 x4_1).f0) t123 _ (qc (Kd.C_below HR122_0.out HB.out)) HC122_0.out A8.out).mono ?_); rintro e w11 ⟨v124,rfl,ho0,hb⟩; refine ⟨_,rfl, ?_⟩; replace HO_3 := y0.mk (Kd.S_elder' (qS HO_3.out) (Kd.R_base ho0) hb); have HO125 := y0.mk (Kd.R_lower ho0 (y5 qb)); replace HB := y0.mk (y6 qb hb); (try clear hb); (try clear hb2); (try clear hk); (try clear hi); (try clear ho0); have p10 : 0 ≤ (x4_1 : Int) := of_decide_eq_true qy1; have q10 : (x4_1 : Int) < ((x3_1.length : Int) : Int) := of_decide_eq_true qy1; obtain ⟨go10,co10,eo10,gb10,gl10,cl10,HG10⟩ := Kd.S_form HO_3.out (by omega); (first | cases eo10 | (injection eo10 with ea_ en_ ec_; (first | subst ea_ | (injection ea_ with ea_; subst ea_)); subst ec_; clear en_)); have GB10 := y0.mk gb10; have GG10 := y0.mk HG10; clear gb10 gl10 HG10; obtain ⟨_,ce10,hcl10,hM10,hcc10,hfr10,_,_⟩ := Kd.S_elem HO_3.out z36 (x4_1 : Int) p10 q10; obtain ⟨ve10_0,rfl,ge10_0⟩ := k36_openM hM10; have hx10_0 := hcc10 0 _ rfl; have hf10_0 := hfr10 0; (try simp only [show (k36).sz = 1 from rfl,Nat.mul_one,Nat.add_zero] at hx10_0); (try simp only [show (k36).sz = 1 from rfl,Nat.mul_one,Nat.add_zero] at hf10_0); clear hcl10 hcc10 hfr10 hM10; replace p10 := eq_true p10; replace q10 := eq_true q10; have n_ := y0.mk (Kd.S_mono (ok' := (fun k_ => some k_ ≠ (v124 : Value).ownBlock)) HO_3.out (fun k_ hk => hk.2)); clear HO_3; have HO_3 := n_; clear n_; have HX12 := y0.mk (show Kd.S k36 36 w11 w.heap.size (fun k_ => ((fun _ => True)) k_ ∧ ¬ ((fun k_ => some k_ = (v124 : Value).ownBlock)) k_) (.slice (some ⟨go10,0,none⟩) x3_1.length co10) x3_1 from (qS (Kd.S_mono HO_3.out (fun k_ hk => ⟨trivial,fun e_ => hk e_⟩)))); obtain ⟨oki12,ce12,hcl12,hM12,hcc12,hfr12,hoki12,hH12⟩ := Kd.S_elem HX12.out z36 (x4_1 : Int) (of_decide_eq_true qy1) (by have h_ : (x4_1 : Int) < ((x3_1.length : Int) : Int) := of_decide_eq_true qy1; first | exact h_ | (have e_ := (Kd.S_reads' HO_3.out).1; omega) | simpa using h_); obtain ⟨ve12_0,rfl,ge12_0⟩ := k36_openM hM12; have HP12 := Kd.S_seg hH12 (of_decide_eq_true qy1) (by have h_ : (x4_1 : Int) < ((x3_1.length : Int) : Int) := of_decide_eq_true qy1; first | exact h_ | (have e_ := (Kd.S_reads' HO_3.out).1; omega) | simpa using h_) (seg := [v124]) (j := 0) (show 1 ≤ 1 from by decide) (x' := (⟨t123⟩ : S36)) (k36_mkM _ _ _ (⟨t123⟩ : S36) (Kd.R_mono (Kd.R_tight rfl (Kd.R_mono (ok' := fun k_ => ((fun _ => True)) k_ ∧ k_ ≠ go10) (Kd.R_apart' (HO125.out) (Kd.S_typed HO_3.out) (by decide)) (fun k_ hk => ⟨trivial,fun e_ => (hk.2) (by rw [e_]; rfl)⟩))) (fun _ h_ => Or.inr (h_)))) (fun _ hk => hk) (fun k_ hk_ => ((Kd.R_mono (ok' := fun k_ => ((fun _ => True)) k_ ∧ k_ ≠ go10) (Kd.R_apart' (HO125.out) (Kd.S_typed HO_3.out) (by decide)) (fun k_ hk => ⟨trivial,fun e_ => (hk.2) (by rw [e_]; rfl)⟩))).1 k_ hk_.symm); have hx12_0 := hcc12 0 _ rfl; (try simp only [show (k36).sz = 1 from rfl,Nat.mul_one,Nat.add_zero] at hx12_0); have hf12_0 := hfr12 0; (try simp only [show (k36).sz = 1 from rfl,Nat.mul_one,Nat.add_zero] at hf12_0); clear hcl12 hcc12 hfr12 hM12 hoki12 hH12; (try simp only [show (k36).sz = 1 from rfl,Nat.mul_one,Nat.add_zero] at HP12)) | ((with_reducible refine gate_store (t := 36) (p := 21) rfl ?_); refine store_event (t := 36) (p := 21) (v := ?vo_w13) (w1 := (w11.setCell ⟨go10,(x4_1 : Int).toNat,none⟩ (v124))) ?hg ?ho ?hn ?hr ?_; (case ho => rfl); (case hg => rfl); (case hn => rfl); (case hr => (first | (obtain ⟨_,_,eo_⟩ := Kd.R_slice HO125.out; subst eo_) | (obtain ⟨_,_,eo_⟩ := Kd.S_slice HO125.out; subst eo_) | (obtain ⟨_,_,eo_⟩ := Kd.N_slice HO125.out; subst eo_) | skip); first | (go_simp; done) | (go_simp; rfl)); intro w13 hw; have hg : w11.grownBy w13 (some go10) := (by rw [hw]; exact HP12.2); have hp_ : Kd.S k36 36 w13 w.heap.size (fun _ => True) (.slice (some ⟨go10,0,none⟩) x3_1.length co10) y126 := (by rw [hw,Ny126.out]; exact HP12.1); clear HP12; replace HO_3 := y0.mk (hp_); replace HB := y0.mk ((by rw [hw]; exact below_set (HB.out) GB10.out : Below w.heap.size w w13)); clear HO125; clear hg hw hp_))
    go_roundg k1
    case measure => have := HK1.out; omega
    exact ⟨(y126),(wrap64 (x4_1 + 1)),qy2,H',⟨by have := HK1.out; omega⟩,⟨qS HO_3.out⟩,⟨qb⟩⟩
   ·rw [if_neg c6] at H
    have c6b0 := decide_eq_false c6
    clear c6
    obtain rfl := Option.some.inj H
    go_wp2
    go_ret
    exact ⟨_,by first | rfl | (simp [y13,y14] <;> rfl) | (simp [*,y13,y14] <;> rfl),by (with_reducible repeat (first | apply Kd.S_alloc | apply Kd.S_drewN | apply Kd.S_drew)); exact HO_3.out,qb⟩
end Go.Proofs.YtkajecadkkgfmaaGreatDoor.Pe
end
section
namespace Go.Proofs.YtkajecadkkgfmaaGreatDoor.Pe
open Go.RowKit Go.Proofs.YtkajecadkkgfmaaGreatDoorW.PrintWords Go.Proofs.YtkajecadkkgfmaaGreatDoorW.PrintLast Go.Proofs.YtkajecadkkgfmaaGreatDoorW.PrintMore
attribute [local go_sem] max2_int min2_int max_two min_two max_three min_three max_four min_four   -- for this text's walks alone
set_option linter.unusedVariables false
set_option linter.unusedSimpArgs false
def laws_toRel.f (k : Nat) (a0_0 : Int) (l0_1 : List (S27)) : Option (Int × (List (S36))) := (laws_toTupleS.f k l0_1).bind fun t130 => (some (a0_0,t130))
set_option maxHeartbeats 8000000 in
set_option maxRecDepth 100000 in
theorem laws_toRel.calls (k : Nat) (a0_0 : Int) (A0_1 : Option Addr) (c0_1 : Nat) (l0_1 : List (S27)) (r1 : Int) (r2 : List (S36)) (w : World) (hr0_1 : Kd.C k27 w A0_1 l0_1.length l0_1) (hc0_1 : l0_1.length ≤ c0_1) (h : laws_toRel.f k a0_0 l0_1 = some (r1,r2)) :
  Calls Tryz.prog 11 #[.agg #[.int .i64 a0_0,.slice A0_1 l0_1.length c0_1]] w fun e w' => ∃ v1_ : Value,e = .returned (.agg #[.int .i64 r1,v1_]) ∧ Kd.S k36 36 w' w.heap.size (fun _ => True) v1_ r2 ∧ Below w.heap.size w w' := by
 have hu24 := Tryz.underlying24
 have hu32 := Tryz.underlying32
 have HR0_1 := y0.mk hr0_1
 have HC0_1 := y0.mk hc0_1
 clear hr0_1 hc0_1
 have HB := y0.mk (Below.refl w.heap.size w)
 have H : ((laws_toTupleS.f k l0_1).bind fun t130 => (some (a0_0,t130))) = some (r1,r2) := h
 clear h
 obtain ⟨t130,A2,H⟩ := qB H
 simp only [Option.some.injEq,Prod.mk.injEq] at H
 obtain ⟨rfl,rfl⟩ := H
 go_enter Tryz.func11,Tryz.ntmps11
 go_wp2_with (first | ((with_reducible refine y16 (N := 1) rfl ?_); refine qe 1 #[.int .i64 a0_0,.slice A0_1 l0_1.length c0_1] 24 ?_; intro gb127 hg w3 hbox hb; have BK127 := y0.mk (hbox); have GW127 := y0.mk (qg (w := w) hg); have GE127 := y0.mk (qg (w := w) hg); replace HB := y0.mk (y6 qb hb); clear hb hbox hg) | ((with_reducible refine y16 (N := 2) rfl ?_); refine qe 2 #[.int .i64 0,.slice none 0 0] 32 ?_; intro gb128 hg w4 hbox hb; have BK128 := y0.mk (hbox); have GW128 := y0.mk (qg (w := w) hg); have GE128 := y0.mk (qg (w := w) hg); replace HB := y0.mk (y6 qb hb); have NB127_128 := y0.mk (qn BK127.out hg); have NB128_127 := y0.mk (qm BK127.out hg); replace BK127 := y0.mk (qK BK127.out hb); clear hb hbox hg) | ((with_reducible refine y16 (N := 3) rfl ?_); refine qe 3 #[.int .i64 0,.slice none 0 0] 32 ?_; intro gb129 hg w5 hbox hb; have BK129 := y0.mk (hbox); have GW129 := y0.mk (qg (w := w) hg); have GE129 := y0.mk (qg (w := w) hg); replace HB := y0.mk (y6 qb hb); have NB127_129 := y0.mk (qn BK127.out hg); have NB129_127 := y0.mk (qm BK127.out hg); replace BK127 := y0.mk (qK BK127.out hb); have NB128_129 := y0.mk (qn BK128.out hg); have NB129_128 := y0.mk (qm BK128.out hg); replace BK128 := y0.mk (qK BK128.out hb); clear hb hbox hg; have hnb6 := NB127_128.out; have hnc6 := NB128_127.out; have hnb7 := NB127_129.out; have hnc7 := NB129_127.out; obtain ⟨hcz8_0,hcz8_1,hfz8_0,hfz8_1⟩ := qz2 BK127.out; have hnb9 := NB129_128.out; have hnc9 := NB128_129.out; obtain ⟨hcz10_0,hcz10_1,hfz10_0,hfz10_1⟩ := qz2 BK129.out) | ((with_reducible refine y15 (f := 38) rfl ?_); refine y17 (some 9) rfl rfl Tryz.func38 (by kernel_rfl) rfl #[.slice A0_1 l0_1.length c0_1] rfl qy0 ?_; (with_reducible refine (laws_toTupleS.calls k _ _ l0_1 t130 _ (by exact Kd.C_below HR0_1.out qb) HC0_1.out A2.out).mono ?_); rintro e w11 ⟨v131,rfl,ho0,hb⟩; refine ⟨_,rfl, ?_⟩; have HO132 := y0.mk (Kd.S_lower ho0 (y5 qb)); replace BK127 := y0.mk (y8 (g := gb127) (o := .cells #[.int .i64 a0_0,.slice A0_1 l0_1.length c0_1] 24 (0,0)) (by (with_reducible repeat (first | refine y11 ?_ _ | refine y10 ?_ | refine y7 ?_ _)); refine y12 ?_ NB127_129.out _; (with_reducible repeat (first | refine y11 ?_ _ | refine y10 ?_ | refine y7 ?_ _)); exact BK127.out) hb); replace BK128 := y0.mk (y8 (g := gb128) (o := .cells #[.int .i64 0,.slice none 0 0] 32 (0,0)) (by (with_reducible repeat (first | refine y11 ?_ _ | refine y10 ?_ | refine y7 ?_ _)); refine y12 ?_ NB128_129.out _; (with_reducible repeat (first | refine y11 ?_ _ | refine y10 ?_ | refine y7 ?_ _)); exact BK128.out) hb); replace BK129 := y0.mk (y8 (g := gb129) (o := .cells #[.int .i64 a0_0,.slice none 0 0] 32 (0,0)) (by (with_reducible repeat (first | refine y11 ?_ _ | refine y10 ?_ | refine y7 ?_ _)); refine blk_put (cs := #[.int .i64 0,.slice none 0 0]) ?_ 0 _ rfl; (with_reducible repeat (first | refine y11 ?_ _ | refine y10 ?_ | refine y7 ?_ _)); exact BK129.out) hb); replace HB := y0.mk (y6 qb hb); (try clear hb); (try clear hb2); (try clear hk); (try clear hi); (try clear ho0); obtain ⟨Ao12,co12,eo12⟩ := Kd.S_slice HO132.out; subst eo12; obtain ⟨hcz13_0,hcz13_1,hfz13_0,hfz13_1⟩ := qz2 BK129.out; obtain ⟨hcz14_0,hcz14_1,hfz14_0,hfz14_1⟩ := qz2 BK128.out))
 refine bodyPost_ret (results_cell_row rfl _ _ gb128 32 #[.int .i64 a0_0,.slice Ao12 t130.length co12] (0,0) _ rfl (by (with_reducible repeat (first | refine y11 ?_ _ | refine y10 ?_ | refine y7 ?_ _)); refine blk_put (cs := #[.int .i64 a0_0,.slice none 0 0]) ?_ 1 _ rfl; (with_reducible repeat (first | refine y11 ?_ _ | refine y10 ?_ | refine y7 ?_ _)); refine blk_put (cs := #[.int .i64 0,.slice none 0 0]) ?_ 0 _ rfl; (with_reducible repeat (first | refine y11 ?_ _ | refine y10 ?_ | refine y7 ?_ _)); refine y12 ?_ NB128_129.out _; (with_reducible repeat (first | refine y11 ?_ _ | refine y10 ?_ | refine y7 ?_ _)); exact BK128.out) Tryz.underlying32 rfl (by kernel_rfl)) rfl ?_
 exact ⟨_,by first | rfl | (simp [y13,y14] <;> rfl) | (simp [*,y13,y14] <;> rfl),by (with_reducible repeat (first | apply Kd.S_alloc | apply Kd.S_drewN | apply Kd.S_drew)); exact Kd.S_mono (Kd.S_far (p := ⟨gb128,1,none⟩) (Kd.S_far (p := ⟨gb128,0,none⟩) (Kd.S_far (p := ⟨gb129,1,none⟩) (Kd.S_types (Kd.S_types HO132.out BK129.out (by decide)) BK128.out (by decide)) (fun _ hk => hk.1.2) (.slice Ao12 t130.length co12)) (fun _ hk => hk.2) (.int .i64 a0_0)) (fun _ hk => hk.2) (.slice Ao12 t130.length co12)) (fun _ hk => trivial),qb⟩
def spec_l01Between.f (a0 : Int) (a1 : Int) (a2 : Int) : Option (Bool) := if a0 ≥ a1 then (some (decide (a0 ≤ a2))) else (some false)
set_option maxHeartbeats 8000000 in
set_option maxRecDepth 100000 in
theorem spec_l01Between.calls (a0 : Int) (a1 : Int) (a2 : Int) (r : Bool) (w : World) (h : spec_l01Between.f a0 a1 a2 = some r) :
  Calls Tryz.prog 56 #[.int .i64 a0,.int .i64 a1,.int .i64 a2] w fun e w' => e = .returned (.bool r) ∧ y1 w w' := by
 have H : (if a0 ≥ a1 then (some (decide (a0 ≤ a2))) else (some false)) = some r := h
 clear h
 by_cases c4 : a0 ≥ a1
 ·rw [if_pos c4] at H
  have c4b0 : decide (a1 ≤ a0) = true := decide_eq_true c4
  clear c4
  obtain rfl := Option.some.inj H
  go_enter Tryz.func56,Tryz.ntmps56
  go_wp2
  go_ret
  exact ⟨by first | rfl | (simp; done) | (simp [*]; done),by repeat (first | exact y1.refl _ | apply y1.step)⟩
 ·rw [if_neg c4] at H
  have c4b0 : decide (a1 ≤ a0) = false := decide_eq_false c4
  clear c4
  obtain rfl := Option.some.inj H
  go_enter Tryz.func56,Tryz.ntmps56
  go_wp2
  go_ret
  exact ⟨by first | rfl | (simp; done) | (simp [*]; done),by repeat (first | exact y1.refl _ | apply y1.step)⟩
def spec_NumText.l0 : Nat → Int → List Int → Int → Option (ByteArray)
 | 0,_,_,_ => none
 | k + 1,x0,x3,x4 => if x4 = 0 then (if x0 < 0 then ((some (([45] : List Int) : List Int)).bind fun y136 => (if y136.length + x3.length < 140737488355328 then (some (strOfNums (y136 ++ x3))) else (none))) else (some (strOfNums x3))) else (if (Int.tmod x4 10) < 0 then ((some (([(wrap64 (48 + (wrap64 (-(Int.tmod x4 10))))) % 256] : List Int) : List Int)).bind fun y142 => (if y142.length + x3.length < 140737488355328 then (spec_NumText.l0 k x0 (y142 ++ x3) (wrap64 (Int.tdiv x4 10))) else (none))) else ((some (([(wrap64 (48 + (Int.tmod x4 10))) % 256] : List Int) : List Int)).bind fun y148 => (if y148.length + x3.length < 140737488355328 then (spec_NumText.l0 k x0 (y148 ++ x3) (wrap64 (Int.tdiv x4 10))) else (none))))
def spec_NumText.f (k : Nat) (a0 : Int) : Option (ByteArray) := if a0 = 0 then (some (⟨#[48]⟩ : ByteArray)) else (spec_NumText.l0 k a0 (([] : List Int)) a0)
set_option maxHeartbeats 8000000 in
set_option maxRecDepth 100000 in
theorem spec_NumText.calls (k : Nat) (a0 : Int) (r : ByteArray) (w : World) (h : spec_NumText.f k a0 = some r) :
  Calls Tryz.prog 81 #[.int .i64 a0] w fun e w' => e = .returned (.string r) ∧ Below w.heap.size w w' := by
 have HB := y0.mk (Below.refl w.heap.size w)
 have H : (if a0 = 0 then (some (⟨#[48]⟩ : ByteArray)) else (spec_NumText.l0 k a0 (([] : List Int)) a0)) = some r := h
 clear h
 by_cases c2 : a0 = 0
 ·rw [if_pos c2] at H
  have c2b0 : (a0 == 0) = true := beq_iff_eq.mpr c2
  have c2b1 : (a0 != 0) = false := bne_eq_false_iff_eq.mpr c2
  clear c2
  obtain rfl := Option.some.inj H
  go_enter Tryz.func81,Tryz.ntmps81
  go_wp2
  go_ret
  exact ⟨by first | rfl | (simp [y13,y14] <;> rfl) | (simp [*,y13,y14] <;> rfl),qb⟩
 ·rw [if_neg c2] at H
  have c2b0 : (a0 == 0) = false := beq_eq_false_iff_ne.mpr c2
  have c2b1 : (a0 != 0) = true := bne_iff_ne.mpr c2
  obtain ⟨y133,hy133⟩ : ∃ y_ : List Int,y_ = (([] : List Int)) := ⟨_,rfl⟩
  replace H : (spec_NumText.l0 k a0 y133 a0) = some r := by first | (rw [hy133]; with_reducible exact H) | (have H2_ := (Option.bind_some _ _).symm.trans H; rw [hy133]; with_reducible exact H2_) | (have H2_ := (Option.bind_some _ _).symm.trans H; with_reducible exact H2_) | with_reducible exact H | (rw [hy133]; exact H) | exact H
  have Ny133 := y0.mk hy133
  clear hy133
  have H' := y0.mk H
  clear H
  go_enter Tryz.func81,Tryz.ntmps81
  go_wp2_with (first | ((with_reducible refine y16 (N := 8) rfl ?_); refine Kd.R_lit (Kd.int .u8) _ 5 ?hg (N := 8) ?hd (xs := ([] : List Int)) (inner := []) (ok := fun _ => True) (okp := fun _ => True) ?hr ?hp (fun _ hk => hk) trivial (Below.refl _ _) (Nat.le_refl _) (by simp) ?_; (case hd => rfl); (case hg => rfl); (case hr => first | (go_simp; done) | (go_simp; rfl)); (case hp => exact (Reps.none _ _)); intro v134 w3 ho4 hb hg_ hnew_; clear hg_ hnew_; (first | rw [← Ny133.out] at ho4 | (simp only [Int.reduceToNat] at ho4; rw [← Ny133.out] at ho4)); have HO135 := y0.mk (Kd.R_lower ho4 (y5 qb)); replace HB := y0.mk (y6 qb hb); clear hb ho4))
  go_loopg [3,4] k (fun kq v3 v4 w' => ∃ (x3_1 : List Int) (x4_1 : Int),v4 = .int .i64 x4_1 ∧ y0 (spec_NumText.l0 kq a0 x3_1 x4_1 = some r) ∧ y0 (kq ≤ k) ∧ y0 (Kd.R (Kd.int .u8) 5 w' w.heap.size (fun _ => True) v3 x3_1) ∧ y0 (Below w.heap.size w w'))
  case atStart => exact ⟨(y133),(a0),qy2,H',⟨Nat.le_refl _⟩,⟨qR HO135.out⟩,⟨qb⟩⟩
  case round =>
   clear H'
   (try clear c2b0 c2b1)
   obtain ⟨x3_1,x4_1,rfl,HA,HK1,HO_3,HB⟩ := hrel
   cases gk with
   | zero => exact absurd HA.out (by simp [spec_NumText.l0])
   | succ k1 =>
    have H := HA.out
    clear HA
    simp only [spec_NumText.l0] at H
    by_cases c5 : x4_1 = 0
    ·rw [if_pos c5] at H
     have c5b0 : (x4_1 == 0) = true := beq_iff_eq.mpr c5
     have c5b1 : (x4_1 != 0) = false := bne_eq_false_iff_eq.mpr c5
     clear c5
     by_cases c6 : a0 < 0
     ·rw [if_pos c6] at H
      have c6b0 := decide_eq_true c6
      clear c6
      obtain ⟨y136,hy136⟩ : ∃ y_ : List Int,y_ = (([45] : List Int)) := ⟨_,rfl⟩
      replace H : (if y136.length + x3_1.length < 140737488355328 then (some (strOfNums (y136 ++ x3_1))) else (none)) = some r := by first | (rw [hy136]; with_reducible exact H) | (have H2_ := (Option.bind_some _ _).symm.trans H; rw [hy136]; with_reducible exact H2_) | (have H2_ := (Option.bind_some _ _).symm.trans H; with_reducible exact H2_) | with_reducible exact H | (rw [hy136]; exact H) | exact H
      have Ny136 := y0.mk hy136
      clear hy136
      obtain ⟨c7,H⟩ := qo H
      have LMc7 := y0.mk c7
      clear c7
      obtain ⟨y139,hy139⟩ : ∃ y_ : List Int,y_ = (y136 ++ x3_1) := ⟨_,rfl⟩
      replace H : (some (strOfNums y139)) = some r := by first | (rw [hy139]; with_reducible exact H) | (have H2_ := (Option.bind_some _ _).symm.trans H; rw [hy139]; with_reducible exact H2_) | (have H2_ := (Option.bind_some _ _).symm.trans H; with_reducible exact H2_) | with_reducible exact H | (rw [hy139]; exact H) | exact H
      have Ny139 := y0.mk hy139
      clear hy139
      obtain rfl := Option.some.inj H
      go_wp2_with (first | ((with_reducible refine y16 (N := 28) rfl ?_); refine Kd.R_lit (Kd.int .u8) _ 5 ?hg (N := 28) ?hd (xs := ([45] : List Int)) (inner := [.int .u8 45]) (ok := fun _ => True) (okp := fun _ => True) ?hr ?hp (fun _ hk => hk) trivial (Below.refl _ _) (Nat.le_refl _) (by simp) ?_; (case hd => rfl); (case hg => rfl); (case hr => first | (go_simp; done) | (go_simp; rfl)); (case hp => exact (Reps.one (show Kd.M (Kd.int .u8) _ _ _ 45 [.int .u8 45] from rfl) (Reps.none _ _))); intro v137 w8 ho9 hb hg_ hnew_; clear hg_ hnew_; (first | rw [← Ny136.out] at ho9 | (simp only [Int.reduceToNat] at ho9; rw [← Ny136.out] at ho9)); have HO138 := y0.mk (Kd.R_lower (Kd.R_new' ho9 (Kd.R_lt (qR HO_3.out))) (y5 qb)); replace HO_3 := y0.mk (Kd.R_elder' (qR HO_3.out) (Kd.R_base ho9) hb); replace HB := y0.mk (y6 qb hb); clear hb ho9; obtain ⟨Ao11,co11,eo11⟩ := Kd.R_slice HO_3.out; subst eo11) | ((with_reducible refine gate_builtin (b := .append) (xs := #[.tmp 28,.tmp 29]) rfl ?_); at_builtin; refine Kd.R_append_rows (Kd.int .u8) (w0 := w) w.heap.size rfl (.tmp 28) (.tmp 29) 43 5 (.int .u8 0) 1 rfl Tryz.underlying43 info5 rfl (by decide) (by omega) v137 y136 x3_1 _ _ _ (fun k_ => some k_ ≠ (.slice Ao11 x3_1.length co11 : Value).ownBlock) (fun _ => False) rfl rfl ?aO ?aR (fun _ _ h => h) (fun _ h => h.elim) ?aF ?aB ?aS ?aL ?_; (case aR => repeat (first | exact (Kd.R_reads' HO_3.out).2.2 | (with_reducible refine Kd.C_alloc ?_ _) | (with_reducible refine Kd.C_drewN ?_ _) | (with_reducible refine Kd.C_drew ?_))); (case aB => exact qb); (case aF => exact (fun k_ hk => Kd.fresh' (Kd.R_lt (qR HO_3.out)) k_ hk)); (case aO => exact (qR (Kd.R_mono HO138.out (fun _ hk => hk.2)))); (case aS => exact (y5 qb)); (case aL => have := LMc7.out; omega); intro v140 w10 ho hb hg hat; rw [← Ny139.out] at ho; replace HO_3 := y0.mk (Kd.R_after (ok := (fun _ => True)) (qR HO_3.out) hg hat); replace HB := y0.mk (hb); have HO141 := y0.mk (ho); clear HO138; clear ho hb hg hat; have hcv12 := own_string (P := Tryz.prog) Tryz.underlying43 Tryz.underlying5 Tryz.underlying9 (Kd.own_of_R HO141.out)))
      go_ret
      exact ⟨by first | rfl | (simp [y13,y14] <;> rfl) | (simp [*,y13,y14] <;> rfl),qb⟩
     ·rw [if_neg c6] at H
      have c6b0 := decide_eq_false c6
      clear c6
      obtain rfl := Option.some.inj H
      have hcv13 := own_string (P := Tryz.prog) Tryz.underlying43 Tryz.underlying5 Tryz.underlying9 (Kd.own_of_R HO_3.out)
      go_wp2
      go_ret
      exact ⟨by first | rfl | (simp [y13,y14] <;> rfl) | (simp [*,y13,y14] <;> rfl),qb⟩
    ·rw [if_neg c5] at H
     have c5b0 : (x4_1 == 0) = false := beq_eq_false_iff_ne.mpr c5
     have c5b1 : (x4_1 != 0) = true := bne_iff_ne.mpr c5
     by_cases c14 : (Int.tmod x4_1 10) < 0
     ·rw [if_pos c14] at H
      have c14b0 := decide_eq_true c14
      clear c14
      obtain ⟨y142,hy142⟩ : ∃ y_ : List Int,y_ = (([(wrap64 (48 + (wrap64 (-(Int.tmod x4_1 10))))) % 256] : List Int)) := ⟨_,rfl⟩
      replace H : (if y142.length + x3_1.length < 140737488355328 then (spec_NumText.l0 k1 a0 (y142 ++ x3_1) (wrap64 (Int.tdiv x4_1 10))) else (none)) = some r := by first | (rw [hy142]; with_reducible exact H) | (have H2_ := (Option.bind_some _ _).symm.trans H; rw [hy142]; with_reducible exact H2_) | (have H2_ := (Option.bind_some _ _).symm.trans H; with_reducible exact H2_) | with_reducible exact H | (rw [hy142]; exact H) | exact H
      have Ny142 := y0.mk hy142
      clear hy142
      obtain ⟨c15,H⟩ := qo H
      have LMc15 := y0.mk c15
      clear c15
      obtain ⟨y145,hy145⟩ : ∃ y_ : List Int,y_ = (y142 ++ x3_1) := ⟨_,rfl⟩
      replace H : (spec_NumText.l0 k1 a0 y145 (wrap64 (Int.tdiv x4_1 10))) = some r := by first | (rw [hy145]; with_reducible exact H) | (have H2_ := (Option.bind_some _ _).symm.trans H; rw [hy145]; with_reducible exact H2_) | (have H2_ := (Option.bind_some _ _).symm.trans H; with_reducible exact H2_) | with_reducible exact H | (rw [hy145]; exact H) | exact H
      have Ny145 := y0.mk hy145
      clear hy145
      have H' := y0.mk H
      clear H
      go_wp2_with (first | ((with_reducible refine y16 (N := 23) rfl ?_); refine Kd.R_lit (Kd.int .u8) _ 5 ?hg (N := 23) ?hd (xs := ([(wrap64 (48 + (wrap64 (-(Int.tmod x4_1 10))))) % 256] : List Int)) (inner := [.int .u8 ((wrap64 (48 + (wrap64 (-(Int.tmod x4_1 10))))) % 256)]) (ok := fun _ => True) (okp := fun _ => True) ?hr ?hp (fun _ hk => hk) trivial (Below.refl _ _) (Nat.le_refl _) (by simp) ?_; (case hd => rfl); (case hg => rfl); (case hr => first | (go_simp; done) | (go_simp; rfl)); (case hp => exact (Reps.one (show Kd.M (Kd.int .u8) _ _ _ ((wrap64 (48 + (wrap64 (-(Int.tmod x4_1 10))))) % 256) [.int .u8 ((wrap64 (48 + (wrap64 (-(Int.tmod x4_1 10))))) % 256)] from rfl) (Reps.none _ _))); intro v143 w16 ho17 hb hg_ hnew_; clear hg_ hnew_; (first | rw [← Ny142.out] at ho17 | (simp only [Int.reduceToNat] at ho17; rw [← Ny142.out] at ho17)); have HO144 := y0.mk (Kd.R_lower (Kd.R_new' ho17 (Kd.R_lt (qR HO_3.out))) (y5 qb)); replace HO_3 := y0.mk (Kd.R_elder' (qR HO_3.out) (Kd.R_base ho17) hb); replace HB := y0.mk (y6 qb hb); clear hb ho17; obtain ⟨Ao19,co19,eo19⟩ := Kd.R_slice HO_3.out; subst eo19) | ((with_reducible refine gate_builtin (b := .append) (xs := #[.tmp 23,.tmp 24]) rfl ?_); at_builtin; refine Kd.R_append_rows (Kd.int .u8) (w0 := w) w.heap.size rfl (.tmp 23) (.tmp 24) 43 5 (.int .u8 0) 1 rfl Tryz.underlying43 info5 rfl (by decide) (by omega) v143 y142 x3_1 _ _ _ (fun k_ => some k_ ≠ (.slice Ao19 x3_1.length co19 : Value).ownBlock) (fun _ => False) rfl rfl ?aO ?aR (fun _ _ h => h) (fun _ h => h.elim) ?aF ?aB ?aS ?aL ?_; (case aR => repeat (first | exact (Kd.R_reads' HO_3.out).2.2 | (with_reducible refine Kd.C_alloc ?_ _) | (with_reducible refine Kd.C_drewN ?_ _) | (with_reducible refine Kd.C_drew ?_))); (case aB => exact qb); (case aF => exact (fun k_ hk => Kd.fresh' (Kd.R_lt (qR HO_3.out)) k_ hk)); (case aO => exact (qR (Kd.R_mono HO144.out (fun _ hk => hk.2)))); (case aS => exact (y5 qb)); (case aL => have := LMc15.out; omega); intro v146 w18 ho hb hg hat; rw [← Ny145.out] at ho; replace HO_3 := y0.mk (Kd.R_after (ok := (fun _ => True)) (qR HO_3.out) hg hat); replace HB := y0.mk (hb); have HO147 := y0.mk (ho); clear HO144; clear ho hb hg hat))
      go_roundg k1
      case measure => have := HK1.out; omega
      exact ⟨(y145),(wrap64 (Int.tdiv x4_1 10)),qy2,H',⟨by have := HK1.out; omega⟩,⟨qR (Kd.R_mono HO147.out (fun _ hk => trivial))⟩,⟨qb⟩⟩
     ·rw [if_neg c14] at H
      have c14b0 := decide_eq_false c14
      clear c14
      obtain ⟨y148,hy148⟩ : ∃ y_ : List Int,y_ = (([(wrap64 (48 + (Int.tmod x4_1 10))) % 256] : List Int)) := ⟨_,rfl⟩
      replace H : (if y148.length + x3_1.length < 140737488355328 then (spec_NumText.l0 k1 a0 (y148 ++ x3_1) (wrap64 (Int.tdiv x4_1 10))) else (none)) = some r := by first | (rw [hy148]; with_reducible exact H) | (have H2_ := (Option.bind_some _ _).symm.trans H; rw [hy148]; with_reducible exact H2_) | (have H2_ := (Option.bind_some _ _).symm.trans H; with_reducible exact H2_) | with_reducible exact H | (rw [hy148]; exact H) | exact H
      have Ny148 := y0.mk hy148
      clear hy148
      obtain ⟨c20,H⟩ := qo H
      have LMc20 := y0.mk c20
      clear c20
      obtain ⟨y151,hy151⟩ : ∃ y_ : List Int,y_ = (y148 ++ x3_1) := ⟨_,rfl⟩
      replace H : (spec_NumText.l0 k1 a0 y151 (wrap64 (Int.tdiv x4_1 10))) = some r := by first | (rw [hy151]; with_reducible exact H) | (have H2_ := (Option.bind_some _ _).symm.trans H; rw [hy151]; with_reducible exact H2_) | (have H2_ := (Option.bind_some _ _).symm.trans H; with_reducible exact H2_) | with_reducible exact H | (rw [hy151]; exact H) | exact H
      have Ny151 := y0.mk hy151
      clear hy151
      have H' := y0.mk H
      clear H
      go_wp2_with (first | ((with_reducible refine y16 (N := 23) rfl ?_); refine Kd.R_lit (Kd.int .u8) _ 5 ?hg (N := 23) ?hd (xs := ([(wrap64 (48 + (Int.tmod x4_1 10))) % 256] : List Int)) (inner := [.int .u8 ((wrap64 (48 + (Int.tmod x4_1 10))) % 256)]) (ok := fun _ => True) (okp := fun _ => True) ?hr ?hp (fun _ hk => hk) trivial (Below.refl _ _) (Nat.le_refl _) (by simp) ?_; (case hd => rfl); (case hg => rfl); (case hr => first | (go_simp; done) | (go_simp; rfl)); (case hp => exact (Reps.one (show Kd.M (Kd.int .u8) _ _ _ ((wrap64 (48 + (Int.tmod x4_1 10))) % 256) [.int .u8 ((wrap64 (48 + (Int.tmod x4_1 10))) % 256)] from rfl) (Reps.none _ _))); intro v149 w21 ho22 hb hg_ hnew_; clear hg_ hnew_; (first | rw [← Ny148.out] at ho22 | (simp only [Int.reduceToNat] at ho22; rw [← Ny148.out] at ho22)); have HO150 := y0.mk (Kd.R_lower (Kd.R_new' ho22 (Kd.R_lt (qR HO_3.out))) (y5 qb)); replace HO_3 := y0.mk (Kd.R_elder' (qR HO_3.out) (Kd.R_base ho22) hb); replace HB := y0.mk (y6 qb hb); clear hb ho22; obtain ⟨Ao24,co24,eo24⟩ := Kd.R_slice HO_3.out; subst eo24) | ((with_reducible refine gate_builtin (b := .append) (xs := #[.tmp 23,.tmp 24]) rfl ?_); at_builtin; refine Kd.R_append_rows (Kd.int .u8) (w0 := w) w.heap.size rfl (.tmp 23) (.tmp 24) 43 5 (.int .u8 0) 1 rfl Tryz.underlying43 info5 rfl (by decide) (by omega) v149 y148 x3_1 _ _ _ (fun k_ => some k_ ≠ (.slice Ao24 x3_1.length co24 : Value).ownBlock) (fun _ => False) rfl rfl ?aO ?aR (fun _ _ h => h) (fun _ h => h.elim) ?aF ?aB ?aS ?aL ?_; (case aR => repeat (first | exact (Kd.R_reads' HO_3.out).2.2 | (with_reducible refine Kd.C_alloc ?_ _) | (with_reducible refine Kd.C_drewN ?_ _) | (with_reducible refine Kd.C_drew ?_))); (case aB => exact qb); (case aF => exact (fun k_ hk => Kd.fresh' (Kd.R_lt (qR HO_3.out)) k_ hk)); (case aO => exact (qR (Kd.R_mono HO150.out (fun _ hk => hk.2)))); (case aS => exact (y5 qb)); (case aL => have := LMc20.out; omega); intro v152 w23 ho hb hg hat; rw [← Ny151.out] at ho; replace HO_3 := y0.mk (Kd.R_after (ok := (fun _ => True)) (qR HO_3.out) hg hat); replace HB := y0.mk (hb); have HO153 := y0.mk (ho); clear HO150; clear ho hb hg hat))
      go_roundg k1
      case measure => have := HK1.out; omega
      exact ⟨(y151),(wrap64 (Int.tdiv x4_1 10)),qy2,H',⟨by have := HK1.out; omega⟩,⟨qR (Kd.R_mono HO153.out (fun _ hk => trivial))⟩,⟨qb⟩⟩
def spec_l01Digit.f (a0 : Int) : Option (Bool) := if a0 ≥ 48 then (some (decide (a0 ≤ 57))) else (some false)
set_option maxHeartbeats 8000000 in
set_option maxRecDepth 100000 in
theorem spec_l01Digit.calls (a0 : Int) (r : Bool) (w : World) (h : spec_l01Digit.f a0 = some r) :
  Calls Tryz.prog 114 #[.int .u8 a0] w fun e w' => e = .returned (.bool r) ∧ y1 w w' := by
 have H : (if a0 ≥ 48 then (some (decide (a0 ≤ 57))) else (some false)) = some r := h
 clear h
 by_cases c2 : a0 ≥ 48
 ·rw [if_pos c2] at H
  have c2b0 : decide (48 ≤ a0) = true := decide_eq_true c2
  clear c2
  obtain rfl := Option.some.inj H
  go_enter Tryz.func114,Tryz.ntmps114
  go_wp2
  go_ret
  exact ⟨by first | rfl | (simp; done) | (simp [*]; done),by repeat (first | exact y1.refl _ | apply y1.step)⟩
 ·rw [if_neg c2] at H
  have c2b0 : decide (48 ≤ a0) = false := decide_eq_false c2
  clear c2
  obtain rfl := Option.some.inj H
  go_enter Tryz.func114,Tryz.ntmps114
  go_wp2
  go_ret
  exact ⟨by first | rfl | (simp; done) | (simp [*]; done),by repeat (first | exact y1.refl _ | apply y1.step)⟩
mutual
def z5_.j0 : Nat → ByteArray → Int → ByteArray → Bool → Option (Int × Bool)
 | 0,_,_,_,_ => none
 | k + 1,x0,x4,x5,x15 => if x15 = true then (if 1 ≤ (x0.size : Int) then (z5_.j1 k x0 x4 (x0.extract 1 x0.size)) else (none)) else (z5_.j1 k x0 x4 x5)
def z5_.j1 : Nat → ByteArray → Int → ByteArray → Option (Int × Bool)
 | 0,_,_,_ => none
 | k + 1,x0,x4,x5 => (spec_l01Between.f (x5.size : Int) 1 7).bind fun t154 => (if t154 = true then (z5_.l0 k x0 x4 x5 0) else (some (0,false)))
def z5_.l0 : Nat → ByteArray → Int → ByteArray → Int → Option (Int × Bool)
 | 0,_,_,_,_ => none
 | k + 1,x0,x4,x5,x6 => if x6 < (x5.size : Int) then (if 0 ≤ x6 then ((spec_l01Digit.f (bt x5 x6)).bind fun t155 => (if t155 = true then (z5_.l0 k x0 (wrap64 ((wrap64 (10 * x4)) + (((bt x5 x6) - 48) % 256))) x5 (wrap64 (x6 + 1))) else (some (0,false)))) else (none)) else (if x5.toList = x0.toList then ((spec_NumText.f k x4).bind fun t156 => (if t156.toList = x0.toList then ((spec_l01Between.f x4 (-1000000) 1000000).bind fun t157 => (some (x4,t157))) else (some (x4,false)))) else ((spec_NumText.f k (wrap64 (-x4))).bind fun t158 => (if t158.toList = x0.toList then ((spec_l01Between.f (wrap64 (-x4)) (-1000000) 1000000).bind fun t159 => (some (wrap64 (-x4),t159))) else (some (wrap64 (-x4),false)))))
end
def z5_.f (k : Nat) (a0 : ByteArray) : Option (Int × Bool) := if (a0.size : Int) > 0 then (if 0 < (a0.size : Int) then (z5_.j0 k a0 0 a0 ((bt a0 0) == 45)) else (none)) else (z5_.j0 k a0 0 a0 false)
set_option maxHeartbeats 8000000 in
set_option maxRecDepth 100000 in
theorem z5_.calls (k : Nat) (a0 : ByteArray) (r1 : Int) (r2 : Bool) (w : World) (h : z5_.f k a0 = some (r1,r2)) :
  Calls Tryz.prog 92 #[.string a0] w fun e w' => e = .returned (.tuple #[.int .i64 r1,.bool r2]) ∧ Below w.heap.size w w' := by
 have HB := y0.mk (Below.refl w.heap.size w)
 have H : (if (a0.size : Int) > 0 then (if 0 < (a0.size : Int) then (z5_.j0 k a0 0 a0 ((bt a0 0) == 45)) else (none)) else (z5_.j0 k a0 0 a0 false)) = some (r1,r2) := h
 clear h
 have HC2 := y0.mk H
 clear H
 go_enter Tryz.func92,Tryz.ntmps92
 go_upto_region 3 with (fail)
 go_cut [15] (fun v15 wc => ∃ (kq : Nat) (x15_1 : Bool),v15 = .bool x15_1 ∧ y0 (z5_.j0 kq a0 0 a0 x15_1 = some (r1,r2)) ∧ y0 (kq ≤ k) ∧ y0 (Below w.heap.size w wc))
 case first =>
  have H := HC2.out
  clear HC2
  by_cases c3 : (a0.size : Int) > 0
  ·rw [if_pos c3] at H
   have c3b0 : decide (0 < (a0.size : Int)) = true := decide_eq_true c3
   have c3b1 : decide (0 < a0.size) = true := decide_eq_true (by omega)
   clear c3
   (first | rw [c3b0] | (simp only [y19,y18]; rw [c3b0]) | skip)
   obtain ⟨c4,H⟩ := qo H
   have c4b0 : decide (0 < (a0.size : Int)) = true := decide_eq_true c4
   have c4b1 : decide (0 < a0.size) = true := decide_eq_true (by omega)
   clear c4
   have H' := y0.mk H
   clear H
   have p5 : 0 ≤ (0 : Int) := (by omega)
   have q5 : 0 < a0.size := qy4
   have hx5 : ∀ h : 0 < a0.size,((a0[0]'h).toNat : Int) = bt a0 0 := bt_at a0 0
   clear p5
   have qi5 : (0 < (a0.size : Int)) = True := eq_true (of_decide_eq_true qy1)
   replace q5 := eq_true q5
   go_wp2
   go_meet
   exact ⟨_,(((bt a0 0) == 45)),qy2,H',⟨by first | omega | exact Nat.le_refl _⟩,⟨qb⟩⟩
  ·rw [if_neg c3] at H
   have c3b0 : decide (0 < (a0.size : Int)) = false := decide_eq_false c3
   have c3b1 : decide (0 < a0.size) = false := decide_eq_false (by omega)
   clear c3
   (first | rw [c3b0] | (simp only [y19,y18]; rw [c3b0]) | skip)
   have H' := y0.mk H
   clear H
   go_wp2
   go_meet
   exact ⟨_,(false),qy2,H',⟨by first | omega | exact Nat.le_refl _⟩,⟨qb⟩⟩
 case rest =>
  clear HC2
  obtain ⟨kq,x15_1,rfl,HA,HJ1,HB⟩ := hcut
  cases kq with
  | zero => exact absurd HA.out (by simp [z5_.j0])
  | succ kj1 =>
   have H := HA.out
   clear HA
   simp only [z5_.j0] at H
   have HC6 := y0.mk H
   clear H
   go_upto_if 15 with (fail)
   go_cut [5] (fun v5 wc => ∃ (kq : Nat) (x5_5 : ByteArray),v5 = .string x5_5 ∧ y0 (z5_.j1 kq a0 0 x5_5 = some (r1,r2)) ∧ y0 (kq ≤ kj1) ∧ y0 (Below w.heap.size w wc))
   case first =>
    have H := HC6.out
    clear HC6
    by_cases c7 : x15_1 = true
    ·subst c7
     replace H := qT H
     obtain ⟨c8,H⟩ := qo H
     have c8b0 := eq_true c8
     have c8b1 := decide_eq_true c8
     clear c8
     have H' := y0.mk H
     clear H
     go_wp2
     go_meet
     exact ⟨_,(a0.extract 1 a0.size),qy2,H',⟨by have := HJ1.out; first | omega | exact Nat.le_refl _⟩,⟨qb⟩⟩
    ·replace c7 := Bool.eq_false_iff.mpr c7
     subst c7
     replace H := qF H
     have H' := y0.mk H
     clear H
     go_wp2
     go_meet
     exact ⟨_,(a0),qy2,H',⟨by have := HJ1.out; first | omega | exact Nat.le_refl _⟩,⟨qb⟩⟩
   case rest =>
    clear HC6
    obtain ⟨kq,x5_5,rfl,HA,HJ5,HB⟩ := hcut
    cases kq with
    | zero => exact absurd HA.out (by simp [z5_.j1])
    | succ kj5 =>
     have H := HA.out
     clear HA
     simp only [z5_.j1] at H
     obtain ⟨t154,A9,H⟩ := qB H
     by_cases c10 : t154 = true
     ·subst c10
      replace H := qT H
      have H' := y0.mk H
      clear H
      go_wp2_with (first | ((with_reducible refine y15 (f := 56) rfl ?_); refine y17 (some 20) rfl rfl Tryz.func56 (by kernel_rfl) rfl #[.int .i64 (x5_5.size : Int),.int .i64 1,.int .i64 7] rfl qy0 ?_; (with_reducible refine (spec_l01Between.calls (x5_5.size : Int) 1 7 true _ A9.out).mono ?_); rintro e w' ⟨rfl,⟨nd,rfl⟩⟩; refine ⟨_,rfl, ?_⟩))
      go_loopg [4,6] kj5 (fun kq v4 v6 w' => ∃ (x4_3 : Int) (x6_3 : Int),v4 = .int .i64 x4_3 ∧ v6 = .int .i64 x6_3 ∧ y0 (z5_.l0 kq a0 x4_3 x5_5 x6_3 = some (r1,r2)) ∧ y0 (kq ≤ kj5) ∧ y0 (Below w.heap.size w w'))
      case atStart => exact ⟨(0),(0),qy2,qy2,H',⟨Nat.le_refl _⟩,⟨qb⟩⟩
      case round =>
       clear H'
       (try clear c10)
       obtain ⟨x4_3,x6_3,rfl,rfl,HA,HK3,HB⟩ := hrel
       cases gk with
       | zero => exact absurd HA.out (by simp [z5_.l0])
       | succ k3 =>
        have H := HA.out
        clear HA
        simp only [z5_.l0] at H
        by_cases c11 : x6_3 < (x5_5.size : Int)
        ·rw [if_pos c11] at H
         have c11b0 := decide_eq_true c11
         clear c11
         obtain ⟨c12,H⟩ := qo H
         have c12b0 : decide (0 ≤ x6_3) = true := decide_eq_true c12
         clear c12
         obtain ⟨t155,A14,H⟩ := qB H
         by_cases c15 : t155 = true
         ·subst c15
          replace H := qT H
          have H' := y0.mk H
          clear H
          have p13 : 0 ≤ (x6_3 : Int) := of_decide_eq_true qy1
          have q13 : x6_3 < (x5_5.size : Int) := of_decide_eq_true qy1
          have hx13 := bt_at x5_5 x6_3
          replace p13 := eq_true p13
          replace q13 := eq_true q13
          go_wp2_with (first | ((with_reducible refine y15 (f := 114) rfl ?_); refine y17 (some 31) rfl rfl Tryz.func114 (by kernel_rfl) rfl #[.int .u8 (bt x5_5 x6_3)] rfl qy0 ?_; (with_reducible refine (spec_l01Digit.calls (bt x5_5 x6_3) true _ A14.out).mono ?_); rintro e w' ⟨rfl,⟨nd,rfl⟩⟩; refine ⟨_,rfl, ?_⟩; have p16 : 0 ≤ (x6_3 : Int) := of_decide_eq_true qy1; have q16 : x6_3 < (x5_5.size : Int) := of_decide_eq_true qy1; have hx16 := bt_at x5_5 x6_3; replace p16 := eq_true p16; replace q16 := eq_true q16))
          go_roundg k3
          case measure => have := HJ1.out; have := HJ5.out; have := HK3.out; omega
          exact ⟨(wrap64 ((wrap64 (10 * x4_3)) + (((bt x5_5 x6_3) - 48) % 256))),(wrap64 (x6_3 + 1)),qy2,qy2,H',⟨by have := HJ1.out; have := HJ5.out; have := HK3.out; omega⟩,⟨qb⟩⟩
         ·replace c15 := Bool.eq_false_iff.mpr c15
          subst c15
          replace H := qF H
          simp only [Option.some.injEq,Prod.mk.injEq] at H
          obtain ⟨rfl,rfl⟩ := H
          have p13 : 0 ≤ (x6_3 : Int) := of_decide_eq_true qy1
          have q13 : x6_3 < (x5_5.size : Int) := of_decide_eq_true qy1
          have hx13 := bt_at x5_5 x6_3
          replace p13 := eq_true p13
          replace q13 := eq_true q13
          go_wp2_with (first | ((with_reducible refine y15 (f := 114) rfl ?_); refine y17 (some 31) rfl rfl Tryz.func114 (by kernel_rfl) rfl #[.int .u8 (bt x5_5 x6_3)] rfl qy0 ?_; (with_reducible refine (spec_l01Digit.calls (bt x5_5 x6_3) false _ A14.out).mono ?_); rintro e w' ⟨rfl,⟨nd,rfl⟩⟩; refine ⟨_,rfl, ?_⟩))
          go_ret2
          exact ⟨by first | rfl | (simp [y13,y14] <;> rfl) | (simp [*,y13,y14] <;> rfl),qb⟩
        ·rw [if_neg c11] at H
         have c11b0 := decide_eq_false c11
         clear c11
         by_cases c17 : x5_5.toList = a0.toList
         ·rw [if_pos c17] at H
          have c17b0 : (x5_5.toList == a0.toList) = true := beq_iff_eq.mpr c17
          have c17b1 : (x5_5.toList != a0.toList) = false := bne_eq_false_iff_eq.mpr c17
          clear c17
          obtain ⟨t156,A18,H⟩ := qB H
          by_cases c19 : t156.toList = a0.toList
          ·rw [if_pos c19] at H
           have c19b0 : (t156.toList == a0.toList) = true := beq_iff_eq.mpr c19
           have c19b1 : (t156.toList != a0.toList) = false := bne_eq_false_iff_eq.mpr c19
           clear c19
           obtain ⟨t157,A20,H⟩ := qB H
           simp only [Option.some.injEq,Prod.mk.injEq] at H
           obtain ⟨rfl,rfl⟩ := H
           go_wp2_with (first | ((with_reducible refine y15 (f := 81) rfl ?_); refine y17 (some 48) rfl rfl Tryz.func81 (by kernel_rfl) rfl #[.int .i64 x4_3] rfl qy0 ?_; (with_reducible refine (spec_NumText.calls k3 x4_3 t156 _ A18.out).mono ?_); rintro e w21 ⟨rfl,hb⟩; refine ⟨_,rfl, ?_⟩; replace HB := y0.mk (y6 qb hb); (try clear hb); (try clear hb2); (try clear hk); (try clear hi)) | (go_at_call 56; (with_reducible refine (spec_l01Between.calls x4_3 (-1000000) 1000000 t157 _ A20.out).mono ?_); rintro e w' ⟨rfl,⟨nd,rfl⟩⟩))
           go_ret2
           exact ⟨by first | rfl | (simp [y13,y14] <;> rfl) | (simp [*,y13,y14] <;> rfl),qb⟩
          ·rw [if_neg c19] at H
           have c19b0 : (t156.toList == a0.toList) = false := beq_eq_false_iff_ne.mpr c19
           have c19b1 : (t156.toList != a0.toList) = true := bne_iff_ne.mpr c19
           simp only [Option.some.injEq,Prod.mk.injEq] at H
           obtain ⟨rfl,rfl⟩ := H
           go_wp2_with (first | ((with_reducible refine y15 (f := 81) rfl ?_); refine y17 (some 48) rfl rfl Tryz.func81 (by kernel_rfl) rfl #[.int .i64 x4_3] rfl qy0 ?_; (with_reducible refine (spec_NumText.calls k3 x4_3 t156 _ A18.out).mono ?_); rintro e w22 ⟨rfl,hb⟩; refine ⟨_,rfl, ?_⟩; replace HB := y0.mk (y6 qb hb); (try clear hb); (try clear hb2); (try clear hk); (try clear hi)))
           go_ret2
           exact ⟨by first | rfl | (simp [y13,y14] <;> rfl) | (simp [*,y13,y14] <;> rfl),qb⟩
         ·rw [if_neg c17] at H
          have c17b0 : (x5_5.toList == a0.toList) = false := beq_eq_false_iff_ne.mpr c17
          have c17b1 : (x5_5.toList != a0.toList) = true := bne_iff_ne.mpr c17
          obtain ⟨t158,A23,H⟩ := qB H
          by_cases c24 : t158.toList = a0.toList
          ·rw [if_pos c24] at H
           have c24b0 : (t158.toList == a0.toList) = true := beq_iff_eq.mpr c24
           have c24b1 : (t158.toList != a0.toList) = false := bne_eq_false_iff_eq.mpr c24
           clear c24
           obtain ⟨t159,A25,H⟩ := qB H
           simp only [Option.some.injEq,Prod.mk.injEq] at H
           obtain ⟨rfl,rfl⟩ := H
           go_wp2_with (first | ((with_reducible refine y15 (f := 81) rfl ?_); refine y17 (some 48) rfl rfl Tryz.func81 (by kernel_rfl) rfl #[.int .i64 (wrap64 (-x4_3))] rfl qy0 ?_; (with_reducible refine (spec_NumText.calls k3 (wrap64 (-x4_3)) t158 _ A23.out).mono ?_); rintro e w26 ⟨rfl,hb⟩; refine ⟨_,rfl, ?_⟩; replace HB := y0.mk (y6 qb hb); (try clear hb); (try clear hb2); (try clear hk); (try clear hi)) | (go_at_call 56; (with_reducible refine (spec_l01Between.calls (wrap64 (-x4_3)) (-1000000) 1000000 t159 _ A25.out).mono ?_); rintro e w' ⟨rfl,⟨nd,rfl⟩⟩))
           go_ret2
           exact ⟨by first | rfl | (simp [y13,y14] <;> rfl) | (simp [*,y13,y14] <;> rfl),qb⟩
          ·rw [if_neg c24] at H
           have c24b0 : (t158.toList == a0.toList) = false := beq_eq_false_iff_ne.mpr c24
           have c24b1 : (t158.toList != a0.toList) = true := bne_iff_ne.mpr c24
           simp only [Option.some.injEq,Prod.mk.injEq] at H
           obtain ⟨rfl,rfl⟩ := H
           go_wp2_with (first | ((with_reducible refine y15 (f := 81) rfl ?_); refine y17 (some 48) rfl rfl Tryz.func81 (by kernel_rfl) rfl #[.int .i64 (wrap64 (-x4_3))] rfl qy0 ?_; (with_reducible refine (spec_NumText.calls k3 (wrap64 (-x4_3)) t158 _ A23.out).mono ?_); rintro e w27 ⟨rfl,hb⟩; refine ⟨_,rfl, ?_⟩; replace HB := y0.mk (y6 qb hb); (try clear hb); (try clear hb2); (try clear hk); (try clear hi)))
           go_ret2
           exact ⟨by first | rfl | (simp [y13,y14] <;> rfl) | (simp [*,y13,y14] <;> rfl),qb⟩
     ·replace c10 := Bool.eq_false_iff.mpr c10
      subst c10
      replace H := qF H
      simp only [Option.some.injEq,Prod.mk.injEq] at H
      obtain ⟨rfl,rfl⟩ := H
      go_wp2_with (first | ((with_reducible refine y15 (f := 56) rfl ?_); refine y17 (some 20) rfl rfl Tryz.func56 (by kernel_rfl) rfl #[.int .i64 (x5_5.size : Int),.int .i64 1,.int .i64 7] rfl qy0 ?_; (with_reducible refine (spec_l01Between.calls (x5_5.size : Int) 1 7 false _ A9.out).mono ?_); rintro e w' ⟨rfl,⟨nd,rfl⟩⟩; refine ⟨_,rfl, ?_⟩))
      go_ret2
      exact ⟨by first | rfl | (simp [y13,y14] <;> rfl) | (simp [*,y13,y14] <;> rfl),qb⟩
end Go.Proofs.YtkajecadkkgfmaaGreatDoor.Pe
end
section
namespace Go.Proofs.YtkajecadkkgfmaaGreatDoor.Pe
open Go.RowKit Go.Proofs.YtkajecadkkgfmaaGreatDoorW.PrintWords Go.Proofs.YtkajecadkkgfmaaGreatDoorW.PrintLast Go.Proofs.YtkajecadkkgfmaaGreatDoorW.PrintMore
attribute [local go_sem] max2_int min2_int max_two min_two max_three min_three max_four min_four   -- for this text's walks alone
set_option linter.unusedVariables false
set_option linter.unusedSimpArgs false
mutual
def z4_.j1 : Nat → ByteArray → Int → Option (ByteArray × List ByteArray × Bool)
 | 0,_,_ => none
 | k + 1,x0,x5 => if x5 = (x0.size : Int) then (some (x0,(([] : List ByteArray)),true)) else (z4_.l1 k x0 x5 (([] : List ByteArray)) 0 false (wrap64 (x5 + 1)) x5)
def z4_.l1 : Nat → ByteArray → Int → List ByteArray → Int → Bool → Int → Int → Option (ByteArray × List ByteArray × Bool)
 | 0,_,_,_,_,_,_,_ => none
 | k + 1,x0,x5,x6,x7,x8,x9,x10 => if x10 < (x0.size : Int) then (if 0 ≤ x10 then (if (bt x0 x10) = 34 then (z4_.l1 k x0 x5 x6 x7 (!x8) x9 (wrap64 (x10 + 1))) else (if x8 = true then (z4_.l1 k x0 x5 x6 x7 x8 x9 (wrap64 (x10 + 1))) else (if (bt x0 x10) = 40 then (z4_.l1 k x0 x5 x6 (wrap64 (x7 + 1)) x8 x9 (wrap64 (x10 + 1))) else (if (bt x0 x10) = 41 then (if (wrap64 (x7 - 1)) = 0 then (if 0 ≤ x5 then (if x5 ≤ (x0.size : Int) then (if 0 ≤ x9 then (if x9 ≤ x10 then (if x10 ≤ (x0.size : Int) then (if x6.length < 8796093022208 then (some (x0.extract 0 (x5 : Int).toNat,(x6 ++ [x0.extract (x9 : Int).toNat (x10 : Int).toNat]),(x10 == (wrap64 ((x0.size : Int) - 1))))) else (none)) else (none)) else (none)) else (none)) else (none)) else (none)) else (z4_.l1 k x0 x5 x6 (wrap64 (x7 - 1)) x8 x9 (wrap64 (x10 + 1)))) else (if (bt x0 x10) = 44 then (if x7 = 1 then (if 0 ≤ x9 then (if x9 ≤ x10 then (if x10 ≤ (x0.size : Int) then (if x6.length < 8796093022208 then (z4_.l1 k x0 x5 (x6 ++ [x0.extract (x9 : Int).toNat (x10 : Int).toNat]) x7 x8 (wrap64 (x10 + 1)) (wrap64 (x10 + 1))) else (none)) else (none)) else (none)) else (none)) else (z4_.l1 k x0 x5 x6 x7 x8 x9 (wrap64 (x10 + 1)))) else (z4_.l1 k x0 x5 x6 x7 x8 x9 (wrap64 (x10 + 1)))))))) else (none)) else (some ((⟨#[]⟩ : ByteArray),(([] : List ByteArray)),false))
def z4_.l0 : Nat → ByteArray → Int → Option (ByteArray × List ByteArray × Bool)
 | 0,_,_ => none
 | k + 1,x0,x5 => if x5 < (x0.size : Int) then (if 0 ≤ x5 then (if (bt x0 x5) = 40 then (z4_.j1 k x0 x5) else (z4_.l0 k x0 (wrap64 (x5 + 1)))) else (none)) else (z4_.j1 k x0 x5)
end
def z4_.f (k : Nat) (a0 : ByteArray) : Option (ByteArray × List ByteArray × Bool) := z4_.l0 k a0 0
def z4_.T21 : Bool × List (List Nat × List Nat) := (true,[([],[]),([],[]),([0,1],[0,1]),([],[]),([],[]),([],[]),([],[]),([4,5,6],[4,5,6]),([7],[7]),([3,8],[3,8]),([],[]),([],[]),([11],[11]),([12],[12]),([10,13],[10,13]),([2,9,0,1,2],[2]),([9,15,0,1,2,3,4,5,6,7,8,9,15],[9]),([14,16,0,1,2,3,4,5,6,7,8,9,10,11,12,13,14,15,16],[14])])
def z4_.B21 : List Nat := [0,0,3,0,0,0,0,112,240,504,0,0,2048,6144,15360,1023,33791,131071]
theorem z4_.tab21 : rtab .any (opsOf Tryz.f93 21) = z4_.T21 := by kernel_rfl
theorem z4_.bits21 : waitsOk z4_.T21.2 z4_.B21 = true := by kernel_rfl
set_option maxHeartbeats 8000000 in
set_option maxRecDepth 100000 in
theorem z4_.calls (k : Nat) (a0 : ByteArray) (r1 : ByteArray) (r2 : List ByteArray) (r3 : Bool) (w : World) (h : z4_.f k a0 = some (r1,r2,r3)) :
  Calls Tryz.prog 93 #[.string a0] w fun e w' => ∃ v1_ : Value,e = .returned (.tuple #[.string r1,v1_,.bool r3]) ∧ Kd.R Kd.string 9 w' w.heap.size (fun _ => True) v1_ r2 ∧ Below w.heap.size w w' := by
 have HB := y0.mk (Below.refl w.heap.size w)
 have H : (z4_.l0 k a0 0) = some (r1,r2,r3) := h
 clear h
 have HC2 := y0.mk H
 clear H
 go_enter Tryz.func93,Tryz.ntmps93
 go_upto_block 0 with (fail)
 go_cut [5] (fun v5 wc => ∃ (kq : Nat) (x5_1 : Int),v5 = .int .i64 x5_1 ∧ y0 (z4_.j1 kq a0 x5_1 = some (r1,r2,r3)) ∧ y0 (kq ≤ k) ∧ y0 (Below w.heap.size w wc))
 case first =>
  have H := HC2.out
  clear HC2
  have H' := y0.mk H
  clear H
  go_wp2
  go_loopg [5] k (fun kq v5 w' => ∃ (x5_1 : Int),v5 = .int .i64 x5_1 ∧ y0 (z4_.l0 kq a0 x5_1 = some (r1,r2,r3)) ∧ y0 (kq ≤ k) ∧ y0 (Below w.heap.size w w'))
  case atStart => exact ⟨(0),qy2,H',⟨Nat.le_refl _⟩,⟨qb⟩⟩
  case round =>
   clear H'
   obtain ⟨x5_1,rfl,HA,HK1,HB⟩ := hrel
   cases gk with
   | zero => exact absurd HA.out (by simp [z4_.l0])
   | succ k1 =>
    have H := HA.out
    clear HA
    simp only [z4_.l0] at H
    by_cases c3 : x5_1 < (a0.size : Int)
    ·rw [if_pos c3] at H
     have c3b0 := decide_eq_true c3
     clear c3
     (first | rw [c3b0] | (simp only [y19,y18]; rw [c3b0]) | skip)
     obtain ⟨c4,H⟩ := qo H
     have c4b0 : decide (0 ≤ x5_1) = true := decide_eq_true c4
     clear c4
     by_cases c6 : (bt a0 x5_1) = 40
     ·rw [if_pos c6] at H
      have c6b0 : ((bt a0 x5_1) == 40) = true := beq_iff_eq.mpr c6
      have c6b1 : ((bt a0 x5_1) != 40) = false := bne_eq_false_iff_eq.mpr c6
      clear c6
      have H' := y0.mk H
      clear H
      have p5 : 0 ≤ (x5_1 : Int) := of_decide_eq_true qy1
      have q5 : x5_1 < (a0.size : Int) := of_decide_eq_true qy1
      have hx5 := bt_at a0 x5_1
      replace p5 := eq_true p5
      replace q5 := eq_true q5
      go_wp2
      go_meet
      exact ⟨_,(x5_1),qy2,H',⟨by have := HK1.out; first | omega | exact Nat.le_refl _⟩,⟨qb⟩⟩
     ·rw [if_neg c6] at H
      have c6b0 : ((bt a0 x5_1) == 40) = false := beq_eq_false_iff_ne.mpr c6
      have c6b1 : ((bt a0 x5_1) != 40) = true := bne_iff_ne.mpr c6
      have H' := y0.mk H
      clear H
      have p5 : 0 ≤ (x5_1 : Int) := of_decide_eq_true qy1
      have q5 : x5_1 < (a0.size : Int) := of_decide_eq_true qy1
      have hx5 := bt_at a0 x5_1
      replace p5 := eq_true p5
      replace q5 := eq_true q5
      go_wp2
      go_roundg k1
      case measure => have := HK1.out; omega
      exact ⟨(wrap64 (x5_1 + 1)),qy2,H',⟨by have := HK1.out; omega⟩,⟨qb⟩⟩
    ·rw [if_neg c3] at H
     have c3b0 := decide_eq_false c3
     clear c3
     (first | rw [c3b0] | (simp only [y19,y18]; rw [c3b0]) | skip)
     have H' := y0.mk H
     clear H
     go_wp2
     go_meet
     exact ⟨_,(x5_1),qy2,H',⟨by have := HK1.out; first | omega | exact Nat.le_refl _⟩,⟨qb⟩⟩
 case rest =>
  clear HC2
  obtain ⟨kq,x5_1,rfl,HA,HJ1,HB⟩ := hcut
  cases kq with
  | zero => exact absurd HA.out (by simp [z4_.j1])
  | succ kj1 =>
   have H := HA.out
   clear HA
   simp only [z4_.j1] at H
   by_cases c7 : x5_1 = (a0.size : Int)
   ·rw [if_pos c7] at H
    have c7b0 : (x5_1 == (a0.size : Int)) = true := beq_iff_eq.mpr c7
    have c7b1 : (x5_1 != (a0.size : Int)) = false := bne_eq_false_iff_eq.mpr c7
    clear c7
    obtain ⟨y160,hy160⟩ : ∃ y_ : List ByteArray,y_ = (([] : List ByteArray)) := ⟨_,rfl⟩
    replace H : (some (a0,y160,true)) = some (r1,r2,r3) := by first | (rw [hy160]; with_reducible exact H) | (have H2_ := (Option.bind_some _ _).symm.trans H; rw [hy160]; with_reducible exact H2_) | (have H2_ := (Option.bind_some _ _).symm.trans H; with_reducible exact H2_) | with_reducible exact H | (rw [hy160]; exact H) | exact H
    have Ny160 := y0.mk hy160
    clear hy160
    simp only [Option.some.injEq,Prod.mk.injEq] at H
    obtain ⟨rfl,rfl,rfl⟩ := H
    go_wp2_with (first | ((with_reducible refine y16 (N := 28) rfl ?_); refine Kd.R_lit Kd.string _ 9 ?hg (N := 28) ?hd (xs := ([] : List ByteArray)) (inner := []) (ok := fun _ => True) (okp := fun _ => True) ?hr ?hp (fun _ hk => hk) trivial (Below.refl _ _) (Nat.le_refl _) (by simp) ?_; (case hd => rfl); (case hg => rfl); (case hr => first | (go_simp; done) | (go_simp; rfl)); (case hp => exact (Reps.none _ _)); intro v161 w8 ho9 hb hg_ hnew_; clear hg_ hnew_; (first | rw [← Ny160.out] at ho9 | (simp only [Int.reduceToNat] at ho9; rw [← Ny160.out] at ho9)); have HO162 := y0.mk (Kd.R_lower ho9 (y5 qb)); replace HB := y0.mk (y6 qb hb); clear hb ho9))
    go_ret3
    exact ⟨_,by first | rfl | (simp [y13,y14] <;> rfl) | (simp [*,y13,y14] <;> rfl),by (with_reducible repeat (first | apply Kd.R_alloc | apply Kd.R_drewN | apply Kd.R_drew)); exact HO162.out,qb⟩
   ·rw [if_neg c7] at H
    have c7b0 : (x5_1 == (a0.size : Int)) = false := beq_eq_false_iff_ne.mpr c7
    have c7b1 : (x5_1 != (a0.size : Int)) = true := bne_iff_ne.mpr c7
    obtain ⟨y163,hy163⟩ : ∃ y_ : List ByteArray,y_ = (([] : List ByteArray)) := ⟨_,rfl⟩
    replace H : (z4_.l1 kj1 a0 x5_1 y163 0 false (wrap64 (x5_1 + 1)) x5_1) = some (r1,r2,r3) := by first | (rw [hy163]; with_reducible exact H) | (have H2_ := (Option.bind_some _ _).symm.trans H; rw [hy163]; with_reducible exact H2_) | (have H2_ := (Option.bind_some _ _).symm.trans H; with_reducible exact H2_) | with_reducible exact H | (rw [hy163]; exact H) | exact H
    have Ny163 := y0.mk hy163
    clear hy163
    have H' := y0.mk H
    clear H
    go_wp2_with (first | ((with_reducible refine y16 (N := 29) rfl ?_); refine Kd.R_lit Kd.string _ 9 ?hg (N := 29) ?hd (xs := ([] : List ByteArray)) (inner := []) (ok := fun _ => True) (okp := fun _ => True) ?hr ?hp (fun _ hk => hk) trivial (Below.refl _ _) (Nat.le_refl _) (by simp) ?_; (case hd => rfl); (case hg => rfl); (case hr => first | (go_simp; done) | (go_simp; rfl)); (case hp => exact (Reps.none _ _)); intro v164 w10 ho11 hb hg_ hnew_; clear hg_ hnew_; (first | rw [← Ny163.out] at ho11 | (simp only [Int.reduceToNat] at ho11; rw [← Ny163.out] at ho11)); have HO165 := y0.mk (Kd.R_lower ho11 (y5 qb)); replace HB := y0.mk (y6 qb hb); clear hb ho11))
    go_loopg [6,7,8,9,10] kj1 (fun kq v6 v7 v8 v9 v10 w' => ∃ (x6_2 : List ByteArray) (x7_2 : Int) (x8_2 : Bool) (x9_2 : Int) (x10_2 : Int),v7 = .int .i64 x7_2 ∧ v8 = .bool x8_2 ∧ v9 = .int .i64 x9_2 ∧ v10 = .int .i64 x10_2 ∧ y0 (z4_.l1 kq a0 x5_1 x6_2 x7_2 x8_2 x9_2 x10_2 = some (r1,r2,r3)) ∧ y0 (kq ≤ kj1) ∧ y0 (Kd.R Kd.string 9 w' w.heap.size (fun _ => True) v6 x6_2) ∧ y0 (Below w.heap.size w w'))
    case atStart => exact ⟨(y163),(0),(false),(wrap64 (x5_1 + 1)),(x5_1),qy2,qy2,qy2,qy2,H',⟨Nat.le_refl _⟩,⟨qR HO165.out⟩,⟨qb⟩⟩
    case round =>
     clear H'
     (try clear c7b0 c7b1)
     obtain ⟨x6_2,x7_2,x8_2,x9_2,x10_2,rfl,rfl,rfl,rfl,HA,HK2,HO_6,HB⟩ := hrel
     cases gk with
     | zero => exact absurd HA.out (by simp [z4_.l1])
     | succ k2 =>
      have H := HA.out
      clear HA
      simp only [z4_.l1] at H
      by_cases c12 : x10_2 < (a0.size : Int)
      ·rw [if_pos c12] at H
       have c12b0 := decide_eq_true c12
       clear c12
       obtain ⟨c13,H⟩ := qo H
       have c13b0 : decide (0 ≤ x10_2) = true := decide_eq_true c13
       clear c13
       by_cases c15 : (bt a0 x10_2) = 34
       ·rw [if_pos c15] at H
        have c15b0 : ((bt a0 x10_2) == 34) = true := beq_iff_eq.mpr c15
        have c15b1 : ((bt a0 x10_2) != 34) = false := bne_eq_false_iff_eq.mpr c15
        clear c15
        have H' := y0.mk H
        clear H
        have p14 : 0 ≤ (x10_2 : Int) := of_decide_eq_true qy1
        have q14 : x10_2 < (a0.size : Int) := of_decide_eq_true qy1
        have hx14 := bt_at a0 x10_2
        replace p14 := eq_true p14
        replace q14 := eq_true q14
        go_wp2
        go_roundg k2
        case measure => have := HJ1.out; have := HK2.out; omega
        exact ⟨(x6_2),(x7_2),(!x8_2),(x9_2),(wrap64 (x10_2 + 1)),qy2,qy2,qy2,qy2,H',⟨by have := HJ1.out; have := HK2.out; omega⟩,⟨qR HO_6.out⟩,⟨qb⟩⟩
       ·rw [if_neg c15] at H
        have c15b0 : ((bt a0 x10_2) == 34) = false := beq_eq_false_iff_ne.mpr c15
        have c15b1 : ((bt a0 x10_2) != 34) = true := bne_iff_ne.mpr c15
        by_cases c16 : x8_2 = true
        ·subst c16
         replace H := qT H
         have H' := y0.mk H
         clear H
         have p14 : 0 ≤ (x10_2 : Int) := of_decide_eq_true qy1
         have q14 : x10_2 < (a0.size : Int) := of_decide_eq_true qy1
         have hx14 := bt_at a0 x10_2
         replace p14 := eq_true p14
         replace q14 := eq_true q14
         go_wp2
         go_roundg k2
         case measure => have := HJ1.out; have := HK2.out; omega
         exact ⟨(x6_2),(x7_2),(true),(x9_2),(wrap64 (x10_2 + 1)),qy2,qy2,qy2,qy2,H',⟨by have := HJ1.out; have := HK2.out; omega⟩,⟨qR HO_6.out⟩,⟨qb⟩⟩
        ·replace c16 := Bool.eq_false_iff.mpr c16
         subst c16
         replace H := qF H
         by_cases c18 : (bt a0 x10_2) = 40
         ·rw [if_pos c18] at H
          have c18b0 : ((bt a0 x10_2) == 40) = true := beq_iff_eq.mpr c18
          have c18b1 : ((bt a0 x10_2) != 40) = false := bne_eq_false_iff_eq.mpr c18
          clear c18
          have H' := y0.mk H
          clear H
          have p14 : 0 ≤ (x10_2 : Int) := of_decide_eq_true qy1
          have q14 : x10_2 < (a0.size : Int) := of_decide_eq_true qy1
          have hx14 := bt_at a0 x10_2
          replace p14 := eq_true p14
          replace q14 := eq_true q14
          have p17 : 0 ≤ (x10_2 : Int) := of_decide_eq_true qy1
          have q17 : x10_2 < (a0.size : Int) := of_decide_eq_true qy1
          have hx17 := bt_at a0 x10_2
          replace p17 := eq_true p17
          replace q17 := eq_true q17
          go_wp2
          go_roundg k2
          case measure => have := HJ1.out; have := HK2.out; omega
          exact ⟨(x6_2),(wrap64 (x7_2 + 1)),(false),(x9_2),(wrap64 (x10_2 + 1)),qy2,qy2,qy2,qy2,H',⟨by have := HJ1.out; have := HK2.out; omega⟩,⟨qR HO_6.out⟩,⟨qb⟩⟩
         ·rw [if_neg c18] at H
          have c18b0 : ((bt a0 x10_2) == 40) = false := beq_eq_false_iff_ne.mpr c18
          have c18b1 : ((bt a0 x10_2) != 40) = true := bne_iff_ne.mpr c18
          by_cases c20 : (bt a0 x10_2) = 41
          ·rw [if_pos c20] at H
           have c20b0 : ((bt a0 x10_2) == 41) = true := beq_iff_eq.mpr c20
           have c20b1 : ((bt a0 x10_2) != 41) = false := bne_eq_false_iff_eq.mpr c20
           clear c20
           by_cases c21 : (wrap64 (x7_2 - 1)) = 0
           ·rw [if_pos c21] at H
            have c21b0 : ((wrap64 (x7_2 - 1)) == 0) = true := beq_iff_eq.mpr c21
            have c21b1 : ((wrap64 (x7_2 - 1)) != 0) = false := bne_eq_false_iff_eq.mpr c21
            clear c21
            obtain ⟨c22,H⟩ := qo H
            have c22b0 := eq_true c22
            have c22b1 := decide_eq_true c22
            clear c22
            obtain ⟨c23,H⟩ := qo H
            have c23b0 := eq_true c23
            have c23b1 := decide_eq_true c23
            clear c23
            obtain ⟨c24,H⟩ := qo H
            have c24b0 := eq_true c24
            have c24b1 := decide_eq_true c24
            clear c24
            obtain ⟨c25,H⟩ := qo H
            have c25b0 := eq_true c25
            have c25b1 := decide_eq_true c25
            clear c25
            obtain ⟨c26,H⟩ := qo H
            have c26b0 := eq_true c26
            have c26b1 := decide_eq_true c26
            clear c26
            obtain ⟨c27,H⟩ := qo H
            have LMc27 := y0.mk c27
            clear c27
            obtain ⟨y169,hy169⟩ : ∃ y_ : List ByteArray,y_ = (x6_2 ++ [a0.extract (x9_2 : Int).toNat (x10_2 : Int).toNat]) := ⟨_,rfl⟩
            replace H : (some (a0.extract 0 (x5_1 : Int).toNat,y169,(x10_2 == (wrap64 ((a0.size : Int) - 1))))) = some (r1,r2,r3) := by first | (rw [hy169]; with_reducible exact H) | (have H2_ := (Option.bind_some _ _).symm.trans H; rw [hy169]; with_reducible exact H2_) | (have H2_ := (Option.bind_some _ _).symm.trans H; with_reducible exact H2_) | with_reducible exact H | (rw [hy169]; exact H) | exact H
            have Ny169 := y0.mk hy169
            clear hy169
            simp only [Option.some.injEq,Prod.mk.injEq] at H
            obtain ⟨rfl,rfl,rfl⟩ := H
            have p14 : 0 ≤ (x10_2 : Int) := of_decide_eq_true qy1
            have q14 : x10_2 < (a0.size : Int) := of_decide_eq_true qy1
            have hx14 := bt_at a0 x10_2
            replace p14 := eq_true p14
            replace q14 := eq_true q14
            have p17 : 0 ≤ (x10_2 : Int) := of_decide_eq_true qy1
            have q17 : x10_2 < (a0.size : Int) := of_decide_eq_true qy1
            have hx17 := bt_at a0 x10_2
            replace p17 := eq_true p17
            replace q17 := eq_true q17
            have p19 : 0 ≤ (x10_2 : Int) := of_decide_eq_true qy1
            have q19 : x10_2 < (a0.size : Int) := of_decide_eq_true qy1
            have hx19 := bt_at a0 x10_2
            replace p19 := eq_true p19
            replace q19 := eq_true q19
            try go_wp2
            replace HO_6 := y0.mk (Kd.R_drew HO_6.out)
            replace HB := y0.mk (y4 HB.out)
            refine start_ (n := 18) (S := fun w' => True) (ds := []) (fl_ 18 0) (by kernel_rfl) rfl rfl trivial (fun hHeld => ?_); refine with_tabW z4_.tab21 z4_.bits21 (fun HT_ HW_ => ?_)
            generalize wr.drew = w28 at HO_6 HB hHeld ⊢
            refine qp 0 64 (fl_ 18 1) ?_
            refine qp 1 65 (fl_ 18 3) ?_
            refine qp 2 66 (fl_ 18 7) ?_
            refine qp 3 67 (fl_ 18 15) ?_
            refine qp 4 68 (fl_ 18 31) ?_
            refine qp 5 69 (fl_ 18 63) ?_
            refine qp 6 70 (fl_ 18 127) ?_
            refine qp 7 71 (fl_ 18 255) ?_
            refine qp 10 74 (fl_ 18 1279) ?_
            refine qp 11 75 (fl_ 18 3327) ?_
            refine qp 12 76 (fl_ 18 7423) ?_
            refine qp 13 77 (fl_ 18 15615) ?_
            refine qp 14 78 (fl_ 18 31999) ?_
            refine one_ (i := 8) (N := some 72) (fl_ 18 32255) rfl rfl (one_of HT_.out (by kernel_rfl)) (by decide) (fun K hK => ?_)
            refine value_ (w1 := ?_) (v := ?_) (by rfl) rfl ?_ ?_
            rotate_left 2
            ·go_simp
             constructor
             ·rfl
             ·rfl
            refine hK.out _ _ trivial (fun hHeld => ?_)
            clear hK K
            refine norm_ (a' := ?_) ?_ ?_
            rotate_left
            ·show Act.put _ (some 72) _ = _
             simp only [Act.put,qS_,qZ_,qC_,y19,y18]
             rfl
            refine one_ (i := 9) (N := some 73) (fl_ 18 32767) rfl rfl (one_of HT_.out (by kernel_rfl)) (by decide) (fun K hK => ?_)
            refine Kd.R_append_step Kd.string (w0 := w) w.heap.size (by rfl) (.tmp 67) (.tmp 72) 25 9 (.string ⟨#[]⟩) 16 rfl Tryz.underlying25 info9 rfl (by decide) (by omega) u6 x6_2 (a0.extract (x9_2 : Int).toNat (x10_2 : Int).toNat) [.string (a0.extract (x9_2 : Int).toNat (x10_2 : Int).toNat)] (fun _ => True) (fun _ => False) rfl rfl ?aP (fun _ hk => hk.elim) ?aF ?aO ?aB ?aS ?aL ?_
            (case aP => exact rfl)
            (case aB => exact qb)
            (case aF => exact (fun _ _ => trivial))
            (case aO => exact (qR HO_6.out))
            (case aS => exact (y5 qb))
            (case aL => have := LMc27.out; omega)
            intro v170 w29 ho hb hg hat
            rw [← Ny169.out] at ho
            replace HB := y0.mk (hb)
            have HO171 := y0.mk (ho)
            clear HO_6
            clear ho hb hg hat
            refine hK.out _ _ trivial (fun hHeld => ?_)
            clear hK K
            refine norm_ (a' := ?_) ?_ ?_
            rotate_left
            ·show Act.put _ (some 73) _ = _
             simp only [Act.put,qS_,qZ_,qC_,y19,y18]
             rfl
            refine qp 15 2 (fl_ 18 65535) ?_
            refine qp 16 3 (fl_ 18 131071) ?_
            refine qp 17 4 (fl_ 18 262143) ?_
            refine done_ (done_of HT_.out (by kernel_rfl)) ?_
            try go_wp2
            go_ret3
            exact ⟨_,by first | rfl | (simp [y13,y14] <;> rfl) | (simp [*,y13,y14] <;> rfl),by (with_reducible repeat (first | apply Kd.R_alloc | apply Kd.R_drewN | apply Kd.R_drew)); exact HO171.out,qb⟩
           ·rw [if_neg c21] at H
            have c21b0 : ((wrap64 (x7_2 - 1)) == 0) = false := beq_eq_false_iff_ne.mpr c21
            have c21b1 : ((wrap64 (x7_2 - 1)) != 0) = true := bne_iff_ne.mpr c21
            have H' := y0.mk H
            clear H
            have p14 : 0 ≤ (x10_2 : Int) := of_decide_eq_true qy1
            have q14 : x10_2 < (a0.size : Int) := of_decide_eq_true qy1
            have hx14 := bt_at a0 x10_2
            replace p14 := eq_true p14
            replace q14 := eq_true q14
            have p17 : 0 ≤ (x10_2 : Int) := of_decide_eq_true qy1
            have q17 : x10_2 < (a0.size : Int) := of_decide_eq_true qy1
            have hx17 := bt_at a0 x10_2
            replace p17 := eq_true p17
            replace q17 := eq_true q17
            have p19 : 0 ≤ (x10_2 : Int) := of_decide_eq_true qy1
            have q19 : x10_2 < (a0.size : Int) := of_decide_eq_true qy1
            have hx19 := bt_at a0 x10_2
            replace p19 := eq_true p19
            replace q19 := eq_true q19
            go_wp2
            go_roundg k2
            case measure => have := HJ1.out; have := HK2.out; omega
            exact ⟨(x6_2),(wrap64 (x7_2 - 1)),(false),(x9_2),(wrap64 (x10_2 + 1)),qy2,qy2,qy2,qy2,H',⟨by have := HJ1.out; have := HK2.out; omega⟩,⟨qR HO_6.out⟩,⟨qb⟩⟩
          ·rw [if_neg c20] at H
           have c20b0 : ((bt a0 x10_2) == 41) = false := beq_eq_false_iff_ne.mpr c20
           have c20b1 : ((bt a0 x10_2) != 41) = true := bne_iff_ne.mpr c20
           by_cases c31 : (bt a0 x10_2) = 44
           ·rw [if_pos c31] at H
            have c31b0 : ((bt a0 x10_2) == 44) = true := beq_iff_eq.mpr c31
            have c31b1 : ((bt a0 x10_2) != 44) = false := bne_eq_false_iff_eq.mpr c31
            clear c31
            by_cases c32 : x7_2 = 1
            ·rw [if_pos c32] at H
             have c32b0 : (x7_2 == 1) = true := beq_iff_eq.mpr c32
             have c32b1 : (x7_2 != 1) = false := bne_eq_false_iff_eq.mpr c32
             clear c32
             obtain ⟨c33,H⟩ := qo H
             have c33b0 := eq_true c33
             have c33b1 := decide_eq_true c33
             clear c33
             obtain ⟨c34,H⟩ := qo H
             have c34b0 := eq_true c34
             have c34b1 := decide_eq_true c34
             clear c34
             obtain ⟨c35,H⟩ := qo H
             have c35b0 := eq_true c35
             have c35b1 := decide_eq_true c35
             clear c35
             obtain ⟨c36,H⟩ := qo H
             have LMc36 := y0.mk c36
             clear c36
             obtain ⟨y172,hy172⟩ : ∃ y_ : List ByteArray,y_ = (x6_2 ++ [a0.extract (x9_2 : Int).toNat (x10_2 : Int).toNat]) := ⟨_,rfl⟩
             replace H : (z4_.l1 k2 a0 x5_1 y172 x7_2 false (wrap64 (x10_2 + 1)) (wrap64 (x10_2 + 1))) = some (r1,r2,r3) := by first | (rw [hy172]; with_reducible exact H) | (have H2_ := (Option.bind_some _ _).symm.trans H; rw [hy172]; with_reducible exact H2_) | (have H2_ := (Option.bind_some _ _).symm.trans H; with_reducible exact H2_) | with_reducible exact H | (rw [hy172]; exact H) | exact H
             have Ny172 := y0.mk hy172
             clear hy172
             have H' := y0.mk H
             clear H
             have p14 : 0 ≤ (x10_2 : Int) := of_decide_eq_true qy1
             have q14 : x10_2 < (a0.size : Int) := of_decide_eq_true qy1
             have hx14 := bt_at a0 x10_2
             replace p14 := eq_true p14
             replace q14 := eq_true q14
             have p17 : 0 ≤ (x10_2 : Int) := of_decide_eq_true qy1
             have q17 : x10_2 < (a0.size : Int) := of_decide_eq_true qy1
             have hx17 := bt_at a0 x10_2
             replace p17 := eq_true p17
             replace q17 := eq_true q17
             have p19 : 0 ≤ (x10_2 : Int) := of_decide_eq_true qy1
             have q19 : x10_2 < (a0.size : Int) := of_decide_eq_true qy1
             have hx19 := bt_at a0 x10_2
             replace p19 := eq_true p19
             replace q19 := eq_true q19
             have p30 : 0 ≤ (x10_2 : Int) := of_decide_eq_true qy1
             have q30 : x10_2 < (a0.size : Int) := of_decide_eq_true qy1
             have hx30 := bt_at a0 x10_2
             replace p30 := eq_true p30
             replace q30 := eq_true q30
             go_wp2_with (first | ((with_reducible refine gate_builtin (b := .append) (xs := #[.tmp 88,.tmp 93]) rfl ?_); at_builtin; refine Kd.R_append Kd.string (w0 := w) w.heap.size rfl (.tmp 88) (.tmp 93) 25 9 (.string ⟨#[]⟩) 16 rfl Tryz.underlying25 info9 rfl (by decide) (by omega) u6 x6_2 (a0.extract (x9_2 : Int).toNat (x10_2 : Int).toNat) [.string (a0.extract (x9_2 : Int).toNat (x10_2 : Int).toNat)] (fun _ => True) (fun _ => False) rfl rfl ?aP (fun _ hk => hk.elim) ?aF ?aO ?aB ?aS ?aL ?_; (case aP => exact rfl); (case aB => exact qb); (case aF => exact (fun _ _ => trivial)); (case aO => exact (qR HO_6.out)); (case aS => exact (y5 qb)); (case aL => have := LMc36.out; omega); intro v173 w37 ho hb hg hat; rw [← Ny172.out] at ho; replace HB := y0.mk (hb); have HO174 := y0.mk (ho); clear HO_6; clear ho hb hg hat))
             go_roundg k2
             case measure => have := HJ1.out; have := HK2.out; omega
             exact ⟨(y172),(x7_2),(false),(wrap64 (x10_2 + 1)),(wrap64 (x10_2 + 1)),qy2,qy2,qy2,qy2,H',⟨by have := HJ1.out; have := HK2.out; omega⟩,⟨qR HO174.out⟩,⟨qb⟩⟩
            ·rw [if_neg c32] at H
             have c32b0 : (x7_2 == 1) = false := beq_eq_false_iff_ne.mpr c32
             have c32b1 : (x7_2 != 1) = true := bne_iff_ne.mpr c32
             have H' := y0.mk H
             clear H
             have p14 : 0 ≤ (x10_2 : Int) := of_decide_eq_true qy1
             have q14 : x10_2 < (a0.size : Int) := of_decide_eq_true qy1
             have hx14 := bt_at a0 x10_2
             replace p14 := eq_true p14
             replace q14 := eq_true q14
             have p17 : 0 ≤ (x10_2 : Int) := of_decide_eq_true qy1
             have q17 : x10_2 < (a0.size : Int) := of_decide_eq_true qy1
             have hx17 := bt_at a0 x10_2
             replace p17 := eq_true p17
             replace q17 := eq_true q17
             have p19 : 0 ≤ (x10_2 : Int) := of_decide_eq_true qy1
             have q19 : x10_2 < (a0.size : Int) := of_decide_eq_true qy1
             have hx19 := bt_at a0 x10_2
             replace p19 := eq_true p19
             replace q19 := eq_true q19
             have p30 : 0 ≤ (x10_2 : Int) := of_decide_eq_true qy1
             have q30 : x10_2 < (a0.size : Int) := of_decide_eq_true qy1
             have hx30 := bt_at a0 x10_2
             replace p30 := eq_true p30
             replace q30 := eq_true q30
             go_wp2
             go_roundg k2
             case measure => have := HJ1.out; have := HK2.out; omega
             exact ⟨(x6_2),(x7_2),(false),(x9_2),(wrap64 (x10_2 + 1)),qy2,qy2,qy2,qy2,H',⟨by have := HJ1.out; have := HK2.out; omega⟩,⟨qR HO_6.out⟩,⟨qb⟩⟩
           ·rw [if_neg c31] at H
            have c31b0 : ((bt a0 x10_2) == 44) = false := beq_eq_false_iff_ne.mpr c31
            have c31b1 : ((bt a0 x10_2) != 44) = true := bne_iff_ne.mpr c31
            have H' := y0.mk H
            clear H
            have p14 : 0 ≤ (x10_2 : Int) := of_decide_eq_true qy1
            have q14 : x10_2 < (a0.size : Int) := of_decide_eq_true qy1
            have hx14 := bt_at a0 x10_2
            replace p14 := eq_true p14
            replace q14 := eq_true q14
            have p17 : 0 ≤ (x10_2 : Int) := of_decide_eq_true qy1
            have q17 : x10_2 < (a0.size : Int) := of_decide_eq_true qy1
            have hx17 := bt_at a0 x10_2
            replace p17 := eq_true p17
            replace q17 := eq_true q17
            have p19 : 0 ≤ (x10_2 : Int) := of_decide_eq_true qy1
            have q19 : x10_2 < (a0.size : Int) := of_decide_eq_true qy1
            have hx19 := bt_at a0 x10_2
            replace p19 := eq_true p19
            replace q19 := eq_true q19
            have p30 : 0 ≤ (x10_2 : Int) := of_decide_eq_true qy1
            have q30 : x10_2 < (a0.size : Int) := of_decide_eq_true qy1
            have hx30 := bt_at a0 x10_2
            replace p30 := eq_true p30
            replace q30 := eq_true q30
            go_wp2
            go_roundg k2
            case measure => have := HJ1.out; have := HK2.out; omega
            exact ⟨(x6_2),(x7_2),(false),(x9_2),(wrap64 (x10_2 + 1)),qy2,qy2,qy2,qy2,H',⟨by have := HJ1.out; have := HK2.out; omega⟩,⟨qR HO_6.out⟩,⟨qb⟩⟩
      ·rw [if_neg c12] at H
       have c12b0 := decide_eq_false c12
       clear c12
       obtain ⟨y166,hy166⟩ : ∃ y_ : List ByteArray,y_ = (([] : List ByteArray)) := ⟨_,rfl⟩
       replace H : (some ((⟨#[]⟩ : ByteArray),y166,false)) = some (r1,r2,r3) := by first | (rw [hy166]; with_reducible exact H) | (have H2_ := (Option.bind_some _ _).symm.trans H; rw [hy166]; with_reducible exact H2_) | (have H2_ := (Option.bind_some _ _).symm.trans H; with_reducible exact H2_) | with_reducible exact H | (rw [hy166]; exact H) | exact H
       have Ny166 := y0.mk hy166
       clear hy166
       simp only [Option.some.injEq,Prod.mk.injEq] at H
       obtain ⟨rfl,rfl,rfl⟩ := H
       go_wp2_with (first | ((with_reducible refine y16 (N := 97) rfl ?_); refine Kd.R_lit Kd.string _ 9 ?hg (N := 97) ?hd (xs := ([] : List ByteArray)) (inner := []) (ok := fun _ => True) (okp := fun _ => True) ?hr ?hp (fun _ hk => hk) trivial (Below.refl _ _) (Nat.le_refl _) (by simp) ?_; (case hd => rfl); (case hg => rfl); (case hr => first | (go_simp; done) | (go_simp; rfl)); (case hp => exact (Reps.none _ _)); intro v167 w38 ho39 hb hg_ hnew_; clear hg_ hnew_; (first | rw [← Ny166.out] at ho39 | (simp only [Int.reduceToNat] at ho39; rw [← Ny166.out] at ho39)); have HO168 := y0.mk (Kd.R_lower (Kd.R_new' ho39 (Kd.R_lt (qR HO_6.out))) (y5 qb)); replace HO_6 := y0.mk (Kd.R_elder' (qR HO_6.out) (Kd.R_base ho39) hb); replace HB := y0.mk (y6 qb hb); clear hb ho39))
       go_ret3
       exact ⟨_,by first | rfl | (simp [y13,y14] <;> rfl) | (simp [*,y13,y14] <;> rfl),by (with_reducible repeat (first | apply Kd.R_alloc | apply Kd.R_drewN | apply Kd.R_drew)); exact Kd.R_mono HO168.out (fun _ hk => trivial),qb⟩
end Go.Proofs.YtkajecadkkgfmaaGreatDoor.Pe
end
section
namespace Go.Proofs.YtkajecadkkgfmaaGreatDoor.Pe
open Go.RowKit Go.Proofs.YtkajecadkkgfmaaGreatDoorW.PrintWords Go.Proofs.YtkajecadkkgfmaaGreatDoorW.PrintLast Go.Proofs.YtkajecadkkgfmaaGreatDoorW.PrintMore
attribute [local go_sem] max2_int min2_int max_two min_two max_three min_three max_four min_four   -- for this text's walks alone
set_option linter.unusedVariables false
set_option linter.unusedSimpArgs false
def spec_l01Big.f (a0 : Int) : Option (Bool) := if a0 ≥ 65 then (some (decide (a0 ≤ 90))) else (some false)
set_option maxHeartbeats 8000000 in
set_option maxRecDepth 100000 in
theorem spec_l01Big.calls (a0 : Int) (r : Bool) (w : World) (h : spec_l01Big.f a0 = some r) :
  Calls Tryz.prog 115 #[.int .u8 a0] w fun e w' => e = .returned (.bool r) ∧ y1 w w' := by
 have H : (if a0 ≥ 65 then (some (decide (a0 ≤ 90))) else (some false)) = some r := h
 clear h
 by_cases c2 : a0 ≥ 65
 ·rw [if_pos c2] at H
  have c2b0 : decide (65 ≤ a0) = true := decide_eq_true c2
  clear c2
  obtain rfl := Option.some.inj H
  go_enter Tryz.func115,Tryz.ntmps115
  go_wp2
  go_ret
  exact ⟨by first | rfl | (simp; done) | (simp [*]; done),by repeat (first | exact y1.refl _ | apply y1.step)⟩
 ·rw [if_neg c2] at H
  have c2b0 : decide (65 ≤ a0) = false := decide_eq_false c2
  clear c2
  obtain rfl := Option.some.inj H
  go_enter Tryz.func115,Tryz.ntmps115
  go_wp2
  go_ret
  exact ⟨by first | rfl | (simp; done) | (simp [*]; done),by repeat (first | exact y1.refl _ | apply y1.step)⟩
def spec_l01Small.f (a0 : Int) : Option (Bool) := if a0 ≥ 97 then (some (decide (a0 ≤ 122))) else (some false)
set_option maxHeartbeats 8000000 in
set_option maxRecDepth 100000 in
theorem spec_l01Small.calls (a0 : Int) (r : Bool) (w : World) (h : spec_l01Small.f a0 = some r) :
  Calls Tryz.prog 116 #[.int .u8 a0] w fun e w' => e = .returned (.bool r) ∧ y1 w w' := by
 have H : (if a0 ≥ 97 then (some (decide (a0 ≤ 122))) else (some false)) = some r := h
 clear h
 by_cases c2 : a0 ≥ 97
 ·rw [if_pos c2] at H
  have c2b0 : decide (97 ≤ a0) = true := decide_eq_true c2
  clear c2
  obtain rfl := Option.some.inj H
  go_enter Tryz.func116,Tryz.ntmps116
  go_wp2
  go_ret
  exact ⟨by first | rfl | (simp; done) | (simp [*]; done),by repeat (first | exact y1.refl _ | apply y1.step)⟩
 ·rw [if_neg c2] at H
  have c2b0 : decide (97 ≤ a0) = false := decide_eq_false c2
  clear c2
  obtain rfl := Option.some.inj H
  go_enter Tryz.func116,Tryz.ntmps116
  go_wp2
  go_ret
  exact ⟨by first | rfl | (simp; done) | (simp [*]; done),by repeat (first | exact y1.refl _ | apply y1.step)⟩
def spec_l01Letter.f (a0 : Int) : Option (Bool) := (spec_l01Small.f a0).bind fun t175 => (if t175 = true then (some true) else ((spec_l01Big.f a0).bind fun t176 => (if t176 = true then (some true) else ((spec_l01Digit.f a0).bind fun t177 => (if t177 = true then (some true) else (some (a0 == 95)))))))
set_option maxHeartbeats 8000000 in
set_option maxRecDepth 100000 in
theorem spec_l01Letter.calls (a0 : Int) (r : Bool) (w : World) (h : spec_l01Letter.f a0 = some r) :
  Calls Tryz.prog 117 #[.int .u8 a0] w fun e w' => e = .returned (.bool r) ∧ y1 w w' := by
 have H : ((spec_l01Small.f a0).bind fun t175 => (if t175 = true then (some true) else ((spec_l01Big.f a0).bind fun t176 => (if t176 = true then (some true) else ((spec_l01Digit.f a0).bind fun t177 => (if t177 = true then (some true) else (some (a0 == 95)))))))) = some r := h
 clear h
 obtain ⟨t175,A2,H⟩ := qB H
 by_cases c3 : t175 = true
 ·subst c3
  replace H := qT H
  obtain rfl := Option.some.inj H
  go_enter Tryz.func117,Tryz.ntmps117
  go_wp2_with (first | ((with_reducible refine y15 (f := 116) rfl ?_); refine y17 (some 4) rfl rfl Tryz.func116 (by kernel_rfl) rfl #[.int .u8 a0] rfl qy0 ?_; (with_reducible refine (spec_l01Small.calls a0 true _ A2.out).mono ?_); rintro e w' ⟨rfl,⟨nd,rfl⟩⟩; refine ⟨_,rfl, ?_⟩))
  go_ret
  exact ⟨by first | rfl | (simp; done) | (simp [*]; done),by repeat (first | exact y1.refl _ | apply y1.step)⟩
 ·replace c3 := Bool.eq_false_iff.mpr c3
  subst c3
  replace H := qF H
  obtain ⟨t176,A4,H⟩ := qB H
  by_cases c5 : t176 = true
  ·subst c5
   replace H := qT H
   obtain rfl := Option.some.inj H
   go_enter Tryz.func117,Tryz.ntmps117
   go_wp2_with (first | ((with_reducible refine y15 (f := 116) rfl ?_); refine y17 (some 4) rfl rfl Tryz.func116 (by kernel_rfl) rfl #[.int .u8 a0] rfl qy0 ?_; (with_reducible refine (spec_l01Small.calls a0 false _ A2.out).mono ?_); rintro e w' ⟨rfl,⟨nd,rfl⟩⟩; refine ⟨_,rfl, ?_⟩) | (go_at_call 115; (with_reducible refine (spec_l01Big.calls a0 true _ A4.out).mono ?_); rintro e w' ⟨rfl,⟨nd,rfl⟩⟩))
   go_ret
   exact ⟨by first | rfl | (simp; done) | (simp [*]; done),by repeat (first | exact y1.refl _ | apply y1.step)⟩
  ·replace c5 := Bool.eq_false_iff.mpr c5
   subst c5
   replace H := qF H
   obtain ⟨t177,A6,H⟩ := qB H
   by_cases c7 : t177 = true
   ·subst c7
    replace H := qT H
    obtain rfl := Option.some.inj H
    go_enter Tryz.func117,Tryz.ntmps117
    go_wp2_with (first | ((with_reducible refine y15 (f := 116) rfl ?_); refine y17 (some 4) rfl rfl Tryz.func116 (by kernel_rfl) rfl #[.int .u8 a0] rfl qy0 ?_; (with_reducible refine (spec_l01Small.calls a0 false _ A2.out).mono ?_); rintro e w' ⟨rfl,⟨nd,rfl⟩⟩; refine ⟨_,rfl, ?_⟩) | (go_at_call 115; (with_reducible refine (spec_l01Big.calls a0 false _ A4.out).mono ?_); rintro e w' ⟨rfl,⟨nd,rfl⟩⟩) | (go_at_call 114; (with_reducible refine (spec_l01Digit.calls a0 true _ A6.out).mono ?_); rintro e w' ⟨rfl,⟨nd,rfl⟩⟩))
    go_ret
    exact ⟨by first | rfl | (simp; done) | (simp [*]; done),by repeat (first | exact y1.refl _ | apply y1.step)⟩
   ·replace c7 := Bool.eq_false_iff.mpr c7
    subst c7
    replace H := qF H
    obtain rfl := Option.some.inj H
    go_enter Tryz.func117,Tryz.ntmps117
    go_wp2_with (first | ((with_reducible refine y15 (f := 116) rfl ?_); refine y17 (some 4) rfl rfl Tryz.func116 (by kernel_rfl) rfl #[.int .u8 a0] rfl qy0 ?_; (with_reducible refine (spec_l01Small.calls a0 false _ A2.out).mono ?_); rintro e w' ⟨rfl,⟨nd,rfl⟩⟩; refine ⟨_,rfl, ?_⟩) | (go_at_call 115; (with_reducible refine (spec_l01Big.calls a0 false _ A4.out).mono ?_); rintro e w' ⟨rfl,⟨nd,rfl⟩⟩) | (go_at_call 114; (with_reducible refine (spec_l01Digit.calls a0 false _ A6.out).mono ?_); rintro e w' ⟨rfl,⟨nd,rfl⟩⟩))
    go_ret
    exact ⟨by first | rfl | (simp; done) | (simp [*]; done),by repeat (first | exact y1.refl _ | apply y1.step)⟩
mutual
def spec_l01Name.j0 : Nat → ByteArray → Bool → Option (Bool)
 | 0,_,_ => none
 | k + 1,x0,x28 => if x28 = true then (some false) else (spec_l01Name.l0 k x0 0)
def spec_l01Name.l0 : Nat → ByteArray → Int → Option (Bool)
 | 0,_,_ => none
 | k + 1,x0,x5 => if x5 < (x0.size : Int) then (if 0 ≤ x5 then ((spec_l01Letter.f (bt x0 x5)).bind fun t181 => (if t181 = true then (spec_l01Name.l0 k x0 (wrap64 (x5 + 1))) else (some false))) else (none)) else (some true)
end
def spec_l01Name.f (k : Nat) (a0 : ByteArray) (a1 : Bool) : Option (Bool) := (spec_l01Between.f (a0.size : Int) 1 20).bind fun t178 => (if t178 = true then (if a1 = true then (if 0 < (a0.size : Int) then ((spec_l01Big.f (bt a0 0)).bind fun t179 => (if t179 = true then (spec_l01Name.j0 k a0 false) else (spec_l01Name.j0 k a0 true))) else (none)) else (if 0 < (a0.size : Int) then ((spec_l01Small.f (bt a0 0)).bind fun t180 => (spec_l01Name.j0 k a0 (!t180))) else (none))) else (spec_l01Name.j0 k a0 true))
set_option maxHeartbeats 8000000 in
set_option maxRecDepth 100000 in
theorem spec_l01Name.calls (k : Nat) (a0 : ByteArray) (a1 : Bool) (r : Bool) (w : World) (h : spec_l01Name.f k a0 a1 = some r) :
  Calls Tryz.prog 94 #[.string a0,.bool a1] w fun e w' => e = .returned (.bool r) ∧ y1 w w' := by
 have H : ((spec_l01Between.f (a0.size : Int) 1 20).bind fun t178 => (if t178 = true then (if a1 = true then (if 0 < (a0.size : Int) then ((spec_l01Big.f (bt a0 0)).bind fun t179 => (if t179 = true then (spec_l01Name.j0 k a0 false) else (spec_l01Name.j0 k a0 true))) else (none)) else (if 0 < (a0.size : Int) then ((spec_l01Small.f (bt a0 0)).bind fun t180 => (spec_l01Name.j0 k a0 (!t180))) else (none))) else (spec_l01Name.j0 k a0 true))) = some r := h
 clear h
 have HC3 := y0.mk H
 clear H
 go_enter Tryz.func94,Tryz.ntmps94
 go_upto_region 1 with (fail)
 go_cut [28] (fun v28 wc => ∃ (kq : Nat) (x28_2 : Bool),v28 = .bool x28_2 ∧ y0 (spec_l01Name.j0 kq a0 x28_2 = some r) ∧ y0 (kq ≤ k) ∧ y1 w wc)
 case first =>
  have H := HC3.out
  clear HC3
  obtain ⟨t178,A4,H⟩ := qB H
  by_cases c5 : t178 = true
  ·subst c5
   replace H := qT H
   by_cases c6 : a1 = true
   ·subst c6
    replace H := qT H
    obtain ⟨c7,H⟩ := qo H
    have c7b0 : decide (0 < (a0.size : Int)) = true := decide_eq_true c7
    have c7b1 : decide (0 < a0.size) = true := decide_eq_true (by omega)
    clear c7
    (first | rw [c7b0] | (simp only [y19,y18]; rw [c7b0]) | skip)
    obtain ⟨t179,A9,H⟩ := qB H
    by_cases c10 : t179 = true
    ·subst c10
     replace H := qT H
     have H' := y0.mk H
     clear H
     go_wp2_with (first | ((with_reducible refine y15 (f := 56) rfl ?_); refine y17 (some 8) rfl rfl Tryz.func56 (by kernel_rfl) rfl #[.int .i64 (a0.size : Int),.int .i64 1,.int .i64 20] rfl qy0 ?_; (with_reducible refine (spec_l01Between.calls (a0.size : Int) 1 20 true _ A4.out).mono ?_); rintro e w' ⟨rfl,⟨nd,rfl⟩⟩; refine ⟨_,rfl, ?_⟩; have p8 : 0 ≤ (0 : Int) := (by omega); have q8 : 0 < a0.size := qy4; have hx8 : ∀ h : 0 < a0.size,((a0[0]'h).toNat : Int) = bt a0 0 := bt_at a0 0; clear p8; have qi8 : (0 < (a0.size : Int)) = True := eq_true (of_decide_eq_true qy1); replace q8 := eq_true q8) | (go_at_call 115; (with_reducible refine (spec_l01Big.calls (bt a0 0) true _ A9.out).mono ?_); rintro e w' ⟨rfl,⟨nd,rfl⟩⟩))
     go_meet
     exact ⟨_,(false),qy2,H',⟨by first | omega | exact Nat.le_refl _⟩,by repeat (first | exact y1.refl _ | apply y1.step)⟩
    ·replace c10 := Bool.eq_false_iff.mpr c10
     subst c10
     replace H := qF H
     have H' := y0.mk H
     clear H
     go_wp2_with (first | ((with_reducible refine y15 (f := 56) rfl ?_); refine y17 (some 8) rfl rfl Tryz.func56 (by kernel_rfl) rfl #[.int .i64 (a0.size : Int),.int .i64 1,.int .i64 20] rfl qy0 ?_; (with_reducible refine (spec_l01Between.calls (a0.size : Int) 1 20 true _ A4.out).mono ?_); rintro e w' ⟨rfl,⟨nd,rfl⟩⟩; refine ⟨_,rfl, ?_⟩; have p8 : 0 ≤ (0 : Int) := (by omega); have q8 : 0 < a0.size := qy4; have hx8 : ∀ h : 0 < a0.size,((a0[0]'h).toNat : Int) = bt a0 0 := bt_at a0 0; clear p8; have qi8 : (0 < (a0.size : Int)) = True := eq_true (of_decide_eq_true qy1); replace q8 := eq_true q8) | (go_at_call 115; (with_reducible refine (spec_l01Big.calls (bt a0 0) false _ A9.out).mono ?_); rintro e w' ⟨rfl,⟨nd,rfl⟩⟩))
     go_meet
     exact ⟨_,(true),qy2,H',⟨by first | omega | exact Nat.le_refl _⟩,by repeat (first | exact y1.refl _ | apply y1.step)⟩
   ·replace c6 := Bool.eq_false_iff.mpr c6
    subst c6
    replace H := qF H
    obtain ⟨c11,H⟩ := qo H
    have c11b0 : decide (0 < (a0.size : Int)) = true := decide_eq_true c11
    have c11b1 : decide (0 < a0.size) = true := decide_eq_true (by omega)
    clear c11
    obtain ⟨t180,A13,H⟩ := qB H
    have H' := y0.mk H
    clear H
    go_wp2_with (first | ((with_reducible refine y15 (f := 56) rfl ?_); refine y17 (some 8) rfl rfl Tryz.func56 (by kernel_rfl) rfl #[.int .i64 (a0.size : Int),.int .i64 1,.int .i64 20] rfl qy0 ?_; (with_reducible refine (spec_l01Between.calls (a0.size : Int) 1 20 true _ A4.out).mono ?_); rintro e w' ⟨rfl,⟨nd,rfl⟩⟩; refine ⟨_,rfl, ?_⟩; have p12 : 0 ≤ (0 : Int) := (by omega); have q12 : 0 < a0.size := qy4; have hx12 : ∀ h : 0 < a0.size,((a0[0]'h).toNat : Int) = bt a0 0 := bt_at a0 0; clear p12; have qi12 : (0 < (a0.size : Int)) = True := eq_true (of_decide_eq_true qy1); replace q12 := eq_true q12) | (go_at_call 116; (with_reducible refine (spec_l01Small.calls (bt a0 0) t180 _ A13.out).mono ?_); rintro e w' ⟨rfl,⟨nd,rfl⟩⟩))
    go_meet
    exact ⟨_,(!t180),qy2,H',⟨by first | omega | exact Nat.le_refl _⟩,by repeat (first | exact y1.refl _ | apply y1.step)⟩
  ·replace c5 := Bool.eq_false_iff.mpr c5
   subst c5
   replace H := qF H
   have H' := y0.mk H
   clear H
   go_wp2_with (first | ((with_reducible refine y15 (f := 56) rfl ?_); refine y17 (some 8) rfl rfl Tryz.func56 (by kernel_rfl) rfl #[.int .i64 (a0.size : Int),.int .i64 1,.int .i64 20] rfl qy0 ?_; (with_reducible refine (spec_l01Between.calls (a0.size : Int) 1 20 false _ A4.out).mono ?_); rintro e w' ⟨rfl,⟨nd,rfl⟩⟩; refine ⟨_,rfl, ?_⟩))
   go_meet
   exact ⟨_,(true),qy2,H',⟨by first | omega | exact Nat.le_refl _⟩,by repeat (first | exact y1.refl _ | apply y1.step)⟩
 case rest =>
  clear HC3
  obtain ⟨kq,x28_2,rfl,HA,HJ2,⟨mc2,rfl⟩⟩ := hcut
  cases kq with
  | zero => exact absurd HA.out (by simp [spec_l01Name.j0])
  | succ kj2 =>
   have H := HA.out
   clear HA
   simp only [spec_l01Name.j0] at H
   by_cases c14 : x28_2 = true
   ·subst c14
    replace H := qT H
    obtain rfl := Option.some.inj H
    go_wp2
    go_ret
    exact ⟨by first | rfl | (simp; done) | (simp [*]; done),by repeat (first | exact y1.refl _ | apply y1.step)⟩
   ·replace c14 := Bool.eq_false_iff.mpr c14
    subst c14
    replace H := qF H
    have H' := y0.mk H
    clear H
    go_wp2
    go_loopg [5] kj2 (fun kq v5 w' => ∃ (x5_2 : Int),v5 = .int .i64 x5_2 ∧ y0 (spec_l01Name.l0 kq a0 x5_2 = some r) ∧ y0 (kq ≤ kj2) ∧ y1 w w')
    case atStart => exact ⟨(0),qy2,H',⟨Nat.le_refl _⟩,by repeat (first | exact y1.refl _ | apply y1.step)⟩
    case round =>
     clear H'
     (try clear c14)
     obtain ⟨x5_2,rfl,HA,HK2,⟨m2,rfl⟩⟩ := hrel
     cases gk with
     | zero => exact absurd HA.out (by simp [spec_l01Name.l0])
     | succ k2 =>
      have H := HA.out
      clear HA
      simp only [spec_l01Name.l0] at H
      by_cases c15 : x5_2 < (a0.size : Int)
      ·rw [if_pos c15] at H
       have c15b0 := decide_eq_true c15
       clear c15
       obtain ⟨c16,H⟩ := qo H
       have c16b0 : decide (0 ≤ x5_2) = true := decide_eq_true c16
       clear c16
       obtain ⟨t181,A18,H⟩ := qB H
       by_cases c19 : t181 = true
       ·subst c19
        replace H := qT H
        have H' := y0.mk H
        clear H
        have p17 : 0 ≤ (x5_2 : Int) := of_decide_eq_true qy1
        have q17 : x5_2 < (a0.size : Int) := of_decide_eq_true qy1
        have hx17 := bt_at a0 x5_2
        replace p17 := eq_true p17
        replace q17 := eq_true q17
        go_wp2_with (first | ((with_reducible refine y15 (f := 117) rfl ?_); refine y17 (some 38) rfl rfl Tryz.func117 (by kernel_rfl) rfl #[.int .u8 (bt a0 x5_2)] rfl qy0 ?_; (with_reducible refine (spec_l01Letter.calls (bt a0 x5_2) true _ A18.out).mono ?_); rintro e w' ⟨rfl,⟨nd,rfl⟩⟩; refine ⟨_,rfl, ?_⟩))
        go_roundg k2
        case measure => have := HJ2.out; have := HK2.out; omega
        exact ⟨(wrap64 (x5_2 + 1)),qy2,H',⟨by have := HJ2.out; have := HK2.out; omega⟩,by repeat (first | exact y1.refl _ | apply y1.step)⟩
       ·replace c19 := Bool.eq_false_iff.mpr c19
        subst c19
        replace H := qF H
        obtain rfl := Option.some.inj H
        have p17 : 0 ≤ (x5_2 : Int) := of_decide_eq_true qy1
        have q17 : x5_2 < (a0.size : Int) := of_decide_eq_true qy1
        have hx17 := bt_at a0 x5_2
        replace p17 := eq_true p17
        replace q17 := eq_true q17
        go_wp2_with (first | ((with_reducible refine y15 (f := 117) rfl ?_); refine y17 (some 38) rfl rfl Tryz.func117 (by kernel_rfl) rfl #[.int .u8 (bt a0 x5_2)] rfl qy0 ?_; (with_reducible refine (spec_l01Letter.calls (bt a0 x5_2) false _ A18.out).mono ?_); rintro e w' ⟨rfl,⟨nd,rfl⟩⟩; refine ⟨_,rfl, ?_⟩))
        go_ret
        exact ⟨by first | rfl | (simp; done) | (simp [*]; done),by repeat (first | exact y1.refl _ | apply y1.step)⟩
      ·rw [if_neg c15] at H
       have c15b0 := decide_eq_false c15
       clear c15
       obtain rfl := Option.some.inj H
       go_wp2
       go_ret
       exact ⟨by first | rfl | (simp; done) | (simp [*]; done),by repeat (first | exact y1.refl _ | apply y1.step)⟩
end Go.Proofs.YtkajecadkkgfmaaGreatDoor.Pe
end
