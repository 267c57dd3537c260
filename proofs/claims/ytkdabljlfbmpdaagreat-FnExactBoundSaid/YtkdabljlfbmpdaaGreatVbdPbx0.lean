-- Cut by prune.py, a program of this session, out of the texts of this claim: Lean checks it.
import Derived.Test.YtkdabljlfbmpdaaGreatProg
import Derived.Below
import Derived.Deep.Draws
import Derived.Deep.AppendLies
import Derived.Maps.AppendAt
import Derived.OwnWalk
import Derived.Laws.BytesArg
import Derived.Laws.MakeOwn
import Derived.Laws.OwnMore
import Derived.Deep.OwnRows
import Derived.Tactics
import Derived.Lib.ConvBytes
import Derived.Laws.Slices
import Derived.WalkKit
import Derived.KernelRfl
import Derived.RowKit3
import Derived.Deep.LoopGhost
import Derived.Deep.QuietTactic
import Derived.BigQuiet
import Derived.WideLaws
import Derived.Deep.DeepCutAuto
import Derived.Deep.CutBlock
import Derived.Deep.RegionHeld3
import Derived.Laws.Rows
import Derived.Lib.AppendStr
import Derived.ArgAppend
import Derived.Laws.IdiomCopy
import Derived.OrdersHeld
import Derived.Laws.BitsLemmas
import Derived.RowKit
import Derived.Test.YtkdabljlfbmpdaaGreatVbdWWords
import Derived.Test.YtkdabljlfbmpdaaGreatVbdWLast
import Derived.Test.YtkdabljlfbmpdaaGreatVbdWTab
import Derived.Test.YtkdabljlfbmpdaaGreatVbdWApart
import Derived.Test.YtkdabljlfbmpdaaGreatVbdWFoot
import Derived.Test.YtkdabljlfbmpdaaGreatVbdWKept
import Derived.Test.YtkdabljlfbmpdaaGreatVbdWShare
import Derived.Test.YtkdabljlfbmpdaaGreatVbdWN
import Derived.Laws.StructEq
import Derived.Test.YtkdabljlfbmpdaaGreatVbdWRepsOne
import Derived.Test.YtkdabljlfbmpdaaGreatVbdWInv
import Derived.Test.YtkdabljlfbmpdaaGreatVbdWGuard
import Derived.Test.YtkdabljlfbmpdaaGreatVbdWNEv
import Derived.Test.YtkdabljlfbmpdaaGreatVbdWMore
import Derived.Test.YtkdabljlfbmpdaaGreatVbdQIvP
import Derived.Test.YtkdabljlfbmpdaaGreatVbdQSet
import Derived.Test.YtkdabljlfbmpdaaGreatVbdShelf
import Derived.Lib.LaidTab
import Derived.WalkSmall
import Derived.Test.YtkdabljlfbmpdaaGreatVbdQRead
import Derived.Test.YtkdabljlfbmpdaaGreatVbdQWords
section
namespace Go.Proofs.YtkdabljlfbmpdaaGreat.Pb
open Go.RowKit Go.Proofs.YtkdabljlfbmpdaaGreatW.PrintWords Go.Proofs.YtkdabljlfbmpdaaGreatW.PrintLast Go.Proofs.YtkdabljlfbmpdaaGreatW.PrintMore
attribute [local go_sem] max2_int min2_int max_two min_two max_three min_three max_four min_four   -- for this text's walks alone
set_option linter.unusedVariables false
set_option linter.unusedSimpArgs false
theorem qy0 {P:Prop} (h:P:=by first|(with_reducible assumption)|assumption):P:=h
theorem qy1 {P:Prop} (h:P:=by(try simp only [qM_,List.map_cons,List.map_nil]);first|done|rfl|(simp only [qD_,qT_];rfl)):P:=h
theorem qy2 {P:Prop} (h:P:=by first|rfl|(simp;done)|(simp [*];done)):P:=h
theorem qb {w W:World} (h:Below w.heap.size w W:=by repeat(first|(with_reducible first|exact HB.out|apply below_alloc|apply y18|apply y2|refine y3 ?_ (y0.out (by with_reducible assumption)))|exact HB.out)):Below w.heap.size w W:=h
theorem qg {w W:World} {g:Nat} (e:g=W.heap.size) (h:Below w.heap.size w W:=by repeat(first|(with_reducible first|exact HB.out|apply below_alloc|apply y18|apply y2|refine y3 ?_ (y0.out (by with_reducible assumption)))|exact HB.out)):w.heap.size≤g:=by rw [e];exact y4 h
theorem qk {w W:World} {g:Nat} {o:Obj} (h:w.heap[g]?=some o) (h1:Below w.heap.size w W:=by repeat(first|with_reducible exact Below.refl _ _|with_reducible apply below_alloc|with_reducible apply y18|with_reducible apply y2)):W.heap[g]?=some o:=y7 h h1
theorem qK {w W w2:World} {g:Nat} {o:Obj} (h:w.heap[g]?=some o) (hb:Below W.heap.size W w2) (h1:Below w.heap.size w W:=by repeat(first|with_reducible exact Below.refl _ _|with_reducible apply below_alloc|with_reducible apply y18|with_reducible apply y2)):w2.heap[g]?=some o:=y7 (y7 h h1) hb
theorem qn {w W:World} {g g2:Nat} {o:Obj} (h:w.heap[g]?=some o) (e:g2=W.heap.size) (h1:Below w.heap.size w W:=by repeat(first|with_reducible exact Below.refl _ _|with_reducible apply below_alloc|with_reducible apply y18|with_reducible apply y2)):g≠g2:=by rw [e];exact Nat.ne_of_lt (blk_lt (y7 h h1))
theorem qm {w W:World} {g g2:Nat} {o:Obj} (h:w.heap[g]?=some o) (e:g2=W.heap.size) (h1:Below w.heap.size w W:=by repeat(first|with_reducible exact Below.refl _ _|with_reducible apply below_alloc|with_reducible apply y18|with_reducible apply y2)):g2≠g:=Ne.symm (qn h e h1)
theorem qc {α:Type} {d:Kd α} {w W:World} {A:Option Addr} {n:Nat} {xs:List α} (h:d.C w A n xs) (h1:Below w.heap.size w W:=by repeat(first|with_reducible exact Below.refl _ _|with_reducible apply below_alloc|with_reducible apply y18|with_reducible apply y2)):d.C W A n xs:=Kd.C_below h h1
theorem qo {P:Prop} [Decidable P] {α:Type} {X Y:Option α} {r:α} (h:(if P then X else Y)=some r) (hn:¬(Y=some r):=by simp):P∧X=some r:=by
 by_cases c:P
 ·rw [if_pos c]at h
  exact⟨c,h⟩
 ·rw [if_neg c]at h
  exact absurd h hn
theorem qB {α β:Type} {x:Option α} {f:α→Option β} {r:β} (h:x.bind f=some r):∃ t,y0 (x=some t)∧f t=some r:=by
 obtain⟨t,a,b⟩:=Option.bind_eq_some_iff.mp h
 exact⟨t,⟨a⟩,b⟩
theorem qT {α:Type} {X Y:Option α} {r:α} {d:Decidable (true=true)} (h:(@ite _ (true=true) d X Y)=some r):X=some r:=by rwa [if_pos rfl]at h
theorem qF {α:Type} {X Y:Option α} {r:α} {d:Decidable (false=true)} (h:(@ite _ (false=true) d X Y)=some r):Y=some r:=by rwa [if_neg Bool.false_ne_true]at h
theorem qs {M X Y:Nat} (h:(M < X)=False) (e:Y=X:=by simp only [ByteArray.size_append];first|done|rfl|(simp only [← Nat.add_assoc];rfl)):(M < Y)=False:=by rw [e];exact h
theorem qR {α:Type} {d:Kd α} {e base:Nat} {w W:World} {ok:Nat→Prop} {v:Value} {xs:List α} (h:d.R e w base ok v xs) (h1:Below w.heap.size w W:=by repeat(first|with_reducible exact Below.refl _ _|with_reducible apply below_alloc|with_reducible apply y18|with_reducible apply y2|exact⟨rfl,rfl,rfl,Nat.le_refl _,fun _ _=>rfl⟩)):d.R e W base ok v xs:=Kd.R_below h h1
theorem qS {α:Type} {d:Kd α} {e base:Nat} {w W:World} {ok:Nat→Prop} {v:Value} {xs:List α} (h:Kd.S d e w base ok v xs) (h1:Below w.heap.size w W:=by repeat(first|with_reducible exact Below.refl _ _|with_reducible apply below_alloc|with_reducible apply y18|with_reducible apply y2)):Kd.S d e W base ok v xs:=Kd.S_below h h1
theorem qN {α:Type} {d:Kd α} {e base:Nat} {w W:World} {ok:Nat→Prop} {v:Value} {xs:List α} (h:Kd.N d e w base ok v xs) (h1:Below w.heap.size w W:=by repeat(first|with_reducible exact Below.refl _ _|with_reducible apply below_alloc|with_reducible apply y18|with_reducible apply y2)):Kd.N d e W base ok v xs:=Kd.N_below h h1
theorem qV {α:Type} {d:Kd α} {e base:Nat} {w W:World} {ok:Nat→Prop} {v:Value} {xs:List α} (h:Kd.V d e w base ok v xs) (h1:Below w.heap.size w W:=by repeat(first|with_reducible exact Below.refl _ _|with_reducible apply below_alloc|with_reducible apply y18|with_reducible apply y2)):Kd.V d e W base ok v xs:=Kd.V_below h h1
theorem qz3 {w:World} {g t:Nat} {a0 a1 a2:Value} (h:w.heap[g]?=some (.cells #[a0,a1,a2] t (0,0))):w.cell? ⟨g,0,none⟩=some a0∧w.cell? ⟨g,1,none⟩=some a1∧w.cell? ⟨g,2,none⟩=some a2∧w.frozen? ⟨g,0,none⟩=false∧w.frozen? ⟨g,1,none⟩=false∧w.frozen? ⟨g,2,none⟩=false:=⟨(y8 h 0).trans rfl,(y8 h 1).trans rfl,(y8 h 2).trans rfl,blk_frozen h 0,blk_frozen h 1,blk_frozen h 2⟩
theorem qz5 {w:World} {g t:Nat} {a0 a1 a2 a3 a4:Value} (h:w.heap[g]?=some (.cells #[a0,a1,a2,a3,a4] t (0,0))):w.cell? ⟨g,0,none⟩=some a0∧w.cell? ⟨g,1,none⟩=some a1∧w.cell? ⟨g,2,none⟩=some a2∧w.cell? ⟨g,3,none⟩=some a3∧w.cell? ⟨g,4,none⟩=some a4∧w.frozen? ⟨g,0,none⟩=false∧w.frozen? ⟨g,1,none⟩=false∧w.frozen? ⟨g,2,none⟩=false∧w.frozen? ⟨g,3,none⟩=false∧w.frozen? ⟨g,4,none⟩=false:=⟨(y8 h 0).trans rfl,(y8 h 1).trans rfl,(y8 h 2).trans rfl,(y8 h 3).trans rfl,(y8 h 4).trans rfl,blk_frozen h 0,blk_frozen h 1,blk_frozen h 2,blk_frozen h 3,blk_frozen h 4⟩
section
variable {P : Program} {ops : Array Oper} {rest : List Oper} {o : Oper} {a : Act} {Q : Exit → Act → World → Prop}
theorem qe {W:World} (N:Tmp) (cs:Array Value) (t:TypeId) (h:∀ g,g=W.heap.size→∀ w1,w1.heap[g]?=some (.cells cs t (0,0))→Below W.heap.size W w1→wpList P ops Q rest (a.put o.dst (.pointer (some ⟨g,0,none⟩))) w1) (hg:o.guard=none:=by rfl) (hd:o.dst=some N:=by rfl)
  (hr:(execOp a.eval o).run P W=.ok (.value (.pointer (some ⟨W.heap.size,0,none⟩))) (W.alloc (.cells cs t (0,0))):=by first|(go_simp;done)|(go_simp;rfl)):wpList P ops Q (o :: rest) a W:=box_event hg hd hr h
theorem qL {α:Type} {W:World} (d:Kd α) (e:Nat) (N:Tmp) (xs:List α) {inner:List Value} (h:∀ v1 w1,d.R e w1 W.heap.size (fun _=>True) v1 xs→Below W.heap.size W w1→W.grownBy w1 none→(∃ b,v1.ownBlock=some b∧W.heap.size≤b)→wpList P ops Q rest (a.put o.dst v1) w1) (hg:o.guard=none:=by rfl) (hd:o.dst=some N:=by rfl) (hp:Reps (d.M W W.heap.size (fun _=>True)) d.sz xs inner:=by repeat(first|exact Reps.none _ _|(refine Reps.one (v:=?_) (cs:=?_) ?_ ?_;rotate_left;rotate_left;rfl)))
  (hr:(execOp a.eval o).run P W=.ok (.value (.slice (some ⟨W.heap.size,0,none⟩) xs.length xs.length)) (W.alloc (.cells inner.toArray e)):=by first|(go_simp;done)|(go_simp;rfl)) (hm:xs.length≤9223372036854775807:=by simp):wpList P ops Q (o :: rest) a W:=Kd.R_lit d (w0:=W) W.heap.size e hg hd hr hp (fun _ h=>h) trivial (Below.refl _ _) (Nat.le_refl _) hm h
theorem qLs {α:Type} {W:World} {Kc:Act→World→Prop} (d:Kd α) (e:Nat) (N:Tmp) (xs:List α) {inner:List Value} (h:∀ v1 w1,d.R e w1 W.heap.size (fun _=>True) v1 xs→Below W.heap.size W w1→W.grownBy w1 none→(∃ b,v1.ownBlock=some b∧W.heap.size≤b)→Kc (a.put o.dst v1) w1) (hg:Region.wanted o (yielded ops a.tmps)=true:=by rfl) (hd:o.dst=some N:=by rfl) (hp:Reps (d.M W W.heap.size (fun _=>True)) d.sz xs inner:=by repeat(first|exact Reps.none _ _|(refine Reps.one (v:=?_) (cs:=?_) ?_ ?_;rotate_left;rotate_left;rfl)))
  (hr:(execOp a.eval o).run P W=.ok (.value (.slice (some ⟨W.heap.size,0,none⟩) xs.length xs.length)) (W.alloc (.cells inner.toArray e)):=by first|(go_simp;done)|(go_simp;rfl)) (hm:xs.length≤9223372036854775807:=by simp):if Region.wanted o (yielded ops a.tmps)=true then Oper.wp P o a W Kc Q else Kc (a.put o.dst undef) W:=Kd.R_lit_step d (w0:=W) W.heap.size e hg hd hr hp (fun _ h=>h) trivial (Below.refl _ _) (Nat.le_refl _) hm h
end
theorem qf {P:Prop} (h:P:=by first|rfl|(simp [y12,y13] <;> rfl)|(simp [*,y12,y13] <;> rfl)):P:=h
theorem qf2 {P:Prop} {w w2:World} (h:P:=by first|rfl|(simp;done)|(simp [*];done)) (h2:Drawn0 w w2:=by repeat(first|exact Drawn0.refl _|apply Drawn0.step)):P∧Drawn0 w w2:=⟨h,h2⟩
section
variable {P : Program} {ops : Array Oper} {Q : Exit → Act → World → Prop} {md : Region.Mode} {S : World → Prop} {ds : List Nat}
theorem qp {oi:Oper} {v:Value} {fuel:Nat} {l:Array Bool} {a a':Act} {w:World} (i:Nat) (N:Tmp) (l':Array Bool) (h:y21 P md ops Q S ds fuel l' a' w) (hi:ops[i]?=some oi:=by exact rfl) (hN:oi.dst=some N:=by exact rfl) (hc:anyB md ops l l' i=true:=by first|exact any_of HT_.out (by kernel_rfl)|kernel_rfl)
  (hQ:∀ c a w,Q (.panic c) (a.put oi.dst v) w→Q (.panic c) a w:=by exact fun _ _ _ h=>h) (hy:Yields P ops oi v a:=by first|(refine Or.inl ⟨by rfl, ?_⟩;intro w';go_simp;with_reducible rfl)|exact Or.inr ⟨by rfl,rfl⟩) (ha:a.put (some N) v=a':=by simp only [Act.put,qS_,qZ_,qC_,i64_w,i32_w];rfl):y21 P md ops Q S ds (fuel + 1) l a w:=pure_ l' hi hN hc hQ hy ha h
theorem qt {oi:Oper} {v:Value} {fuel:Nat} {l:Array Bool} {a a':Act} {w:World} (i:Nat) (N:Tmp) (l':Array Bool) (hS:S w) (h:y21 P md ops Q S ds fuel l' a' w) (hi:ops[i]?=some oi:=by exact rfl) (hN:oi.dst=some N:=by exact rfl) (hc:takeB md ops ds l l' i=true:=by first|exact take_ofW HT_.out HW_.out (by kernel_rfl)|kernel_rfl)
  (hQ:∀ c a w,Q (.panic c) (a.put oi.dst v) w→Q (.panic c) a w:=by exact fun _ _ _ h=>h) (hy:YieldsIf P ops S oi v a:=by refine Or.inl ⟨by rfl, ?_⟩;intro w' hs_;(repeat(obtain⟨s_,hs_⟩:_∧_:=hs_));go_simp;with_reducible rfl) (ha:a.put (some N) v=a':=by simp only [Act.put,qS_,qZ_,qC_,i64_w,i32_w];rfl):y21 P md ops Q S ds (fuel + 1) l a w:=take_ l' hi hN hc hQ hy hS ha h
theorem qO {oi:Oper} {fuel:Nat} {l:Array Bool} {a:Act} {w:World} (i:Nat) (N:Tmp) (l':Array Bool) (h:∀ K:Act→World→Prop,Shut (∀ a' w',S w'→(S w'→y21 P md ops Q S ds fuel l' a' w')→K a' w')→if Region.wanted oi (yielded ops a.tmps)=true then Oper.wp P oi a w K Q else K (a.put (some N) undef) w) (hi:ops[i]?=some oi:=by exact rfl) (hN:oi.dst=some N:=by exact rfl) (hc:readyB md ops l l' i=true:=by first|exact one_of HT_.out (by kernel_rfl)|kernel_rfl) (hd:i∉ds:=by decide):y21 P md ops Q S ds (fuel + 1) l a w:=one_ l' hi hN hc hd h
theorem qx {fuel:Nat} {v:Value} {l:Array Bool} {a a':Act} {w:World} (N:Tmp) (h:y21 P md ops Q S ds fuel l a' w) (ha:a.put (some N) v=a':=by simp only [Act.put,qS_,qZ_,qC_,i64_w,i32_w];rfl):y21 P md ops Q S ds fuel l (a.put (some N) v) w:=norm_ ha h
def qY (P:Program) (ops:Array Oper) (Q:Exit→Act→World→Prop) (md:Region.Mode) (l l':Array Bool) (i N:Nat) (a a':Act):Prop:=∀(S:World→Prop) (ds:List Nat) (fuel:Nat) (w:World),y21 P md ops Q S ds fuel l' a' w→y21 P md ops Q S ds (fuel + 1) l a w
theorem qY_ {oi:Oper} {v:Value} {l l':Array Bool} {a a':Act} {i N j M:Nat} (ei:i=j:=by first|(simp only [Nat.reduceAdd];rfl)|rfl) (eN:N=M:=by first|(simp only [Nat.reduceAdd];rfl)|rfl) (hi:ops[j]?=some oi:=by exact rfl) (hN:oi.dst=some M:=by exact rfl) (hc:anyB md ops l l' j=true:=by first|exact any_of HT_.out (by kernel_rfl)|kernel_rfl)
  (hQ:∀ c a w,Q (.panic c) (a.put oi.dst v) w→Q (.panic c) a w:=by exact fun _ _ _ h=>h) (hy:Yields P ops oi v a:=by first|(refine Or.inl ⟨by rfl, ?_⟩;intro w';go_simp;with_reducible rfl)|exact Or.inr ⟨by rfl,rfl⟩) (ha:a.put (some M) v=a':=by simp only [Act.put,qS_,qZ_,qC_,i64_w,i32_w];rfl):qY P ops Q md l l' i N a a':=by
 subst ei
 subst eN
 exact fun _ _ _ _ h=>pure_ l' hi hN hc hQ hy ha h
theorem qp2 {fuel:Nat} {l:Array Bool} {a0 a1 a2:Act} {w:World} (i N n:Nat) (h:y21 P md ops Q S ds fuel (fl_ n (2 ^ (i + 2) - 1)) a2 w) (h0:qY P ops Q md l (fl_ n (2 ^ (i + 1) - 1)) i N a0 a1:=by exact qY_) (h1:qY P ops Q md (fl_ n (2 ^ (i + 1) - 1)) (fl_ n (2 ^ (i + 2) - 1)) (i + 1) (N + 1) a1 a2:=by exact qY_):y21 P md ops Q S ds (fuel + 2) l a0 w:=h0 _ _ _ _ (h1 _ _ _ _ h)
theorem qp3 {fuel:Nat} {l:Array Bool} {a0 a1 a2 a3:Act} {w:World} (i N n:Nat) (h:y21 P md ops Q S ds fuel (fl_ n (2 ^ (i + 3) - 1)) a3 w) (h0:qY P ops Q md l (fl_ n (2 ^ (i + 1) - 1)) i N a0 a1:=by exact qY_) (h1:qY P ops Q md (fl_ n (2 ^ (i + 1) - 1)) (fl_ n (2 ^ (i + 2) - 1)) (i + 1) (N + 1) a1 a2:=by exact qY_) (h2:qY P ops Q md (fl_ n (2 ^ (i + 2) - 1)) (fl_ n (2 ^ (i + 3) - 1)) (i + 2) (N + 2) a2 a3:=by exact qY_):y21 P md ops Q S ds (fuel + 3) l a0 w:=h0 _ _ _ _ (h1 _ _ _ _ (h2 _ _ _ _ h))
theorem qp4 {fuel:Nat} {l:Array Bool} {a0 a1 a2 a3 a4:Act} {w:World} (i N n:Nat) (h:y21 P md ops Q S ds fuel (fl_ n (2 ^ (i + 4) - 1)) a4 w) (h0:qY P ops Q md l (fl_ n (2 ^ (i + 1) - 1)) i N a0 a1:=by exact qY_) (h1:qY P ops Q md (fl_ n (2 ^ (i + 1) - 1)) (fl_ n (2 ^ (i + 2) - 1)) (i + 1) (N + 1) a1 a2:=by exact qY_) (h2:qY P ops Q md (fl_ n (2 ^ (i + 2) - 1)) (fl_ n (2 ^ (i + 3) - 1)) (i + 2) (N + 2) a2 a3:=by exact qY_) (h3:qY P ops Q md (fl_ n (2 ^ (i + 3) - 1)) (fl_ n (2 ^ (i + 4) - 1)) (i + 3) (N + 3) a3 a4:=by exact qY_):y21 P md ops Q S ds (fuel + 4) l a0 w:=h0 _ _ _ _ (h1 _ _ _ _ (h2 _ _ _ _ (h3 _ _ _ _ h)))
theorem qp6 {fuel:Nat} {l:Array Bool} {a0 a1 a2 a3 a4 a5 a6:Act} {w:World} (i N n:Nat) (h:y21 P md ops Q S ds fuel (fl_ n (2 ^ (i + 6) - 1)) a6 w) (h0:qY P ops Q md l (fl_ n (2 ^ (i + 1) - 1)) i N a0 a1:=by exact qY_) (h1:qY P ops Q md (fl_ n (2 ^ (i + 1) - 1)) (fl_ n (2 ^ (i + 2) - 1)) (i + 1) (N + 1) a1 a2:=by exact qY_) (h2:qY P ops Q md (fl_ n (2 ^ (i + 2) - 1)) (fl_ n (2 ^ (i + 3) - 1)) (i + 2) (N + 2) a2 a3:=by exact qY_) (h3:qY P ops Q md (fl_ n (2 ^ (i + 3) - 1)) (fl_ n (2 ^ (i + 4) - 1)) (i + 3) (N + 3) a3 a4:=by exact qY_) (h4:qY P ops Q md (fl_ n (2 ^ (i + 4) - 1)) (fl_ n (2 ^ (i + 5) - 1)) (i + 4) (N + 4) a4 a5:=by exact qY_) (h5:qY P ops Q md (fl_ n (2 ^ (i + 5) - 1)) (fl_ n (2 ^ (i + 6) - 1)) (i + 5) (N + 5) a5 a6:=by exact qY_):y21 P md ops Q S ds (fuel + 6) l a0 w:=h0 _ _ _ _ (h1 _ _ _ _ (h2 _ _ _ _ (h3 _ _ _ _ (h4 _ _ _ _ (h5 _ _ _ _ h)))))
theorem qp10 {fuel:Nat} {l:Array Bool} {a0 a1 a2 a3 a4 a5 a6 a7 a8 a9 a10:Act} {w:World} (i N n:Nat) (h:y21 P md ops Q S ds fuel (fl_ n (2 ^ (i + 10) - 1)) a10 w) (h0:qY P ops Q md l (fl_ n (2 ^ (i + 1) - 1)) i N a0 a1:=by exact qY_) (h1:qY P ops Q md (fl_ n (2 ^ (i + 1) - 1)) (fl_ n (2 ^ (i + 2) - 1)) (i + 1) (N + 1) a1 a2:=by exact qY_) (h2:qY P ops Q md (fl_ n (2 ^ (i + 2) - 1)) (fl_ n (2 ^ (i + 3) - 1)) (i + 2) (N + 2) a2 a3:=by exact qY_) (h3:qY P ops Q md (fl_ n (2 ^ (i + 3) - 1)) (fl_ n (2 ^ (i + 4) - 1)) (i + 3) (N + 3) a3 a4:=by exact qY_) (h4:qY P ops Q md (fl_ n (2 ^ (i + 4) - 1)) (fl_ n (2 ^ (i + 5) - 1)) (i + 4) (N + 4) a4 a5:=by exact qY_) (h5:qY P ops Q md (fl_ n (2 ^ (i + 5) - 1)) (fl_ n (2 ^ (i + 6) - 1)) (i + 5) (N + 5) a5 a6:=by exact qY_) (h6:qY P ops Q md (fl_ n (2 ^ (i + 6) - 1)) (fl_ n (2 ^ (i + 7) - 1)) (i + 6) (N + 6) a6 a7:=by exact qY_) (h7:qY P ops Q md (fl_ n (2 ^ (i + 7) - 1)) (fl_ n (2 ^ (i + 8) - 1)) (i + 7) (N + 7) a7 a8:=by exact qY_) (h8:qY P ops Q md (fl_ n (2 ^ (i + 8) - 1)) (fl_ n (2 ^ (i + 9) - 1)) (i + 8) (N + 8) a8 a9:=by exact qY_) (h9:qY P ops Q md (fl_ n (2 ^ (i + 9) - 1)) (fl_ n (2 ^ (i + 10) - 1)) (i + 9) (N + 9) a9 a10:=by exact qY_):y21 P md ops Q S ds (fuel + 10) l a0 w:=h0 _ _ _ _ (h1 _ _ _ _ (h2 _ _ _ _ (h3 _ _ _ _ (h4 _ _ _ _ (h5 _ _ _ _ (h6 _ _ _ _ (h7 _ _ _ _ (h8 _ _ _ _ (h9 _ _ _ _ h)))))))))
end
def errW:Option Int→Value
 | none=>.nilIface
 | some c=>.iface 0 (.int .i64 c)
theorem y12:errW none=.nilIface:=rfl
theorem y13 (c:Int):errW (some c)=.iface 0 (.int .i64 c):=rfl
theorem info3:(Tryz.prog.info? 3).map (fun i=>(i.zero,i.size,i.bytes))=some (some (.int .i64 0),1,8):=by kernel_rfl
theorem info4:(Tryz.prog.info? 4).map (fun i=>(i.zero,i.size,i.bytes))=some (some (.bool false),1,1):=by kernel_rfl
theorem info9:(Tryz.prog.info? 9).map (fun i=>(i.zero,i.size,i.bytes))=some (some (.string ⟨#[]⟩),1,16):=by kernel_rfl
theorem info33:(Tryz.prog.info? 33).map (fun i=>(i.zero,i.size,i.bytes))=some (some (.agg #[(.int .i64 0),(.string ⟨#[]⟩),(.slice none 0 0)]),3,48):=by kernel_rfl
theorem info48:(Tryz.prog.info? 48).map (fun i=>(i.zero,i.size,i.bytes))=some (some (.agg #[(.int .i64 0),(.string ⟨#[]⟩),(.slice none 0 0)]),3,48):=by kernel_rfl
structure S63 where
 f0:Int
 f1:ByteArray
 f2:(List Int)
def z63:S63:=⟨(0:Int),(⟨#[]⟩:ByteArray),([]:List Int)⟩
def k63:Kd S63:=Kd.iso (Kd.pair (Kd.int .i64) (Kd.pair Kd.string (Kd.slice 3 (Kd.int .i64)))) (fun x:S63=>(x.f0,x.f1,x.f2))
theorem k63_open {w:World} {x:S63} {cs:List Value} (h:k63.K w x cs):∃ A2 c2,cs=[.int .i64 x.f0,.string x.f1,.slice A2 x.f2.length c2]∧x.f2.length≤c2∧(Kd.int .i64).C w A2 x.f2.length x.f2:=by
 obtain⟨_,_,rfl,rfl,⟨_,_,rfl,rfl,⟨A2,c2,rfl,l2,g2⟩⟩⟩:=h
 exact⟨A2,c2,rfl,l2,g2⟩
def rd_T63 (xs:List S63) (i:Int):S63:=xs.getD i.toNat z63
theorem at_T63 {w:World} {A:Option Addr} {n:Nat} {xs:List S63} (h:Kd.C k63 w A n xs) (i:Int) (h0:0≤i) (h1:i < n):∃ ad A2 c2,A=some ad∧w.cell? (ad.add (i.toNat * 3))=some (.int .i64 (rd_T63 xs i).f0)∧w.cell? ⟨(ad.add (i.toNat * 3)).block,(ad.add (i.toNat * 3)).off + 1,none⟩=some (.string (rd_T63 xs i).f1)∧w.cell? ⟨(ad.add (i.toNat * 3)).block,(ad.add (i.toNat * 3)).off + 2,none⟩=some (.slice A2 (rd_T63 xs i).f2.length c2)∧(rd_T63 xs i).f2.length≤c2∧(Kd.int .i64).C w A2 (rd_T63 xs i).f2.length (rd_T63 xs i).f2:=by
 obtain⟨ad,c,e,_,hK,hc0⟩:=Kd.C_get h z63 i h0 h1
 have hc:∀ j u,c[j]?=some u→w.cell? (ad.add (i.toNat * 3 + j))=some u:=hc0
 obtain⟨A2,c2,rfl,l2,g2⟩:=k63_open hK
 exact⟨ad,A2,c2,e,hc 0 _ rfl,by rw [← add_field _ _ 1 (by omega)];exact hc 1 _ rfl,by rw [← add_field _ _ 2 (by omega)];exact hc 2 _ rfl,l2,g2⟩
structure S25 where
 f0:Int
 f1:ByteArray
 f2:(List Int)
def z25:S25:=⟨(0:Int),(⟨#[]⟩:ByteArray),([]:List Int)⟩
def k25:Kd S25:=Kd.iso (Kd.pair (Kd.int .i64) (Kd.pair Kd.string (Kd.slice 3 (Kd.int .i64)))) (fun x:S25=>(x.f0,x.f1,x.f2))
theorem k25_open {w:World} {x:S25} {cs:List Value} (h:k25.K w x cs):∃ A2 c2,cs=[.int .i64 x.f0,.string x.f1,.slice A2 x.f2.length c2]∧x.f2.length≤c2∧(Kd.int .i64).C w A2 x.f2.length x.f2:=by
 obtain⟨_,_,rfl,rfl,⟨_,_,rfl,rfl,⟨A2,c2,rfl,l2,g2⟩⟩⟩:=h
 exact⟨A2,c2,rfl,l2,g2⟩
def rd_T25 (xs:List S25) (i:Int):S25:=xs.getD i.toNat z25
theorem at_T25 {w:World} {A:Option Addr} {n:Nat} {xs:List S25} (h:Kd.C k25 w A n xs) (i:Int) (h0:0≤i) (h1:i < n):∃ ad A2 c2,A=some ad∧w.cell? (ad.add (i.toNat * 3))=some (.int .i64 (rd_T25 xs i).f0)∧w.cell? ⟨(ad.add (i.toNat * 3)).block,(ad.add (i.toNat * 3)).off + 1,none⟩=some (.string (rd_T25 xs i).f1)∧w.cell? ⟨(ad.add (i.toNat * 3)).block,(ad.add (i.toNat * 3)).off + 2,none⟩=some (.slice A2 (rd_T25 xs i).f2.length c2)∧(rd_T25 xs i).f2.length≤c2∧(Kd.int .i64).C w A2 (rd_T25 xs i).f2.length (rd_T25 xs i).f2:=by
 obtain⟨ad,c,e,_,hK,hc0⟩:=Kd.C_get h z25 i h0 h1
 have hc:∀ j u,c[j]?=some u→w.cell? (ad.add (i.toNat * 3 + j))=some u:=hc0
 obtain⟨A2,c2,rfl,l2,g2⟩:=k25_open hK
 exact⟨ad,A2,c2,e,hc 0 _ rfl,by rw [← add_field _ _ 1 (by omega)];exact hc 1 _ rfl,by rw [← add_field _ _ 2 (by omega)];exact hc 2 _ rfl,l2,g2⟩
structure S48 where
 f0:Int
 f1:ByteArray
 f2:(List Int)
def z48:S48:=⟨(0:Int),(⟨#[]⟩:ByteArray),([]:List Int)⟩
def k48:Kd S48:=Kd.iso (Kd.pair (Kd.int .i64) (Kd.pair Kd.string (Kd.slice 3 (Kd.int .i64)))) (fun x:S48=>(x.f0,x.f1,x.f2))
theorem k48_open {w:World} {x:S48} {cs:List Value} (h:k48.K w x cs):∃ A2 c2,cs=[.int .i64 x.f0,.string x.f1,.slice A2 x.f2.length c2]∧x.f2.length≤c2∧(Kd.int .i64).C w A2 x.f2.length x.f2:=by
 obtain⟨_,_,rfl,rfl,⟨_,_,rfl,rfl,⟨A2,c2,rfl,l2,g2⟩⟩⟩:=h
 exact⟨A2,c2,rfl,l2,g2⟩
theorem k48_openM {w:World} {base:Nat} {ok:Nat→Prop} {x:S48} {cs:List Value} (h:k48.M w base ok x cs):∃ v2,cs=[.int .i64 x.f0,.string x.f1,v2]∧(Kd.int .i64).R 3 w base ok v2 x.f2:=by
 obtain⟨_,_,rfl,rfl,⟨_,_,rfl,rfl,⟨v2,rfl,g2⟩⟩⟩:=h
 exact⟨v2,rfl,g2⟩
theorem k48_mkM (w:World) (base:Nat) (ok:Nat→Prop) (x:S48) {v2:Value} (g2:(Kd.int .i64).R 3 w base ok v2 x.f2):k48.M w base ok x [.int .i64 x.f0,.string x.f1,v2]:=⟨[.int .i64 x.f0],[.string x.f1,v2],rfl,rfl,⟨[.string x.f1],[v2],rfl,rfl,⟨v2,rfl,g2⟩⟩⟩
def y20 (xs:List S48) (i:Int):S48:=xs.getD i.toNat z48
theorem at_T48 {w:World} {A:Option Addr} {n:Nat} {xs:List S48} (h:Kd.C k48 w A n xs) (i:Int) (h0:0≤i) (h1:i < n):∃ ad A2 c2,A=some ad∧w.cell? (ad.add (i.toNat * 3))=some (.int .i64 (y20 xs i).f0)∧w.cell? ⟨(ad.add (i.toNat * 3)).block,(ad.add (i.toNat * 3)).off + 1,none⟩=some (.string (y20 xs i).f1)∧w.cell? ⟨(ad.add (i.toNat * 3)).block,(ad.add (i.toNat * 3)).off + 2,none⟩=some (.slice A2 (y20 xs i).f2.length c2)∧(y20 xs i).f2.length≤c2∧(Kd.int .i64).C w A2 (y20 xs i).f2.length (y20 xs i).f2:=by
 obtain⟨ad,c,e,_,hK,hc0⟩:=Kd.C_get h z48 i h0 h1
 have hc:∀ j u,c[j]?=some u→w.cell? (ad.add (i.toNat * 3 + j))=some u:=hc0
 obtain⟨A2,c2,rfl,l2,g2⟩:=k48_open hK
 exact⟨ad,A2,c2,e,hc 0 _ rfl,by rw [← add_field _ _ 1 (by omega)];exact hc 1 _ rfl,by rw [← add_field _ _ 2 (by omega)];exact hc 2 _ rfl,l2,g2⟩
structure S33 where
 f0:Int
 f1:ByteArray
 f2:(List Int)
def z33:S33:=⟨(0:Int),(⟨#[]⟩:ByteArray),([]:List Int)⟩
def k33:Kd S33:=Kd.iso (Kd.pair (Kd.int .i64) (Kd.pair Kd.string (Kd.slice 3 (Kd.int .i64)))) (fun x:S33=>(x.f0,x.f1,x.f2))
theorem k33_heap:Kd.Heap k33:=Kd.heap_iso _ (Kd.heap_pair (Kd.heap_int .i64) (Kd.heap_pair Kd.heap_string (Kd.heap_slice 3 (Kd.heap_int .i64))))
theorem k33_open {w:World} {x:S33} {cs:List Value} (h:k33.K w x cs):∃ A2 c2,cs=[.int .i64 x.f0,.string x.f1,.slice A2 x.f2.length c2]∧x.f2.length≤c2∧(Kd.int .i64).C w A2 x.f2.length x.f2:=by
 obtain⟨_,_,rfl,rfl,⟨_,_,rfl,rfl,⟨A2,c2,rfl,l2,g2⟩⟩⟩:=h
 exact⟨A2,c2,rfl,l2,g2⟩
theorem k33_openM {w:World} {base:Nat} {ok:Nat→Prop} {x:S33} {cs:List Value} (h:k33.M w base ok x cs):∃ v2,cs=[.int .i64 x.f0,.string x.f1,v2]∧(Kd.int .i64).R 3 w base ok v2 x.f2:=by
 obtain⟨_,_,rfl,rfl,⟨_,_,rfl,rfl,⟨v2,rfl,g2⟩⟩⟩:=h
 exact⟨v2,rfl,g2⟩
theorem k33_mk (w:World) (x:S33) {A2:Option Addr} {c2:Nat} (l2:x.f2.length≤c2) (g2:(Kd.int .i64).C w A2 x.f2.length x.f2):k33.K w x [.int .i64 x.f0,.string x.f1,.slice A2 x.f2.length c2]:=⟨[.int .i64 x.f0],[.string x.f1,.slice A2 x.f2.length c2],rfl,rfl,⟨[.string x.f1],[.slice A2 x.f2.length c2],rfl,rfl,⟨A2,c2,rfl,l2,g2⟩⟩⟩
theorem k33_mkM (w:World) (base:Nat) (ok:Nat→Prop) (x:S33) {v2:Value} (g2:(Kd.int .i64).R 3 w base ok v2 x.f2):k33.M w base ok x [.int .i64 x.f0,.string x.f1,v2]:=⟨[.int .i64 x.f0],[.string x.f1,v2],rfl,rfl,⟨[.string x.f1],[v2],rfl,rfl,⟨v2,rfl,g2⟩⟩⟩
theorem k33_openF {W:World} {ok:Nat→Prop} {x:S33} {cs:List Value} (h:Kd.FK k33 W ok x cs):∃ A2 c2,cs=[.int .i64 x.f0,.string x.f1,.slice A2 x.f2.length c2]∧x.f2.length≤c2∧Kd.F (Kd.int .i64) W ok A2 x.f2.length x.f2:=by
 obtain⟨A2,c2,rfl,l2,_⟩:=k33_open (Kd.FK_now h)
 exact⟨A2,c2,rfl,l2,(fun W' hW=>by obtain⟨A2_,c2_,he,l2_,g2_⟩:=k33_open (h W' hW);injection (Option.some.inj (show some (Value.slice A2 x.f2.length c2)=some (Value.slice A2_ x.f2.length c2_)from congrArg (fun l=>l[2]?) he))with ha_ _ _;rw [ha_];exact g2_)⟩
theorem k33_mkF (W:World) (ok:Nat→Prop) (x:S33) {A2:Option Addr} {c2:Nat} (l2:x.f2.length≤c2) (g2:Kd.F (Kd.int .i64) W ok A2 x.f2.length x.f2):Kd.FK k33 W ok x [.int .i64 x.f0,.string x.f1,.slice A2 x.f2.length c2]:=fun W2 hW=>k33_mk W2 x l2 (g2 W2 hW)
def y19 (xs:List S33) (i:Int):S33:=xs.getD i.toNat z33
theorem at_T33 {w:World} {A:Option Addr} {n:Nat} {xs:List S33} (h:Kd.C k33 w A n xs) (i:Int) (h0:0≤i) (h1:i < n):∃ ad A2 c2,A=some ad∧w.cell? (ad.add (i.toNat * 3))=some (.int .i64 (y19 xs i).f0)∧w.cell? ⟨(ad.add (i.toNat * 3)).block,(ad.add (i.toNat * 3)).off + 1,none⟩=some (.string (y19 xs i).f1)∧w.cell? ⟨(ad.add (i.toNat * 3)).block,(ad.add (i.toNat * 3)).off + 2,none⟩=some (.slice A2 (y19 xs i).f2.length c2)∧(y19 xs i).f2.length≤c2∧(Kd.int .i64).C w A2 (y19 xs i).f2.length (y19 xs i).f2:=by
 obtain⟨ad,c,e,_,hK,hc0⟩:=Kd.C_get h z33 i h0 h1
 have hc:∀ j u,c[j]?=some u→w.cell? (ad.add (i.toNat * 3 + j))=some u:=hc0
 obtain⟨A2,c2,rfl,l2,g2⟩:=k33_open hK
 exact⟨ad,A2,c2,e,hc 0 _ rfl,by rw [← add_field _ _ 1 (by omega)];exact hc 1 _ rfl,by rw [← add_field _ _ 2 (by omega)];exact hc 2 _ rfl,l2,g2⟩
structure S36 where
 f0:(List S48)
 f1:S33
 f2:(List S33)
structure S28 where
 f0:(List S63)
 f1:S25
 f2:(List S25)
def z28:S28:=⟨([]:List S63),z25,([]:List S25)⟩
def k28:Kd S28:=Kd.iso (Kd.pair (Kd.slice 63 k63) (Kd.pair k25 (Kd.slice 25 k25))) (fun x:S28=>(x.f0,x.f1,x.f2))
theorem k28_open {w:World} {x:S28} {cs:List Value} (h:k28.K w x cs):∃ A0 c0 A3 c3 A4 c4,cs=[.slice A0 x.f0.length c0,.int .i64 x.f1.f0,.string x.f1.f1,.slice A3 x.f1.f2.length c3,.slice A4 x.f2.length c4]∧x.f0.length≤c0∧k63.C w A0 x.f0.length x.f0∧x.f1.f2.length≤c3∧(Kd.int .i64).C w A3 x.f1.f2.length x.f1.f2∧x.f2.length≤c4∧k25.C w A4 x.f2.length x.f2:=by
 obtain⟨_,_,rfl,⟨A0,c0,rfl,l0,g0⟩,⟨_,_,rfl,s1,⟨A4,c4,rfl,l4,g4⟩⟩⟩:=h
 obtain⟨A3,c3,rfl,l3,g3⟩:=k25_open s1
 exact⟨A0,c0,A3,c3,A4,c4,rfl,l0,g0,l3,g3,l4,g4⟩
theorem goesC_ {P : Program} {ops : Array Oper} {Q : Exit → Act → World → Prop} {oi : Oper} {N : Option Tmp} {a : Act} {w : World} {K : Act → World → Prop} {f : FuncId} {fn : Func} {c : Operand} {xs : Array Operand} {ts : Array TypeId} (hf : P.funcs[f]? = some fn) (hname : (fn.name == "runtime.NumGoroutine") = false) (hb : fn.body.isSome = true) (args cs : Array Value)
  (hw:Region.wanted oi (yielded ops a.tmps)=true) (hN:oi.dst=N) (hop:oi.op=.call { callee:=.value c,args:=xs,argTypes:=ts }) (hargs:(a.eval c,xs.map a.eval ++ cs)=(Value.func (.func f) #[] cs,args))
  (h:Calls P f args w fun e w'=>∃ v,e=.returned v∧K (a.put N v) w'):if Region.wanted oi (yielded ops a.tmps)=true then Oper.wp P oi a w K Q else K (a.put N undef) w:=by
 have h1:a.eval c=Value.func (.func f) #[] cs:=(Prod.mk.inj hargs).1
 have h2:xs.map a.eval ++ cs=args:=(Prod.mk.inj hargs).2
 refine call_ f args hw hN ?_ h
 have he:=enters_ hf hname hb args w
 unfold execOp
 simp [hop,resolve,Deferred.ofValue,invoke,h1,h2,he]
structure Tb (w:World):Prop where
 ml:∃ m,w.cell? ⟨0,0,none⟩=some (.int .i64 m)
theorem Tb.below {w w':World} (h:Tb w) (hb:Below w.heap.size w w'):Tb w':=by
 constructor
 ·obtain⟨m,h1⟩:=h.ml;exact⟨m,pw_cell_below hb h1⟩
theorem Tb.drawn {w w':World} (h:Tb w) (hd:Drawn0 w w'):Tb w':=h.below hd.below
def okT63 (b:S63):Prop:=(fun a=>(Lit.int .i64 a).wf=true) b.f0∧(fun a=>a.size≤140737488351232) b.f1∧(fun l=>l.length≤maxLen∧l.length * 8≤140737488351232∧∀ x∈l,(fun a=>(Lit.int .i64 a).wf=true) x) b.f2
def okT25 (b:S25):Prop:=(fun a=>(Lit.int .i64 a).wf=true) b.f0∧(fun a=>a.size≤140737488351232) b.f1∧(fun l=>l.length≤maxLen∧l.length * 8≤140737488351232∧∀ x∈l,(fun a=>(Lit.int .i64 a).wf=true) x) b.f2
def okT28 (b:S28):Prop:=(fun l=>l.length≤maxLen∧l.length * 48≤140737488351232∧∀ x∈l,okT63 x) b.f0∧okT25 b.f1∧(fun l=>l.length≤maxLen∧l.length * 48≤140737488351232∧∀ x∈l,okT25 x) b.f2
end Go.Proofs.YtkdabljlfbmpdaaGreat.Pb
end
section
namespace Go.Proofs.YtkdabljlfbmpdaaGreat.Pb
open Go.RowKit Go.Proofs.YtkdabljlfbmpdaaGreatW.PrintWords Go.Proofs.YtkdabljlfbmpdaaGreatW.PrintLast Go.Proofs.YtkdabljlfbmpdaaGreatW.PrintMore
attribute [local go_sem] max2_int min2_int max_two min_two max_three min_three max_four min_four   -- for this text's walks alone
set_option linter.unusedVariables false
set_option linter.unusedSimpArgs false
def laws_szIntS.f (l0:List Int) (a1:Int):Option (Int):=if(wrap64 (a1 - (l0.length:Int))) < 0 then(some (-1))else(some (wrap64 (a1 - (l0.length:Int))))
set_option maxHeartbeats 8000000 in
set_option maxRecDepth 100000 in
theorem laws_szIntS.calls (A0:Option Addr) (c0:Nat) (l0:List Int) (a1:Int) (r:Int) (w:World) (hr0:Kd.C (Kd.int .i64) w A0 l0.length l0) (hc0:l0.length≤c0) (h:laws_szIntS.f l0 a1=some r) :
  Calls Tryz.prog 32 #[.slice A0 l0.length c0,.int .i64 a1] w fun e w'=>e=.returned (.int .i64 r)∧Drawn0 w w':=by
 have HR0:=y0.mk hr0
 have HC0:=y0.mk hc0
 clear hr0 hc0
 have H:(if(wrap64 (a1 - (l0.length:Int))) < 0 then(some (-1))else(some (wrap64 (a1 - (l0.length:Int)))))=some r:=h
 clear h
 by_cases c3:(wrap64 (a1 - (l0.length:Int))) < 0
 ·rw [if_pos c3]at H
  have c3b0:=decide_eq_true c3
  clear c3
  obtain rfl:=Option.some.inj H
  go_enter Tryz.func32,Tryz.ntmps32
  go_wp2
  go_ret
  exact qf2
 ·rw [if_neg c3]at H
  have c3b0:=decide_eq_false c3
  clear c3
  obtain rfl:=Option.some.inj H
  go_enter Tryz.func32,Tryz.ntmps32
  go_wp2
  go_ret
  exact qf2
def laws_szExp.f (a0_0:Int) (a0_1:ByteArray) (l0_2:List Int) (a1:Int):Option (Int):=if(wrap64 (a1 - (a0_1.size:Int))) < 0 then(some (-1))else((laws_szIntS.f l0_2 (wrap64 (a1 - (a0_1.size:Int)))).bind fun t102=>(if t102 < 0 then(some (-1))else(some t102)))
set_option maxHeartbeats 8000000 in
set_option maxRecDepth 100000 in
theorem laws_szExp.calls (Ah:Int) (Ab:ByteArray) (Ad:Option Addr) (Af:Nat) (Aa:List Int) (a1:Int) (r:Int) (w:World) (Ai:Kd.C (Kd.int .i64) w Ad Aa.length Aa) (Aj:Aa.length≤Af) (h:laws_szExp.f Ah Ab Aa a1=some r) :
  Calls Tryz.prog 31 #[.agg #[.int .i64 Ah,.string Ab,.slice Ad Aa.length Af],.int .i64 a1] w fun e w'=>e=.returned (.int .i64 r)∧Below w.heap.size w w':=by
 have Bo:=Tryz.underlying63
 have Ak:=y0.mk Ai
 have Am:=y0.mk Aj
 clear Ai Aj
 have HB:=y0.mk (Below.refl w.heap.size w)
 have H:(if(wrap64 (a1 - (Ab.size:Int))) < 0 then(some (-1))else((laws_szIntS.f Aa (wrap64 (a1 - (Ab.size:Int)))).bind fun Ag=>(if Ag < 0 then(some (-1))else(some Ag))))=some r:=h
 clear h
 by_cases c3:(wrap64 (a1 - (Ab.size:Int))) < 0
 ·rw [if_pos c3]at H
  have Ba:=decide_eq_true c3
  clear c3
  obtain rfl:=Option.some.inj H
  go_enter Tryz.func31,Tryz.ntmps31
  go_wp2_with (first|((with_reducible refine y16 (N:=2) rfl ?_);refine qe 2 #[.int .i64 Ah,.string Ab,.slice Ad Aa.length Af] 63 ?_;intro Ap hg w4 hbox hb;have Ac:=y0.mk (hbox);have Ar:=y0.mk (qg (w:=w) hg);have As:=y0.mk (qg (w:=w) hg);replace HB:=y0.mk (y5 qb hb);clear hb hbox hg;obtain⟨Bb,Bc,Bd,Be,Bf,Bg⟩:=qz3 Ac.out))
  go_ret
  exact⟨qf,qb⟩
 ·rw [if_neg c3]at H
  have Ba:=decide_eq_false c3
  clear c3
  obtain⟨Ag,A6,H⟩:=qB H
  by_cases c7:Ag < 0
  ·rw [if_pos c7]at H
   have Bh:=decide_eq_true c7
   clear c7
   obtain rfl:=Option.some.inj H
   go_enter Tryz.func31,Tryz.ntmps31
   go_wp2_with (first|((with_reducible refine y16 (N:=2) rfl ?_);refine qe 2 #[.int .i64 Ah,.string Ab,.slice Ad Aa.length Af] 63 ?_;intro Ap hg w8 hbox hb;have Ac:=y0.mk (hbox);have Ar:=y0.mk (qg (w:=w) hg);have As:=y0.mk (qg (w:=w) hg);replace HB:=y0.mk (y5 qb hb);clear hb hbox hg;obtain⟨Bi,Bj,Bk,Bl,Bm,Bn⟩:=qz3 Ac.out)|((with_reducible refine y15 (f:=32) rfl ?_);refine y17 (some 15) rfl rfl Tryz.func32 (by kernel_rfl) rfl #[.slice Ad Aa.length Af,.int .i64 (wrap64 (a1 - (Ab.size:Int)))] rfl qy1 ?_;(with_reducible refine(laws_szIntS.calls _ _ Aa (wrap64 (a1 - (Ab.size:Int))) Ag _ (qc (Kd.C_below Ak.out HB.out)) Am.out A6.out).mono ?_);rintro e w' ⟨rfl,⟨nd,rfl⟩⟩;refine⟨_,rfl, ?_⟩))
   go_ret
   exact⟨qf,qb⟩
  ·rw [if_neg c7]at H
   have Bh:=decide_eq_false c7
   clear c7
   obtain rfl:=Option.some.inj H
   go_enter Tryz.func31,Tryz.ntmps31
   go_wp2_with (first|((with_reducible refine y16 (N:=2) rfl ?_);refine qe 2 #[.int .i64 Ah,.string Ab,.slice Ad Aa.length Af] 63 ?_;intro Ap hg Bp hbox hb;have Ac:=y0.mk (hbox);have Ar:=y0.mk (qg (w:=w) hg);have As:=y0.mk (qg (w:=w) hg);replace HB:=y0.mk (y5 qb hb);clear hb hbox hg;obtain⟨At,Au,Av,Aw,Ay,Az⟩:=qz3 Ac.out)|((with_reducible refine y15 (f:=32) rfl ?_);refine y17 (some 15) rfl rfl Tryz.func32 (by kernel_rfl) rfl #[.slice Ad Aa.length Af,.int .i64 (wrap64 (a1 - (Ab.size:Int)))] rfl qy1 ?_;(with_reducible refine(laws_szIntS.calls _ _ Aa (wrap64 (a1 - (Ab.size:Int))) Ag _ (qc (Kd.C_below Ak.out HB.out)) Am.out A6.out).mono ?_);rintro e w' ⟨rfl,⟨nd,rfl⟩⟩;refine⟨_,rfl, ?_⟩))
   go_ret
   exact⟨qf,qb⟩
def laws_szExpS.l0:Nat→List (S63)→Int→Int→Option (Int)
 | 0,_,_,_=>none
 | k + 1,x0,x1,x5=>if x5 < (x0.length:Int)then(if 0≤x5 then((laws_szExp.f ((rd_T63 x0 x5).f0) ((rd_T63 x0 x5).f1) ((rd_T63 x0 x5).f2) x1).bind fun t104=>(if t104 < 0 then(some (-1))else(laws_szExpS.l0 k x0 t104 (wrap64 (x5 + 1)))))else(none))else(some x1)
def laws_szExpS.f (k:Nat) (l0:List (S63)) (a1:Int):Option (Int):=if(wrap64 (a1 - (l0.length:Int))) < 0 then(some (-1))else(laws_szExpS.l0 k l0 (wrap64 (a1 - (l0.length:Int))) 0)
set_option maxHeartbeats 8000000 in
set_option maxRecDepth 100000 in
theorem laws_szExpS.calls (k:Nat) (A0:Option Addr) (c0:Nat) (l0:List (S63)) (a1:Int) (r:Int) (w:World) (Ay:Kd.C k63 w A0 l0.length l0) (Az:l0.length≤c0) (h:laws_szExpS.f k l0 a1=some r) :
  Calls Tryz.prog 13 #[.slice A0 l0.length c0,.int .i64 a1] w fun e w'=>e=.returned (.int .i64 r)∧Below w.heap.size w w':=by
 have Bc:=Tryz.underlying63
 have Bd:=y0.mk Ay
 have Bf:=y0.mk Az
 clear Ay Az
 have HB:=y0.mk (Below.refl w.heap.size w)
 have H:(if(wrap64 (a1 - (l0.length:Int))) < 0 then(some (-1))else(laws_szExpS.l0 k l0 (wrap64 (a1 - (l0.length:Int))) 0))=some r:=h
 clear h
 by_cases c3:(wrap64 (a1 - (l0.length:Int))) < 0
 ·rw [if_pos c3]at H
  have At:=decide_eq_true c3
  clear c3
  obtain rfl:=Option.some.inj H
  go_enter Tryz.func13,Tryz.ntmps13
  go_wp2
  go_ret
  exact⟨qf,qb⟩
 ·rw [if_neg c3]at H
  have At:=decide_eq_false c3
  clear c3
  have H':=y0.mk H
  clear H
  go_enter Tryz.func13,Tryz.ntmps13
  go_wp2
  go_loopg [1,5] k (fun kq v1 v5 w'=>∃(Af:Int) (Aa:Int),v1=.int .i64 Af∧v5=.int .i64 Aa∧y0 (laws_szExpS.l0 kq l0 Af Aa=some r)∧y0 (kq≤k)∧y0 (Below w.heap.size w w'))
  case atStart=>exact⟨(wrap64 (a1 - (l0.length:Int))),(0),qy2,qy2,H',⟨Nat.le_refl _⟩,⟨qb⟩⟩
  case round =>
   clear H'
   (try clear At)
   obtain⟨Af,Aa,rfl,rfl,HA,Ba,HB⟩:=hrel
   cases gk with
   | zero=>exact absurd HA.out (by simp [laws_szExpS.l0])
   | succ k1 =>
    have H:=HA.out
    clear HA
    simp only [laws_szExpS.l0]at H
    by_cases c4:Aa < (l0.length:Int)
    ·rw [if_pos c4]at H
     have Au:=decide_eq_true c4
     clear c4
     obtain⟨c5,H⟩:=qo H
     have Be:decide (0≤Aa)=true:=decide_eq_true c5
     clear c5
     obtain⟨Ap,A6,H⟩:=qB H
     have Ar:0≤(Aa:Int):=of_decide_eq_true qy0
     have As:Aa < (l0.length:Int):=of_decide_eq_true qy0
     obtain⟨Bb,Ak,Am,Av,Ab,Ac,Ad,Ag,Ah⟩:=at_T63 Bd.out Aa Ar As
     cases Av
     replace Ab:=(HB.out.cell (World.block_lt_of_cell? w _ Ab)).trans Ab
     replace Ac:=(HB.out.cell (World.block_lt_of_cell? w _ Ac)).trans Ac
     replace Ad:=(HB.out.cell (World.block_lt_of_cell? w _ Ad)).trans Ad
     have Ai:=y0.mk Ah
     have Aj:=y0.mk Ag
     clear Ah Ag
     replace Ar:=eq_true Ar
     replace As:=eq_true As
     by_cases c7:Ap < 0
     ·rw [if_pos c7]at H
      have Aw:=decide_eq_true c7
      clear c7
      obtain rfl:=Option.some.inj H
      go_wp2_with (first|((with_reducible refine y15 (f:=31) rfl ?_);refine y17 (some 23) rfl rfl Tryz.func31 (by kernel_rfl) rfl #[.agg #[.int .i64 ((rd_T63 l0 Aa).f0),.string ((rd_T63 l0 Aa).f1),.slice Ak ((rd_T63 l0 Aa).f2).length Am],.int .i64 Af] rfl qy1 ?_;(with_reducible refine(laws_szExp.calls ((rd_T63 l0 Aa).f0) ((rd_T63 l0 Aa).f1) _ _ ((rd_T63 l0 Aa).f2) Af Ap _ (qc (Kd.C_below Ai.out HB.out)) Aj.out A6.out).mono ?_);rintro e w8 ⟨rfl,hb⟩;refine⟨_,rfl, ?_⟩;replace HB:=y0.mk (y5 qb hb);(try clear hb)))
      go_ret
      exact⟨qf,qb⟩
     ·rw [if_neg c7]at H
      have Aw:=decide_eq_false c7
      clear c7
      have H':=y0.mk H
      clear H
      go_wp2_with (first|((with_reducible refine y15 (f:=31) rfl ?_);refine y17 (some 23) rfl rfl Tryz.func31 (by kernel_rfl) rfl #[.agg #[.int .i64 ((rd_T63 l0 Aa).f0),.string ((rd_T63 l0 Aa).f1),.slice Ak ((rd_T63 l0 Aa).f2).length Am],.int .i64 Af] rfl qy1 ?_;(with_reducible refine(laws_szExp.calls ((rd_T63 l0 Aa).f0) ((rd_T63 l0 Aa).f1) _ _ ((rd_T63 l0 Aa).f2) Af Ap _ (qc (Kd.C_below Ai.out HB.out)) Aj.out A6.out).mono ?_);rintro e w9 ⟨rfl,hb⟩;refine⟨_,rfl, ?_⟩;replace HB:=y0.mk (y5 qb hb);(try clear hb)))
      go_roundg k1
      case measure=>have:=Ba.out;omega
      exact⟨(Ap),(wrap64 (Aa + 1)),qy2,qy2,H',⟨by have:=Ba.out;omega⟩,⟨qb⟩⟩
    ·rw [if_neg c4]at H
     have Au:=decide_eq_false c4
     clear c4
     obtain rfl:=Option.some.inj H
     go_wp2
     go_ret
     exact⟨qf,qb⟩
def laws_szLit.f (a0_0:Int) (a0_1:ByteArray) (l0_2:List Int) (a1:Int):Option (Int):=if(wrap64 (a1 - (a0_1.size:Int))) < 0 then(some (-1))else((laws_szIntS.f l0_2 (wrap64 (a1 - (a0_1.size:Int)))).bind fun t106=>(if t106 < 0 then(some (-1))else(some t106)))
set_option maxHeartbeats 8000000 in
set_option maxRecDepth 100000 in
theorem laws_szLit.calls (Ah:Int) (Ab:ByteArray) (Ad:Option Addr) (Af:Nat) (Aa:List Int) (a1:Int) (r:Int) (w:World) (Ai:Kd.C (Kd.int .i64) w Ad Aa.length Aa) (Aj:Aa.length≤Af) (h:laws_szLit.f Ah Ab Aa a1=some r) :
  Calls Tryz.prog 14 #[.agg #[.int .i64 Ah,.string Ab,.slice Ad Aa.length Af],.int .i64 a1] w fun e w'=>e=.returned (.int .i64 r)∧Below w.heap.size w w':=by
 have Bo:=Tryz.underlying25
 have Ak:=y0.mk Ai
 have Am:=y0.mk Aj
 clear Ai Aj
 have HB:=y0.mk (Below.refl w.heap.size w)
 have H:(if(wrap64 (a1 - (Ab.size:Int))) < 0 then(some (-1))else((laws_szIntS.f Aa (wrap64 (a1 - (Ab.size:Int)))).bind fun Ag=>(if Ag < 0 then(some (-1))else(some Ag))))=some r:=h
 clear h
 by_cases c3:(wrap64 (a1 - (Ab.size:Int))) < 0
 ·rw [if_pos c3]at H
  have Ba:=decide_eq_true c3
  clear c3
  obtain rfl:=Option.some.inj H
  go_enter Tryz.func14,Tryz.ntmps14
  go_wp2_with (first|((with_reducible refine y16 (N:=2) rfl ?_);refine qe 2 #[.int .i64 Ah,.string Ab,.slice Ad Aa.length Af] 25 ?_;intro Ap hg w4 hbox hb;have Ac:=y0.mk (hbox);have Ar:=y0.mk (qg (w:=w) hg);have As:=y0.mk (qg (w:=w) hg);replace HB:=y0.mk (y5 qb hb);clear hb hbox hg;obtain⟨Bb,Bc,Bd,Be,Bf,Bg⟩:=qz3 Ac.out))
  go_ret
  exact⟨qf,qb⟩
 ·rw [if_neg c3]at H
  have Ba:=decide_eq_false c3
  clear c3
  obtain⟨Ag,A6,H⟩:=qB H
  by_cases c7:Ag < 0
  ·rw [if_pos c7]at H
   have Bh:=decide_eq_true c7
   clear c7
   obtain rfl:=Option.some.inj H
   go_enter Tryz.func14,Tryz.ntmps14
   go_wp2_with (first|((with_reducible refine y16 (N:=2) rfl ?_);refine qe 2 #[.int .i64 Ah,.string Ab,.slice Ad Aa.length Af] 25 ?_;intro Ap hg w8 hbox hb;have Ac:=y0.mk (hbox);have Ar:=y0.mk (qg (w:=w) hg);have As:=y0.mk (qg (w:=w) hg);replace HB:=y0.mk (y5 qb hb);clear hb hbox hg;obtain⟨Bi,Bj,Bk,Bl,Bm,Bn⟩:=qz3 Ac.out)|((with_reducible refine y15 (f:=32) rfl ?_);refine y17 (some 15) rfl rfl Tryz.func32 (by kernel_rfl) rfl #[.slice Ad Aa.length Af,.int .i64 (wrap64 (a1 - (Ab.size:Int)))] rfl qy1 ?_;(with_reducible refine(laws_szIntS.calls _ _ Aa (wrap64 (a1 - (Ab.size:Int))) Ag _ (qc (Kd.C_below Ak.out HB.out)) Am.out A6.out).mono ?_);rintro e w' ⟨rfl,⟨nd,rfl⟩⟩;refine⟨_,rfl, ?_⟩))
   go_ret
   exact⟨qf,qb⟩
  ·rw [if_neg c7]at H
   have Bh:=decide_eq_false c7
   clear c7
   obtain rfl:=Option.some.inj H
   go_enter Tryz.func14,Tryz.ntmps14
   go_wp2_with (first|((with_reducible refine y16 (N:=2) rfl ?_);refine qe 2 #[.int .i64 Ah,.string Ab,.slice Ad Aa.length Af] 25 ?_;intro Ap hg Bp hbox hb;have Ac:=y0.mk (hbox);have Ar:=y0.mk (qg (w:=w) hg);have As:=y0.mk (qg (w:=w) hg);replace HB:=y0.mk (y5 qb hb);clear hb hbox hg;obtain⟨At,Au,Av,Aw,Ay,Az⟩:=qz3 Ac.out)|((with_reducible refine y15 (f:=32) rfl ?_);refine y17 (some 15) rfl rfl Tryz.func32 (by kernel_rfl) rfl #[.slice Ad Aa.length Af,.int .i64 (wrap64 (a1 - (Ab.size:Int)))] rfl qy1 ?_;(with_reducible refine(laws_szIntS.calls _ _ Aa (wrap64 (a1 - (Ab.size:Int))) Ag _ (qc (Kd.C_below Ak.out HB.out)) Am.out A6.out).mono ?_);rintro e w' ⟨rfl,⟨nd,rfl⟩⟩;refine⟨_,rfl, ?_⟩))
   go_ret
   exact⟨qf,qb⟩
def laws_szLitS.l0:Nat→List (S25)→Int→Int→Option (Int)
 | 0,_,_,_=>none
 | k + 1,x0,x1,x5=>if x5 < (x0.length:Int)then(if 0≤x5 then((laws_szLit.f ((rd_T25 x0 x5).f0) ((rd_T25 x0 x5).f1) ((rd_T25 x0 x5).f2) x1).bind fun t108=>(if t108 < 0 then(some (-1))else(laws_szLitS.l0 k x0 t108 (wrap64 (x5 + 1)))))else(none))else(some x1)
def laws_szLitS.f (k:Nat) (l0:List (S25)) (a1:Int):Option (Int):=if(wrap64 (a1 - (l0.length:Int))) < 0 then(some (-1))else(laws_szLitS.l0 k l0 (wrap64 (a1 - (l0.length:Int))) 0)
set_option maxHeartbeats 8000000 in
set_option maxRecDepth 100000 in
theorem laws_szLitS.calls (k:Nat) (A0:Option Addr) (c0:Nat) (l0:List (S25)) (a1:Int) (r:Int) (w:World) (Ay:Kd.C k25 w A0 l0.length l0) (Az:l0.length≤c0) (h:laws_szLitS.f k l0 a1=some r) :
  Calls Tryz.prog 15 #[.slice A0 l0.length c0,.int .i64 a1] w fun e w'=>e=.returned (.int .i64 r)∧Below w.heap.size w w':=by
 have Bc:=Tryz.underlying25
 have Bd:=y0.mk Ay
 have Bf:=y0.mk Az
 clear Ay Az
 have HB:=y0.mk (Below.refl w.heap.size w)
 have H:(if(wrap64 (a1 - (l0.length:Int))) < 0 then(some (-1))else(laws_szLitS.l0 k l0 (wrap64 (a1 - (l0.length:Int))) 0))=some r:=h
 clear h
 by_cases c3:(wrap64 (a1 - (l0.length:Int))) < 0
 ·rw [if_pos c3]at H
  have At:=decide_eq_true c3
  clear c3
  obtain rfl:=Option.some.inj H
  go_enter Tryz.func15,Tryz.ntmps15
  go_wp2
  go_ret
  exact⟨qf,qb⟩
 ·rw [if_neg c3]at H
  have At:=decide_eq_false c3
  clear c3
  have H':=y0.mk H
  clear H
  go_enter Tryz.func15,Tryz.ntmps15
  go_wp2
  go_loopg [1,5] k (fun kq v1 v5 w'=>∃(Af:Int) (Aa:Int),v1=.int .i64 Af∧v5=.int .i64 Aa∧y0 (laws_szLitS.l0 kq l0 Af Aa=some r)∧y0 (kq≤k)∧y0 (Below w.heap.size w w'))
  case atStart=>exact⟨(wrap64 (a1 - (l0.length:Int))),(0),qy2,qy2,H',⟨Nat.le_refl _⟩,⟨qb⟩⟩
  case round =>
   clear H'
   (try clear At)
   obtain⟨Af,Aa,rfl,rfl,HA,Ba,HB⟩:=hrel
   cases gk with
   | zero=>exact absurd HA.out (by simp [laws_szLitS.l0])
   | succ k1 =>
    have H:=HA.out
    clear HA
    simp only [laws_szLitS.l0]at H
    by_cases c4:Aa < (l0.length:Int)
    ·rw [if_pos c4]at H
     have Au:=decide_eq_true c4
     clear c4
     obtain⟨c5,H⟩:=qo H
     have Be:decide (0≤Aa)=true:=decide_eq_true c5
     clear c5
     obtain⟨Ap,A6,H⟩:=qB H
     have Ar:0≤(Aa:Int):=of_decide_eq_true qy0
     have As:Aa < (l0.length:Int):=of_decide_eq_true qy0
     obtain⟨Bb,Ak,Am,Av,Ab,Ac,Ad,Ag,Ah⟩:=at_T25 Bd.out Aa Ar As
     cases Av
     replace Ab:=(HB.out.cell (World.block_lt_of_cell? w _ Ab)).trans Ab
     replace Ac:=(HB.out.cell (World.block_lt_of_cell? w _ Ac)).trans Ac
     replace Ad:=(HB.out.cell (World.block_lt_of_cell? w _ Ad)).trans Ad
     have Ai:=y0.mk Ah
     have Aj:=y0.mk Ag
     clear Ah Ag
     replace Ar:=eq_true Ar
     replace As:=eq_true As
     by_cases c7:Ap < 0
     ·rw [if_pos c7]at H
      have Aw:=decide_eq_true c7
      clear c7
      obtain rfl:=Option.some.inj H
      go_wp2_with (first|((with_reducible refine y15 (f:=14) rfl ?_);refine y17 (some 23) rfl rfl Tryz.func14 (by kernel_rfl) rfl #[.agg #[.int .i64 ((rd_T25 l0 Aa).f0),.string ((rd_T25 l0 Aa).f1),.slice Ak ((rd_T25 l0 Aa).f2).length Am],.int .i64 Af] rfl qy1 ?_;(with_reducible refine(laws_szLit.calls ((rd_T25 l0 Aa).f0) ((rd_T25 l0 Aa).f1) _ _ ((rd_T25 l0 Aa).f2) Af Ap _ (qc (Kd.C_below Ai.out HB.out)) Aj.out A6.out).mono ?_);rintro e w8 ⟨rfl,hb⟩;refine⟨_,rfl, ?_⟩;replace HB:=y0.mk (y5 qb hb);(try clear hb)))
      go_ret
      exact⟨qf,qb⟩
     ·rw [if_neg c7]at H
      have Aw:=decide_eq_false c7
      clear c7
      have H':=y0.mk H
      clear H
      go_wp2_with (first|((with_reducible refine y15 (f:=14) rfl ?_);refine y17 (some 23) rfl rfl Tryz.func14 (by kernel_rfl) rfl #[.agg #[.int .i64 ((rd_T25 l0 Aa).f0),.string ((rd_T25 l0 Aa).f1),.slice Ak ((rd_T25 l0 Aa).f2).length Am],.int .i64 Af] rfl qy1 ?_;(with_reducible refine(laws_szLit.calls ((rd_T25 l0 Aa).f0) ((rd_T25 l0 Aa).f1) _ _ ((rd_T25 l0 Aa).f2) Af Ap _ (qc (Kd.C_below Ai.out HB.out)) Aj.out A6.out).mono ?_);rintro e w9 ⟨rfl,hb⟩;refine⟨_,rfl, ?_⟩;replace HB:=y0.mk (y5 qb hb);(try clear hb)))
      go_roundg k1
      case measure=>have:=Ba.out;omega
      exact⟨(Ap),(wrap64 (Aa + 1)),qy2,qy2,H',⟨by have:=Ba.out;omega⟩,⟨qb⟩⟩
    ·rw [if_neg c4]at H
     have Au:=decide_eq_false c4
     clear c4
     obtain rfl:=Option.some.inj H
     go_wp2
     go_ret
     exact⟨qf,qb⟩
def laws_szRule.f (k:Nat) (l0_0:List (S63)) (a0_1:Int) (a0_2:ByteArray) (l0_3:List Int) (l0_4:List (S25)) (a1:Int):Option (Int):=(laws_szExpS.f k l0_0 a1).bind fun t110=>(if t110 < 0 then(some (-1))else((laws_szLit.f a0_1 a0_2 l0_3 t110).bind fun t111=>(if t111 < 0 then(some (-1))else((laws_szLitS.f k l0_4 t111).bind fun t112=>(if t112 < 0 then(some (-1))else(some t112))))))
set_option maxHeartbeats 8000000 in
set_option maxRecDepth 100000 in
theorem laws_szRule.calls (k:Nat) (Aj:Option Addr) (Ak:Nat) (Ab:List (S63)) (Ag:Int) (Ah:ByteArray) (Am:Option Addr) (Ap:Nat) (Ac:List Int) (Ar:Option Addr) (As:Nat) (Ad:List (S25)) (a1:Int) (r:Int) (w:World) (Bc:Kd.C k63 w Aj Ab.length Ab) (Bd:Ab.length≤Ak) (Be:Kd.C (Kd.int .i64) w Am Ac.length Ac) (Bf:Ac.length≤Ap) (Bg:Kd.C k25 w Ar Ad.length Ad) (Bh:Ad.length≤As) (h:laws_szRule.f k Ab Ag Ah Ac Ad a1=some r) :
  Calls Tryz.prog 4 #[.agg #[.slice Aj Ab.length Ak,.int .i64 Ag,.string Ah,.slice Am Ac.length Ap,.slice Ar Ad.length As],.int .i64 a1] w fun e w'=>e=.returned (.int .i64 r)∧Below w.heap.size w w':=by
 have Ff:=Tryz.underlying28
 have Fg:=Tryz.underlying25
 have At:=y0.mk Bc
 have Au:=y0.mk Bd
 clear Bc Bd
 have Aw:=y0.mk Be
 have Ay:=y0.mk Bf
 clear Be Bf
 have Bi:=y0.mk Bg
 have Bj:=y0.mk Bh
 clear Bg Bh
 have HB:=y0.mk (Below.refl w.heap.size w)
 have H:((laws_szExpS.f k Ab a1).bind fun Af=>(if Af < 0 then(some (-1))else((laws_szLit.f Ag Ah Ac Af).bind fun Ai=>(if Ai < 0 then(some (-1))else((laws_szLitS.f k Ad Ai).bind fun Av=>(if Av < 0 then(some (-1))else(some Av)))))))=some r:=h
 clear h
 obtain⟨Af,A3,H⟩:=qB H
 by_cases c4:Af < 0
 ·rw [if_pos c4]at H
  have Er:=decide_eq_true c4
  clear c4
  obtain rfl:=Option.some.inj H
  go_enter Tryz.func4,Tryz.ntmps4
  go_wp2_with (first|((with_reducible refine y16 (N:=2) rfl ?_);refine qe 2 #[.slice Aj Ab.length Ak,.int .i64 Ag,.string Ah,.slice Am Ac.length Ap,.slice Ar Ad.length As] 28 ?_;intro Az hg w5 hbox hb;have Aa:=y0.mk (hbox);have Ba:=y0.mk (qg (w:=w) hg);have Bb:=y0.mk (qg (w:=w) hg);replace HB:=y0.mk (y5 qb hb);clear hb hbox hg;obtain⟨Es,Et,Eu,Ew,Ex,Ey,Ez,Fa,Fb,Fc⟩:=qz5 Aa.out)|((with_reducible refine y15 (f:=13) rfl ?_);refine y17 (some 8) rfl rfl Tryz.func13 (by kernel_rfl) rfl #[.slice Aj Ab.length Ak,.int .i64 a1] rfl qy1 ?_;(with_reducible refine(laws_szExpS.calls k _ _ Ab a1 Af _ (qc (Kd.C_below At.out HB.out)) Au.out A3.out).mono ?_);rintro e w7 ⟨rfl,hb⟩;refine⟨_,rfl, ?_⟩;replace Aa:=y0.mk (qK Aa.out hb);replace HB:=y0.mk (y5 qb hb);(try clear hb)))
  go_ret
  exact⟨qf,qb⟩
 ·rw [if_neg c4]at H
  have Er:=decide_eq_false c4
  clear c4
  obtain⟨Ai,A8,H⟩:=qB H
  by_cases c9:Ai < 0
  ·rw [if_pos c9]at H
   have Fd:=decide_eq_true c9
   clear c9
   obtain rfl:=Option.some.inj H
   go_enter Tryz.func4,Tryz.ntmps4
   go_wp2_with (first|((with_reducible refine y16 (N:=2) rfl ?_);refine qe 2 #[.slice Aj Ab.length Ak,.int .i64 Ag,.string Ah,.slice Am Ac.length Ap,.slice Ar Ad.length As] 28 ?_;intro Az hg Fh hbox hb;have Aa:=y0.mk (hbox);have Ba:=y0.mk (qg (w:=w) hg);have Bb:=y0.mk (qg (w:=w) hg);replace HB:=y0.mk (y5 qb hb);clear hb hbox hg;obtain⟨Bm,Bn,Bo,Bp,Bq,Br,Bs,Bt,Bu,Bv⟩:=qz5 Aa.out)|((with_reducible refine y15 (f:=13) rfl ?_);refine y17 (some 8) rfl rfl Tryz.func13 (by kernel_rfl) rfl #[.slice Aj Ab.length Ak,.int .i64 a1] rfl qy1 ?_;(with_reducible refine(laws_szExpS.calls k _ _ Ab a1 Af _ (qc (Kd.C_below At.out HB.out)) Au.out A3.out).mono ?_);rintro e Fi ⟨rfl,hb⟩;refine⟨_,rfl, ?_⟩;replace Aa:=y0.mk (qK Aa.out hb);replace HB:=y0.mk (y5 qb hb);(try clear hb);obtain⟨Bw,Bx,Bz,Ca,Cb,Cc,Cd,Ce,Cf,Cg⟩:=qz5 Aa.out)|((with_reducible refine y15 (f:=14) rfl ?_);refine y17 (some 14) rfl rfl Tryz.func14 (by kernel_rfl) rfl #[.agg #[.int .i64 Ag,.string Ah,.slice Am Ac.length Ap],.int .i64 Af] rfl qy1 ?_;(with_reducible refine(laws_szLit.calls Ag Ah _ _ Ac Af Ai _ (qc (Kd.C_below Aw.out HB.out)) Ay.out A8.out).mono ?_);rintro e Fj ⟨rfl,hb⟩;refine⟨_,rfl, ?_⟩;replace Aa:=y0.mk (qK Aa.out hb);replace HB:=y0.mk (y5 qb hb);(try clear hb)))
   go_ret
   exact⟨qf,qb⟩
  ·rw [if_neg c9]at H
   have Fd:=decide_eq_false c9
   clear c9
   obtain⟨Av,Fe,H⟩:=qB H
   by_cases Bk:Av < 0
   ·rw [if_pos Bk]at H
    have Bl:=decide_eq_true Bk
    clear Bk
    obtain rfl:=Option.some.inj H
    go_enter Tryz.func4,Tryz.ntmps4
    go_wp2_with (first|((with_reducible refine y16 (N:=2) rfl ?_);refine qe 2 #[.slice Aj Ab.length Ak,.int .i64 Ag,.string Ah,.slice Am Ac.length Ap,.slice Ar Ad.length As] 28 ?_;intro Az hg Fk hbox hb;have Aa:=y0.mk (hbox);have Ba:=y0.mk (qg (w:=w) hg);have Bb:=y0.mk (qg (w:=w) hg);replace HB:=y0.mk (y5 qb hb);clear hb hbox hg;obtain⟨Ch,Ci,Cj,Ck,Cl,Cm,Cn,Co,Cp,Cq⟩:=qz5 Aa.out)|((with_reducible refine y15 (f:=13) rfl ?_);refine y17 (some 8) rfl rfl Tryz.func13 (by kernel_rfl) rfl #[.slice Aj Ab.length Ak,.int .i64 a1] rfl qy1 ?_;(with_reducible refine(laws_szExpS.calls k _ _ Ab a1 Af _ (qc (Kd.C_below At.out HB.out)) Au.out A3.out).mono ?_);rintro e Fl ⟨rfl,hb⟩;refine⟨_,rfl, ?_⟩;replace Aa:=y0.mk (qK Aa.out hb);replace HB:=y0.mk (y5 qb hb);(try clear hb);obtain⟨Cr,Cs,Ct,Cu,Cv,Cw,Cx,Cy,Cz,Da⟩:=qz5 Aa.out)|((with_reducible refine y15 (f:=14) rfl ?_);refine y17 (some 14) rfl rfl Tryz.func14 (by kernel_rfl) rfl #[.agg #[.int .i64 Ag,.string Ah,.slice Am Ac.length Ap],.int .i64 Af] rfl qy1 ?_;(with_reducible refine(laws_szLit.calls Ag Ah _ _ Ac Af Ai _ (qc (Kd.C_below Aw.out HB.out)) Ay.out A8.out).mono ?_);rintro e Fm ⟨rfl,hb⟩;refine⟨_,rfl, ?_⟩;replace Aa:=y0.mk (qK Aa.out hb);replace HB:=y0.mk (y5 qb hb);(try clear hb);obtain⟨Db,Dc,Dd,De,Df,Dg,Dh,Di,Dj,Dk⟩:=qz5 Aa.out)|((with_reducible refine y15 (f:=15) rfl ?_);refine y17 (some 20) rfl rfl Tryz.func15 (by kernel_rfl) rfl #[.slice Ar Ad.length As,.int .i64 Ai] rfl qy1 ?_;(with_reducible refine(laws_szLitS.calls k _ _ Ad Ai Av _ (qc (Kd.C_below Bi.out HB.out)) Bj.out Fe.out).mono ?_);rintro e Fn ⟨rfl,hb⟩;refine⟨_,rfl, ?_⟩;replace Aa:=y0.mk (qK Aa.out hb);replace HB:=y0.mk (y5 qb hb);(try clear hb)))
    go_ret
    exact⟨qf,qb⟩
   ·rw [if_neg Bk]at H
    have Bl:=decide_eq_false Bk
    clear Bk
    obtain rfl:=Option.some.inj H
    go_enter Tryz.func4,Tryz.ntmps4
    go_wp2_with (first|((with_reducible refine y16 (N:=2) rfl ?_);refine qe 2 #[.slice Aj Ab.length Ak,.int .i64 Ag,.string Ah,.slice Am Ac.length Ap,.slice Ar Ad.length As] 28 ?_;intro Az hg Fo hbox hb;have Aa:=y0.mk (hbox);have Ba:=y0.mk (qg (w:=w) hg);have Bb:=y0.mk (qg (w:=w) hg);replace HB:=y0.mk (y5 qb hb);clear hb hbox hg;obtain⟨Dl,Dm,Do,Dp,Dq,Dr,Ds,Dt,Du,Dw⟩:=qz5 Aa.out)|((with_reducible refine y15 (f:=13) rfl ?_);refine y17 (some 8) rfl rfl Tryz.func13 (by kernel_rfl) rfl #[.slice Aj Ab.length Ak,.int .i64 a1] rfl qy1 ?_;(with_reducible refine(laws_szExpS.calls k _ _ Ab a1 Af _ (qc (Kd.C_below At.out HB.out)) Au.out A3.out).mono ?_);rintro e Fp ⟨rfl,hb⟩;refine⟨_,rfl, ?_⟩;replace Aa:=y0.mk (qK Aa.out hb);replace HB:=y0.mk (y5 qb hb);(try clear hb);obtain⟨Dx,Dy,Dz,Ea,Eb,Ec,Ed,Ee,Ef,Eg⟩:=qz5 Aa.out)|((with_reducible refine y15 (f:=14) rfl ?_);refine y17 (some 14) rfl rfl Tryz.func14 (by kernel_rfl) rfl #[.agg #[.int .i64 Ag,.string Ah,.slice Am Ac.length Ap],.int .i64 Af] rfl qy1 ?_;(with_reducible refine(laws_szLit.calls Ag Ah _ _ Ac Af Ai _ (qc (Kd.C_below Aw.out HB.out)) Ay.out A8.out).mono ?_);rintro e Fq ⟨rfl,hb⟩;refine⟨_,rfl, ?_⟩;replace Aa:=y0.mk (qK Aa.out hb);replace HB:=y0.mk (y5 qb hb);(try clear hb);obtain⟨Eh,Ei,Ej,Ek,El,Em,En,Eo,Ep,Eq⟩:=qz5 Aa.out)|((with_reducible refine y15 (f:=15) rfl ?_);refine y17 (some 20) rfl rfl Tryz.func15 (by kernel_rfl) rfl #[.slice Ar Ad.length As,.int .i64 Ai] rfl qy1 ?_;(with_reducible refine(laws_szLitS.calls k _ _ Ad Ai Av _ (qc (Kd.C_below Bi.out HB.out)) Bj.out Fe.out).mono ?_);rintro e Fr ⟨rfl,hb⟩;refine⟨_,rfl, ?_⟩;replace Aa:=y0.mk (qK Aa.out hb);replace HB:=y0.mk (y5 qb hb);(try clear hb)))
    go_ret
    exact⟨qf,qb⟩
def laws_toIntS.l0:Nat→List Int→List Int→Int→Option (List Int)
 | 0,_,_,_=>none
 | k + 1,x0,x3,x4=>if x4 < (x0.length:Int)then(if 0≤x4 then(if x4 < (x3.length:Int)then(laws_toIntS.l0 k x0 (x3.set (x4:Int).toNat (rd x0 x4)) (wrap64 (x4 + 1)))else(none))else(none))else(some x3)
def laws_toIntS.f (k:Nat) (l0:List Int):Option (List Int):=if 0≤(l0.length:Int)then(if((l0.length:Int):Int).toNat≤35184372088832 then(laws_toIntS.l0 k l0 (List.replicate ((l0.length:Int):Int).toNat 0) 0)else(none))else(none)
set_option maxHeartbeats 8000000 in
set_option maxRecDepth 100000 in
theorem laws_toIntS.calls (k:Nat) (A0:Option Addr) (c0:Nat) (l0:List Int) (r:List Int) (w:World) (Be:Kd.C (Kd.int .i64) w A0 l0.length l0) (Bf:l0.length≤c0) (h:laws_toIntS.f k l0=some r) :
  Calls Tryz.prog 41 #[.slice A0 l0.length c0] w fun e w'=>∃ v0_:Value,e=.returned (v0_)∧Kd.R (Kd.int .i64) 3 w' w.heap.size (fun _=>True) v0_ r∧Below w.heap.size w w':=by
 have Bn:=y0.mk Be
 have Bt:=y0.mk Bf
 clear Be Bf
 have HB:=y0.mk (Below.refl w.heap.size w)
 have H:(if 0≤(l0.length:Int)then(if((l0.length:Int):Int).toNat≤35184372088832 then(laws_toIntS.l0 k l0 (List.replicate ((l0.length:Int):Int).toNat 0) 0)else(none))else(none))=some r:=h
 clear h
 obtain⟨c2,H⟩:=qo H
 have Au:=eq_true c2
 have Av:=decide_eq_true c2
 clear c2
 obtain⟨c3,H⟩:=qo H
 have Aw:=eq_true c3
 have Ay:=decide_eq_true c3
 clear c3
 obtain⟨Ap,Ac⟩:∃ y_:List Int,y_=(List.replicate ((l0.length:Int):Int).toNat 0):=⟨_,rfl⟩
 replace H:(laws_toIntS.l0 k l0 Ap 0)=some r:=by first|(rw [Ac];with_reducible exact H)|(have H2_:=(Option.bind_some _ _).symm.trans H;rw [Ac];with_reducible exact H2_)|(have H2_:=(Option.bind_some _ _).symm.trans H;with_reducible exact H2_)|with_reducible exact H|(rw [Ac];exact H)|exact H
 have Ah:=y0.mk Ac
 clear Ac
 have H':=y0.mk H
 clear H
 go_enter Tryz.func41,Tryz.ntmps41
 go_wp2_with (first|((with_reducible refine y16 (N:=7) rfl ?_);refine Kd.R_make (Kd.int .i64) _ 3 rfl (N:=7) rfl 23 _ _ rfl (l0.length:Int) rfl rfl Tryz.underlying23 (.int .i64 0) 8 info3 rfl (by decide) (by omega) 0 (ok:=fun _=>True) (okp:=fun _=>True) rfl (fun _ hk=>hk) trivial (of_decide_eq_true qy0) (Nat.le_trans (Nat.mul_le_mul_right _ (of_decide_eq_true qy0:(l0.length:Int).toNat≤35184372088832)) (by omega)) (Below.refl _ _) (Nat.le_refl _) ?_;intro Az w4 Ar hb hg_ hnew_;clear hg_ hnew_;(first|rw [← Ah.out]at Ar|(simp only [Int.reduceToNat]at Ar;rw [← Ah.out]at Ar));have As:=y0.mk (Kd.R_lower Ar (y4 qb));replace HB:=y0.mk (y5 qb hb);clear hb Ar))
 go_loopg [4] k (fun kq v4 w'=>∃(Af:List Int) (Aa:Int),v4=.int .i64 Aa∧y0 (laws_toIntS.l0 kq l0 Af Aa=some r)∧y0 (kq≤k)∧y0 (Kd.R (Kd.int .i64) 3 w' w.heap.size (fun _=>True) Az Af)∧y0 (Below w.heap.size w w'))
 case atStart=>exact⟨(Ap),(0),qy2,H',⟨Nat.le_refl _⟩,⟨qR As.out⟩,⟨qb⟩⟩
 case round =>
  clear H'
  (try clear Au Av Aw Ay)
  obtain⟨Af,Aa,rfl,HA,Bg,Ag,HB⟩:=hrel
  cases gk with
  | zero=>exact absurd HA.out (by simp [laws_toIntS.l0])
  | succ k1 =>
   have H:=HA.out
   clear HA
   simp only [laws_toIntS.l0]at H
   by_cases c6:Aa < (l0.length:Int)
   ·rw [if_pos c6]at H
    have Ba:=decide_eq_true c6
    clear c6
    obtain⟨c7,H⟩:=qo H
    have Bo:decide (0≤Aa)=true:=decide_eq_true c7
    clear c7
    obtain⟨c8,H⟩:=qo H
    have Bp:decide (Aa < (Af.length:Int))=true:=decide_eq_true c8
    clear c8
    obtain⟨Ai,Ad⟩:∃ y_:List Int,y_=(Af.set (Aa:Int).toNat (rd l0 Aa)):=⟨_,rfl⟩
    replace H:(laws_toIntS.l0 k1 l0 Ai (wrap64 (Aa + 1)))=some r:=by first|(rw [Ad];with_reducible exact H)|(have H2_:=(Option.bind_some _ _).symm.trans H;rw [Ad];with_reducible exact H2_)|(have H2_:=(Option.bind_some _ _).symm.trans H;with_reducible exact H2_)|with_reducible exact H|(rw [Ad];exact H)|exact H
    have At:=y0.mk Ad
    clear Ad
    have H':=y0.mk H
    clear H
    have Aj:0≤(Aa:Int):=of_decide_eq_true qy0
    have Ak:Aa < (l0.length:Int):=of_decide_eq_true qy0
    obtain⟨Bh,Bb,Ab⟩:=Kd.at_int Bn.out Aa Aj Ak
    cases Bb
    replace Ab:=(HB.out.cell (World.block_lt_of_cell? w _ Ab)).trans Ab
    replace Aj:=eq_true Aj
    replace Ak:=eq_true Ak
    have p9:0≤(Aa:Int):=of_decide_eq_true qy0
    have q9:(Aa:Int) < ((Af.length:Int):Int):=of_decide_eq_true qy0
    obtain⟨Bc,Bq,Bi,Bj,Br,Bu,Bk⟩:=Kd.R_form Ag.out (by omega)
    (first|cases Bi|(injection Bi with ea_ en_ ec_;(first|subst ea_|(injection ea_ with ea_;subst ea_));subst ec_;clear en_))
    have Bs:=y0.mk Bj
    have Bv:=y0.mk Bk
    clear Bj Br Bk
    obtain⟨Bl,Bm⟩:=Kd.R_celln 0 Ag.out (Aa:Int) p9 q9
    replace p9:=eq_true p9
    replace q9:=eq_true q9
    have Am:=Kd.R_putg Ag.out (Aa:Int) (rd l0 Aa)
    go_wp2_with (first|((with_reducible refine gate_store (t:=3) (p:=20) rfl ?_);refine store_event (t:=3) (p:=20) (v:=?vo_w11) (w1:=(wr.setCell ⟨Bc,(Aa:Int).toNat,none⟩ (.int .i64 (rd l0 Aa)))) ?hg ?ho ?hn ?hr ?_;(case ho=>rfl);(case hg=>rfl);(case hn=>rfl);(case hr=>first|(go_simp;done)|(go_simp;rfl));intro Bd hw;have hg:wr.grownBy Bd (some Bc):=(by rw [hw];exact Am.2);have hp_:Kd.R (Kd.int .i64) 3 Bd w.heap.size (fun _=>True) (.slice (some ⟨Bc,0,none⟩) Af.length Bq) Ai:=(by rw [hw,At.out];exact Am.1);clear Am;replace Ag:=y0.mk (hp_);replace HB:=y0.mk ((by rw [hw];exact y3 (HB.out) Bs.out:Below w.heap.size w Bd));clear hg hw hp_))
    go_roundg k1
    case measure=>have:=Bg.out;omega
    exact⟨(Ai),(wrap64 (Aa + 1)),qy2,H',⟨by have:=Bg.out;omega⟩,⟨qR Ag.out⟩,⟨qb⟩⟩
   ·rw [if_neg c6]at H
    have Ba:=decide_eq_false c6
    clear c6
    obtain rfl:=Option.some.inj H
    go_wp2
    go_ret
    exact⟨_,by first|rfl|(simp [y12,y13] <;> rfl)|(simp [*,y12,y13] <;> rfl),by(with_reducible repeat(first|apply Kd.R_alloc|apply Kd.R_drewN|apply Kd.R_drew));exact Ag.out,qb⟩
def laws_toExp.f (k:Nat) (a0_0:Int) (a0_1:ByteArray) (l0_2:List Int):Option (Int×ByteArray×List Int):=(laws_toIntS.f k l0_2).bind fun t121=>(some (a0_0,a0_1,t121))
set_option maxHeartbeats 8000000 in
set_option maxRecDepth 100000 in
theorem laws_toExp.calls (k:Nat) (Af:Int) (Ah:ByteArray) (At:Option Addr) (Au:Nat) (Ag:List Int) (r1:Int) (r2:ByteArray) (r3:List Int) (w:World) (Av:Kd.C (Kd.int .i64) w At Ag.length Ag) (Aw:Ag.length≤Au) (h:laws_toExp.f k Af Ah Ag=some (r1,r2,r3)) :
  Calls Tryz.prog 40 #[.agg #[.int .i64 Af,.string Ah,.slice At Ag.length Au]] w fun e w'=>∃ v2_:Value,e=.returned (.agg #[.int .i64 r1,.string r2,v2_])∧Kd.R (Kd.int .i64) 3 w' w.heap.size (fun _=>True) v2_ r3∧Below w.heap.size w w':=by
 have Cm:=Tryz.underlying63
 have Cn:=Tryz.underlying48
 have Bc:=y0.mk Av
 have Bd:=y0.mk Aw
 clear Av Aw
 have HB:=y0.mk (Below.refl w.heap.size w)
 have H:((laws_toIntS.f k Ag).bind fun Ak=>(some (Af,Ah,Ak)))=some (r1,r2,r3):=h
 clear h
 obtain⟨Ak,A2,H⟩:=qB H
 simp only [Option.some.injEq,Prod.mk.injEq]at H
 obtain⟨rfl,rfl,rfl⟩:=H
 go_enter Tryz.func40,Tryz.ntmps40
 go_wp2_with (first|((with_reducible refine y16 (N:=1) rfl ?_);refine qe 1 #[.int .i64 Af,.string Ah,.slice At Ag.length Au] 63 ?_;intro Be hg w3 hbox hb;have Aa:=y0.mk (hbox);have Cf:=y0.mk (qg (w:=w) hg);have Cg:=y0.mk (qg (w:=w) hg);replace HB:=y0.mk (y5 qb hb);clear hb hbox hg)|((with_reducible refine y16 (N:=2) rfl ?_);refine qe 2 #[.int .i64 0,.string (⟨#[]⟩:ByteArray),.slice none 0 0] 48 ?_;intro Ai hg w4 hbox hb;have Ac:=y0.mk (hbox);have Ch:=y0.mk (qg (w:=w) hg);have Ci:=y0.mk (qg (w:=w) hg);replace HB:=y0.mk (y5 qb hb);have Am:=y0.mk (qn Aa.out hg);have Ap:=y0.mk (qm Aa.out hg);replace Aa:=y0.mk (qK Aa.out hb);clear hb hbox hg)|((with_reducible refine y16 (N:=3) rfl ?_);refine qe 3 #[.int .i64 0,.string (⟨#[]⟩:ByteArray),.slice none 0 0] 48 ?_;intro Ay hg w5 hbox hb;have Aj:=y0.mk (hbox);have Cj:=y0.mk (qg (w:=w) hg);have Ck:=y0.mk (qg (w:=w) hg);replace HB:=y0.mk (y5 qb hb);have Ad:=y0.mk (qn Aa.out hg);have Ar:=y0.mk (qm Aa.out hg);replace Aa:=y0.mk (qK Aa.out hb);have Ab:=y0.mk (qn Ac.out hg);have As:=y0.mk (qm Ac.out hg);replace Ac:=y0.mk (qK Ac.out hb);clear hb hbox hg;have Co:=Am.out;have Cp:=Ap.out;have Cq:=Ad.out;have Cr:=Ar.out;obtain⟨Bx,Bz,Ca,Cb,Cc,Cd⟩:=qz3 Aa.out;have Cs:=As.out;have Ct:=Ab.out;obtain⟨Bf,Bg,Bh,Bi,Bj,Bk⟩:=qz3 Aj.out)|((with_reducible refine y15 (f:=41) rfl ?_);refine y17 (some 12) rfl rfl Tryz.func41 (by kernel_rfl) rfl #[.slice At Ag.length Au] rfl qy1 ?_;(with_reducible refine(laws_toIntS.calls k _ _ Ag Ak _ (by exact Kd.C_below Bc.out qb) Bd.out A2.out).mono ?_);rintro e Cv ⟨Cu,rfl,Cl,hb⟩;refine⟨_,rfl, ?_⟩;have Az:=y0.mk (Kd.R_lower Cl (y4 qb));replace Aa:=y0.mk (y7 (g:=Be) (o:=.cells #[.int .i64 Af,.string Ah,.slice At Ag.length Au] 63 (0,0)) (by(with_reducible repeat(first|refine y10 ?_ _|refine y9 ?_|refine y6 ?_ _));refine y11 ?_ Ad.out _;(with_reducible repeat(first|refine y10 ?_ _|refine y9 ?_|refine y6 ?_ _));refine y11 ?_ Ad.out _;(with_reducible repeat(first|refine y10 ?_ _|refine y9 ?_|refine y6 ?_ _));exact Aa.out) hb);replace Ac:=y0.mk (y7 (g:=Ai) (o:=.cells #[.int .i64 0,.string (⟨#[]⟩:ByteArray),.slice none 0 0] 48 (0,0)) (by(with_reducible repeat(first|refine y10 ?_ _|refine y9 ?_|refine y6 ?_ _));refine y11 ?_ Ab.out _;(with_reducible repeat(first|refine y10 ?_ _|refine y9 ?_|refine y6 ?_ _));refine y11 ?_ Ab.out _;(with_reducible repeat(first|refine y10 ?_ _|refine y9 ?_|refine y6 ?_ _));exact Ac.out) hb);replace Aj:=y0.mk (y7 (g:=Ay) (o:=.cells #[.int .i64 Af,.string Ah,.slice none 0 0] 48 (0,0)) (by(with_reducible repeat(first|refine y10 ?_ _|refine y9 ?_|refine y6 ?_ _));refine blk_put (cs:=#[.int .i64 Af,.string (⟨#[]⟩:ByteArray),.slice none 0 0]) ?_ 1 _ rfl;(with_reducible repeat(first|refine y10 ?_ _|refine y9 ?_|refine y6 ?_ _));refine blk_put (cs:=#[.int .i64 0,.string (⟨#[]⟩:ByteArray),.slice none 0 0]) ?_ 0 _ rfl;(with_reducible repeat(first|refine y10 ?_ _|refine y9 ?_|refine y6 ?_ _));exact Aj.out) hb);replace HB:=y0.mk (y5 qb hb);(try clear hb);(try clear Cl);obtain⟨Ba,Bb,Ce⟩:=Kd.R_slice Az.out;subst Ce;obtain⟨Bl,Bm,Bn,Bo,Bp,Bq⟩:=qz3 Aj.out;obtain⟨Br,Bs,Bt,Bu,Bv,Bw⟩:=qz3 Ac.out))
 refine bodyPost_ret (results_cell_row rfl _ _ Ai 48 #[.int .i64 Af,.string Ah,.slice Ba Ak.length Bb] (0,0) _ rfl (by(with_reducible repeat(first|refine y10 ?_ _|refine y9 ?_|refine y6 ?_ _));refine blk_put (cs:=#[.int .i64 Af,.string Ah,.slice none 0 0]) ?_ 2 _ rfl;(with_reducible repeat(first|refine y10 ?_ _|refine y9 ?_|refine y6 ?_ _));refine blk_put (cs:=#[.int .i64 Af,.string (⟨#[]⟩:ByteArray),.slice none 0 0]) ?_ 1 _ rfl;(with_reducible repeat(first|refine y10 ?_ _|refine y9 ?_|refine y6 ?_ _));refine blk_put (cs:=#[.int .i64 0,.string (⟨#[]⟩:ByteArray),.slice none 0 0]) ?_ 0 _ rfl;(with_reducible repeat(first|refine y10 ?_ _|refine y9 ?_|refine y6 ?_ _));refine y11 ?_ Ab.out _;(with_reducible repeat(first|refine y10 ?_ _|refine y9 ?_|refine y6 ?_ _));exact Ac.out) Tryz.underlying48 rfl (by kernel_rfl)) rfl ?_
 exact⟨_,by first|rfl|(simp [y12,y13] <;> rfl)|(simp [*,y12,y13] <;> rfl),by(with_reducible repeat(first|apply Kd.R_alloc|apply Kd.R_drewN|apply Kd.R_drew));exact Kd.R_mono (Kd.R_far (p:=⟨Ai,2,none⟩) (Kd.R_far (p:=⟨Ai,1,none⟩) (Kd.R_far (p:=⟨Ai,0,none⟩) (Kd.R_far (p:=⟨Ay,2,none⟩) (Kd.R_types (Kd.R_types Az.out Aj.out (by decide)) Ac.out (by decide)) (fun _ hk=>hk.1.2) (.slice Ba Ak.length Bb)) (fun _ hk=>hk.2) (.int .i64 Af)) (fun _ hk=>hk.2) (.string Ah)) (fun _ hk=>hk.2) (.slice Ba Ak.length Bb)) (fun _ hk=>trivial),qb⟩
end Go.Proofs.YtkdabljlfbmpdaaGreat.Pb
end
section
namespace Go.Proofs.YtkdabljlfbmpdaaGreat.Pb
open Go.RowKit Go.Proofs.YtkdabljlfbmpdaaGreatW.PrintWords Go.Proofs.YtkdabljlfbmpdaaGreatW.PrintLast Go.Proofs.YtkdabljlfbmpdaaGreatW.PrintMore
attribute [local go_sem] max2_int min2_int max_two min_two max_three min_three max_four min_four   -- for this text's walks alone
set_option linter.unusedVariables false
set_option linter.unusedSimpArgs false
def laws_toExpS.l0:Nat→List (S63)→List (S48)→Int→Option ((List (S48)))
 | 0,_,_,_=>none
 | k + 1,x0,x3,x4=>if x4 < (x0.length:Int)then(if 0≤x4 then((laws_toExp.f k ((rd_T63 x0 x4).f0) ((rd_T63 x0 x4).f1) ((rd_T63 x0 x4).f2)).bind fun bt128=>(if x4 < (x3.length:Int)then(laws_toExpS.l0 k x0 (x3.set (x4:Int).toNat (⟨bt128.1,bt128.2.1,bt128.2.2⟩:S48)) (wrap64 (x4 + 1)))else(none)))else(none))else(some x3)
def laws_toExpS.f (k:Nat) (l0:List (S63)):Option ((List (S48))):=if 0≤(l0.length:Int)then(if((l0.length:Int):Int).toNat≤5864062014805 then(laws_toExpS.l0 k l0 (List.replicate ((l0.length:Int):Int).toNat z48) 0)else(none))else(none)
set_option maxHeartbeats 8000000 in
set_option maxRecDepth 100000 in
theorem laws_toExpS.calls (k:Nat) (A0:Option Addr) (c0:Nat) (l0:List (S63)) (r:List (S48)) (w:World) (Dd:Kd.C k63 w A0 l0.length l0) (De:l0.length≤c0) (h:laws_toExpS.f k l0=some r) :
  Calls Tryz.prog 19 #[.slice A0 l0.length c0] w fun e w'=>∃ v0_:Value,e=.returned (v0_)∧Kd.S k48 48 w' w.heap.size (fun _=>True) v0_ r∧Below w.heap.size w w':=by
 have Di:=Tryz.underlying63
 have Dj:=Tryz.underlying48
 have Dk:=y0.mk Dd
 have Ds:=y0.mk De
 clear Dd De
 have HB:=y0.mk (Below.refl w.heap.size w)
 have H:(if 0≤(l0.length:Int)then(if((l0.length:Int):Int).toNat≤5864062014805 then(laws_toExpS.l0 k l0 (List.replicate ((l0.length:Int):Int).toNat z48) 0)else(none))else(none))=some r:=h
 clear h
 obtain⟨c2,H⟩:=qo H
 have Ch:=eq_true c2
 have Ci:=decide_eq_true c2
 clear c2
 obtain⟨c3,H⟩:=qo H
 have Cj:=eq_true c3
 have Ck:=decide_eq_true c3
 clear c3
 obtain⟨Bt,Aj⟩:∃ y_:List (S48),y_=(List.replicate ((l0.length:Int):Int).toNat z48):=⟨_,rfl⟩
 replace H:(laws_toExpS.l0 k l0 Bt 0)=some r:=by first|(rw [Aj];with_reducible exact H)|(have H2_:=(Option.bind_some _ _).symm.trans H;rw [Aj];with_reducible exact H2_)|(have H2_:=(Option.bind_some _ _).symm.trans H;with_reducible exact H2_)|with_reducible exact H|(rw [Aj];exact H)|exact H
 have Bd:=y0.mk Aj
 clear Aj
 have H':=y0.mk H
 clear H
 go_enter Tryz.func19,Tryz.ntmps19
 go_wp2_with (first|((with_reducible refine y16 (N:=7) rfl ?_);refine Kd.S_make k48 _ 48 rfl (N:=7) rfl 32 _ _ rfl (l0.length:Int) rfl rfl Tryz.underlying32 (.agg #[(.int .i64 0),(.string ⟨#[]⟩),(.slice none 0 0)]) 48 info48 rfl (by decide) (by omega) z48 (ok:=fun _=>True) (okp:=fun _=>True) (k48_mkM _ _ _ z48 (Kd.R_nil _ _ _ _ _)) (fun _ hk=>hk) trivial (of_decide_eq_true qy0) (Nat.le_trans (Nat.mul_le_mul_right _ (of_decide_eq_true qy0:(l0.length:Int).toNat≤5864062014805)) (by omega)) (Below.refl _ _) (Nat.le_refl _) ?_;intro Cl w4 Bu hb hg_ hnew_;clear hg_ hnew_;(first|rw [← Bd.out]at Bu|(simp only [Int.reduceToNat]at Bu;rw [← Bd.out]at Bu));have Bv:=y0.mk (Kd.S_lower Bu (y4 qb));replace HB:=y0.mk (y5 qb hb);clear hb Bu))
 go_loopg [4] k (fun kq v4 w'=>∃(Ab:List (S48)) (Aa:Int),v4=.int .i64 Aa∧y0 (laws_toExpS.l0 kq l0 Ab Aa=some r)∧y0 (kq≤k)∧y0 (Kd.S k48 48 w' w.heap.size (fun _=>True) Cl Ab)∧y0 (Below w.heap.size w w'))
 case atStart=>exact⟨(Bt),(0),qy2,H',⟨Nat.le_refl _⟩,⟨qS Bv.out⟩,⟨qb⟩⟩
 case round =>
  clear H'
  (try clear Ch Ci Cj Ck)
  obtain⟨Ab,Aa,rfl,HA,Df,Ac,HB⟩:=hrel
  cases gk with
  | zero=>exact absurd HA.out (by simp [laws_toExpS.l0])
  | succ k1 =>
   have H:=HA.out
   clear HA
   simp only [laws_toExpS.l0]at H
   by_cases c6:Aa < (l0.length:Int)
   ·rw [if_pos c6]at H
    have Cm:=decide_eq_true c6
    clear c6
    obtain⟨c7,H⟩:=qo H
    have Dl:decide (0≤Aa)=true:=decide_eq_true c7
    clear c7
    obtain⟨⟨Am,Ap,Ay⟩,A8,H⟩:=qB H
    replace H:(if Aa < (Ab.length:Int)then(laws_toExpS.l0 k1 l0 (Ab.set (Aa:Int).toNat (⟨Am,Ap,Ay⟩:S48)) (wrap64 (Aa + 1)))else(none))=some r:=H
    obtain⟨c9,H⟩:=qo H
    have Dm:decide (Aa < (Ab.length:Int))=true:=decide_eq_true c9
    clear c9
    obtain⟨Be,Ak⟩:∃ y_:List (S48),y_=(Ab.set (Aa:Int).toNat (⟨Am,Ap,Ay⟩:S48)):=⟨_,rfl⟩
    replace H:(laws_toExpS.l0 k1 l0 Be (wrap64 (Aa + 1)))=some r:=by first|(rw [Ak];with_reducible exact H)|(have H2_:=(Option.bind_some _ _).symm.trans H;rw [Ak];with_reducible exact H2_)|(have H2_:=(Option.bind_some _ _).symm.trans H;with_reducible exact H2_)|with_reducible exact H|(rw [Ak];exact H)|exact H
    have Bw:=y0.mk Ak
    clear Ak
    have H':=y0.mk H
    clear H
    have Bf:0≤(Aa:Int):=of_decide_eq_true qy0
    have Bg:Aa < (l0.length:Int):=of_decide_eq_true qy0
    obtain⟨Dg,Bh,Bi,Cn,Ag,Ah,Ai,Ar,As⟩:=at_T63 Dk.out Aa Bf Bg
    cases Cn
    replace Ag:=(HB.out.cell (World.block_lt_of_cell? w _ Ag)).trans Ag
    replace Ah:=(HB.out.cell (World.block_lt_of_cell? w _ Ah)).trans Ah
    replace Ai:=(HB.out.cell (World.block_lt_of_cell? w _ Ai)).trans Ai
    have Az:=y0.mk As
    have Ba:=y0.mk Ar
    clear As Ar
    replace Bf:=eq_true Bf
    replace Bg:=eq_true Bg
    go_wp2_with (first|((with_reducible refine y15 (f:=40) rfl ?_);refine y17 (some 20) rfl rfl Tryz.func40 (by kernel_rfl) rfl #[.agg #[.int .i64 ((rd_T63 l0 Aa).f0),.string ((rd_T63 l0 Aa).f1),.slice Bh ((rd_T63 l0 Aa).f2).length Bi]] rfl qy1 ?_;(with_reducible refine(laws_toExp.calls k1 ((rd_T63 l0 Aa).f0) ((rd_T63 l0 Aa).f1) _ _ ((rd_T63 l0 Aa).f2) Am Ap Ay _ (qc (Kd.C_below Az.out HB.out)) Ba.out A8.out).mono ?_);rintro e Bb ⟨Bc,rfl,Co,hb⟩;refine⟨_,rfl, ?_⟩;replace Ac:=y0.mk (Kd.S_elder' (qS Ac.out) (Kd.R_base Co) hb);have Af:=y0.mk (Kd.R_lower Co (y4 qb));replace HB:=y0.mk (y5 qb hb);(try clear hb);(try clear Co);have Cp:0≤(Aa:Int):=of_decide_eq_true qy0;have Cq:(Aa:Int) < ((Ab.length:Int):Int):=of_decide_eq_true qy0;obtain⟨Ad,Bx,Bz,Ca,Cr,Do,Cb⟩:=Kd.S_form Ac.out (by omega);(first|cases Bz|(injection Bz with ea_ en_ ec_;(first|subst ea_|(injection ea_ with ea_;subst ea_));subst ec_;clear en_));have Bj:=y0.mk Ca;have Dp:=y0.mk Cb;clear Ca Cr Cb;obtain⟨_,Dq,Cc,Cd,At,Au,_,_⟩:=Kd.S_elem Ac.out z48 (Aa:Int) Cp Cq;obtain⟨Bk,rfl,Cs⟩:=k48_openM Cd;have Ct:Bb.cell? ⟨Ad,(Aa:Int).toNat * 3,none⟩=some (.int .i64 ((y20 Ab Aa).f0)):=At 0 _ rfl;have Cu:Bb.cell? ⟨Ad,(Aa:Int).toNat * 3 + 1,none⟩=some (.string ((y20 Ab Aa).f1)):=At 1 _ rfl;have Cv:Bb.cell? ⟨Ad,(Aa:Int).toNat * 3 + 2,none⟩=some (Bk):=At 2 _ rfl;have Cw:Bb.frozen? ⟨Ad,(Aa:Int).toNat * 3,none⟩=false:=Au 0;have Cx:Bb.frozen? ⟨Ad,(Aa:Int).toNat * 3 + 1,none⟩=false:=Au 1;have Cy:Bb.frozen? ⟨Ad,(Aa:Int).toNat * 3 + 2,none⟩=false:=Au 2;clear Cc At Au Cd;replace Cp:=eq_true Cp;replace Cq:=eq_true Cq;have n_:=y0.mk (Kd.S_mono (ok':=(fun k_=>some k_≠(Bc:Value).ownBlock)) Ac.out (fun k_ hk=>hk.2));clear Ac;have Ac:=n_;clear n_;have Cz:=y0.mk (show Kd.S k48 48 Bb w.heap.size (fun k_=>((fun _=>True)) k_∧¬((fun k_=>some k_=(Bc:Value).ownBlock)) k_) (.slice (some ⟨Ad,0,none⟩) Ab.length Bx) Ab from(qS (Kd.S_mono Ac.out (fun k_ hk=>⟨trivial,fun e_=>hk e_⟩))));obtain⟨Dh,Dr,Ce,Cf,Av,Aw,Bl,Cg⟩:=Kd.S_elem Cz.out z48 (Aa:Int) (of_decide_eq_true qy0) (by have h_:(Aa:Int) < ((Ab.length:Int):Int):=of_decide_eq_true qy0;first|exact h_|(have e_:=(Kd.S_reads' Ac.out).1;omega)|simpa using h_);obtain⟨Da,rfl,Db⟩:=k48_openM Cf;have Bm:=Kd.S_seg Cg (of_decide_eq_true qy0) (by have h_:(Aa:Int) < ((Ab.length:Int):Int):=of_decide_eq_true qy0;first|exact h_|(have e_:=(Kd.S_reads' Ac.out).1;omega)|simpa using h_) (seg:=[.int .i64 Am,.string Ap,Bc]) (j:=0) (show 3≤3 from by decide) (x':=(⟨Am,Ap,Ay⟩:S48)) (k48_mkM _ _ _ (⟨Am,Ap,Ay⟩:S48) (Kd.R_mono (Kd.R_tight rfl (Kd.R_mono (ok':=fun k_=>((fun _=>True)) k_∧k_≠Ad) (Kd.R_apart' (Af.out) (Kd.S_typed Ac.out) (by decide)) (fun k_ hk=>⟨trivial,fun e_=>(hk.2) (by rw [e_];rfl)⟩))) (fun _ h_=>Or.inr (h_)))) (fun _ hk=>hk) (fun k_ hk_=>((Kd.R_mono (ok':=fun k_=>((fun _=>True)) k_∧k_≠Ad) (Kd.R_apart' (Af.out) (Kd.S_typed Ac.out) (by decide)) (fun k_ hk=>⟨trivial,fun e_=>(hk.2) (by rw [e_];rfl)⟩))).1 k_ hk_.symm);have Bn:=Av 0 _ rfl;(try simp only [show(k48).sz=3 from rfl,Nat.mul_one,Nat.add_zero]at Bn);have Bo:=Aw 0;(try simp only [show(k48).sz=3 from rfl,Nat.mul_one,Nat.add_zero]at Bo);have Bp:=Av 1 _ rfl;(try simp only [show(k48).sz=3 from rfl,Nat.mul_one,Nat.add_zero]at Bp);have Bq:=Aw 1;(try simp only [show(k48).sz=3 from rfl,Nat.mul_one,Nat.add_zero]at Bq);have Br:=Av 2 _ rfl;(try simp only [show(k48).sz=3 from rfl,Nat.mul_one,Nat.add_zero]at Br);have Bs:=Aw 2;(try simp only [show(k48).sz=3 from rfl,Nat.mul_one,Nat.add_zero]at Bs);clear Ce Av Aw Cf Bl Cg)|((with_reducible refine gate_store (t:=48) (p:=21) rfl ?_);refine store_event (t:=48) (p:=21) (v:=?vo_w13) (w1:=(((Bb.setCell ⟨Ad,(Aa:Int).toNat * 3,none⟩ (.int .i64 Am)).setCell ⟨Ad,(Aa:Int).toNat * 3 + 1,none⟩ (.string Ap)).setCell ⟨Ad,(Aa:Int).toNat * 3 + 2,none⟩ (Bc))) ?hg ?ho ?hn ?hr ?_;(case ho=>rfl);(case hg=>rfl);(case hn=>rfl);(case hr=>(first|(obtain⟨_,_,eo_⟩:=Kd.R_slice Af.out;subst eo_)|(obtain⟨_,_,eo_⟩:=Kd.S_slice Af.out;subst eo_)|(obtain⟨_,_,eo_⟩:=Kd.N_slice Af.out;subst eo_)|skip);first|(go_simp;done)|(go_simp;rfl));intro Dc hw;have hg:Bb.grownBy Dc (some Ad):=(by rw [hw];exact Bm.2);have hp_:Kd.S k48 48 Dc w.heap.size (fun _=>True) (.slice (some ⟨Ad,0,none⟩) Ab.length Bx) Be:=(by rw [hw,Bw.out];exact Bm.1);clear Bm;replace Ac:=y0.mk (hp_);replace HB:=y0.mk ((by rw [hw];exact y3 (y3 (y3 (HB.out) Bj.out) Bj.out) Bj.out:Below w.heap.size w Dc));clear Af;clear hg hw hp_))
    go_roundg k1
    case measure=>have:=Df.out;omega
    exact⟨(Be),(wrap64 (Aa + 1)),qy2,H',⟨by have:=Df.out;omega⟩,⟨qS Ac.out⟩,⟨qb⟩⟩
   ·rw [if_neg c6]at H
    have Cm:=decide_eq_false c6
    clear c6
    obtain rfl:=Option.some.inj H
    go_wp2
    go_ret
    exact⟨_,by first|rfl|(simp [y12,y13] <;> rfl)|(simp [*,y12,y13] <;> rfl),by(with_reducible repeat(first|apply Kd.S_alloc|apply Kd.S_drewN|apply Kd.S_drew));exact Ac.out,qb⟩
def laws_toLit.f (k:Nat) (a0_0:Int) (a0_1:ByteArray) (l0_2:List Int):Option (Int×ByteArray×List Int):=(laws_toIntS.f k l0_2).bind fun t137=>(some (a0_0,a0_1,t137))
set_option maxHeartbeats 8000000 in
set_option maxRecDepth 100000 in
theorem laws_toLit.calls (k:Nat) (Af:Int) (Ah:ByteArray) (At:Option Addr) (Au:Nat) (Ag:List Int) (r1:Int) (r2:ByteArray) (r3:List Int) (w:World) (Av:Kd.C (Kd.int .i64) w At Ag.length Ag) (Aw:Ag.length≤Au) (h:laws_toLit.f k Af Ah Ag=some (r1,r2,r3)) :
  Calls Tryz.prog 20 #[.agg #[.int .i64 Af,.string Ah,.slice At Ag.length Au]] w fun e w'=>∃ v2_:Value,e=.returned (.agg #[.int .i64 r1,.string r2,v2_])∧Kd.R (Kd.int .i64) 3 w' w.heap.size (fun _=>True) v2_ r3∧Below w.heap.size w w':=by
 have Cm:=Tryz.underlying25
 have Cn:=Tryz.underlying33
 have Bc:=y0.mk Av
 have Bd:=y0.mk Aw
 clear Av Aw
 have HB:=y0.mk (Below.refl w.heap.size w)
 have H:((laws_toIntS.f k Ag).bind fun Ak=>(some (Af,Ah,Ak)))=some (r1,r2,r3):=h
 clear h
 obtain⟨Ak,A2,H⟩:=qB H
 simp only [Option.some.injEq,Prod.mk.injEq]at H
 obtain⟨rfl,rfl,rfl⟩:=H
 go_enter Tryz.func20,Tryz.ntmps20
 go_wp2_with (first|((with_reducible refine y16 (N:=1) rfl ?_);refine qe 1 #[.int .i64 Af,.string Ah,.slice At Ag.length Au] 25 ?_;intro Be hg w3 hbox hb;have Aa:=y0.mk (hbox);have Cf:=y0.mk (qg (w:=w) hg);have Cg:=y0.mk (qg (w:=w) hg);replace HB:=y0.mk (y5 qb hb);clear hb hbox hg)|((with_reducible refine y16 (N:=2) rfl ?_);refine qe 2 #[.int .i64 0,.string (⟨#[]⟩:ByteArray),.slice none 0 0] 33 ?_;intro Ai hg w4 hbox hb;have Ac:=y0.mk (hbox);have Ch:=y0.mk (qg (w:=w) hg);have Ci:=y0.mk (qg (w:=w) hg);replace HB:=y0.mk (y5 qb hb);have Am:=y0.mk (qn Aa.out hg);have Ap:=y0.mk (qm Aa.out hg);replace Aa:=y0.mk (qK Aa.out hb);clear hb hbox hg)|((with_reducible refine y16 (N:=3) rfl ?_);refine qe 3 #[.int .i64 0,.string (⟨#[]⟩:ByteArray),.slice none 0 0] 33 ?_;intro Ay hg w5 hbox hb;have Aj:=y0.mk (hbox);have Cj:=y0.mk (qg (w:=w) hg);have Ck:=y0.mk (qg (w:=w) hg);replace HB:=y0.mk (y5 qb hb);have Ad:=y0.mk (qn Aa.out hg);have Ar:=y0.mk (qm Aa.out hg);replace Aa:=y0.mk (qK Aa.out hb);have Ab:=y0.mk (qn Ac.out hg);have As:=y0.mk (qm Ac.out hg);replace Ac:=y0.mk (qK Ac.out hb);clear hb hbox hg;have Co:=Am.out;have Cp:=Ap.out;have Cq:=Ad.out;have Cr:=Ar.out;obtain⟨Bx,Bz,Ca,Cb,Cc,Cd⟩:=qz3 Aa.out;have Cs:=As.out;have Ct:=Ab.out;obtain⟨Bf,Bg,Bh,Bi,Bj,Bk⟩:=qz3 Aj.out)|((with_reducible refine y15 (f:=41) rfl ?_);refine y17 (some 12) rfl rfl Tryz.func41 (by kernel_rfl) rfl #[.slice At Ag.length Au] rfl qy1 ?_;(with_reducible refine(laws_toIntS.calls k _ _ Ag Ak _ (by exact Kd.C_below Bc.out qb) Bd.out A2.out).mono ?_);rintro e Cv ⟨Cu,rfl,Cl,hb⟩;refine⟨_,rfl, ?_⟩;have Az:=y0.mk (Kd.R_lower Cl (y4 qb));replace Aa:=y0.mk (y7 (g:=Be) (o:=.cells #[.int .i64 Af,.string Ah,.slice At Ag.length Au] 25 (0,0)) (by(with_reducible repeat(first|refine y10 ?_ _|refine y9 ?_|refine y6 ?_ _));refine y11 ?_ Ad.out _;(with_reducible repeat(first|refine y10 ?_ _|refine y9 ?_|refine y6 ?_ _));refine y11 ?_ Ad.out _;(with_reducible repeat(first|refine y10 ?_ _|refine y9 ?_|refine y6 ?_ _));exact Aa.out) hb);replace Ac:=y0.mk (y7 (g:=Ai) (o:=.cells #[.int .i64 0,.string (⟨#[]⟩:ByteArray),.slice none 0 0] 33 (0,0)) (by(with_reducible repeat(first|refine y10 ?_ _|refine y9 ?_|refine y6 ?_ _));refine y11 ?_ Ab.out _;(with_reducible repeat(first|refine y10 ?_ _|refine y9 ?_|refine y6 ?_ _));refine y11 ?_ Ab.out _;(with_reducible repeat(first|refine y10 ?_ _|refine y9 ?_|refine y6 ?_ _));exact Ac.out) hb);replace Aj:=y0.mk (y7 (g:=Ay) (o:=.cells #[.int .i64 Af,.string Ah,.slice none 0 0] 33 (0,0)) (by(with_reducible repeat(first|refine y10 ?_ _|refine y9 ?_|refine y6 ?_ _));refine blk_put (cs:=#[.int .i64 Af,.string (⟨#[]⟩:ByteArray),.slice none 0 0]) ?_ 1 _ rfl;(with_reducible repeat(first|refine y10 ?_ _|refine y9 ?_|refine y6 ?_ _));refine blk_put (cs:=#[.int .i64 0,.string (⟨#[]⟩:ByteArray),.slice none 0 0]) ?_ 0 _ rfl;(with_reducible repeat(first|refine y10 ?_ _|refine y9 ?_|refine y6 ?_ _));exact Aj.out) hb);replace HB:=y0.mk (y5 qb hb);(try clear hb);(try clear Cl);obtain⟨Ba,Bb,Ce⟩:=Kd.R_slice Az.out;subst Ce;obtain⟨Bl,Bm,Bn,Bo,Bp,Bq⟩:=qz3 Aj.out;obtain⟨Br,Bs,Bt,Bu,Bv,Bw⟩:=qz3 Ac.out))
 refine bodyPost_ret (results_cell_row rfl _ _ Ai 33 #[.int .i64 Af,.string Ah,.slice Ba Ak.length Bb] (0,0) _ rfl (by(with_reducible repeat(first|refine y10 ?_ _|refine y9 ?_|refine y6 ?_ _));refine blk_put (cs:=#[.int .i64 Af,.string Ah,.slice none 0 0]) ?_ 2 _ rfl;(with_reducible repeat(first|refine y10 ?_ _|refine y9 ?_|refine y6 ?_ _));refine blk_put (cs:=#[.int .i64 Af,.string (⟨#[]⟩:ByteArray),.slice none 0 0]) ?_ 1 _ rfl;(with_reducible repeat(first|refine y10 ?_ _|refine y9 ?_|refine y6 ?_ _));refine blk_put (cs:=#[.int .i64 0,.string (⟨#[]⟩:ByteArray),.slice none 0 0]) ?_ 0 _ rfl;(with_reducible repeat(first|refine y10 ?_ _|refine y9 ?_|refine y6 ?_ _));refine y11 ?_ Ab.out _;(with_reducible repeat(first|refine y10 ?_ _|refine y9 ?_|refine y6 ?_ _));exact Ac.out) Tryz.underlying33 rfl (by kernel_rfl)) rfl ?_
 exact⟨_,by first|rfl|(simp [y12,y13] <;> rfl)|(simp [*,y12,y13] <;> rfl),by(with_reducible repeat(first|apply Kd.R_alloc|apply Kd.R_drewN|apply Kd.R_drew));exact Kd.R_mono (Kd.R_far (p:=⟨Ai,2,none⟩) (Kd.R_far (p:=⟨Ai,1,none⟩) (Kd.R_far (p:=⟨Ai,0,none⟩) (Kd.R_far (p:=⟨Ay,2,none⟩) (Kd.R_types (Kd.R_types Az.out Aj.out (by decide)) Ac.out (by decide)) (fun _ hk=>hk.1.2) (.slice Ba Ak.length Bb)) (fun _ hk=>hk.2) (.int .i64 Af)) (fun _ hk=>hk.2) (.string Ah)) (fun _ hk=>hk.2) (.slice Ba Ak.length Bb)) (fun _ hk=>trivial),qb⟩
def laws_toLitS.l0:Nat→List (S25)→List (S33)→Int→Option ((List (S33)))
 | 0,_,_,_=>none
 | k + 1,x0,x3,x4=>if x4 < (x0.length:Int)then(if 0≤x4 then((laws_toLit.f k ((rd_T25 x0 x4).f0) ((rd_T25 x0 x4).f1) ((rd_T25 x0 x4).f2)).bind fun bt144=>(if x4 < (x3.length:Int)then(laws_toLitS.l0 k x0 (x3.set (x4:Int).toNat (⟨bt144.1,bt144.2.1,bt144.2.2⟩:S33)) (wrap64 (x4 + 1)))else(none)))else(none))else(some x3)
def laws_toLitS.f (k:Nat) (l0:List (S25)):Option ((List (S33))):=if 0≤(l0.length:Int)then(if((l0.length:Int):Int).toNat≤5864062014805 then(laws_toLitS.l0 k l0 (List.replicate ((l0.length:Int):Int).toNat z33) 0)else(none))else(none)
set_option maxHeartbeats 8000000 in
set_option maxRecDepth 100000 in
theorem laws_toLitS.calls (k:Nat) (A0:Option Addr) (c0:Nat) (l0:List (S25)) (r:List (S33)) (w:World) (Dd:Kd.C k25 w A0 l0.length l0) (De:l0.length≤c0) (h:laws_toLitS.f k l0=some r) :
  Calls Tryz.prog 21 #[.slice A0 l0.length c0] w fun e w'=>∃ v0_:Value,e=.returned (v0_)∧Kd.S k33 33 w' w.heap.size (fun _=>True) v0_ r∧Below w.heap.size w w':=by
 have Di:=Tryz.underlying25
 have Dj:=Tryz.underlying33
 have Dk:=y0.mk Dd
 have Ds:=y0.mk De
 clear Dd De
 have HB:=y0.mk (Below.refl w.heap.size w)
 have H:(if 0≤(l0.length:Int)then(if((l0.length:Int):Int).toNat≤5864062014805 then(laws_toLitS.l0 k l0 (List.replicate ((l0.length:Int):Int).toNat z33) 0)else(none))else(none))=some r:=h
 clear h
 obtain⟨c2,H⟩:=qo H
 have Ch:=eq_true c2
 have Ci:=decide_eq_true c2
 clear c2
 obtain⟨c3,H⟩:=qo H
 have Cj:=eq_true c3
 have Ck:=decide_eq_true c3
 clear c3
 obtain⟨Bt,Aj⟩:∃ y_:List (S33),y_=(List.replicate ((l0.length:Int):Int).toNat z33):=⟨_,rfl⟩
 replace H:(laws_toLitS.l0 k l0 Bt 0)=some r:=by first|(rw [Aj];with_reducible exact H)|(have H2_:=(Option.bind_some _ _).symm.trans H;rw [Aj];with_reducible exact H2_)|(have H2_:=(Option.bind_some _ _).symm.trans H;with_reducible exact H2_)|with_reducible exact H|(rw [Aj];exact H)|exact H
 have Bd:=y0.mk Aj
 clear Aj
 have H':=y0.mk H
 clear H
 go_enter Tryz.func21,Tryz.ntmps21
 go_wp2_with (first|((with_reducible refine y16 (N:=7) rfl ?_);refine Kd.S_make k33 _ 33 rfl (N:=7) rfl 34 _ _ rfl (l0.length:Int) rfl rfl Tryz.underlying34 (.agg #[(.int .i64 0),(.string ⟨#[]⟩),(.slice none 0 0)]) 48 info33 rfl (by decide) (by omega) z33 (ok:=fun _=>True) (okp:=fun _=>True) (k33_mkM _ _ _ z33 (Kd.R_nil _ _ _ _ _)) (fun _ hk=>hk) trivial (of_decide_eq_true qy0) (Nat.le_trans (Nat.mul_le_mul_right _ (of_decide_eq_true qy0:(l0.length:Int).toNat≤5864062014805)) (by omega)) (Below.refl _ _) (Nat.le_refl _) ?_;intro Cl w4 Bu hb hg_ hnew_;clear hg_ hnew_;(first|rw [← Bd.out]at Bu|(simp only [Int.reduceToNat]at Bu;rw [← Bd.out]at Bu));have Bv:=y0.mk (Kd.S_lower Bu (y4 qb));replace HB:=y0.mk (y5 qb hb);clear hb Bu))
 go_loopg [4] k (fun kq v4 w'=>∃(Ab:List (S33)) (Aa:Int),v4=.int .i64 Aa∧y0 (laws_toLitS.l0 kq l0 Ab Aa=some r)∧y0 (kq≤k)∧y0 (Kd.S k33 33 w' w.heap.size (fun _=>True) Cl Ab)∧y0 (Below w.heap.size w w'))
 case atStart=>exact⟨(Bt),(0),qy2,H',⟨Nat.le_refl _⟩,⟨qS Bv.out⟩,⟨qb⟩⟩
 case round =>
  clear H'
  (try clear Ch Ci Cj Ck)
  obtain⟨Ab,Aa,rfl,HA,Df,Ac,HB⟩:=hrel
  cases gk with
  | zero=>exact absurd HA.out (by simp [laws_toLitS.l0])
  | succ k1 =>
   have H:=HA.out
   clear HA
   simp only [laws_toLitS.l0]at H
   by_cases c6:Aa < (l0.length:Int)
   ·rw [if_pos c6]at H
    have Cm:=decide_eq_true c6
    clear c6
    obtain⟨c7,H⟩:=qo H
    have Dl:decide (0≤Aa)=true:=decide_eq_true c7
    clear c7
    obtain⟨⟨Am,Ap,Ay⟩,A8,H⟩:=qB H
    replace H:(if Aa < (Ab.length:Int)then(laws_toLitS.l0 k1 l0 (Ab.set (Aa:Int).toNat (⟨Am,Ap,Ay⟩:S33)) (wrap64 (Aa + 1)))else(none))=some r:=H
    obtain⟨c9,H⟩:=qo H
    have Dm:decide (Aa < (Ab.length:Int))=true:=decide_eq_true c9
    clear c9
    obtain⟨Be,Ak⟩:∃ y_:List (S33),y_=(Ab.set (Aa:Int).toNat (⟨Am,Ap,Ay⟩:S33)):=⟨_,rfl⟩
    replace H:(laws_toLitS.l0 k1 l0 Be (wrap64 (Aa + 1)))=some r:=by first|(rw [Ak];with_reducible exact H)|(have H2_:=(Option.bind_some _ _).symm.trans H;rw [Ak];with_reducible exact H2_)|(have H2_:=(Option.bind_some _ _).symm.trans H;with_reducible exact H2_)|with_reducible exact H|(rw [Ak];exact H)|exact H
    have Bw:=y0.mk Ak
    clear Ak
    have H':=y0.mk H
    clear H
    have Bf:0≤(Aa:Int):=of_decide_eq_true qy0
    have Bg:Aa < (l0.length:Int):=of_decide_eq_true qy0
    obtain⟨Dg,Bh,Bi,Cn,Ag,Ah,Ai,Ar,As⟩:=at_T25 Dk.out Aa Bf Bg
    cases Cn
    replace Ag:=(HB.out.cell (World.block_lt_of_cell? w _ Ag)).trans Ag
    replace Ah:=(HB.out.cell (World.block_lt_of_cell? w _ Ah)).trans Ah
    replace Ai:=(HB.out.cell (World.block_lt_of_cell? w _ Ai)).trans Ai
    have Az:=y0.mk As
    have Ba:=y0.mk Ar
    clear As Ar
    replace Bf:=eq_true Bf
    replace Bg:=eq_true Bg
    go_wp2_with (first|((with_reducible refine y15 (f:=20) rfl ?_);refine y17 (some 20) rfl rfl Tryz.func20 (by kernel_rfl) rfl #[.agg #[.int .i64 ((rd_T25 l0 Aa).f0),.string ((rd_T25 l0 Aa).f1),.slice Bh ((rd_T25 l0 Aa).f2).length Bi]] rfl qy1 ?_;(with_reducible refine(laws_toLit.calls k1 ((rd_T25 l0 Aa).f0) ((rd_T25 l0 Aa).f1) _ _ ((rd_T25 l0 Aa).f2) Am Ap Ay _ (qc (Kd.C_below Az.out HB.out)) Ba.out A8.out).mono ?_);rintro e Bb ⟨Bc,rfl,Co,hb⟩;refine⟨_,rfl, ?_⟩;replace Ac:=y0.mk (Kd.S_elder' (qS Ac.out) (Kd.R_base Co) hb);have Af:=y0.mk (Kd.R_lower Co (y4 qb));replace HB:=y0.mk (y5 qb hb);(try clear hb);(try clear Co);have Cp:0≤(Aa:Int):=of_decide_eq_true qy0;have Cq:(Aa:Int) < ((Ab.length:Int):Int):=of_decide_eq_true qy0;obtain⟨Ad,Bx,Bz,Ca,Cr,Do,Cb⟩:=Kd.S_form Ac.out (by omega);(first|cases Bz|(injection Bz with ea_ en_ ec_;(first|subst ea_|(injection ea_ with ea_;subst ea_));subst ec_;clear en_));have Bj:=y0.mk Ca;have Dp:=y0.mk Cb;clear Ca Cr Cb;obtain⟨_,Dq,Cc,Cd,At,Au,_,_⟩:=Kd.S_elem Ac.out z33 (Aa:Int) Cp Cq;obtain⟨Bk,rfl,Cs⟩:=k33_openM Cd;have Ct:Bb.cell? ⟨Ad,(Aa:Int).toNat * 3,none⟩=some (.int .i64 ((y19 Ab Aa).f0)):=At 0 _ rfl;have Cu:Bb.cell? ⟨Ad,(Aa:Int).toNat * 3 + 1,none⟩=some (.string ((y19 Ab Aa).f1)):=At 1 _ rfl;have Cv:Bb.cell? ⟨Ad,(Aa:Int).toNat * 3 + 2,none⟩=some (Bk):=At 2 _ rfl;have Cw:Bb.frozen? ⟨Ad,(Aa:Int).toNat * 3,none⟩=false:=Au 0;have Cx:Bb.frozen? ⟨Ad,(Aa:Int).toNat * 3 + 1,none⟩=false:=Au 1;have Cy:Bb.frozen? ⟨Ad,(Aa:Int).toNat * 3 + 2,none⟩=false:=Au 2;clear Cc At Au Cd;replace Cp:=eq_true Cp;replace Cq:=eq_true Cq;have n_:=y0.mk (Kd.S_mono (ok':=(fun k_=>some k_≠(Bc:Value).ownBlock)) Ac.out (fun k_ hk=>hk.2));clear Ac;have Ac:=n_;clear n_;have Cz:=y0.mk (show Kd.S k33 33 Bb w.heap.size (fun k_=>((fun _=>True)) k_∧¬((fun k_=>some k_=(Bc:Value).ownBlock)) k_) (.slice (some ⟨Ad,0,none⟩) Ab.length Bx) Ab from(qS (Kd.S_mono Ac.out (fun k_ hk=>⟨trivial,fun e_=>hk e_⟩))));obtain⟨Dh,Dr,Ce,Cf,Av,Aw,Bl,Cg⟩:=Kd.S_elem Cz.out z33 (Aa:Int) (of_decide_eq_true qy0) (by have h_:(Aa:Int) < ((Ab.length:Int):Int):=of_decide_eq_true qy0;first|exact h_|(have e_:=(Kd.S_reads' Ac.out).1;omega)|simpa using h_);obtain⟨Da,rfl,Db⟩:=k33_openM Cf;have Bm:=Kd.S_seg Cg (of_decide_eq_true qy0) (by have h_:(Aa:Int) < ((Ab.length:Int):Int):=of_decide_eq_true qy0;first|exact h_|(have e_:=(Kd.S_reads' Ac.out).1;omega)|simpa using h_) (seg:=[.int .i64 Am,.string Ap,Bc]) (j:=0) (show 3≤3 from by decide) (x':=(⟨Am,Ap,Ay⟩:S33)) (k33_mkM _ _ _ (⟨Am,Ap,Ay⟩:S33) (Kd.R_mono (Kd.R_tight rfl (Kd.R_mono (ok':=fun k_=>((fun _=>True)) k_∧k_≠Ad) (Kd.R_apart' (Af.out) (Kd.S_typed Ac.out) (by decide)) (fun k_ hk=>⟨trivial,fun e_=>(hk.2) (by rw [e_];rfl)⟩))) (fun _ h_=>Or.inr (h_)))) (fun _ hk=>hk) (fun k_ hk_=>((Kd.R_mono (ok':=fun k_=>((fun _=>True)) k_∧k_≠Ad) (Kd.R_apart' (Af.out) (Kd.S_typed Ac.out) (by decide)) (fun k_ hk=>⟨trivial,fun e_=>(hk.2) (by rw [e_];rfl)⟩))).1 k_ hk_.symm);have Bn:=Av 0 _ rfl;(try simp only [show(k33).sz=3 from rfl,Nat.mul_one,Nat.add_zero]at Bn);have Bo:=Aw 0;(try simp only [show(k33).sz=3 from rfl,Nat.mul_one,Nat.add_zero]at Bo);have Bp:=Av 1 _ rfl;(try simp only [show(k33).sz=3 from rfl,Nat.mul_one,Nat.add_zero]at Bp);have Bq:=Aw 1;(try simp only [show(k33).sz=3 from rfl,Nat.mul_one,Nat.add_zero]at Bq);have Br:=Av 2 _ rfl;(try simp only [show(k33).sz=3 from rfl,Nat.mul_one,Nat.add_zero]at Br);have Bs:=Aw 2;(try simp only [show(k33).sz=3 from rfl,Nat.mul_one,Nat.add_zero]at Bs);clear Ce Av Aw Cf Bl Cg)|((with_reducible refine gate_store (t:=33) (p:=21) rfl ?_);refine store_event (t:=33) (p:=21) (v:=?vo_w13) (w1:=(((Bb.setCell ⟨Ad,(Aa:Int).toNat * 3,none⟩ (.int .i64 Am)).setCell ⟨Ad,(Aa:Int).toNat * 3 + 1,none⟩ (.string Ap)).setCell ⟨Ad,(Aa:Int).toNat * 3 + 2,none⟩ (Bc))) ?hg ?ho ?hn ?hr ?_;(case ho=>rfl);(case hg=>rfl);(case hn=>rfl);(case hr=>(first|(obtain⟨_,_,eo_⟩:=Kd.R_slice Af.out;subst eo_)|(obtain⟨_,_,eo_⟩:=Kd.S_slice Af.out;subst eo_)|(obtain⟨_,_,eo_⟩:=Kd.N_slice Af.out;subst eo_)|skip);first|(go_simp;done)|(go_simp;rfl));intro Dc hw;have hg:Bb.grownBy Dc (some Ad):=(by rw [hw];exact Bm.2);have hp_:Kd.S k33 33 Dc w.heap.size (fun _=>True) (.slice (some ⟨Ad,0,none⟩) Ab.length Bx) Be:=(by rw [hw,Bw.out];exact Bm.1);clear Bm;replace Ac:=y0.mk (hp_);replace HB:=y0.mk ((by rw [hw];exact y3 (y3 (y3 (HB.out) Bj.out) Bj.out) Bj.out:Below w.heap.size w Dc));clear Af;clear hg hw hp_))
    go_roundg k1
    case measure=>have:=Df.out;omega
    exact⟨(Be),(wrap64 (Aa + 1)),qy2,H',⟨by have:=Df.out;omega⟩,⟨qS Ac.out⟩,⟨qb⟩⟩
   ·rw [if_neg c6]at H
    have Cm:=decide_eq_false c6
    clear c6
    obtain rfl:=Option.some.inj H
    go_wp2
    go_ret
    exact⟨_,by first|rfl|(simp [y12,y13] <;> rfl)|(simp [*,y12,y13] <;> rfl),by(with_reducible repeat(first|apply Kd.S_alloc|apply Kd.S_drewN|apply Kd.S_drew));exact Ac.out,qb⟩
def laws_toRule.f (k:Nat) (l0_0:List (S63)) (a0_1:Int) (a0_2:ByteArray) (l0_3:List Int) (l0_4:List (S25)):Option ((List (S48))×Int×ByteArray×List Int×(List (S33))):=(laws_toExpS.f k l0_0).bind fun t153=>((laws_toLit.f k a0_1 a0_2 l0_3).bind fun bt156=>((laws_toLitS.f k l0_4).bind fun t161=>(some (t153,bt156.1,bt156.2.1,bt156.2.2,t161))))
def spec_l01Between.f (a0:Int) (a1:Int) (a2:Int):Option (Bool):=if a0≥a1 then(some (decide (a0≤a2)))else(some false)
set_option maxHeartbeats 8000000 in
set_option maxRecDepth 100000 in
theorem spec_l01Between.calls (a0:Int) (a1:Int) (a2:Int) (r:Bool) (w:World) (h:spec_l01Between.f a0 a1 a2=some r) :
  Calls Tryz.prog 52 #[.int .i64 a0,.int .i64 a1,.int .i64 a2] w fun e w'=>e=.returned (.bool r)∧Drawn0 w w':=by
 have H:(if a0≥a1 then(some (decide (a0≤a2)))else(some false))=some r:=h
 clear h
 by_cases c4:a0≥a1
 ·rw [if_pos c4]at H
  have c4b0:decide (a1≤a0)=true:=decide_eq_true c4
  clear c4
  obtain rfl:=Option.some.inj H
  go_enter Tryz.func52,Tryz.ntmps52
  go_wp2
  go_ret
  exact qf2
 ·rw [if_neg c4]at H
  have c4b0:decide (a1≤a0)=false:=decide_eq_false c4
  clear c4
  obtain rfl:=Option.some.inj H
  go_enter Tryz.func52,Tryz.ntmps52
  go_wp2
  go_ret
  exact qf2
def spec_l04Side.f (l0_0:List (S48)) (a0_1:Int) (a0_2:ByteArray) (l0_3:List Int) (l0_4:List (S33)) (l1:List ByteArray) (a2:Int):Option (ByteArray):=if 0≤a2 then(if a2 < (l0_0.length:Int)then((spec_l01Between.f ((y20 l0_0 a2).f0) 5 7).bind fun t166=>(if t166=true then(if a2 < (l1.length:Int)then(if 1 + (rdOf ByteArray.empty l1 a2).size≤9223372036854775807 then(if((⟨#[40]⟩:ByteArray) ++ (rdOf ByteArray.empty l1 a2)).size + 1≤9223372036854775807 then(some (((⟨#[40]⟩:ByteArray) ++ (rdOf ByteArray.empty l1 a2)) ++ (⟨#[41]⟩:ByteArray)))else(none))else(none))else(none))else(if a2 < (l1.length:Int)then(some (rdOf ByteArray.empty l1 a2))else(none))))else(none))else(none)
set_option maxHeartbeats 8000000 in
set_option maxRecDepth 100000 in
theorem spec_l04Side.calls (As:Option Addr) (At:Nat) (Ad:List (S48)) (Au:Int) (Av:ByteArray) (Aw:Option Addr) (Ay:Nat) (Aj:List Int) (Az:Option Addr) (Ba:Nat) (Ak:List (S33)) (A1:Option Addr) (c1:Nat) (l1:List ByteArray) (a2:Int) (r:ByteArray) (w:World) (Bd:Kd.C k48 w As Ad.length Ad) (Be:Ad.length≤At) (Bf:Kd.C (Kd.int .i64) w Aw Aj.length Aj) (Bg:Aj.length≤Ay) (Bh:Kd.C k33 w Az Ak.length Ak) (Bi:Ak.length≤Ba) (Cv:Kd.C Kd.string w A1 l1.length l1) (Cw:l1.length≤c1) (h:spec_l04Side.f Ad Au Av Aj Ak l1 a2=some r) :
  Calls Tryz.prog 53 #[.agg #[.slice As Ad.length At,.int .i64 Au,.string Av,.slice Aw Aj.length Ay,.slice Az Ak.length Ba],.slice A1 l1.length c1,.int .i64 a2] w fun e w'=>e=.returned (.string r)∧Below w.heap.size w w':=by
 have Dk:=Tryz.underlying36
 have Bj:=y0.mk Bd
 have Cx:=y0.mk Be
 clear Bd Be
 have Cy:=y0.mk Bf
 have Cz:=y0.mk Bg
 clear Bf Bg
 have Da:=y0.mk Bh
 have Db:=y0.mk Bi
 clear Bh Bi
 have Dc:=y0.mk Cv
 have Ds:=y0.mk Cw
 clear Cv Cw
 have HB:=y0.mk (Below.refl w.heap.size w)
 have H:(if 0≤a2 then(if a2 < (Ad.length:Int)then((spec_l01Between.f ((y20 Ad a2).f0) 5 7).bind fun Bk=>(if Bk=true then(if a2 < (l1.length:Int)then(if 1 + (rdOf ByteArray.empty l1 a2).size≤9223372036854775807 then(if((⟨#[40]⟩:ByteArray) ++ (rdOf ByteArray.empty l1 a2)).size + 1≤9223372036854775807 then(some (((⟨#[40]⟩:ByteArray) ++ (rdOf ByteArray.empty l1 a2)) ++ (⟨#[41]⟩:ByteArray)))else(none))else(none))else(none))else(if a2 < (l1.length:Int)then(some (rdOf ByteArray.empty l1 a2))else(none))))else(none))else(none))=some r:=h
 clear h
 obtain⟨c4,H⟩:=qo H
 have Dl:decide (0≤a2)=true:=decide_eq_true c4
 clear c4
 obtain⟨c5,H⟩:=qo H
 have Dm:decide (a2 < (Ad.length:Int))=true:=decide_eq_true c5
 clear c5
 obtain⟨Bk,A6,H⟩:=qB H
 by_cases c7:Bk=true
 ·subst c7
  replace H:=qT H
  obtain⟨c8,H⟩:=qo H
  have Do:decide (a2 < (l1.length:Int))=true:=decide_eq_true c8
  clear c8
  obtain⟨c9,H⟩:=qo H
  have Dp:=eq_true c9
  have Dq:=decide_eq_true c9
  have Dr:=eq_false (Nat.not_lt.2 c9)
  obtain⟨Cs,H⟩:=qo H
  have Dd:=eq_true Cs
  have De:=decide_eq_true Cs
  have Bs:=eq_false (Nat.not_lt.2 Cs)
  have Df:(9223372036854775807 < 1 + (rdOf ByteArray.empty l1 a2).size + 1)=False:=qs Bs
  obtain rfl:=Option.some.inj H
  go_enter Tryz.func53,Tryz.ntmps53
  go_wp2_with (first|((with_reducible refine y16 (N:=3) rfl ?_);refine qe 3 #[.slice As Ad.length At,.int .i64 Au,.string Av,.slice Aw Aj.length Ay,.slice Az Ak.length Ba] 36 ?_;intro Bt hg Dt hbox hb;have Ar:=y0.mk (hbox);have Bu:=y0.mk (qg (w:=w) hg);have Bv:=y0.mk (qg (w:=w) hg);replace HB:=y0.mk (y5 qb hb);clear hb hbox hg;obtain⟨Bx,Bz,Ca,Cb,Cc,Cd,Ce,Cf,Cg,Ch⟩:=qz5 Ar.out;have Am:0≤(a2:Int):=of_decide_eq_true qy0;have Ap:a2 < (Ad.length:Int):=of_decide_eq_true qy0;obtain⟨Bw,Bl,Bm,Bn,Aa,Ab,Ac,Af,Ag⟩:=at_T48 Bj.out a2 Am Ap;cases Bn;replace Aa:=(HB.out.cell (World.block_lt_of_cell? w _ Aa)).trans Aa;replace Ab:=(HB.out.cell (World.block_lt_of_cell? w _ Ab)).trans Ab;replace Ac:=(HB.out.cell (World.block_lt_of_cell? w _ Ac)).trans Ac;have Bb:=y0.mk Ag;have Bc:=y0.mk Af;clear Ag Af;replace Am:=eq_true Am;replace Ap:=eq_true Ap)|((with_reducible refine y15 (f:=52) rfl ?_);refine y17 (some 13) rfl rfl Tryz.func52 (by kernel_rfl) rfl #[.int .i64 ((y20 Ad a2).f0),.int .i64 5,.int .i64 7] rfl qy1 ?_;(with_reducible refine(spec_l01Between.calls ((y20 Ad a2).f0) 5 7 true _ A6.out).mono ?_);rintro e w' ⟨rfl,⟨nd,rfl⟩⟩;refine⟨_,rfl, ?_⟩;have Bo:0≤(a2:Int):=of_decide_eq_true qy0;have Bp:a2 < (l1.length:Int):=of_decide_eq_true qy0;obtain⟨Dg,Ct,Ah⟩:=Kd.at_string Dc.out a2 Bo Bp;cases Ct;replace Ah:=(HB.out.cell (World.block_lt_of_cell? w _ Ah)).trans Ah;replace Bo:=eq_true Bo;replace Bp:=eq_true Bp))
  go_ret
  exact⟨qf,qb⟩
 ·replace c7:=Bool.eq_false_iff.mpr c7
  subst c7
  replace H:=qF H
  obtain⟨Dh,H⟩:=qo H
  have Di:decide (a2 < (l1.length:Int))=true:=decide_eq_true Dh
  clear Dh
  obtain rfl:=Option.some.inj H
  go_enter Tryz.func53,Tryz.ntmps53
  go_wp2_with (first|((with_reducible refine y16 (N:=3) rfl ?_);refine qe 3 #[.slice As Ad.length At,.int .i64 Au,.string Av,.slice Aw Aj.length Ay,.slice Az Ak.length Ba] 36 ?_;intro Bt hg Du hbox hb;have Ar:=y0.mk (hbox);have Bu:=y0.mk (qg (w:=w) hg);have Bv:=y0.mk (qg (w:=w) hg);replace HB:=y0.mk (y5 qb hb);clear hb hbox hg;obtain⟨Ci,Cj,Ck,Cl,Cm,Cn,Co,Cp,Cq,Cr⟩:=qz5 Ar.out;have Am:0≤(a2:Int):=of_decide_eq_true qy0;have Ap:a2 < (Ad.length:Int):=of_decide_eq_true qy0;obtain⟨Bw,Bl,Bm,Bn,Aa,Ab,Ac,Af,Ag⟩:=at_T48 Bj.out a2 Am Ap;cases Bn;replace Aa:=(HB.out.cell (World.block_lt_of_cell? w _ Aa)).trans Aa;replace Ab:=(HB.out.cell (World.block_lt_of_cell? w _ Ab)).trans Ab;replace Ac:=(HB.out.cell (World.block_lt_of_cell? w _ Ac)).trans Ac;have Bb:=y0.mk Ag;have Bc:=y0.mk Af;clear Ag Af;replace Am:=eq_true Am;replace Ap:=eq_true Ap)|((with_reducible refine y15 (f:=52) rfl ?_);refine y17 (some 13) rfl rfl Tryz.func52 (by kernel_rfl) rfl #[.int .i64 ((y20 Ad a2).f0),.int .i64 5,.int .i64 7] rfl qy1 ?_;(with_reducible refine(spec_l01Between.calls ((y20 Ad a2).f0) 5 7 false _ A6.out).mono ?_);rintro e w' ⟨rfl,⟨nd,rfl⟩⟩;refine⟨_,rfl, ?_⟩;have Bq:0≤(a2:Int):=of_decide_eq_true qy0;have Br:a2 < (l1.length:Int):=of_decide_eq_true qy0;obtain⟨Dj,Cu,Ai⟩:=Kd.at_string Dc.out a2 Bq Br;cases Cu;replace Ai:=(HB.out.cell (World.block_lt_of_cell? w _ Ai)).trans Ai;replace Bq:=eq_true Bq;replace Br:=eq_true Br))
  go_ret
  exact⟨qf,qb⟩
end Go.Proofs.YtkdabljlfbmpdaaGreat.Pb
end
