-- Cut by prune.py, a program of this session, out of the texts of this claim: Lean checks it.
import Derived.Test.YtkajecadkkgfmaaGreatDoorProg
import Derived.Below
import Derived.Deep.Draws
import Derived.Deep.AppendLies
import Derived.Maps.AppendAt
import Derived.OwnWalk
import Derived.Laws.BytesArg
import Derived.Laws.MakeOwn
import Derived.Laws.OwnMore
import Derived.Deep.OwnRows
import Derived.Tactics
import Derived.Lib.ConvBytes
import Derived.Laws.Slices
import Derived.WalkKit
import Derived.KernelRfl
import Derived.RowKit3
import Derived.Deep.LoopGhost
import Derived.Deep.QuietTactic
import Derived.BigQuiet
import Derived.WideLaws
import Derived.Deep.DeepCutAuto
import Derived.Deep.CutBlock
import Derived.Deep.RegionHeld3
import Derived.Laws.Rows
import Derived.Lib.AppendStr
import Derived.ArgAppend
import Derived.Laws.IdiomCopy
import Derived.OrdersHeld
import Derived.Laws.BitsLemmas
import Derived.RowKit
import Derived.Test.YtkajecadkkgfmaaGreatDoorVkqWWords
import Derived.Test.YtkajecadkkgfmaaGreatDoorVkqWLast
import Derived.Test.YtkajecadkkgfmaaGreatDoorVkqWTab
import Derived.Test.YtkajecadkkgfmaaGreatDoorVkqWApart
import Derived.Test.YtkajecadkkgfmaaGreatDoorVkqWFoot
import Derived.Test.YtkajecadkkgfmaaGreatDoorVkqWKept
import Derived.Test.YtkajecadkkgfmaaGreatDoorVkqWShare
import Derived.Test.YtkajecadkkgfmaaGreatDoorVkqWN
import Derived.Laws.StructEq
import Derived.Test.YtkajecadkkgfmaaGreatDoorVkqWRepsOne
import Derived.Test.YtkajecadkkgfmaaGreatDoorVkqWInv
import Derived.Test.YtkajecadkkgfmaaGreatDoorVkqWGuard
import Derived.Test.YtkajecadkkgfmaaGreatDoorVkqWNEv
import Derived.Test.YtkajecadkkgfmaaGreatDoorVkqWMore
import Derived.Test.YtkajecadkkgfmaaGreatDoorVkqQIv
import Derived.Test.YtkajecadkkgfmaaGreatDoorVkqQIns
import Derived.Test.YtkajecadkkgfmaaGreatDoorVkqShelf
import Derived.Lib.LaidTab
import Derived.WalkSmall
import Derived.Test.YtkajecadkkgfmaaGreatDoorVkqQRead
section
namespace Go.Proofs.YtkajecadkkgfmaaGreatDoor.Pn
open Go.RowKit Go.Proofs.YtkajecadkkgfmaaGreatDoorW.PrintWords Go.Proofs.YtkajecadkkgfmaaGreatDoorW.PrintLast Go.Proofs.YtkajecadkkgfmaaGreatDoorW.PrintMore
attribute [local go_sem] max2_int min2_int max_two min_two max_three min_three max_four min_four   -- for this text's walks alone
set_option linter.unusedVariables false
set_option linter.unusedSimpArgs false
theorem qy0 {P:Prop} (h:P:=by(try simp only [qM_,List.map_cons,List.map_nil]);first|done|rfl|(simp only [qD_,qT_];rfl)):P:=h
theorem qy1 {P:Prop} (h:P:=by first|(with_reducible assumption)|assumption):P:=h
theorem qy2 {P:Prop} (h:P:=by first|rfl|(simp;done)|(simp [*];done)):P:=h
theorem qy3 {P:Prop} (h:P:=by have:(0:Int) < (a0.size:Int):=of_decide_eq_true (by first|(with_reducible assumption)|assumption);omega):P:=h
theorem qy4 {P:Prop} (h:P:=by(try simp only [qM_,List.map_cons,List.map_nil]);first|done|rfl):P:=h
theorem qb {w W:World} (h:Below w.heap.size w W:=by repeat(first|(with_reducible first|exact HB.out|apply y4|apply y23|apply y5|refine y6 ?_ (y0.out (by with_reducible assumption)))|exact HB.out)):Below w.heap.size w W:=h
theorem qh {w W:World} {g:Nat} (h:y3 w W g none:=by repeat(first|(with_reducible first|exact HK.out|apply y3.set_|apply keep_drewN|apply keep_drew|apply keep_alloc|refine keep_far ?_ (y0.out (by with_reducible assumption)) _)|exact HK.out)):y3 w W g none:=h
theorem qg {w W:World} {g:Nat} (e:g=W.heap.size) (h:Below w.heap.size w W:=by repeat(first|(with_reducible first|exact HB.out|apply y4|apply y23|apply y5|refine y6 ?_ (y0.out (by with_reducible assumption)))|exact HB.out)):w.heap.size≤g:=by rw [e];exact y7 h
theorem qk {w W:World} {g:Nat} {o:Obj} (h:w.heap[g]?=some o) (h1:Below w.heap.size w W:=by repeat(first|with_reducible exact Below.refl _ _|with_reducible apply y4|with_reducible apply y23|with_reducible apply y5)):W.heap[g]?=some o:=y10 h h1
theorem qK {w W w2:World} {g:Nat} {o:Obj} (h:w.heap[g]?=some o) (hb:Below W.heap.size W w2) (h1:Below w.heap.size w W:=by repeat(first|with_reducible exact Below.refl _ _|with_reducible apply y4|with_reducible apply y23|with_reducible apply y5)):w2.heap[g]?=some o:=y10 (y10 h h1) hb
theorem qn {w W:World} {g g2:Nat} {o:Obj} (h:w.heap[g]?=some o) (e:g2=W.heap.size) (h1:Below w.heap.size w W:=by repeat(first|with_reducible exact Below.refl _ _|with_reducible apply y4|with_reducible apply y23|with_reducible apply y5)):g≠g2:=by rw [e];exact Nat.ne_of_lt (blk_lt (y10 h h1))
theorem qm {w W:World} {g g2:Nat} {o:Obj} (h:w.heap[g]?=some o) (e:g2=W.heap.size) (h1:Below w.heap.size w W:=by repeat(first|with_reducible exact Below.refl _ _|with_reducible apply y4|with_reducible apply y23|with_reducible apply y5)):g2≠g:=Ne.symm (qn h e h1)
theorem qc {α:Type} {d:Kd α} {w W:World} {A:Option Addr} {n:Nat} {xs:List α} (h:d.C w A n xs) (h1:Below w.heap.size w W:=by repeat(first|with_reducible exact Below.refl _ _|with_reducible apply y4|with_reducible apply y23|with_reducible apply y5)):d.C W A n xs:=Kd.C_below h h1
theorem qo {P:Prop} [Decidable P] {α:Type} {X Y:Option α} {r:α} (h:(if P then X else Y)=some r) (hn:¬(Y=some r):=by simp):P∧X=some r:=by
 by_cases c:P
 ·rw [if_pos c]at h
  exact⟨c,h⟩
 ·rw [if_neg c]at h
  exact absurd h hn
theorem qi {P:Prop} [Decidable P] {α:Type} {X Y:Option α} {r:α} (h:(if P then X else Y)=some r) (hn:¬(X=some r):=by simp):¬ P∧Y=some r:=by
 by_cases c:P
 ·rw [if_pos c]at h
  exact absurd h hn
 ·rw [if_neg c]at h
  exact⟨c,h⟩
theorem qB {α β:Type} {x:Option α} {f:α→Option β} {r:β} (h:x.bind f=some r):∃ t,y0 (x=some t)∧f t=some r:=by
 obtain⟨t,a,b⟩:=Option.bind_eq_some_iff.mp h
 exact⟨t,⟨a⟩,b⟩
theorem qT {α:Type} {X Y:Option α} {r:α} {d:Decidable (true=true)} (h:(@ite _ (true=true) d X Y)=some r):X=some r:=by rwa [if_pos rfl]at h
theorem qF {α:Type} {X Y:Option α} {r:α} {d:Decidable (false=true)} (h:(@ite _ (false=true) d X Y)=some r):Y=some r:=by rwa [if_neg Bool.false_ne_true]at h
theorem qs {M X Y:Nat} (h:(M < X)=False) (e:Y=X:=by simp only [ByteArray.size_append];first|done|rfl|(simp only [← Nat.add_assoc];rfl)):(M < Y)=False:=by rw [e];exact h
theorem qR {α:Type} {d:Kd α} {e base:Nat} {w W:World} {ok:Nat→Prop} {v:Value} {xs:List α} (h:d.R e w base ok v xs) (h1:Below w.heap.size w W:=by repeat(first|with_reducible exact Below.refl _ _|with_reducible apply y4|with_reducible apply y23|with_reducible apply y5)):d.R e W base ok v xs:=Kd.R_below h h1
theorem qS {α:Type} {d:Kd α} {e base:Nat} {w W:World} {ok:Nat→Prop} {v:Value} {xs:List α} (h:Kd.S d e w base ok v xs) (h1:Below w.heap.size w W:=by repeat(first|with_reducible exact Below.refl _ _|with_reducible apply y4|with_reducible apply y23|with_reducible apply y5)):Kd.S d e W base ok v xs:=Kd.S_below h h1
theorem qN {α:Type} {d:Kd α} {e base:Nat} {w W:World} {ok:Nat→Prop} {v:Value} {xs:List α} (h:Kd.N d e w base ok v xs) (h1:Below w.heap.size w W:=by repeat(first|with_reducible exact Below.refl _ _|with_reducible apply y4|with_reducible apply y23|with_reducible apply y5)):Kd.N d e W base ok v xs:=Kd.N_below h h1
theorem qV {α:Type} {d:Kd α} {e base:Nat} {w W:World} {ok:Nat→Prop} {v:Value} {xs:List α} (h:Kd.V d e w base ok v xs) (h1:Below w.heap.size w W:=by repeat(first|with_reducible exact Below.refl _ _|with_reducible apply y4|with_reducible apply y23|with_reducible apply y5)):Kd.V d e W base ok v xs:=Kd.V_below h h1
theorem qz1 {w:World} {g t:Nat} {a0:Value} (h:w.heap[g]?=some (.cells #[a0] t (0,0))):w.cell? ⟨g,0,none⟩=some a0∧w.frozen? ⟨g,0,none⟩=false:=⟨(y11 h 0).trans rfl,y15 h 0⟩
theorem qz2 {w:World} {g t:Nat} {a0 a1:Value} (h:w.heap[g]?=some (.cells #[a0,a1] t (0,0))):w.cell? ⟨g,0,none⟩=some a0∧w.cell? ⟨g,1,none⟩=some a1∧w.frozen? ⟨g,0,none⟩=false∧w.frozen? ⟨g,1,none⟩=false:=⟨(y11 h 0).trans rfl,(y11 h 1).trans rfl,y15 h 0,y15 h 1⟩
section
variable {P : Program} {ops : Array Oper} {rest : List Oper} {o : Oper} {a : Act} {Q : Exit → Act → World → Prop}
theorem qe {W:World} (N:Tmp) (cs:Array Value) (t:TypeId) (h:∀ g,g=W.heap.size→∀ w1,w1.heap[g]?=some (.cells cs t (0,0))→Below W.heap.size W w1→wpList P ops Q rest (a.put o.dst (.pointer (some ⟨g,0,none⟩))) w1) (hg:o.guard=none:=by rfl) (hd:o.dst=some N:=by rfl)
  (hr:(execOp a.eval o).run P W=.ok (.value (.pointer (some ⟨W.heap.size,0,none⟩))) (W.alloc (.cells cs t (0,0))):=by first|(go_simp;done)|(go_simp;rfl)):wpList P ops Q (o :: rest) a W:=box_event hg hd hr h
theorem qL {α:Type} {W:World} (d:Kd α) (e:Nat) (N:Tmp) (xs:List α) {inner:List Value} (h:∀ v1 w1,d.R e w1 W.heap.size (fun _=>True) v1 xs→Below W.heap.size W w1→W.grownBy w1 none→(∃ b,v1.ownBlock=some b∧W.heap.size≤b)→wpList P ops Q rest (a.put o.dst v1) w1) (hg:o.guard=none:=by rfl) (hd:o.dst=some N:=by rfl) (hp:Reps (d.M W W.heap.size (fun _=>True)) d.sz xs inner:=by repeat(first|exact Reps.none _ _|(refine Reps.one (v:=?_) (cs:=?_) ?_ ?_;rotate_left;rotate_left;rfl)))
  (hr:(execOp a.eval o).run P W=.ok (.value (.slice (some ⟨W.heap.size,0,none⟩) xs.length xs.length)) (W.alloc (.cells inner.toArray e)):=by first|(go_simp;done)|(go_simp;rfl)) (hm:xs.length≤9223372036854775807:=by simp):wpList P ops Q (o :: rest) a W:=Kd.R_lit d (w0:=W) W.heap.size e hg hd hr hp (fun _ h=>h) trivial (Below.refl _ _) (Nat.le_refl _) hm h
theorem qLs {α:Type} {W:World} {Kc:Act→World→Prop} (d:Kd α) (e:Nat) (N:Tmp) (xs:List α) {inner:List Value} (h:∀ v1 w1,d.R e w1 W.heap.size (fun _=>True) v1 xs→Below W.heap.size W w1→W.grownBy w1 none→(∃ b,v1.ownBlock=some b∧W.heap.size≤b)→Kc (a.put o.dst v1) w1) (hg:Region.wanted o (yielded ops a.tmps)=true:=by rfl) (hd:o.dst=some N:=by rfl) (hp:Reps (d.M W W.heap.size (fun _=>True)) d.sz xs inner:=by repeat(first|exact Reps.none _ _|(refine Reps.one (v:=?_) (cs:=?_) ?_ ?_;rotate_left;rotate_left;rfl)))
  (hr:(execOp a.eval o).run P W=.ok (.value (.slice (some ⟨W.heap.size,0,none⟩) xs.length xs.length)) (W.alloc (.cells inner.toArray e)):=by first|(go_simp;done)|(go_simp;rfl)) (hm:xs.length≤9223372036854775807:=by simp):if Region.wanted o (yielded ops a.tmps)=true then Oper.wp P o a W Kc Q else Kc (a.put o.dst undef) W:=Kd.R_lit_step d (w0:=W) W.heap.size e hg hd hr hp (fun _ h=>h) trivial (Below.refl _ _) (Nat.le_refl _) hm h
end
theorem qf {P:Prop} (h:P:=by first|rfl|(simp [y17,y18] <;> rfl)|(simp [*,y17,y18] <;> rfl)):P:=h
theorem qf2 {P:Prop} {w w2:World} (h:P:=by first|rfl|(simp;done)|(simp [*];done)) (h2:y1 w w2:=by repeat(first|exact y1.refl _|apply y1.step)):P∧y1 w w2:=⟨h,h2⟩
section
variable {P : Program} {ops : Array Oper} {Q : Exit → Act → World → Prop} {md : Region.Mode} {S : World → Prop} {ds : List Nat}
theorem qp {oi:Oper} {v:Value} {fuel:Nat} {l:Array Bool} {a a':Act} {w:World} (i:Nat) (N:Tmp) (l':Array Bool) (h:y26 P md ops Q S ds fuel l' a' w) (hi:ops[i]?=some oi:=by exact rfl) (hN:oi.dst=some N:=by exact rfl) (hc:anyB md ops l l' i=true:=by first|exact any_of HT_.out (by kernel_rfl)|kernel_rfl)
  (hQ:∀ c a w,Q (.panic c) (a.put oi.dst v) w→Q (.panic c) a w:=by exact fun _ _ _ h=>h) (hy:Yields P ops oi v a:=by first|(refine Or.inl ⟨by rfl, ?_⟩;intro w';go_simp;with_reducible rfl)|exact Or.inr ⟨by rfl,rfl⟩) (ha:a.put (some N) v=a':=by simp only [Act.put,qS_,qZ_,qC_,i64_w,i32_w];rfl):y26 P md ops Q S ds (fuel + 1) l a w:=pure_ l' hi hN hc hQ hy ha h
theorem qt {oi:Oper} {v:Value} {fuel:Nat} {l:Array Bool} {a a':Act} {w:World} (i:Nat) (N:Tmp) (l':Array Bool) (hS:S w) (h:y26 P md ops Q S ds fuel l' a' w) (hi:ops[i]?=some oi:=by exact rfl) (hN:oi.dst=some N:=by exact rfl) (hc:takeB md ops ds l l' i=true:=by first|exact take_ofW HT_.out HW_.out (by kernel_rfl)|kernel_rfl)
  (hQ:∀ c a w,Q (.panic c) (a.put oi.dst v) w→Q (.panic c) a w:=by exact fun _ _ _ h=>h) (hy:YieldsIf P ops S oi v a:=by refine Or.inl ⟨by rfl, ?_⟩;intro w' hs_;(repeat(obtain⟨s_,hs_⟩:_∧_:=hs_));go_simp;with_reducible rfl) (ha:a.put (some N) v=a':=by simp only [Act.put,qS_,qZ_,qC_,i64_w,i32_w];rfl):y26 P md ops Q S ds (fuel + 1) l a w:=take_ l' hi hN hc hQ hy hS ha h
theorem qO {oi:Oper} {fuel:Nat} {l:Array Bool} {a:Act} {w:World} (i:Nat) (N:Tmp) (l':Array Bool) (h:∀ K:Act→World→Prop,Shut (∀ a' w',S w'→(S w'→y26 P md ops Q S ds fuel l' a' w')→K a' w')→if Region.wanted oi (yielded ops a.tmps)=true then Oper.wp P oi a w K Q else K (a.put (some N) undef) w) (hi:ops[i]?=some oi:=by exact rfl) (hN:oi.dst=some N:=by exact rfl) (hc:readyB md ops l l' i=true:=by first|exact one_of HT_.out (by kernel_rfl)|kernel_rfl) (hd:i∉ds:=by decide):y26 P md ops Q S ds (fuel + 1) l a w:=one_ l' hi hN hc hd h
theorem qx {fuel:Nat} {v:Value} {l:Array Bool} {a a':Act} {w:World} (N:Tmp) (h:y26 P md ops Q S ds fuel l a' w) (ha:a.put (some N) v=a':=by simp only [Act.put,qS_,qZ_,qC_,i64_w,i32_w];rfl):y26 P md ops Q S ds fuel l (a.put (some N) v) w:=norm_ ha h
def qY (P:Program) (ops:Array Oper) (Q:Exit→Act→World→Prop) (md:Region.Mode) (l l':Array Bool) (i N:Nat) (a a':Act):Prop:=∀(S:World→Prop) (ds:List Nat) (fuel:Nat) (w:World),y26 P md ops Q S ds fuel l' a' w→y26 P md ops Q S ds (fuel + 1) l a w
theorem qY_ {oi:Oper} {v:Value} {l l':Array Bool} {a a':Act} {i N j M:Nat} (ei:i=j:=by first|(simp only [Nat.reduceAdd];rfl)|rfl) (eN:N=M:=by first|(simp only [Nat.reduceAdd];rfl)|rfl) (hi:ops[j]?=some oi:=by exact rfl) (hN:oi.dst=some M:=by exact rfl) (hc:anyB md ops l l' j=true:=by first|exact any_of HT_.out (by kernel_rfl)|kernel_rfl)
  (hQ:∀ c a w,Q (.panic c) (a.put oi.dst v) w→Q (.panic c) a w:=by exact fun _ _ _ h=>h) (hy:Yields P ops oi v a:=by first|(refine Or.inl ⟨by rfl, ?_⟩;intro w';go_simp;with_reducible rfl)|exact Or.inr ⟨by rfl,rfl⟩) (ha:a.put (some M) v=a':=by simp only [Act.put,qS_,qZ_,qC_,i64_w,i32_w];rfl):qY P ops Q md l l' i N a a':=by
 subst ei
 subst eN
 exact fun _ _ _ _ h=>pure_ l' hi hN hc hQ hy ha h
theorem qp2 {fuel:Nat} {l:Array Bool} {a0 a1 a2:Act} {w:World} (i N n:Nat) (h:y26 P md ops Q S ds fuel (fl_ n (2 ^ (i + 2) - 1)) a2 w) (h0:qY P ops Q md l (fl_ n (2 ^ (i + 1) - 1)) i N a0 a1:=by exact qY_) (h1:qY P ops Q md (fl_ n (2 ^ (i + 1) - 1)) (fl_ n (2 ^ (i + 2) - 1)) (i + 1) (N + 1) a1 a2:=by exact qY_):y26 P md ops Q S ds (fuel + 2) l a0 w:=h0 _ _ _ _ (h1 _ _ _ _ h)
theorem qp3 {fuel:Nat} {l:Array Bool} {a0 a1 a2 a3:Act} {w:World} (i N n:Nat) (h:y26 P md ops Q S ds fuel (fl_ n (2 ^ (i + 3) - 1)) a3 w) (h0:qY P ops Q md l (fl_ n (2 ^ (i + 1) - 1)) i N a0 a1:=by exact qY_) (h1:qY P ops Q md (fl_ n (2 ^ (i + 1) - 1)) (fl_ n (2 ^ (i + 2) - 1)) (i + 1) (N + 1) a1 a2:=by exact qY_) (h2:qY P ops Q md (fl_ n (2 ^ (i + 2) - 1)) (fl_ n (2 ^ (i + 3) - 1)) (i + 2) (N + 2) a2 a3:=by exact qY_):y26 P md ops Q S ds (fuel + 3) l a0 w:=h0 _ _ _ _ (h1 _ _ _ _ (h2 _ _ _ _ h))
theorem qp4 {fuel:Nat} {l:Array Bool} {a0 a1 a2 a3 a4:Act} {w:World} (i N n:Nat) (h:y26 P md ops Q S ds fuel (fl_ n (2 ^ (i + 4) - 1)) a4 w) (h0:qY P ops Q md l (fl_ n (2 ^ (i + 1) - 1)) i N a0 a1:=by exact qY_) (h1:qY P ops Q md (fl_ n (2 ^ (i + 1) - 1)) (fl_ n (2 ^ (i + 2) - 1)) (i + 1) (N + 1) a1 a2:=by exact qY_) (h2:qY P ops Q md (fl_ n (2 ^ (i + 2) - 1)) (fl_ n (2 ^ (i + 3) - 1)) (i + 2) (N + 2) a2 a3:=by exact qY_) (h3:qY P ops Q md (fl_ n (2 ^ (i + 3) - 1)) (fl_ n (2 ^ (i + 4) - 1)) (i + 3) (N + 3) a3 a4:=by exact qY_):y26 P md ops Q S ds (fuel + 4) l a0 w:=h0 _ _ _ _ (h1 _ _ _ _ (h2 _ _ _ _ (h3 _ _ _ _ h)))
theorem qp6 {fuel:Nat} {l:Array Bool} {a0 a1 a2 a3 a4 a5 a6:Act} {w:World} (i N n:Nat) (h:y26 P md ops Q S ds fuel (fl_ n (2 ^ (i + 6) - 1)) a6 w) (h0:qY P ops Q md l (fl_ n (2 ^ (i + 1) - 1)) i N a0 a1:=by exact qY_) (h1:qY P ops Q md (fl_ n (2 ^ (i + 1) - 1)) (fl_ n (2 ^ (i + 2) - 1)) (i + 1) (N + 1) a1 a2:=by exact qY_) (h2:qY P ops Q md (fl_ n (2 ^ (i + 2) - 1)) (fl_ n (2 ^ (i + 3) - 1)) (i + 2) (N + 2) a2 a3:=by exact qY_) (h3:qY P ops Q md (fl_ n (2 ^ (i + 3) - 1)) (fl_ n (2 ^ (i + 4) - 1)) (i + 3) (N + 3) a3 a4:=by exact qY_) (h4:qY P ops Q md (fl_ n (2 ^ (i + 4) - 1)) (fl_ n (2 ^ (i + 5) - 1)) (i + 4) (N + 4) a4 a5:=by exact qY_) (h5:qY P ops Q md (fl_ n (2 ^ (i + 5) - 1)) (fl_ n (2 ^ (i + 6) - 1)) (i + 5) (N + 5) a5 a6:=by exact qY_):y26 P md ops Q S ds (fuel + 6) l a0 w:=h0 _ _ _ _ (h1 _ _ _ _ (h2 _ _ _ _ (h3 _ _ _ _ (h4 _ _ _ _ (h5 _ _ _ _ h)))))
theorem qp10 {fuel:Nat} {l:Array Bool} {a0 a1 a2 a3 a4 a5 a6 a7 a8 a9 a10:Act} {w:World} (i N n:Nat) (h:y26 P md ops Q S ds fuel (fl_ n (2 ^ (i + 10) - 1)) a10 w) (h0:qY P ops Q md l (fl_ n (2 ^ (i + 1) - 1)) i N a0 a1:=by exact qY_) (h1:qY P ops Q md (fl_ n (2 ^ (i + 1) - 1)) (fl_ n (2 ^ (i + 2) - 1)) (i + 1) (N + 1) a1 a2:=by exact qY_) (h2:qY P ops Q md (fl_ n (2 ^ (i + 2) - 1)) (fl_ n (2 ^ (i + 3) - 1)) (i + 2) (N + 2) a2 a3:=by exact qY_) (h3:qY P ops Q md (fl_ n (2 ^ (i + 3) - 1)) (fl_ n (2 ^ (i + 4) - 1)) (i + 3) (N + 3) a3 a4:=by exact qY_) (h4:qY P ops Q md (fl_ n (2 ^ (i + 4) - 1)) (fl_ n (2 ^ (i + 5) - 1)) (i + 4) (N + 4) a4 a5:=by exact qY_) (h5:qY P ops Q md (fl_ n (2 ^ (i + 5) - 1)) (fl_ n (2 ^ (i + 6) - 1)) (i + 5) (N + 5) a5 a6:=by exact qY_) (h6:qY P ops Q md (fl_ n (2 ^ (i + 6) - 1)) (fl_ n (2 ^ (i + 7) - 1)) (i + 6) (N + 6) a6 a7:=by exact qY_) (h7:qY P ops Q md (fl_ n (2 ^ (i + 7) - 1)) (fl_ n (2 ^ (i + 8) - 1)) (i + 7) (N + 7) a7 a8:=by exact qY_) (h8:qY P ops Q md (fl_ n (2 ^ (i + 8) - 1)) (fl_ n (2 ^ (i + 9) - 1)) (i + 8) (N + 8) a8 a9:=by exact qY_) (h9:qY P ops Q md (fl_ n (2 ^ (i + 9) - 1)) (fl_ n (2 ^ (i + 10) - 1)) (i + 9) (N + 9) a9 a10:=by exact qY_):y26 P md ops Q S ds (fuel + 10) l a0 w:=h0 _ _ _ _ (h1 _ _ _ _ (h2 _ _ _ _ (h3 _ _ _ _ (h4 _ _ _ _ (h5 _ _ _ _ (h6 _ _ _ _ (h7 _ _ _ _ (h8 _ _ _ _ (h9 _ _ _ _ h)))))))))
end
def errW:Option Int→Value
 | none=>.nilIface
 | some c=>.iface 0 (.int .i64 c)
theorem y17:errW none=.nilIface:=rfl
theorem y18 (c:Int):errW (some c)=.iface 0 (.int .i64 c):=rfl
theorem info5:(Tryz.prog.info? 5).map (fun i=>(i.zero,i.size,i.bytes))=some (some (.int .u8 0),1,1):=by kernel_rfl
theorem info9:(Tryz.prog.info? 9).map (fun i=>(i.zero,i.size,i.bytes))=some (some (.string ⟨#[]⟩),1,16):=by kernel_rfl
theorem info36:(Tryz.prog.info? 36).map (fun i=>(i.zero,i.size,i.bytes))=some (some (.agg #[(.slice none 0 0)]),1,24):=by kernel_rfl
structure S27 where
 f0:(List ByteArray)
structure S36 where
 f0:(List ByteArray)
def z36:S36:=⟨([]:List ByteArray)⟩
def k36:Kd S36:=Kd.iso (Kd.slice 9 Kd.string) (fun x:S36=>x.f0)
theorem k36_open {w:World} {x:S36} {cs:List Value} (h:k36.K w x cs):∃ A0 c0,cs=[.slice A0 x.f0.length c0]∧x.f0.length≤c0∧Kd.string.C w A0 x.f0.length x.f0:=by
 obtain⟨A0,c0,rfl,l0,g0⟩:=h
 exact⟨A0,c0,rfl,l0,g0⟩
theorem k36_openM {w:World} {base:Nat} {ok:Nat→Prop} {x:S36} {cs:List Value} (h:k36.M w base ok x cs):∃ v0,cs=[v0]∧Kd.string.R 9 w base ok v0 x.f0:=by
 obtain⟨v0,rfl,g0⟩:=h
 exact⟨v0,rfl,g0⟩
theorem k36_mk (w:World) (x:S36) {A0:Option Addr} {c0:Nat} (l0:x.f0.length≤c0) (g0:Kd.string.C w A0 x.f0.length x.f0):k36.K w x [.slice A0 x.f0.length c0]:=⟨A0,c0,rfl,l0,g0⟩
theorem k36_mkM (w:World) (base:Nat) (ok:Nat→Prop) (x:S36) {v0:Value} (g0:Kd.string.R 9 w base ok v0 x.f0):k36.M w base ok x [v0]:=⟨v0,rfl,g0⟩
theorem k36_openF {W:World} {ok:Nat→Prop} {x:S36} {cs:List Value} (h:Kd.FK k36 W ok x cs):∃ A0 c0,cs=[.slice A0 x.f0.length c0]∧x.f0.length≤c0∧Kd.F Kd.string W ok A0 x.f0.length x.f0:=by
 obtain⟨A0,c0,rfl,l0,_⟩:=k36_open (Kd.FK_now h)
 exact⟨A0,c0,rfl,l0,(fun W' hW=>by obtain⟨A0_,c0_,he,l0_,g0_⟩:=k36_open (h W' hW);injection (Option.some.inj (show some (Value.slice A0 x.f0.length c0)=some (Value.slice A0_ x.f0.length c0_)from congrArg (fun l=>l[0]?) he))with ha_ _ _;rw [ha_];exact g0_)⟩
theorem k36_mkF (W:World) (ok:Nat→Prop) (x:S36) {A0:Option Addr} {c0:Nat} (l0:x.f0.length≤c0) (g0:Kd.F Kd.string W ok A0 x.f0.length x.f0):Kd.FK k36 W ok x [.slice A0 x.f0.length c0]:=fun W2 hW=>k36_mk W2 x l0 (g0 W2 hW)
def y24 (xs:List S36) (i:Int):S36:=xs.getD i.toNat z36
theorem at_T36 {w:World} {A:Option Addr} {n:Nat} {xs:List S36} (h:Kd.C k36 w A n xs) (i:Int) (h0:0≤i) (h1:i < n):∃ ad A0 c0,A=some ad∧w.cell? (ad.add i.toNat)=some (.slice A0 (y24 xs i).f0.length c0)∧(y24 xs i).f0.length≤c0∧Kd.string.C w A0 (y24 xs i).f0.length (y24 xs i).f0:=by
 obtain⟨ad,c,e,_,hK,hc0⟩:=Kd.C_get h z36 i h0 h1
 have hc:∀ j u,c[j]?=some u→w.cell? (ad.add (i.toNat * 1 + j))=some u:=hc0
 obtain⟨A0,c0,rfl,l0,g0⟩:=k36_open hK
 exact⟨ad,A0,c0,e,by have hq:=hc 0 _ rfl;rwa [Nat.mul_one,Nat.add_zero]at hq,l0,g0⟩
structure S32 where
 f0:Int
 f1:(List S36)
structure S24 where
 f0:Int
 f1:(List S27)
/-- What the library's package-level variables hold: carried by every walk that comes to them. -/
structure Tb (w:World):Prop where
 pow : Lib.TabIs Tryz.prog w "internal/strconv.uint64pow10" .u64 Lib.pow10Tab
 es:∃ ev,w.cell? ⟨0,0,none⟩=some ev∧(ev=.nilIface∨∃ te pe,ev=.iface te pe)
 er:∃ ev,w.cell? ⟨1,0,none⟩=some ev∧(ev=.nilIface∨∃ te pe,ev=.iface te pe)
 ml:∃ m,w.cell? ⟨3,0,none⟩=some (.int .i64 m)
theorem gPow : Tryz.prog.globalNamed "internal/strconv.uint64pow10" = some 2 := by kernel_rfl
theorem var_block {P:Program} {w:World} {n:String} {cs:Array Value} {g:Nat} (hg:P.globalNamed n=some g) (h:w.var? P n=some cs):g < w.heap.size:=by
 unfold World.var? at h
 rw [hg]at h
 simp only [Option.bind_some]at h
 split at h
 ·rename_i hh
  exact(Array.getElem?_eq_some_iff.1 hh).1
 ·cases h
theorem Tb.below {w w':World} (h:Tb w) (hb:Below w.heap.size w w'):Tb w':=by
 constructor
 ·exact var?_below hb gPow (var_block gPow h.pow) h.pow
 ·obtain⟨ev,h1,h2⟩:=h.es;exact⟨ev,pw_cell_below hb h1,h2⟩
 ·obtain⟨ev,h1,h2⟩:=h.er;exact⟨ev,pw_cell_below hb h1,h2⟩
 ·obtain⟨m,h1⟩:=h.ml;exact⟨m,pw_cell_below hb h1⟩
theorem Tb.drawn {w w':World} (h:Tb w) (hd:y1 w w'):Tb w':=h.below hd.below
end Go.Proofs.YtkajecadkkgfmaaGreatDoor.Pn
end
section
namespace Go.Proofs.YtkajecadkkgfmaaGreatDoor.Pn
open Go.RowKit Go.Proofs.YtkajecadkkgfmaaGreatDoorW.PrintWords Go.Proofs.YtkajecadkkgfmaaGreatDoorW.PrintLast Go.Proofs.YtkajecadkkgfmaaGreatDoorW.PrintMore
attribute [local go_sem] max2_int min2_int max_two min_two max_three min_three max_four min_four   -- for this text's walks alone
set_option linter.unusedVariables false
set_option linter.unusedSimpArgs false
def spec_l01Between.f (a0:Int) (a1:Int) (a2:Int):Option (Bool):=if a0≥a1 then(some (decide (a0≤a2)))else(some false)
set_option maxHeartbeats 8000000 in
set_option maxRecDepth 100000 in
theorem spec_l01Between.calls (a0:Int) (a1:Int) (a2:Int) (r:Bool) (w:World) (h:spec_l01Between.f a0 a1 a2=some r) :
  Calls Tryz.prog 56 #[.int .i64 a0,.int .i64 a1,.int .i64 a2] w fun e w'=>e=.returned (.bool r)∧y1 w w':=by
 have H:(if a0≥a1 then(some (decide (a0≤a2)))else(some false))=some r:=h
 clear h
 by_cases c4:a0≥a1
 ·rw [if_pos c4]at H
  have c4b0:decide (a1≤a0)=true:=decide_eq_true c4
  clear c4
  obtain rfl:=Option.some.inj H
  go_enter Tryz.func56,Tryz.ntmps56
  go_wp2
  go_ret
  exact qf2
 ·rw [if_neg c4]at H
  have c4b0:decide (a1≤a0)=false:=decide_eq_false c4
  clear c4
  obtain rfl:=Option.some.inj H
  go_enter Tryz.func56,Tryz.ntmps56
  go_wp2
  go_ret
  exact qf2
def spec_NumText.l0:Nat→Int→List Int→Int→Option (ByteArray)
 | 0,_,_,_=>none
 | k + 1,x0,x3,x4=>if x4=0 then(if x0 < 0 then((some (([45]:List Int):List Int)).bind fun y136=>(if y136.length + x3.length < 140737488355328 then(some (strOfNums (y136 ++ x3)))else(none)))else(some (strOfNums x3)))else(if(Int.tmod x4 10) < 0 then((some (([(wrap64 (48 + (wrap64 (-(Int.tmod x4 10))))) % 256]:List Int):List Int)).bind fun y142=>(if y142.length + x3.length < 140737488355328 then(spec_NumText.l0 k x0 (y142 ++ x3) (wrap64 (Int.tdiv x4 10)))else(none)))else((some (([(wrap64 (48 + (Int.tmod x4 10))) % 256]:List Int):List Int)).bind fun y148=>(if y148.length + x3.length < 140737488355328 then(spec_NumText.l0 k x0 (y148 ++ x3) (wrap64 (Int.tdiv x4 10)))else(none))))
def spec_NumText.f (k:Nat) (a0:Int):Option (ByteArray):=if a0=0 then(some (⟨#[48]⟩:ByteArray))else(spec_NumText.l0 k a0 (([]:List Int)) a0)
set_option maxHeartbeats 8000000 in
set_option maxRecDepth 100000 in
theorem spec_NumText.calls (k:Nat) (a0:Int) (r:ByteArray) (w:World) (h:spec_NumText.f k a0=some r) :
  Calls Tryz.prog 81 #[.int .i64 a0] w fun e w'=>e=.returned (.string r)∧Below w.heap.size w w':=by
 have HB:=y0.mk (Below.refl w.heap.size w)
 have H:(if a0=0 then(some (⟨#[48]⟩:ByteArray))else(spec_NumText.l0 k a0 (([]:List Int)) a0))=some r:=h
 clear h
 by_cases c2:a0=0
 ·rw [if_pos c2]at H
  have Bf:(a0 == 0)=true:=beq_iff_eq.mpr c2
  have Bg:(a0 != 0)=false:=bne_eq_false_iff_eq.mpr c2
  clear c2
  obtain rfl:=Option.some.inj H
  go_enter Tryz.func81,Tryz.ntmps81
  go_wp2
  go_ret
  exact⟨qf,qb⟩
 ·rw [if_neg c2]at H
  have Bf:(a0 == 0)=false:=beq_eq_false_iff_ne.mpr c2
  have Bg:(a0 != 0)=true:=bne_iff_ne.mpr c2
  obtain⟨Bh,Ae⟩:∃ y_:List Int,y_=(([]:List Int)):=⟨_,rfl⟩
  replace H:(spec_NumText.l0 k a0 Bh a0)=some r:=by first|(rw [Ae];with_reducible exact H)|(have H2_:=(Option.bind_some _ _).symm.trans H;rw [Ae];with_reducible exact H2_)|(have H2_:=(Option.bind_some _ _).symm.trans H;with_reducible exact H2_)|with_reducible exact H|(rw [Ae];exact H)|exact H
  have Av:=y0.mk Ae
  clear Ae
  have H':=y0.mk H
  clear H
  go_enter Tryz.func81,Tryz.ntmps81
  go_wp2_with (first|((with_reducible refine y20 (N:=8) rfl ?_);refine qL (Kd.int .u8) 5 8 ([]:List Int) ?_;intro Cs w3 Bi hb hg_ hnew_;clear hg_ hnew_;(first|rw [← Av.out]at Bi|(simp only [Int.reduceToNat]at Bi;rw [← Av.out]at Bi));have Bj:=y0.mk (Kd.R_lower Bi (y7 qb));replace HB:=y0.mk (y8 qb hb);clear hb Bi))
  go_loopg [3,4] k (fun kq v3 v4 w'=>∃(Ad:List Int) (Ac:Int),v4=.int .i64 Ac∧y0 (spec_NumText.l0 kq a0 Ad Ac=some r)∧y0 (kq≤k)∧y0 (Kd.R (Kd.int .u8) 5 w' w.heap.size (fun _=>True) v3 Ad)∧y0 (Below w.heap.size w w'))
  case atStart=>exact⟨(Bh),(a0),qy2,H',⟨Nat.le_refl _⟩,⟨qR Bj.out⟩,⟨qb⟩⟩
  case round =>
   clear H'
   (try clear Bf Bg)
   obtain⟨Ad,Ac,rfl,HA,Bv,Aa,HB⟩:=hrel
   cases gk with
   | zero=>exact absurd HA.out (by simp [spec_NumText.l0])
   | succ k1 =>
    have H:=HA.out
    clear HA
    simp only [spec_NumText.l0]at H
    by_cases c5:Ac=0
    ·rw [if_pos c5]at H
     have Bw:(Ac == 0)=true:=beq_iff_eq.mpr c5
     have Bx:(Ac != 0)=false:=bne_eq_false_iff_eq.mpr c5
     clear c5
     by_cases c6:a0 < 0
     ·rw [if_pos c6]at H
      have Bz:=decide_eq_true c6
      clear c6
      obtain⟨Ap,Af⟩:∃ y_:List Int,y_=(([45]:List Int)):=⟨_,rfl⟩
      replace H:(if Ap.length + Ad.length < 140737488355328 then(some (strOfNums (Ap ++ Ad)))else(none))=some r:=by first|(rw [Af];with_reducible exact H)|(have H2_:=(Option.bind_some _ _).symm.trans H;rw [Af];with_reducible exact H2_)|(have H2_:=(Option.bind_some _ _).symm.trans H;with_reducible exact H2_)|with_reducible exact H|(rw [Af];exact H)|exact H
      have Aw:=y0.mk Af
      clear Af
      obtain⟨c7,H⟩:=qo H
      have Ca:=y0.mk c7
      clear c7
      obtain⟨Cb,Ag⟩:∃ y_:List Int,y_=(Ap ++ Ad):=⟨_,rfl⟩
      replace H:(some (strOfNums Cb))=some r:=by first|(rw [Ag];with_reducible exact H)|(have H2_:=(Option.bind_some _ _).symm.trans H;rw [Ag];with_reducible exact H2_)|(have H2_:=(Option.bind_some _ _).symm.trans H;with_reducible exact H2_)|with_reducible exact H|(rw [Ag];exact H)|exact H
      have Bk:=y0.mk Ag
      clear Ag
      obtain rfl:=Option.some.inj H
      go_wp2_with (first|((with_reducible refine y20 (N:=28) rfl ?_);refine qL (Kd.int .u8) 5 28 ([45]:List Int) ?_;intro Cc w8 Bd hb hg_ hnew_;clear hg_ hnew_;(first|rw [← Aw.out]at Bd|(simp only [Int.reduceToNat]at Bd;rw [← Aw.out]at Bd));have Ay:=y0.mk (Kd.R_lower (Kd.R_new' Bd (Kd.R_lt (qR Aa.out))) (y7 qb));replace Aa:=y0.mk (Kd.R_elder' (qR Aa.out) (Kd.R_base Bd) hb);replace HB:=y0.mk (y8 qb hb);clear hb Bd;obtain⟨Cd,Ce,Cf⟩:=Kd.R_slice Aa.out;subst Cf)|((with_reducible refine gate_builtin (b:=.append) (xs:=#[.tmp 28,.tmp 29]) rfl ?_);at_builtin;refine Kd.R_append_rows (Kd.int .u8) (w0:=w) w.heap.size rfl (.tmp 28) (.tmp 29) 43 5 (.int .u8 0) 1 rfl Tryz.underlying43 info5 rfl (by decide) (by omega) Cc Ap Ad _ _ _ (fun k_=>some k_≠(.slice Cd Ad.length Ce:Value).ownBlock) (fun _=>False) rfl rfl ?aO ?aR (fun _ _ h=>h) (fun _ h=>h.elim) ?aF ?aB ?aS ?aL ?_;(case aR=>repeat(first|exact(Kd.R_reads' Aa.out).2.2|(with_reducible refine Kd.C_alloc ?_ _)|(with_reducible refine Kd.C_drewN ?_ _)|(with_reducible refine Kd.C_drew ?_)));(case aB=>exact qb);(case aF=>exact(fun k_ hk=>Kd.fresh' (Kd.R_lt (qR Aa.out)) k_ hk));(case aO=>exact(qR (Kd.R_mono Ay.out (fun _ hk=>hk.2))));(case aS=>exact(y7 qb));(case aL=>have:=Ca.out;omega);intro Ct Cw ho hb hg hat;rw [← Bk.out]at ho;replace Aa:=y0.mk (Kd.R_after (ok:=(fun _=>True)) (qR Aa.out) hg hat);replace HB:=y0.mk (hb);have Bl:=y0.mk (ho);clear Ay;clear ho hb hg hat;have Co:=own_string (P:=Tryz.prog) Tryz.underlying43 Tryz.underlying5 Tryz.underlying9 (Kd.own_of_R Bl.out)))
      go_ret
      exact⟨qf,qb⟩
     ·rw [if_neg c6]at H
      have Bz:=decide_eq_false c6
      clear c6
      obtain rfl:=Option.some.inj H
      have Cp:=own_string (P:=Tryz.prog) Tryz.underlying43 Tryz.underlying5 Tryz.underlying9 (Kd.own_of_R Aa.out)
      go_wp2
      go_ret
      exact⟨qf,qb⟩
    ·rw [if_neg c5]at H
     have Bw:(Ac == 0)=false:=beq_eq_false_iff_ne.mpr c5
     have Bx:(Ac != 0)=true:=bne_iff_ne.mpr c5
     by_cases Be:(Int.tmod Ac 10) < 0
     ·rw [if_pos Be]at H
      have Bm:=decide_eq_true Be
      clear Be
      obtain⟨Aq,Ah⟩:∃ y_:List Int,y_=(([(wrap64 (48 + (wrap64 (-(Int.tmod Ac 10))))) % 256]:List Int)):=⟨_,rfl⟩
      replace H:(if Aq.length + Ad.length < 140737488355328 then(spec_NumText.l0 k1 a0 (Aq ++ Ad) (wrap64 (Int.tdiv Ac 10)))else(none))=some r:=by first|(rw [Ah];with_reducible exact H)|(have H2_:=(Option.bind_some _ _).symm.trans H;rw [Ah];with_reducible exact H2_)|(have H2_:=(Option.bind_some _ _).symm.trans H;with_reducible exact H2_)|with_reducible exact H|(rw [Ah];exact H)|exact H
      have Az:=y0.mk Ah
      clear Ah
      obtain⟨Cq,H⟩:=qo H
      have Bn:=y0.mk Cq
      clear Cq
      obtain⟨Bo,Ai⟩:∃ y_:List Int,y_=(Aq ++ Ad):=⟨_,rfl⟩
      replace H:(spec_NumText.l0 k1 a0 Bo (wrap64 (Int.tdiv Ac 10)))=some r:=by first|(rw [Ai];with_reducible exact H)|(have H2_:=(Option.bind_some _ _).symm.trans H;rw [Ai];with_reducible exact H2_)|(have H2_:=(Option.bind_some _ _).symm.trans H;with_reducible exact H2_)|with_reducible exact H|(rw [Ai];exact H)|exact H
      have Bp:=y0.mk Ai
      clear Ai
      have H':=y0.mk H
      clear H
      go_wp2_with (first|((with_reducible refine y20 (N:=23) rfl ?_);refine Kd.R_lit (Kd.int .u8) _ 5 ?hg (N:=23) ?hd (xs:=([(wrap64 (48 + (wrap64 (-(Int.tmod Ac 10))))) % 256]:List Int)) (inner:=[.int .u8 ((wrap64 (48 + (wrap64 (-(Int.tmod Ac 10))))) % 256)]) (ok:=fun _=>True) (okp:=fun _=>True) ?hr ?hp (fun _ hk=>hk) trivial (Below.refl _ _) (Nat.le_refl _) (by simp) ?_;(case hd=>rfl);(case hg=>rfl);(case hr=>first|(go_simp;done)|(go_simp;rfl));(case hp=>exact(Reps.one (show Kd.M (Kd.int .u8) _ _ _ ((wrap64 (48 + (wrap64 (-(Int.tmod Ac 10))))) % 256) [.int .u8 ((wrap64 (48 + (wrap64 (-(Int.tmod Ac 10))))) % 256)]from rfl) (Reps.none _ _)));intro Cg Cx Al hb hg_ hnew_;clear hg_ hnew_;(first|rw [← Az.out]at Al|(simp only [Int.reduceToNat]at Al;rw [← Az.out]at Al));have Ba:=y0.mk (Kd.R_lower (Kd.R_new' Al (Kd.R_lt (qR Aa.out))) (y7 qb));replace Aa:=y0.mk (Kd.R_elder' (qR Aa.out) (Kd.R_base Al) hb);replace HB:=y0.mk (y8 qb hb);clear hb Al;obtain⟨Ch,Ci,Cj⟩:=Kd.R_slice Aa.out;subst Cj)|((with_reducible refine gate_builtin (b:=.append) (xs:=#[.tmp 23,.tmp 24]) rfl ?_);at_builtin;refine Kd.R_append_rows (Kd.int .u8) (w0:=w) w.heap.size rfl (.tmp 23) (.tmp 24) 43 5 (.int .u8 0) 1 rfl Tryz.underlying43 info5 rfl (by decide) (by omega) Cg Aq Ad _ _ _ (fun k_=>some k_≠(.slice Ch Ad.length Ci:Value).ownBlock) (fun _=>False) rfl rfl ?aO ?aR (fun _ _ h=>h) (fun _ h=>h.elim) ?aF ?aB ?aS ?aL ?_;(case aR=>repeat(first|exact(Kd.R_reads' Aa.out).2.2|(with_reducible refine Kd.C_alloc ?_ _)|(with_reducible refine Kd.C_drewN ?_ _)|(with_reducible refine Kd.C_drew ?_)));(case aB=>exact qb);(case aF=>exact(fun k_ hk=>Kd.fresh' (Kd.R_lt (qR Aa.out)) k_ hk));(case aO=>exact(qR (Kd.R_mono Ba.out (fun _ hk=>hk.2))));(case aS=>exact(y7 qb));(case aL=>have:=Bn.out;omega);intro Cu Cy ho hb hg hat;rw [← Bp.out]at ho;replace Aa:=y0.mk (Kd.R_after (ok:=(fun _=>True)) (qR Aa.out) hg hat);replace HB:=y0.mk (hb);have Bq:=y0.mk (ho);clear Ba;clear ho hb hg hat))
      go_roundg k1
      case measure=>have:=Bv.out;omega
      exact⟨(Bo),(wrap64 (Int.tdiv Ac 10)),qy2,H',⟨by have:=Bv.out;omega⟩,⟨qR (Kd.R_mono Bq.out (fun _ hk=>trivial))⟩,⟨qb⟩⟩
     ·rw [if_neg Be]at H
      have Bm:=decide_eq_false Be
      clear Be
      obtain⟨Au,Aj⟩:∃ y_:List Int,y_=(([(wrap64 (48 + (Int.tmod Ac 10))) % 256]:List Int)):=⟨_,rfl⟩
      replace H:(if Au.length + Ad.length < 140737488355328 then(spec_NumText.l0 k1 a0 (Au ++ Ad) (wrap64 (Int.tdiv Ac 10)))else(none))=some r:=by first|(rw [Aj];with_reducible exact H)|(have H2_:=(Option.bind_some _ _).symm.trans H;rw [Aj];with_reducible exact H2_)|(have H2_:=(Option.bind_some _ _).symm.trans H;with_reducible exact H2_)|with_reducible exact H|(rw [Aj];exact H)|exact H
      have Bb:=y0.mk Aj
      clear Aj
      obtain⟨Cr,H⟩:=qo H
      have Br:=y0.mk Cr
      clear Cr
      obtain⟨Bs,Ak⟩:∃ y_:List Int,y_=(Au ++ Ad):=⟨_,rfl⟩
      replace H:(spec_NumText.l0 k1 a0 Bs (wrap64 (Int.tdiv Ac 10)))=some r:=by first|(rw [Ak];with_reducible exact H)|(have H2_:=(Option.bind_some _ _).symm.trans H;rw [Ak];with_reducible exact H2_)|(have H2_:=(Option.bind_some _ _).symm.trans H;with_reducible exact H2_)|with_reducible exact H|(rw [Ak];exact H)|exact H
      have Bt:=y0.mk Ak
      clear Ak
      have H':=y0.mk H
      clear H
      go_wp2_with (first|((with_reducible refine y20 (N:=23) rfl ?_);refine qL (Kd.int .u8) 5 23 ([(wrap64 (48 + (Int.tmod Ac 10))) % 256]:List Int) ?_;intro Ck Cz Am hb hg_ hnew_;clear hg_ hnew_;(first|rw [← Bb.out]at Am|(simp only [Int.reduceToNat]at Am;rw [← Bb.out]at Am));have Bc:=y0.mk (Kd.R_lower (Kd.R_new' Am (Kd.R_lt (qR Aa.out))) (y7 qb));replace Aa:=y0.mk (Kd.R_elder' (qR Aa.out) (Kd.R_base Am) hb);replace HB:=y0.mk (y8 qb hb);clear hb Am;obtain⟨Cl,Cm,Cn⟩:=Kd.R_slice Aa.out;subst Cn)|((with_reducible refine gate_builtin (b:=.append) (xs:=#[.tmp 23,.tmp 24]) rfl ?_);at_builtin;refine Kd.R_append_rows (Kd.int .u8) (w0:=w) w.heap.size rfl (.tmp 23) (.tmp 24) 43 5 (.int .u8 0) 1 rfl Tryz.underlying43 info5 rfl (by decide) (by omega) Ck Au Ad _ _ _ (fun k_=>some k_≠(.slice Cl Ad.length Cm:Value).ownBlock) (fun _=>False) rfl rfl ?aO ?aR (fun _ _ h=>h) (fun _ h=>h.elim) ?aF ?aB ?aS ?aL ?_;(case aR=>repeat(first|exact(Kd.R_reads' Aa.out).2.2|(with_reducible refine Kd.C_alloc ?_ _)|(with_reducible refine Kd.C_drewN ?_ _)|(with_reducible refine Kd.C_drew ?_)));(case aB=>exact qb);(case aF=>exact(fun k_ hk=>Kd.fresh' (Kd.R_lt (qR Aa.out)) k_ hk));(case aO=>exact(qR (Kd.R_mono Bc.out (fun _ hk=>hk.2))));(case aS=>exact(y7 qb));(case aL=>have:=Br.out;omega);intro Cv Da ho hb hg hat;rw [← Bt.out]at ho;replace Aa:=y0.mk (Kd.R_after (ok:=(fun _=>True)) (qR Aa.out) hg hat);replace HB:=y0.mk (hb);have Bu:=y0.mk (ho);clear Bc;clear ho hb hg hat))
      go_roundg k1
      case measure=>have:=Bv.out;omega
      exact⟨(Bs),(wrap64 (Int.tdiv Ac 10)),qy2,H',⟨by have:=Bv.out;omega⟩,⟨qR (Kd.R_mono Bu.out (fun _ hk=>trivial))⟩,⟨qb⟩⟩
def spec_l01Digit.f (a0:Int):Option (Bool):=if a0≥48 then(some (decide (a0≤57)))else(some false)
set_option maxHeartbeats 8000000 in
set_option maxRecDepth 100000 in
theorem spec_l01Digit.calls (a0:Int) (r:Bool) (w:World) (h:spec_l01Digit.f a0=some r) :
  Calls Tryz.prog 114 #[.int .u8 a0] w fun e w'=>e=.returned (.bool r)∧y1 w w':=by
 have H:(if a0≥48 then(some (decide (a0≤57)))else(some false))=some r:=h
 clear h
 by_cases c2:a0≥48
 ·rw [if_pos c2]at H
  have c2b0:decide (48≤a0)=true:=decide_eq_true c2
  clear c2
  obtain rfl:=Option.some.inj H
  go_enter Tryz.func114,Tryz.ntmps114
  go_wp2
  go_ret
  exact qf2
 ·rw [if_neg c2]at H
  have c2b0:decide (48≤a0)=false:=decide_eq_false c2
  clear c2
  obtain rfl:=Option.some.inj H
  go_enter Tryz.func114,Tryz.ntmps114
  go_wp2
  go_ret
  exact qf2
mutual
def z9_.j0:Nat→ByteArray→Int→ByteArray→Bool→Option (Int×Bool)
 | 0,_,_,_,_=>none
 | k + 1,x0,x4,x5,x15=>if x15=true then(if 1≤(x0.size:Int)then(z9_.j1 k x0 x4 (x0.extract 1 x0.size))else(none))else(z9_.j1 k x0 x4 x5)
def z9_.j1:Nat→ByteArray→Int→ByteArray→Option (Int×Bool)
 | 0,_,_,_=>none
 | k + 1,x0,x4,x5=>(spec_l01Between.f (x5.size:Int) 1 7).bind fun t154=>(if t154=true then(z9_.l0 k x0 x4 x5 0)else(some (0,false)))
def z9_.l0:Nat→ByteArray→Int→ByteArray→Int→Option (Int×Bool)
 | 0,_,_,_,_=>none
 | k + 1,x0,x4,x5,x6=>if x6 < (x5.size:Int)then(if 0≤x6 then((spec_l01Digit.f (bt x5 x6)).bind fun t155=>(if t155=true then(z9_.l0 k x0 (wrap64 ((wrap64 (10 * x4)) + (((bt x5 x6) - 48) % 256))) x5 (wrap64 (x6 + 1)))else(some (0,false))))else(none))else(if x5.toList=x0.toList then((spec_NumText.f k x4).bind fun t156=>(if t156.toList=x0.toList then((spec_l01Between.f x4 (-1000000) 1000000).bind fun t157=>(some (x4,t157)))else(some (x4,false))))else((spec_NumText.f k (wrap64 (-x4))).bind fun t158=>(if t158.toList=x0.toList then((spec_l01Between.f (wrap64 (-x4)) (-1000000) 1000000).bind fun t159=>(some (wrap64 (-x4),t159)))else(some (wrap64 (-x4),false)))))
end
def z9_.f (k:Nat) (a0:ByteArray):Option (Int×Bool):=if(a0.size:Int) > 0 then(if 0 < (a0.size:Int)then(z9_.j0 k a0 0 a0 ((bt a0 0) == 45))else(none))else(z9_.j0 k a0 0 a0 false)
set_option maxHeartbeats 8000000 in
set_option maxRecDepth 100000 in
theorem z9_.calls (k:Nat) (a0:ByteArray) (r1:Int) (r2:Bool) (w:World) (h:z9_.f k a0=some (r1,r2)) :
  Calls Tryz.prog 92 #[.string a0] w fun e w'=>e=.returned (.tuple #[.int .i64 r1,.bool r2])∧Below w.heap.size w w':=by
 have HB:=y0.mk (Below.refl w.heap.size w)
 have H:(if(a0.size:Int) > 0 then(if 0 < (a0.size:Int)then(z9_.j0 k a0 0 a0 ((bt a0 0) == 45))else(none))else(z9_.j0 k a0 0 a0 false))=some (r1,r2):=h
 clear h
 have Be:=y0.mk H
 clear H
 go_enter Tryz.func92,Tryz.ntmps92
 go_upto_region 3 with(fail)
 go_cut [15] (fun Bw wc=>∃(kq:Nat) (Ag:Bool),Bw=.bool Ag∧y0 (z9_.j0 kq a0 0 a0 Ag=some (r1,r2))∧y0 (kq≤k)∧y0 (Below w.heap.size w wc))
 case first =>
  have H:=Be.out
  clear Be
  by_cases c3:(a0.size:Int) > 0
  ·rw [if_pos c3]at H
   have Ah:decide (0 < (a0.size:Int))=true:=decide_eq_true c3
   have Bf:decide (0 < a0.size)=true:=decide_eq_true (by omega)
   clear c3
   (first|rw [Ah]|(simp only [i64_w,i32_w];rw [Ah])|skip)
   obtain⟨c4,H⟩:=qo H
   have Bx:decide (0 < (a0.size:Int))=true:=decide_eq_true c4
   have Bz:decide (0 < a0.size)=true:=decide_eq_true (by omega)
   clear c4
   have H':=y0.mk H
   clear H
   have p5:0≤(0:Int):=(by omega)
   have q5:0 < a0.size:=qy3
   have Cg:∀ h:0 < a0.size,((a0[0]'h).toNat:Int)=bt a0 0:=bt_at a0 0
   clear p5
   have Ch:(0 < (a0.size:Int))=True:=eq_true (of_decide_eq_true qy1)
   replace q5:=eq_true q5
   go_wp2
   go_meet
   exact⟨_,(((bt a0 0) == 45)),qy2,H',⟨by first|omega|exact Nat.le_refl _⟩,⟨qb⟩⟩
  ·rw [if_neg c3]at H
   have Ah:decide (0 < (a0.size:Int))=false:=decide_eq_false c3
   have Bf:decide (0 < a0.size)=false:=decide_eq_false (by omega)
   clear c3
   (first|rw [Ah]|(simp only [i64_w,i32_w];rw [Ah])|skip)
   have H':=y0.mk H
   clear H
   go_wp2
   go_meet
   exact⟨_,(false),qy2,H',⟨by first|omega|exact Nat.le_refl _⟩,⟨qb⟩⟩
 case rest =>
  clear Be
  obtain⟨kq,Ag,rfl,HA,Bc,HB⟩:=hcut
  cases kq with
  | zero=>exact absurd HA.out (by simp [z9_.j0])
  | succ Ca =>
   have H:=HA.out
   clear HA
   simp only [z9_.j0]at H
   have Bg:=y0.mk H
   clear H
   go_upto_if 15 with(fail)
   go_cut [5] (fun v5 wc=>∃(kq:Nat) (Aa:ByteArray),v5=.string Aa∧y0 (z9_.j1 kq a0 0 Aa=some (r1,r2))∧y0 (kq≤Ca)∧y0 (Below w.heap.size w wc))
   case first =>
    have H:=Bg.out
    clear Bg
    by_cases c7:Ag=true
    ·subst c7
     replace H:=qT H
     obtain⟨c8,H⟩:=qo H
     have Cb:=eq_true c8
     have Cc:=decide_eq_true c8
     clear c8
     have H':=y0.mk H
     clear H
     go_wp2
     go_meet
     exact⟨_,(a0.extract 1 a0.size),qy2,H',⟨by have:=Bc.out;first|omega|exact Nat.le_refl _⟩,⟨qb⟩⟩
    ·replace c7:=Bool.eq_false_iff.mpr c7
     subst c7
     replace H:=qF H
     have H':=y0.mk H
     clear H
     go_wp2
     go_meet
     exact⟨_,(a0),qy2,H',⟨by have:=Bc.out;first|omega|exact Nat.le_refl _⟩,⟨qb⟩⟩
   case rest =>
    clear Bg
    obtain⟨kq,Aa,rfl,HA,Bm,HB⟩:=hcut
    cases kq with
    | zero=>exact absurd HA.out (by simp [z9_.j1])
    | succ Bn =>
     have H:=HA.out
     clear HA
     simp only [z9_.j1]at H
     obtain⟨Bh,A9,H⟩:=qB H
     by_cases Am:Bh=true
     ·subst Am
      replace H:=qT H
      have H':=y0.mk H
      clear H
      go_wp2_with (first|((with_reducible refine y19 (f:=56) rfl ?_);refine y22 (some 20) rfl rfl Tryz.func56 (by kernel_rfl) rfl #[.int .i64 (Aa.size:Int),.int .i64 1,.int .i64 7] rfl qy0 ?_;(with_reducible refine(spec_l01Between.calls (Aa.size:Int) 1 7 true _ A9.out).mono ?_);rintro e w' ⟨rfl,⟨nd,rfl⟩⟩;refine⟨_,rfl, ?_⟩))
      go_loopg [4,6] Bn (fun kq v4 v6 w'=>∃(Ad:Int) (Ac:Int),v4=.int .i64 Ad∧v6=.int .i64 Ac∧y0 (z9_.l0 kq a0 Ad Aa Ac=some (r1,r2))∧y0 (kq≤Bn)∧y0 (Below w.heap.size w w'))
      case atStart=>exact⟨(0),(0),qy2,qy2,H',⟨Nat.le_refl _⟩,⟨qb⟩⟩
      case round =>
       clear H'
       (try clear Am)
       obtain⟨Ad,Ac,rfl,rfl,HA,Bo,HB⟩:=hrel
       cases gk with
       | zero=>exact absurd HA.out (by simp [z9_.l0])
       | succ k3 =>
        have H:=HA.out
        clear HA
        simp only [z9_.l0]at H
        by_cases Al:Ac < (Aa.size:Int)
        ·rw [if_pos Al]at H
         have Ap:=decide_eq_true Al
         clear Al
         obtain⟨Bp,H⟩:=qo H
         have Bq:decide (0≤Ac)=true:=decide_eq_true Bp
         clear Bp
         obtain⟨Bi,Br,H⟩:=qB H
         by_cases Bd:Bi=true
         ·subst Bd
          replace H:=qT H
          have H':=y0.mk H
          clear H
          have Aq:0≤(Ac:Int):=of_decide_eq_true qy1
          have Au:Ac < (Aa.size:Int):=of_decide_eq_true qy1
          have Bj:=bt_at Aa Ac
          replace Aq:=eq_true Aq
          replace Au:=eq_true Au
          go_wp2_with (first|((with_reducible refine y19 (f:=114) rfl ?_);refine y22 (some 31) rfl rfl Tryz.func114 (by kernel_rfl) rfl #[.int .u8 (bt Aa Ac)] rfl qy0 ?_;(with_reducible refine(spec_l01Digit.calls (bt Aa Ac) true _ Br.out).mono ?_);rintro e w' ⟨rfl,⟨nd,rfl⟩⟩;refine⟨_,rfl, ?_⟩;have Bs:0≤(Ac:Int):=of_decide_eq_true qy1;have Bt:Ac < (Aa.size:Int):=of_decide_eq_true qy1;have Cd:=bt_at Aa Ac;replace Bs:=eq_true Bs;replace Bt:=eq_true Bt))
          go_roundg k3
          case measure=>have:=Bc.out;have:=Bm.out;have:=Bo.out;omega
          exact⟨(wrap64 ((wrap64 (10 * Ad)) + (((bt Aa Ac) - 48) % 256))),(wrap64 (Ac + 1)),qy2,qy2,H',⟨by have:=Bc.out;have:=Bm.out;have:=Bo.out;omega⟩,⟨qb⟩⟩
         ·replace Bd:=Bool.eq_false_iff.mpr Bd
          subst Bd
          replace H:=qF H
          simp only [Option.some.injEq,Prod.mk.injEq]at H
          obtain⟨rfl,rfl⟩:=H
          have Aq:0≤(Ac:Int):=of_decide_eq_true qy1
          have Au:Ac < (Aa.size:Int):=of_decide_eq_true qy1
          have Bj:=bt_at Aa Ac
          replace Aq:=eq_true Aq
          replace Au:=eq_true Au
          go_wp2_with (first|((with_reducible refine y19 (f:=114) rfl ?_);refine y22 (some 31) rfl rfl Tryz.func114 (by kernel_rfl) rfl #[.int .u8 (bt Aa Ac)] rfl qy0 ?_;(with_reducible refine(spec_l01Digit.calls (bt Aa Ac) false _ Br.out).mono ?_);rintro e w' ⟨rfl,⟨nd,rfl⟩⟩;refine⟨_,rfl, ?_⟩))
          go_ret2
          exact⟨qf,qb⟩
        ·rw [if_neg Al]at H
         have Ap:=decide_eq_false Al
         clear Al
         by_cases Ai:Aa.toList=a0.toList
         ·rw [if_pos Ai]at H
          have Av:(Aa.toList == a0.toList)=true:=beq_iff_eq.mpr Ai
          have Aw:(Aa.toList != a0.toList)=false:=bne_eq_false_iff_eq.mpr Ai
          clear Ai
          obtain⟨Ae,Bu,H⟩:=qB H
          by_cases Aj:Ae.toList=a0.toList
          ·rw [if_pos Aj]at H
           have Ay:(Ae.toList == a0.toList)=true:=beq_iff_eq.mpr Aj
           have Az:(Ae.toList != a0.toList)=false:=bne_eq_false_iff_eq.mpr Aj
           clear Aj
           obtain⟨Bk,Ce,H⟩:=qB H
           simp only [Option.some.injEq,Prod.mk.injEq]at H
           obtain⟨rfl,rfl⟩:=H
           go_wp2_with (first|((with_reducible refine y19 (f:=81) rfl ?_);refine y22 (some 48) rfl rfl Tryz.func81 (by kernel_rfl) rfl #[.int .i64 Ad] rfl qy0 ?_;(with_reducible refine(spec_NumText.calls k3 Ad Ae _ Bu.out).mono ?_);rintro e Ci ⟨rfl,hb⟩;refine⟨_,rfl, ?_⟩;replace HB:=y0.mk (y8 qb hb);(try clear hb))|(go_at_call 56;(with_reducible refine(spec_l01Between.calls Ad (-1000000) 1000000 Bk _ Ce.out).mono ?_);rintro e w' ⟨rfl,⟨nd,rfl⟩⟩))
           go_ret2
           exact⟨qf,qb⟩
          ·rw [if_neg Aj]at H
           have Ay:(Ae.toList == a0.toList)=false:=beq_eq_false_iff_ne.mpr Aj
           have Az:(Ae.toList != a0.toList)=true:=bne_iff_ne.mpr Aj
           simp only [Option.some.injEq,Prod.mk.injEq]at H
           obtain⟨rfl,rfl⟩:=H
           go_wp2_with (first|((with_reducible refine y19 (f:=81) rfl ?_);refine y22 (some 48) rfl rfl Tryz.func81 (by kernel_rfl) rfl #[.int .i64 Ad] rfl qy0 ?_;(with_reducible refine(spec_NumText.calls k3 Ad Ae _ Bu.out).mono ?_);rintro e Cj ⟨rfl,hb⟩;refine⟨_,rfl, ?_⟩;replace HB:=y0.mk (y8 qb hb);(try clear hb)))
           go_ret2
           exact⟨qf,qb⟩
         ·rw [if_neg Ai]at H
          have Av:(Aa.toList == a0.toList)=false:=beq_eq_false_iff_ne.mpr Ai
          have Aw:(Aa.toList != a0.toList)=true:=bne_iff_ne.mpr Ai
          obtain⟨Af,Bv,H⟩:=qB H
          by_cases Ak:Af.toList=a0.toList
          ·rw [if_pos Ak]at H
           have Ba:(Af.toList == a0.toList)=true:=beq_iff_eq.mpr Ak
           have Bb:(Af.toList != a0.toList)=false:=bne_eq_false_iff_eq.mpr Ak
           clear Ak
           obtain⟨Bl,Cf,H⟩:=qB H
           simp only [Option.some.injEq,Prod.mk.injEq]at H
           obtain⟨rfl,rfl⟩:=H
           go_wp2_with (first|((with_reducible refine y19 (f:=81) rfl ?_);refine y22 (some 48) rfl rfl Tryz.func81 (by kernel_rfl) rfl #[.int .i64 (wrap64 (-Ad))] rfl qy0 ?_;(with_reducible refine(spec_NumText.calls k3 (wrap64 (-Ad)) Af _ Bv.out).mono ?_);rintro e Ck ⟨rfl,hb⟩;refine⟨_,rfl, ?_⟩;replace HB:=y0.mk (y8 qb hb);(try clear hb))|(go_at_call 56;(with_reducible refine(spec_l01Between.calls (wrap64 (-Ad)) (-1000000) 1000000 Bl _ Cf.out).mono ?_);rintro e w' ⟨rfl,⟨nd,rfl⟩⟩))
           go_ret2
           exact⟨qf,qb⟩
          ·rw [if_neg Ak]at H
           have Ba:(Af.toList == a0.toList)=false:=beq_eq_false_iff_ne.mpr Ak
           have Bb:(Af.toList != a0.toList)=true:=bne_iff_ne.mpr Ak
           simp only [Option.some.injEq,Prod.mk.injEq]at H
           obtain⟨rfl,rfl⟩:=H
           go_wp2_with (first|((with_reducible refine y19 (f:=81) rfl ?_);refine y22 (some 48) rfl rfl Tryz.func81 (by kernel_rfl) rfl #[.int .i64 (wrap64 (-Ad))] rfl qy0 ?_;(with_reducible refine(spec_NumText.calls k3 (wrap64 (-Ad)) Af _ Bv.out).mono ?_);rintro e Cl ⟨rfl,hb⟩;refine⟨_,rfl, ?_⟩;replace HB:=y0.mk (y8 qb hb);(try clear hb)))
           go_ret2
           exact⟨qf,qb⟩
     ·replace Am:=Bool.eq_false_iff.mpr Am
      subst Am
      replace H:=qF H
      simp only [Option.some.injEq,Prod.mk.injEq]at H
      obtain⟨rfl,rfl⟩:=H
      go_wp2_with (first|((with_reducible refine y19 (f:=56) rfl ?_);refine y22 (some 20) rfl rfl Tryz.func56 (by kernel_rfl) rfl #[.int .i64 (Aa.size:Int),.int .i64 1,.int .i64 7] rfl qy0 ?_;(with_reducible refine(spec_l01Between.calls (Aa.size:Int) 1 7 false _ A9.out).mono ?_);rintro e w' ⟨rfl,⟨nd,rfl⟩⟩;refine⟨_,rfl, ?_⟩))
      go_ret2
      exact⟨qf,qb⟩
end Go.Proofs.YtkajecadkkgfmaaGreatDoor.Pn
end
section
namespace Go.Proofs.YtkajecadkkgfmaaGreatDoor.Pn
open Go.RowKit Go.Proofs.YtkajecadkkgfmaaGreatDoorW.PrintWords Go.Proofs.YtkajecadkkgfmaaGreatDoorW.PrintLast Go.Proofs.YtkajecadkkgfmaaGreatDoorW.PrintMore
attribute [local go_sem] max2_int min2_int max_two min_two max_three min_three max_four min_four   -- for this text's walks alone
set_option linter.unusedVariables false
set_option linter.unusedSimpArgs false
mutual
def z4_.j1:Nat→ByteArray→Int→Option (ByteArray×List ByteArray×Bool)
 | 0,_,_=>none
 | k + 1,x0,x5=>if x5=(x0.size:Int)then(some (x0,(([]:List ByteArray)),true))else(z4_.l1 k x0 x5 (([]:List ByteArray)) 0 false (wrap64 (x5 + 1)) x5)
def z4_.l1:Nat→ByteArray→Int→List ByteArray→Int→Bool→Int→Int→Option (ByteArray×List ByteArray×Bool)
 | 0,_,_,_,_,_,_,_=>none
 | k + 1,x0,x5,x6,x7,x8,x9,x10=>if x10 < (x0.size:Int)then(if 0≤x10 then(if(bt x0 x10)=34 then(z4_.l1 k x0 x5 x6 x7 (!x8) x9 (wrap64 (x10 + 1)))else(if x8=true then(z4_.l1 k x0 x5 x6 x7 x8 x9 (wrap64 (x10 + 1)))else(if(bt x0 x10)=40 then(z4_.l1 k x0 x5 x6 (wrap64 (x7 + 1)) x8 x9 (wrap64 (x10 + 1)))else(if(bt x0 x10)=41 then(if(wrap64 (x7 - 1))=0 then(if 0≤x5 then(if x5≤(x0.size:Int)then(if 0≤x9 then(if x9≤x10 then(if x10≤(x0.size:Int)then(if x6.length < 8796093022208 then(some (x0.extract 0 (x5:Int).toNat,(x6 ++ [x0.extract (x9:Int).toNat (x10:Int).toNat]),(x10 == (wrap64 ((x0.size:Int) - 1)))))else(none))else(none))else(none))else(none))else(none))else(none))else(z4_.l1 k x0 x5 x6 (wrap64 (x7 - 1)) x8 x9 (wrap64 (x10 + 1))))else(if(bt x0 x10)=44 then(if x7=1 then(if 0≤x9 then(if x9≤x10 then(if x10≤(x0.size:Int)then(if x6.length < 8796093022208 then(z4_.l1 k x0 x5 (x6 ++ [x0.extract (x9:Int).toNat (x10:Int).toNat]) x7 x8 (wrap64 (x10 + 1)) (wrap64 (x10 + 1)))else(none))else(none))else(none))else(none))else(z4_.l1 k x0 x5 x6 x7 x8 x9 (wrap64 (x10 + 1))))else(z4_.l1 k x0 x5 x6 x7 x8 x9 (wrap64 (x10 + 1))))))))else(none))else(some ((⟨#[]⟩:ByteArray),(([]:List ByteArray)),false))
def z4_.l0:Nat→ByteArray→Int→Option (ByteArray×List ByteArray×Bool)
 | 0,_,_=>none
 | k + 1,x0,x5=>if x5 < (x0.size:Int)then(if 0≤x5 then(if(bt x0 x5)=40 then(z4_.j1 k x0 x5)else(z4_.l0 k x0 (wrap64 (x5 + 1))))else(none))else(z4_.j1 k x0 x5)
end
def z4_.f (k:Nat) (a0:ByteArray):Option (ByteArray×List ByteArray×Bool):=z4_.l0 k a0 0
def z4_.T21:Bool×List (List Nat×List Nat):=(true,[([],[]),([],[]),([0,1],[0,1]),([],[]),([],[]),([],[]),([],[]),([4,5,6],[4,5,6]),([7],[7]),([3,8],[3,8]),([],[]),([],[]),([11],[11]),([12],[12]),([10,13],[10,13]),([2,9,0,1,2],[2]),([9,15,0,1,2,3,4,5,6,7,8,9,15],[9]),([14,16,0,1,2,3,4,5,6,7,8,9,10,11,12,13,14,15,16],[14])])
def z4_.B21:List Nat:=[0,0,3,0,0,0,0,112,240,504,0,0,2048,6144,15360,1023,33791,131071]
theorem z4_.tab21:rtab .any (opsOf Tryz.f93 21)=z4_.T21:=by kernel_rfl
theorem z4_.bits21:waitsOk z4_.T21.2 z4_.B21=true:=by kernel_rfl
set_option maxHeartbeats 8000000 in
set_option maxRecDepth 100000 in
theorem z4_.calls (k:Nat) (a0:ByteArray) (r1:ByteArray) (r2:List ByteArray) (r3:Bool) (w:World) (h:z4_.f k a0=some (r1,r2,r3)) :
  Calls Tryz.prog 93 #[.string a0] w fun e w'=>∃ v1_:Value,e=.returned (.tuple #[.string r1,v1_,.bool r3])∧Kd.R Kd.string 9 w' w.heap.size (fun _=>True) v1_ r2∧Below w.heap.size w w':=by
 have HB:=y0.mk (Below.refl w.heap.size w)
 have H:(z4_.l0 k a0 0)=some (r1,r2,r3):=h
 clear h
 have Cy:=y0.mk H
 clear H
 go_enter Tryz.func93,Tryz.ntmps93
 go_upto_block 0 with(fail)
 go_cut [5] (fun v5 wc=>∃(kq:Nat) (Ac:Int),v5=.int .i64 Ac∧y0 (z4_.j1 kq a0 Ac=some (r1,r2,r3))∧y0 (kq≤k)∧y0 (Below w.heap.size w wc))
 case first =>
  have H:=Cy.out
  clear Cy
  have H':=y0.mk H
  clear H
  go_wp2
  go_loopg [5] k (fun kq v5 w'=>∃(Ac:Int),v5=.int .i64 Ac∧y0 (z4_.l0 kq a0 Ac=some (r1,r2,r3))∧y0 (kq≤k)∧y0 (Below w.heap.size w w'))
  case atStart=>exact⟨(0),qy2,H',⟨Nat.le_refl _⟩,⟨qb⟩⟩
  case round =>
   clear H'
   obtain⟨Ac,rfl,HA,Cw,HB⟩:=hrel
   cases gk with
   | zero=>exact absurd HA.out (by simp [z4_.l0])
   | succ k1 =>
    have H:=HA.out
    clear HA
    simp only [z4_.l0]at H
    by_cases c3:Ac < (a0.size:Int)
    ·rw [if_pos c3]at H
     have Bc:=decide_eq_true c3
     clear c3
     (first|rw [Bc]|(simp only [i64_w,i32_w];rw [Bc])|skip)
     obtain⟨c4,H⟩:=qo H
     have Eh:decide (0≤Ac)=true:=decide_eq_true c4
     clear c4
     by_cases c6:(bt a0 Ac)=40
     ·rw [if_pos c6]at H
      have Cz:((bt a0 Ac) == 40)=true:=beq_iff_eq.mpr c6
      have Da:((bt a0 Ac) != 40)=false:=bne_eq_false_iff_eq.mpr c6
      clear c6
      have H':=y0.mk H
      clear H
      have p5:0≤(Ac:Int):=of_decide_eq_true qy1
      have q5:Ac < (a0.size:Int):=of_decide_eq_true qy1
      have Ei:=bt_at a0 Ac
      replace p5:=eq_true p5
      replace q5:=eq_true q5
      go_wp2
      go_meet
      exact⟨_,(Ac),qy2,H',⟨by have:=Cw.out;first|omega|exact Nat.le_refl _⟩,⟨qb⟩⟩
     ·rw [if_neg c6]at H
      have Cz:((bt a0 Ac) == 40)=false:=beq_eq_false_iff_ne.mpr c6
      have Da:((bt a0 Ac) != 40)=true:=bne_iff_ne.mpr c6
      have H':=y0.mk H
      clear H
      have p5:0≤(Ac:Int):=of_decide_eq_true qy1
      have q5:Ac < (a0.size:Int):=of_decide_eq_true qy1
      have Ei:=bt_at a0 Ac
      replace p5:=eq_true p5
      replace q5:=eq_true q5
      go_wp2
      go_roundg k1
      case measure=>have:=Cw.out;omega
      exact⟨(wrap64 (Ac + 1)),qy2,H',⟨by have:=Cw.out;omega⟩,⟨qb⟩⟩
    ·rw [if_neg c3]at H
     have Bc:=decide_eq_false c3
     clear c3
     (first|rw [Bc]|(simp only [i64_w,i32_w];rw [Bc])|skip)
     have H':=y0.mk H
     clear H
     go_wp2
     go_meet
     exact⟨_,(Ac),qy2,H',⟨by have:=Cw.out;first|omega|exact Nat.le_refl _⟩,⟨qb⟩⟩
 case rest =>
  clear Cy
  obtain⟨kq,Ac,rfl,HA,Aw,HB⟩:=hcut
  cases kq with
  | zero=>exact absurd HA.out (by simp [z4_.j1])
  | succ Db =>
   have H:=HA.out
   clear HA
   simp only [z4_.j1]at H
   by_cases c7:Ac=(a0.size:Int)
   ·rw [if_pos c7]at H
    have Bt:(Ac == (a0.size:Int))=true:=beq_iff_eq.mpr c7
    have Bu:(Ac != (a0.size:Int))=false:=bne_eq_false_iff_eq.mpr c7
    clear c7
    obtain⟨Dc,Aj⟩:∃ y_:List ByteArray,y_=(([]:List ByteArray)):=⟨_,rfl⟩
    replace H:(some (a0,Dc,true))=some (r1,r2,r3):=by first|(rw [Aj];with_reducible exact H)|(have H2_:=(Option.bind_some _ _).symm.trans H;rw [Aj];with_reducible exact H2_)|(have H2_:=(Option.bind_some _ _).symm.trans H;with_reducible exact H2_)|with_reducible exact H|(rw [Aj];exact H)|exact H
    have Bh:=y0.mk Aj
    clear Aj
    simp only [Option.some.injEq,Prod.mk.injEq]at H
    obtain⟨rfl,rfl,rfl⟩:=H
    go_wp2_with (first|((with_reducible refine y20 (N:=28) rfl ?_);refine qL Kd.string 9 28 ([]:List ByteArray) ?_;intro Ej w8 Bv hb hg_ hnew_;clear hg_ hnew_;(first|rw [← Bh.out]at Bv|(simp only [Int.reduceToNat]at Bv;rw [← Bh.out]at Bv));have Bw:=y0.mk (Kd.R_lower Bv (y7 qb));replace HB:=y0.mk (y8 qb hb);clear hb Bv))
    go_ret3
    exact⟨_,by first|rfl|(simp [y17,y18] <;> rfl)|(simp [*,y17,y18] <;> rfl),by(with_reducible repeat(first|apply Kd.R_alloc|apply Kd.R_drewN|apply Kd.R_drew));exact Bw.out,qb⟩
   ·rw [if_neg c7]at H
    have Bt:(Ac == (a0.size:Int))=false:=beq_eq_false_iff_ne.mpr c7
    have Bu:(Ac != (a0.size:Int))=true:=bne_iff_ne.mpr c7
    obtain⟨Bx,Ak⟩:∃ y_:List ByteArray,y_=(([]:List ByteArray)):=⟨_,rfl⟩
    replace H:(z4_.l1 Db a0 Ac Bx 0 false (wrap64 (Ac + 1)) Ac)=some (r1,r2,r3):=by first|(rw [Ak];with_reducible exact H)|(have H2_:=(Option.bind_some _ _).symm.trans H;rw [Ak];with_reducible exact H2_)|(have H2_:=(Option.bind_some _ _).symm.trans H;with_reducible exact H2_)|with_reducible exact H|(rw [Ak];exact H)|exact H
    have Bi:=y0.mk Ak
    clear Ak
    have H':=y0.mk H
    clear H
    go_wp2_with (first|((with_reducible refine y20 (N:=29) rfl ?_);refine qL Kd.string 9 29 ([]:List ByteArray) ?_;intro Ek Ep Bd hb hg_ hnew_;clear hg_ hnew_;(first|rw [← Bi.out]at Bd|(simp only [Int.reduceToNat]at Bd;rw [← Bi.out]at Bd));have Bz:=y0.mk (Kd.R_lower Bd (y7 qb));replace HB:=y0.mk (y8 qb hb);clear hb Bd))
    go_loopg [6,7,8,9,10] Db (fun kq v6 v7 v8 v9 El w'=>∃(Ag:List ByteArray) (Ad:Int) (Be:Bool) (Af:Int) (Aa:Int),v7=.int .i64 Ad∧v8=.bool Be∧v9=.int .i64 Af∧El=.int .i64 Aa∧y0 (z4_.l1 kq a0 Ac Ag Ad Be Af Aa=some (r1,r2,r3))∧y0 (kq≤Db)∧y0 (Kd.R Kd.string 9 w' w.heap.size (fun _=>True) v6 Ag)∧y0 (Below w.heap.size w w'))
    case atStart=>exact⟨(Bx),(0),(false),(wrap64 (Ac + 1)),(Ac),qy2,qy2,qy2,qy2,H',⟨Nat.le_refl _⟩,⟨qR Bz.out⟩,⟨qb⟩⟩
    case round =>
     clear H'
     (try clear Bt Bu)
     obtain⟨Ag,Ad,Be,Af,Aa,rfl,rfl,rfl,rfl,HA,Ay,Ae,HB⟩:=hrel
     cases gk with
     | zero=>exact absurd HA.out (by simp [z4_.l1])
     | succ k2 =>
      have H:=HA.out
      clear HA
      simp only [z4_.l1]at H
      by_cases Bs:Aa < (a0.size:Int)
      ·rw [if_pos Bs]at H
       have Ca:=decide_eq_true Bs
       clear Bs
       obtain⟨Dn,H⟩:=qo H
       have Do:decide (0≤Aa)=true:=decide_eq_true Dn
       clear Dn
       by_cases Bm:(bt a0 Aa)=34
       ·rw [if_pos Bm]at H
        have Cb:((bt a0 Aa) == 34)=true:=beq_iff_eq.mpr Bm
        have Cc:((bt a0 Aa) != 34)=false:=bne_eq_false_iff_eq.mpr Bm
        clear Bm
        have H':=y0.mk H
        clear H
        have Ah:0≤(Aa:Int):=of_decide_eq_true qy1
        have Ai:Aa < (a0.size:Int):=of_decide_eq_true qy1
        have Av:=bt_at a0 Aa
        replace Ah:=eq_true Ah
        replace Ai:=eq_true Ai
        go_wp2
        go_roundg k2
        case measure=>have:=Aw.out;have:=Ay.out;omega
        exact⟨(Ag),(Ad),(!Be),(Af),(wrap64 (Aa + 1)),qy2,qy2,qy2,qy2,H',⟨by have:=Aw.out;have:=Ay.out;omega⟩,⟨qR Ae.out⟩,⟨qb⟩⟩
       ·rw [if_neg Bm]at H
        have Cb:((bt a0 Aa) == 34)=false:=beq_eq_false_iff_ne.mpr Bm
        have Cc:((bt a0 Aa) != 34)=true:=bne_iff_ne.mpr Bm
        by_cases Cx:Be=true
        ·subst Cx
         replace H:=qT H
         have H':=y0.mk H
         clear H
         have Ah:0≤(Aa:Int):=of_decide_eq_true qy1
         have Ai:Aa < (a0.size:Int):=of_decide_eq_true qy1
         have Av:=bt_at a0 Aa
         replace Ah:=eq_true Ah
         replace Ai:=eq_true Ai
         go_wp2
         go_roundg k2
         case measure=>have:=Aw.out;have:=Ay.out;omega
         exact⟨(Ag),(Ad),(true),(Af),(wrap64 (Aa + 1)),qy2,qy2,qy2,qy2,H',⟨by have:=Aw.out;have:=Ay.out;omega⟩,⟨qR Ae.out⟩,⟨qb⟩⟩
        ·replace Cx:=Bool.eq_false_iff.mpr Cx
         subst Cx
         replace H:=qF H
         by_cases Bn:(bt a0 Aa)=40
         ·rw [if_pos Bn]at H
          have Cd:((bt a0 Aa) == 40)=true:=beq_iff_eq.mpr Bn
          have Ce:((bt a0 Aa) != 40)=false:=bne_eq_false_iff_eq.mpr Bn
          clear Bn
          have H':=y0.mk H
          clear H
          have Ah:0≤(Aa:Int):=of_decide_eq_true qy1
          have Ai:Aa < (a0.size:Int):=of_decide_eq_true qy1
          have Av:=bt_at a0 Aa
          replace Ah:=eq_true Ah
          replace Ai:=eq_true Ai
          have Al:0≤(Aa:Int):=of_decide_eq_true qy1
          have Am:Aa < (a0.size:Int):=of_decide_eq_true qy1
          have Bf:=bt_at a0 Aa
          replace Al:=eq_true Al
          replace Am:=eq_true Am
          go_wp2
          go_roundg k2
          case measure=>have:=Aw.out;have:=Ay.out;omega
          exact⟨(Ag),(wrap64 (Ad + 1)),(false),(Af),(wrap64 (Aa + 1)),qy2,qy2,qy2,qy2,H',⟨by have:=Aw.out;have:=Ay.out;omega⟩,⟨qR Ae.out⟩,⟨qb⟩⟩
         ·rw [if_neg Bn]at H
          have Cd:((bt a0 Aa) == 40)=false:=beq_eq_false_iff_ne.mpr Bn
          have Ce:((bt a0 Aa) != 40)=true:=bne_iff_ne.mpr Bn
          by_cases Bo:(bt a0 Aa)=41
          ·rw [if_pos Bo]at H
           have Cf:((bt a0 Aa) == 41)=true:=beq_iff_eq.mpr Bo
           have Cg:((bt a0 Aa) != 41)=false:=bne_eq_false_iff_eq.mpr Bo
           clear Bo
           by_cases Bp:(wrap64 (Ad - 1))=0
           ·rw [if_pos Bp]at H
            have Ch:((wrap64 (Ad - 1)) == 0)=true:=beq_iff_eq.mpr Bp
            have Ci:((wrap64 (Ad - 1)) != 0)=false:=bne_eq_false_iff_eq.mpr Bp
            clear Bp
            obtain⟨Dd,H⟩:=qo H
            have Dp:=eq_true Dd
            have Dq:=decide_eq_true Dd
            clear Dd
            obtain⟨De,H⟩:=qo H
            have Dr:=eq_true De
            have Ds:=decide_eq_true De
            clear De
            obtain⟨Df,H⟩:=qo H
            have Dt:=eq_true Df
            have Du:=decide_eq_true Df
            clear Df
            obtain⟨Dg,H⟩:=qo H
            have Dv:=eq_true Dg
            have Dw:=decide_eq_true Dg
            clear Dg
            obtain⟨Dh,H⟩:=qo H
            have Dx:=eq_true Dh
            have Dy:=decide_eq_true Dh
            clear Dh
            obtain⟨Dz,H⟩:=qo H
            have Cj:=y0.mk Dz
            clear Dz
            obtain⟨Di,Ap⟩:∃ y_:List ByteArray,y_=(Ag ++ [a0.extract (Af:Int).toNat (Aa:Int).toNat]):=⟨_,rfl⟩
            replace H:(some (a0.extract 0 (Ac:Int).toNat,Di,(Aa == (wrap64 ((a0.size:Int) - 1)))))=some (r1,r2,r3):=by first|(rw [Ap];with_reducible exact H)|(have H2_:=(Option.bind_some _ _).symm.trans H;rw [Ap];with_reducible exact H2_)|(have H2_:=(Option.bind_some _ _).symm.trans H;with_reducible exact H2_)|with_reducible exact H|(rw [Ap];exact H)|exact H
            have Ck:=y0.mk Ap
            clear Ap
            simp only [Option.some.injEq,Prod.mk.injEq]at H
            obtain⟨rfl,rfl,rfl⟩:=H
            have Ah:0≤(Aa:Int):=of_decide_eq_true qy1
            have Ai:Aa < (a0.size:Int):=of_decide_eq_true qy1
            have Av:=bt_at a0 Aa
            replace Ah:=eq_true Ah
            replace Ai:=eq_true Ai
            have Al:0≤(Aa:Int):=of_decide_eq_true qy1
            have Am:Aa < (a0.size:Int):=of_decide_eq_true qy1
            have Bf:=bt_at a0 Aa
            replace Al:=eq_true Al
            replace Am:=eq_true Am
            have Az:0≤(Aa:Int):=of_decide_eq_true qy1
            have Ba:Aa < (a0.size:Int):=of_decide_eq_true qy1
            have Bg:=bt_at a0 Aa
            replace Az:=eq_true Az
            replace Ba:=eq_true Ba
            try go_wp2
            replace Ae:=y0.mk (Kd.R_drew Ae.out)
            replace HB:=y0.mk (y5 HB.out)
            refine start_ (n:=18) (S:=fun w'=>True) (ds:=[]) (fl_ 18 0) (by kernel_rfl) rfl rfl trivial (fun hHeld=>?_);refine with_tabW z4_.tab21 z4_.bits21 (fun HT_ HW_=>?_)
            generalize wr.drew=Er at Ae HB hHeld ⊢
            refine qp6 0 64 18 ?_
            refine qp2 6 70 18 ?_
            refine qp 10 74 (fl_ 18 1279) ?_
            refine qp 11 75 (fl_ 18 3327) ?_
            refine qp 12 76 (fl_ 18 7423) ?_
            refine qp 13 77 (fl_ 18 15615) ?_
            refine qp 14 78 (fl_ 18 31999) ?_
            refine qO 8 72 (fl_ 18 32255) (fun K hK=>?_)
            refine value_ (w1:=?_) (v:=?_) (by rfl) rfl ?_ ?_
            rotate_left 2
            ·go_simp
             constructor
             ·rfl
             ·rfl
            refine hK.out _ _ trivial (fun hHeld=>?_)
            clear hK K
            refine qx 72 ?_
            refine qO 9 73 (fl_ 18 32767) (fun K hK=>?_)
            refine Kd.R_append_step Kd.string (w0:=w) w.heap.size (by rfl) (.tmp 67) (.tmp 72) 25 9 (.string ⟨#[]⟩) 16 rfl Tryz.underlying25 info9 rfl (by decide) (by omega) u6 Ag (a0.extract (Af:Int).toNat (Aa:Int).toNat) [.string (a0.extract (Af:Int).toNat (Aa:Int).toNat)] (fun _=>True) (fun _=>False) rfl rfl ?aP (fun _ hk=>hk.elim) ?aF ?aO ?aB ?aS ?aL ?_
            (case aP=>exact rfl)
            (case aB=>exact qb)
            (case aF=>exact(fun _ _=>trivial))
            (case aO=>exact(qR Ae.out))
            (case aS=>exact(y7 qb))
            (case aL=>have:=Cj.out;omega)
            intro Em Es ho hb hg hat
            rw [← Ck.out]at ho
            replace HB:=y0.mk (hb)
            have Cl:=y0.mk (ho)
            clear Ae
            clear ho hb hg hat
            refine hK.out _ _ trivial (fun hHeld=>?_)
            clear hK K
            refine qx 73 ?_
            refine qp3 15 2 18 ?_
            refine done_ (done_of HT_.out (by kernel_rfl)) ?_
            try go_wp2
            go_ret3
            exact⟨_,by first|rfl|(simp [y17,y18] <;> rfl)|(simp [*,y17,y18] <;> rfl),by(with_reducible repeat(first|apply Kd.R_alloc|apply Kd.R_drewN|apply Kd.R_drew));exact Cl.out,qb⟩
           ·rw [if_neg Bp]at H
            have Ch:((wrap64 (Ad - 1)) == 0)=false:=beq_eq_false_iff_ne.mpr Bp
            have Ci:((wrap64 (Ad - 1)) != 0)=true:=bne_iff_ne.mpr Bp
            have H':=y0.mk H
            clear H
            have Ah:0≤(Aa:Int):=of_decide_eq_true qy1
            have Ai:Aa < (a0.size:Int):=of_decide_eq_true qy1
            have Av:=bt_at a0 Aa
            replace Ah:=eq_true Ah
            replace Ai:=eq_true Ai
            have Al:0≤(Aa:Int):=of_decide_eq_true qy1
            have Am:Aa < (a0.size:Int):=of_decide_eq_true qy1
            have Bf:=bt_at a0 Aa
            replace Al:=eq_true Al
            replace Am:=eq_true Am
            have Az:0≤(Aa:Int):=of_decide_eq_true qy1
            have Ba:Aa < (a0.size:Int):=of_decide_eq_true qy1
            have Bg:=bt_at a0 Aa
            replace Az:=eq_true Az
            replace Ba:=eq_true Ba
            go_wp2
            go_roundg k2
            case measure=>have:=Aw.out;have:=Ay.out;omega
            exact⟨(Ag),(wrap64 (Ad - 1)),(false),(Af),(wrap64 (Aa + 1)),qy2,qy2,qy2,qy2,H',⟨by have:=Aw.out;have:=Ay.out;omega⟩,⟨qR Ae.out⟩,⟨qb⟩⟩
          ·rw [if_neg Bo]at H
           have Cf:((bt a0 Aa) == 41)=false:=beq_eq_false_iff_ne.mpr Bo
           have Cg:((bt a0 Aa) != 41)=true:=bne_iff_ne.mpr Bo
           by_cases Bq:(bt a0 Aa)=44
           ·rw [if_pos Bq]at H
            have Cm:((bt a0 Aa) == 44)=true:=beq_iff_eq.mpr Bq
            have Cn:((bt a0 Aa) != 44)=false:=bne_eq_false_iff_eq.mpr Bq
            clear Bq
            by_cases Br:Ad=1
            ·rw [if_pos Br]at H
             have Co:(Ad == 1)=true:=beq_iff_eq.mpr Br
             have Cp:(Ad != 1)=false:=bne_eq_false_iff_eq.mpr Br
             clear Br
             obtain⟨Dj,H⟩:=qo H
             have Ea:=eq_true Dj
             have Eb:=decide_eq_true Dj
             clear Dj
             obtain⟨Dk,H⟩:=qo H
             have Ec:=eq_true Dk
             have Ed:=decide_eq_true Dk
             clear Dk
             obtain⟨Dl,H⟩:=qo H
             have Ee:=eq_true Dl
             have Ef:=decide_eq_true Dl
             clear Dl
             obtain⟨Eg,H⟩:=qo H
             have Cq:=y0.mk Eg
             clear Eg
             obtain⟨Cr,Aq⟩:∃ y_:List ByteArray,y_=(Ag ++ [a0.extract (Af:Int).toNat (Aa:Int).toNat]):=⟨_,rfl⟩
             replace H:(z4_.l1 k2 a0 Ac Cr Ad false (wrap64 (Aa + 1)) (wrap64 (Aa + 1)))=some (r1,r2,r3):=by first|(rw [Aq];with_reducible exact H)|(have H2_:=(Option.bind_some _ _).symm.trans H;rw [Aq];with_reducible exact H2_)|(have H2_:=(Option.bind_some _ _).symm.trans H;with_reducible exact H2_)|with_reducible exact H|(rw [Aq];exact H)|exact H
             have Cs:=y0.mk Aq
             clear Aq
             have H':=y0.mk H
             clear H
             have Ah:0≤(Aa:Int):=of_decide_eq_true qy1
             have Ai:Aa < (a0.size:Int):=of_decide_eq_true qy1
             have Av:=bt_at a0 Aa
             replace Ah:=eq_true Ah
             replace Ai:=eq_true Ai
             have Al:0≤(Aa:Int):=of_decide_eq_true qy1
             have Am:Aa < (a0.size:Int):=of_decide_eq_true qy1
             have Bf:=bt_at a0 Aa
             replace Al:=eq_true Al
             replace Am:=eq_true Am
             have Az:0≤(Aa:Int):=of_decide_eq_true qy1
             have Ba:Aa < (a0.size:Int):=of_decide_eq_true qy1
             have Bg:=bt_at a0 Aa
             replace Az:=eq_true Az
             replace Ba:=eq_true Ba
             have Bj:0≤(Aa:Int):=of_decide_eq_true qy1
             have Bk:Aa < (a0.size:Int):=of_decide_eq_true qy1
             have Ct:=bt_at a0 Aa
             replace Bj:=eq_true Bj
             replace Bk:=eq_true Bk
             go_wp2_with (first|((with_reducible refine gate_builtin (b:=.append) (xs:=#[.tmp 88,.tmp 93]) rfl ?_);at_builtin;refine Kd.R_append Kd.string (w0:=w) w.heap.size rfl (.tmp 88) (.tmp 93) 25 9 (.string ⟨#[]⟩) 16 rfl Tryz.underlying25 info9 rfl (by decide) (by omega) u6 Ag (a0.extract (Af:Int).toNat (Aa:Int).toNat) [.string (a0.extract (Af:Int).toNat (Aa:Int).toNat)] (fun _=>True) (fun _=>False) rfl rfl ?aP (fun _ hk=>hk.elim) ?aF ?aO ?aB ?aS ?aL ?_;(case aP=>exact rfl);(case aB=>exact qb);(case aF=>exact(fun _ _=>trivial));(case aO=>exact(qR Ae.out));(case aS=>exact(y7 qb));(case aL=>have:=Cq.out;omega);intro En Et ho hb hg hat;rw [← Cs.out]at ho;replace HB:=y0.mk (hb);have Cu:=y0.mk (ho);clear Ae;clear ho hb hg hat))
             go_roundg k2
             case measure=>have:=Aw.out;have:=Ay.out;omega
             exact⟨(Cr),(Ad),(false),(wrap64 (Aa + 1)),(wrap64 (Aa + 1)),qy2,qy2,qy2,qy2,H',⟨by have:=Aw.out;have:=Ay.out;omega⟩,⟨qR Cu.out⟩,⟨qb⟩⟩
            ·rw [if_neg Br]at H
             have Co:(Ad == 1)=false:=beq_eq_false_iff_ne.mpr Br
             have Cp:(Ad != 1)=true:=bne_iff_ne.mpr Br
             have H':=y0.mk H
             clear H
             have Ah:0≤(Aa:Int):=of_decide_eq_true qy1
             have Ai:Aa < (a0.size:Int):=of_decide_eq_true qy1
             have Av:=bt_at a0 Aa
             replace Ah:=eq_true Ah
             replace Ai:=eq_true Ai
             have Al:0≤(Aa:Int):=of_decide_eq_true qy1
             have Am:Aa < (a0.size:Int):=of_decide_eq_true qy1
             have Bf:=bt_at a0 Aa
             replace Al:=eq_true Al
             replace Am:=eq_true Am
             have Az:0≤(Aa:Int):=of_decide_eq_true qy1
             have Ba:Aa < (a0.size:Int):=of_decide_eq_true qy1
             have Bg:=bt_at a0 Aa
             replace Az:=eq_true Az
             replace Ba:=eq_true Ba
             have Bj:0≤(Aa:Int):=of_decide_eq_true qy1
             have Bk:Aa < (a0.size:Int):=of_decide_eq_true qy1
             have Ct:=bt_at a0 Aa
             replace Bj:=eq_true Bj
             replace Bk:=eq_true Bk
             go_wp2
             go_roundg k2
             case measure=>have:=Aw.out;have:=Ay.out;omega
             exact⟨(Ag),(Ad),(false),(Af),(wrap64 (Aa + 1)),qy2,qy2,qy2,qy2,H',⟨by have:=Aw.out;have:=Ay.out;omega⟩,⟨qR Ae.out⟩,⟨qb⟩⟩
           ·rw [if_neg Bq]at H
            have Cm:((bt a0 Aa) == 44)=false:=beq_eq_false_iff_ne.mpr Bq
            have Cn:((bt a0 Aa) != 44)=true:=bne_iff_ne.mpr Bq
            have H':=y0.mk H
            clear H
            have Ah:0≤(Aa:Int):=of_decide_eq_true qy1
            have Ai:Aa < (a0.size:Int):=of_decide_eq_true qy1
            have Av:=bt_at a0 Aa
            replace Ah:=eq_true Ah
            replace Ai:=eq_true Ai
            have Al:0≤(Aa:Int):=of_decide_eq_true qy1
            have Am:Aa < (a0.size:Int):=of_decide_eq_true qy1
            have Bf:=bt_at a0 Aa
            replace Al:=eq_true Al
            replace Am:=eq_true Am
            have Az:0≤(Aa:Int):=of_decide_eq_true qy1
            have Ba:Aa < (a0.size:Int):=of_decide_eq_true qy1
            have Bg:=bt_at a0 Aa
            replace Az:=eq_true Az
            replace Ba:=eq_true Ba
            have Bj:0≤(Aa:Int):=of_decide_eq_true qy1
            have Bk:Aa < (a0.size:Int):=of_decide_eq_true qy1
            have Ct:=bt_at a0 Aa
            replace Bj:=eq_true Bj
            replace Bk:=eq_true Bk
            go_wp2
            go_roundg k2
            case measure=>have:=Aw.out;have:=Ay.out;omega
            exact⟨(Ag),(Ad),(false),(Af),(wrap64 (Aa + 1)),qy2,qy2,qy2,qy2,H',⟨by have:=Aw.out;have:=Ay.out;omega⟩,⟨qR Ae.out⟩,⟨qb⟩⟩
      ·rw [if_neg Bs]at H
       have Ca:=decide_eq_false Bs
       clear Bs
       obtain⟨Dm,Au⟩:∃ y_:List ByteArray,y_=(([]:List ByteArray)):=⟨_,rfl⟩
       replace H:(some ((⟨#[]⟩:ByteArray),Dm,false))=some (r1,r2,r3):=by first|(rw [Au];with_reducible exact H)|(have H2_:=(Option.bind_some _ _).symm.trans H;rw [Au];with_reducible exact H2_)|(have H2_:=(Option.bind_some _ _).symm.trans H;with_reducible exact H2_)|with_reducible exact H|(rw [Au];exact H)|exact H
       have Bl:=y0.mk Au
       clear Au
       simp only [Option.some.injEq,Prod.mk.injEq]at H
       obtain⟨rfl,rfl,rfl⟩:=H
       go_wp2_with (first|((with_reducible refine y20 (N:=97) rfl ?_);refine qL Kd.string 9 97 ([]:List ByteArray) ?_;intro Eo Eu Bb hb hg_ hnew_;clear hg_ hnew_;(first|rw [← Bl.out]at Bb|(simp only [Int.reduceToNat]at Bb;rw [← Bl.out]at Bb));have Cv:=y0.mk (Kd.R_lower (Kd.R_new' Bb (Kd.R_lt (qR Ae.out))) (y7 qb));replace Ae:=y0.mk (Kd.R_elder' (qR Ae.out) (Kd.R_base Bb) hb);replace HB:=y0.mk (y8 qb hb);clear hb Bb))
       go_ret3
       exact⟨_,by first|rfl|(simp [y17,y18] <;> rfl)|(simp [*,y17,y18] <;> rfl),by(with_reducible repeat(first|apply Kd.R_alloc|apply Kd.R_drewN|apply Kd.R_drew));exact Kd.R_mono Cv.out (fun _ hk=>trivial),qb⟩
end Go.Proofs.YtkajecadkkgfmaaGreatDoor.Pn
end
section
namespace Go.Proofs.YtkajecadkkgfmaaGreatDoor.Pn
open Go.RowKit Go.Proofs.YtkajecadkkgfmaaGreatDoorW.PrintWords Go.Proofs.YtkajecadkkgfmaaGreatDoorW.PrintLast Go.Proofs.YtkajecadkkgfmaaGreatDoorW.PrintMore
attribute [local go_sem] max2_int min2_int max_two min_two max_three min_three max_four min_four   -- for this text's walks alone
set_option linter.unusedVariables false
set_option linter.unusedSimpArgs false
def spec_l01Big.f (a0:Int):Option (Bool):=if a0≥65 then(some (decide (a0≤90)))else(some false)
set_option maxHeartbeats 8000000 in
set_option maxRecDepth 100000 in
theorem spec_l01Big.calls (a0:Int) (r:Bool) (w:World) (h:spec_l01Big.f a0=some r) :
  Calls Tryz.prog 115 #[.int .u8 a0] w fun e w'=>e=.returned (.bool r)∧y1 w w':=by
 have H:(if a0≥65 then(some (decide (a0≤90)))else(some false))=some r:=h
 clear h
 by_cases c2:a0≥65
 ·rw [if_pos c2]at H
  have c2b0:decide (65≤a0)=true:=decide_eq_true c2
  clear c2
  obtain rfl:=Option.some.inj H
  go_enter Tryz.func115,Tryz.ntmps115
  go_wp2
  go_ret
  exact qf2
 ·rw [if_neg c2]at H
  have c2b0:decide (65≤a0)=false:=decide_eq_false c2
  clear c2
  obtain rfl:=Option.some.inj H
  go_enter Tryz.func115,Tryz.ntmps115
  go_wp2
  go_ret
  exact qf2
def spec_l01Small.f (a0:Int):Option (Bool):=if a0≥97 then(some (decide (a0≤122)))else(some false)
set_option maxHeartbeats 8000000 in
set_option maxRecDepth 100000 in
theorem spec_l01Small.calls (a0:Int) (r:Bool) (w:World) (h:spec_l01Small.f a0=some r) :
  Calls Tryz.prog 116 #[.int .u8 a0] w fun e w'=>e=.returned (.bool r)∧y1 w w':=by
 have H:(if a0≥97 then(some (decide (a0≤122)))else(some false))=some r:=h
 clear h
 by_cases c2:a0≥97
 ·rw [if_pos c2]at H
  have c2b0:decide (97≤a0)=true:=decide_eq_true c2
  clear c2
  obtain rfl:=Option.some.inj H
  go_enter Tryz.func116,Tryz.ntmps116
  go_wp2
  go_ret
  exact qf2
 ·rw [if_neg c2]at H
  have c2b0:decide (97≤a0)=false:=decide_eq_false c2
  clear c2
  obtain rfl:=Option.some.inj H
  go_enter Tryz.func116,Tryz.ntmps116
  go_wp2
  go_ret
  exact qf2
def spec_l01Letter.f (a0:Int):Option (Bool):=(spec_l01Small.f a0).bind fun t175=>(if t175=true then(some true)else((spec_l01Big.f a0).bind fun t176=>(if t176=true then(some true)else((spec_l01Digit.f a0).bind fun t177=>(if t177=true then(some true)else(some (a0 == 95)))))))
set_option maxHeartbeats 8000000 in
set_option maxRecDepth 100000 in
theorem spec_l01Letter.calls (a0:Int) (r:Bool) (w:World) (h:spec_l01Letter.f a0=some r) :
  Calls Tryz.prog 117 #[.int .u8 a0] w fun e w'=>e=.returned (.bool r)∧y1 w w':=by
 have H:((spec_l01Small.f a0).bind fun Aa=>(if Aa=true then(some true)else((spec_l01Big.f a0).bind fun Ac=>(if Ac=true then(some true)else((spec_l01Digit.f a0).bind fun Ad=>(if Ad=true then(some true)else(some (a0 == 95))))))))=some r:=h
 clear h
 obtain⟨Aa,A2,H⟩:=qB H
 by_cases c3:Aa=true
 ·subst c3
  replace H:=qT H
  obtain rfl:=Option.some.inj H
  go_enter Tryz.func117,Tryz.ntmps117
  go_wp2_with (first|((with_reducible refine y19 (f:=116) rfl ?_);refine y22 (some 4) rfl rfl Tryz.func116 (by kernel_rfl) rfl #[.int .u8 a0] rfl qy0 ?_;(with_reducible refine(spec_l01Small.calls a0 true _ A2.out).mono ?_);rintro e w' ⟨rfl,⟨nd,rfl⟩⟩;refine⟨_,rfl, ?_⟩))
  go_ret
  exact qf2
 ·replace c3:=Bool.eq_false_iff.mpr c3
  subst c3
  replace H:=qF H
  obtain⟨Ac,A4,H⟩:=qB H
  by_cases c5:Ac=true
  ·subst c5
   replace H:=qT H
   obtain rfl:=Option.some.inj H
   go_enter Tryz.func117,Tryz.ntmps117
   go_wp2_with (first|((with_reducible refine y19 (f:=116) rfl ?_);refine y22 (some 4) rfl rfl Tryz.func116 (by kernel_rfl) rfl #[.int .u8 a0] rfl qy0 ?_;(with_reducible refine(spec_l01Small.calls a0 false _ A2.out).mono ?_);rintro e w' ⟨rfl,⟨nd,rfl⟩⟩;refine⟨_,rfl, ?_⟩)|(go_at_call 115;(with_reducible refine(spec_l01Big.calls a0 true _ A4.out).mono ?_);rintro e w' ⟨rfl,⟨nd,rfl⟩⟩))
   go_ret
   exact qf2
  ·replace c5:=Bool.eq_false_iff.mpr c5
   subst c5
   replace H:=qF H
   obtain⟨Ad,A6,H⟩:=qB H
   by_cases c7:Ad=true
   ·subst c7
    replace H:=qT H
    obtain rfl:=Option.some.inj H
    go_enter Tryz.func117,Tryz.ntmps117
    go_wp2_with (first|((with_reducible refine y19 (f:=116) rfl ?_);refine y22 (some 4) rfl rfl Tryz.func116 (by kernel_rfl) rfl #[.int .u8 a0] rfl qy0 ?_;(with_reducible refine(spec_l01Small.calls a0 false _ A2.out).mono ?_);rintro e w' ⟨rfl,⟨nd,rfl⟩⟩;refine⟨_,rfl, ?_⟩)|(go_at_call 115;(with_reducible refine(spec_l01Big.calls a0 false _ A4.out).mono ?_);rintro e w' ⟨rfl,⟨nd,rfl⟩⟩)|(go_at_call 114;(with_reducible refine(spec_l01Digit.calls a0 true _ A6.out).mono ?_);rintro e w' ⟨rfl,⟨nd,rfl⟩⟩))
    go_ret
    exact qf2
   ·replace c7:=Bool.eq_false_iff.mpr c7
    subst c7
    replace H:=qF H
    obtain rfl:=Option.some.inj H
    go_enter Tryz.func117,Tryz.ntmps117
    go_wp2_with (first|((with_reducible refine y19 (f:=116) rfl ?_);refine y22 (some 4) rfl rfl Tryz.func116 (by kernel_rfl) rfl #[.int .u8 a0] rfl qy0 ?_;(with_reducible refine(spec_l01Small.calls a0 false _ A2.out).mono ?_);rintro e w' ⟨rfl,⟨nd,rfl⟩⟩;refine⟨_,rfl, ?_⟩)|(go_at_call 115;(with_reducible refine(spec_l01Big.calls a0 false _ A4.out).mono ?_);rintro e w' ⟨rfl,⟨nd,rfl⟩⟩)|(go_at_call 114;(with_reducible refine(spec_l01Digit.calls a0 false _ A6.out).mono ?_);rintro e w' ⟨rfl,⟨nd,rfl⟩⟩))
    go_ret
    exact qf2
mutual
def spec_l01Name.j0:Nat→ByteArray→Bool→Option (Bool)
 | 0,_,_=>none
 | k + 1,x0,x28=>if x28=true then(some false)else(spec_l01Name.l0 k x0 0)
def spec_l01Name.l0:Nat→ByteArray→Int→Option (Bool)
 | 0,_,_=>none
 | k + 1,x0,x5=>if x5 < (x0.size:Int)then(if 0≤x5 then((spec_l01Letter.f (bt x0 x5)).bind fun t181=>(if t181=true then(spec_l01Name.l0 k x0 (wrap64 (x5 + 1)))else(some false)))else(none))else(some true)
end
def spec_l01Name.f (k:Nat) (a0:ByteArray) (a1:Bool):Option (Bool):=(spec_l01Between.f (a0.size:Int) 1 20).bind fun t178=>(if t178=true then(if a1=true then(if 0 < (a0.size:Int)then((spec_l01Big.f (bt a0 0)).bind fun t179=>(if t179=true then(spec_l01Name.j0 k a0 false)else(spec_l01Name.j0 k a0 true)))else(none))else(if 0 < (a0.size:Int)then((spec_l01Small.f (bt a0 0)).bind fun t180=>(spec_l01Name.j0 k a0 (!t180)))else(none)))else(spec_l01Name.j0 k a0 true))
set_option maxHeartbeats 8000000 in
set_option maxRecDepth 100000 in
theorem spec_l01Name.calls (k:Nat) (a0:ByteArray) (a1:Bool) (r:Bool) (w:World) (h:spec_l01Name.f k a0 a1=some r) :
  Calls Tryz.prog 94 #[.string a0,.bool a1] w fun e w'=>e=.returned (.bool r)∧y1 w w':=by
 have H:((spec_l01Between.f (a0.size:Int) 1 20).bind fun Ae=>(if Ae=true then(if a1=true then(if 0 < (a0.size:Int)then((spec_l01Big.f (bt a0 0)).bind fun Af=>(if Af=true then(spec_l01Name.j0 k a0 false)else(spec_l01Name.j0 k a0 true)))else(none))else(if 0 < (a0.size:Int)then((spec_l01Small.f (bt a0 0)).bind fun Ad=>(spec_l01Name.j0 k a0 (!Ad)))else(none)))else(spec_l01Name.j0 k a0 true)))=some r:=h
 clear h
 have Aq:=y0.mk H
 clear H
 go_enter Tryz.func94,Tryz.ntmps94
 go_upto_region 1 with(fail)
 go_cut [28] (fun Bh wc=>∃(kq:Nat) (Ac:Bool),Bh=.bool Ac∧y0 (spec_l01Name.j0 kq a0 Ac=some r)∧y0 (kq≤k)∧y1 w wc)
 case first =>
  have H:=Aq.out
  clear Aq
  obtain⟨Ae,A4,H⟩:=qB H
  by_cases c5:Ae=true
  ·subst c5
   replace H:=qT H
   by_cases c6:a1=true
   ·subst c6
    replace H:=qT H
    obtain⟨c7,H⟩:=qo H
    have Ah:decide (0 < (a0.size:Int))=true:=decide_eq_true c7
    have Bi:decide (0 < a0.size)=true:=decide_eq_true (by omega)
    clear c7
    (first|rw [Ah]|(simp only [i64_w,i32_w];rw [Ah])|skip)
    obtain⟨Af,A9,H⟩:=qB H
    by_cases Am:Af=true
    ·subst Am
     replace H:=qT H
     have H':=y0.mk H
     clear H
     go_wp2_with (first|((with_reducible refine y19 (f:=56) rfl ?_);refine y22 (some 8) rfl rfl Tryz.func56 (by kernel_rfl) rfl #[.int .i64 (a0.size:Int),.int .i64 1,.int .i64 20] rfl qy0 ?_;(with_reducible refine(spec_l01Between.calls (a0.size:Int) 1 20 true _ A4.out).mono ?_);rintro e w' ⟨rfl,⟨nd,rfl⟩⟩;refine⟨_,rfl, ?_⟩;have p8:0≤(0:Int):=(by omega);have q8:0 < a0.size:=qy3;have Bj:∀ h:0 < a0.size,((a0[0]'h).toNat:Int)=bt a0 0:=bt_at a0 0;clear p8;have Bk:(0 < (a0.size:Int))=True:=eq_true (of_decide_eq_true qy1);replace q8:=eq_true q8)|(go_at_call 115;(with_reducible refine(spec_l01Big.calls (bt a0 0) true _ A9.out).mono ?_);rintro e w' ⟨rfl,⟨nd,rfl⟩⟩))
     go_meet
     exact⟨_,(false),qy2,H',⟨by first|omega|exact Nat.le_refl _⟩,by repeat(first|exact y1.refl _|apply y1.step)⟩
    ·replace Am:=Bool.eq_false_iff.mpr Am
     subst Am
     replace H:=qF H
     have H':=y0.mk H
     clear H
     go_wp2_with (first|((with_reducible refine y19 (f:=56) rfl ?_);refine y22 (some 8) rfl rfl Tryz.func56 (by kernel_rfl) rfl #[.int .i64 (a0.size:Int),.int .i64 1,.int .i64 20] rfl qy0 ?_;(with_reducible refine(spec_l01Between.calls (a0.size:Int) 1 20 true _ A4.out).mono ?_);rintro e w' ⟨rfl,⟨nd,rfl⟩⟩;refine⟨_,rfl, ?_⟩;have p8:0≤(0:Int):=(by omega);have q8:0 < a0.size:=qy3;have Bj:∀ h:0 < a0.size,((a0[0]'h).toNat:Int)=bt a0 0:=bt_at a0 0;clear p8;have Bk:(0 < (a0.size:Int))=True:=eq_true (of_decide_eq_true qy1);replace q8:=eq_true q8)|(go_at_call 115;(with_reducible refine(spec_l01Big.calls (bt a0 0) false _ A9.out).mono ?_);rintro e w' ⟨rfl,⟨nd,rfl⟩⟩))
     go_meet
     exact⟨_,(true),qy2,H',⟨by first|omega|exact Nat.le_refl _⟩,by repeat(first|exact y1.refl _|apply y1.step)⟩
   ·replace c6:=Bool.eq_false_iff.mpr c6
    subst c6
    replace H:=qF H
    obtain⟨Aw,H⟩:=qo H
    have Ay:decide (0 < (a0.size:Int))=true:=decide_eq_true Aw
    have Az:decide (0 < a0.size)=true:=decide_eq_true (by omega)
    clear Aw
    obtain⟨Ad,Bl,H⟩:=qB H
    have H':=y0.mk H
    clear H
    go_wp2_with (first|((with_reducible refine y19 (f:=56) rfl ?_);refine y22 (some 8) rfl rfl Tryz.func56 (by kernel_rfl) rfl #[.int .i64 (a0.size:Int),.int .i64 1,.int .i64 20] rfl qy0 ?_;(with_reducible refine(spec_l01Between.calls (a0.size:Int) 1 20 true _ A4.out).mono ?_);rintro e w' ⟨rfl,⟨nd,rfl⟩⟩;refine⟨_,rfl, ?_⟩;have Bm:0≤(0:Int):=(by omega);have Ba:0 < a0.size:=qy3;have Bn:∀ h:0 < a0.size,((a0[0]'h).toNat:Int)=bt a0 0:=bt_at a0 0;clear Bm;have Bo:(0 < (a0.size:Int))=True:=eq_true (of_decide_eq_true qy1);replace Ba:=eq_true Ba)|(go_at_call 116;(with_reducible refine(spec_l01Small.calls (bt a0 0) Ad _ Bl.out).mono ?_);rintro e w' ⟨rfl,⟨nd,rfl⟩⟩))
    go_meet
    exact⟨_,(!Ad),qy2,H',⟨by first|omega|exact Nat.le_refl _⟩,by repeat(first|exact y1.refl _|apply y1.step)⟩
  ·replace c5:=Bool.eq_false_iff.mpr c5
   subst c5
   replace H:=qF H
   have H':=y0.mk H
   clear H
   go_wp2_with (first|((with_reducible refine y19 (f:=56) rfl ?_);refine y22 (some 8) rfl rfl Tryz.func56 (by kernel_rfl) rfl #[.int .i64 (a0.size:Int),.int .i64 1,.int .i64 20] rfl qy0 ?_;(with_reducible refine(spec_l01Between.calls (a0.size:Int) 1 20 false _ A4.out).mono ?_);rintro e w' ⟨rfl,⟨nd,rfl⟩⟩;refine⟨_,rfl, ?_⟩))
   go_meet
   exact⟨_,(true),qy2,H',⟨by first|omega|exact Nat.le_refl _⟩,by repeat(first|exact y1.refl _|apply y1.step)⟩
 case rest =>
  clear Aq
  obtain⟨kq,Ac,rfl,HA,Bb,⟨Bp,rfl⟩⟩:=hcut
  cases kq with
  | zero=>exact absurd HA.out (by simp [spec_l01Name.j0])
  | succ Bc =>
   have H:=HA.out
   clear HA
   simp only [spec_l01Name.j0]at H
   by_cases Ai:Ac=true
   ·subst Ai
    replace H:=qT H
    obtain rfl:=Option.some.inj H
    go_wp2
    go_ret
    exact qf2
   ·replace Ai:=Bool.eq_false_iff.mpr Ai
    subst Ai
    replace H:=qF H
    have H':=y0.mk H
    clear H
    go_wp2
    go_loopg [5] Bc (fun kq v5 w'=>∃(Aa:Int),v5=.int .i64 Aa∧y0 (spec_l01Name.l0 kq a0 Aa=some r)∧y0 (kq≤Bc)∧y1 w w')
    case atStart=>exact⟨(0),qy2,H',⟨Nat.le_refl _⟩,by repeat(first|exact y1.refl _|apply y1.step)⟩
    case round =>
     clear H'
     (try clear Ai)
     obtain⟨Aa,rfl,HA,Bd,⟨m2,rfl⟩⟩:=hrel
     cases gk with
     | zero=>exact absurd HA.out (by simp [spec_l01Name.l0])
     | succ k2 =>
      have H:=HA.out
      clear HA
      simp only [spec_l01Name.l0]at H
      by_cases Ag:Aa < (a0.size:Int)
      ·rw [if_pos Ag]at H
       have Aj:=decide_eq_true Ag
       clear Ag
       obtain⟨Be,H⟩:=qo H
       have Bf:decide (0≤Aa)=true:=decide_eq_true Be
       clear Be
       obtain⟨Au,Bg,H⟩:=qB H
       by_cases Ap:Au=true
       ·subst Ap
        replace H:=qT H
        have H':=y0.mk H
        clear H
        have Ak:0≤(Aa:Int):=of_decide_eq_true qy1
        have Al:Aa < (a0.size:Int):=of_decide_eq_true qy1
        have Av:=bt_at a0 Aa
        replace Ak:=eq_true Ak
        replace Al:=eq_true Al
        go_wp2_with (first|((with_reducible refine y19 (f:=117) rfl ?_);refine y22 (some 38) rfl rfl Tryz.func117 (by kernel_rfl) rfl #[.int .u8 (bt a0 Aa)] rfl qy0 ?_;(with_reducible refine(spec_l01Letter.calls (bt a0 Aa) true _ Bg.out).mono ?_);rintro e w' ⟨rfl,⟨nd,rfl⟩⟩;refine⟨_,rfl, ?_⟩))
        go_roundg k2
        case measure=>have:=Bb.out;have:=Bd.out;omega
        exact⟨(wrap64 (Aa + 1)),qy2,H',⟨by have:=Bb.out;have:=Bd.out;omega⟩,by repeat(first|exact y1.refl _|apply y1.step)⟩
       ·replace Ap:=Bool.eq_false_iff.mpr Ap
        subst Ap
        replace H:=qF H
        obtain rfl:=Option.some.inj H
        have Ak:0≤(Aa:Int):=of_decide_eq_true qy1
        have Al:Aa < (a0.size:Int):=of_decide_eq_true qy1
        have Av:=bt_at a0 Aa
        replace Ak:=eq_true Ak
        replace Al:=eq_true Al
        go_wp2_with (first|((with_reducible refine y19 (f:=117) rfl ?_);refine y22 (some 38) rfl rfl Tryz.func117 (by kernel_rfl) rfl #[.int .u8 (bt a0 Aa)] rfl qy0 ?_;(with_reducible refine(spec_l01Letter.calls (bt a0 Aa) false _ Bg.out).mono ?_);rintro e w' ⟨rfl,⟨nd,rfl⟩⟩;refine⟨_,rfl, ?_⟩))
        go_ret
        exact qf2
      ·rw [if_neg Ag]at H
       have Aj:=decide_eq_false Ag
       clear Ag
       obtain rfl:=Option.some.inj H
       go_wp2
       go_ret
       exact qf2
end Go.Proofs.YtkajecadkkgfmaaGreatDoor.Pn
end
section
namespace Go.Proofs.YtkajecadkkgfmaaGreatDoor.Pn
open Go.RowKit Go.Proofs.YtkajecadkkgfmaaGreatDoorW.PrintWords Go.Proofs.YtkajecadkkgfmaaGreatDoorW.PrintLast Go.Proofs.YtkajecadkkgfmaaGreatDoorW.PrintMore
attribute [local go_sem] max2_int min2_int max_two min_two max_three min_three max_four min_four   -- for this text's walks alone
set_option linter.unusedVariables false
set_option linter.unusedSimpArgs false
mutual
def z3_.j0:Nat→ByteArray→Bool→Option (Int)
 | 0,_,_=>none
 | k + 1,x0,x16=>if x16=true then(some 0)else((z9_.f k x0).bind fun bt182=>(if bt182.2=true then(some 1)else(if 0 < (x0.size:Int)then(if(bt x0 0)=34 then((spec_l01Between.f (x0.size:Int) 2 22).bind fun t184=>(if t184=true then(if 0≤(wrap64 ((x0.size:Int) - 1))then(if(wrap64 ((x0.size:Int) - 1)) < (x0.size:Int)then(z3_.j1 k x0 ((bt x0 (wrap64 ((x0.size:Int) - 1))) != 34))else(none))else(none))else(z3_.j1 k x0 true)))else((z4_.f k x0).bind fun bt186=>(if bt186.2.2=true then((spec_l01Name.f k bt186.1 true).bind fun t191=>(z3_.j3 k bt186.2.1 (!t191)))else(z3_.j3 k bt186.2.1 true))))else(none))))
def z3_.j1:Nat→ByteArray→Bool→Option (Int)
 | 0,_,_=>none
 | k + 1,x0,x37=>if x37=true then(some 0)else(z3_.l0 k x0 1)
def z3_.l0:Nat→ByteArray→Int→Option (Int)
 | 0,_,_=>none
 | k + 1,x0,x5=>if(wrap64 (x5 + 1)) < (x0.size:Int)then(if 0≤x5 then(if x5 < (x0.size:Int)then((spec_l01Between.f (wrap64 (bt x0 x5)) 32 126).bind fun t185=>(if t185=true then(if(bt x0 x5)=34 then(some 0)else(if(bt x0 x5)=92 then(some 0)else(z3_.l0 k x0 (wrap64 (x5 + 1)))))else(some 0)))else(none))else(none))else(some 2)
def z3_.j3:Nat→List ByteArray→Bool→Option (Int)
 | 0,_,_=>none
 | k + 1,x7,x75=>if x75=true then(some 0)else(z3_.l1 k x7 0)
def z3_.l1:Nat→List ByteArray→Int→Option (Int)
 | 0,_,_=>none
 | k + 1,x7,x9=>if x9 < (x7.length:Int)then(if 0≤x9 then((z3_.f k (rdOf ByteArray.empty x7 x9)).bind fun t193=>(if t193=0 then(some 0)else(z3_.l1 k x7 (wrap64 (x9 + 1)))))else(none))else(some 3)
def z3_.f:Nat→ByteArray→Option (Int)
 | 0,_=>none
 | k + 1,a0=>if a0.toList=([]:List UInt8)then(z3_.j0 k a0 true)else(z3_.j0 k a0 (decide ((a0.size:Int) > 200)))
end
set_option maxHeartbeats 8000000 in
set_option maxRecDepth 100000 in
theorem z3_.calls (k:Nat):∀(a0:ByteArray) (r:Int) (w:World) (h:z3_.f k a0=some r),
  Calls Tryz.prog 68 #[.string a0] w fun e w'=>e=.returned (.int .i64 r)∧Below w.heap.size w w':=by
 induction k using Nat.strongRecOn with
 | _ k ih =>
 intro a0 r w h
 cases k with
 | zero=>exact absurd h (by simp [z3_.f])
 | succ k =>
 simp only [z3_.f]at h
 have HB:=y0.mk (Below.refl w.heap.size w)
 have H:(if a0.toList=([]:List UInt8)then(z3_.j0 k a0 true)else(z3_.j0 k a0 (decide ((a0.size:Int) > 200))))=some r:=h
 clear h
 have Cq:=y0.mk H
 clear H
 go_enter Tryz.func68,Tryz.ntmps68
 go_upto_region 1 with(fail)
 go_cut [16] (fun Ds wc=>∃(kq:Nat) (Ak:Bool),Ds=.bool Ak∧y0 (z3_.j0 kq a0 Ak=some r)∧y0 (kq≤k)∧y0 (Below w.heap.size w wc))
 case first =>
  have H:=Cq.out
  clear Cq
  by_cases c3:a0.toList=([]:List UInt8)
  ·rw [if_pos c3]at H
   have Al:(a0.toList == ([]:List UInt8))=true:=beq_iff_eq.mpr c3
   have Cr:(a0.toList != ([]:List UInt8))=false:=bne_eq_false_iff_eq.mpr c3
   clear c3
   (first|rw [Al]|(simp only [i64_w,i32_w];rw [Al])|skip)
   have H':=y0.mk H
   clear H
   go_wp2
   go_meet
   exact⟨_,(true),qy2,H',⟨by first|omega|exact Nat.le_refl _⟩,⟨qb⟩⟩
  ·rw [if_neg c3]at H
   have Al:(a0.toList == ([]:List UInt8))=false:=beq_eq_false_iff_ne.mpr c3
   have Cr:(a0.toList != ([]:List UInt8))=true:=bne_iff_ne.mpr c3
   (first|rw [Al]|(simp only [i64_w,i32_w];rw [Al])|skip)
   have H':=y0.mk H
   clear H
   go_wp2
   go_meet
   exact⟨_,(decide ((a0.size:Int) > 200)),qy2,H',⟨by first|omega|exact Nat.le_refl _⟩,⟨qb⟩⟩
 case rest =>
  clear Cq
  obtain⟨kq,Ak,rfl,HA,Aw,HB⟩:=hcut
  cases kq with
  | zero=>exact absurd HA.out (by simp [z3_.j0])
  | succ Am =>
   have H:=HA.out
   clear HA
   simp only [z3_.j0]at H
   by_cases c4:Ak=true
   ·subst c4
    replace H:=qT H
    obtain rfl:=Option.some.inj H
    go_wp2
    go_ret
    exact⟨qf,qb⟩
   ·replace c4:=Bool.eq_false_iff.mpr c4
    subst c4
    replace H:=qF H
    obtain⟨⟨Be,Cs⟩,A5,H⟩:=qB H
    dsimp only at H
    by_cases c6:Cs=true
    ·subst c6
     replace H:=qT H
     obtain rfl:=Option.some.inj H
     go_wp2_with (first|((with_reducible refine y19 (f:=92) rfl ?_);refine y22 (some 19) rfl rfl Tryz.func92 (by kernel_rfl) rfl #[.string a0] rfl qy0 ?_;(with_reducible refine(z9_.calls Am a0 Be true _ A5.out).mono ?_);rintro e w7 ⟨rfl,hb⟩;refine⟨_,rfl, ?_⟩;replace HB:=y0.mk (y8 qb hb);(try clear hb)))
     go_ret
     exact⟨qf,qb⟩
    ·replace c6:=Bool.eq_false_iff.mpr c6
     subst c6
     replace H:=qF H
     obtain⟨c8,H⟩:=qo H
     have Ct:=decide_eq_true c8
     have Cu:decide (0 < a0.size)=true:=decide_eq_true (by omega)
     clear c8
     by_cases Bf:(bt a0 0)=34
     ·rw [if_pos Bf]at H
      have Ap:((bt a0 0) == 34)=true:=beq_iff_eq.mpr Bf
      have Aq:((bt a0 0) != 34)=false:=bne_eq_false_iff_eq.mpr Bf
      clear Bf
      have Bg:=y0.mk H
      clear H
      go_upto_region 7 with(first|((with_reducible refine y19 (f:=92) rfl ?_);refine y22 (some 19) rfl rfl Tryz.func92 (by kernel_rfl) rfl #[.string a0] rfl qy0 ?_;(with_reducible refine(z9_.calls Am a0 Be false _ A5.out).mono ?_);rintro e Ec ⟨rfl,hb⟩;refine⟨_,rfl, ?_⟩;replace HB:=y0.mk (y8 qb hb);(try clear hb);have p9:0≤(0:Int):=(by omega);have q9:0 < a0.size:=qy3;have Cv:∀ h:0 < a0.size,((a0[0]'h).toNat:Int)=bt a0 0:=bt_at a0 0;clear p9;have Cw:(0 < (a0.size:Int))=True:=eq_true (of_decide_eq_true qy1);replace q9:=eq_true q9))
      (try simp only [Act.put,qS_,qZ_,qC_])
      go_cut [37] (fun Dt wc=>∃(kq:Nat) (Ag:Bool),Dt=.bool Ag∧y0 (z3_.j1 kq a0 Ag=some r)∧y0 (kq≤Am)∧y0 (Below w.heap.size w wc))
      case first =>
       have H:=Bg.out
       clear Bg
       obtain⟨Cx,Cy,H⟩:=qB H
       by_cases Cl:Cx=true
       ·subst Cl
        replace H:=qT H
        obtain⟨Ae,Ai⟩:∃ j_:Int,(wrap64 ((a0.size:Int) - 1))=j_:=⟨_,rfl⟩
        replace H:(if 0≤(Ae)then(if(Ae) < (a0.size:Int)then(z3_.j1 Am a0 ((bt a0 (Ae)) != 34))else(none))else(none))=some r:=by first|(rw [Ai]at H;exact H)|(simp only [Ai]at H ⊢;exact H)
        (try rw [Ai]at Cy)
        have hji15w:(IntKind.i64.wrap ((a0.size:Int) - 1))=Ae:=(i64_w _).trans Ai
        obtain⟨De,H⟩:=qo H
        have Ba:decide (0≤(Ae))=true:=decide_eq_true De
        clear De
        (first|rw [Ba]|(simp only [i64_w,i32_w];rw [Ba])|skip)
        obtain⟨Df,H⟩:=qo H
        have Dg:decide ((Ae) < (a0.size:Int))=true:=decide_eq_true Df
        clear Df
        have H':=y0.mk H
        clear H
        go_wp2_with (first|((with_reducible refine y19 (f:=56) rfl ?_);refine y22 (some 28) rfl rfl Tryz.func56 (by kernel_rfl) rfl #[.int .i64 (a0.size:Int),.int .i64 2,.int .i64 22] rfl qy0 ?_;(with_reducible refine(spec_l01Between.calls (a0.size:Int) 2 22 true _ Cy.out).mono ?_);rintro e w' ⟨rfl,⟨nd,rfl⟩⟩;refine⟨_,rfl, ?_⟩;have Dh:0≤((Ae):Int):=of_decide_eq_true qy1;have Di:(Ae) < (a0.size:Int):=of_decide_eq_true qy1;have Du:=bt_at a0 (Ae);replace Dh:=eq_true Dh;replace Di:=eq_true Di))
        go_meet
        exact⟨_,(((bt a0 (Ae)) != 34)),(by first|rfl|(simp;done)|(simp only [← Ai] <;> (first|rfl|simp))|(simp [*];done)),H',⟨by have:=Aw.out;first|omega|exact Nat.le_refl _⟩,⟨qb⟩⟩
       ·replace Cl:=Bool.eq_false_iff.mpr Cl
        subst Cl
        replace H:=qF H
        have H':=y0.mk H
        clear H
        go_wp2_with (first|((with_reducible refine y19 (f:=56) rfl ?_);refine y22 (some 28) rfl rfl Tryz.func56 (by kernel_rfl) rfl #[.int .i64 (a0.size:Int),.int .i64 2,.int .i64 22] rfl qy0 ?_;(with_reducible refine(spec_l01Between.calls (a0.size:Int) 2 22 false _ Cy.out).mono ?_);rintro e w' ⟨rfl,⟨nd,rfl⟩⟩;refine⟨_,rfl, ?_⟩))
        go_meet
        exact⟨_,(true),qy2,H',⟨by have:=Aw.out;first|omega|exact Nat.le_refl _⟩,⟨qb⟩⟩
      case rest =>
       clear Bg
       (try clear c4 c6 Ct Cu p9 q9 Cv Cw Ap Aq p9 q9)
       obtain⟨kq,Ag,rfl,HA,Bt,HB⟩:=hcut
       cases kq with
       | zero=>exact absurd HA.out (by simp [z3_.j1])
       | succ Bu =>
        have H:=HA.out
        clear HA
        simp only [z3_.j1]at H
        by_cases Bv:Ag=true
        ·subst Bv
         replace H:=qT H
         obtain rfl:=Option.some.inj H
         go_wp2
         go_ret
         exact⟨qf,qb⟩
        ·replace Bv:=Bool.eq_false_iff.mpr Bv
         subst Bv
         replace H:=qF H
         have H':=y0.mk H
         clear H
         go_wp2
         go_loopg [5] Bu (fun kq v5 w'=>∃(Aa:Int),v5=.int .i64 Aa∧y0 (z3_.l0 kq a0 Aa=some r)∧y0 (kq≤Bu)∧y0 (Below w.heap.size w w'))
         case atStart=>exact⟨(1),qy2,H',⟨Nat.le_refl _⟩,⟨qb⟩⟩
         case round =>
          clear H'
          (try clear Bv)
          obtain⟨Aa,rfl,HA,Bh,HB⟩:=hrel
          cases gk with
          | zero=>exact absurd HA.out (by simp [z3_.l0])
          | succ k3 =>
           have H:=HA.out
           clear HA
           simp only [z3_.l0]at H
           by_cases Br:(wrap64 (Aa + 1)) < (a0.size:Int)
           ·rw [if_pos Br]at H
            have Bw:=decide_eq_true Br
            clear Br
            obtain⟨Dj,H⟩:=qo H
            have Dk:decide (0≤Aa)=true:=decide_eq_true Dj
            clear Dj
            obtain⟨Dl,H⟩:=qo H
            have Dm:=decide_eq_true Dl
            clear Dl
            obtain⟨Cz,Cm,H⟩:=qB H
            by_cases Cn:Cz=true
            ·subst Cn
             replace H:=qT H
             by_cases Bi:(bt a0 Aa)=34
             ·rw [if_pos Bi]at H
              have Bx:((bt a0 Aa) == 34)=true:=beq_iff_eq.mpr Bi
              have Bz:((bt a0 Aa) != 34)=false:=bne_eq_false_iff_eq.mpr Bi
              clear Bi
              obtain rfl:=Option.some.inj H
              have Au:0≤(Aa:Int):=of_decide_eq_true qy1
              have Av:Aa < (a0.size:Int):=of_decide_eq_true qy1
              have Bj:=bt_at a0 Aa
              replace Au:=eq_true Au
              replace Av:=eq_true Av
              go_wp2_with (first|((with_reducible refine y19 (f:=56) rfl ?_);refine y22 (some 49) rfl rfl Tryz.func56 (by kernel_rfl) rfl #[.int .i64 (wrap64 (bt a0 Aa)),.int .i64 32,.int .i64 126] rfl qy0 ?_;(with_reducible refine(spec_l01Between.calls (wrap64 (bt a0 Aa)) 32 126 true _ Cm.out).mono ?_);rintro e w' ⟨rfl,⟨nd,rfl⟩⟩;refine⟨_,rfl, ?_⟩;have Bb:0≤(Aa:Int):=of_decide_eq_true qy1;have Bc:Aa < (a0.size:Int):=of_decide_eq_true qy1;have Ca:=bt_at a0 Aa;replace Bb:=eq_true Bb;replace Bc:=eq_true Bc))
              go_ret
              exact⟨qf,qb⟩
             ·rw [if_neg Bi]at H
              have Bx:((bt a0 Aa) == 34)=false:=beq_eq_false_iff_ne.mpr Bi
              have Bz:((bt a0 Aa) != 34)=true:=bne_iff_ne.mpr Bi
              by_cases Bk:(bt a0 Aa)=92
              ·rw [if_pos Bk]at H
               have Cb:((bt a0 Aa) == 92)=true:=beq_iff_eq.mpr Bk
               have Cc:((bt a0 Aa) != 92)=false:=bne_eq_false_iff_eq.mpr Bk
               clear Bk
               obtain rfl:=Option.some.inj H
               have Au:0≤(Aa:Int):=of_decide_eq_true qy1
               have Av:Aa < (a0.size:Int):=of_decide_eq_true qy1
               have Bj:=bt_at a0 Aa
               replace Au:=eq_true Au
               replace Av:=eq_true Av
               go_wp2_with (first|((with_reducible refine y19 (f:=56) rfl ?_);refine y22 (some 49) rfl rfl Tryz.func56 (by kernel_rfl) rfl #[.int .i64 (wrap64 (bt a0 Aa)),.int .i64 32,.int .i64 126] rfl qy0 ?_;(with_reducible refine(spec_l01Between.calls (wrap64 (bt a0 Aa)) 32 126 true _ Cm.out).mono ?_);rintro e w' ⟨rfl,⟨nd,rfl⟩⟩;refine⟨_,rfl, ?_⟩;have Bb:0≤(Aa:Int):=of_decide_eq_true qy1;have Bc:Aa < (a0.size:Int):=of_decide_eq_true qy1;have Ca:=bt_at a0 Aa;replace Bb:=eq_true Bb;replace Bc:=eq_true Bc;have Cd:0≤(Aa:Int):=of_decide_eq_true qy1;have Ce:Aa < (a0.size:Int):=of_decide_eq_true qy1;have Da:=bt_at a0 Aa;replace Cd:=eq_true Cd;replace Ce:=eq_true Ce))
               go_ret
               exact⟨qf,qb⟩
              ·rw [if_neg Bk]at H
               have Cb:((bt a0 Aa) == 92)=false:=beq_eq_false_iff_ne.mpr Bk
               have Cc:((bt a0 Aa) != 92)=true:=bne_iff_ne.mpr Bk
               have H':=y0.mk H
               clear H
               have Au:0≤(Aa:Int):=of_decide_eq_true qy1
               have Av:Aa < (a0.size:Int):=of_decide_eq_true qy1
               have Bj:=bt_at a0 Aa
               replace Au:=eq_true Au
               replace Av:=eq_true Av
               go_wp2_with (first|((with_reducible refine y19 (f:=56) rfl ?_);refine y22 (some 49) rfl rfl Tryz.func56 (by kernel_rfl) rfl #[.int .i64 (wrap64 (bt a0 Aa)),.int .i64 32,.int .i64 126] rfl qy0 ?_;(with_reducible refine(spec_l01Between.calls (wrap64 (bt a0 Aa)) 32 126 true _ Cm.out).mono ?_);rintro e w' ⟨rfl,⟨nd,rfl⟩⟩;refine⟨_,rfl, ?_⟩;have Bb:0≤(Aa:Int):=of_decide_eq_true qy1;have Bc:Aa < (a0.size:Int):=of_decide_eq_true qy1;have Ca:=bt_at a0 Aa;replace Bb:=eq_true Bb;replace Bc:=eq_true Bc;have Cd:0≤(Aa:Int):=of_decide_eq_true qy1;have Ce:Aa < (a0.size:Int):=of_decide_eq_true qy1;have Da:=bt_at a0 Aa;replace Cd:=eq_true Cd;replace Ce:=eq_true Ce))
               go_roundg k3
               case measure=>have:=Aw.out;have:=Bt.out;have:=Bh.out;omega
               exact⟨(wrap64 (Aa + 1)),qy2,H',⟨by have:=Aw.out;have:=Bt.out;have:=Bh.out;omega⟩,⟨qb⟩⟩
            ·replace Cn:=Bool.eq_false_iff.mpr Cn
             subst Cn
             replace H:=qF H
             obtain rfl:=Option.some.inj H
             have Au:0≤(Aa:Int):=of_decide_eq_true qy1
             have Av:Aa < (a0.size:Int):=of_decide_eq_true qy1
             have Bj:=bt_at a0 Aa
             replace Au:=eq_true Au
             replace Av:=eq_true Av
             go_wp2_with (first|((with_reducible refine y19 (f:=56) rfl ?_);refine y22 (some 49) rfl rfl Tryz.func56 (by kernel_rfl) rfl #[.int .i64 (wrap64 (bt a0 Aa)),.int .i64 32,.int .i64 126] rfl qy0 ?_;(with_reducible refine(spec_l01Between.calls (wrap64 (bt a0 Aa)) 32 126 false _ Cm.out).mono ?_);rintro e w' ⟨rfl,⟨nd,rfl⟩⟩;refine⟨_,rfl, ?_⟩))
             go_ret
             exact⟨qf,qb⟩
           ·rw [if_neg Br]at H
            have Bw:=decide_eq_false Br
            clear Br
            obtain rfl:=Option.some.inj H
            go_wp2
            go_ret
            exact⟨qf,qb⟩
     ·rw [if_neg Bf]at H
      have Ap:((bt a0 0) == 34)=false:=beq_eq_false_iff_ne.mpr Bf
      have Aq:((bt a0 0) != 34)=true:=bne_iff_ne.mpr Bf
      obtain⟨⟨Bl,Ac,Bm⟩,Dv,H⟩:=qB H
      replace H:(if Bm=true then((spec_l01Name.f Am Bl true).bind fun Ay=>(z3_.j3 Am Ac (!Ay)))else(z3_.j3 Am Ac true))=some r:=H
      have Bn:=y0.mk H
      clear H
      go_upto_region 16 with(first|((with_reducible refine y19 (f:=92) rfl ?_);refine y22 (some 19) rfl rfl Tryz.func92 (by kernel_rfl) rfl #[.string a0] rfl qy0 ?_;(with_reducible refine(z9_.calls Am a0 Be false _ A5.out).mono ?_);rintro e Ed ⟨rfl,hb⟩;refine⟨_,rfl, ?_⟩;replace HB:=y0.mk (y8 qb hb);(try clear hb);have p9:0≤(0:Int):=(by omega);have q9:0 < a0.size:=qy3;have Cv:∀ h:0 < a0.size,((a0[0]'h).toNat:Int)=bt a0 0:=bt_at a0 0;clear p9;have Cw:(0 < (a0.size:Int))=True:=eq_true (of_decide_eq_true qy1);replace q9:=eq_true q9)|((with_reducible refine y19 (f:=93) rfl ?_);refine y22 (some 65) rfl rfl Tryz.func93 (by kernel_rfl) rfl #[.string a0] rfl qy0 ?_;(with_reducible refine(z4_.calls Am a0 Bl Ac Bm _ Dv.out).mono ?_);rintro e Ee ⟨Cf,rfl,Dn,hb⟩;refine⟨_,rfl, ?_⟩;have Bd:=y0.mk (Kd.R_lower Dn (y7 qb));replace HB:=y0.mk (y8 qb hb);(try clear hb);(try clear Dn)))
      (try simp only [Act.put,qS_,qZ_,qC_])
      go_cut [75] (fun Dw wc=>∃(kq:Nat) (Ah:Bool),Dw=.bool Ah∧y0 (z3_.j3 kq Ac Ah=some r)∧y0 (kq≤Am)∧y0 (Kd.R Kd.string 9 wc w.heap.size (fun _=>True) Cf Ac)∧y0 (Below w.heap.size w wc))
      case first =>
       have H:=Bn.out
       clear Bn
       by_cases Co:Bm=true
       ·subst Co
        replace H:=qT H
        obtain⟨Ay,Dx,H⟩:=qB H
        have H':=y0.mk H
        clear H
        go_wp2_with (first|(go_at_call 94;(with_reducible refine(spec_l01Name.calls Am Bl true Ay _ Dx.out).mono ?_);rintro e w' ⟨rfl,⟨nd,rfl⟩⟩))
        go_meet
        exact⟨_,(!Ay),qy2,H',⟨by have:=Aw.out;first|omega|exact Nat.le_refl _⟩,⟨qR Bd.out⟩,⟨qb⟩⟩
       ·replace Co:=Bool.eq_false_iff.mpr Co
        subst Co
        replace H:=qF H
        have H':=y0.mk H
        clear H
        go_wp2
        go_meet
        exact⟨_,(true),qy2,H',⟨by have:=Aw.out;first|omega|exact Nat.le_refl _⟩,⟨qR Bd.out⟩,⟨qb⟩⟩
      case rest =>
       clear Bn
       (try clear p9 q9 Cv Cw Ap Aq p9 q9)
       obtain⟨kq,Ah,rfl,HA,Az,Af,HB⟩:=hcut
       cases kq with
       | zero=>exact absurd HA.out (by simp [z3_.j3])
       | succ Cg =>
        have H:=HA.out
        clear HA
        simp only [z3_.j3]at H
        by_cases Ch:Ah=true
        ·subst Ch
         replace H:=qT H
         obtain rfl:=Option.some.inj H
         go_wp2
         go_ret
         exact⟨qf,qb⟩
        ·replace Ch:=Bool.eq_false_iff.mpr Ch
         subst Ch
         replace H:=qF H
         have H':=y0.mk H
         clear H
         go_wp2
         go_loopg [9] Cg (fun kq v9 w'=>∃(Ad:Int),v9=.int .i64 Ad∧y0 (z3_.l1 kq Ac Ad=some r)∧y0 (kq≤Cg)∧y0 (Kd.R Kd.string 9 w' w.heap.size (fun _=>True) Cf Ac)∧y0 (Below w.heap.size w w'))
         case atStart=>exact⟨(0),qy2,H',⟨Nat.le_refl _⟩,⟨qR Af.out⟩,⟨qb⟩⟩
         case round =>
          clear H'
          (try clear Ch)
          obtain⟨Ad,rfl,HA,Bh,Af,HB⟩:=hrel
          cases gk with
          | zero=>exact absurd HA.out (by simp [z3_.l1])
          | succ k3 =>
           have H:=HA.out
           clear HA
           simp only [z3_.l1]at H
           by_cases Bs:Ad < (Ac.length:Int)
           ·rw [if_pos Bs]at H
            have Ci:=decide_eq_true Bs
            clear Bs
            obtain⟨Do,H⟩:=qo H
            have Dp:decide (0≤Ad)=true:=decide_eq_true Do
            clear Do
            obtain⟨Aj,Dq,H⟩:=qB H
            obtain⟨Dy,Dz,Db⟩:=Kd.R_slice Af.out
            subst Db
            have Bo:0≤(Ad:Int):=of_decide_eq_true qy1
            have Bp:Ad < (Ac.length:Int):=of_decide_eq_true qy1
            obtain⟨Dr,Dc,Cp⟩:=Kd.at_string (Kd.R_reads' Af.out).2.2 Ad Bo Bp
            cases Dc
            replace Bo:=eq_true Bo
            replace Bp:=eq_true Bp
            by_cases Bq:Aj=0
            ·rw [if_pos Bq]at H
             have Cj:(Aj == 0)=true:=beq_iff_eq.mpr Bq
             have Ck:(Aj != 0)=false:=bne_eq_false_iff_eq.mpr Bq
             clear Bq
             obtain rfl:=Option.some.inj H
             go_wp2_with (first|((with_reducible refine y19 (f:=68) rfl ?_);refine y22 (some 86) rfl rfl Tryz.func68 (by kernel_rfl) rfl #[.string (rdOf ByteArray.empty Ac Ad)] rfl qy0 ?_;(with_reducible refine(ih k3 (by have:=Aw.out;have:=Az.out;have:=Bh.out;omega) (rdOf ByteArray.empty Ac Ad) Aj _ Dq.out).mono ?_);rintro e Ef ⟨rfl,hb⟩;refine⟨_,rfl, ?_⟩;replace Af:=y0.mk (Kd.R_below (qR Af.out) hb);replace HB:=y0.mk (y8 qb hb);(try clear hb)))
             go_ret
             exact⟨qf,qb⟩
            ·rw [if_neg Bq]at H
             have Cj:(Aj == 0)=false:=beq_eq_false_iff_ne.mpr Bq
             have Ck:(Aj != 0)=true:=bne_iff_ne.mpr Bq
             have H':=y0.mk H
             clear H
             go_wp2_with (first|((with_reducible refine y19 (f:=68) rfl ?_);refine y22 (some 86) rfl rfl Tryz.func68 (by kernel_rfl) rfl #[.string (rdOf ByteArray.empty Ac Ad)] rfl qy0 ?_;(with_reducible refine(ih k3 (by have:=Aw.out;have:=Az.out;have:=Bh.out;omega) (rdOf ByteArray.empty Ac Ad) Aj _ Dq.out).mono ?_);rintro e Eg ⟨rfl,hb⟩;refine⟨_,rfl, ?_⟩;replace Af:=y0.mk (Kd.R_below (qR Af.out) hb);replace HB:=y0.mk (y8 qb hb);(try clear hb)))
             go_roundg k3
             case measure=>have:=Aw.out;have:=Az.out;have:=Bh.out;omega
             exact⟨(wrap64 (Ad + 1)),qy2,H',⟨by have:=Aw.out;have:=Az.out;have:=Bh.out;omega⟩,⟨qR Af.out⟩,⟨qb⟩⟩
           ·rw [if_neg Bs]at H
            have Ci:=decide_eq_false Bs
            clear Bs
            obtain rfl:=Option.some.inj H
            obtain⟨Ea,Eb,Dd⟩:=Kd.R_slice Af.out
            subst Dd
            go_wp2
            go_ret
            exact⟨qf,qb⟩
end Go.Proofs.YtkajecadkkgfmaaGreatDoor.Pn
end
section
namespace Go.Proofs.YtkajecadkkgfmaaGreatDoor.Pn
open Go.RowKit Go.Proofs.YtkajecadkkgfmaaGreatDoorW.PrintWords Go.Proofs.YtkajecadkkgfmaaGreatDoorW.PrintLast Go.Proofs.YtkajecadkkgfmaaGreatDoorW.PrintMore
attribute [local go_sem] max2_int min2_int max_two min_two max_three min_three max_four min_four   -- for this text's walks alone
set_option linter.unusedVariables false
set_option linter.unusedSimpArgs false
def spec_TupleOk.l0:Nat→Int→List ByteArray→Option (Bool)
 | 0,_,_=>none
 | k + 1,x3,x195000=>if x3 < (x195000.length:Int)then(if 0≤x3 then((z3_.f k (rdOf ByteArray.empty x195000 x3)).bind fun t196=>(if t196=0 then(some false)else(spec_TupleOk.l0 k (wrap64 (x3 + 1)) x195000)))else(none))else(some true)
def spec_TupleOk.f (k:Nat) (l0_0:List ByteArray):Option (Bool):=if(l0_0.length:Int) > 6 then(some false)else(spec_TupleOk.l0 k 0 l0_0)
set_option maxHeartbeats 8000000 in
set_option maxRecDepth 100000 in
theorem spec_TupleOk.calls (k:Nat) (Ag:Option Addr) (Ah:Nat) (Aa:List ByteArray) (r:Bool) (w:World) (Ai:Kd.C Kd.string w Ag Aa.length Aa) (Aj:Aa.length≤Ah) (h:spec_TupleOk.f k Aa=some r) :
  Calls Tryz.prog 35 #[.agg #[.slice Ag Aa.length Ah]] w fun e w'=>e=.returned (.bool r)∧Below w.heap.size w w':=by
 have Bo:=Tryz.underlying36
 have Av:=y0.mk Ai
 have Bl:=y0.mk Aj
 clear Ai Aj
 have HB:=y0.mk (Below.refl w.heap.size w)
 have H:(if(Aa.length:Int) > 6 then(some false)else(spec_TupleOk.l0 k 0 Aa))=some r:=h
 clear h
 by_cases c2:(Aa.length:Int) > 6
 ·rw [if_pos c2]at H
  have Aw:decide (6 < (Aa.length:Int))=true:=decide_eq_true c2
  have Ay:decide (6 < Aa.length)=true:=decide_eq_true (by omega)
  clear c2
  obtain rfl:=Option.some.inj H
  go_enter Tryz.func35,Tryz.ntmps35
  go_wp2_with (first|((with_reducible refine y20 (N:=1) rfl ?_);refine qe 1 #[.slice Ag Aa.length Ah] 36 ?_;intro Ak hg w3 hbox hb;have Ac:=y0.mk (hbox);have Az:=y0.mk (qg (w:=w) hg);have Ba:=y0.mk (qg (w:=w) hg);replace HB:=y0.mk (y8 qb hb);clear hb hbox hg;obtain⟨Bh,Bi⟩:=qz1 Ac.out))
  go_ret
  exact⟨qf,qb⟩
 ·rw [if_neg c2]at H
  have Aw:decide (6 < (Aa.length:Int))=false:=decide_eq_false c2
  have Ay:decide (6 < Aa.length)=false:=decide_eq_false (by omega)
  clear c2
  have H':=y0.mk H
  clear H
  go_enter Tryz.func35,Tryz.ntmps35
  go_wp2_with (first|((with_reducible refine y20 (N:=1) rfl ?_);refine qe 1 #[.slice Ag Aa.length Ah] 36 ?_;intro Ak hg w5 hbox hb;have Ac:=y0.mk (hbox);have Az:=y0.mk (qg (w:=w) hg);have Ba:=y0.mk (qg (w:=w) hg);replace HB:=y0.mk (y8 qb hb);clear hb hbox hg;obtain⟨Al,Am⟩:=qz1 Ac.out))
  go_loopg [3] k (fun kq v3 w'=>∃(Ad:Int),v3=.int .i64 Ad∧y0 (spec_TupleOk.l0 kq Ad Aa=some r)∧y0 (kq≤k)∧y0 (w'.heap[Ak]?=some (.cells #[(.slice Ag Aa.length Ah)] 36 (0,0)))∧y0 (Below w.heap.size w w'))
  case atStart=>exact⟨(0),qy2,H',⟨Nat.le_refl _⟩,⟨qk Ac.out⟩,⟨qb⟩⟩
  case round =>
   clear H'
   (try clear Aw Ay Al Am)
   obtain⟨Ad,rfl,HA,Bm,Ac,HB⟩:=hrel
   cases gk with
   | zero=>exact absurd HA.out (by simp [spec_TupleOk.l0])
   | succ k1 =>
    have H:=HA.out
    clear HA
    simp only [spec_TupleOk.l0]at H
    by_cases c7:Ad < (Aa.length:Int)
    ·rw [if_pos c7]at H
     have Bj:=decide_eq_true c7
     clear c7
     obtain⟨c8,H⟩:=qo H
     have Bp:=decide_eq_true c8
     clear c8
     obtain⟨Af,A9,H⟩:=qB H
     obtain⟨Bd,Be⟩:=qz1 Ac.out
     have Ap:0≤(Ad:Int):=of_decide_eq_true qy1
     have Aq:Ad < (Aa.length:Int):=of_decide_eq_true qy1
     obtain⟨Bn,Bk,Ae⟩:=Kd.at_string Av.out Ad Ap Aq
     cases Bk
     replace Ae:=(HB.out.cell (World.block_lt_of_cell? w _ Ae)).trans Ae
     replace Ap:=eq_true Ap
     replace Aq:=eq_true Aq
     by_cases Au:Af=0
     ·rw [if_pos Au]at H
      have Bb:(Af == 0)=true:=beq_iff_eq.mpr Au
      have Bc:(Af != 0)=false:=bne_eq_false_iff_eq.mpr Au
      clear Au
      obtain rfl:=Option.some.inj H
      go_wp2_with (first|((with_reducible refine y19 (f:=68) rfl ?_);refine y22 (some 20) rfl rfl Tryz.func68 (by kernel_rfl) rfl #[.string (rdOf ByteArray.empty Aa Ad)] rfl qy0 ?_;(with_reducible refine(z3_.calls k1 (rdOf ByteArray.empty Aa Ad) Af _ A9.out).mono ?_);rintro e Bq ⟨rfl,hb⟩;refine⟨_,rfl, ?_⟩;replace Ac:=y0.mk (qK Ac.out hb);replace HB:=y0.mk (y8 qb hb);(try clear hb)))
      go_ret
      exact⟨qf,qb⟩
     ·rw [if_neg Au]at H
      have Bb:(Af == 0)=false:=beq_eq_false_iff_ne.mpr Au
      have Bc:(Af != 0)=true:=bne_iff_ne.mpr Au
      have H':=y0.mk H
      clear H
      go_wp2_with (first|((with_reducible refine y19 (f:=68) rfl ?_);refine y22 (some 20) rfl rfl Tryz.func68 (by kernel_rfl) rfl #[.string (rdOf ByteArray.empty Aa Ad)] rfl qy0 ?_;(with_reducible refine(z3_.calls k1 (rdOf ByteArray.empty Aa Ad) Af _ A9.out).mono ?_);rintro e Br ⟨rfl,hb⟩;refine⟨_,rfl, ?_⟩;replace Ac:=y0.mk (qK Ac.out hb);replace HB:=y0.mk (y8 qb hb);(try clear hb)))
      go_roundg k1
      case measure=>have:=Bm.out;omega
      exact⟨(wrap64 (Ad + 1)),qy2,H',⟨by have:=Bm.out;omega⟩,⟨qk Ac.out⟩,⟨qb⟩⟩
    ·rw [if_neg c7]at H
     have Bj:=decide_eq_false c7
     clear c7
     obtain rfl:=Option.some.inj H
     obtain⟨Bf,Bg⟩:=qz1 Ac.out
     go_wp2
     go_ret
     exact⟨qf,qb⟩
def spec_l01Sign.f (a0:Int):Option (Int):=if a0 < 0 then(some (-1))else(if a0 > 0 then(some 1)else(some 0))
set_option maxHeartbeats 8000000 in
set_option maxRecDepth 100000 in
theorem spec_l01Sign.calls (a0:Int) (r:Int) (w:World) (h:spec_l01Sign.f a0=some r) :
  Calls Tryz.prog 83 #[.int .i64 a0] w fun e w'=>e=.returned (.int .i64 r)∧y1 w w':=by
 have H:(if a0 < 0 then(some (-1))else(if a0 > 0 then(some 1)else(some 0)))=some r:=h
 clear h
 by_cases c2:a0 < 0
 ·rw [if_pos c2]at H
  have c2b0:=decide_eq_true c2
  clear c2
  obtain rfl:=Option.some.inj H
  go_enter Tryz.func83,Tryz.ntmps83
  go_wp2
  go_ret
  exact qf2
 ·rw [if_neg c2]at H
  have c2b0:=decide_eq_false c2
  clear c2
  by_cases c3:a0 > 0
  ·rw [if_pos c3]at H
   have c3b0:decide (0 < a0)=true:=decide_eq_true c3
   clear c3
   obtain rfl:=Option.some.inj H
   go_enter Tryz.func83,Tryz.ntmps83
   go_wp2
   go_ret
   exact qf2
  ·rw [if_neg c3]at H
   have c3b0:decide (0 < a0)=false:=decide_eq_false c3
   clear c3
   obtain rfl:=Option.some.inj H
   go_enter Tryz.func83,Tryz.ntmps83
   go_wp2
   go_ret
   exact qf2
def spec_l01Texts.f (a0:ByteArray) (a1:ByteArray):Option (Int):=if(Op.bytesLess a0.toList a1.toList)=true then(some (-1))else(if(Op.bytesLess a1.toList a0.toList)=true then(some 1)else(some 0))
theorem spec_l01Texts.bl:∀ x y:List UInt8,(!(Op.bytesLess x y || x == y))=Op.bytesLess y x
 | [],[]=>rfl
 | [],b :: y=>rfl
 | a :: x,[]=>rfl
 | a :: x,b :: y=>by
  have ih:=spec_l01Texts.bl x y
  have e1:(decide (a < b))=(decide (a.toNat < b.toNat)):=rfl
  have e2:(decide (b < a))=(decide (b.toNat < a.toNat)):=rfl
  rw [Op.bytesLess,Op.bytesLess,e1,e2,← ih]
  by_cases h:a=b
  ·subst h
   simp
  ·have hn:a.toNat≠b.toNat:=fun h'=>h (UInt8.toNat_inj.1 h')
   have h1:(a == b)=false:=by simpa using h
   have h2:(b == a)=false:=by simpa using fun h'=>h (Eq.symm h')
   have h3:((a :: x) == (b :: y))=false:=by simp [h]
   rw [h1,h2,h3]
   by_cases hl:a.toNat < b.toNat
   ·have:¬ b.toNat < a.toNat:=by omega
    simp [hl,this]
   ·have:b.toNat < a.toNat:=by omega
    simp [hl,this]
theorem spec_l01Texts.gtr (t:TypeId) (a b:ByteArray):binOp .gtr t (.string a) (.string b)=pure (.bool (Op.bytesLess b.toList a.toList)):=by
 rw [← spec_l01Texts.bl]
 simp [binOp,Op.stringOp]
attribute [local go_sem] spec_l01Texts.gtr
set_option maxHeartbeats 8000000 in
set_option maxRecDepth 100000 in
theorem spec_l01Texts.calls (a0:ByteArray) (a1:ByteArray) (r:Int) (w:World) (h:spec_l01Texts.f a0 a1=some r) :
  Calls Tryz.prog 102 #[.string a0,.string a1] w fun e w'=>e=.returned (.int .i64 r)∧y1 w w':=by
 have H:(if(Op.bytesLess a0.toList a1.toList)=true then(some (-1))else(if(Op.bytesLess a1.toList a0.toList)=true then(some 1)else(some 0)))=some r:=h
 clear h
 by_cases c3:(Op.bytesLess a0.toList a1.toList)=true
 ·rw [if_pos c3]at H
  have c3b0:(Op.bytesLess a0.toList a1.toList)=true:=c3
  clear c3
  obtain rfl:=Option.some.inj H
  go_enter Tryz.func102,Tryz.ntmps102
  go_wp2
  go_ret
  exact qf2
 ·rw [if_neg c3]at H
  have c3b0:(Op.bytesLess a0.toList a1.toList)=false:=by simpa using c3
  clear c3
  by_cases c4:(Op.bytesLess a1.toList a0.toList)=true
  ·rw [if_pos c4]at H
   have c4b0:(Op.bytesLess a1.toList a0.toList)=true:=c4
   clear c4
   obtain rfl:=Option.some.inj H
   go_enter Tryz.func102,Tryz.ntmps102
   go_wp2
   go_ret
   exact qf2
  ·rw [if_neg c4]at H
   have c4b0:(Op.bytesLess a1.toList a0.toList)=false:=by simpa using c4
   clear c4
   obtain rfl:=Option.some.inj H
   go_enter Tryz.func102,Tryz.ntmps102
   go_wp2
   go_ret
   exact qf2
def spec_TermParts.f (k:Nat) (a0:ByteArray):Option (ByteArray×List ByteArray):=(z3_.f k a0).bind fun t197=>(if t197=0 then(some ((⟨#[]⟩:ByteArray),(([]:List ByteArray))))else(if t197=3 then((z4_.f k a0).bind fun bt201=>(some (bt201.1,bt201.2.1)))else(some (a0,(([]:List ByteArray))))))
set_option maxHeartbeats 8000000 in
set_option maxRecDepth 100000 in
theorem spec_TermParts.calls (k:Nat) (a0:ByteArray) (r1:ByteArray) (r2:List ByteArray) (w:World) (h:spec_TermParts.f k a0=some (r1,r2)) :
  Calls Tryz.prog 103 #[.string a0] w fun e w'=>∃ v1_:Value,e=.returned (.tuple #[.string r1,v1_])∧Kd.R Kd.string 9 w' w.heap.size (fun _=>True) v1_ r2∧Below w.heap.size w w':=by
 have HB:=y0.mk (Below.refl w.heap.size w)
 have H:((z3_.f k a0).bind fun Aa=>(if Aa=0 then(some ((⟨#[]⟩:ByteArray),(([]:List ByteArray))))else(if Aa=3 then((z4_.f k a0).bind fun Af=>(some (Af.1,Af.2.1)))else(some (a0,(([]:List ByteArray)))))))=some (r1,r2):=h
 clear h
 obtain⟨Aa,A2,H⟩:=qB H
 by_cases c3:Aa=0
 ·rw [if_pos c3]at H
  have Aq:(Aa == 0)=true:=beq_iff_eq.mpr c3
  have Au:(Aa != 0)=false:=bne_eq_false_iff_eq.mpr c3
  clear c3
  obtain⟨Av,Ac⟩:∃ y_:List ByteArray,y_=(([]:List ByteArray)):=⟨_,rfl⟩
  replace H:(some ((⟨#[]⟩:ByteArray),Av))=some (r1,r2):=by first|(rw [Ac];with_reducible exact H)|(have H2_:=(Option.bind_some _ _).symm.trans H;rw [Ac];with_reducible exact H2_)|(have H2_:=(Option.bind_some _ _).symm.trans H;with_reducible exact H2_)|with_reducible exact H|(rw [Ac];exact H)|exact H
  have Ag:=y0.mk Ac
  clear Ac
  simp only [Option.some.injEq,Prod.mk.injEq]at H
  obtain⟨rfl,rfl⟩:=H
  go_enter Tryz.func103,Tryz.ntmps103
  go_wp2_with (first|((with_reducible refine y19 (f:=68) rfl ?_);refine y22 (some 8) rfl rfl Tryz.func68 (by kernel_rfl) rfl #[.string a0] rfl qy0 ?_;(with_reducible refine(z3_.calls k a0 Aa _ A2.out).mono ?_);rintro e w4 ⟨rfl,hb⟩;refine⟨_,rfl, ?_⟩;replace HB:=y0.mk (y8 qb hb);(try clear hb))|((with_reducible refine y20 (N:=11) rfl ?_);refine qL Kd.string 9 11 ([]:List ByteArray) ?_;intro Bc w5 Ai hb hg_ hnew_;clear hg_ hnew_;(first|rw [← Ag.out]at Ai|(simp only [Int.reduceToNat]at Ai;rw [← Ag.out]at Ai));have Aj:=y0.mk (Kd.R_lower Ai (y7 qb));replace HB:=y0.mk (y8 qb hb);clear hb Ai))
  go_ret2
  exact⟨_,by first|rfl|(simp [y17,y18] <;> rfl)|(simp [*,y17,y18] <;> rfl),by(with_reducible repeat(first|apply Kd.R_alloc|apply Kd.R_drewN|apply Kd.R_drew));exact Aj.out,qb⟩
 ·rw [if_neg c3]at H
  have Aq:(Aa == 0)=false:=beq_eq_false_iff_ne.mpr c3
  have Au:(Aa != 0)=true:=bne_iff_ne.mpr c3
  by_cases c7:Aa=3
  ·rw [if_pos c7]at H
   have Aw:(Aa == 3)=true:=beq_iff_eq.mpr c7
   have Ay:(Aa != 3)=false:=bne_eq_false_iff_eq.mpr c7
   clear c7
   obtain⟨⟨Ak,Al,Az⟩,A8,H⟩:=qB H
   replace H:(some (Ak,Al))=some (r1,r2):=H
   simp only [Option.some.injEq,Prod.mk.injEq]at H
   obtain⟨rfl,rfl⟩:=H
   go_enter Tryz.func103,Tryz.ntmps103
   go_wp2_with (first|((with_reducible refine y19 (f:=68) rfl ?_);refine y22 (some 8) rfl rfl Tryz.func68 (by kernel_rfl) rfl #[.string a0] rfl qy0 ?_;(with_reducible refine(z3_.calls k a0 Aa _ A2.out).mono ?_);rintro e w9 ⟨rfl,hb⟩;refine⟨_,rfl, ?_⟩;replace HB:=y0.mk (y8 qb hb);(try clear hb))|((with_reducible refine y19 (f:=93) rfl ?_);refine y22 (some 16) rfl rfl Tryz.func93 (by kernel_rfl) rfl #[.string a0] rfl qy0 ?_;(with_reducible refine(z4_.calls k a0 Ak Al Az _ A8.out).mono ?_);rintro e Bf ⟨Bd,rfl,Bb,hb⟩;refine⟨_,rfl, ?_⟩;have Am:=y0.mk (Kd.R_lower Bb (y7 qb));replace HB:=y0.mk (y8 qb hb);(try clear hb);(try clear Bb)))
   go_ret2
   exact⟨_,by first|rfl|(simp [y17,y18] <;> rfl)|(simp [*,y17,y18] <;> rfl),by(with_reducible repeat(first|apply Kd.R_alloc|apply Kd.R_drewN|apply Kd.R_drew));exact Am.out,qb⟩
  ·rw [if_neg c7]at H
   have Aw:(Aa == 3)=false:=beq_eq_false_iff_ne.mpr c7
   have Ay:(Aa != 3)=true:=bne_iff_ne.mpr c7
   obtain⟨Ba,Ad⟩:∃ y_:List ByteArray,y_=(([]:List ByteArray)):=⟨_,rfl⟩
   replace H:(some (a0,Ba))=some (r1,r2):=by first|(rw [Ad];with_reducible exact H)|(have H2_:=(Option.bind_some _ _).symm.trans H;rw [Ad];with_reducible exact H2_)|(have H2_:=(Option.bind_some _ _).symm.trans H;with_reducible exact H2_)|with_reducible exact H|(rw [Ad];exact H)|exact H
   have Ah:=y0.mk Ad
   clear Ad
   simp only [Option.some.injEq,Prod.mk.injEq]at H
   obtain⟨rfl,rfl⟩:=H
   go_enter Tryz.func103,Tryz.ntmps103
   go_wp2_with (first|((with_reducible refine y19 (f:=68) rfl ?_);refine y22 (some 8) rfl rfl Tryz.func68 (by kernel_rfl) rfl #[.string a0] rfl qy0 ?_;(with_reducible refine(z3_.calls k a0 Aa _ A2.out).mono ?_);rintro e Bg ⟨rfl,hb⟩;refine⟨_,rfl, ?_⟩;replace HB:=y0.mk (y8 qb hb);(try clear hb))|((with_reducible refine y20 (N:=23) rfl ?_);refine qL Kd.string 9 23 ([]:List ByteArray) ?_;intro Be Bh Ae hb hg_ hnew_;clear hg_ hnew_;(first|rw [← Ah.out]at Ae|(simp only [Int.reduceToNat]at Ae;rw [← Ah.out]at Ae));have Ap:=y0.mk (Kd.R_lower Ae (y7 qb));replace HB:=y0.mk (y8 qb hb);clear hb Ae))
   go_ret2
   exact⟨_,by first|rfl|(simp [y17,y18] <;> rfl)|(simp [*,y17,y18] <;> rfl),by(with_reducible repeat(first|apply Kd.R_alloc|apply Kd.R_drewN|apply Kd.R_drew));exact Ap.out,qb⟩
end Go.Proofs.YtkajecadkkgfmaaGreatDoor.Pn
end
