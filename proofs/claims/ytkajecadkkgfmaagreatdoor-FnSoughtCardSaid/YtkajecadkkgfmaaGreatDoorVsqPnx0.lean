-- Cut by prune.py, a program of this session, out of the texts of this claim: Lean checks it.
import Derived.Test.YtkajecadkkgfmaaGreatDoorProg
import Derived.Below
import Derived.Deep.Draws
import Derived.Deep.AppendLies
import Derived.Maps.AppendAt
import Derived.OwnWalk
import Derived.Laws.BytesArg
import Derived.Laws.MakeOwn
import Derived.Laws.OwnMore
import Derived.Deep.OwnRows
import Derived.Tactics
import Derived.Lib.ConvBytes
import Derived.Laws.Slices
import Derived.WalkKit
import Derived.KernelRfl
import Derived.RowKit3
import Derived.Deep.LoopGhost
import Derived.Deep.QuietTactic
import Derived.BigQuiet
import Derived.WideLaws
import Derived.Deep.DeepCutAuto
import Derived.Deep.CutBlock
import Derived.Deep.RegionHeld3
import Derived.Laws.Rows
import Derived.Lib.AppendStr
import Derived.ArgAppend
import Derived.Laws.IdiomCopy
import Derived.OrdersHeld
import Derived.Laws.BitsLemmas
import Derived.RowKit
import Derived.Test.YtkajecadkkgfmaaGreatDoorVsqWWords
import Derived.Test.YtkajecadkkgfmaaGreatDoorVsqWLast
import Derived.Test.YtkajecadkkgfmaaGreatDoorVsqWTab
import Derived.Test.YtkajecadkkgfmaaGreatDoorVsqWApart
import Derived.Test.YtkajecadkkgfmaaGreatDoorVsqWFoot
import Derived.Test.YtkajecadkkgfmaaGreatDoorVsqWKept
import Derived.Test.YtkajecadkkgfmaaGreatDoorVsqWShare
import Derived.Test.YtkajecadkkgfmaaGreatDoorVsqWN
import Derived.Laws.StructEq
import Derived.Test.YtkajecadkkgfmaaGreatDoorVsqWRepsOne
import Derived.Test.YtkajecadkkgfmaaGreatDoorVsqWInv
import Derived.Test.YtkajecadkkgfmaaGreatDoorVsqWGuard
import Derived.Test.YtkajecadkkgfmaaGreatDoorVsqWNEv
import Derived.Test.YtkajecadkkgfmaaGreatDoorVsqWMore
import Derived.Test.YtkajecadkkgfmaaGreatDoorVsqQIv
import Derived.Test.YtkajecadkkgfmaaGreatDoorVsqQIns
import Derived.Test.YtkajecadkkgfmaaGreatDoorVsqShelf
import Derived.Lib.LaidTab
import Derived.WalkSmall
import Derived.Test.YtkajecadkkgfmaaGreatDoorVsqQRead
section
namespace Go.Proofs.YtkajecadkkgfmaaGreatDoor.Pn
open Go.RowKit Go.Proofs.YtkajecadkkgfmaaGreatDoorW.PrintWords Go.Proofs.YtkajecadkkgfmaaGreatDoorW.PrintLast Go.Proofs.YtkajecadkkgfmaaGreatDoorW.PrintMore
attribute [local go_sem] max2_int min2_int max_two min_two max_three min_three max_four min_four   -- for this text's walks alone
set_option linter.unusedVariables false
set_option linter.unusedSimpArgs false
theorem qy0 {P:Prop} (h:P:=by(try simp only [qM_,List.map_cons,List.map_nil]);first|done|rfl|(simp only [qD_,qT_];rfl)):P:=h
theorem qy1 {P:Prop} (h:P:=by first|(with_reducible assumption)|assumption):P:=h
theorem qy2 {P:Prop} (h:P:=by first|rfl|(simp;done)|(simp [*];done)):P:=h
theorem qy3 {P:Prop} (h:P:=by have:(0:Int) < (a0.size:Int):=of_decide_eq_true (by first|(with_reducible assumption)|assumption);omega):P:=h
theorem qy4 {P:Prop} (h:P:=by simp only [putAll,Act.put,qS_,qZ_,qC_]):P:=h
theorem qb {w W:World} (h:Below w.heap.size w W:=by repeat(first|(with_reducible first|exact HB.out|apply y4|apply y19|apply y5|refine y6 ?_ (y0.out (by with_reducible assumption)))|exact HB.out)):Below w.heap.size w W:=h
theorem qh {w W:World} {g:Nat} (h:y3 w W g none:=by repeat(first|(with_reducible first|exact HK.out|apply y3.set_|apply keep_drewN|apply keep_drew|apply keep_alloc|refine keep_far ?_ (y0.out (by with_reducible assumption)) _)|exact HK.out)):y3 w W g none:=h
theorem qg {w W:World} {g:Nat} (e:g=W.heap.size) (h:Below w.heap.size w W:=by repeat(first|(with_reducible first|exact HB.out|apply y4|apply y19|apply y5|refine y6 ?_ (y0.out (by with_reducible assumption)))|exact HB.out)):w.heap.size≤g:=by rw [e];exact y7 h
theorem qk {w W:World} {g:Nat} {o:Obj} (h:w.heap[g]?=some o) (h1:Below w.heap.size w W:=by repeat(first|with_reducible exact Below.refl _ _|with_reducible apply y4|with_reducible apply y19|with_reducible apply y5)):W.heap[g]?=some o:=blk_below h h1
theorem qK {w W w2:World} {g:Nat} {o:Obj} (h:w.heap[g]?=some o) (hb:Below W.heap.size W w2) (h1:Below w.heap.size w W:=by repeat(first|with_reducible exact Below.refl _ _|with_reducible apply y4|with_reducible apply y19|with_reducible apply y5)):w2.heap[g]?=some o:=blk_below (blk_below h h1) hb
theorem qn {w W:World} {g g2:Nat} {o:Obj} (h:w.heap[g]?=some o) (e:g2=W.heap.size) (h1:Below w.heap.size w W:=by repeat(first|with_reducible exact Below.refl _ _|with_reducible apply y4|with_reducible apply y19|with_reducible apply y5)):g≠g2:=by rw [e];exact Nat.ne_of_lt (blk_lt (blk_below h h1))
theorem qm {w W:World} {g g2:Nat} {o:Obj} (h:w.heap[g]?=some o) (e:g2=W.heap.size) (h1:Below w.heap.size w W:=by repeat(first|with_reducible exact Below.refl _ _|with_reducible apply y4|with_reducible apply y19|with_reducible apply y5)):g2≠g:=Ne.symm (qn h e h1)
theorem qc {α:Type} {d:Kd α} {w W:World} {A:Option Addr} {n:Nat} {xs:List α} (h:d.C w A n xs) (h1:Below w.heap.size w W:=by repeat(first|with_reducible exact Below.refl _ _|with_reducible apply y4|with_reducible apply y19|with_reducible apply y5)):d.C W A n xs:=Kd.C_below h h1
theorem qo {P:Prop} [Decidable P] {α:Type} {X Y:Option α} {r:α} (h:(if P then X else Y)=some r) (hn:¬(Y=some r):=by simp):P∧X=some r:=by
 by_cases c:P
 ·rw [if_pos c]at h
  exact⟨c,h⟩
 ·rw [if_neg c]at h
  exact absurd h hn
theorem qi {P:Prop} [Decidable P] {α:Type} {X Y:Option α} {r:α} (h:(if P then X else Y)=some r) (hn:¬(X=some r):=by simp):¬ P∧Y=some r:=by
 by_cases c:P
 ·rw [if_pos c]at h
  exact absurd h hn
 ·rw [if_neg c]at h
  exact⟨c,h⟩
theorem qB {α β:Type} {x:Option α} {f:α→Option β} {r:β} (h:x.bind f=some r):∃ t,y0 (x=some t)∧f t=some r:=by
 obtain⟨t,a,b⟩:=Option.bind_eq_some_iff.mp h
 exact⟨t,⟨a⟩,b⟩
theorem qT {α:Type} {X Y:Option α} {r:α} {d:Decidable (true=true)} (h:(@ite _ (true=true) d X Y)=some r):X=some r:=by rwa [if_pos rfl]at h
theorem qF {α:Type} {X Y:Option α} {r:α} {d:Decidable (false=true)} (h:(@ite _ (false=true) d X Y)=some r):Y=some r:=by rwa [if_neg Bool.false_ne_true]at h
theorem qs {M X Y:Nat} (h:(M < X)=False) (e:Y=X:=by simp only [ByteArray.size_append];first|done|rfl|(simp only [← Nat.add_assoc];rfl)):(M < Y)=False:=by rw [e];exact h
theorem qR {α:Type} {d:Kd α} {e base:Nat} {w W:World} {ok:Nat→Prop} {v:Value} {xs:List α} (h:d.R e w base ok v xs) (h1:Below w.heap.size w W:=by repeat(first|with_reducible exact Below.refl _ _|with_reducible apply y4|with_reducible apply y19|with_reducible apply y5)):d.R e W base ok v xs:=Kd.R_below h h1
theorem qS {α:Type} {d:Kd α} {e base:Nat} {w W:World} {ok:Nat→Prop} {v:Value} {xs:List α} (h:Kd.S d e w base ok v xs) (h1:Below w.heap.size w W:=by repeat(first|with_reducible exact Below.refl _ _|with_reducible apply y4|with_reducible apply y19|with_reducible apply y5)):Kd.S d e W base ok v xs:=Kd.S_below h h1
theorem qN {α:Type} {d:Kd α} {e base:Nat} {w W:World} {ok:Nat→Prop} {v:Value} {xs:List α} (h:Kd.N d e w base ok v xs) (h1:Below w.heap.size w W:=by repeat(first|with_reducible exact Below.refl _ _|with_reducible apply y4|with_reducible apply y19|with_reducible apply y5)):Kd.N d e W base ok v xs:=Kd.N_below h h1
theorem qV {α:Type} {d:Kd α} {e base:Nat} {w W:World} {ok:Nat→Prop} {v:Value} {xs:List α} (h:Kd.V d e w base ok v xs) (h1:Below w.heap.size w W:=by repeat(first|with_reducible exact Below.refl _ _|with_reducible apply y4|with_reducible apply y19|with_reducible apply y5)):Kd.V d e W base ok v xs:=Kd.V_below h h1
theorem qz1 {w:World} {g t:Nat} {a0:Value} (h:w.heap[g]?=some (.cells #[a0] t (0,0))):w.cell? ⟨g,0,none⟩=some a0∧w.frozen? ⟨g,0,none⟩=false:=⟨(y10 h 0).trans rfl,blk_frozen h 0⟩
theorem qz2 {w:World} {g t:Nat} {a0 a1:Value} (h:w.heap[g]?=some (.cells #[a0,a1] t (0,0))):w.cell? ⟨g,0,none⟩=some a0∧w.cell? ⟨g,1,none⟩=some a1∧w.frozen? ⟨g,0,none⟩=false∧w.frozen? ⟨g,1,none⟩=false:=⟨(y10 h 0).trans rfl,(y10 h 1).trans rfl,blk_frozen h 0,blk_frozen h 1⟩
section
variable {P : Program} {ops : Array Oper} {rest : List Oper} {o : Oper} {a : Act} {Q : Exit → Act → World → Prop}
theorem qe {W:World} (N:Tmp) (cs:Array Value) (t:TypeId) (h:∀ g,g=W.heap.size→∀ w1,w1.heap[g]?=some (.cells cs t (0,0))→Below W.heap.size W w1→wpList P ops Q rest (a.put o.dst (.pointer (some ⟨g,0,none⟩))) w1) (hg:o.guard=none:=by rfl) (hd:o.dst=some N:=by rfl)
  (hr:(execOp a.eval o).run P W=.ok (.value (.pointer (some ⟨W.heap.size,0,none⟩))) (W.alloc (.cells cs t (0,0))):=by first|(go_simp;done)|(go_simp;rfl)):wpList P ops Q (o :: rest) a W:=box_event hg hd hr h
theorem qL {α:Type} {W:World} (d:Kd α) (e:Nat) (N:Tmp) (xs:List α) {inner:List Value} (h:∀ v1 w1,d.R e w1 W.heap.size (fun _=>True) v1 xs→Below W.heap.size W w1→W.grownBy w1 none→(∃ b,v1.ownBlock=some b∧W.heap.size≤b)→wpList P ops Q rest (a.put o.dst v1) w1) (hg:o.guard=none:=by rfl) (hd:o.dst=some N:=by rfl) (hp:Reps (d.M W W.heap.size (fun _=>True)) d.sz xs inner:=by repeat(first|exact Reps.none _ _|(refine Reps.one (v:=?_) (cs:=?_) ?_ ?_;rotate_left;rotate_left;rfl)))
  (hr:(execOp a.eval o).run P W=.ok (.value (.slice (some ⟨W.heap.size,0,none⟩) xs.length xs.length)) (W.alloc (.cells inner.toArray e)):=by first|(go_simp;done)|(go_simp;rfl)) (hm:xs.length≤9223372036854775807:=by simp):wpList P ops Q (o :: rest) a W:=Kd.R_lit d (w0:=W) W.heap.size e hg hd hr hp (fun _ h=>h) trivial (Below.refl _ _) (Nat.le_refl _) hm h
theorem qLs {α:Type} {W:World} {Kc:Act→World→Prop} (d:Kd α) (e:Nat) (N:Tmp) (xs:List α) {inner:List Value} (h:∀ v1 w1,d.R e w1 W.heap.size (fun _=>True) v1 xs→Below W.heap.size W w1→W.grownBy w1 none→(∃ b,v1.ownBlock=some b∧W.heap.size≤b)→Kc (a.put o.dst v1) w1) (hg:Region.wanted o (yielded ops a.tmps)=true:=by rfl) (hd:o.dst=some N:=by rfl) (hp:Reps (d.M W W.heap.size (fun _=>True)) d.sz xs inner:=by repeat(first|exact Reps.none _ _|(refine Reps.one (v:=?_) (cs:=?_) ?_ ?_;rotate_left;rotate_left;rfl)))
  (hr:(execOp a.eval o).run P W=.ok (.value (.slice (some ⟨W.heap.size,0,none⟩) xs.length xs.length)) (W.alloc (.cells inner.toArray e)):=by first|(go_simp;done)|(go_simp;rfl)) (hm:xs.length≤9223372036854775807:=by simp):if Region.wanted o (yielded ops a.tmps)=true then Oper.wp P o a W Kc Q else Kc (a.put o.dst undef) W:=Kd.R_lit_step d (w0:=W) W.heap.size e hg hd hr hp (fun _ h=>h) trivial (Below.refl _ _) (Nat.le_refl _) hm h
end
theorem qf {P:Prop} (h:P:=by first|rfl|(simp [y14,y15] <;> rfl)|(simp [*,y14,y15] <;> rfl)):P:=h
theorem qf2 {P:Prop} {w w2:World} (h:P:=by first|rfl|(simp;done)|(simp [*];done)) (h2:y1 w w2:=by repeat(first|exact y1.refl _|apply y1.step)):P∧y1 w w2:=⟨h,h2⟩
section
variable {P : Program} {ops : Array Oper} {Q : Exit → Act → World → Prop} {md : Region.Mode} {S : World → Prop} {ds : List Nat}
theorem qp {oi:Oper} {v:Value} {fuel:Nat} {l:Array Bool} {a a':Act} {w:World} (i:Nat) (N:Tmp) (l':Array Bool) (h:y22 P md ops Q S ds fuel l' a' w) (hi:ops[i]?=some oi:=by exact rfl) (hN:oi.dst=some N:=by exact rfl) (hc:anyB md ops l l' i=true:=by first|exact any_of HT_.out (by kernel_rfl)|kernel_rfl)
  (hQ:∀ c a w,Q (.panic c) (a.put oi.dst v) w→Q (.panic c) a w:=by exact fun _ _ _ h=>h) (hy:Yields P ops oi v a:=by first|(refine Or.inl ⟨by rfl, ?_⟩;intro w';go_simp;with_reducible rfl)|exact Or.inr ⟨by rfl,rfl⟩) (ha:a.put (some N) v=a':=by simp only [Act.put,qS_,qZ_,qC_,i64_w,i32_w];rfl):y22 P md ops Q S ds (fuel + 1) l a w:=pure_ l' hi hN hc hQ hy ha h
theorem qt {oi:Oper} {v:Value} {fuel:Nat} {l:Array Bool} {a a':Act} {w:World} (i:Nat) (N:Tmp) (l':Array Bool) (hS:S w) (h:y22 P md ops Q S ds fuel l' a' w) (hi:ops[i]?=some oi:=by exact rfl) (hN:oi.dst=some N:=by exact rfl) (hc:takeB md ops ds l l' i=true:=by first|exact take_ofW HT_.out HW_.out (by kernel_rfl)|kernel_rfl)
  (hQ:∀ c a w,Q (.panic c) (a.put oi.dst v) w→Q (.panic c) a w:=by exact fun _ _ _ h=>h) (hy:YieldsIf P ops S oi v a:=by refine Or.inl ⟨by rfl, ?_⟩;intro w' hs_;(repeat(obtain⟨s_,hs_⟩:_∧_:=hs_));go_simp;with_reducible rfl) (ha:a.put (some N) v=a':=by simp only [Act.put,qS_,qZ_,qC_,i64_w,i32_w];rfl):y22 P md ops Q S ds (fuel + 1) l a w:=take_ l' hi hN hc hQ hy hS ha h
theorem qO {oi:Oper} {fuel:Nat} {l:Array Bool} {a:Act} {w:World} (i:Nat) (N:Tmp) (l':Array Bool) (h:∀ K:Act→World→Prop,Shut (∀ a' w',S w'→(S w'→y22 P md ops Q S ds fuel l' a' w')→K a' w')→if Region.wanted oi (yielded ops a.tmps)=true then Oper.wp P oi a w K Q else K (a.put (some N) undef) w) (hi:ops[i]?=some oi:=by exact rfl) (hN:oi.dst=some N:=by exact rfl) (hc:readyB md ops l l' i=true:=by first|exact one_of HT_.out (by kernel_rfl)|kernel_rfl) (hd:i∉ds:=by decide):y22 P md ops Q S ds (fuel + 1) l a w:=one_ l' hi hN hc hd h
theorem qx {fuel:Nat} {v:Value} {l:Array Bool} {a a':Act} {w:World} (N:Tmp) (h:y22 P md ops Q S ds fuel l a' w) (ha:a.put (some N) v=a':=by simp only [Act.put,qS_,qZ_,qC_,i64_w,i32_w];rfl):y22 P md ops Q S ds fuel l (a.put (some N) v) w:=norm_ ha h
def qY (P:Program) (ops:Array Oper) (Q:Exit→Act→World→Prop) (md:Region.Mode) (l l':Array Bool) (i N:Nat) (a a':Act):Prop:=∀(S:World→Prop) (ds:List Nat) (fuel:Nat) (w:World),y22 P md ops Q S ds fuel l' a' w→y22 P md ops Q S ds (fuel + 1) l a w
theorem qY_ {oi:Oper} {v:Value} {l l':Array Bool} {a a':Act} {i N j M:Nat} (ei:i=j:=by first|(simp only [Nat.reduceAdd];rfl)|rfl) (eN:N=M:=by first|(simp only [Nat.reduceAdd];rfl)|rfl) (hi:ops[j]?=some oi:=by exact rfl) (hN:oi.dst=some M:=by exact rfl) (hc:anyB md ops l l' j=true:=by first|exact any_of HT_.out (by kernel_rfl)|kernel_rfl)
  (hQ:∀ c a w,Q (.panic c) (a.put oi.dst v) w→Q (.panic c) a w:=by exact fun _ _ _ h=>h) (hy:Yields P ops oi v a:=by first|(refine Or.inl ⟨by rfl, ?_⟩;intro w';go_simp;with_reducible rfl)|exact Or.inr ⟨by rfl,rfl⟩) (ha:a.put (some M) v=a':=by simp only [Act.put,qS_,qZ_,qC_,i64_w,i32_w];rfl):qY P ops Q md l l' i N a a':=by
 subst ei
 subst eN
 exact fun _ _ _ _ h=>pure_ l' hi hN hc hQ hy ha h
theorem qp2 {fuel:Nat} {l:Array Bool} {a0 a1 a2:Act} {w:World} (i N n:Nat) (h:y22 P md ops Q S ds fuel (fl_ n (2 ^ (i + 2) - 1)) a2 w) (h0:qY P ops Q md l (fl_ n (2 ^ (i + 1) - 1)) i N a0 a1:=by exact qY_) (h1:qY P ops Q md (fl_ n (2 ^ (i + 1) - 1)) (fl_ n (2 ^ (i + 2) - 1)) (i + 1) (N + 1) a1 a2:=by exact qY_):y22 P md ops Q S ds (fuel + 2) l a0 w:=h0 _ _ _ _ (h1 _ _ _ _ h)
theorem qp3 {fuel:Nat} {l:Array Bool} {a0 a1 a2 a3:Act} {w:World} (i N n:Nat) (h:y22 P md ops Q S ds fuel (fl_ n (2 ^ (i + 3) - 1)) a3 w) (h0:qY P ops Q md l (fl_ n (2 ^ (i + 1) - 1)) i N a0 a1:=by exact qY_) (h1:qY P ops Q md (fl_ n (2 ^ (i + 1) - 1)) (fl_ n (2 ^ (i + 2) - 1)) (i + 1) (N + 1) a1 a2:=by exact qY_) (h2:qY P ops Q md (fl_ n (2 ^ (i + 2) - 1)) (fl_ n (2 ^ (i + 3) - 1)) (i + 2) (N + 2) a2 a3:=by exact qY_):y22 P md ops Q S ds (fuel + 3) l a0 w:=h0 _ _ _ _ (h1 _ _ _ _ (h2 _ _ _ _ h))
theorem qp4 {fuel:Nat} {l:Array Bool} {a0 a1 a2 a3 a4:Act} {w:World} (i N n:Nat) (h:y22 P md ops Q S ds fuel (fl_ n (2 ^ (i + 4) - 1)) a4 w) (h0:qY P ops Q md l (fl_ n (2 ^ (i + 1) - 1)) i N a0 a1:=by exact qY_) (h1:qY P ops Q md (fl_ n (2 ^ (i + 1) - 1)) (fl_ n (2 ^ (i + 2) - 1)) (i + 1) (N + 1) a1 a2:=by exact qY_) (h2:qY P ops Q md (fl_ n (2 ^ (i + 2) - 1)) (fl_ n (2 ^ (i + 3) - 1)) (i + 2) (N + 2) a2 a3:=by exact qY_) (h3:qY P ops Q md (fl_ n (2 ^ (i + 3) - 1)) (fl_ n (2 ^ (i + 4) - 1)) (i + 3) (N + 3) a3 a4:=by exact qY_):y22 P md ops Q S ds (fuel + 4) l a0 w:=h0 _ _ _ _ (h1 _ _ _ _ (h2 _ _ _ _ (h3 _ _ _ _ h)))
theorem qp6 {fuel:Nat} {l:Array Bool} {a0 a1 a2 a3 a4 a5 a6:Act} {w:World} (i N n:Nat) (h:y22 P md ops Q S ds fuel (fl_ n (2 ^ (i + 6) - 1)) a6 w) (h0:qY P ops Q md l (fl_ n (2 ^ (i + 1) - 1)) i N a0 a1:=by exact qY_) (h1:qY P ops Q md (fl_ n (2 ^ (i + 1) - 1)) (fl_ n (2 ^ (i + 2) - 1)) (i + 1) (N + 1) a1 a2:=by exact qY_) (h2:qY P ops Q md (fl_ n (2 ^ (i + 2) - 1)) (fl_ n (2 ^ (i + 3) - 1)) (i + 2) (N + 2) a2 a3:=by exact qY_) (h3:qY P ops Q md (fl_ n (2 ^ (i + 3) - 1)) (fl_ n (2 ^ (i + 4) - 1)) (i + 3) (N + 3) a3 a4:=by exact qY_) (h4:qY P ops Q md (fl_ n (2 ^ (i + 4) - 1)) (fl_ n (2 ^ (i + 5) - 1)) (i + 4) (N + 4) a4 a5:=by exact qY_) (h5:qY P ops Q md (fl_ n (2 ^ (i + 5) - 1)) (fl_ n (2 ^ (i + 6) - 1)) (i + 5) (N + 5) a5 a6:=by exact qY_):y22 P md ops Q S ds (fuel + 6) l a0 w:=h0 _ _ _ _ (h1 _ _ _ _ (h2 _ _ _ _ (h3 _ _ _ _ (h4 _ _ _ _ (h5 _ _ _ _ h)))))
theorem qp10 {fuel:Nat} {l:Array Bool} {a0 a1 a2 a3 a4 a5 a6 a7 a8 a9 a10:Act} {w:World} (i N n:Nat) (h:y22 P md ops Q S ds fuel (fl_ n (2 ^ (i + 10) - 1)) a10 w) (h0:qY P ops Q md l (fl_ n (2 ^ (i + 1) - 1)) i N a0 a1:=by exact qY_) (h1:qY P ops Q md (fl_ n (2 ^ (i + 1) - 1)) (fl_ n (2 ^ (i + 2) - 1)) (i + 1) (N + 1) a1 a2:=by exact qY_) (h2:qY P ops Q md (fl_ n (2 ^ (i + 2) - 1)) (fl_ n (2 ^ (i + 3) - 1)) (i + 2) (N + 2) a2 a3:=by exact qY_) (h3:qY P ops Q md (fl_ n (2 ^ (i + 3) - 1)) (fl_ n (2 ^ (i + 4) - 1)) (i + 3) (N + 3) a3 a4:=by exact qY_) (h4:qY P ops Q md (fl_ n (2 ^ (i + 4) - 1)) (fl_ n (2 ^ (i + 5) - 1)) (i + 4) (N + 4) a4 a5:=by exact qY_) (h5:qY P ops Q md (fl_ n (2 ^ (i + 5) - 1)) (fl_ n (2 ^ (i + 6) - 1)) (i + 5) (N + 5) a5 a6:=by exact qY_) (h6:qY P ops Q md (fl_ n (2 ^ (i + 6) - 1)) (fl_ n (2 ^ (i + 7) - 1)) (i + 6) (N + 6) a6 a7:=by exact qY_) (h7:qY P ops Q md (fl_ n (2 ^ (i + 7) - 1)) (fl_ n (2 ^ (i + 8) - 1)) (i + 7) (N + 7) a7 a8:=by exact qY_) (h8:qY P ops Q md (fl_ n (2 ^ (i + 8) - 1)) (fl_ n (2 ^ (i + 9) - 1)) (i + 8) (N + 8) a8 a9:=by exact qY_) (h9:qY P ops Q md (fl_ n (2 ^ (i + 9) - 1)) (fl_ n (2 ^ (i + 10) - 1)) (i + 9) (N + 9) a9 a10:=by exact qY_):y22 P md ops Q S ds (fuel + 10) l a0 w:=h0 _ _ _ _ (h1 _ _ _ _ (h2 _ _ _ _ (h3 _ _ _ _ (h4 _ _ _ _ (h5 _ _ _ _ (h6 _ _ _ _ (h7 _ _ _ _ (h8 _ _ _ _ (h9 _ _ _ _ h)))))))))
end
def errW:Option Int→Value
 | none=>.nilIface
 | some c=>.iface 0 (.int .i64 c)
theorem y14:errW none=.nilIface:=rfl
theorem y15 (c:Int):errW (some c)=.iface 0 (.int .i64 c):=rfl
theorem info5:(Tryz.prog.info? 5).map (fun i=>(i.zero,i.size,i.bytes))=some (some (.int .u8 0),1,1):=by kernel_rfl
theorem info9:(Tryz.prog.info? 9).map (fun i=>(i.zero,i.size,i.bytes))=some (some (.string ⟨#[]⟩),1,16):=by kernel_rfl
theorem info36:(Tryz.prog.info? 36).map (fun i=>(i.zero,i.size,i.bytes))=some (some (.agg #[(.slice none 0 0)]),1,24):=by kernel_rfl
structure S27 where
 f0:(List ByteArray)
structure S36 where
 f0:(List ByteArray)
def z36:S36:=⟨([]:List ByteArray)⟩
def k36:Kd S36:=Kd.iso (Kd.slice 9 Kd.string) (fun x:S36=>x.f0)
theorem k36_open {w:World} {x:S36} {cs:List Value} (h:k36.K w x cs):∃ A0 c0,cs=[.slice A0 x.f0.length c0]∧x.f0.length≤c0∧Kd.string.C w A0 x.f0.length x.f0:=by
 obtain⟨A0,c0,rfl,l0,g0⟩:=h
 exact⟨A0,c0,rfl,l0,g0⟩
theorem k36_mk (w:World) (x:S36) {A0:Option Addr} {c0:Nat} (l0:x.f0.length≤c0) (g0:Kd.string.C w A0 x.f0.length x.f0):k36.K w x [.slice A0 x.f0.length c0]:=⟨A0,c0,rfl,l0,g0⟩
theorem k36_mkM (w:World) (base:Nat) (ok:Nat→Prop) (x:S36) {v0:Value} (g0:Kd.string.R 9 w base ok v0 x.f0):k36.M w base ok x [v0]:=⟨v0,rfl,g0⟩
theorem k36_openF {W:World} {ok:Nat→Prop} {x:S36} {cs:List Value} (h:Kd.FK k36 W ok x cs):∃ A0 c0,cs=[.slice A0 x.f0.length c0]∧x.f0.length≤c0∧Kd.F Kd.string W ok A0 x.f0.length x.f0:=by
 obtain⟨A0,c0,rfl,l0,_⟩:=k36_open (Kd.FK_now h)
 exact⟨A0,c0,rfl,l0,(fun W' hW=>by obtain⟨A0_,c0_,he,l0_,g0_⟩:=k36_open (h W' hW);injection (Option.some.inj (show some (Value.slice A0 x.f0.length c0)=some (Value.slice A0_ x.f0.length c0_)from congrArg (fun l=>l[0]?) he))with ha_ _ _;rw [ha_];exact g0_)⟩
theorem k36_mkF (W:World) (ok:Nat→Prop) (x:S36) {A0:Option Addr} {c0:Nat} (l0:x.f0.length≤c0) (g0:Kd.F Kd.string W ok A0 x.f0.length x.f0):Kd.FK k36 W ok x [.slice A0 x.f0.length c0]:=fun W2 hW=>k36_mk W2 x l0 (g0 W2 hW)
def y20 (xs:List S36) (i:Int):S36:=xs.getD i.toNat z36
theorem at_T36 {w:World} {A:Option Addr} {n:Nat} {xs:List S36} (h:Kd.C k36 w A n xs) (i:Int) (h0:0≤i) (h1:i < n):∃ ad A0 c0,A=some ad∧w.cell? (ad.add i.toNat)=some (.slice A0 (y20 xs i).f0.length c0)∧(y20 xs i).f0.length≤c0∧Kd.string.C w A0 (y20 xs i).f0.length (y20 xs i).f0:=by
 obtain⟨ad,c,e,_,hK,hc0⟩:=Kd.C_get h z36 i h0 h1
 have hc:∀ j u,c[j]?=some u→w.cell? (ad.add (i.toNat * 1 + j))=some u:=hc0
 obtain⟨A0,c0,rfl,l0,g0⟩:=k36_open hK
 exact⟨ad,A0,c0,e,by have hq:=hc 0 _ rfl;rwa [Nat.mul_one,Nat.add_zero]at hq,l0,g0⟩
structure S32 where
 f0:Int
 f1:(List S36)
structure S24 where
 f0:Int
 f1:(List S27)
/-- What the library's package-level variables hold: carried by every walk that comes to them. -/
structure Tb (w:World):Prop where
 pow : Lib.TabIs Tryz.prog w "internal/strconv.uint64pow10" .u64 Lib.pow10Tab
 es:∃ ev,w.cell? ⟨0,0,none⟩=some ev∧(ev=.nilIface∨∃ te pe,ev=.iface te pe)
 er:∃ ev,w.cell? ⟨1,0,none⟩=some ev∧(ev=.nilIface∨∃ te pe,ev=.iface te pe)
 ml:∃ m,w.cell? ⟨3,0,none⟩=some (.int .i64 m)
theorem gPow : Tryz.prog.globalNamed "internal/strconv.uint64pow10" = some 2 := by kernel_rfl
theorem var_block {P:Program} {w:World} {n:String} {cs:Array Value} {g:Nat} (hg:P.globalNamed n=some g) (h:w.var? P n=some cs):g < w.heap.size:=by
 unfold World.var? at h
 rw [hg]at h
 simp only [Option.bind_some]at h
 split at h
 ·rename_i hh
  exact(Array.getElem?_eq_some_iff.1 hh).1
 ·cases h
theorem Tb.below {w w':World} (h:Tb w) (hb:Below w.heap.size w w'):Tb w':=by
 constructor
 ·exact var?_below hb gPow (var_block gPow h.pow) h.pow
 ·obtain⟨ev,h1,h2⟩:=h.es;exact⟨ev,pw_cell_below hb h1,h2⟩
 ·obtain⟨ev,h1,h2⟩:=h.er;exact⟨ev,pw_cell_below hb h1,h2⟩
 ·obtain⟨m,h1⟩:=h.ml;exact⟨m,pw_cell_below hb h1⟩
theorem Tb.drawn {w w':World} (h:Tb w) (hd:y1 w w'):Tb w':=h.below hd.below
end Go.Proofs.YtkajecadkkgfmaaGreatDoor.Pn
end
section
namespace Go.Proofs.YtkajecadkkgfmaaGreatDoor.Pn
open Go.RowKit Go.Proofs.YtkajecadkkgfmaaGreatDoorW.PrintWords Go.Proofs.YtkajecadkkgfmaaGreatDoorW.PrintLast Go.Proofs.YtkajecadkkgfmaaGreatDoorW.PrintMore
attribute [local go_sem] max2_int min2_int max_two min_two max_three min_three max_four min_four   -- for this text's walks alone
set_option linter.unusedVariables false
set_option linter.unusedSimpArgs false
def spec_l01Between.f (a0:Int) (a1:Int) (a2:Int):Option (Bool):=if a0≥a1 then(some (decide (a0≤a2)))else(some false)
set_option maxHeartbeats 8000000 in
set_option maxRecDepth 100000 in
theorem spec_l01Between.calls (a0:Int) (a1:Int) (a2:Int) (r:Bool) (w:World) (h:spec_l01Between.f a0 a1 a2=some r) :
  Calls Tryz.prog 56 #[.int .i64 a0,.int .i64 a1,.int .i64 a2] w fun e w'=>e=.returned (.bool r)∧y1 w w':=by
 have H:(if a0≥a1 then(some (decide (a0≤a2)))else(some false))=some r:=h
 clear h
 by_cases c4:a0≥a1
 ·rw [if_pos c4]at H
  have c4b0:decide (a1≤a0)=true:=decide_eq_true c4
  clear c4
  obtain rfl:=Option.some.inj H
  go_enter Tryz.func56,Tryz.ntmps56
  go_wp2
  go_ret
  exact qf2
 ·rw [if_neg c4]at H
  have c4b0:decide (a1≤a0)=false:=decide_eq_false c4
  clear c4
  obtain rfl:=Option.some.inj H
  go_enter Tryz.func56,Tryz.ntmps56
  go_wp2
  go_ret
  exact qf2
def spec_NumText.l0:Nat→Int→List Int→Int→Option (ByteArray)
 | 0,_,_,_=>none
 | k + 1,x0,x3,x4=>if x4=0 then(if x0 < 0 then((some (([45]:List Int):List Int)).bind fun y136=>(if y136.length + x3.length < 140737488355328 then(some (strOfNums (y136 ++ x3)))else(none)))else(some (strOfNums x3)))else(if(Int.tmod x4 10) < 0 then((some (([(wrap64 (48 + (wrap64 (-(Int.tmod x4 10))))) % 256]:List Int):List Int)).bind fun y142=>(if y142.length + x3.length < 140737488355328 then(spec_NumText.l0 k x0 (y142 ++ x3) (wrap64 (Int.tdiv x4 10)))else(none)))else((some (([(wrap64 (48 + (Int.tmod x4 10))) % 256]:List Int):List Int)).bind fun y148=>(if y148.length + x3.length < 140737488355328 then(spec_NumText.l0 k x0 (y148 ++ x3) (wrap64 (Int.tdiv x4 10)))else(none))))
def spec_NumText.f (k:Nat) (a0:Int):Option (ByteArray):=if a0=0 then(some (⟨#[48]⟩:ByteArray))else(spec_NumText.l0 k a0 (([]:List Int)) a0)
set_option maxHeartbeats 8000000 in
set_option maxRecDepth 100000 in
theorem spec_NumText.calls (k:Nat) (a0:Int) (r:ByteArray) (w:World) (h:spec_NumText.f k a0=some r) :
  Calls Tryz.prog 81 #[.int .i64 a0] w fun e w'=>e=.returned (.string r)∧Below w.heap.size w w':=by
 have HB:=y0.mk (Below.refl w.heap.size w)
 have H:(if a0=0 then(some (⟨#[48]⟩:ByteArray))else(spec_NumText.l0 k a0 (([]:List Int)) a0))=some r:=h
 clear h
 by_cases c2:a0=0
 ·rw [if_pos c2]at H
  have Ba:(a0 == 0)=true:=beq_iff_eq.mpr c2
  have Bb:(a0 != 0)=false:=bne_eq_false_iff_eq.mpr c2
  clear c2
  obtain rfl:=Option.some.inj H
  go_enter Tryz.func81,Tryz.ntmps81
  go_wp2
  go_ret
  exact⟨qf,qb⟩
 ·rw [if_neg c2]at H
  have Ba:(a0 == 0)=false:=beq_eq_false_iff_ne.mpr c2
  have Bb:(a0 != 0)=true:=bne_iff_ne.mpr c2
  obtain⟨Bc,Ad⟩:∃ y_:List Int,y_=(([]:List Int)):=⟨_,rfl⟩
  replace H:(spec_NumText.l0 k a0 Bc a0)=some r:=by first|(rw [Ad];with_reducible exact H)|(have H2_:=(Option.bind_some _ _).symm.trans H;rw [Ad];with_reducible exact H2_)|(have H2_:=(Option.bind_some _ _).symm.trans H;with_reducible exact H2_)|with_reducible exact H|(rw [Ad];exact H)|exact H
  have Aq:=y0.mk Ad
  clear Ad
  have H':=y0.mk H
  clear H
  go_enter Tryz.func81,Tryz.ntmps81
  go_wp2_with (first|((with_reducible refine y17 (N:=8) rfl ?_);refine qL (Kd.int .u8) 5 8 ([]:List Int) ?_;intro Cn w3 Bd hb hg_ hnew_;clear hg_ hnew_;(first|rw [← Aq.out]at Bd|(simp only [Int.reduceToNat]at Bd;rw [← Aq.out]at Bd));have Be:=y0.mk (Kd.R_lower Bd (y7 qb));replace HB:=y0.mk (y8 qb hb);clear hb Bd))
  go_loopg [3,4] k (fun kq v3 v4 w'=>∃(Ac:List Int) (Ab:Int),v4=.int .i64 Ab∧y0 (spec_NumText.l0 kq a0 Ac Ab=some r)∧y0 (kq≤k)∧y0 (Kd.R (Kd.int .u8) 5 w' w.heap.size (fun _=>True) v3 Ac)∧y0 (Below w.heap.size w w'))
  case atStart=>exact⟨(Bc),(a0),qy2,H',⟨Nat.le_refl _⟩,⟨qR Be.out⟩,⟨qb⟩⟩
  case round =>
   clear H'
   (try clear Ba Bb)
   obtain⟨Ac,Ab,rfl,HA,Bq,Aa,HB⟩:=hrel
   cases gk with
   | zero=>exact absurd HA.out (by simp [spec_NumText.l0])
   | succ k1 =>
    have H:=HA.out
    clear HA
    simp only [spec_NumText.l0]at H
    by_cases c5:Ab=0
    ·rw [if_pos c5]at H
     have Br:(Ab == 0)=true:=beq_iff_eq.mpr c5
     have Bs:(Ab != 0)=false:=bne_eq_false_iff_eq.mpr c5
     clear c5
     by_cases c6:a0 < 0
     ·rw [if_pos c6]at H
      have Bt:=decide_eq_true c6
      clear c6
      obtain⟨Am,Ae⟩:∃ y_:List Int,y_=(([45]:List Int)):=⟨_,rfl⟩
      replace H:(if Am.length + Ac.length < 140737488355328 then(some (strOfNums (Am ++ Ac)))else(none))=some r:=by first|(rw [Ae];with_reducible exact H)|(have H2_:=(Option.bind_some _ _).symm.trans H;rw [Ae];with_reducible exact H2_)|(have H2_:=(Option.bind_some _ _).symm.trans H;with_reducible exact H2_)|with_reducible exact H|(rw [Ae];exact H)|exact H
      have As:=y0.mk Ae
      clear Ae
      obtain⟨c7,H⟩:=qo H
      have Bu:=y0.mk c7
      clear c7
      obtain⟨Bv,Af⟩:∃ y_:List Int,y_=(Am ++ Ac):=⟨_,rfl⟩
      replace H:(some (strOfNums Bv))=some r:=by first|(rw [Af];with_reducible exact H)|(have H2_:=(Option.bind_some _ _).symm.trans H;rw [Af];with_reducible exact H2_)|(have H2_:=(Option.bind_some _ _).symm.trans H;with_reducible exact H2_)|with_reducible exact H|(rw [Af];exact H)|exact H
      have Bf:=y0.mk Af
      clear Af
      obtain rfl:=Option.some.inj H
      go_wp2_with (first|((with_reducible refine y17 (N:=28) rfl ?_);refine qL (Kd.int .u8) 5 28 ([45]:List Int) ?_;intro Bw w8 Ay hb hg_ hnew_;clear hg_ hnew_;(first|rw [← As.out]at Ay|(simp only [Int.reduceToNat]at Ay;rw [← As.out]at Ay));have At:=y0.mk (Kd.R_lower (Kd.R_new' Ay (Kd.R_lt (qR Aa.out))) (y7 qb));replace Aa:=y0.mk (Kd.R_elder' (qR Aa.out) (Kd.R_base Ay) hb);replace HB:=y0.mk (y8 qb hb);clear hb Ay;obtain⟨Bx,Bz,Ca⟩:=Kd.R_slice Aa.out;subst Ca)|((with_reducible refine gate_builtin (b:=.append) (xs:=#[.tmp 28,.tmp 29]) rfl ?_);at_builtin;refine Kd.R_append_rows (Kd.int .u8) (w0:=w) w.heap.size rfl (.tmp 28) (.tmp 29) 43 5 (.int .u8 0) 1 rfl Tryz.underlying43 info5 rfl (by decide) (by omega) Bw Am Ac _ _ _ (fun k_=>some k_≠(.slice Bx Ac.length Bz:Value).ownBlock) (fun _=>False) rfl rfl ?aO ?aR (fun _ _ h=>h) (fun _ h=>h.elim) ?aF ?aB ?aS ?aL ?_;(case aR=>repeat(first|exact(Kd.R_reads' Aa.out).2.2|(with_reducible refine Kd.C_alloc ?_ _)|(with_reducible refine Kd.C_drewN ?_ _)|(with_reducible refine Kd.C_drew ?_)));(case aB=>exact qb);(case aF=>exact(fun k_ hk=>Kd.fresh' (Kd.R_lt (qR Aa.out)) k_ hk));(case aO=>exact(qR (Kd.R_mono At.out (fun _ hk=>hk.2))));(case aS=>exact(y7 qb));(case aL=>have:=Bu.out;omega);intro Co Cr ho hb hg hat;rw [← Bf.out]at ho;replace Aa:=y0.mk (Kd.R_after (ok:=(fun _=>True)) (qR Aa.out) hg hat);replace HB:=y0.mk (hb);have Bg:=y0.mk (ho);clear At;clear ho hb hg hat;have Cj:=own_string (P:=Tryz.prog) Tryz.underlying43 Tryz.underlying5 Tryz.underlying9 (Kd.own_of_R Bg.out)))
      go_ret
      exact⟨qf,qb⟩
     ·rw [if_neg c6]at H
      have Bt:=decide_eq_false c6
      clear c6
      obtain rfl:=Option.some.inj H
      have Ck:=own_string (P:=Tryz.prog) Tryz.underlying43 Tryz.underlying5 Tryz.underlying9 (Kd.own_of_R Aa.out)
      go_wp2
      go_ret
      exact⟨qf,qb⟩
    ·rw [if_neg c5]at H
     have Br:(Ab == 0)=false:=beq_eq_false_iff_ne.mpr c5
     have Bs:(Ab != 0)=true:=bne_iff_ne.mpr c5
     by_cases Az:(Int.tmod Ab 10) < 0
     ·rw [if_pos Az]at H
      have Bh:=decide_eq_true Az
      clear Az
      obtain⟨Ao,Ag⟩:∃ y_:List Int,y_=(([(wrap64 (48 + (wrap64 (-(Int.tmod Ab 10))))) % 256]:List Int)):=⟨_,rfl⟩
      replace H:(if Ao.length + Ac.length < 140737488355328 then(spec_NumText.l0 k1 a0 (Ao ++ Ac) (wrap64 (Int.tdiv Ab 10)))else(none))=some r:=by first|(rw [Ag];with_reducible exact H)|(have H2_:=(Option.bind_some _ _).symm.trans H;rw [Ag];with_reducible exact H2_)|(have H2_:=(Option.bind_some _ _).symm.trans H;with_reducible exact H2_)|with_reducible exact H|(rw [Ag];exact H)|exact H
      have Au:=y0.mk Ag
      clear Ag
      obtain⟨Cl,H⟩:=qo H
      have Bi:=y0.mk Cl
      clear Cl
      obtain⟨Bj,Ah⟩:∃ y_:List Int,y_=(Ao ++ Ac):=⟨_,rfl⟩
      replace H:(spec_NumText.l0 k1 a0 Bj (wrap64 (Int.tdiv Ab 10)))=some r:=by first|(rw [Ah];with_reducible exact H)|(have H2_:=(Option.bind_some _ _).symm.trans H;rw [Ah];with_reducible exact H2_)|(have H2_:=(Option.bind_some _ _).symm.trans H;with_reducible exact H2_)|with_reducible exact H|(rw [Ah];exact H)|exact H
      have Bk:=y0.mk Ah
      clear Ah
      have H':=y0.mk H
      clear H
      go_wp2_with (first|((with_reducible refine y17 (N:=23) rfl ?_);refine Kd.R_lit (Kd.int .u8) _ 5 ?hg (N:=23) ?hd (xs:=([(wrap64 (48 + (wrap64 (-(Int.tmod Ab 10))))) % 256]:List Int)) (inner:=[.int .u8 ((wrap64 (48 + (wrap64 (-(Int.tmod Ab 10))))) % 256)]) (ok:=fun _=>True) (okp:=fun _=>True) ?hr ?hp (fun _ hk=>hk) trivial (Below.refl _ _) (Nat.le_refl _) (by simp) ?_;(case hd=>rfl);(case hg=>rfl);(case hr=>first|(go_simp;done)|(go_simp;rfl));(case hp=>exact(Reps.one (show Kd.M (Kd.int .u8) _ _ _ ((wrap64 (48 + (wrap64 (-(Int.tmod Ab 10))))) % 256) [.int .u8 ((wrap64 (48 + (wrap64 (-(Int.tmod Ab 10))))) % 256)]from rfl) (Reps.none _ _)));intro Cb Cs Ak hb hg_ hnew_;clear hg_ hnew_;(first|rw [← Au.out]at Ak|(simp only [Int.reduceToNat]at Ak;rw [← Au.out]at Ak));have Av:=y0.mk (Kd.R_lower (Kd.R_new' Ak (Kd.R_lt (qR Aa.out))) (y7 qb));replace Aa:=y0.mk (Kd.R_elder' (qR Aa.out) (Kd.R_base Ak) hb);replace HB:=y0.mk (y8 qb hb);clear hb Ak;obtain⟨Cc,Cd,Ce⟩:=Kd.R_slice Aa.out;subst Ce)|((with_reducible refine gate_builtin (b:=.append) (xs:=#[.tmp 23,.tmp 24]) rfl ?_);at_builtin;refine Kd.R_append_rows (Kd.int .u8) (w0:=w) w.heap.size rfl (.tmp 23) (.tmp 24) 43 5 (.int .u8 0) 1 rfl Tryz.underlying43 info5 rfl (by decide) (by omega) Cb Ao Ac _ _ _ (fun k_=>some k_≠(.slice Cc Ac.length Cd:Value).ownBlock) (fun _=>False) rfl rfl ?aO ?aR (fun _ _ h=>h) (fun _ h=>h.elim) ?aF ?aB ?aS ?aL ?_;(case aR=>repeat(first|exact(Kd.R_reads' Aa.out).2.2|(with_reducible refine Kd.C_alloc ?_ _)|(with_reducible refine Kd.C_drewN ?_ _)|(with_reducible refine Kd.C_drew ?_)));(case aB=>exact qb);(case aF=>exact(fun k_ hk=>Kd.fresh' (Kd.R_lt (qR Aa.out)) k_ hk));(case aO=>exact(qR (Kd.R_mono Av.out (fun _ hk=>hk.2))));(case aS=>exact(y7 qb));(case aL=>have:=Bi.out;omega);intro Cp Ct ho hb hg hat;rw [← Bk.out]at ho;replace Aa:=y0.mk (Kd.R_after (ok:=(fun _=>True)) (qR Aa.out) hg hat);replace HB:=y0.mk (hb);have Bl:=y0.mk (ho);clear Av;clear ho hb hg hat))
      go_roundg k1
      case measure=>have:=Bq.out;omega
      exact⟨(Bj),(wrap64 (Int.tdiv Ab 10)),qy2,H',⟨by have:=Bq.out;omega⟩,⟨qR (Kd.R_mono Bl.out (fun _ hk=>trivial))⟩,⟨qb⟩⟩
     ·rw [if_neg Az]at H
      have Bh:=decide_eq_false Az
      clear Az
      obtain⟨Ap,Ai⟩:∃ y_:List Int,y_=(([(wrap64 (48 + (Int.tmod Ab 10))) % 256]:List Int)):=⟨_,rfl⟩
      replace H:(if Ap.length + Ac.length < 140737488355328 then(spec_NumText.l0 k1 a0 (Ap ++ Ac) (wrap64 (Int.tdiv Ab 10)))else(none))=some r:=by first|(rw [Ai];with_reducible exact H)|(have H2_:=(Option.bind_some _ _).symm.trans H;rw [Ai];with_reducible exact H2_)|(have H2_:=(Option.bind_some _ _).symm.trans H;with_reducible exact H2_)|with_reducible exact H|(rw [Ai];exact H)|exact H
      have Aw:=y0.mk Ai
      clear Ai
      obtain⟨Cm,H⟩:=qo H
      have Bm:=y0.mk Cm
      clear Cm
      obtain⟨Bn,Aj⟩:∃ y_:List Int,y_=(Ap ++ Ac):=⟨_,rfl⟩
      replace H:(spec_NumText.l0 k1 a0 Bn (wrap64 (Int.tdiv Ab 10)))=some r:=by first|(rw [Aj];with_reducible exact H)|(have H2_:=(Option.bind_some _ _).symm.trans H;rw [Aj];with_reducible exact H2_)|(have H2_:=(Option.bind_some _ _).symm.trans H;with_reducible exact H2_)|with_reducible exact H|(rw [Aj];exact H)|exact H
      have Bo:=y0.mk Aj
      clear Aj
      have H':=y0.mk H
      clear H
      go_wp2_with (first|((with_reducible refine y17 (N:=23) rfl ?_);refine qL (Kd.int .u8) 5 23 ([(wrap64 (48 + (Int.tmod Ab 10))) % 256]:List Int) ?_;intro Cf Cu Al hb hg_ hnew_;clear hg_ hnew_;(first|rw [← Aw.out]at Al|(simp only [Int.reduceToNat]at Al;rw [← Aw.out]at Al));have Ax:=y0.mk (Kd.R_lower (Kd.R_new' Al (Kd.R_lt (qR Aa.out))) (y7 qb));replace Aa:=y0.mk (Kd.R_elder' (qR Aa.out) (Kd.R_base Al) hb);replace HB:=y0.mk (y8 qb hb);clear hb Al;obtain⟨Cg,Ch,Ci⟩:=Kd.R_slice Aa.out;subst Ci)|((with_reducible refine gate_builtin (b:=.append) (xs:=#[.tmp 23,.tmp 24]) rfl ?_);at_builtin;refine Kd.R_append_rows (Kd.int .u8) (w0:=w) w.heap.size rfl (.tmp 23) (.tmp 24) 43 5 (.int .u8 0) 1 rfl Tryz.underlying43 info5 rfl (by decide) (by omega) Cf Ap Ac _ _ _ (fun k_=>some k_≠(.slice Cg Ac.length Ch:Value).ownBlock) (fun _=>False) rfl rfl ?aO ?aR (fun _ _ h=>h) (fun _ h=>h.elim) ?aF ?aB ?aS ?aL ?_;(case aR=>repeat(first|exact(Kd.R_reads' Aa.out).2.2|(with_reducible refine Kd.C_alloc ?_ _)|(with_reducible refine Kd.C_drewN ?_ _)|(with_reducible refine Kd.C_drew ?_)));(case aB=>exact qb);(case aF=>exact(fun k_ hk=>Kd.fresh' (Kd.R_lt (qR Aa.out)) k_ hk));(case aO=>exact(qR (Kd.R_mono Ax.out (fun _ hk=>hk.2))));(case aS=>exact(y7 qb));(case aL=>have:=Bm.out;omega);intro Cq Cv ho hb hg hat;rw [← Bo.out]at ho;replace Aa:=y0.mk (Kd.R_after (ok:=(fun _=>True)) (qR Aa.out) hg hat);replace HB:=y0.mk (hb);have Bp:=y0.mk (ho);clear Ax;clear ho hb hg hat))
      go_roundg k1
      case measure=>have:=Bq.out;omega
      exact⟨(Bn),(wrap64 (Int.tdiv Ab 10)),qy2,H',⟨by have:=Bq.out;omega⟩,⟨qR (Kd.R_mono Bp.out (fun _ hk=>trivial))⟩,⟨qb⟩⟩
def spec_l01Digit.f (a0:Int):Option (Bool):=if a0≥48 then(some (decide (a0≤57)))else(some false)
set_option maxHeartbeats 8000000 in
set_option maxRecDepth 100000 in
theorem spec_l01Digit.calls (a0:Int) (r:Bool) (w:World) (h:spec_l01Digit.f a0=some r) :
  Calls Tryz.prog 114 #[.int .u8 a0] w fun e w'=>e=.returned (.bool r)∧y1 w w':=by
 have H:(if a0≥48 then(some (decide (a0≤57)))else(some false))=some r:=h
 clear h
 by_cases c2:a0≥48
 ·rw [if_pos c2]at H
  have c2b0:decide (48≤a0)=true:=decide_eq_true c2
  clear c2
  obtain rfl:=Option.some.inj H
  go_enter Tryz.func114,Tryz.ntmps114
  go_wp2
  go_ret
  exact qf2
 ·rw [if_neg c2]at H
  have c2b0:decide (48≤a0)=false:=decide_eq_false c2
  clear c2
  obtain rfl:=Option.some.inj H
  go_enter Tryz.func114,Tryz.ntmps114
  go_wp2
  go_ret
  exact qf2
mutual
def z10_.j0:Nat→ByteArray→Int→ByteArray→Bool→Option (Int×Bool)
 | 0,_,_,_,_=>none
 | k + 1,x0,x4,x5,x15=>if x15=true then(if 1≤(x0.size:Int)then(z10_.j1 k x0 x4 (x0.extract 1 x0.size))else(none))else(z10_.j1 k x0 x4 x5)
def z10_.j1:Nat→ByteArray→Int→ByteArray→Option (Int×Bool)
 | 0,_,_,_=>none
 | k + 1,x0,x4,x5=>(spec_l01Between.f (x5.size:Int) 1 7).bind fun t154=>(if t154=true then(z10_.l0 k x0 x4 x5 0)else(some (0,false)))
def z10_.l0:Nat→ByteArray→Int→ByteArray→Int→Option (Int×Bool)
 | 0,_,_,_,_=>none
 | k + 1,x0,x4,x5,x6=>if x6 < (x5.size:Int)then(if 0≤x6 then((spec_l01Digit.f (bt x5 x6)).bind fun t155=>(if t155=true then(z10_.l0 k x0 (wrap64 ((wrap64 (10 * x4)) + (((bt x5 x6) - 48) % 256))) x5 (wrap64 (x6 + 1)))else(some (0,false))))else(none))else(if x5.toList=x0.toList then((spec_NumText.f k x4).bind fun t156=>(if t156.toList=x0.toList then((spec_l01Between.f x4 (-1000000) 1000000).bind fun t157=>(some (x4,t157)))else(some (x4,false))))else((spec_NumText.f k (wrap64 (-x4))).bind fun t158=>(if t158.toList=x0.toList then((spec_l01Between.f (wrap64 (-x4)) (-1000000) 1000000).bind fun t159=>(some (wrap64 (-x4),t159)))else(some (wrap64 (-x4),false)))))
end
def z10_.f (k:Nat) (a0:ByteArray):Option (Int×Bool):=if(a0.size:Int) > 0 then(if 0 < (a0.size:Int)then(z10_.j0 k a0 0 a0 ((bt a0 0) == 45))else(none))else(z10_.j0 k a0 0 a0 false)
set_option maxHeartbeats 8000000 in
set_option maxRecDepth 100000 in
theorem z10_.calls (k:Nat) (a0:ByteArray) (r1:Int) (r2:Bool) (w:World) (h:z10_.f k a0=some (r1,r2)) :
  Calls Tryz.prog 92 #[.string a0] w fun e w'=>e=.returned (.tuple #[.int .i64 r1,.bool r2])∧Below w.heap.size w w':=by
 have HB:=y0.mk (Below.refl w.heap.size w)
 have H:(if(a0.size:Int) > 0 then(if 0 < (a0.size:Int)then(z10_.j0 k a0 0 a0 ((bt a0 0) == 45))else(none))else(z10_.j0 k a0 0 a0 false))=some (r1,r2):=h
 clear h
 have Az:=y0.mk H
 clear H
 go_enter Tryz.func92,Tryz.ntmps92
 go_upto_region 3 with(fail)
 go_cut [15] (fun Br wc=>∃(kq:Nat) (Af:Bool),Br=.bool Af∧y0 (z10_.j0 kq a0 0 a0 Af=some (r1,r2))∧y0 (kq≤k)∧y0 (Below w.heap.size w wc))
 case first =>
  have H:=Az.out
  clear Az
  by_cases c3:(a0.size:Int) > 0
  ·rw [if_pos c3]at H
   have Ag:decide (0 < (a0.size:Int))=true:=decide_eq_true c3
   have Ba:decide (0 < a0.size)=true:=decide_eq_true (by omega)
   clear c3
   (first|rw [Ag]|(simp only [i64_w,i32_w];rw [Ag])|skip)
   obtain⟨c4,H⟩:=qo H
   have Bs:decide (0 < (a0.size:Int))=true:=decide_eq_true c4
   have Bt:decide (0 < a0.size)=true:=decide_eq_true (by omega)
   clear c4
   have H':=y0.mk H
   clear H
   have p5:0≤(0:Int):=(by omega)
   have q5:0 < a0.size:=qy3
   have Cb:∀ h:0 < a0.size,((a0[0]'h).toNat:Int)=bt a0 0:=bt_at a0 0
   clear p5
   have Cc:(0 < (a0.size:Int))=True:=eq_true (of_decide_eq_true qy1)
   replace q5:=eq_true q5
   go_wp2
   go_meet
   exact⟨_,(((bt a0 0) == 45)),qy2,H',⟨by first|omega|exact Nat.le_refl _⟩,⟨qb⟩⟩
  ·rw [if_neg c3]at H
   have Ag:decide (0 < (a0.size:Int))=false:=decide_eq_false c3
   have Ba:decide (0 < a0.size)=false:=decide_eq_false (by omega)
   clear c3
   (first|rw [Ag]|(simp only [i64_w,i32_w];rw [Ag])|skip)
   have H':=y0.mk H
   clear H
   go_wp2
   go_meet
   exact⟨_,(false),qy2,H',⟨by first|omega|exact Nat.le_refl _⟩,⟨qb⟩⟩
 case rest =>
  clear Az
  obtain⟨kq,Af,rfl,HA,Ax,HB⟩:=hcut
  cases kq with
  | zero=>exact absurd HA.out (by simp [z10_.j0])
  | succ Bu =>
   have H:=HA.out
   clear HA
   simp only [z10_.j0]at H
   have Bb:=y0.mk H
   clear H
   go_upto_if 15 with(fail)
   go_cut [5] (fun v5 wc=>∃(kq:Nat) (Aa:ByteArray),v5=.string Aa∧y0 (z10_.j1 kq a0 0 Aa=some (r1,r2))∧y0 (kq≤Bu)∧y0 (Below w.heap.size w wc))
   case first =>
    have H:=Bb.out
    clear Bb
    by_cases c7:Af=true
    ·subst c7
     replace H:=qT H
     obtain⟨c8,H⟩:=qo H
     have Bv:=eq_true c8
     have Bw:=decide_eq_true c8
     clear c8
     have H':=y0.mk H
     clear H
     go_wp2
     go_meet
     exact⟨_,(a0.extract 1 a0.size),qy2,H',⟨by have:=Ax.out;first|omega|exact Nat.le_refl _⟩,⟨qb⟩⟩
    ·replace c7:=Bool.eq_false_iff.mpr c7
     subst c7
     replace H:=qF H
     have H':=y0.mk H
     clear H
     go_wp2
     go_meet
     exact⟨_,(a0),qy2,H',⟨by have:=Ax.out;first|omega|exact Nat.le_refl _⟩,⟨qb⟩⟩
   case rest =>
    clear Bb
    obtain⟨kq,Aa,rfl,HA,Bh,HB⟩:=hcut
    cases kq with
    | zero=>exact absurd HA.out (by simp [z10_.j1])
    | succ Bi =>
     have H:=HA.out
     clear HA
     simp only [z10_.j1]at H
     obtain⟨Bc,A9,H⟩:=qB H
     by_cases Al:Bc=true
     ·subst Al
      replace H:=qT H
      have H':=y0.mk H
      clear H
      go_wp2_with (first|((with_reducible refine y16 (f:=56) rfl ?_);refine y18 (some 20) rfl rfl Tryz.func56 (by kernel_rfl) rfl #[.int .i64 (Aa.size:Int),.int .i64 1,.int .i64 7] rfl qy0 ?_;(with_reducible refine(spec_l01Between.calls (Aa.size:Int) 1 7 true _ A9.out).mono ?_);rintro e w' ⟨rfl,⟨nd,rfl⟩⟩;refine⟨_,rfl, ?_⟩))
      go_loopg [4,6] Bi (fun kq v4 v6 w'=>∃(Ac:Int) (Ab:Int),v4=.int .i64 Ac∧v6=.int .i64 Ab∧y0 (z10_.l0 kq a0 Ac Aa Ab=some (r1,r2))∧y0 (kq≤Bi)∧y0 (Below w.heap.size w w'))
      case atStart=>exact⟨(0),(0),qy2,qy2,H',⟨Nat.le_refl _⟩,⟨qb⟩⟩
      case round =>
       clear H'
       (try clear Al)
       obtain⟨Ac,Ab,rfl,rfl,HA,Bj,HB⟩:=hrel
       cases gk with
       | zero=>exact absurd HA.out (by simp [z10_.l0])
       | succ k3 =>
        have H:=HA.out
        clear HA
        simp only [z10_.l0]at H
        by_cases Ak:Ab < (Aa.size:Int)
        ·rw [if_pos Ak]at H
         have Am:=decide_eq_true Ak
         clear Ak
         obtain⟨Bk,H⟩:=qo H
         have Bl:decide (0≤Ab)=true:=decide_eq_true Bk
         clear Bk
         obtain⟨Bd,Bm,H⟩:=qB H
         by_cases Ay:Bd=true
         ·subst Ay
          replace H:=qT H
          have H':=y0.mk H
          clear H
          have Ao:0≤(Ab:Int):=of_decide_eq_true qy1
          have Ap:Ab < (Aa.size:Int):=of_decide_eq_true qy1
          have Be:=bt_at Aa Ab
          replace Ao:=eq_true Ao
          replace Ap:=eq_true Ap
          go_wp2_with (first|((with_reducible refine y16 (f:=114) rfl ?_);refine y18 (some 31) rfl rfl Tryz.func114 (by kernel_rfl) rfl #[.int .u8 (bt Aa Ab)] rfl qy0 ?_;(with_reducible refine(spec_l01Digit.calls (bt Aa Ab) true _ Bm.out).mono ?_);rintro e w' ⟨rfl,⟨nd,rfl⟩⟩;refine⟨_,rfl, ?_⟩;have Bn:0≤(Ab:Int):=of_decide_eq_true qy1;have Bo:Ab < (Aa.size:Int):=of_decide_eq_true qy1;have Bx:=bt_at Aa Ab;replace Bn:=eq_true Bn;replace Bo:=eq_true Bo))
          go_roundg k3
          case measure=>have:=Ax.out;have:=Bh.out;have:=Bj.out;omega
          exact⟨(wrap64 ((wrap64 (10 * Ac)) + (((bt Aa Ab) - 48) % 256))),(wrap64 (Ab + 1)),qy2,qy2,H',⟨by have:=Ax.out;have:=Bh.out;have:=Bj.out;omega⟩,⟨qb⟩⟩
         ·replace Ay:=Bool.eq_false_iff.mpr Ay
          subst Ay
          replace H:=qF H
          simp only [Option.some.injEq,Prod.mk.injEq]at H
          obtain⟨rfl,rfl⟩:=H
          have Ao:0≤(Ab:Int):=of_decide_eq_true qy1
          have Ap:Ab < (Aa.size:Int):=of_decide_eq_true qy1
          have Be:=bt_at Aa Ab
          replace Ao:=eq_true Ao
          replace Ap:=eq_true Ap
          go_wp2_with (first|((with_reducible refine y16 (f:=114) rfl ?_);refine y18 (some 31) rfl rfl Tryz.func114 (by kernel_rfl) rfl #[.int .u8 (bt Aa Ab)] rfl qy0 ?_;(with_reducible refine(spec_l01Digit.calls (bt Aa Ab) false _ Bm.out).mono ?_);rintro e w' ⟨rfl,⟨nd,rfl⟩⟩;refine⟨_,rfl, ?_⟩))
          go_ret2
          exact⟨qf,qb⟩
        ·rw [if_neg Ak]at H
         have Am:=decide_eq_false Ak
         clear Ak
         by_cases Ah:Aa.toList=a0.toList
         ·rw [if_pos Ah]at H
          have Aq:(Aa.toList == a0.toList)=true:=beq_iff_eq.mpr Ah
          have As:(Aa.toList != a0.toList)=false:=bne_eq_false_iff_eq.mpr Ah
          clear Ah
          obtain⟨Ad,Bp,H⟩:=qB H
          by_cases Ai:Ad.toList=a0.toList
          ·rw [if_pos Ai]at H
           have At:(Ad.toList == a0.toList)=true:=beq_iff_eq.mpr Ai
           have Au:(Ad.toList != a0.toList)=false:=bne_eq_false_iff_eq.mpr Ai
           clear Ai
           obtain⟨Bf,Bz,H⟩:=qB H
           simp only [Option.some.injEq,Prod.mk.injEq]at H
           obtain⟨rfl,rfl⟩:=H
           go_wp2_with (first|((with_reducible refine y16 (f:=81) rfl ?_);refine y18 (some 48) rfl rfl Tryz.func81 (by kernel_rfl) rfl #[.int .i64 Ac] rfl qy0 ?_;(with_reducible refine(spec_NumText.calls k3 Ac Ad _ Bp.out).mono ?_);rintro e Cd ⟨rfl,hb⟩;refine⟨_,rfl, ?_⟩;replace HB:=y0.mk (y8 qb hb);(try clear hb))|(go_at_call 56;(with_reducible refine(spec_l01Between.calls Ac (-1000000) 1000000 Bf _ Bz.out).mono ?_);rintro e w' ⟨rfl,⟨nd,rfl⟩⟩))
           go_ret2
           exact⟨qf,qb⟩
          ·rw [if_neg Ai]at H
           have At:(Ad.toList == a0.toList)=false:=beq_eq_false_iff_ne.mpr Ai
           have Au:(Ad.toList != a0.toList)=true:=bne_iff_ne.mpr Ai
           simp only [Option.some.injEq,Prod.mk.injEq]at H
           obtain⟨rfl,rfl⟩:=H
           go_wp2_with (first|((with_reducible refine y16 (f:=81) rfl ?_);refine y18 (some 48) rfl rfl Tryz.func81 (by kernel_rfl) rfl #[.int .i64 Ac] rfl qy0 ?_;(with_reducible refine(spec_NumText.calls k3 Ac Ad _ Bp.out).mono ?_);rintro e Ce ⟨rfl,hb⟩;refine⟨_,rfl, ?_⟩;replace HB:=y0.mk (y8 qb hb);(try clear hb)))
           go_ret2
           exact⟨qf,qb⟩
         ·rw [if_neg Ah]at H
          have Aq:(Aa.toList == a0.toList)=false:=beq_eq_false_iff_ne.mpr Ah
          have As:(Aa.toList != a0.toList)=true:=bne_iff_ne.mpr Ah
          obtain⟨Ae,Bq,H⟩:=qB H
          by_cases Aj:Ae.toList=a0.toList
          ·rw [if_pos Aj]at H
           have Av:(Ae.toList == a0.toList)=true:=beq_iff_eq.mpr Aj
           have Aw:(Ae.toList != a0.toList)=false:=bne_eq_false_iff_eq.mpr Aj
           clear Aj
           obtain⟨Bg,Ca,H⟩:=qB H
           simp only [Option.some.injEq,Prod.mk.injEq]at H
           obtain⟨rfl,rfl⟩:=H
           go_wp2_with (first|((with_reducible refine y16 (f:=81) rfl ?_);refine y18 (some 48) rfl rfl Tryz.func81 (by kernel_rfl) rfl #[.int .i64 (wrap64 (-Ac))] rfl qy0 ?_;(with_reducible refine(spec_NumText.calls k3 (wrap64 (-Ac)) Ae _ Bq.out).mono ?_);rintro e Cf ⟨rfl,hb⟩;refine⟨_,rfl, ?_⟩;replace HB:=y0.mk (y8 qb hb);(try clear hb))|(go_at_call 56;(with_reducible refine(spec_l01Between.calls (wrap64 (-Ac)) (-1000000) 1000000 Bg _ Ca.out).mono ?_);rintro e w' ⟨rfl,⟨nd,rfl⟩⟩))
           go_ret2
           exact⟨qf,qb⟩
          ·rw [if_neg Aj]at H
           have Av:(Ae.toList == a0.toList)=false:=beq_eq_false_iff_ne.mpr Aj
           have Aw:(Ae.toList != a0.toList)=true:=bne_iff_ne.mpr Aj
           simp only [Option.some.injEq,Prod.mk.injEq]at H
           obtain⟨rfl,rfl⟩:=H
           go_wp2_with (first|((with_reducible refine y16 (f:=81) rfl ?_);refine y18 (some 48) rfl rfl Tryz.func81 (by kernel_rfl) rfl #[.int .i64 (wrap64 (-Ac))] rfl qy0 ?_;(with_reducible refine(spec_NumText.calls k3 (wrap64 (-Ac)) Ae _ Bq.out).mono ?_);rintro e Cg ⟨rfl,hb⟩;refine⟨_,rfl, ?_⟩;replace HB:=y0.mk (y8 qb hb);(try clear hb)))
           go_ret2
           exact⟨qf,qb⟩
     ·replace Al:=Bool.eq_false_iff.mpr Al
      subst Al
      replace H:=qF H
      simp only [Option.some.injEq,Prod.mk.injEq]at H
      obtain⟨rfl,rfl⟩:=H
      go_wp2_with (first|((with_reducible refine y16 (f:=56) rfl ?_);refine y18 (some 20) rfl rfl Tryz.func56 (by kernel_rfl) rfl #[.int .i64 (Aa.size:Int),.int .i64 1,.int .i64 7] rfl qy0 ?_;(with_reducible refine(spec_l01Between.calls (Aa.size:Int) 1 7 false _ A9.out).mono ?_);rintro e w' ⟨rfl,⟨nd,rfl⟩⟩;refine⟨_,rfl, ?_⟩))
      go_ret2
      exact⟨qf,qb⟩
end Go.Proofs.YtkajecadkkgfmaaGreatDoor.Pn
end
section
namespace Go.Proofs.YtkajecadkkgfmaaGreatDoor.Pn
open Go.RowKit Go.Proofs.YtkajecadkkgfmaaGreatDoorW.PrintWords Go.Proofs.YtkajecadkkgfmaaGreatDoorW.PrintLast Go.Proofs.YtkajecadkkgfmaaGreatDoorW.PrintMore
attribute [local go_sem] max2_int min2_int max_two min_two max_three min_three max_four min_four   -- for this text's walks alone
set_option linter.unusedVariables false
set_option linter.unusedSimpArgs false
mutual
def z5_.j1:Nat→ByteArray→Int→Option (ByteArray×List ByteArray×Bool)
 | 0,_,_=>none
 | k + 1,x0,x5=>if x5=(x0.size:Int)then(some (x0,(([]:List ByteArray)),true))else(z5_.l1 k x0 x5 (([]:List ByteArray)) 0 false (wrap64 (x5 + 1)) x5)
def z5_.l1:Nat→ByteArray→Int→List ByteArray→Int→Bool→Int→Int→Option (ByteArray×List ByteArray×Bool)
 | 0,_,_,_,_,_,_,_=>none
 | k + 1,x0,x5,x6,x7,x8,x9,x10=>if x10 < (x0.size:Int)then(if 0≤x10 then(if(bt x0 x10)=34 then(z5_.l1 k x0 x5 x6 x7 (!x8) x9 (wrap64 (x10 + 1)))else(if x8=true then(z5_.l1 k x0 x5 x6 x7 x8 x9 (wrap64 (x10 + 1)))else(if(bt x0 x10)=40 then(z5_.l1 k x0 x5 x6 (wrap64 (x7 + 1)) x8 x9 (wrap64 (x10 + 1)))else(if(bt x0 x10)=41 then(if(wrap64 (x7 - 1))=0 then(if 0≤x5 then(if x5≤(x0.size:Int)then(if 0≤x9 then(if x9≤x10 then(if x10≤(x0.size:Int)then(if x6.length < 8796093022208 then(some (x0.extract 0 (x5:Int).toNat,(x6 ++ [x0.extract (x9:Int).toNat (x10:Int).toNat]),(x10 == (wrap64 ((x0.size:Int) - 1)))))else(none))else(none))else(none))else(none))else(none))else(none))else(z5_.l1 k x0 x5 x6 (wrap64 (x7 - 1)) x8 x9 (wrap64 (x10 + 1))))else(if(bt x0 x10)=44 then(if x7=1 then(if 0≤x9 then(if x9≤x10 then(if x10≤(x0.size:Int)then(if x6.length < 8796093022208 then(z5_.l1 k x0 x5 (x6 ++ [x0.extract (x9:Int).toNat (x10:Int).toNat]) x7 x8 (wrap64 (x10 + 1)) (wrap64 (x10 + 1)))else(none))else(none))else(none))else(none))else(z5_.l1 k x0 x5 x6 x7 x8 x9 (wrap64 (x10 + 1))))else(z5_.l1 k x0 x5 x6 x7 x8 x9 (wrap64 (x10 + 1))))))))else(none))else(some ((⟨#[]⟩:ByteArray),(([]:List ByteArray)),false))
def z5_.l0:Nat→ByteArray→Int→Option (ByteArray×List ByteArray×Bool)
 | 0,_,_=>none
 | k + 1,x0,x5=>if x5 < (x0.size:Int)then(if 0≤x5 then(if(bt x0 x5)=40 then(z5_.j1 k x0 x5)else(z5_.l0 k x0 (wrap64 (x5 + 1))))else(none))else(z5_.j1 k x0 x5)
end
def z5_.f (k:Nat) (a0:ByteArray):Option (ByteArray×List ByteArray×Bool):=z5_.l0 k a0 0
def z5_.T21:Bool×List (List Nat×List Nat):=(true,[([],[]),([],[]),([0,1],[0,1]),([],[]),([],[]),([],[]),([],[]),([4,5,6],[4,5,6]),([7],[7]),([3,8],[3,8]),([],[]),([],[]),([11],[11]),([12],[12]),([10,13],[10,13]),([2,9,0,1,2],[2]),([9,15,0,1,2,3,4,5,6,7,8,9,15],[9]),([14,16,0,1,2,3,4,5,6,7,8,9,10,11,12,13,14,15,16],[14])])
def z5_.B21:List Nat:=[0,0,3,0,0,0,0,112,240,504,0,0,2048,6144,15360,1023,33791,131071]
theorem z5_.tab21:rtab .any (opsOf Tryz.f93 21)=z5_.T21:=by kernel_rfl
theorem z5_.bits21:waitsOk z5_.T21.2 z5_.B21=true:=by kernel_rfl
set_option maxHeartbeats 8000000 in
set_option maxRecDepth 100000 in
theorem z5_.calls (k:Nat) (a0:ByteArray) (r1:ByteArray) (r2:List ByteArray) (r3:Bool) (w:World) (h:z5_.f k a0=some (r1,r2,r3)) :
  Calls Tryz.prog 93 #[.string a0] w fun e w'=>∃ v1_:Value,e=.returned (.tuple #[.string r1,v1_,.bool r3])∧Kd.R Kd.string 9 w' w.heap.size (fun _=>True) v1_ r2∧Below w.heap.size w w':=by
 have HB:=y0.mk (Below.refl w.heap.size w)
 have H:(z5_.l0 k a0 0)=some (r1,r2,r3):=h
 clear h
 have Ct:=y0.mk H
 clear H
 go_enter Tryz.func93,Tryz.ntmps93
 go_upto_block 0 with(fail)
 go_cut [5] (fun v5 wc=>∃(kq:Nat) (Ab:Int),v5=.int .i64 Ab∧y0 (z5_.j1 kq a0 Ab=some (r1,r2,r3))∧y0 (kq≤k)∧y0 (Below w.heap.size w wc))
 case first =>
  have H:=Ct.out
  clear Ct
  have H':=y0.mk H
  clear H
  go_wp2
  go_loopg [5] k (fun kq v5 w'=>∃(Ab:Int),v5=.int .i64 Ab∧y0 (z5_.l0 kq a0 Ab=some (r1,r2,r3))∧y0 (kq≤k)∧y0 (Below w.heap.size w w'))
  case atStart=>exact⟨(0),qy2,H',⟨Nat.le_refl _⟩,⟨qb⟩⟩
  case round =>
   clear H'
   obtain⟨Ab,rfl,HA,Cr,HB⟩:=hrel
   cases gk with
   | zero=>exact absurd HA.out (by simp [z5_.l0])
   | succ k1 =>
    have H:=HA.out
    clear HA
    simp only [z5_.l0]at H
    by_cases c3:Ab < (a0.size:Int)
    ·rw [if_pos c3]at H
     have Ax:=decide_eq_true c3
     clear c3
     (first|rw [Ax]|(simp only [i64_w,i32_w];rw [Ax])|skip)
     obtain⟨c4,H⟩:=qo H
     have Ec:decide (0≤Ab)=true:=decide_eq_true c4
     clear c4
     by_cases c6:(bt a0 Ab)=40
     ·rw [if_pos c6]at H
      have Cu:((bt a0 Ab) == 40)=true:=beq_iff_eq.mpr c6
      have Cv:((bt a0 Ab) != 40)=false:=bne_eq_false_iff_eq.mpr c6
      clear c6
      have H':=y0.mk H
      clear H
      have p5:0≤(Ab:Int):=of_decide_eq_true qy1
      have q5:Ab < (a0.size:Int):=of_decide_eq_true qy1
      have Ed:=bt_at a0 Ab
      replace p5:=eq_true p5
      replace q5:=eq_true q5
      go_wp2
      go_meet
      exact⟨_,(Ab),qy2,H',⟨by have:=Cr.out;first|omega|exact Nat.le_refl _⟩,⟨qb⟩⟩
     ·rw [if_neg c6]at H
      have Cu:((bt a0 Ab) == 40)=false:=beq_eq_false_iff_ne.mpr c6
      have Cv:((bt a0 Ab) != 40)=true:=bne_iff_ne.mpr c6
      have H':=y0.mk H
      clear H
      have p5:0≤(Ab:Int):=of_decide_eq_true qy1
      have q5:Ab < (a0.size:Int):=of_decide_eq_true qy1
      have Ed:=bt_at a0 Ab
      replace p5:=eq_true p5
      replace q5:=eq_true q5
      go_wp2
      go_roundg k1
      case measure=>have:=Cr.out;omega
      exact⟨(wrap64 (Ab + 1)),qy2,H',⟨by have:=Cr.out;omega⟩,⟨qb⟩⟩
    ·rw [if_neg c3]at H
     have Ax:=decide_eq_false c3
     clear c3
     (first|rw [Ax]|(simp only [i64_w,i32_w];rw [Ax])|skip)
     have H':=y0.mk H
     clear H
     go_wp2
     go_meet
     exact⟨_,(Ab),qy2,H',⟨by have:=Cr.out;first|omega|exact Nat.le_refl _⟩,⟨qb⟩⟩
 case rest =>
  clear Ct
  obtain⟨kq,Ab,rfl,HA,As,HB⟩:=hcut
  cases kq with
  | zero=>exact absurd HA.out (by simp [z5_.j1])
  | succ Cw =>
   have H:=HA.out
   clear HA
   simp only [z5_.j1]at H
   by_cases c7:Ab=(a0.size:Int)
   ·rw [if_pos c7]at H
    have Bo:(Ab == (a0.size:Int))=true:=beq_iff_eq.mpr c7
    have Bp:(Ab != (a0.size:Int))=false:=bne_eq_false_iff_eq.mpr c7
    clear c7
    obtain⟨Cx,Ai⟩:∃ y_:List ByteArray,y_=(([]:List ByteArray)):=⟨_,rfl⟩
    replace H:(some (a0,Cx,true))=some (r1,r2,r3):=by first|(rw [Ai];with_reducible exact H)|(have H2_:=(Option.bind_some _ _).symm.trans H;rw [Ai];with_reducible exact H2_)|(have H2_:=(Option.bind_some _ _).symm.trans H;with_reducible exact H2_)|with_reducible exact H|(rw [Ai];exact H)|exact H
    have Bc:=y0.mk Ai
    clear Ai
    simp only [Option.some.injEq,Prod.mk.injEq]at H
    obtain⟨rfl,rfl,rfl⟩:=H
    go_wp2_with (first|((with_reducible refine y17 (N:=28) rfl ?_);refine qL Kd.string 9 28 ([]:List ByteArray) ?_;intro Ee w8 Bq hb hg_ hnew_;clear hg_ hnew_;(first|rw [← Bc.out]at Bq|(simp only [Int.reduceToNat]at Bq;rw [← Bc.out]at Bq));have Br:=y0.mk (Kd.R_lower Bq (y7 qb));replace HB:=y0.mk (y8 qb hb);clear hb Bq))
    go_ret3
    exact⟨_,by first|rfl|(simp [y14,y15] <;> rfl)|(simp [*,y14,y15] <;> rfl),by(with_reducible repeat(first|apply Kd.R_alloc|apply Kd.R_drewN|apply Kd.R_drew));exact Br.out,qb⟩
   ·rw [if_neg c7]at H
    have Bo:(Ab == (a0.size:Int))=false:=beq_eq_false_iff_ne.mpr c7
    have Bp:(Ab != (a0.size:Int))=true:=bne_iff_ne.mpr c7
    obtain⟨Bs,Aj⟩:∃ y_:List ByteArray,y_=(([]:List ByteArray)):=⟨_,rfl⟩
    replace H:(z5_.l1 Cw a0 Ab Bs 0 false (wrap64 (Ab + 1)) Ab)=some (r1,r2,r3):=by first|(rw [Aj];with_reducible exact H)|(have H2_:=(Option.bind_some _ _).symm.trans H;rw [Aj];with_reducible exact H2_)|(have H2_:=(Option.bind_some _ _).symm.trans H;with_reducible exact H2_)|with_reducible exact H|(rw [Aj];exact H)|exact H
    have Bd:=y0.mk Aj
    clear Aj
    have H':=y0.mk H
    clear H
    go_wp2_with (first|((with_reducible refine y17 (N:=29) rfl ?_);refine qL Kd.string 9 29 ([]:List ByteArray) ?_;intro Ef Ek Ay hb hg_ hnew_;clear hg_ hnew_;(first|rw [← Bd.out]at Ay|(simp only [Int.reduceToNat]at Ay;rw [← Bd.out]at Ay));have Bt:=y0.mk (Kd.R_lower Ay (y7 qb));replace HB:=y0.mk (y8 qb hb);clear hb Ay))
    go_loopg [6,7,8,9,10] Cw (fun kq v6 v7 v8 v9 Eg w'=>∃(Af:List ByteArray) (Ac:Int) (Az:Bool) (Ae:Int) (Aa:Int),v7=.int .i64 Ac∧v8=.bool Az∧v9=.int .i64 Ae∧Eg=.int .i64 Aa∧y0 (z5_.l1 kq a0 Ab Af Ac Az Ae Aa=some (r1,r2,r3))∧y0 (kq≤Cw)∧y0 (Kd.R Kd.string 9 w' w.heap.size (fun _=>True) v6 Af)∧y0 (Below w.heap.size w w'))
    case atStart=>exact⟨(Bs),(0),(false),(wrap64 (Ab + 1)),(Ab),qy2,qy2,qy2,qy2,H',⟨Nat.le_refl _⟩,⟨qR Bt.out⟩,⟨qb⟩⟩
    case round =>
     clear H'
     (try clear Bo Bp)
     obtain⟨Af,Ac,Az,Ae,Aa,rfl,rfl,rfl,rfl,HA,At,Ad,HB⟩:=hrel
     cases gk with
     | zero=>exact absurd HA.out (by simp [z5_.l1])
     | succ k2 =>
      have H:=HA.out
      clear HA
      simp only [z5_.l1]at H
      by_cases Bn:Aa < (a0.size:Int)
      ·rw [if_pos Bn]at H
       have Bu:=decide_eq_true Bn
       clear Bn
       obtain⟨Di,H⟩:=qo H
       have Dj:decide (0≤Aa)=true:=decide_eq_true Di
       clear Di
       by_cases Bh:(bt a0 Aa)=34
       ·rw [if_pos Bh]at H
        have Bv:((bt a0 Aa) == 34)=true:=beq_iff_eq.mpr Bh
        have Bw:((bt a0 Aa) != 34)=false:=bne_eq_false_iff_eq.mpr Bh
        clear Bh
        have H':=y0.mk H
        clear H
        have Ag:0≤(Aa:Int):=of_decide_eq_true qy1
        have Ah:Aa < (a0.size:Int):=of_decide_eq_true qy1
        have Aq:=bt_at a0 Aa
        replace Ag:=eq_true Ag
        replace Ah:=eq_true Ah
        go_wp2
        go_roundg k2
        case measure=>have:=As.out;have:=At.out;omega
        exact⟨(Af),(Ac),(!Az),(Ae),(wrap64 (Aa + 1)),qy2,qy2,qy2,qy2,H',⟨by have:=As.out;have:=At.out;omega⟩,⟨qR Ad.out⟩,⟨qb⟩⟩
       ·rw [if_neg Bh]at H
        have Bv:((bt a0 Aa) == 34)=false:=beq_eq_false_iff_ne.mpr Bh
        have Bw:((bt a0 Aa) != 34)=true:=bne_iff_ne.mpr Bh
        by_cases Cs:Az=true
        ·subst Cs
         replace H:=qT H
         have H':=y0.mk H
         clear H
         have Ag:0≤(Aa:Int):=of_decide_eq_true qy1
         have Ah:Aa < (a0.size:Int):=of_decide_eq_true qy1
         have Aq:=bt_at a0 Aa
         replace Ag:=eq_true Ag
         replace Ah:=eq_true Ah
         go_wp2
         go_roundg k2
         case measure=>have:=As.out;have:=At.out;omega
         exact⟨(Af),(Ac),(true),(Ae),(wrap64 (Aa + 1)),qy2,qy2,qy2,qy2,H',⟨by have:=As.out;have:=At.out;omega⟩,⟨qR Ad.out⟩,⟨qb⟩⟩
        ·replace Cs:=Bool.eq_false_iff.mpr Cs
         subst Cs
         replace H:=qF H
         by_cases Bi:(bt a0 Aa)=40
         ·rw [if_pos Bi]at H
          have Bx:((bt a0 Aa) == 40)=true:=beq_iff_eq.mpr Bi
          have Bz:((bt a0 Aa) != 40)=false:=bne_eq_false_iff_eq.mpr Bi
          clear Bi
          have H':=y0.mk H
          clear H
          have Ag:0≤(Aa:Int):=of_decide_eq_true qy1
          have Ah:Aa < (a0.size:Int):=of_decide_eq_true qy1
          have Aq:=bt_at a0 Aa
          replace Ag:=eq_true Ag
          replace Ah:=eq_true Ah
          have Ak:0≤(Aa:Int):=of_decide_eq_true qy1
          have Al:Aa < (a0.size:Int):=of_decide_eq_true qy1
          have Ba:=bt_at a0 Aa
          replace Ak:=eq_true Ak
          replace Al:=eq_true Al
          go_wp2
          go_roundg k2
          case measure=>have:=As.out;have:=At.out;omega
          exact⟨(Af),(wrap64 (Ac + 1)),(false),(Ae),(wrap64 (Aa + 1)),qy2,qy2,qy2,qy2,H',⟨by have:=As.out;have:=At.out;omega⟩,⟨qR Ad.out⟩,⟨qb⟩⟩
         ·rw [if_neg Bi]at H
          have Bx:((bt a0 Aa) == 40)=false:=beq_eq_false_iff_ne.mpr Bi
          have Bz:((bt a0 Aa) != 40)=true:=bne_iff_ne.mpr Bi
          by_cases Bj:(bt a0 Aa)=41
          ·rw [if_pos Bj]at H
           have Ca:((bt a0 Aa) == 41)=true:=beq_iff_eq.mpr Bj
           have Cb:((bt a0 Aa) != 41)=false:=bne_eq_false_iff_eq.mpr Bj
           clear Bj
           by_cases Bk:(wrap64 (Ac - 1))=0
           ·rw [if_pos Bk]at H
            have Cc:((wrap64 (Ac - 1)) == 0)=true:=beq_iff_eq.mpr Bk
            have Cd:((wrap64 (Ac - 1)) != 0)=false:=bne_eq_false_iff_eq.mpr Bk
            clear Bk
            obtain⟨Cy,H⟩:=qo H
            have Dk:=eq_true Cy
            have Dl:=decide_eq_true Cy
            clear Cy
            obtain⟨Cz,H⟩:=qo H
            have Dm:=eq_true Cz
            have Dn:=decide_eq_true Cz
            clear Cz
            obtain⟨Da,H⟩:=qo H
            have Do:=eq_true Da
            have Dp:=decide_eq_true Da
            clear Da
            obtain⟨Db,H⟩:=qo H
            have Dq:=eq_true Db
            have Dr:=decide_eq_true Db
            clear Db
            obtain⟨Dc,H⟩:=qo H
            have Ds:=eq_true Dc
            have Dt:=decide_eq_true Dc
            clear Dc
            obtain⟨Du,H⟩:=qo H
            have Ce:=y0.mk Du
            clear Du
            obtain⟨Dd,Am⟩:∃ y_:List ByteArray,y_=(Af ++ [a0.extract (Ae:Int).toNat (Aa:Int).toNat]):=⟨_,rfl⟩
            replace H:(some (a0.extract 0 (Ab:Int).toNat,Dd,(Aa == (wrap64 ((a0.size:Int) - 1)))))=some (r1,r2,r3):=by first|(rw [Am];with_reducible exact H)|(have H2_:=(Option.bind_some _ _).symm.trans H;rw [Am];with_reducible exact H2_)|(have H2_:=(Option.bind_some _ _).symm.trans H;with_reducible exact H2_)|with_reducible exact H|(rw [Am];exact H)|exact H
            have Cf:=y0.mk Am
            clear Am
            simp only [Option.some.injEq,Prod.mk.injEq]at H
            obtain⟨rfl,rfl,rfl⟩:=H
            have Ag:0≤(Aa:Int):=of_decide_eq_true qy1
            have Ah:Aa < (a0.size:Int):=of_decide_eq_true qy1
            have Aq:=bt_at a0 Aa
            replace Ag:=eq_true Ag
            replace Ah:=eq_true Ah
            have Ak:0≤(Aa:Int):=of_decide_eq_true qy1
            have Al:Aa < (a0.size:Int):=of_decide_eq_true qy1
            have Ba:=bt_at a0 Aa
            replace Ak:=eq_true Ak
            replace Al:=eq_true Al
            have Au:0≤(Aa:Int):=of_decide_eq_true qy1
            have Av:Aa < (a0.size:Int):=of_decide_eq_true qy1
            have Bb:=bt_at a0 Aa
            replace Au:=eq_true Au
            replace Av:=eq_true Av
            try go_wp2
            replace Ad:=y0.mk (Kd.R_drew Ad.out)
            replace HB:=y0.mk (y5 HB.out)
            refine start_ (n:=18) (S:=fun w'=>True) (ds:=[]) (fl_ 18 0) (by kernel_rfl) rfl rfl trivial (fun hHeld=>?_);refine with_tabW z5_.tab21 z5_.bits21 (fun HT_ HW_=>?_)
            generalize wr.drew=El at Ad HB hHeld ⊢
            refine qp6 0 64 18 ?_
            refine qp2 6 70 18 ?_
            refine qp 10 74 (fl_ 18 1279) ?_
            refine qp 11 75 (fl_ 18 3327) ?_
            refine qp 12 76 (fl_ 18 7423) ?_
            refine qp 13 77 (fl_ 18 15615) ?_
            refine qp 14 78 (fl_ 18 31999) ?_
            refine qO 8 72 (fl_ 18 32255) (fun K hK=>?_)
            refine value_ (w1:=?_) (v:=?_) (by rfl) rfl ?_ ?_
            rotate_left 2
            ·go_simp
             constructor
             ·rfl
             ·rfl
            refine hK.out _ _ trivial (fun hHeld=>?_)
            clear hK K
            refine qx 72 ?_
            refine qO 9 73 (fl_ 18 32767) (fun K hK=>?_)
            refine Kd.R_append_step Kd.string (w0:=w) w.heap.size (by rfl) (.tmp 67) (.tmp 72) 25 9 (.string ⟨#[]⟩) 16 rfl Tryz.underlying25 info9 rfl (by decide) (by omega) u6 Af (a0.extract (Ae:Int).toNat (Aa:Int).toNat) [.string (a0.extract (Ae:Int).toNat (Aa:Int).toNat)] (fun _=>True) (fun _=>False) rfl rfl ?aP (fun _ hk=>hk.elim) ?aF ?aO ?aB ?aS ?aL ?_
            (case aP=>exact rfl)
            (case aB=>exact qb)
            (case aF=>exact(fun _ _=>trivial))
            (case aO=>exact(qR Ad.out))
            (case aS=>exact(y7 qb))
            (case aL=>have:=Ce.out;omega)
            intro Eh Em ho hb hg hat
            rw [← Cf.out]at ho
            replace HB:=y0.mk (hb)
            have Cg:=y0.mk (ho)
            clear Ad
            clear ho hb hg hat
            refine hK.out _ _ trivial (fun hHeld=>?_)
            clear hK K
            refine qx 73 ?_
            refine qp3 15 2 18 ?_
            refine done_ (done_of HT_.out (by kernel_rfl)) ?_
            try go_wp2
            go_ret3
            exact⟨_,by first|rfl|(simp [y14,y15] <;> rfl)|(simp [*,y14,y15] <;> rfl),by(with_reducible repeat(first|apply Kd.R_alloc|apply Kd.R_drewN|apply Kd.R_drew));exact Cg.out,qb⟩
           ·rw [if_neg Bk]at H
            have Cc:((wrap64 (Ac - 1)) == 0)=false:=beq_eq_false_iff_ne.mpr Bk
            have Cd:((wrap64 (Ac - 1)) != 0)=true:=bne_iff_ne.mpr Bk
            have H':=y0.mk H
            clear H
            have Ag:0≤(Aa:Int):=of_decide_eq_true qy1
            have Ah:Aa < (a0.size:Int):=of_decide_eq_true qy1
            have Aq:=bt_at a0 Aa
            replace Ag:=eq_true Ag
            replace Ah:=eq_true Ah
            have Ak:0≤(Aa:Int):=of_decide_eq_true qy1
            have Al:Aa < (a0.size:Int):=of_decide_eq_true qy1
            have Ba:=bt_at a0 Aa
            replace Ak:=eq_true Ak
            replace Al:=eq_true Al
            have Au:0≤(Aa:Int):=of_decide_eq_true qy1
            have Av:Aa < (a0.size:Int):=of_decide_eq_true qy1
            have Bb:=bt_at a0 Aa
            replace Au:=eq_true Au
            replace Av:=eq_true Av
            go_wp2
            go_roundg k2
            case measure=>have:=As.out;have:=At.out;omega
            exact⟨(Af),(wrap64 (Ac - 1)),(false),(Ae),(wrap64 (Aa + 1)),qy2,qy2,qy2,qy2,H',⟨by have:=As.out;have:=At.out;omega⟩,⟨qR Ad.out⟩,⟨qb⟩⟩
          ·rw [if_neg Bj]at H
           have Ca:((bt a0 Aa) == 41)=false:=beq_eq_false_iff_ne.mpr Bj
           have Cb:((bt a0 Aa) != 41)=true:=bne_iff_ne.mpr Bj
           by_cases Bl:(bt a0 Aa)=44
           ·rw [if_pos Bl]at H
            have Ch:((bt a0 Aa) == 44)=true:=beq_iff_eq.mpr Bl
            have Ci:((bt a0 Aa) != 44)=false:=bne_eq_false_iff_eq.mpr Bl
            clear Bl
            by_cases Bm:Ac=1
            ·rw [if_pos Bm]at H
             have Cj:(Ac == 1)=true:=beq_iff_eq.mpr Bm
             have Ck:(Ac != 1)=false:=bne_eq_false_iff_eq.mpr Bm
             clear Bm
             obtain⟨De,H⟩:=qo H
             have Dv:=eq_true De
             have Dw:=decide_eq_true De
             clear De
             obtain⟨Df,H⟩:=qo H
             have Dx:=eq_true Df
             have Dy:=decide_eq_true Df
             clear Df
             obtain⟨Dg,H⟩:=qo H
             have Dz:=eq_true Dg
             have Ea:=decide_eq_true Dg
             clear Dg
             obtain⟨Eb,H⟩:=qo H
             have Cl:=y0.mk Eb
             clear Eb
             obtain⟨Cm,Ao⟩:∃ y_:List ByteArray,y_=(Af ++ [a0.extract (Ae:Int).toNat (Aa:Int).toNat]):=⟨_,rfl⟩
             replace H:(z5_.l1 k2 a0 Ab Cm Ac false (wrap64 (Aa + 1)) (wrap64 (Aa + 1)))=some (r1,r2,r3):=by first|(rw [Ao];with_reducible exact H)|(have H2_:=(Option.bind_some _ _).symm.trans H;rw [Ao];with_reducible exact H2_)|(have H2_:=(Option.bind_some _ _).symm.trans H;with_reducible exact H2_)|with_reducible exact H|(rw [Ao];exact H)|exact H
             have Cn:=y0.mk Ao
             clear Ao
             have H':=y0.mk H
             clear H
             have Ag:0≤(Aa:Int):=of_decide_eq_true qy1
             have Ah:Aa < (a0.size:Int):=of_decide_eq_true qy1
             have Aq:=bt_at a0 Aa
             replace Ag:=eq_true Ag
             replace Ah:=eq_true Ah
             have Ak:0≤(Aa:Int):=of_decide_eq_true qy1
             have Al:Aa < (a0.size:Int):=of_decide_eq_true qy1
             have Ba:=bt_at a0 Aa
             replace Ak:=eq_true Ak
             replace Al:=eq_true Al
             have Au:0≤(Aa:Int):=of_decide_eq_true qy1
             have Av:Aa < (a0.size:Int):=of_decide_eq_true qy1
             have Bb:=bt_at a0 Aa
             replace Au:=eq_true Au
             replace Av:=eq_true Av
             have Be:0≤(Aa:Int):=of_decide_eq_true qy1
             have Bf:Aa < (a0.size:Int):=of_decide_eq_true qy1
             have Co:=bt_at a0 Aa
             replace Be:=eq_true Be
             replace Bf:=eq_true Bf
             go_wp2_with (first|((with_reducible refine gate_builtin (b:=.append) (xs:=#[.tmp 88,.tmp 93]) rfl ?_);at_builtin;refine Kd.R_append Kd.string (w0:=w) w.heap.size rfl (.tmp 88) (.tmp 93) 25 9 (.string ⟨#[]⟩) 16 rfl Tryz.underlying25 info9 rfl (by decide) (by omega) u6 Af (a0.extract (Ae:Int).toNat (Aa:Int).toNat) [.string (a0.extract (Ae:Int).toNat (Aa:Int).toNat)] (fun _=>True) (fun _=>False) rfl rfl ?aP (fun _ hk=>hk.elim) ?aF ?aO ?aB ?aS ?aL ?_;(case aP=>exact rfl);(case aB=>exact qb);(case aF=>exact(fun _ _=>trivial));(case aO=>exact(qR Ad.out));(case aS=>exact(y7 qb));(case aL=>have:=Cl.out;omega);intro Ei En ho hb hg hat;rw [← Cn.out]at ho;replace HB:=y0.mk (hb);have Cp:=y0.mk (ho);clear Ad;clear ho hb hg hat))
             go_roundg k2
             case measure=>have:=As.out;have:=At.out;omega
             exact⟨(Cm),(Ac),(false),(wrap64 (Aa + 1)),(wrap64 (Aa + 1)),qy2,qy2,qy2,qy2,H',⟨by have:=As.out;have:=At.out;omega⟩,⟨qR Cp.out⟩,⟨qb⟩⟩
            ·rw [if_neg Bm]at H
             have Cj:(Ac == 1)=false:=beq_eq_false_iff_ne.mpr Bm
             have Ck:(Ac != 1)=true:=bne_iff_ne.mpr Bm
             have H':=y0.mk H
             clear H
             have Ag:0≤(Aa:Int):=of_decide_eq_true qy1
             have Ah:Aa < (a0.size:Int):=of_decide_eq_true qy1
             have Aq:=bt_at a0 Aa
             replace Ag:=eq_true Ag
             replace Ah:=eq_true Ah
             have Ak:0≤(Aa:Int):=of_decide_eq_true qy1
             have Al:Aa < (a0.size:Int):=of_decide_eq_true qy1
             have Ba:=bt_at a0 Aa
             replace Ak:=eq_true Ak
             replace Al:=eq_true Al
             have Au:0≤(Aa:Int):=of_decide_eq_true qy1
             have Av:Aa < (a0.size:Int):=of_decide_eq_true qy1
             have Bb:=bt_at a0 Aa
             replace Au:=eq_true Au
             replace Av:=eq_true Av
             have Be:0≤(Aa:Int):=of_decide_eq_true qy1
             have Bf:Aa < (a0.size:Int):=of_decide_eq_true qy1
             have Co:=bt_at a0 Aa
             replace Be:=eq_true Be
             replace Bf:=eq_true Bf
             go_wp2
             go_roundg k2
             case measure=>have:=As.out;have:=At.out;omega
             exact⟨(Af),(Ac),(false),(Ae),(wrap64 (Aa + 1)),qy2,qy2,qy2,qy2,H',⟨by have:=As.out;have:=At.out;omega⟩,⟨qR Ad.out⟩,⟨qb⟩⟩
           ·rw [if_neg Bl]at H
            have Ch:((bt a0 Aa) == 44)=false:=beq_eq_false_iff_ne.mpr Bl
            have Ci:((bt a0 Aa) != 44)=true:=bne_iff_ne.mpr Bl
            have H':=y0.mk H
            clear H
            have Ag:0≤(Aa:Int):=of_decide_eq_true qy1
            have Ah:Aa < (a0.size:Int):=of_decide_eq_true qy1
            have Aq:=bt_at a0 Aa
            replace Ag:=eq_true Ag
            replace Ah:=eq_true Ah
            have Ak:0≤(Aa:Int):=of_decide_eq_true qy1
            have Al:Aa < (a0.size:Int):=of_decide_eq_true qy1
            have Ba:=bt_at a0 Aa
            replace Ak:=eq_true Ak
            replace Al:=eq_true Al
            have Au:0≤(Aa:Int):=of_decide_eq_true qy1
            have Av:Aa < (a0.size:Int):=of_decide_eq_true qy1
            have Bb:=bt_at a0 Aa
            replace Au:=eq_true Au
            replace Av:=eq_true Av
            have Be:0≤(Aa:Int):=of_decide_eq_true qy1
            have Bf:Aa < (a0.size:Int):=of_decide_eq_true qy1
            have Co:=bt_at a0 Aa
            replace Be:=eq_true Be
            replace Bf:=eq_true Bf
            go_wp2
            go_roundg k2
            case measure=>have:=As.out;have:=At.out;omega
            exact⟨(Af),(Ac),(false),(Ae),(wrap64 (Aa + 1)),qy2,qy2,qy2,qy2,H',⟨by have:=As.out;have:=At.out;omega⟩,⟨qR Ad.out⟩,⟨qb⟩⟩
      ·rw [if_neg Bn]at H
       have Bu:=decide_eq_false Bn
       clear Bn
       obtain⟨Dh,Ap⟩:∃ y_:List ByteArray,y_=(([]:List ByteArray)):=⟨_,rfl⟩
       replace H:(some ((⟨#[]⟩:ByteArray),Dh,false))=some (r1,r2,r3):=by first|(rw [Ap];with_reducible exact H)|(have H2_:=(Option.bind_some _ _).symm.trans H;rw [Ap];with_reducible exact H2_)|(have H2_:=(Option.bind_some _ _).symm.trans H;with_reducible exact H2_)|with_reducible exact H|(rw [Ap];exact H)|exact H
       have Bg:=y0.mk Ap
       clear Ap
       simp only [Option.some.injEq,Prod.mk.injEq]at H
       obtain⟨rfl,rfl,rfl⟩:=H
       go_wp2_with (first|((with_reducible refine y17 (N:=97) rfl ?_);refine qL Kd.string 9 97 ([]:List ByteArray) ?_;intro Ej Eo Aw hb hg_ hnew_;clear hg_ hnew_;(first|rw [← Bg.out]at Aw|(simp only [Int.reduceToNat]at Aw;rw [← Bg.out]at Aw));have Cq:=y0.mk (Kd.R_lower (Kd.R_new' Aw (Kd.R_lt (qR Ad.out))) (y7 qb));replace Ad:=y0.mk (Kd.R_elder' (qR Ad.out) (Kd.R_base Aw) hb);replace HB:=y0.mk (y8 qb hb);clear hb Aw))
       go_ret3
       exact⟨_,by first|rfl|(simp [y14,y15] <;> rfl)|(simp [*,y14,y15] <;> rfl),by(with_reducible repeat(first|apply Kd.R_alloc|apply Kd.R_drewN|apply Kd.R_drew));exact Kd.R_mono Cq.out (fun _ hk=>trivial),qb⟩
end Go.Proofs.YtkajecadkkgfmaaGreatDoor.Pn
end
section
namespace Go.Proofs.YtkajecadkkgfmaaGreatDoor.Pn
open Go.RowKit Go.Proofs.YtkajecadkkgfmaaGreatDoorW.PrintWords Go.Proofs.YtkajecadkkgfmaaGreatDoorW.PrintLast Go.Proofs.YtkajecadkkgfmaaGreatDoorW.PrintMore
attribute [local go_sem] max2_int min2_int max_two min_two max_three min_three max_four min_four   -- for this text's walks alone
set_option linter.unusedVariables false
set_option linter.unusedSimpArgs false
def spec_l01Big.f (a0:Int):Option (Bool):=if a0≥65 then(some (decide (a0≤90)))else(some false)
set_option maxHeartbeats 8000000 in
set_option maxRecDepth 100000 in
theorem spec_l01Big.calls (a0:Int) (r:Bool) (w:World) (h:spec_l01Big.f a0=some r) :
  Calls Tryz.prog 115 #[.int .u8 a0] w fun e w'=>e=.returned (.bool r)∧y1 w w':=by
 have H:(if a0≥65 then(some (decide (a0≤90)))else(some false))=some r:=h
 clear h
 by_cases c2:a0≥65
 ·rw [if_pos c2]at H
  have c2b0:decide (65≤a0)=true:=decide_eq_true c2
  clear c2
  obtain rfl:=Option.some.inj H
  go_enter Tryz.func115,Tryz.ntmps115
  go_wp2
  go_ret
  exact qf2
 ·rw [if_neg c2]at H
  have c2b0:decide (65≤a0)=false:=decide_eq_false c2
  clear c2
  obtain rfl:=Option.some.inj H
  go_enter Tryz.func115,Tryz.ntmps115
  go_wp2
  go_ret
  exact qf2
def spec_l01Small.f (a0:Int):Option (Bool):=if a0≥97 then(some (decide (a0≤122)))else(some false)
set_option maxHeartbeats 8000000 in
set_option maxRecDepth 100000 in
theorem spec_l01Small.calls (a0:Int) (r:Bool) (w:World) (h:spec_l01Small.f a0=some r) :
  Calls Tryz.prog 116 #[.int .u8 a0] w fun e w'=>e=.returned (.bool r)∧y1 w w':=by
 have H:(if a0≥97 then(some (decide (a0≤122)))else(some false))=some r:=h
 clear h
 by_cases c2:a0≥97
 ·rw [if_pos c2]at H
  have c2b0:decide (97≤a0)=true:=decide_eq_true c2
  clear c2
  obtain rfl:=Option.some.inj H
  go_enter Tryz.func116,Tryz.ntmps116
  go_wp2
  go_ret
  exact qf2
 ·rw [if_neg c2]at H
  have c2b0:decide (97≤a0)=false:=decide_eq_false c2
  clear c2
  obtain rfl:=Option.some.inj H
  go_enter Tryz.func116,Tryz.ntmps116
  go_wp2
  go_ret
  exact qf2
def spec_l01Letter.f (a0:Int):Option (Bool):=(spec_l01Small.f a0).bind fun t175=>(if t175=true then(some true)else((spec_l01Big.f a0).bind fun t176=>(if t176=true then(some true)else((spec_l01Digit.f a0).bind fun t177=>(if t177=true then(some true)else(some (a0 == 95)))))))
set_option maxHeartbeats 8000000 in
set_option maxRecDepth 100000 in
theorem spec_l01Letter.calls (a0:Int) (r:Bool) (w:World) (h:spec_l01Letter.f a0=some r) :
  Calls Tryz.prog 117 #[.int .u8 a0] w fun e w'=>e=.returned (.bool r)∧y1 w w':=by
 have H:((spec_l01Small.f a0).bind fun Aa=>(if Aa=true then(some true)else((spec_l01Big.f a0).bind fun Ab=>(if Ab=true then(some true)else((spec_l01Digit.f a0).bind fun Ac=>(if Ac=true then(some true)else(some (a0 == 95))))))))=some r:=h
 clear h
 obtain⟨Aa,A2,H⟩:=qB H
 by_cases c3:Aa=true
 ·subst c3
  replace H:=qT H
  obtain rfl:=Option.some.inj H
  go_enter Tryz.func117,Tryz.ntmps117
  go_wp2_with (first|((with_reducible refine y16 (f:=116) rfl ?_);refine y18 (some 4) rfl rfl Tryz.func116 (by kernel_rfl) rfl #[.int .u8 a0] rfl qy0 ?_;(with_reducible refine(spec_l01Small.calls a0 true _ A2.out).mono ?_);rintro e w' ⟨rfl,⟨nd,rfl⟩⟩;refine⟨_,rfl, ?_⟩))
  go_ret
  exact qf2
 ·replace c3:=Bool.eq_false_iff.mpr c3
  subst c3
  replace H:=qF H
  obtain⟨Ab,A4,H⟩:=qB H
  by_cases c5:Ab=true
  ·subst c5
   replace H:=qT H
   obtain rfl:=Option.some.inj H
   go_enter Tryz.func117,Tryz.ntmps117
   go_wp2_with (first|((with_reducible refine y16 (f:=116) rfl ?_);refine y18 (some 4) rfl rfl Tryz.func116 (by kernel_rfl) rfl #[.int .u8 a0] rfl qy0 ?_;(with_reducible refine(spec_l01Small.calls a0 false _ A2.out).mono ?_);rintro e w' ⟨rfl,⟨nd,rfl⟩⟩;refine⟨_,rfl, ?_⟩)|(go_at_call 115;(with_reducible refine(spec_l01Big.calls a0 true _ A4.out).mono ?_);rintro e w' ⟨rfl,⟨nd,rfl⟩⟩))
   go_ret
   exact qf2
  ·replace c5:=Bool.eq_false_iff.mpr c5
   subst c5
   replace H:=qF H
   obtain⟨Ac,A6,H⟩:=qB H
   by_cases c7:Ac=true
   ·subst c7
    replace H:=qT H
    obtain rfl:=Option.some.inj H
    go_enter Tryz.func117,Tryz.ntmps117
    go_wp2_with (first|((with_reducible refine y16 (f:=116) rfl ?_);refine y18 (some 4) rfl rfl Tryz.func116 (by kernel_rfl) rfl #[.int .u8 a0] rfl qy0 ?_;(with_reducible refine(spec_l01Small.calls a0 false _ A2.out).mono ?_);rintro e w' ⟨rfl,⟨nd,rfl⟩⟩;refine⟨_,rfl, ?_⟩)|(go_at_call 115;(with_reducible refine(spec_l01Big.calls a0 false _ A4.out).mono ?_);rintro e w' ⟨rfl,⟨nd,rfl⟩⟩)|(go_at_call 114;(with_reducible refine(spec_l01Digit.calls a0 true _ A6.out).mono ?_);rintro e w' ⟨rfl,⟨nd,rfl⟩⟩))
    go_ret
    exact qf2
   ·replace c7:=Bool.eq_false_iff.mpr c7
    subst c7
    replace H:=qF H
    obtain rfl:=Option.some.inj H
    go_enter Tryz.func117,Tryz.ntmps117
    go_wp2_with (first|((with_reducible refine y16 (f:=116) rfl ?_);refine y18 (some 4) rfl rfl Tryz.func116 (by kernel_rfl) rfl #[.int .u8 a0] rfl qy0 ?_;(with_reducible refine(spec_l01Small.calls a0 false _ A2.out).mono ?_);rintro e w' ⟨rfl,⟨nd,rfl⟩⟩;refine⟨_,rfl, ?_⟩)|(go_at_call 115;(with_reducible refine(spec_l01Big.calls a0 false _ A4.out).mono ?_);rintro e w' ⟨rfl,⟨nd,rfl⟩⟩)|(go_at_call 114;(with_reducible refine(spec_l01Digit.calls a0 false _ A6.out).mono ?_);rintro e w' ⟨rfl,⟨nd,rfl⟩⟩))
    go_ret
    exact qf2
mutual
def spec_l01Name.j0:Nat→ByteArray→Bool→Option (Bool)
 | 0,_,_=>none
 | k + 1,x0,x28=>if x28=true then(some false)else(spec_l01Name.l0 k x0 0)
def spec_l01Name.l0:Nat→ByteArray→Int→Option (Bool)
 | 0,_,_=>none
 | k + 1,x0,x5=>if x5 < (x0.size:Int)then(if 0≤x5 then((spec_l01Letter.f (bt x0 x5)).bind fun t181=>(if t181=true then(spec_l01Name.l0 k x0 (wrap64 (x5 + 1)))else(some false)))else(none))else(some true)
end
def spec_l01Name.f (k:Nat) (a0:ByteArray) (a1:Bool):Option (Bool):=(spec_l01Between.f (a0.size:Int) 1 20).bind fun t178=>(if t178=true then(if a1=true then(if 0 < (a0.size:Int)then((spec_l01Big.f (bt a0 0)).bind fun t179=>(if t179=true then(spec_l01Name.j0 k a0 false)else(spec_l01Name.j0 k a0 true)))else(none))else(if 0 < (a0.size:Int)then((spec_l01Small.f (bt a0 0)).bind fun t180=>(spec_l01Name.j0 k a0 (!t180)))else(none)))else(spec_l01Name.j0 k a0 true))
set_option maxHeartbeats 8000000 in
set_option maxRecDepth 100000 in
theorem spec_l01Name.calls (k:Nat) (a0:ByteArray) (a1:Bool) (r:Bool) (w:World) (h:spec_l01Name.f k a0 a1=some r) :
  Calls Tryz.prog 94 #[.string a0,.bool a1] w fun e w'=>e=.returned (.bool r)∧y1 w w':=by
 have H:((spec_l01Between.f (a0.size:Int) 1 20).bind fun Ad=>(if Ad=true then(if a1=true then(if 0 < (a0.size:Int)then((spec_l01Big.f (bt a0 0)).bind fun Ae=>(if Ae=true then(spec_l01Name.j0 k a0 false)else(spec_l01Name.j0 k a0 true)))else(none))else(if 0 < (a0.size:Int)then((spec_l01Small.f (bt a0 0)).bind fun Ac=>(spec_l01Name.j0 k a0 (!Ac)))else(none)))else(spec_l01Name.j0 k a0 true)))=some r:=h
 clear h
 have Ao:=y0.mk H
 clear H
 go_enter Tryz.func94,Tryz.ntmps94
 go_upto_region 1 with(fail)
 go_cut [28] (fun Bc wc=>∃(kq:Nat) (Ab:Bool),Bc=.bool Ab∧y0 (spec_l01Name.j0 kq a0 Ab=some r)∧y0 (kq≤k)∧y1 w wc)
 case first =>
  have H:=Ao.out
  clear Ao
  obtain⟨Ad,A4,H⟩:=qB H
  by_cases c5:Ad=true
  ·subst c5
   replace H:=qT H
   by_cases c6:a1=true
   ·subst c6
    replace H:=qT H
    obtain⟨c7,H⟩:=qo H
    have Ag:decide (0 < (a0.size:Int))=true:=decide_eq_true c7
    have Bd:decide (0 < a0.size)=true:=decide_eq_true (by omega)
    clear c7
    (first|rw [Ag]|(simp only [i64_w,i32_w];rw [Ag])|skip)
    obtain⟨Ae,A9,H⟩:=qB H
    by_cases Al:Ae=true
    ·subst Al
     replace H:=qT H
     have H':=y0.mk H
     clear H
     go_wp2_with (first|((with_reducible refine y16 (f:=56) rfl ?_);refine y18 (some 8) rfl rfl Tryz.func56 (by kernel_rfl) rfl #[.int .i64 (a0.size:Int),.int .i64 1,.int .i64 20] rfl qy0 ?_;(with_reducible refine(spec_l01Between.calls (a0.size:Int) 1 20 true _ A4.out).mono ?_);rintro e w' ⟨rfl,⟨nd,rfl⟩⟩;refine⟨_,rfl, ?_⟩;have p8:0≤(0:Int):=(by omega);have q8:0 < a0.size:=qy3;have Be:∀ h:0 < a0.size,((a0[0]'h).toNat:Int)=bt a0 0:=bt_at a0 0;clear p8;have Bf:(0 < (a0.size:Int))=True:=eq_true (of_decide_eq_true qy1);replace q8:=eq_true q8)|(go_at_call 115;(with_reducible refine(spec_l01Big.calls (bt a0 0) true _ A9.out).mono ?_);rintro e w' ⟨rfl,⟨nd,rfl⟩⟩))
     go_meet
     exact⟨_,(false),qy2,H',⟨by first|omega|exact Nat.le_refl _⟩,by repeat(first|exact y1.refl _|apply y1.step)⟩
    ·replace Al:=Bool.eq_false_iff.mpr Al
     subst Al
     replace H:=qF H
     have H':=y0.mk H
     clear H
     go_wp2_with (first|((with_reducible refine y16 (f:=56) rfl ?_);refine y18 (some 8) rfl rfl Tryz.func56 (by kernel_rfl) rfl #[.int .i64 (a0.size:Int),.int .i64 1,.int .i64 20] rfl qy0 ?_;(with_reducible refine(spec_l01Between.calls (a0.size:Int) 1 20 true _ A4.out).mono ?_);rintro e w' ⟨rfl,⟨nd,rfl⟩⟩;refine⟨_,rfl, ?_⟩;have p8:0≤(0:Int):=(by omega);have q8:0 < a0.size:=qy3;have Be:∀ h:0 < a0.size,((a0[0]'h).toNat:Int)=bt a0 0:=bt_at a0 0;clear p8;have Bf:(0 < (a0.size:Int))=True:=eq_true (of_decide_eq_true qy1);replace q8:=eq_true q8)|(go_at_call 115;(with_reducible refine(spec_l01Big.calls (bt a0 0) false _ A9.out).mono ?_);rintro e w' ⟨rfl,⟨nd,rfl⟩⟩))
     go_meet
     exact⟨_,(true),qy2,H',⟨by first|omega|exact Nat.le_refl _⟩,by repeat(first|exact y1.refl _|apply y1.step)⟩
   ·replace c6:=Bool.eq_false_iff.mpr c6
    subst c6
    replace H:=qF H
    obtain⟨As,H⟩:=qo H
    have At:decide (0 < (a0.size:Int))=true:=decide_eq_true As
    have Au:decide (0 < a0.size)=true:=decide_eq_true (by omega)
    clear As
    obtain⟨Ac,Bg,H⟩:=qB H
    have H':=y0.mk H
    clear H
    go_wp2_with (first|((with_reducible refine y16 (f:=56) rfl ?_);refine y18 (some 8) rfl rfl Tryz.func56 (by kernel_rfl) rfl #[.int .i64 (a0.size:Int),.int .i64 1,.int .i64 20] rfl qy0 ?_;(with_reducible refine(spec_l01Between.calls (a0.size:Int) 1 20 true _ A4.out).mono ?_);rintro e w' ⟨rfl,⟨nd,rfl⟩⟩;refine⟨_,rfl, ?_⟩;have Bh:0≤(0:Int):=(by omega);have Av:0 < a0.size:=qy3;have Bi:∀ h:0 < a0.size,((a0[0]'h).toNat:Int)=bt a0 0:=bt_at a0 0;clear Bh;have Bj:(0 < (a0.size:Int))=True:=eq_true (of_decide_eq_true qy1);replace Av:=eq_true Av)|(go_at_call 116;(with_reducible refine(spec_l01Small.calls (bt a0 0) Ac _ Bg.out).mono ?_);rintro e w' ⟨rfl,⟨nd,rfl⟩⟩))
    go_meet
    exact⟨_,(!Ac),qy2,H',⟨by first|omega|exact Nat.le_refl _⟩,by repeat(first|exact y1.refl _|apply y1.step)⟩
  ·replace c5:=Bool.eq_false_iff.mpr c5
   subst c5
   replace H:=qF H
   have H':=y0.mk H
   clear H
   go_wp2_with (first|((with_reducible refine y16 (f:=56) rfl ?_);refine y18 (some 8) rfl rfl Tryz.func56 (by kernel_rfl) rfl #[.int .i64 (a0.size:Int),.int .i64 1,.int .i64 20] rfl qy0 ?_;(with_reducible refine(spec_l01Between.calls (a0.size:Int) 1 20 false _ A4.out).mono ?_);rintro e w' ⟨rfl,⟨nd,rfl⟩⟩;refine⟨_,rfl, ?_⟩))
   go_meet
   exact⟨_,(true),qy2,H',⟨by first|omega|exact Nat.le_refl _⟩,by repeat(first|exact y1.refl _|apply y1.step)⟩
 case rest =>
  clear Ao
  obtain⟨kq,Ab,rfl,HA,Aw,⟨Bk,rfl⟩⟩:=hcut
  cases kq with
  | zero=>exact absurd HA.out (by simp [spec_l01Name.j0])
  | succ Ax =>
   have H:=HA.out
   clear HA
   simp only [spec_l01Name.j0]at H
   by_cases Ah:Ab=true
   ·subst Ah
    replace H:=qT H
    obtain rfl:=Option.some.inj H
    go_wp2
    go_ret
    exact qf2
   ·replace Ah:=Bool.eq_false_iff.mpr Ah
    subst Ah
    replace H:=qF H
    have H':=y0.mk H
    clear H
    go_wp2
    go_loopg [5] Ax (fun kq v5 w'=>∃(Aa:Int),v5=.int .i64 Aa∧y0 (spec_l01Name.l0 kq a0 Aa=some r)∧y0 (kq≤Ax)∧y1 w w')
    case atStart=>exact⟨(0),qy2,H',⟨Nat.le_refl _⟩,by repeat(first|exact y1.refl _|apply y1.step)⟩
    case round =>
     clear H'
     (try clear Ah)
     obtain⟨Aa,rfl,HA,Ay,⟨m2,rfl⟩⟩:=hrel
     cases gk with
     | zero=>exact absurd HA.out (by simp [spec_l01Name.l0])
     | succ k2 =>
      have H:=HA.out
      clear HA
      simp only [spec_l01Name.l0]at H
      by_cases Af:Aa < (a0.size:Int)
      ·rw [if_pos Af]at H
       have Ai:=decide_eq_true Af
       clear Af
       obtain⟨Az,H⟩:=qo H
       have Ba:decide (0≤Aa)=true:=decide_eq_true Az
       clear Az
       obtain⟨Ap,Bb,H⟩:=qB H
       by_cases Am:Ap=true
       ·subst Am
        replace H:=qT H
        have H':=y0.mk H
        clear H
        have Aj:0≤(Aa:Int):=of_decide_eq_true qy1
        have Ak:Aa < (a0.size:Int):=of_decide_eq_true qy1
        have Aq:=bt_at a0 Aa
        replace Aj:=eq_true Aj
        replace Ak:=eq_true Ak
        go_wp2_with (first|((with_reducible refine y16 (f:=117) rfl ?_);refine y18 (some 38) rfl rfl Tryz.func117 (by kernel_rfl) rfl #[.int .u8 (bt a0 Aa)] rfl qy0 ?_;(with_reducible refine(spec_l01Letter.calls (bt a0 Aa) true _ Bb.out).mono ?_);rintro e w' ⟨rfl,⟨nd,rfl⟩⟩;refine⟨_,rfl, ?_⟩))
        go_roundg k2
        case measure=>have:=Aw.out;have:=Ay.out;omega
        exact⟨(wrap64 (Aa + 1)),qy2,H',⟨by have:=Aw.out;have:=Ay.out;omega⟩,by repeat(first|exact y1.refl _|apply y1.step)⟩
       ·replace Am:=Bool.eq_false_iff.mpr Am
        subst Am
        replace H:=qF H
        obtain rfl:=Option.some.inj H
        have Aj:0≤(Aa:Int):=of_decide_eq_true qy1
        have Ak:Aa < (a0.size:Int):=of_decide_eq_true qy1
        have Aq:=bt_at a0 Aa
        replace Aj:=eq_true Aj
        replace Ak:=eq_true Ak
        go_wp2_with (first|((with_reducible refine y16 (f:=117) rfl ?_);refine y18 (some 38) rfl rfl Tryz.func117 (by kernel_rfl) rfl #[.int .u8 (bt a0 Aa)] rfl qy0 ?_;(with_reducible refine(spec_l01Letter.calls (bt a0 Aa) false _ Bb.out).mono ?_);rintro e w' ⟨rfl,⟨nd,rfl⟩⟩;refine⟨_,rfl, ?_⟩))
        go_ret
        exact qf2
      ·rw [if_neg Af]at H
       have Ai:=decide_eq_false Af
       clear Af
       obtain rfl:=Option.some.inj H
       go_wp2
       go_ret
       exact qf2
end Go.Proofs.YtkajecadkkgfmaaGreatDoor.Pn
end
section
namespace Go.Proofs.YtkajecadkkgfmaaGreatDoor.Pn
open Go.RowKit Go.Proofs.YtkajecadkkgfmaaGreatDoorW.PrintWords Go.Proofs.YtkajecadkkgfmaaGreatDoorW.PrintLast Go.Proofs.YtkajecadkkgfmaaGreatDoorW.PrintMore
attribute [local go_sem] max2_int min2_int max_two min_two max_three min_three max_four min_four   -- for this text's walks alone
set_option linter.unusedVariables false
set_option linter.unusedSimpArgs false
mutual
def z4_.j0:Nat→ByteArray→Bool→Option (Int)
 | 0,_,_=>none
 | k + 1,x0,x16=>if x16=true then(some 0)else((z10_.f k x0).bind fun bt182=>(if bt182.2=true then(some 1)else(if 0 < (x0.size:Int)then(if(bt x0 0)=34 then((spec_l01Between.f (x0.size:Int) 2 22).bind fun t184=>(if t184=true then(if 0≤(wrap64 ((x0.size:Int) - 1))then(if(wrap64 ((x0.size:Int) - 1)) < (x0.size:Int)then(z4_.j1 k x0 ((bt x0 (wrap64 ((x0.size:Int) - 1))) != 34))else(none))else(none))else(z4_.j1 k x0 true)))else((z5_.f k x0).bind fun bt186=>(if bt186.2.2=true then((spec_l01Name.f k bt186.1 true).bind fun t191=>(z4_.j3 k bt186.2.1 (!t191)))else(z4_.j3 k bt186.2.1 true))))else(none))))
def z4_.j1:Nat→ByteArray→Bool→Option (Int)
 | 0,_,_=>none
 | k + 1,x0,x37=>if x37=true then(some 0)else(z4_.l0 k x0 1)
def z4_.l0:Nat→ByteArray→Int→Option (Int)
 | 0,_,_=>none
 | k + 1,x0,x5=>if(wrap64 (x5 + 1)) < (x0.size:Int)then(if 0≤x5 then(if x5 < (x0.size:Int)then((spec_l01Between.f (wrap64 (bt x0 x5)) 32 126).bind fun t185=>(if t185=true then(if(bt x0 x5)=34 then(some 0)else(if(bt x0 x5)=92 then(some 0)else(z4_.l0 k x0 (wrap64 (x5 + 1)))))else(some 0)))else(none))else(none))else(some 2)
def z4_.j3:Nat→List ByteArray→Bool→Option (Int)
 | 0,_,_=>none
 | k + 1,x7,x75=>if x75=true then(some 0)else(z4_.l1 k x7 0)
def z4_.l1:Nat→List ByteArray→Int→Option (Int)
 | 0,_,_=>none
 | k + 1,x7,x9=>if x9 < (x7.length:Int)then(if 0≤x9 then((z4_.f k (rdOf ByteArray.empty x7 x9)).bind fun t193=>(if t193=0 then(some 0)else(z4_.l1 k x7 (wrap64 (x9 + 1)))))else(none))else(some 3)
def z4_.f:Nat→ByteArray→Option (Int)
 | 0,_=>none
 | k + 1,a0=>if a0.toList=([]:List UInt8)then(z4_.j0 k a0 true)else(z4_.j0 k a0 (decide ((a0.size:Int) > 200)))
end
set_option maxHeartbeats 8000000 in
set_option maxRecDepth 100000 in
theorem z4_.calls (k:Nat):∀(a0:ByteArray) (r:Int) (w:World) (h:z4_.f k a0=some r),
  Calls Tryz.prog 68 #[.string a0] w fun e w'=>e=.returned (.int .i64 r)∧Below w.heap.size w w':=by
 induction k using Nat.strongRecOn with
 | _ k ih =>
 intro a0 r w h
 cases k with
 | zero=>exact absurd h (by simp [z4_.f])
 | succ k =>
 simp only [z4_.f]at h
 have HB:=y0.mk (Below.refl w.heap.size w)
 have H:(if a0.toList=([]:List UInt8)then(z4_.j0 k a0 true)else(z4_.j0 k a0 (decide ((a0.size:Int) > 200))))=some r:=h
 clear h
 have Cl:=y0.mk H
 clear H
 go_enter Tryz.func68,Tryz.ntmps68
 go_upto_region 1 with(fail)
 go_cut [16] (fun Dn wc=>∃(kq:Nat) (Aj:Bool),Dn=.bool Aj∧y0 (z4_.j0 kq a0 Aj=some r)∧y0 (kq≤k)∧y0 (Below w.heap.size w wc))
 case first =>
  have H:=Cl.out
  clear Cl
  by_cases c3:a0.toList=([]:List UInt8)
  ·rw [if_pos c3]at H
   have Ak:(a0.toList == ([]:List UInt8))=true:=beq_iff_eq.mpr c3
   have Cm:(a0.toList != ([]:List UInt8))=false:=bne_eq_false_iff_eq.mpr c3
   clear c3
   (first|rw [Ak]|(simp only [i64_w,i32_w];rw [Ak])|skip)
   have H':=y0.mk H
   clear H
   go_wp2
   go_meet
   exact⟨_,(true),qy2,H',⟨by first|omega|exact Nat.le_refl _⟩,⟨qb⟩⟩
  ·rw [if_neg c3]at H
   have Ak:(a0.toList == ([]:List UInt8))=false:=beq_eq_false_iff_ne.mpr c3
   have Cm:(a0.toList != ([]:List UInt8))=true:=bne_iff_ne.mpr c3
   (first|rw [Ak]|(simp only [i64_w,i32_w];rw [Ak])|skip)
   have H':=y0.mk H
   clear H
   go_wp2
   go_meet
   exact⟨_,(decide ((a0.size:Int) > 200)),qy2,H',⟨by first|omega|exact Nat.le_refl _⟩,⟨qb⟩⟩
 case rest =>
  clear Cl
  obtain⟨kq,Aj,rfl,HA,As,HB⟩:=hcut
  cases kq with
  | zero=>exact absurd HA.out (by simp [z4_.j0])
  | succ Al =>
   have H:=HA.out
   clear HA
   simp only [z4_.j0]at H
   by_cases c4:Aj=true
   ·subst c4
    replace H:=qT H
    obtain rfl:=Option.some.inj H
    go_wp2
    go_ret
    exact⟨qf,qb⟩
   ·replace c4:=Bool.eq_false_iff.mpr c4
    subst c4
    replace H:=qF H
    obtain⟨⟨Az,Cn⟩,A5,H⟩:=qB H
    dsimp only at H
    by_cases c6:Cn=true
    ·subst c6
     replace H:=qT H
     obtain rfl:=Option.some.inj H
     go_wp2_with (first|((with_reducible refine y16 (f:=92) rfl ?_);refine y18 (some 19) rfl rfl Tryz.func92 (by kernel_rfl) rfl #[.string a0] rfl qy0 ?_;(with_reducible refine(z10_.calls Al a0 Az true _ A5.out).mono ?_);rintro e w7 ⟨rfl,hb⟩;refine⟨_,rfl, ?_⟩;replace HB:=y0.mk (y8 qb hb);(try clear hb)))
     go_ret
     exact⟨qf,qb⟩
    ·replace c6:=Bool.eq_false_iff.mpr c6
     subst c6
     replace H:=qF H
     obtain⟨c8,H⟩:=qo H
     have Co:=decide_eq_true c8
     have Cp:decide (0 < a0.size)=true:=decide_eq_true (by omega)
     clear c8
     by_cases Ba:(bt a0 0)=34
     ·rw [if_pos Ba]at H
      have Am:((bt a0 0) == 34)=true:=beq_iff_eq.mpr Ba
      have Ao:((bt a0 0) != 34)=false:=bne_eq_false_iff_eq.mpr Ba
      clear Ba
      have Bb:=y0.mk H
      clear H
      go_upto_region 7 with(first|((with_reducible refine y16 (f:=92) rfl ?_);refine y18 (some 19) rfl rfl Tryz.func92 (by kernel_rfl) rfl #[.string a0] rfl qy0 ?_;(with_reducible refine(z10_.calls Al a0 Az false _ A5.out).mono ?_);rintro e Dx ⟨rfl,hb⟩;refine⟨_,rfl, ?_⟩;replace HB:=y0.mk (y8 qb hb);(try clear hb);have p9:0≤(0:Int):=(by omega);have q9:0 < a0.size:=qy3;have Cq:∀ h:0 < a0.size,((a0[0]'h).toNat:Int)=bt a0 0:=bt_at a0 0;clear p9;have Cr:(0 < (a0.size:Int))=True:=eq_true (of_decide_eq_true qy1);replace q9:=eq_true q9))
      (try simp only [Act.put,qS_,qZ_,qC_])
      go_cut [37] (fun Do wc=>∃(kq:Nat) (Af:Bool),Do=.bool Af∧y0 (z4_.j1 kq a0 Af=some r)∧y0 (kq≤Al)∧y0 (Below w.heap.size w wc))
      case first =>
       have H:=Bb.out
       clear Bb
       obtain⟨Cs,Ct,H⟩:=qB H
       by_cases Cg:Cs=true
       ·subst Cg
        replace H:=qT H
        obtain⟨Ad,Ah⟩:∃ j_:Int,(wrap64 ((a0.size:Int) - 1))=j_:=⟨_,rfl⟩
        replace H:(if 0≤(Ad)then(if(Ad) < (a0.size:Int)then(z4_.j1 Al a0 ((bt a0 (Ad)) != 34))else(none))else(none))=some r:=by first|(rw [Ah]at H;exact H)|(simp only [Ah]at H ⊢;exact H)
        (try rw [Ah]at Ct)
        have hji15w:(IntKind.i64.wrap ((a0.size:Int) - 1))=Ad:=(i64_w _).trans Ah
        obtain⟨Cz,H⟩:=qo H
        have Av:decide (0≤(Ad))=true:=decide_eq_true Cz
        clear Cz
        (first|rw [Av]|(simp only [i64_w,i32_w];rw [Av])|skip)
        obtain⟨Da,H⟩:=qo H
        have Db:decide ((Ad) < (a0.size:Int))=true:=decide_eq_true Da
        clear Da
        have H':=y0.mk H
        clear H
        go_wp2_with (first|((with_reducible refine y16 (f:=56) rfl ?_);refine y18 (some 28) rfl rfl Tryz.func56 (by kernel_rfl) rfl #[.int .i64 (a0.size:Int),.int .i64 2,.int .i64 22] rfl qy0 ?_;(with_reducible refine(spec_l01Between.calls (a0.size:Int) 2 22 true _ Ct.out).mono ?_);rintro e w' ⟨rfl,⟨nd,rfl⟩⟩;refine⟨_,rfl, ?_⟩;have Dc:0≤((Ad):Int):=of_decide_eq_true qy1;have Dd:(Ad) < (a0.size:Int):=of_decide_eq_true qy1;have Dp:=bt_at a0 (Ad);replace Dc:=eq_true Dc;replace Dd:=eq_true Dd))
        go_meet
        exact⟨_,(((bt a0 (Ad)) != 34)),(by first|rfl|(simp;done)|(simp only [← Ah] <;> (first|rfl|simp))|(simp [*];done)),H',⟨by have:=As.out;first|omega|exact Nat.le_refl _⟩,⟨qb⟩⟩
       ·replace Cg:=Bool.eq_false_iff.mpr Cg
        subst Cg
        replace H:=qF H
        have H':=y0.mk H
        clear H
        go_wp2_with (first|((with_reducible refine y16 (f:=56) rfl ?_);refine y18 (some 28) rfl rfl Tryz.func56 (by kernel_rfl) rfl #[.int .i64 (a0.size:Int),.int .i64 2,.int .i64 22] rfl qy0 ?_;(with_reducible refine(spec_l01Between.calls (a0.size:Int) 2 22 false _ Ct.out).mono ?_);rintro e w' ⟨rfl,⟨nd,rfl⟩⟩;refine⟨_,rfl, ?_⟩))
        go_meet
        exact⟨_,(true),qy2,H',⟨by have:=As.out;first|omega|exact Nat.le_refl _⟩,⟨qb⟩⟩
      case rest =>
       clear Bb
       (try clear c4 c6 Co Cp p9 q9 Cq Cr Am Ao p9 q9)
       obtain⟨kq,Af,rfl,HA,Bo,HB⟩:=hcut
       cases kq with
       | zero=>exact absurd HA.out (by simp [z4_.j1])
       | succ Bp =>
        have H:=HA.out
        clear HA
        simp only [z4_.j1]at H
        by_cases Bq:Af=true
        ·subst Bq
         replace H:=qT H
         obtain rfl:=Option.some.inj H
         go_wp2
         go_ret
         exact⟨qf,qb⟩
        ·replace Bq:=Bool.eq_false_iff.mpr Bq
         subst Bq
         replace H:=qF H
         have H':=y0.mk H
         clear H
         go_wp2
         go_loopg [5] Bp (fun kq v5 w'=>∃(Aa:Int),v5=.int .i64 Aa∧y0 (z4_.l0 kq a0 Aa=some r)∧y0 (kq≤Bp)∧y0 (Below w.heap.size w w'))
         case atStart=>exact⟨(1),qy2,H',⟨Nat.le_refl _⟩,⟨qb⟩⟩
         case round =>
          clear H'
          (try clear Bq)
          obtain⟨Aa,rfl,HA,Bc,HB⟩:=hrel
          cases gk with
          | zero=>exact absurd HA.out (by simp [z4_.l0])
          | succ k3 =>
           have H:=HA.out
           clear HA
           simp only [z4_.l0]at H
           by_cases Bm:(wrap64 (Aa + 1)) < (a0.size:Int)
           ·rw [if_pos Bm]at H
            have Br:=decide_eq_true Bm
            clear Bm
            obtain⟨De,H⟩:=qo H
            have Df:decide (0≤Aa)=true:=decide_eq_true De
            clear De
            obtain⟨Dg,H⟩:=qo H
            have Dh:=decide_eq_true Dg
            clear Dg
            obtain⟨Cu,Ch,H⟩:=qB H
            by_cases Ci:Cu=true
            ·subst Ci
             replace H:=qT H
             by_cases Bd:(bt a0 Aa)=34
             ·rw [if_pos Bd]at H
              have Bs:((bt a0 Aa) == 34)=true:=beq_iff_eq.mpr Bd
              have Bt:((bt a0 Aa) != 34)=false:=bne_eq_false_iff_eq.mpr Bd
              clear Bd
              obtain rfl:=Option.some.inj H
              have Ap:0≤(Aa:Int):=of_decide_eq_true qy1
              have Aq:Aa < (a0.size:Int):=of_decide_eq_true qy1
              have Be:=bt_at a0 Aa
              replace Ap:=eq_true Ap
              replace Aq:=eq_true Aq
              go_wp2_with (first|((with_reducible refine y16 (f:=56) rfl ?_);refine y18 (some 49) rfl rfl Tryz.func56 (by kernel_rfl) rfl #[.int .i64 (wrap64 (bt a0 Aa)),.int .i64 32,.int .i64 126] rfl qy0 ?_;(with_reducible refine(spec_l01Between.calls (wrap64 (bt a0 Aa)) 32 126 true _ Ch.out).mono ?_);rintro e w' ⟨rfl,⟨nd,rfl⟩⟩;refine⟨_,rfl, ?_⟩;have Aw:0≤(Aa:Int):=of_decide_eq_true qy1;have Ax:Aa < (a0.size:Int):=of_decide_eq_true qy1;have Bu:=bt_at a0 Aa;replace Aw:=eq_true Aw;replace Ax:=eq_true Ax))
              go_ret
              exact⟨qf,qb⟩
             ·rw [if_neg Bd]at H
              have Bs:((bt a0 Aa) == 34)=false:=beq_eq_false_iff_ne.mpr Bd
              have Bt:((bt a0 Aa) != 34)=true:=bne_iff_ne.mpr Bd
              by_cases Bf:(bt a0 Aa)=92
              ·rw [if_pos Bf]at H
               have Bv:((bt a0 Aa) == 92)=true:=beq_iff_eq.mpr Bf
               have Bw:((bt a0 Aa) != 92)=false:=bne_eq_false_iff_eq.mpr Bf
               clear Bf
               obtain rfl:=Option.some.inj H
               have Ap:0≤(Aa:Int):=of_decide_eq_true qy1
               have Aq:Aa < (a0.size:Int):=of_decide_eq_true qy1
               have Be:=bt_at a0 Aa
               replace Ap:=eq_true Ap
               replace Aq:=eq_true Aq
               go_wp2_with (first|((with_reducible refine y16 (f:=56) rfl ?_);refine y18 (some 49) rfl rfl Tryz.func56 (by kernel_rfl) rfl #[.int .i64 (wrap64 (bt a0 Aa)),.int .i64 32,.int .i64 126] rfl qy0 ?_;(with_reducible refine(spec_l01Between.calls (wrap64 (bt a0 Aa)) 32 126 true _ Ch.out).mono ?_);rintro e w' ⟨rfl,⟨nd,rfl⟩⟩;refine⟨_,rfl, ?_⟩;have Aw:0≤(Aa:Int):=of_decide_eq_true qy1;have Ax:Aa < (a0.size:Int):=of_decide_eq_true qy1;have Bu:=bt_at a0 Aa;replace Aw:=eq_true Aw;replace Ax:=eq_true Ax;have Bx:0≤(Aa:Int):=of_decide_eq_true qy1;have Bz:Aa < (a0.size:Int):=of_decide_eq_true qy1;have Cv:=bt_at a0 Aa;replace Bx:=eq_true Bx;replace Bz:=eq_true Bz))
               go_ret
               exact⟨qf,qb⟩
              ·rw [if_neg Bf]at H
               have Bv:((bt a0 Aa) == 92)=false:=beq_eq_false_iff_ne.mpr Bf
               have Bw:((bt a0 Aa) != 92)=true:=bne_iff_ne.mpr Bf
               have H':=y0.mk H
               clear H
               have Ap:0≤(Aa:Int):=of_decide_eq_true qy1
               have Aq:Aa < (a0.size:Int):=of_decide_eq_true qy1
               have Be:=bt_at a0 Aa
               replace Ap:=eq_true Ap
               replace Aq:=eq_true Aq
               go_wp2_with (first|((with_reducible refine y16 (f:=56) rfl ?_);refine y18 (some 49) rfl rfl Tryz.func56 (by kernel_rfl) rfl #[.int .i64 (wrap64 (bt a0 Aa)),.int .i64 32,.int .i64 126] rfl qy0 ?_;(with_reducible refine(spec_l01Between.calls (wrap64 (bt a0 Aa)) 32 126 true _ Ch.out).mono ?_);rintro e w' ⟨rfl,⟨nd,rfl⟩⟩;refine⟨_,rfl, ?_⟩;have Aw:0≤(Aa:Int):=of_decide_eq_true qy1;have Ax:Aa < (a0.size:Int):=of_decide_eq_true qy1;have Bu:=bt_at a0 Aa;replace Aw:=eq_true Aw;replace Ax:=eq_true Ax;have Bx:0≤(Aa:Int):=of_decide_eq_true qy1;have Bz:Aa < (a0.size:Int):=of_decide_eq_true qy1;have Cv:=bt_at a0 Aa;replace Bx:=eq_true Bx;replace Bz:=eq_true Bz))
               go_roundg k3
               case measure=>have:=As.out;have:=Bo.out;have:=Bc.out;omega
               exact⟨(wrap64 (Aa + 1)),qy2,H',⟨by have:=As.out;have:=Bo.out;have:=Bc.out;omega⟩,⟨qb⟩⟩
            ·replace Ci:=Bool.eq_false_iff.mpr Ci
             subst Ci
             replace H:=qF H
             obtain rfl:=Option.some.inj H
             have Ap:0≤(Aa:Int):=of_decide_eq_true qy1
             have Aq:Aa < (a0.size:Int):=of_decide_eq_true qy1
             have Be:=bt_at a0 Aa
             replace Ap:=eq_true Ap
             replace Aq:=eq_true Aq
             go_wp2_with (first|((with_reducible refine y16 (f:=56) rfl ?_);refine y18 (some 49) rfl rfl Tryz.func56 (by kernel_rfl) rfl #[.int .i64 (wrap64 (bt a0 Aa)),.int .i64 32,.int .i64 126] rfl qy0 ?_;(with_reducible refine(spec_l01Between.calls (wrap64 (bt a0 Aa)) 32 126 false _ Ch.out).mono ?_);rintro e w' ⟨rfl,⟨nd,rfl⟩⟩;refine⟨_,rfl, ?_⟩))
             go_ret
             exact⟨qf,qb⟩
           ·rw [if_neg Bm]at H
            have Br:=decide_eq_false Bm
            clear Bm
            obtain rfl:=Option.some.inj H
            go_wp2
            go_ret
            exact⟨qf,qb⟩
     ·rw [if_neg Ba]at H
      have Am:((bt a0 0) == 34)=false:=beq_eq_false_iff_ne.mpr Ba
      have Ao:((bt a0 0) != 34)=true:=bne_iff_ne.mpr Ba
      obtain⟨⟨Bg,Ab,Bh⟩,Dq,H⟩:=qB H
      replace H:(if Bh=true then((spec_l01Name.f Al Bg true).bind fun At=>(z4_.j3 Al Ab (!At)))else(z4_.j3 Al Ab true))=some r:=H
      have Bi:=y0.mk H
      clear H
      go_upto_region 16 with(first|((with_reducible refine y16 (f:=92) rfl ?_);refine y18 (some 19) rfl rfl Tryz.func92 (by kernel_rfl) rfl #[.string a0] rfl qy0 ?_;(with_reducible refine(z10_.calls Al a0 Az false _ A5.out).mono ?_);rintro e Dy ⟨rfl,hb⟩;refine⟨_,rfl, ?_⟩;replace HB:=y0.mk (y8 qb hb);(try clear hb);have p9:0≤(0:Int):=(by omega);have q9:0 < a0.size:=qy3;have Cq:∀ h:0 < a0.size,((a0[0]'h).toNat:Int)=bt a0 0:=bt_at a0 0;clear p9;have Cr:(0 < (a0.size:Int))=True:=eq_true (of_decide_eq_true qy1);replace q9:=eq_true q9)|((with_reducible refine y16 (f:=93) rfl ?_);refine y18 (some 65) rfl rfl Tryz.func93 (by kernel_rfl) rfl #[.string a0] rfl qy0 ?_;(with_reducible refine(z5_.calls Al a0 Bg Ab Bh _ Dq.out).mono ?_);rintro e Dz ⟨Ca,rfl,Di,hb⟩;refine⟨_,rfl, ?_⟩;have Ay:=y0.mk (Kd.R_lower Di (y7 qb));replace HB:=y0.mk (y8 qb hb);(try clear hb);(try clear Di)))
      (try simp only [Act.put,qS_,qZ_,qC_])
      go_cut [75] (fun Dr wc=>∃(kq:Nat) (Ag:Bool),Dr=.bool Ag∧y0 (z4_.j3 kq Ab Ag=some r)∧y0 (kq≤Al)∧y0 (Kd.R Kd.string 9 wc w.heap.size (fun _=>True) Ca Ab)∧y0 (Below w.heap.size w wc))
      case first =>
       have H:=Bi.out
       clear Bi
       by_cases Cj:Bh=true
       ·subst Cj
        replace H:=qT H
        obtain⟨At,Ds,H⟩:=qB H
        have H':=y0.mk H
        clear H
        go_wp2_with (first|(go_at_call 94;(with_reducible refine(spec_l01Name.calls Al Bg true At _ Ds.out).mono ?_);rintro e w' ⟨rfl,⟨nd,rfl⟩⟩))
        go_meet
        exact⟨_,(!At),qy2,H',⟨by have:=As.out;first|omega|exact Nat.le_refl _⟩,⟨qR Ay.out⟩,⟨qb⟩⟩
       ·replace Cj:=Bool.eq_false_iff.mpr Cj
        subst Cj
        replace H:=qF H
        have H':=y0.mk H
        clear H
        go_wp2
        go_meet
        exact⟨_,(true),qy2,H',⟨by have:=As.out;first|omega|exact Nat.le_refl _⟩,⟨qR Ay.out⟩,⟨qb⟩⟩
      case rest =>
       clear Bi
       (try clear p9 q9 Cq Cr Am Ao p9 q9)
       obtain⟨kq,Ag,rfl,HA,Au,Ae,HB⟩:=hcut
       cases kq with
       | zero=>exact absurd HA.out (by simp [z4_.j3])
       | succ Cb =>
        have H:=HA.out
        clear HA
        simp only [z4_.j3]at H
        by_cases Cc:Ag=true
        ·subst Cc
         replace H:=qT H
         obtain rfl:=Option.some.inj H
         go_wp2
         go_ret
         exact⟨qf,qb⟩
        ·replace Cc:=Bool.eq_false_iff.mpr Cc
         subst Cc
         replace H:=qF H
         have H':=y0.mk H
         clear H
         go_wp2
         go_loopg [9] Cb (fun kq v9 w'=>∃(Ac:Int),v9=.int .i64 Ac∧y0 (z4_.l1 kq Ab Ac=some r)∧y0 (kq≤Cb)∧y0 (Kd.R Kd.string 9 w' w.heap.size (fun _=>True) Ca Ab)∧y0 (Below w.heap.size w w'))
         case atStart=>exact⟨(0),qy2,H',⟨Nat.le_refl _⟩,⟨qR Ae.out⟩,⟨qb⟩⟩
         case round =>
          clear H'
          (try clear Cc)
          obtain⟨Ac,rfl,HA,Bc,Ae,HB⟩:=hrel
          cases gk with
          | zero=>exact absurd HA.out (by simp [z4_.l1])
          | succ k3 =>
           have H:=HA.out
           clear HA
           simp only [z4_.l1]at H
           by_cases Bn:Ac < (Ab.length:Int)
           ·rw [if_pos Bn]at H
            have Cd:=decide_eq_true Bn
            clear Bn
            obtain⟨Dj,H⟩:=qo H
            have Dk:decide (0≤Ac)=true:=decide_eq_true Dj
            clear Dj
            obtain⟨Ai,Dl,H⟩:=qB H
            obtain⟨Dt,Du,Cw⟩:=Kd.R_slice Ae.out
            subst Cw
            have Bj:0≤(Ac:Int):=of_decide_eq_true qy1
            have Bk:Ac < (Ab.length:Int):=of_decide_eq_true qy1
            obtain⟨Dm,Cx,Ck⟩:=Kd.at_string (Kd.R_reads' Ae.out).2.2 Ac Bj Bk
            cases Cx
            replace Bj:=eq_true Bj
            replace Bk:=eq_true Bk
            by_cases Bl:Ai=0
            ·rw [if_pos Bl]at H
             have Ce:(Ai == 0)=true:=beq_iff_eq.mpr Bl
             have Cf:(Ai != 0)=false:=bne_eq_false_iff_eq.mpr Bl
             clear Bl
             obtain rfl:=Option.some.inj H
             go_wp2_with (first|((with_reducible refine y16 (f:=68) rfl ?_);refine y18 (some 86) rfl rfl Tryz.func68 (by kernel_rfl) rfl #[.string (rdOf ByteArray.empty Ab Ac)] rfl qy0 ?_;(with_reducible refine(ih k3 (by have:=As.out;have:=Au.out;have:=Bc.out;omega) (rdOf ByteArray.empty Ab Ac) Ai _ Dl.out).mono ?_);rintro e Ea ⟨rfl,hb⟩;refine⟨_,rfl, ?_⟩;replace Ae:=y0.mk (Kd.R_below (qR Ae.out) hb);replace HB:=y0.mk (y8 qb hb);(try clear hb)))
             go_ret
             exact⟨qf,qb⟩
            ·rw [if_neg Bl]at H
             have Ce:(Ai == 0)=false:=beq_eq_false_iff_ne.mpr Bl
             have Cf:(Ai != 0)=true:=bne_iff_ne.mpr Bl
             have H':=y0.mk H
             clear H
             go_wp2_with (first|((with_reducible refine y16 (f:=68) rfl ?_);refine y18 (some 86) rfl rfl Tryz.func68 (by kernel_rfl) rfl #[.string (rdOf ByteArray.empty Ab Ac)] rfl qy0 ?_;(with_reducible refine(ih k3 (by have:=As.out;have:=Au.out;have:=Bc.out;omega) (rdOf ByteArray.empty Ab Ac) Ai _ Dl.out).mono ?_);rintro e Eb ⟨rfl,hb⟩;refine⟨_,rfl, ?_⟩;replace Ae:=y0.mk (Kd.R_below (qR Ae.out) hb);replace HB:=y0.mk (y8 qb hb);(try clear hb)))
             go_roundg k3
             case measure=>have:=As.out;have:=Au.out;have:=Bc.out;omega
             exact⟨(wrap64 (Ac + 1)),qy2,H',⟨by have:=As.out;have:=Au.out;have:=Bc.out;omega⟩,⟨qR Ae.out⟩,⟨qb⟩⟩
           ·rw [if_neg Bn]at H
            have Cd:=decide_eq_false Bn
            clear Bn
            obtain rfl:=Option.some.inj H
            obtain⟨Dv,Dw,Cy⟩:=Kd.R_slice Ae.out
            subst Cy
            go_wp2
            go_ret
            exact⟨qf,qb⟩
end Go.Proofs.YtkajecadkkgfmaaGreatDoor.Pn
end
section
namespace Go.Proofs.YtkajecadkkgfmaaGreatDoor.Pn
open Go.RowKit Go.Proofs.YtkajecadkkgfmaaGreatDoorW.PrintWords Go.Proofs.YtkajecadkkgfmaaGreatDoorW.PrintLast Go.Proofs.YtkajecadkkgfmaaGreatDoorW.PrintMore
attribute [local go_sem] max2_int min2_int max_two min_two max_three min_three max_four min_four   -- for this text's walks alone
set_option linter.unusedVariables false
set_option linter.unusedSimpArgs false
def spec_TupleOk.l0:Nat→Int→List ByteArray→Option (Bool)
 | 0,_,_=>none
 | k + 1,x3,x195000=>if x3 < (x195000.length:Int)then(if 0≤x3 then((z4_.f k (rdOf ByteArray.empty x195000 x3)).bind fun t196=>(if t196=0 then(some false)else(spec_TupleOk.l0 k (wrap64 (x3 + 1)) x195000)))else(none))else(some true)
def spec_TupleOk.f (k:Nat) (l0_0:List ByteArray):Option (Bool):=if(l0_0.length:Int) > 6 then(some false)else(spec_TupleOk.l0 k 0 l0_0)
set_option maxHeartbeats 8000000 in
set_option maxRecDepth 100000 in
theorem spec_TupleOk.calls (k:Nat) (Af:Option Addr) (Ag:Nat) (Aa:List ByteArray) (r:Bool) (w:World) (Ah:Kd.C Kd.string w Af Aa.length Aa) (Ai:Aa.length≤Ag) (h:spec_TupleOk.f k Aa=some r) :
  Calls Tryz.prog 35 #[.agg #[.slice Af Aa.length Ag]] w fun e w'=>e=.returned (.bool r)∧Below w.heap.size w w':=by
 have Bj:=Tryz.underlying36
 have Aq:=y0.mk Ah
 have Bg:=y0.mk Ai
 clear Ah Ai
 have HB:=y0.mk (Below.refl w.heap.size w)
 have H:(if(Aa.length:Int) > 6 then(some false)else(spec_TupleOk.l0 k 0 Aa))=some r:=h
 clear h
 by_cases c2:(Aa.length:Int) > 6
 ·rw [if_pos c2]at H
  have As:decide (6 < (Aa.length:Int))=true:=decide_eq_true c2
  have At:decide (6 < Aa.length)=true:=decide_eq_true (by omega)
  clear c2
  obtain rfl:=Option.some.inj H
  go_enter Tryz.func35,Tryz.ntmps35
  go_wp2_with (first|((with_reducible refine y17 (N:=1) rfl ?_);refine qe 1 #[.slice Af Aa.length Ag] 36 ?_;intro Aj hg w3 hbox hb;have Ab:=y0.mk (hbox);have Au:=y0.mk (qg (w:=w) hg);have Av:=y0.mk (qg (w:=w) hg);replace HB:=y0.mk (y8 qb hb);clear hb hbox hg;obtain⟨Bc,Bd⟩:=qz1 Ab.out))
  go_ret
  exact⟨qf,qb⟩
 ·rw [if_neg c2]at H
  have As:decide (6 < (Aa.length:Int))=false:=decide_eq_false c2
  have At:decide (6 < Aa.length)=false:=decide_eq_false (by omega)
  clear c2
  have H':=y0.mk H
  clear H
  go_enter Tryz.func35,Tryz.ntmps35
  go_wp2_with (first|((with_reducible refine y17 (N:=1) rfl ?_);refine qe 1 #[.slice Af Aa.length Ag] 36 ?_;intro Aj hg w5 hbox hb;have Ab:=y0.mk (hbox);have Au:=y0.mk (qg (w:=w) hg);have Av:=y0.mk (qg (w:=w) hg);replace HB:=y0.mk (y8 qb hb);clear hb hbox hg;obtain⟨Ak,Al⟩:=qz1 Ab.out))
  go_loopg [3] k (fun kq v3 w'=>∃(Ac:Int),v3=.int .i64 Ac∧y0 (spec_TupleOk.l0 kq Ac Aa=some r)∧y0 (kq≤k)∧y0 (w'.heap[Aj]?=some (.cells #[(.slice Af Aa.length Ag)] 36 (0,0)))∧y0 (Below w.heap.size w w'))
  case atStart=>exact⟨(0),qy2,H',⟨Nat.le_refl _⟩,⟨qk Ab.out⟩,⟨qb⟩⟩
  case round =>
   clear H'
   (try clear As At Ak Al)
   obtain⟨Ac,rfl,HA,Bh,Ab,HB⟩:=hrel
   cases gk with
   | zero=>exact absurd HA.out (by simp [spec_TupleOk.l0])
   | succ k1 =>
    have H:=HA.out
    clear HA
    simp only [spec_TupleOk.l0]at H
    by_cases c7:Ac < (Aa.length:Int)
    ·rw [if_pos c7]at H
     have Be:=decide_eq_true c7
     clear c7
     obtain⟨c8,H⟩:=qo H
     have Bk:=decide_eq_true c8
     clear c8
     obtain⟨Ae,A9,H⟩:=qB H
     obtain⟨Ay,Az⟩:=qz1 Ab.out
     have Am:0≤(Ac:Int):=of_decide_eq_true qy1
     have Ao:Ac < (Aa.length:Int):=of_decide_eq_true qy1
     obtain⟨Bi,Bf,Ad⟩:=Kd.at_string Aq.out Ac Am Ao
     cases Bf
     replace Ad:=(HB.out.cell (World.block_lt_of_cell? w _ Ad)).trans Ad
     replace Am:=eq_true Am
     replace Ao:=eq_true Ao
     by_cases Ap:Ae=0
     ·rw [if_pos Ap]at H
      have Aw:(Ae == 0)=true:=beq_iff_eq.mpr Ap
      have Ax:(Ae != 0)=false:=bne_eq_false_iff_eq.mpr Ap
      clear Ap
      obtain rfl:=Option.some.inj H
      go_wp2_with (first|((with_reducible refine y16 (f:=68) rfl ?_);refine y18 (some 20) rfl rfl Tryz.func68 (by kernel_rfl) rfl #[.string (rdOf ByteArray.empty Aa Ac)] rfl qy0 ?_;(with_reducible refine(z4_.calls k1 (rdOf ByteArray.empty Aa Ac) Ae _ A9.out).mono ?_);rintro e Bl ⟨rfl,hb⟩;refine⟨_,rfl, ?_⟩;replace Ab:=y0.mk (qK Ab.out hb);replace HB:=y0.mk (y8 qb hb);(try clear hb)))
      go_ret
      exact⟨qf,qb⟩
     ·rw [if_neg Ap]at H
      have Aw:(Ae == 0)=false:=beq_eq_false_iff_ne.mpr Ap
      have Ax:(Ae != 0)=true:=bne_iff_ne.mpr Ap
      have H':=y0.mk H
      clear H
      go_wp2_with (first|((with_reducible refine y16 (f:=68) rfl ?_);refine y18 (some 20) rfl rfl Tryz.func68 (by kernel_rfl) rfl #[.string (rdOf ByteArray.empty Aa Ac)] rfl qy0 ?_;(with_reducible refine(z4_.calls k1 (rdOf ByteArray.empty Aa Ac) Ae _ A9.out).mono ?_);rintro e Bm ⟨rfl,hb⟩;refine⟨_,rfl, ?_⟩;replace Ab:=y0.mk (qK Ab.out hb);replace HB:=y0.mk (y8 qb hb);(try clear hb)))
      go_roundg k1
      case measure=>have:=Bh.out;omega
      exact⟨(wrap64 (Ac + 1)),qy2,H',⟨by have:=Bh.out;omega⟩,⟨qk Ab.out⟩,⟨qb⟩⟩
    ·rw [if_neg c7]at H
     have Be:=decide_eq_false c7
     clear c7
     obtain rfl:=Option.some.inj H
     obtain⟨Ba,Bb⟩:=qz1 Ab.out
     go_wp2
     go_ret
     exact⟨qf,qb⟩
def spec_l01Sign.f (a0:Int):Option (Int):=if a0 < 0 then(some (-1))else(if a0 > 0 then(some 1)else(some 0))
set_option maxHeartbeats 8000000 in
set_option maxRecDepth 100000 in
theorem spec_l01Sign.calls (a0:Int) (r:Int) (w:World) (h:spec_l01Sign.f a0=some r) :
  Calls Tryz.prog 83 #[.int .i64 a0] w fun e w'=>e=.returned (.int .i64 r)∧y1 w w':=by
 have H:(if a0 < 0 then(some (-1))else(if a0 > 0 then(some 1)else(some 0)))=some r:=h
 clear h
 by_cases c2:a0 < 0
 ·rw [if_pos c2]at H
  have c2b0:=decide_eq_true c2
  clear c2
  obtain rfl:=Option.some.inj H
  go_enter Tryz.func83,Tryz.ntmps83
  go_wp2
  go_ret
  exact qf2
 ·rw [if_neg c2]at H
  have c2b0:=decide_eq_false c2
  clear c2
  by_cases c3:a0 > 0
  ·rw [if_pos c3]at H
   have c3b0:decide (0 < a0)=true:=decide_eq_true c3
   clear c3
   obtain rfl:=Option.some.inj H
   go_enter Tryz.func83,Tryz.ntmps83
   go_wp2
   go_ret
   exact qf2
  ·rw [if_neg c3]at H
   have c3b0:decide (0 < a0)=false:=decide_eq_false c3
   clear c3
   obtain rfl:=Option.some.inj H
   go_enter Tryz.func83,Tryz.ntmps83
   go_wp2
   go_ret
   exact qf2
def spec_l01Texts.f (a0:ByteArray) (a1:ByteArray):Option (Int):=if(Op.bytesLess a0.toList a1.toList)=true then(some (-1))else(if(Op.bytesLess a1.toList a0.toList)=true then(some 1)else(some 0))
theorem spec_l01Texts.bl:∀ x y:List UInt8,(!(Op.bytesLess x y || x == y))=Op.bytesLess y x
 | [],[]=>rfl
 | [],b :: y=>rfl
 | a :: x,[]=>rfl
 | a :: x,b :: y=>by
  have ih:=spec_l01Texts.bl x y
  have e1:(decide (a < b))=(decide (a.toNat < b.toNat)):=rfl
  have e2:(decide (b < a))=(decide (b.toNat < a.toNat)):=rfl
  rw [Op.bytesLess,Op.bytesLess,e1,e2,← ih]
  by_cases h:a=b
  ·subst h
   simp
  ·have hn:a.toNat≠b.toNat:=fun h'=>h (UInt8.toNat_inj.1 h')
   have h1:(a == b)=false:=by simpa using h
   have h2:(b == a)=false:=by simpa using fun h'=>h (Eq.symm h')
   have h3:((a :: x) == (b :: y))=false:=by simp [h]
   rw [h1,h2,h3]
   by_cases hl:a.toNat < b.toNat
   ·have:¬ b.toNat < a.toNat:=by omega
    simp [hl,this]
   ·have:b.toNat < a.toNat:=by omega
    simp [hl,this]
theorem spec_l01Texts.gtr (t:TypeId) (a b:ByteArray):binOp .gtr t (.string a) (.string b)=pure (.bool (Op.bytesLess b.toList a.toList)):=by
 rw [← spec_l01Texts.bl]
 simp [binOp,Op.stringOp]
attribute [local go_sem] spec_l01Texts.gtr
set_option maxHeartbeats 8000000 in
set_option maxRecDepth 100000 in
theorem spec_l01Texts.calls (a0:ByteArray) (a1:ByteArray) (r:Int) (w:World) (h:spec_l01Texts.f a0 a1=some r) :
  Calls Tryz.prog 102 #[.string a0,.string a1] w fun e w'=>e=.returned (.int .i64 r)∧y1 w w':=by
 have H:(if(Op.bytesLess a0.toList a1.toList)=true then(some (-1))else(if(Op.bytesLess a1.toList a0.toList)=true then(some 1)else(some 0)))=some r:=h
 clear h
 by_cases c3:(Op.bytesLess a0.toList a1.toList)=true
 ·rw [if_pos c3]at H
  have c3b0:(Op.bytesLess a0.toList a1.toList)=true:=c3
  clear c3
  obtain rfl:=Option.some.inj H
  go_enter Tryz.func102,Tryz.ntmps102
  go_wp2
  go_ret
  exact qf2
 ·rw [if_neg c3]at H
  have c3b0:(Op.bytesLess a0.toList a1.toList)=false:=by simpa using c3
  clear c3
  by_cases c4:(Op.bytesLess a1.toList a0.toList)=true
  ·rw [if_pos c4]at H
   have c4b0:(Op.bytesLess a1.toList a0.toList)=true:=c4
   clear c4
   obtain rfl:=Option.some.inj H
   go_enter Tryz.func102,Tryz.ntmps102
   go_wp2
   go_ret
   exact qf2
  ·rw [if_neg c4]at H
   have c4b0:(Op.bytesLess a1.toList a0.toList)=false:=by simpa using c4
   clear c4
   obtain rfl:=Option.some.inj H
   go_enter Tryz.func102,Tryz.ntmps102
   go_wp2
   go_ret
   exact qf2
def spec_TermParts.f (k:Nat) (a0:ByteArray):Option (ByteArray×List ByteArray):=(z4_.f k a0).bind fun t197=>(if t197=0 then(some ((⟨#[]⟩:ByteArray),(([]:List ByteArray))))else(if t197=3 then((z5_.f k a0).bind fun bt201=>(some (bt201.1,bt201.2.1)))else(some (a0,(([]:List ByteArray))))))
set_option maxHeartbeats 8000000 in
set_option maxRecDepth 100000 in
theorem spec_TermParts.calls (k:Nat) (a0:ByteArray) (r1:ByteArray) (r2:List ByteArray) (w:World) (h:spec_TermParts.f k a0=some (r1,r2)) :
  Calls Tryz.prog 103 #[.string a0] w fun e w'=>∃ v1_:Value,e=.returned (.tuple #[.string r1,v1_])∧Kd.R Kd.string 9 w' w.heap.size (fun _=>True) v1_ r2∧Below w.heap.size w w':=by
 have HB:=y0.mk (Below.refl w.heap.size w)
 have H:((z4_.f k a0).bind fun Aa=>(if Aa=0 then(some ((⟨#[]⟩:ByteArray),(([]:List ByteArray))))else(if Aa=3 then((z5_.f k a0).bind fun Ae=>(some (Ae.1,Ae.2.1)))else(some (a0,(([]:List ByteArray)))))))=some (r1,r2):=h
 clear h
 obtain⟨Aa,A2,H⟩:=qB H
 by_cases c3:Aa=0
 ·rw [if_pos c3]at H
  have Ao:(Aa == 0)=true:=beq_iff_eq.mpr c3
  have Ap:(Aa != 0)=false:=bne_eq_false_iff_eq.mpr c3
  clear c3
  obtain⟨Aq,Ab⟩:∃ y_:List ByteArray,y_=(([]:List ByteArray)):=⟨_,rfl⟩
  replace H:(some ((⟨#[]⟩:ByteArray),Aq))=some (r1,r2):=by first|(rw [Ab];with_reducible exact H)|(have H2_:=(Option.bind_some _ _).symm.trans H;rw [Ab];with_reducible exact H2_)|(have H2_:=(Option.bind_some _ _).symm.trans H;with_reducible exact H2_)|with_reducible exact H|(rw [Ab];exact H)|exact H
  have Af:=y0.mk Ab
  clear Ab
  simp only [Option.some.injEq,Prod.mk.injEq]at H
  obtain⟨rfl,rfl⟩:=H
  go_enter Tryz.func103,Tryz.ntmps103
  go_wp2_with (first|((with_reducible refine y16 (f:=68) rfl ?_);refine y18 (some 8) rfl rfl Tryz.func68 (by kernel_rfl) rfl #[.string a0] rfl qy0 ?_;(with_reducible refine(z4_.calls k a0 Aa _ A2.out).mono ?_);rintro e w4 ⟨rfl,hb⟩;refine⟨_,rfl, ?_⟩;replace HB:=y0.mk (y8 qb hb);(try clear hb))|((with_reducible refine y17 (N:=11) rfl ?_);refine qL Kd.string 9 11 ([]:List ByteArray) ?_;intro Ax w5 Ah hb hg_ hnew_;clear hg_ hnew_;(first|rw [← Af.out]at Ah|(simp only [Int.reduceToNat]at Ah;rw [← Af.out]at Ah));have Ai:=y0.mk (Kd.R_lower Ah (y7 qb));replace HB:=y0.mk (y8 qb hb);clear hb Ah))
  go_ret2
  exact⟨_,by first|rfl|(simp [y14,y15] <;> rfl)|(simp [*,y14,y15] <;> rfl),by(with_reducible repeat(first|apply Kd.R_alloc|apply Kd.R_drewN|apply Kd.R_drew));exact Ai.out,qb⟩
 ·rw [if_neg c3]at H
  have Ao:(Aa == 0)=false:=beq_eq_false_iff_ne.mpr c3
  have Ap:(Aa != 0)=true:=bne_iff_ne.mpr c3
  by_cases c7:Aa=3
  ·rw [if_pos c7]at H
   have As:(Aa == 3)=true:=beq_iff_eq.mpr c7
   have At:(Aa != 3)=false:=bne_eq_false_iff_eq.mpr c7
   clear c7
   obtain⟨⟨Aj,Ak,Au⟩,A8,H⟩:=qB H
   replace H:(some (Aj,Ak))=some (r1,r2):=H
   simp only [Option.some.injEq,Prod.mk.injEq]at H
   obtain⟨rfl,rfl⟩:=H
   go_enter Tryz.func103,Tryz.ntmps103
   go_wp2_with (first|((with_reducible refine y16 (f:=68) rfl ?_);refine y18 (some 8) rfl rfl Tryz.func68 (by kernel_rfl) rfl #[.string a0] rfl qy0 ?_;(with_reducible refine(z4_.calls k a0 Aa _ A2.out).mono ?_);rintro e w9 ⟨rfl,hb⟩;refine⟨_,rfl, ?_⟩;replace HB:=y0.mk (y8 qb hb);(try clear hb))|((with_reducible refine y16 (f:=93) rfl ?_);refine y18 (some 16) rfl rfl Tryz.func93 (by kernel_rfl) rfl #[.string a0] rfl qy0 ?_;(with_reducible refine(z5_.calls k a0 Aj Ak Au _ A8.out).mono ?_);rintro e Ba ⟨Ay,rfl,Aw,hb⟩;refine⟨_,rfl, ?_⟩;have Al:=y0.mk (Kd.R_lower Aw (y7 qb));replace HB:=y0.mk (y8 qb hb);(try clear hb);(try clear Aw)))
   go_ret2
   exact⟨_,by first|rfl|(simp [y14,y15] <;> rfl)|(simp [*,y14,y15] <;> rfl),by(with_reducible repeat(first|apply Kd.R_alloc|apply Kd.R_drewN|apply Kd.R_drew));exact Al.out,qb⟩
  ·rw [if_neg c7]at H
   have As:(Aa == 3)=false:=beq_eq_false_iff_ne.mpr c7
   have At:(Aa != 3)=true:=bne_iff_ne.mpr c7
   obtain⟨Av,Ac⟩:∃ y_:List ByteArray,y_=(([]:List ByteArray)):=⟨_,rfl⟩
   replace H:(some (a0,Av))=some (r1,r2):=by first|(rw [Ac];with_reducible exact H)|(have H2_:=(Option.bind_some _ _).symm.trans H;rw [Ac];with_reducible exact H2_)|(have H2_:=(Option.bind_some _ _).symm.trans H;with_reducible exact H2_)|with_reducible exact H|(rw [Ac];exact H)|exact H
   have Ag:=y0.mk Ac
   clear Ac
   simp only [Option.some.injEq,Prod.mk.injEq]at H
   obtain⟨rfl,rfl⟩:=H
   go_enter Tryz.func103,Tryz.ntmps103
   go_wp2_with (first|((with_reducible refine y16 (f:=68) rfl ?_);refine y18 (some 8) rfl rfl Tryz.func68 (by kernel_rfl) rfl #[.string a0] rfl qy0 ?_;(with_reducible refine(z4_.calls k a0 Aa _ A2.out).mono ?_);rintro e Bb ⟨rfl,hb⟩;refine⟨_,rfl, ?_⟩;replace HB:=y0.mk (y8 qb hb);(try clear hb))|((with_reducible refine y17 (N:=23) rfl ?_);refine qL Kd.string 9 23 ([]:List ByteArray) ?_;intro Az Bc Ad hb hg_ hnew_;clear hg_ hnew_;(first|rw [← Ag.out]at Ad|(simp only [Int.reduceToNat]at Ad;rw [← Ag.out]at Ad));have Am:=y0.mk (Kd.R_lower Ad (y7 qb));replace HB:=y0.mk (y8 qb hb);clear hb Ad))
   go_ret2
   exact⟨_,by first|rfl|(simp [y14,y15] <;> rfl)|(simp [*,y14,y15] <;> rfl),by(with_reducible repeat(first|apply Kd.R_alloc|apply Kd.R_drewN|apply Kd.R_drew));exact Am.out,qb⟩
end Go.Proofs.YtkajecadkkgfmaaGreatDoor.Pn
end
