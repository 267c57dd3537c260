-- Cut by prune.py.
import Derived.Test.YtkdabljlfbmpdaaVgrWRepsOne
import Derived.Test.YtkdabljlfbmpdaaVgrWInv
import Derived.Test.YtkdabljlfbmpdaaVgrWGuard
import Derived.Test.YtkdabljlfbmpdaaVgrQSet
import Derived.Test.YtkdabljlfbmpdaaVgrShelf
import Derived.WalkSmall
import Derived.Test.YtkdabljlfbmpdaaVgrQRead
import Derived.Test.YtkdabljlfbmpdaaVgrQWords
set_option maxHeartbeats 8000000
set_option maxRecDepth 100000
section
namespace Go.Proofs.Ytkdabljlfbmpdaa.Pw
open RowKit YtkdabljlfbmpdaaW.PrintWords YtkdabljlfbmpdaaW.PrintLast YtkdabljlfbmpdaaW.PrintMore
set_option linter.unusedVariables false
set_option linter.unusedSimpArgs false
theorem qy0 {P:Prop} (h:P:=by first|(with_reducible assumption)|assumption):P:=h
theorem qy1 {P:Prop} (h:P:=by(try simp only [qM_,List.map_cons,List.map_nil]);first|done|rfl|(simp only [qD_,qT_];rfl)):P:=h
theorem qy2 {P:Prop} (h:P:=by first|rfl|(simp;done)|(simp [*];done)):P:=h
theorem qb {w W:World} (h:Below w.heap.size w W:=by repeat(first|(with_reducible first|exact HB.out|apply below_alloc|apply pw_below_drewN|apply y2|refine below_set ?_ (y0.out (by with_reducible assumption)))|exact HB.out)):Below w.heap.size w W:=h
theorem qg {w W:World} {g:Nat} (e:g=W.heap.size) (h:Below w.heap.size w W:=by repeat(first|(with_reducible first|exact HB.out|apply below_alloc|apply pw_below_drewN|apply y2|refine below_set ?_ (y0.out (by with_reducible assumption)))|exact HB.out)):w.heap.size≤g:=by rw [e];exact y3 h
theorem qk {w W:World} {g:Nat} {o:Obj} (h:w.heap[g]?=some o) (h1:Below w.heap.size w W:=by repeat(first|with_reducible exact Below.refl _ _|with_reducible apply below_alloc|with_reducible apply pw_below_drewN|with_reducible apply y2)):W.heap[g]?=some o:=y6 h h1
theorem qK {w W w2:World} {g:Nat} {o:Obj} (h:w.heap[g]?=some o) (hb:Below W.heap.size W w2) (h1:Below w.heap.size w W:=by repeat(first|with_reducible exact Below.refl _ _|with_reducible apply below_alloc|with_reducible apply pw_below_drewN|with_reducible apply y2)):w2.heap[g]?=some o:=y6 (y6 h h1) hb
theorem qC {w W:World} {p:Addr} {v:Value} (h:w.cell? p=some v) (b:y0 (Below w.heap.size w W)):W.cell? p=some v:=(b.out.cell (World.block_lt_of_cell? w _ h)).trans h
theorem qd {P:Prop} [Decidable P] (h:decide P=true:=by first|(with_reducible assumption)|assumption):P:=of_decide_eq_true h
theorem qfR {α:Type} {d:Kd α} {e base:Nat} {w:World} {ok:Nat→Prop} {v:Value} {xs:List α} (g:Nat) (h:d.R e w base (fun k=>ok k∧k≠g) v xs) (a b c:Value):d.R e (((w.setCell ⟨g,0,none⟩ a).setCell ⟨g,1,none⟩ b).setCell ⟨g,2,none⟩ c) base (fun k=>ok k∧k≠g) v xs:=Kd.R_far (p:=⟨g,2,none⟩) (Kd.R_far (p:=⟨g,1,none⟩) (Kd.R_far (p:=⟨g,0,none⟩) h (fun _ hk=>hk.2) a) (fun _ hk=>hk.2) b) (fun _ hk=>hk.2) c
theorem qfV {α:Type} {d:Kd α} {e base:Nat} {w:World} {ok:Nat→Prop} {v:Value} {xs:List α} (g:Nat) (h:Kd.V d e w base (fun k=>ok k∧k≠g) v xs) (a b c:Value):Kd.V d e (((w.setCell ⟨g,0,none⟩ a).setCell ⟨g,1,none⟩ b).setCell ⟨g,2,none⟩ c) base (fun k=>ok k∧k≠g) v xs:=Kd.V_far (p:=⟨g,2,none⟩) (Kd.V_far (p:=⟨g,1,none⟩) (Kd.V_far (p:=⟨g,0,none⟩) h (fun _ hk=>hk.2) a) (fun _ hk=>hk.2) b) (fun _ hk=>hk.2) c
theorem qfS {α:Type} {d:Kd α} {e base:Nat} {w:World} {ok:Nat→Prop} {v:Value} {xs:List α} (g:Nat) (h:Kd.S d e w base (fun k=>ok k∧k≠g) v xs) (a b c:Value):Kd.S d e (((w.setCell ⟨g,0,none⟩ a).setCell ⟨g,1,none⟩ b).setCell ⟨g,2,none⟩ c) base (fun k=>ok k∧k≠g) v xs:=Kd.S_far (p:=⟨g,2,none⟩) (Kd.S_far (p:=⟨g,1,none⟩) (Kd.S_far (p:=⟨g,0,none⟩) h (fun _ hk=>hk.2) a) (fun _ hk=>hk.2) b) (fun _ hk=>hk.2) c
theorem qn {w W:World} {g g2:Nat} {o:Obj} (h:w.heap[g]?=some o) (e:g2=W.heap.size) (h1:Below w.heap.size w W:=by repeat(first|with_reducible exact Below.refl _ _|with_reducible apply below_alloc|with_reducible apply pw_below_drewN|with_reducible apply y2)):g≠g2:=by rw [e];exact Nat.ne_of_lt (blk_lt (y6 h h1))
theorem qm {w W:World} {g g2:Nat} {o:Obj} (h:w.heap[g]?=some o) (e:g2=W.heap.size) (h1:Below w.heap.size w W:=by repeat(first|with_reducible exact Below.refl _ _|with_reducible apply below_alloc|with_reducible apply pw_below_drewN|with_reducible apply y2)):g2≠g:=Ne.symm (qn h e h1)
theorem qc {α:Type} {d:Kd α} {w W:World} {A:Option Addr} {n:Nat} {xs:List α} (h:d.C w A n xs) (h1:Below w.heap.size w W:=by repeat(first|with_reducible exact Below.refl _ _|with_reducible apply below_alloc|with_reducible apply pw_below_drewN|with_reducible apply y2)):d.C W A n xs:=Kd.C_below h h1
theorem qo {P:Prop} [Decidable P] {α:Type} {X Y:Option α} {r:α} (h:(if P then X else Y)=some r) (hn:¬(Y=some r):=by simp):P∧X=some r:=by
 by_cases c:P
 ·rw [if_pos c]at h
  exact⟨c,h⟩
 ·rw [if_neg c]at h
  exact absurd h hn
theorem qB {α β:Type} {x:Option α} {f:α→Option β} {r:β} (h:x.bind f=some r):∃ t,y0 (x=some t)∧f t=some r:=by
 obtain⟨t,a,b⟩:=Option.bind_eq_some_iff.mp h
 exact⟨t,⟨a⟩,b⟩
theorem qT {α:Type} {X Y:Option α} {r:α} {d:Decidable (true=true)} (h:(@ite _ (true=true) d X Y)=some r):X=some r:=by rwa [if_pos rfl]at h
theorem qF {α:Type} {X Y:Option α} {r:α} {d:Decidable (false=true)} (h:(@ite _ (false=true) d X Y)=some r):Y=some r:=by rwa [if_neg Bool.false_ne_true]at h
theorem qs {M X Y:Nat} (h:(M < X)=False) (e:Y=X:=by simp only [ByteArray.size_append];first|done|rfl|(simp only [← Nat.add_assoc];rfl)):(M < Y)=False:=by rw [e];exact h
theorem qR {α:Type} {d:Kd α} {e base:Nat} {w W:World} {ok:Nat→Prop} {v:Value} {xs:List α} (h:d.R e w base ok v xs) (h1:Below w.heap.size w W:=by repeat(first|with_reducible exact Below.refl _ _|with_reducible apply below_alloc|with_reducible apply pw_below_drewN|with_reducible apply y2|exact⟨rfl,rfl,rfl,Nat.le_refl _,fun _ _=>rfl⟩)):d.R e W base ok v xs:=Kd.R_below h h1
theorem qS {α:Type} {d:Kd α} {e base:Nat} {w W:World} {ok:Nat→Prop} {v:Value} {xs:List α} (h:Kd.S d e w base ok v xs) (h1:Below w.heap.size w W:=by repeat(first|with_reducible exact Below.refl _ _|with_reducible apply below_alloc|with_reducible apply pw_below_drewN|with_reducible apply y2)):Kd.S d e W base ok v xs:=Kd.S_below h h1
theorem qN {α:Type} {d:Kd α} {e base:Nat} {w W:World} {ok:Nat→Prop} {v:Value} {xs:List α} (h:Kd.N d e w base ok v xs) (h1:Below w.heap.size w W:=by repeat(first|with_reducible exact Below.refl _ _|with_reducible apply below_alloc|with_reducible apply pw_below_drewN|with_reducible apply y2)):Kd.N d e W base ok v xs:=Kd.N_below h h1
theorem qV {α:Type} {d:Kd α} {e base:Nat} {w W:World} {ok:Nat→Prop} {v:Value} {xs:List α} (h:Kd.V d e w base ok v xs) (h1:Below w.heap.size w W:=by repeat(first|with_reducible exact Below.refl _ _|with_reducible apply below_alloc|with_reducible apply pw_below_drewN|with_reducible apply y2)):Kd.V d e W base ok v xs:=Kd.V_below h h1
theorem qz3 {w:World} {g t:Nat} {a0 a1 a2:Value} (h:w.heap[g]?=some (.cells #[a0,a1,a2] t (0,0))):w.cell? ⟨g,0,none⟩=some a0∧w.cell? ⟨g,1,none⟩=some a1∧w.cell? ⟨g,2,none⟩=some a2∧w.frozen? ⟨g,0,none⟩=false∧w.frozen? ⟨g,1,none⟩=false∧w.frozen? ⟨g,2,none⟩=false:=⟨(y7 h 0).trans rfl,(y7 h 1).trans rfl,(y7 h 2).trans rfl,blk_frozen h 0,blk_frozen h 1,blk_frozen h 2⟩
theorem qz5 {w:World} {g t:Nat} {a0 a1 a2 a3 a4:Value} (h:w.heap[g]?=some (.cells #[a0,a1,a2,a3,a4] t (0,0))):w.cell? ⟨g,0,none⟩=some a0∧w.cell? ⟨g,1,none⟩=some a1∧w.cell? ⟨g,2,none⟩=some a2∧w.cell? ⟨g,3,none⟩=some a3∧w.cell? ⟨g,4,none⟩=some a4∧w.frozen? ⟨g,0,none⟩=false∧w.frozen? ⟨g,1,none⟩=false∧w.frozen? ⟨g,2,none⟩=false∧w.frozen? ⟨g,3,none⟩=false∧w.frozen? ⟨g,4,none⟩=false:=⟨(y7 h 0).trans rfl,(y7 h 1).trans rfl,(y7 h 2).trans rfl,(y7 h 3).trans rfl,(y7 h 4).trans rfl,blk_frozen h 0,blk_frozen h 1,blk_frozen h 2,blk_frozen h 3,blk_frozen h 4⟩
section
variable {P : Program} {ops : Array Oper} {rest : List Oper} {o : Oper} {a : Act} {Q : Exit → Act → World → Prop}
theorem qe {W:World} (N:Tmp) (cs:Array Value) (t:TypeId) (h:∀ g,g=W.heap.size→∀ w1,w1.heap[g]?=some (.cells cs t (0,0))→Below W.heap.size W w1→wpList P ops Q rest (a.put o.dst (.pointer (some ⟨g,0,none⟩))) w1) (hg:o.guard=none:=by rfl) (hd:o.dst=some N:=by rfl)
  (hr:(execOp a.eval o).run P W=.ok (.value (.pointer (some ⟨W.heap.size,0,none⟩))) (W.alloc (.cells cs t (0,0))):=by first|(go_simp;done)|(go_simp;rfl)):wpList P ops Q (o :: rest) a W:=box_event hg hd hr h
theorem qL {α:Type} {W:World} (d:Kd α) (e:Nat) (N:Tmp) (xs:List α) {inner:List Value} (h:∀ v1 w1,d.R e w1 W.heap.size (fun _=>True) v1 xs→Below W.heap.size W w1→W.grownBy w1 none→(∃ b,v1.ownBlock=some b∧W.heap.size≤b)→wpList P ops Q rest (a.put o.dst v1) w1) (hg:o.guard=none:=by rfl) (hd:o.dst=some N:=by rfl) (hp:Reps (d.M W W.heap.size (fun _=>True)) d.sz xs inner:=by repeat(first|exact Reps.none _ _|(refine Reps.one (v:=?_) (cs:=?_) ?_ ?_;rotate_left;rotate_left;rfl)))
  (hr:(execOp a.eval o).run P W=.ok (.value (.slice (some ⟨W.heap.size,0,none⟩) xs.length xs.length)) (W.alloc (.cells inner.toArray e)):=by first|(go_simp;done)|(go_simp;rfl)) (hm:xs.length≤9223372036854775807:=by simp):wpList P ops Q (o :: rest) a W:=Kd.R_lit d (w0:=W) W.heap.size e hg hd hr hp (fun _ h=>h) trivial (Below.refl _ _) (Nat.le_refl _) hm h
theorem qLs {α:Type} {W:World} {Kc:Act→World→Prop} (d:Kd α) (e:Nat) (N:Tmp) (xs:List α) {inner:List Value} (h:∀ v1 w1,d.R e w1 W.heap.size (fun _=>True) v1 xs→Below W.heap.size W w1→W.grownBy w1 none→(∃ b,v1.ownBlock=some b∧W.heap.size≤b)→Kc (a.put o.dst v1) w1) (hg:Region.wanted o (yielded ops a.tmps)=true:=by rfl) (hd:o.dst=some N:=by rfl) (hp:Reps (d.M W W.heap.size (fun _=>True)) d.sz xs inner:=by repeat(first|exact Reps.none _ _|(refine Reps.one (v:=?_) (cs:=?_) ?_ ?_;rotate_left;rotate_left;rfl)))
  (hr:(execOp a.eval o).run P W=.ok (.value (.slice (some ⟨W.heap.size,0,none⟩) xs.length xs.length)) (W.alloc (.cells inner.toArray e)):=by first|(go_simp;done)|(go_simp;rfl)) (hm:xs.length≤9223372036854775807:=by simp):if Region.wanted o (yielded ops a.tmps)=true then Oper.wp P o a W Kc Q else Kc (a.put o.dst undef) W:=Kd.R_lit_step d (w0:=W) W.heap.size e hg hd hr hp (fun _ h=>h) trivial (Below.refl _ _) (Nat.le_refl _) hm h
end
theorem qf {P:Prop} (h:P:=by first|rfl|(simp [y12,y13] <;> rfl)|(simp [*,y12,y13] <;> rfl)):P:=h
theorem qf2 {P:Prop} {w w2:World} (h:P:=by first|rfl|(simp;done)|(simp [*];done)) (h2:Drawn0 w w2:=by repeat(first|exact Drawn0.refl _|apply Drawn0.step)):P∧Drawn0 w w2:=⟨h,h2⟩
section
variable {P : Program} {ops : Array Oper} {Q : Exit → Act → World → Prop} {md : Region.Mode} {S : World → Prop} {ds : List Nat}
theorem qp {oi:Oper} {v:Value} {fuel:Nat} {l:Array Bool} {a a':Act} {w:World} (i:Nat) (N:Tmp) (l':Array Bool) (h:y20 P md ops Q S ds fuel l' a' w) (hi:ops[i]?=some oi:=by exact rfl) (hN:oi.dst=some N:=by exact rfl) (hc:anyB md ops l l' i=true:=by first|exact any_of HT_.out (by kernel_rfl)|kernel_rfl)
  (hQ:∀ c a w,Q (.panic c) (a.put oi.dst v) w→Q (.panic c) a w:=by exact fun _ _ _ h=>h) (hy:Yields P ops oi v a:=by first|(refine Or.inl ⟨by rfl, ?_⟩;intro w';go_simp;with_reducible rfl)|exact Or.inr ⟨by rfl,rfl⟩) (ha:a.put (some N) v=a':=by simp only [Act.put,qS_,qZ_,qC_,i64_w,i32_w];rfl):y20 P md ops Q S ds (fuel + 1) l a w:=pure_ l' hi hN hc hQ hy ha h
theorem qt {oi:Oper} {v:Value} {fuel:Nat} {l:Array Bool} {a a':Act} {w:World} (i:Nat) (N:Tmp) (l':Array Bool) (hS:S w) (h:y20 P md ops Q S ds fuel l' a' w) (hi:ops[i]?=some oi:=by exact rfl) (hN:oi.dst=some N:=by exact rfl) (hc:takeB md ops ds l l' i=true:=by first|exact take_ofW HT_.out HW_.out (by kernel_rfl)|kernel_rfl)
  (hQ:∀ c a w,Q (.panic c) (a.put oi.dst v) w→Q (.panic c) a w:=by exact fun _ _ _ h=>h) (hy:YieldsIf P ops S oi v a:=by refine Or.inl ⟨by rfl, ?_⟩;intro w' hs_;(repeat(obtain⟨s_,hs_⟩:_∧_:=hs_));go_simp;with_reducible rfl) (ha:a.put (some N) v=a':=by simp only [Act.put,qS_,qZ_,qC_,i64_w,i32_w];rfl):y20 P md ops Q S ds (fuel + 1) l a w:=take_ l' hi hN hc hQ hy hS ha h
theorem qO {oi:Oper} {fuel:Nat} {l:Array Bool} {a:Act} {w:World} (i:Nat) (N:Tmp) (l':Array Bool) (h:∀ K:Act→World→Prop,Shut (∀ a' w',S w'→(S w'→y20 P md ops Q S ds fuel l' a' w')→K a' w')→if Region.wanted oi (yielded ops a.tmps)=true then Oper.wp P oi a w K Q else K (a.put (some N) undef) w) (hi:ops[i]?=some oi:=by exact rfl) (hN:oi.dst=some N:=by exact rfl) (hc:readyB md ops l l' i=true:=by first|exact one_of HT_.out (by kernel_rfl)|kernel_rfl) (hd:i∉ds:=by decide):y20 P md ops Q S ds (fuel + 1) l a w:=one_ l' hi hN hc hd h
theorem qx {fuel:Nat} {v:Value} {l:Array Bool} {a a':Act} {w:World} (N:Tmp) (h:y20 P md ops Q S ds fuel l a' w) (ha:a.put (some N) v=a':=by simp only [Act.put,qS_,qZ_,qC_,i64_w,i32_w];rfl):y20 P md ops Q S ds fuel l (a.put (some N) v) w:=norm_ ha h
def qY (P:Program) (ops:Array Oper) (Q:Exit→Act→World→Prop) (md:Region.Mode) (l l':Array Bool) (i N:Nat) (a a':Act):Prop:=∀(S:World→Prop) (ds:List Nat) (fuel:Nat) (w:World),y20 P md ops Q S ds fuel l' a' w→y20 P md ops Q S ds (fuel + 1) l a w
theorem qY_ {oi:Oper} {v:Value} {l l':Array Bool} {a a':Act} {i N j M:Nat} (ei:i=j:=by first|(simp only [Nat.reduceAdd];rfl)|rfl) (eN:N=M:=by first|(simp only [Nat.reduceAdd];rfl)|rfl) (hi:ops[j]?=some oi:=by exact rfl) (hN:oi.dst=some M:=by exact rfl) (hc:anyB md ops l l' j=true:=by first|exact any_of HT_.out (by kernel_rfl)|kernel_rfl)
  (hQ:∀ c a w,Q (.panic c) (a.put oi.dst v) w→Q (.panic c) a w:=by exact fun _ _ _ h=>h) (hy:Yields P ops oi v a:=by first|(refine Or.inl ⟨by rfl, ?_⟩;intro w';go_simp;with_reducible rfl)|exact Or.inr ⟨by rfl,rfl⟩) (ha:a.put (some M) v=a':=by simp only [Act.put,qS_,qZ_,qC_,i64_w,i32_w];rfl):qY P ops Q md l l' i N a a':=by
 subst ei
 subst eN
 exact fun _ _ _ _ h=>pure_ l' hi hN hc hQ hy ha h
theorem qp2 {fuel:Nat} {l:Array Bool} {a0 a1 a2:Act} {w:World} (i N n:Nat) (h:y20 P md ops Q S ds fuel (fl_ n (2 ^ (i + 2) - 1)) a2 w) (h0:qY P ops Q md l (fl_ n (2 ^ (i + 1) - 1)) i N a0 a1:=by exact qY_) (h1:qY P ops Q md (fl_ n (2 ^ (i + 1) - 1)) (fl_ n (2 ^ (i + 2) - 1)) (i + 1) (N + 1) a1 a2:=by exact qY_):y20 P md ops Q S ds (fuel + 2) l a0 w:=h0 _ _ _ _ (h1 _ _ _ _ h)
theorem qp3 {fuel:Nat} {l:Array Bool} {a0 a1 a2 a3:Act} {w:World} (i N n:Nat) (h:y20 P md ops Q S ds fuel (fl_ n (2 ^ (i + 3) - 1)) a3 w) (h0:qY P ops Q md l (fl_ n (2 ^ (i + 1) - 1)) i N a0 a1:=by exact qY_) (h1:qY P ops Q md (fl_ n (2 ^ (i + 1) - 1)) (fl_ n (2 ^ (i + 2) - 1)) (i + 1) (N + 1) a1 a2:=by exact qY_) (h2:qY P ops Q md (fl_ n (2 ^ (i + 2) - 1)) (fl_ n (2 ^ (i + 3) - 1)) (i + 2) (N + 2) a2 a3:=by exact qY_):y20 P md ops Q S ds (fuel + 3) l a0 w:=h0 _ _ _ _ (h1 _ _ _ _ (h2 _ _ _ _ h))
theorem qp4 {fuel:Nat} {l:Array Bool} {a0 a1 a2 a3 a4:Act} {w:World} (i N n:Nat) (h:y20 P md ops Q S ds fuel (fl_ n (2 ^ (i + 4) - 1)) a4 w) (h0:qY P ops Q md l (fl_ n (2 ^ (i + 1) - 1)) i N a0 a1:=by exact qY_) (h1:qY P ops Q md (fl_ n (2 ^ (i + 1) - 1)) (fl_ n (2 ^ (i + 2) - 1)) (i + 1) (N + 1) a1 a2:=by exact qY_) (h2:qY P ops Q md (fl_ n (2 ^ (i + 2) - 1)) (fl_ n (2 ^ (i + 3) - 1)) (i + 2) (N + 2) a2 a3:=by exact qY_) (h3:qY P ops Q md (fl_ n (2 ^ (i + 3) - 1)) (fl_ n (2 ^ (i + 4) - 1)) (i + 3) (N + 3) a3 a4:=by exact qY_):y20 P md ops Q S ds (fuel + 4) l a0 w:=h0 _ _ _ _ (h1 _ _ _ _ (h2 _ _ _ _ (h3 _ _ _ _ h)))
theorem qp6 {fuel:Nat} {l:Array Bool} {a0 a1 a2 a3 a4 a5 a6:Act} {w:World} (i N n:Nat) (h:y20 P md ops Q S ds fuel (fl_ n (2 ^ (i + 6) - 1)) a6 w) (h0:qY P ops Q md l (fl_ n (2 ^ (i + 1) - 1)) i N a0 a1:=by exact qY_) (h1:qY P ops Q md (fl_ n (2 ^ (i + 1) - 1)) (fl_ n (2 ^ (i + 2) - 1)) (i + 1) (N + 1) a1 a2:=by exact qY_) (h2:qY P ops Q md (fl_ n (2 ^ (i + 2) - 1)) (fl_ n (2 ^ (i + 3) - 1)) (i + 2) (N + 2) a2 a3:=by exact qY_) (h3:qY P ops Q md (fl_ n (2 ^ (i + 3) - 1)) (fl_ n (2 ^ (i + 4) - 1)) (i + 3) (N + 3) a3 a4:=by exact qY_) (h4:qY P ops Q md (fl_ n (2 ^ (i + 4) - 1)) (fl_ n (2 ^ (i + 5) - 1)) (i + 4) (N + 4) a4 a5:=by exact qY_) (h5:qY P ops Q md (fl_ n (2 ^ (i + 5) - 1)) (fl_ n (2 ^ (i + 6) - 1)) (i + 5) (N + 5) a5 a6:=by exact qY_):y20 P md ops Q S ds (fuel + 6) l a0 w:=h0 _ _ _ _ (h1 _ _ _ _ (h2 _ _ _ _ (h3 _ _ _ _ (h4 _ _ _ _ (h5 _ _ _ _ h)))))
theorem qp10 {fuel:Nat} {l:Array Bool} {a0 a1 a2 a3 a4 a5 a6 a7 a8 a9 a10:Act} {w:World} (i N n:Nat) (h:y20 P md ops Q S ds fuel (fl_ n (2 ^ (i + 10) - 1)) a10 w) (h0:qY P ops Q md l (fl_ n (2 ^ (i + 1) - 1)) i N a0 a1:=by exact qY_) (h1:qY P ops Q md (fl_ n (2 ^ (i + 1) - 1)) (fl_ n (2 ^ (i + 2) - 1)) (i + 1) (N + 1) a1 a2:=by exact qY_) (h2:qY P ops Q md (fl_ n (2 ^ (i + 2) - 1)) (fl_ n (2 ^ (i + 3) - 1)) (i + 2) (N + 2) a2 a3:=by exact qY_) (h3:qY P ops Q md (fl_ n (2 ^ (i + 3) - 1)) (fl_ n (2 ^ (i + 4) - 1)) (i + 3) (N + 3) a3 a4:=by exact qY_) (h4:qY P ops Q md (fl_ n (2 ^ (i + 4) - 1)) (fl_ n (2 ^ (i + 5) - 1)) (i + 4) (N + 4) a4 a5:=by exact qY_) (h5:qY P ops Q md (fl_ n (2 ^ (i + 5) - 1)) (fl_ n (2 ^ (i + 6) - 1)) (i + 5) (N + 5) a5 a6:=by exact qY_) (h6:qY P ops Q md (fl_ n (2 ^ (i + 6) - 1)) (fl_ n (2 ^ (i + 7) - 1)) (i + 6) (N + 6) a6 a7:=by exact qY_) (h7:qY P ops Q md (fl_ n (2 ^ (i + 7) - 1)) (fl_ n (2 ^ (i + 8) - 1)) (i + 7) (N + 7) a7 a8:=by exact qY_) (h8:qY P ops Q md (fl_ n (2 ^ (i + 8) - 1)) (fl_ n (2 ^ (i + 9) - 1)) (i + 8) (N + 8) a8 a9:=by exact qY_) (h9:qY P ops Q md (fl_ n (2 ^ (i + 9) - 1)) (fl_ n (2 ^ (i + 10) - 1)) (i + 9) (N + 9) a9 a10:=by exact qY_):y20 P md ops Q S ds (fuel + 10) l a0 w:=h0 _ _ _ _ (h1 _ _ _ _ (h2 _ _ _ _ (h3 _ _ _ _ (h4 _ _ _ _ (h5 _ _ _ _ (h6 _ _ _ _ (h7 _ _ _ _ (h8 _ _ _ _ (h9 _ _ _ _ h)))))))))
end
def errW:Option Int→Value
 | none=>.nilIface
 | some c=>.iface 0 (.int .i64 c)
theorem y12:errW none=.nilIface:=rfl
theorem y13 (c:Int):errW (some c)=.iface 0 (.int .i64 c):=rfl
theorem info3:(Try.prog.info? 3).map (fun i=>(i.zero,i.size,i.bytes))=some (some (.int .i64 0),1,8):=by kernel_rfl
theorem info4:(Try.prog.info? 4).map (fun i=>(i.zero,i.size,i.bytes))=some (some (.bool false),1,1):=by kernel_rfl
theorem info9:(Try.prog.info? 9).map (fun i=>(i.zero,i.size,i.bytes))=some (some (.string ⟨#[]⟩),1,16):=by kernel_rfl
theorem info33:(Try.prog.info? 33).map (fun i=>(i.zero,i.size,i.bytes))=some (some (.agg #[(.int .i64 0),(.string ⟨#[]⟩),(.slice none 0 0)]),3,48):=by kernel_rfl
theorem info63:(Try.prog.info? 63).map (fun i=>(i.zero,i.size,i.bytes))=some (some (.agg #[(.int .i64 0),(.string ⟨#[]⟩),(.slice none 0 0)]),3,48):=by kernel_rfl
structure S69 where
 f0:Int
 f1:ByteArray
 f2:(List Int)
def z69:S69:=⟨(0:Int),(⟨#[]⟩:ByteArray),([]:List Int)⟩
def k69:Kd S69:=Kd.iso (Kd.pair (Kd.int .i64) (Kd.pair Kd.string (Kd.slice 3 (Kd.int .i64)))) (fun x:S69=>(x.f0,x.f1,x.f2))
theorem k69_open {w:World} {x:S69} {cs:List Value} (h:k69.K w x cs):∃ A2 c2,cs=[.int .i64 x.f0,.string x.f1,.slice A2 x.f2.length c2]∧x.f2.length≤c2∧(Kd.int .i64).C w A2 x.f2.length x.f2:=by
 obtain⟨_,_,rfl,rfl,⟨_,_,rfl,rfl,⟨A2,c2,rfl,l2,g2⟩⟩⟩:=h
 exact⟨A2,c2,rfl,l2,g2⟩
def rd_T69 (xs:List S69) (i:Int):S69:=xs.getD i.toNat z69
theorem at_T69 {w:World} {A:Option Addr} {n:Nat} {xs:List S69} (h:Kd.C k69 w A n xs) (i:Int) (h0:0≤i) (h1:i < n):∃ ad A2 c2,A=some ad∧w.cell? (ad.add (i.toNat * 3))=some (.int .i64 (rd_T69 xs i).f0)∧w.cell? ⟨(ad.add (i.toNat * 3)).block,(ad.add (i.toNat * 3)).off + 1,none⟩=some (.string (rd_T69 xs i).f1)∧w.cell? ⟨(ad.add (i.toNat * 3)).block,(ad.add (i.toNat * 3)).off + 2,none⟩=some (.slice A2 (rd_T69 xs i).f2.length c2)∧(rd_T69 xs i).f2.length≤c2∧(Kd.int .i64).C w A2 (rd_T69 xs i).f2.length (rd_T69 xs i).f2:=by
 obtain⟨ad,c,e,_,hK,hc0⟩:=Kd.C_get h z69 i h0 h1
 have hc:∀ j u,c[j]?=some u→w.cell? (ad.add (i.toNat * 3 + j))=some u:=hc0
 obtain⟨A2,c2,rfl,l2,g2⟩:=k69_open hK
 exact⟨ad,A2,c2,e,hc 0 _ rfl,by rw [← add_field _ _ 1 (by omega)];exact hc 1 _ rfl,by rw [← add_field _ _ 2 (by omega)];exact hc 2 _ rfl,l2,g2⟩
structure S25 where
 f0:Int
 f1:ByteArray
 f2:(List Int)
def z25:S25:=⟨(0:Int),(⟨#[]⟩:ByteArray),([]:List Int)⟩
def k25:Kd S25:=Kd.iso (Kd.pair (Kd.int .i64) (Kd.pair Kd.string (Kd.slice 3 (Kd.int .i64)))) (fun x:S25=>(x.f0,x.f1,x.f2))
theorem k25_open {w:World} {x:S25} {cs:List Value} (h:k25.K w x cs):∃ A2 c2,cs=[.int .i64 x.f0,.string x.f1,.slice A2 x.f2.length c2]∧x.f2.length≤c2∧(Kd.int .i64).C w A2 x.f2.length x.f2:=by
 obtain⟨_,_,rfl,rfl,⟨_,_,rfl,rfl,⟨A2,c2,rfl,l2,g2⟩⟩⟩:=h
 exact⟨A2,c2,rfl,l2,g2⟩
def rd_T25 (xs:List S25) (i:Int):S25:=xs.getD i.toNat z25
theorem at_T25 {w:World} {A:Option Addr} {n:Nat} {xs:List S25} (h:Kd.C k25 w A n xs) (i:Int) (h0:0≤i) (h1:i < n):∃ ad A2 c2,A=some ad∧w.cell? (ad.add (i.toNat * 3))=some (.int .i64 (rd_T25 xs i).f0)∧w.cell? ⟨(ad.add (i.toNat * 3)).block,(ad.add (i.toNat * 3)).off + 1,none⟩=some (.string (rd_T25 xs i).f1)∧w.cell? ⟨(ad.add (i.toNat * 3)).block,(ad.add (i.toNat * 3)).off + 2,none⟩=some (.slice A2 (rd_T25 xs i).f2.length c2)∧(rd_T25 xs i).f2.length≤c2∧(Kd.int .i64).C w A2 (rd_T25 xs i).f2.length (rd_T25 xs i).f2:=by
 obtain⟨ad,c,e,_,hK,hc0⟩:=Kd.C_get h z25 i h0 h1
 have hc:∀ j u,c[j]?=some u→w.cell? (ad.add (i.toNat * 3 + j))=some u:=hc0
 obtain⟨A2,c2,rfl,l2,g2⟩:=k25_open hK
 exact⟨ad,A2,c2,e,hc 0 _ rfl,by rw [← add_field _ _ 1 (by omega)];exact hc 1 _ rfl,by rw [← add_field _ _ 2 (by omega)];exact hc 2 _ rfl,l2,g2⟩
structure S63 where
 f0:Int
 f1:ByteArray
 f2:(List Int)
def z63:S63:=⟨(0:Int),(⟨#[]⟩:ByteArray),([]:List Int)⟩
def k63:Kd S63:=Kd.iso (Kd.pair (Kd.int .i64) (Kd.pair Kd.string (Kd.slice 3 (Kd.int .i64)))) (fun x:S63=>(x.f0,x.f1,x.f2))
theorem k63_open {w:World} {x:S63} {cs:List Value} (h:k63.K w x cs):∃ A2 c2,cs=[.int .i64 x.f0,.string x.f1,.slice A2 x.f2.length c2]∧x.f2.length≤c2∧(Kd.int .i64).C w A2 x.f2.length x.f2:=by
 obtain⟨_,_,rfl,rfl,⟨_,_,rfl,rfl,⟨A2,c2,rfl,l2,g2⟩⟩⟩:=h
 exact⟨A2,c2,rfl,l2,g2⟩
theorem k63_openM {w:World} {base:Nat} {ok:Nat→Prop} {x:S63} {cs:List Value} (h:k63.M w base ok x cs):∃ v2,cs=[.int .i64 x.f0,.string x.f1,v2]∧(Kd.int .i64).R 3 w base ok v2 x.f2:=by
 obtain⟨_,_,rfl,rfl,⟨_,_,rfl,rfl,⟨v2,rfl,g2⟩⟩⟩:=h
 exact⟨v2,rfl,g2⟩
theorem k63_mkM (w:World) (base:Nat) (ok:Nat→Prop) (x:S63) {v2:Value} (g2:(Kd.int .i64).R 3 w base ok v2 x.f2):k63.M w base ok x [.int .i64 x.f0,.string x.f1,v2]:=⟨[.int .i64 x.f0],[.string x.f1,v2],rfl,rfl,⟨[.string x.f1],[v2],rfl,rfl,⟨v2,rfl,g2⟩⟩⟩
def y19 (xs:List S63) (i:Int):S63:=xs.getD i.toNat z63
theorem at_T63 {w:World} {A:Option Addr} {n:Nat} {xs:List S63} (h:Kd.C k63 w A n xs) (i:Int) (h0:0≤i) (h1:i < n):∃ ad A2 c2,A=some ad∧w.cell? (ad.add (i.toNat * 3))=some (.int .i64 (y19 xs i).f0)∧w.cell? ⟨(ad.add (i.toNat * 3)).block,(ad.add (i.toNat * 3)).off + 1,none⟩=some (.string (y19 xs i).f1)∧w.cell? ⟨(ad.add (i.toNat * 3)).block,(ad.add (i.toNat * 3)).off + 2,none⟩=some (.slice A2 (y19 xs i).f2.length c2)∧(y19 xs i).f2.length≤c2∧(Kd.int .i64).C w A2 (y19 xs i).f2.length (y19 xs i).f2:=by
 obtain⟨ad,c,e,_,hK,hc0⟩:=Kd.C_get h z63 i h0 h1
 have hc:∀ j u,c[j]?=some u→w.cell? (ad.add (i.toNat * 3 + j))=some u:=hc0
 obtain⟨A2,c2,rfl,l2,g2⟩:=k63_open hK
 exact⟨ad,A2,c2,e,hc 0 _ rfl,by rw [← add_field _ _ 1 (by omega)];exact hc 1 _ rfl,by rw [← add_field _ _ 2 (by omega)];exact hc 2 _ rfl,l2,g2⟩
structure S33 where
 f0:Int
 f1:ByteArray
 f2:(List Int)
def z33:S33:=⟨(0:Int),(⟨#[]⟩:ByteArray),([]:List Int)⟩
def k33:Kd S33:=Kd.iso (Kd.pair (Kd.int .i64) (Kd.pair Kd.string (Kd.slice 3 (Kd.int .i64)))) (fun x:S33=>(x.f0,x.f1,x.f2))
theorem k33_heap:Kd.Heap k33:=Kd.heap_iso _ (Kd.heap_pair (Kd.heap_int .i64) (Kd.heap_pair Kd.heap_string (Kd.heap_slice 3 (Kd.heap_int .i64))))
theorem k33_open {w:World} {x:S33} {cs:List Value} (h:k33.K w x cs):∃ A2 c2,cs=[.int .i64 x.f0,.string x.f1,.slice A2 x.f2.length c2]∧x.f2.length≤c2∧(Kd.int .i64).C w A2 x.f2.length x.f2:=by
 obtain⟨_,_,rfl,rfl,⟨_,_,rfl,rfl,⟨A2,c2,rfl,l2,g2⟩⟩⟩:=h
 exact⟨A2,c2,rfl,l2,g2⟩
theorem k33_openM {w:World} {base:Nat} {ok:Nat→Prop} {x:S33} {cs:List Value} (h:k33.M w base ok x cs):∃ v2,cs=[.int .i64 x.f0,.string x.f1,v2]∧(Kd.int .i64).R 3 w base ok v2 x.f2:=by
 obtain⟨_,_,rfl,rfl,⟨_,_,rfl,rfl,⟨v2,rfl,g2⟩⟩⟩:=h
 exact⟨v2,rfl,g2⟩
theorem k33_mk (w:World) (x:S33) {A2:Option Addr} {c2:Nat} (l2:x.f2.length≤c2) (g2:(Kd.int .i64).C w A2 x.f2.length x.f2):k33.K w x [.int .i64 x.f0,.string x.f1,.slice A2 x.f2.length c2]:=⟨[.int .i64 x.f0],[.string x.f1,.slice A2 x.f2.length c2],rfl,rfl,⟨[.string x.f1],[.slice A2 x.f2.length c2],rfl,rfl,⟨A2,c2,rfl,l2,g2⟩⟩⟩
theorem k33_mkM (w:World) (base:Nat) (ok:Nat→Prop) (x:S33) {v2:Value} (g2:(Kd.int .i64).R 3 w base ok v2 x.f2):k33.M w base ok x [.int .i64 x.f0,.string x.f1,v2]:=⟨[.int .i64 x.f0],[.string x.f1,v2],rfl,rfl,⟨[.string x.f1],[v2],rfl,rfl,⟨v2,rfl,g2⟩⟩⟩
theorem k33_openF {W:World} {ok:Nat→Prop} {x:S33} {cs:List Value} (h:Kd.FK k33 W ok x cs):∃ A2 c2,cs=[.int .i64 x.f0,.string x.f1,.slice A2 x.f2.length c2]∧x.f2.length≤c2∧Kd.F (Kd.int .i64) W ok A2 x.f2.length x.f2:=by
 obtain⟨A2,c2,rfl,l2,_⟩:=k33_open (Kd.FK_now h)
 exact⟨A2,c2,rfl,l2,(fun W' hW=>by obtain⟨A2_,c2_,he,l2_,g2_⟩:=k33_open (h W' hW);injection (Option.some.inj (show some (Value.slice A2 x.f2.length c2)=some (Value.slice A2_ x.f2.length c2_)from congrArg (fun l=>l[2]?) he))with ha_ _ _;rw [ha_];exact g2_)⟩
theorem k33_mkF (W:World) (ok:Nat→Prop) (x:S33) {A2:Option Addr} {c2:Nat} (l2:x.f2.length≤c2) (g2:Kd.F (Kd.int .i64) W ok A2 x.f2.length x.f2):Kd.FK k33 W ok x [.int .i64 x.f0,.string x.f1,.slice A2 x.f2.length c2]:=fun W2 hW=>k33_mk W2 x l2 (g2 W2 hW)
def y18 (xs:List S33) (i:Int):S33:=xs.getD i.toNat z33
theorem at_T33 {w:World} {A:Option Addr} {n:Nat} {xs:List S33} (h:Kd.C k33 w A n xs) (i:Int) (h0:0≤i) (h1:i < n):∃ ad A2 c2,A=some ad∧w.cell? (ad.add (i.toNat * 3))=some (.int .i64 (y18 xs i).f0)∧w.cell? ⟨(ad.add (i.toNat * 3)).block,(ad.add (i.toNat * 3)).off + 1,none⟩=some (.string (y18 xs i).f1)∧w.cell? ⟨(ad.add (i.toNat * 3)).block,(ad.add (i.toNat * 3)).off + 2,none⟩=some (.slice A2 (y18 xs i).f2.length c2)∧(y18 xs i).f2.length≤c2∧(Kd.int .i64).C w A2 (y18 xs i).f2.length (y18 xs i).f2:=by
 obtain⟨ad,c,e,_,hK,hc0⟩:=Kd.C_get h z33 i h0 h1
 have hc:∀ j u,c[j]?=some u→w.cell? (ad.add (i.toNat * 3 + j))=some u:=hc0
 obtain⟨A2,c2,rfl,l2,g2⟩:=k33_open hK
 exact⟨ad,A2,c2,e,hc 0 _ rfl,by rw [← add_field _ _ 1 (by omega)];exact hc 1 _ rfl,by rw [← add_field _ _ 2 (by omega)];exact hc 2 _ rfl,l2,g2⟩
structure S36 where
 f0:(List S63)
 f1:S33
 f2:(List S33)
structure S28 where
 f0:(List S69)
 f1:S25
 f2:(List S25)
def z28:S28:=⟨([]:List S69),z25,([]:List S25)⟩
def k28:Kd S28:=Kd.iso (Kd.pair (Kd.slice 69 k69) (Kd.pair k25 (Kd.slice 25 k25))) (fun x:S28=>(x.f0,x.f1,x.f2))
theorem k28_open {w:World} {x:S28} {cs:List Value} (h:k28.K w x cs):∃ A0 c0 A3 c3 A4 c4,cs=[.slice A0 x.f0.length c0,.int .i64 x.f1.f0,.string x.f1.f1,.slice A3 x.f1.f2.length c3,.slice A4 x.f2.length c4]∧x.f0.length≤c0∧k69.C w A0 x.f0.length x.f0∧x.f1.f2.length≤c3∧(Kd.int .i64).C w A3 x.f1.f2.length x.f1.f2∧x.f2.length≤c4∧k25.C w A4 x.f2.length x.f2:=by
 obtain⟨_,_,rfl,⟨A0,c0,rfl,l0,g0⟩,⟨_,_,rfl,s1,⟨A4,c4,rfl,l4,g4⟩⟩⟩:=h
 obtain⟨A3,c3,rfl,l3,g3⟩:=k25_open s1
 exact⟨A0,c0,A3,c3,A4,c4,rfl,l0,g0,l3,g3,l4,g4⟩
theorem goesC_ {P : Program} {ops : Array Oper} {Q : Exit → Act → World → Prop} {oi : Oper} {N : Option Tmp} {a : Act} {w : World} {K : Act → World → Prop} {f : FuncId} {fn : Func} {c : Operand} {xs : Array Operand} {ts : Array TypeId} (hf : P.funcs[f]? = some fn) (hname : (fn.name == "runtime.NumGoroutine") = false) (hb : fn.body.isSome = true) (args cs : Array Value)
  (hw:Region.wanted oi (yielded ops a.tmps)=true) (hN:oi.dst=N) (hop:oi.op=.call { callee:=.value c,args:=xs,argTypes:=ts }) (hargs:(a.eval c,xs.map a.eval ++ cs)=(Value.func (.func f) #[] cs,args))
  (h:Calls P f args w fun e w'=>∃ v,e=.returned v∧K (a.put N v) w'):if Region.wanted oi (yielded ops a.tmps)=true then Oper.wp P oi a w K Q else K (a.put N undef) w:=by
 have h1:a.eval c=Value.func (.func f) #[] cs:=(Prod.mk.inj hargs).1
 have h2:xs.map a.eval ++ cs=args:=(Prod.mk.inj hargs).2
 refine call_ f args hw hN ?_ h
 have he:=enters_ hf hname hb args w
 unfold execOp
 simp [hop,resolve,Deferred.ofValue,invoke,h1,h2,he]
structure Tb (w:World):Prop where
 ml:∃ m,w.cell? ⟨0,0,none⟩=some (.int .i64 m)
theorem Tb.below {w w':World} (h:Tb w) (hb:Below w.heap.size w w'):Tb w':=by
 constructor
 ·obtain⟨m,h1⟩:=h.ml;exact⟨m,pw_cell_below hb h1⟩
theorem Tb.drawn {w w':World} (h:Tb w) (hd:Drawn0 w w'):Tb w':=h.below hd.below
def okT69 (b:S69):Prop:=(fun a=>(Lit.int .i64 a).wf=true) b.f0∧(fun a=>a.size≤140737488351232) b.f1∧(fun l=>l.length≤maxLen∧l.length * 8≤140737488351232∧∀ x∈l,(fun a=>(Lit.int .i64 a).wf=true) x) b.f2
def okT25 (b:S25):Prop:=(fun a=>(Lit.int .i64 a).wf=true) b.f0∧(fun a=>a.size≤140737488351232) b.f1∧(fun l=>l.length≤maxLen∧l.length * 8≤140737488351232∧∀ x∈l,(fun a=>(Lit.int .i64 a).wf=true) x) b.f2
def okT28 (b:S28):Prop:=(fun l=>l.length≤maxLen∧l.length * 48≤140737488351232∧∀ x∈l,okT69 x) b.f0∧okT25 b.f1∧(fun l=>l.length≤maxLen∧l.length * 48≤140737488351232∧∀ x∈l,okT25 x) b.f2
def laws_szIntS.f (l0:List Int) (a1:Int):Option (Int):=if(wrap64 (a1 - (l0.length:Int))) < 0 then(some (-1))else(some (wrap64 (a1 - (l0.length:Int))))
theorem laws_szIntS.calls (A0:Option Addr) (c0:Nat) (l0:List Int) (a1:Int) (r:Int) (w:World) (hr0:Kd.C (Kd.int .i64) w A0 l0.length l0) (hc0:l0.length≤c0) (h:laws_szIntS.f l0 a1=some r) :
  Calls Try.prog 46 #[.slice A0 l0.length c0,.int .i64 a1] w fun e w'=>e=.returned (.int .i64 r)∧Drawn0 w w':=by
 have HR0:=y0.mk hr0
 have HC0:=y0.mk hc0
 clear hr0 hc0
 have H:(if(wrap64 (a1 - (l0.length:Int))) < 0 then(some (-1))else(some (wrap64 (a1 - (l0.length:Int)))))=some r:=h
 clear h
 by_cases c3:(wrap64 (a1 - (l0.length:Int))) < 0
 ·rw [if_pos c3]at H
  have c3b0:=decide_eq_true c3
  clear c3
  obtain rfl:=Option.some.inj H
  go_enter Try.func46,Try.ntmps46
  go_wp2
  go_ret
  exact qf2
 ·rw [if_neg c3]at H
  have c3b0:=decide_eq_false c3
  clear c3
  obtain rfl:=Option.some.inj H
  go_enter Try.func46,Try.ntmps46
  go_wp2
  go_ret
  exact qf2
def laws_szExp.f (a0_0:Int) (Ae:ByteArray) (An:List Int) (a1:Int):Option (Int):=if(wrap64 (a1 - (Ae.size:Int))) < 0 then(some (-1))else((laws_szIntS.f An (wrap64 (a1 - (Ae.size:Int)))).bind fun Al=>(if Al < 0 then(some (-1))else(some Al)))
theorem laws_szExp.calls (Ah:Int) (Ab:ByteArray) (Ad:Option Addr) (Af:Nat) (Aa:List Int) (a1:Int) (r:Int) (w:World) (Ai:Kd.C (Kd.int .i64) w Ad Aa.length Aa) (Aj:Aa.length≤Af) (h:laws_szExp.f Ah Ab Aa a1=some r) :
  Calls Try.prog 45 #[.agg #[.int .i64 Ah,.string Ab,.slice Ad Aa.length Af],.int .i64 a1] w fun e w'=>e=.returned (.int .i64 r)∧Below w.heap.size w w':=by
 have Bn:=Try.underlying69
 have Ak:=y0.mk Ai
 have Am:=y0.mk Aj
 clear Ai Aj
 have HB:=y0.mk (Below.refl w.heap.size w)
 have H:(if(wrap64 (a1 - (Ab.size:Int))) < 0 then(some (-1))else((laws_szIntS.f Aa (wrap64 (a1 - (Ab.size:Int)))).bind fun Ag=>(if Ag < 0 then(some (-1))else(some Ag))))=some r:=h
 clear h
 by_cases c3:(wrap64 (a1 - (Ab.size:Int))) < 0
 ·rw [if_pos c3]at H
  have Az:=decide_eq_true c3
  clear c3
  obtain rfl:=Option.some.inj H
  go_enter Try.func45,Try.ntmps45
  go_wp2_with (first|((with_reducible refine y16 (N:=2) rfl ?_);refine qe 2 #[.int .i64 Ah,.string Ab,.slice Ad Aa.length Af] 69 ?_;intro Ap hg w4 hbox hb;have Ac:=y0.mk (hbox);have Ar:=y0.mk (qg (w:=w) hg);have As:=y0.mk (qg (w:=w) hg);replace HB:=y0.mk (y4 qb hb);clear hb hbox hg;obtain⟨Ba,Bb,Bc,Bd,Be,Bf⟩:=qz3 Ac.out))
  go_ret
  exact⟨qf,qb⟩
 ·rw [if_neg c3]at H
  have Az:=decide_eq_false c3
  clear c3
  obtain⟨Ag,A6,H⟩:=qB H
  by_cases c7:Ag < 0
  ·rw [if_pos c7]at H
   have Bg:=decide_eq_true c7
   clear c7
   obtain rfl:=Option.some.inj H
   go_enter Try.func45,Try.ntmps45
   go_wp2_with (first|((with_reducible refine y16 (N:=2) rfl ?_);refine qe 2 #[.int .i64 Ah,.string Ab,.slice Ad Aa.length Af] 69 ?_;intro Ap hg w8 hbox hb;have Ac:=y0.mk (hbox);have Ar:=y0.mk (qg (w:=w) hg);have As:=y0.mk (qg (w:=w) hg);replace HB:=y0.mk (y4 qb hb);clear hb hbox hg;obtain⟨Bh,Bi,Bj,Bk,Bl,Bm⟩:=qz3 Ac.out)|((with_reducible refine y15 (f:=46) rfl ?_);refine y17 (some 15) rfl rfl Try.func46 (by kernel_rfl) rfl #[.slice Ad Aa.length Af,.int .i64 (wrap64 (a1 - (Ab.size:Int)))] rfl qy1 ?_;(with_reducible refine(laws_szIntS.calls _ _ Aa (wrap64 (a1 - (Ab.size:Int))) Ag _ (qc (Kd.C_below Ak.out HB.out)) Am.out A6.out).mono ?_);rintro e w' ⟨rfl,⟨nd,rfl⟩⟩;refine⟨_,rfl, ?_⟩))
   go_ret
   exact⟨qf,qb⟩
  ·rw [if_neg c7]at H
   have Bg:=decide_eq_false c7
   clear c7
   obtain rfl:=Option.some.inj H
   go_enter Try.func45,Try.ntmps45
   go_wp2_with (first|((with_reducible refine y16 (N:=2) rfl ?_);refine qe 2 #[.int .i64 Ah,.string Ab,.slice Ad Aa.length Af] 69 ?_;intro Ap hg Bo hbox hb;have Ac:=y0.mk (hbox);have Ar:=y0.mk (qg (w:=w) hg);have As:=y0.mk (qg (w:=w) hg);replace HB:=y0.mk (y4 qb hb);clear hb hbox hg;obtain⟨At,Au,Av,Aw,Ax,Ay⟩:=qz3 Ac.out)|((with_reducible refine y15 (f:=46) rfl ?_);refine y17 (some 15) rfl rfl Try.func46 (by kernel_rfl) rfl #[.slice Ad Aa.length Af,.int .i64 (wrap64 (a1 - (Ab.size:Int)))] rfl qy1 ?_;(with_reducible refine(laws_szIntS.calls _ _ Aa (wrap64 (a1 - (Ab.size:Int))) Ag _ (qc (Kd.C_below Ak.out HB.out)) Am.out A6.out).mono ?_);rintro e w' ⟨rfl,⟨nd,rfl⟩⟩;refine⟨_,rfl, ?_⟩))
   go_ret
   exact⟨qf,qb⟩
def laws_szExpS.l0:Nat→List (S69)→Int→Int→Option (Int)
 | 0,_,_,_=>none
 | k + 1,x0,x1,x5=>if x5 < (x0.length:Int)then(if 0≤x5 then((laws_szExp.f ((rd_T69 x0 x5).f0) ((rd_T69 x0 x5).f1) ((rd_T69 x0 x5).f2) x1).bind fun Ae=>(if Ae < 0 then(some (-1))else(laws_szExpS.l0 k x0 Ae (wrap64 (x5 + 1)))))else(none))else(some x1)
def laws_szExpS.f (k:Nat) (l0:List (S69)) (a1:Int):Option (Int):=if(wrap64 (a1 - (l0.length:Int))) < 0 then(some (-1))else(laws_szExpS.l0 k l0 (wrap64 (a1 - (l0.length:Int))) 0)
theorem laws_szExpS.calls (k:Nat) (A0:Option Addr) (c0:Nat) (l0:List (S69)) (a1:Int) (r:Int) (w:World) (Ax:Kd.C k69 w A0 l0.length l0) (Ay:l0.length≤c0) (h:laws_szExpS.f k l0 a1=some r) :
  Calls Try.prog 19 #[.slice A0 l0.length c0,.int .i64 a1] w fun e w'=>e=.returned (.int .i64 r)∧Below w.heap.size w w':=by
 have Bb:=Try.underlying69
 have Bc:=y0.mk Ax
 have Be:=y0.mk Ay
 clear Ax Ay
 have HB:=y0.mk (Below.refl w.heap.size w)
 have H:(if(wrap64 (a1 - (l0.length:Int))) < 0 then(some (-1))else(laws_szExpS.l0 k l0 (wrap64 (a1 - (l0.length:Int))) 0))=some r:=h
 clear h
 by_cases c3:(wrap64 (a1 - (l0.length:Int))) < 0
 ·rw [if_pos c3]at H
  have At:=decide_eq_true c3
  clear c3
  obtain rfl:=Option.some.inj H
  go_enter Try.func19,Try.ntmps19
  go_wp2
  go_ret
  exact⟨qf,qb⟩
 ·rw [if_neg c3]at H
  have At:=decide_eq_false c3
  clear c3
  have H':=y0.mk H
  clear H
  go_enter Try.func19,Try.ntmps19
  go_wp2
  go_loopg [1,5] k (fun kq v1 v5 w'=>∃(Af:Int) (Aa:Int),v1=.int .i64 Af∧v5=.int .i64 Aa∧y0 (laws_szExpS.l0 kq l0 Af Aa=some r)∧y0 (kq≤k)∧y0 (Below w.heap.size w w'))
  case atStart=>exact⟨(wrap64 (a1 - (l0.length:Int))),(0),qy2,qy2,H',⟨Nat.le_refl _⟩,⟨qb⟩⟩
  case round =>
   clear H'
   (try clear At)
   obtain⟨Af,Aa,rfl,rfl,HA,Az,HB⟩:=hrel
   cases gk with
   | zero=>exact absurd HA.out (by simp [laws_szExpS.l0])
   | succ k1 =>
    have H:=HA.out
    clear HA
    simp only [laws_szExpS.l0]at H
    by_cases c4:Aa < (l0.length:Int)
    ·rw [if_pos c4]at H
     have Au:=decide_eq_true c4
     clear c4
     obtain⟨c5,H⟩:=qo H
     have Bd:decide (0≤Aa)=true:=decide_eq_true c5
     clear c5
     obtain⟨Ap,A6,H⟩:=qB H
     have Ar:0≤(Aa:Int):=qd
     have As:Aa < (l0.length:Int):=qd
     obtain⟨Ba,Ak,Am,Av,Ab,Ac,Ad,Ag,Ah⟩:=at_T69 Bc.out Aa Ar As
     cases Av
     replace Ab:=qC Ab HB
     replace Ac:=qC Ac HB
     replace Ad:=qC Ad HB
     have Ai:=y0.mk Ah
     have Aj:=y0.mk Ag
     clear Ah Ag
     replace Ar:=eq_true Ar
     replace As:=eq_true As
     by_cases c7:Ap < 0
     ·rw [if_pos c7]at H
      have Aw:=decide_eq_true c7
      clear c7
      obtain rfl:=Option.some.inj H
      go_wp2_with (first|((with_reducible refine y15 (f:=45) rfl ?_);refine y17 (some 23) rfl rfl Try.func45 (by kernel_rfl) rfl #[.agg #[.int .i64 ((rd_T69 l0 Aa).f0),.string ((rd_T69 l0 Aa).f1),.slice Ak ((rd_T69 l0 Aa).f2).length Am],.int .i64 Af] rfl qy1 ?_;(with_reducible refine(laws_szExp.calls ((rd_T69 l0 Aa).f0) ((rd_T69 l0 Aa).f1) _ _ ((rd_T69 l0 Aa).f2) Af Ap _ (qc (Kd.C_below Ai.out HB.out)) Aj.out A6.out).mono ?_);rintro e w8 ⟨rfl,hb⟩;refine⟨_,rfl, ?_⟩;replace HB:=y0.mk (y4 qb hb);(try clear hb)))
      go_ret
      exact⟨qf,qb⟩
     ·rw [if_neg c7]at H
      have Aw:=decide_eq_false c7
      clear c7
      have H':=y0.mk H
      clear H
      go_wp2_with (first|((with_reducible refine y15 (f:=45) rfl ?_);refine y17 (some 23) rfl rfl Try.func45 (by kernel_rfl) rfl #[.agg #[.int .i64 ((rd_T69 l0 Aa).f0),.string ((rd_T69 l0 Aa).f1),.slice Ak ((rd_T69 l0 Aa).f2).length Am],.int .i64 Af] rfl qy1 ?_;(with_reducible refine(laws_szExp.calls ((rd_T69 l0 Aa).f0) ((rd_T69 l0 Aa).f1) _ _ ((rd_T69 l0 Aa).f2) Af Ap _ (qc (Kd.C_below Ai.out HB.out)) Aj.out A6.out).mono ?_);rintro e w9 ⟨rfl,hb⟩;refine⟨_,rfl, ?_⟩;replace HB:=y0.mk (y4 qb hb);(try clear hb)))
      go_roundg k1
      case measure=>have:=Az.out;omega
      exact⟨(Ap),(wrap64 (Aa + 1)),qy2,qy2,H',⟨by have:=Az.out;omega⟩,⟨qb⟩⟩
    ·rw [if_neg c4]at H
     have Au:=decide_eq_false c4
     clear c4
     obtain rfl:=Option.some.inj H
     go_wp2
     go_ret
     exact⟨qf,qb⟩
def laws_szLit.f (a0_0:Int) (Ae:ByteArray) (An:List Int) (a1:Int):Option (Int):=if(wrap64 (a1 - (Ae.size:Int))) < 0 then(some (-1))else((laws_szIntS.f An (wrap64 (a1 - (Ae.size:Int)))).bind fun Al=>(if Al < 0 then(some (-1))else(some Al)))
theorem laws_szLit.calls (Ah:Int) (Ab:ByteArray) (Ad:Option Addr) (Af:Nat) (Aa:List Int) (a1:Int) (r:Int) (w:World) (Ai:Kd.C (Kd.int .i64) w Ad Aa.length Aa) (Aj:Aa.length≤Af) (h:laws_szLit.f Ah Ab Aa a1=some r) :
  Calls Try.prog 20 #[.agg #[.int .i64 Ah,.string Ab,.slice Ad Aa.length Af],.int .i64 a1] w fun e w'=>e=.returned (.int .i64 r)∧Below w.heap.size w w':=by
 have Bn:=Try.underlying25
 have Ak:=y0.mk Ai
 have Am:=y0.mk Aj
 clear Ai Aj
 have HB:=y0.mk (Below.refl w.heap.size w)
 have H:(if(wrap64 (a1 - (Ab.size:Int))) < 0 then(some (-1))else((laws_szIntS.f Aa (wrap64 (a1 - (Ab.size:Int)))).bind fun Ag=>(if Ag < 0 then(some (-1))else(some Ag))))=some r:=h
 clear h
 by_cases c3:(wrap64 (a1 - (Ab.size:Int))) < 0
 ·rw [if_pos c3]at H
  have Az:=decide_eq_true c3
  clear c3
  obtain rfl:=Option.some.inj H
  go_enter Try.func20,Try.ntmps20
  go_wp2_with (first|((with_reducible refine y16 (N:=2) rfl ?_);refine qe 2 #[.int .i64 Ah,.string Ab,.slice Ad Aa.length Af] 25 ?_;intro Ap hg w4 hbox hb;have Ac:=y0.mk (hbox);have Ar:=y0.mk (qg (w:=w) hg);have As:=y0.mk (qg (w:=w) hg);replace HB:=y0.mk (y4 qb hb);clear hb hbox hg;obtain⟨Ba,Bb,Bc,Bd,Be,Bf⟩:=qz3 Ac.out))
  go_ret
  exact⟨qf,qb⟩
 ·rw [if_neg c3]at H
  have Az:=decide_eq_false c3
  clear c3
  obtain⟨Ag,A6,H⟩:=qB H
  by_cases c7:Ag < 0
  ·rw [if_pos c7]at H
   have Bg:=decide_eq_true c7
   clear c7
   obtain rfl:=Option.some.inj H
   go_enter Try.func20,Try.ntmps20
   go_wp2_with (first|((with_reducible refine y16 (N:=2) rfl ?_);refine qe 2 #[.int .i64 Ah,.string Ab,.slice Ad Aa.length Af] 25 ?_;intro Ap hg w8 hbox hb;have Ac:=y0.mk (hbox);have Ar:=y0.mk (qg (w:=w) hg);have As:=y0.mk (qg (w:=w) hg);replace HB:=y0.mk (y4 qb hb);clear hb hbox hg;obtain⟨Bh,Bi,Bj,Bk,Bl,Bm⟩:=qz3 Ac.out)|((with_reducible refine y15 (f:=46) rfl ?_);refine y17 (some 15) rfl rfl Try.func46 (by kernel_rfl) rfl #[.slice Ad Aa.length Af,.int .i64 (wrap64 (a1 - (Ab.size:Int)))] rfl qy1 ?_;(with_reducible refine(laws_szIntS.calls _ _ Aa (wrap64 (a1 - (Ab.size:Int))) Ag _ (qc (Kd.C_below Ak.out HB.out)) Am.out A6.out).mono ?_);rintro e w' ⟨rfl,⟨nd,rfl⟩⟩;refine⟨_,rfl, ?_⟩))
   go_ret
   exact⟨qf,qb⟩
  ·rw [if_neg c7]at H
   have Bg:=decide_eq_false c7
   clear c7
   obtain rfl:=Option.some.inj H
   go_enter Try.func20,Try.ntmps20
   go_wp2_with (first|((with_reducible refine y16 (N:=2) rfl ?_);refine qe 2 #[.int .i64 Ah,.string Ab,.slice Ad Aa.length Af] 25 ?_;intro Ap hg Bo hbox hb;have Ac:=y0.mk (hbox);have Ar:=y0.mk (qg (w:=w) hg);have As:=y0.mk (qg (w:=w) hg);replace HB:=y0.mk (y4 qb hb);clear hb hbox hg;obtain⟨At,Au,Av,Aw,Ax,Ay⟩:=qz3 Ac.out)|((with_reducible refine y15 (f:=46) rfl ?_);refine y17 (some 15) rfl rfl Try.func46 (by kernel_rfl) rfl #[.slice Ad Aa.length Af,.int .i64 (wrap64 (a1 - (Ab.size:Int)))] rfl qy1 ?_;(with_reducible refine(laws_szIntS.calls _ _ Aa (wrap64 (a1 - (Ab.size:Int))) Ag _ (qc (Kd.C_below Ak.out HB.out)) Am.out A6.out).mono ?_);rintro e w' ⟨rfl,⟨nd,rfl⟩⟩;refine⟨_,rfl, ?_⟩))
   go_ret
   exact⟨qf,qb⟩
def laws_szLitS.l0:Nat→List (S25)→Int→Int→Option (Int)
 | 0,_,_,_=>none
 | k + 1,x0,x1,x5=>if x5 < (x0.length:Int)then(if 0≤x5 then((laws_szLit.f ((rd_T25 x0 x5).f0) ((rd_T25 x0 x5).f1) ((rd_T25 x0 x5).f2) x1).bind fun Ae=>(if Ae < 0 then(some (-1))else(laws_szLitS.l0 k x0 Ae (wrap64 (x5 + 1)))))else(none))else(some x1)
def laws_szLitS.f (k:Nat) (l0:List (S25)) (a1:Int):Option (Int):=if(wrap64 (a1 - (l0.length:Int))) < 0 then(some (-1))else(laws_szLitS.l0 k l0 (wrap64 (a1 - (l0.length:Int))) 0)
theorem laws_szLitS.calls (k:Nat) (A0:Option Addr) (c0:Nat) (l0:List (S25)) (a1:Int) (r:Int) (w:World) (Ax:Kd.C k25 w A0 l0.length l0) (Ay:l0.length≤c0) (h:laws_szLitS.f k l0 a1=some r) :
  Calls Try.prog 21 #[.slice A0 l0.length c0,.int .i64 a1] w fun e w'=>e=.returned (.int .i64 r)∧Below w.heap.size w w':=by
 have Bb:=Try.underlying25
 have Bc:=y0.mk Ax
 have Be:=y0.mk Ay
 clear Ax Ay
 have HB:=y0.mk (Below.refl w.heap.size w)
 have H:(if(wrap64 (a1 - (l0.length:Int))) < 0 then(some (-1))else(laws_szLitS.l0 k l0 (wrap64 (a1 - (l0.length:Int))) 0))=some r:=h
 clear h
 by_cases c3:(wrap64 (a1 - (l0.length:Int))) < 0
 ·rw [if_pos c3]at H
  have At:=decide_eq_true c3
  clear c3
  obtain rfl:=Option.some.inj H
  go_enter Try.func21,Try.ntmps21
  go_wp2
  go_ret
  exact⟨qf,qb⟩
 ·rw [if_neg c3]at H
  have At:=decide_eq_false c3
  clear c3
  have H':=y0.mk H
  clear H
  go_enter Try.func21,Try.ntmps21
  go_wp2
  go_loopg [1,5] k (fun kq v1 v5 w'=>∃(Af:Int) (Aa:Int),v1=.int .i64 Af∧v5=.int .i64 Aa∧y0 (laws_szLitS.l0 kq l0 Af Aa=some r)∧y0 (kq≤k)∧y0 (Below w.heap.size w w'))
  case atStart=>exact⟨(wrap64 (a1 - (l0.length:Int))),(0),qy2,qy2,H',⟨Nat.le_refl _⟩,⟨qb⟩⟩
  case round =>
   clear H'
   (try clear At)
   obtain⟨Af,Aa,rfl,rfl,HA,Az,HB⟩:=hrel
   cases gk with
   | zero=>exact absurd HA.out (by simp [laws_szLitS.l0])
   | succ k1 =>
    have H:=HA.out
    clear HA
    simp only [laws_szLitS.l0]at H
    by_cases c4:Aa < (l0.length:Int)
    ·rw [if_pos c4]at H
     have Au:=decide_eq_true c4
     clear c4
     obtain⟨c5,H⟩:=qo H
     have Bd:decide (0≤Aa)=true:=decide_eq_true c5
     clear c5
     obtain⟨Ap,A6,H⟩:=qB H
     have Ar:0≤(Aa:Int):=qd
     have As:Aa < (l0.length:Int):=qd
     obtain⟨Ba,Ak,Am,Av,Ab,Ac,Ad,Ag,Ah⟩:=at_T25 Bc.out Aa Ar As
     cases Av
     replace Ab:=qC Ab HB
     replace Ac:=qC Ac HB
     replace Ad:=qC Ad HB
     have Ai:=y0.mk Ah
     have Aj:=y0.mk Ag
     clear Ah Ag
     replace Ar:=eq_true Ar
     replace As:=eq_true As
     by_cases c7:Ap < 0
     ·rw [if_pos c7]at H
      have Aw:=decide_eq_true c7
      clear c7
      obtain rfl:=Option.some.inj H
      go_wp2_with (first|((with_reducible refine y15 (f:=20) rfl ?_);refine y17 (some 23) rfl rfl Try.func20 (by kernel_rfl) rfl #[.agg #[.int .i64 ((rd_T25 l0 Aa).f0),.string ((rd_T25 l0 Aa).f1),.slice Ak ((rd_T25 l0 Aa).f2).length Am],.int .i64 Af] rfl qy1 ?_;(with_reducible refine(laws_szLit.calls ((rd_T25 l0 Aa).f0) ((rd_T25 l0 Aa).f1) _ _ ((rd_T25 l0 Aa).f2) Af Ap _ (qc (Kd.C_below Ai.out HB.out)) Aj.out A6.out).mono ?_);rintro e w8 ⟨rfl,hb⟩;refine⟨_,rfl, ?_⟩;replace HB:=y0.mk (y4 qb hb);(try clear hb)))
      go_ret
      exact⟨qf,qb⟩
     ·rw [if_neg c7]at H
      have Aw:=decide_eq_false c7
      clear c7
      have H':=y0.mk H
      clear H
      go_wp2_with (first|((with_reducible refine y15 (f:=20) rfl ?_);refine y17 (some 23) rfl rfl Try.func20 (by kernel_rfl) rfl #[.agg #[.int .i64 ((rd_T25 l0 Aa).f0),.string ((rd_T25 l0 Aa).f1),.slice Ak ((rd_T25 l0 Aa).f2).length Am],.int .i64 Af] rfl qy1 ?_;(with_reducible refine(laws_szLit.calls ((rd_T25 l0 Aa).f0) ((rd_T25 l0 Aa).f1) _ _ ((rd_T25 l0 Aa).f2) Af Ap _ (qc (Kd.C_below Ai.out HB.out)) Aj.out A6.out).mono ?_);rintro e w9 ⟨rfl,hb⟩;refine⟨_,rfl, ?_⟩;replace HB:=y0.mk (y4 qb hb);(try clear hb)))
      go_roundg k1
      case measure=>have:=Az.out;omega
      exact⟨(Ap),(wrap64 (Aa + 1)),qy2,qy2,H',⟨by have:=Az.out;omega⟩,⟨qb⟩⟩
    ·rw [if_neg c4]at H
     have Au:=decide_eq_false c4
     clear c4
     obtain rfl:=Option.some.inj H
     go_wp2
     go_ret
     exact⟨qf,qb⟩
def laws_szRule.f (k:Nat) (Ao:List (S69)) (Aq:Int) (By:ByteArray) (Di:List Int) (Du:List (S25)) (a1:Int):Option (Int):=(laws_szExpS.f k Ao a1).bind fun Ae=>(if Ae < 0 then(some (-1))else((laws_szLit.f Aq By Di Ae).bind fun Al=>(if Al < 0 then(some (-1))else((laws_szLitS.f k Du Al).bind fun An=>(if An < 0 then(some (-1))else(some An))))))
theorem laws_szRule.calls (k:Nat) (Aj:Option Addr) (Ak:Nat) (Ab:List (S69)) (Ag:Int) (Ah:ByteArray) (Am:Option Addr) (Ap:Nat) (Ac:List Int) (Ar:Option Addr) (As:Nat) (Ad:List (S25)) (a1:Int) (r:Int) (w:World) (Bb:Kd.C k69 w Aj Ab.length Ab) (Bc:Ab.length≤Ak) (Bd:Kd.C (Kd.int .i64) w Am Ac.length Ac) (Be:Ac.length≤Ap) (Bf:Kd.C k25 w Ar Ad.length Ad) (Bg:Ad.length≤As) (h:laws_szRule.f k Ab Ag Ah Ac Ad a1=some r) :
  Calls Try.prog 6 #[.agg #[.slice Aj Ab.length Ak,.int .i64 Ag,.string Ah,.slice Am Ac.length Ap,.slice Ar Ad.length As],.int .i64 a1] w fun e w'=>e=.returned (.int .i64 r)∧Below w.heap.size w w':=by
 have Ff:=Try.underlying28
 have Fg:=Try.underlying25
 have At:=y0.mk Bb
 have Au:=y0.mk Bc
 clear Bb Bc
 have Aw:=y0.mk Bd
 have Ax:=y0.mk Be
 clear Bd Be
 have Bh:=y0.mk Bf
 have Bi:=y0.mk Bg
 clear Bf Bg
 have HB:=y0.mk (Below.refl w.heap.size w)
 have H:((laws_szExpS.f k Ab a1).bind fun Af=>(if Af < 0 then(some (-1))else((laws_szLit.f Ag Ah Ac Af).bind fun Ai=>(if Ai < 0 then(some (-1))else((laws_szLitS.f k Ad Ai).bind fun Av=>(if Av < 0 then(some (-1))else(some Av)))))))=some r:=h
 clear h
 obtain⟨Af,A3,H⟩:=qB H
 by_cases c4:Af < 0
 ·rw [if_pos c4]at H
  have Er:=decide_eq_true c4
  clear c4
  obtain rfl:=Option.some.inj H
  go_enter Try.func6,Try.ntmps6
  go_wp2_with (first|((with_reducible refine y16 (N:=2) rfl ?_);refine qe 2 #[.slice Aj Ab.length Ak,.int .i64 Ag,.string Ah,.slice Am Ac.length Ap,.slice Ar Ad.length As] 28 ?_;intro Ay hg w5 hbox hb;have Aa:=y0.mk (hbox);have Az:=y0.mk (qg (w:=w) hg);have Ba:=y0.mk (qg (w:=w) hg);replace HB:=y0.mk (y4 qb hb);clear hb hbox hg;obtain⟨Es,Et,Eu,Ew,Ex,Ey,Ez,Fa,Fb,Fc⟩:=qz5 Aa.out)|((with_reducible refine y15 (f:=19) rfl ?_);refine y17 (some 8) rfl rfl Try.func19 (by kernel_rfl) rfl #[.slice Aj Ab.length Ak,.int .i64 a1] rfl qy1 ?_;(with_reducible refine(laws_szExpS.calls k _ _ Ab a1 Af _ (qc (Kd.C_below At.out HB.out)) Au.out A3.out).mono ?_);rintro e w7 ⟨rfl,hb⟩;refine⟨_,rfl, ?_⟩;replace Aa:=y0.mk (qK Aa.out hb);replace HB:=y0.mk (y4 qb hb);(try clear hb)))
  go_ret
  exact⟨qf,qb⟩
 ·rw [if_neg c4]at H
  have Er:=decide_eq_false c4
  clear c4
  obtain⟨Ai,A8,H⟩:=qB H
  by_cases c9:Ai < 0
  ·rw [if_pos c9]at H
   have Fd:=decide_eq_true c9
   clear c9
   obtain rfl:=Option.some.inj H
   go_enter Try.func6,Try.ntmps6
   go_wp2_with (first|((with_reducible refine y16 (N:=2) rfl ?_);refine qe 2 #[.slice Aj Ab.length Ak,.int .i64 Ag,.string Ah,.slice Am Ac.length Ap,.slice Ar Ad.length As] 28 ?_;intro Ay hg Fh hbox hb;have Aa:=y0.mk (hbox);have Az:=y0.mk (qg (w:=w) hg);have Ba:=y0.mk (qg (w:=w) hg);replace HB:=y0.mk (y4 qb hb);clear hb hbox hg;obtain⟨Bl,Bm,Bn,Bo,Bp,Bq,Br,Bs,Bt,Bu⟩:=qz5 Aa.out)|((with_reducible refine y15 (f:=19) rfl ?_);refine y17 (some 8) rfl rfl Try.func19 (by kernel_rfl) rfl #[.slice Aj Ab.length Ak,.int .i64 a1] rfl qy1 ?_;(with_reducible refine(laws_szExpS.calls k _ _ Ab a1 Af _ (qc (Kd.C_below At.out HB.out)) Au.out A3.out).mono ?_);rintro e Fi ⟨rfl,hb⟩;refine⟨_,rfl, ?_⟩;replace Aa:=y0.mk (qK Aa.out hb);replace HB:=y0.mk (y4 qb hb);(try clear hb);obtain⟨Bv,Bw,Bx,Bz,Ca,Cb,Cc,Cd,Ce,Cf⟩:=qz5 Aa.out)|((with_reducible refine y15 (f:=20) rfl ?_);refine y17 (some 14) rfl rfl Try.func20 (by kernel_rfl) rfl #[.agg #[.int .i64 Ag,.string Ah,.slice Am Ac.length Ap],.int .i64 Af] rfl qy1 ?_;(with_reducible refine(laws_szLit.calls Ag Ah _ _ Ac Af Ai _ (qc (Kd.C_below Aw.out HB.out)) Ax.out A8.out).mono ?_);rintro e Fj ⟨rfl,hb⟩;refine⟨_,rfl, ?_⟩;replace Aa:=y0.mk (qK Aa.out hb);replace HB:=y0.mk (y4 qb hb);(try clear hb)))
   go_ret
   exact⟨qf,qb⟩
  ·rw [if_neg c9]at H
   have Fd:=decide_eq_false c9
   clear c9
   obtain⟨Av,Fe,H⟩:=qB H
   by_cases Bj:Av < 0
   ·rw [if_pos Bj]at H
    have Bk:=decide_eq_true Bj
    clear Bj
    obtain rfl:=Option.some.inj H
    go_enter Try.func6,Try.ntmps6
    go_wp2_with (first|((with_reducible refine y16 (N:=2) rfl ?_);refine qe 2 #[.slice Aj Ab.length Ak,.int .i64 Ag,.string Ah,.slice Am Ac.length Ap,.slice Ar Ad.length As] 28 ?_;intro Ay hg Fk hbox hb;have Aa:=y0.mk (hbox);have Az:=y0.mk (qg (w:=w) hg);have Ba:=y0.mk (qg (w:=w) hg);replace HB:=y0.mk (y4 qb hb);clear hb hbox hg;obtain⟨Cg,Ch,Ci,Cj,Ck,Cl,Cm,Cn,Cp,Cq⟩:=qz5 Aa.out)|((with_reducible refine y15 (f:=19) rfl ?_);refine y17 (some 8) rfl rfl Try.func19 (by kernel_rfl) rfl #[.slice Aj Ab.length Ak,.int .i64 a1] rfl qy1 ?_;(with_reducible refine(laws_szExpS.calls k _ _ Ab a1 Af _ (qc (Kd.C_below At.out HB.out)) Au.out A3.out).mono ?_);rintro e Fl ⟨rfl,hb⟩;refine⟨_,rfl, ?_⟩;replace Aa:=y0.mk (qK Aa.out hb);replace HB:=y0.mk (y4 qb hb);(try clear hb);obtain⟨Cr,Cs,Ct,Cu,Cv,Cw,Cx,Cy,Cz,Da⟩:=qz5 Aa.out)|((with_reducible refine y15 (f:=20) rfl ?_);refine y17 (some 14) rfl rfl Try.func20 (by kernel_rfl) rfl #[.agg #[.int .i64 Ag,.string Ah,.slice Am Ac.length Ap],.int .i64 Af] rfl qy1 ?_;(with_reducible refine(laws_szLit.calls Ag Ah _ _ Ac Af Ai _ (qc (Kd.C_below Aw.out HB.out)) Ax.out A8.out).mono ?_);rintro e Fm ⟨rfl,hb⟩;refine⟨_,rfl, ?_⟩;replace Aa:=y0.mk (qK Aa.out hb);replace HB:=y0.mk (y4 qb hb);(try clear hb);obtain⟨Db,Dc,Dd,De,Df,Dg,Dh,Di,Dj,Dk⟩:=qz5 Aa.out)|((with_reducible refine y15 (f:=21) rfl ?_);refine y17 (some 20) rfl rfl Try.func21 (by kernel_rfl) rfl #[.slice Ar Ad.length As,.int .i64 Ai] rfl qy1 ?_;(with_reducible refine(laws_szLitS.calls k _ _ Ad Ai Av _ (qc (Kd.C_below Bh.out HB.out)) Bi.out Fe.out).mono ?_);rintro e Fn ⟨rfl,hb⟩;refine⟨_,rfl, ?_⟩;replace Aa:=y0.mk (qK Aa.out hb);replace HB:=y0.mk (y4 qb hb);(try clear hb)))
    go_ret
    exact⟨qf,qb⟩
   ·rw [if_neg Bj]at H
    have Bk:=decide_eq_false Bj
    clear Bj
    obtain rfl:=Option.some.inj H
    go_enter Try.func6,Try.ntmps6
    go_wp2_with (first|((with_reducible refine y16 (N:=2) rfl ?_);refine qe 2 #[.slice Aj Ab.length Ak,.int .i64 Ag,.string Ah,.slice Am Ac.length Ap,.slice Ar Ad.length As] 28 ?_;intro Ay hg Fo hbox hb;have Aa:=y0.mk (hbox);have Az:=y0.mk (qg (w:=w) hg);have Ba:=y0.mk (qg (w:=w) hg);replace HB:=y0.mk (y4 qb hb);clear hb hbox hg;obtain⟨Dl,Dm,Do,Dp,Dq,Dr,Ds,Dt,Du,Dw⟩:=qz5 Aa.out)|((with_reducible refine y15 (f:=19) rfl ?_);refine y17 (some 8) rfl rfl Try.func19 (by kernel_rfl) rfl #[.slice Aj Ab.length Ak,.int .i64 a1] rfl qy1 ?_;(with_reducible refine(laws_szExpS.calls k _ _ Ab a1 Af _ (qc (Kd.C_below At.out HB.out)) Au.out A3.out).mono ?_);rintro e Fp ⟨rfl,hb⟩;refine⟨_,rfl, ?_⟩;replace Aa:=y0.mk (qK Aa.out hb);replace HB:=y0.mk (y4 qb hb);(try clear hb);obtain⟨Dx,Dy,Dz,Ea,Eb,Ec,Ed,Ee,Ef,Eg⟩:=qz5 Aa.out)|((with_reducible refine y15 (f:=20) rfl ?_);refine y17 (some 14) rfl rfl Try.func20 (by kernel_rfl) rfl #[.agg #[.int .i64 Ag,.string Ah,.slice Am Ac.length Ap],.int .i64 Af] rfl qy1 ?_;(with_reducible refine(laws_szLit.calls Ag Ah _ _ Ac Af Ai _ (qc (Kd.C_below Aw.out HB.out)) Ax.out A8.out).mono ?_);rintro e Fq ⟨rfl,hb⟩;refine⟨_,rfl, ?_⟩;replace Aa:=y0.mk (qK Aa.out hb);replace HB:=y0.mk (y4 qb hb);(try clear hb);obtain⟨Eh,Ei,Ej,Ek,El,Em,En,Eo,Ep,Eq⟩:=qz5 Aa.out)|((with_reducible refine y15 (f:=21) rfl ?_);refine y17 (some 20) rfl rfl Try.func21 (by kernel_rfl) rfl #[.slice Ar Ad.length As,.int .i64 Ai] rfl qy1 ?_;(with_reducible refine(laws_szLitS.calls k _ _ Ad Ai Av _ (qc (Kd.C_below Bh.out HB.out)) Bi.out Fe.out).mono ?_);rintro e Fr ⟨rfl,hb⟩;refine⟨_,rfl, ?_⟩;replace Aa:=y0.mk (qK Aa.out hb);replace HB:=y0.mk (y4 qb hb);(try clear hb)))
    go_ret
    exact⟨qf,qb⟩
def laws_toIntS.l0:Nat→List Int→List Int→Int→Option (List Int)
 | 0,_,_,_=>none
 | k + 1,x0,x3,x4=>if x4 < (x0.length:Int)then(if 0≤x4 then(if x4 < (x3.length:Int)then(laws_toIntS.l0 k x0 (x3.set (x4:Int).toNat (rd x0 x4)) (wrap64 (x4 + 1)))else(none))else(none))else(some x3)
def laws_toIntS.f (k:Nat) (l0:List Int):Option (List Int):=if 0≤(l0.length:Int)then(if((l0.length:Int):Int).toNat≤35184372088832 then(laws_toIntS.l0 k l0 (List.replicate ((l0.length:Int):Int).toNat 0) 0)else(none))else(none)
theorem laws_toIntS.calls (k:Nat) (A0:Option Addr) (c0:Nat) (l0:List Int) (r:List Int) (w:World) (Bd:Kd.C (Kd.int .i64) w A0 l0.length l0) (Be:l0.length≤c0) (h:laws_toIntS.f k l0=some r) :
  Calls Try.prog 51 #[.slice A0 l0.length c0] w fun e w'=>∃ v0_:Value,e=.returned (v0_)∧Kd.R (Kd.int .i64) 3 w' w.heap.size (fun _=>True) v0_ r∧Below w.heap.size w w':=by
 have Bm:=y0.mk Bd
 have Bs:=y0.mk Be
 clear Bd Be
 have HB:=y0.mk (Below.refl w.heap.size w)
 have H:(if 0≤(l0.length:Int)then(if((l0.length:Int):Int).toNat≤35184372088832 then(laws_toIntS.l0 k l0 (List.replicate ((l0.length:Int):Int).toNat 0) 0)else(none))else(none))=some r:=h
 clear h
 obtain⟨c2,H⟩:=qo H
 have Au:=eq_true c2
 have Av:=decide_eq_true c2
 clear c2
 obtain⟨c3,H⟩:=qo H
 have Aw:=eq_true c3
 have Ax:=decide_eq_true c3
 clear c3
 obtain⟨Ap,Ac⟩:∃ y_:List Int,y_=(List.replicate ((l0.length:Int):Int).toNat 0):=⟨_,rfl⟩
 replace H:(laws_toIntS.l0 k l0 Ap 0)=some r:=by first|exact Ac ▸ H|exact Ac ▸ (Option.bind_some _ _).symm.trans H
 replace Ac:=y0.mk Ac
 have H':=y0.mk H
 clear H
 go_enter Try.func51,Try.ntmps51
 go_wp2_with (first|((with_reducible refine y16 (N:=7) rfl ?_);refine Kd.R_make (Kd.int .i64) _ 3 rfl (N:=7) rfl 23 _ _ rfl (l0.length:Int) rfl rfl Try.underlying23 (.int .i64 0) 8 info3 rfl (by decide) (by omega) 0 (ok:=fun _=>True) (okp:=fun _=>True) rfl (fun _ hk=>hk) trivial (of_decide_eq_true qy0) (Nat.le_trans (Nat.mul_le_mul_right _ (of_decide_eq_true qy0:(l0.length:Int).toNat≤35184372088832)) (by omega)) (Below.refl _ _) (Nat.le_refl _) ?_;intro Ay w4 Ar hb hg_ hnew_;clear hg_ hnew_;(first|rw [← Ac.out]at Ar|(simp only [Int.reduceToNat]at Ar;rw [← Ac.out]at Ar));have As:=y0.mk (Kd.R_lower Ar (y3 qb));replace HB:=y0.mk (y4 qb hb);clear hb Ar))
 go_loopg [4] k (fun kq v4 w'=>∃(Af:List Int) (Aa:Int),v4=.int .i64 Aa∧y0 (laws_toIntS.l0 kq l0 Af Aa=some r)∧y0 (kq≤k)∧y0 (Kd.R (Kd.int .i64) 3 w' w.heap.size (fun _=>True) Ay Af)∧y0 (Below w.heap.size w w'))
 case atStart=>exact⟨(Ap),(0),qy2,H',⟨Nat.le_refl _⟩,⟨qR As.out⟩,⟨qb⟩⟩
 case round =>
  clear H'
  (try clear Au Av Aw Ax)
  obtain⟨Af,Aa,rfl,HA,Bf,Ag,HB⟩:=hrel
  cases gk with
  | zero=>exact absurd HA.out (by simp [laws_toIntS.l0])
  | succ k1 =>
   have H:=HA.out
   clear HA
   simp only [laws_toIntS.l0]at H
   by_cases c6:Aa < (l0.length:Int)
   ·rw [if_pos c6]at H
    have Az:=decide_eq_true c6
    clear c6
    obtain⟨c7,H⟩:=qo H
    have Bn:decide (0≤Aa)=true:=decide_eq_true c7
    clear c7
    obtain⟨c8,H⟩:=qo H
    have Bo:decide (Aa < (Af.length:Int))=true:=decide_eq_true c8
    clear c8
    obtain⟨Ai,Ad⟩:∃ y_:List Int,y_=(Af.set (Aa:Int).toNat (rd l0 Aa)):=⟨_,rfl⟩
    replace H:(laws_toIntS.l0 k1 l0 Ai (wrap64 (Aa + 1)))=some r:=by first|exact Ad ▸ H|exact Ad ▸ (Option.bind_some _ _).symm.trans H
    replace Ad:=y0.mk Ad
    have H':=y0.mk H
    clear H
    have Aj:0≤(Aa:Int):=qd
    have Ak:Aa < (l0.length:Int):=qd
    obtain⟨Bg,Ba,Ab⟩:=Kd.at_int Bm.out Aa Aj Ak
    cases Ba
    replace Ab:=qC Ab HB
    replace Aj:=eq_true Aj
    replace Ak:=eq_true Ak
    have p9:0≤(Aa:Int):=qd
    have q9:(Aa:Int) < ((Af.length:Int):Int):=qd
    obtain⟨Bb,Bp,Bh,Bi,Bq,Bt,Bj⟩:=Kd.R_form Ag.out (by omega)
    (first|cases Bh|(injection Bh with ea_ en_ ec_;(first|subst ea_|(injection ea_ with ea_;subst ea_));subst ec_;clear en_))
    have Br:=y0.mk Bi
    have Bu:=y0.mk Bj
    clear Bi Bq Bj
    obtain⟨Bk,Bl⟩:=Kd.R_celln 0 Ag.out (Aa:Int) p9 q9
    replace p9:=eq_true p9
    replace q9:=eq_true q9
    have Am:=Kd.R_putg Ag.out (Aa:Int) (rd l0 Aa)
    go_wp2_with (first|((with_reducible refine gate_store (t:=3) (p:=20) rfl ?_);refine store_event (t:=3) (p:=20) (v:=?vo_w11) (w1:=(wr.setCell ⟨Bb,(Aa:Int).toNat,none⟩ (.int .i64 (rd l0 Aa)))) ?hg ?ho ?hn ?hr ?_;(case ho=>rfl);(case hg=>rfl);(case hn=>rfl);(case hr=>first|(go_simp;done)|(go_simp;rfl));intro Bc hw;have hg:wr.grownBy Bc (some Bb):=(by rw [hw];exact Am.2);have hp_:Kd.R (Kd.int .i64) 3 Bc w.heap.size (fun _=>True) (.slice (some ⟨Bb,0,none⟩) Af.length Bp) Ai:=(by rw [hw,Ad.out];exact Am.1);clear Am;replace Ag:=y0.mk (hp_);replace HB:=y0.mk ((by rw [hw];exact below_set (HB.out) Br.out:Below w.heap.size w Bc));clear hg hw hp_))
    go_roundg k1
    case measure=>have:=Bf.out;omega
    exact⟨(Ai),(wrap64 (Aa + 1)),qy2,H',⟨by have:=Bf.out;omega⟩,⟨qR Ag.out⟩,⟨qb⟩⟩
   ·rw [if_neg c6]at H
    have Az:=decide_eq_false c6
    clear c6
    obtain rfl:=Option.some.inj H
    go_wp2
    go_ret
    exact⟨_,by first|rfl|(simp [y12,y13] <;> rfl)|(simp [*,y12,y13] <;> rfl),by(with_reducible repeat(first|apply Kd.R_alloc|apply Kd.R_drewN|apply Kd.R_drew));exact Ag.out,qb⟩
def laws_toExp.f (k:Nat) (Ae:Int) (Al:ByteArray) (An:List Int):Option (Int×ByteArray×List Int):=(laws_toIntS.f k An).bind fun Ao=>(some (Ae,Al,Ao))
theorem laws_toExp.calls (k:Nat) (Af:Int) (Ah:ByteArray) (At:Option Addr) (Au:Nat) (Ag:List Int) (r1:Int) (r2:ByteArray) (r3:List Int) (w:World) (Av:Kd.C (Kd.int .i64) w At Ag.length Ag) (Aw:Ag.length≤Au) (h:laws_toExp.f k Af Ah Ag=some (r1,r2,r3)) :
  Calls Try.prog 50 #[.agg #[.int .i64 Af,.string Ah,.slice At Ag.length Au]] w fun e w'=>∃ v2_:Value,e=.returned (.agg #[.int .i64 r1,.string r2,v2_])∧Kd.R (Kd.int .i64) 3 w' w.heap.size (fun _=>True) v2_ r3∧Below w.heap.size w w':=by
 have Cl:=Try.underlying69
 have Cm:=Try.underlying63
 have Bb:=y0.mk Av
 have Bc:=y0.mk Aw
 clear Av Aw
 have HB:=y0.mk (Below.refl w.heap.size w)
 have H:((laws_toIntS.f k Ag).bind fun Ak=>(some (Af,Ah,Ak)))=some (r1,r2,r3):=h
 clear h
 obtain⟨Ak,A2,H⟩:=qB H
 simp only [Option.some.injEq,Prod.mk.injEq]at H
 obtain⟨rfl,rfl,rfl⟩:=H
 go_enter Try.func50,Try.ntmps50
 go_wp2_with (first|((with_reducible refine y16 (N:=1) rfl ?_);refine qe 1 #[.int .i64 Af,.string Ah,.slice At Ag.length Au] 69 ?_;intro Bd hg w3 hbox hb;have Aa:=y0.mk (hbox);have Ce:=y0.mk (qg (w:=w) hg);have Cf:=y0.mk (qg (w:=w) hg);replace HB:=y0.mk (y4 qb hb);clear hb hbox hg)|((with_reducible refine y16 (N:=2) rfl ?_);refine qe 2 #[.int .i64 0,.string (⟨#[]⟩:ByteArray),.slice none 0 0] 63 ?_;intro Ai hg w4 hbox hb;have Ac:=y0.mk (hbox);have Cg:=y0.mk (qg (w:=w) hg);have Ch:=y0.mk (qg (w:=w) hg);replace HB:=y0.mk (y4 qb hb);have Am:=y0.mk (qn Aa.out hg);have Ap:=y0.mk (qm Aa.out hg);replace Aa:=y0.mk (qK Aa.out hb);clear hb hbox hg)|((with_reducible refine y16 (N:=3) rfl ?_);refine qe 3 #[.int .i64 0,.string (⟨#[]⟩:ByteArray),.slice none 0 0] 63 ?_;intro Ax hg w5 hbox hb;have Aj:=y0.mk (hbox);have Ci:=y0.mk (qg (w:=w) hg);have Cj:=y0.mk (qg (w:=w) hg);replace HB:=y0.mk (y4 qb hb);have Ad:=y0.mk (qn Aa.out hg);have Ar:=y0.mk (qm Aa.out hg);replace Aa:=y0.mk (qK Aa.out hb);have Ab:=y0.mk (qn Ac.out hg);have As:=y0.mk (qm Ac.out hg);replace Ac:=y0.mk (qK Ac.out hb);clear hb hbox hg;have Cn:=Am.out;have Cp:=Ap.out;have Cq:=Ad.out;have Cr:=Ar.out;obtain⟨Bw,Bx,Bz,Ca,Cb,Cc⟩:=qz3 Aa.out;have Cs:=As.out;have Ct:=Ab.out;obtain⟨Be,Bf,Bg,Bh,Bi,Bj⟩:=qz3 Aj.out)|((with_reducible refine y15 (f:=51) rfl ?_);refine y17 (some 12) rfl rfl Try.func51 (by kernel_rfl) rfl #[.slice At Ag.length Au] rfl qy1 ?_;(with_reducible refine(laws_toIntS.calls k _ _ Ag Ak _ (by exact Kd.C_below Bb.out qb) Bc.out A2.out).mono ?_);rintro e Cv ⟨Cu,rfl,Ck,hb⟩;refine⟨_,rfl, ?_⟩;have Ay:=y0.mk (Kd.R_lower Ck (y3 qb));replace Aa:=y0.mk (y6 (g:=Bd) (o:=.cells #[.int .i64 Af,.string Ah,.slice At Ag.length Au] 69 (0,0)) (by(with_reducible repeat(first|refine y9 ?_ _|refine y8 ?_|refine y5 ?_ _));refine y10 ?_ Ad.out _;refine y10 ?_ Ad.out _;(with_reducible repeat(first|refine y9 ?_ _|refine y8 ?_|refine y5 ?_ _));exact Aa.out) hb);replace Ac:=y0.mk (y6 (g:=Ai) (o:=.cells #[.int .i64 0,.string (⟨#[]⟩:ByteArray),.slice none 0 0] 63 (0,0)) (by(with_reducible repeat(first|refine y9 ?_ _|refine y8 ?_|refine y5 ?_ _));refine y10 ?_ Ab.out _;refine y10 ?_ Ab.out _;(with_reducible repeat(first|refine y9 ?_ _|refine y8 ?_|refine y5 ?_ _));exact Ac.out) hb);replace Aj:=y0.mk (y6 (g:=Ax) (o:=.cells #[.int .i64 Af,.string Ah,.slice none 0 0] 63 (0,0)) (by(with_reducible repeat(first|refine y9 ?_ _|refine y8 ?_|refine y5 ?_ _));refine y11 (cs:=#[.int .i64 Af,.string (⟨#[]⟩:ByteArray),.slice none 0 0]) ?_ 1 _ rfl;refine y11 (cs:=#[.int .i64 0,.string (⟨#[]⟩:ByteArray),.slice none 0 0]) ?_ 0 _ rfl;(with_reducible repeat(first|refine y9 ?_ _|refine y8 ?_|refine y5 ?_ _));exact Aj.out) hb);replace HB:=y0.mk (y4 qb hb);(try clear hb);(try clear Ck);obtain⟨Az,Ba,Cd⟩:=Kd.R_slice Ay.out;subst Cd;obtain⟨Bk,Bl,Bm,Bn,Bo,Bp⟩:=qz3 Aj.out;obtain⟨Bq,Br,Bs,Bt,Bu,Bv⟩:=qz3 Ac.out))
 refine bodyPost_ret (results_cell_row rfl _ _ Ai 63 #[.int .i64 Af,.string Ah,.slice Az Ak.length Ba] (0,0) _ rfl (by(with_reducible repeat(first|refine y9 ?_ _|refine y8 ?_|refine y5 ?_ _));refine y11 (cs:=#[.int .i64 Af,.string Ah,.slice none 0 0]) ?_ 2 _ rfl;refine y11 (cs:=#[.int .i64 Af,.string (⟨#[]⟩:ByteArray),.slice none 0 0]) ?_ 1 _ rfl;refine y11 (cs:=#[.int .i64 0,.string (⟨#[]⟩:ByteArray),.slice none 0 0]) ?_ 0 _ rfl;refine y10 ?_ Ab.out _;(with_reducible repeat(first|refine y9 ?_ _|refine y8 ?_|refine y5 ?_ _));exact Ac.out) Try.underlying63 rfl (by kernel_rfl)) rfl ?_
 exact⟨_,by first|rfl|(simp [y12,y13] <;> rfl)|(simp [*,y12,y13] <;> rfl),by(with_reducible repeat(first|apply Kd.R_alloc|apply Kd.R_drewN|apply Kd.R_drew));exact Kd.R_mono (qfR Ai (Kd.R_far (p:=⟨Ax,2,none⟩) (Kd.R_types (Kd.R_types Ay.out Aj.out (by decide)) Ac.out (by decide)) (fun _ hk=>hk.1.2) (.slice Az Ak.length Ba)) (.int .i64 Af) (.string Ah) (.slice Az Ak.length Ba)) (fun _ hk=>trivial),qb⟩
def laws_toExpS.l0:Nat→List (S69)→List (S63)→Int→Option ((List (S63)))
 | 0,_,_,_=>none
 | k + 1,x0,x3,x4=>if x4 < (x0.length:Int)then(if 0≤x4 then((laws_toExp.f k ((rd_T69 x0 x4).f0) ((rd_T69 x0 x4).f1) ((rd_T69 x0 x4).f2)).bind fun bt128=>(if x4 < (x3.length:Int)then(laws_toExpS.l0 k x0 (x3.set (x4:Int).toNat (⟨bt128.1,bt128.2.1,bt128.2.2⟩:S63)) (wrap64 (x4 + 1)))else(none)))else(none))else(some x3)
def laws_toExpS.f (k:Nat) (l0:List (S69)):Option ((List (S63))):=if 0≤(l0.length:Int)then(if((l0.length:Int):Int).toNat≤5864062014805 then(laws_toExpS.l0 k l0 (List.replicate ((l0.length:Int):Int).toNat z63) 0)else(none))else(none)
theorem laws_toExpS.calls (k:Nat) (A0:Option Addr) (c0:Nat) (l0:List (S69)) (r:List (S63)) (w:World) (Dd:Kd.C k69 w A0 l0.length l0) (De:l0.length≤c0) (h:laws_toExpS.f k l0=some r) :
  Calls Try.prog 25 #[.slice A0 l0.length c0] w fun e w'=>∃ v0_:Value,e=.returned (v0_)∧Kd.S k63 63 w' w.heap.size (fun _=>True) v0_ r∧Below w.heap.size w w':=by
 have Di:=Try.underlying69
 have Dj:=Try.underlying63
 have Dk:=y0.mk Dd
 have Ds:=y0.mk De
 clear Dd De
 have HB:=y0.mk (Below.refl w.heap.size w)
 have H:(if 0≤(l0.length:Int)then(if((l0.length:Int):Int).toNat≤5864062014805 then(laws_toExpS.l0 k l0 (List.replicate ((l0.length:Int):Int).toNat z63) 0)else(none))else(none))=some r:=h
 clear h
 obtain⟨c2,H⟩:=qo H
 have Cg:=eq_true c2
 have Ch:=decide_eq_true c2
 clear c2
 obtain⟨c3,H⟩:=qo H
 have Ci:=eq_true c3
 have Cj:=decide_eq_true c3
 clear c3
 obtain⟨Bs,Aj⟩:∃ y_:List (S63),y_=(List.replicate ((l0.length:Int):Int).toNat z63):=⟨_,rfl⟩
 replace H:(laws_toExpS.l0 k l0 Bs 0)=some r:=by first|exact Aj ▸ H|exact Aj ▸ (Option.bind_some _ _).symm.trans H
 replace Aj:=y0.mk Aj
 have H':=y0.mk H
 clear H
 go_enter Try.func25,Try.ntmps25
 go_wp2_with (first|((with_reducible refine y16 (N:=7) rfl ?_);refine Kd.S_make k63 _ 63 rfl (N:=7) rfl 32 _ _ rfl (l0.length:Int) rfl rfl Try.underlying32 (.agg #[(.int .i64 0),(.string ⟨#[]⟩),(.slice none 0 0)]) 48 info63 rfl (by decide) (by omega) z63 (ok:=fun _=>True) (okp:=fun _=>True) (k63_mkM _ _ _ z63 (Kd.R_nil _ _ _ _ _)) (fun _ hk=>hk) trivial (of_decide_eq_true qy0) (Nat.le_trans (Nat.mul_le_mul_right _ (of_decide_eq_true qy0:(l0.length:Int).toNat≤5864062014805)) (by omega)) (Below.refl _ _) (Nat.le_refl _) ?_;intro Ck w4 Bt hb hg_ hnew_;clear hg_ hnew_;(first|rw [← Aj.out]at Bt|(simp only [Int.reduceToNat]at Bt;rw [← Aj.out]at Bt));have Bu:=y0.mk (Kd.S_lower Bt (y3 qb));replace HB:=y0.mk (y4 qb hb);clear hb Bt))
 go_loopg [4] k (fun kq v4 w'=>∃(Ab:List (S63)) (Aa:Int),v4=.int .i64 Aa∧y0 (laws_toExpS.l0 kq l0 Ab Aa=some r)∧y0 (kq≤k)∧y0 (Kd.S k63 63 w' w.heap.size (fun _=>True) Ck Ab)∧y0 (Below w.heap.size w w'))
 case atStart=>exact⟨(Bs),(0),qy2,H',⟨Nat.le_refl _⟩,⟨qS Bu.out⟩,⟨qb⟩⟩
 case round =>
  clear H'
  (try clear Cg Ch Ci Cj)
  obtain⟨Ab,Aa,rfl,HA,Df,Ac,HB⟩:=hrel
  cases gk with
  | zero=>exact absurd HA.out (by simp [laws_toExpS.l0])
  | succ k1 =>
   have H:=HA.out
   clear HA
   simp only [laws_toExpS.l0]at H
   by_cases c6:Aa < (l0.length:Int)
   ·rw [if_pos c6]at H
    have Cl:=decide_eq_true c6
    clear c6
    obtain⟨c7,H⟩:=qo H
    have Dl:decide (0≤Aa)=true:=decide_eq_true c7
    clear c7
    obtain⟨⟨Am,Ap,Ax⟩,A8,H⟩:=qB H
    replace H:(if Aa < (Ab.length:Int)then(laws_toExpS.l0 k1 l0 (Ab.set (Aa:Int).toNat (⟨Am,Ap,Ax⟩:S63)) (wrap64 (Aa + 1)))else(none))=some r:=H
    obtain⟨c9,H⟩:=qo H
    have Dm:decide (Aa < (Ab.length:Int))=true:=decide_eq_true c9
    clear c9
    obtain⟨Bd,Ak⟩:∃ y_:List (S63),y_=(Ab.set (Aa:Int).toNat (⟨Am,Ap,Ax⟩:S63)):=⟨_,rfl⟩
    replace H:(laws_toExpS.l0 k1 l0 Bd (wrap64 (Aa + 1)))=some r:=by first|exact Ak ▸ H|exact Ak ▸ (Option.bind_some _ _).symm.trans H
    replace Ak:=y0.mk Ak
    have H':=y0.mk H
    clear H
    have Be:0≤(Aa:Int):=qd
    have Bf:Aa < (l0.length:Int):=qd
    obtain⟨Dg,Bg,Bh,Cm,Ag,Ah,Ai,Ar,As⟩:=at_T69 Dk.out Aa Be Bf
    cases Cm
    replace Ag:=qC Ag HB
    replace Ah:=qC Ah HB
    replace Ai:=qC Ai HB
    have Ay:=y0.mk As
    have Az:=y0.mk Ar
    clear As Ar
    replace Be:=eq_true Be
    replace Bf:=eq_true Bf
    go_wp2_with (first|((with_reducible refine y15 (f:=50) rfl ?_);refine y17 (some 20) rfl rfl Try.func50 (by kernel_rfl) rfl #[.agg #[.int .i64 ((rd_T69 l0 Aa).f0),.string ((rd_T69 l0 Aa).f1),.slice Bg ((rd_T69 l0 Aa).f2).length Bh]] rfl qy1 ?_;(with_reducible refine(laws_toExp.calls k1 ((rd_T69 l0 Aa).f0) ((rd_T69 l0 Aa).f1) _ _ ((rd_T69 l0 Aa).f2) Am Ap Ax _ (qc (Kd.C_below Ay.out HB.out)) Az.out A8.out).mono ?_);rintro e Ba ⟨Bb,rfl,Cn,hb⟩;refine⟨_,rfl, ?_⟩;replace Ac:=y0.mk (Kd.S_elder' (qS Ac.out) (Kd.R_base Cn) hb);have Af:=y0.mk (Kd.R_lower Cn (y3 qb));replace HB:=y0.mk (y4 qb hb);(try clear hb);(try clear Cn);have Cp:0≤(Aa:Int):=qd;have Cq:(Aa:Int) < ((Ab.length:Int):Int):=qd;obtain⟨Ad,Bw,Bx,Bz,Cr,Do,Ca⟩:=Kd.S_form Ac.out (by omega);(first|cases Bx|(injection Bx with ea_ en_ ec_;(first|subst ea_|(injection ea_ with ea_;subst ea_));subst ec_;clear en_));have Bi:=y0.mk Bz;have Dp:=y0.mk Ca;clear Bz Cr Ca;obtain⟨_,Dq,Cb,Cc,At,Au,_,_⟩:=Kd.S_elem Ac.out z63 (Aa:Int) Cp Cq;obtain⟨Bj,rfl,Cs⟩:=k63_openM Cc;have Ct:Ba.cell? ⟨Ad,(Aa:Int).toNat * 3,none⟩=some (.int .i64 ((y19 Ab Aa).f0)):=At 0 _ rfl;have Cu:Ba.cell? ⟨Ad,(Aa:Int).toNat * 3 + 1,none⟩=some (.string ((y19 Ab Aa).f1)):=At 1 _ rfl;have Cv:Ba.cell? ⟨Ad,(Aa:Int).toNat * 3 + 2,none⟩=some (Bj):=At 2 _ rfl;have Cw:Ba.frozen? ⟨Ad,(Aa:Int).toNat * 3,none⟩=false:=Au 0;have Cx:Ba.frozen? ⟨Ad,(Aa:Int).toNat * 3 + 1,none⟩=false:=Au 1;have Cy:Ba.frozen? ⟨Ad,(Aa:Int).toNat * 3 + 2,none⟩=false:=Au 2;clear Cb At Au Cc;replace Cp:=eq_true Cp;replace Cq:=eq_true Cq;have n_:=y0.mk (Kd.S_mono (ok':=(fun k_=>some k_≠(Bb:Value).ownBlock)) Ac.out (fun k_ hk=>hk.2));clear Ac;have Ac:=n_;clear n_;have Cz:=y0.mk (show Kd.S k63 63 Ba w.heap.size (fun k_=>((fun _=>True)) k_∧¬((fun k_=>some k_=(Bb:Value).ownBlock)) k_) (.slice (some ⟨Ad,0,none⟩) Ab.length Bw) Ab from(qS (Kd.S_mono Ac.out (fun k_ hk=>⟨trivial,fun e_=>hk e_⟩))));obtain⟨Dh,Dr,Cd,Ce,Av,Aw,Bk,Cf⟩:=Kd.S_elem Cz.out z63 (Aa:Int) (of_decide_eq_true qy0) (by have h_:(Aa:Int) < ((Ab.length:Int):Int):=qd;first|exact h_|(have e_:=(Kd.S_reads' Ac.out).1;omega)|simpa using h_);obtain⟨Da,rfl,Db⟩:=k63_openM Ce;have Bl:=Kd.S_seg Cf (of_decide_eq_true qy0) (by have h_:(Aa:Int) < ((Ab.length:Int):Int):=qd;first|exact h_|(have e_:=(Kd.S_reads' Ac.out).1;omega)|simpa using h_) (seg:=[.int .i64 Am,.string Ap,Bb]) (j:=0) (show 3≤3 from by decide) (x':=(⟨Am,Ap,Ax⟩:S63)) (k63_mkM _ _ _ (⟨Am,Ap,Ax⟩:S63) (Kd.R_mono (Kd.R_tight rfl (Kd.R_mono (ok':=fun k_=>((fun _=>True)) k_∧k_≠Ad) (Kd.R_apart' (Af.out) (Kd.S_typed Ac.out) (by decide)) (fun k_ hk=>⟨trivial,fun e_=>(hk.2) (by rw [e_];rfl)⟩))) (fun _ h_=>Or.inr (h_)))) (fun _ hk=>hk) (fun k_ hk_=>((Kd.R_mono (ok':=fun k_=>((fun _=>True)) k_∧k_≠Ad) (Kd.R_apart' (Af.out) (Kd.S_typed Ac.out) (by decide)) (fun k_ hk=>⟨trivial,fun e_=>(hk.2) (by rw [e_];rfl)⟩))).1 k_ hk_.symm);have Bm:=Av 0 _ rfl;(try simp only [show(k63).sz=3 from rfl,Nat.mul_one,Nat.add_zero]at Bm);have Bn:=Aw 0;(try simp only [show(k63).sz=3 from rfl,Nat.mul_one,Nat.add_zero]at Bn);have Bo:=Av 1 _ rfl;(try simp only [show(k63).sz=3 from rfl,Nat.mul_one,Nat.add_zero]at Bo);have Bp:=Aw 1;(try simp only [show(k63).sz=3 from rfl,Nat.mul_one,Nat.add_zero]at Bp);have Bq:=Av 2 _ rfl;(try simp only [show(k63).sz=3 from rfl,Nat.mul_one,Nat.add_zero]at Bq);have Br:=Aw 2;(try simp only [show(k63).sz=3 from rfl,Nat.mul_one,Nat.add_zero]at Br);clear Cd Av Aw Ce Bk Cf)|((with_reducible refine gate_store (t:=63) (p:=21) rfl ?_);refine store_event (t:=63) (p:=21) (v:=?vo_w13) (w1:=(((Ba.setCell ⟨Ad,(Aa:Int).toNat * 3,none⟩ (.int .i64 Am)).setCell ⟨Ad,(Aa:Int).toNat * 3 + 1,none⟩ (.string Ap)).setCell ⟨Ad,(Aa:Int).toNat * 3 + 2,none⟩ (Bb))) ?hg ?ho ?hn ?hr ?_;(case ho=>rfl);(case hg=>rfl);(case hn=>rfl);(case hr=>(first|(obtain⟨_,_,eo_⟩:=Kd.R_slice Af.out;subst eo_)|(obtain⟨_,_,eo_⟩:=Kd.S_slice Af.out;subst eo_)|(obtain⟨_,_,eo_⟩:=Kd.N_slice Af.out;subst eo_)|skip);first|(go_simp;done)|(go_simp;rfl));intro Dc hw;have hg:Ba.grownBy Dc (some Ad):=(by rw [hw];exact Bl.2);have hp_:Kd.S k63 63 Dc w.heap.size (fun _=>True) (.slice (some ⟨Ad,0,none⟩) Ab.length Bw) Bd:=(by rw [hw,Ak.out];exact Bl.1);clear Bl;replace Ac:=y0.mk (hp_);replace HB:=y0.mk ((by rw [hw];exact below_set (below_set (below_set (HB.out) Bi.out) Bi.out) Bi.out:Below w.heap.size w Dc));clear Af;clear hg hw hp_))
    go_roundg k1
    case measure=>have:=Df.out;omega
    exact⟨(Bd),(wrap64 (Aa + 1)),qy2,H',⟨by have:=Df.out;omega⟩,⟨qS Ac.out⟩,⟨qb⟩⟩
   ·rw [if_neg c6]at H
    have Cl:=decide_eq_false c6
    clear c6
    obtain rfl:=Option.some.inj H
    go_wp2
    go_ret
    exact⟨_,by first|rfl|(simp [y12,y13] <;> rfl)|(simp [*,y12,y13] <;> rfl),by(with_reducible repeat(first|apply Kd.S_alloc|apply Kd.S_drewN|apply Kd.S_drew));exact Ac.out,qb⟩
def laws_toLit.f (k:Nat) (Ae:Int) (Al:ByteArray) (An:List Int):Option (Int×ByteArray×List Int):=(laws_toIntS.f k An).bind fun Ao=>(some (Ae,Al,Ao))
theorem laws_toLit.calls (k:Nat) (Af:Int) (Ah:ByteArray) (At:Option Addr) (Au:Nat) (Ag:List Int) (r1:Int) (r2:ByteArray) (r3:List Int) (w:World) (Av:Kd.C (Kd.int .i64) w At Ag.length Ag) (Aw:Ag.length≤Au) (h:laws_toLit.f k Af Ah Ag=some (r1,r2,r3)) :
  Calls Try.prog 26 #[.agg #[.int .i64 Af,.string Ah,.slice At Ag.length Au]] w fun e w'=>∃ v2_:Value,e=.returned (.agg #[.int .i64 r1,.string r2,v2_])∧Kd.R (Kd.int .i64) 3 w' w.heap.size (fun _=>True) v2_ r3∧Below w.heap.size w w':=by
 have Cl:=Try.underlying25
 have Cm:=Try.underlying33
 have Bb:=y0.mk Av
 have Bc:=y0.mk Aw
 clear Av Aw
 have HB:=y0.mk (Below.refl w.heap.size w)
 have H:((laws_toIntS.f k Ag).bind fun Ak=>(some (Af,Ah,Ak)))=some (r1,r2,r3):=h
 clear h
 obtain⟨Ak,A2,H⟩:=qB H
 simp only [Option.some.injEq,Prod.mk.injEq]at H
 obtain⟨rfl,rfl,rfl⟩:=H
 go_enter Try.func26,Try.ntmps26
 go_wp2_with (first|((with_reducible refine y16 (N:=1) rfl ?_);refine qe 1 #[.int .i64 Af,.string Ah,.slice At Ag.length Au] 25 ?_;intro Bd hg w3 hbox hb;have Aa:=y0.mk (hbox);have Ce:=y0.mk (qg (w:=w) hg);have Cf:=y0.mk (qg (w:=w) hg);replace HB:=y0.mk (y4 qb hb);clear hb hbox hg)|((with_reducible refine y16 (N:=2) rfl ?_);refine qe 2 #[.int .i64 0,.string (⟨#[]⟩:ByteArray),.slice none 0 0] 33 ?_;intro Ai hg w4 hbox hb;have Ac:=y0.mk (hbox);have Cg:=y0.mk (qg (w:=w) hg);have Ch:=y0.mk (qg (w:=w) hg);replace HB:=y0.mk (y4 qb hb);have Am:=y0.mk (qn Aa.out hg);have Ap:=y0.mk (qm Aa.out hg);replace Aa:=y0.mk (qK Aa.out hb);clear hb hbox hg)|((with_reducible refine y16 (N:=3) rfl ?_);refine qe 3 #[.int .i64 0,.string (⟨#[]⟩:ByteArray),.slice none 0 0] 33 ?_;intro Ax hg w5 hbox hb;have Aj:=y0.mk (hbox);have Ci:=y0.mk (qg (w:=w) hg);have Cj:=y0.mk (qg (w:=w) hg);replace HB:=y0.mk (y4 qb hb);have Ad:=y0.mk (qn Aa.out hg);have Ar:=y0.mk (qm Aa.out hg);replace Aa:=y0.mk (qK Aa.out hb);have Ab:=y0.mk (qn Ac.out hg);have As:=y0.mk (qm Ac.out hg);replace Ac:=y0.mk (qK Ac.out hb);clear hb hbox hg;have Cn:=Am.out;have Cp:=Ap.out;have Cq:=Ad.out;have Cr:=Ar.out;obtain⟨Bw,Bx,Bz,Ca,Cb,Cc⟩:=qz3 Aa.out;have Cs:=As.out;have Ct:=Ab.out;obtain⟨Be,Bf,Bg,Bh,Bi,Bj⟩:=qz3 Aj.out)|((with_reducible refine y15 (f:=51) rfl ?_);refine y17 (some 12) rfl rfl Try.func51 (by kernel_rfl) rfl #[.slice At Ag.length Au] rfl qy1 ?_;(with_reducible refine(laws_toIntS.calls k _ _ Ag Ak _ (by exact Kd.C_below Bb.out qb) Bc.out A2.out).mono ?_);rintro e Cv ⟨Cu,rfl,Ck,hb⟩;refine⟨_,rfl, ?_⟩;have Ay:=y0.mk (Kd.R_lower Ck (y3 qb));replace Aa:=y0.mk (y6 (g:=Bd) (o:=.cells #[.int .i64 Af,.string Ah,.slice At Ag.length Au] 25 (0,0)) (by(with_reducible repeat(first|refine y9 ?_ _|refine y8 ?_|refine y5 ?_ _));refine y10 ?_ Ad.out _;refine y10 ?_ Ad.out _;(with_reducible repeat(first|refine y9 ?_ _|refine y8 ?_|refine y5 ?_ _));exact Aa.out) hb);replace Ac:=y0.mk (y6 (g:=Ai) (o:=.cells #[.int .i64 0,.string (⟨#[]⟩:ByteArray),.slice none 0 0] 33 (0,0)) (by(with_reducible repeat(first|refine y9 ?_ _|refine y8 ?_|refine y5 ?_ _));refine y10 ?_ Ab.out _;refine y10 ?_ Ab.out _;(with_reducible repeat(first|refine y9 ?_ _|refine y8 ?_|refine y5 ?_ _));exact Ac.out) hb);replace Aj:=y0.mk (y6 (g:=Ax) (o:=.cells #[.int .i64 Af,.string Ah,.slice none 0 0] 33 (0,0)) (by(with_reducible repeat(first|refine y9 ?_ _|refine y8 ?_|refine y5 ?_ _));refine y11 (cs:=#[.int .i64 Af,.string (⟨#[]⟩:ByteArray),.slice none 0 0]) ?_ 1 _ rfl;refine y11 (cs:=#[.int .i64 0,.string (⟨#[]⟩:ByteArray),.slice none 0 0]) ?_ 0 _ rfl;(with_reducible repeat(first|refine y9 ?_ _|refine y8 ?_|refine y5 ?_ _));exact Aj.out) hb);replace HB:=y0.mk (y4 qb hb);(try clear hb);(try clear Ck);obtain⟨Az,Ba,Cd⟩:=Kd.R_slice Ay.out;subst Cd;obtain⟨Bk,Bl,Bm,Bn,Bo,Bp⟩:=qz3 Aj.out;obtain⟨Bq,Br,Bs,Bt,Bu,Bv⟩:=qz3 Ac.out))
 refine bodyPost_ret (results_cell_row rfl _ _ Ai 33 #[.int .i64 Af,.string Ah,.slice Az Ak.length Ba] (0,0) _ rfl (by(with_reducible repeat(first|refine y9 ?_ _|refine y8 ?_|refine y5 ?_ _));refine y11 (cs:=#[.int .i64 Af,.string Ah,.slice none 0 0]) ?_ 2 _ rfl;refine y11 (cs:=#[.int .i64 Af,.string (⟨#[]⟩:ByteArray),.slice none 0 0]) ?_ 1 _ rfl;refine y11 (cs:=#[.int .i64 0,.string (⟨#[]⟩:ByteArray),.slice none 0 0]) ?_ 0 _ rfl;refine y10 ?_ Ab.out _;(with_reducible repeat(first|refine y9 ?_ _|refine y8 ?_|refine y5 ?_ _));exact Ac.out) Try.underlying33 rfl (by kernel_rfl)) rfl ?_
 exact⟨_,by first|rfl|(simp [y12,y13] <;> rfl)|(simp [*,y12,y13] <;> rfl),by(with_reducible repeat(first|apply Kd.R_alloc|apply Kd.R_drewN|apply Kd.R_drew));exact Kd.R_mono (qfR Ai (Kd.R_far (p:=⟨Ax,2,none⟩) (Kd.R_types (Kd.R_types Ay.out Aj.out (by decide)) Ac.out (by decide)) (fun _ hk=>hk.1.2) (.slice Az Ak.length Ba)) (.int .i64 Af) (.string Ah) (.slice Az Ak.length Ba)) (fun _ hk=>trivial),qb⟩
def laws_toLitS.l0:Nat→List (S25)→List (S33)→Int→Option ((List (S33)))
 | 0,_,_,_=>none
 | k + 1,x0,x3,x4=>if x4 < (x0.length:Int)then(if 0≤x4 then((laws_toLit.f k ((rd_T25 x0 x4).f0) ((rd_T25 x0 x4).f1) ((rd_T25 x0 x4).f2)).bind fun bt144=>(if x4 < (x3.length:Int)then(laws_toLitS.l0 k x0 (x3.set (x4:Int).toNat (⟨bt144.1,bt144.2.1,bt144.2.2⟩:S33)) (wrap64 (x4 + 1)))else(none)))else(none))else(some x3)
def laws_toLitS.f (k:Nat) (l0:List (S25)):Option ((List (S33))):=if 0≤(l0.length:Int)then(if((l0.length:Int):Int).toNat≤5864062014805 then(laws_toLitS.l0 k l0 (List.replicate ((l0.length:Int):Int).toNat z33) 0)else(none))else(none)
theorem laws_toLitS.calls (k:Nat) (A0:Option Addr) (c0:Nat) (l0:List (S25)) (r:List (S33)) (w:World) (Dd:Kd.C k25 w A0 l0.length l0) (De:l0.length≤c0) (h:laws_toLitS.f k l0=some r) :
  Calls Try.prog 27 #[.slice A0 l0.length c0] w fun e w'=>∃ v0_:Value,e=.returned (v0_)∧Kd.S k33 33 w' w.heap.size (fun _=>True) v0_ r∧Below w.heap.size w w':=by
 have Di:=Try.underlying25
 have Dj:=Try.underlying33
 have Dk:=y0.mk Dd
 have Ds:=y0.mk De
 clear Dd De
 have HB:=y0.mk (Below.refl w.heap.size w)
 have H:(if 0≤(l0.length:Int)then(if((l0.length:Int):Int).toNat≤5864062014805 then(laws_toLitS.l0 k l0 (List.replicate ((l0.length:Int):Int).toNat z33) 0)else(none))else(none))=some r:=h
 clear h
 obtain⟨c2,H⟩:=qo H
 have Cg:=eq_true c2
 have Ch:=decide_eq_true c2
 clear c2
 obtain⟨c3,H⟩:=qo H
 have Ci:=eq_true c3
 have Cj:=decide_eq_true c3
 clear c3
 obtain⟨Bs,Aj⟩:∃ y_:List (S33),y_=(List.replicate ((l0.length:Int):Int).toNat z33):=⟨_,rfl⟩
 replace H:(laws_toLitS.l0 k l0 Bs 0)=some r:=by first|exact Aj ▸ H|exact Aj ▸ (Option.bind_some _ _).symm.trans H
 replace Aj:=y0.mk Aj
 have H':=y0.mk H
 clear H
 go_enter Try.func27,Try.ntmps27
 go_wp2_with (first|((with_reducible refine y16 (N:=7) rfl ?_);refine Kd.S_make k33 _ 33 rfl (N:=7) rfl 34 _ _ rfl (l0.length:Int) rfl rfl Try.underlying34 (.agg #[(.int .i64 0),(.string ⟨#[]⟩),(.slice none 0 0)]) 48 info33 rfl (by decide) (by omega) z33 (ok:=fun _=>True) (okp:=fun _=>True) (k33_mkM _ _ _ z33 (Kd.R_nil _ _ _ _ _)) (fun _ hk=>hk) trivial (of_decide_eq_true qy0) (Nat.le_trans (Nat.mul_le_mul_right _ (of_decide_eq_true qy0:(l0.length:Int).toNat≤5864062014805)) (by omega)) (Below.refl _ _) (Nat.le_refl _) ?_;intro Ck w4 Bt hb hg_ hnew_;clear hg_ hnew_;(first|rw [← Aj.out]at Bt|(simp only [Int.reduceToNat]at Bt;rw [← Aj.out]at Bt));have Bu:=y0.mk (Kd.S_lower Bt (y3 qb));replace HB:=y0.mk (y4 qb hb);clear hb Bt))
 go_loopg [4] k (fun kq v4 w'=>∃(Ab:List (S33)) (Aa:Int),v4=.int .i64 Aa∧y0 (laws_toLitS.l0 kq l0 Ab Aa=some r)∧y0 (kq≤k)∧y0 (Kd.S k33 33 w' w.heap.size (fun _=>True) Ck Ab)∧y0 (Below w.heap.size w w'))
 case atStart=>exact⟨(Bs),(0),qy2,H',⟨Nat.le_refl _⟩,⟨qS Bu.out⟩,⟨qb⟩⟩
 case round =>
  clear H'
  (try clear Cg Ch Ci Cj)
  obtain⟨Ab,Aa,rfl,HA,Df,Ac,HB⟩:=hrel
  cases gk with
  | zero=>exact absurd HA.out (by simp [laws_toLitS.l0])
  | succ k1 =>
   have H:=HA.out
   clear HA
   simp only [laws_toLitS.l0]at H
   by_cases c6:Aa < (l0.length:Int)
   ·rw [if_pos c6]at H
    have Cl:=decide_eq_true c6
    clear c6
    obtain⟨c7,H⟩:=qo H
    have Dl:decide (0≤Aa)=true:=decide_eq_true c7
    clear c7
    obtain⟨⟨Am,Ap,Ax⟩,A8,H⟩:=qB H
    replace H:(if Aa < (Ab.length:Int)then(laws_toLitS.l0 k1 l0 (Ab.set (Aa:Int).toNat (⟨Am,Ap,Ax⟩:S33)) (wrap64 (Aa + 1)))else(none))=some r:=H
    obtain⟨c9,H⟩:=qo H
    have Dm:decide (Aa < (Ab.length:Int))=true:=decide_eq_true c9
    clear c9
    obtain⟨Bd,Ak⟩:∃ y_:List (S33),y_=(Ab.set (Aa:Int).toNat (⟨Am,Ap,Ax⟩:S33)):=⟨_,rfl⟩
    replace H:(laws_toLitS.l0 k1 l0 Bd (wrap64 (Aa + 1)))=some r:=by first|exact Ak ▸ H|exact Ak ▸ (Option.bind_some _ _).symm.trans H
    replace Ak:=y0.mk Ak
    have H':=y0.mk H
    clear H
    have Be:0≤(Aa:Int):=qd
    have Bf:Aa < (l0.length:Int):=qd
    obtain⟨Dg,Bg,Bh,Cm,Ag,Ah,Ai,Ar,As⟩:=at_T25 Dk.out Aa Be Bf
    cases Cm
    replace Ag:=qC Ag HB
    replace Ah:=qC Ah HB
    replace Ai:=qC Ai HB
    have Ay:=y0.mk As
    have Az:=y0.mk Ar
    clear As Ar
    replace Be:=eq_true Be
    replace Bf:=eq_true Bf
    go_wp2_with (first|((with_reducible refine y15 (f:=26) rfl ?_);refine y17 (some 20) rfl rfl Try.func26 (by kernel_rfl) rfl #[.agg #[.int .i64 ((rd_T25 l0 Aa).f0),.string ((rd_T25 l0 Aa).f1),.slice Bg ((rd_T25 l0 Aa).f2).length Bh]] rfl qy1 ?_;(with_reducible refine(laws_toLit.calls k1 ((rd_T25 l0 Aa).f0) ((rd_T25 l0 Aa).f1) _ _ ((rd_T25 l0 Aa).f2) Am Ap Ax _ (qc (Kd.C_below Ay.out HB.out)) Az.out A8.out).mono ?_);rintro e Ba ⟨Bb,rfl,Cn,hb⟩;refine⟨_,rfl, ?_⟩;replace Ac:=y0.mk (Kd.S_elder' (qS Ac.out) (Kd.R_base Cn) hb);have Af:=y0.mk (Kd.R_lower Cn (y3 qb));replace HB:=y0.mk (y4 qb hb);(try clear hb);(try clear Cn);have Cp:0≤(Aa:Int):=qd;have Cq:(Aa:Int) < ((Ab.length:Int):Int):=qd;obtain⟨Ad,Bw,Bx,Bz,Cr,Do,Ca⟩:=Kd.S_form Ac.out (by omega);(first|cases Bx|(injection Bx with ea_ en_ ec_;(first|subst ea_|(injection ea_ with ea_;subst ea_));subst ec_;clear en_));have Bi:=y0.mk Bz;have Dp:=y0.mk Ca;clear Bz Cr Ca;obtain⟨_,Dq,Cb,Cc,At,Au,_,_⟩:=Kd.S_elem Ac.out z33 (Aa:Int) Cp Cq;obtain⟨Bj,rfl,Cs⟩:=k33_openM Cc;have Ct:Ba.cell? ⟨Ad,(Aa:Int).toNat * 3,none⟩=some (.int .i64 ((y18 Ab Aa).f0)):=At 0 _ rfl;have Cu:Ba.cell? ⟨Ad,(Aa:Int).toNat * 3 + 1,none⟩=some (.string ((y18 Ab Aa).f1)):=At 1 _ rfl;have Cv:Ba.cell? ⟨Ad,(Aa:Int).toNat * 3 + 2,none⟩=some (Bj):=At 2 _ rfl;have Cw:Ba.frozen? ⟨Ad,(Aa:Int).toNat * 3,none⟩=false:=Au 0;have Cx:Ba.frozen? ⟨Ad,(Aa:Int).toNat * 3 + 1,none⟩=false:=Au 1;have Cy:Ba.frozen? ⟨Ad,(Aa:Int).toNat * 3 + 2,none⟩=false:=Au 2;clear Cb At Au Cc;replace Cp:=eq_true Cp;replace Cq:=eq_true Cq;have n_:=y0.mk (Kd.S_mono (ok':=(fun k_=>some k_≠(Bb:Value).ownBlock)) Ac.out (fun k_ hk=>hk.2));clear Ac;have Ac:=n_;clear n_;have Cz:=y0.mk (show Kd.S k33 33 Ba w.heap.size (fun k_=>((fun _=>True)) k_∧¬((fun k_=>some k_=(Bb:Value).ownBlock)) k_) (.slice (some ⟨Ad,0,none⟩) Ab.length Bw) Ab from(qS (Kd.S_mono Ac.out (fun k_ hk=>⟨trivial,fun e_=>hk e_⟩))));obtain⟨Dh,Dr,Cd,Ce,Av,Aw,Bk,Cf⟩:=Kd.S_elem Cz.out z33 (Aa:Int) (of_decide_eq_true qy0) (by have h_:(Aa:Int) < ((Ab.length:Int):Int):=qd;first|exact h_|(have e_:=(Kd.S_reads' Ac.out).1;omega)|simpa using h_);obtain⟨Da,rfl,Db⟩:=k33_openM Ce;have Bl:=Kd.S_seg Cf (of_decide_eq_true qy0) (by have h_:(Aa:Int) < ((Ab.length:Int):Int):=qd;first|exact h_|(have e_:=(Kd.S_reads' Ac.out).1;omega)|simpa using h_) (seg:=[.int .i64 Am,.string Ap,Bb]) (j:=0) (show 3≤3 from by decide) (x':=(⟨Am,Ap,Ax⟩:S33)) (k33_mkM _ _ _ (⟨Am,Ap,Ax⟩:S33) (Kd.R_mono (Kd.R_tight rfl (Kd.R_mono (ok':=fun k_=>((fun _=>True)) k_∧k_≠Ad) (Kd.R_apart' (Af.out) (Kd.S_typed Ac.out) (by decide)) (fun k_ hk=>⟨trivial,fun e_=>(hk.2) (by rw [e_];rfl)⟩))) (fun _ h_=>Or.inr (h_)))) (fun _ hk=>hk) (fun k_ hk_=>((Kd.R_mono (ok':=fun k_=>((fun _=>True)) k_∧k_≠Ad) (Kd.R_apart' (Af.out) (Kd.S_typed Ac.out) (by decide)) (fun k_ hk=>⟨trivial,fun e_=>(hk.2) (by rw [e_];rfl)⟩))).1 k_ hk_.symm);have Bm:=Av 0 _ rfl;(try simp only [show(k33).sz=3 from rfl,Nat.mul_one,Nat.add_zero]at Bm);have Bn:=Aw 0;(try simp only [show(k33).sz=3 from rfl,Nat.mul_one,Nat.add_zero]at Bn);have Bo:=Av 1 _ rfl;(try simp only [show(k33).sz=3 from rfl,Nat.mul_one,Nat.add_zero]at Bo);have Bp:=Aw 1;(try simp only [show(k33).sz=3 from rfl,Nat.mul_one,Nat.add_zero]at Bp);have Bq:=Av 2 _ rfl;(try simp only [show(k33).sz=3 from rfl,Nat.mul_one,Nat.add_zero]at Bq);have Br:=Aw 2;(try simp only [show(k33).sz=3 from rfl,Nat.mul_one,Nat.add_zero]at Br);clear Cd Av Aw Ce Bk Cf)|((with_reducible refine gate_store (t:=33) (p:=21) rfl ?_);refine store_event (t:=33) (p:=21) (v:=?vo_w13) (w1:=(((Ba.setCell ⟨Ad,(Aa:Int).toNat * 3,none⟩ (.int .i64 Am)).setCell ⟨Ad,(Aa:Int).toNat * 3 + 1,none⟩ (.string Ap)).setCell ⟨Ad,(Aa:Int).toNat * 3 + 2,none⟩ (Bb))) ?hg ?ho ?hn ?hr ?_;(case ho=>rfl);(case hg=>rfl);(case hn=>rfl);(case hr=>(first|(obtain⟨_,_,eo_⟩:=Kd.R_slice Af.out;subst eo_)|(obtain⟨_,_,eo_⟩:=Kd.S_slice Af.out;subst eo_)|(obtain⟨_,_,eo_⟩:=Kd.N_slice Af.out;subst eo_)|skip);first|(go_simp;done)|(go_simp;rfl));intro Dc hw;have hg:Ba.grownBy Dc (some Ad):=(by rw [hw];exact Bl.2);have hp_:Kd.S k33 33 Dc w.heap.size (fun _=>True) (.slice (some ⟨Ad,0,none⟩) Ab.length Bw) Bd:=(by rw [hw,Ak.out];exact Bl.1);clear Bl;replace Ac:=y0.mk (hp_);replace HB:=y0.mk ((by rw [hw];exact below_set (below_set (below_set (HB.out) Bi.out) Bi.out) Bi.out:Below w.heap.size w Dc));clear Af;clear hg hw hp_))
    go_roundg k1
    case measure=>have:=Df.out;omega
    exact⟨(Bd),(wrap64 (Aa + 1)),qy2,H',⟨by have:=Df.out;omega⟩,⟨qS Ac.out⟩,⟨qb⟩⟩
   ·rw [if_neg c6]at H
    have Cl:=decide_eq_false c6
    clear c6
    obtain rfl:=Option.some.inj H
    go_wp2
    go_ret
    exact⟨_,by first|rfl|(simp [y12,y13] <;> rfl)|(simp [*,y12,y13] <;> rfl),by(with_reducible repeat(first|apply Kd.S_alloc|apply Kd.S_drewN|apply Kd.S_drew));exact Ac.out,qb⟩
def laws_toRule.f (k:Nat) (Ae:List (S69)) (Al:Int) (An:ByteArray) (Ao:List Int) (Aq:List (S25)):Option ((List (S63))×Int×ByteArray×List Int×(List (S33))):=(laws_toExpS.f k Ae).bind fun By=>((laws_toLit.f k Al An Ao).bind fun bt156=>((laws_toLitS.f k Aq).bind fun Di=>(some (By,bt156.1,bt156.2.1,bt156.2.2,Di))))
theorem laws_toRule.calls (k:Nat) (Be:Option Addr) (Bf:Nat) (At:List (S69)) (Az:Int) (Ba:ByteArray) (Bg:Option Addr) (Bh:Nat) (Au:List Int) (Bi:Option Addr) (Bj:Nat) (Ar:List (S25)) (r1:List (S63)) (r2:Int) (r3:ByteArray) (r4:List Int) (r5:List (S33)) (w:World) (Bq:Kd.C k69 w Be At.length At) (Br:At.length≤Bf) (Bs:Kd.C (Kd.int .i64) w Bg Au.length Au) (Bt:Au.length≤Bh) (Bu:Kd.C k25 w Bi Ar.length Ar) (Bv:Ar.length≤Bj) (h:laws_toRule.f k At Az Ba Au Ar=some (r1,r2,r3,r4,r5)) :
  Calls Try.prog 8 #[.agg #[.slice Be At.length Bf,.int .i64 Az,.string Ba,.slice Bg Au.length Bh,.slice Bi Ar.length Bj]] w fun e w'=>∃ v0_ v3_ v4_:Value,e=.returned (.agg #[v0_,.int .i64 r2,.string r3,v3_,v4_])∧Kd.S k63 63 w' w.heap.size (fun k_=>some k_≠(v3_:Value).ownBlock) v0_ r1∧Kd.R (Kd.int .i64) 3 w' w.heap.size (fun _=>True) v3_ r4∧Kd.S k33 33 w' w.heap.size (fun k_=>some k_≠(v3_:Value).ownBlock) v4_ r5∧Below w.heap.size w w':=by
 have Fm:=Try.underlying28
 have Fn:=Try.underlying36
 have Fo:=Try.underlying25
 have Fp:=Try.underlying33
 have Bz:=y0.mk Bq
 have Ca:=y0.mk Br
 clear Bq Br
 have Cb:=y0.mk Bs
 have Cc:=y0.mk Bt
 clear Bs Bt
 have Cd:=y0.mk Bu
 have Ce:=y0.mk Bv
 clear Bu Bv
 have HB:=y0.mk (Below.refl w.heap.size w)
 have H:((laws_toExpS.f k At).bind fun Ai=>((laws_toLit.f k Az Ba Au).bind fun Bo=>((laws_toLitS.f k Ar).bind fun As=>(some (Ai,Bo.1,Bo.2.1,Bo.2.2,As)))))=some (r1,r2,r3,r4,r5):=h
 clear h
 obtain⟨Ai,A2,H⟩:=qB H
 obtain⟨⟨Aj,Ap,Av⟩,A3,H⟩:=qB H
 replace H:((laws_toLitS.f k Ar).bind fun As=>(some (Ai,Aj,Ap,Av,As)))=some (r1,r2,r3,r4,r5):=H
 obtain⟨As,A4,H⟩:=qB H
 simp only [Option.some.injEq,Prod.mk.injEq]at H
 obtain⟨rfl,rfl,rfl,rfl,rfl⟩:=H
 go_enter Try.func8,Try.ntmps8
 go_wp2_with (first|((with_reducible refine y16 (N:=1) rfl ?_);refine qe 1 #[.slice Be At.length Bf,.int .i64 Az,.string Ba,.slice Bg Au.length Bh,.slice Bi Ar.length Bj] 28 ?_;intro Bw hg w5 hbox hb;have Ab:=y0.mk (hbox);have Fe:=y0.mk (qg (w:=w) hg);have Ff:=y0.mk (qg (w:=w) hg);replace HB:=y0.mk (y4 qb hb);clear hb hbox hg)|((with_reducible refine y16 (N:=2) rfl ?_);refine qe 2 #[.slice none 0 0,.int .i64 0,.string (⟨#[]⟩:ByteArray),.slice none 0 0,.slice none 0 0] 36 ?_;intro Aa hg w6 hbox hb;have Af:=y0.mk (hbox);have Fg:=y0.mk (qg (w:=w) hg);have Fh:=y0.mk (qg (w:=w) hg);replace HB:=y0.mk (y4 qb hb);have Bk:=y0.mk (qn Ab.out hg);have Bl:=y0.mk (qm Ab.out hg);replace Ab:=y0.mk (qK Ab.out hb);clear hb hbox hg)|((with_reducible refine y16 (N:=3) rfl ?_);refine qe 3 #[.slice none 0 0,.int .i64 0,.string (⟨#[]⟩:ByteArray),.slice none 0 0,.slice none 0 0] 36 ?_;intro Ag hg w7 hbox hb;have Ac:=y0.mk (hbox);have Fi:=y0.mk (qg (w:=w) hg);have Fj:=y0.mk (qg (w:=w) hg);replace HB:=y0.mk (y4 qb hb);have Ah:=y0.mk (qn Ab.out hg);have Bm:=y0.mk (qm Ab.out hg);replace Ab:=y0.mk (qK Ab.out hb);have Ad:=y0.mk (qn Af.out hg);have Bn:=y0.mk (qm Af.out hg);replace Af:=y0.mk (qK Af.out hb);clear hb hbox hg;have Fq:=Bk.out;have Fr:=Bl.out;have Fs:=Ah.out;have Ft:=Bm.out;obtain⟨Cf,Cg,Ch,Ci,Cj,Ck,Cl,Cm,Cn,Cp⟩:=qz5 Ab.out)|((with_reducible refine y15 (f:=25) rfl ?_);refine y17 (some 6) rfl rfl Try.func25 (by kernel_rfl) rfl #[.slice Be At.length Bf] rfl qy1 ?_;(with_reducible refine(laws_toExpS.calls k _ _ At Ai _ (qc (Kd.C_below Bz.out HB.out)) Ca.out A2.out).mono ?_);rintro e Fy ⟨Fu,rfl,Bp,hb⟩;refine⟨_,rfl, ?_⟩;have Aw:=y0.mk (Kd.S_lower Bp (y3 qb));replace Ab:=y0.mk (qK Ab.out hb);replace Af:=y0.mk (qK Af.out hb);replace Ac:=y0.mk (qK Ac.out hb);replace HB:=y0.mk (y4 qb hb);(try clear hb);(try clear Bp);obtain⟨Ak,Am,Fb⟩:=Kd.S_slice Aw.out;subst Fb;have Fk:=Bn.out;have Fl:=Ad.out;obtain⟨Cq,Cr,Cs,Ct,Cu,Cv,Cw,Cx,Cy,Cz⟩:=qz5 Ac.out;obtain⟨Da,Db,Dc,Dd,De,Df,Dg,Dh,Di,Dj⟩:=qz5 Ab.out)|((with_reducible refine y15 (f:=26) rfl ?_);refine y17 (some 10) rfl rfl Try.func26 (by kernel_rfl) rfl #[.agg #[.int .i64 Az,.string Ba,.slice Bg Au.length Bh]] rfl qy1 ?_;(with_reducible refine(laws_toLit.calls k Az Ba _ _ Au Aj Ap Av _ (by exact Kd.C_below Cb.out qb) Cc.out A3.out).mono ?_);rintro e Fz ⟨Fv,rfl,Bp,hb⟩;refine⟨_,rfl, ?_⟩;replace Aw:=y0.mk (Kd.S_elder' (qS ((Kd.S_mono (Kd.S_far (p:=⟨Ag,0,none⟩) (Kd.S_types Aw.out Ac.out (by decide)) (fun _ hk=>hk.2) (.slice Ak Ai.length Am)) (fun _ h_=>h_.1)))) (Kd.R_base Bp) hb);have Bb:=y0.mk (Kd.R_lower Bp (y3 qb));replace Ab:=y0.mk (y6 (g:=Bw) (o:=.cells #[.slice Be At.length Bf,.int .i64 Az,.string Ba,.slice Bg Au.length Bh,.slice Bi Ar.length Bj] 28 (0,0)) (by(with_reducible repeat(first|refine y9 ?_ _|refine y8 ?_|refine y5 ?_ _));refine y10 ?_ Ah.out _;(with_reducible repeat(first|refine y9 ?_ _|refine y8 ?_|refine y5 ?_ _));exact Ab.out) hb);replace Af:=y0.mk (y6 (g:=Aa) (o:=.cells #[.slice none 0 0,.int .i64 0,.string (⟨#[]⟩:ByteArray),.slice none 0 0,.slice none 0 0] 36 (0,0)) (by(with_reducible repeat(first|refine y9 ?_ _|refine y8 ?_|refine y5 ?_ _));refine y10 ?_ Ad.out _;(with_reducible repeat(first|refine y9 ?_ _|refine y8 ?_|refine y5 ?_ _));exact Af.out) hb);replace Ac:=y0.mk (y6 (g:=Ag) (o:=.cells #[.slice Ak Ai.length Am,.int .i64 0,.string (⟨#[]⟩:ByteArray),.slice none 0 0,.slice none 0 0] 36 (0,0)) (by(with_reducible repeat(first|refine y9 ?_ _|refine y8 ?_|refine y5 ?_ _));refine y11 (cs:=#[.slice none 0 0,.int .i64 0,.string (⟨#[]⟩:ByteArray),.slice none 0 0,.slice none 0 0]) ?_ 0 _ rfl;(with_reducible repeat(first|refine y9 ?_ _|refine y8 ?_|refine y5 ?_ _));exact Ac.out) hb);replace HB:=y0.mk (y4 qb hb);(try clear hb);(try clear Bp);obtain⟨Dk,Dl,Dm,Do,Dp,Dq,Dr,Ds,Dt,Du⟩:=qz5 Ac.out;obtain⟨Ax,Ay,Fc⟩:=Kd.R_slice Bb.out;subst Fc;obtain⟨Dw,Dx,Dy,Dz,Ea,Eb,Ec,Ed,Ee,Ef⟩:=qz5 Ab.out)|((with_reducible refine y15 (f:=27) rfl ?_);refine y17 (some 14) rfl rfl Try.func27 (by kernel_rfl) rfl #[.slice Bi Ar.length Bj] rfl qy1 ?_;(with_reducible refine(laws_toLitS.calls k _ _ Ar As _ (by exact Kd.C_below Cd.out qb) Ce.out A4.out).mono ?_);rintro e Ga ⟨Fx,rfl,Bp,hb⟩;refine⟨_,rfl, ?_⟩;replace Aw:=y0.mk (Kd.S_below (qS ((Kd.S_mono (Kd.S_far (p:=⟨Ag,3,none⟩) (Kd.S_far (p:=⟨Ag,2,none⟩) (Kd.S_far (p:=⟨Ag,1,none⟩) (Kd.S_types Aw.out Ac.out (by decide)) (fun _ hk=>hk.2) (.int .i64 Aj)) (fun _ hk=>hk.2) (.string Ap)) (fun _ hk=>hk.2) (.slice Ax Av.length Ay)) (fun _ h_=>h_.1)))) hb);have Bx:=y0.mk (Kd.S_lower (Kd.S_new' Bp (Kd.R_lt (qR ((Kd.R_mono (Kd.R_far (p:=⟨Ag,3,none⟩) (Kd.R_far (p:=⟨Ag,2,none⟩) (Kd.R_far (p:=⟨Ag,1,none⟩) (Kd.R_types Bb.out Ac.out (by decide)) (fun _ hk=>hk.2) (.int .i64 Aj)) (fun _ hk=>hk.2) (.string Ap)) (fun _ hk=>hk.2) (.slice Ax Av.length Ay)) (fun _ h_=>h_.1)))))) (y3 qb));replace Bb:=y0.mk (Kd.R_below (qR ((Kd.R_mono (Kd.R_far (p:=⟨Ag,3,none⟩) (Kd.R_far (p:=⟨Ag,2,none⟩) (Kd.R_far (p:=⟨Ag,1,none⟩) (Kd.R_types Bb.out Ac.out (by decide)) (fun _ hk=>hk.2) (.int .i64 Aj)) (fun _ hk=>hk.2) (.string Ap)) (fun _ hk=>hk.2) (.slice Ax Av.length Ay)) (fun _ h_=>h_.1)))) hb);replace Ab:=y0.mk (y6 (g:=Bw) (o:=.cells #[.slice Be At.length Bf,.int .i64 Az,.string Ba,.slice Bg Au.length Bh,.slice Bi Ar.length Bj] 28 (0,0)) (by(with_reducible repeat(first|refine y9 ?_ _|refine y8 ?_|refine y5 ?_ _));refine y10 ?_ Ah.out _;refine y10 ?_ Ah.out _;refine y10 ?_ Ah.out _;(with_reducible repeat(first|refine y9 ?_ _|refine y8 ?_|refine y5 ?_ _));exact Ab.out) hb);replace Af:=y0.mk (y6 (g:=Aa) (o:=.cells #[.slice none 0 0,.int .i64 0,.string (⟨#[]⟩:ByteArray),.slice none 0 0,.slice none 0 0] 36 (0,0)) (by(with_reducible repeat(first|refine y9 ?_ _|refine y8 ?_|refine y5 ?_ _));refine y10 ?_ Ad.out _;refine y10 ?_ Ad.out _;refine y10 ?_ Ad.out _;(with_reducible repeat(first|refine y9 ?_ _|refine y8 ?_|refine y5 ?_ _));exact Af.out) hb);replace Ac:=y0.mk (y6 (g:=Ag) (o:=.cells #[.slice Ak Ai.length Am,.int .i64 Aj,.string Ap,.slice Ax Av.length Ay,.slice none 0 0] 36 (0,0)) (by(with_reducible repeat(first|refine y9 ?_ _|refine y8 ?_|refine y5 ?_ _));refine y11 (cs:=#[.slice Ak Ai.length Am,.int .i64 Aj,.string Ap,.slice none 0 0,.slice none 0 0]) ?_ 3 _ rfl;refine y11 (cs:=#[.slice Ak Ai.length Am,.int .i64 Aj,.string (⟨#[]⟩:ByteArray),.slice none 0 0,.slice none 0 0]) ?_ 2 _ rfl;refine y11 (cs:=#[.slice Ak Ai.length Am,.int .i64 0,.string (⟨#[]⟩:ByteArray),.slice none 0 0,.slice none 0 0]) ?_ 1 _ rfl;(with_reducible repeat(first|refine y9 ?_ _|refine y8 ?_|refine y5 ?_ _));exact Ac.out) hb);replace HB:=y0.mk (y4 qb hb);(try clear hb);(try clear Bp);obtain⟨Bc,Bd,Fd⟩:=Kd.S_slice Bx.out;subst Fd;obtain⟨Eg,Eh,Ei,Ej,Ek,El,Em,En,Eo,Ep⟩:=qz5 Ac.out;obtain⟨Eq,Er,Es,Et,Eu,Ew,Ex,Ey,Ez,Fa⟩:=qz5 Af.out))
 refine bodyPost_ret (results_cell_row rfl _ _ Aa 36 #[.slice Ak Ai.length Am,.int .i64 Aj,.string Ap,.slice Ax Av.length Ay,.slice Bc As.length Bd] (0,0) _ rfl (by(with_reducible repeat(first|refine y9 ?_ _|refine y8 ?_|refine y5 ?_ _));refine y11 (cs:=#[.slice Ak Ai.length Am,.int .i64 Aj,.string Ap,.slice Ax Av.length Ay,.slice none 0 0]) ?_ 4 _ rfl;refine y11 (cs:=#[.slice Ak Ai.length Am,.int .i64 Aj,.string Ap,.slice none 0 0,.slice none 0 0]) ?_ 3 _ rfl;refine y11 (cs:=#[.slice Ak Ai.length Am,.int .i64 Aj,.string (⟨#[]⟩:ByteArray),.slice none 0 0,.slice none 0 0]) ?_ 2 _ rfl;refine y11 (cs:=#[.slice Ak Ai.length Am,.int .i64 0,.string (⟨#[]⟩:ByteArray),.slice none 0 0,.slice none 0 0]) ?_ 1 _ rfl;refine y11 (cs:=#[.slice none 0 0,.int .i64 0,.string (⟨#[]⟩:ByteArray),.slice none 0 0,.slice none 0 0]) ?_ 0 _ rfl;refine y10 ?_ Ad.out _;(with_reducible repeat(first|refine y9 ?_ _|refine y8 ?_|refine y5 ?_ _));exact Af.out) Try.underlying36 rfl (by kernel_rfl)) rfl ?_
 exact⟨_,_,_,by first|rfl|(simp [y12,y13] <;> rfl)|(simp [*,y12,y13] <;> rfl),by(with_reducible repeat(first|apply Kd.S_alloc|apply Kd.S_drewN|apply Kd.S_drew));exact Kd.S_mono (Kd.S_far (p:=⟨Aa,4,none⟩) (Kd.S_far (p:=⟨Aa,3,none⟩) (qfS Aa (Kd.S_far (p:=⟨Ag,4,none⟩) (Kd.S_types (Kd.S_types Aw.out Ac.out (by decide)) Af.out (by decide)) (fun _ hk=>hk.1.2) (.slice Bc As.length Bd)) (.slice Ak Ai.length Am) (.int .i64 Aj) (.string Ap)) (fun _ hk=>hk.2) (.slice Ax Av.length Ay)) (fun _ hk=>hk.2) (.slice Bc As.length Bd)) (fun _ hk=>hk.1.1.2),by(with_reducible repeat(first|apply Kd.R_alloc|apply Kd.R_drewN|apply Kd.R_drew));exact Kd.R_mono (Kd.R_far (p:=⟨Aa,4,none⟩) (Kd.R_far (p:=⟨Aa,3,none⟩) (qfR Aa (Kd.R_far (p:=⟨Ag,4,none⟩) (Kd.R_types (Kd.R_types Bb.out Ac.out (by decide)) Af.out (by decide)) (fun _ hk=>hk.1.2) (.slice Bc As.length Bd)) (.slice Ak Ai.length Am) (.int .i64 Aj) (.string Ap)) (fun _ hk=>hk.2) (.slice Ax Av.length Ay)) (fun _ hk=>hk.2) (.slice Bc As.length Bd)) (fun _ hk=>trivial),by(with_reducible repeat(first|apply Kd.S_alloc|apply Kd.S_drewN|apply Kd.S_drew));exact Kd.S_mono (Kd.S_far (p:=⟨Aa,4,none⟩) (Kd.S_far (p:=⟨Aa,3,none⟩) (qfS Aa (Kd.S_far (p:=⟨Ag,4,none⟩) (Kd.S_types (Kd.S_types Bx.out Ac.out (by decide)) Af.out (by decide)) (fun _ hk=>hk.1.2) (.slice Bc As.length Bd)) (.slice Ak Ai.length Am) (.int .i64 Aj) (.string Ap)) (fun _ hk=>hk.2) (.slice Ax Av.length Ay)) (fun _ hk=>hk.2) (.slice Bc As.length Bd)) (fun _ hk=>hk.1.1.2),qb⟩
def laws_eqIntS.l0:Nat→List Int→List Int→Int→Option (Bool)
 | 0,_,_,_=>none
 | k + 1,x0,x1,x5=>if x5 < (x0.length:Int)then(if 0≤x5 then(if x5 < (x1.length:Int)then(if(rd x0 x5)=(rd x1 x5)then(laws_eqIntS.l0 k x0 x1 (wrap64 (x5 + 1)))else(some false))else(none))else(none))else(some true)
def laws_eqIntS.f (k:Nat) (l0:List Int) (l1:List Int):Option (Bool):=if(l0.length:Int)=(l1.length:Int)then(laws_eqIntS.l0 k l0 l1 0)else(some false)
theorem laws_eqIntS.calls (k:Nat) (A0:Option Addr) (c0:Nat) (l0:List Int) (A1:Option Addr) (c1:Nat) (l1:List Int) (r:Bool) (w:World) (Au:Kd.C (Kd.int .i64) w A0 l0.length l0) (Av:l0.length≤c0) (Aw:Kd.C (Kd.int .i64) w A1 l1.length l1) (Ax:l1.length≤c1) (h:laws_eqIntS.f k l0 l1=some r) :
  Calls Try.prog 56 #[.slice A0 l0.length c0,.slice A1 l1.length c1] w fun e w'=>e=.returned (.bool r)∧Drawn0 w w':=by
 have Bb:=y0.mk Au
 have Bf:=y0.mk Av
 clear Au Av
 have Bc:=y0.mk Aw
 have Bg:=y0.mk Ax
 clear Aw Ax
 have H:(if(l0.length:Int)=(l1.length:Int)then(laws_eqIntS.l0 k l0 l1 0)else(some false))=some r:=h
 clear h
 by_cases c3:(l0.length:Int)=(l1.length:Int)
 ·rw [if_pos c3]at H
  have Ag:((l0.length:Int) == (l1.length:Int))=true:=beq_iff_eq.mpr c3
  have Ah:((l0.length:Int) != (l1.length:Int))=false:=bne_eq_false_iff_eq.mpr c3
  have Ai:(l0.length == l1.length)=true:=by first|simpa using c3|(simp at c3 ⊢;omega)
  clear c3
  have H':=y0.mk H
  clear H
  go_enter Try.func56,Try.ntmps56
  go_wp2
  repeat(go_quiet (fail);try go_wp2)
  go_loopg [5] k (fun kq v5 w'=>∃(Aa:Int),v5=.int .i64 Aa∧y0 (laws_eqIntS.l0 kq l0 l1 Aa=some r)∧y0 (kq≤k)∧Drawn0 w w')
  case atStart=>exact⟨(0),qy2,H',⟨Nat.le_refl _⟩,by repeat(first|exact Drawn0.refl _|apply Drawn0.step)⟩
  case round =>
   clear H'
   (try clear Ag Ah Ai)
   obtain⟨Aa,rfl,HA,Ay,⟨m1,rfl⟩⟩:=hrel
   cases gk with
   | zero=>exact absurd HA.out (by simp [laws_eqIntS.l0])
   | succ k1 =>
    have H:=HA.out
    clear HA
    simp only [laws_eqIntS.l0]at H
    by_cases c4:Aa < (l0.length:Int)
    ·rw [if_pos c4]at H
     have Am:=decide_eq_true c4
     clear c4
     obtain⟨c5,H⟩:=qo H
     have Bd:decide (0≤Aa)=true:=decide_eq_true c5
     clear c5
     obtain⟨c6,H⟩:=qo H
     have Be:decide (Aa < (l1.length:Int))=true:=decide_eq_true c6
     clear c6
     have Ab:0≤(Aa:Int):=qd
     have Ac:Aa < (l0.length:Int):=qd
     obtain⟨Az,Ap,Aj⟩:=Kd.at_int Bb.out Aa Ab Ac
     cases Ap
     replace Ab:=eq_true Ab
     replace Ac:=eq_true Ac
     have Ad:0≤(Aa:Int):=qd
     have Af:Aa < (l1.length:Int):=qd
     obtain⟨Ba,Ar,Ak⟩:=Kd.at_int Bc.out Aa Ad Af
     cases Ar
     replace Ad:=eq_true Ad
     replace Af:=eq_true Af
     by_cases c7:(rd l0 Aa)=(rd l1 Aa)
     ·rw [if_pos c7]at H
      have As:((rd l0 Aa) == (rd l1 Aa))=true:=beq_iff_eq.mpr c7
      have At:((rd l0 Aa) != (rd l1 Aa))=false:=bne_eq_false_iff_eq.mpr c7
      clear c7
      have H':=y0.mk H
      clear H
      go_wp2
      repeat(go_quiet (fail);try go_wp2)
      go_roundg k1
      case measure=>have:=Ay.out;omega
      exact⟨(wrap64 (Aa + 1)),qy2,H',⟨by have:=Ay.out;omega⟩,by repeat(first|exact Drawn0.refl _|apply Drawn0.step)⟩
     ·rw [if_neg c7]at H
      have As:((rd l0 Aa) == (rd l1 Aa))=false:=beq_eq_false_iff_ne.mpr c7
      have At:((rd l0 Aa) != (rd l1 Aa))=true:=bne_iff_ne.mpr c7
      obtain rfl:=Option.some.inj H
      go_wp2
      repeat(go_quiet (fail);try go_wp2)
      go_ret
      exact qf2
    ·rw [if_neg c4]at H
     have Am:=decide_eq_false c4
     clear c4
     obtain rfl:=Option.some.inj H
     go_wp2
     repeat(go_quiet (fail);try go_wp2)
     go_ret
     exact qf2
 ·rw [if_neg c3]at H
  have Ag:((l0.length:Int) == (l1.length:Int))=false:=beq_eq_false_iff_ne.mpr c3
  have Ah:((l0.length:Int) != (l1.length:Int))=true:=bne_iff_ne.mpr c3
  have Ai:(l0.length == l1.length)=false:=by first|simpa using c3|(simp at c3 ⊢;omega)
  obtain rfl:=Option.some.inj H
  go_enter Try.func56,Try.ntmps56
  go_wp2
  repeat(go_quiet (fail);try go_wp2)
  go_ret
  exact qf2
def laws_eqExp.f (k:Nat) (Ae:Int) (Al:ByteArray) (An:List Int) (Ao:Int) (Aq:ByteArray) (By:List Int):Option (Bool):=if Ae=Ao then(if Al.toList=Aq.toList then((laws_eqIntS.f k An By).bind fun Di=>(if Di=true then(some true)else(some false)))else(some false))else(some false)
theorem laws_eqExp.calls (k:Nat) (Ag:Int) (Ah:ByteArray) (Am:Option Addr) (Ap:Nat) (Ad:List Int) (Ai:Int) (Aj:ByteArray) (Ar:Option Addr) (As:Nat) (Af:List Int) (r:Bool) (w:World) (Az:Kd.C (Kd.int .i64) w Am Ad.length Ad) (Ba:Ad.length≤Ap) (Bb:Kd.C (Kd.int .i64) w Ar Af.length Af) (Bc:Af.length≤As) (h:laws_eqExp.f k Ag Ah Ad Ai Aj Af=some r) :
  Calls Try.prog 55 #[.agg #[.int .i64 Ag,.string Ah,.slice Am Ad.length Ap],.agg #[.int .i64 Ai,.string Aj,.slice Ar Af.length As]] w fun e w'=>e=.returned (.bool r)∧Below w.heap.size w w':=by
 have Dr:=Try.underlying63
 have Bd:=y0.mk Az
 have Be:=y0.mk Ba
 clear Az Ba
 have Bf:=y0.mk Bb
 have Bg:=y0.mk Bc
 clear Bb Bc
 have HB:=y0.mk (Below.refl w.heap.size w)
 have H:(if Ag=Ai then(if Ah.toList=Aj.toList then((laws_eqIntS.f k Ad Af).bind fun Bh=>(if Bh=true then(some true)else(some false)))else(some false))else(some false))=some r:=h
 clear h
 by_cases c3:Ag=Ai
 ·rw [if_pos c3]at H
  have Dg:(Ag == Ai)=true:=beq_iff_eq.mpr c3
  have Dh:(Ag != Ai)=false:=bne_eq_false_iff_eq.mpr c3
  clear c3
  by_cases c4:Ah.toList=Aj.toList
  ·rw [if_pos c4]at H
   have Di:(Ah.toList == Aj.toList)=true:=beq_iff_eq.mpr c4
   have Dj:(Ah.toList != Aj.toList)=false:=bne_eq_false_iff_eq.mpr c4
   clear c4
   obtain⟨Bh,A5,H⟩:=qB H
   by_cases c6:Bh=true
   ·subst c6
    replace H:=qT H
    obtain rfl:=Option.some.inj H
    go_enter Try.func55,Try.ntmps55
    go_wp2_with (first|((with_reducible refine y16 (N:=2) rfl ?_);refine qe 2 #[.int .i64 Ag,.string Ah,.slice Am Ad.length Ap] 63 ?_;intro At hg w7 hbox hb;have Aa:=y0.mk (hbox);have Au:=y0.mk (qg (w:=w) hg);have Av:=y0.mk (qg (w:=w) hg);replace HB:=y0.mk (y4 qb hb);clear hb hbox hg)|((with_reducible refine y16 (N:=3) rfl ?_);refine qe 3 #[.int .i64 Ai,.string Aj,.slice Ar Af.length As] 63 ?_;intro Aw hg w8 hbox hb;have Ak:=y0.mk (hbox);have Ax:=y0.mk (qg (w:=w) hg);have Ay:=y0.mk (qg (w:=w) hg);replace HB:=y0.mk (y4 qb hb);have Ab:=y0.mk (qn Aa.out hg);have Ac:=y0.mk (qm Aa.out hg);replace Aa:=y0.mk (qK Aa.out hb);clear hb hbox hg;have Ds:=Ab.out;have Dt:=Ac.out;obtain⟨Bi,Bj,Bk,Bl,Bm,Bn⟩:=qz3 Aa.out;obtain⟨Bo,Bp,Bq,Br,Bs,Bt⟩:=qz3 Ak.out)|((with_reducible refine y15 (f:=56) rfl ?_);refine y17 (some 19) rfl rfl Try.func56 (by kernel_rfl) rfl #[.slice Am Ad.length Ap,.slice Ar Af.length As] rfl qy1 ?_;(with_reducible refine(laws_eqIntS.calls k _ _ Ad _ _ Af true _ (qc (Kd.C_below Bd.out HB.out)) Be.out (qc (Kd.C_below Bf.out HB.out)) Bg.out A5.out).mono ?_);rintro e w' ⟨rfl,⟨nd,rfl⟩⟩;refine⟨_,rfl, ?_⟩))
    go_ret
    exact⟨qf,qb⟩
   ·replace c6:=Bool.eq_false_iff.mpr c6
    subst c6
    replace H:=qF H
    obtain rfl:=Option.some.inj H
    go_enter Try.func55,Try.ntmps55
    go_wp2_with (first|((with_reducible refine y16 (N:=2) rfl ?_);refine qe 2 #[.int .i64 Ag,.string Ah,.slice Am Ad.length Ap] 63 ?_;intro At hg Du hbox hb;have Aa:=y0.mk (hbox);have Au:=y0.mk (qg (w:=w) hg);have Av:=y0.mk (qg (w:=w) hg);replace HB:=y0.mk (y4 qb hb);clear hb hbox hg)|((with_reducible refine y16 (N:=3) rfl ?_);refine qe 3 #[.int .i64 Ai,.string Aj,.slice Ar Af.length As] 63 ?_;intro Aw hg Dw hbox hb;have Ak:=y0.mk (hbox);have Ax:=y0.mk (qg (w:=w) hg);have Ay:=y0.mk (qg (w:=w) hg);replace HB:=y0.mk (y4 qb hb);have Ab:=y0.mk (qn Aa.out hg);have Ac:=y0.mk (qm Aa.out hg);replace Aa:=y0.mk (qK Aa.out hb);clear hb hbox hg;have Dk:=Ab.out;have Dl:=Ac.out;obtain⟨Bu,Bv,Bw,Bx,Bz,Ca⟩:=qz3 Aa.out;obtain⟨Cb,Cc,Cd,Ce,Cf,Cg⟩:=qz3 Ak.out)|((with_reducible refine y15 (f:=56) rfl ?_);refine y17 (some 19) rfl rfl Try.func56 (by kernel_rfl) rfl #[.slice Am Ad.length Ap,.slice Ar Af.length As] rfl qy1 ?_;(with_reducible refine(laws_eqIntS.calls k _ _ Ad _ _ Af false _ (qc (Kd.C_below Bd.out HB.out)) Be.out (qc (Kd.C_below Bf.out HB.out)) Bg.out A5.out).mono ?_);rintro e w' ⟨rfl,⟨nd,rfl⟩⟩;refine⟨_,rfl, ?_⟩))
    go_ret
    exact⟨qf,qb⟩
  ·rw [if_neg c4]at H
   have Di:(Ah.toList == Aj.toList)=false:=beq_eq_false_iff_ne.mpr c4
   have Dj:(Ah.toList != Aj.toList)=true:=bne_iff_ne.mpr c4
   obtain rfl:=Option.some.inj H
   go_enter Try.func55,Try.ntmps55
   go_wp2_with (first|((with_reducible refine y16 (N:=2) rfl ?_);refine qe 2 #[.int .i64 Ag,.string Ah,.slice Am Ad.length Ap] 63 ?_;intro At hg Dx hbox hb;have Aa:=y0.mk (hbox);have Au:=y0.mk (qg (w:=w) hg);have Av:=y0.mk (qg (w:=w) hg);replace HB:=y0.mk (y4 qb hb);clear hb hbox hg)|((with_reducible refine y16 (N:=3) rfl ?_);refine qe 3 #[.int .i64 Ai,.string Aj,.slice Ar Af.length As] 63 ?_;intro Aw hg Dy hbox hb;have Ak:=y0.mk (hbox);have Ax:=y0.mk (qg (w:=w) hg);have Ay:=y0.mk (qg (w:=w) hg);replace HB:=y0.mk (y4 qb hb);have Ab:=y0.mk (qn Aa.out hg);have Ac:=y0.mk (qm Aa.out hg);replace Aa:=y0.mk (qK Aa.out hb);clear hb hbox hg;have Dm:=Ab.out;have Do:=Ac.out;obtain⟨Ch,Ci,Cj,Ck,Cl,Cm⟩:=qz3 Aa.out;obtain⟨Cn,Cp,Cq,Cr,Cs,Ct⟩:=qz3 Ak.out))
   go_ret
   exact⟨qf,qb⟩
 ·rw [if_neg c3]at H
  have Dg:(Ag == Ai)=false:=beq_eq_false_iff_ne.mpr c3
  have Dh:(Ag != Ai)=true:=bne_iff_ne.mpr c3
  obtain rfl:=Option.some.inj H
  go_enter Try.func55,Try.ntmps55
  go_wp2_with (first|((with_reducible refine y16 (N:=2) rfl ?_);refine qe 2 #[.int .i64 Ag,.string Ah,.slice Am Ad.length Ap] 63 ?_;intro At hg Dz hbox hb;have Aa:=y0.mk (hbox);have Au:=y0.mk (qg (w:=w) hg);have Av:=y0.mk (qg (w:=w) hg);replace HB:=y0.mk (y4 qb hb);clear hb hbox hg)|((with_reducible refine y16 (N:=3) rfl ?_);refine qe 3 #[.int .i64 Ai,.string Aj,.slice Ar Af.length As] 63 ?_;intro Aw hg Ea hbox hb;have Ak:=y0.mk (hbox);have Ax:=y0.mk (qg (w:=w) hg);have Ay:=y0.mk (qg (w:=w) hg);replace HB:=y0.mk (y4 qb hb);have Ab:=y0.mk (qn Aa.out hg);have Ac:=y0.mk (qm Aa.out hg);replace Aa:=y0.mk (qK Aa.out hb);clear hb hbox hg;have Dp:=Ab.out;have Dq:=Ac.out;obtain⟨Cu,Cv,Cw,Cx,Cy,Cz⟩:=qz3 Aa.out;obtain⟨Da,Db,Dc,Dd,De,Df⟩:=qz3 Ak.out))
  go_ret
  exact⟨qf,qb⟩
def laws_eqExpS.l0:Nat→List (S63)→List (S63)→Int→Option (Bool)
 | 0,_,_,_=>none
 | k + 1,x0,x1,x5=>if x5 < (x0.length:Int)then(if 0≤x5 then(if x5 < (x1.length:Int)then((laws_eqExp.f k ((y19 x0 x5).f0) ((y19 x0 x5).f1) ((y19 x0 x5).f2) ((y19 x1 x5).f0) ((y19 x1 x5).f1) ((y19 x1 x5).f2)).bind fun Ae=>(if Ae=true then(laws_eqExpS.l0 k x0 x1 (wrap64 (x5 + 1)))else(some false)))else(none))else(none))else(some true)
def laws_eqExpS.f (k:Nat) (l0:List (S63)) (l1:List (S63)):Option (Bool):=if(l0.length:Int)=(l1.length:Int)then(laws_eqExpS.l0 k l0 l1 0)else(some false)
def laws_eqExpS.T6:Bool×List (List Nat×List Nat):=(true,[([],[]),([],[]),([0,1],[0,1]),([2],[2]),([],[]),([],[]),([4,5],[4,5]),([6],[6]),([3,7],[3,7]),([8],[8])])
def laws_eqExpS.B6:List Nat:=[0,0,3,7,0,0,48,112,255,511]
theorem laws_eqExpS.tab6:rtab .any (opsOf Try.f31 6)=laws_eqExpS.T6:=by kernel_rfl
theorem laws_eqExpS.bits6:waitsOk laws_eqExpS.T6.2 laws_eqExpS.B6=true:=by kernel_rfl
theorem laws_eqExpS.calls (k:Nat) (A0:Option Addr) (c0:Nat) (l0:List (S63)) (A1:Option Addr) (c1:Nat) (l1:List (S63)) (r:Bool) (w:World) (Br:Kd.C k63 w A0 l0.length l0) (Bs:l0.length≤c0) (Bt:Kd.C k63 w A1 l1.length l1) (Bu:l1.length≤c1) (h:laws_eqExpS.f k l0 l1=some r) :
  Calls Try.prog 31 #[.slice A0 l0.length c0,.slice A1 l1.length c1] w fun e w'=>e=.returned (.bool r)∧Below w.heap.size w w':=by
 have Bw:=Try.underlying63
 have Bx:=y0.mk Br
 have Cc:=y0.mk Bs
 clear Br Bs
 have Bz:=y0.mk Bt
 have Cd:=y0.mk Bu
 clear Bt Bu
 have HB:=y0.mk (Below.refl w.heap.size w)
 have H:(if(l0.length:Int)=(l1.length:Int)then(laws_eqExpS.l0 k l0 l1 0)else(some false))=some r:=h
 clear h
 by_cases c3:(l0.length:Int)=(l1.length:Int)
 ·rw [if_pos c3]at H
  have Bk:((l0.length:Int) == (l1.length:Int))=true:=beq_iff_eq.mpr c3
  have Bl:((l0.length:Int) != (l1.length:Int))=false:=bne_eq_false_iff_eq.mpr c3
  have Bm:(l0.length == l1.length)=true:=by first|simpa using c3|(simp at c3 ⊢;omega)
  clear c3
  have H':=y0.mk H
  clear H
  go_enter Try.func31,Try.ntmps31
  go_wp2
  go_loopg [5] k (fun kq v5 w'=>∃(Aa:Int),v5=.int .i64 Aa∧y0 (laws_eqExpS.l0 kq l0 l1 Aa=some r)∧y0 (kq≤k)∧y0 (Below w.heap.size w w'))
  case atStart=>exact⟨(0),qy2,H',⟨Nat.le_refl _⟩,⟨qb⟩⟩
  case round =>
   clear H'
   (try clear Bk Bl Bm)
   obtain⟨Aa,rfl,HA,Bv,HB⟩:=hrel
   cases gk with
   | zero=>exact absurd HA.out (by simp [laws_eqExpS.l0])
   | succ k1 =>
    have H:=HA.out
    clear HA
    simp only [laws_eqExpS.l0]at H
    by_cases c4:Aa < (l0.length:Int)
    ·rw [if_pos c4]at H
     have Bn:=decide_eq_true c4
     clear c4
     obtain⟨c5,H⟩:=qo H
     have Ca:decide (0≤Aa)=true:=decide_eq_true c5
     clear c5
     obtain⟨c6,H⟩:=qo H
     have Cb:decide (Aa < (l1.length:Int))=true:=decide_eq_true c6
     clear c6
     obtain⟨Bo,A7,H⟩:=qB H
     try go_wp2
     replace HB:=y0.mk (y2 HB.out)
     have Bg:0≤(Aa:Int):=qd
     have Bh:Aa < (l0.length:Int):=qd
     obtain⟨Au,Aw,Ax,Bp,Ai,Aj,Ak,Ba,Bb⟩:=at_T63 Bx.out Aa Bg Bh
     have Ab:=Ak
     have Ac:=Aj
     have Ad:=Ai
     cases Bp
     replace Ai:=qC Ai HB
     replace Aj:=qC Aj HB
     replace Ak:=qC Ak HB
     have As:=y0.mk Bb
     have Bc:=y0.mk Ba
     clear Bb Ba
     replace Bg:=eq_true Bg
     replace Bh:=eq_true Bh
     have Bi:0≤(Aa:Int):=qd
     have Bj:Aa < (l1.length:Int):=qd
     obtain⟨Av,Ay,Az,Bq,Am,Ap,Ar,Bd,Be⟩:=at_T63 Bz.out Aa Bi Bj
     have Af:=Ar
     have Ag:=Ap
     have Ah:=Am
     cases Bq
     replace Am:=qC Am HB
     replace Ap:=qC Ap HB
     replace Ar:=qC Ar HB
     have At:=y0.mk Be
     have Bf:=y0.mk Bd
     clear Be Bd
     replace Bi:=eq_true Bi
     replace Bj:=eq_true Bj
     refine start_ (n:=10) (S:=fun w'=>w'.cell? (Au.add ((Aa).toNat * 3))=some (.int .i64 ((y19 l0 Aa).f0))∧w'.cell? ⟨(Au.add ((Aa).toNat * 3)).block,(Au.add ((Aa).toNat * 3)).off + 1,none⟩=some (.string ((y19 l0 Aa).f1))∧w'.cell? ⟨(Au.add ((Aa).toNat * 3)).block,(Au.add ((Aa).toNat * 3)).off + 2,none⟩=some (.slice Aw ((y19 l0 Aa).f2).length Ax)∧w'.cell? (Av.add ((Aa).toNat * 3))=some (.int .i64 ((y19 l1 Aa).f0))∧w'.cell? ⟨(Av.add ((Aa).toNat * 3)).block,(Av.add ((Aa).toNat * 3)).off + 1,none⟩=some (.string ((y19 l1 Aa).f1))∧w'.cell? ⟨(Av.add ((Aa).toNat * 3)).block,(Av.add ((Aa).toNat * 3)).off + 2,none⟩=some (.slice Ay ((y19 l1 Aa).f2).length Az)) (ds:=[]) (fl_ 10 0) (by kernel_rfl) rfl rfl ⟨(qC Ad HB),(qC Ac HB),(qC Ab HB),(qC Ah HB),(qC Ag HB),(qC Af HB)⟩ (fun hHeld=>?_);refine with_tabW laws_eqExpS.tab6 laws_eqExpS.bits6 (fun HT_ HW_=>?_)
     generalize wr.drew=w9 at HB As At Ai Aj Ak Am Ap Ar hHeld ⊢
     refine qp3 0 17 10 ?_
     by_cases c8:Bo=true
     ·subst c8
      replace H:=qT H
      have H':=y0.mk H
      clear H
      refine qp 4 21 (fl_ 10 23) ?_
      refine qp 5 22 (fl_ 10 55) ?_
      refine qp 6 23 (fl_ 10 119) ?_
      refine qt 3 20 (fl_ 10 127) hHeld ?_
      refine qt 7 24 (fl_ 10 255) hHeld ?_
      refine qO 8 25 (fl_ 10 511) (fun K hK=>?_)
      refine goes_ Try.func55 (by kernel_rfl) rfl #[.agg #[.int .i64 ((y19 l0 Aa).f0),.string ((y19 l0 Aa).f1),.slice Aw ((y19 l0 Aa).f2).length Ax],.agg #[.int .i64 ((y19 l1 Aa).f0),.string ((y19 l1 Aa).f1),.slice Ay ((y19 l1 Aa).f2).length Az]] (by rfl) rfl rfl qy1 ?_
      with_reducible refine(laws_eqExp.calls k1 ((y19 l0 Aa).f0) ((y19 l0 Aa).f1) _ _ ((y19 l0 Aa).f2) ((y19 l1 Aa).f0) ((y19 l1 Aa).f1) _ _ ((y19 l1 Aa).f2) true _ (qc (Kd.C_below As.out HB.out)) Bc.out (qc (Kd.C_below At.out HB.out)) Bf.out A7.out).mono ?_
      rintro e Ce ⟨rfl,hb⟩
      refine⟨_,rfl, ?_⟩
      replace HB:=y0.mk (y4 qb hb)
      (try clear hb)
      refine hK.out _ _ ⟨(qC Ad HB),(qC Ac HB),(qC Ab HB),(qC Ah HB),(qC Ag HB),(qC Af HB)⟩ (fun hHeld=>?_)
      clear hK K
      refine qx 25 ?_
      refine qp 9 26 (fl_ 10 1023) ?_
      refine done_ (done_of HT_.out (by kernel_rfl)) ?_
      try go_wp2
      go_roundg k1
      case measure=>have:=Bv.out;omega
      exact⟨(wrap64 (Aa + 1)),qy2,H',⟨by have:=Bv.out;omega⟩,⟨qb⟩⟩
     ·replace c8:=Bool.eq_false_iff.mpr c8
      subst c8
      replace H:=qF H
      obtain rfl:=Option.some.inj H
      refine qp 4 21 (fl_ 10 23) ?_
      refine qp 5 22 (fl_ 10 55) ?_
      refine qp 6 23 (fl_ 10 119) ?_
      refine qt 3 20 (fl_ 10 127) hHeld ?_
      refine qt 7 24 (fl_ 10 255) hHeld ?_
      refine qO 8 25 (fl_ 10 511) (fun K hK=>?_)
      refine goes_ Try.func55 (by kernel_rfl) rfl #[.agg #[.int .i64 ((y19 l0 Aa).f0),.string ((y19 l0 Aa).f1),.slice Aw ((y19 l0 Aa).f2).length Ax],.agg #[.int .i64 ((y19 l1 Aa).f0),.string ((y19 l1 Aa).f1),.slice Ay ((y19 l1 Aa).f2).length Az]] (by rfl) rfl rfl qy1 ?_
      with_reducible refine(laws_eqExp.calls k1 ((y19 l0 Aa).f0) ((y19 l0 Aa).f1) _ _ ((y19 l0 Aa).f2) ((y19 l1 Aa).f0) ((y19 l1 Aa).f1) _ _ ((y19 l1 Aa).f2) false _ (qc (Kd.C_below As.out HB.out)) Bc.out (qc (Kd.C_below At.out HB.out)) Bf.out A7.out).mono ?_
      rintro e Cf ⟨rfl,hb⟩
      refine⟨_,rfl, ?_⟩
      replace HB:=y0.mk (y4 qb hb)
      (try clear hb)
      refine hK.out _ _ ⟨(qC Ad HB),(qC Ac HB),(qC Ab HB),(qC Ah HB),(qC Ag HB),(qC Af HB)⟩ (fun hHeld=>?_)
      clear hK K
      refine qx 25 ?_
      refine qp 9 26 (fl_ 10 1023) ?_
      refine done_ (done_of HT_.out (by kernel_rfl)) ?_
      try go_wp2
      go_ret
      exact⟨qf,qb⟩
    ·rw [if_neg c4]at H
     have Bn:=decide_eq_false c4
     clear c4
     obtain rfl:=Option.some.inj H
     go_wp2
     go_ret
     exact⟨qf,qb⟩
 ·rw [if_neg c3]at H
  have Bk:((l0.length:Int) == (l1.length:Int))=false:=beq_eq_false_iff_ne.mpr c3
  have Bl:((l0.length:Int) != (l1.length:Int))=true:=bne_iff_ne.mpr c3
  have Bm:(l0.length == l1.length)=false:=by first|simpa using c3|(simp at c3 ⊢;omega)
  obtain rfl:=Option.some.inj H
  go_enter Try.func31,Try.ntmps31
  go_wp2
  go_ret
  exact⟨qf,qb⟩
def laws_eqLit.f (k:Nat) (Ae:Int) (Al:ByteArray) (An:List Int) (Ao:Int) (Aq:ByteArray) (By:List Int):Option (Bool):=if Ae=Ao then(if Al.toList=Aq.toList then((laws_eqIntS.f k An By).bind fun Di=>(if Di=true then(some true)else(some false)))else(some false))else(some false)
theorem laws_eqLit.calls (k:Nat) (Ag:Int) (Ah:ByteArray) (Am:Option Addr) (Ap:Nat) (Ad:List Int) (Ai:Int) (Aj:ByteArray) (Ar:Option Addr) (As:Nat) (Af:List Int) (r:Bool) (w:World) (Az:Kd.C (Kd.int .i64) w Am Ad.length Ad) (Ba:Ad.length≤Ap) (Bb:Kd.C (Kd.int .i64) w Ar Af.length Af) (Bc:Af.length≤As) (h:laws_eqLit.f k Ag Ah Ad Ai Aj Af=some r) :
  Calls Try.prog 32 #[.agg #[.int .i64 Ag,.string Ah,.slice Am Ad.length Ap],.agg #[.int .i64 Ai,.string Aj,.slice Ar Af.length As]] w fun e w'=>e=.returned (.bool r)∧Below w.heap.size w w':=by
 have Dr:=Try.underlying33
 have Bd:=y0.mk Az
 have Be:=y0.mk Ba
 clear Az Ba
 have Bf:=y0.mk Bb
 have Bg:=y0.mk Bc
 clear Bb Bc
 have HB:=y0.mk (Below.refl w.heap.size w)
 have H:(if Ag=Ai then(if Ah.toList=Aj.toList then((laws_eqIntS.f k Ad Af).bind fun Bh=>(if Bh=true then(some true)else(some false)))else(some false))else(some false))=some r:=h
 clear h
 by_cases c3:Ag=Ai
 ·rw [if_pos c3]at H
  have Dg:(Ag == Ai)=true:=beq_iff_eq.mpr c3
  have Dh:(Ag != Ai)=false:=bne_eq_false_iff_eq.mpr c3
  clear c3
  by_cases c4:Ah.toList=Aj.toList
  ·rw [if_pos c4]at H
   have Di:(Ah.toList == Aj.toList)=true:=beq_iff_eq.mpr c4
   have Dj:(Ah.toList != Aj.toList)=false:=bne_eq_false_iff_eq.mpr c4
   clear c4
   obtain⟨Bh,A5,H⟩:=qB H
   by_cases c6:Bh=true
   ·subst c6
    replace H:=qT H
    obtain rfl:=Option.some.inj H
    go_enter Try.func32,Try.ntmps32
    go_wp2_with (first|((with_reducible refine y16 (N:=2) rfl ?_);refine qe 2 #[.int .i64 Ag,.string Ah,.slice Am Ad.length Ap] 33 ?_;intro At hg w7 hbox hb;have Aa:=y0.mk (hbox);have Au:=y0.mk (qg (w:=w) hg);have Av:=y0.mk (qg (w:=w) hg);replace HB:=y0.mk (y4 qb hb);clear hb hbox hg)|((with_reducible refine y16 (N:=3) rfl ?_);refine qe 3 #[.int .i64 Ai,.string Aj,.slice Ar Af.length As] 33 ?_;intro Aw hg w8 hbox hb;have Ak:=y0.mk (hbox);have Ax:=y0.mk (qg (w:=w) hg);have Ay:=y0.mk (qg (w:=w) hg);replace HB:=y0.mk (y4 qb hb);have Ab:=y0.mk (qn Aa.out hg);have Ac:=y0.mk (qm Aa.out hg);replace Aa:=y0.mk (qK Aa.out hb);clear hb hbox hg;have Ds:=Ab.out;have Dt:=Ac.out;obtain⟨Bi,Bj,Bk,Bl,Bm,Bn⟩:=qz3 Aa.out;obtain⟨Bo,Bp,Bq,Br,Bs,Bt⟩:=qz3 Ak.out)|((with_reducible refine y15 (f:=56) rfl ?_);refine y17 (some 19) rfl rfl Try.func56 (by kernel_rfl) rfl #[.slice Am Ad.length Ap,.slice Ar Af.length As] rfl qy1 ?_;(with_reducible refine(laws_eqIntS.calls k _ _ Ad _ _ Af true _ (qc (Kd.C_below Bd.out HB.out)) Be.out (qc (Kd.C_below Bf.out HB.out)) Bg.out A5.out).mono ?_);rintro e w' ⟨rfl,⟨nd,rfl⟩⟩;refine⟨_,rfl, ?_⟩))
    go_ret
    exact⟨qf,qb⟩
   ·replace c6:=Bool.eq_false_iff.mpr c6
    subst c6
    replace H:=qF H
    obtain rfl:=Option.some.inj H
    go_enter Try.func32,Try.ntmps32
    go_wp2_with (first|((with_reducible refine y16 (N:=2) rfl ?_);refine qe 2 #[.int .i64 Ag,.string Ah,.slice Am Ad.length Ap] 33 ?_;intro At hg Du hbox hb;have Aa:=y0.mk (hbox);have Au:=y0.mk (qg (w:=w) hg);have Av:=y0.mk (qg (w:=w) hg);replace HB:=y0.mk (y4 qb hb);clear hb hbox hg)|((with_reducible refine y16 (N:=3) rfl ?_);refine qe 3 #[.int .i64 Ai,.string Aj,.slice Ar Af.length As] 33 ?_;intro Aw hg Dw hbox hb;have Ak:=y0.mk (hbox);have Ax:=y0.mk (qg (w:=w) hg);have Ay:=y0.mk (qg (w:=w) hg);replace HB:=y0.mk (y4 qb hb);have Ab:=y0.mk (qn Aa.out hg);have Ac:=y0.mk (qm Aa.out hg);replace Aa:=y0.mk (qK Aa.out hb);clear hb hbox hg;have Dk:=Ab.out;have Dl:=Ac.out;obtain⟨Bu,Bv,Bw,Bx,Bz,Ca⟩:=qz3 Aa.out;obtain⟨Cb,Cc,Cd,Ce,Cf,Cg⟩:=qz3 Ak.out)|((with_reducible refine y15 (f:=56) rfl ?_);refine y17 (some 19) rfl rfl Try.func56 (by kernel_rfl) rfl #[.slice Am Ad.length Ap,.slice Ar Af.length As] rfl qy1 ?_;(with_reducible refine(laws_eqIntS.calls k _ _ Ad _ _ Af false _ (qc (Kd.C_below Bd.out HB.out)) Be.out (qc (Kd.C_below Bf.out HB.out)) Bg.out A5.out).mono ?_);rintro e w' ⟨rfl,⟨nd,rfl⟩⟩;refine⟨_,rfl, ?_⟩))
    go_ret
    exact⟨qf,qb⟩
  ·rw [if_neg c4]at H
   have Di:(Ah.toList == Aj.toList)=false:=beq_eq_false_iff_ne.mpr c4
   have Dj:(Ah.toList != Aj.toList)=true:=bne_iff_ne.mpr c4
   obtain rfl:=Option.some.inj H
   go_enter Try.func32,Try.ntmps32
   go_wp2_with (first|((with_reducible refine y16 (N:=2) rfl ?_);refine qe 2 #[.int .i64 Ag,.string Ah,.slice Am Ad.length Ap] 33 ?_;intro At hg Dx hbox hb;have Aa:=y0.mk (hbox);have Au:=y0.mk (qg (w:=w) hg);have Av:=y0.mk (qg (w:=w) hg);replace HB:=y0.mk (y4 qb hb);clear hb hbox hg)|((with_reducible refine y16 (N:=3) rfl ?_);refine qe 3 #[.int .i64 Ai,.string Aj,.slice Ar Af.length As] 33 ?_;intro Aw hg Dy hbox hb;have Ak:=y0.mk (hbox);have Ax:=y0.mk (qg (w:=w) hg);have Ay:=y0.mk (qg (w:=w) hg);replace HB:=y0.mk (y4 qb hb);have Ab:=y0.mk (qn Aa.out hg);have Ac:=y0.mk (qm Aa.out hg);replace Aa:=y0.mk (qK Aa.out hb);clear hb hbox hg;have Dm:=Ab.out;have Do:=Ac.out;obtain⟨Ch,Ci,Cj,Ck,Cl,Cm⟩:=qz3 Aa.out;obtain⟨Cn,Cp,Cq,Cr,Cs,Ct⟩:=qz3 Ak.out))
   go_ret
   exact⟨qf,qb⟩
 ·rw [if_neg c3]at H
  have Dg:(Ag == Ai)=false:=beq_eq_false_iff_ne.mpr c3
  have Dh:(Ag != Ai)=true:=bne_iff_ne.mpr c3
  obtain rfl:=Option.some.inj H
  go_enter Try.func32,Try.ntmps32
  go_wp2_with (first|((with_reducible refine y16 (N:=2) rfl ?_);refine qe 2 #[.int .i64 Ag,.string Ah,.slice Am Ad.length Ap] 33 ?_;intro At hg Dz hbox hb;have Aa:=y0.mk (hbox);have Au:=y0.mk (qg (w:=w) hg);have Av:=y0.mk (qg (w:=w) hg);replace HB:=y0.mk (y4 qb hb);clear hb hbox hg)|((with_reducible refine y16 (N:=3) rfl ?_);refine qe 3 #[.int .i64 Ai,.string Aj,.slice Ar Af.length As] 33 ?_;intro Aw hg Ea hbox hb;have Ak:=y0.mk (hbox);have Ax:=y0.mk (qg (w:=w) hg);have Ay:=y0.mk (qg (w:=w) hg);replace HB:=y0.mk (y4 qb hb);have Ab:=y0.mk (qn Aa.out hg);have Ac:=y0.mk (qm Aa.out hg);replace Aa:=y0.mk (qK Aa.out hb);clear hb hbox hg;have Dp:=Ab.out;have Dq:=Ac.out;obtain⟨Cu,Cv,Cw,Cx,Cy,Cz⟩:=qz3 Aa.out;obtain⟨Da,Db,Dc,Dd,De,Df⟩:=qz3 Ak.out))
  go_ret
  exact⟨qf,qb⟩
end Go.Proofs.Ytkdabljlfbmpdaa.Pw
end
