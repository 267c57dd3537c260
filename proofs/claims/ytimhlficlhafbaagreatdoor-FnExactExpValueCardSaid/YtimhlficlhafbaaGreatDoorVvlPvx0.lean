-- Cut by prune.py.
import Derived.Test.YtimhlficlhafbaaGreatDoorVvlWAt
import Derived.Test.YtimhlficlhafbaaGreatDoorVvlWRepsOne
import Derived.Test.YtimhlficlhafbaaGreatDoorVvlWInv
import Derived.Test.YtimhlficlhafbaaGreatDoorVvlWGuard
import Derived.Test.YtimhlficlhafbaaGreatDoorVvlQMapI
import Derived.Test.YtimhlficlhafbaaGreatDoorVvlShelf
import Derived.WalkSmall
import Derived.Test.YtimhlficlhafbaaGreatDoorVvlQRead
import Derived.Test.YtimhlficlhafbaaGreatDoorVvlQWords
set_option maxHeartbeats 8000000
set_option maxRecDepth 100000
section
namespace Go.Proofs.YtimhlficlhafbaaGreatDoor.Pv
open RowKit YtimhlficlhafbaaGreatDoorW.PrintWords YtimhlficlhafbaaGreatDoorW.PrintLast YtimhlficlhafbaaGreatDoorW.PrintMore
set_option linter.unusedVariables false
set_option linter.unusedSimpArgs false
theorem qy0 {P:Prop} (h:P:=by first|(with_reducible assumption)|assumption):P:=h
theorem qy1 {P:Prop} (h:P:=by(try simp only [qM_,List.map_cons,List.map_nil]);first|done|rfl|(simp only [qD_,qT_];rfl)):P:=h
theorem qy2 {P:Prop} (h:P:=by first|rfl|(simp;done)|(simp [*];done)):P:=h
theorem qy3 {P:Prop} (h:P:=by have:(0:Int) < (a0.size:Int):=of_decide_eq_true (by first|(with_reducible assumption)|assumption);omega):P:=h
theorem qy4 {P:Prop} (h:P:=by first|(rw [y2];exact hn278_0)|(show(Addr.add _ _).block≠_;rw [y2];exact hn278_0)|exact hn278_0):P:=h
theorem qy5 {P:Prop} (h:P:=by first|(rw [y2];exact hn278_1)|(show(Addr.add _ _).block≠_;rw [y2];exact hn278_1)|exact hn278_1):P:=h
theorem qy6 {P:Prop} (h:P:=by first|(rw [y2];exact hn278_2)|(show(Addr.add _ _).block≠_;rw [y2];exact hn278_2)|exact hn278_2):P:=h
theorem qy7 {P:Prop} (h:P:=by have:=World.block_lt_of_cell? _ _ hx294_0;first|rwa [y2]at this|exact this):P:=h
theorem qb {w W:World} (h:Below w.heap.size w W:=by repeat(first|(with_reducible first|exact HB.out|apply below_alloc|apply pw_below_drewN|apply below_drew1|refine below_set ?_ (y0.out (by with_reducible assumption)))|exact HB.out)):Below w.heap.size w W:=h
theorem qg {w W:World} {g:Nat} (e:g=W.heap.size) (h:Below w.heap.size w W:=by repeat(first|(with_reducible first|exact HB.out|apply below_alloc|apply pw_below_drewN|apply below_drew1|refine below_set ?_ (y0.out (by with_reducible assumption)))|exact HB.out)):w.heap.size≤g:=by rw [e];exact y4 h
theorem qk {w W:World} {g:Nat} {o:Obj} (h:w.heap[g]?=some o) (h1:Below w.heap.size w W:=by repeat(first|with_reducible exact Below.refl _ _|with_reducible apply below_alloc|with_reducible apply pw_below_drewN|with_reducible apply below_drew1)):W.heap[g]?=some o:=y7 h h1
theorem qK {w W w2:World} {g:Nat} {o:Obj} (h:w.heap[g]?=some o) (hb:Below W.heap.size W w2) (h1:Below w.heap.size w W:=by repeat(first|with_reducible exact Below.refl _ _|with_reducible apply below_alloc|with_reducible apply pw_below_drewN|with_reducible apply below_drew1)):w2.heap[g]?=some o:=y7 (y7 h h1) hb
theorem qC {w W:World} {p:Addr} {v:Value} (h:w.cell? p=some v) (b:y0 (Below w.heap.size w W)):W.cell? p=some v:=(b.out.cell (World.block_lt_of_cell? w _ h)).trans h
theorem qd {P:Prop} [Decidable P] (h:decide P=true:=by first|(with_reducible assumption)|assumption):P:=of_decide_eq_true h
theorem qfR {α:Type} {d:Kd α} {e base:Nat} {w:World} {ok:Nat→Prop} {v:Value} {xs:List α} (g:Nat) (h:d.R e w base (fun k=>ok k∧k≠g) v xs) (a b c:Value):d.R e (((w.setCell ⟨g,0,none⟩ a).setCell ⟨g,1,none⟩ b).setCell ⟨g,2,none⟩ c) base (fun k=>ok k∧k≠g) v xs:=Kd.R_far (p:=⟨g,2,none⟩) (Kd.R_far (p:=⟨g,1,none⟩) (Kd.R_far (p:=⟨g,0,none⟩) h (fun _ hk=>hk.2) a) (fun _ hk=>hk.2) b) (fun _ hk=>hk.2) c
theorem qfV {α:Type} {d:Kd α} {e base:Nat} {w:World} {ok:Nat→Prop} {v:Value} {xs:List α} (g:Nat) (h:Kd.V d e w base (fun k=>ok k∧k≠g) v xs) (a b c:Value):Kd.V d e (((w.setCell ⟨g,0,none⟩ a).setCell ⟨g,1,none⟩ b).setCell ⟨g,2,none⟩ c) base (fun k=>ok k∧k≠g) v xs:=Kd.V_far (p:=⟨g,2,none⟩) (Kd.V_far (p:=⟨g,1,none⟩) (Kd.V_far (p:=⟨g,0,none⟩) h (fun _ hk=>hk.2) a) (fun _ hk=>hk.2) b) (fun _ hk=>hk.2) c
theorem qfS {α:Type} {d:Kd α} {e base:Nat} {w:World} {ok:Nat→Prop} {v:Value} {xs:List α} (g:Nat) (h:Kd.S d e w base (fun k=>ok k∧k≠g) v xs) (a b c:Value):Kd.S d e (((w.setCell ⟨g,0,none⟩ a).setCell ⟨g,1,none⟩ b).setCell ⟨g,2,none⟩ c) base (fun k=>ok k∧k≠g) v xs:=Kd.S_far (p:=⟨g,2,none⟩) (Kd.S_far (p:=⟨g,1,none⟩) (Kd.S_far (p:=⟨g,0,none⟩) h (fun _ hk=>hk.2) a) (fun _ hk=>hk.2) b) (fun _ hk=>hk.2) c
theorem qn {w W:World} {g g2:Nat} {o:Obj} (h:w.heap[g]?=some o) (e:g2=W.heap.size) (h1:Below w.heap.size w W:=by repeat(first|with_reducible exact Below.refl _ _|with_reducible apply below_alloc|with_reducible apply pw_below_drewN|with_reducible apply below_drew1)):g≠g2:=by rw [e];exact Nat.ne_of_lt (blk_lt (y7 h h1))
theorem qm {w W:World} {g g2:Nat} {o:Obj} (h:w.heap[g]?=some o) (e:g2=W.heap.size) (h1:Below w.heap.size w W:=by repeat(first|with_reducible exact Below.refl _ _|with_reducible apply below_alloc|with_reducible apply pw_below_drewN|with_reducible apply below_drew1)):g2≠g:=Ne.symm (qn h e h1)
theorem qc {α:Type} {d:Kd α} {w W:World} {A:Option Addr} {n:Nat} {xs:List α} (h:d.C w A n xs) (h1:Below w.heap.size w W:=by repeat(first|with_reducible exact Below.refl _ _|with_reducible apply below_alloc|with_reducible apply pw_below_drewN|with_reducible apply below_drew1)):d.C W A n xs:=Kd.C_below h h1
theorem qo {P:Prop} [Decidable P] {α:Type} {X Y:Option α} {r:α} (h:(if P then X else Y)=some r) (hn:¬(Y=some r):=by simp):P∧X=some r:=by
 by_cases c:P
 ·rw [if_pos c]at h
  exact⟨c,h⟩
 ·rw [if_neg c]at h
  exact absurd h hn
theorem qB {α β:Type} {x:Option α} {f:α→Option β} {r:β} (h:x.bind f=some r):∃ t,y0 (x=some t)∧f t=some r:=by
 obtain⟨t,a,b⟩:=Option.bind_eq_some_iff.mp h
 exact⟨t,⟨a⟩,b⟩
theorem qT {α:Type} {X Y:Option α} {r:α} {d:Decidable (true=true)} (h:(@ite _ (true=true) d X Y)=some r):X=some r:=by rwa [if_pos rfl]at h
theorem qF {α:Type} {X Y:Option α} {r:α} {d:Decidable (false=true)} (h:(@ite _ (false=true) d X Y)=some r):Y=some r:=by rwa [if_neg Bool.false_ne_true]at h
theorem qs {M X Y:Nat} (h:(M < X)=False) (e:Y=X:=by simp only [ByteArray.size_append];first|done|rfl|(simp only [← Nat.add_assoc];rfl)):(M < Y)=False:=by rw [e];exact h
theorem qR {α:Type} {d:Kd α} {e base:Nat} {w W:World} {ok:Nat→Prop} {v:Value} {xs:List α} (h:d.R e w base ok v xs) (h1:Below w.heap.size w W:=by repeat(first|with_reducible exact Below.refl _ _|with_reducible apply below_alloc|with_reducible apply pw_below_drewN|with_reducible apply below_drew1|exact⟨rfl,rfl,rfl,Nat.le_refl _,fun _ _=>rfl⟩)):d.R e W base ok v xs:=Kd.R_below h h1
theorem qS {α:Type} {d:Kd α} {e base:Nat} {w W:World} {ok:Nat→Prop} {v:Value} {xs:List α} (h:Kd.S d e w base ok v xs) (h1:Below w.heap.size w W:=by repeat(first|with_reducible exact Below.refl _ _|with_reducible apply below_alloc|with_reducible apply pw_below_drewN|with_reducible apply below_drew1)):Kd.S d e W base ok v xs:=Kd.S_below h h1
theorem qN {α:Type} {d:Kd α} {e base:Nat} {w W:World} {ok:Nat→Prop} {v:Value} {xs:List α} (h:Kd.N d e w base ok v xs) (h1:Below w.heap.size w W:=by repeat(first|with_reducible exact Below.refl _ _|with_reducible apply below_alloc|with_reducible apply pw_below_drewN|with_reducible apply below_drew1)):Kd.N d e W base ok v xs:=Kd.N_below h h1
theorem qV {α:Type} {d:Kd α} {e base:Nat} {w W:World} {ok:Nat→Prop} {v:Value} {xs:List α} (h:Kd.V d e w base ok v xs) (h1:Below w.heap.size w W:=by repeat(first|with_reducible exact Below.refl _ _|with_reducible apply below_alloc|with_reducible apply pw_below_drewN|with_reducible apply below_drew1)):Kd.V d e W base ok v xs:=Kd.V_below h h1
theorem qz3 {w:World} {g t:Nat} {a0 a1 a2:Value} (h:w.heap[g]?=some (.cells #[a0,a1,a2] t (0,0))):w.cell? ⟨g,0,none⟩=some a0∧w.cell? ⟨g,1,none⟩=some a1∧w.cell? ⟨g,2,none⟩=some a2∧w.frozen? ⟨g,0,none⟩=false∧w.frozen? ⟨g,1,none⟩=false∧w.frozen? ⟨g,2,none⟩=false:=⟨(y8 h 0).trans rfl,(y8 h 1).trans rfl,(y8 h 2).trans rfl,blk_frozen h 0,blk_frozen h 1,blk_frozen h 2⟩
theorem qz5 {w:World} {g t:Nat} {a0 a1 a2 a3 a4:Value} (h:w.heap[g]?=some (.cells #[a0,a1,a2,a3,a4] t (0,0))):w.cell? ⟨g,0,none⟩=some a0∧w.cell? ⟨g,1,none⟩=some a1∧w.cell? ⟨g,2,none⟩=some a2∧w.cell? ⟨g,3,none⟩=some a3∧w.cell? ⟨g,4,none⟩=some a4∧w.frozen? ⟨g,0,none⟩=false∧w.frozen? ⟨g,1,none⟩=false∧w.frozen? ⟨g,2,none⟩=false∧w.frozen? ⟨g,3,none⟩=false∧w.frozen? ⟨g,4,none⟩=false:=⟨(y8 h 0).trans rfl,(y8 h 1).trans rfl,(y8 h 2).trans rfl,(y8 h 3).trans rfl,(y8 h 4).trans rfl,blk_frozen h 0,blk_frozen h 1,blk_frozen h 2,blk_frozen h 3,blk_frozen h 4⟩
section
variable {P : Program} {ops : Array Oper} {rest : List Oper} {o : Oper} {a : Act} {Q : Exit → Act → World → Prop}
theorem qe {W:World} (N:Tmp) (cs:Array Value) (t:TypeId) (h:∀ g,g=W.heap.size→∀ w1,w1.heap[g]?=some (.cells cs t (0,0))→Below W.heap.size W w1→wpList P ops Q rest (a.put o.dst (.pointer (some ⟨g,0,none⟩))) w1) (hg:o.guard=none:=by rfl) (hd:o.dst=some N:=by rfl)
  (hr:(execOp a.eval o).run P W=.ok (.value (.pointer (some ⟨W.heap.size,0,none⟩))) (W.alloc (.cells cs t (0,0))):=by first|(go_simp;done)|(go_simp;rfl)):wpList P ops Q (o :: rest) a W:=box_event hg hd hr h
theorem qL {α:Type} {W:World} (d:Kd α) (e:Nat) (N:Tmp) (xs:List α) {inner:List Value} (h:∀ v1 w1,d.R e w1 W.heap.size (fun _=>True) v1 xs→Below W.heap.size W w1→W.grownBy w1 none→(∃ b,v1.ownBlock=some b∧W.heap.size≤b)→wpList P ops Q rest (a.put o.dst v1) w1) (hg:o.guard=none:=by rfl) (hd:o.dst=some N:=by rfl) (hp:Reps (d.M W W.heap.size (fun _=>True)) d.sz xs inner:=by repeat(first|exact Reps.none _ _|(refine Reps.one (v:=?_) (cs:=?_) ?_ ?_;rotate_left;rotate_left;rfl)))
  (hr:(execOp a.eval o).run P W=.ok (.value (.slice (some ⟨W.heap.size,0,none⟩) xs.length xs.length)) (W.alloc (.cells inner.toArray e)):=by first|(go_simp;done)|(go_simp;rfl)) (hm:xs.length≤9223372036854775807:=by simp):wpList P ops Q (o :: rest) a W:=Kd.R_lit d (w0:=W) W.heap.size e hg hd hr hp (fun _ h=>h) trivial (Below.refl _ _) (Nat.le_refl _) hm h
theorem qLs {α:Type} {W:World} {Kc:Act→World→Prop} (d:Kd α) (e:Nat) (N:Tmp) (xs:List α) {inner:List Value} (h:∀ v1 w1,d.R e w1 W.heap.size (fun _=>True) v1 xs→Below W.heap.size W w1→W.grownBy w1 none→(∃ b,v1.ownBlock=some b∧W.heap.size≤b)→Kc (a.put o.dst v1) w1) (hg:Region.wanted o (yielded ops a.tmps)=true:=by rfl) (hd:o.dst=some N:=by rfl) (hp:Reps (d.M W W.heap.size (fun _=>True)) d.sz xs inner:=by repeat(first|exact Reps.none _ _|(refine Reps.one (v:=?_) (cs:=?_) ?_ ?_;rotate_left;rotate_left;rfl)))
  (hr:(execOp a.eval o).run P W=.ok (.value (.slice (some ⟨W.heap.size,0,none⟩) xs.length xs.length)) (W.alloc (.cells inner.toArray e)):=by first|(go_simp;done)|(go_simp;rfl)) (hm:xs.length≤9223372036854775807:=by simp):if Region.wanted o (yielded ops a.tmps)=true then Oper.wp P o a W Kc Q else Kc (a.put o.dst undef) W:=Kd.R_lit_step d (w0:=W) W.heap.size e hg hd hr hp (fun _ h=>h) trivial (Below.refl _ _) (Nat.le_refl _) hm h
end
theorem qf {P:Prop} (h:P:=by first|rfl|(simp [y15,y16] <;> rfl)|(simp [*,y15,y16] <;> rfl)):P:=h
theorem qf2 {P:Prop} {w w2:World} (h:P:=by first|rfl|(simp;done)|(simp [*];done)) (h2:y1 w w2:=by repeat(first|exact y1.refl _|apply y1.step)):P∧y1 w w2:=⟨h,h2⟩
section
variable {P : Program} {ops : Array Oper} {Q : Exit → Act → World → Prop} {md : Region.Mode} {S : World → Prop} {ds : List Nat}
theorem qp {oi:Oper} {v:Value} {fuel:Nat} {l:Array Bool} {a a':Act} {w:World} (i:Nat) (N:Tmp) (l':Array Bool) (h:y25 P md ops Q S ds fuel l' a' w) (hi:ops[i]?=some oi:=by exact rfl) (hN:oi.dst=some N:=by exact rfl) (hc:anyB md ops l l' i=true:=by first|exact any_of HT_.out (by kernel_rfl)|kernel_rfl)
  (hQ:∀ c a w,Q (.panic c) (a.put oi.dst v) w→Q (.panic c) a w:=by exact fun _ _ _ h=>h) (hy:Yields P ops oi v a:=by first|(refine Or.inl ⟨by rfl, ?_⟩;intro w';go_simp;with_reducible rfl)|exact Or.inr ⟨by rfl,rfl⟩) (ha:a.put (some N) v=a':=by simp only [Act.put,qS_,qZ_,qC_,i64_w,i32_w];rfl):y25 P md ops Q S ds (fuel + 1) l a w:=pure_ l' hi hN hc hQ hy ha h
theorem qt {oi:Oper} {v:Value} {fuel:Nat} {l:Array Bool} {a a':Act} {w:World} (i:Nat) (N:Tmp) (l':Array Bool) (hS:S w) (h:y25 P md ops Q S ds fuel l' a' w) (hi:ops[i]?=some oi:=by exact rfl) (hN:oi.dst=some N:=by exact rfl) (hc:takeB md ops ds l l' i=true:=by first|exact take_ofW HT_.out HW_.out (by kernel_rfl)|kernel_rfl)
  (hQ:∀ c a w,Q (.panic c) (a.put oi.dst v) w→Q (.panic c) a w:=by exact fun _ _ _ h=>h) (hy:YieldsIf P ops S oi v a:=by refine Or.inl ⟨by rfl, ?_⟩;intro w' hs_;(repeat(obtain⟨s_,hs_⟩:_∧_:=hs_));go_simp;with_reducible rfl) (ha:a.put (some N) v=a':=by simp only [Act.put,qS_,qZ_,qC_,i64_w,i32_w];rfl):y25 P md ops Q S ds (fuel + 1) l a w:=take_ l' hi hN hc hQ hy hS ha h
theorem qO {oi:Oper} {fuel:Nat} {l:Array Bool} {a:Act} {w:World} (i:Nat) (N:Tmp) (l':Array Bool) (h:∀ K:Act→World→Prop,Shut (∀ a' w',S w'→(S w'→y25 P md ops Q S ds fuel l' a' w')→K a' w')→if Region.wanted oi (yielded ops a.tmps)=true then Oper.wp P oi a w K Q else K (a.put (some N) undef) w) (hi:ops[i]?=some oi:=by exact rfl) (hN:oi.dst=some N:=by exact rfl) (hc:readyB md ops l l' i=true:=by first|exact one_of HT_.out (by kernel_rfl)|kernel_rfl) (hd:i∉ds:=by decide):y25 P md ops Q S ds (fuel + 1) l a w:=one_ l' hi hN hc hd h
theorem qx {fuel:Nat} {v:Value} {l:Array Bool} {a a':Act} {w:World} (N:Tmp) (h:y25 P md ops Q S ds fuel l a' w) (ha:a.put (some N) v=a':=by simp only [Act.put,qS_,qZ_,qC_,i64_w,i32_w];rfl):y25 P md ops Q S ds fuel l (a.put (some N) v) w:=norm_ ha h
def qY (P:Program) (ops:Array Oper) (Q:Exit→Act→World→Prop) (md:Region.Mode) (l l':Array Bool) (i N:Nat) (a a':Act):Prop:=∀(S:World→Prop) (ds:List Nat) (fuel:Nat) (w:World),y25 P md ops Q S ds fuel l' a' w→y25 P md ops Q S ds (fuel + 1) l a w
theorem qY_ {oi:Oper} {v:Value} {l l':Array Bool} {a a':Act} {i N j M:Nat} (ei:i=j:=by first|(simp only [Nat.reduceAdd];rfl)|rfl) (eN:N=M:=by first|(simp only [Nat.reduceAdd];rfl)|rfl) (hi:ops[j]?=some oi:=by exact rfl) (hN:oi.dst=some M:=by exact rfl) (hc:anyB md ops l l' j=true:=by first|exact any_of HT_.out (by kernel_rfl)|kernel_rfl)
  (hQ:∀ c a w,Q (.panic c) (a.put oi.dst v) w→Q (.panic c) a w:=by exact fun _ _ _ h=>h) (hy:Yields P ops oi v a:=by first|(refine Or.inl ⟨by rfl, ?_⟩;intro w';go_simp;with_reducible rfl)|exact Or.inr ⟨by rfl,rfl⟩) (ha:a.put (some M) v=a':=by simp only [Act.put,qS_,qZ_,qC_,i64_w,i32_w];rfl):qY P ops Q md l l' i N a a':=by
 subst ei
 subst eN
 exact fun _ _ _ _ h=>pure_ l' hi hN hc hQ hy ha h
theorem qp2 {fuel:Nat} {l:Array Bool} {a0 a1 a2:Act} {w:World} (i N n:Nat) (h:y25 P md ops Q S ds fuel (fl_ n (2 ^ (i + 2) - 1)) a2 w) (h0:qY P ops Q md l (fl_ n (2 ^ (i + 1) - 1)) i N a0 a1:=by exact qY_) (h1:qY P ops Q md (fl_ n (2 ^ (i + 1) - 1)) (fl_ n (2 ^ (i + 2) - 1)) (i + 1) (N + 1) a1 a2:=by exact qY_):y25 P md ops Q S ds (fuel + 2) l a0 w:=h0 _ _ _ _ (h1 _ _ _ _ h)
theorem qp3 {fuel:Nat} {l:Array Bool} {a0 a1 a2 a3:Act} {w:World} (i N n:Nat) (h:y25 P md ops Q S ds fuel (fl_ n (2 ^ (i + 3) - 1)) a3 w) (h0:qY P ops Q md l (fl_ n (2 ^ (i + 1) - 1)) i N a0 a1:=by exact qY_) (h1:qY P ops Q md (fl_ n (2 ^ (i + 1) - 1)) (fl_ n (2 ^ (i + 2) - 1)) (i + 1) (N + 1) a1 a2:=by exact qY_) (h2:qY P ops Q md (fl_ n (2 ^ (i + 2) - 1)) (fl_ n (2 ^ (i + 3) - 1)) (i + 2) (N + 2) a2 a3:=by exact qY_):y25 P md ops Q S ds (fuel + 3) l a0 w:=h0 _ _ _ _ (h1 _ _ _ _ (h2 _ _ _ _ h))
theorem qp4 {fuel:Nat} {l:Array Bool} {a0 a1 a2 a3 a4:Act} {w:World} (i N n:Nat) (h:y25 P md ops Q S ds fuel (fl_ n (2 ^ (i + 4) - 1)) a4 w) (h0:qY P ops Q md l (fl_ n (2 ^ (i + 1) - 1)) i N a0 a1:=by exact qY_) (h1:qY P ops Q md (fl_ n (2 ^ (i + 1) - 1)) (fl_ n (2 ^ (i + 2) - 1)) (i + 1) (N + 1) a1 a2:=by exact qY_) (h2:qY P ops Q md (fl_ n (2 ^ (i + 2) - 1)) (fl_ n (2 ^ (i + 3) - 1)) (i + 2) (N + 2) a2 a3:=by exact qY_) (h3:qY P ops Q md (fl_ n (2 ^ (i + 3) - 1)) (fl_ n (2 ^ (i + 4) - 1)) (i + 3) (N + 3) a3 a4:=by exact qY_):y25 P md ops Q S ds (fuel + 4) l a0 w:=h0 _ _ _ _ (h1 _ _ _ _ (h2 _ _ _ _ (h3 _ _ _ _ h)))
theorem qp6 {fuel:Nat} {l:Array Bool} {a0 a1 a2 a3 a4 a5 a6:Act} {w:World} (i N n:Nat) (h:y25 P md ops Q S ds fuel (fl_ n (2 ^ (i + 6) - 1)) a6 w) (h0:qY P ops Q md l (fl_ n (2 ^ (i + 1) - 1)) i N a0 a1:=by exact qY_) (h1:qY P ops Q md (fl_ n (2 ^ (i + 1) - 1)) (fl_ n (2 ^ (i + 2) - 1)) (i + 1) (N + 1) a1 a2:=by exact qY_) (h2:qY P ops Q md (fl_ n (2 ^ (i + 2) - 1)) (fl_ n (2 ^ (i + 3) - 1)) (i + 2) (N + 2) a2 a3:=by exact qY_) (h3:qY P ops Q md (fl_ n (2 ^ (i + 3) - 1)) (fl_ n (2 ^ (i + 4) - 1)) (i + 3) (N + 3) a3 a4:=by exact qY_) (h4:qY P ops Q md (fl_ n (2 ^ (i + 4) - 1)) (fl_ n (2 ^ (i + 5) - 1)) (i + 4) (N + 4) a4 a5:=by exact qY_) (h5:qY P ops Q md (fl_ n (2 ^ (i + 5) - 1)) (fl_ n (2 ^ (i + 6) - 1)) (i + 5) (N + 5) a5 a6:=by exact qY_):y25 P md ops Q S ds (fuel + 6) l a0 w:=h0 _ _ _ _ (h1 _ _ _ _ (h2 _ _ _ _ (h3 _ _ _ _ (h4 _ _ _ _ (h5 _ _ _ _ h)))))
theorem qp10 {fuel:Nat} {l:Array Bool} {a0 a1 a2 a3 a4 a5 a6 a7 a8 a9 a10:Act} {w:World} (i N n:Nat) (h:y25 P md ops Q S ds fuel (fl_ n (2 ^ (i + 10) - 1)) a10 w) (h0:qY P ops Q md l (fl_ n (2 ^ (i + 1) - 1)) i N a0 a1:=by exact qY_) (h1:qY P ops Q md (fl_ n (2 ^ (i + 1) - 1)) (fl_ n (2 ^ (i + 2) - 1)) (i + 1) (N + 1) a1 a2:=by exact qY_) (h2:qY P ops Q md (fl_ n (2 ^ (i + 2) - 1)) (fl_ n (2 ^ (i + 3) - 1)) (i + 2) (N + 2) a2 a3:=by exact qY_) (h3:qY P ops Q md (fl_ n (2 ^ (i + 3) - 1)) (fl_ n (2 ^ (i + 4) - 1)) (i + 3) (N + 3) a3 a4:=by exact qY_) (h4:qY P ops Q md (fl_ n (2 ^ (i + 4) - 1)) (fl_ n (2 ^ (i + 5) - 1)) (i + 4) (N + 4) a4 a5:=by exact qY_) (h5:qY P ops Q md (fl_ n (2 ^ (i + 5) - 1)) (fl_ n (2 ^ (i + 6) - 1)) (i + 5) (N + 5) a5 a6:=by exact qY_) (h6:qY P ops Q md (fl_ n (2 ^ (i + 6) - 1)) (fl_ n (2 ^ (i + 7) - 1)) (i + 6) (N + 6) a6 a7:=by exact qY_) (h7:qY P ops Q md (fl_ n (2 ^ (i + 7) - 1)) (fl_ n (2 ^ (i + 8) - 1)) (i + 7) (N + 7) a7 a8:=by exact qY_) (h8:qY P ops Q md (fl_ n (2 ^ (i + 8) - 1)) (fl_ n (2 ^ (i + 9) - 1)) (i + 8) (N + 8) a8 a9:=by exact qY_) (h9:qY P ops Q md (fl_ n (2 ^ (i + 9) - 1)) (fl_ n (2 ^ (i + 10) - 1)) (i + 9) (N + 9) a9 a10:=by exact qY_):y25 P md ops Q S ds (fuel + 10) l a0 w:=h0 _ _ _ _ (h1 _ _ _ _ (h2 _ _ _ _ (h3 _ _ _ _ (h4 _ _ _ _ (h5 _ _ _ _ (h6 _ _ _ _ (h7 _ _ _ _ (h8 _ _ _ _ (h9 _ _ _ _ h)))))))))
end
def errW:Option Int→Value
 | none=>.nilIface
 | some c=>.iface 0 (.int .i64 c)
theorem y15:errW none=.nilIface:=rfl
theorem y16 (c:Int):errW (some c)=.iface 0 (.int .i64 c):=rfl
theorem info3:(Tryz.prog.info? 3).map (fun i=>(i.zero,i.size,i.bytes))=some (some (.int .i64 0),1,8):=by kernel_rfl
theorem info4:(Tryz.prog.info? 4).map (fun i=>(i.zero,i.size,i.bytes))=some (some (.bool false),1,1):=by kernel_rfl
theorem info5:(Tryz.prog.info? 5).map (fun i=>(i.zero,i.size,i.bytes))=some (some (.int .u8 0),1,1):=by kernel_rfl
theorem info9:(Tryz.prog.info? 9).map (fun i=>(i.zero,i.size,i.bytes))=some (some (.string ⟨#[]⟩),1,16):=by kernel_rfl
theorem info35:(Tryz.prog.info? 35).map (fun i=>(i.zero,i.size,i.bytes))=some (some (.agg #[(.int .i64 0),(.string ⟨#[]⟩),(.slice none 0 0)]),3,48):=by kernel_rfl
theorem info67:(Tryz.prog.info? 67).map (fun i=>(i.zero,i.size,i.bytes))=some (some (.agg #[(.int .i64 0),(.string ⟨#[]⟩),(.slice none 0 0)]),3,48):=by kernel_rfl
structure S59 where
 f0:Int
 f1:ByteArray
 f2:(List Int)
def z59:S59:=⟨(0:Int),(⟨#[]⟩:ByteArray),([]:List Int)⟩
def k59:Kd S59:=Kd.iso (Kd.pair (Kd.int .i64) (Kd.pair Kd.string (Kd.slice 3 (Kd.int .i64)))) (fun x:S59=>(x.f0,x.f1,x.f2))
theorem k59_open {w:World} {x:S59} {cs:List Value} (h:k59.K w x cs):∃ A2 c2,cs=[.int .i64 x.f0,.string x.f1,.slice A2 x.f2.length c2]∧x.f2.length≤c2∧(Kd.int .i64).C w A2 x.f2.length x.f2:=by
 obtain⟨_,_,rfl,rfl,⟨_,_,rfl,rfl,⟨A2,c2,rfl,l2,g2⟩⟩⟩:=h
 exact⟨A2,c2,rfl,l2,g2⟩
def rd_T59 (xs:List S59) (i:Int):S59:=xs.getD i.toNat z59
theorem at_T59 {w:World} {A:Option Addr} {n:Nat} {xs:List S59} (h:Kd.C k59 w A n xs) (i:Int) (h0:0≤i) (h1:i < n):∃ ad A2 c2,A=some ad∧w.cell? (ad.add (i.toNat * 3))=some (.int .i64 (rd_T59 xs i).f0)∧w.cell? ⟨(ad.add (i.toNat * 3)).block,(ad.add (i.toNat * 3)).off + 1,none⟩=some (.string (rd_T59 xs i).f1)∧w.cell? ⟨(ad.add (i.toNat * 3)).block,(ad.add (i.toNat * 3)).off + 2,none⟩=some (.slice A2 (rd_T59 xs i).f2.length c2)∧(rd_T59 xs i).f2.length≤c2∧(Kd.int .i64).C w A2 (rd_T59 xs i).f2.length (rd_T59 xs i).f2:=by
 obtain⟨ad,c,e,_,hK,hc0⟩:=Kd.C_get h z59 i h0 h1
 have hc:∀ j u,c[j]?=some u→w.cell? (ad.add (i.toNat * 3 + j))=some u:=hc0
 obtain⟨A2,c2,rfl,l2,g2⟩:=k59_open hK
 exact⟨ad,A2,c2,e,hc 0 _ rfl,by rw [← add_field _ _ 1 (by omega)];exact hc 1 _ rfl,by rw [← add_field _ _ 2 (by omega)];exact hc 2 _ rfl,l2,g2⟩
structure S25 where
 f0:Int
 f1:ByteArray
 f2:(List Int)
def z25:S25:=⟨(0:Int),(⟨#[]⟩:ByteArray),([]:List Int)⟩
def k25:Kd S25:=Kd.iso (Kd.pair (Kd.int .i64) (Kd.pair Kd.string (Kd.slice 3 (Kd.int .i64)))) (fun x:S25=>(x.f0,x.f1,x.f2))
theorem k25_open {w:World} {x:S25} {cs:List Value} (h:k25.K w x cs):∃ A2 c2,cs=[.int .i64 x.f0,.string x.f1,.slice A2 x.f2.length c2]∧x.f2.length≤c2∧(Kd.int .i64).C w A2 x.f2.length x.f2:=by
 obtain⟨_,_,rfl,rfl,⟨_,_,rfl,rfl,⟨A2,c2,rfl,l2,g2⟩⟩⟩:=h
 exact⟨A2,c2,rfl,l2,g2⟩
def rd_T25 (xs:List S25) (i:Int):S25:=xs.getD i.toNat z25
theorem at_T25 {w:World} {A:Option Addr} {n:Nat} {xs:List S25} (h:Kd.C k25 w A n xs) (i:Int) (h0:0≤i) (h1:i < n):∃ ad A2 c2,A=some ad∧w.cell? (ad.add (i.toNat * 3))=some (.int .i64 (rd_T25 xs i).f0)∧w.cell? ⟨(ad.add (i.toNat * 3)).block,(ad.add (i.toNat * 3)).off + 1,none⟩=some (.string (rd_T25 xs i).f1)∧w.cell? ⟨(ad.add (i.toNat * 3)).block,(ad.add (i.toNat * 3)).off + 2,none⟩=some (.slice A2 (rd_T25 xs i).f2.length c2)∧(rd_T25 xs i).f2.length≤c2∧(Kd.int .i64).C w A2 (rd_T25 xs i).f2.length (rd_T25 xs i).f2:=by
 obtain⟨ad,c,e,_,hK,hc0⟩:=Kd.C_get h z25 i h0 h1
 have hc:∀ j u,c[j]?=some u→w.cell? (ad.add (i.toNat * 3 + j))=some u:=hc0
 obtain⟨A2,c2,rfl,l2,g2⟩:=k25_open hK
 exact⟨ad,A2,c2,e,hc 0 _ rfl,by rw [← add_field _ _ 1 (by omega)];exact hc 1 _ rfl,by rw [← add_field _ _ 2 (by omega)];exact hc 2 _ rfl,l2,g2⟩
structure S67 where
 f0:Int
 f1:ByteArray
 f2:(List Int)
def z67:S67:=⟨(0:Int),(⟨#[]⟩:ByteArray),([]:List Int)⟩
def k67:Kd S67:=Kd.iso (Kd.pair (Kd.int .i64) (Kd.pair Kd.string (Kd.slice 3 (Kd.int .i64)))) (fun x:S67=>(x.f0,x.f1,x.f2))
theorem k67_open {w:World} {x:S67} {cs:List Value} (h:k67.K w x cs):∃ A2 c2,cs=[.int .i64 x.f0,.string x.f1,.slice A2 x.f2.length c2]∧x.f2.length≤c2∧(Kd.int .i64).C w A2 x.f2.length x.f2:=by
 obtain⟨_,_,rfl,rfl,⟨_,_,rfl,rfl,⟨A2,c2,rfl,l2,g2⟩⟩⟩:=h
 exact⟨A2,c2,rfl,l2,g2⟩
theorem k67_openM {w:World} {base:Nat} {ok:Nat→Prop} {x:S67} {cs:List Value} (h:k67.M w base ok x cs):∃ v2,cs=[.int .i64 x.f0,.string x.f1,v2]∧(Kd.int .i64).R 3 w base ok v2 x.f2:=by
 obtain⟨_,_,rfl,rfl,⟨_,_,rfl,rfl,⟨v2,rfl,g2⟩⟩⟩:=h
 exact⟨v2,rfl,g2⟩
theorem k67_mkM (w:World) (base:Nat) (ok:Nat→Prop) (x:S67) {v2:Value} (g2:(Kd.int .i64).R 3 w base ok v2 x.f2):k67.M w base ok x [.int .i64 x.f0,.string x.f1,v2]:=⟨[.int .i64 x.f0],[.string x.f1,v2],rfl,rfl,⟨[.string x.f1],[v2],rfl,rfl,⟨v2,rfl,g2⟩⟩⟩
def y23 (xs:List S67) (i:Int):S67:=xs.getD i.toNat z67
theorem at_T67 {w:World} {A:Option Addr} {n:Nat} {xs:List S67} (h:Kd.C k67 w A n xs) (i:Int) (h0:0≤i) (h1:i < n):∃ ad A2 c2,A=some ad∧w.cell? (ad.add (i.toNat * 3))=some (.int .i64 (y23 xs i).f0)∧w.cell? ⟨(ad.add (i.toNat * 3)).block,(ad.add (i.toNat * 3)).off + 1,none⟩=some (.string (y23 xs i).f1)∧w.cell? ⟨(ad.add (i.toNat * 3)).block,(ad.add (i.toNat * 3)).off + 2,none⟩=some (.slice A2 (y23 xs i).f2.length c2)∧(y23 xs i).f2.length≤c2∧(Kd.int .i64).C w A2 (y23 xs i).f2.length (y23 xs i).f2:=by
 obtain⟨ad,c,e,_,hK,hc0⟩:=Kd.C_get h z67 i h0 h1
 have hc:∀ j u,c[j]?=some u→w.cell? (ad.add (i.toNat * 3 + j))=some u:=hc0
 obtain⟨A2,c2,rfl,l2,g2⟩:=k67_open hK
 exact⟨ad,A2,c2,e,hc 0 _ rfl,by rw [← add_field _ _ 1 (by omega)];exact hc 1 _ rfl,by rw [← add_field _ _ 2 (by omega)];exact hc 2 _ rfl,l2,g2⟩
structure S35 where
 f0:Int
 f1:ByteArray
 f2:(List Int)
def z35:S35:=⟨(0:Int),(⟨#[]⟩:ByteArray),([]:List Int)⟩
def k35:Kd S35:=Kd.iso (Kd.pair (Kd.int .i64) (Kd.pair Kd.string (Kd.slice 3 (Kd.int .i64)))) (fun x:S35=>(x.f0,x.f1,x.f2))
theorem k35_heap:Kd.Heap k35:=Kd.heap_iso _ (Kd.heap_pair (Kd.heap_int .i64) (Kd.heap_pair Kd.heap_string (Kd.heap_slice 3 (Kd.heap_int .i64))))
theorem k35_open {w:World} {x:S35} {cs:List Value} (h:k35.K w x cs):∃ A2 c2,cs=[.int .i64 x.f0,.string x.f1,.slice A2 x.f2.length c2]∧x.f2.length≤c2∧(Kd.int .i64).C w A2 x.f2.length x.f2:=by
 obtain⟨_,_,rfl,rfl,⟨_,_,rfl,rfl,⟨A2,c2,rfl,l2,g2⟩⟩⟩:=h
 exact⟨A2,c2,rfl,l2,g2⟩
theorem k35_openM {w:World} {base:Nat} {ok:Nat→Prop} {x:S35} {cs:List Value} (h:k35.M w base ok x cs):∃ v2,cs=[.int .i64 x.f0,.string x.f1,v2]∧(Kd.int .i64).R 3 w base ok v2 x.f2:=by
 obtain⟨_,_,rfl,rfl,⟨_,_,rfl,rfl,⟨v2,rfl,g2⟩⟩⟩:=h
 exact⟨v2,rfl,g2⟩
theorem k35_mk (w:World) (x:S35) {A2:Option Addr} {c2:Nat} (l2:x.f2.length≤c2) (g2:(Kd.int .i64).C w A2 x.f2.length x.f2):k35.K w x [.int .i64 x.f0,.string x.f1,.slice A2 x.f2.length c2]:=⟨[.int .i64 x.f0],[.string x.f1,.slice A2 x.f2.length c2],rfl,rfl,⟨[.string x.f1],[.slice A2 x.f2.length c2],rfl,rfl,⟨A2,c2,rfl,l2,g2⟩⟩⟩
theorem k35_mkM (w:World) (base:Nat) (ok:Nat→Prop) (x:S35) {v2:Value} (g2:(Kd.int .i64).R 3 w base ok v2 x.f2):k35.M w base ok x [.int .i64 x.f0,.string x.f1,v2]:=⟨[.int .i64 x.f0],[.string x.f1,v2],rfl,rfl,⟨[.string x.f1],[v2],rfl,rfl,⟨v2,rfl,g2⟩⟩⟩
theorem k35_openF {W:World} {ok:Nat→Prop} {x:S35} {cs:List Value} (h:Kd.FK k35 W ok x cs):∃ A2 c2,cs=[.int .i64 x.f0,.string x.f1,.slice A2 x.f2.length c2]∧x.f2.length≤c2∧Kd.F (Kd.int .i64) W ok A2 x.f2.length x.f2:=by
 obtain⟨A2,c2,rfl,l2,_⟩:=k35_open (Kd.FK_now h)
 exact⟨A2,c2,rfl,l2,(fun W' hW=>by obtain⟨A2_,c2_,he,l2_,g2_⟩:=k35_open (h W' hW);injection (Option.some.inj (show some (Value.slice A2 x.f2.length c2)=some (Value.slice A2_ x.f2.length c2_)from congrArg (fun l=>l[2]?) he))with ha_ _ _;rw [ha_];exact g2_)⟩
theorem k35_mkF (W:World) (ok:Nat→Prop) (x:S35) {A2:Option Addr} {c2:Nat} (l2:x.f2.length≤c2) (g2:Kd.F (Kd.int .i64) W ok A2 x.f2.length x.f2):Kd.FK k35 W ok x [.int .i64 x.f0,.string x.f1,.slice A2 x.f2.length c2]:=fun W2 hW=>k35_mk W2 x l2 (g2 W2 hW)
def y22 (xs:List S35) (i:Int):S35:=xs.getD i.toNat z35
theorem at_T35 {w:World} {A:Option Addr} {n:Nat} {xs:List S35} (h:Kd.C k35 w A n xs) (i:Int) (h0:0≤i) (h1:i < n):∃ ad A2 c2,A=some ad∧w.cell? (ad.add (i.toNat * 3))=some (.int .i64 (y22 xs i).f0)∧w.cell? ⟨(ad.add (i.toNat * 3)).block,(ad.add (i.toNat * 3)).off + 1,none⟩=some (.string (y22 xs i).f1)∧w.cell? ⟨(ad.add (i.toNat * 3)).block,(ad.add (i.toNat * 3)).off + 2,none⟩=some (.slice A2 (y22 xs i).f2.length c2)∧(y22 xs i).f2.length≤c2∧(Kd.int .i64).C w A2 (y22 xs i).f2.length (y22 xs i).f2:=by
 obtain⟨ad,c,e,_,hK,hc0⟩:=Kd.C_get h z35 i h0 h1
 have hc:∀ j u,c[j]?=some u→w.cell? (ad.add (i.toNat * 3 + j))=some u:=hc0
 obtain⟨A2,c2,rfl,l2,g2⟩:=k35_open hK
 exact⟨ad,A2,c2,e,hc 0 _ rfl,by rw [← add_field _ _ 1 (by omega)];exact hc 1 _ rfl,by rw [← add_field _ _ 2 (by omega)];exact hc 2 _ rfl,l2,g2⟩
structure S38 where
 f0:(List S67)
 f1:S35
 f2:(List S35)
structure S28 where
 f0:(List S59)
 f1:S25
 f2:(List S25)
def z28:S28:=⟨([]:List S59),z25,([]:List S25)⟩
def k28:Kd S28:=Kd.iso (Kd.pair (Kd.slice 59 k59) (Kd.pair k25 (Kd.slice 25 k25))) (fun x:S28=>(x.f0,x.f1,x.f2))
theorem k28_open {w:World} {x:S28} {cs:List Value} (h:k28.K w x cs):∃ A0 c0 A3 c3 A4 c4,cs=[.slice A0 x.f0.length c0,.int .i64 x.f1.f0,.string x.f1.f1,.slice A3 x.f1.f2.length c3,.slice A4 x.f2.length c4]∧x.f0.length≤c0∧k59.C w A0 x.f0.length x.f0∧x.f1.f2.length≤c3∧(Kd.int .i64).C w A3 x.f1.f2.length x.f1.f2∧x.f2.length≤c4∧k25.C w A4 x.f2.length x.f2:=by
 obtain⟨_,_,rfl,⟨A0,c0,rfl,l0,g0⟩,⟨_,_,rfl,s1,⟨A4,c4,rfl,l4,g4⟩⟩⟩:=h
 obtain⟨A3,c3,rfl,l3,g3⟩:=k25_open s1
 exact⟨A0,c0,A3,c3,A4,c4,rfl,l0,g0,l3,g3,l4,g4⟩
theorem goesC_ {P : Program} {ops : Array Oper} {Q : Exit → Act → World → Prop} {oi : Oper} {N : Option Tmp} {a : Act} {w : World} {K : Act → World → Prop} {f : FuncId} {fn : Func} {c : Operand} {xs : Array Operand} {ts : Array TypeId} (hf : P.funcs[f]? = some fn) (hname : (fn.name == "runtime.NumGoroutine") = false) (hb : fn.body.isSome = true) (args cs : Array Value)
  (hw:Region.wanted oi (yielded ops a.tmps)=true) (hN:oi.dst=N) (hop:oi.op=.call { callee:=.value c,args:=xs,argTypes:=ts }) (hargs:(a.eval c,xs.map a.eval ++ cs)=(Value.func (.func f) #[] cs,args))
  (h:Calls P f args w fun e w'=>∃ v,e=.returned v∧K (a.put N v) w'):if Region.wanted oi (yielded ops a.tmps)=true then Oper.wp P oi a w K Q else K (a.put N undef) w:=by
 have h1:a.eval c=Value.func (.func f) #[] cs:=(Prod.mk.inj hargs).1
 have h2:xs.map a.eval ++ cs=args:=(Prod.mk.inj hargs).2
 refine call_ f args hw hN ?_ h
 have he:=enters_ hf hname hb args w
 unfold execOp
 simp [hop,resolve,Deferred.ofValue,invoke,h1,h2,he]
structure Tb (w:World):Prop where
 pow : Lib.TabIs Tryz.prog w "internal/strconv.uint64pow10" .u64 Lib.pow10Tab
 es:∃ ev,w.cell? ⟨0,0,none⟩=some ev∧(ev=.nilIface∨∃ te pe,ev=.iface te pe)
 er:∃ ev,w.cell? ⟨1,0,none⟩=some ev∧(ev=.nilIface∨∃ te pe,ev=.iface te pe)
 ml:∃ m,w.cell? ⟨2,0,none⟩=some (.int .i64 m)
theorem gPow : Tryz.prog.globalNamed "internal/strconv.uint64pow10" = some 3 := by kernel_rfl
theorem var_block {P:Program} {w:World} {n:String} {cs:Array Value} {g:Nat} (hg:P.globalNamed n=some g) (h:w.var? P n=some cs):g < w.heap.size:=by
 unfold World.var? at h
 rw [hg]at h
 simp only [Option.bind_some]at h
 split at h
 ·rename_i hh
  exact(Array.getElem?_eq_some_iff.1 hh).1
 ·cases h
theorem Tb.below {w w':World} (h:Tb w) (hb:Below w.heap.size w w'):Tb w':=by
 constructor
 ·exact var?_below hb gPow (var_block gPow h.pow) h.pow
 ·obtain⟨ev,h1,h2⟩:=h.es;exact⟨ev,pw_cell_below hb h1,h2⟩
 ·obtain⟨ev,h1,h2⟩:=h.er;exact⟨ev,pw_cell_below hb h1,h2⟩
 ·obtain⟨m,h1⟩:=h.ml;exact⟨m,pw_cell_below hb h1⟩
theorem Tb.drawn {w w':World} (h:Tb w) (hd:y1 w w'):Tb w':=h.below hd.below
def okT59 (b:S59):Prop:=(fun a=>(Lit.int .i64 a).wf=true) b.f0∧(fun a=>a.size≤140737488351232) b.f1∧(fun l=>l.length≤maxLen∧l.length * 8≤140737488351232∧∀ x∈l,(fun a=>(Lit.int .i64 a).wf=true) x) b.f2
def okT25 (b:S25):Prop:=(fun a=>(Lit.int .i64 a).wf=true) b.f0∧(fun a=>a.size≤140737488351232) b.f1∧(fun l=>l.length≤maxLen∧l.length * 8≤140737488351232∧∀ x∈l,(fun a=>(Lit.int .i64 a).wf=true) x) b.f2
def okT28 (b:S28):Prop:=(fun l=>l.length≤maxLen∧l.length * 48≤140737488351232∧∀ x∈l,okT59 x) b.f0∧okT25 b.f1∧(fun l=>l.length≤maxLen∧l.length * 48≤140737488351232∧∀ x∈l,okT25 x) b.f2
def laws_szIntS.f (l0:List Int) (a1:Int):Option (Int):=if(wrap64 (a1 - (l0.length:Int))) < 0 then(some (-1))else(some (wrap64 (a1 - (l0.length:Int))))
theorem laws_szIntS.calls (A0:Option Addr) (c0:Nat) (l0:List Int) (a1:Int) (r:Int) (w:World) (hr0:Kd.C (Kd.int .i64) w A0 l0.length l0) (hc0:l0.length≤c0) (h:laws_szIntS.f l0 a1=some r) :
  Calls Tryz.prog 28 #[.slice A0 l0.length c0,.int .i64 a1] w fun e w'=>e=.returned (.int .i64 r)∧y1 w w':=by
 have HR0:=y0.mk hr0
 have HC0:=y0.mk hc0
 clear hr0 hc0
 have H:(if(wrap64 (a1 - (l0.length:Int))) < 0 then(some (-1))else(some (wrap64 (a1 - (l0.length:Int)))))=some r:=h
 clear h
 by_cases c3:(wrap64 (a1 - (l0.length:Int))) < 0
 ·rw [if_pos c3]at H
  have c3b0:=decide_eq_true c3
  clear c3
  obtain rfl:=Option.some.inj H
  go_enter Tryz.func28,Tryz.ntmps28
  go_wp2
  go_ret
  exact qf2
 ·rw [if_neg c3]at H
  have c3b0:=decide_eq_false c3
  clear c3
  obtain rfl:=Option.some.inj H
  go_enter Tryz.func28,Tryz.ntmps28
  go_wp2
  go_ret
  exact qf2
def laws_szExp.f (a0_0:Int) (Ae:ByteArray) (Ao:List Int) (a1:Int):Option (Int):=if(wrap64 (a1 - (Ae.size:Int))) < 0 then(some (-1))else((laws_szIntS.f Ao (wrap64 (a1 - (Ae.size:Int)))).bind fun An=>(if An < 0 then(some (-1))else(some An)))
theorem laws_szExp.calls (Ah:Int) (Ab:ByteArray) (Ad:Option Addr) (Af:Nat) (Aa:List Int) (a1:Int) (r:Int) (w:World) (Ai:Kd.C (Kd.int .i64) w Ad Aa.length Aa) (Aj:Aa.length≤Af) (h:laws_szExp.f Ah Ab Aa a1=some r) :
  Calls Tryz.prog 27 #[.agg #[.int .i64 Ah,.string Ab,.slice Ad Aa.length Af],.int .i64 a1] w fun e w'=>e=.returned (.int .i64 r)∧Below w.heap.size w w':=by
 have Bl:=Tryz.underlying59
 have Ak:=y0.mk Ai
 have Al:=y0.mk Aj
 clear Ai Aj
 have HB:=y0.mk (Below.refl w.heap.size w)
 have H:(if(wrap64 (a1 - (Ab.size:Int))) < 0 then(some (-1))else((laws_szIntS.f Aa (wrap64 (a1 - (Ab.size:Int)))).bind fun Ag=>(if Ag < 0 then(some (-1))else(some Ag))))=some r:=h
 clear h
 by_cases c3:(wrap64 (a1 - (Ab.size:Int))) < 0
 ·rw [if_pos c3]at H
  have Ax:=decide_eq_true c3
  clear c3
  obtain rfl:=Option.some.inj H
  go_enter Tryz.func27,Tryz.ntmps27
  go_wp2_with (first|((with_reducible refine y19 (N:=2) rfl ?_);refine qe 2 #[.int .i64 Ah,.string Ab,.slice Ad Aa.length Af] 59 ?_;intro Am hg w4 hbox hb;have Ac:=y0.mk (hbox);have Ap:=y0.mk (qg (w:=w) hg);have Aq:=y0.mk (qg (w:=w) hg);replace HB:=y0.mk (y5 qb hb);clear hb hbox hg;obtain⟨Ay,Az,Ba,Bb,Bc,Bd⟩:=qz3 Ac.out))
  go_ret
  exact⟨qf,qb⟩
 ·rw [if_neg c3]at H
  have Ax:=decide_eq_false c3
  clear c3
  obtain⟨Ag,A6,H⟩:=qB H
  by_cases c7:Ag < 0
  ·rw [if_pos c7]at H
   have Be:=decide_eq_true c7
   clear c7
   obtain rfl:=Option.some.inj H
   go_enter Tryz.func27,Tryz.ntmps27
   go_wp2_with (first|((with_reducible refine y19 (N:=2) rfl ?_);refine qe 2 #[.int .i64 Ah,.string Ab,.slice Ad Aa.length Af] 59 ?_;intro Am hg w8 hbox hb;have Ac:=y0.mk (hbox);have Ap:=y0.mk (qg (w:=w) hg);have Aq:=y0.mk (qg (w:=w) hg);replace HB:=y0.mk (y5 qb hb);clear hb hbox hg;obtain⟨Bf,Bg,Bh,Bi,Bj,Bk⟩:=qz3 Ac.out)|((with_reducible refine y18 (f:=28) rfl ?_);refine y21 (some 15) rfl rfl Tryz.func28 (by kernel_rfl) rfl #[.slice Ad Aa.length Af,.int .i64 (wrap64 (a1 - (Ab.size:Int)))] rfl qy1 ?_;(with_reducible refine(laws_szIntS.calls _ _ Aa (wrap64 (a1 - (Ab.size:Int))) Ag _ (qc (Kd.C_below Ak.out HB.out)) Al.out A6.out).mono ?_);rintro e w' ⟨rfl,⟨nd,rfl⟩⟩;refine⟨_,rfl, ?_⟩))
   go_ret
   exact⟨qf,qb⟩
  ·rw [if_neg c7]at H
   have Be:=decide_eq_false c7
   clear c7
   obtain rfl:=Option.some.inj H
   go_enter Tryz.func27,Tryz.ntmps27
   go_wp2_with (first|((with_reducible refine y19 (N:=2) rfl ?_);refine qe 2 #[.int .i64 Ah,.string Ab,.slice Ad Aa.length Af] 59 ?_;intro Am hg Bm hbox hb;have Ac:=y0.mk (hbox);have Ap:=y0.mk (qg (w:=w) hg);have Aq:=y0.mk (qg (w:=w) hg);replace HB:=y0.mk (y5 qb hb);clear hb hbox hg;obtain⟨Ar,As,At,Au,Av,Aw⟩:=qz3 Ac.out)|((with_reducible refine y18 (f:=28) rfl ?_);refine y21 (some 15) rfl rfl Tryz.func28 (by kernel_rfl) rfl #[.slice Ad Aa.length Af,.int .i64 (wrap64 (a1 - (Ab.size:Int)))] rfl qy1 ?_;(with_reducible refine(laws_szIntS.calls _ _ Aa (wrap64 (a1 - (Ab.size:Int))) Ag _ (qc (Kd.C_below Ak.out HB.out)) Al.out A6.out).mono ?_);rintro e w' ⟨rfl,⟨nd,rfl⟩⟩;refine⟨_,rfl, ?_⟩))
   go_ret
   exact⟨qf,qb⟩
def laws_szExpS.l0:Nat→List (S59)→Int→Int→Option (Int)
 | 0,_,_,_=>none
 | k + 1,x0,x1,x5=>if x5 < (x0.length:Int)then(if 0≤x5 then((laws_szExp.f ((rd_T59 x0 x5).f0) ((rd_T59 x0 x5).f1) ((rd_T59 x0 x5).f2) x1).bind fun Ae=>(if Ae < 0 then(some (-1))else(laws_szExpS.l0 k x0 Ae (wrap64 (x5 + 1)))))else(none))else(some x1)
def laws_szExpS.f (k:Nat) (l0:List (S59)) (a1:Int):Option (Int):=if(wrap64 (a1 - (l0.length:Int))) < 0 then(some (-1))else(laws_szExpS.l0 k l0 (wrap64 (a1 - (l0.length:Int))) 0)
theorem laws_szExpS.calls (k:Nat) (A0:Option Addr) (c0:Nat) (l0:List (S59)) (a1:Int) (r:Int) (w:World) (Av:Kd.C k59 w A0 l0.length l0) (Aw:l0.length≤c0) (h:laws_szExpS.f k l0 a1=some r) :
  Calls Tryz.prog 12 #[.slice A0 l0.length c0,.int .i64 a1] w fun e w'=>e=.returned (.int .i64 r)∧Below w.heap.size w w':=by
 have Az:=Tryz.underlying59
 have Ba:=y0.mk Av
 have Bc:=y0.mk Aw
 clear Av Aw
 have HB:=y0.mk (Below.refl w.heap.size w)
 have H:(if(wrap64 (a1 - (l0.length:Int))) < 0 then(some (-1))else(laws_szExpS.l0 k l0 (wrap64 (a1 - (l0.length:Int))) 0))=some r:=h
 clear h
 by_cases c3:(wrap64 (a1 - (l0.length:Int))) < 0
 ·rw [if_pos c3]at H
  have Ar:=decide_eq_true c3
  clear c3
  obtain rfl:=Option.some.inj H
  go_enter Tryz.func12,Tryz.ntmps12
  go_wp2
  go_ret
  exact⟨qf,qb⟩
 ·rw [if_neg c3]at H
  have Ar:=decide_eq_false c3
  clear c3
  have H':=y0.mk H
  clear H
  go_enter Tryz.func12,Tryz.ntmps12
  go_wp2
  go_loopg [1,5] k (fun kq v1 v5 w'=>∃(Af:Int) (Aa:Int),v1=.int .i64 Af∧v5=.int .i64 Aa∧y0 (laws_szExpS.l0 kq l0 Af Aa=some r)∧y0 (kq≤k)∧y0 (Below w.heap.size w w'))
  case atStart=>exact⟨(wrap64 (a1 - (l0.length:Int))),(0),qy2,qy2,H',⟨Nat.le_refl _⟩,⟨qb⟩⟩
  case round =>
   clear H'
   (try clear Ar)
   obtain⟨Af,Aa,rfl,rfl,HA,Ax,HB⟩:=hrel
   cases gk with
   | zero=>exact absurd HA.out (by simp [laws_szExpS.l0])
   | succ k1 =>
    have H:=HA.out
    clear HA
    simp only [laws_szExpS.l0]at H
    by_cases c4:Aa < (l0.length:Int)
    ·rw [if_pos c4]at H
     have As:=decide_eq_true c4
     clear c4
     obtain⟨c5,H⟩:=qo H
     have Bb:decide (0≤Aa)=true:=decide_eq_true c5
     clear c5
     obtain⟨Am,A6,H⟩:=qB H
     have Ap:0≤(Aa:Int):=qd
     have Aq:Aa < (l0.length:Int):=qd
     obtain⟨Ay,Ak,Al,At,Ab,Ac,Ad,Ag,Ah⟩:=at_T59 Ba.out Aa Ap Aq
     cases At
     replace Ab:=qC Ab HB
     replace Ac:=qC Ac HB
     replace Ad:=qC Ad HB
     have Ai:=y0.mk Ah
     have Aj:=y0.mk Ag
     clear Ah Ag
     replace Ap:=eq_true Ap
     replace Aq:=eq_true Aq
     by_cases c7:Am < 0
     ·rw [if_pos c7]at H
      have Au:=decide_eq_true c7
      clear c7
      obtain rfl:=Option.some.inj H
      go_wp2_with (first|((with_reducible refine y18 (f:=27) rfl ?_);refine y21 (some 23) rfl rfl Tryz.func27 (by kernel_rfl) rfl #[.agg #[.int .i64 ((rd_T59 l0 Aa).f0),.string ((rd_T59 l0 Aa).f1),.slice Ak ((rd_T59 l0 Aa).f2).length Al],.int .i64 Af] rfl qy1 ?_;(with_reducible refine(laws_szExp.calls ((rd_T59 l0 Aa).f0) ((rd_T59 l0 Aa).f1) _ _ ((rd_T59 l0 Aa).f2) Af Am _ (qc (Kd.C_below Ai.out HB.out)) Aj.out A6.out).mono ?_);rintro e w8 ⟨rfl,hb⟩;refine⟨_,rfl, ?_⟩;replace HB:=y0.mk (y5 qb hb);(try clear hb)))
      go_ret
      exact⟨qf,qb⟩
     ·rw [if_neg c7]at H
      have Au:=decide_eq_false c7
      clear c7
      have H':=y0.mk H
      clear H
      go_wp2_with (first|((with_reducible refine y18 (f:=27) rfl ?_);refine y21 (some 23) rfl rfl Tryz.func27 (by kernel_rfl) rfl #[.agg #[.int .i64 ((rd_T59 l0 Aa).f0),.string ((rd_T59 l0 Aa).f1),.slice Ak ((rd_T59 l0 Aa).f2).length Al],.int .i64 Af] rfl qy1 ?_;(with_reducible refine(laws_szExp.calls ((rd_T59 l0 Aa).f0) ((rd_T59 l0 Aa).f1) _ _ ((rd_T59 l0 Aa).f2) Af Am _ (qc (Kd.C_below Ai.out HB.out)) Aj.out A6.out).mono ?_);rintro e w9 ⟨rfl,hb⟩;refine⟨_,rfl, ?_⟩;replace HB:=y0.mk (y5 qb hb);(try clear hb)))
      go_roundg k1
      case measure=>have:=Ax.out;omega
      exact⟨(Am),(wrap64 (Aa + 1)),qy2,qy2,H',⟨by have:=Ax.out;omega⟩,⟨qb⟩⟩
    ·rw [if_neg c4]at H
     have As:=decide_eq_false c4
     clear c4
     obtain rfl:=Option.some.inj H
     go_wp2
     go_ret
     exact⟨qf,qb⟩
def laws_szLit.f (a0_0:Int) (Ae:ByteArray) (Ao:List Int) (a1:Int):Option (Int):=if(wrap64 (a1 - (Ae.size:Int))) < 0 then(some (-1))else((laws_szIntS.f Ao (wrap64 (a1 - (Ae.size:Int)))).bind fun An=>(if An < 0 then(some (-1))else(some An)))
theorem laws_szLit.calls (Ah:Int) (Ab:ByteArray) (Ad:Option Addr) (Af:Nat) (Aa:List Int) (a1:Int) (r:Int) (w:World) (Ai:Kd.C (Kd.int .i64) w Ad Aa.length Aa) (Aj:Aa.length≤Af) (h:laws_szLit.f Ah Ab Aa a1=some r) :
  Calls Tryz.prog 13 #[.agg #[.int .i64 Ah,.string Ab,.slice Ad Aa.length Af],.int .i64 a1] w fun e w'=>e=.returned (.int .i64 r)∧Below w.heap.size w w':=by
 have Bl:=Tryz.underlying25
 have Ak:=y0.mk Ai
 have Al:=y0.mk Aj
 clear Ai Aj
 have HB:=y0.mk (Below.refl w.heap.size w)
 have H:(if(wrap64 (a1 - (Ab.size:Int))) < 0 then(some (-1))else((laws_szIntS.f Aa (wrap64 (a1 - (Ab.size:Int)))).bind fun Ag=>(if Ag < 0 then(some (-1))else(some Ag))))=some r:=h
 clear h
 by_cases c3:(wrap64 (a1 - (Ab.size:Int))) < 0
 ·rw [if_pos c3]at H
  have Ax:=decide_eq_true c3
  clear c3
  obtain rfl:=Option.some.inj H
  go_enter Tryz.func13,Tryz.ntmps13
  go_wp2_with (first|((with_reducible refine y19 (N:=2) rfl ?_);refine qe 2 #[.int .i64 Ah,.string Ab,.slice Ad Aa.length Af] 25 ?_;intro Am hg w4 hbox hb;have Ac:=y0.mk (hbox);have Ap:=y0.mk (qg (w:=w) hg);have Aq:=y0.mk (qg (w:=w) hg);replace HB:=y0.mk (y5 qb hb);clear hb hbox hg;obtain⟨Ay,Az,Ba,Bb,Bc,Bd⟩:=qz3 Ac.out))
  go_ret
  exact⟨qf,qb⟩
 ·rw [if_neg c3]at H
  have Ax:=decide_eq_false c3
  clear c3
  obtain⟨Ag,A6,H⟩:=qB H
  by_cases c7:Ag < 0
  ·rw [if_pos c7]at H
   have Be:=decide_eq_true c7
   clear c7
   obtain rfl:=Option.some.inj H
   go_enter Tryz.func13,Tryz.ntmps13
   go_wp2_with (first|((with_reducible refine y19 (N:=2) rfl ?_);refine qe 2 #[.int .i64 Ah,.string Ab,.slice Ad Aa.length Af] 25 ?_;intro Am hg w8 hbox hb;have Ac:=y0.mk (hbox);have Ap:=y0.mk (qg (w:=w) hg);have Aq:=y0.mk (qg (w:=w) hg);replace HB:=y0.mk (y5 qb hb);clear hb hbox hg;obtain⟨Bf,Bg,Bh,Bi,Bj,Bk⟩:=qz3 Ac.out)|((with_reducible refine y18 (f:=28) rfl ?_);refine y21 (some 15) rfl rfl Tryz.func28 (by kernel_rfl) rfl #[.slice Ad Aa.length Af,.int .i64 (wrap64 (a1 - (Ab.size:Int)))] rfl qy1 ?_;(with_reducible refine(laws_szIntS.calls _ _ Aa (wrap64 (a1 - (Ab.size:Int))) Ag _ (qc (Kd.C_below Ak.out HB.out)) Al.out A6.out).mono ?_);rintro e w' ⟨rfl,⟨nd,rfl⟩⟩;refine⟨_,rfl, ?_⟩))
   go_ret
   exact⟨qf,qb⟩
  ·rw [if_neg c7]at H
   have Be:=decide_eq_false c7
   clear c7
   obtain rfl:=Option.some.inj H
   go_enter Tryz.func13,Tryz.ntmps13
   go_wp2_with (first|((with_reducible refine y19 (N:=2) rfl ?_);refine qe 2 #[.int .i64 Ah,.string Ab,.slice Ad Aa.length Af] 25 ?_;intro Am hg Bm hbox hb;have Ac:=y0.mk (hbox);have Ap:=y0.mk (qg (w:=w) hg);have Aq:=y0.mk (qg (w:=w) hg);replace HB:=y0.mk (y5 qb hb);clear hb hbox hg;obtain⟨Ar,As,At,Au,Av,Aw⟩:=qz3 Ac.out)|((with_reducible refine y18 (f:=28) rfl ?_);refine y21 (some 15) rfl rfl Tryz.func28 (by kernel_rfl) rfl #[.slice Ad Aa.length Af,.int .i64 (wrap64 (a1 - (Ab.size:Int)))] rfl qy1 ?_;(with_reducible refine(laws_szIntS.calls _ _ Aa (wrap64 (a1 - (Ab.size:Int))) Ag _ (qc (Kd.C_below Ak.out HB.out)) Al.out A6.out).mono ?_);rintro e w' ⟨rfl,⟨nd,rfl⟩⟩;refine⟨_,rfl, ?_⟩))
   go_ret
   exact⟨qf,qb⟩
def laws_szLitS.l0:Nat→List (S25)→Int→Int→Option (Int)
 | 0,_,_,_=>none
 | k + 1,x0,x1,x5=>if x5 < (x0.length:Int)then(if 0≤x5 then((laws_szLit.f ((rd_T25 x0 x5).f0) ((rd_T25 x0 x5).f1) ((rd_T25 x0 x5).f2) x1).bind fun Ae=>(if Ae < 0 then(some (-1))else(laws_szLitS.l0 k x0 Ae (wrap64 (x5 + 1)))))else(none))else(some x1)
def laws_szLitS.f (k:Nat) (l0:List (S25)) (a1:Int):Option (Int):=if(wrap64 (a1 - (l0.length:Int))) < 0 then(some (-1))else(laws_szLitS.l0 k l0 (wrap64 (a1 - (l0.length:Int))) 0)
theorem laws_szLitS.calls (k:Nat) (A0:Option Addr) (c0:Nat) (l0:List (S25)) (a1:Int) (r:Int) (w:World) (Av:Kd.C k25 w A0 l0.length l0) (Aw:l0.length≤c0) (h:laws_szLitS.f k l0 a1=some r) :
  Calls Tryz.prog 14 #[.slice A0 l0.length c0,.int .i64 a1] w fun e w'=>e=.returned (.int .i64 r)∧Below w.heap.size w w':=by
 have Az:=Tryz.underlying25
 have Ba:=y0.mk Av
 have Bc:=y0.mk Aw
 clear Av Aw
 have HB:=y0.mk (Below.refl w.heap.size w)
 have H:(if(wrap64 (a1 - (l0.length:Int))) < 0 then(some (-1))else(laws_szLitS.l0 k l0 (wrap64 (a1 - (l0.length:Int))) 0))=some r:=h
 clear h
 by_cases c3:(wrap64 (a1 - (l0.length:Int))) < 0
 ·rw [if_pos c3]at H
  have Ar:=decide_eq_true c3
  clear c3
  obtain rfl:=Option.some.inj H
  go_enter Tryz.func14,Tryz.ntmps14
  go_wp2
  go_ret
  exact⟨qf,qb⟩
 ·rw [if_neg c3]at H
  have Ar:=decide_eq_false c3
  clear c3
  have H':=y0.mk H
  clear H
  go_enter Tryz.func14,Tryz.ntmps14
  go_wp2
  go_loopg [1,5] k (fun kq v1 v5 w'=>∃(Af:Int) (Aa:Int),v1=.int .i64 Af∧v5=.int .i64 Aa∧y0 (laws_szLitS.l0 kq l0 Af Aa=some r)∧y0 (kq≤k)∧y0 (Below w.heap.size w w'))
  case atStart=>exact⟨(wrap64 (a1 - (l0.length:Int))),(0),qy2,qy2,H',⟨Nat.le_refl _⟩,⟨qb⟩⟩
  case round =>
   clear H'
   (try clear Ar)
   obtain⟨Af,Aa,rfl,rfl,HA,Ax,HB⟩:=hrel
   cases gk with
   | zero=>exact absurd HA.out (by simp [laws_szLitS.l0])
   | succ k1 =>
    have H:=HA.out
    clear HA
    simp only [laws_szLitS.l0]at H
    by_cases c4:Aa < (l0.length:Int)
    ·rw [if_pos c4]at H
     have As:=decide_eq_true c4
     clear c4
     obtain⟨c5,H⟩:=qo H
     have Bb:decide (0≤Aa)=true:=decide_eq_true c5
     clear c5
     obtain⟨Am,A6,H⟩:=qB H
     have Ap:0≤(Aa:Int):=qd
     have Aq:Aa < (l0.length:Int):=qd
     obtain⟨Ay,Ak,Al,At,Ab,Ac,Ad,Ag,Ah⟩:=at_T25 Ba.out Aa Ap Aq
     cases At
     replace Ab:=qC Ab HB
     replace Ac:=qC Ac HB
     replace Ad:=qC Ad HB
     have Ai:=y0.mk Ah
     have Aj:=y0.mk Ag
     clear Ah Ag
     replace Ap:=eq_true Ap
     replace Aq:=eq_true Aq
     by_cases c7:Am < 0
     ·rw [if_pos c7]at H
      have Au:=decide_eq_true c7
      clear c7
      obtain rfl:=Option.some.inj H
      go_wp2_with (first|((with_reducible refine y18 (f:=13) rfl ?_);refine y21 (some 23) rfl rfl Tryz.func13 (by kernel_rfl) rfl #[.agg #[.int .i64 ((rd_T25 l0 Aa).f0),.string ((rd_T25 l0 Aa).f1),.slice Ak ((rd_T25 l0 Aa).f2).length Al],.int .i64 Af] rfl qy1 ?_;(with_reducible refine(laws_szLit.calls ((rd_T25 l0 Aa).f0) ((rd_T25 l0 Aa).f1) _ _ ((rd_T25 l0 Aa).f2) Af Am _ (qc (Kd.C_below Ai.out HB.out)) Aj.out A6.out).mono ?_);rintro e w8 ⟨rfl,hb⟩;refine⟨_,rfl, ?_⟩;replace HB:=y0.mk (y5 qb hb);(try clear hb)))
      go_ret
      exact⟨qf,qb⟩
     ·rw [if_neg c7]at H
      have Au:=decide_eq_false c7
      clear c7
      have H':=y0.mk H
      clear H
      go_wp2_with (first|((with_reducible refine y18 (f:=13) rfl ?_);refine y21 (some 23) rfl rfl Tryz.func13 (by kernel_rfl) rfl #[.agg #[.int .i64 ((rd_T25 l0 Aa).f0),.string ((rd_T25 l0 Aa).f1),.slice Ak ((rd_T25 l0 Aa).f2).length Al],.int .i64 Af] rfl qy1 ?_;(with_reducible refine(laws_szLit.calls ((rd_T25 l0 Aa).f0) ((rd_T25 l0 Aa).f1) _ _ ((rd_T25 l0 Aa).f2) Af Am _ (qc (Kd.C_below Ai.out HB.out)) Aj.out A6.out).mono ?_);rintro e w9 ⟨rfl,hb⟩;refine⟨_,rfl, ?_⟩;replace HB:=y0.mk (y5 qb hb);(try clear hb)))
      go_roundg k1
      case measure=>have:=Ax.out;omega
      exact⟨(Am),(wrap64 (Aa + 1)),qy2,qy2,H',⟨by have:=Ax.out;omega⟩,⟨qb⟩⟩
    ·rw [if_neg c4]at H
     have As:=decide_eq_false c4
     clear c4
     obtain rfl:=Option.some.inj H
     go_wp2
     go_ret
     exact⟨qf,qb⟩
def laws_szRule.f (k:Nat) (By:List (S59)) (Dd:Int) (De:ByteArray) (Dz:List Int) (Ea:List (S25)) (a1:Int):Option (Int):=(laws_szExpS.f k By a1).bind fun Ae=>(if Ae < 0 then(some (-1))else((laws_szLit.f Dd De Dz Ae).bind fun An=>(if An < 0 then(some (-1))else((laws_szLitS.f k Ea An).bind fun Ao=>(if Ao < 0 then(some (-1))else(some Ao))))))
theorem laws_szRule.calls (k:Nat) (Aj:Option Addr) (Ak:Nat) (Ab:List (S59)) (Ag:Int) (Ah:ByteArray) (Al:Option Addr) (Am:Nat) (Ac:List Int) (Ap:Option Addr) (Aq:Nat) (Ad:List (S25)) (a1:Int) (r:Int) (w:World) (Az:Kd.C k59 w Aj Ab.length Ab) (Ba:Ab.length≤Ak) (Bb:Kd.C (Kd.int .i64) w Al Ac.length Ac) (Bc:Ac.length≤Am) (Bd:Kd.C k25 w Ap Ad.length Ad) (Be:Ad.length≤Aq) (h:laws_szRule.f k Ab Ag Ah Ac Ad a1=some r) :
  Calls Tryz.prog 4 #[.agg #[.slice Aj Ab.length Ak,.int .i64 Ag,.string Ah,.slice Al Ac.length Am,.slice Ap Ad.length Aq],.int .i64 a1] w fun e w'=>e=.returned (.int .i64 r)∧Below w.heap.size w w':=by
 have Fc:=Tryz.underlying28
 have Fd:=Tryz.underlying25
 have Ar:=y0.mk Az
 have As:=y0.mk Ba
 clear Az Ba
 have Au:=y0.mk Bb
 have Av:=y0.mk Bc
 clear Bb Bc
 have Bf:=y0.mk Bd
 have Bg:=y0.mk Be
 clear Bd Be
 have HB:=y0.mk (Below.refl w.heap.size w)
 have H:((laws_szExpS.f k Ab a1).bind fun Af=>(if Af < 0 then(some (-1))else((laws_szLit.f Ag Ah Ac Af).bind fun Ai=>(if Ai < 0 then(some (-1))else((laws_szLitS.f k Ad Ai).bind fun At=>(if At < 0 then(some (-1))else(some At)))))))=some r:=h
 clear h
 obtain⟨Af,A3,H⟩:=qB H
 by_cases c4:Af < 0
 ·rw [if_pos c4]at H
  have En:=decide_eq_true c4
  clear c4
  obtain rfl:=Option.some.inj H
  go_enter Tryz.func4,Tryz.ntmps4
  go_wp2_with (first|((with_reducible refine y19 (N:=2) rfl ?_);refine qe 2 #[.slice Aj Ab.length Ak,.int .i64 Ag,.string Ah,.slice Al Ac.length Am,.slice Ap Ad.length Aq] 28 ?_;intro Aw hg w5 hbox hb;have Aa:=y0.mk (hbox);have Ax:=y0.mk (qg (w:=w) hg);have Ay:=y0.mk (qg (w:=w) hg);replace HB:=y0.mk (y5 qb hb);clear hb hbox hg;obtain⟨Eo,Ep,Er,Es,Et,Eu,Ew,Ex,Ey,Ez⟩:=qz5 Aa.out)|((with_reducible refine y18 (f:=12) rfl ?_);refine y21 (some 8) rfl rfl Tryz.func12 (by kernel_rfl) rfl #[.slice Aj Ab.length Ak,.int .i64 a1] rfl qy1 ?_;(with_reducible refine(laws_szExpS.calls k _ _ Ab a1 Af _ (qc (Kd.C_below Ar.out HB.out)) As.out A3.out).mono ?_);rintro e w7 ⟨rfl,hb⟩;refine⟨_,rfl, ?_⟩;replace Aa:=y0.mk (qK Aa.out hb);replace HB:=y0.mk (y5 qb hb);(try clear hb)))
  go_ret
  exact⟨qf,qb⟩
 ·rw [if_neg c4]at H
  have En:=decide_eq_false c4
  clear c4
  obtain⟨Ai,A8,H⟩:=qB H
  by_cases c9:Ai < 0
  ·rw [if_pos c9]at H
   have Fa:=decide_eq_true c9
   clear c9
   obtain rfl:=Option.some.inj H
   go_enter Tryz.func4,Tryz.ntmps4
   go_wp2_with (first|((with_reducible refine y19 (N:=2) rfl ?_);refine qe 2 #[.slice Aj Ab.length Ak,.int .i64 Ag,.string Ah,.slice Al Ac.length Am,.slice Ap Ad.length Aq] 28 ?_;intro Aw hg Fe hbox hb;have Aa:=y0.mk (hbox);have Ax:=y0.mk (qg (w:=w) hg);have Ay:=y0.mk (qg (w:=w) hg);replace HB:=y0.mk (y5 qb hb);clear hb hbox hg;obtain⟨Bj,Bk,Bl,Bm,Bn,Bo,Bp,Bq,Br,Bs⟩:=qz5 Aa.out)|((with_reducible refine y18 (f:=12) rfl ?_);refine y21 (some 8) rfl rfl Tryz.func12 (by kernel_rfl) rfl #[.slice Aj Ab.length Ak,.int .i64 a1] rfl qy1 ?_;(with_reducible refine(laws_szExpS.calls k _ _ Ab a1 Af _ (qc (Kd.C_below Ar.out HB.out)) As.out A3.out).mono ?_);rintro e Ff ⟨rfl,hb⟩;refine⟨_,rfl, ?_⟩;replace Aa:=y0.mk (qK Aa.out hb);replace HB:=y0.mk (y5 qb hb);(try clear hb);obtain⟨Bt,Bu,Bv,Bw,Bx,Bz,Ca,Cb,Cc,Cd⟩:=qz5 Aa.out)|((with_reducible refine y18 (f:=13) rfl ?_);refine y21 (some 14) rfl rfl Tryz.func13 (by kernel_rfl) rfl #[.agg #[.int .i64 Ag,.string Ah,.slice Al Ac.length Am],.int .i64 Af] rfl qy1 ?_;(with_reducible refine(laws_szLit.calls Ag Ah _ _ Ac Af Ai _ (qc (Kd.C_below Au.out HB.out)) Av.out A8.out).mono ?_);rintro e Fg ⟨rfl,hb⟩;refine⟨_,rfl, ?_⟩;replace Aa:=y0.mk (qK Aa.out hb);replace HB:=y0.mk (y5 qb hb);(try clear hb)))
   go_ret
   exact⟨qf,qb⟩
  ·rw [if_neg c9]at H
   have Fa:=decide_eq_false c9
   clear c9
   obtain⟨At,Fb,H⟩:=qB H
   by_cases Bh:At < 0
   ·rw [if_pos Bh]at H
    have Bi:=decide_eq_true Bh
    clear Bh
    obtain rfl:=Option.some.inj H
    go_enter Tryz.func4,Tryz.ntmps4
    go_wp2_with (first|((with_reducible refine y19 (N:=2) rfl ?_);refine qe 2 #[.slice Aj Ab.length Ak,.int .i64 Ag,.string Ah,.slice Al Ac.length Am,.slice Ap Ad.length Aq] 28 ?_;intro Aw hg Fh hbox hb;have Aa:=y0.mk (hbox);have Ax:=y0.mk (qg (w:=w) hg);have Ay:=y0.mk (qg (w:=w) hg);replace HB:=y0.mk (y5 qb hb);clear hb hbox hg;obtain⟨Ce,Cf,Cg,Ch,Ci,Cj,Ck,Cl,Cm,Cn⟩:=qz5 Aa.out)|((with_reducible refine y18 (f:=12) rfl ?_);refine y21 (some 8) rfl rfl Tryz.func12 (by kernel_rfl) rfl #[.slice Aj Ab.length Ak,.int .i64 a1] rfl qy1 ?_;(with_reducible refine(laws_szExpS.calls k _ _ Ab a1 Af _ (qc (Kd.C_below Ar.out HB.out)) As.out A3.out).mono ?_);rintro e Fi ⟨rfl,hb⟩;refine⟨_,rfl, ?_⟩;replace Aa:=y0.mk (qK Aa.out hb);replace HB:=y0.mk (y5 qb hb);(try clear hb);obtain⟨Co,Cp,Cq,Cr,Cs,Ct,Cu,Cv,Cw,Cx⟩:=qz5 Aa.out)|((with_reducible refine y18 (f:=13) rfl ?_);refine y21 (some 14) rfl rfl Tryz.func13 (by kernel_rfl) rfl #[.agg #[.int .i64 Ag,.string Ah,.slice Al Ac.length Am],.int .i64 Af] rfl qy1 ?_;(with_reducible refine(laws_szLit.calls Ag Ah _ _ Ac Af Ai _ (qc (Kd.C_below Au.out HB.out)) Av.out A8.out).mono ?_);rintro e Fj ⟨rfl,hb⟩;refine⟨_,rfl, ?_⟩;replace Aa:=y0.mk (qK Aa.out hb);replace HB:=y0.mk (y5 qb hb);(try clear hb);obtain⟨Cy,Cz,Da,Db,Dc,Dd,De,Df,Dg,Dh⟩:=qz5 Aa.out)|((with_reducible refine y18 (f:=14) rfl ?_);refine y21 (some 20) rfl rfl Tryz.func14 (by kernel_rfl) rfl #[.slice Ap Ad.length Aq,.int .i64 Ai] rfl qy1 ?_;(with_reducible refine(laws_szLitS.calls k _ _ Ad Ai At _ (qc (Kd.C_below Bf.out HB.out)) Bg.out Fb.out).mono ?_);rintro e Fk ⟨rfl,hb⟩;refine⟨_,rfl, ?_⟩;replace Aa:=y0.mk (qK Aa.out hb);replace HB:=y0.mk (y5 qb hb);(try clear hb)))
    go_ret
    exact⟨qf,qb⟩
   ·rw [if_neg Bh]at H
    have Bi:=decide_eq_false Bh
    clear Bh
    obtain rfl:=Option.some.inj H
    go_enter Tryz.func4,Tryz.ntmps4
    go_wp2_with (first|((with_reducible refine y19 (N:=2) rfl ?_);refine qe 2 #[.slice Aj Ab.length Ak,.int .i64 Ag,.string Ah,.slice Al Ac.length Am,.slice Ap Ad.length Aq] 28 ?_;intro Aw hg Fl hbox hb;have Aa:=y0.mk (hbox);have Ax:=y0.mk (qg (w:=w) hg);have Ay:=y0.mk (qg (w:=w) hg);replace HB:=y0.mk (y5 qb hb);clear hb hbox hg;obtain⟨Di,Dj,Dk,Dl,Dm,Do,Dp,Dq,Dr,Ds⟩:=qz5 Aa.out)|((with_reducible refine y18 (f:=12) rfl ?_);refine y21 (some 8) rfl rfl Tryz.func12 (by kernel_rfl) rfl #[.slice Aj Ab.length Ak,.int .i64 a1] rfl qy1 ?_;(with_reducible refine(laws_szExpS.calls k _ _ Ab a1 Af _ (qc (Kd.C_below Ar.out HB.out)) As.out A3.out).mono ?_);rintro e Fm ⟨rfl,hb⟩;refine⟨_,rfl, ?_⟩;replace Aa:=y0.mk (qK Aa.out hb);replace HB:=y0.mk (y5 qb hb);(try clear hb);obtain⟨Dt,Du,Dv,Dw,Dx,Dy,Dz,Ea,Eb,Ec⟩:=qz5 Aa.out)|((with_reducible refine y18 (f:=13) rfl ?_);refine y21 (some 14) rfl rfl Tryz.func13 (by kernel_rfl) rfl #[.agg #[.int .i64 Ag,.string Ah,.slice Al Ac.length Am],.int .i64 Af] rfl qy1 ?_;(with_reducible refine(laws_szLit.calls Ag Ah _ _ Ac Af Ai _ (qc (Kd.C_below Au.out HB.out)) Av.out A8.out).mono ?_);rintro e Fn ⟨rfl,hb⟩;refine⟨_,rfl, ?_⟩;replace Aa:=y0.mk (qK Aa.out hb);replace HB:=y0.mk (y5 qb hb);(try clear hb);obtain⟨Ed,Ee,Ef,Eg,Eh,Ei,Ej,Ek,El,Em⟩:=qz5 Aa.out)|((with_reducible refine y18 (f:=14) rfl ?_);refine y21 (some 20) rfl rfl Tryz.func14 (by kernel_rfl) rfl #[.slice Ap Ad.length Aq,.int .i64 Ai] rfl qy1 ?_;(with_reducible refine(laws_szLitS.calls k _ _ Ad Ai At _ (qc (Kd.C_below Bf.out HB.out)) Bg.out Fb.out).mono ?_);rintro e Fo ⟨rfl,hb⟩;refine⟨_,rfl, ?_⟩;replace Aa:=y0.mk (qK Aa.out hb);replace HB:=y0.mk (y5 qb hb);(try clear hb)))
    go_ret
    exact⟨qf,qb⟩
def laws_szStringS.l0:Nat→List ByteArray→Int→Int→Option (Int)
 | 0,_,_,_=>none
 | k + 1,x0,x1,x5=>if x5 < (x0.length:Int)then(if 0≤x5 then(if(wrap64 (x1 - ((rdOf ByteArray.empty x0 x5).size:Int))) < 0 then(some (-1))else(laws_szStringS.l0 k x0 (wrap64 (x1 - ((rdOf ByteArray.empty x0 x5).size:Int))) (wrap64 (x5 + 1))))else(none))else(some x1)
def laws_szStringS.f (k:Nat) (l0:List ByteArray) (a1:Int):Option (Int):=if(wrap64 (a1 - (l0.length:Int))) < 0 then(some (-1))else(laws_szStringS.l0 k l0 (wrap64 (a1 - (l0.length:Int))) 0)
theorem laws_szStringS.calls (k:Nat) (A0:Option Addr) (c0:Nat) (l0:List ByteArray) (a1:Int) (r:Int) (w:World) (Ak:Kd.C Kd.string w A0 l0.length l0) (Al:l0.length≤c0) (h:laws_szStringS.f k l0 a1=some r) :
  Calls Tryz.prog 5 #[.slice A0 l0.length c0,.int .i64 a1] w fun e w'=>e=.returned (.int .i64 r)∧y1 w w':=by
 have Aq:=y0.mk Ak
 have As:=y0.mk Al
 clear Ak Al
 have H:(if(wrap64 (a1 - (l0.length:Int))) < 0 then(some (-1))else(laws_szStringS.l0 k l0 (wrap64 (a1 - (l0.length:Int))) 0))=some r:=h
 clear h
 by_cases c3:(wrap64 (a1 - (l0.length:Int))) < 0
 ·rw [if_pos c3]at H
  have Af:=decide_eq_true c3
  clear c3
  obtain rfl:=Option.some.inj H
  go_enter Tryz.func5,Tryz.ntmps5
  go_wp2
  go_ret
  exact qf2
 ·rw [if_neg c3]at H
  have Af:=decide_eq_false c3
  clear c3
  have H':=y0.mk H
  clear H
  go_enter Tryz.func5,Tryz.ntmps5
  go_wp2
  go_loopg [1,5] k (fun kq v1 v5 w'=>∃(Ab:Int) (Aa:Int),v1=.int .i64 Ab∧v5=.int .i64 Aa∧y0 (laws_szStringS.l0 kq l0 Ab Aa=some r)∧y0 (kq≤k)∧y1 w w')
  case atStart=>exact⟨(wrap64 (a1 - (l0.length:Int))),(0),qy2,qy2,H',⟨Nat.le_refl _⟩,by repeat(first|exact y1.refl _|apply y1.step)⟩
  case round =>
   clear H'
   (try clear Af)
   obtain⟨Ab,Aa,rfl,rfl,HA,Am,⟨m1,rfl⟩⟩:=hrel
   cases gk with
   | zero=>exact absurd HA.out (by simp [laws_szStringS.l0])
   | succ k1 =>
    have H:=HA.out
    clear HA
    simp only [laws_szStringS.l0]at H
    by_cases c4:Aa < (l0.length:Int)
    ·rw [if_pos c4]at H
     have Ah:=decide_eq_true c4
     clear c4
     obtain⟨c5,H⟩:=qo H
     have Ar:decide (0≤Aa)=true:=decide_eq_true c5
     clear c5
     have Ac:0≤(Aa:Int):=qd
     have Ad:Aa < (l0.length:Int):=qd
     obtain⟨Ap,Ai,Ag⟩:=Kd.at_string Aq.out Aa Ac Ad
     cases Ai
     replace Ac:=eq_true Ac
     replace Ad:=eq_true Ad
     by_cases c6:(wrap64 (Ab - ((rdOf ByteArray.empty l0 Aa).size:Int))) < 0
     ·rw [if_pos c6]at H
      have Aj:=decide_eq_true c6
      clear c6
      obtain rfl:=Option.some.inj H
      go_wp2
      go_ret
      exact qf2
     ·rw [if_neg c6]at H
      have Aj:=decide_eq_false c6
      clear c6
      have H':=y0.mk H
      clear H
      go_wp2
      go_roundg k1
      case measure=>have:=Am.out;omega
      exact⟨(wrap64 (Ab - ((rdOf ByteArray.empty l0 Aa).size:Int))),(wrap64 (Aa + 1)),qy2,qy2,H',⟨by have:=Am.out;omega⟩,by repeat(first|exact y1.refl _|apply y1.step)⟩
    ·rw [if_neg c4]at H
     have Ah:=decide_eq_false c4
     clear c4
     obtain rfl:=Option.some.inj H
     go_wp2
     go_ret
     exact qf2
def z8_.f (a0:Int) (a1:Int) (a2:Int):Option (Bool):=if a0≥a1 then(some (decide (a0≤a2)))else(some false)
theorem z8_.calls (a0:Int) (a1:Int) (a2:Int) (r:Bool) (w:World) (h:z8_.f a0 a1 a2=some r) :
  Calls Tryz.prog 16 #[.int .i64 a0,.int .i64 a1,.int .i64 a2] w fun e w'=>e=.returned (.bool r)∧y1 w w':=by
 have H:(if a0≥a1 then(some (decide (a0≤a2)))else(some false))=some r:=h
 clear h
 by_cases c4:a0≥a1
 ·rw [if_pos c4]at H
  have c4b0:decide (a1≤a0)=true:=decide_eq_true c4
  clear c4
  obtain rfl:=Option.some.inj H
  go_enter Tryz.func16,Tryz.ntmps16
  go_wp2
  go_ret
  exact qf2
 ·rw [if_neg c4]at H
  have c4b0:decide (a1≤a0)=false:=decide_eq_false c4
  clear c4
  obtain rfl:=Option.some.inj H
  go_enter Tryz.func16,Tryz.ntmps16
  go_wp2
  go_ret
  exact qf2
def spec_l04Side.f (Ae:List (S67)) (a0_1:Int) (a0_2:ByteArray) (l0_3:List Int) (l0_4:List (S35)) (l1:List ByteArray) (a2:Int):Option (ByteArray):=if 0≤a2 then(if a2 < (Ae.length:Int)then((z8_.f ((y23 Ae a2).f0) 5 7).bind fun An=>(if An=true then(if a2 < (l1.length:Int)then(if 1 + (rdOf ByteArray.empty l1 a2).size≤9223372036854775807 then(if((⟨#[40]⟩:ByteArray) ++ (rdOf ByteArray.empty l1 a2)).size + 1≤9223372036854775807 then(some (((⟨#[40]⟩:ByteArray) ++ (rdOf ByteArray.empty l1 a2)) ++ (⟨#[41]⟩:ByteArray)))else(none))else(none))else(none))else(if a2 < (l1.length:Int)then(some (rdOf ByteArray.empty l1 a2))else(none))))else(none))else(none)
theorem spec_l04Side.calls (Aq:Option Addr) (Ar:Nat) (Ad:List (S67)) (As:Int) (At:ByteArray) (Au:Option Addr) (Av:Nat) (Aj:List Int) (Aw:Option Addr) (Ax:Nat) (Ak:List (S35)) (A1:Option Addr) (c1:Nat) (l1:List ByteArray) (a2:Int) (r:ByteArray) (w:World) (Ba:Kd.C k67 w Aq Ad.length Ad) (Bb:Ad.length≤Ar) (Bc:Kd.C (Kd.int .i64) w Au Aj.length Aj) (Bd:Aj.length≤Av) (Be:Kd.C k35 w Aw Ak.length Ak) (Bf:Ak.length≤Ax) (Cs:Kd.C Kd.string w A1 l1.length l1) (Ct:l1.length≤c1) (h:spec_l04Side.f Ad As At Aj Ak l1 a2=some r) :
  Calls Tryz.prog 48 #[.agg #[.slice Aq Ad.length Ar,.int .i64 As,.string At,.slice Au Aj.length Av,.slice Aw Ak.length Ax],.slice A1 l1.length c1,.int .i64 a2] w fun e w'=>e=.returned (.string r)∧Below w.heap.size w w':=by
 have Dh:=Tryz.underlying38
 have Bg:=y0.mk Ba
 have Cu:=y0.mk Bb
 clear Ba Bb
 have Cv:=y0.mk Bc
 have Cw:=y0.mk Bd
 clear Bc Bd
 have Cx:=y0.mk Be
 have Cy:=y0.mk Bf
 clear Be Bf
 have Cz:=y0.mk Cs
 have Dp:=y0.mk Ct
 clear Cs Ct
 have HB:=y0.mk (Below.refl w.heap.size w)
 have H:(if 0≤a2 then(if a2 < (Ad.length:Int)then((z8_.f ((y23 Ad a2).f0) 5 7).bind fun Bh=>(if Bh=true then(if a2 < (l1.length:Int)then(if 1 + (rdOf ByteArray.empty l1 a2).size≤9223372036854775807 then(if((⟨#[40]⟩:ByteArray) ++ (rdOf ByteArray.empty l1 a2)).size + 1≤9223372036854775807 then(some (((⟨#[40]⟩:ByteArray) ++ (rdOf ByteArray.empty l1 a2)) ++ (⟨#[41]⟩:ByteArray)))else(none))else(none))else(none))else(if a2 < (l1.length:Int)then(some (rdOf ByteArray.empty l1 a2))else(none))))else(none))else(none))=some r:=h
 clear h
 obtain⟨c4,H⟩:=qo H
 have Di:decide (0≤a2)=true:=decide_eq_true c4
 clear c4
 obtain⟨c5,H⟩:=qo H
 have Dj:decide (a2 < (Ad.length:Int))=true:=decide_eq_true c5
 clear c5
 obtain⟨Bh,A6,H⟩:=qB H
 by_cases c7:Bh=true
 ·subst c7
  replace H:=qT H
  obtain⟨c8,H⟩:=qo H
  have Dk:decide (a2 < (l1.length:Int))=true:=decide_eq_true c8
  clear c8
  obtain⟨c9,H⟩:=qo H
  have Dl:=eq_true c9
  have Dm:=decide_eq_true c9
  have Do:=eq_false (Nat.not_lt.2 c9)
  obtain⟨Cp,H⟩:=qo H
  have Da:=eq_true Cp
  have Db:=decide_eq_true Cp
  have Bp:=eq_false (Nat.not_lt.2 Cp)
  have Dc:(9223372036854775807 < 1 + (rdOf ByteArray.empty l1 a2).size + 1)=False:=qs Bp
  obtain rfl:=Option.some.inj H
  go_enter Tryz.func48,Tryz.ntmps48
  go_wp2_with (first|((with_reducible refine y19 (N:=3) rfl ?_);refine qe 3 #[.slice Aq Ad.length Ar,.int .i64 As,.string At,.slice Au Aj.length Av,.slice Aw Ak.length Ax] 38 ?_;intro Bq hg Dq hbox hb;have Ap:=y0.mk (hbox);have Br:=y0.mk (qg (w:=w) hg);have Bs:=y0.mk (qg (w:=w) hg);replace HB:=y0.mk (y5 qb hb);clear hb hbox hg;obtain⟨Bu,Bv,Bw,Bx,Bz,Ca,Cb,Cc,Cd,Ce⟩:=qz5 Ap.out;have Al:0≤(a2:Int):=qd;have Am:a2 < (Ad.length:Int):=qd;obtain⟨Bt,Bi,Bj,Bk,Aa,Ab,Ac,Af,Ag⟩:=at_T67 Bg.out a2 Al Am;cases Bk;replace Aa:=qC Aa HB;replace Ab:=qC Ab HB;replace Ac:=qC Ac HB;have Ay:=y0.mk Ag;have Az:=y0.mk Af;clear Ag Af;replace Al:=eq_true Al;replace Am:=eq_true Am)|((with_reducible refine y18 (f:=16) rfl ?_);refine y21 (some 13) rfl rfl Tryz.func16 (by kernel_rfl) rfl #[.int .i64 ((y23 Ad a2).f0),.int .i64 5,.int .i64 7] rfl qy1 ?_;(with_reducible refine(z8_.calls ((y23 Ad a2).f0) 5 7 true _ A6.out).mono ?_);rintro e w' ⟨rfl,⟨nd,rfl⟩⟩;refine⟨_,rfl, ?_⟩;have Bl:0≤(a2:Int):=qd;have Bm:a2 < (l1.length:Int):=qd;obtain⟨Dd,Cq,Ah⟩:=Kd.at_string Cz.out a2 Bl Bm;cases Cq;replace Ah:=qC Ah HB;replace Bl:=eq_true Bl;replace Bm:=eq_true Bm))
  go_ret
  exact⟨qf,qb⟩
 ·replace c7:=Bool.eq_false_iff.mpr c7
  subst c7
  replace H:=qF H
  obtain⟨De,H⟩:=qo H
  have Df:decide (a2 < (l1.length:Int))=true:=decide_eq_true De
  clear De
  obtain rfl:=Option.some.inj H
  go_enter Tryz.func48,Tryz.ntmps48
  go_wp2_with (first|((with_reducible refine y19 (N:=3) rfl ?_);refine qe 3 #[.slice Aq Ad.length Ar,.int .i64 As,.string At,.slice Au Aj.length Av,.slice Aw Ak.length Ax] 38 ?_;intro Bq hg Dr hbox hb;have Ap:=y0.mk (hbox);have Br:=y0.mk (qg (w:=w) hg);have Bs:=y0.mk (qg (w:=w) hg);replace HB:=y0.mk (y5 qb hb);clear hb hbox hg;obtain⟨Cf,Cg,Ch,Ci,Cj,Ck,Cl,Cm,Cn,Co⟩:=qz5 Ap.out;have Al:0≤(a2:Int):=qd;have Am:a2 < (Ad.length:Int):=qd;obtain⟨Bt,Bi,Bj,Bk,Aa,Ab,Ac,Af,Ag⟩:=at_T67 Bg.out a2 Al Am;cases Bk;replace Aa:=qC Aa HB;replace Ab:=qC Ab HB;replace Ac:=qC Ac HB;have Ay:=y0.mk Ag;have Az:=y0.mk Af;clear Ag Af;replace Al:=eq_true Al;replace Am:=eq_true Am)|((with_reducible refine y18 (f:=16) rfl ?_);refine y21 (some 13) rfl rfl Tryz.func16 (by kernel_rfl) rfl #[.int .i64 ((y23 Ad a2).f0),.int .i64 5,.int .i64 7] rfl qy1 ?_;(with_reducible refine(z8_.calls ((y23 Ad a2).f0) 5 7 false _ A6.out).mono ?_);rintro e w' ⟨rfl,⟨nd,rfl⟩⟩;refine⟨_,rfl, ?_⟩;have Bn:0≤(a2:Int):=qd;have Bo:a2 < (l1.length:Int):=qd;obtain⟨Dg,Cr,Ai⟩:=Kd.at_string Cz.out a2 Bn Bo;cases Cr;replace Ai:=qC Ai HB;replace Bn:=eq_true Bn;replace Bo:=eq_true Bo))
  go_ret
  exact⟨qf,qb⟩
end Go.Proofs.YtimhlficlhafbaaGreatDoor.Pv
end
