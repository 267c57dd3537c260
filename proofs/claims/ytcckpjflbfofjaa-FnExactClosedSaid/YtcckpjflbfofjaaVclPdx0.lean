-- Cut by prune.py, a program of this session, out of the texts of this claim: Lean checks it.
import Derived.Test.YtcckpjflbfofjaaProg
import Derived.Below
import Derived.Deep.Draws
import Derived.Deep.AppendLies
import Derived.Maps.AppendAt
import Derived.OwnWalk
import Derived.Laws.BytesArg
import Derived.Laws.MakeOwn
import Derived.Laws.OwnMore
import Derived.Deep.OwnRows
import Derived.Tactics
import Derived.Lib.ConvBytes
import Derived.Laws.Slices
import Derived.WalkKit
import Derived.KernelRfl
import Derived.RowKit3
import Derived.Deep.LoopGhost
import Derived.Deep.QuietTactic
import Derived.BigQuiet
import Derived.WideLaws
import Derived.Deep.DeepCutAuto
import Derived.Deep.CutBlock
import Derived.Deep.RegionHeld3
import Derived.Laws.Rows
import Derived.Lib.AppendStr
import Derived.ArgAppend
import Derived.Laws.IdiomCopy
import Derived.OrdersHeld
import Derived.Laws.BitsLemmas
import Derived.RowKit
import Derived.Test.YtcckpjflbfofjaaVclWWords
import Derived.Test.YtcckpjflbfofjaaVclWLast
import Derived.Test.YtcckpjflbfofjaaVclWTab
import Derived.Test.YtcckpjflbfofjaaVclWApart
import Derived.Test.YtcckpjflbfofjaaVclWFoot
import Derived.Test.YtcckpjflbfofjaaVclWKept
import Derived.Test.YtcckpjflbfofjaaVclWShare
import Derived.Test.YtcckpjflbfofjaaVclWN
import Derived.Test.YtcckpjflbfofjaaVclWEqStruct
import Derived.Test.YtcckpjflbfofjaaVclWRepsOne
import Derived.Test.YtcckpjflbfofjaaVclWInv
import Derived.Test.YtcckpjflbfofjaaVclWGuard
import Derived.Test.YtcckpjflbfofjaaVclWMore
import Derived.Test.YtcckpjflbfofjaaVclQIv
import Derived.Test.YtcckpjflbfofjaaVclQClo
import Derived.Test.YtcckpjflbfofjaaVclQIvP
import Derived.Lib.LaidTab
import Derived.WalkSmall
import Derived.Test.YtcckpjflbfofjaaVclShelf
import Derived.Test.YtcckpjflbfofjaaVclQRead
section
namespace Go.Proofs.Ytcckpjflbfofjaa.Pd
open Go.RowKit Go.Proofs.YtcckpjflbfofjaaW.PrintWords Go.Proofs.YtcckpjflbfofjaaW.PrintLast Go.Proofs.YtcckpjflbfofjaaW.PrintMore
attribute [local go_sem] max2_int min2_int max_two min_two max_three min_three max_four min_four   -- for this text's walks alone
set_option linter.unusedVariables false
set_option linter.unusedSimpArgs false
theorem qy0 {P:Prop} (h:P:=by first|(with_reducible assumption)|assumption):P:=h
theorem qy1 {P:Prop} (h:P:=by(try simp only [qM_,List.map_cons,List.map_nil]);first|done|rfl|(simp only [qD_,qT_];rfl)):P:=h
theorem qy2 {P:Prop} (h:P:=by first|rfl|(simp;done)|(simp [*];done)):P:=h
theorem qb {w W:World} (h:Below w.heap.size w W:=by repeat(first|(with_reducible first|exact HB.out|apply y1|apply y13|apply y2|refine y3 ?_ (y0.out (by with_reducible assumption)))|exact HB.out)):Below w.heap.size w W:=h
theorem qg {w W:World} {g:Nat} (e:g=W.heap.size) (h:Below w.heap.size w W:=by repeat(first|(with_reducible first|exact HB.out|apply y1|apply y13|apply y2|refine y3 ?_ (y0.out (by with_reducible assumption)))|exact HB.out)):w.heap.size≤g:=by rw [e];exact below_size h
theorem qk {w W:World} {g:Nat} {o:Obj} (h:w.heap[g]?=some o) (h1:Below w.heap.size w W:=by repeat(first|with_reducible exact Below.refl _ _|with_reducible apply y1|with_reducible apply y13|with_reducible apply y2)):W.heap[g]?=some o:=y6 h h1
theorem qK {w W w2:World} {g:Nat} {o:Obj} (h:w.heap[g]?=some o) (hb:Below W.heap.size W w2) (h1:Below w.heap.size w W:=by repeat(first|with_reducible exact Below.refl _ _|with_reducible apply y1|with_reducible apply y13|with_reducible apply y2)):w2.heap[g]?=some o:=y6 (y6 h h1) hb
theorem qn {w W:World} {g g2:Nat} {o:Obj} (h:w.heap[g]?=some o) (e:g2=W.heap.size) (h1:Below w.heap.size w W:=by repeat(first|with_reducible exact Below.refl _ _|with_reducible apply y1|with_reducible apply y13|with_reducible apply y2)):g≠g2:=by rw [e];exact Nat.ne_of_lt (blk_lt (y6 h h1))
theorem qm {w W:World} {g g2:Nat} {o:Obj} (h:w.heap[g]?=some o) (e:g2=W.heap.size) (h1:Below w.heap.size w W:=by repeat(first|with_reducible exact Below.refl _ _|with_reducible apply y1|with_reducible apply y13|with_reducible apply y2)):g2≠g:=Ne.symm (qn h e h1)
theorem qc {α:Type} {d:Kd α} {w W:World} {A:Option Addr} {n:Nat} {xs:List α} (h:d.C w A n xs) (h1:Below w.heap.size w W:=by repeat(first|with_reducible exact Below.refl _ _|with_reducible apply y1|with_reducible apply y13|with_reducible apply y2)):d.C W A n xs:=Kd.C_below h h1
theorem qo {P:Prop} [Decidable P] {α:Type} {X Y:Option α} {r:α} (h:(if P then X else Y)=some r) (hn:¬(Y=some r):=by simp):P∧X=some r:=by
 by_cases c:P
 ·rw [if_pos c]at h
  exact⟨c,h⟩
 ·rw [if_neg c]at h
  exact absurd h hn
theorem qB {α β:Type} {x:Option α} {f:α→Option β} {r:β} (h:x.bind f=some r):∃ t,y0 (x=some t)∧f t=some r:=by
 obtain⟨t,a,b⟩:=Option.bind_eq_some_iff.mp h
 exact⟨t,⟨a⟩,b⟩
theorem qT {α:Type} {X Y:Option α} {r:α} {d:Decidable (true=true)} (h:(@ite _ (true=true) d X Y)=some r):X=some r:=by rwa [if_pos rfl]at h
theorem qF {α:Type} {X Y:Option α} {r:α} {d:Decidable (false=true)} (h:(@ite _ (false=true) d X Y)=some r):Y=some r:=by rwa [if_neg Bool.false_ne_true]at h
theorem qR {α:Type} {d:Kd α} {e base:Nat} {w W:World} {ok:Nat→Prop} {v:Value} {xs:List α} (h:d.R e w base ok v xs) (h1:Below w.heap.size w W:=by repeat(first|with_reducible exact Below.refl _ _|with_reducible apply y1|with_reducible apply y13|with_reducible apply y2|exact⟨rfl,rfl,rfl,Nat.le_refl _,fun _ _=>rfl⟩)):d.R e W base ok v xs:=Kd.R_below h h1
theorem qS {α:Type} {d:Kd α} {e base:Nat} {w W:World} {ok:Nat→Prop} {v:Value} {xs:List α} (h:Kd.S d e w base ok v xs) (h1:Below w.heap.size w W:=by repeat(first|with_reducible exact Below.refl _ _|with_reducible apply y1|with_reducible apply y13|with_reducible apply y2)):Kd.S d e W base ok v xs:=Kd.S_below h h1
theorem qz3 {w:World} {g t:Nat} {a0 a1 a2:Value} (h:w.heap[g]?=some (.cells #[a0,a1,a2] t (0,0))):w.cell? ⟨g,0,none⟩=some a0∧w.cell? ⟨g,1,none⟩=some a1∧w.cell? ⟨g,2,none⟩=some a2∧w.frozen? ⟨g,0,none⟩=false∧w.frozen? ⟨g,1,none⟩=false∧w.frozen? ⟨g,2,none⟩=false:=⟨(y7 h 0).trans rfl,(y7 h 1).trans rfl,(y7 h 2).trans rfl,y11 h 0,y11 h 1,y11 h 2⟩
section
variable {P : Program} {ops : Array Oper} {rest : List Oper} {o : Oper} {a : Act} {Q : Exit → Act → World → Prop}
theorem qe {W:World} (N:Tmp) (cs:Array Value) (t:TypeId) (h:∀ g,g=W.heap.size→∀ w1,w1.heap[g]?=some (.cells cs t (0,0))→Below W.heap.size W w1→wpList P ops Q rest (a.put o.dst (.pointer (some ⟨g,0,none⟩))) w1) (hg:o.guard=none:=by rfl) (hd:o.dst=some N:=by rfl)
  (hr:(execOp a.eval o).run P W=.ok (.value (.pointer (some ⟨W.heap.size,0,none⟩))) (W.alloc (.cells cs t (0,0))):=by first|(go_simp;done)|(go_simp;rfl)):wpList P ops Q (o :: rest) a W:=box_event hg hd hr h
theorem qLs {α:Type} {W:World} {Kc:Act→World→Prop} (d:Kd α) (e:Nat) (N:Tmp) (xs:List α) {inner:List Value} (h:∀ v1 w1,d.R e w1 W.heap.size (fun _=>True) v1 xs→Below W.heap.size W w1→W.grownBy w1 none→(∃ b,v1.ownBlock=some b∧W.heap.size≤b)→Kc (a.put o.dst v1) w1) (hg:Region.wanted o (yielded ops a.tmps)=true:=by rfl) (hd:o.dst=some N:=by rfl) (hp:Reps (d.M W W.heap.size (fun _=>True)) d.sz xs inner:=by repeat(first|exact Reps.none _ _|(refine Reps.one (v:=?_) (cs:=?_) ?_ ?_;rotate_left;rotate_left;rfl)))
  (hr:(execOp a.eval o).run P W=.ok (.value (.slice (some ⟨W.heap.size,0,none⟩) xs.length xs.length)) (W.alloc (.cells inner.toArray e)):=by first|(go_simp;done)|(go_simp;rfl)) (hm:xs.length≤9223372036854775807:=by simp):if Region.wanted o (yielded ops a.tmps)=true then Oper.wp P o a W Kc Q else Kc (a.put o.dst undef) W:=Kd.R_lit_step d (w0:=W) W.heap.size e hg hd hr hp (fun _ h=>h) trivial (Below.refl _ _) (Nat.le_refl _) hm h
end
theorem qf {P:Prop} (h:P:=by first|rfl|(simp [errW_none,errW_some] <;> rfl)|(simp [*,errW_none,errW_some] <;> rfl)):P:=h
theorem qf2 {P:Prop} {w w2:World} (h:P:=by first|rfl|(simp;done)|(simp [*];done)) (h2:Drawn0 w w2:=by repeat(first|exact Drawn0.refl _|apply Drawn0.step)):P∧Drawn0 w w2:=⟨h,h2⟩
section
variable {P : Program} {ops : Array Oper} {Q : Exit → Act → World → Prop} {md : Region.Mode} {S : World → Prop} {ds : List Nat}
theorem qp {oi:Oper} {v:Value} {fuel:Nat} {l:Array Bool} {a a':Act} {w:World} (i:Nat) (N:Tmp) (l':Array Bool) (h:y16 P md ops Q S ds fuel l' a' w) (hi:ops[i]?=some oi:=by exact rfl) (hN:oi.dst=some N:=by exact rfl) (hc:anyB md ops l l' i=true:=by first|exact any_of HT_.out (by kernel_rfl)|kernel_rfl)
  (hQ:∀ c a w,Q (.panic c) (a.put oi.dst v) w→Q (.panic c) a w:=by exact fun _ _ _ h=>h) (hy:Yields P ops oi v a:=by first|(refine Or.inl ⟨by rfl, ?_⟩;intro w';go_simp;with_reducible rfl)|exact Or.inr ⟨by rfl,rfl⟩) (ha:a.put (some N) v=a':=by simp only [Act.put,qS_,qZ_,qC_,i64_w,i32_w];rfl):y16 P md ops Q S ds (fuel + 1) l a w:=pure_ l' hi hN hc hQ hy ha h
theorem qt {oi:Oper} {v:Value} {fuel:Nat} {l:Array Bool} {a a':Act} {w:World} (i:Nat) (N:Tmp) (l':Array Bool) (hS:S w) (h:y16 P md ops Q S ds fuel l' a' w) (hi:ops[i]?=some oi:=by exact rfl) (hN:oi.dst=some N:=by exact rfl) (hc:takeB md ops ds l l' i=true:=by first|exact take_ofW HT_.out HW_.out (by kernel_rfl)|kernel_rfl)
  (hQ:∀ c a w,Q (.panic c) (a.put oi.dst v) w→Q (.panic c) a w:=by exact fun _ _ _ h=>h) (hy:YieldsIf P ops S oi v a:=by refine Or.inl ⟨by rfl, ?_⟩;intro w' hs_;(repeat(obtain⟨s_,hs_⟩:_∧_:=hs_));go_simp;with_reducible rfl) (ha:a.put (some N) v=a':=by simp only [Act.put,qS_,qZ_,qC_,i64_w,i32_w];rfl):y16 P md ops Q S ds (fuel + 1) l a w:=take_ l' hi hN hc hQ hy hS ha h
theorem qO {oi:Oper} {fuel:Nat} {l:Array Bool} {a:Act} {w:World} (i:Nat) (N:Tmp) (l':Array Bool) (h:∀ K:Act→World→Prop,Shut (∀ a' w',S w'→(S w'→y16 P md ops Q S ds fuel l' a' w')→K a' w')→if Region.wanted oi (yielded ops a.tmps)=true then Oper.wp P oi a w K Q else K (a.put (some N) undef) w) (hi:ops[i]?=some oi:=by exact rfl) (hN:oi.dst=some N:=by exact rfl) (hc:readyB md ops l l' i=true:=by first|exact one_of HT_.out (by kernel_rfl)|kernel_rfl) (hd:i∉ds:=by decide):y16 P md ops Q S ds (fuel + 1) l a w:=one_ l' hi hN hc hd h
theorem qx {fuel:Nat} {v:Value} {l:Array Bool} {a a':Act} {w:World} (N:Tmp) (h:y16 P md ops Q S ds fuel l a' w) (ha:a.put (some N) v=a':=by simp only [Act.put,qS_,qZ_,qC_,i64_w,i32_w];rfl):y16 P md ops Q S ds fuel l (a.put (some N) v) w:=norm_ ha h
def qY (P:Program) (ops:Array Oper) (Q:Exit→Act→World→Prop) (md:Region.Mode) (l l':Array Bool) (i N:Nat) (a a':Act):Prop:=∀(S:World→Prop) (ds:List Nat) (fuel:Nat) (w:World),y16 P md ops Q S ds fuel l' a' w→y16 P md ops Q S ds (fuel + 1) l a w
theorem qY_ {oi:Oper} {v:Value} {l l':Array Bool} {a a':Act} {i N j M:Nat} (ei:i=j:=by first|(simp only [Nat.reduceAdd];rfl)|rfl) (eN:N=M:=by first|(simp only [Nat.reduceAdd];rfl)|rfl) (hi:ops[j]?=some oi:=by exact rfl) (hN:oi.dst=some M:=by exact rfl) (hc:anyB md ops l l' j=true:=by first|exact any_of HT_.out (by kernel_rfl)|kernel_rfl)
  (hQ:∀ c a w,Q (.panic c) (a.put oi.dst v) w→Q (.panic c) a w:=by exact fun _ _ _ h=>h) (hy:Yields P ops oi v a:=by first|(refine Or.inl ⟨by rfl, ?_⟩;intro w';go_simp;with_reducible rfl)|exact Or.inr ⟨by rfl,rfl⟩) (ha:a.put (some M) v=a':=by simp only [Act.put,qS_,qZ_,qC_,i64_w,i32_w];rfl):qY P ops Q md l l' i N a a':=by
 subst ei
 subst eN
 exact fun _ _ _ _ h=>pure_ l' hi hN hc hQ hy ha h
theorem qp2 {fuel:Nat} {l:Array Bool} {a0 a1 a2:Act} {w:World} (i N n:Nat) (h:y16 P md ops Q S ds fuel (fl_ n (2 ^ (i + 2) - 1)) a2 w) (h0:qY P ops Q md l (fl_ n (2 ^ (i + 1) - 1)) i N a0 a1:=by exact qY_) (h1:qY P ops Q md (fl_ n (2 ^ (i + 1) - 1)) (fl_ n (2 ^ (i + 2) - 1)) (i + 1) (N + 1) a1 a2:=by exact qY_):y16 P md ops Q S ds (fuel + 2) l a0 w:=h0 _ _ _ _ (h1 _ _ _ _ h)
theorem qp3 {fuel:Nat} {l:Array Bool} {a0 a1 a2 a3:Act} {w:World} (i N n:Nat) (h:y16 P md ops Q S ds fuel (fl_ n (2 ^ (i + 3) - 1)) a3 w) (h0:qY P ops Q md l (fl_ n (2 ^ (i + 1) - 1)) i N a0 a1:=by exact qY_) (h1:qY P ops Q md (fl_ n (2 ^ (i + 1) - 1)) (fl_ n (2 ^ (i + 2) - 1)) (i + 1) (N + 1) a1 a2:=by exact qY_) (h2:qY P ops Q md (fl_ n (2 ^ (i + 2) - 1)) (fl_ n (2 ^ (i + 3) - 1)) (i + 2) (N + 2) a2 a3:=by exact qY_):y16 P md ops Q S ds (fuel + 3) l a0 w:=h0 _ _ _ _ (h1 _ _ _ _ (h2 _ _ _ _ h))
theorem qp4 {fuel:Nat} {l:Array Bool} {a0 a1 a2 a3 a4:Act} {w:World} (i N n:Nat) (h:y16 P md ops Q S ds fuel (fl_ n (2 ^ (i + 4) - 1)) a4 w) (h0:qY P ops Q md l (fl_ n (2 ^ (i + 1) - 1)) i N a0 a1:=by exact qY_) (h1:qY P ops Q md (fl_ n (2 ^ (i + 1) - 1)) (fl_ n (2 ^ (i + 2) - 1)) (i + 1) (N + 1) a1 a2:=by exact qY_) (h2:qY P ops Q md (fl_ n (2 ^ (i + 2) - 1)) (fl_ n (2 ^ (i + 3) - 1)) (i + 2) (N + 2) a2 a3:=by exact qY_) (h3:qY P ops Q md (fl_ n (2 ^ (i + 3) - 1)) (fl_ n (2 ^ (i + 4) - 1)) (i + 3) (N + 3) a3 a4:=by exact qY_):y16 P md ops Q S ds (fuel + 4) l a0 w:=h0 _ _ _ _ (h1 _ _ _ _ (h2 _ _ _ _ (h3 _ _ _ _ h)))
theorem qp6 {fuel:Nat} {l:Array Bool} {a0 a1 a2 a3 a4 a5 a6:Act} {w:World} (i N n:Nat) (h:y16 P md ops Q S ds fuel (fl_ n (2 ^ (i + 6) - 1)) a6 w) (h0:qY P ops Q md l (fl_ n (2 ^ (i + 1) - 1)) i N a0 a1:=by exact qY_) (h1:qY P ops Q md (fl_ n (2 ^ (i + 1) - 1)) (fl_ n (2 ^ (i + 2) - 1)) (i + 1) (N + 1) a1 a2:=by exact qY_) (h2:qY P ops Q md (fl_ n (2 ^ (i + 2) - 1)) (fl_ n (2 ^ (i + 3) - 1)) (i + 2) (N + 2) a2 a3:=by exact qY_) (h3:qY P ops Q md (fl_ n (2 ^ (i + 3) - 1)) (fl_ n (2 ^ (i + 4) - 1)) (i + 3) (N + 3) a3 a4:=by exact qY_) (h4:qY P ops Q md (fl_ n (2 ^ (i + 4) - 1)) (fl_ n (2 ^ (i + 5) - 1)) (i + 4) (N + 4) a4 a5:=by exact qY_) (h5:qY P ops Q md (fl_ n (2 ^ (i + 5) - 1)) (fl_ n (2 ^ (i + 6) - 1)) (i + 5) (N + 5) a5 a6:=by exact qY_):y16 P md ops Q S ds (fuel + 6) l a0 w:=h0 _ _ _ _ (h1 _ _ _ _ (h2 _ _ _ _ (h3 _ _ _ _ (h4 _ _ _ _ (h5 _ _ _ _ h)))))
theorem qp10 {fuel:Nat} {l:Array Bool} {a0 a1 a2 a3 a4 a5 a6 a7 a8 a9 a10:Act} {w:World} (i N n:Nat) (h:y16 P md ops Q S ds fuel (fl_ n (2 ^ (i + 10) - 1)) a10 w) (h0:qY P ops Q md l (fl_ n (2 ^ (i + 1) - 1)) i N a0 a1:=by exact qY_) (h1:qY P ops Q md (fl_ n (2 ^ (i + 1) - 1)) (fl_ n (2 ^ (i + 2) - 1)) (i + 1) (N + 1) a1 a2:=by exact qY_) (h2:qY P ops Q md (fl_ n (2 ^ (i + 2) - 1)) (fl_ n (2 ^ (i + 3) - 1)) (i + 2) (N + 2) a2 a3:=by exact qY_) (h3:qY P ops Q md (fl_ n (2 ^ (i + 3) - 1)) (fl_ n (2 ^ (i + 4) - 1)) (i + 3) (N + 3) a3 a4:=by exact qY_) (h4:qY P ops Q md (fl_ n (2 ^ (i + 4) - 1)) (fl_ n (2 ^ (i + 5) - 1)) (i + 4) (N + 4) a4 a5:=by exact qY_) (h5:qY P ops Q md (fl_ n (2 ^ (i + 5) - 1)) (fl_ n (2 ^ (i + 6) - 1)) (i + 5) (N + 5) a5 a6:=by exact qY_) (h6:qY P ops Q md (fl_ n (2 ^ (i + 6) - 1)) (fl_ n (2 ^ (i + 7) - 1)) (i + 6) (N + 6) a6 a7:=by exact qY_) (h7:qY P ops Q md (fl_ n (2 ^ (i + 7) - 1)) (fl_ n (2 ^ (i + 8) - 1)) (i + 7) (N + 7) a7 a8:=by exact qY_) (h8:qY P ops Q md (fl_ n (2 ^ (i + 8) - 1)) (fl_ n (2 ^ (i + 9) - 1)) (i + 8) (N + 8) a8 a9:=by exact qY_) (h9:qY P ops Q md (fl_ n (2 ^ (i + 9) - 1)) (fl_ n (2 ^ (i + 10) - 1)) (i + 9) (N + 9) a9 a10:=by exact qY_):y16 P md ops Q S ds (fuel + 10) l a0 w:=h0 _ _ _ _ (h1 _ _ _ _ (h2 _ _ _ _ (h3 _ _ _ _ (h4 _ _ _ _ (h5 _ _ _ _ (h6 _ _ _ _ (h7 _ _ _ _ (h8 _ _ _ _ (h9 _ _ _ _ h)))))))))
end
def errW:Option Int→Value
 | none=>.nilIface
 | some c=>.iface 0 (.int .i64 c)
theorem errW_none:errW none=.nilIface:=rfl
theorem errW_some (c:Int):errW (some c)=.iface 0 (.int .i64 c):=rfl
theorem info28:(Try.prog.info? 28).map (fun i=>(i.zero,i.size,i.bytes))=some (some (.agg #[(.int .i64 0),(.int .i64 0),(.slice none 0 0)]),3,40):=by kernel_rfl
theorem info53:(Try.prog.info? 53).map (fun i=>(i.zero,i.size,i.bytes))=some (some (.agg #[(.int .i64 0),(.int .i64 0),(.bool false)]),3,24):=by kernel_rfl
structure S64 where
 f0:Int
 f1:Int
 f2:Bool
def z64:S64:=⟨(0:Int),(0:Int),false⟩
def k64:Kd S64:=Kd.iso (Kd.pair (Kd.int .i64) (Kd.pair (Kd.int .i64) Kd.bool)) (fun x:S64=>(x.f0,x.f1,x.f2))
theorem k64_open {w:World} {x:S64} {cs:List Value} (h:k64.K w x cs):cs=[.int .i64 x.f0,.int .i64 x.f1,.bool x.f2]:=by
 obtain⟨_,_,rfl,rfl,⟨_,_,rfl,rfl,rfl⟩⟩:=h
 exact rfl
def rd_T64 (xs:List S64) (i:Int):S64:=xs.getD i.toNat z64
theorem at_T64 {w:World} {A:Option Addr} {n:Nat} {xs:List S64} (h:Kd.C k64 w A n xs) (i:Int) (h0:0≤i) (h1:i < n):∃ ad , A=some ad∧w.cell? (ad.add (i.toNat * 3))=some (.int .i64 (rd_T64 xs i).f0)∧w.cell? ⟨(ad.add (i.toNat * 3)).block,(ad.add (i.toNat * 3)).off + 1,none⟩=some (.int .i64 (rd_T64 xs i).f1)∧w.cell? ⟨(ad.add (i.toNat * 3)).block,(ad.add (i.toNat * 3)).off + 2,none⟩=some (.bool (rd_T64 xs i).f2):=by
 obtain⟨ad,c,e,_,hK,hc0⟩:=Kd.C_get h z64 i h0 h1
 have hc:∀ j u,c[j]?=some u→w.cell? (ad.add (i.toNat * 3 + j))=some u:=hc0
 obtain rfl:=k64_open hK
 exact⟨ad,e,hc 0 _ rfl,by rw [← add_field _ _ 1 (by omega)];exact hc 1 _ rfl,by rw [← add_field _ _ 2 (by omega)];exact hc 2 _ rfl⟩
structure S53 where
 f0:Int
 f1:Int
 f2:Bool
def z53:S53:=⟨(0:Int),(0:Int),false⟩
def k53:Kd S53:=Kd.iso (Kd.pair (Kd.int .i64) (Kd.pair (Kd.int .i64) Kd.bool)) (fun x:S53=>(x.f0,x.f1,x.f2))
theorem k53_open {w:World} {x:S53} {cs:List Value} (h:k53.K w x cs):cs=[.int .i64 x.f0,.int .i64 x.f1,.bool x.f2]:=by
 obtain⟨_,_,rfl,rfl,⟨_,_,rfl,rfl,rfl⟩⟩:=h
 exact rfl
theorem k53_openM {w:World} {base:Nat} {ok:Nat→Prop} {x:S53} {cs:List Value} (h:k53.M w base ok x cs):cs=[.int .i64 x.f0,.int .i64 x.f1,.bool x.f2]:=by
 obtain⟨_,_,rfl,rfl,⟨_,_,rfl,rfl,rfl⟩⟩:=h
 exact rfl
theorem k53_mkM (w:World) (base:Nat) (ok:Nat→Prop) (x:S53) :k53.M w base ok x [.int .i64 x.f0,.int .i64 x.f1,.bool x.f2]:=⟨[.int .i64 x.f0],[.int .i64 x.f1,.bool x.f2],rfl,rfl,⟨[.int .i64 x.f1],[.bool x.f2],rfl,rfl,rfl⟩⟩
def y15 (xs:List S53) (i:Int):S53:=xs.getD i.toNat z53
theorem at_T53 {w:World} {A:Option Addr} {n:Nat} {xs:List S53} (h:Kd.C k53 w A n xs) (i:Int) (h0:0≤i) (h1:i < n):∃ ad , A=some ad∧w.cell? (ad.add (i.toNat * 3))=some (.int .i64 (y15 xs i).f0)∧w.cell? ⟨(ad.add (i.toNat * 3)).block,(ad.add (i.toNat * 3)).off + 1,none⟩=some (.int .i64 (y15 xs i).f1)∧w.cell? ⟨(ad.add (i.toNat * 3)).block,(ad.add (i.toNat * 3)).off + 2,none⟩=some (.bool (y15 xs i).f2):=by
 obtain⟨ad,c,e,_,hK,hc0⟩:=Kd.C_get h z53 i h0 h1
 have hc:∀ j u,c[j]?=some u→w.cell? (ad.add (i.toNat * 3 + j))=some u:=hc0
 obtain rfl:=k53_open hK
 exact⟨ad,e,hc 0 _ rfl,by rw [← add_field _ _ 1 (by omega)];exact hc 1 _ rfl,by rw [← add_field _ _ 2 (by omega)];exact hc 2 _ rfl⟩
structure S28 where
 f0:Int
 f1:Int
 f2:(List S53)
def z28:S28:=⟨(0:Int),(0:Int),([]:List S53)⟩
def k28:Kd S28:=Kd.iso (Kd.pair (Kd.int .i64) (Kd.pair (Kd.int .i64) (Kd.slice 53 k53))) (fun x:S28=>(x.f0,x.f1,x.f2))
theorem k28_open {w:World} {x:S28} {cs:List Value} (h:k28.K w x cs):∃ A2 c2,cs=[.int .i64 x.f0,.int .i64 x.f1,.slice A2 x.f2.length c2]∧x.f2.length≤c2∧k53.C w A2 x.f2.length x.f2:=by
 obtain⟨_,_,rfl,rfl,⟨_,_,rfl,rfl,⟨A2,c2,rfl,l2,g2⟩⟩⟩:=h
 exact⟨A2,c2,rfl,l2,g2⟩
theorem k28_openM {w:World} {base:Nat} {ok:Nat→Prop} {x:S28} {cs:List Value} (h:k28.M w base ok x cs):∃ v2,cs=[.int .i64 x.f0,.int .i64 x.f1,v2]∧k53.R 53 w base ok v2 x.f2:=by
 obtain⟨_,_,rfl,rfl,⟨_,_,rfl,rfl,⟨v2,rfl,g2⟩⟩⟩:=h
 exact⟨v2,rfl,g2⟩
theorem k28_mkM (w:World) (base:Nat) (ok:Nat→Prop) (x:S28) {v2:Value} (g2:k53.R 53 w base ok v2 x.f2):k28.M w base ok x [.int .i64 x.f0,.int .i64 x.f1,v2]:=⟨[.int .i64 x.f0],[.int .i64 x.f1,v2],rfl,rfl,⟨[.int .i64 x.f1],[v2],rfl,rfl,⟨v2,rfl,g2⟩⟩⟩
def y14 (xs:List S28) (i:Int):S28:=xs.getD i.toNat z28
theorem at_T28 {w:World} {A:Option Addr} {n:Nat} {xs:List S28} (h:Kd.C k28 w A n xs) (i:Int) (h0:0≤i) (h1:i < n):∃ ad A2 c2,A=some ad∧w.cell? (ad.add (i.toNat * 3))=some (.int .i64 (y14 xs i).f0)∧w.cell? ⟨(ad.add (i.toNat * 3)).block,(ad.add (i.toNat * 3)).off + 1,none⟩=some (.int .i64 (y14 xs i).f1)∧w.cell? ⟨(ad.add (i.toNat * 3)).block,(ad.add (i.toNat * 3)).off + 2,none⟩=some (.slice A2 (y14 xs i).f2.length c2)∧(y14 xs i).f2.length≤c2∧k53.C w A2 (y14 xs i).f2.length (y14 xs i).f2:=by
 obtain⟨ad,c,e,_,hK,hc0⟩:=Kd.C_get h z28 i h0 h1
 have hc:∀ j u,c[j]?=some u→w.cell? (ad.add (i.toNat * 3 + j))=some u:=hc0
 obtain⟨A2,c2,rfl,l2,g2⟩:=k28_open hK
 exact⟨ad,A2,c2,e,hc 0 _ rfl,by rw [← add_field _ _ 1 (by omega)];exact hc 1 _ rfl,by rw [← add_field _ _ 2 (by omega)];exact hc 2 _ rfl,l2,g2⟩
structure S24 where
 f0:Int
 f1:Int
 f2:(List S64)
def z24:S24:=⟨(0:Int),(0:Int),([]:List S64)⟩
def k24:Kd S24:=Kd.iso (Kd.pair (Kd.int .i64) (Kd.pair (Kd.int .i64) (Kd.slice 64 k64))) (fun x:S24=>(x.f0,x.f1,x.f2))
theorem k24_open {w:World} {x:S24} {cs:List Value} (h:k24.K w x cs):∃ A2 c2,cs=[.int .i64 x.f0,.int .i64 x.f1,.slice A2 x.f2.length c2]∧x.f2.length≤c2∧k64.C w A2 x.f2.length x.f2:=by
 obtain⟨_,_,rfl,rfl,⟨_,_,rfl,rfl,⟨A2,c2,rfl,l2,g2⟩⟩⟩:=h
 exact⟨A2,c2,rfl,l2,g2⟩
def rd_T24 (xs:List S24) (i:Int):S24:=xs.getD i.toNat z24
theorem at_T24 {w:World} {A:Option Addr} {n:Nat} {xs:List S24} (h:Kd.C k24 w A n xs) (i:Int) (h0:0≤i) (h1:i < n):∃ ad A2 c2,A=some ad∧w.cell? (ad.add (i.toNat * 3))=some (.int .i64 (rd_T24 xs i).f0)∧w.cell? ⟨(ad.add (i.toNat * 3)).block,(ad.add (i.toNat * 3)).off + 1,none⟩=some (.int .i64 (rd_T24 xs i).f1)∧w.cell? ⟨(ad.add (i.toNat * 3)).block,(ad.add (i.toNat * 3)).off + 2,none⟩=some (.slice A2 (rd_T24 xs i).f2.length c2)∧(rd_T24 xs i).f2.length≤c2∧k64.C w A2 (rd_T24 xs i).f2.length (rd_T24 xs i).f2:=by
 obtain⟨ad,c,e,_,hK,hc0⟩:=Kd.C_get h z24 i h0 h1
 have hc:∀ j u,c[j]?=some u→w.cell? (ad.add (i.toNat * 3 + j))=some u:=hc0
 obtain⟨A2,c2,rfl,l2,g2⟩:=k24_open hK
 exact⟨ad,A2,c2,e,hc 0 _ rfl,by rw [← add_field _ _ 1 (by omega)];exact hc 1 _ rfl,by rw [← add_field _ _ 2 (by omega)];exact hc 2 _ rfl,l2,g2⟩
/-- What the library's package-level variables hold: carried by every walk that comes to them. -/
structure Tb (w:World):Prop where
theorem Tb.below {w w':World} (h:Tb w) (hb:Below w.heap.size w w'):Tb w':=by
 constructor
theorem Tb.drawn {w w':World} (h:Tb w) (hd:Drawn0 w w'):Tb w':=h.below hd.below
def okT64 (b:S64):Prop:=(fun a=>(Lit.int .i64 a).wf=true) b.f0∧(fun a=>(Lit.int .i64 a).wf=true) b.f1∧(fun _=>True) b.f2
def okT24 (b:S24):Prop:=(fun a=>(Lit.int .i64 a).wf=true) b.f0∧(fun a=>(Lit.int .i64 a).wf=true) b.f1∧(fun l=>l.length≤maxLen∧l.length * 24≤140737488351232∧∀ x∈l,okT64 x) b.f2
end Go.Proofs.Ytcckpjflbfofjaa.Pd
end
section
namespace Go.Proofs.Ytcckpjflbfofjaa.Pd
open Go.RowKit Go.Proofs.YtcckpjflbfofjaaW.PrintWords Go.Proofs.YtcckpjflbfofjaaW.PrintLast Go.Proofs.YtcckpjflbfofjaaW.PrintMore
attribute [local go_sem] max2_int min2_int max_two min_two max_three min_three max_four min_four   -- for this text's walks alone
set_option linter.unusedVariables false
set_option linter.unusedSimpArgs false
def laws_szArcS.f (l0:List (S64)) (a1:Int):Option (Int):=if(wrap64 (a1 - (l0.length:Int))) < 0 then(some (-1))else(some (wrap64 (a1 - (l0.length:Int))))
set_option maxHeartbeats 8000000 in
set_option maxRecDepth 100000 in
theorem laws_szArcS.calls (A0:Option Addr) (c0:Nat) (l0:List (S64)) (a1:Int) (r:Int) (w:World) (hr0:Kd.C k64 w A0 l0.length l0) (hc0:l0.length≤c0) (h:laws_szArcS.f l0 a1=some r) :
  Calls Try.prog 26 #[.slice A0 l0.length c0,.int .i64 a1] w fun e w'=>e=.returned (.int .i64 r)∧Drawn0 w w':=by
 have HR0:=y0.mk hr0
 have HC0:=y0.mk hc0
 clear hr0 hc0
 have H:(if(wrap64 (a1 - (l0.length:Int))) < 0 then(some (-1))else(some (wrap64 (a1 - (l0.length:Int)))))=some r:=h
 clear h
 by_cases c3:(wrap64 (a1 - (l0.length:Int))) < 0
 ·rw [if_pos c3]at H
  have c3b0:=decide_eq_true c3
  clear c3
  obtain rfl:=Option.some.inj H
  go_enter Try.func26,Try.ntmps26
  go_wp2
  go_ret
  exact qf2
 ·rw [if_neg c3]at H
  have c3b0:=decide_eq_false c3
  clear c3
  obtain rfl:=Option.some.inj H
  go_enter Try.func26,Try.ntmps26
  go_wp2
  go_ret
  exact qf2
def laws_szGraph.f (a0_0:Int) (a0_1:Int) (l0_2:List (S64)) (a1:Int):Option (Int):=(laws_szArcS.f l0_2 a1).bind fun t102=>(if t102 < 0 then(some (-1))else(some t102))
set_option maxHeartbeats 8000000 in
set_option maxRecDepth 100000 in
theorem laws_szGraph.calls (Af:Int) (Ai:Int) (Ab:Option Addr) (Ac:Nat) (Aa:List (S64)) (a1:Int) (r:Int) (w:World) (Aj:Kd.C k64 w Ab Aa.length Aa) (Ak:Aa.length≤Ac) (h:laws_szGraph.f Af Ai Aa a1=some r) :
  Calls Try.prog 7 #[.agg #[.int .i64 Af,.int .i64 Ai,.slice Ab Aa.length Ac],.int .i64 a1] w fun e w'=>e=.returned (.int .i64 r)∧Below w.heap.size w w':=by
 have Bg:=Try.underlying24
 have Al:=y0.mk Aj
 have Am:=y0.mk Ak
 clear Aj Ak
 have HB:=y0.mk (Below.refl w.heap.size w)
 have H:((laws_szArcS.f Aa a1).bind fun Ad=>(if Ad < 0 then(some (-1))else(some Ad)))=some r:=h
 clear h
 obtain⟨Ad,A3,H⟩:=qB H
 by_cases c4:Ad < 0
 ·rw [if_pos c4]at H
  have Ar:=decide_eq_true c4
  clear c4
  obtain rfl:=Option.some.inj H
  go_enter Try.func7,Try.ntmps7
  go_wp2_with (first|((with_reducible refine y12 (N:=2) rfl ?_);refine qe 2 #[.int .i64 Af,.int .i64 Ai,.slice Ab Aa.length Ac] 24 ?_;intro Ao hg w5 hbox hb;have Ae:=y0.mk (hbox);have Ap:=y0.mk (qg (w:=w) hg);have Aq:=y0.mk (qg (w:=w) hg);replace HB:=y0.mk (y4 qb hb);clear hb hbox hg;obtain⟨As,At,Au,Aw,Ay,Az⟩:=qz3 Ae.out)|((with_reducible refine gate_callee (f:=26) rfl ?_);refine goesL_ (some 8) rfl rfl Try.func26 (by kernel_rfl) rfl #[.slice Ab Aa.length Ac,.int .i64 a1] rfl qy1 ?_;(with_reducible refine(laws_szArcS.calls _ _ Aa a1 Ad _ (qc (Kd.C_below Al.out HB.out)) Am.out A3.out).mono ?_);rintro e w' ⟨rfl,⟨nd,rfl⟩⟩;refine⟨_,rfl, ?_⟩))
  go_ret
  exact⟨qf,qb⟩
 ·rw [if_neg c4]at H
  have Ar:=decide_eq_false c4
  clear c4
  obtain rfl:=Option.some.inj H
  go_enter Try.func7,Try.ntmps7
  go_wp2_with (first|((with_reducible refine y12 (N:=2) rfl ?_);refine qe 2 #[.int .i64 Af,.int .i64 Ai,.slice Ab Aa.length Ac] 24 ?_;intro Ao hg w7 hbox hb;have Ae:=y0.mk (hbox);have Ap:=y0.mk (qg (w:=w) hg);have Aq:=y0.mk (qg (w:=w) hg);replace HB:=y0.mk (y4 qb hb);clear hb hbox hg;obtain⟨Ba,Bb,Bc,Bd,Be,Bf⟩:=qz3 Ae.out)|((with_reducible refine gate_callee (f:=26) rfl ?_);refine goesL_ (some 8) rfl rfl Try.func26 (by kernel_rfl) rfl #[.slice Ab Aa.length Ac,.int .i64 a1] rfl qy1 ?_;(with_reducible refine(laws_szArcS.calls _ _ Aa a1 Ad _ (qc (Kd.C_below Al.out HB.out)) Am.out A3.out).mono ?_);rintro e w' ⟨rfl,⟨nd,rfl⟩⟩;refine⟨_,rfl, ?_⟩))
  go_ret
  exact⟨qf,qb⟩
def laws_toArc.f (a0_0:Int) (a0_1:Int) (a0_2:Bool):Option (Int×Int×Bool):=some (a0_0,a0_1,a0_2)
set_option maxHeartbeats 8000000 in
set_option maxRecDepth 100000 in
theorem laws_toArc.calls (Ad:Int) (Ae:Int) (Am:Bool) (r1:Int) (r2:Int) (r3:Bool) (w:World) (h:laws_toArc.f Ad Ae Am=some (r1,r2,r3)) :
  Calls Try.prog 41 #[.agg #[.int .i64 Ad,.int .i64 Ae,.bool Am]] w fun e w'=>e=.returned (.agg #[.int .i64 r1,.int .i64 r2,.bool r3])∧Below w.heap.size w w':=by
 have Bs:=Try.underlying64
 have Bt:=Try.underlying53
 have HB:=y0.mk (Below.refl w.heap.size w)
 have H:(some (Ad,Ae,Am))=some (r1,r2,r3):=h
 clear h
 simp only [Option.some.injEq,Prod.mk.injEq]at H
 obtain⟨rfl,rfl,rfl⟩:=H
 go_enter Try.func41,Try.ntmps41
 go_wp2_with (first|((with_reducible refine y12 (N:=1) rfl ?_);refine qe 1 #[.int .i64 Ad,.int .i64 Ae,.bool Am] 64 ?_;intro Bk hg w2 hbox hb;have Ab:=y0.mk (hbox);have Bl:=y0.mk (qg (w:=w) hg);have Bm:=y0.mk (qg (w:=w) hg);replace HB:=y0.mk (y4 qb hb);clear hb hbox hg)|((with_reducible refine y12 (N:=2) rfl ?_);refine qe 2 #[.int .i64 0,.int .i64 0,.bool false] 53 ?_;intro Ao hg w3 hbox hb;have Ac:=y0.mk (hbox);have Bn:=y0.mk (qg (w:=w) hg);have Bo:=y0.mk (qg (w:=w) hg);replace HB:=y0.mk (y4 qb hb);have Af:=y0.mk (qn Ab.out hg);have Ai:=y0.mk (qm Ab.out hg);replace Ab:=y0.mk (qK Ab.out hb);clear hb hbox hg)|((with_reducible refine y12 (N:=3) rfl ?_);refine qe 3 #[.int .i64 0,.int .i64 0,.bool false] 53 ?_;intro Bp hg w4 hbox hb;have Ap:=y0.mk (hbox);have Bq:=y0.mk (qg (w:=w) hg);have Br:=y0.mk (qg (w:=w) hg);replace HB:=y0.mk (y4 qb hb);have Aj:=y0.mk (qn Ab.out hg);have Ak:=y0.mk (qm Ab.out hg);replace Ab:=y0.mk (qK Ab.out hb);have Aa:=y0.mk (qn Ac.out hg);have Al:=y0.mk (qm Ac.out hg);replace Ac:=y0.mk (qK Ac.out hb);clear hb hbox hg;have Bu:=Af.out;have Bv:=Ai.out;have Bw:=Aj.out;have Bx:=Ak.out;obtain⟨Ay,Az,Ba,Bb,Bc,Bd⟩:=qz3 Ab.out;have Bz:=Al.out;have Ca:=Aa.out;obtain⟨Be,Bf,Bg,Bh,Bi,Bj⟩:=qz3 Ap.out;obtain⟨Aq,Ar,As,At,Au,Aw⟩:=qz3 Ac.out))
 refine bodyPost_ret (results_cell_row rfl _ _ Ao 53 #[.int .i64 Ad,.int .i64 Ae,.bool Am] (0,0) _ rfl (by(with_reducible repeat(first|refine y9 ?_ _|refine y8 ?_|refine y5 ?_ _));refine blk_put (cs:=#[.int .i64 Ad,.int .i64 Ae,.bool false]) ?_ 2 _ rfl;(with_reducible repeat(first|refine y9 ?_ _|refine y8 ?_|refine y5 ?_ _));refine blk_put (cs:=#[.int .i64 Ad,.int .i64 0,.bool false]) ?_ 1 _ rfl;(with_reducible repeat(first|refine y9 ?_ _|refine y8 ?_|refine y5 ?_ _));refine blk_put (cs:=#[.int .i64 0,.int .i64 0,.bool false]) ?_ 0 _ rfl;(with_reducible repeat(first|refine y9 ?_ _|refine y8 ?_|refine y5 ?_ _));refine blk_far ?_ Aa.out _;(with_reducible repeat(first|refine y9 ?_ _|refine y8 ?_|refine y5 ?_ _));refine blk_far ?_ Aa.out _;(with_reducible repeat(first|refine y9 ?_ _|refine y8 ?_|refine y5 ?_ _));refine blk_far ?_ Aa.out _;(with_reducible repeat(first|refine y9 ?_ _|refine y8 ?_|refine y5 ?_ _));exact Ac.out) Try.underlying53 rfl (by kernel_rfl)) rfl ?_
 exact⟨qf,qb⟩
def laws_toArcS.l0:Nat→List (S64)→List (S53)→Int→Option ((List (S53)))
 | 0,_,_,_=>none
 | k + 1,x0,x3,x4=>if x4 < (x0.length:Int)then(if 0≤x4 then((laws_toArc.f ((rd_T64 x0 x4).f0) ((rd_T64 x0 x4).f1) ((rd_T64 x0 x4).f2)).bind fun bt110=>(if x4 < (x3.length:Int)then(laws_toArcS.l0 k x0 (x3.set (x4:Int).toNat (⟨bt110.1,bt110.2.1,bt110.2.2⟩:S53)) (wrap64 (x4 + 1)))else(none)))else(none))else(some x3)
def laws_toArcS.f (k:Nat) (l0:List (S64)):Option ((List (S53))):=if 0≤(l0.length:Int)then(if((l0.length:Int):Int).toNat≤11728124029610 then(laws_toArcS.l0 k l0 (List.replicate ((l0.length:Int):Int).toNat z53) 0)else(none))else(none)
set_option maxHeartbeats 8000000 in
set_option maxRecDepth 100000 in
theorem laws_toArcS.calls (k:Nat) (A0:Option Addr) (c0:Nat) (l0:List (S64)) (r:List (S53)) (w:World) (Cn:Kd.C k64 w A0 l0.length l0) (Co:l0.length≤c0) (h:laws_toArcS.f k l0=some r) :
  Calls Try.prog 28 #[.slice A0 l0.length c0] w fun e w'=>∃ v0_:Value,e=.returned (v0_)∧Kd.R k53 53 w' w.heap.size (fun _=>True) v0_ r∧Below w.heap.size w w':=by
 have Cr:=Try.underlying64
 have Cs:=Try.underlying53
 have Ct:=y0.mk Cn
 have Da:=y0.mk Co
 clear Cn Co
 have HB:=y0.mk (Below.refl w.heap.size w)
 have H:(if 0≤(l0.length:Int)then(if((l0.length:Int):Int).toNat≤11728124029610 then(laws_toArcS.l0 k l0 (List.replicate ((l0.length:Int):Int).toNat z53) 0)else(none))else(none))=some r:=h
 clear h
 obtain⟨c2,H⟩:=qo H
 have Bv:=eq_true c2
 have Bw:=decide_eq_true c2
 clear c2
 obtain⟨c3,H⟩:=qo H
 have Bx:=eq_true c3
 have Bz:=decide_eq_true c3
 clear c3
 obtain⟨Bj,Aj⟩:∃ y_:List (S53),y_=(List.replicate ((l0.length:Int):Int).toNat z53):=⟨_,rfl⟩
 replace H:(laws_toArcS.l0 k l0 Bj 0)=some r:=by first|(rw [Aj];with_reducible exact H)|(have H2_:=(Option.bind_some _ _).symm.trans H;rw [Aj];with_reducible exact H2_)|(have H2_:=(Option.bind_some _ _).symm.trans H;with_reducible exact H2_)|with_reducible exact H|(rw [Aj];exact H)|exact H
 have Au:=y0.mk Aj
 clear Aj
 have H':=y0.mk H
 clear H
 go_enter Try.func28,Try.ntmps28
 go_wp2_with (first|((with_reducible refine y12 (N:=7) rfl ?_);refine Kd.R_make k53 _ 53 rfl (N:=7) rfl 26 _ _ rfl (l0.length:Int) rfl rfl Try.underlying26 (.agg #[(.int .i64 0),(.int .i64 0),(.bool false)]) 24 info53 rfl (by decide) (by omega) z53 (ok:=fun _=>True) (okp:=fun _=>True) (k53_mkM _ _ _ z53 ) (fun _ hk=>hk) trivial (of_decide_eq_true qy0) (Nat.le_trans (Nat.mul_le_mul_right _ (of_decide_eq_true qy0:(l0.length:Int).toNat≤11728124029610)) (by omega)) (Below.refl _ _) (Nat.le_refl _) ?_;intro Ca w4 Bk hb hg_ hnew_;clear hg_ hnew_;(first|rw [← Au.out]at Bk|(simp only [Int.reduceToNat]at Bk;rw [← Au.out]at Bk));have Bl:=y0.mk (Kd.R_lower Bk (below_size qb));replace HB:=y0.mk (y4 qb hb);clear hb Bk))
 go_loopg [4] k (fun kq v4 w'=>∃(Ab:List (S53)) (Aa:Int),v4=.int .i64 Aa∧y0 (laws_toArcS.l0 kq l0 Ab Aa=some r)∧y0 (kq≤k)∧y0 (Kd.R k53 53 w' w.heap.size (fun _=>True) Ca Ab)∧y0 (Below w.heap.size w w'))
 case atStart=>exact⟨(Bj),(0),qy2,H',⟨Nat.le_refl _⟩,⟨qR Bl.out⟩,⟨qb⟩⟩
 case round =>
  clear H'
  (try clear Bv Bw Bx Bz)
  obtain⟨Ab,Aa,rfl,HA,Cp,Ad,HB⟩:=hrel
  cases gk with
  | zero=>exact absurd HA.out (by simp [laws_toArcS.l0])
  | succ k1 =>
   have H:=HA.out
   clear HA
   simp only [laws_toArcS.l0]at H
   by_cases c6:Aa < (l0.length:Int)
   ·rw [if_pos c6]at H
    have Cb:=decide_eq_true c6
    clear c6
    obtain⟨c7,H⟩:=qo H
    have Cu:decide (0≤Aa)=true:=decide_eq_true c7
    clear c7
    obtain⟨⟨Am,Ao,Ap⟩,A8,H⟩:=qB H
    replace H:(if Aa < (Ab.length:Int)then(laws_toArcS.l0 k1 l0 (Ab.set (Aa:Int).toNat (⟨Am,Ao,Ap⟩:S53)) (wrap64 (Aa + 1)))else(none))=some r:=H
    obtain⟨c9,H⟩:=qo H
    have Cv:decide (Aa < (Ab.length:Int))=true:=decide_eq_true c9
    clear c9
    obtain⟨Ay,Ak⟩:∃ y_:List (S53),y_=(Ab.set (Aa:Int).toNat (⟨Am,Ao,Ap⟩:S53)):=⟨_,rfl⟩
    replace H:(laws_toArcS.l0 k1 l0 Ay (wrap64 (Aa + 1)))=some r:=by first|(rw [Ak];with_reducible exact H)|(have H2_:=(Option.bind_some _ _).symm.trans H;rw [Ak];with_reducible exact H2_)|(have H2_:=(Option.bind_some _ _).symm.trans H;with_reducible exact H2_)|with_reducible exact H|(rw [Ak];exact H)|exact H
    have Bm:=y0.mk Ak
    clear Ak
    have H':=y0.mk H
    clear H
    have Az:0≤(Aa:Int):=of_decide_eq_true qy0
    have Ba:Aa < (l0.length:Int):=of_decide_eq_true qy0
    obtain⟨Cq,Cc,Ae,Af,Ai⟩:=at_T64 Ct.out Aa Az Ba
    cases Cc
    replace Ae:=(HB.out.cell (World.block_lt_of_cell? w _ Ae)).trans Ae
    replace Af:=(HB.out.cell (World.block_lt_of_cell? w _ Af)).trans Af
    replace Ai:=(HB.out.cell (World.block_lt_of_cell? w _ Ai)).trans Ai
    replace Az:=eq_true Az
    replace Ba:=eq_true Ba
    go_wp2_with (first|((with_reducible refine gate_callee (f:=41) rfl ?_);refine goesL_ (some 20) rfl rfl Try.func41 (by kernel_rfl) rfl #[.agg #[.int .i64 ((rd_T64 l0 Aa).f0),.int .i64 ((rd_T64 l0 Aa).f1),.bool ((rd_T64 l0 Aa).f2)]] rfl qy1 ?_;(with_reducible refine(laws_toArc.calls ((rd_T64 l0 Aa).f0) ((rd_T64 l0 Aa).f1) ((rd_T64 l0 Aa).f2) Am Ao Ap _ A8.out).mono ?_);rintro e At ⟨rfl,hb⟩;refine⟨_,rfl, ?_⟩;replace Ad:=y0.mk (Kd.R_below (qR Ad.out) hb);replace HB:=y0.mk (y4 qb hb);(try clear hb);have Cd:0≤(Aa:Int):=of_decide_eq_true qy0;have Ce:(Aa:Int) < ((Ab.length:Int):Int):=of_decide_eq_true qy0;obtain⟨Ac,Bn,Bo,Bp,Cf,Cw,Bq⟩:=Kd.R_form Ad.out (by omega);(first|cases Bo|(injection Bo with ea_ en_ ec_;(first|subst ea_|(injection ea_ with ea_;subst ea_));subst ec_;clear en_));have Bb:=y0.mk Bp;have Cx:=y0.mk Bq;clear Bp Cf Bq;obtain⟨Cy,Br,Bs,Aq,Ar⟩:=Kd.R_elem Ad.out z53 (Aa:Int) Cd Ce;obtain rfl:=k53_openM Bs;have Cg:At.cell? ⟨Ac,(Aa:Int).toNat * 3,none⟩=some (.int .i64 ((y15 Ab Aa).f0)):=Aq 0 _ rfl;have Ch:At.cell? ⟨Ac,(Aa:Int).toNat * 3 + 1,none⟩=some (.int .i64 ((y15 Ab Aa).f1)):=Aq 1 _ rfl;have Ci:At.cell? ⟨Ac,(Aa:Int).toNat * 3 + 2,none⟩=some (.bool ((y15 Ab Aa).f2)):=Aq 2 _ rfl;have Cj:At.frozen? ⟨Ac,(Aa:Int).toNat * 3,none⟩=false:=Ar 0;have Ck:At.frozen? ⟨Ac,(Aa:Int).toNat * 3 + 1,none⟩=false:=Ar 1;have Cl:At.frozen? ⟨Ac,(Aa:Int).toNat * 3 + 2,none⟩=false:=Ar 2;clear Br Aq Ar Bs;replace Cd:=eq_true Cd;replace Ce:=eq_true Ce;have Bt:=y0.mk (show Kd.R k53 53 At w.heap.size (fun _=>True) (.slice (some ⟨Ac,0,none⟩) Ab.length Bn) Ab from(qR Ad.out));obtain⟨Cz,Aw,Bu,Al,As⟩:=Kd.R_elem Bt.out z53 (Aa:Int) (of_decide_eq_true qy0) (by have h_:(Aa:Int) < ((Ab.length:Int):Int):=of_decide_eq_true qy0;first|exact h_|(have e_:=(Kd.R_reads' Ad.out).1;omega)|simpa using h_);obtain rfl:=k53_openM Bu;have Bc:=Kd.R_seg Bt.out (Aa:Int) (of_decide_eq_true qy0) (by have h_:(Aa:Int) < ((Ab.length:Int):Int):=of_decide_eq_true qy0;first|exact h_|(have e_:=(Kd.R_reads' Ad.out).1;omega)|simpa using h_) (seg:=[.int .i64 Am,.int .i64 Ao,.bool Ap]) (j:=0) Aw Al (show 3≤3 from by decide) (x':=(⟨Am,Ao,Ap⟩:S53)) (k53_mkM _ _ _ (⟨Am,Ao,Ap⟩:S53) ) (fun _ hk=>hk);have Bd:=Al 0 _ rfl;(try simp only [show(k53).sz=3 from rfl,Nat.mul_one,Nat.add_zero]at Bd);have Be:=As 0;(try simp only [show(k53).sz=3 from rfl,Nat.mul_one,Nat.add_zero]at Be);have Bf:=Al 1 _ rfl;(try simp only [show(k53).sz=3 from rfl,Nat.mul_one,Nat.add_zero]at Bf);have Bg:=As 1;(try simp only [show(k53).sz=3 from rfl,Nat.mul_one,Nat.add_zero]at Bg);have Bh:=Al 2 _ rfl;(try simp only [show(k53).sz=3 from rfl,Nat.mul_one,Nat.add_zero]at Bh);have Bi:=As 2;(try simp only [show(k53).sz=3 from rfl,Nat.mul_one,Nat.add_zero]at Bi);clear Aw Al As Bu)|((with_reducible refine gate_store (t:=53) (p:=21) rfl ?_);refine store_event (t:=53) (p:=21) (v:=?vo_w13) (w1:=(((At.setCell ⟨Ac,(Aa:Int).toNat * 3,none⟩ (.int .i64 Am)).setCell ⟨Ac,(Aa:Int).toNat * 3 + 1,none⟩ (.int .i64 Ao)).setCell ⟨Ac,(Aa:Int).toNat * 3 + 2,none⟩ (.bool Ap))) ?hg ?ho ?hn ?hr ?_;(case ho=>rfl);(case hg=>rfl);(case hn=>rfl);(case hr=>first|(go_simp;done)|(go_simp;rfl));intro Cm hw;have hg:At.grownBy Cm (some Ac):=(by rw [hw];exact Bc.2);have hp_:Kd.R k53 53 Cm w.heap.size (fun _=>True) (.slice (some ⟨Ac,0,none⟩) Ab.length Bn) Ay:=(by rw [hw,Bm.out];exact Bc.1);clear Bc;replace Ad:=y0.mk (hp_);replace HB:=y0.mk ((by rw [hw];exact y3 (y3 (y3 (HB.out) Bb.out) Bb.out) Bb.out:Below w.heap.size w Cm));clear hg hw hp_))
    go_roundg k1
    case measure=>have:=Cp.out;omega
    exact⟨(Ay),(wrap64 (Aa + 1)),qy2,H',⟨by have:=Cp.out;omega⟩,⟨qR Ad.out⟩,⟨qb⟩⟩
   ·rw [if_neg c6]at H
    have Cb:=decide_eq_false c6
    clear c6
    obtain rfl:=Option.some.inj H
    go_wp2
    go_ret
    exact⟨_,by first|rfl|(simp [errW_none,errW_some] <;> rfl)|(simp [*,errW_none,errW_some] <;> rfl),by(with_reducible repeat(first|apply Kd.R_alloc|apply Kd.R_drewN|apply Kd.R_drew));exact Ad.out,qb⟩
def laws_toGraph.f (k:Nat) (a0_0:Int) (a0_1:Int) (l0_2:List (S64)):Option (Int×Int×(List (S53))):=(laws_toArcS.f k l0_2).bind fun t117=>(some (a0_0,a0_1,t117))
set_option maxHeartbeats 8000000 in
set_option maxRecDepth 100000 in
theorem laws_toGraph.calls (k:Nat) (Ae:Int) (Ai:Int) (Ar:Option Addr) (As:Nat) (Af:List (S64)) (r1:Int) (r2:Int) (r3:List (S53)) (w:World) (At:Kd.C k64 w Ar Af.length Af) (Au:Af.length≤As) (h:laws_toGraph.f k Ae Ai Af=some (r1,r2,r3)) :
  Calls Try.prog 9 #[.agg #[.int .i64 Ae,.int .i64 Ai,.slice Ar Af.length As]] w fun e w'=>∃ v2_:Value,e=.returned (.agg #[.int .i64 r1,.int .i64 r2,v2_])∧Kd.R k53 53 w' w.heap.size (fun _=>True) v2_ r3∧Below w.heap.size w w':=by
 have Cl:=Try.underlying24
 have Cm:=Try.underlying28
 have Bb:=y0.mk At
 have Bc:=y0.mk Au
 clear At Au
 have HB:=y0.mk (Below.refl w.heap.size w)
 have H:((laws_toArcS.f k Af).bind fun Al=>(some (Ae,Ai,Al)))=some (r1,r2,r3):=h
 clear h
 obtain⟨Al,A2,H⟩:=qB H
 simp only [Option.some.injEq,Prod.mk.injEq]at H
 obtain⟨rfl,rfl,rfl⟩:=H
 go_enter Try.func9,Try.ntmps9
 go_wp2_with (first|((with_reducible refine y12 (N:=1) rfl ?_);refine qe 1 #[.int .i64 Ae,.int .i64 Ai,.slice Ar Af.length As] 24 ?_;intro Bd hg w3 hbox hb;have Aa:=y0.mk (hbox);have Ce:=y0.mk (qg (w:=w) hg);have Cf:=y0.mk (qg (w:=w) hg);replace HB:=y0.mk (y4 qb hb);clear hb hbox hg)|((with_reducible refine y12 (N:=2) rfl ?_);refine qe 2 #[.int .i64 0,.int .i64 0,.slice none 0 0] 28 ?_;intro Aj hg w4 hbox hb;have Ac:=y0.mk (hbox);have Cg:=y0.mk (qg (w:=w) hg);have Ch:=y0.mk (qg (w:=w) hg);replace HB:=y0.mk (y4 qb hb);have Am:=y0.mk (qn Aa.out hg);have Ao:=y0.mk (qm Aa.out hg);replace Aa:=y0.mk (qK Aa.out hb);clear hb hbox hg)|((with_reducible refine y12 (N:=3) rfl ?_);refine qe 3 #[.int .i64 0,.int .i64 0,.slice none 0 0] 28 ?_;intro Aw hg w5 hbox hb;have Ak:=y0.mk (hbox);have Ci:=y0.mk (qg (w:=w) hg);have Cj:=y0.mk (qg (w:=w) hg);replace HB:=y0.mk (y4 qb hb);have Ad:=y0.mk (qn Aa.out hg);have Ap:=y0.mk (qm Aa.out hg);replace Aa:=y0.mk (qK Aa.out hb);have Ab:=y0.mk (qn Ac.out hg);have Aq:=y0.mk (qm Ac.out hg);replace Ac:=y0.mk (qK Ac.out hb);clear hb hbox hg;have Cn:=Am.out;have Co:=Ao.out;have Cp:=Ad.out;have Cq:=Ap.out;obtain⟨Bw,Bx,Bz,Ca,Cb,Cc⟩:=qz3 Aa.out;have Cr:=Aq.out;have Cs:=Ab.out;obtain⟨Be,Bf,Bg,Bh,Bi,Bj⟩:=qz3 Ak.out)|((with_reducible refine gate_callee (f:=28) rfl ?_);refine goesL_ (some 12) rfl rfl Try.func28 (by kernel_rfl) rfl #[.slice Ar Af.length As] rfl qy1 ?_;(with_reducible refine(laws_toArcS.calls k _ _ Af Al _ (by exact Kd.C_below Bb.out qb) Bc.out A2.out).mono ?_);rintro e Cu ⟨Ct,rfl,Ck,hb⟩;refine⟨_,rfl, ?_⟩;have Ay:=y0.mk (Kd.R_lower Ck (below_size qb));replace Aa:=y0.mk (y6 (g:=Bd) (o:=.cells #[.int .i64 Ae,.int .i64 Ai,.slice Ar Af.length As] 24 (0,0)) (by(with_reducible repeat(first|refine y9 ?_ _|refine y8 ?_|refine y5 ?_ _));refine blk_far ?_ Ad.out _;(with_reducible repeat(first|refine y9 ?_ _|refine y8 ?_|refine y5 ?_ _));refine blk_far ?_ Ad.out _;(with_reducible repeat(first|refine y9 ?_ _|refine y8 ?_|refine y5 ?_ _));exact Aa.out) hb);replace Ac:=y0.mk (y6 (g:=Aj) (o:=.cells #[.int .i64 0,.int .i64 0,.slice none 0 0] 28 (0,0)) (by(with_reducible repeat(first|refine y9 ?_ _|refine y8 ?_|refine y5 ?_ _));refine blk_far ?_ Ab.out _;(with_reducible repeat(first|refine y9 ?_ _|refine y8 ?_|refine y5 ?_ _));refine blk_far ?_ Ab.out _;(with_reducible repeat(first|refine y9 ?_ _|refine y8 ?_|refine y5 ?_ _));exact Ac.out) hb);replace Ak:=y0.mk (y6 (g:=Aw) (o:=.cells #[.int .i64 Ae,.int .i64 Ai,.slice none 0 0] 28 (0,0)) (by(with_reducible repeat(first|refine y9 ?_ _|refine y8 ?_|refine y5 ?_ _));refine blk_put (cs:=#[.int .i64 Ae,.int .i64 0,.slice none 0 0]) ?_ 1 _ rfl;(with_reducible repeat(first|refine y9 ?_ _|refine y8 ?_|refine y5 ?_ _));refine blk_put (cs:=#[.int .i64 0,.int .i64 0,.slice none 0 0]) ?_ 0 _ rfl;(with_reducible repeat(first|refine y9 ?_ _|refine y8 ?_|refine y5 ?_ _));exact Ak.out) hb);replace HB:=y0.mk (y4 qb hb);(try clear hb);(try clear Ck);obtain⟨Az,Ba,Cd⟩:=Kd.R_slice Ay.out;subst Cd;obtain⟨Bk,Bl,Bm,Bn,Bo,Bp⟩:=qz3 Ak.out;obtain⟨Bq,Br,Bs,Bt,Bu,Bv⟩:=qz3 Ac.out))
 refine bodyPost_ret (results_cell_row rfl _ _ Aj 28 #[.int .i64 Ae,.int .i64 Ai,.slice Az Al.length Ba] (0,0) _ rfl (by(with_reducible repeat(first|refine y9 ?_ _|refine y8 ?_|refine y5 ?_ _));refine blk_put (cs:=#[.int .i64 Ae,.int .i64 Ai,.slice none 0 0]) ?_ 2 _ rfl;(with_reducible repeat(first|refine y9 ?_ _|refine y8 ?_|refine y5 ?_ _));refine blk_put (cs:=#[.int .i64 Ae,.int .i64 0,.slice none 0 0]) ?_ 1 _ rfl;(with_reducible repeat(first|refine y9 ?_ _|refine y8 ?_|refine y5 ?_ _));refine blk_put (cs:=#[.int .i64 0,.int .i64 0,.slice none 0 0]) ?_ 0 _ rfl;(with_reducible repeat(first|refine y9 ?_ _|refine y8 ?_|refine y5 ?_ _));refine blk_far ?_ Ab.out _;(with_reducible repeat(first|refine y9 ?_ _|refine y8 ?_|refine y5 ?_ _));exact Ac.out) Try.underlying28 rfl (by kernel_rfl)) rfl ?_
 exact⟨_,by first|rfl|(simp [errW_none,errW_some] <;> rfl)|(simp [*,errW_none,errW_some] <;> rfl),by(with_reducible repeat(first|apply Kd.R_alloc|apply Kd.R_drewN|apply Kd.R_drew));exact Kd.R_mono (Kd.R_far (p:=⟨Aj,2,none⟩) (Kd.R_far (p:=⟨Aj,1,none⟩) (Kd.R_far (p:=⟨Aj,0,none⟩) (Kd.R_far (p:=⟨Aw,2,none⟩) (Kd.R_types (Kd.R_types Ay.out Ak.out (by decide)) Ac.out (by decide)) (fun _ hk=>hk.1.2) (.slice Az Al.length Ba)) (fun _ hk=>hk.2) (.int .i64 Ae)) (fun _ hk=>hk.2) (.int .i64 Ai)) (fun _ hk=>hk.2) (.slice Az Al.length Ba)) (fun _ hk=>trivial),qb⟩
def laws_eqArc.f (a0_0:Int) (a0_1:Int) (a0_2:Bool) (a1_0:Int) (a1_1:Int) (a1_2:Bool):Option (Bool):=if a0_0=a1_0 then(if a0_1=a1_1 then(if(a0_2 != a1_2)=true then(some false)else(some true))else(some false))else(some false)
set_option maxHeartbeats 8000000 in
set_option maxRecDepth 100000 in
theorem laws_eqArc.calls (Af:Int) (Ai:Int) (Ad:Bool) (Aj:Int) (Ak:Int) (Ae:Bool) (r:Bool) (w:World) (h:laws_eqArc.f Af Ai Ad Aj Ak Ae=some r) :
  Calls Try.prog 45 #[.agg #[.int .i64 Af,.int .i64 Ai,.bool Ad],.agg #[.int .i64 Aj,.int .i64 Ak,.bool Ae]] w fun e w'=>e=.returned (.bool r)∧Below w.heap.size w w':=by
 have Df:=Try.underlying53
 have HB:=y0.mk (Below.refl w.heap.size w)
 have H:(if Af=Aj then(if Ai=Ak then(if(Ad != Ae)=true then(some false)else(some true))else(some false))else(some false))=some r:=h
 clear h
 by_cases c3:Af=Aj
 ·rw [if_pos c3]at H
  have Cm:(Af == Aj)=true:=beq_iff_eq.mpr c3
  have Cn:(Af != Aj)=false:=bne_eq_false_iff_eq.mpr c3
  clear c3
  by_cases c4:Ai=Ak
  ·rw [if_pos c4]at H
   have Co:(Ai == Ak)=true:=beq_iff_eq.mpr c4
   have Cp:(Ai != Ak)=false:=bne_eq_false_iff_eq.mpr c4
   clear c4
   by_cases c5:(Ad != Ae)=true
   ·rw [if_pos c5]at H
    have Cq:(Ad != Ae)=true:=c5
    (try(have Cr:decide (Ad=Ae)=false:=by simpa using c5))
    (try(have Cs:(Ad == Ae)=false:=by simpa using c5))
    (try(have Dg:¬(Ad=Ae):=by simpa using c5))
    clear c5
    obtain rfl:=Option.some.inj H
    go_enter Try.func45,Try.ntmps45
    go_wp2_with (first|((with_reducible refine y12 (N:=2) rfl ?_);refine qe 2 #[.int .i64 Af,.int .i64 Ai,.bool Ad] 53 ?_;intro Am hg w6 hbox hb;have Aa:=y0.mk (hbox);have Ao:=y0.mk (qg (w:=w) hg);have Ap:=y0.mk (qg (w:=w) hg);replace HB:=y0.mk (y4 qb hb);clear hb hbox hg)|((with_reducible refine y12 (N:=3) rfl ?_);refine qe 3 #[.int .i64 Aj,.int .i64 Ak,.bool Ae] 53 ?_;intro Aq hg w7 hbox hb;have Al:=y0.mk (hbox);have Ar:=y0.mk (qg (w:=w) hg);have As:=y0.mk (qg (w:=w) hg);replace HB:=y0.mk (y4 qb hb);have Ab:=y0.mk (qn Aa.out hg);have Ac:=y0.mk (qm Aa.out hg);replace Aa:=y0.mk (qK Aa.out hb);clear hb hbox hg;have Dh:=Ab.out;have Di:=Ac.out;obtain⟨Ct,Cu,Cv,Cw,Cx,Cy⟩:=qz3 Aa.out;obtain⟨At,Au,Aw,Ay,Az,Ba⟩:=qz3 Al.out))
    go_ret
    exact⟨qf,qb⟩
   ·rw [if_neg c5]at H
    have Cq:(Ad != Ae)=false:=by simpa using c5
    (try(have Cr:decide (Ad=Ae)=true:=by simpa using c5))
    (try(have Cs:(Ad == Ae)=true:=by simpa using c5))
    clear c5
    obtain rfl:=Option.some.inj H
    go_enter Try.func45,Try.ntmps45
    go_wp2_with (first|((with_reducible refine y12 (N:=2) rfl ?_);refine qe 2 #[.int .i64 Af,.int .i64 Ai,.bool Ad] 53 ?_;intro Am hg Dj hbox hb;have Aa:=y0.mk (hbox);have Ao:=y0.mk (qg (w:=w) hg);have Ap:=y0.mk (qg (w:=w) hg);replace HB:=y0.mk (y4 qb hb);clear hb hbox hg)|((with_reducible refine y12 (N:=3) rfl ?_);refine qe 3 #[.int .i64 Aj,.int .i64 Ak,.bool Ae] 53 ?_;intro Aq hg Dk hbox hb;have Al:=y0.mk (hbox);have Ar:=y0.mk (qg (w:=w) hg);have As:=y0.mk (qg (w:=w) hg);replace HB:=y0.mk (y4 qb hb);have Ab:=y0.mk (qn Aa.out hg);have Ac:=y0.mk (qm Aa.out hg);replace Aa:=y0.mk (qK Aa.out hb);clear hb hbox hg;have Cz:=Ab.out;have Da:=Ac.out;obtain⟨Bb,Bc,Bd,Be,Bf,Bg⟩:=qz3 Aa.out;obtain⟨Bh,Bi,Bj,Bk,Bl,Bm⟩:=qz3 Al.out))
    go_ret
    exact⟨qf,qb⟩
  ·rw [if_neg c4]at H
   have Co:(Ai == Ak)=false:=beq_eq_false_iff_ne.mpr c4
   have Cp:(Ai != Ak)=true:=bne_iff_ne.mpr c4
   obtain rfl:=Option.some.inj H
   go_enter Try.func45,Try.ntmps45
   go_wp2_with (first|((with_reducible refine y12 (N:=2) rfl ?_);refine qe 2 #[.int .i64 Af,.int .i64 Ai,.bool Ad] 53 ?_;intro Am hg Dl hbox hb;have Aa:=y0.mk (hbox);have Ao:=y0.mk (qg (w:=w) hg);have Ap:=y0.mk (qg (w:=w) hg);replace HB:=y0.mk (y4 qb hb);clear hb hbox hg)|((with_reducible refine y12 (N:=3) rfl ?_);refine qe 3 #[.int .i64 Aj,.int .i64 Ak,.bool Ae] 53 ?_;intro Aq hg Dm hbox hb;have Al:=y0.mk (hbox);have Ar:=y0.mk (qg (w:=w) hg);have As:=y0.mk (qg (w:=w) hg);replace HB:=y0.mk (y4 qb hb);have Ab:=y0.mk (qn Aa.out hg);have Ac:=y0.mk (qm Aa.out hg);replace Aa:=y0.mk (qK Aa.out hb);clear hb hbox hg;have Db:=Ab.out;have Dc:=Ac.out;obtain⟨Bn,Bo,Bp,Bq,Br,Bs⟩:=qz3 Aa.out;obtain⟨Bt,Bu,Bv,Bw,Bx,Bz⟩:=qz3 Al.out))
   go_ret
   exact⟨qf,qb⟩
 ·rw [if_neg c3]at H
  have Cm:(Af == Aj)=false:=beq_eq_false_iff_ne.mpr c3
  have Cn:(Af != Aj)=true:=bne_iff_ne.mpr c3
  obtain rfl:=Option.some.inj H
  go_enter Try.func45,Try.ntmps45
  go_wp2_with (first|((with_reducible refine y12 (N:=2) rfl ?_);refine qe 2 #[.int .i64 Af,.int .i64 Ai,.bool Ad] 53 ?_;intro Am hg Dn hbox hb;have Aa:=y0.mk (hbox);have Ao:=y0.mk (qg (w:=w) hg);have Ap:=y0.mk (qg (w:=w) hg);replace HB:=y0.mk (y4 qb hb);clear hb hbox hg)|((with_reducible refine y12 (N:=3) rfl ?_);refine qe 3 #[.int .i64 Aj,.int .i64 Ak,.bool Ae] 53 ?_;intro Aq hg Do hbox hb;have Al:=y0.mk (hbox);have Ar:=y0.mk (qg (w:=w) hg);have As:=y0.mk (qg (w:=w) hg);replace HB:=y0.mk (y4 qb hb);have Ab:=y0.mk (qn Aa.out hg);have Ac:=y0.mk (qm Aa.out hg);replace Aa:=y0.mk (qK Aa.out hb);clear hb hbox hg;have Dd:=Ab.out;have De:=Ac.out;obtain⟨Ca,Cb,Cc,Cd,Ce,Cf⟩:=qz3 Aa.out;obtain⟨Cg,Ch,Ci,Cj,Ck,Cl⟩:=qz3 Al.out))
  go_ret
  exact⟨qf,qb⟩
def laws_eqArcS.l0:Nat→List (S53)→List (S53)→Int→Option (Bool)
 | 0,_,_,_=>none
 | k + 1,x0,x1,x5=>if x5 < (x0.length:Int)then(if 0≤x5 then(if x5 < (x1.length:Int)then((laws_eqArc.f ((y15 x0 x5).f0) ((y15 x0 x5).f1) ((y15 x0 x5).f2) ((y15 x1 x5).f0) ((y15 x1 x5).f1) ((y15 x1 x5).f2)).bind fun t124=>(if t124=true then(laws_eqArcS.l0 k x0 x1 (wrap64 (x5 + 1)))else(some false)))else(none))else(none))else(some true)
def laws_eqArcS.f (k:Nat) (l0:List (S53)) (l1:List (S53)):Option (Bool):=if(l0.length:Int)=(l1.length:Int)then(laws_eqArcS.l0 k l0 l1 0)else(some false)
def laws_eqArcS.T6:Bool×List (List Nat×List Nat):=(true,[([],[]),([],[]),([0,1],[0,1]),([2],[2]),([],[]),([],[]),([4,5],[4,5]),([6],[6]),([3,7],[3,7]),([8],[8])])
def laws_eqArcS.B6:List Nat:=[0,0,3,7,0,0,48,112,255,511]
theorem laws_eqArcS.tab6:rtab .any (opsOf Try.f31 6)=laws_eqArcS.T6:=by kernel_rfl
theorem laws_eqArcS.bits6:waitsOk laws_eqArcS.T6.2 laws_eqArcS.B6=true:=by kernel_rfl
set_option maxHeartbeats 8000000 in
set_option maxRecDepth 100000 in
theorem laws_eqArcS.calls (k:Nat) (A0:Option Addr) (c0:Nat) (l0:List (S53)) (A1:Option Addr) (c1:Nat) (l1:List (S53)) (r:Bool) (w:World) (Bf:Kd.C k53 w A0 l0.length l0) (Bg:l0.length≤c0) (Bh:Kd.C k53 w A1 l1.length l1) (Bi:l1.length≤c1) (h:laws_eqArcS.f k l0 l1=some r) :
  Calls Try.prog 31 #[.slice A0 l0.length c0,.slice A1 l1.length c1] w fun e w'=>e=.returned (.bool r)∧Below w.heap.size w w':=by
 have Bk:=Try.underlying53
 have Bl:=y0.mk Bf
 have Bp:=y0.mk Bg
 clear Bf Bg
 have Bm:=y0.mk Bh
 have Bq:=y0.mk Bi
 clear Bh Bi
 have HB:=y0.mk (Below.refl w.heap.size w)
 have H:(if(l0.length:Int)=(l1.length:Int)then(laws_eqArcS.l0 k l0 l1 0)else(some false))=some r:=h
 clear h
 by_cases c3:(l0.length:Int)=(l1.length:Int)
 ·rw [if_pos c3]at H
  have Ay:((l0.length:Int) == (l1.length:Int))=true:=beq_iff_eq.mpr c3
  have Az:((l0.length:Int) != (l1.length:Int))=false:=bne_eq_false_iff_eq.mpr c3
  have Ba:(l0.length == l1.length)=true:=by first|simpa using c3|(simp at c3 ⊢;omega)
  clear c3
  have H':=y0.mk H
  clear H
  go_enter Try.func31,Try.ntmps31
  go_wp2
  go_loopg [5] k (fun kq v5 w'=>∃(Aa:Int),v5=.int .i64 Aa∧y0 (laws_eqArcS.l0 kq l0 l1 Aa=some r)∧y0 (kq≤k)∧y0 (Below w.heap.size w w'))
  case atStart=>exact⟨(0),qy2,H',⟨Nat.le_refl _⟩,⟨qb⟩⟩
  case round =>
   clear H'
   (try clear Ay Az Ba)
   obtain⟨Aa,rfl,HA,Bj,HB⟩:=hrel
   cases gk with
   | zero=>exact absurd HA.out (by simp [laws_eqArcS.l0])
   | succ k1 =>
    have H:=HA.out
    clear HA
    simp only [laws_eqArcS.l0]at H
    by_cases c4:Aa < (l0.length:Int)
    ·rw [if_pos c4]at H
     have Bb:=decide_eq_true c4
     clear c4
     obtain⟨c5,H⟩:=qo H
     have Bn:decide (0≤Aa)=true:=decide_eq_true c5
     clear c5
     obtain⟨c6,H⟩:=qo H
     have Bo:decide (Aa < (l1.length:Int))=true:=decide_eq_true c6
     clear c6
     obtain⟨Bc,A7,H⟩:=qB H
     try go_wp2
     replace HB:=y0.mk (y2 HB.out)
     have As:0≤(Aa:Int):=of_decide_eq_true qy0
     have At:Aa < (l0.length:Int):=of_decide_eq_true qy0
     obtain⟨Aq,Bd,Aj,Ak,Al⟩:=at_T53 Bl.out Aa As At
     have Ab:=Al
     have Ac:=Ak
     have Ad:=Aj
     cases Bd
     replace Aj:=(HB.out.cell (World.block_lt_of_cell? w _ Aj)).trans Aj
     replace Ak:=(HB.out.cell (World.block_lt_of_cell? w _ Ak)).trans Ak
     replace Al:=(HB.out.cell (World.block_lt_of_cell? w _ Al)).trans Al
     replace As:=eq_true As
     replace At:=eq_true At
     have Au:0≤(Aa:Int):=of_decide_eq_true qy0
     have Aw:Aa < (l1.length:Int):=of_decide_eq_true qy0
     obtain⟨Ar,Be,Am,Ao,Ap⟩:=at_T53 Bm.out Aa Au Aw
     have Ae:=Ap
     have Af:=Ao
     have Ai:=Am
     cases Be
     replace Am:=(HB.out.cell (World.block_lt_of_cell? w _ Am)).trans Am
     replace Ao:=(HB.out.cell (World.block_lt_of_cell? w _ Ao)).trans Ao
     replace Ap:=(HB.out.cell (World.block_lt_of_cell? w _ Ap)).trans Ap
     replace Au:=eq_true Au
     replace Aw:=eq_true Aw
     refine start_ (n:=10) (S:=fun w'=>w'.cell? (Aq.add ((Aa).toNat * 3))=some (.int .i64 ((y15 l0 Aa).f0))∧w'.cell? ⟨(Aq.add ((Aa).toNat * 3)).block,(Aq.add ((Aa).toNat * 3)).off + 1,none⟩=some (.int .i64 ((y15 l0 Aa).f1))∧w'.cell? ⟨(Aq.add ((Aa).toNat * 3)).block,(Aq.add ((Aa).toNat * 3)).off + 2,none⟩=some (.bool ((y15 l0 Aa).f2))∧w'.cell? (Ar.add ((Aa).toNat * 3))=some (.int .i64 ((y15 l1 Aa).f0))∧w'.cell? ⟨(Ar.add ((Aa).toNat * 3)).block,(Ar.add ((Aa).toNat * 3)).off + 1,none⟩=some (.int .i64 ((y15 l1 Aa).f1))∧w'.cell? ⟨(Ar.add ((Aa).toNat * 3)).block,(Ar.add ((Aa).toNat * 3)).off + 2,none⟩=some (.bool ((y15 l1 Aa).f2))) (ds:=[]) (fl_ 10 0) (by kernel_rfl) rfl rfl ⟨((HB.out.cell (World.block_lt_of_cell? w _ Ad)).trans Ad),((HB.out.cell (World.block_lt_of_cell? w _ Ac)).trans Ac),((HB.out.cell (World.block_lt_of_cell? w _ Ab)).trans Ab),((HB.out.cell (World.block_lt_of_cell? w _ Ai)).trans Ai),((HB.out.cell (World.block_lt_of_cell? w _ Af)).trans Af),((HB.out.cell (World.block_lt_of_cell? w _ Ae)).trans Ae)⟩ (fun hHeld=>?_);refine with_tabW laws_eqArcS.tab6 laws_eqArcS.bits6 (fun HT_ HW_=>?_)
     generalize wr.drew=w9 at HB Aj Ak Al Am Ao Ap hHeld ⊢
     refine qp3 0 17 10 ?_
     by_cases c8:Bc=true
     ·subst c8
      replace H:=qT H
      have H':=y0.mk H
      clear H
      refine qp 4 21 (fl_ 10 23) ?_
      refine qp 5 22 (fl_ 10 55) ?_
      refine qp 6 23 (fl_ 10 119) ?_
      refine qt 3 20 (fl_ 10 127) hHeld ?_
      refine qt 7 24 (fl_ 10 255) hHeld ?_
      refine qO 8 25 (fl_ 10 511) (fun K hK=>?_)
      refine goes_ Try.func45 (by kernel_rfl) rfl #[.agg #[.int .i64 ((y15 l0 Aa).f0),.int .i64 ((y15 l0 Aa).f1),.bool ((y15 l0 Aa).f2)],.agg #[.int .i64 ((y15 l1 Aa).f0),.int .i64 ((y15 l1 Aa).f1),.bool ((y15 l1 Aa).f2)]] (by rfl) rfl rfl qy1 ?_
      with_reducible refine(laws_eqArc.calls ((y15 l0 Aa).f0) ((y15 l0 Aa).f1) ((y15 l0 Aa).f2) ((y15 l1 Aa).f0) ((y15 l1 Aa).f1) ((y15 l1 Aa).f2) true _ A7.out).mono ?_
      rintro e Br ⟨rfl,hb⟩
      refine⟨_,rfl, ?_⟩
      replace HB:=y0.mk (y4 qb hb)
      (try clear hb)
      refine hK.out _ _ ⟨((HB.out.cell (World.block_lt_of_cell? w _ Ad)).trans Ad),((HB.out.cell (World.block_lt_of_cell? w _ Ac)).trans Ac),((HB.out.cell (World.block_lt_of_cell? w _ Ab)).trans Ab),((HB.out.cell (World.block_lt_of_cell? w _ Ai)).trans Ai),((HB.out.cell (World.block_lt_of_cell? w _ Af)).trans Af),((HB.out.cell (World.block_lt_of_cell? w _ Ae)).trans Ae)⟩ (fun hHeld=>?_)
      clear hK K
      refine qx 25 ?_
      refine qp 9 26 (fl_ 10 1023) ?_
      refine done_ (done_of HT_.out (by kernel_rfl)) ?_
      try go_wp2
      go_roundg k1
      case measure=>have:=Bj.out;omega
      exact⟨(wrap64 (Aa + 1)),qy2,H',⟨by have:=Bj.out;omega⟩,⟨qb⟩⟩
     ·replace c8:=Bool.eq_false_iff.mpr c8
      subst c8
      replace H:=qF H
      obtain rfl:=Option.some.inj H
      refine qp 4 21 (fl_ 10 23) ?_
      refine qp 5 22 (fl_ 10 55) ?_
      refine qp 6 23 (fl_ 10 119) ?_
      refine qt 3 20 (fl_ 10 127) hHeld ?_
      refine qt 7 24 (fl_ 10 255) hHeld ?_
      refine qO 8 25 (fl_ 10 511) (fun K hK=>?_)
      refine goes_ Try.func45 (by kernel_rfl) rfl #[.agg #[.int .i64 ((y15 l0 Aa).f0),.int .i64 ((y15 l0 Aa).f1),.bool ((y15 l0 Aa).f2)],.agg #[.int .i64 ((y15 l1 Aa).f0),.int .i64 ((y15 l1 Aa).f1),.bool ((y15 l1 Aa).f2)]] (by rfl) rfl rfl qy1 ?_
      with_reducible refine(laws_eqArc.calls ((y15 l0 Aa).f0) ((y15 l0 Aa).f1) ((y15 l0 Aa).f2) ((y15 l1 Aa).f0) ((y15 l1 Aa).f1) ((y15 l1 Aa).f2) false _ A7.out).mono ?_
      rintro e Bs ⟨rfl,hb⟩
      refine⟨_,rfl, ?_⟩
      replace HB:=y0.mk (y4 qb hb)
      (try clear hb)
      refine hK.out _ _ ⟨((HB.out.cell (World.block_lt_of_cell? w _ Ad)).trans Ad),((HB.out.cell (World.block_lt_of_cell? w _ Ac)).trans Ac),((HB.out.cell (World.block_lt_of_cell? w _ Ab)).trans Ab),((HB.out.cell (World.block_lt_of_cell? w _ Ai)).trans Ai),((HB.out.cell (World.block_lt_of_cell? w _ Af)).trans Af),((HB.out.cell (World.block_lt_of_cell? w _ Ae)).trans Ae)⟩ (fun hHeld=>?_)
      clear hK K
      refine qx 25 ?_
      refine qp 9 26 (fl_ 10 1023) ?_
      refine done_ (done_of HT_.out (by kernel_rfl)) ?_
      try go_wp2
      go_ret
      exact⟨qf,qb⟩
    ·rw [if_neg c4]at H
     have Bb:=decide_eq_false c4
     clear c4
     obtain rfl:=Option.some.inj H
     go_wp2
     go_ret
     exact⟨qf,qb⟩
 ·rw [if_neg c3]at H
  have Ay:((l0.length:Int) == (l1.length:Int))=false:=beq_eq_false_iff_ne.mpr c3
  have Az:((l0.length:Int) != (l1.length:Int))=true:=bne_iff_ne.mpr c3
  have Ba:(l0.length == l1.length)=false:=by first|simpa using c3|(simp at c3 ⊢;omega)
  obtain rfl:=Option.some.inj H
  go_enter Try.func31,Try.ntmps31
  go_wp2
  go_ret
  exact⟨qf,qb⟩
def laws_eqGraph.f (k:Nat) (a0_0:Int) (a0_1:Int) (l0_2:List (S53)) (a1_0:Int) (a1_1:Int) (l1_2:List (S53)):Option (Bool):=if a0_0=a1_0 then(if a0_1=a1_1 then((laws_eqArcS.f k l0_2 l1_2).bind fun t127=>(if t127=true then(some true)else(some false)))else(some false))else(some false)
set_option maxHeartbeats 8000000 in
set_option maxRecDepth 100000 in
theorem laws_eqGraph.calls (k:Nat) (Ai:Int) (Aj:Int) (Am:Option Addr) (Ao:Nat) (Ae:List (S53)) (Ak:Int) (Al:Int) (Ap:Option Addr) (Aq:Nat) (Af:List (S53)) (r:Bool) (w:World) (Az:Kd.C k53 w Am Ae.length Ae) (Ba:Ae.length≤Ao) (Bb:Kd.C k53 w Ap Af.length Af) (Bc:Af.length≤Aq) (h:laws_eqGraph.f k Ai Aj Ae Ak Al Af=some r) :
  Calls Try.prog 11 #[.agg #[.int .i64 Ai,.int .i64 Aj,.slice Am Ae.length Ao],.agg #[.int .i64 Ak,.int .i64 Al,.slice Ap Af.length Aq]] w fun e w'=>e=.returned (.bool r)∧Below w.heap.size w w':=by
 have Dp:=Try.underlying28
 have Bd:=y0.mk Az
 have Be:=y0.mk Ba
 clear Az Ba
 have Bf:=y0.mk Bb
 have Bg:=y0.mk Bc
 clear Bb Bc
 have HB:=y0.mk (Below.refl w.heap.size w)
 have H:(if Ai=Ak then(if Aj=Al then((laws_eqArcS.f k Ae Af).bind fun Bh=>(if Bh=true then(some true)else(some false)))else(some false))else(some false))=some r:=h
 clear h
 by_cases c3:Ai=Ak
 ·rw [if_pos c3]at H
  have Df:(Ai == Ak)=true:=beq_iff_eq.mpr c3
  have Dg:(Ai != Ak)=false:=bne_eq_false_iff_eq.mpr c3
  clear c3
  by_cases c4:Aj=Al
  ·rw [if_pos c4]at H
   have Dh:(Aj == Al)=true:=beq_iff_eq.mpr c4
   have Di:(Aj != Al)=false:=bne_eq_false_iff_eq.mpr c4
   clear c4
   obtain⟨Bh,A5,H⟩:=qB H
   by_cases c6:Bh=true
   ·subst c6
    replace H:=qT H
    obtain rfl:=Option.some.inj H
    go_enter Try.func11,Try.ntmps11
    go_wp2_with (first|((with_reducible refine y12 (N:=2) rfl ?_);refine qe 2 #[.int .i64 Ai,.int .i64 Aj,.slice Am Ae.length Ao] 28 ?_;intro Ar hg w7 hbox hb;have Aa:=y0.mk (hbox);have As:=y0.mk (qg (w:=w) hg);have At:=y0.mk (qg (w:=w) hg);replace HB:=y0.mk (y4 qb hb);clear hb hbox hg)|((with_reducible refine y12 (N:=3) rfl ?_);refine qe 3 #[.int .i64 Ak,.int .i64 Al,.slice Ap Af.length Aq] 28 ?_;intro Au hg w8 hbox hb;have Ad:=y0.mk (hbox);have Aw:=y0.mk (qg (w:=w) hg);have Ay:=y0.mk (qg (w:=w) hg);replace HB:=y0.mk (y4 qb hb);have Ab:=y0.mk (qn Aa.out hg);have Ac:=y0.mk (qm Aa.out hg);replace Aa:=y0.mk (qK Aa.out hb);clear hb hbox hg;have Dq:=Ab.out;have Dr:=Ac.out;obtain⟨Bi,Bj,Bk,Bl,Bm,Bn⟩:=qz3 Aa.out;obtain⟨Bo,Bp,Bq,Br,Bs,Bt⟩:=qz3 Ad.out)|((with_reducible refine gate_callee (f:=31) rfl ?_);refine goesL_ (some 19) rfl rfl Try.func31 (by kernel_rfl) rfl #[.slice Am Ae.length Ao,.slice Ap Af.length Aq] rfl qy1 ?_;(with_reducible refine(laws_eqArcS.calls k _ _ Ae _ _ Af true _ (qc (Kd.C_below Bd.out HB.out)) Be.out (qc (Kd.C_below Bf.out HB.out)) Bg.out A5.out).mono ?_);rintro e Ds ⟨rfl,hb⟩;refine⟨_,rfl, ?_⟩;replace Aa:=y0.mk (qK Aa.out hb);replace Ad:=y0.mk (qK Ad.out hb);replace HB:=y0.mk (y4 qb hb);(try clear hb)))
    go_ret
    exact⟨qf,qb⟩
   ·replace c6:=Bool.eq_false_iff.mpr c6
    subst c6
    replace H:=qF H
    obtain rfl:=Option.some.inj H
    go_enter Try.func11,Try.ntmps11
    go_wp2_with (first|((with_reducible refine y12 (N:=2) rfl ?_);refine qe 2 #[.int .i64 Ai,.int .i64 Aj,.slice Am Ae.length Ao] 28 ?_;intro Ar hg Dt hbox hb;have Aa:=y0.mk (hbox);have As:=y0.mk (qg (w:=w) hg);have At:=y0.mk (qg (w:=w) hg);replace HB:=y0.mk (y4 qb hb);clear hb hbox hg)|((with_reducible refine y12 (N:=3) rfl ?_);refine qe 3 #[.int .i64 Ak,.int .i64 Al,.slice Ap Af.length Aq] 28 ?_;intro Au hg Du hbox hb;have Ad:=y0.mk (hbox);have Aw:=y0.mk (qg (w:=w) hg);have Ay:=y0.mk (qg (w:=w) hg);replace HB:=y0.mk (y4 qb hb);have Ab:=y0.mk (qn Aa.out hg);have Ac:=y0.mk (qm Aa.out hg);replace Aa:=y0.mk (qK Aa.out hb);clear hb hbox hg;have Dj:=Ab.out;have Dk:=Ac.out;obtain⟨Bu,Bv,Bw,Bx,Bz,Ca⟩:=qz3 Aa.out;obtain⟨Cb,Cc,Cd,Ce,Cf,Cg⟩:=qz3 Ad.out)|((with_reducible refine gate_callee (f:=31) rfl ?_);refine goesL_ (some 19) rfl rfl Try.func31 (by kernel_rfl) rfl #[.slice Am Ae.length Ao,.slice Ap Af.length Aq] rfl qy1 ?_;(with_reducible refine(laws_eqArcS.calls k _ _ Ae _ _ Af false _ (qc (Kd.C_below Bd.out HB.out)) Be.out (qc (Kd.C_below Bf.out HB.out)) Bg.out A5.out).mono ?_);rintro e Dv ⟨rfl,hb⟩;refine⟨_,rfl, ?_⟩;replace Aa:=y0.mk (qK Aa.out hb);replace Ad:=y0.mk (qK Ad.out hb);replace HB:=y0.mk (y4 qb hb);(try clear hb)))
    go_ret
    exact⟨qf,qb⟩
  ·rw [if_neg c4]at H
   have Dh:(Aj == Al)=false:=beq_eq_false_iff_ne.mpr c4
   have Di:(Aj != Al)=true:=bne_iff_ne.mpr c4
   obtain rfl:=Option.some.inj H
   go_enter Try.func11,Try.ntmps11
   go_wp2_with (first|((with_reducible refine y12 (N:=2) rfl ?_);refine qe 2 #[.int .i64 Ai,.int .i64 Aj,.slice Am Ae.length Ao] 28 ?_;intro Ar hg Dw hbox hb;have Aa:=y0.mk (hbox);have As:=y0.mk (qg (w:=w) hg);have At:=y0.mk (qg (w:=w) hg);replace HB:=y0.mk (y4 qb hb);clear hb hbox hg)|((with_reducible refine y12 (N:=3) rfl ?_);refine qe 3 #[.int .i64 Ak,.int .i64 Al,.slice Ap Af.length Aq] 28 ?_;intro Au hg Dx hbox hb;have Ad:=y0.mk (hbox);have Aw:=y0.mk (qg (w:=w) hg);have Ay:=y0.mk (qg (w:=w) hg);replace HB:=y0.mk (y4 qb hb);have Ab:=y0.mk (qn Aa.out hg);have Ac:=y0.mk (qm Aa.out hg);replace Aa:=y0.mk (qK Aa.out hb);clear hb hbox hg;have Dl:=Ab.out;have Dm:=Ac.out;obtain⟨Ch,Ci,Cj,Ck,Cl,Cm⟩:=qz3 Aa.out;obtain⟨Cn,Co,Cp,Cq,Cr,Cs⟩:=qz3 Ad.out))
   go_ret
   exact⟨qf,qb⟩
 ·rw [if_neg c3]at H
  have Df:(Ai == Ak)=false:=beq_eq_false_iff_ne.mpr c3
  have Dg:(Ai != Ak)=true:=bne_iff_ne.mpr c3
  obtain rfl:=Option.some.inj H
  go_enter Try.func11,Try.ntmps11
  go_wp2_with (first|((with_reducible refine y12 (N:=2) rfl ?_);refine qe 2 #[.int .i64 Ai,.int .i64 Aj,.slice Am Ae.length Ao] 28 ?_;intro Ar hg Dy hbox hb;have Aa:=y0.mk (hbox);have As:=y0.mk (qg (w:=w) hg);have At:=y0.mk (qg (w:=w) hg);replace HB:=y0.mk (y4 qb hb);clear hb hbox hg)|((with_reducible refine y12 (N:=3) rfl ?_);refine qe 3 #[.int .i64 Ak,.int .i64 Al,.slice Ap Af.length Aq] 28 ?_;intro Au hg Dz hbox hb;have Ad:=y0.mk (hbox);have Aw:=y0.mk (qg (w:=w) hg);have Ay:=y0.mk (qg (w:=w) hg);replace HB:=y0.mk (y4 qb hb);have Ab:=y0.mk (qn Aa.out hg);have Ac:=y0.mk (qm Aa.out hg);replace Aa:=y0.mk (qK Aa.out hb);clear hb hbox hg;have Dn:=Ab.out;have Do:=Ac.out;obtain⟨Ct,Cu,Cv,Cw,Cx,Cy⟩:=qz3 Aa.out;obtain⟨Cz,Da,Db,Dc,Dd,De⟩:=qz3 Ad.out))
  go_ret
  exact⟨qf,qb⟩
def spec_l01Between.f (a0:Int) (a1:Int) (a2:Int):Option (Bool):=if a0≥a1 then(some (decide (a0≤a2)))else(some false)
set_option maxHeartbeats 8000000 in
set_option maxRecDepth 100000 in
theorem spec_l01Between.calls (a0:Int) (a1:Int) (a2:Int) (r:Bool) (w:World) (h:spec_l01Between.f a0 a1 a2=some r) :
  Calls Try.prog 40 #[.int .i64 a0,.int .i64 a1,.int .i64 a2] w fun e w'=>e=.returned (.bool r)∧Drawn0 w w':=by
 have H:(if a0≥a1 then(some (decide (a0≤a2)))else(some false))=some r:=h
 clear h
 by_cases c4:a0≥a1
 ·rw [if_pos c4]at H
  have c4b0:decide (a1≤a0)=true:=decide_eq_true c4
  clear c4
  obtain rfl:=Option.some.inj H
  go_enter Try.func40,Try.ntmps40
  go_wp2
  go_ret
  exact qf2
 ·rw [if_neg c4]at H
  have c4b0:decide (a1≤a0)=false:=decide_eq_false c4
  clear c4
  obtain rfl:=Option.some.inj H
  go_enter Try.func40,Try.ntmps40
  go_wp2
  go_ret
  exact qf2
end Go.Proofs.Ytcckpjflbfofjaa.Pd
end
section
namespace Go.Proofs.Ytcckpjflbfofjaa.Pd
open Go.RowKit Go.Proofs.YtcckpjflbfofjaaW.PrintWords Go.Proofs.YtcckpjflbfofjaaW.PrintLast Go.Proofs.YtcckpjflbfofjaaW.PrintMore
attribute [local go_sem] max2_int min2_int max_two min_two max_three min_three max_four min_four   -- for this text's walks alone
set_option linter.unusedVariables false
set_option linter.unusedSimpArgs false
mutual
def z1_.l0:Nat→Int→Int→Int→List (S53)→Option (Bool)
 | 0,_,_,_,_=>none
 | k + 1,x3,x129000,x129001,x129002=>if x3 < (x129002.length:Int)then(if 0≤x3 then((spec_l01Between.f ((y15 x129002 x3).f0) 0 5).bind fun t131=>(if t131=true then((spec_l01Between.f ((y15 x129002 x3).f1) 0 5).bind fun t132=>(z1_.j1 k x3 (!t132) x129000 x129001 x129002 ((y15 x129002 x3).f0) ((y15 x129002 x3).f1) ((y15 x129002 x3).f2)))else(z1_.j1 k x3 true x129000 x129001 x129002 ((y15 x129002 x3).f0) ((y15 x129002 x3).f1) ((y15 x129002 x3).f2))))else(none))else(some true)
def z1_.j1:Nat→Int→Bool→Int→Int→List (S53)→Int→Int→Bool→Option (Bool)
 | 0,_,_,_,_,_,_,_,_=>none
 | k + 1,x3,x26,x129000,x129001,x129002,x131000,x131001,x131002=>if x26=true then(some false)else(if x3 > 0 then(if 0≤(wrap64 (x3 - 1))then(if(wrap64 (x3 - 1)) < (x129002.length:Int)then(if(wrap64 ((wrap64 (10 * ((y15 x129002 (wrap64 (x3 - 1))).f0))) + ((y15 x129002 (wrap64 (x3 - 1))).f1)))≥(wrap64 ((wrap64 (10 * x131000)) + x131001))then(some false)else(z1_.l0 k (wrap64 (x3 + 1)) x129000 x129001 x129002))else(none))else(none))else(z1_.l0 k (wrap64 (x3 + 1)) x129000 x129001 x129002))
end
def z1_.f (k:Nat) (a0_0:Int) (a0_1:Int) (l0_2:List (S53)):Option (Bool):=z1_.l0 k 0 a0_0 a0_1 l0_2
set_option maxHeartbeats 8000000 in
set_option maxRecDepth 100000 in
theorem z1_.calls (k:Nat) (Am:Int) (Ao:Int) (Bh:Option Addr) (Aw:Nat) (Aa:List (S53)) (r:Bool) (w:World) (Bo:Kd.C k53 w Bh Aa.length Aa) (Bp:Aa.length≤Aw) (h:z1_.f k Am Ao Aa=some r) :
  Calls Try.prog 27 #[.agg #[.int .i64 Am,.int .i64 Ao,.slice Bh Aa.length Aw]] w fun e w'=>e=.returned (.bool r)∧Below w.heap.size w w':=by
 have Er:=Try.underlying28
 have Es:=Try.underlying53
 have Bi:=y0.mk Bo
 have Ef:=y0.mk Bp
 clear Bo Bp
 have HB:=y0.mk (Below.refl w.heap.size w)
 have H:(z1_.l0 k 0 Am Ao Aa)=some r:=h
 clear h
 have H':=y0.mk H
 clear H
 go_enter Try.func27,Try.ntmps27
 go_wp2_with (first|((with_reducible refine y12 (N:=1) rfl ?_);refine qe 1 #[.int .i64 Am,.int .i64 Ao,.slice Bh Aa.length Aw] 28 ?_;intro Be hg w2 hbox hb;have Ad:=y0.mk (hbox);have Bq:=y0.mk (qg (w:=w) hg);have Br:=y0.mk (qg (w:=w) hg);replace HB:=y0.mk (y4 qb hb);clear hb hbox hg))
 repeat(go_quiet (first|((with_reducible refine y12 (N:=1) rfl ?_);refine qe 1 #[.int .i64 Am,.int .i64 Ao,.slice Bh Aa.length Aw] 28 ?_;intro Be hg w2 hbox hb;have Ad:=y0.mk (hbox);have Bq:=y0.mk (qg (w:=w) hg);have Br:=y0.mk (qg (w:=w) hg);replace HB:=y0.mk (y4 qb hb);clear hb hbox hg));try go_wp2_with (first|((with_reducible refine y12 (N:=1) rfl ?_);refine qe 1 #[.int .i64 Am,.int .i64 Ao,.slice Bh Aa.length Aw] 28 ?_;intro Be hg w2 hbox hb;have Ad:=y0.mk (hbox);have Bq:=y0.mk (qg (w:=w) hg);have Br:=y0.mk (qg (w:=w) hg);replace HB:=y0.mk (y4 qb hb);clear hb hbox hg)))
 go_loopg [3] k (fun kq v3 w'=>∃(Ac:Int),v3=.int .i64 Ac∧y0 (z1_.l0 kq Ac Am Ao Aa=some r)∧y0 (kq≤k)∧y0 (w'.heap[Be]?=some (.cells #[.int .i64 Am,.int .i64 Ao,(.slice Bh Aa.length Aw)] 28 (0,0)))∧y0 (Below w.heap.size w w'))
 case atStart=>exact⟨(0),qy2,H',⟨Nat.le_refl _⟩,⟨qk Ad.out⟩,⟨qb⟩⟩
 case round =>
  clear H'
  obtain⟨Ac,rfl,HA,Cf,Ad,HB⟩:=hrel
  cases gk with
  | zero=>exact absurd HA.out (by simp [z1_.l0])
  | succ k1 =>
   have H:=HA.out
   clear HA
   simp only [z1_.l0]at H
   by_cases c3:Ac < (Aa.length:Int)
   ·rw [if_pos c3]at H
    have Cj:=decide_eq_true c3
    clear c3
    obtain⟨c4,H⟩:=qo H
    have Dx:decide (0≤Ac)=true:=decide_eq_true c4
    clear c4
    have Dy:=y0.mk H
    clear H
    obtain⟨Bu,Bv,Bw,Bx,Bz,Ca⟩:=qz3 Ad.out
    have Bl:0≤(Ac:Int):=of_decide_eq_true qy0
    have Bm:Ac < (Aa.length:Int):=of_decide_eq_true qy0
    obtain⟨Bj,Dz,Aj,Ak,Al⟩:=at_T53 Bi.out Ac Bl Bm
    cases Dz
    replace Aj:=(HB.out.cell (World.block_lt_of_cell? w _ Aj)).trans Aj
    replace Ak:=(HB.out.cell (World.block_lt_of_cell? w _ Ak)).trans Ak
    replace Al:=(HB.out.cell (World.block_lt_of_cell? w _ Al)).trans Al
    replace Bl:=eq_true Bl
    replace Bm:=eq_true Bm
    go_upto_region 5 with(first|((with_reducible refine y12 (N:=4) rfl ?_);refine qe 4 #[.int .i64 0,.int .i64 0,.bool false] 53 ?_;intro Bk hg w7 hbox hb;have Ai:=y0.mk (hbox);have Bs:=y0.mk (qg (w:=w) hg);have Bt:=y0.mk (qg (w:=w) hg);replace HB:=y0.mk (y4 qb hb);have Ab:=y0.mk (qn Ad.out hg);have Ae:=y0.mk (qm Ad.out hg);replace Ad:=y0.mk (qK Ad.out hb);clear hb hbox hg;have Ck:=Ae.out;have Cl:=Ab.out;obtain⟨Ay,Az,Ba,Bb,Bc,Bd⟩:=qz3 Ai.out))
    repeat(go_quiet (first|((with_reducible refine y12 (N:=4) rfl ?_);refine qe 4 #[.int .i64 0,.int .i64 0,.bool false] 53 ?_;intro Bk hg w7 hbox hb;have Ai:=y0.mk (hbox);have Bs:=y0.mk (qg (w:=w) hg);have Bt:=y0.mk (qg (w:=w) hg);replace HB:=y0.mk (y4 qb hb);have Ab:=y0.mk (qn Ad.out hg);have Ae:=y0.mk (qm Ad.out hg);replace Ad:=y0.mk (qK Ad.out hb);clear hb hbox hg;have Ck:=Ae.out;have Cl:=Ab.out;obtain⟨Ay,Az,Ba,Bb,Bc,Bd⟩:=qz3 Ai.out));go_upto_region 5 with(first|((with_reducible refine y12 (N:=4) rfl ?_);refine qe 4 #[.int .i64 0,.int .i64 0,.bool false] 53 ?_;intro Bk hg w7 hbox hb;have Ai:=y0.mk (hbox);have Bs:=y0.mk (qg (w:=w) hg);have Bt:=y0.mk (qg (w:=w) hg);replace HB:=y0.mk (y4 qb hb);have Ab:=y0.mk (qn Ad.out hg);have Ae:=y0.mk (qm Ad.out hg);replace Ad:=y0.mk (qK Ad.out hb);clear hb hbox hg;have Ck:=Ae.out;have Cl:=Ab.out;obtain⟨Ay,Az,Ba,Bb,Bc,Bd⟩:=qz3 Ai.out)))
    (try simp only [Act.put,qS_,qZ_,qC_])
    go_cut [26] (fun Et wc=>∃(kq:Nat) (Bf:Bool),Et=.bool Bf∧y0 (z1_.j1 kq Ac Bf Am Ao Aa ((y15 Aa Ac).f0) ((y15 Aa Ac).f1) ((y15 Aa Ac).f2)=some r)∧y0 (kq≤k1)∧y0 (wc.heap[Be]?=some (.cells #[.int .i64 Am,.int .i64 Ao,(.slice (some Bj) Aa.length Aw)] 28 (0,0)))∧y0 (wc.heap[Bk]?=some (.cells #[.int .i64 ((y15 Aa Ac).f0),.int .i64 ((y15 Aa Ac).f1),.bool ((y15 Aa Ac).f2)] 53 (0,0)))∧y0 (Below w.heap.size w wc))
    case first =>
     have H:=Dy.out
     clear Dy
     obtain⟨Ea,Cg,H⟩:=qB H
     by_cases Cq:Ea=true
     ·subst Cq
      replace H:=qT H
      obtain⟨Bn,Eb,H⟩:=qB H
      have H':=y0.mk H
      clear H
      have Eg:=Ae.out
      have Eh:=Ab.out
      obtain⟨Cr,Cs,Ct,Cu,Cv,Cw⟩:=qz3 Ai.out
      go_wp2_with (first|(go_at_call 40;(with_reducible refine(spec_l01Between.calls ((y15 Aa Ac).f0) 0 5 true _ Cg.out).mono ?_);rintro e w' ⟨rfl,⟨nd,rfl⟩⟩;(try first|exact⟨rfl,_,World.drewN_drewN _ _ _⟩|exact⟨rfl,_,Eq.trans (World.drewN_drewN _ _ _) (congrArg (World.drewN _) (Nat.add_assoc _ _ _))⟩))|(go_at_call 40;(with_reducible refine(spec_l01Between.calls ((y15 Aa Ac).f1) 0 5 Bn _ Eb.out).mono ?_);rintro e w' ⟨rfl,⟨nd,rfl⟩⟩;(try first|exact⟨rfl,_,World.drewN_drewN _ _ _⟩|exact⟨rfl,_,Eq.trans (World.drewN_drewN _ _ _) (congrArg (World.drewN _) (Nat.add_assoc _ _ _))⟩)))
      repeat(go_quiet (first|(go_at_call 40;(with_reducible refine(spec_l01Between.calls ((y15 Aa Ac).f0) 0 5 true _ Cg.out).mono ?_);rintro e w' ⟨rfl,⟨nd,rfl⟩⟩;(try first|exact⟨rfl,_,World.drewN_drewN _ _ _⟩|exact⟨rfl,_,Eq.trans (World.drewN_drewN _ _ _) (congrArg (World.drewN _) (Nat.add_assoc _ _ _))⟩))|(go_at_call 40;(with_reducible refine(spec_l01Between.calls ((y15 Aa Ac).f1) 0 5 Bn _ Eb.out).mono ?_);rintro e w' ⟨rfl,⟨nd,rfl⟩⟩;(try first|exact⟨rfl,_,World.drewN_drewN _ _ _⟩|exact⟨rfl,_,Eq.trans (World.drewN_drewN _ _ _) (congrArg (World.drewN _) (Nat.add_assoc _ _ _))⟩)));try go_wp2_with (first|(go_at_call 40;(with_reducible refine(spec_l01Between.calls ((y15 Aa Ac).f0) 0 5 true _ Cg.out).mono ?_);rintro e w' ⟨rfl,⟨nd,rfl⟩⟩;(try first|exact⟨rfl,_,World.drewN_drewN _ _ _⟩|exact⟨rfl,_,Eq.trans (World.drewN_drewN _ _ _) (congrArg (World.drewN _) (Nat.add_assoc _ _ _))⟩))|(go_at_call 40;(with_reducible refine(spec_l01Between.calls ((y15 Aa Ac).f1) 0 5 Bn _ Eb.out).mono ?_);rintro e w' ⟨rfl,⟨nd,rfl⟩⟩;(try first|exact⟨rfl,_,World.drewN_drewN _ _ _⟩|exact⟨rfl,_,Eq.trans (World.drewN_drewN _ _ _) (congrArg (World.drewN _) (Nat.add_assoc _ _ _))⟩))))
      go_meet
      exact⟨_,(!Bn),qy2,H',⟨by have:=Cf.out;first|omega|exact Nat.le_refl _⟩,⟨by(with_reducible repeat(first|refine y9 ?_ _|refine y8 ?_|refine y5 ?_ _));refine blk_far ?_ Ab.out _;(with_reducible repeat(first|refine y9 ?_ _|refine y8 ?_|refine y5 ?_ _));refine blk_far ?_ Ab.out _;(with_reducible repeat(first|refine y9 ?_ _|refine y8 ?_|refine y5 ?_ _));refine blk_far ?_ Ab.out _;(with_reducible repeat(first|refine y9 ?_ _|refine y8 ?_|refine y5 ?_ _));exact Ad.out⟩,⟨by(with_reducible repeat(first|refine y9 ?_ _|refine y8 ?_|refine y5 ?_ _));refine blk_put (cs:=#[.int .i64 ((y15 Aa Ac).f0),.int .i64 ((y15 Aa Ac).f1),.bool false]) ?_ 2 _ rfl;(with_reducible repeat(first|refine y9 ?_ _|refine y8 ?_|refine y5 ?_ _));refine blk_put (cs:=#[.int .i64 ((y15 Aa Ac).f0),.int .i64 0,.bool false]) ?_ 1 _ rfl;(with_reducible repeat(first|refine y9 ?_ _|refine y8 ?_|refine y5 ?_ _));refine blk_put (cs:=#[.int .i64 0,.int .i64 0,.bool false]) ?_ 0 _ rfl;(with_reducible repeat(first|refine y9 ?_ _|refine y8 ?_|refine y5 ?_ _));exact Ai.out⟩,⟨qb⟩⟩
     ·replace Cq:=Bool.eq_false_iff.mpr Cq
      subst Cq
      replace H:=qF H
      have H':=y0.mk H
      clear H
      have Ei:=Ae.out
      have Ej:=Ab.out
      obtain⟨Cx,Cy,Cz,Da,Db,Dc⟩:=qz3 Ai.out
      go_wp2_with (first|(go_at_call 40;(with_reducible refine(spec_l01Between.calls ((y15 Aa Ac).f0) 0 5 false _ Cg.out).mono ?_);rintro e w' ⟨rfl,⟨nd,rfl⟩⟩;(try first|exact⟨rfl,_,World.drewN_drewN _ _ _⟩|exact⟨rfl,_,Eq.trans (World.drewN_drewN _ _ _) (congrArg (World.drewN _) (Nat.add_assoc _ _ _))⟩)))
      repeat(go_quiet (first|(go_at_call 40;(with_reducible refine(spec_l01Between.calls ((y15 Aa Ac).f0) 0 5 false _ Cg.out).mono ?_);rintro e w' ⟨rfl,⟨nd,rfl⟩⟩;(try first|exact⟨rfl,_,World.drewN_drewN _ _ _⟩|exact⟨rfl,_,Eq.trans (World.drewN_drewN _ _ _) (congrArg (World.drewN _) (Nat.add_assoc _ _ _))⟩)));try go_wp2_with (first|(go_at_call 40;(with_reducible refine(spec_l01Between.calls ((y15 Aa Ac).f0) 0 5 false _ Cg.out).mono ?_);rintro e w' ⟨rfl,⟨nd,rfl⟩⟩;(try first|exact⟨rfl,_,World.drewN_drewN _ _ _⟩|exact⟨rfl,_,Eq.trans (World.drewN_drewN _ _ _) (congrArg (World.drewN _) (Nat.add_assoc _ _ _))⟩))))
      go_meet
      exact⟨_,(true),qy2,H',⟨by have:=Cf.out;first|omega|exact Nat.le_refl _⟩,⟨by(with_reducible repeat(first|refine y9 ?_ _|refine y8 ?_|refine y5 ?_ _));refine blk_far ?_ Ab.out _;(with_reducible repeat(first|refine y9 ?_ _|refine y8 ?_|refine y5 ?_ _));refine blk_far ?_ Ab.out _;(with_reducible repeat(first|refine y9 ?_ _|refine y8 ?_|refine y5 ?_ _));refine blk_far ?_ Ab.out _;(with_reducible repeat(first|refine y9 ?_ _|refine y8 ?_|refine y5 ?_ _));exact Ad.out⟩,⟨by(with_reducible repeat(first|refine y9 ?_ _|refine y8 ?_|refine y5 ?_ _));refine blk_put (cs:=#[.int .i64 ((y15 Aa Ac).f0),.int .i64 ((y15 Aa Ac).f1),.bool false]) ?_ 2 _ rfl;(with_reducible repeat(first|refine y9 ?_ _|refine y8 ?_|refine y5 ?_ _));refine blk_put (cs:=#[.int .i64 ((y15 Aa Ac).f0),.int .i64 0,.bool false]) ?_ 1 _ rfl;(with_reducible repeat(first|refine y9 ?_ _|refine y8 ?_|refine y5 ?_ _));refine blk_put (cs:=#[.int .i64 0,.int .i64 0,.bool false]) ?_ 0 _ rfl;(with_reducible repeat(first|refine y9 ?_ _|refine y8 ?_|refine y5 ?_ _));exact Ai.out⟩,⟨qb⟩⟩
    case rest =>
     clear Dy
     (try clear Cj Dx Bu Bv Bw Ay Az Ba Bx Bz Ca Bb Bc Bd Aj Ak Al Bl Bm)
     obtain⟨kq,Bf,rfl,HA,Dd,Ad,Ai,HB⟩:=hcut
     cases kq with
     | zero=>exact absurd HA.out (by simp [z1_.j1])
     | succ Ec =>
      have H:=HA.out
      clear HA
      simp only [z1_.j1]at H
      by_cases De:Bf=true
      ·subst De
       replace H:=qT H
       obtain rfl:=Option.some.inj H
       go_wp2
       repeat(go_quiet (fail);try go_wp2)
       go_ret
       exact⟨qf,qb⟩
      ·replace De:=Bool.eq_false_iff.mpr De
       subst De
       replace H:=qF H
       by_cases Ch:Ac > 0
       ·rw [if_pos Ch]at H
        have Cm:decide (0 < Ac)=true:=decide_eq_true Ch
        clear Ch
        obtain⟨Af,Bg⟩:∃ j_:Int,(wrap64 (Ac - 1))=j_:=⟨_,rfl⟩
        replace H:(if 0≤(Af)then(if(Af) < (Aa.length:Int)then(if(wrap64 ((wrap64 (10 * ((y15 Aa (Af)).f0))) + ((y15 Aa (Af)).f1)))≥(wrap64 ((wrap64 (10 * ((y15 Aa Ac).f0))) + ((y15 Aa Ac).f1)))then(some false)else(z1_.l0 Ec (wrap64 (Ac + 1)) Am Ao Aa))else(none))else(none))=some r:=by first|(rw [Bg]at H;exact H)|(simp only [Bg]at H ⊢;exact H)
        have hji19w:(IntKind.i64.wrap (Ac - 1))=Af:=(i64_w _).trans Bg
        obtain⟨Ek,H⟩:=qo H
        have El:decide (0≤(Af))=true:=decide_eq_true Ek
        clear Ek
        obtain⟨Em,H⟩:=qo H
        have En:decide ((Af) < (Aa.length:Int))=true:=decide_eq_true Em
        clear Em
        have Eo:=Ab.out
        have Ep:=Ae.out
        obtain⟨Df,Dg,Dh,Di,Dj,Dk⟩:=qz3 Ad.out
        have Cb:0≤((Af):Int):=of_decide_eq_true qy0
        have Cc:(Af) < (Aa.length:Int):=of_decide_eq_true qy0
        obtain⟨Cn,Ed,Ap,Aq,Ar⟩:=at_T53 Bi.out (Af) Cb Cc
        obtain rfl:Bj=Cn:=(by injection Ed)
        replace Ap:=(HB.out.cell (World.block_lt_of_cell? w _ Ap)).trans Ap
        replace Aq:=(HB.out.cell (World.block_lt_of_cell? w _ Aq)).trans Aq
        replace Ar:=(HB.out.cell (World.block_lt_of_cell? w _ Ar)).trans Ar
        replace Cb:=eq_true Cb
        replace Cc:=eq_true Cc
        have Cd:0≤((Af):Int):=of_decide_eq_true qy0
        have Ce:(Af) < (Aa.length:Int):=of_decide_eq_true qy0
        obtain⟨Co,Ee,As,At,Au⟩:=at_T53 Bi.out (Af) Cd Ce
        obtain rfl:Bj=Co:=(by injection Ee)
        replace As:=(HB.out.cell (World.block_lt_of_cell? w _ As)).trans As
        replace At:=(HB.out.cell (World.block_lt_of_cell? w _ At)).trans At
        replace Au:=(HB.out.cell (World.block_lt_of_cell? w _ Au)).trans Au
        replace Cd:=eq_true Cd
        replace Ce:=eq_true Ce
        obtain⟨Dl,Dm,Dn,Do,Dp,Dq⟩:=qz3 Ai.out
        by_cases Ci:(wrap64 ((wrap64 (10 * ((y15 Aa (Af)).f0))) + ((y15 Aa (Af)).f1)))≥(wrap64 ((wrap64 (10 * ((y15 Aa Ac).f0))) + ((y15 Aa Ac).f1)))
        ·rw [if_pos Ci]at H
         have Cp:decide ((wrap64 ((wrap64 (10 * ((y15 Aa Ac).f0))) + ((y15 Aa Ac).f1)))≤(wrap64 ((wrap64 (10 * ((y15 Aa (Af)).f0))) + ((y15 Aa (Af)).f1))))=true:=decide_eq_true Ci
         clear Ci
         obtain rfl:=Option.some.inj H
         go_wp2
         repeat(go_quiet (fail);try go_wp2)
         go_ret
         exact⟨by first|rfl|(simp [errW_none,errW_some] <;> rfl)|(simp only [← Bg];first|rfl|(simp [errW_none,errW_some] <;> rfl))|(simp [*,errW_none,errW_some] <;> rfl),qb⟩
        ·rw [if_neg Ci]at H
         have Cp:decide ((wrap64 ((wrap64 (10 * ((y15 Aa Ac).f0))) + ((y15 Aa Ac).f1)))≤(wrap64 ((wrap64 (10 * ((y15 Aa (Af)).f0))) + ((y15 Aa (Af)).f1))))=false:=decide_eq_false Ci
         clear Ci
         have H':=y0.mk H
         clear H
         go_wp2
         repeat(go_quiet (fail);try go_wp2)
         go_roundg Ec
         case measure=>have:=Cf.out;have:=Dd.out;omega
         exact⟨(wrap64 (Ac + 1)),qy2,H',⟨by have:=Cf.out;have:=Dd.out;omega⟩,⟨qk Ad.out⟩,⟨qb⟩⟩
       ·rw [if_neg Ch]at H
        have Cm:decide (0 < Ac)=false:=decide_eq_false Ch
        clear Ch
        have H':=y0.mk H
        clear H
        go_wp2
        repeat(go_quiet (fail);try go_wp2)
        go_roundg Ec
        case measure=>have:=Cf.out;have:=Dd.out;omega
        exact⟨(wrap64 (Ac + 1)),qy2,H',⟨by have:=Cf.out;have:=Dd.out;omega⟩,⟨qk Ad.out⟩,⟨qb⟩⟩
   ·rw [if_neg c3]at H
    have Cj:=decide_eq_false c3
    clear c3
    obtain rfl:=Option.some.inj H
    obtain⟨Dr,Ds,Dt,Du,Dv,Dw⟩:=qz3 Ad.out
    go_wp2
    repeat(go_quiet (fail);try go_wp2)
    go_ret
    exact⟨qf,qb⟩
end Go.Proofs.Ytcckpjflbfofjaa.Pd
end
