-- Cut by prune.py.
import Derived.Test.YtimhlficlhafbaaGreatDoorVvlQIvP
import Derived.Test.YtimhlficlhafbaaGreatDoorProg
import Derived.Maps.OwnSet
namespace Go.Proofs.YtimhlficlhafbaaGreatDoor.QMapI
open RowKit Go.Maps YtimhlficlhafbaaGreatDoorW.PrintWords YtimhlficlhafbaaGreatDoorW.PrintLast
set_option linter.unusedVariables false
set_option linter.unusedSimpArgs false
theorem bx3 {W:World} {g ty:Nat} {a0 a1 a2:Value} (h:W.heap[g]?=some (.cells #[a0,a1,a2] ty (0,0))):W.cell? ⟨g,0,none⟩=some a0∧W.cell? ⟨g,1,none⟩=some a1∧W.cell? ⟨g,2,none⟩=some a2∧W.frozen? ⟨g,0,none⟩=false∧W.frozen? ⟨g,1,none⟩=false∧W.frozen? ⟨g,2,none⟩=false:=⟨(y8 h 0).trans rfl,(y8 h 1).trans rfl,(y8 h 2).trans rfl,blk_frozen h 0,blk_frozen h 1,blk_frozen h 2⟩
theorem bx5 {W:World} {g ty:Nat} {a0 a1 a2 a3 a4:Value} (h:W.heap[g]?=some (.cells #[a0,a1,a2,a3,a4] ty (0,0))):W.cell? ⟨g,0,none⟩=some a0∧W.cell? ⟨g,1,none⟩=some a1∧W.cell? ⟨g,2,none⟩=some a2∧W.cell? ⟨g,3,none⟩=some a3∧W.cell? ⟨g,4,none⟩=some a4∧W.frozen? ⟨g,0,none⟩=false∧W.frozen? ⟨g,1,none⟩=false∧W.frozen? ⟨g,2,none⟩=false∧W.frozen? ⟨g,3,none⟩=false∧W.frozen? ⟨g,4,none⟩=false:=⟨(y8 h 0).trans rfl,(y8 h 1).trans rfl,(y8 h 2).trans rfl,(y8 h 3).trans rfl,(y8 h 4).trans rfl,blk_frozen h 0,blk_frozen h 1,blk_frozen h 2,blk_frozen h 3,blk_frozen h 4⟩
def In (a:Int):Prop:=0≤a∧a < 4294967296
theorem law:Keyed Tryz.prog 3:=int_keyed Tryz.underlying3
theorem wf_in {a:Int} (h:In a):(Lit.int .i64 a).wf=true:=by
 obtain⟨h1,h2⟩:=h
 simp [Lit.wf,IntKind.min,IntKind.max,IntKind.bits,IntKind.signed]
 omega
theorem key_of {a:Int} (h:In a):keyOf Tryz.prog 3 (.int .i64 a)=some (.int .i64 a):=by
 simp [keyOf,Tryz.underlying3,mapKey,wf_in h]
theorem str_inv {P:Program} {e:TypeId} (he:P.underlying e=some .string) {v:Value} {s:ByteArray} {ps:List MemPlace} (h:plainElem (H:=Unit) P e v=some (.lit (.string s.data.toList),ps)):v=.string s:=by
 unfold plainElem at h
 rw [he]at h
 cases v <;> simp at h
 rename_i t
 rw [show t=s from ByteArray.ext h.2.1]
def IM (W:World) (B n:Nat) (F:Int→Option ByteArray):Prop :=
 ∃ D:DataW Unit,W.ownsMap Tryz.prog 3 (plainElem Tryz.prog 9) B n D∧∀ a,In a→Maps.has D (.int .i64 a)=(F a).isSome∧∀ s z,F a=some s→D.atKey (.int .i64 a) z=.lit (.string s.data.toList)
section
variable {W W1 : World} {B n : Nat} {F : Int → Option ByteArray}
theorem IM.made (w:World):IM (w.alloc (.map #[] 0)) w.heap.size 0 (fun _=>none) :=
 ⟨.map [],World.ownsMap_made w _ _ _,fun _ _=>⟨rfl,fun _ _ h=>by cases h⟩⟩
theorem IM.lt (h:IM W B n F):B < W.heap.size:=by
 obtain⟨D,hD,_⟩:=h
 exact hD.lt
theorem IM.keep (h:IM W B n F) (hk:W1.heap[B]?=W.heap[B]?):IM W1 B n F:=by
 obtain⟨D,⟨es,clock,hb,h2⟩,h3⟩:=h
 exact⟨D,⟨es,clock,hk.trans hb,h2⟩,h3⟩
theorem IM.below (h:IM W B n F) (hb:Below W.heap.size W W1):IM W1 B n F:=h.keep (hb.block B h.lt)
theorem IM.set (h:IM W B n F) {g:Nat} (hg:B≠g) (j:Nat) (u:Value):IM (W.setCell ⟨g,j,none⟩ u) B n F:=h.keep (Below.heap_setCell W _ u B hg)
theorem IM.drew (h:IM W B n F):IM W.drew B n F:=h
theorem IM.look (h:IM W B n F) {a:Int} (ha:In a) :
  (Instr.lookup 75 (.map (some B)) (.int .i64 a) false).run Tryz.prog W=.ok (.string ((F a).getD ⟨#[]⟩)) W:=by
 obtain⟨D,hD,h1⟩:=h
 have hz:(zeroValue 9).run Tryz.prog W=.ok (.string ⟨#[]⟩) W:=by kernel_rfl
 obtain⟨v,ps,hrun,hv⟩:=hD.lookup law Tryz.underlying75 hz (plainElem_string Tryz.underlying9 (s:=⟨#[]⟩) (Nat.zero_le _)) (key_of ha)
 obtain⟨h2,h3⟩:=h1 a ha
 rw [hrun]
 cases hF:F a with
 | none =>
  rw [hF]at h2
  rw [atKey_of_not_has h2]at hv
  rw [str_inv (s:=⟨#[]⟩) Tryz.underlying9 hv]
  rfl
 | some x =>
  rw [h3 x _ hF]at hv
  rw [str_inv Tryz.underlying9 hv]
  rfl
theorem IM.put (h:IM W B n F) (hn:n < maxLen) {a:Int} (ha:In a) {s:ByteArray} (hs:s.size≤maxLen) :
  ∃ w',(Instr.mapUpdate 75 (.map (some B)) (.int .i64 a) (.string s)).run Tryz.prog W=.ok () w'∧IM w' B (n + 1) (fun c=>if c=a then some s else F c)∧W.grownBy w' (some B):=by
 obtain⟨D,hD,h1⟩:=h
 have hm:=hD.isMap
 have hk:=key_of ha
 have hl:=law.key hk
 obtain⟨w',hrun,hD',hg⟩:=hD.update law Tryz.underlying75 hn hk (plainElem_string Tryz.underlying9 hs)
 refine⟨w',hrun,⟨_,hD',fun c hc=>?_⟩,hg⟩
 show Maps.has (D.put (.int .i64 a) (.lit (.string s.data.toList))) (.int .i64 c)=(if c=a then some s else F c).isSome∧∀(v:ByteArray) (z:DataW Unit),(if c=a then some s else F c)=some v→_
 by_cases e:c=a
 ·subst e
  rw [if_pos rfl]
  exact⟨has_put_same hm hl _,fun v z hv=>by cases hv;exact atKey_put_same hm hl _ z⟩
 ·have hne:(Lit.int .i64 c)≠.int .i64 a:=fun e2=>e (by injection e2)
  rw [if_neg e,has_put_other hne]
  refine⟨(h1 c hc).1,fun v z hv=>?_⟩
  rw [atKey_put_other hne]
  exact(h1 c hc).2 v z hv
end
section
variable {W W1 w : World} {B n : Nat} {F : Int → Option ByteArray} {α : Type} {d : Kd α} {e base : Nat} {ok : Nat → Prop} {v : Value} {xs : List α}
theorem IM.row (h:IM W B n F) (hr:d.R e W base ok v xs) (hg:W.grownBy W1 (some B)):d.R e W1 base ok v xs:=by
 refine Kd.R_mono (Kd.R_grown (Kd.R_bound hr) hg ?_) (fun _ hk=>hk.1)
 rintro k ⟨_,_,_,q,_,cells,hc⟩ e
 injection e with e
 subst e
 obtain⟨D,⟨es,clock,hb,_⟩,_⟩:=h
 rw [hb]at hc
 injection hc with hc
 cases hc
theorem IM.blk {g:Nat} {o:Obj} (hb:W.heap[g]?=some o) (hne:g≠B) (hg:W.grownBy W1 (some B)):W1.heap[g]?=some o:=y12 hb hg (fun e=>hne (Option.some.inj e))
theorem IM.low (hB:Below w.heap.size w W) (hg:W.grownBy W1 (some B)) (hm:w.heap.size≤B):Below w.heap.size w W1 :=
 ⟨hg.os.trans hB.os,hg.tape.trans hB.tape,hg.output.trans hB.output,Nat.le_trans hB.size hg.size,fun i hi=>(hg.block i (Nat.lt_of_lt_of_le hi hB.size) (fun e=>by injection e with e;omega)).trans (hB.block i hi)⟩
theorem IM.over (h:IM W B n F) (hr:d.R e W base ok v xs) (hg:W.grownBy W1 v.ownBlock):IM W1 B n F:=by
 refine h.keep (hg.block B h.lt (fun e=>?_))
 obtain⟨cells,hc⟩:=Kd.R_typed hr B e.symm
 obtain⟨D,⟨es,clock,hb,_⟩,_⟩:=h
 rw [hb]at hc
 injection hc with hc
 cases hc
end
section
variable {P : Program} {ops : Array Oper} {rest : List Oper} {o : Oper} {a : Act} {Q : Exit → Act → World → Prop} {W : World} {B n : Nat} {F : Int → Option ByteArray}
theorem make_event (hg:o.guard=none) (hop:o.op=Op.makeMap 75 none)
  (h:∀ g,g=W.heap.size→∀ w1,IM w1 g 0 (fun _=>none)→Below W.heap.size W w1→wpList P ops Q rest (a.put o.dst (.map (some g))) w1):wpList P ops Q (o :: rest) a W:=by
 refine wpList_plain hg fun K' hK'=>?_
 unfold Oper.wp
 have hrun:(Instr.makeMap 75 none).run P W=.ok (.map (some W.heap.size)) (W.alloc (.map #[] 0)):=run_makeMap 75 W
 simp [execOp,hop,hrun,Result.andThen]
 exact hK' _ _ (h _ rfl _ (IM.made W) (below_alloc (Below.refl _ _) _))
theorem look_event (hg:o.guard=none) (m x:Operand) (hop:o.op=Op.lookup 75 m x false) (hm:a.eval m=.map (some B)) {i:Int} (hx:a.eval x=.int .i64 i) (h:IM W B n F) (hi:In i)
  (hK:wpList Tryz.prog ops Q rest (a.put o.dst (.string ((F i).getD ⟨#[]⟩))) W):wpList Tryz.prog ops Q (o :: rest) a W:=by
 refine wpList_plain hg fun K' hK'=>?_
 unfold Oper.wp
 simp [execOp,hop,hm,hx,h.look hi,Result.andThen]
 exact hK' _ _ hK
theorem gate_put {m x v:Operand} (_h:o.op=Op.mapUpdate 75 m x v) (h:wpList P ops Q (o :: rest) a W):wpList P ops Q (o :: rest) a W:=h
theorem put_event (hg:o.guard=none) (m x v:Operand) (hop:o.op=Op.mapUpdate 75 m x v) (hm:a.eval m=.map (some B)) {i:Int} (hx:a.eval x=.int .i64 i) {s:ByteArray} (hv:a.eval v=.string s) (h:IM W B n F) (hn:n < maxLen) (hi:In i) (hs:s.size≤maxLen)
  (hK:∀ w',IM w' B (n + 1) (fun c=>if c=i then some s else F c)→W.grownBy w' (some B)→wpList Tryz.prog ops Q rest (a.put o.dst undef) w'):wpList Tryz.prog ops Q (o :: rest) a W:=by
 refine wpList_plain hg fun K' hK'=>?_
 obtain⟨w',hrun,r1,r2⟩:=h.put hn hi hs
 unfold Oper.wp
 simp [execOp,hop,hm,hx,hv,hrun,Result.andThen]
 exact hK' _ _ (hK w' r1 r2)
end
end Go.Proofs.YtimhlficlhafbaaGreatDoor.QMapI
