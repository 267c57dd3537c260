-- Cut by prune.py.
import Derived.Test.YtkdabljlfbmpdaaVgrQIvP
import Derived.Test.YtkdabljlfbmpdaaProg
import Derived.Maps.OwnSet
namespace Go.Proofs.Ytkdabljlfbmpdaa.QSet
open RowKit Go.Maps YtkdabljlfbmpdaaW.PrintWords YtkdabljlfbmpdaaW.PrintLast
set_option linter.unusedVariables false
set_option linter.unusedSimpArgs false
theorem bx1 {W:World} {g ty:Nat} {a0:Value} (h:W.heap[g]?=some (.cells #[a0] ty (0,0))):W.cell? ⟨g,0,none⟩=some a0∧W.frozen? ⟨g,0,none⟩=false:=⟨(y7 h 0).trans rfl,blk_frozen h 0⟩
theorem bx3 {W:World} {g ty:Nat} {a0 a1 a2:Value} (h:W.heap[g]?=some (.cells #[a0,a1,a2] ty (0,0))):W.cell? ⟨g,0,none⟩=some a0∧W.cell? ⟨g,1,none⟩=some a1∧W.cell? ⟨g,2,none⟩=some a2∧W.frozen? ⟨g,0,none⟩=false∧W.frozen? ⟨g,1,none⟩=false∧W.frozen? ⟨g,2,none⟩=false:=⟨(y7 h 0).trans rfl,(y7 h 1).trans rfl,(y7 h 2).trans rfl,blk_frozen h 0,blk_frozen h 1,blk_frozen h 2⟩
theorem bx5 {W:World} {g ty:Nat} {a0 a1 a2 a3 a4:Value} (h:W.heap[g]?=some (.cells #[a0,a1,a2,a3,a4] ty (0,0))):W.cell? ⟨g,0,none⟩=some a0∧W.cell? ⟨g,1,none⟩=some a1∧W.cell? ⟨g,2,none⟩=some a2∧W.cell? ⟨g,3,none⟩=some a3∧W.cell? ⟨g,4,none⟩=some a4∧W.frozen? ⟨g,0,none⟩=false∧W.frozen? ⟨g,1,none⟩=false∧W.frozen? ⟨g,2,none⟩=false∧W.frozen? ⟨g,3,none⟩=false∧W.frozen? ⟨g,4,none⟩=false:=⟨(y7 h 0).trans rfl,(y7 h 1).trans rfl,(y7 h 2).trans rfl,(y7 h 3).trans rfl,(y7 h 4).trans rfl,blk_frozen h 0,blk_frozen h 1,blk_frozen h 2,blk_frozen h 3,blk_frozen h 4⟩
def hasB (S:List ByteArray) (s:ByteArray):Bool:=S.any fun t=>decide (t.toList=s.toList)
def ins (S:List ByteArray) (s:ByteArray):List ByteArray:=if hasB S s=true then S else S ++ [s]
theorem toList_data (s:ByteArray):s.toList=s.data.toList:=by
 obtain⟨a⟩:=s
 obtain⟨l⟩:=a
 exact ByteArray.toList_mk l
theorem toList_inj {s t:ByteArray} (h:s.toList=t.toList):s=t:=by
 rw [toList_data,toList_data]at h
 exact ByteArray.ext (Array.toList_inj.1 h)
theorem hasB_iff {S:List ByteArray} {s:ByteArray}:hasB S s=true↔s∈S:=by
 unfold hasB
 rw [List.any_eq_true]
 constructor
 ·rintro⟨t,ht,h⟩
  rw [← toList_inj (of_decide_eq_true h)]
  exact ht
 ·intro h
  exact⟨s,h,decide_eq_true rfl⟩
theorem mem_ins {S:List ByteArray} {s t:ByteArray}:t∈ins S s↔t∈S∨t=s:=by
 unfold ins
 by_cases h:hasB S s=true
 ·rw [if_pos h]
  exact⟨.inl,fun h2=>h2.elim id (fun e=>e ▸ hasB_iff.1 h)⟩
 ·rw [if_neg h,List.mem_append,List.mem_singleton]
theorem hasB_ins (S:List ByteArray) (s t:ByteArray):hasB (ins S s) t=(decide (s=t) || hasB S t):=by
 rw [Bool.eq_iff_iff,hasB_iff,mem_ins,Bool.or_eq_true,decide_eq_true_eq,hasB_iff]
 exact⟨fun h=>h.elim .inr (fun e=>.inl e.symm),fun h=>h.elim (fun e=>.inr e.symm) .inl⟩
theorem ins_len (S:List ByteArray) (s:ByteArray):(ins S s).length=if hasB S s=true then S.length else S.length + 1:=by
 unfold ins
 by_cases h:hasB S s=true
 ·rw [if_pos h,if_pos h]
 ·rw [if_neg h,if_neg h,List.length_append,List.length_singleton]
theorem law:Keyed Try.prog 9:=string_keyed Try.underlying9
theorem key_of {s:ByteArray} (h:s.size≤maxLen):keyOf Try.prog 9 (.string s)=some (.string s.data.toList):=by
 simp [keyOf,Try.underlying9,mapKey,h]
theorem bool_inv {P:Program} {e:TypeId} (he:P.underlying e=some .bool) {v:Value} {x:Bool} {ps:List MemPlace} (h:plainElem (H:=Unit) P e v=some (.lit (.bool x),ps)):v=.bool x:=by
 unfold plainElem at h
 rw [he]at h
 cases v <;> simp at h
 rw [h.1]
theorem key_ne {s t:ByteArray}:(Lit.string s.data.toList=Lit.string t.data.toList)↔s=t:=by
 constructor
 ·intro h
  injection h with h
  exact ByteArray.ext (Array.toList_inj.1 h)
 ·rintro rfl
  rfl
def MS (W:World) (B:Nat) (S:List ByteArray):Prop :=
 ∃ D:DataW Unit,W.ownsMap Try.prog 9 (plainElem Try.prog 4) B S.length D∧Maps.size D=S.length∧∀ s:ByteArray,s.size≤maxLen→Maps.has D (.string s.data.toList)=hasB S s∧(hasB S s=true→∀ z,D.atKey (.string s.data.toList) z=.lit (.bool true))
section
variable {W W1 : World} {B : Nat} {S : List ByteArray}
theorem MS.made (w:World):MS (w.alloc (.map #[] 0)) w.heap.size [] :=
 ⟨.map [],World.ownsMap_made w _ _ _,rfl,fun _ _=>⟨rfl,fun h=>by cases h⟩⟩
theorem MS.lt (h:MS W B S):B < W.heap.size:=by
 obtain⟨D,hD,_⟩:=h
 exact hD.lt
theorem MS.keep (h:MS W B S) (hk:W1.heap[B]?=W.heap[B]?):MS W1 B S:=by
 obtain⟨D,⟨es,clock,hb,h2⟩,h3⟩:=h
 exact⟨D,⟨es,clock,hk.trans hb,h2⟩,h3⟩
theorem MS.below (h:MS W B S) (hb:Below W.heap.size W W1):MS W1 B S:=h.keep (hb.block B h.lt)
theorem MS.set (h:MS W B S) {g:Nat} (hg:B≠g) (j:Nat) (u:Value):MS (W.setCell ⟨g,j,none⟩ u) B S:=h.keep (Below.heap_setCell W _ u B hg)
theorem MS.drew (h:MS W B S):MS W.drew B S:=h
theorem MS.look (h:MS W B S) {s:ByteArray} (hs:s.size≤maxLen) :
  (Instr.lookup 85 (.map (some B)) (.string s) false).run Try.prog W=.ok (.bool (hasB S s)) W:=by
 obtain⟨D,hD,_,h1⟩:=h
 have hz:(zeroValue 4).run Try.prog W=.ok (.bool false) W:=by kernel_rfl
 obtain⟨v,ps,hrun,hv⟩:=hD.lookup law Try.underlying85 hz (plainElem_bool Try.underlying4 false) (key_of hs)
 obtain⟨h2,h3⟩:=h1 s hs
 rw [hrun]
 cases hF:hasB S s with
 | false =>
  rw [hF]at h2
  rw [atKey_of_not_has h2]at hv
  rw [bool_inv Try.underlying4 hv]
 | true =>
  rw [h3 hF _]at hv
  rw [bool_inv Try.underlying4 hv]
theorem MS.put (h:MS W B S) (hn:S.length < maxLen) {s:ByteArray} (hs:s.size≤maxLen) :
  ∃ w',(Instr.mapUpdate 85 (.map (some B)) (.string s) (.bool true)).run Try.prog W=.ok () w'∧MS w' B (ins S s)∧W.grownBy w' (some B):=by
 obtain⟨D,hD,h1,h2⟩:=h
 have hm:=hD.isMap
 have ht:=hD.tidy law
 have hk:=key_of hs
 have hl:=law.key hk
 obtain⟨w',hrun,hD',hg⟩:=hD.update law Try.underlying85 hn hk (plainElem_bool Try.underlying4 true)
 have hsz:Maps.size (D.put (.string s.data.toList) (.lit (.bool true)))=(ins S s).length:=by
  rw [Maps.size_put ht,ins_len,(h2 s hs).1,h1]
 refine⟨w',hrun,⟨_, ?_,hsz,fun t hts=>?_⟩,hg⟩
 ·obtain⟨es,clock,e1,e2,e3,e4⟩:=hD'
  refine⟨es,clock,e1,e2, ?_,e4⟩
  rw [← hsz,e4]
  show es.size≤List.length _
  rw [length_sorted]
  simp
 ·rw [hasB_ins]
  by_cases e:s=t
  ·subst e
   rw [decide_eq_true rfl,Bool.true_or]
   exact⟨has_put_same hm hl _,fun _ z=>atKey_put_same hm hl _ z⟩
  ·have hne:(Lit.string t.data.toList)≠.string s.data.toList:=fun h=>e (key_ne.1 h).symm
   rw [decide_eq_false e,Bool.false_or,has_put_other hne]
   refine⟨(h2 t hts).1,fun hh z=>?_⟩
   rw [atKey_put_other hne]
   exact(h2 t hts).2 hh z
end
section
variable {W W1 w : World} {B : Nat} {S : List ByteArray} {α : Type} {d : Kd α} {e base : Nat} {ok : Nat → Prop} {v : Value} {xs : List α}
theorem MS.row (h:MS W B S) (hr:d.R e W base ok v xs) (hg:W.grownBy W1 (some B)):d.R e W1 base ok v xs:=by
 refine Kd.R_mono (Kd.R_grown (Kd.R_bound hr) hg ?_) (fun _ hk=>hk.1)
 rintro k ⟨_,_,_,q,_,cells,hc⟩ e
 injection e with e
 subst e
 obtain⟨D,⟨es,clock,hb,_⟩,_⟩:=h
 rw [hb]at hc
 injection hc with hc
 cases hc
theorem MS.blk {g:Nat} {o:Obj} (hb:W.heap[g]?=some o) (hne:g≠B) (hg:W.grownBy W1 (some B)):W1.heap[g]?=some o:=blk_grown hb hg (fun e=>hne (Option.some.inj e))
theorem MS.low (hB:Below w.heap.size w W) (hg:W.grownBy W1 (some B)) (hm:w.heap.size≤B):Below w.heap.size w W1 :=
 ⟨hg.os.trans hB.os,hg.tape.trans hB.tape,hg.output.trans hB.output,Nat.le_trans hB.size hg.size,fun i hi=>(hg.block i (Nat.lt_of_lt_of_le hi hB.size) (fun e=>by injection e with e;omega)).trans (hB.block i hi)⟩
theorem MS.over (h:MS W B S) (hr:d.R e W base ok v xs) (hg:W.grownBy W1 v.ownBlock):MS W1 B S:=by
 refine h.keep (hg.block B h.lt (fun e=>?_))
 obtain⟨cells,hc⟩:=Kd.R_typed hr B e.symm
 obtain⟨D,⟨es,clock,hb,_⟩,_⟩:=h
 rw [hb]at hc
 injection hc with hc
 cases hc
end
section
variable {P : Program} {ops : Array Oper} {rest : List Oper} {o : Oper} {a : Act} {Q : Exit → Act → World → Prop} {W : World} {B : Nat} {S : List ByteArray}
theorem make_event (hg:o.guard=none) (hop:o.op=Op.makeMap 85 none)
  (h:∀ g,g=W.heap.size→∀ w1,MS w1 g []→Below W.heap.size W w1→wpList P ops Q rest (a.put o.dst (.map (some g))) w1):wpList P ops Q (o :: rest) a W:=by
 refine wpList_plain hg fun K' hK'=>?_
 unfold Oper.wp
 have hrun:(Instr.makeMap 85 none).run P W=.ok (.map (some W.heap.size)) (W.alloc (.map #[] 0)):=run_makeMap 85 W
 simp [execOp,hop,hrun,Result.andThen]
 exact hK' _ _ (h _ rfl _ (MS.made W) (below_alloc (Below.refl _ _) _))
theorem look_event (hg:o.guard=none) (m x:Operand) (hop:o.op=Op.lookup 85 m x false) (hm:a.eval m=.map (some B)) {s:ByteArray} (hx:a.eval x=.string s) (h:MS W B S) (hs:s.size≤maxLen)
  (hK:wpList Try.prog ops Q rest (a.put o.dst (.bool (hasB S s))) W):wpList Try.prog ops Q (o :: rest) a W:=by
 refine wpList_plain hg fun K' hK'=>?_
 unfold Oper.wp
 simp [execOp,hop,hm,hx,h.look hs,Result.andThen]
 exact hK' _ _ hK
theorem gate_put {m x v:Operand} (_h:o.op=Op.mapUpdate 85 m x v) (h:wpList P ops Q (o :: rest) a W):wpList P ops Q (o :: rest) a W:=h
theorem put_event (hg:o.guard=none) (m x v:Operand) (hop:o.op=Op.mapUpdate 85 m x v) (hm:a.eval m=.map (some B)) {s:ByteArray} (hx:a.eval x=.string s) (hv:a.eval v=.bool true) (h:MS W B S) (hn:S.length < maxLen) (hs:s.size≤maxLen)
  (hK:∀ w',MS w' B (ins S s)→W.grownBy w' (some B)→wpList Try.prog ops Q rest (a.put o.dst undef) w'):wpList Try.prog ops Q (o :: rest) a W:=by
 refine wpList_plain hg fun K' hK'=>?_
 obtain⟨w',hrun,r1,r2⟩:=h.put hn hs
 unfold Oper.wp
 simp [execOp,hop,hm,hx,hv,hrun,Result.andThen]
 exact hK' _ _ (hK w' r1 r2)
theorem len_event (hg:o.guard=none) (m:Operand) (hop:o.op=Op.call { callee:=Callee.builtin Builtin.len,args:=#[m],argTypes:=#[85] }) (hm:a.eval m=.map (some B)) (h:MS W B S)
  (hK:wpList Try.prog ops Q rest (a.put o.dst (.int .i64 (S.length:Int))) W):wpList Try.prog ops Q (o :: rest) a W:=by
 obtain⟨D,hD,h1,_⟩:=h
 refine wpList_len_own W hg m _ hop _ _ Try.underlying85 _ B _ D hm hD ?_
 rw [h1]
 exact hK
end
end Go.Proofs.Ytkdabljlfbmpdaa.QSet
