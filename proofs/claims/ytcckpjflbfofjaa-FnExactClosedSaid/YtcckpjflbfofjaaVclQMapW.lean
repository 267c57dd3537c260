-- Cut by prune.py, a program of this session, out of the texts of this claim: Lean checks it.
import Derived.Test.YtcckpjflbfofjaaVclQMapR
namespace Go.Proofs.Ytcckpjflbfofjaa.QMapW
open Go.RowKit Go.Maps Go.Proofs.Ytcckpjflbfofjaa.Pd Go.Proofs.YtcckpjflbfofjaaW.PrintWords Go.Proofs.YtcckpjflbfofjaaW.PrintLast Go.Proofs.Ytcckpjflbfofjaa.QStr Go.Proofs.Ytcckpjflbfofjaa.QGraph Go.Proofs.Ytcckpjflbfofjaa.QMapA Go.Proofs.Ytcckpjflbfofjaa.QMapR
section
variable {W : World} {ops : Array Oper} {rest : List Oper} {o : Oper} {a : Act} {Q : Exit → Act → World → Prop} {B n : Nat} {F : Int → Int → Option Bool}
theorem run_look (h:PM W B n F) {m x:Operand} (hop:o.op=Op.lookup 66 m x false) (hm:a.eval m=.map (some B)) {p q:Int} {l:Lit} (hk:keyOf Try.prog 67 (key p q)=some l) (hx:a.eval x=key p q) :
  (execOp a.eval o).run Try.prog W=.ok (.value (.bool ((F p q).getD false))) W:=by
 simp [execOp,hop,hm,hx,h.look hk,Result.andThen]
theorem range_event (hg:o.guard=none) (m:Operand) (hop:o.op=Op.range 66 m) (hm:a.eval m=.map (some B)) (h:PM W B n F)
  (hK:∀ r w' cnt,r=W.heap.size→PR w' B r n F (fun a b=>(F a b).isSome) cnt→W.grownBy w' none→w'.heap.size=W.heap.size + 1→wpList Try.prog ops Q rest (a.put o.dst (.pointer (some ⟨r,0,none⟩))) w'):wpList Try.prog ops Q (o :: rest) a W:=by
 refine wpList_plain hg fun K' hK'=>?_
 obtain⟨w',cnt,hrun,r1,r2,r3⟩:=PM.range h
 unfold Oper.wp
 simp [execOp,hop,hm,hrun,Result.andThen]
 exact hK' _ _ (hK _ w' cnt rfl r1 r2 r3)
end
end Go.Proofs.Ytcckpjflbfofjaa.QMapW
