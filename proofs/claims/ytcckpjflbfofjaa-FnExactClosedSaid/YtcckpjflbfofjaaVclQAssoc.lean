-- Cut by prune.py, a program of this session, out of the texts of this claim: Lean checks it.
import Derived.Test.YtcckpjflbfofjaaVclQCompU
namespace Go.Proofs.Ytcckpjflbfofjaa.QAssoc
open Go.RowKit Go.Proofs.Ytcckpjflbfofjaa.Pd Go.Proofs.YtcckpjflbfofjaaW.PrintWords Go.Proofs.YtcckpjflbfofjaaW.PrintLast Go.Proofs.Ytcckpjflbfofjaa.QStr Go.Proofs.Ytcckpjflbfofjaa.QGraph Go.Proofs.Ytcckpjflbfofjaa.QGraphR Go.Proofs.Ytcckpjflbfofjaa.QCompU
theorem comp_in {xs ys:List A} {z:A} (h:z∈compF xs ys):inA z:=(mem_comp.1 h).1
variable {xs ys zs : List A}
theorem chk_cons (p:Option A) (y:A) (l:List A):chk p (y :: l)=(decide (inA y) && ((match p with|none=>true|some p=>decide (ltA p y)) && chk (some y) l)):=rfl
theorem chk_of:∀ {l:List A} {p:Option A},l.Pairwise ltA→(∀ x∈l,inA x)→(∀ q,p=some q→∀ x∈l,ltA q x)→chk p l=true
 | [],_,_,_,_=>rfl
 | y :: l,p,h1,h2,h3=>by
  obtain⟨a1,b1⟩:=List.pairwise_cons.1 h1
  have ih:=chk_of (p:=some y) b1 (fun x hx=>h2 x (List.mem_cons_of_mem _ hx)) (fun q hq x hx=>by cases hq;exact a1 x hx)
  rw [chk_cons,decide_eq_true (h2 y List.mem_cons_self),ih]
  cases p with
  | none=>rfl
  | some q=>simp only [decide_eq_true (h3 q rfl y List.mem_cons_self),Bool.and_true]
theorem chk_comp (xs ys:List A):chk none (compF xs ys)=true:=chk_of (comp_rises xs ys) (fun _ h=>comp_in h) (fun q hq=>by cases hq)
end Go.Proofs.Ytcckpjflbfofjaa.QAssoc
