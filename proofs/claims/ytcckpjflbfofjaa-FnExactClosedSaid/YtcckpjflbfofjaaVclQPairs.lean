-- Cut by prune.py, a program of this session, out of the texts of this claim: Lean checks it.
import Derived.Test.YtcckpjflbfofjaaVclQGraph
namespace Go.Proofs.Ytcckpjflbfofjaa.QPairs
open Go.RowKit Go.Proofs.Ytcckpjflbfofjaa.Pd Go.Proofs.YtcckpjflbfofjaaW.PrintWords Go.Proofs.YtcckpjflbfofjaaW.PrintLast Go.Proofs.Ytcckpjflbfofjaa.QStr Go.Proofs.Ytcckpjflbfofjaa.QGraph
/-- What is at key (a, b) when the pairs L have been looked at. -/
def Fp (L:List (A×A)) (a b:Int):Option Bool:=if(L.any fun p=>hit a b p.1 p.2)=true then some (L.any fun p=>hit a b p.1 p.2 && (p.1.f2 || p.2.f2))else none
theorem Fp_miss (L:List (A×A)) {x y:A} (h:x.f1≠y.f0):Fp (L ++ [(x,y)])=Fp L:=by
 funext a b
 have hh:hit a b x y=false:=by simp [hit,h]
 unfold Fp
 simp only [List.any_append,List.any_cons,List.any_nil,hh,Bool.false_and,Bool.or_false]
theorem Fp_hit (L:List (A×A)) {x y:A} (h:x.f1=y.f0):Fp (L ++ [(x,y)])=fun c d=>if c=x.f0∧d=y.f1 then some (((Fp L x.f0 y.f1).getD false || x.f2) || y.f2)else Fp L c d:=by
 funext a b
 show _=if a=x.f0∧b=y.f1 then some (((Fp L x.f0 y.f1).getD false || x.f2) || y.f2)else Fp L a b
 by_cases e:a=x.f0∧b=y.f1
 ·obtain⟨rfl,rfl⟩:=e
  have hh:hit x.f0 y.f1 x y=true:=by simp [hit,h]
  rw [if_pos ⟨rfl,rfl⟩]
  unfold Fp
  simp only [List.any_append,List.any_cons,List.any_nil,hh,Bool.true_and,Bool.or_false,Bool.or_true,if_true]
  by_cases c:(L.any fun p=>hit x.f0 y.f1 p.1 p.2)=true
  ·rw [if_pos c]
   simp [Bool.or_assoc]
  ·rw [if_neg c]
   have c2:(L.any fun p=>hit x.f0 y.f1 p.1 p.2 && (p.1.f2 || p.2.f2))=false:=by
    refine List.any_eq_false.2 fun p hp hp2=>c (List.any_eq_true.2 ⟨p,hp, ?_⟩)
    simp only [Bool.and_eq_true]at hp2
    exact hp2.1
   rw [c2]
   simp
 ·have hh:hit a b x y=false:=by
   cases hq:hit a b x y
   ·rfl
   ·unfold hit at hq
    simp only [Bool.and_eq_true,beq_iff_eq]at hq
    exact absurd ⟨hq.1.symm,hq.2.2.symm⟩ e
  rw [if_neg e]
  unfold Fp
  simp only [List.any_append,List.any_cons,List.any_nil,hh,Bool.false_and,Bool.or_false]
/-- The pairs behind i whole rounds and j steps of the next one. -/
def prs (xs ys:List A):List (A×A):=xs.flatMap fun x=>ys.map fun y=>(x,y)
theorem Fp_all (xs ys:List A) (a b:Int):Fp (prs xs ys) a b=if fnd a b xs ys=true then some (str a b xs ys)else none:=by
 unfold Fp prs fnd str fndY strY
 simp only [List.any_flatMap,List.any_map,Function.comp_def]
theorem prs_step (xs ys:List A) (i:Nat) (h:i < xs.length):prs (xs.take (i + 1)) ys=prs (xs.take i) ys ++ (ys.map fun y=>(xs[i],y)):=by
 unfold prs
 rw [List.take_add_one,List.getElem?_eq_getElem h,List.flatMap_append]
 simp
theorem map_step (x:A) (ys:List A) (j:Nat) (h:j < ys.length):((ys.take (j + 1)).map fun y=>(x,y))=((ys.take j).map fun y=>(x,y)) ++ [(x,ys[j])]:=by
 rw [List.take_add_one,List.getElem?_eq_getElem h,List.map_append]
 rfl
end Go.Proofs.Ytcckpjflbfofjaa.QPairs
