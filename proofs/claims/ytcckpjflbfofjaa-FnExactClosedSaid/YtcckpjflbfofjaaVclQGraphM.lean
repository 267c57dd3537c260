-- Cut by prune.py, a program of this session, out of the texts of this claim: Lean checks it.
import Derived.Test.YtcckpjflbfofjaaVclQGraphT
import Derived.Test.YtcckpjflbfofjaaVclPdx8
namespace Go.Proofs.Ytcckpjflbfofjaa.QGraphM
open Go.RowKit Go.Proofs.Ytcckpjflbfofjaa.Pd Go.Proofs.YtcckpjflbfofjaaW.PrintWords Go.Proofs.YtcckpjflbfofjaaW.PrintLast Go.Proofs.Ytcckpjflbfofjaa.QStr Go.Proofs.Ytcckpjflbfofjaa.QGraph
theorem rd_mid (p r:List A) (x:A):y15 (p ++ x :: r) (p.length:Int)=x:=by
 rw [rd_get _ _ (by simp)]
 simp
theorem set_mid (p r:List A) (x y:A):(p ++ x :: r).set p.length y=p ++ y :: r:=by simp
def mk1 (n:Nat):A:=⟨(n:Int),((n + 1:Nat):Int),((Int.tmod ((n + 2:Nat):Int) 3) == 0)⟩
def mks:Nat→List A→List A
 | _,[]=>[]
 | n,_ :: r=>mk1 n :: mks (n + 3) r
theorem mks_len:∀ n l,(mks n l).length=l.length
 | _,[]=>rfl
 | n,_ :: r=>congrArg (· + 1) (mks_len (n + 3) r)
theorem mark_l:∀(r p:List A) (n k:Nat),p.length + r.length≤1048576→n + 3 * r.length≤100000000→r.length < k→laws_markArcS.l0 k (p ++ r) (n:Int) (p.length:Int)=some (((n + 3 * r.length:Nat):Int),p ++ mks n r)
 | [],p,n,k,h1,h2,hk=>by
  obtain⟨k,rfl⟩:∃ m,k=m + 1:=⟨k - 1,by omega⟩
  rw [laws_markArcS.l0,if_neg (by simp)]
  simp [mks]
 | x :: r,p,n,k,h1,h2,hk=>by
  rw [List.length_cons]at h1 h2 hk
  obtain⟨k,rfl⟩:∃ m,k=m + 1:=⟨k - 1,by omega⟩
  have w1:wrap64 ((n:Int) + 1)=((n + 1:Nat):Int):=step_i (by omega)
  have w2:wrap64 (((n + 1:Nat):Int) + 1)=((n + 2:Nat):Int):=step_i (by omega)
  have w3:wrap64 (((n + 2:Nat):Int) + 1)=((n + 3:Nat):Int):=step_i (by omega)
  rw [laws_markArcS.l0,if_pos (by rw [List.length_append,List.length_cons];omega),if_pos (by omega),show((p.length:Int)).toNat=p.length from rfl,rd_mid,set_mid,Option.bind_some,rd_mid,set_mid,Option.bind_some,rd_mid,set_mid,w1,w2,w3,step_i (by omega)]
  have e:p ++ (mk1 n) :: r=(p ++ [mk1 n]) ++ r:=by simp
  have hm:(⟨(n:Int),((n + 1:Nat):Int),((Int.tmod ((n + 2:Nat):Int) 3) == 0)⟩:A)=mk1 n:=rfl
  simp only []
  rw [hm,e]
  have ih:=mark_l r (p ++ [mk1 n]) (n + 3) k (by rw [List.length_append,List.length_singleton];omega) (by omega) (by omega)
  rw [List.length_append,List.length_singleton]at ih
  rw [ih]
  simp only [mks,List.length_cons,List.append_assoc,List.singleton_append]
  rw [show n + 3 + 3 * r.length=n + 3 * (r.length + 1)by omega]
theorem held_l:∀(r p:List A) (n k:Nat),p.length + r.length≤1048576→n + 3 * r.length≤100000000→r.length < k→laws_heldArcS.l0 k (p ++ mks n r) (n:Int) (p.length:Int)=some ((n + 3 * r.length:Nat):Int)
 | [],p,n,k,h1,h2,hk=>by
  obtain⟨k,rfl⟩:∃ m,k=m + 1:=⟨k - 1,by omega⟩
  rw [laws_heldArcS.l0,if_neg (by simp [mks])]
  simp
 | x :: r,p,n,k,h1,h2,hk=>by
  rw [List.length_cons]at h1 h2 hk
  obtain⟨k,rfl⟩:∃ m,k=m + 1:=⟨k - 1,by omega⟩
  have w1:wrap64 ((n:Int) + 1)=((n + 1:Nat):Int):=step_i (by omega)
  have w2:wrap64 (((n + 1:Nat):Int) + 1)=((n + 2:Nat):Int):=step_i (by omega)
  have w3:wrap64 (((n + 2:Nat):Int) + 1)=((n + 3:Nat):Int):=step_i (by omega)
  have e:p ++ mks n (x :: r)=(p ++ [mk1 n]) ++ mks (n + 3) r:=by simp [mks]
  have e1:p ++ mks n (x :: r)=p ++ mk1 n :: mks (n + 3) r:=rfl
  have hr:y15 (p ++ mks n (x :: r)) (p.length:Int)=mk1 n:=by rw [e1,rd_mid]
  rw [laws_heldArcS.l0,if_pos (by rw [List.length_append,mks_len,List.length_cons];omega),if_pos (by omega),hr,w1,w2,w3,step_i (by omega)]
  rw [if_pos (show(mk1 n).f0=(n:Int)from rfl),if_pos (show(mk1 n).f1=((n + 1:Nat):Int)from rfl),show((mk1 n).f2 != ((Int.tmod ((n + 2:Nat):Int) 3) == 0))=false from bne_self_eq_false _,if_neg (by decide),e]
  have ih:=held_l r (p ++ [mk1 n]) (n + 3) k (by rw [List.length_append,List.length_singleton];omega) (by omega) (by omega)
  rw [List.length_append,List.length_singleton]at ih
  rw [ih,List.length_cons,show n + 3 + 3 * r.length=n + 3 * (r.length + 1)by omega]
end Go.Proofs.Ytcckpjflbfofjaa.QGraphM
