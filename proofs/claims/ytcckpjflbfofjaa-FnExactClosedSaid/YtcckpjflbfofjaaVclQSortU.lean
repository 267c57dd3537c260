-- Cut by prune.py, a program of this session, out of the texts of this claim: Lean checks it.
import Derived.Test.YtcckpjflbfofjaaVclQSortA
import Derived.Test.YtcckpjflbfofjaaVclQCompU
namespace Go.Proofs.Ytcckpjflbfofjaa.QSortU
open Go.RowKit Go.Sort Go.Shelf Go.Proofs.Ytcckpjflbfofjaa.Pd Go.Proofs.YtcckpjflbfofjaaW.PrintWords Go.Proofs.YtcckpjflbfofjaaW.PrintLast Go.Proofs.Ytcckpjflbfofjaa.QStr Go.Proofs.Ytcckpjflbfofjaa.QGraph Go.Proofs.Ytcckpjflbfofjaa.QGraphR Go.Proofs.Ytcckpjflbfofjaa.QSortA Go.Proofs.Ytcckpjflbfofjaa.QCompU
theorem whole {d:Array A} {n:Nat} (h:d.size=n):d.extract 0 n=d:=by
 subst h
 exact Array.extract_size
theorem sorted_comp {xs ys:List A} (hx:∀ x∈xs,inA x) (hy:∀ y∈ys,inA y) {d d':Array A} (hp:PermIn 0 d.size d d') (hs:SortedIn (ltOf cfA) 0 d.size d')
  (hnd:d.toList.Pairwise fun x y=>¬(x.f0=y.f0∧x.f1=y.f1)) (hm:∀ z,z∈d.toList↔fnd z.f0 z.f1 xs ys=true∧z.f2=str z.f0 z.f1 xs ys):d'.toList=compF xs ys:=by
 obtain⟨h1,_,h2⟩:=hp
 rw [whole h1,whole rfl]at h2
 have hnd2:d'.toList.Pairwise fun x y=>¬(x.f0=y.f0∧x.f1=y.f1):=(h2.pairwise_iff (fun {x y} h e=>h ⟨e.1.symm,e.2.symm⟩)).2 hnd
 refine comp_unique hx hy ?_ fun z=>(h2.mem_iff).trans (hm z)
 refine List.pairwise_iff_getElem.2 fun i j hi hj hij=>?_
 have e1:=List.pairwise_iff_getElem.1 hnd2 i j hi hj hij
 have hi2:i < d'.size:=by simpa using hi
 have hj2:j < d'.size:=by simpa using hj
 have e2:=hs i j (Nat.zero_le _) hij (by omega)
 rw [ltOf_cfA,getElem!_pos d' i hi2,getElem!_pos d' j hj2]at e2
 have e3:=of_decide_eq_false e2
 rw [Array.getElem_toList,Array.getElem_toList]at e1 ⊢
 unfold ltA at *
 omega
end Go.Proofs.Ytcckpjflbfofjaa.QSortU
