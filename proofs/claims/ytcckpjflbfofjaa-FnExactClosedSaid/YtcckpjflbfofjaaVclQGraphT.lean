-- Cut by prune.py, a program of this session, out of the texts of this claim: Lean checks it.
import Derived.Test.YtcckpjflbfofjaaVclQGraphS
import Derived.Test.YtcckpjflbfofjaaVclQCompU
import Derived.Test.YtcckpjflbfofjaaVclQComp
import Derived.Test.YtcckpjflbfofjaaVclPdx8
import Derived.Test.YtcckpjflbfofjaaVclPdx0
namespace Go.Proofs.Ytcckpjflbfofjaa.QGraphT
open Go.RowKit Go.Proofs.Ytcckpjflbfofjaa.Pd Go.Proofs.YtcckpjflbfofjaaW.PrintWords Go.Proofs.YtcckpjflbfofjaaW.PrintLast Go.Proofs.Ytcckpjflbfofjaa.QStr Go.Proofs.Ytcckpjflbfofjaa.QGraph Go.Proofs.Ytcckpjflbfofjaa.QGraphR Go.Proofs.Ytcckpjflbfofjaa.QGraphS Go.Proofs.Ytcckpjflbfofjaa.QCompU
abbrev LA:=S64
/-- What Compose answers. -/
def compR (p0 p1:Int) (xs:List A) (q0 q1:Int) (ys:List A):Int×Int×List A×Bool:=if chk none xs=true∧chk none ys=true∧p1=q0 then(p0,q1,compF xs ys,true)else(0,0,[],false)
theorem comp_f (p0 p1:Int) (xs:List A) (q0 q1:Int) (ys:List A) (hx:∀ x∈xs,inA x) (hy:∀ y∈ys,inA y) (lx:xs.length≤1048576) (ly:ys.length≤1048576):impl_compose.f p0 p1 xs q0 q1 ys=some (p0,q1,compF xs ys):=by
 unfold impl_compose.f
 rw [if_pos]
 simp only [Bool.and_eq_true,List.all_eq_true,decide_eq_true_eq]
 exact⟨hx,hy,lx,ly⟩
def cvA (x:LA):A:=⟨x.f0,x.f1,x.f2⟩
theorem rd_law (xs:List LA) (i:Nat) (h:i < xs.length):rd_T64 xs (i:Int)=xs[i]:=by
 unfold rd_T64
 rw [show((i:Int)).toNat=i from rfl,List.getD_eq_getElem?_getD,List.getElem?_eq_getElem h]
 rfl
theorem to_l (xs:List LA) (hx:xs.length≤1048576):∀(d i k:Nat),i + d=xs.length→d < k→laws_toArcS.l0 k xs ((xs.take i).map cvA ++ List.replicate d z53) (i:Int)=some (xs.map cvA)
 | 0,i,k,hd,hk=>by
  obtain⟨k,rfl⟩:∃ m,k=m + 1:=⟨k - 1,by omega⟩
  rw [laws_toArcS.l0,if_neg (by omega),List.replicate_zero,List.append_nil,List.take_of_length_le (by omega)]
 | d + 1,i,k,hd,hk=>by
  obtain⟨k,rfl⟩:∃ m,k=m + 1:=⟨k - 1,by omega⟩
  have hlt:i < xs.length:=by omega
  have hl:((xs.take i).map cvA).length=i:=by rw [List.length_map,List.length_take];omega
  rw [laws_toArcS.l0,if_pos (by omega),if_pos (by omega),rd_law xs i hlt,laws_toArc.f,Option.bind_some,if_pos (by simp only [List.length_append,List.length_map,List.length_take,List.length_replicate];omega),show((i:Int)).toNat=i from rfl]
  simp only []
  have hs:((xs.take i).map cvA ++ List.replicate (d + 1) z53).set i (cvA xs[i])=(xs.take (i + 1)).map cvA ++ List.replicate d z53:=by
   rw [List.set_append_right _ _ (by omega),hl,Nat.sub_self,List.replicate_succ,List.set_cons_zero,List.take_succ_eq_append_getElem hlt,List.map_append,List.append_assoc]
   rfl
  have hc:(⟨xs[i].f0,xs[i].f1,xs[i].f2⟩:A)=cvA xs[i]:=rfl
  rw [hc,hs,step_i (by omega),to_l xs hx d (i + 1) k (by omega) (by omega)]
theorem toG_f (a b:Int) (xs:List LA) (hx:xs.length≤1048576) (k:Nat) (hk:1048577 < k):laws_toGraph.f k a b xs=some (a,b,xs.map cvA):=by
 unfold laws_toGraph.f laws_toArcS.f
 have:=to_l xs hx xs.length 0 k (by omega) (by omega)
 rw [List.take_zero,List.map_nil,List.nil_append]at this
 rw [if_pos (by omega),if_pos (by rw [Int.toNat_natCast];omega),Int.toNat_natCast,show(0:Int)=((0:Nat):Int)from rfl,this,Option.bind_some]
theorem eq_l (xs:List A) (hx:xs.length≤1048576):∀(d i k:Nat),i + d=xs.length→d < k→laws_eqArcS.l0 k xs xs (i:Int)=some true
 | 0,i,k,hd,hk=>by
  obtain⟨k,rfl⟩:∃ m,k=m + 1:=⟨k - 1,by omega⟩
  rw [laws_eqArcS.l0,if_neg (by omega)]
 | d + 1,i,k,hd,hk=>by
  obtain⟨k,rfl⟩:∃ m,k=m + 1:=⟨k - 1,by omega⟩
  rw [laws_eqArcS.l0,if_pos (by omega),if_pos (by omega),if_pos (by omega),laws_eqArc.f,if_pos rfl,if_pos rfl,bne_self_eq_false,if_neg (by decide),Option.bind_some,if_pos rfl,step_i (by omega),eq_l xs hx d (i + 1) k (by omega) (by omega)]
theorem eqG_f (a b:Int) (xs:List A) (hx:xs.length≤1048576) (k:Nat) (hk:1048577 < k):laws_eqGraph.f k a b xs a b xs=some true:=by
 unfold laws_eqGraph.f laws_eqArcS.f
 have:=eq_l xs hx xs.length 0 k (by omega) (by omega)
 rw [if_pos rfl,if_pos rfl,if_pos rfl,show(0:Int)=((0:Nat):Int)from rfl,this,Option.bind_some,if_pos rfl]
end Go.Proofs.Ytcckpjflbfofjaa.QGraphT
