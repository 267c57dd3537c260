-- Cut by prune.py.
import Derived.Test.YtimhlficlhafbaaGreatDoorVvlWWords
import Derived.Deep.Slices
import Derived.SizedLaws
import Derived.ProofKit
import Derived.Lib.LaidTab
import Derived.Stop.LaidErr
import Derived.Sort.Grow
import Derived.Shelf.Vars
namespace Go.Proofs.YtimhlficlhafbaaGreatDoor.QRead
open RowKit YtimhlficlhafbaaGreatDoorW.PrintWords Go.ChangeShapes Go.WideShapes Go.ChangeAt
def Rd (P:Program) (w:World) (t:TypeId) {α:Type} (d:Kd α) (ok:α→Prop):Prop :=
 ∀(H:Type) (enc:TypeId×Value→H) (fuel:Nat) (cs:List Value) (x:DataW H×List MemPlace),
  DataW.trod enc P w 0 (fun _=>true) true fuel t cs=some x→(∀ n∈x.1.weights P t,n≤reachBytes)→∃ a,d.K w a cs∧ok a
section
variable {P : Program} {w : World} {t : TypeId}
theorem Rd.int {k:IntKind} (ht:P.underlying t=some (.int k)):Rd P w t (Kd.int k) (fun a=>(Lit.int k a).wf=true):=by
 intro H enc fuel cs x h _
 obtain⟨n,rfl,_,hw⟩:=DataW.trod_int ht h
 exact⟨n,rfl,hw⟩
theorem Rd.bool (ht:P.underlying t=some .bool):Rd P w t Kd.bool (fun _=>True):=by
 intro H enc fuel cs x h _
 obtain⟨n,rfl,_⟩:=DataW.trod_bool ht h
 exact⟨n,rfl,trivial⟩
theorem Rd.string (ht:P.underlying t=some .string):Rd P w t Kd.string (fun a=>a.size≤140737488351232):=by
 intro H enc fuel cs x h hw
 obtain⟨s,rfl,rfl,_⟩:=DataW.trod_string ht h
 refine⟨s,rfl, ?_⟩
 have:=hw s.data.toList.length (by simp [DataW.weights])
 simpa [reachBytes] using this
theorem list_of {α:Type} {n:Nat} {Q:Nat→α→Prop} (h:∀ i,i < n→∃ a,Q i a):∃ l:List α,l.length=n∧∀ j p,l[j]?=some p→Q j p:=by
 induction n with
 | zero=>exact⟨[],rfl,fun j p hp=>by simp at hp⟩
 | succ n ih =>
  obtain⟨l,hl,hq⟩:=ih (fun i hi=>h i (by omega))
  obtain⟨a,ha⟩:=h n (by omega)
  refine⟨l ++ [a],by simp [hl],fun j p hp=>?_⟩
  by_cases hj:j < n
  ·rw [List.getElem?_append_left (by omega)]at hp
   exact hq j p hp
  ·by_cases hjn:j=n
   ·subst hjn
    rw [List.getElem?_append_right (by omega),hl,Nat.sub_self]at hp
    simp only [List.getElem?_cons_zero,Option.some.injEq]at hp
    subst hp
    exact ha
   ·rw [List.getElem?_eq_none (by simp [hl];omega)]at hp
    cases hp
theorem weights_mem_all {H:Type} {e:TypeId}:∀ {ds:List (DataW H)} {j:Nat} {d:DataW H},ds[j]?=some d→∀ n∈d.weights P e,n∈DataW.weightsAll P e ds
 | [],_,_,hd,_,_=>by simp at hd
 | d0 :: ds,0,d,hd,n,hn=>by
  simp only [List.getElem?_cons_zero,Option.some.injEq]at hd
  subst hd
  simp only [DataW.weightsAll,List.mem_append]
  exact Or.inl hn
 | d0 :: ds,j + 1,d,hd,n,hn=>by
  simp only [List.getElem?_cons_succ]at hd
  simp only [DataW.weightsAll,List.mem_append]
  exact Or.inr (weights_mem_all hd n hn)
theorem cells_at {base:Nat} {a:Addr} {n:Nat} {cs:List Value} (h:w.cells? base a n=some cs):cs.length=n∧∀ i u,cs[i]?=some u→w.cell? (a.add i)=some u:=by
 unfold World.cells? at h
 split at h
 ·have hl:=mapM_some_length h
  refine⟨by simpa using hl,fun i u hu=>?_⟩
  have hi:i < cs.length:=(List.getElem?_eq_some_iff.1 hu).1
  have:=mapM_some_get h i i (by rw [List.getElem?_range (by simp at hl;omega)])
  rw [this]
  exact hu
 ·cases h
theorem Rd.slice {e:TypeId} {α:Type} {d:Kd α} {ok:α→Prop} {B:Nat} (ht:P.underlying t=some (.slice e)) (hB:P.bytesOf e=B) (hc:P.cellsOf e=d.sz) (h:Rd P w e d ok) :
  Rd P w t (Kd.slice e d) (fun l=>l.length≤maxLen∧l.length * B≤140737488351232∧∀ x∈l,ok x):=by
 intro H enc fuel cs x hx hw
 rcases Go.Deep.open_slice ht hx with⟨rfl,rfl⟩|⟨a,len,cap,m,n,D,Pl,rfl,_,hl,hm,hmm,rfl,hel⟩
 ·refine⟨[],⟨none,0,rfl,Nat.le_refl _, ?_⟩,by simp⟩
  exact⟨rfl,Nat.zero_le _,fun h0=>absurd h0 (Nat.lt_irrefl 0)⟩
 ·have hm2:m=cap:=by simpa using hmm
  subst hm2
  have hwt:∀ i,i < len→∀ q∈(D i).weights P e,q≤reachBytes:=by
   intro i hi q hq
   refine hw q ?_
   simp only [DataW.weights,ht,List.mem_cons,List.mem_append]
   refine Or.inr (Or.inl (weights_mem_all (j:=i) ?_ q hq))
   rw [List.getElem?_map,List.getElem?_range hi]
   rfl
  obtain⟨l,hll,hq⟩:=list_of (α:=α) (n:=len) (Q:=fun i p=>ok p∧∃ c,c.length=d.sz∧d.K w p c∧∀ j u,c[j]?=some u→w.cell? (a.add (i * d.sz + j))=some u) (fun i hi=>by
   obtain⟨cs',h1,h2⟩:=hel i (by omega)
   obtain⟨p,hp,hok⟩:=h H enc n cs' _ h2 (hwt i hi)
   rw [hc]at h1
   obtain⟨c1,c2⟩:=cells_at h1
   exact⟨p,hok,cs',c1,hp,fun j u hu=>by rw [← Go.Deep.add_add];exact c2 j u hu⟩)
  refine⟨l,⟨some a,m,by rw [hll],by omega, ?_⟩, ?_, ?_, ?_⟩
  ·refine⟨by omega,by rw [hll];simp only [maxLen]at hm;omega,fun _=>⟨a,rfl,fun j p hp=>?_⟩⟩
   exact(hq j p hp).2
  ·rw [hll]
   simp only [maxLen]at hm ⊢
   omega
  ·rw [hll]
   have h1:=hw (((List.range len).map D).length + ((List.range (m - len)).map fun j=>D (len + j)).length |> (· * P.bytesOf e)) (by simp [DataW.weights,ht])
   simp only [List.length_map,List.length_range]at h1
   rw [hB]at h1
   have h2:len * B≤(len + (m - len)) * B:=Nat.mul_le_mul_right _ (by omega)
   simp only [reachBytes]at h1
   omega
  ·intro p hp
   obtain⟨j,hj⟩:=List.getElem?_of_mem hp
   exact(hq j p hj).1
def RdL (P:Program) (w:World) (fs:List (TypeId×Nat)) (at_ end_:Nat) {α:Type} (d:Kd α) (ok:α→Prop):Prop :=
 ∀(H:Type) (enc:TypeId×Value→H) (fuel:Nat) (cs:List Value) (xs:List (DataW H×List MemPlace)),cs.length=end_→xs.length=fs.length →
  (∀(i:Nat) (f:TypeId×Nat),fs[i]?=some f→DataW.trod enc P w 0 (fun _=>true) true fuel f.1 ((cs.drop f.2).take (P.cellsOf f.1))=xs[i]?) →
  (∀ n∈DataW.weightsEach P (fs.map (·.1)) (xs.map (·.1)),n≤reachBytes)→∃ a,d.K w a (cs.drop at_)∧ok a
theorem RdL.one {α:Type} {d:Kd α} {ok:α→Prop} {o z:Nat} (h:Rd P w t d ok) (hz:P.cellsOf t=z):RdL P w [(t,o)] o (o + z) d ok:=by
 intro H enc fuel cs xs hl hx ht hw
 match xs,hx with
 | [x],_ =>
  have h0:=ht 0 (t,o) rfl
  have e:(cs.drop o).take (P.cellsOf t)=cs.drop o:=List.take_of_length_le (by rw [List.length_drop];omega)
  rw [e]at h0
  exact h H enc fuel _ x h0 (fun n hn=>hw n (by simp [DataW.weightsEach,hn]))
theorem RdL.cons {α β:Type} {d:Kd α} {d':Kd β} {ok:α→Prop} {ok':β→Prop} {o z e:Nat} {fs:List (TypeId×Nat)} (h:Rd P w t d ok) (hz:P.cellsOf t=z) (hl:RdL P w fs (o + z) e d' ok') :
  RdL P w ((t,o) :: fs) o e (Kd.pair d d') (fun p=>ok p.1∧ok' p.2):=by
 intro H enc fuel cs xs hc hx ht hw
 match xs,hx with
 | x :: xs,hx =>
  obtain⟨a,ha,hoa⟩:=h H enc fuel _ x (ht 0 (t,o) rfl) (fun n hn=>hw n (by simp [DataW.weightsEach,hn]))
  obtain⟨b,hb,hob⟩:=hl H enc fuel cs xs hc (by simpa using hx) (fun i f hf=>by simpa using ht (i + 1) f (by simpa using hf)) (fun n hn=>hw n (by simp only [List.map_cons,DataW.weightsEach,List.mem_append];exact Or.inr hn))
  refine⟨(a,b),⟨_,_, ?_,ha,hb⟩,hoa,hob⟩
  rw [hz,← List.drop_drop]
  exact(List.take_append_drop z (cs.drop o)).symm
theorem Rd.struct {fs:Array Field} {α:Type} {d:Kd α} {ok:α→Prop} {e:Nat} (ht:P.underlying t=some (.struct fs)) (he:P.cellsOf t=e) (h:RdL P w (fs.toList.map fun f=>(f.type,f.offset)) 0 e d ok):Rd P w t d ok:=by
 intro H enc fuel cs x hx hw
 obtain⟨xs,n,rfl,rfl,hl,hxs,hf⟩:=DataW.trod_struct ht hx
 obtain⟨a,ha,ho⟩:=h H enc n cs xs (hl.trans he) (by simp [hxs]) (fun i f hi=>by
  rw [List.getElem?_map,Option.map_eq_some_iff]at hi
  obtain⟨g,hg,rfl⟩:=hi
  exact hf i g (by simpa using hg)) (fun q hq=>hw q (by
   simp only [DataW.weights,ht]
   rw [List.map_map]at hq
   exact hq))
 exact⟨a,ha,ho⟩
theorem Rd.iso {α β:Type} {d:Kd α} {ok:α→Prop} (f:β→α) (g:α→β) (hg:∀ a,f (g a)=a) (h:Rd P w t d ok):Rd P w t (Kd.iso d f) (fun b=>ok (f b)):=by
 intro H enc fuel cs x hx hw
 obtain⟨a,ha,ho⟩:=h H enc fuel cs x hx hw
 refine⟨g a, ?_,by show ok (f (g a));rw [hg];exact ho⟩
 show d.K w (f (g a)) cs
 rw [hg]
 exact ha
theorem arg {α:Type} {d:Kd α} {ok:α→Prop} (h:Rd P w t d ok) {H:Type} {enc:TypeId×Value→H} {v:Value} {x:DataW H} {p:List MemPlace} {ts:List TypeId} {ds:List (DataW H)} {j:Nat} (hT:DataW.Trod enc P w 0 (fun _=>true) true t v x p)
  (hsz:(DataW.weightsEach P ts ds).all (·≤reachBytes)=true) (ht:ts[j]?=some t) (hd:ds[j]?=some x):∃ a,d.K w a v.cells.toList∧ok a:=by
 obtain⟨fuel,hf⟩:=hT
 exact h H enc fuel _ _ hf (fun n hn=>of_decide_eq_true (List.all_eq_true.1 hsz n (DataW.weights_mem_each ht hd n hn)))
end
theorem below_grow_drewN (w:World) (k:Nat) (os:Array Obj):Below w.heap.size w (Go.Sort.grow (w.drewN k) os) :=
 ⟨rfl,rfl,rfl,by simp [Go.Sort.grow],fun i hi=>by show(w.heap ++ os)[i]?=w.heap[i]?;rw [Array.getElem?_append_left hi]⟩
end Go.Proofs.YtimhlficlhafbaaGreatDoor.QRead
