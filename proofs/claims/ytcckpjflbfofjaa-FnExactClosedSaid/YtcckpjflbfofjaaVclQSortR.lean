-- Cut by prune.py, a program of this session, out of the texts of this claim: Lean checks it.
import Derived.Test.YtcckpjflbfofjaaVclQSortU
namespace Go.Proofs.Ytcckpjflbfofjaa.QSortR
open Go.RowKit Go.Sort Go.Shelf Go.Proofs.Ytcckpjflbfofjaa.Pd Go.Proofs.YtcckpjflbfofjaaW.PrintWords Go.Proofs.YtcckpjflbfofjaaW.PrintLast Go.Proofs.Ytcckpjflbfofjaa.QStr Go.Proofs.Ytcckpjflbfofjaa.QGraph Go.Proofs.Ytcckpjflbfofjaa.QGraphR Go.Proofs.Ytcckpjflbfofjaa.QSortA Go.Proofs.Ytcckpjflbfofjaa.QCompU Go.Proofs.Ytcckpjflbfofjaa.QSortU
theorem flat_at (d:Array A) (i c:Nat) (hi:i < d.size) (hc:c < 3):(flatK encA 3 d)[i * 3 + c]! = (encA d[i]!)[c]!:=by
 rw [get_flatK encA 3 d (i * 3 + c) (by omega),show(i * 3 + c) / 3=i by omega,show(i * 3 + c) % 3=c by omega]
theorem flat_seg (d:Array A) (i:Nat) (p:A) (h:d.toList[i]?=some p):((flatK encA 3 d).toList.drop (i * 3)).take 3=encA p:=by
 obtain⟨hi,he⟩:=List.getElem?_eq_some_iff.1 h
 have hi2:i < d.size:=by simpa using hi
 have hp:d[i]! = p:=by rw [getElem!_pos d i hi2];exact he
 apply List.ext_getElem?
 intro c
 by_cases hc:c < 3
 ·have hs:i * 3 + c < (flatK encA 3 d).size:=by rw [size_flatK];omega
  rw [List.getElem?_take_of_lt hc,List.getElem?_drop,Array.getElem?_toList,Array.getElem?_eq_getElem hs,← getElem!_pos (flatK encA 3 d) _ hs,flat_at d i c hi2 hc,hp]
  have hl:c < (encA p).length:=hc
  rw [List.getElem?_eq_getElem hl,getElem!_pos (encA p) c hl]
 ·rw [List.getElem?_eq_none (by rw [List.length_take];omega),List.getElem?_eq_none (show(encA p).length≤c by show 3≤c;omega)]
theorem enc_seg {w:World} {base:Nat} {ok:Nat→Prop} {d:List A} {inner:List Value} (h:Reps (k53.M w base ok) 3 d inner) (i c:Nat) (hi:i < d.length) (hc:c < 3):inner[i * 3 + c]?=some ((encA d.toArray[i]!)[c]!):=by
 have e:=k53_openM (h.2 i d[i] (List.getElem?_eq_getElem hi))
 have e2:((inner.drop (i * 3)).take 3)[c]?=(encA d[i])[c]?:=by rw [e];rfl
 rw [List.getElem?_take_of_lt hc,List.getElem?_drop]at e2
 have hp:d.toArray[i]! = d[i]:=by rw [getElem!_pos d.toArray i (by simpa using hi)];simp
 rw [e2,hp]
 have hl:c < (encA d[i]).length:=hc
 rw [List.getElem?_eq_getElem hl,getElem!_pos (encA d[i]) c hl]
theorem heap_sorted {w:World} {g n:Nat} {os:Array Obj} {cur:Array Value} {e:TypeId} {fr:Nat×Nat} (F:Array Value) (hb:w.heap[g]?=some (.cells cur e fr)) :
  (grow (putRow id (Sort.ahead w n) g 0 F) os).heap[g]?=some (.cells (putCells id 0 F cur) e fr):=by
 have hg:g < w.heap.size:=(Array.getElem?_eq_some_iff.1 hb).1
 rw [heap_grow_old _ _ (by simpa using hg)]
 simp [putRow,mapBlock,Sort.ahead,Array.getElem?_modify,hb,onCells]
theorem grownBy_sorted {w:World} {g n:Nat} {os:Array Obj} (F:Array Value):w.grownBy (grow (putRow id (Sort.ahead w n) g 0 F) os) (some g):=by
 refine⟨rfl,rfl,rfl,by simp,fun k hk hne=>?_⟩
 rw [heap_grow_old _ _ (by simpa using hk)]
 have:g≠k:=fun e=>hne (by rw [e])
 simp [putRow,mapBlock,Sort.ahead,Array.getElem?_modify,this]
theorem take_putCells (cur F:Array Value) (h:F.size≤cur.size):(putCells id 0 F cur).toList.take F.size=F.toList:=by
 apply List.ext_getElem?
 intro j
 by_cases hj:j < F.size
 ·rw [List.getElem?_take_of_lt hj,Array.getElem?_toList,Array.getElem?_toList]
  simp [putCells,hj,show j < cur.size by omega]
 ·rw [List.getElem?_take_eq_none (by omega),List.getElem?_eq_none (by simp;omega)]
theorem sortR (base:Nat) (u:Value) (d:List A) (w:World) (hR:Kd.R k53 53 w base (fun _=>True) u d) (hd:d.length < 4611686018427387904) :
  Calls Try.prog 44 #[u,.func (.func 43) #[] #[]] w fun e w'=>e=.returned (.tuple #[])∧∃ d':Array A,PermIn 0 d.toArray.size d.toArray d'∧SortedIn (ltOf cfA) 0 d.toArray.size d'∧Kd.R k53 53 w' base (fun _=>True) u d'.toList∧w.grownBy w' u.ownBlock:=by
 obtain⟨h0,inner,ho,hr⟩:=hR
 rcases ho.2 with⟨rfl,hn⟩|⟨g,cap,cur,rfl,hbase,hb,h1,h2,h3,h4⟩
 ·have hd0:d=[]:=List.length_eq_zero_iff.1 hn
  subst hd0
  refine(AnyF.slices_SortFunc_none Try.sort44 none 0 _ w).mono ?_
  rintro e w' ⟨rfl,rfl⟩
  exact⟨rfl,#[],⟨rfl,fun i _=>rfl,List.Perm.refl _⟩,fun i j _ hij hj=>absurd hj (Nat.not_lt_zero j),Kd.R_nil _ _ _ _ _,rfl,rfl,rfl,Nat.le_refl _,fun _ _ _=>rfl⟩
 ·have hd2:d.length=d.toArray.size:=by simp
  have hsz:k53.sz=3:=rfl
  rw [hsz]at h3 h4
  have hil:inner.length=d.length * 3:=hr.1
  have hH:HoldsK encA 3 w g 0 d.toArray:=by
   intro j hj
   have hj2:j < d.length * 3:=by rw [size_flatK]at hj;simpa using hj
   refine⟨?_,by simp [World.frozen?,hb]⟩
   have e1:=enc_seg hr (j / 3) (j % 3) (by omega) (by omega)
   have e2:=flat_at d.toArray (j / 3) (j % 3) (by omega) (by omega)
   rw [show j / 3 * 3 + j % 3=j by omega]at e1 e2
   simp only [World.cell?,hb,Nat.zero_add,Option.isSome_none,Bool.false_eq_true,if_false,id]
   rw [e2,← e1,← h4,List.getElem?_take_of_lt hj2,Array.getElem?_toList]
  have key:=sortA g 0 cap d.toArray w hH (Array.getElem?_eq_some_iff.1 hb).1 (by rw [← hd2];exact hd)
  rw [← hd2]at key
  refine key.mono ?_
  rintro e w' ⟨rfl,d',n,os,hp,hs,rfl⟩
  have hp2:=hp
  rw [hd2]at hp hs
  have hl:d'.size=d.length:=by rw [hd2];exact hp.1
  refine⟨rfl,d',hp,hs,⟨fun _ _=>trivial,(flatK encA 3 d').toList,⟨by simp [hsz],Or.inr ⟨g,cap,putCells id 0 (flatK encA 3 d') cur, ?_,hbase,heap_sorted _ hb,by simp [hl,h1],h2,by simp [putCells,h3,hsz], ?_⟩⟩,by simp [hsz],fun i p hi=>?_⟩,grownBy_sorted _⟩
  ·simp [hl]
  ·have hf:(flatK encA 3 d').size=d'.toList.length * 3:=by simp
   rw [hsz,← hf]
   refine take_putCells cur _ ?_
   rw [size_flatK,hl,h3]
   omega
  ·have e:=flat_seg d' i p hi
   rw [hsz,e]
   exact k53_mkM _ _ _ p
end Go.Proofs.Ytcckpjflbfofjaa.QSortR
