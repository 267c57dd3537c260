-- Cut by prune.py, a program of this session, out of the texts of this claim: Lean checks it.
import Derived.Test.YtcckpjflbfofjaaVclQGraphR
namespace Go.Proofs.Ytcckpjflbfofjaa.QCompU
open Go.RowKit Go.Proofs.Ytcckpjflbfofjaa.Pd Go.Proofs.YtcckpjflbfofjaaW.PrintWords Go.Proofs.YtcckpjflbfofjaaW.PrintLast Go.Proofs.Ytcckpjflbfofjaa.QStr Go.Proofs.Ytcckpjflbfofjaa.QGraph Go.Proofs.Ytcckpjflbfofjaa.QGraphR
theorem row_ge:∀ d b,∀ x∈row b d,(b:Int)≤x
 | 0,_,x,h=>by cases h
 | d + 1,b,x,h=>by
  rcases List.mem_cons.1 h with rfl|h
  ·exact Int.le_refl _
  ·have:=row_ge d (b + 1) x h
   omega
theorem row_rises:∀ d b,(row b d).Pairwise (· < ·)
 | 0,_=>List.Pairwise.nil
 | d + 1,b=>List.Pairwise.cons (fun x hx=>by have:=row_ge d (b + 1) x hx;omega) (row_rises d (b + 1))
theorem mem_row6 {a:Int}:a∈row 0 6↔0≤a∧a≤5:=by
 constructor
 ·intro h
  simp only [row,List.mem_cons,List.not_mem_nil,or_false]at h
  omega
 ·intro h
  simp only [row,List.mem_cons,List.not_mem_nil,or_false]
  omega
theorem arc1_some {xs ys:List A} {a b:Int} {z:A}:arc1 xs ys a b=some z↔(z.f0=a∧z.f1=b)∧fnd a b xs ys=true∧z.f2=str a b xs ys:=by
 unfold arc1
 obtain⟨p,q,s⟩:=z
 by_cases h:fnd a b xs ys=true
 ·rw [if_pos h]
  simp only [Option.some.injEq,S53.mk.injEq]
  constructor
  ·rintro⟨rfl,rfl,rfl⟩
   exact⟨⟨rfl,rfl⟩,h,rfl⟩
  ·rintro⟨⟨rfl,rfl⟩,_,rfl⟩
   exact⟨rfl,rfl,rfl⟩
 ·rw [if_neg h]
  constructor
  ·intro e
   cases e
  ·rintro⟨_,h2,_⟩
   exact absurd h2 h
theorem mem_comp {xs ys:List A} {z:A}:z∈compF xs ys↔((0≤z.f0∧z.f0≤5)∧(0≤z.f1∧z.f1≤5))∧fnd z.f0 z.f1 xs ys=true∧z.f2=str z.f0 z.f1 xs ys:=by
 unfold compF
 simp only [List.mem_flatMap,List.mem_filterMap,arc1_some]
 constructor
 ·rintro⟨a,ha,b,hb,⟨rfl,rfl⟩,h1,h2⟩
  exact⟨⟨mem_row6.1 ha,mem_row6.1 hb⟩,h1,h2⟩
 ·rintro⟨⟨ha,hb⟩,h1,h2⟩
  exact⟨_,mem_row6.2 ha,_,mem_row6.2 hb,⟨rfl,rfl⟩,h1,h2⟩
theorem comp_rises (xs ys:List A):(compF xs ys).Pairwise ltA:=by
 unfold compF
 refine List.pairwise_flatMap.2 ⟨fun a _=>List.pairwise_filterMap.2 ((row_rises 6 0).imp fun {b c} hbc z hz y hy=>?_),(row_rises 6 0).imp fun {a c} hac z hz y hy=>?_⟩
 ·have h1:=(arc1_some.1 hz).1
  have h2:=(arc1_some.1 hy).1
  unfold ltA
  omega
 ·obtain⟨b,_,hb⟩:=List.mem_filterMap.1 hz
  obtain⟨d,_,hd⟩:=List.mem_filterMap.1 hy
  have h1:=(arc1_some.1 hb).1
  have h2:=(arc1_some.1 hd).1
  unfold ltA
  omega
theorem lt_irrefl (x:A):¬ ltA x x:=by unfold ltA;omega
theorem lt_asymm {x y:A} (h:ltA x y):¬ ltA y x:=by unfold ltA at *;omega
theorem eq_of_rises:∀ {l m:List A},l.Pairwise ltA→m.Pairwise ltA→(∀ z,z∈l↔z∈m)→l=m
 | [],[],_,_,_=>rfl
 | [],y :: m,_,_,h=>by have:=(h y).2 List.mem_cons_self;cases this
 | x :: l,[],_,_,h=>by have:=(h x).1 List.mem_cons_self;cases this
 | x :: l,y :: m,h1,h2,h=>by
  obtain⟨a1,b1⟩:=List.pairwise_cons.1 h1
  obtain⟨a2,b2⟩:=List.pairwise_cons.1 h2
  have e:x=y:=by
   rcases List.mem_cons.1 ((h x).1 List.mem_cons_self)with e|hx
   ·exact e
   ·rcases List.mem_cons.1 ((h y).2 List.mem_cons_self)with e|hy
    ·exact e.symm
    ·exact absurd (a1 y hy) (lt_asymm (a2 x hx))
  subst e
  refine congrArg (x :: ·) (eq_of_rises b1 b2 fun z=>?_)
  constructor
  ·intro hz
   rcases List.mem_cons.1 ((h z).1 (List.mem_cons_of_mem _ hz))with rfl|h3
   ·exact absurd (a1 z hz) (lt_irrefl z)
   ·exact h3
  ·intro hz
   rcases List.mem_cons.1 ((h z).2 (List.mem_cons_of_mem _ hz))with rfl|h3
   ·exact absurd (a2 z hz) (lt_irrefl z)
   ·exact h3
/-- What is found lies within the bounds where both graphs' ends do. -/
theorem fnd_in {xs ys:List A} (hx:∀ x∈xs,inA x) (hy:∀ y∈ys,inA y) {a b:Int} (h:fnd a b xs ys=true):(0≤a∧a≤5)∧(0≤b∧b≤5):=by
 obtain⟨x,hxm,h1⟩:=List.any_eq_true.1 h
 obtain⟨y,hym,h2⟩:=List.any_eq_true.1 h1
 unfold hit at h2
 simp only [Bool.and_eq_true,beq_iff_eq]at h2
 obtain⟨rfl,_,rfl⟩:=h2
 exact⟨(hx x hxm).1,(hy y hym).2⟩
theorem comp_unique {xs ys:List A} (hx:∀ x∈xs,inA x) (hy:∀ y∈ys,inA y) {l:List A} (hl:l.Pairwise ltA)
  (hm:∀ z,z∈l↔fnd z.f0 z.f1 xs ys=true∧z.f2=str z.f0 z.f1 xs ys):l=compF xs ys :=
 eq_of_rises hl (comp_rises xs ys) fun z=>(hm z).trans ⟨fun h=>mem_comp.2 ⟨fnd_in hx hy h.1,h⟩,fun h=>(mem_comp.1 h).2⟩
theorem chk_in:∀ {l:List A} {p:Option A},chk p l=true→∀ x∈l,inA x
 | [],_,_,x,hx=>by cases hx
 | y :: l,p,h,x,hx=>by
  have h2:decide (inA y)=true∧chk (some y) l=true:=by
   simp only [chk,Bool.and_eq_true]at h
   exact⟨h.1,h.2.2⟩
  rcases List.mem_cons.1 hx with rfl|hx
  ·exact of_decide_eq_true h2.1
  ·exact chk_in h2.2 x hx
end Go.Proofs.Ytcckpjflbfofjaa.QCompU
