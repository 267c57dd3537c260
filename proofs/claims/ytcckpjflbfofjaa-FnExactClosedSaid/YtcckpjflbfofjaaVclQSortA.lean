-- Cut by prune.py, a program of this session, out of the texts of this claim: Lean checks it.
import Derived.Test.YtcckpjflbfofjaaVclQExact
import Derived.Test.YtcckpjflbfofjaaVclQGraphR
import Derived.Test.YtcckpjflbfofjaaVclShelf
namespace Go.Proofs.Ytcckpjflbfofjaa.QSortA
open Go.RowKit Go.Sort Go.Shelf Go.Proofs.Ytcckpjflbfofjaa.Pd Go.Proofs.YtcckpjflbfofjaaW.PrintWords Go.Proofs.YtcckpjflbfofjaaW.PrintLast Go.Proofs.Ytcckpjflbfofjaa.QStr Go.Proofs.Ytcckpjflbfofjaa.QGraph Go.Proofs.Ytcckpjflbfofjaa.QGraphR
instance:Inhabited A:=⟨z53⟩
/-- An arc's cells. -/
def encA (x:A):List Value:=[.int .i64 x.f0,.int .i64 x.f1,.bool x.f2]
def cmpI (a b:Int):Int:=if a < b then -1 else if a > b then 1 else 0
def cfA (x y:A):Int:=if cmpI x.f0 y.f0=0 then cmpI x.f1 y.f1 else cmpI x.f0 y.f0
theorem cfA_f (k:Nat) (x y:A):impl_compareArcs.f (k + 3) x.f0 x.f1 x.f2 y.f0 y.f1 y.f2=some (cfA x y):=by
 unfold impl_compareArcs.f
 rw [cmp_f,Option.bind_some,cmp_f,Option.bind_some,or_f,Option.bind_some]
 rfl
theorem cmpLaysA (blk off size:Nat) (w:World):CmpLays Try.prog 43 #[] encA 3 cfA blk off size w :=
 fun _ _ _ _ x y=>(impl_compareArcs.exact (0 + 3) x.f0 x.f1 x.f2 y.f0 y.f1 y.f2 (cfA x y) _ (cfA_f 0 x y)).mono fun _ _ h=>h
theorem ltOf_cfA (x y:A):ltOf cfA x y=decide (ltA x y):=by
 unfold ltOf
 refine decide_eq_decide.2 ?_
 unfold cfA cmpI ltA
 (repeat' split) <;> omega
/-- 'compareArcs(a, b) < 0' is a strict weak order. -/
theorem swoA:SWO (ltOf cfA) where
 irrefl x:=by
  rw [ltOf_cfA]
  exact decide_eq_false (by unfold ltA;omega)
 trans x y z h1 h2:=by
  rw [ltOf_cfA]at *
  have h1:=of_decide_eq_true h1
  have h2:=of_decide_eq_true h2
  exact decide_eq_true (by unfold ltA at *;omega)
 ntrans x y z h1 h2:=by
  rw [ltOf_cfA]at *
  have h1:=of_decide_eq_false h1
  have h2:=of_decide_eq_false h2
  exact decide_eq_false (by unfold ltA at *;omega)
theorem enters:∀ args w,(callFunc 43 args).run Try.prog w=.ok (.enter 43 args) w:=enters_of Try.func43 (by kernel_rfl) rfl
/-- slices.SortFunc(arcs, compareArcs): a permutation, sorted. -/
theorem sortA (blk off cap:Nat) (d:Array A) (w:World) (hH:HoldsK encA 3 w blk off d) (hblk:blk < w.heap.size) (hsz:d.size < 4611686018427387904) :
  Calls Try.prog 44 #[.slice (some ⟨blk,off,none⟩) d.size cap,.func (.func 43) #[] #[]] w fun e w'=>e=.returned (.tuple #[])∧∃ d' n os,PermIn 0 d.size d d'∧SortedIn (ltOf cfA) 0 d.size d'∧w'=sortWorldK encA 3 w blk off n d' os:=by
 have h:=AnyQ.slices_SortFunc Try.sort44 3 Try.isAgg53 Try.sizeOf53 encA (fun _=>rfl) (fun x v hv=>by simp [encA]at hv;rcases hv with rfl|rfl|rfl <;> rfl) cfA swoA 43 #[] blk off cap d w enters (cmpLaysA blk off d.size w) hH hblk hsz
 exact h
end Go.Proofs.Ytcckpjflbfofjaa.QSortA
