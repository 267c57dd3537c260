-- Cut by prune.py, a program of this session, out of the texts of this claim: Lean checks it.
import Derived.Test.YtcckpjflbfofjaaVclQGraph
import Derived.DeepKeys5
import Derived.Maps.OwnSet
import Derived.Maps.RangeWalk
import Derived.KernelRfl
namespace Go.Proofs.Ytcckpjflbfofjaa.QMapA
open Go.RowKit Go.Maps Go.Proofs.Ytcckpjflbfofjaa.Pd Go.Proofs.YtcckpjflbfofjaaW.PrintWords Go.Proofs.YtcckpjflbfofjaaW.PrintLast Go.Proofs.Ytcckpjflbfofjaa.QStr Go.Proofs.Ytcckpjflbfofjaa.QGraph
def key (a b:Int):Value:=.agg #[.int .i64 a,.int .i64 b]
theorem law:Keyed Try.prog 67:=Keyed.of_law (deep_law_gate (by kernel_rfl) (by decide) (k:=67) (by decide) (by kernel_rfl) (by kernel_rfl))
theorem key_all:((row 0 6).all fun a=>(row 0 6).all fun b=>(keyOf Try.prog 67 (key a b)).isSome)=true:=by kernel_rfl
def In (a:Int):Prop:=0≤a∧a≤5
theorem in_row {a:Int} (h:In a):a∈row 0 6:=by
 obtain⟨h0,h1⟩:=h
 have:a=0∨a=1∨a=2∨a=3∨a=4∨a=5:=by omega
 rcases this with rfl|rfl|rfl|rfl|rfl|rfl <;> decide
theorem key_ex {a b:Int} (ha:In a) (hb:In b):∃ l,keyOf Try.prog 67 (key a b)=some l :=
 Option.isSome_iff_exists.1 (List.all_eq_true.1 (List.all_eq_true.1 key_all a (in_row ha)) b (in_row hb))
theorem key_inj {a b c d:Int} {l:Lit} (h:keyOf Try.prog 67 (key a b)=some l) (h2:keyOf Try.prog 67 (key c d)=some l):a=c∧b=d:=by
 have e:=law.inj h h2
 have e2:[Value.int .i64 a,Value.int .i64 b]=[Value.int .i64 c,Value.int .i64 d]:=congrArg Array.toList (Value.agg.inj e)
 injection e2 with h1 h2
 injection h2 with h2 _
 injection h1 with _ h1
 injection h2 with _ h2
 exact⟨h1,h2⟩
theorem bool_inv {P:Program} {e:TypeId} (he:P.underlying e=some .bool) {v:Value} {x:Bool} {ps:List MemPlace} (h:plainElem (H:=Unit) P e v=some (.lit (.bool x),ps)):v=.bool x:=by
 unfold plainElem at h
 rw [he]at h
 cases v <;> simp at h
 rw [h.1]
/-- Block B is a map of at most n entries that holds just what F tells. -/
def PM (W:World) (B n:Nat) (F:Int→Int→Option Bool):Prop :=
 ∃ D:DataW Unit,W.ownsMap Try.prog 67 (plainElem Try.prog 4) B n D∧(∀ a b l,keyOf Try.prog 67 (key a b)=some l→Maps.has D l=(F a b).isSome∧∀ v z,F a b=some v→D.atKey l z=.lit (.bool v)) ∧
  ∀ l,Maps.has D l=true→∃ a b,keyOf Try.prog 67 (key a b)=some l∧(F a b).isSome=true
theorem PM.made (w:World):PM (w.alloc (.map #[] 0)) w.heap.size 0 (fun _ _=>none) :=
 ⟨.map [],World.ownsMap_made w _ _ _,fun _ _ _ _=>⟨rfl,fun _ _ h=>by cases h⟩,fun _ h=>by cases h⟩
theorem PM.look {W:World} {B n:Nat} {F:Int→Int→Option Bool} (h:PM W B n F) {a b:Int} {l:Lit} (hk:keyOf Try.prog 67 (key a b)=some l) :
  (Instr.lookup 66 (.map (some B)) (key a b) false).run Try.prog W=.ok (.bool ((F a b).getD false)) W:=by
 obtain⟨D,hD,h1,_⟩:=h
 have hz:(zeroValue 4).run Try.prog W=.ok (.bool false) W:=by kernel_rfl
 obtain⟨v,ps,hrun,hv⟩:=hD.lookup law Try.underlying66 hz (plainElem_bool Try.underlying4 false) hk
 obtain⟨h2,h3⟩:=h1 a b l hk
 rw [hrun]
 cases hF:F a b with
 | none =>
  rw [hF]at h2
  rw [atKey_of_not_has h2]at hv
  rw [bool_inv Try.underlying4 hv]
  rfl
 | some x =>
  rw [h3 x _ hF]at hv
  rw [bool_inv Try.underlying4 hv]
  rfl
theorem PM.put {W:World} {B n:Nat} {F:Int→Int→Option Bool} (h:PM W B n F) (hn:n < maxLen) {a b:Int} {l:Lit} (hk:keyOf Try.prog 67 (key a b)=some l) (x:Bool) :
  ∃ w',(Instr.mapUpdate 66 (.map (some B)) (key a b) (.bool x)).run Try.prog W=.ok () w'∧PM w' B (n + 1) (fun c d=>if c=a∧d=b then some x else F c d)∧W.grownBy w' (some B):=by
 obtain⟨D,hD,h1,h2⟩:=h
 have hm:=hD.isMap
 have hl:=law.key hk
 obtain⟨w',hrun,hD',hg⟩:=hD.update law Try.underlying66 hn hk (plainElem_bool Try.underlying4 x)
 refine⟨w',hrun,⟨_,hD',fun c d l2 hk2=>?_,fun l2 hh=>?_⟩,hg⟩
 ·show Maps.has (D.put l (.lit (.bool x))) l2=(if c=a∧d=b then some x else F c d).isSome∧∀(v:Bool) (z:DataW Unit),(if c=a∧d=b then some x else F c d)=some v→_
  by_cases e:c=a∧d=b
  ·obtain⟨rfl,rfl⟩:=e
   have:l2=l:=Option.some.inj (hk2.symm.trans hk)
   subst this
   rw [if_pos ⟨rfl,rfl⟩]
   exact⟨has_put_same hm hl _,fun v z hv=>by cases hv;exact atKey_put_same hm hl _ z⟩
  ·have hne:l2≠l:=fun e2=>e (by subst e2;exact key_inj hk2 hk)
   rw [if_neg e,has_put_other hne]
   refine⟨(h1 c d l2 hk2).1,fun v z hv=>?_⟩
   rw [atKey_put_other hne]
   exact(h1 c d l2 hk2).2 v z hv
 ·by_cases e:l2=l
  ·subst e
   exact⟨a,b,hk,by simp⟩
  ·rw [has_put_other e]at hh
   obtain⟨c,d,hc,hs⟩:=h2 l2 hh
   refine⟨c,d,hc, ?_⟩
   by_cases e2:c=a∧d=b
   ·simp [e2]
   ·simp only [if_neg e2]
    exact hs
end Go.Proofs.Ytcckpjflbfofjaa.QMapA
