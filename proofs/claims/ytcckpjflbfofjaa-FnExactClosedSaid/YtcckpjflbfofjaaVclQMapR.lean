-- Cut by prune.py, a program of this session, out of the texts of this claim: Lean checks it.
import Derived.Test.YtcckpjflbfofjaaVclQMapA
namespace Go.Proofs.Ytcckpjflbfofjaa.QMapR
open Go.RowKit Go.Maps Go.Proofs.Ytcckpjflbfofjaa.Pd Go.Proofs.YtcckpjflbfofjaaW.PrintWords Go.Proofs.YtcckpjflbfofjaaW.PrintLast Go.Proofs.Ytcckpjflbfofjaa.QStr Go.Proofs.Ytcckpjflbfofjaa.QGraph Go.Proofs.Ytcckpjflbfofjaa.QMapA
/-- Block r ranges over block B, a map that holds just what F tells; G: what is still to come. -/
def PR (W:World) (B r n:Nat) (F:Int→Int→Option Bool) (G:Int→Int→Bool) (cnt:Nat):Prop :=
 ∃(D:DataW Unit) (L:Lit→Bool),W.ranges Try.prog 67 (plainElem Try.prog 4) B r n D L cnt ∧
  (∀ a b l,keyOf Try.prog 67 (key a b)=some l→Maps.has D l=(F a b).isSome∧∀ v z,F a b=some v→D.atKey l z=.lit (.bool v)) ∧
  (∀ l,Maps.has D l=true→∃ a b,keyOf Try.prog 67 (key a b)=some l∧(F a b).isSome=true)∧(∀ l,L l=true→Maps.has D l=true)∧∀ a b l,keyOf Try.prog 67 (key a b)=some l→L l=G a b
theorem PM.range {W:World} {B n:Nat} {F:Int→Int→Option Bool} (h:PM W B n F) :
  ∃ w' cnt,(Instr.range 66 (.map (some B))).run Try.prog W=.ok (.pointer (some ⟨W.heap.size,0,none⟩)) w'∧PR w' B W.heap.size n F (fun a b=>(F a b).isSome) cnt∧W.grownBy w' none∧w'.heap.size=W.heap.size + 1:=by
 obtain⟨D,hD,h1,h2⟩:=h
 obtain⟨w',hrun,hr,hg,hs⟩:=hD.range law Try.underlying66
 exact⟨w',_,hrun,⟨D,_,hr,h1,h2,fun _ h=>h,fun a b l hk=>(h1 a b l hk).1⟩,hg,hs⟩
theorem PR.next {W:World} {B r n cnt:Nat} {F:Int→Int→Option Bool} {G:Int→Int→Bool} (h:PR W B r n F G cnt) (ty:TypeId) :
  (cnt=0∧(∀ a b l,keyOf Try.prog 67 (key a b)=some l→G a b=false)∧(Instr.next (.pointer (some ⟨r,0,none⟩)) false ty).run Try.prog W=.ok (.tuple #[.bool false]) W) ∨
  ∃ a b x l w' cnt',keyOf Try.prog 67 (key a b)=some l∧G a b=true∧F a b=some x∧(Instr.next (.pointer (some ⟨r,0,none⟩)) false ty).run Try.prog W=.ok (.tuple #[.bool true,key a b,.bool x]) w' ∧
   PR w' B r n F (fun c d=>G c d && !decide (c=a∧d=b)) cnt'∧cnt' < cnt∧W.grownBy w' (some r)∧w'.heap.size=W.heap.size∧(Instr.entry (.pointer (some ⟨r,0,none⟩))).run Try.prog w'=.ok (.tuple #[key a b,.bool x]) w':=by
 obtain⟨D,L,hr,h1,h2,h3,h4⟩:=h
 rcases hr.next law ty with⟨h0,hl,hrun⟩|⟨k,v,kl,y,w',cnt',hk,hL,hv,hat,hrun,hr',hlt,hg,hs,hen⟩
 ·exact Or.inl ⟨h0,fun a b l hk=>(h4 a b l hk).symm.trans (hl l),hrun⟩
 ·obtain⟨a,b,hk2,hF⟩:=h2 kl (h3 kl hL)
  obtain⟨x,hx⟩:=Option.isSome_iff_exists.1 hF
  have e1:k=key a b:=law.inj hk hk2
  have e2:y.1=.lit (.bool x):=(hat (.map [])).symm.trans ((h1 a b kl hk2).2 x _ hx)
  have e3:v=.bool x:=bool_inv Try.underlying4 (ps:=y.2) (by rw [hv,← e2])
  subst e1
  subst e3
  refine Or.inr ⟨a,b,x,kl,w',cnt',hk2,(h4 a b kl hk2).symm.trans hL,hx,hrun,⟨D,_,hr',h1,h2,fun l hl=>?_,fun c d l hc=>?_⟩,hlt,hg,hs,hen⟩
  ·simp only [Bool.and_eq_true]at hl
   exact h3 l hl.1
  ·show(L l && !l.sameKey kl)=(G c d && !decide (c=a∧d=b))
   rw [h4 c d l hc]
   by_cases e:c=a∧d=b
   ·obtain⟨rfl,rfl⟩:=e
    have:l=kl:=Option.some.inj (hc.symm.trans hk2)
    subst this
    rw [WideAt.sameKey_self (law.key hc),decide_eq_true ⟨rfl,rfl⟩]
   ·rw [sameKey_ne (fun e2=>e (by subst e2;exact key_inj hc hk2)),decide_eq_false e]
theorem PR.kept {W w':World} {B r n cnt:Nat} {F:Int→Int→Option Bool} {G:Int→Int→Bool} {row:Option Nat} (h:PR W B r n F G cnt) (hg:W.grownBy w' row) (hb:some B≠row) (hr:some r≠row):PR w' B r n F G cnt:=by
 obtain⟨D,L,h0,h1⟩:=h
 exact⟨D,L,h0.kept hg hb hr,h1⟩
end Go.Proofs.Ytcckpjflbfofjaa.QMapR
