-- Cut by prune.py, a program of this session, out of the texts of this claim: Lean checks it.
import Derived.Test.YtkdabljlfbmpdaaGreatVbdQOldC
namespace Go.Proofs.YtkdabljlfbmpdaaGreat.QOldD
open Go.RowKit Go.Proofs.YtkdabljlfbmpdaaGreat.Pb Go.Proofs.YtkdabljlfbmpdaaGreatW.PrintWords Go.Proofs.YtkdabljlfbmpdaaGreatW.PrintLast Go.Proofs.YtkdabljlfbmpdaaGreat.QStr Go.Proofs.YtkdabljlfbmpdaaGreat.QGenR Go.Proofs.YtkdabljlfbmpdaaGreat.QRule Go.Proofs.YtkdabljlfbmpdaaGreat.QTree Go.Proofs.YtkdabljlfbmpdaaGreat.QText Go.Proofs.YtkdabljlfbmpdaaGreat.QForm Go.Proofs.YtkdabljlfbmpdaaGreat.QRuleT Go.Proofs.YtkdabljlfbmpdaaGreat.QWith Go.Proofs.YtkdabljlfbmpdaaGreat.QVars Go.Proofs.YtkdabljlfbmpdaaGreat.QLeast Go.Proofs.YtkdabljlfbmpdaaGreat.QSet Go.Proofs.YtkdabljlfbmpdaaGreat.QOldA Go.Proofs.YtkdabljlfbmpdaaGreat.QOldB Go.Proofs.YtkdabljlfbmpdaaGreat.QOldC
set_option linter.unusedVariables false
set_option linter.unusedSimpArgs false
theorem ev_list {α:Type} (g:α→Nat→Prop):∀(xs:List α),(∀ x∈xs,∃ K,∀ k,K≤k→g x k)→∃ K,∀ x∈xs,∀ k,K≤k→g x k
 | [],_=>⟨0,fun x h=>by cases h⟩
 | y :: r,h=>by
  obtain⟨K1,h1⟩:=h y List.mem_cons_self
  obtain⟨K2,h2⟩:=ev_list g r (fun x hx=>h x (List.mem_cons_of_mem _ hx))
  refine⟨max K1 K2,fun x hx k hk=>?_⟩
  rcases List.mem_cons.1 hx with rfl|hx
  ·exact h1 k (by omega)
  ·exact h2 x hx k (by omega)
def Arg (es:List IEx) (a:Int) (b:ByteArray) (c:List Int) (d:List ILt) (x:Int) (k:Nat):Prop :=
 (∃ xs,impl_Rule_plain.f k es a b c d x=some xs∧xs.length≤60∧∀ y,y∈xs↔∃ z:Nat,y=(z:Int)∧Pl (kd es) (cal es) x.toNat z)∧impl_Rule_vars.f k es a b c d x=some (VRc es x)∧z2_.f k es a b c d x=some (PTi es x)
section
variable (es : List IEx) (a : Int) (b : ByteArray) (c : List Int) (d : List ILt)
theorem args_ev (ho:Okr es d):∃ K,∀ l∈d,∀ k,K≤k→∀ x∈l.f2,Arg es a b c d x k:=by
 have h1:∀ l∈d,∃ K,∀ k,K≤k→∀ x∈l.f2,Arg es a b c d x k:=fun l hl=>by
  obtain⟨K,h⟩:=ev_list (Arg es a b c d) l.f2 (fun x hx=>by
   have hr:=ho.rng l hl x hx
   obtain⟨xs,⟨K1,e1⟩,p1,p2⟩:=plain_ev es a b c d ho.ok ho.szs ho.few ho.kds (x.toNat + 1) x.toNat (by omega) (by omega)
   obtain⟨K2,e2⟩:=vars_ev es a b c d ho.ok ho.szs ho.few ho.kds x.toNat (by omega)
   obtain⟨K3,e3⟩:=pat_ev es a b c d ho.ok ho.szs ho.few ho.kds x.toNat (by omega)
   have hs:=ho.szs x.toNat (by omega)
   have hx0:((x.toNat:Nat):Int)=x:=by omega
   rw [hx0]at e1 e2 e3
   refine⟨max K1 (max K2 K3),fun k hk=>⟨⟨xs,e1 k (by omega),by omega,p2⟩,e2 k (by omega),e3 k (by omega)⟩⟩)
  exact⟨K,fun k hk x hx=>h x hx k hk⟩
 exact ev_list (fun l k=>∀ x∈l.f2,Arg es a b c d x k) d h1
theorem arg_ok (ho:Okr es d) {l:ILt} (hl:l∈d) {x:Int} (hx:x∈l.f2) {k:Nat} (h:Arg es a b c d x k):lsArg k es a b c d x=true∧lsVRf k es a b c d x=VRc es x∧lsPTf k es a b c d x=PTi es x∧∀ y,y∈lsPLf k es a b c d x↔∃ z:Nat,y=(z:Int)∧Pl (kd es) (cal es) x.toNat z:=by
 obtain⟨⟨xs,e1,p1,p2⟩,e2,e3⟩:=h
 have hr:=ho.rng l hl x hx
 have hf:=ho.few
 have hv:=vrs_len es x.toNat
 have hV:lsVRf k es a b c d x=VRc es x:=by unfold lsVRf;rw [e2];rfl
 have hP:lsPLf k es a b c d x=xs:=by unfold lsPLf;rw [e1];rfl
 refine⟨?_,hV,by unfold lsPTf;rw [e3];rfl,by rw [hP];exact p2⟩
 unfold lsArg
 rw [hV,hP,e1,e2,e3]
 simp only [Bool.and_eq_true,decide_eq_true_eq,List.all_eq_true,Option.isSome_some,and_true,true_and]
 refine⟨hr.1,hr.2,by omega,fun y hy=>?_,by unfold VRc;omega,fun s hs=>?_⟩
 ·obtain⟨z,rfl,g⟩:=(p2 y).1 hy
  have:=re_le (dn es ho.ok) (pl_re g)
  omega
 ·obtain⟨e,he,h⟩:=txt_of es d ho hl hx s hs
  exact hasB_iff.2 (List.mem_map.2 ⟨e,he,h⟩)
end
end Go.Proofs.YtkdabljlfbmpdaaGreat.QOldD
