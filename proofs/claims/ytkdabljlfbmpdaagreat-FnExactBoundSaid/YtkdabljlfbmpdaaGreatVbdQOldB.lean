-- Cut by prune.py, a program of this session, out of the texts of this claim: Lean checks it.
import Derived.Test.YtkdabljlfbmpdaaGreatVbdQOldA
namespace Go.Proofs.YtkdabljlfbmpdaaGreat.QOldB
open Go.RowKit Go.Proofs.YtkdabljlfbmpdaaGreat.Pb Go.Proofs.YtkdabljlfbmpdaaGreatW.PrintWords Go.Proofs.YtkdabljlfbmpdaaGreatW.PrintLast Go.Proofs.YtkdabljlfbmpdaaGreat.QStr Go.Proofs.YtkdabljlfbmpdaaGreat.QGenR Go.Proofs.YtkdabljlfbmpdaaGreat.QRule Go.Proofs.YtkdabljlfbmpdaaGreat.QTree Go.Proofs.YtkdabljlfbmpdaaGreat.QText Go.Proofs.YtkdabljlfbmpdaaGreat.QForm Go.Proofs.YtkdabljlfbmpdaaGreat.QRuleT Go.Proofs.YtkdabljlfbmpdaaGreat.QWith Go.Proofs.YtkdabljlfbmpdaaGreat.QVars Go.Proofs.YtkdabljlfbmpdaaGreat.QLeast Go.Proofs.YtkdabljlfbmpdaaGreat.QSet Go.Proofs.YtkdabljlfbmpdaaGreat.QOldA
set_option linter.unusedVariables false
set_option linter.unusedSimpArgs false
structure Okr (es:List IEx) (d:List ILt):Prop where
 ok:EsOk es
 few:es.length≤60
 kds:∀ e∈es,e.f2.length≤1048576
 szs:∀ i < es.length,sz es i≤60
 lits:d.length≤1048576
 args:∀ l∈d,l.f2.length≤60
 two:∀ l∈d,l.f0=3→l.f2.length=2
 rng:∀ l∈d,∀ x∈l.f2,0≤x∧x < (es.length:Int)
 un:Un (kd es)
 root:∀ l∈d,∀ x∈l.f2,∀ i,x∉kd es i
theorem okr_of {es:List IEx} {h:ILt} {d:List ILt} (hw:FewR es h d) (hf:Frm es h d):Okr es d :=
 ⟨hf.1,hf.2.2.1,fun e he=>(hw.2.1 e he).2,fun i hi=>sz_le es hf.1 hf.2.2.1 (frm_one es h d hf) i hi,hw.2.2.2.1,fun l hl=>(frm_arg hf hl).1,fun l hl=>(frm_arg hf hl).2,fun l hl x hx=>(frm_lit hf hl hx).1,frm_un hf,fun l hl x hx=>(frm_lit hf hl hx).2⟩
noncomputable def VRc (es:List IEx) (x:Int):List ByteArray:=vrs es x.toNat
noncomputable def PTi (es:List IEx) (x:Int):Bool:=PTc es x.toNat
theorem upw_txt (es:List IEx) (P:Nat→Prop):∀(q i:Nat) (out:List ByteArray),i + q≤es.length→(∀ s∈out,∃ e∈es,e.f1=s)→∀ s∈upw (nam (QVars.isVar es) (QVars.txt es)) P q i out,∃ e∈es,e.f1=s
 | 0,_,out,_,h=>h
 | q + 1,i,out,hi,h=>by
  unfold upw
  have hn:∀ s∈nam (QVars.isVar es) (QVars.txt es) out i,∃ e∈es,e.f1=s:=by
   intro s hs
   unfold nam at hs
   split at hs
   ·rcases List.mem_append.1 hs with hs|hs
    ·exact h s hs
    ·rw [List.mem_singleton]at hs
     subst hs
     exact⟨es[i],List.getElem_mem (by omega),by unfold QVars.txt;rw [getD_in es i (by omega)]⟩
   ·exact h s hs
  by_cases hp:P i
  ·rw [if_pos hp]
   exact upw_txt es P q (i + 1) _ (by omega) hn
  ·rw [if_neg hp]
   exact upw_txt es P q (i + 1) _ (by omega) h
theorem vrs_txt (es:List IEx) (n:Nat) (hn:n < es.length):∀ s∈vrs es n,∃ e∈es,e.f1=s:=upw_txt es _ (n + 1) 0 [] (by omega) (fun s h=>by cases h)
section
variable (es : List IEx) (a : Int) (b : ByteArray) (c : List Int) (d : List ILt)
def Nmd (y:Nat) (s:ByteArray):Prop:=(es.getD y zE).f0=1∧¬ Rk (kd es) (cal es) y∧(es.getD y zE).f1=s
end
end Go.Proofs.YtkdabljlfbmpdaaGreat.QOldB
