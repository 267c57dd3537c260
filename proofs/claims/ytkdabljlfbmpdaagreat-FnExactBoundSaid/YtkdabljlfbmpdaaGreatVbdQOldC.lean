-- Cut by prune.py, a program of this session, out of the texts of this claim: Lean checks it.
import Derived.Test.YtkdabljlfbmpdaaGreatVbdQOldB
namespace Go.Proofs.YtkdabljlfbmpdaaGreat.QOldC
open Go.RowKit Go.Proofs.YtkdabljlfbmpdaaGreat.Pb Go.Proofs.YtkdabljlfbmpdaaGreatW.PrintWords Go.Proofs.YtkdabljlfbmpdaaGreatW.PrintLast Go.Proofs.YtkdabljlfbmpdaaGreat.QStr Go.Proofs.YtkdabljlfbmpdaaGreat.QGenR Go.Proofs.YtkdabljlfbmpdaaGreat.QRule Go.Proofs.YtkdabljlfbmpdaaGreat.QTree Go.Proofs.YtkdabljlfbmpdaaGreat.QText Go.Proofs.YtkdabljlfbmpdaaGreat.QForm Go.Proofs.YtkdabljlfbmpdaaGreat.QRuleT Go.Proofs.YtkdabljlfbmpdaaGreat.QWith Go.Proofs.YtkdabljlfbmpdaaGreat.QVars Go.Proofs.YtkdabljlfbmpdaaGreat.QLeast Go.Proofs.YtkdabljlfbmpdaaGreat.QSet Go.Proofs.YtkdabljlfbmpdaaGreat.QOldA Go.Proofs.YtkdabljlfbmpdaaGreat.QOldB
set_option linter.unusedVariables false
set_option linter.unusedSimpArgs false
section
variable (es : List IEx) (a : Int) (b : ByteArray) (c : List Int) (d : List ILt)
theorem rd_two {xs:List Int} (h:xs.length=2) (s:Nat) (hs:s < 2):rd xs (s:Int)∈xs∧rd xs (1 - (s:Int))∈xs:=by
 have g:∀ j:Nat,j < 2→rd xs (j:Int)∈xs:=fun j hj=>by
  rw [rdN_get xs j (by omega)]
  exact List.getElem_mem _
 refine⟨g s hs, ?_⟩
 rw [show(1 - (s:Int))=((1 - s:Nat):Int)by omega]
 exact g (1 - s) (by omega)
theorem txt_of (ho:Okr es d) {l:ILt} (hl:l∈d) {x:Int} (hx:x∈l.f2):∀ s∈VRc es x,∃ e∈es,e.f1=s:=vrs_txt es x.toNat (by have:=ho.rng l hl x hx;omega)
theorem lit_V (ho:Okr es d):∀ l∈d,l.f0=3→(∀ s∈VRc es (rd l.f2 0),∃ e∈es,e.f1=s)∧∀ s∈VRc es (rd l.f2 1),∃ e∈es,e.f1=s:=fun l hl h3=>by
 have h2:=ho.two l hl h3
 have g0:=rd_two h2 0 (by omega)
 have g1:=rd_two h2 1 (by omega)
 exact⟨txt_of es d ho hl g0.1,txt_of es d ho hl g1.1⟩
end
end Go.Proofs.YtkdabljlfbmpdaaGreat.QOldC
