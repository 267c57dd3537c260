-- Cut by prune.py, a program of this session, out of the texts of this claim: Lean checks it.
import Derived.Test.YtkdabljlfbmpdaaGreatVbdPbx22
import Derived.Test.YtkdabljlfbmpdaaGreatVbdQBndD
import Derived.Test.YtkdabljlfbmpdaaGreatVbdQLawR
namespace Go.Proofs.YtkdabljlfbmpdaaGreat.Pure
open Go.RowKit Go.Proofs.YtkdabljlfbmpdaaGreat.Pb Go.Proofs.YtkdabljlfbmpdaaGreatW.PrintWords Go.Proofs.YtkdabljlfbmpdaaGreatW.PrintLast Go.Proofs.YtkdabljlfbmpdaaGreat.QStr Go.Proofs.YtkdabljlfbmpdaaGreat.QRule Go.Proofs.YtkdabljlfbmpdaaGreat.QText Go.Proofs.YtkdabljlfbmpdaaGreat.QRuleT Go.Proofs.YtkdabljlfbmpdaaGreat.QBndD Go.Proofs.YtkdabljlfbmpdaaGreat.QLaws Go.Proofs.YtkdabljlfbmpdaaGreat.QMark Go.Proofs.YtkdabljlfbmpdaaGreat.QLawR
theorem FnExactBound:laws_FnExactBound.Pure:=by
 intro a ha
 have hR:=rm_ru a ha
 obtain⟨z,hz,hz1,hz2⟩:=szRu_f a 1048576 4000000 hR (by omega) (by omega) (by omega)
 by_cases hneg:z < 0
 ·exact⟨4000000,z,hz,.inl hneg⟩
 ·have hF:=hz2 (by omega)
  have hw:=fewR a hF
  obtain⟨gs,hg,⟨K1,g1⟩,⟨K2,g2⟩⟩:=bound_ev _ _ _ hw
  refine⟨max 4000000 (max K1 K2), ?_⟩
  generalize hk:max 4000000 (max K1 K2)=k
  obtain⟨z',hz',hz1',hz2'⟩:=szRu_f a 1048576 k hR (by omega) (by omega) (by omega)
  have e1:=g1 k (by omega)
  have e2:=g2 k (by omega)
  simp only []at e1 e2
  refine⟨z',hz', ?_⟩
  by_cases hneg':z' < 0
  ·exact .inl hneg'
  ·obtain⟨m,hm⟩:=markR_f _ _ _ hw k (by omega)
   have h3:=markS_f 1 gs (by omega) k (by omega)
   have h4:=heldS_f 1 gs.length (by omega) k (by omega)
   refine .inr ⟨hneg',_,_,_,_,_,gs,(m:Int),((1 + gs.length:Nat):Int),marks 1 gs.length,toRu_f a k hF (by omega),e2,e1,eqS_f gs (by omega) k (by omega), ?_,hm,by omega,h3,marks_length _ _,h4,by omega⟩
   exact eqRu_f _ (cvLt a.f1) _ k (QGenR.few_map fi_ex hF.1) (fi_lt _ hF.2.1) (QGenR.few_map fi_lt hF.2.2) (by omega)
end Go.Proofs.YtkdabljlfbmpdaaGreat.Pure
