-- Cut by prune.py, a program of this session, out of the texts of this claim: Lean checks it.
import Derived.Test.YtkdabljlfbmpdaaVolPox21
import Derived.Test.YtkdabljlfbmpdaaVolQOldD
import Derived.Test.YtkdabljlfbmpdaaVolQLawR
namespace Go.Proofs.Ytkdabljlfbmpdaa.Pure
open Go.RowKit Go.Proofs.Ytkdabljlfbmpdaa.Po Go.Proofs.YtkdabljlfbmpdaaW.PrintWords Go.Proofs.YtkdabljlfbmpdaaW.PrintLast Go.Proofs.Ytkdabljlfbmpdaa.QStr Go.Proofs.Ytkdabljlfbmpdaa.QRule Go.Proofs.Ytkdabljlfbmpdaa.QText Go.Proofs.Ytkdabljlfbmpdaa.QRuleT Go.Proofs.Ytkdabljlfbmpdaa.QOldD Go.Proofs.Ytkdabljlfbmpdaa.QLaws Go.Proofs.Ytkdabljlfbmpdaa.QMark Go.Proofs.Ytkdabljlfbmpdaa.QLawR
theorem FnExactOld:laws_FnExactOld.Pure:=by
 intro a ha
 have hR:=rm_ru a ha
 obtain⟨z,hz,hz1,hz2⟩:=szRu_f a 1048576 4000000 hR (by omega) (by omega) (by omega)
 by_cases hneg:z < 0
 ·exact⟨4000000,z,hz,.inl hneg⟩
 ·have hF:=hz2 (by omega)
  have hw:=fewR a hF
  obtain⟨gs,hg,⟨K1,g1⟩,⟨K2,g2⟩⟩:=old_ev _ _ _ hw
  refine⟨max 4000000 (max K1 K2), ?_⟩
  generalize hk:max 4000000 (max K1 K2)=k
  obtain⟨z',hz',hz1',hz2'⟩:=szRu_f a 1048576 k hR (by omega) (by omega) (by omega)
  have e1:=g1 k (by omega)
  have e2:=g2 k (by omega)
  simp only []at e1 e2
  refine⟨z',hz', ?_⟩
  by_cases hneg':z' < 0
  ·exact .inl hneg'
  ·obtain⟨m,hm⟩:=markR_f _ _ _ hw k (by omega)
   have h3:=markS_f 1 gs (by omega) k (by omega)
   have h4:=heldS_f 1 gs.length (by omega) k (by omega)
   refine .inr ⟨hneg',_,_,_,_,_,gs,(m:Int),((1 + gs.length:Nat):Int),marks 1 gs.length,toRu_f a k hF (by omega),e2,e1,eqS_f gs (by omega) k (by omega), ?_,hm,by omega,h3,marks_length _ _,h4,by omega⟩
   exact eqRu_f _ (cvLt a.f1) _ k (QGenR.few_map fi_ex hF.1) (fi_lt _ hF.2.1) (QGenR.few_map fi_lt hF.2.2) (by omega)
end Go.Proofs.Ytkdabljlfbmpdaa.Pure
