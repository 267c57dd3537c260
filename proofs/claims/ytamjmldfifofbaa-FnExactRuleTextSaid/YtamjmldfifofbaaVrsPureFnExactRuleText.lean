-- Cut by prune.py, a program of this session, out of the texts of this claim: Lean checks it.
import Derived.Test.YtamjmldfifofbaaVrsPpx13
import Derived.Test.YtamjmldfifofbaaVrsQRuleT
import Derived.Test.YtamjmldfifofbaaVrsPpx9
namespace Go.Proofs.Ytamjmldfifofbaa.Pure
open Go.RowKit Go.Proofs.Ytamjmldfifofbaa.Pp Go.Proofs.YtamjmldfifofbaaW.PrintWords Go.Proofs.YtamjmldfifofbaaW.PrintLast Go.Proofs.Ytamjmldfifofbaa.QStr Go.Proofs.Ytamjmldfifofbaa.QGenR Go.Proofs.Ytamjmldfifofbaa.QRule Go.Proofs.Ytamjmldfifofbaa.QTree Go.Proofs.Ytamjmldfifofbaa.QText Go.Proofs.Ytamjmldfifofbaa.QRuleT
theorem rm_ex (a : LEx) (h : okT99 a) : RmEx a := ⟨by have := h.2.1; simp only [] at this; omega,by have := h.2.2.2.1; unfold RmN; omega⟩
theorem rm_lt (a : LLt) (h : okT25 a) : RmLt a := ⟨by have := h.2.1; simp only [] at this; omega,by have := h.2.2.2.1; unfold RmN; omega⟩
theorem rm_ru (a : LRu) (h : okT28 a) : RmRu a :=
 ⟨⟨by have := h.1.2.1; omega,fun x hx => rm_ex x (h.1.2.2 x hx)⟩,rm_lt _ h.2.1,by have := h.2.2.2.1; omega,fun x hx => rm_lt x (h.2.2.2.2 x hx)⟩
theorem fewR (a : LRu) (h : FwRu a) : FewR (a.f0.map cvEx) (cvLt a.f1) (a.f2.map cvLt) := by
 obtain ⟨h1,h2,h3⟩ := h
 refine ⟨by rw [List.length_map]; exact h1.1,fun e he => ?_,h2,by rw [List.length_map]; exact h3.1,fun l hl => ?_⟩
 ·obtain ⟨x,hx,rfl⟩ := List.mem_map.1 he
  exact h1.2 x hx
 ·obtain ⟨x,hx,rfl⟩ := List.mem_map.1 hl
  exact h3.2 x hx
theorem FnExactRuleText : laws_FnExactRuleText.Pure := by
 intro a ha
 have hR := rm_ru a ha
 obtain ⟨z,hz,hz1,hz2⟩ := szRu_f a 1048576 4000000 hR (by omega) (by omega) (by omega)
 by_cases hneg : z < 0
 ·refine ⟨4000000, ?_⟩
  unfold laws_FnExactRuleText.f
  rw [hz,Option.bind_some,if_pos hneg]
 ·have hF := hz2 (by omega)
  have hw := fewR a hF
  obtain ⟨K1,g1⟩ := impl_ev _ _ _ hw
  obtain ⟨K2,g2⟩ := spec_ev _ _ _ hw
  refine ⟨max 4000000 (max K1 K2), ?_⟩
  generalize hk : max 4000000 (max K1 K2) = k
  obtain ⟨z',hz',hz1',hz2'⟩ := szRu_f a 1048576 k hR (by omega) (by omega) (by omega)
  have e1 := g1 k (by omega)
  have e2 := g2 k (by omega)
  simp only [] at e1 e2
  unfold laws_FnExactRuleText.f
  rw [hz',Option.bind_some]
  by_cases hneg' : z' < 0
  ·rw [if_pos hneg']
  ·rw [if_neg hneg',toRu_f a k hF (by omega),Option.bind_some]
   show ((z5_.f k (a.f0.map cvEx) (cvLt a.f1).f0 (cvLt a.f1).f1 (cvLt a.f1).f2 (a.f2.map cvLt)).bind _) = _
   rw [e2,Option.bind_some,Option.bind_some]
   show ((impl_RuleText.f k (a.f0.map cvEx) (cvLt a.f1).f0 (cvLt a.f1).f1 (cvLt a.f1).f2 (a.f2.map cvLt)).bind _) = _
   unfold impl_RuleText.f
   rw [e1,Option.bind_some,Option.bind_some,if_pos rfl,Option.bind_some]
   show ((laws_eqRule.f k (a.f0.map cvEx) (cvLt a.f1).f0 (cvLt a.f1).f1 (cvLt a.f1).f2 (a.f2.map cvLt) (a.f0.map cvEx) (cvLt a.f1).f0 (cvLt a.f1).f1 (cvLt a.f1).f2 (a.f2.map cvLt)).bind _) = _
   rw [eqRu_f _ _ _ k (few_map fi_ex hF.1) (fi_lt _ hF.2.1) (few_map fi_lt hF.2.2) (by omega),Option.bind_some,if_pos rfl]
end Go.Proofs.Ytamjmldfifofbaa.Pure
