-- Cut by prune.py, a program of this session, out of the texts of this claim: Lean checks it.
import Derived.Test.YtamjmldfifofbaaVppPpx19
import Derived.Test.YtamjmldfifofbaaVppQProgT
namespace Go.Proofs.Ytamjmldfifofbaa.Pure
open Go.RowKit Go.Proofs.Ytamjmldfifofbaa.Pp Go.Proofs.YtamjmldfifofbaaW.PrintWords Go.Proofs.YtamjmldfifofbaaW.PrintLast Go.Proofs.Ytamjmldfifofbaa.QStr Go.Proofs.Ytamjmldfifofbaa.QGenR Go.Proofs.Ytamjmldfifofbaa.QRule Go.Proofs.Ytamjmldfifofbaa.QTree Go.Proofs.Ytamjmldfifofbaa.QText Go.Proofs.Ytamjmldfifofbaa.QRuleT Go.Proofs.Ytamjmldfifofbaa.QProgR Go.Proofs.Ytamjmldfifofbaa.QProgT
theorem rm_s {l : List ByteArray} (h : l.length ≤ maxLen ∧ l.length * 16 ≤ 140737488351232 ∧ ∀ x ∈ l,x.size ≤ 140737488351232) : RmS l :=
 ⟨by omega,fun s hs => by have := h.2.2 s hs; omega⟩
theorem rm_con (a : LCon) (h : okT147 a) : RmCon a := ⟨by have := h.1; simp only [] at this; omega,rm_s h.2⟩
theorem rm_ty (a : LTy) (h : okT112 a) : RmTy a := ⟨by have := h.1; simp only [] at this; omega,by have := h.2.2.1; omega,fun x hx => rm_con x (h.2.2.2 x hx)⟩
theorem rm_rl (a : LRl) (h : okT114 a) : RmRl a := ⟨by have := h.1; simp only [] at this; omega,rm_s h.2.1⟩
theorem rm_ex (a : LEx) (h : okT99 a) : RmEx a := ⟨by have := h.2.1; simp only [] at this; omega,by have := h.2.2.2.1; unfold RmN; omega⟩
theorem rm_lt (a : LLt) (h : okT25 a) : RmLt a := ⟨by have := h.2.1; simp only [] at this; omega,by have := h.2.2.2.1; unfold RmN; omega⟩
theorem rm_ru (a : LRu) (h : okT28 a) : RmRu a :=
 ⟨⟨by have := h.1.2.1; omega,fun x hx => rm_ex x (h.1.2.2 x hx)⟩,rm_lt _ h.2.1,by have := h.2.2.2.1; omega,fun x hx => rm_lt x (h.2.2.2.2 x hx)⟩
theorem fewR (a : LRu) (h : FwRu a) : FewR (cvRu a).f0 (cvRu a).f1 (cvRu a).f2 := by
 obtain ⟨h1,h2,h3⟩ := h
 refine ⟨by show (a.f0.map cvEx).length ≤ _; rw [List.length_map]; exact h1.1,fun e he => ?_,h2,by show (a.f2.map cvLt).length ≤ _; rw [List.length_map]; exact h3.1,fun l hl => ?_⟩
 ·obtain ⟨x,hx,rfl⟩ := List.mem_map.1 he
  exact h1.2 x hx
 ·obtain ⟨x,hx,rfl⟩ := List.mem_map.1 hl
  exact h3.2 x hx
theorem sum_cv {α β : Type} (m : α → Nat) (m' : β → Nat) (cv : α → β) (h : ∀ a,m' (cv a) = m a) (xs : List α) : mL m' (xs.map cv) = mL m xs := by
 unfold mL
 rw [List.length_map,List.map_map]
 congr 2
 exact List.map_congr_left (fun a _ => h a)
theorem fewPr (t : List LTy) (r : List LRl) (u : List LRu) (h : FwP t r u) : FewPr (t.map cvTy) (r.map cvRl) (u.map cvRu) := by
 obtain ⟨h1,h2⟩ := h
 refine ⟨by rw [sum_cv mTy mIT cvTy mIT_cv,sum_cv mRl mIR cvRl mIR_cv]; exact h1,by rw [List.length_map]; exact h2.1,fun x hx => ?_⟩
 obtain ⟨y,hy,rfl⟩ := List.mem_map.1 hx
 exact fewR y (h2.2 y hy)
theorem FnExactProgText : laws_FnExactProgText.Pure := by
 intro p hp
 have ht : RoomL RmTy p.f0 := ⟨by have := hp.1.2.1; omega,fun x hx => rm_ty x (hp.1.2.2 x hx)⟩
 have hr : RoomL RmRl p.f1 := ⟨by have := hp.2.1.2.1; omega,fun x hx => rm_rl x (hp.2.1.2.2 x hx)⟩
 have hu : RoomL RmRu p.f2 := ⟨by have := hp.2.2.2.1; omega,fun x hx => rm_ru x (hp.2.2.2.2 x hx)⟩
 by_cases hF : FwP p.f0 p.f1 p.f2
 ·have hw := fewPr _ _ _ hF
  obtain ⟨K1,g1⟩ := impl_prog _ _ _ hw
  obtain ⟨K2,g2⟩ := spec_prog _ _ _ hw
  refine ⟨max 4000001 (max K1 K2), ?_⟩
  generalize hk : max 4000001 (max K1 K2) = k
  obtain ⟨z,hz,hz2⟩ := szP_f p.f0 p.f1 p.f2 ht hr hu k (by omega)
  have e1 := g1 k (by omega)
  have e2 := g2 k (by omega)
  simp only [] at e1 e2
  unfold laws_FnExactProgText.f
  rw [hz,Option.bind_some]
  by_cases hneg : z < 0
  ·rw [if_pos hneg]
  ·rw [if_neg hneg,toP_f p.f0 p.f1 p.f2 hF k (by omega),Option.bind_some]
   show ((z6_.f k (p.f0.map cvTy) (p.f1.map cvRl) (p.f2.map cvRu)).bind _) = _
   rw [e2,Option.bind_some,Option.bind_some]
   show ((impl_ProgText.f k (p.f0.map cvTy) (p.f1.map cvRl) (p.f2.map cvRu)).bind _) = _
   rw [e1,Option.bind_some,if_pos rfl,Option.bind_some]
   show ((laws_eqProg.f k (p.f0.map cvTy) (p.f1.map cvRl) (p.f2.map cvRu) (p.f0.map cvTy) (p.f1.map cvRl) (p.f2.map cvRu)).bind _) = _
   rw [eqP_f p.f0 p.f1 p.f2 hF k (by omega),Option.bind_some,if_pos rfl]
 ·refine ⟨4000001, ?_⟩
  obtain ⟨z,hz,hz2⟩ := szP_f p.f0 p.f1 p.f2 ht hr hu 4000001 (by omega)
  unfold laws_FnExactProgText.f
  rw [hz,Option.bind_some,if_pos (Int.not_le.1 (fun h => hF (hz2 h)))]
end Go.Proofs.Ytamjmldfifofbaa.Pure
