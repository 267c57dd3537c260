-- Cut by prune.py, a program of this session, out of the texts of this claim: Lean checks it.
import Derived.Test.YtocmfolajckaeaaGreatDoorVlsPex24
import Derived.Test.YtocmfolajckaeaaGreatDoorVlsQLess
import Derived.Test.YtocmfolajckaeaaGreatDoorVlsQMarkT
namespace Go.Proofs.YtocmfolajckaeaaGreatDoor.Pure
open Go.RowKit Go.Proofs.YtocmfolajckaeaaGreatDoor.Pe Go.Proofs.YtocmfolajckaeaaGreatDoorW.PrintWords Go.Proofs.YtocmfolajckaeaaGreatDoorW.PrintLast Go.Proofs.YtocmfolajckaeaaGreatDoor.QStr Go.Proofs.YtocmfolajckaeaaGreatDoor.QLaws Go.Proofs.YtocmfolajckaeaaGreatDoor.QLaw2 Go.Proofs.YtocmfolajckaeaaGreatDoor.QLaw3 Go.Proofs.YtocmfolajckaeaaGreatDoor.QRel Go.Proofs.YtocmfolajckaeaaGreatDoor.QLess Go.Proofs.YtocmfolajckaeaaGreatDoor.QMark Go.Proofs.YtocmfolajckaeaaGreatDoor.QMarkT
theorem less_few {a b : Int} {xs ys : List QMarkT.TI} (hf : FewI xs) : FewI (lessF a xs b ys).2 ∧ tot (lessF a xs b ys).2 ≤ tot xs := by
 unfold lessF
 by_cases h : relB a xs = true ∧ relB b ys = true ∧ a = b
 ·rw [if_pos h]
  exact ⟨⟨Nat.le_trans (List.length_filter_le _ _) hf.1,fun r hr => hf.2 r (List.mem_filter.1 hr).1⟩,tot_filter _ _⟩
 ·rw [if_neg h]
  exact ⟨⟨Nat.zero_le _,fun r hr => by cases hr⟩,Nat.zero_le _⟩
theorem FnExactRelLess : laws_FnExactRelLess.Pure := by
 intro x y hx hy
 obtain ⟨ar,l⟩ := x
 obtain ⟨br,m⟩ := y
 have hr : RoomR l := by
  obtain ⟨h1,h2,h3,h4⟩ := hx
  refine ⟨by simp only at h2 h3; omega,fun a ha => ?_⟩
  have h5 := h4 a ha
  obtain ⟨h6,h7,h8⟩ := h5
  exact ⟨by omega,fun s hs => by have : s.size ≤ 140737488351232 := h8 s hs; omega⟩
 have hr2 : RoomR m := by
  obtain ⟨h1,h2,h3,h4⟩ := hy
  refine ⟨by simp only at h2 h3; omega,fun a ha => ?_⟩
  have h5 := h4 a ha
  obtain ⟨h6,h7,h8⟩ := h5
  exact ⟨by omega,fun s hs => by have : s.size ≤ 140737488351232 := h8 s hs; omega⟩
 clear hx hy
 obtain ⟨K,hK⟩ : ∃ K : Nat,K = 9000000 := ⟨_,rfl⟩
 refine ⟨K, ?_⟩
 unfold laws_FnExactRelLess.Run
 obtain ⟨r,e1,h2,h3⟩ := szR_f ar l hr 1048576 (by omega) (by omega) K (by omega)
 refine ⟨r,e1, ?_⟩
 by_cases h0 : r < 0
 ·exact Or.inl h0
 have hf := h3 (by omega)
 have hi := few_cv hf
 have hsum := szRel_sum ar l hr K 1048576 r (by omega) (by omega) e1 h0
 obtain ⟨r2,e2,h4,h5⟩ := szR_f br m hr2 r (by omega) (by omega) K (by omega)
 refine Or.inr ⟨h0,r2,e2, ?_⟩
 by_cases h6 : r2 < 0
 ·exact Or.inl h6
 have hf2 := h5 (by omega)
 have hi2 := few_cv hf2
 have hsum2 := szRel_sum br m hr2 K r r2 (by omega) (by omega) e2 h6
 have ht : tot (l.map cv) ≤ 1048576 := by
  rw [tot_cv]
  omega
 have ht2 : tot (m.map cv) ≤ 1048576 := by
  rw [tot_cv]
  omega
 have hn1 := hi.1
 have hn2 := hi2.1
 obtain ⟨hg,hgt⟩ := less_few (a := ar) (b := br) (ys := m.map cv) hi
 have hn3 := hg.1
 refine Or.inr ⟨h6,ar,l.map cv,br,m.map cv,(lessF ar (l.map cv) br (m.map cv)).1,(lessF ar (l.map cv) br (m.map cv)).2,_,_,_,_,_,_,toR_f ar l hf K (by omega),toR_f br m hf2 K (by omega),spec_less_f ar _ br _ hi hi2 K (by omega),impl_less_f ar _ br _ hi hi2 K (by omega),eqR_f _ _ hg K (by omega),eqR_f ar _ hi K (by omega),eqR_f br _ hi2 K (by omega),
  (markT_f (l.map cv) 1 hn1 (by omega) K (by omega) : laws_markTupleS.f K (l.map cv) ((1 : Nat) : Int) = _),(markT_f (m.map cv) (1 + tot (l.map cv)) hn2 (by omega) K (by omega) : laws_markTupleS.f K (m.map cv) ((1 + tot (l.map cv) : Nat) : Int) = _),by omega,(markT_f _ 1 hn3 (by omega) K (by omega) : laws_markTupleS.f K (lessF ar (l.map cv) br (m.map cv)).2 ((1 : Nat) : Int) = _),mkT_len _ _, ?_,(?_ : ¬ (((1 + tot (lessF ar (l.map cv) br (m.map cv)).2 : Nat) : Int) < 0))⟩
 ·unfold laws_heldRel.f
  have hh : laws_heldTupleS.f K (mkT 1 (lessF ar (l.map cv) br (m.map cv)).2) 1 = some (((1 + tot (lessF ar (l.map cv) br (m.map cv)).2 : Nat) : Int)) := heldT_f (lessF ar (l.map cv) br (m.map cv)).2 1 hn3 (by omega) K (by omega)
  rw [hh,Option.bind_some,if_neg (by omega)]
 ·omega
end Go.Proofs.YtocmfolajckaeaaGreatDoor.Pure
