-- Cut by prune.py, a program of this session, out of the texts of this claim: Lean checks it.
import Derived.Test.YtkajecadkkgfmaaGreatDoorVptPex22
import Derived.Test.YtkajecadkkgfmaaGreatDoorVptQPut
import Derived.Test.YtkajecadkkgfmaaGreatDoorVptQMarkT
namespace Go.Proofs.YtkajecadkkgfmaaGreatDoor.Pure
open Go.RowKit Go.Proofs.YtkajecadkkgfmaaGreatDoor.Pe Go.Proofs.YtkajecadkkgfmaaGreatDoorW.PrintWords Go.Proofs.YtkajecadkkgfmaaGreatDoorW.PrintLast Go.Proofs.YtkajecadkkgfmaaGreatDoor.QStr Go.Proofs.YtkajecadkkgfmaaGreatDoor.QLaws Go.Proofs.YtkajecadkkgfmaaGreatDoor.QLaw2 Go.Proofs.YtkajecadkkgfmaaGreatDoor.QLaw3 Go.Proofs.YtkajecadkkgfmaaGreatDoor.QRel Go.Proofs.YtkajecadkkgfmaaGreatDoor.QPut Go.Proofs.YtkajecadkkgfmaaGreatDoor.QMark Go.Proofs.YtkajecadkkgfmaaGreatDoor.QMarkT
theorem FnExactRelPut : laws_FnExactRelPut.Pure := by
 intro x y hx hy
 obtain ⟨ar,l⟩ := x
 obtain ⟨m⟩ := y
 have hr : RoomR l := by
  obtain ⟨h1,h2,h3,h4⟩ := hx
  refine ⟨by simp only at h2 h3; omega,fun a ha => ?_⟩
  have h5 := h4 a ha
  obtain ⟨h6,h7,h8⟩ := h5
  exact ⟨by omega,fun s hs => by have : s.size ≤ 140737488351232 := h8 s hs; omega⟩
 have hr2 : Room m := by
  obtain ⟨h6,h7,h8⟩ := hy
  exact ⟨by simp only at h7; omega,fun s hs => by have : s.size ≤ 140737488351232 := h8 s hs; omega⟩
 clear hx hy
 obtain ⟨K,hK⟩ : ∃ K : Nat,K = 9000000 := ⟨_,rfl⟩
 refine ⟨K, ?_⟩
 unfold laws_FnExactRelPut.Run
 obtain ⟨r,e1,h2,h3⟩ := szR_f ar l hr 1048576 (by omega) (by omega) K (by omega)
 refine ⟨r,e1, ?_⟩
 by_cases h0 : r < 0
 ·exact Or.inl h0
 have hf := h3 (by omega)
 have hi := few_cv hf
 have hsum := szRel_sum ar l hr K 1048576 r (by omega) (by omega) e1 h0
 obtain ⟨r2,e2,h4,h5⟩ := szT_f m hr2 r (by omega) (by omega) K (by omega)
 refine Or.inr ⟨h0,r2,e2, ?_⟩
 by_cases h6 : r2 < 0
 ·exact Or.inl h6
 have hf2 := h5 (by omega)
 have ht : tot (l.map cv) ≤ 1048576 := by
  rw [tot_cv]
  omega
 have hn1 := hi.1
 have hn2 := hf2.1
 obtain ⟨⟨gr,gs,gb⟩,p1,p2,hg,hgt⟩ := put_both ar (l.map cv) m hi hf2
 simp only [] at hg hgt
 have hn3 := hg.1
 refine Or.inr ⟨h6,ar,l.map cv,m,gr,gs,gb,_,_,_,_,_,_,toR_f ar l hf K (by omega),toT_f m hf2 K (by omega),p2 K (by omega),p1 K (by omega),eqR_f _ _ hg K (by omega),eqR_f ar _ hi K (by omega),eqT_f m hf2 K (by omega),
  (markT_f (l.map cv) 1 hn1 (by omega) K (by omega) : laws_markTupleS.f K (l.map cv) ((1 : Nat) : Int) = _),(?_ : laws_markTuple.f K m ((1 + tot (l.map cv) : Nat) : Int) = some (((1 + tot (l.map cv) + m.length : Nat) : Int),marks (1 + tot (l.map cv)) m.length)),by omega,(markT_f gs 1 hn3 (by omega) K (by omega) : laws_markTupleS.f K gs ((1 : Nat) : Int) = _),mkT_len _ _, ?_,(?_ : ¬ (((1 + tot gs : Nat) : Int) < 0))⟩
 ·unfold laws_markTuple.f
  rw [markS_f (1 + tot (l.map cv)) m (by omega) K (by omega),Option.bind_some]
 ·unfold laws_heldRel.f
  have hh : laws_heldTupleS.f K (mkT 1 gs) 1 = some (((1 + tot gs : Nat) : Int)) := heldT_f gs 1 hn3 (by omega) K (by omega)
  rw [hh,Option.bind_some,if_neg (by omega)]
 ·omega
end Go.Proofs.YtkajecadkkgfmaaGreatDoor.Pure
