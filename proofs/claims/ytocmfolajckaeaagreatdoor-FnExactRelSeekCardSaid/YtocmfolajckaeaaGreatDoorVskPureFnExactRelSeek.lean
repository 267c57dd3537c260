-- Cut by prune.py, a program of this session, out of the texts of this claim: Lean checks it.
import Derived.Test.YtocmfolajckaeaaGreatDoorVskPex18
import Derived.Test.YtocmfolajckaeaaGreatDoorVskQSeek
import Derived.Test.YtocmfolajckaeaaGreatDoorVskQMarkT
namespace Go.Proofs.YtocmfolajckaeaaGreatDoor.Pure
open Go.RowKit Go.Proofs.YtocmfolajckaeaaGreatDoor.Pe Go.Proofs.YtocmfolajckaeaaGreatDoorW.PrintWords Go.Proofs.YtocmfolajckaeaaGreatDoorW.PrintLast Go.Proofs.YtocmfolajckaeaaGreatDoor.QStr Go.Proofs.YtocmfolajckaeaaGreatDoor.QLaws Go.Proofs.YtocmfolajckaeaaGreatDoor.QLaw2 Go.Proofs.YtocmfolajckaeaaGreatDoor.QLaw3 Go.Proofs.YtocmfolajckaeaaGreatDoor.QRel Go.Proofs.YtocmfolajckaeaaGreatDoor.QSeek Go.Proofs.YtocmfolajckaeaaGreatDoor.QMark Go.Proofs.YtocmfolajckaeaaGreatDoor.QMarkT
theorem seek_few {ar : Int} {rows : List QMarkT.TI} {hs : List ByteArray} (hf : FewI rows) : FewI (seekF ar rows hs) ∧ tot (seekF ar rows hs) ≤ tot rows := by
 unfold seekF
 by_cases h : relB ar rows = true
 ·rw [if_pos h]
  exact ⟨⟨Nat.le_trans (List.length_filter_le _ _) hf.1,fun r hr => hf.2 r (List.mem_filter.1 hr).1⟩,tot_filter _ _⟩
 ·rw [if_neg h]
  exact ⟨⟨Nat.zero_le _,fun r hr => by cases hr⟩,Nat.zero_le _⟩
theorem eqTS_f (xs : List QMarkT.TI) (hx : FewI xs) (k : Nat) (hk : 2100000 < k) : laws_eqTupleS.f k xs xs = some true := by
 have hx1 := hx.1
 unfold laws_eqTupleS.f
 rw [if_pos rfl]
 exact eqR_l xs hx xs.length 0 k (by omega) (by omega)
theorem FnExactRelSeek : laws_FnExactRelSeek.Pure := by
 intro x l1 hx hl
 obtain ⟨ar,l⟩ := x
 have hr : RoomR l := by
  obtain ⟨h1,h2,h3,h4⟩ := hx
  refine ⟨by simp only at h2 h3; omega,fun a ha => ?_⟩
  have h5 := h4 a ha
  obtain ⟨h6,h7,h8⟩ := h5
  exact ⟨by omega,fun s hs => by have : s.size ≤ 140737488351232 := h8 s hs; omega⟩
 have hl1 : Room l1 := by
  obtain ⟨h6,h7,h8⟩ := hl
  exact ⟨by omega,fun s hs => by have : s.size ≤ 140737488351232 := h8 s hs; omega⟩
 clear hx hl
 obtain ⟨K,hK⟩ : ∃ K : Nat,K = 9000000 := ⟨_,rfl⟩
 refine ⟨K, ?_⟩
 unfold laws_FnExactRelSeek.Run
 obtain ⟨r,e1,h2,h3⟩ := szR_f ar l hr 1048576 (by omega) (by omega) K (by omega)
 refine ⟨r,e1, ?_⟩
 by_cases h0 : r < 0
 ·exact Or.inl h0
 obtain ⟨r2,e2,h4,h5⟩ := szS_g l1 hl1 r (by omega) (by omega) K (by omega)
 refine Or.inr ⟨h0,r2,e2, ?_⟩
 by_cases h6 : r2 < 0
 ·exact Or.inl h6
 have hf := h3 (by omega)
 have hi := few_cv hf
 have hh := h5 (by omega)
 have hsum := szRel_sum ar l hr K 1048576 r (by omega) (by omega) e1 h0
 have ht : tot (l.map cv) ≤ 1048576 := by
  rw [tot_cv]
  omega
 have hn1 := hi.1
 have hn2 := hh.1
 obtain ⟨hg,hgt⟩ := seek_few (ar := ar) (hs := l1) hi
 have hn3 := hg.1
 refine Or.inr ⟨h6,ar,l.map cv,l1,seekF ar (l.map cv) l1,_,_,_,_,_,_,toR_f ar l hf K (by omega),toS_f l1 (by omega) K (by omega),spec_seek_f ar _ _ hi hn2 K (by omega),impl_seek_f ar _ _ hi hn2 K (by omega),eqTS_f _ hg K (by omega),eqR_f ar _ hi K (by omega),eqS_f l1 (by omega) K (by omega),
  (markT_f (l.map cv) 1 hn1 (by omega) K (by omega) : laws_markTupleS.f K (l.map cv) ((1 : Nat) : Int) = _),markS_f (1 + tot (l.map cv)) l1 (by omega) K (by omega),by omega,(markT_f _ 1 hn3 (by omega) K (by omega) : laws_markTupleS.f K (seekF ar (l.map cv) l1) ((1 : Nat) : Int) = _),mkT_len _ _,(heldT_f _ 1 hn3 (by omega) K (by omega) : laws_heldTupleS.f K _ ((1 : Nat) : Int) = _),by omega⟩
end Go.Proofs.YtocmfolajckaeaaGreatDoor.Pure
