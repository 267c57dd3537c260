-- Cut by prune.py, a program of this session, out of the texts of this claim: Lean checks it.
import Derived.Test.YtebadckdihgklaaGreatDoorVrhPhx20
import Derived.Test.YtebadckdihgklaaGreatDoorVrhQRel
import Derived.Test.YtebadckdihgklaaGreatDoorVrhQLaw3
namespace Go.Proofs.YtebadckdihgklaaGreatDoor.Pure
open Go.RowKit Go.Proofs.YtebadckdihgklaaGreatDoor.Ph Go.Proofs.YtebadckdihgklaaGreatDoorW.PrintWords Go.Proofs.YtebadckdihgklaaGreatDoorW.PrintLast Go.Proofs.YtebadckdihgklaaGreatDoor.QStr Go.Proofs.YtebadckdihgklaaGreatDoor.QLaws Go.Proofs.YtebadckdihgklaaGreatDoor.QLaw2 Go.Proofs.YtebadckdihgklaaGreatDoor.QLaw3 Go.Proofs.YtebadckdihgklaaGreatDoor.QRel
theorem room_of {l : List ByteArray} (h : l.length ≤ maxLen ∧ l.length * 16 ≤ 140737488351232 ∧ ∀ x ∈ l,x.size ≤ 140737488351232) : Room l :=
 ⟨by omega,fun s hs => by have := h.2.2 s hs; omega⟩
theorem p_toList_data (s : ByteArray) : s.toList = s.data.toList := by
 obtain ⟨a⟩ := s
 obtain ⟨l⟩ := a
 exact ByteArray.toList_mk l
theorem p_sameT_cons (a b : ByteArray) (l m : List ByteArray) : sameT (a :: l) (b :: m) = (decide (a.data.toList = b.data.toList) && sameT l m) := by
 unfold sameT
 rw [List.map_cons,List.map_cons,← Bool.decide_and]
 exact decide_eq_decide.2 (by rw [List.cons.injEq])
theorem p_sameT_len {l m : List ByteArray} (h : l.length ≠ m.length) : sameT l m = false :=
 decide_eq_false (fun e => h (by have := congrArg List.length e; rwa [List.length_map,List.length_map] at this))
theorem l02Same_l (l m : List ByteArray) (hl : l.length = m.length) (hn : l.length ≤ 1048576) : ∀ (d i k : Nat),i + d = l.length → d < k → spec_l02Same.l0 k (i : Int) l m = some (sameT (l.drop i) (m.drop i))
 | d,i,0,_,hk => absurd hk (Nat.not_lt_zero d)
 | 0,i,k + 1,h,_ => by
  rw [spec_l02Same.l0,if_neg (by omega),List.drop_of_length_le (by omega),List.drop_of_length_le (by omega)]
  rfl
 | d + 1,i,k + 1,h,hk => by
  have hi : i < l.length := by omega
  have hj : i < m.length := by omega
  rw [spec_l02Same.l0,if_pos (by omega),if_pos (by omega),if_pos (by omega),rdOf_get l i hi,rdOf_get m i hj,p_toList_data,p_toList_data,List.drop_eq_getElem_cons hi,List.drop_eq_getElem_cons hj,p_sameT_cons]
  by_cases e : l[i].data.toList = m[i].data.toList
  ·rw [if_pos e,step_i (by omega),l02Same_l l m hl hn d (i + 1) k (by omega) (by omega),decide_eq_true e,Bool.true_and]
  ·rw [if_neg e,decide_eq_false e,Bool.false_and]
theorem l02Same_f (l m : List ByteArray) (hn : l.length ≤ 1048576) (k : Nat) (hk : 1048577 < k) : spec_l02Same.f k l m = some (sameT l m) := by
 unfold spec_l02Same.f
 by_cases hl : l.length = m.length
 ·rw [if_pos (by omega),show (0 : Int) = ((0 : Nat) : Int) from rfl,l02Same_l l m hl hn l.length 0 k (by omega) (by omega)]
  rfl
 ·rw [if_neg (by omega),p_sameT_len hl]
theorem l02Has_l (xs : List S35) (m : List ByteArray) (hx : FewI xs) : ∀ (d i k : Nat),i + d = xs.length → d + 1048578 < k → spec_l02Has.l0 k xs (i : Int) m = some (hasT (xs.drop i) m)
 | d,i,0,_,hk => absurd hk (Nat.not_lt_zero _)
 | 0,i,k + 1,h,_ => by
  rw [spec_l02Has.l0,if_neg (by omega),List.drop_of_length_le (by omega)]
  rfl
 | d + 1,i,k + 1,h,hk => by
  have hi : i < xs.length := by omega
  have hn := hx.1
  rw [spec_l02Has.l0,if_pos (by omega),if_pos (by omega),QRel.rdI_get xs i hi,l02Same_f _ m (hx.2 _ (List.getElem_mem hi)).1 k (by omega),Option.bind_some,List.drop_eq_getElem_cons hi]
  by_cases e : sameT xs[i].f0 m = true
  ·rw [if_pos e]
   unfold hasT
   rw [List.any_cons,e,Bool.true_or]
  ·rw [if_neg e,step_i (by omega),l02Has_l xs m hx d (i + 1) k (by omega) (by omega)]
   unfold hasT
   rw [List.any_cons,Bool.eq_false_iff.2 e,Bool.false_or]
theorem FnExactRelHas : laws_FnExactRelHas.Pure := by
 intro x y hx hy
 obtain ⟨ar,l⟩ := x
 obtain ⟨m⟩ := y
 have hm : Room m := room_of hy
 have hr : RoomR l := by
  obtain ⟨h1,h2,h3,h4⟩ := hx
  refine ⟨by simp only at h2 h3; omega,fun a ha => ?_⟩
  have h5 := h4 a ha
  obtain ⟨h6,h7,h8⟩ := h5
  exact ⟨by omega,fun s hs => by have : s.size ≤ 140737488351232 := h8 s hs; omega⟩
 obtain ⟨K,hK⟩ : ∃ K : Nat,K = 6000000 := ⟨_,rfl⟩
 refine ⟨K, ?_⟩
 unfold laws_FnExactRelHas.f
 obtain ⟨r,h1,h2,h3⟩ := szR_f ar l hr 1048576 (by omega) (by omega) K (by omega)
 simp only []
 rw [h1,Option.bind_some]
 by_cases h0 : r < 0
 ·rw [if_pos h0]
 rw [if_neg h0]
 obtain ⟨q,g1,g2,g3⟩ := szT_f m hm r (by omega) (by omega) K (by omega)
 rw [g1,Option.bind_some]
 by_cases g0 : q < 0
 ·rw [if_pos g0]
 rw [if_neg g0]
 have hf := h3 (by omega)
 have hg := g3 (by omega)
 have hi := few_cv hf
 have hs : ∀ r ∈ l.map cv,∀ x ∈ r.f0,x.size ≤ 1048576 := fun r hr => (hi.2 r hr).2
 have e1 : spec_RelHas.f K ar (l.map cv) m = some (relB ar (l.map cv) && hasT (l.map cv) m) := by
  unfold spec_RelHas.f
  rw [relOk_f ar _ hs K (by omega),Option.bind_some]
  by_cases e : relB ar (l.map cv) = true
  ·rw [if_pos e,e,Bool.true_and]
   unfold spec_l02Has.f
   rw [show (0 : Int) = ((0 : Nat) : Int) from rfl,l02Has_l _ m hi _ 0 K (Nat.zero_add _) (by have := hi.1; omega),Option.bind_some]
   rfl
  ·rw [if_neg e,Bool.eq_false_iff.2 e,Bool.false_and]
 have e2 : impl_RelHas.f K ar (l.map cv) m = some (relB ar (l.map cv) && hasT (l.map cv) m) := by
  unfold impl_RelHas.f
  rw [isRel_f ar _ hs K (by omega),Option.bind_some]
  by_cases e : relB ar (l.map cv) = true
  ·rw [if_pos e,e,Bool.true_and]
   unfold impl_Rel_has.f
   rw [if_pos (by have := hi.1; omega),if_pos (by have := hg.1; omega),Option.bind_some]
  ·rw [if_neg e,Bool.eq_false_iff.2 e,Bool.false_and]
 rw [toR_f ar l hf K (by omega),Option.bind_some,toT_f m hg K (by omega),Option.bind_some]
 simp only []
 rw [e1,Option.bind_some,Option.bind_some,Option.bind_some]
 simp only []
 rw [e2,Option.bind_some,bne_self_eq_false,if_neg (by decide),Option.bind_some]
 simp only []
 rw [eqR_f ar _ hi K (by omega),Option.bind_some,if_pos rfl,Option.bind_some,eqT_f m hg K (by omega),Option.bind_some,if_pos rfl]
end Go.Proofs.YtebadckdihgklaaGreatDoor.Pure
