-- Cut by prune.py, a program of this session, out of the texts of this claim: Lean checks it.
import Derived.Test.YtkajecadkkgfmaaGreatDoorVptQLaw3
import Derived.Test.YtkajecadkkgfmaaGreatDoorVptQMark
import Derived.Test.YtkajecadkkgfmaaGreatDoorVptPex22
namespace Go.Proofs.YtkajecadkkgfmaaGreatDoor.QMarkT
open Go.RowKit Go.Proofs.YtkajecadkkgfmaaGreatDoor.Pe Go.Proofs.YtkajecadkkgfmaaGreatDoorW.PrintWords Go.Proofs.YtkajecadkkgfmaaGreatDoorW.PrintLast Go.Proofs.YtkajecadkkgfmaaGreatDoor.QStr Go.Proofs.YtkajecadkkgfmaaGreatDoor.QLaws Go.Proofs.YtkajecadkkgfmaaGreatDoor.QLaw2 Go.Proofs.YtkajecadkkgfmaaGreatDoor.QLaw3 Go.Proofs.YtkajecadkkgfmaaGreatDoor.QMark
abbrev TI := S36
/-- How many texts the rows have. -/
def tot : List TI → Nat
 | [] => 0
 | r :: l => r.f0.length + tot l
def mkT : Nat → List TI → List TI
 | _,[] => []
 | n,r :: l => ⟨marks n r.f0.length⟩ :: mkT (n + r.f0.length) l
theorem mkT_len : ∀ n l,(mkT n l).length = l.length
 | _,[] => rfl
 | n,r :: l => congrArg (· + 1) (mkT_len (n + r.f0.length) l)
theorem rdT_mid (p l : List TI) (x : TI) : y21 (p ++ x :: l) (p.length : Int) = x := by
 rw [QLaw3.rdI_get _ _ (by simp)]
 simp
theorem setT_mid (p l : List TI) (x y : TI) : (p ++ x :: l).set p.length y = p ++ y :: l := by simp
theorem markT_l : ∀ (l p : List TI) (n k : Nat),p.length + l.length ≤ 1048576 → n + tot l < 1000000000 → tot l + l.length + 30 < k → laws_markTupleS.l0 k (p ++ l) (n : Int) (p.length : Int) = some (((n + tot l : Nat) : Int),p ++ mkT n l)
 | [],p,n,k,h1,h2,hk => by
  obtain ⟨k,rfl⟩ : ∃ m,k = m + 1 := ⟨k - 1,by omega⟩
  rw [laws_markTupleS.l0,if_neg (by simp)]
  simp [mkT,tot]
 | x :: l,p,n,k,h1,h2,hk => by
  rw [List.length_cons] at h1 hk
  simp only [tot] at h2 hk
  obtain ⟨k,rfl⟩ : ∃ m,k = m + 1 := ⟨k - 1,by omega⟩
  rw [laws_markTupleS.l0,if_pos (by rw [List.length_append,List.length_cons]; omega),if_pos (by omega),rdT_mid,markS_f n x.f0 (by omega) k (by omega),Option.bind_some,show ((p.length : Int)).toNat = p.length from rfl,setT_mid,step_i (by omega)]
  have e : p ++ (⟨marks n x.f0.length⟩ : TI) :: l = (p ++ [⟨marks n x.f0.length⟩]) ++ l := by simp
  simp only []
  rw [e]
  have ih := markT_l l (p ++ [⟨marks n x.f0.length⟩]) (n + x.f0.length) k (by rw [List.length_append,List.length_singleton]; omega) (by omega) (by omega)
  rw [List.length_append,List.length_singleton] at ih
  rw [ih]
  simp only [mkT,tot,List.append_assoc,List.singleton_append]
  rw [show n + x.f0.length + tot l = n + (x.f0.length + tot l) by omega]
theorem heldT_l : ∀ (l p : List TI) (n k : Nat),p.length + l.length ≤ 1048576 → n + tot l < 1000000000 → tot l + l.length + 30 < k → laws_heldTupleS.l0 k (p ++ mkT n l) (n : Int) (p.length : Int) = some ((n + tot l : Nat) : Int)
 | [],p,n,k,h1,h2,hk => by
  obtain ⟨k,rfl⟩ : ∃ m,k = m + 1 := ⟨k - 1,by omega⟩
  rw [laws_heldTupleS.l0,if_neg (by simp [mkT])]
  simp [tot]
 | x :: l,p,n,k,h1,h2,hk => by
  rw [List.length_cons] at h1 hk
  simp only [tot] at h2 hk
  obtain ⟨k,rfl⟩ : ∃ m,k = m + 1 := ⟨k - 1,by omega⟩
  have e1 : p ++ mkT n (x :: l) = p ++ (⟨marks n x.f0.length⟩ : TI) :: mkT (n + x.f0.length) l := rfl
  have e : p ++ mkT n (x :: l) = (p ++ [⟨marks n x.f0.length⟩]) ++ mkT (n + x.f0.length) l := by rw [e1]; simp
  have hr : y21 (p ++ mkT n (x :: l)) (p.length : Int) = ⟨marks n x.f0.length⟩ := by rw [e1,rdT_mid]
  rw [laws_heldTupleS.l0,if_pos (by rw [List.length_append,mkT_len,List.length_cons]; omega),if_pos (by omega),hr]
  simp only []
  rw [heldS_f n x.f0.length (by omega) k (by omega),Option.bind_some,if_neg (by omega),step_i (by omega),e]
  have ih := heldT_l l (p ++ [⟨marks n x.f0.length⟩]) (n + x.f0.length) k (by rw [List.length_append,List.length_singleton]; omega) (by omega) (by omega)
  rw [List.length_append,List.length_singleton] at ih
  rw [ih]
  simp only [tot]
  rw [show n + x.f0.length + tot l = n + (x.f0.length + tot l) by omega]
theorem markT_f (l : List TI) (n : Nat) (h1 : l.length ≤ 1048576) (h2 : n + tot l < 1000000000) (k : Nat) (hk : tot l + l.length + 30 < k) : laws_markTupleS.f k l (n : Int) = some (((n + tot l : Nat) : Int),mkT n l) := by
 have := markT_l l [] n k (by rw [List.length_nil]; omega) h2 hk
 rw [List.nil_append,List.nil_append,List.length_nil] at this
 exact this
theorem heldT_f (l : List TI) (n : Nat) (h1 : l.length ≤ 1048576) (h2 : n + tot l < 1000000000) (k : Nat) (hk : tot l + l.length + 30 < k) : laws_heldTupleS.f k (mkT n l) (n : Int) = some ((n + tot l : Nat) : Int) := by
 have := heldT_l l [] n k (by rw [List.length_nil]; omega) h2 hk
 rw [List.nil_append,List.length_nil] at this
 exact this
theorem szS_down (xs : List ByteArray) (hx : xs.length ≤ 281474976710656) (hs : ∀ s ∈ xs,s.size ≤ 281474976710656) : ∀ (k i : Nat) (v r : Int),0 ≤ v → v ≤ 1048576 → laws_szStringS.l0 k xs v (i : Int) = some r → r ≤ v
 | 0,i,v,r,_,_,h => by cases h
 | k + 1,i,v,r,h0,h1,h => by
  rw [laws_szStringS.l0] at h
  by_cases c : (i : Int) < (xs.length : Int)
  ·have hi : i < xs.length := by omega
   have hz := hs xs[i] (List.getElem_mem hi)
   rw [if_pos c,if_pos (by omega),rdOf_get xs i hi,wrapS (by omega) (by omega)] at h
   by_cases c2 : v - (xs[i].size : Int) < 0
   ·rw [if_pos c2] at h
    injection h with h
    omega
   ·rw [if_neg c2,step_i (by omega)] at h
    have := szS_down xs hx hs k (i + 1) _ r (by omega) (by omega) h
    omega
  ·rw [if_neg c] at h
   injection h with h
   omega
theorem szS_sum (xs : List ByteArray) (hx : Room xs) (k : Nat) (v r : Int) (h0 : 0 ≤ v) (h1 : v ≤ 1048576) (h : laws_szStringS.f k xs v = some r) (hr : 0 ≤ r) : r + (xs.length : Int) ≤ v := by
 obtain ⟨hx1,hx2⟩ := hx
 unfold laws_szStringS.f at h
 rw [wrapS (by omega) (by omega)] at h
 by_cases c : v - (xs.length : Int) < 0
 ·rw [if_pos c] at h
  injection h with h
  omega
 ·rw [if_neg c] at h
  have := szS_down xs (by omega) hx2 k 0 _ r (by omega) (by omega) h
  omega
def totL : List TL → Nat
 | [] => 0
 | r :: l => r.f0.length + totL l
theorem tot_cv : ∀ l : List TL,tot (l.map cv) = totL l
 | [] => rfl
 | r :: l => by
  show r.f0.length + tot (l.map cv) = r.f0.length + totL l
  rw [tot_cv l]
theorem szR_sum (xs : List TL) (hx : RoomR xs) : ∀ (k i : Nat) (v r : Int),0 ≤ v → v ≤ 1048576 → laws_szTupleS.l0 k xs v (i : Int) = some r → 0 ≤ r → r + (totL (xs.drop i) : Int) ≤ v
 | 0,i,v,r,_,_,h,_ => by cases h
 | k + 1,i,v,r,h0,h1,h,hr => by
  have hx1 := hx.1
  rw [laws_szTupleS.l0] at h
  by_cases c : (i : Int) < (xs.length : Int)
  ·have hi : i < xs.length := by omega
   have hz := hx.2 xs[i] (List.getElem_mem hi)
   rw [if_pos c,if_pos (by omega),QLaw3.rdL_get xs i hi] at h
   obtain ⟨t,ht,h⟩ := Option.bind_eq_some_iff.1 h
   unfold laws_szTuple.f at ht
   obtain ⟨t2,ht2,ht⟩ := Option.bind_eq_some_iff.1 ht
   by_cases c2 : t2 < 0
   ·rw [if_pos c2] at ht
    injection ht with ht
    subst ht
    rw [if_pos (by omega)] at h
    injection h with h
    omega
   ·rw [if_neg c2] at ht
    injection ht with ht
    subst ht
    have h5 := szS_sum xs[i].f0 hz k v t2 h0 h1 ht2 (by omega)
    rw [if_neg c2,step_i (by omega)] at h
    have h6 := szR_sum xs hx k (i + 1) t2 r (by omega) (by omega) h hr
    rw [List.drop_eq_getElem_cons hi]
    show r + ((xs[i].f0.length + totL (xs.drop (i + 1)) : Nat) : Int) ≤ v
    omega
  ·rw [if_neg c] at h
   injection h with h
   rw [List.drop_of_length_le (by omega)]
   show r + ((0 : Nat) : Int) ≤ v
   omega
theorem szRel_sum (ar : Int) (xs : List TL) (hx : RoomR xs) (k : Nat) (v r : Int) (h0 : 0 ≤ v) (h1 : v ≤ 1048576) (h : laws_szRel.f k ar xs v = some r) (hr : ¬ r < 0) : r + (totL xs : Int) ≤ v := by
 have hx1 := hx.1
 unfold laws_szRel.f at h
 obtain ⟨t,ht,h⟩ := Option.bind_eq_some_iff.1 h
 by_cases c : t < 0
 ·rw [if_pos c] at h
  injection h with h
  omega
 ·rw [if_neg c] at h
  injection h with h
  subst h
  unfold laws_szTupleS.f at ht
  rw [wrapS (by omega) (by omega)] at ht
  by_cases c2 : v - (xs.length : Int) < 0
  ·rw [if_pos c2] at ht
   injection ht with ht
   omega
  ·rw [if_neg c2] at ht
   have := szR_sum xs hx k 0 _ t (by omega) (by omega) ht (by omega)
   rw [List.drop_zero] at this
   omega
end Go.Proofs.YtkajecadkkgfmaaGreatDoor.QMarkT
