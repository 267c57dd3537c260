-- Cut by prune.py, a program of this session, out of the texts of this claim: Lean checks it.
import Derived.Test.YtocmfolajckaeaaGreatDoorVlsQSeek
import Derived.Test.YtocmfolajckaeaaGreatDoorVlsPex22
import Derived.Test.YtocmfolajckaeaaGreatDoorVlsPex17
namespace Go.Proofs.YtocmfolajckaeaaGreatDoor.QLess
open Go.RowKit Go.Proofs.YtocmfolajckaeaaGreatDoor.Pe Go.Proofs.YtocmfolajckaeaaGreatDoorW.PrintWords Go.Proofs.YtocmfolajckaeaaGreatDoorW.PrintLast Go.Proofs.YtocmfolajckaeaaGreatDoor.QStr Go.Proofs.YtocmfolajckaeaaGreatDoor.QLaws Go.Proofs.YtocmfolajckaeaaGreatDoor.QLaw2 Go.Proofs.YtocmfolajckaeaaGreatDoor.QLaw3 Go.Proofs.YtocmfolajckaeaaGreatDoor.QRel Go.Proofs.YtocmfolajckaeaaGreatDoor.QSeek
abbrev TI := S48
theorem copyR_l (ar : Int) (rows : List TI) (hn : rows.length ≤ 400) (hr : ∀ r ∈ rows,r.f0.length ≤ 1048576) : ∀ (d i k : Nat) (out : List TI),i + d = rows.length → out.length + d ≤ 800 → d < k →
  impl_copyRel.l0 k rows (rows.length : Int) (i : Int) ar out = some (ar,out ++ rows.drop i)
 | d,i,0,_,_,_,hk => absurd hk (Nat.not_lt_zero d)
 | 0,i,k + 1,out,h,_,_ => by
  rw [impl_copyRel.l0,if_neg (by omega),List.drop_of_length_le (by omega),List.append_nil]
 | d + 1,i,k + 1,out,h,ho,hk => by
  have hi : i < rows.length := by omega
  have hl := hr rows[i] (List.getElem_mem hi)
  rw [impl_copyRel.l0,if_pos (by omega),if_pos (by omega),if_pos (by omega),QRel.rdI_get rows i hi,step_i (by omega),copy_f _ hl,Option.bind_some,if_pos (by omega),mk_f0,copyR_l ar rows hn hr d (i + 1) k _ (by omega) (by rw [List.length_append,List.length_singleton]; omega) (by omega),List.drop_eq_getElem_cons hi,List.append_assoc]
  rfl
theorem hasS_l (rows : List TI) (l : List ByteArray) (hn : rows.length ≤ 400) (hr : ∀ r ∈ rows,r.f0.length ≤ 1048576) : ∀ (d i k : Nat),i + d = rows.length → d + 1048577 < k →
  spec_l02Has.l0 k rows (i : Int) l = some (hasT (rows.drop i) l)
 | 0,i,k,h,hk => by
  obtain ⟨k,rfl⟩ : ∃ m,k = m + 1 := ⟨k - 1,by omega⟩
  rw [spec_l02Has.l0,if_neg (by omega),List.drop_of_length_le (by omega)]
  rfl
 | d + 1,i,k,h,hk => by
  obtain ⟨k,rfl⟩ : ∃ m,k = m + 1 := ⟨k - 1,by omega⟩
  have hi : i < rows.length := by omega
  have hl := hr rows[i] (List.getElem_mem hi)
  have e : hasT (rows.drop i) l = (eqT rows[i].f0 l || hasT (rows.drop (i + 1)) l) := by
   rw [List.drop_eq_getElem_cons hi]
   rfl
  rw [spec_l02Has.l0,if_pos (by omega),if_pos (by omega),QRel.rdI_get rows i hi,step_i (by omega),same_f _ _ hl k (by omega),Option.bind_some,e]
  cases eqT rows[i].f0 l with
  | true => rw [if_pos rfl,Bool.true_or]
  | false => rw [if_neg Bool.false_ne_true,Bool.false_or,hasS_l rows l hn hr d (i + 1) k (by omega) (by omega)]
theorem less_sl (a b ar : Int) (xs ys : List TI) (hn : xs.length ≤ 400) (hr : ∀ r ∈ xs,r.f0.length ≤ 1048576) (hm : ys.length ≤ 400) (hs : ∀ r ∈ ys,r.f0.length ≤ 1048576) : ∀ (d i k : Nat) (out : List TI),i + d = xs.length → out.length + d ≤ 800 → d + 1048980 < k →
  z3_.l0 k (i : Int) a xs b ys ar out = some (ar,out ++ (xs.drop i).filter (keepB ys))
 | 0,i,k,out,h,_,hk => by
  obtain ⟨k,rfl⟩ : ∃ m,k = m + 1 := ⟨k - 1,by omega⟩
  rw [z3_.l0,if_neg (by omega),List.drop_of_length_le (by omega),List.filter_nil,List.append_nil]
 | d + 1,i,k,out,h,ho,hk => by
  obtain ⟨k,rfl⟩ : ∃ m,k = m + 1 := ⟨k - 1,by omega⟩
  have hi : i < xs.length := by omega
  have hl := hr xs[i] (List.getElem_mem hi)
  have ih := fun out ho => less_sl a b ar xs ys hn hr hm hs d (i + 1) k out (by omega) ho (by omega)
  have hh : spec_l02Has.f k ys xs[i].f0 = some (hasT ys xs[i].f0) := by
   unfold spec_l02Has.f
   rw [show (0 : Int) = ((0 : Nat) : Int) from rfl,hasS_l ys _ hm hs ys.length 0 k (by omega) (by omega),List.drop_zero]
  rw [z3_.l0,if_pos (by omega),if_pos (by omega),QRel.rdI_get xs i hi,step_i (by omega),hh,Option.bind_some,List.drop_eq_getElem_cons hi,List.filter_cons]
  by_cases e : hasT ys xs[i].f0 = true
  ·have hk2 : ¬ keepB ys xs[i] = true := by unfold keepB; rw [e]; decide
   rw [if_pos e,if_neg hk2,ih _ (by omega)]
  ·have hk2 : keepB ys xs[i] = true := by unfold keepB; rw [Bool.eq_false_iff.2 e]; rfl
   rw [if_neg e,if_pos hk2,tuple_f _ hl,Option.bind_some,if_pos (by omega),mk_f0,ih _ (by rw [List.length_append,List.length_singleton]; omega),List.append_assoc]
   rfl
/-- What RelLess answers. -/
noncomputable def lessF (a : Int) (xs : List TI) (b : Int) (ys : List TI) : Int × List TI := if relB a xs = true ∧ relB b ys = true ∧ a = b then (a,xs.filter (keepB ys)) else (0,[])
theorem impl_less_f (a : Int) (xs : List TI) (b : Int) (ys : List TI) (hx : FewI xs) (hy : FewI ys) (k : Nat) (hk : 6000000 < k) : impl_RelLess.f k a xs b ys = some (lessF a xs b ys) := by
 unfold impl_RelLess.f lessF
 rw [isRel_f a xs (fun r hr => (hx.2 r hr).2) k (by omega),Option.bind_some]
 by_cases h : relB a xs = true
 ·rw [if_pos h,isRel_f b ys (fun r hr => (hy.2 r hr).2) k (by omega),Option.bind_some]
  by_cases h2 : relB b ys = true
  ·rw [if_pos h2]
   by_cases h3 : a = b
   ·obtain ⟨_,_,q1,q2⟩ := rel_rows h
    obtain ⟨_,_,q3,q4⟩ := rel_rows h2
    have hc : impl_copyRel.f k a xs = some (a,xs) := by
     unfold impl_copyRel.f
     rw [show (0 : Int) = ((0 : Nat) : Int) from rfl,copyR_l a xs q1 (fun r hr => (hx.2 r hr).1) xs.length 0 k [] (by omega) (by rw [List.length_nil]; omega) (by omega),List.nil_append,List.drop_zero]
    have ho : okB ys xs = true := by
     unfold okB
     simp only [Bool.and_eq_true,List.all_eq_true,decide_eq_true_eq]
     exact ⟨by omega,by omega,fun r hr => Nat.le_trans (hx.2 r hr).1 (by omega)⟩
    rw [if_pos h3,hc,Option.bind_some,if_pos ho,if_pos ⟨h,h2,h3⟩]
   ·rw [if_neg h3,if_neg (fun e => h3 e.2.2)]
  ·rw [if_neg h2,if_neg (fun e => h2 e.2.1)]
 ·rw [if_neg h,if_neg (fun e => h e.1)]
theorem spec_less_f (a : Int) (xs : List TI) (b : Int) (ys : List TI) (hx : FewI xs) (hy : FewI ys) (k : Nat) (hk : 6000000 < k) : z3_.f k a xs b ys = some (lessF a xs b ys) := by
 obtain ⟨k,rfl⟩ : ∃ m,k = m + 1 := ⟨k - 1,by omega⟩
 unfold z3_.f lessF
 rw [relOk_f a xs (fun r hr => (hx.2 r hr).2) (k + 1) (by omega),Option.bind_some]
 by_cases h : relB a xs = true
 ·rw [if_pos h,relOk_f b ys (fun r hr => (hy.2 r hr).2) (k + 1) (by omega),Option.bind_some]
  by_cases h2 : relB b ys = true
  ·rw [if_pos h2,z3_.j0]
   by_cases h3 : a = b
   ·obtain ⟨_,_,q1,q2⟩ := rel_rows h
    obtain ⟨_,_,q3,q4⟩ := rel_rows h2
    have e : (a != b) = false := by rw [h3]; simp
    rw [e,if_neg Bool.false_ne_true,show (0 : Int) = ((0 : Nat) : Int) from rfl,less_sl a b a xs ys q1 (fun r hr => (hx.2 r hr).1) q3 (fun r hr => (hy.2 r hr).1) xs.length 0 k [] (by omega) (by rw [List.length_nil]; omega) (by omega),if_pos ⟨h,h2,h3⟩,List.nil_append,List.drop_zero]
   ·have e : (a != b) = true := by simp [h3]
    rw [e,if_pos rfl,if_neg (fun e => h3 e.2.2)]
  ·rw [if_neg h2,z3_.j0,if_pos rfl,if_neg (fun e => h2 e.2.1)]
 ·rw [if_neg h,z3_.j0,if_pos rfl,if_neg (fun e => h e.1)]
end Go.Proofs.YtocmfolajckaeaaGreatDoor.QLess
