-- Cut by prune.py, a program of this session, out of the texts of this claim: Lean checks it.
import Derived.Test.YtamjmldfifofbaaGreatDoorVfaPfx20
import Derived.Test.YtamjmldfifofbaaGreatDoorVfaQTupA
import Derived.Test.YtamjmldfifofbaaGreatDoorVfaQProg
namespace Go.Proofs.YtamjmldfifofbaaGreatDoor.Pure
open Go.RowKit Go.Proofs.YtamjmldfifofbaaGreatDoor.Pf Go.Proofs.YtamjmldfifofbaaGreatDoorW.PrintWords Go.Proofs.YtamjmldfifofbaaGreatDoorW.PrintLast Go.Proofs.YtamjmldfifofbaaGreatDoor.QStr Go.Proofs.YtamjmldfifofbaaGreatDoor.QLaws Go.Proofs.YtamjmldfifofbaaGreatDoor.QLaw2 Go.Proofs.YtamjmldfifofbaaGreatDoor.QGen Go.Proofs.YtamjmldfifofbaaGreatDoor.QProg Go.Proofs.YtamjmldfifofbaaGreatDoor.QTupA
theorem room_of {l : List ByteArray} (h : l.length ≤ maxLen ∧ l.length * 16 ≤ 140737488351232 ∧ ∀ x ∈ l,x.size ≤ 140737488351232) : Room l :=
 ⟨by omega,fun s hs => by have := h.2.2 s hs; omega⟩
theorem rm_con (a : LCon) (h : okT124 a) : RmCon a := ⟨by have := h.1; simp only [] at this; omega,room_of h.2⟩
theorem rm_ty (a : LTy) (h : okT63 a) : RmTy a := ⟨by have := h.1; simp only [] at this; omega,by have := h.2.2.1; omega,fun x hx => rm_con x (h.2.2.2 x hx)⟩
theorem rm_rl (a : LRl) (h : okT65 a) : RmRl a := ⟨by have := h.1; simp only [] at this; omega,room_of h.2.1⟩
theorem rm_ex (a : LEx) (h : okT127 a) : RmEx a := ⟨by have := h.2.1; simp only [] at this; omega,by have := h.2.2.2.1; unfold RmN; omega⟩
theorem rm_lt (a : LLt) (h : okT70 a) : RmLt a := ⟨by have := h.2.1; simp only [] at this; omega,by have := h.2.2.2.1; unfold RmN; omega⟩
theorem rm_ru (a : LRu) (h : okT73 a) : RmRu a :=
 ⟨⟨by have := h.1.2.1; omega,fun x hx => rm_ex x (h.1.2.2 x hx)⟩,rm_lt _ h.2.1,by have := h.2.2.2.1; omega,fun x hx => rm_lt x (h.2.2.2.2 x hx)⟩
def tl (T : List ByteArray) (i : Nat) : List UInt8 := Lib.joinTail [44,32] ((T.map L).drop i)
theorem tl_end (T : List ByteArray) : tl T T.length = [] := by
 unfold tl
 rw [List.drop_of_length_le (by rw [List.length_map]; exact Nat.le_refl _)]
 rfl
theorem tl_at (T : List ByteArray) (i : Nat) (h : i < T.length) : tl T i = [44,32] ++ L T[i] ++ tl T (i + 1) := by
 unfold tl
 rw [List.drop_eq_getElem_cons (by rw [List.length_map]; exact h),List.getElem_map]
 simp [Lib.joinTail]
theorem join_at (T : List ByteArray) (h : 0 < T.length) : Lib.join (T.map L) [44,32] = L T[0] ++ tl T 1 := by
 cases T with
 | nil => exact absurd h (by decide)
 | cons a r =>
  rw [List.map_cons,Lib.join_cons]
  rfl
theorem tl_len (T : List ByteArray) (hs : ∀ x ∈ T,x.size ≤ 1048576) : ∀ (d i : Nat),i + d = T.length → (tl T i).length ≤ d * 1048578
 | 0,i,h => by
  obtain rfl : i = T.length := h
  rw [tl_end]
  exact Nat.le_refl _
 | d + 1,i,h => by
  have hi : i < T.length := by omega
  have ih := tl_len T hs d (i + 1) (by omega)
  rw [tl_at T i hi,List.length_append,List.length_append]
  have h1 : (L T[i]).length ≤ 1048576 := hs _ (List.getElem_mem hi)
  have h2 : ([44,32] : List UInt8).length = 2 := rfl
  omega
theorem fact_l (T : List ByteArray) (hs : ∀ x ∈ T,x.size ≤ 1048576) (hn : T.length ≤ 1000) : ∀ (d i k : Nat) (x : ByteArray),i + d = T.length → 0 < i → x.size + d * 1048578 ≤ 9000000000000 → d < k →
  spec_FactText.l0 k x (i : Int) T = some (x ++ B (tl T i) ++ (⟨#[41,46]⟩ : ByteArray))
 | d,i,0,x,_,_,_,hk => absurd hk (Nat.not_lt_zero d)
 | 0,i,k + 1,x,h,h0,hx,_ => by
  obtain rfl : i = T.length := h
  rw [spec_FactText.l0,if_neg (by omega),if_pos (by omega),tl_end]
  rw [show x ++ B [] = x from ByteArray.append_empty]
 | d + 1,i,k + 1,x,h,h0,hx,hk => by
  have hi : i < T.length := by omega
  have hsz : T[i].size ≤ 1048576 := hs _ (List.getElem_mem hi)
  have e1 : (x ++ (⟨#[44,32]⟩ : ByteArray)).size = x.size + 2 := by rw [ByteArray.size_append]; rfl
  rw [spec_FactText.l0,if_pos (by omega),if_pos (by omega),if_pos (by omega),if_pos (by omega),rdOf_get T i hi,if_pos (by rw [e1]; omega),step_i (by omega),
   fact_l T hs hn d (i + 1) k _ (by omega) (by omega) (by rw [ByteArray.size_append,e1]; omega) (by omega),tl_at T i hi]
  congr 2
  rw [← append_B,← append_B,B_L,← ByteArray.append_assoc,← ByteArray.append_assoc]
  rfl
theorem fact_0 (T : List ByteArray) (hs : ∀ x ∈ T,x.size ≤ 1048576) (hn : T.length ≤ 1000) (x : ByteArray) (hx : x.size ≤ 281474976710656 / 2048) (k : Nat) (hk : 1001 < k) :
  spec_FactText.l0 k x 0 T = some (x ++ B (Lib.join (T.map L) [44,32]) ++ (⟨#[41,46]⟩ : ByteArray)) := by
 obtain ⟨k,rfl⟩ : ∃ j,k = j + 1 := ⟨k - 1,by omega⟩
 by_cases h0 : T.length = 0
 ·obtain rfl : T = [] := List.length_eq_zero_iff.1 h0
  rw [spec_FactText.l0,if_neg (by decide),if_pos (by omega)]
  rw [show x ++ B (Lib.join (([] : List ByteArray).map L) [44,32]) = x from ByteArray.append_empty]
 ·have hi : 0 < T.length := by omega
  have hsz : T[0].size ≤ 1048576 := hs _ (List.getElem_mem hi)
  rw [spec_FactText.l0,if_pos (by omega),if_neg (by decide),if_pos (by omega),show (0 : Int) = ((0 : Nat) : Int) from rfl,rdOf_get T 0 hi,if_pos (by omega),step_i (by omega),
   fact_l T hs hn (T.length - 1) 1 k _ (by omega) (by omega) (by rw [ByteArray.size_append]; omega) (by omega),join_at T hi]
  congr 2
  rw [← append_B,B_L,← ByteArray.append_assoc]
theorem join_len (T : List ByteArray) (hs : ∀ x ∈ T,x.size ≤ 1048576) (hn : T.length ≤ 1000) : (Lib.join (T.map L) [44,32]).length ≤ 1048578000 := by
 by_cases h0 : T.length = 0
 ·obtain rfl : T = [] := List.length_eq_zero_iff.1 h0
  decide
 ·have hi : 0 < T.length := by omega
  have hsz : (L T[0]).length ≤ 1048576 := hs _ (List.getElem_mem hi)
  have := tl_len T hs (T.length - 1) 1 (by omega)
  rw [join_at T hi,List.length_append]
  omega
theorem tup_len (l : List ByteArray) (h : (isTup l).isSome = true) : l.length ≤ 6 := by
 obtain ⟨ts,hts⟩ := Option.isSome_iff_exists.1 h
 obtain ⟨h1,_,rfl⟩ := isTup_iff.1 hts
 rw [enc_len]
 exact h1
theorem inside (a b : Int) : (if a ≥ 0 then (some (decide (a ≤ b))) else (some false)) = some (decide (0 ≤ a ∧ a ≤ b)) := by
 by_cases h : a ≥ 0
 ·rw [if_pos h]
  congr 1
  exact decide_eq_decide.2 ⟨fun g => ⟨h,g⟩,fun g => g.2⟩
 ·rw [if_neg h]
  congr 1
  exact (decide_eq_false (fun g => h g.1)).symm
/-- What both sides compute. -/
noncomputable def said (r : List (S51)) (a : Int) (T : List ByteArray) : ByteArray :=
 if 0 ≤ a ∧ a ≤ (r.length : Int) - 1 ∧ (isTup T).isSome = true then (rd_T51 r a).f0 ++ (⟨#[40]⟩ : ByteArray) ++ B (Lib.join (T.map L) [44,32]) ++ (⟨#[41,46]⟩ : ByteArray) else ⟨#[]⟩
theorem spec_said (t : List ITy) (r : List IRl) (u : List IRu) (hr : FewL FiRl r) (a : Int) (T : List ByteArray) (hT : Few T) (k : Nat) (hk : 4200002 < k) : spec_FactText.f k t r u a T = some (said r a T) := by
 obtain ⟨k,rfl⟩ : ∃ j,k = j + 1 := ⟨k - 1,by omega⟩
 unfold spec_FactText.f z3_.f
 have hl := hr.1
 rw [wrapS (n := (r.length : Int) - 1) (by omega) (by omega),inside,Option.bind_some]
 by_cases h : 0 ≤ a ∧ a ≤ (r.length : Int) - 1
 ·rw [decide_eq_true h,if_pos rfl,tupleOk_f T hT.2 (k + 1) (by omega),Option.bind_some,spec_FactText.j0]
  by_cases g : (isTup T).isSome = true
  ·have hn := tup_len T g
   have hm : rd_T51 r a = r[a.toNat]'(by omega) := by
    have := getD_at z51 r a.toNat (by omega)
    rw [show ((a.toNat : Nat) : Int) = a by omega] at this
    exact this
   have hz : (rd_T51 r a).f0.size ≤ 1048576 := by
    rw [hm]
    exact (hr.2 _ (List.getElem_mem _)).1
   rw [g,if_neg (by decide),if_pos h.1,if_pos (by omega),if_pos (by omega),fact_0 T hT.2 (by omega) _ (by rw [ByteArray.size_append]; have : (⟨#[40]⟩ : ByteArray).size = 1 := rfl; omega) k (by omega),said,if_pos ⟨h.1,h.2,g⟩]
  ·rw [Bool.eq_false_iff.2 g,if_pos (by decide),said,if_neg (fun e => g e.2.2)]
 ·rw [decide_eq_false h,if_neg (by decide),spec_FactText.j0,if_pos rfl,said,if_neg (fun e => h ⟨e.1,e.2.1⟩)]
theorem impl_said (t : List ITy) (r : List IRl) (u : List IRu) (hr : FewL FiRl r) (a : Int) (T : List ByteArray) (hT : Few T) (k : Nat) (hk : 4200002 < k) : impl_FactText.f k t r u a T = some (said r a T) := by
 unfold impl_FactText.f impl_in.f
 have hl := hr.1
 rw [wrapS (n := (r.length : Int) - 1) (by omega) (by omega),inside,Option.bind_some]
 by_cases h : 0 ≤ a ∧ a ≤ (r.length : Int) - 1
 ·rw [decide_eq_true h,if_pos rfl,isTuple_f T hT.2 k (by omega),Option.bind_some]
  by_cases g : (isTup T).isSome = true
  ·have hn := tup_len T g
   have hm : rd_T51 r a = r[a.toNat]'(by omega) := by
    have := getD_at z51 r a.toNat (by omega)
    rw [show ((a.toNat : Nat) : Int) = a by omega] at this
    exact this
   have hz : (rd_T51 r a).f0.size ≤ 1048576 := by
    rw [hm]
    exact (hr.2 _ (List.getElem_mem _)).1
   have hj := join_len T hT.2 (by omega)
   have e1 : strings_Join.f T (⟨#[44,32]⟩ : ByteArray) = some (B (Lib.join (T.map L) [44,32])) := by
    unfold strings_Join.f
    rw [show T.map (·.data.toList) = T.map L from rfl,show (⟨#[44,32]⟩ : ByteArray).data.toList = [44,32] from rfl,if_pos (by omega),if_pos (by omega)]
    rfl
   have e2 : ((rd_T51 r a).f0 ++ (⟨#[40]⟩ : ByteArray)).size = (rd_T51 r a).f0.size + 1 := by rw [ByteArray.size_append]; rfl
   have e3 : (B (Lib.join (T.map L) [44,32])).size ≤ 1048578000 := hj
   rw [g,if_pos rfl,impl_factText.f,if_pos h.1,if_pos (by omega),if_pos (by omega),e1,Option.bind_some,if_pos (by rw [e2]; omega),if_pos (by rw [ByteArray.size_append,e2]; omega),Option.bind_some,said,if_pos ⟨h.1,h.2,g⟩]
  ·rw [if_neg g,said,if_neg (fun e => g e.2.2)]
 ·rw [decide_eq_false h,if_neg (by decide),said,if_neg (fun e => h ⟨e.1,e.2.1⟩)]
theorem FnExactFactText : laws_FnExactFactText.Pure := by
 intro p a x hp _ hx
 obtain ⟨l⟩ := x
 obtain ⟨t,r,u⟩ := p
 have hr : Room l := room_of hx
 obtain ⟨hp1,hp2,hp3⟩ := hp
 have ht : RoomL RmTy t := ⟨by have := hp1.2.1; simp only [] at this; omega,fun y hy => rm_ty y (hp1.2.2 y hy)⟩
 have hr2 : RoomL RmRl r := ⟨by have := hp2.2.1; simp only [] at this; omega,fun y hy => rm_rl y (hp2.2.2 y hy)⟩
 have hu : RoomL RmRu u := ⟨by have := hp3.2.1; simp only [] at this; omega,fun y hy => rm_ru y (hp3.2.2 y hy)⟩
 obtain ⟨K,hK⟩ : ∃ K : Nat,K = 6000000 := ⟨_,rfl⟩
 refine ⟨K, ?_⟩
 unfold laws_FnExactFactText.f
 obtain ⟨q,g1,g2,g3⟩ := szPg_f t r u ht hr2 hu 1048576 (by omega) (by omega) K (by omega)
 simp only []
 rw [g1,Option.bind_some]
 by_cases h0 : q < 0
 ·rw [if_pos h0]
 rw [if_neg h0]
 have hf := g3 (by omega)
 obtain ⟨q',e1,e2,e3⟩ := szT_f l hr q (by omega) (by omega) K (by omega)
 rw [e1,Option.bind_some]
 by_cases h1 : q' < 0
 ·rw [if_pos h1]
 rw [if_neg h1]
 have hl := e3 (by omega)
 rw [toPg_f t r u hf K (by omega),Option.bind_some,toT_f l hl K (by omega),Option.bind_some]
 simp only []
 rw [spec_said _ _ _ (few_map fi_rl hf.2.1) a l hl K (by omega),Option.bind_some,Option.bind_some,Option.bind_some]
 simp only []
 rw [impl_said _ _ _ (few_map fi_rl hf.2.1) a l hl K (by omega),Option.bind_some,if_pos rfl,Option.bind_some,eqPg_f t r u hf K (by omega),Option.bind_some,if_pos rfl,Option.bind_some,eqT_f l hl K (by omega),Option.bind_some,if_pos rfl]
end Go.Proofs.YtamjmldfifofbaaGreatDoor.Pure
