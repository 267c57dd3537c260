-- Cut by prune.py, a program of this session, out of the texts of this claim: Lean checks it.
import Derived.Test.YtcckpjflbfofjaaVcdQStr
import Derived.OpenShut
import Derived.Test.YtcckpjflbfofjaaVcdPdx11
namespace Go.Proofs.Ytcckpjflbfofjaa.QCur
open Go.RowKit Go.Proofs.Ytcckpjflbfofjaa.Pd Go.Proofs.YtcckpjflbfofjaaW.PrintWords Go.Proofs.YtcckpjflbfofjaaW.PrintLast Go.Proofs.Ytcckpjflbfofjaa.QStr
def Byt (l : List Int) : Prop := l.length ≤ 140737488351232 ∧ ∀ x ∈ l,0 ≤ x ∧ x ≤ 255
/-- A drawer's place and seed. -/
def Cur (a s : Int) (n : Nat) : Prop := 0 ≤ a ∧ a ≤ n ∧ 0 ≤ s ∧ s ≤ 70000
theorem Cur.mono {a s : Int} {n m : Nat} (h : Cur a s n) (hm : n ≤ m) : Cur a s m := ⟨h.1,by have := h.2.1; omega,h.2.2.1,h.2.2.2⟩
theorem rd_byt {l : List Int} (h : Byt l) (i : Int) : 0 ≤ rd l i ∧ rd l i ≤ 255 := by
 unfold rd
 rw [List.getD_eq_getElem?_getD]
 by_cases hi : i.toNat < l.length
 ·rw [List.getElem?_eq_getElem hi,Option.getD_some]
  exact h.2 _ (List.getElem_mem hi)
 ·rw [List.getElem?_eq_none (by omega),Option.getD_none]
  omega
theorem tmod_nn {a b : Int} (ha : 0 ≤ a) (hb : 0 < b) : 0 ≤ Int.tmod a b ∧ Int.tmod a b < b := by
 rw [Int.tmod_eq_emod_of_nonneg ha]
 exact ⟨Int.emod_nonneg _ (by omega),Int.emod_lt_of_pos _ hb⟩
theorem seed_step {s : Int} (h0 : 0 ≤ s) (h1 : s ≤ 70000) : 0 ≤ Int.tmod (wrap64 ((wrap64 (s * 1103)) + 12345)) 65521 ∧ Int.tmod (wrap64 ((wrap64 (s * 1103)) + 12345)) 65521 < 65521 := by
 rw [wrapS (n := s * 1103) (by omega) (by omega),wrapS (by omega) (by omega)]
 exact tmod_nn (by omega) (by omega)
theorem pick_f {l : List Int} (hl : Byt l) {a s : Int} {n : Nat} (hc : Cur a s n) (hn : n ≤ 1099511627776) (m : Int) :
  ∃ x a' s',z2_.f l a s m = some (x,a',s') ∧ 0 ≤ x ∧ (2 ≤ m → x < m) ∧ (m < 2 → x = 0) ∧ Cur a' s' (n + 1) := by
 obtain ⟨h1,h2,h3,h4⟩ := hc
 unfold z2_.f
 by_cases hm : m < 2
 ·rw [if_pos hm]
  exact ⟨_,_,_,rfl,Int.le_refl _,fun h => by omega,fun _ => rfl,h1,by omega,h3,h4⟩
 rw [if_neg hm,if_neg (show ¬ m = 0 by omega),if_neg (show ¬ m = 0 by omega),if_neg (show ¬ m = 0 by omega),wrapS (n := a + 1) (by omega) (by omega)]
 have hs := seed_step h3 h4
 generalize Int.tmod (wrap64 ((wrap64 (s * 1103)) + 12345)) 65521 = t at hs ⊢
 by_cases hlt : a < (l.length : Int)
 ·have hr := rd_byt hl a
  have hx := tmod_nn (b := m) hr.1 (by omega)
  rw [if_pos hlt,if_pos h1,wrapS (n := rd l a) (by omega) (by omega)]
  exact ⟨_,_,_,rfl,hx.1,fun _ => hx.2,fun h => absurd h hm,by omega,by omega,h3,h4⟩
 rw [if_neg hlt]
 by_cases hp : (l.length : Int) > 0
 ·have hi := tmod_nn h1 hp
  have hr := rd_byt hl (Int.tmod a (l.length : Int))
  have hq : 0 ≤ Int.tdiv t 7 ∧ Int.tdiv t 7 ≤ 65521 := by
   rw [Int.tdiv_eq_ediv_of_nonneg hs.1]
   omega
  have hx := tmod_nn (a := Int.tdiv t 7 + rd l (Int.tmod a (l.length : Int))) (b := m) (by omega) (by omega)
  rw [if_pos hp,if_neg (show ¬ (l.length : Int) = 0 by omega),if_pos hi.1,if_pos hi.2,wrapS (n := Int.tdiv t 7) (by omega) (by omega),wrapS (n := rd l (Int.tmod a (l.length : Int))) (by omega) (by omega),wrapS (by omega) (by omega)]
  exact ⟨_,_,_,rfl,hx.1,fun _ => hx.2,fun h => absurd h hm,by omega,by omega,hs.1,by omega⟩
 ·rw [if_neg hp]
  have hx : (0 : Int) % m = 0 := Int.zero_emod m
  rw [hx]
  exact ⟨_,_,_,rfl,by omega,fun h => by omega,fun h => absurd h hm,by omega,by omega,hs.1,by omega⟩
theorem open_f (l : List Int) : ∃ s,spec_l01Open.f l = some (l,0,s) ∧ Cur 0 s 0 := by
 unfold spec_l01Open.f
 exact ⟨_,rfl,by omega,by omega,by omega,by omega⟩
theorem byt_of {l : List Int} (h : l.length ≤ maxLen ∧ l.length * 1 ≤ 140737488351232 ∧ ∀ x ∈ l,(Lit.int .u8 x).wf = true) : Byt l := by
 refine ⟨by omega,fun x hx => ?_⟩
 exact bounds_u8 (h.2.2 x hx)
theorem rd_mem (l : List Int) (i : Int) (h1 : 0 ≤ i) (h2 : i < (l.length : Int)) : rd l i ∈ l := by
 unfold rd
 rw [List.getD_eq_getElem?_getD,List.getElem?_eq_getElem (by omega),Option.getD_some]
 exact List.getElem_mem _
theorem raw_f {l : List Int} (hl : Byt l) {a s : Int} {n : Nat} (hc : Cur a s n) (hn : n ≤ 1099511627000) :
  ∃ v a' s',spec_l01Cur_raw.f l a s = some (v,a',s') ∧ -9223372036854775808 ≤ v ∧ v ≤ 9223372036854775807 ∧ Cur a' s' (n + 2) := by
 unfold spec_l01Cur_raw.f
 obtain ⟨x,a1,s1,hx,hx0,hx1,_,hc1⟩ := pick_f hl hc (by omega) 8
 rw [hx,Option.bind_some]
 simp only []
 by_cases h0 : x = 0
 ·obtain ⟨y,a2,s2,hy,hy0,hy1,_,hc2⟩ := pick_f hl hc1 (by omega) 256
  have hy1 := hy1 (by omega)
  rw [if_pos h0,hy,Option.bind_some]
  simp only []
  rw [wrapS (by omega) (by omega)]
  exact ⟨_,_,_,rfl,by omega,by omega,hc2⟩
 rw [if_neg h0]
 by_cases h1 : x = 1
 ·obtain ⟨y,a2,s2,hy,hy0,hy1,_,hc2⟩ := pick_f hl hc1 (by omega) 8
  have hy1 := hy1 (by omega)
  rw [if_pos h1,Option.bind_some,hy,Option.bind_some]
  simp only []
  rw [if_pos hy0,if_pos (show y < (([9223372036854775807, -9223372036854775808,4611686018427387904,1000,1001, -1000,100000,100001] : List Int).length : Int) from hy1)]
  have hm := rd_mem [9223372036854775807, -9223372036854775808,4611686018427387904,1000,1001, -1000,100000,100001] y hy0 hy1
  refine ⟨_,_,_,rfl, ?_, ?_,hc2⟩
  ·simp only [List.mem_cons,List.not_mem_nil,or_false] at hm
   omega
  ·simp only [List.mem_cons,List.not_mem_nil,or_false] at hm
   omega
 rw [if_neg h1]
 obtain ⟨y,a2,s2,hy,hy0,hy1,_,hc2⟩ := pick_f hl hc1 (by omega) 14
 have hy1 := hy1 (by omega)
 rw [hy,Option.bind_some]
 simp only []
 rw [wrapS (by omega) (by omega)]
 exact ⟨_,_,_,rfl,by omega,by omega,hc2⟩
end Go.Proofs.Ytcckpjflbfofjaa.QCur
