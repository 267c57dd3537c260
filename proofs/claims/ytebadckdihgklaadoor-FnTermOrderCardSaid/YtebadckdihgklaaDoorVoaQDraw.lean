-- Cut by prune.py, a program of this session, out of the texts of this claim: Lean checks it.
import Derived.Test.YtebadckdihgklaaDoorVoaQNum
import Derived.Test.YtebadckdihgklaaDoorVoaQTm
import Derived.Test.YtebadckdihgklaaDoorVoaQCur
import Derived.Test.YtebadckdihgklaaDoorVoaPbx30
namespace Go.Proofs.YtebadckdihgklaaDoor.QDraw
open Go.RowKit Go.Proofs.YtebadckdihgklaaDoor.Pb Go.Proofs.YtebadckdihgklaaDoorW.PrintWords Go.Proofs.YtebadckdihgklaaDoorW.PrintLast Go.Proofs.YtebadckdihgklaaDoor.QStr Go.Proofs.YtebadckdihgklaaDoor.QTm Go.Proofs.YtebadckdihgklaaDoor.QCur
theorem rdOf_le (l : List ByteArray) (i : Int) (m : Nat) (h : ∀ s ∈ l,s.size ≤ m) : (rdOf ByteArray.empty l i).size ≤ m := by
 unfold rdOf
 rw [List.getD_eq_getElem?_getD]
 by_cases hi : i.toNat < l.length
 ·rw [List.getElem?_eq_getElem hi,Option.getD_some]
  exact h _ (List.getElem_mem hi)
 ·rw [List.getElem?_eq_none (by omega),Option.getD_none]
  exact Nat.zero_le _
theorem itoa_short (v : Int) (h : -1000000 ≤ v ∧ v ≤ 1000000) : (Lib.itoa v).length ≤ 8 := by
 unfold Lib.itoa
 by_cases hw : v < 0
 ·rw [if_pos hw,List.length_cons]
  have := dec_len v.natAbs 6 (by omega)
  omega
 ·rw [if_neg hw]
  have := dec_len v.toNat 6 (by omega)
  omega
/-- A drawn term that has no parts. -/
theorem leaf_f {l : List Int} (hl : Byt l) (x1 x5 : Int) (h0 : 0 ≤ x5) (h4 : x5 ≤ 4) {a s : Int} {n : Nat} (hc : Cur a s n) (hn : n ≤ 1099511627000) (k : Nat) (hk : 25 < k) :
  ∃ t a' s',z7_.j1 k x1 x5 l a s = some (t,a',s') ∧ t.size ≤ 20 ∧ Cur a' s' (n + 1) := by
 obtain ⟨k,rfl⟩ : ∃ m,k = m + 2 := ⟨k - 2,by omega⟩
 have hj : z7_.j1 (k + 2) x1 x5 l a s = z7_.j2 (k + 1) x1 x5 (decide (x5 ≤ 2)) l a s := by
  rw [z7_.j1]
  by_cases e0 : x5 = 0
  ·rw [if_pos e0,e0]; rfl
  ·rw [if_neg e0]
   by_cases e1 : x5 = 1
   ·rw [if_pos e1,e1]; rfl
   ·rw [if_neg e1]
    congr 1
    rw [Bool.eq_iff_iff,beq_iff_eq,decide_eq_true_eq]
    omega
 rw [hj,z7_.j2]
 by_cases h2 : x5 ≤ 2
 ·obtain ⟨y,a2,s2,hy,hy0,hy1,_,hc2⟩ := pick_f hl hc (by omega) 8
  have hy1 := hy1 (by omega)
  have hm := rd_mem [0,1,2,3,(-1),10,1000000,(-1000000)] y hy0 (by exact hy1)
  have hv : -1000000 ≤ rd [0,1,2,3,(-1),10,1000000,(-1000000)] y ∧ rd [0,1,2,3,(-1),10,1000000,(-1000000)] y ≤ 1000000 := by
   simp only [List.mem_cons,List.not_mem_nil,or_false] at hm
   omega
  rw [decide_eq_true h2,if_pos rfl,Option.bind_some,hy,Option.bind_some]
  simp only []
  rw [if_pos hy0,if_pos (by exact hy1),QNum.numText _ (by omega) (by omega) k (by omega),Option.bind_some]
  exact ⟨_,_,_,rfl,by have := itoa_short _ hv; show (Lib.itoa _).length ≤ 20; omega,hc2⟩
 ·rw [decide_eq_false h2,if_neg (by decide)]
  by_cases h3 : x5 = 3
  ·obtain ⟨y,a2,s2,hy,hy0,hy1,_,hc2⟩ := pick_f hl hc (by omega) 5
   have hy1 := hy1 (by omega)
   rw [if_pos h3,Option.bind_some,hy,Option.bind_some]
   simp only []
   rw [if_pos hy0,if_pos (by exact hy1)]
   exact ⟨_,_,_,rfl,rdOf_le _ _ 20 (by decide),hc2⟩
  ·obtain ⟨y,a2,s2,hy,hy0,hy1,_,hc2⟩ := pick_f hl hc (by omega) 4
   have hy1 := hy1 (by omega)
   rw [if_neg h3,if_pos (by omega),Option.bind_some,hy,Option.bind_some]
   simp only []
   rw [if_pos hy0,if_pos (by exact hy1)]
   exact ⟨_,_,_,rfl,rdOf_le _ _ 20 (by decide),hc2⟩
theorem z5 : (⟨#[67,111,110,115,40]⟩ : ByteArray).size = 5 := rfl
theorem z5b : (⟨#[78,111,100,101,40]⟩ : ByteArray).size = 5 := rfl
theorem z2 : (⟨#[83,40]⟩ : ByteArray).size = 2 := rfl
theorem z1 (c : UInt8) : (⟨#[c]⟩ : ByteArray).size = 1 := rfl
theorem term_f {l : List Int} (hl : Byt l) : ∀ (d : Nat) (x a s : Int) (n k : Nat),d ≤ 3 → x ≤ d → -1000 ≤ x → Cur a s n → n + 2 * 4 ^ d ≤ 1099511627000 → 30 + 5 * d < k →
  ∃ t a' s',z7_.f k l a s x = some (t,a',s') ∧ t.size ≤ 20 * 4 ^ d ∧ Cur a' s' (n + 2 * 4 ^ d)
 | 0,x,a,s,n,k,hd,hx,hx0,hc,hn,hk => by
  obtain ⟨k,rfl⟩ : ∃ m,k = m + 2 := ⟨k - 2,by omega⟩
  obtain ⟨y,a2,s2,hy,hy0,hy1,_,hc2⟩ := pick_f hl hc (by omega) 9
  have hy1 := hy1 (by omega)
  rw [z7_.f,hy,Option.bind_some,if_pos (by omega)]
  simp only []
  rw [z7_.j0]
  by_cases h4 : y > 4
  ·rw [decide_eq_true h4,if_pos rfl,wrapS (by omega) (by omega)]
   obtain ⟨t,a',s',h1,h2,h3⟩ := leaf_f hl x (y - 4) (by omega) (by omega) hc2 (by omega) k (by omega)
   exact ⟨t,a',s',h1,by omega,h3⟩
  ·rw [decide_eq_false h4,if_neg (by decide)]
   obtain ⟨t,a',s',h1,h2,h3⟩ := leaf_f hl x y (by omega) (by omega) hc2 (by omega) k (by omega)
   exact ⟨t,a',s',h1,by omega,h3⟩
 | d + 1,x,a,s,n,k,hd,hx,hx0,hc,hn,hk => by
  have hP : 1 ≤ 4 ^ d ∧ 4 ^ d ≤ 64 := ⟨Nat.pow_pos (by omega),Nat.pow_le_pow_right (by omega) (show d ≤ 3 by omega)⟩
  have IH := fun (x a s : Int) (n k : Nat) => term_f hl d x a s n k (by omega)
  have hpow : 4 ^ (d + 1) = 4 * 4 ^ d := by rw [Nat.pow_succ]; omega
  rw [hpow] at hn ⊢
  generalize 4 ^ d = P at hP IH hn ⊢
  obtain ⟨k,rfl⟩ : ∃ m,k = m + 5 := ⟨k - 5,by omega⟩
  obtain ⟨y,a2,s2,hy,hy0,hy1,_,hc2⟩ := pick_f hl hc (by omega) 9
  have hy1 := hy1 (by omega)
  rw [z7_.f,hy,Option.bind_some]
  simp only []
  have leaf : ∀ z : Int,0 ≤ z → z ≤ 4 → ∃ t a' s',z7_.j1 (k + 3) x z l a2 s2 = some (t,a',s') ∧ t.size ≤ 20 * (4 * P) ∧ Cur a' s' (n + 2 * (4 * P)) := by
   intro z h0 h4
   obtain ⟨t,a',s',h1,h2,h3⟩ := leaf_f hl x z h0 h4 hc2 (by omega) (k + 3) (by omega)
   exact ⟨t,a',s',h1,by omega,h3.mono (by omega)⟩
  by_cases hx1 : x ≤ 0
  ·rw [if_pos hx1,z7_.j0]
   by_cases h4 : y > 4
   ·rw [decide_eq_true h4,if_pos rfl,wrapS (by omega) (by omega)]
    exact leaf (y - 4) (by omega) (by omega)
   ·rw [decide_eq_false h4,if_neg (by decide)]
    exact leaf y (by omega) (by omega)
  ·rw [if_neg hx1,z7_.j0,if_neg (by decide)]
   by_cases h4 : y ≤ 4
   ·exact leaf y hy0 h4
   ·rw [z7_.j1,if_neg (by omega),if_neg (by omega),show (y == 2) = false by rw [beq_eq_false_iff_ne]; omega,z7_.j2,if_neg (by decide),if_neg (by omega),if_neg (by omega)]
    have hj : (if y = 5 then (z7_.j3 (k + 1) x y (y == 5) l a2 s2) else (z7_.j3 (k + 1) x y (y == 6) l a2 s2)) = z7_.j3 (k + 1) x y (decide (y ≤ 6)) l a2 s2 := by
     by_cases h5 : y = 5
     ·rw [if_pos h5,h5]; rfl
     ·rw [if_neg h5]
      congr 1
      rw [Bool.eq_iff_iff,beq_iff_eq,decide_eq_true_eq]
      omega
    rw [hj,z7_.j3,wrapS (n := x - 1) (by omega) (by omega)]
    obtain ⟨t1,a3,s3,e1,b1,c1⟩ := IH (x - 1) a2 s2 (n + 1) k (by omega) (by omega) hc2 (by omega) (by omega)
    obtain ⟨t2,a4,s4,e2,b2,c2⟩ := IH (x - 1) a3 s3 (n + 1 + 2 * P) k (by omega) (by omega) c1 (by omega) (by omega)
    obtain ⟨t3,a5,s5,e3,b3,c3⟩ := IH (x - 1) a4 s4 (n + 1 + 2 * P + 2 * P) k (by omega) (by omega) c2 (by omega) (by omega)
    by_cases h6 : y ≤ 6
    ·rw [decide_eq_true h6,if_pos rfl,e1,Option.bind_some]
     simp only []
     rw [if_pos (by omega),if_pos (by simp only [ByteArray.size_append,z5]; omega),e2,Option.bind_some]
     simp only []
     rw [if_pos (by simp only [ByteArray.size_append,z5,z1]; omega),if_pos (by simp only [ByteArray.size_append,z5,z1]; omega)]
     exact ⟨_,_,_,rfl,by simp only [ByteArray.size_append,z5,z1]; omega,c2.mono (by omega)⟩
    ·rw [decide_eq_false h6,if_neg (by decide)]
     by_cases h7 : y = 7
     ·rw [if_pos h7,e1,Option.bind_some]
      simp only []
      rw [if_pos (by omega),if_pos (by simp only [ByteArray.size_append,z2]; omega)]
      exact ⟨_,_,_,rfl,by simp only [ByteArray.size_append,z2,z1]; omega,c1.mono (by omega)⟩
     ·rw [if_neg h7,e1,Option.bind_some]
      simp only []
      rw [if_pos (by omega),if_pos (by simp only [ByteArray.size_append,z5b]; omega),e2,Option.bind_some]
      simp only []
      rw [if_pos (by simp only [ByteArray.size_append,z5b,z1]; omega),if_pos (by simp only [ByteArray.size_append,z5b,z1]; omega),e3,Option.bind_some]
      simp only []
      rw [if_pos (by simp only [ByteArray.size_append,z5b,z1]; omega),if_pos (by simp only [ByteArray.size_append,z5b,z1]; omega)]
      exact ⟨_,_,_,rfl,by simp only [ByteArray.size_append,z5b,z1]; omega,c3.mono (by omega)⟩
theorem grow_f (l : List Int) (a s : Int) : ∀ (d k : Nat) (t : ByteArray),t.size ≤ 500 → 201 - t.size ≤ d → d < k → ∃ u,z5_.l0 k t l a s = some (u,a,s) ∧ u.size ≤ 700
 | d,k,t,ht,hd,hk => by
  obtain ⟨k,rfl⟩ : ∃ m,k = m + 1 := ⟨k - 1,by omega⟩
  rw [z5_.l0]
  by_cases h : t.size ≤ 200
  ·obtain ⟨d,rfl⟩ : ∃ m,d = m + 1 := ⟨d - 1,by omega⟩
   rw [if_pos (by omega),if_pos (by omega),if_pos (by simp only [ByteArray.size_append,z2]; omega)]
   exact grow_f l a s d k _ (by simp only [ByteArray.size_append,z2,z1]; omega) (by simp only [ByteArray.size_append,z2,z1]; omega) (by omega)
  ·rw [if_neg (by omega)]
   exact ⟨_,rfl,by omega⟩
theorem once_f {l : List Int} (hl : Byt l) {a s : Int} {n : Nat} (hc : Cur a s n) (hn : n ≤ 1099511627000) (m : Int) :
  ∃ b a' s',spec_l01Cur_once.f l a s m = some (b,a',s') ∧ Cur a' s' (n + 1) := by
 obtain ⟨y,a2,s2,hy,_,_,_,hc2⟩ := pick_f hl hc (by omega) m
 unfold spec_l01Cur_once.f
 rw [hy,Option.bind_some]
 exact ⟨_,_,_,rfl,hc2⟩
theorem any_j {l : List Int} (hl : Byt l) (t : ByteArray) (ht : t.size ≤ 400) {a s : Int} {n : Nat} (hc : Cur a s n) (hn : n ≤ 1099511620000) (k : Nat) (hk : 210 < k) :
  ∃ u a' s',z5_.j0 k t l a s = some (u,a',s') ∧ u.size ≤ 1000 ∧ Cur a' s' (n + 4) := by
 obtain ⟨k,rfl⟩ : ∃ m,k = m + 1 := ⟨k - 1,by omega⟩
 obtain ⟨b,a1,s1,hb,hc1⟩ := once_f hl hc (by omega) 5
 rw [z5_.j0,hb,Option.bind_some]
 simp only []
 cases b with
 | false => rw [if_neg (by decide)]; exact ⟨_,_,_,rfl,by omega,hc1.mono (by omega)⟩
 | true =>
  rw [if_pos rfl]
  obtain ⟨x,a2,s2,hx,hx0,hx1,_,hc2⟩ := pick_f hl hc1 (by omega) 3
  have hx1 := hx1 (by omega)
  rw [hx,Option.bind_some]
  simp only []
  by_cases e0 : x = 0
  ·obtain ⟨y,a3,s3,hy,hy0,hy1,_,hc3⟩ := pick_f hl hc2 (by omega) 22
   have hy1 := hy1 (by omega)
   rw [if_pos e0,Option.bind_some,hy,Option.bind_some]
   simp only []
   rw [if_pos hy0,if_pos (by exact hy1)]
   exact ⟨_,_,_,rfl,rdOf_le _ _ 1000 (by decide),hc3.mono (by omega)⟩
  rw [if_neg e0]
  by_cases e1 : x = 1
  ·obtain ⟨y,a3,s3,hy,hy0,hy1,hy2,hc3⟩ := pick_f hl hc2 (by omega) ((t.size : Int) + 1)
   have hle : y ≤ (t.size : Int) := by
    by_cases hz : (2 : Int) ≤ (t.size : Int) + 1
    ·have := hy1 hz; omega
    ·have := hy2 (by omega); omega
   obtain ⟨z,a4,s4,hz,hz0,hz1,_,hc4⟩ := pick_f hl hc3 (by omega) 6
   have hz1 := hz1 (by omega)
   have hs : (rdOf ByteArray.empty [(⟨#[40]⟩ : ByteArray),(⟨#[41]⟩ : ByteArray),(⟨#[44]⟩ : ByteArray),(⟨#[34]⟩ : ByteArray),(⟨#[49]⟩ : ByteArray),(⟨#[32]⟩ : ByteArray)] z).size ≤ 10 := rdOf_le _ _ 10 (by decide)
   have hx1 : (t.extract 0 y.toNat).size ≤ 400 := by rw [ByteArray.size_extract]; omega
   have hx2 : (t.extract y.toNat t.size).size ≤ 400 := by rw [ByteArray.size_extract]; omega
   rw [if_pos e1,wrapS (n := (t.size : Int) + 1) (by omega) (by omega),hy,Option.bind_some]
   simp only []
   rw [if_pos hy0,if_pos hle,Option.bind_some,hz,Option.bind_some]
   simp only []
   rw [if_pos hz0,if_pos (by exact hz1),if_pos (by omega),if_pos (by rw [ByteArray.size_append]; omega)]
   exact ⟨_,_,_,rfl,by rw [ByteArray.size_append,ByteArray.size_append]; omega,hc4⟩
  ·rw [if_neg e1]
   obtain ⟨u,hu,hu2⟩ := grow_f l a2 s2 201 k t (by omega) (by omega) (by omega)
   exact ⟨_,_,_,hu,by omega,hc2.mono (by omega)⟩
theorem any_f {l : List Int} (hl : Byt l) {a s : Int} {n : Nat} (hc : Cur a s n) (hn : n ≤ 1099511610000) (k : Nat) (hk : 250 < k) :
  ∃ u a' s',z5_.f k l a s = some (u,a',s') ∧ u.size ≤ 1000 ∧ Cur a' s' (n + 40) := by
 unfold z5_.f
 obtain ⟨t,a1,s1,e1,b1,c1⟩ := term_f hl 2 2 a s n k (by omega) (by omega) (by omega) hc (by omega) (by omega)
 rw [e1,Option.bind_some]
 simp only []
 by_cases h : (t.size : Int) > 200
 ·rw [if_pos h]
  obtain ⟨u,a2,s2,h1,h2,h3⟩ := any_j hl (⟨#[78,105,108]⟩ : ByteArray) (by decide) c1 (by omega) k (by omega)
  exact ⟨u,a2,s2,h1,h2,h3.mono (by omega)⟩
 ·rw [if_neg h]
  obtain ⟨u,a2,s2,h1,h2,h3⟩ := any_j hl t (by omega) c1 (by omega) k (by omega)
  exact ⟨u,a2,s2,h1,h2,h3.mono (by omega)⟩
end Go.Proofs.YtebadckdihgklaaDoor.QDraw
