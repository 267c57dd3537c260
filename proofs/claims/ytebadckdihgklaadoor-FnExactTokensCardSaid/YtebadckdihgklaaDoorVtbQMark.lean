-- Cut by prune.py, a program of this session, out of the texts of this claim: Lean checks it.
import Derived.Test.YtebadckdihgklaaDoorVtbQLaws
import Derived.Test.YtebadckdihgklaaDoorVtbQNum
import Derived.Test.YtebadckdihgklaaDoorVtbPbx6
import Derived.Test.YtebadckdihgklaaDoorVtbPbx0
namespace Go.Proofs.YtebadckdihgklaaDoor.QMark
open Go.RowKit Go.Proofs.YtebadckdihgklaaDoor.Pb Go.Proofs.YtebadckdihgklaaDoorW.PrintWords Go.Proofs.YtebadckdihgklaaDoorW.PrintLast Go.Proofs.YtebadckdihgklaaDoor.QStr Go.Proofs.YtebadckdihgklaaDoor.QLaws
def mt (x : Nat) : List UInt8 := 109 :: Lib.decDigits x
theorem digit_str (u : Nat) (hu : u ≤ 1000000000000) : strOfNums [(wrap64 (48 + (Int.tmod (u : Int) 10))) % 256] = B [UInt8.ofNat (48 + u % 10)] := by
  have h1 : Int.tmod (u : Int) 10 = ((u % 10 : Nat) : Int) := by rw [Int.tmod_eq_emod_of_nonneg (by omega)]; omega
  have h2 : (wrap64 (48 + (Int.tmod (u : Int) 10))) % 256 = ((48 + u % 10 : Nat) : Int) := by
    rw [h1, wrapS (by omega) (by omega)]
    omega
  rw [h2]
  rfl
theorem mark_l : ∀ (d u : Nat) (acc : List UInt8) (k : Nat), u < 10 ^ d → u ≤ 1000000000000 → 0 < u → acc.length + d ≤ 100 → d + 1 < k → laws_markText.l0 k (u : Int) (B acc) = some (B (109 :: (Lib.decDigits u ++ acc)))
  | 0, u, acc, k, h, _, h0, _, _ => by simp at h; omega
  | d + 1, u, acc, k, h, hu, h0, hl, hk => by
    obtain ⟨k, rfl⟩ : ∃ m, k = m + 2 := ⟨k - 2, by omega⟩
    have hds := digit_str u hu
    have hdiv : Int.tdiv (u : Int) 10 = ((u / 10 : Nat) : Int) := by rw [Int.tdiv_eq_ediv_of_nonneg (by omega)]; omega
    have hw : wrap64 (Int.tdiv (u : Int) 10) = ((u / 10 : Nat) : Int) := by rw [hdiv]; exact wrap_nat (by clear hds hdiv; omega)
    rw [laws_markText.l0, if_pos (by clear hds hdiv hw; omega), Option.bind_some, hds, if_pos (by rw [size_B, size_B]; simp only [List.length_cons, List.length_nil]; clear hds hdiv hw; omega), hw, append_B, List.singleton_append]
    clear hds hdiv hw
    by_cases hs : u < 10
    · have e : u / 10 = 0 := by omega
      rw [e, dec_small hs, Nat.mod_eq_of_lt hs, laws_markText.l0, if_neg (by omega), if_pos (by rw [size_B]; simp only [List.length_cons]; omega), show ((⟨#[109]⟩ : ByteArray)) = B [109] from rfl, append_B]
      rfl
    · rw [mark_l d (u / 10) _ (k + 1) (by rw [Nat.pow_succ] at h; omega) (by omega) (by omega) (by simp only [List.length_cons]; omega) (by omega), dec_big hs, List.append_assoc, List.singleton_append]
theorem mark_f (u : Nat) (hu : u < 1000000000) (k : Nat) (hk : 20 < k) : laws_markText.f k (u : Int) = some (B (mt u)) := by
  unfold laws_markText.f
  by_cases h : u = 0
  · subst h
    rw [if_pos (by omega), mt, dec_small (by omega)]
    rfl
  · rw [if_neg (by omega), show ((⟨#[]⟩ : ByteArray)) = B [] from rfl, mark_l 9 u [] k (by omega) (by omega) (by omega) (by simp) (by omega), List.append_nil]
    rfl
end Go.Proofs.YtebadckdihgklaaDoor.QMark
