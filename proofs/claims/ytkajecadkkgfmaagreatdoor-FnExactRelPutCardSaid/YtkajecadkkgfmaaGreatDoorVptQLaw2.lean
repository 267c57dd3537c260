-- Cut by prune.py, a program of this session, out of the texts of this claim: Lean checks it.
import Derived.Test.YtkajecadkkgfmaaGreatDoorVptQLaws
import Derived.Test.YtkajecadkkgfmaaGreatDoorVptPex0
import Derived.Test.YtkajecadkkgfmaaGreatDoorVptPex19
namespace Go.Proofs.YtkajecadkkgfmaaGreatDoor.QLaw2
open Go.RowKit Go.Proofs.YtkajecadkkgfmaaGreatDoor.Pe Go.Proofs.YtkajecadkkgfmaaGreatDoorW.PrintWords Go.Proofs.YtkajecadkkgfmaaGreatDoorW.PrintLast Go.Proofs.YtkajecadkkgfmaaGreatDoor.QStr Go.Proofs.YtkajecadkkgfmaaGreatDoor.QLaws
/-- Few texts, none long. -/
def Few (xs : List ByteArray) : Prop := xs.length ≤ 1048576 ∧ ∀ s ∈ xs,s.size ≤ 1048576
/-- Within the model's room. -/
def Room (xs : List ByteArray) : Prop := xs.length ≤ 17592186044416 ∧ ∀ s ∈ xs,s.size ≤ 281474976710656
theorem szS_g (xs : List ByteArray) (hx : Room xs) (v : Int) (h0 : 0 ≤ v) (h1 : v ≤ 1048576) (k : Nat) (hk : 1048576 < k) :
  ∃ r,laws_szStringS.f k xs v = some r ∧ r ≤ v ∧ (0 ≤ r → Few xs) := by
 have hx1 := hx.1
 unfold laws_szStringS.f
 rw [wrapS (by omega) (by omega)]
 by_cases h : v - (xs.length : Int) < 0
 ·rw [if_pos h]
  exact ⟨_,rfl,by omega,fun h => by omega⟩
 ·rw [if_neg h]
  obtain ⟨r,hr,hr1,hr2⟩ := szS_l xs (by omega) hx.2 xs.length 0 k (v - (xs.length : Int)) (by omega) (by omega) (by omega) (by omega)
  refine ⟨r,hr,by omega,fun h0 => ⟨by omega,fun s hm => ?_⟩⟩
  have := hr2 h0 s (by simpa using hm)
  omega
theorem szT_f (xs : List ByteArray) (hx : Room xs) (v : Int) (h0 : 0 ≤ v) (h1 : v ≤ 1048576) (k : Nat) (hk : 1048576 < k) :
  ∃ r,laws_szTuple.f k xs v = some r ∧ r ≤ v ∧ (0 ≤ r → Few xs) := by
 unfold laws_szTuple.f
 obtain ⟨r,hr,hr1,hr2⟩ := szS_g xs hx v h0 h1 k hk
 rw [hr,Option.bind_some]
 by_cases h : r < 0
 ·rw [if_pos h]
  exact ⟨_,rfl,by omega,fun h => by omega⟩
 ·rw [if_neg h]
  exact ⟨_,rfl,hr1,hr2⟩
theorem toT_f (xs : List ByteArray) (hx : Few xs) (k : Nat) (hk : 1048576 < k) : laws_toTuple.f k xs = some xs := by
 have hx1 := hx.1
 unfold laws_toTuple.f
 rw [toS_f xs (by omega) k (by omega),Option.bind_some]
theorem eqT_f (xs : List ByteArray) (hx : Few xs) (k : Nat) (hk : 1048576 < k) : laws_eqTuple.f k xs xs = some true := by
 have hx1 := hx.1
 unfold laws_eqTuple.f
 rw [eqS_f xs (by omega) k (by omega),Option.bind_some,if_pos rfl]
end Go.Proofs.YtkajecadkkgfmaaGreatDoor.QLaw2
