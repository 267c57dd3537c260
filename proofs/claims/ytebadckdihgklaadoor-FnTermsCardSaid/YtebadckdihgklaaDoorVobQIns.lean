-- Cut by prune.py, a program of this session, out of the texts of this claim: Lean checks it.
import Derived.Test.YtebadckdihgklaaDoorVobQSize
import Derived.Test.YtebadckdihgklaaDoorVobPbx7
namespace Go.Proofs.YtebadckdihgklaaDoor.QIns
open Go.RowKit Go.Proofs.YtebadckdihgklaaDoor.Pb Go.Proofs.YtebadckdihgklaaDoorW.PrintWords Go.Proofs.YtebadckdihgklaaDoorW.PrintLast Go.Proofs.YtebadckdihgklaaDoor.QStr Go.Proofs.YtebadckdihgklaaDoor.QTm Go.Proofs.YtebadckdihgklaaDoor.QPrs Go.Proofs.YtebadckdihgklaaDoor.QKind Go.Proofs.YtebadckdihgklaaDoor.QParts Go.Proofs.YtebadckdihgklaaDoor.QLaws Go.Proofs.YtebadckdihgklaaDoor.QSize
mutual
/-- Is a text one of a term's parts, or inside one? -/
def ins (a : List UInt8) : Tm → Bool
  | .num _ => false
  | .sym _ => false
  | .con _ ts => insL a ts
def insL (a : List UInt8) : List Tm → Bool
  | [] => false
  | u :: ts => decide (rnd u = a) || ins a u || insL a ts
end
theorem insL_nil (a : List UInt8) : insL a [] = false := by rw [insL]
theorem insL_cons (a : List UInt8) (u : Tm) (ts : List Tm) : insL a (u :: ts) = (decide (rnd u = a) || ins a u || insL a ts) := by rw [insL]
theorem ins_kids (a : List UInt8) (t : Tm) : ins a t = insL a (kids t) := by
  cases t with
  | num v => rw [ins, kids_num, insL_nil]
  | sym b => rw [ins, kids_sym, insL_nil]
  | con nm ts => rw [ins, kids_con]
theorem ii_l (a : List UInt8) (ts : List Tm) (hn : ts.length ≤ 1000) (K : Nat) (IH : ∀ u ∈ ts, ∀ k, 6 * (rnd u).length + 100 < k → impl_isInside.f k (B a) (rB u) = some (ins a u)) (hK : ∀ u ∈ ts, 6 * (rnd u).length + 102 + ts.length < K) (hK2 : ts.length < K) :
    ∀ (d i : Nat), i + d = ts.length → impl_isInside.l0 (K - i) (B a) (ts.map rB) ((ts.map rB).length : Int) (i : Int) = some (insL a (ts.drop i))
  | 0, i, hd => by
    obtain ⟨k, hk⟩ : ∃ m, K - i = m + 1 := ⟨K - i - 1, by omega⟩
    rw [hk, impl_isInside.l0, if_neg (by rw [List.length_map]; omega), List.drop_of_length_le (by omega), insL_nil]
  | d + 1, i, hd => by
    have hlt : i < ts.length := by omega
    have hm := List.getElem_mem hlt
    have h1 := hK _ hm
    obtain ⟨k, hk⟩ : ∃ m, K - i = m + 1 := ⟨K - i - 1, by omega⟩
    have hk' : k = K - (i + 1) := by omega
    have hih := IH _ hm k (by omega)
    have hgo := ii_l a ts hn K IH hK hK2 d (i + 1) (by omega)
    rw [hk, impl_isInside.l0, if_pos (by rw [List.length_map]; omega), if_pos (Int.natCast_nonneg _), if_pos (by rw [List.length_map]; omega), map_get ts i hlt, toList_B, toList_B, show B (rnd ts[i]) = rB ts[i] from rfl, hih, Option.bind_some, step_i (by omega), hk', hgo,
      List.drop_eq_getElem_cons hlt, insL_cons]
    by_cases he : rnd ts[i] = a
    · rw [if_pos he, decide_eq_true he]
      rfl
    · rw [if_neg he, decide_eq_false he]
      cases ins a ts[i] <;> rfl
theorem isInside_f (a : List UInt8) : ∀ (n : Nat) (t : Tm), (rnd t).length = n → Ok t → (rnd t).length ≤ 200 → ∀ k, 6 * (rnd t).length + 100 < k → impl_isInside.f k (B a) (rB t) = some (ins a t) := by
  intro n
  induction n using Nat.strongRecOn with
  | _ n ih =>
    intro t hn ht hl k hk
    obtain ⟨k, rfl⟩ : ∃ m, k = m + 1 := ⟨k - 1, by omega⟩
    obtain ⟨hk1, hk2⟩ := kids_len ht
    have hko := kids_ok ht
    have hl0 := ii_l a (kids t) (by omega) k (fun u hu k' hk' => ih (rnd u).length (by have := hk1 u hu; omega) u rfl (hko u hu) (by have := hk1 u hu; omega) k' hk') (fun u hu => by have := hk1 u hu; omega) (by omega) (kids t).length 0 (by omega)
    rw [List.drop_zero, Nat.sub_zero] at hl0
    rw [impl_isInside.f, show rB t = B (rnd t) from rfl, parts_f t ht (by omega) k (by omega), Option.bind_some, ins_kids]
    exact hl0
end Go.Proofs.YtebadckdihgklaaDoor.QIns
