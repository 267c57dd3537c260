-- Cut by prune.py, a program of this session, out of the texts of this claim: Lean checks it.
import Derived.Test.YtebadckdihgklaaDoorVobQIns
namespace Go.Proofs.YtebadckdihgklaaDoor.QTerms
open Go.Proofs.YtebadckdihgklaaDoor.QPrs Go.Proofs.YtebadckdihgklaaDoor.QStr Go.Proofs.YtebadckdihgklaaDoor.QTm Go.Proofs.YtebadckdihgklaaDoor.QParts Go.Proofs.YtebadckdihgklaaDoor.QSize Go.Proofs.YtebadckdihgklaaDoor.QIns
theorem insL_iff (a : List UInt8) : ∀ ts : List Tm, insL a ts = true ↔ ∃ u ∈ ts, rnd u = a ∨ ins a u = true
  | [] => by rw [insL_nil]; simp
  | u :: ts => by
    rw [insL_cons, Bool.or_eq_true, Bool.or_eq_true, decide_eq_true_eq, insL_iff a ts]
    simp only [List.mem_cons]
    constructor
    · rintro (h | ⟨v, hv, h⟩)
      · exact ⟨u, .inl rfl, h⟩
      · exact ⟨v, .inr hv, h⟩
    · rintro ⟨v, rfl | hv, h⟩
      · exact .inl h
      · exact .inr ⟨v, hv, h⟩
theorem ins_iff (a : List UInt8) (t : Tm) : ins a t = true ↔ ∃ u ∈ kids t, rnd u = a ∨ ins a u = true := by rw [ins_kids, insL_iff]
theorem ins_kid {u t : Tm} (h : u ∈ kids t) : ins (rnd u) t = true := (ins_iff _ t).2 ⟨u, h, .inl rfl⟩
theorem ins_kid2 {a : List UInt8} {u t : Tm} (h : u ∈ kids t) (hi : ins a u = true) : ins a t = true := (ins_iff _ t).2 ⟨u, h, .inr hi⟩
theorem ins_len (a : List UInt8) : ∀ (n : Nat) (t : Tm), (rnd t).length = n → Ok t → ins a t = true → a.length < (rnd t).length := by
  intro n
  induction n using Nat.strongRecOn with
  | _ n ih =>
    intro t hn ht h
    obtain ⟨u, hu, h⟩ := (ins_iff a t).1 h
    have h1 := (kids_len ht).1 u hu
    rcases h with rfl | h
    · omega
    · have := ih (rnd u).length (by omega) u rfl (kids_ok ht u hu) h
      omega
theorem ins_not {u t : Tm} (ht : Ok t) (hu : u ∈ kids t) : ins (rnd t) u = false := by
  rw [Bool.eq_false_iff]
  intro h
  have h1 := (kids_len ht).1 u hu
  have := ins_len (rnd t) _ u rfl (kids_ok ht u hu) h
  omega
theorem tszL_mem : ∀ (ts : List Tm) (u : Tm), u ∈ ts → tsz u ≤ tszL ts
  | [], u, h => by cases h
  | a :: ts, u, h => by
    rw [tszL_cons]
    rcases List.mem_cons.1 h with rfl | h
    · omega
    · have := tszL_mem ts u h
      omega
theorem tsz_kid {u t : Tm} (h : u ∈ kids t) : tsz u < tsz t := by
  rw [tsz_kids t]
  have := tszL_mem _ u h
  omega
/-- A term of at most 200 bytes. -/
def Sh (t : Tm) : Prop := Ok t ∧ (rnd t).length ≤ 200
theorem sh_kid {t u : Tm} (h : Sh t) (hu : u ∈ kids t) : Sh u := by
  have := (kids_len h.1).1 u hu
  exact ⟨kids_ok h.1 u hu, by have := h.2; omega⟩
theorem sh_prs {t : Tm} (h : Sh t) : prs (rnd t) = some t := prs_rnd h.1 h.2
end Go.Proofs.YtebadckdihgklaaDoor.QTerms
