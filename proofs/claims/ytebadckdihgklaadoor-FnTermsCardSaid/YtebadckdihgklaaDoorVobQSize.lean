-- Cut by prune.py, a program of this session, out of the texts of this claim: Lean checks it.
import Derived.Test.YtebadckdihgklaaDoorVobQParts
import Derived.Test.YtebadckdihgklaaDoorVobQLaws
import Derived.Test.YtebadckdihgklaaDoorVobPbx7
namespace Go.Proofs.YtebadckdihgklaaDoor.QSize
open Go.RowKit Go.Proofs.YtebadckdihgklaaDoor.Pb Go.Proofs.YtebadckdihgklaaDoorW.PrintWords Go.Proofs.YtebadckdihgklaaDoorW.PrintLast Go.Proofs.YtebadckdihgklaaDoor.QStr Go.Proofs.YtebadckdihgklaaDoor.QTm Go.Proofs.YtebadckdihgklaaDoor.QPrs Go.Proofs.YtebadckdihgklaaDoor.QKind Go.Proofs.YtebadckdihgklaaDoor.QParts Go.Proofs.YtebadckdihgklaaDoor.QLaws
mutual
def tsz : Tm → Nat
  | .num _ => 1
  | .sym _ => 1
  | .con _ ts => 1 + tszL ts
def tszL : List Tm → Nat
  | [] => 0
  | a :: ts => tsz a + tszL ts
end
theorem tsz_num (n : Int) : tsz (.num n) = 1 := by rw [tsz]
theorem tsz_sym (b : List UInt8) : tsz (.sym b) = 1 := by rw [tsz]
theorem tsz_con (nm : List UInt8) (ts : List Tm) : tsz (.con nm ts) = 1 + tszL ts := by rw [tsz]
theorem tszL_nil : tszL [] = 0 := by rw [tszL]
theorem tszL_cons (a : Tm) (ts : List Tm) : tszL (a :: ts) = tsz a + tszL ts := by rw [tszL]
theorem kids_num (v : Int) : kids (.num v) = [] := rfl
theorem kids_sym (b : List UInt8) : kids (.sym b) = [] := rfl
theorem kids_con (nm : List UInt8) (ts : List Tm) : kids (.con nm ts) = ts := rfl
theorem tsz_kids (t : Tm) : tsz t = 1 + tszL (kids t) := by
  cases t with
  | num v => rw [tsz_num, kids_num, tszL_nil]
  | sym b => rw [tsz_sym, kids_sym, tszL_nil]
  | con nm ts => rw [tsz_con, kids_con]
mutual
theorem tsz_le : ∀ t : Tm, Ok t → tsz t ≤ (rnd t).length
  | .num v, h => by have := rnd_pos _ h; rw [tsz_num]; omega
  | .sym b, h => by have := rnd_pos _ h; rw [tsz_sym]; omega
  | .con nm ts, h => by
    rw [ok_con] at h
    have h1 := List.length_pos_iff.2 (nam_ne h.1)
    rw [tsz_con, rnd_con, List.length_append]
    cases ts with
    | nil => rw [tszL_nil, rndA_nil]; simp only [List.length_nil]; omega
    | cons a ts =>
      have h2 := tszL_le (a :: ts) h.2
      rw [rndT_cons, List.length_cons] at h2
      rw [rndA_cons, List.length_cons]
      omega
theorem tszL_le : ∀ ts : List Tm, OkL ts → tszL ts + 1 ≤ (rndT ts).length
  | [], _ => by rw [tszL_nil, rndT_nil]; simp
  | a :: ts, h => by
    rw [okL_cons] at h
    have h1 := tsz_le a h.1
    have h2 := tszL_le ts h.2
    rw [tszL_cons, rndT_cons, List.length_cons, List.length_append]
    omega
end
theorem rndT_len2 : ∀ (ts : List Tm), OkL ts → ∀ t ∈ ts, (rnd t).length + ts.length ≤ (rndT ts).length
  | [], _, t, h => by cases h
  | a :: ts, ho, t, h => by
    rw [okL_cons] at ho
    have hts : ts.length + 1 ≤ (rndT ts).length := by
      clear h
      induction ts with
      | nil => rw [rndT_nil]; simp
      | cons b ts ih =>
        rw [okL_cons] at ho
        have := ih ⟨ho.1, ho.2.2⟩
        rw [rndT_cons]
        simp only [List.length_cons, List.length_append]
        omega
    rw [rndT_cons]
    simp only [List.length_cons, List.length_append]
    rcases List.mem_cons.1 h with rfl | h
    · omega
    · have := rndT_len2 ts ho.2 t h
      have := rnd_pos a ho.1
      omega
/-- A kid's text, the kids' number and more have room in the text. -/
theorem kids_len {t : Tm} (h : Ok t) : (∀ u ∈ kids t, (rnd u).length + (kids t).length + 1 ≤ (rnd t).length) ∧ (kids t).length ≤ (rnd t).length := by
  cases t with
  | num v => exact ⟨fun u hu => (by rw [kids_num] at hu; exact absurd hu (List.not_mem_nil)), by rw [kids_num]; exact Nat.zero_le _⟩
  | sym b => exact ⟨fun u hu => (by rw [kids_sym] at hu; exact absurd hu (List.not_mem_nil)), by rw [kids_sym]; exact Nat.zero_le _⟩
  | con nm ts =>
    rw [ok_con] at h
    have h1 := List.length_pos_iff.2 (nam_ne h.1)
    have key : ∀ u ∈ ts, (rnd u).length + ts.length + 1 ≤ (rnd (.con nm ts)).length := by
      intro u hu
      cases ts with
      | nil => cases hu
      | cons a ts =>
        have := rndT_len2 (a :: ts) h.2 u hu
        rw [rndT_cons] at this
        rw [rnd_con, rndA_cons]
        simp only [List.length_cons, List.length_append] at this ⊢
        omega
    refine ⟨key, ?_⟩
    rw [kids_con]
    cases ts with
    | nil => simp
    | cons a ts => have := key a (by simp); omega
theorem kids_ok {t : Tm} (h : Ok t) : ∀ u ∈ kids t, Ok u := by
  cases t with
  | num v => intro u hu; rw [kids_num] at hu; cases hu
  | sym b => intro u hu; rw [kids_sym] at hu; cases hu
  | con nm ts => rw [ok_con, okL_iff] at h; exact h.2
theorem map_get (ts : List Tm) (i : Nat) (h : i < ts.length) : rdOf ByteArray.empty (ts.map rB) (i : Int) = B (rnd ts[i]) := by
  rw [rdOf_get _ i (by rw [List.length_map]; exact h), List.getElem_map]
  rfl
theorem isz_l (ts : List Tm) (ho : ∀ u ∈ ts, Ok u) (hn : ts.length ≤ 1000) (hs : ∀ u ∈ ts, (rnd u).length ≤ 200) (K : Nat) (IH : ∀ u ∈ ts, ∀ k, 6 * (rnd u).length + 100 < k → impl_sizeOf.f k (rB u) = some (tsz u : Int)) (hK : ∀ u ∈ ts, 6 * (rnd u).length + 102 + ts.length < K) (hK2 : ts.length < K) :
    ∀ (d i : Nat) (a : Nat), i + d = ts.length → a ≤ 1 + 200 * i → impl_sizeOf.l0 (K - i) (a : Int) (ts.map rB) ((ts.map rB).length : Int) (i : Int) = some ((a + tszL (ts.drop i) : Nat) : Int)
  | 0, i, a, hd, ha => by
    obtain ⟨k, hk⟩ : ∃ m, K - i = m + 1 := ⟨K - i - 1, by omega⟩
    rw [hk, impl_sizeOf.l0, if_neg (by rw [List.length_map]; omega), List.drop_of_length_le (by omega), tszL_nil]
    rfl
  | d + 1, i, a, hd, ha => by
    have hlt : i < ts.length := by omega
    have hm := List.getElem_mem hlt
    have h1 := hK _ hm
    have h2 := tsz_le _ (ho _ hm)
    have h3 := hs _ hm
    obtain ⟨k, hk⟩ : ∃ m, K - i = m + 1 := ⟨K - i - 1, by omega⟩
    have hih := IH _ hm k (by omega)
    have hgo := isz_l ts ho hn hs K IH hK hK2 d (i + 1) (a + tsz ts[i]) (by omega) (by omega)
    have hw : wrap64 ((a : Int) + (tsz ts[i] : Int)) = ((a + tsz ts[i] : Nat) : Int) := by
      clear hih hgo
      rw [wrapS (by omega) (by omega)]
      omega
    have hk' : k = K - (i + 1) := by clear hih hgo hw; omega
    rw [hk, impl_sizeOf.l0, if_pos (by rw [List.length_map]; clear hw hih hgo; omega), if_pos (Int.natCast_nonneg _), if_pos (by rw [List.length_map]; clear hw hih hgo; omega), map_get ts i hlt, show B (rnd ts[i]) = rB ts[i] from rfl, hih, Option.bind_some, hw, step_i (by clear hw hih hgo; omega), hk', hgo,
      List.drop_eq_getElem_cons hlt, tszL_cons, Nat.add_assoc]
theorem sizeOf_f : ∀ (n : Nat) (t : Tm), (rnd t).length = n → Ok t → (rnd t).length ≤ 200 → ∀ k, 6 * (rnd t).length + 100 < k → impl_sizeOf.f k (rB t) = some (tsz t : Int) := by
  intro n
  induction n using Nat.strongRecOn with
  | _ n ih =>
    intro t hn ht hl k hk
    obtain ⟨k, rfl⟩ : ∃ m, k = m + 1 := ⟨k - 1, by omega⟩
    obtain ⟨hk1, hk2⟩ := kids_len ht
    have hko := kids_ok ht
    have hl0 := isz_l (kids t) hko (by omega) (fun u hu => by have := hk1 u hu; omega) k (fun u hu k' hk' => ih (rnd u).length (by have := hk1 u hu; omega) u rfl (hko u hu) (by have := hk1 u hu; omega) k' hk') (fun u hu => by have := hk1 u hu; omega) (by omega) (kids t).length 0 1 (by omega) (by omega)
    rw [List.drop_zero, Nat.sub_zero] at hl0
    rw [impl_sizeOf.f, show rB t = B (rnd t) from rfl, parts_f t ht (by omega) k (by omega), Option.bind_some, tsz_kids]
    exact hl0
end Go.Proofs.YtebadckdihgklaaDoor.QSize
