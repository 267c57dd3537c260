-- Cut by prune.py, a program of this session, out of the texts of this claim: Lean checks it.
import Derived.Test.YtebadckdihgklaaDoorVtaQDraw
import Derived.Test.YtebadckdihgklaaDoorVtaPbx17
namespace Go.Proofs.YtebadckdihgklaaDoor.QDraw2
open Go.RowKit Go.Proofs.YtebadckdihgklaaDoor.Pb Go.Proofs.YtebadckdihgklaaDoorW.PrintWords Go.Proofs.YtebadckdihgklaaDoorW.PrintLast Go.Proofs.YtebadckdihgklaaDoor.QStr Go.Proofs.YtebadckdihgklaaDoor.QTm Go.Proofs.YtebadckdihgklaaDoor.QCur Go.Proofs.YtebadckdihgklaaDoor.QDraw
theorem size_f {l : List Int} (hl : Byt l) {a s : Int} {n : Nat} (hc : Cur a s n) (hn : n ≤ 1099511627000) (m : Int) (hm : 1 ≤ m) (hm2 : m ≤ 1000) :
    ∃ x a' s', spec_l01Cur_size.f l a s m = some (x, a', s') ∧ 0 ≤ x ∧ x ≤ m ∧ Cur a' s' (n + 1) := by
  have hl1 := hl.1
  have hq : 0 ≤ (l.length : Int) / 8 ∧ (l.length : Int) / 8 ≤ 140737488351232 := by omega
  unfold spec_l01Cur_size.f
  rw [wrapS (n := (l.length : Int) / 8) (by omega) (by omega), wrapS (n := 1 + (l.length : Int) / 8) (by omega) (by omega)]
  generalize (l.length : Int) / 8 = q at hq
  by_cases h : 1 + q > m
  · obtain ⟨x, a2, s2, hx, hx0, hx1, _, hc2⟩ := pick_f hl hc (by omega) (m + 1)
    have hx1 := hx1 (by omega)
    rw [if_pos h, wrapS (n := m + 1) (by omega) (by omega), hx, Option.bind_some]
    exact ⟨_, _, _, rfl, hx0, by omega, hc2⟩
  · obtain ⟨x, a2, s2, hx, hx0, hx1, _, hc2⟩ := pick_f hl hc (by omega) (1 + q + 1)
    have hx1 := hx1 (by omega)
    rw [if_neg h, wrapS (n := 1 + q + 1) (by omega) (by omega), hx, Option.bind_some]
    exact ⟨_, _, _, rfl, hx0, by omega, hc2⟩
theorem prog_l {l : List Int} (hl : Byt l) : ∀ (d : Nat) (t : ByteArray) (a s : Int) (n k : Nat), t.size + 200 * d ≤ 3000 → Cur a s n → n + 2 * d ≤ 1099511627000 → d < k →
    ∃ u a' s', spec_l01Cur_program.l0 k t (d : Int) l a s = some (u, a', s') ∧ 1 ≤ u.size + (if t.size = 0 then 1 else 0) ∧ t.size ≤ u.size ∧ u.size ≤ t.size + 200 * d ∧ Cur a' s' (n + 2 * d)
  | 0, t, a, s, n, k, ht, hc, hn, hk => by
    obtain ⟨k, rfl⟩ : ∃ m, k = m + 1 := ⟨k - 1, by omega⟩
    rw [spec_l01Cur_program.l0, if_neg (by omega)]
    exact ⟨_, _, _, rfl, by split <;> omega, Nat.le_refl _, by omega, hc⟩
  | d + 1, t, a, s, n, k, ht, hc, hn, hk => by
    obtain ⟨k, rfl⟩ : ∃ m, k = m + 1 := ⟨k - 1, by omega⟩
    obtain ⟨x, a2, s2, hx, hx0, hx1, _, hc2⟩ := pick_f hl hc (by omega) 24
    have hx1 := hx1 (by omega)
    obtain ⟨y, a3, s3, hy, hy0, hy1, _, hc3⟩ := pick_f hl hc2 (by omega) 4
    have hy1 := hy1 (by omega)
    rw [spec_l01Cur_program.l0, if_pos (by omega), Option.bind_some, hx, Option.bind_some]
    simp only []
    generalize hA : rdOf ByteArray.empty _ x = A
    have hAs : A.size ≤ 100 := by rw [← hA]; exact rdOf_le _ _ 100 (by decide)
    rw [if_pos hx0, if_pos (by exact hx1), if_pos (by omega), Option.bind_some, hy, Option.bind_some]
    simp only []
    generalize hB : rdOf ByteArray.empty _ y = C
    have hBs : C.size ≤ 100 := by rw [← hB]; exact rdOf_le _ _ 100 (by decide)
    have hsz : ((t ++ A) ++ C).size = t.size + A.size + C.size := by rw [ByteArray.size_append, ByteArray.size_append]
    rw [if_pos hy0, if_pos (by exact hy1), if_pos (by rw [ByteArray.size_append]; omega), show ((d + 1 : Nat) : Int) - 1 = (d : Int) by omega, wrapS (n := (d : Int)) (by omega) (by omega)]
    obtain ⟨u, a4, s4, hu, hu1, hu2, hu3, hc4⟩ := prog_l hl d ((t ++ A) ++ C) a3 s3 (n + 1 + 1) k (by rw [hsz]; omega) hc3 (by omega) (by omega)
    rw [hsz] at hu2 hu3
    exact ⟨u, a4, s4, hu, by split <;> omega, by omega, by omega, hc4.mono (by omega)⟩
theorem program_f {l : List Int} (hl : Byt l) {a s : Int} {n : Nat} (hc : Cur a s n) (hn : n ≤ 1099511626000) (k : Nat) (hk : 20 < k) :
    ∃ u a' s', spec_l01Cur_program.f k l a s = some (u, a', s') ∧ 1 ≤ u.size ∧ u.size ≤ 3000 ∧ Cur a' s' (n + 20) := by
  unfold spec_l01Cur_program.f
  obtain ⟨x, a2, s2, hx, hx0, hx1, _, hc2⟩ := pick_f hl hc (by omega) 3
  have hx1 := hx1 (by omega)
  rw [Option.bind_some, hx, Option.bind_some]
  simp only []
  generalize hA : rdOf ByteArray.empty _ x = A
  have hAs : A.size ≤ 300 := by rw [← hA]; exact rdOf_le _ _ 300 (by decide)
  obtain ⟨y, a3, s3, hy, hy0, hy1, hc3⟩ := size_f hl hc2 (by omega) 7 (by omega) (by omega)
  rw [if_pos hx0, if_pos (by exact hx1), if_pos (by omega), hy, Option.bind_some]
  simp only []
  generalize hD : (⟨_⟩ : ByteArray) = D
  have hDs : D.size = 224 := by rw [← hD]; rfl
  have hsz : (A ++ D).size = A.size + 224 := by rw [ByteArray.size_append, hDs]
  obtain ⟨m, hm⟩ : ∃ m : Nat, y = (m : Int) := ⟨y.toNat, by omega⟩
  rw [wrapS (n := 1 + y) (by omega) (by omega), show 1 + y = ((m + 1 : Nat) : Int) by omega]
  obtain ⟨u, a4, s4, hu, hu1, hu2, hu3, hc4⟩ := prog_l hl (m + 1) (A ++ D) a3 s3 (n + 1 + 1) k (by rw [hsz]; omega) hc3 (by omega) (by omega)
  rw [hsz] at hu2 hu3
  exact ⟨u, a4, s4, hu, by omega, by omega, hc4.mono (by omega)⟩
theorem source_f {l : List Int} (hl : Byt l) {a s : Int} {n : Nat} (hc : Cur a s n) (hn : n ≤ 1099511625000) (k : Nat) (hk : 20 < k) :
    ∃ u a' s', spec_l01Cur_source.f k l a s = some (u, a', s') ∧ u.size ≤ 4000 ∧ Cur a' s' (n + 30) := by
  unfold spec_l01Cur_source.f
  obtain ⟨t, a1, s1, ht, ht1, ht2, hc1⟩ := program_f hl hc (by omega) k hk
  rw [ht, Option.bind_some]
  simp only []
  obtain ⟨x, a2, s2, hx, hx0, hx1, _, hc2⟩ := pick_f hl hc1 (by omega) 8
  have hx1 := hx1 (by omega)
  rw [hx, Option.bind_some]
  simp only []
  by_cases e0 : x = 0
  · obtain ⟨y, a3, s3, hy, hy0, hy1, hy2, hc3⟩ := pick_f hl hc2 (by omega) (t.size : Int)
    have hle : y + 1 ≤ (t.size : Int) := by
      by_cases hz : (2 : Int) ≤ (t.size : Int)
      · have := hy1 hz; omega
      · have := hy2 (by omega); omega
    rw [if_pos e0, hy, Option.bind_some]
    simp only []
    rw [wrapS (n := y + 1) (by omega) (by omega), if_pos hy0, if_pos (by omega), if_pos (by omega), if_pos hle, if_pos (by rw [ByteArray.size_extract, ByteArray.size_extract]; omega)]
    exact ⟨_, _, _, rfl, by rw [ByteArray.size_append, ByteArray.size_extract, ByteArray.size_extract]; omega, hc3.mono (by omega)⟩
  rw [if_neg e0]
  by_cases e1 : x = 1
  · obtain ⟨y, a3, s3, hy, hy0, hy1, hy2, hc3⟩ := pick_f hl hc2 (by omega) ((t.size : Int) + 1)
    have hle : y ≤ (t.size : Int) := by
      by_cases hz : (2 : Int) ≤ (t.size : Int) + 1
      · have := hy1 hz; omega
      · have := hy2 (by omega); omega
    obtain ⟨z, a4, s4, hz, hz0, hz1, _, hc4⟩ := pick_f hl hc3 (by omega) 15
    have hz1 := hz1 (by omega)
    rw [if_pos e1, wrapS (n := (t.size : Int) + 1) (by omega) (by omega), hy, Option.bind_some]
    simp only []
    rw [if_pos hy0, if_pos hle, Option.bind_some, hz, Option.bind_some]
    simp only []
    generalize hA : rdOf ByteArray.empty _ z = A
    have hAs : A.size ≤ 10 := by rw [← hA]; exact rdOf_le _ _ 10 (by decide)
    rw [if_pos hz0, if_pos (by exact hz1), if_pos (by rw [ByteArray.size_extract]; omega), if_pos (by rw [ByteArray.size_append, ByteArray.size_extract, ByteArray.size_extract]; omega)]
    exact ⟨_, _, _, rfl, by rw [ByteArray.size_append, ByteArray.size_append, ByteArray.size_extract, ByteArray.size_extract]; omega, hc4.mono (by omega)⟩
  rw [if_neg e1]
  by_cases e2 : x = 2
  · obtain ⟨z, a4, s4, hz, hz0, hz1, _, hc4⟩ := pick_f hl hc2 (by omega) 22
    have hz1 := hz1 (by omega)
    rw [if_pos e2, Option.bind_some, hz, Option.bind_some]
    simp only []
    generalize hA : rdOf ByteArray.empty _ z = A
    have hAs : A.size ≤ 100 := by rw [← hA]; exact rdOf_le _ _ 100 (by decide)
    rw [if_pos hz0, if_pos (by exact hz1), if_pos (by omega)]
    exact ⟨_, _, _, rfl, by rw [ByteArray.size_append]; omega, hc4.mono (by omega)⟩
  · rw [if_neg e2]
    exact ⟨_, _, _, rfl, by omega, hc2.mono (by omega)⟩
end Go.Proofs.YtebadckdihgklaaDoor.QDraw2
