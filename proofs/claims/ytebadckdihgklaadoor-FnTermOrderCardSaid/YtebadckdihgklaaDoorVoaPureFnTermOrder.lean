-- Cut by prune.py, a program of this session, out of the texts of this claim: Lean checks it.
import Derived.Test.YtebadckdihgklaaDoorVoaPbx30
import Derived.Test.YtebadckdihgklaaDoorVoaPureFnExactTermCmp
import Derived.Test.YtebadckdihgklaaDoorVoaQOrd
import Derived.Test.YtebadckdihgklaaDoorVoaQDraw
namespace Go.Proofs.YtebadckdihgklaaDoor.Pure
open Go.RowKit Go.Proofs.YtebadckdihgklaaDoor.Pb Go.Proofs.YtebadckdihgklaaDoorW.PrintWords Go.Proofs.YtebadckdihgklaaDoorW.PrintLast Go.Proofs.YtebadckdihgklaaDoor.QStr Go.Proofs.YtebadckdihgklaaDoor.QTm Go.Proofs.YtebadckdihgklaaDoor.QPrs Go.Proofs.YtebadckdihgklaaDoor.QKind Go.Proofs.YtebadckdihgklaaDoor.QCmp Go.Proofs.YtebadckdihgklaaDoor.QOrd Go.Proofs.YtebadckdihgklaaDoor.QCur Go.Proofs.YtebadckdihgklaaDoor.QDraw
theorem drawCmp_f {l : List Int} (hl : Byt l) (k : Nat) (hk : 250 < k) : ∃ a b,spec_DrawTermCmp.f k l = some (a,b) ∧ a.size ≤ 1000 ∧ b.size ≤ 1000 := by
 unfold spec_DrawTermCmp.f
 obtain ⟨s,ho,hc⟩ := open_f l
 rw [ho,Option.bind_some]
 simp only []
 obtain ⟨a,a1,s1,h1,b1,c1⟩ := any_f hl hc (by omega) k hk
 rw [h1,Option.bind_some]
 simp only []
 obtain ⟨y,a2,s2,hy,_,_,_,c2⟩ := pick_f hl c1 (by omega) 5
 rw [hy,Option.bind_some]
 simp only []
 by_cases h0 : y = 0
 ·rw [if_pos h0]
  exact ⟨a,a,rfl,b1,b1⟩
 ·rw [if_neg h0]
  obtain ⟨b,a3,s3,h3,b3,_⟩ := any_f hl c2 (by omega) k hk
  rw [h3,Option.bind_some]
  exact ⟨a,b,rfl,b1,b3⟩
theorem cmpB_some {a b : List UInt8} {t u : Tm} (ha : prs a = some t) (hb : prs b = some u) : cmpB a b = tcmp t u := by
 unfold cmpB
 rw [ha,hb]
theorem cmpB_none {a b : List UInt8} (h : prs a = none ∨ prs b = none) : cmpB a b = 2 := by
 unfold cmpB
 rcases h with h | h
 ·rw [h]
 ·rw [h]
  cases prs a <;> rfl
/-- What is not behind what is not behind a third is not behind it. -/
theorem tri {t u v : Tm} (h1 : tcmp t u ≤ 0) (h2 : tcmp u v ≤ 0) : tcmp t v ≤ 0 ∧ (tcmp t v < 0 ∨ tcmp t u = 0 ∧ tcmp u v = 0) := by
 by_cases e1 : tcmp t u = 0
 ·have := tcmp_zero t u e1
  subst this
  refine ⟨h2, ?_⟩
  by_cases e2 : tcmp t v = 0
  ·exact .inr ⟨e1,e2⟩
  ·exact .inl (by omega)
 ·by_cases e2 : tcmp u v = 0
  ·have := tcmp_zero u v e2
   subst this
   exact ⟨h1,.inl (by omega)⟩
  ·have r1 := tcmp_range t u
   have r2 := tcmp_range u v
   have := tcmp_trans t u v (by omega) (by omega)
   exact ⟨by omega,.inl (by omega)⟩
theorem FnTermOrder : laws_FnTermOrder.Pure := by
 intro l m hl hm
 have hl := byt_of hl
 have hm := byt_of hm
 obtain ⟨K,hK⟩ : ∃ K : Nat,K = 20000 := ⟨_,rfl⟩
 refine ⟨K + 2, ?_⟩
 unfold laws_FnTermOrder.f laws_big.f
 rw [Option.bind_some,Option.bind_some]
 by_cases hb : decide ((l.length : Int) > 1048576) = true
 ·rw [if_pos hb,laws_FnTermOrder.j0,if_pos rfl]
 rw [if_neg hb,laws_FnTermOrder.j0]
 by_cases hb2 : decide ((m.length : Int) > 1048576) = true
 ·rw [if_pos hb2]
 rw [if_neg hb2]
 obtain ⟨a,b,hab,ha,hb⟩ := drawCmp_f hl (K + 1) (by omega)
 obtain ⟨c,c',hcc,hc,_⟩ := drawCmp_f hm (K + 1) (by omega)
 rw [hab,Option.bind_some,hcc,Option.bind_some]
 simp only []
 have sa : (L a).length = a.size := L_length a
 have sb : (L b).length = b.size := L_length b
 have sc : (L c).length = c.size := L_length c
 have cmp : ∀ (x y : ByteArray) (k : Nat),x.size ≤ 1000 → y.size ≤ 1000 → 15000 < k → impl_TermCmp.f k x y = some (cmpB (L x) (L y)) := by
  intro x y k hx hy hk
  have := impl_termCmp_f (L x) (L y) (by rw [L_length]; omega) (by rw [L_length]; omega) k (by rw [L_length,L_length]; omega)
  rwa [B_L,B_L] at this
 have knd : ∀ (x : ByteArray) (k : Nat),x.size ≤ 1000 → 15000 < k → z3_.f k x = some (kd (prs (L x))) := by
  intro x k hx hk
  have := spec_kind _ (L x) rfl (by rw [L_length]; omega) k (by rw [L_length]; omega)
  rwa [B_L] at this
 have scmp := spec_termCmp_f (L a) (L b) (by omega) (by omega) K (by omega)
 rw [B_L,B_L] at scmp
 rw [cmp a b _ ha hb (by omega),Option.bind_some,cmp b c _ hb hc (by omega),Option.bind_some,cmp a c _ ha hc (by omega),Option.bind_some,knd a _ ha (by omega),Option.bind_some]
 have fin : prs (L a) = none ∨ prs (L b) = none → laws_FnTermOrder.j1 (K + 1) a b c (cmpB (L a) (L b)) (cmpB (L b) (L c)) (cmpB (L a) (L c)) true = some true := by
  intro h
  rw [laws_FnTermOrder.j1,if_pos rfl,cmpB_none h]
  rfl
 cases hpa : prs (L a) with
 | none =>
  rw [if_pos (show kd none = 0 from rfl)]
  exact fin (.inl hpa)
 | some t =>
  have kt := kind_pos t
  rw [if_neg (by simp only [kd]; omega),knd b _ hb (by omega),Option.bind_some]
  cases hpb : prs (L b) with
  | none =>
   rw [show (kd none == 0) = true from rfl]
   exact fin (.inr hpb)
  | some u =>
   have ku := kind_pos u
   have hx := cmpB_some hpa hpb
   have hyx := cmpB_some hpb hpa
   have hn := tcmp_neg t u
   have hr := tcmp_range t u
   rw [show (kd (some u) == 0) = false by rw [beq_eq_false_iff_ne]; simp only [kd]; omega,laws_FnTermOrder.j1,if_neg (by decide),cmp b a _ hb ha (by omega),Option.bind_some,hx,hyx,wrapS (by omega) (by omega),if_pos (by omega)]
   have heq : (tcmp t u == 0) = (a.toList == b.toList) := by
    have e1 : a.toList = L a := by have := toList_B (L a); rwa [B_L] at this
    have e2 : b.toList = L b := by have := toList_B (L b); rwa [B_L] at this
    rw [Bool.eq_iff_iff,beq_iff_eq,beq_iff_eq,e1,e2]
    obtain ⟨_,h1,_⟩ := prs_some.1 hpa
    obtain ⟨_,h2,_⟩ := prs_some.1 hpb
    constructor
    ·intro h
     rw [← h1,← h2,tcmp_zero t u h]
    ·intro h
     rw [h,hpb] at hpa
     injection hpa with hpa
     rw [hpa]
     exact tcmp_self t
   rw [heq,bne_self_eq_false,if_neg (by decide),scmp,Option.bind_some,hx,if_pos rfl,knd c _ hc (by omega),Option.bind_some]
   cases hpc : prs (L c) with
   | none => rw [if_pos (show kd none = 0 from rfl)]
   | some v =>
    have kv := kind_pos v
    rw [if_neg (by simp only [kd]; omega),cmpB_some hpb hpc,cmpB_some hpa hpc]
    by_cases h1 : tcmp t u ≤ 0
    ·rw [if_pos h1]
     by_cases h2 : tcmp u v ≤ 0
     ·obtain ⟨h3,h4⟩ := tri h1 h2
      rw [if_pos h2,if_pos h3]
      by_cases h5 : tcmp t v < 0
      ·rw [if_pos h5]
      ·obtain ⟨h6,h7⟩ := h4.resolve_left h5
       rw [if_neg h5,if_pos h6,h7]
       rfl
     ·rw [if_neg h2]
    ·rw [if_neg h1]
end Go.Proofs.YtebadckdihgklaaDoor.Pure
