-- Cut by prune.py, a program of this session, out of the texts of this claim: Lean checks it.
import Derived.Test.YtebadckdihgklaaDoorVoaPbx27
import Derived.Test.YtebadckdihgklaaDoorVoaQCmp
namespace Go.Proofs.YtebadckdihgklaaDoor.Pure
open Go.RowKit Go.Proofs.YtebadckdihgklaaDoor.Pb Go.Proofs.YtebadckdihgklaaDoorW.PrintWords Go.Proofs.YtebadckdihgklaaDoorW.PrintLast Go.Proofs.YtebadckdihgklaaDoor.QStr Go.Proofs.YtebadckdihgklaaDoor.QTm Go.Proofs.YtebadckdihgklaaDoor.QPrs Go.Proofs.YtebadckdihgklaaDoor.QKind Go.Proofs.YtebadckdihgklaaDoor.QParts Go.Proofs.YtebadckdihgklaaDoor.QCmp
/-- What TermCmp answers. -/
noncomputable def cmpB (a b : List UInt8) : Int :=
 match prs a,prs b with
 | some t,some u => tcmp t u
 | _,_ => 2
theorem spec_termCmp_f (a b : List UInt8) (ha : a.length ≤ 1048576) (hb : b.length ≤ 1048576) (k : Nat) (hk : 6 * a.length + 6 * b.length + 200 < k) : spec_TermCmp.f k (B a) (B b) = some (cmpB a b) := by
 unfold spec_TermCmp.f cmpB
 rw [spec_kind _ a rfl (by omega) k (by omega),Option.bind_some]
 cases hp : prs a with
 | none => rw [if_pos (show kd none = 0 from rfl)]
 | some t =>
  have hkt := kind_pos t
  rw [if_neg (by simp only [kd]; omega),spec_kind _ b rfl (by omega) k (by omega),Option.bind_some]
  cases hp2 : prs b with
  | none => rw [if_pos (show kd none = 0 from rfl)]
  | some u =>
   have hku := kind_pos u
   obtain ⟨h1,h2,h3⟩ := prs_some.1 hp
   obtain ⟨h4,h5,h6⟩ := prs_some.1 hp2
   have e1 : B a = rB t := by rw [rB,h2]
   have e2 : B b = rB u := by rw [rB,h5]
   rw [if_neg (by simp only [kd]; omega),e1,e2,spec_cmp _ t u rfl h1 h4 (by rw [h2]; exact h3) (by rw [h5]; exact h6) k (by rw [h2,h5]; exact hk)]
   rfl
theorem impl_termCmp_f (a b : List UInt8) (ha : a.length ≤ 1048576) (hb : b.length ≤ 1048576) (k : Nat) (hk : 6 * a.length + 6 * b.length + 200 < k) : impl_TermCmp.f k (B a) (B b) = some (cmpB a b) := by
 unfold impl_TermCmp.f cmpB
 obtain ⟨k,rfl⟩ : ∃ m,k = m + 2 := ⟨k - 2,by omega⟩
 cases hp : prs a with
 | none => rw [z1_.f,kindOf_f a (by omega) (k + 1) (by omega),Option.bind_some,kindOf_f b (by omega) (k + 1) (by omega),Option.bind_some,hp,if_pos (show kd none = 0 from rfl),z1_.j0,if_pos rfl]; rfl
 | some t =>
  have hkt := kind_pos t
  cases hp2 : prs b with
  | none => rw [z1_.f,kindOf_f a (by omega) (k + 1) (by omega),Option.bind_some,kindOf_f b (by omega) (k + 1) (by omega),Option.bind_some,hp,hp2,if_neg (by simp only [kd]; omega),show (kd none == 0) = true from rfl,z1_.j0,if_pos rfl]; rfl
  | some u =>
   obtain ⟨h1,h2,h3⟩ := prs_some.1 hp
   obtain ⟨h4,h5,h6⟩ := prs_some.1 hp2
   have e1 : B a = rB t := by rw [rB,h2]
   have e2 : B b = rB u := by rw [rB,h5]
   rw [e1,e2,impl_cmp _ t u rfl h1 h4 (by rw [h2]; exact h3) (by rw [h5]; exact h6) (k + 2) (by rw [h2,h5]; exact hk)]
   rfl
end Go.Proofs.YtebadckdihgklaaDoor.Pure
