-- Cut by prune.py, a program of this session, out of the texts of this claim: Lean checks it.
import Derived.Test.YtcckpjflbfofjaaVcdQCur
import Derived.Test.YtcckpjflbfofjaaVcdQGraph
import Derived.Test.YtcckpjflbfofjaaVcdPdx11
namespace Go.Proofs.Ytcckpjflbfofjaa.QGraphD
open Go.RowKit Go.Proofs.Ytcckpjflbfofjaa.Pd Go.Proofs.YtcckpjflbfofjaaW.PrintWords Go.Proofs.YtcckpjflbfofjaaW.PrintLast Go.Proofs.Ytcckpjflbfofjaa.QStr Go.Proofs.Ytcckpjflbfofjaa.QCur Go.Proofs.Ytcckpjflbfofjaa.QGraph
theorem once_f {l : List Int} (hl : Byt l) {a s : Int} {n : Nat} (hc : Cur a s n) (hn : n ≤ 1099511627000) (m : Int) : ∃ b a' s',spec_l01Cur_once.f l a s m = some (b,a',s') ∧ Cur a' s' (n + 1) := by
 obtain ⟨x,a1,s1,hx,_,_,_,hc1⟩ := pick_f hl hc (by omega) m
 unfold spec_l01Cur_once.f
 rw [hx,Option.bind_some]
 exact ⟨_,_,_,rfl,hc1⟩
theorem gl1 {l : List Int} (hl : Byt l) (g0 g1 : Int) (i m : Nat) (hi : i < 3) : ∀ (d j : Nat) (a s : Int) (n : Nat) (rs : List A),j + d = 3 → rs.length + d ≤ 100 → Cur a s n → n + 3 * d ≤ 1000000 →
  ∃ rs' a' s',z1_.l1 (m + d + 1) (i : Int) (j : Int) l a s g0 g1 rs = z1_.l0 m ((i + 1 : Nat) : Int) l a' s' g0 g1 rs' ∧ rs'.length ≤ rs.length + d ∧ Cur a' s' (n + 2 * d)
 | 0,j,a,s,n,rs,hd,hr,hc,hn => by
  rw [z1_.l1,if_neg (by omega),step_i (by omega)]
  exact ⟨_,_,_,rfl,Nat.le_refl _,hc⟩
 | d + 1,j,a,s,n,rs,hd,hr,hc,hn => by
  obtain ⟨x,a1,s1,hx,_,_,_,hc1⟩ := pick_f hl hc (by omega) 3
  rw [z1_.l1,if_pos (by omega),hx,Option.bind_some]
  simp only []
  by_cases h0 : x = 0
  ·obtain ⟨y,a2,s2,hy,_,_,_,hc2⟩ := pick_f hl hc1 (by omega) 2
   rw [if_pos h0,hy,Option.bind_some]
   simp only []
   rw [if_pos (by omega),step_i (by omega)]
   obtain ⟨rs',a',s',e,h1,h2⟩ := gl1 hl g0 g1 i m hi d (j + 1) a2 s2 (n + 2) (rs ++ [(⟨i,j,(y == 0)⟩ : A)]) (by omega) (by rw [List.length_append,List.length_singleton]; omega) hc2 (by omega)
   rw [List.length_append,List.length_singleton] at h1
   exact ⟨rs',a',s',e,by omega,h2.mono (by omega)⟩
  ·clear hx
   rw [if_neg h0,step_i (by omega)]
   obtain ⟨rs',a',s',e,h1,h2⟩ := gl1 hl g0 g1 i m hi d (j + 1) a1 s1 (n + 1) rs (by omega) (by omega) hc1 (by omega)
   exact ⟨rs',a',s',e,by omega,h2.mono (by omega)⟩
theorem gl0 {l : List Int} (hl : Byt l) (g0 g1 : Int) (m : Nat) : ∀ (d i : Nat) (a s : Int) (n : Nat) (rs : List A),i + d = 3 → rs.length + 4 * d ≤ 50 → Cur a s n → n + 9 * d ≤ 900000 →
  ∃ rs' a' s',z1_.l0 (m + 5 * d + 1) (i : Int) l a s g0 g1 rs = some (g0,g1,rs',a',s') ∧ rs'.length ≤ rs.length + 3 * d + 1 ∧ Cur a' s' (n + 6 * d + 5)
 | 0,i,a,s,n,rs,hd,hr,hc,hn => by
  obtain ⟨b,a1,s1,hb,hc1⟩ := once_f hl hc (by omega) 20
  rw [z1_.l0,if_neg (by omega),hb,Option.bind_some]
  simp only []
  by_cases h0 : b = true
  ·obtain ⟨v,a2,s2,hv,_,_,hc2⟩ := raw_f hl hc1 (by omega)
   obtain ⟨u,a3,s3,hu,_,_,hc3⟩ := raw_f hl hc2 (by omega)
   rw [if_pos h0,hv,Option.bind_some]
   simp only []
   rw [hu,Option.bind_some]
   simp only []
   rw [if_pos (by omega)]
   exact ⟨_,_,_,rfl,by rw [List.length_append,List.length_singleton]; omega,hc3.mono (by omega)⟩
  ·rw [if_neg h0]
   exact ⟨_,_,_,rfl,by omega,hc1.mono (by omega)⟩
 | d + 1,i,a,s,n,rs,hd,hr,hc,hn => by
  obtain ⟨rs1,a1,s1,e,h1,h2⟩ := gl1 hl g0 g1 i (m + 5 * d + 1) (by omega) 3 0 a s n rs (by omega) (by omega) hc (by omega)
  obtain ⟨rs2,a2,s2,e2,h3,h4⟩ := gl0 hl g0 g1 m d (i + 1) a1 s1 (n + 6) rs1 (by omega) (by omega) h2 (by omega)
  rw [show m + 5 * (d + 1) + 1 = (m + 5 * d + 1 + 3 + 1) + 1 by omega,z1_.l0,if_pos (by omega)]
  have e' : z1_.l1 (m + 5 * d + 1 + 3 + 1) (i : Int) 0 l a s g0 g1 rs = z1_.l0 (m + 5 * d + 1) ((i + 1 : Nat) : Int) l a1 s1 g0 g1 rs1 := e
  rw [e',e2]
  exact ⟨_,_,_,rfl,by omega,h4.mono (by omega)⟩
theorem graph_f {l : List Int} (hl : Byt l) {a s : Int} {n : Nat} (hc : Cur a s n) (hn : n ≤ 800000) (k : Nat) (hk : 20 < k) :
  ∃ g0 g1 rs a' s',z1_.f k l a s = some (g0,g1,rs,a',s') ∧ rs.length ≤ 10 ∧ Cur a' s' (n + 30) := by
 obtain ⟨x,a1,s1,hx,_,_,_,hc1⟩ := pick_f hl hc (by omega) 2
 obtain ⟨y,a2,s2,hy,_,_,_,hc2⟩ := pick_f hl hc1 (by omega) 2
 obtain ⟨rs,a3,s3,e,h1,h2⟩ := gl0 hl x y (k - 16) 3 0 a2 s2 (n + 2) [] (by omega) (by simp) hc2 (by omega)
 unfold z1_.f
 rw [hx,Option.bind_some]
 simp only []
 rw [hy,Option.bind_some]
 simp only []
 have e' : z1_.l0 k 0 l a2 s2 x y [] = some (x,y,rs,a3,s3) := by
  rw [show k - 16 + 5 * 3 + 1 = k by omega] at e
  exact e
 rw [e']
 rw [List.length_nil] at h1
 exact ⟨_,_,_,_,_,rfl,by omega,h2.mono (by omega)⟩
theorem draw_f {l : List Int} (hl : Byt l) (k : Nat) (hk : 20 < k) : ∃ p0 p1 xs q0 q1 ys,spec_DrawCompose.f k l = some (p0,p1,xs,q0,q1,ys) ∧ xs.length ≤ 10 ∧ ys.length ≤ 10 := by
 obtain ⟨s,ho,hc⟩ := open_f l
 obtain ⟨p0,p1,xs,a1,s1,h1,h2,h3⟩ := graph_f hl hc (by omega) k hk
 obtain ⟨q0,q1,ys,a2,s2,h4,h5,_⟩ := graph_f hl h3 (by omega) k hk
 unfold spec_DrawCompose.f
 rw [ho,Option.bind_some]
 simp only []
 rw [h1,Option.bind_some]
 simp only []
 rw [h4,Option.bind_some]
 exact ⟨_,_,_,_,_,_,rfl,h2,h5⟩
end Go.Proofs.Ytcckpjflbfofjaa.QGraphD
