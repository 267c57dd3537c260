-- Cut by prune.py, a program of this session, out of the texts of this claim: Lean checks it.
import Derived.Test.YtcckpjflbfofjaaVcdQCompU
namespace Go.Proofs.Ytcckpjflbfofjaa.QAssoc
open Go.RowKit Go.Proofs.Ytcckpjflbfofjaa.Pd Go.Proofs.YtcckpjflbfofjaaW.PrintWords Go.Proofs.YtcckpjflbfofjaaW.PrintLast Go.Proofs.Ytcckpjflbfofjaa.QStr Go.Proofs.Ytcckpjflbfofjaa.QGraph Go.Proofs.Ytcckpjflbfofjaa.QGraphR Go.Proofs.Ytcckpjflbfofjaa.QCompU
theorem hit_iff {a b : Int} {x y : A} : hit a b x y = true ↔ x.f0 = a ∧ x.f1 = y.f0 ∧ y.f1 = b := by
 unfold hit
 simp only [Bool.and_eq_true,beq_iff_eq]
theorem fnd_iff {a b : Int} {xs ys : List A} : fnd a b xs ys = true ↔ ∃ x ∈ xs,∃ y ∈ ys,x.f0 = a ∧ x.f1 = y.f0 ∧ y.f1 = b := by
 unfold fnd fndY
 simp only [List.any_eq_true,hit_iff]
theorem str_iff {a b : Int} {xs ys : List A} : str a b xs ys = true ↔ ∃ x ∈ xs,∃ y ∈ ys,(x.f0 = a ∧ x.f1 = y.f0 ∧ y.f1 = b) ∧ (x.f2 = true ∨ y.f2 = true) := by
 unfold str strY
 simp only [List.any_eq_true,Bool.and_eq_true,Bool.or_eq_true,hit_iff]
theorem comp_in {xs ys : List A} {z : A} (h : z ∈ compF xs ys) : inA z := (mem_comp.1 h).1
variable {xs ys zs : List A}
theorem two_mem (hx : ∀ x ∈ xs,inA x) (hy : ∀ y ∈ ys,inA y) {x y : A} (h1 : x ∈ xs) (h2 : y ∈ ys) (h : x.f1 = y.f0) : (⟨x.f0,y.f1,str x.f0 y.f1 xs ys⟩ : A) ∈ compF xs ys :=
 mem_comp.2 ⟨⟨(hx x h1).1,(hy y h2).2⟩,fnd_iff.2 ⟨x,h1,y,h2,rfl,h,rfl⟩,rfl⟩
def Path (xs ys zs : List A) (a b : Int) (Q : A → A → A → Prop) : Prop := ∃ x ∈ xs,∃ y ∈ ys,∃ z ∈ zs,(x.f0 = a ∧ x.f1 = y.f0 ∧ y.f1 = z.f0 ∧ z.f1 = b) ∧ Q x y z
theorem fnd_l (hx : ∀ x ∈ xs,inA x) (hy : ∀ y ∈ ys,inA y) {a b : Int} : fnd a b (compF xs ys) zs = true ↔ Path xs ys zs a b (fun _ _ _ => True) := by
 rw [fnd_iff]
 constructor
 ·rintro ⟨w,hw,z,hz,h1,h2,h3⟩
  obtain ⟨x,hx,y,hy,e1,e2,e3⟩ := fnd_iff.1 (mem_comp.1 hw).2.1
  exact ⟨x,hx,y,hy,z,hz,⟨e1.trans h1,e2,e3.trans h2,h3⟩,trivial⟩
 ·rintro ⟨x,h1,y,h2,z,h3,⟨e1,e2,e3,e4⟩,_⟩
  exact ⟨_,two_mem hx hy h1 h2 e2,z,h3,e1,e3,e4⟩
theorem fnd_r (hy : ∀ y ∈ ys,inA y) (hz : ∀ z ∈ zs,inA z) {a b : Int} : fnd a b xs (compF ys zs) = true ↔ Path xs ys zs a b (fun _ _ _ => True) := by
 rw [fnd_iff]
 constructor
 ·rintro ⟨x,hx,w,hw,h1,h2,h3⟩
  obtain ⟨y,hy,z,hz,e1,e2,e3⟩ := fnd_iff.1 (mem_comp.1 hw).2.1
  exact ⟨x,hx,y,hy,z,hz,⟨h1,h2.trans e1.symm,e2,e3.trans h3⟩,trivial⟩
 ·rintro ⟨x,h1,y,h2,z,h3,⟨e1,e2,e3,e4⟩,_⟩
  exact ⟨x,h1,_,two_mem hy hz h2 h3 e3,e1,e2,e4⟩
theorem str_l (hx : ∀ x ∈ xs,inA x) (hy : ∀ y ∈ ys,inA y) {a b : Int} : str a b (compF xs ys) zs = true ↔ Path xs ys zs a b (fun x y z => x.f2 = true ∨ y.f2 = true ∨ z.f2 = true) := by
 rw [str_iff]
 constructor
 ·rintro ⟨w,hw,z,hz,⟨h1,h2,h3⟩,h4⟩
  obtain ⟨_,hf,hs⟩ := mem_comp.1 hw
  rcases h4 with h4 | h4
  ·rw [hs] at h4
   obtain ⟨x,hx,y,hy,⟨e1,e2,e3⟩,e4⟩ := str_iff.1 h4
   exact ⟨x,hx,y,hy,z,hz,⟨e1.trans h1,e2,e3.trans h2,h3⟩,e4.elim Or.inl (fun h => Or.inr (Or.inl h))⟩
  ·obtain ⟨x,hx,y,hy,e1,e2,e3⟩ := fnd_iff.1 hf
   exact ⟨x,hx,y,hy,z,hz,⟨e1.trans h1,e2,e3.trans h2,h3⟩,Or.inr (Or.inr h4)⟩
 ·rintro ⟨x,h1,y,h2,z,h3,⟨e1,e2,e3,e4⟩,h⟩
  refine ⟨_,two_mem hx hy h1 h2 e2,z,h3,⟨e1,e3,e4⟩, ?_⟩
  rcases h with h | h | h
  ·exact Or.inl (str_iff.2 ⟨x,h1,y,h2,⟨rfl,e2,rfl⟩,Or.inl h⟩)
  ·exact Or.inl (str_iff.2 ⟨x,h1,y,h2,⟨rfl,e2,rfl⟩,Or.inr h⟩)
  ·exact Or.inr h
theorem str_r (hy : ∀ y ∈ ys,inA y) (hz : ∀ z ∈ zs,inA z) {a b : Int} : str a b xs (compF ys zs) = true ↔ Path xs ys zs a b (fun x y z => x.f2 = true ∨ y.f2 = true ∨ z.f2 = true) := by
 rw [str_iff]
 constructor
 ·rintro ⟨x,hx,w,hw,⟨h1,h2,h3⟩,h4⟩
  obtain ⟨_,hf,hs⟩ := mem_comp.1 hw
  rcases h4 with h4 | h4
  ·obtain ⟨y,hy,z,hz,e1,e2,e3⟩ := fnd_iff.1 hf
   exact ⟨x,hx,y,hy,z,hz,⟨h1,h2.trans e1.symm,e2,e3.trans h3⟩,Or.inl h4⟩
  ·rw [hs] at h4
   obtain ⟨y,hy,z,hz,⟨e1,e2,e3⟩,e4⟩ := str_iff.1 h4
   exact ⟨x,hx,y,hy,z,hz,⟨h1,h2.trans e1.symm,e2,e3.trans h3⟩,Or.inr e4⟩
 ·rintro ⟨x,h1,y,h2,z,h3,⟨e1,e2,e3,e4⟩,h⟩
  refine ⟨x,h1,_,two_mem hy hz h2 h3 e3,⟨e1,e2,e4⟩, ?_⟩
  rcases h with h | h
  ·exact Or.inl h
  ·exact Or.inr (str_iff.2 ⟨y,h2,z,h3,⟨rfl,e3,rfl⟩,h⟩)
theorem assoc (hx : ∀ x ∈ xs,inA x) (hy : ∀ y ∈ ys,inA y) (hz : ∀ z ∈ zs,inA z) : compF (compF xs ys) zs = compF xs (compF ys zs) := by
 refine eq_of_rises (comp_rises _ _) (comp_rises _ _) fun z => ?_
 have h1 : fnd z.f0 z.f1 (compF xs ys) zs = fnd z.f0 z.f1 xs (compF ys zs) := Bool.eq_iff_iff.2 ((fnd_l hx hy).trans (fnd_r hy hz).symm)
 have h2 : str z.f0 z.f1 (compF xs ys) zs = str z.f0 z.f1 xs (compF ys zs) := Bool.eq_iff_iff.2 ((str_l hx hy).trans (str_r hy hz).symm)
 rw [mem_comp,mem_comp,h1,h2]
theorem chk_cons (p : Option A) (y : A) (l : List A) : chk p (y :: l) = (decide (inA y) && ((match p with | none => true | some p => decide (ltA p y)) && chk (some y) l)) := rfl
theorem chk_of : ∀ {l : List A} {p : Option A},l.Pairwise ltA → (∀ x ∈ l,inA x) → (∀ q,p = some q → ∀ x ∈ l,ltA q x) → chk p l = true
 | [],_,_,_,_ => rfl
 | y :: l,p,h1,h2,h3 => by
  obtain ⟨a1,b1⟩ := List.pairwise_cons.1 h1
  have ih := chk_of (p := some y) b1 (fun x hx => h2 x (List.mem_cons_of_mem _ hx)) (fun q hq x hx => by cases hq; exact a1 x hx)
  rw [chk_cons,decide_eq_true (h2 y List.mem_cons_self),ih]
  cases p with
  | none => rfl
  | some q => simp only [decide_eq_true (h3 q rfl y List.mem_cons_self),Bool.and_true]
theorem chk_comp (xs ys : List A) : chk none (compF xs ys) = true := chk_of (comp_rises xs ys) (fun _ h => comp_in h) (fun q hq => by cases hq)
end Go.Proofs.Ytcckpjflbfofjaa.QAssoc
