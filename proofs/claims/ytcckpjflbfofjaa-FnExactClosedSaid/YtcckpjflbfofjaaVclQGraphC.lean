-- Cut by prune.py, a program of this session, out of the texts of this claim: Lean checks it.
import Derived.Test.YtcckpjflbfofjaaVclQGraphM
import Derived.Test.YtcckpjflbfofjaaVclQAssoc
import Derived.Test.YtcckpjflbfofjaaVclPdx8
namespace Go.Proofs.Ytcckpjflbfofjaa.QGraphC
open Go.RowKit Go.Proofs.Ytcckpjflbfofjaa.Pd Go.Proofs.YtcckpjflbfofjaaW.PrintWords Go.Proofs.YtcckpjflbfofjaaW.PrintLast Go.Proofs.Ytcckpjflbfofjaa.QStr Go.Proofs.Ytcckpjflbfofjaa.QGraph Go.Proofs.Ytcckpjflbfofjaa.QGraphR Go.Proofs.Ytcckpjflbfofjaa.QGraphS Go.Proofs.Ytcckpjflbfofjaa.QCompU Go.Proofs.Ytcckpjflbfofjaa.QGraphT Go.Proofs.Ytcckpjflbfofjaa.QAssoc
set_option linter.unusedVariables false
set_option linter.unusedSimpArgs false
abbrev G:=S28
theorem chk_len:∀(l:List A) (p:A),inA p→chk (some p) l=true→(l.length:Int)≤35 - (6 * p.f0 + p.f1)
 | [],p,hp,_=>by
  obtain⟨⟨h1,h2⟩,h3,h4⟩:=hp
  simp only [List.length_nil]
  omega
 | y :: l,p,hp,h=>by
  rw [chk_cons]at h
  simp only [Bool.and_eq_true,decide_eq_true_eq]at h
  obtain⟨h1,h2,h3⟩:=h
  have:=chk_len l y h1 h3
  obtain⟨⟨a1,a2⟩,a3,a4⟩:=hp
  obtain⟨⟨b1,b2⟩,b3,b4⟩:=h1
  rw [List.length_cons]
  unfold ltA at h2
  omega
theorem right_len {l:List A} (h:chk none l=true):l.length≤36:=by
 cases l with
 | nil=>simp
 | cons y l =>
  rw [chk_cons]at h
  simp only [Bool.and_eq_true,decide_eq_true_eq]at h
  have:=chk_len l y h.1 h.2.2
  obtain⟨⟨b1,b2⟩,b3,b4⟩:=h.1
  rw [List.length_cons]
  omega
def same (g x:G):Bool:=decide (x.f0=g.f0∧x.f1=g.f1∧x.f2=g.f2)
def isR (g:G):Bool:=chk none g.f2
def cmpG (x y:G):List A:=compF x.f2 y.f2
def csG (x y:G):Int×Int×List A×Bool:=compR x.f0 x.f1 x.f2 y.f0 y.f1 y.f2
def ok (g:G):Prop:=chk none g.f2=true
theorem ok_len {g:G} (h:ok g):g.f2.length≤1048576:=Nat.le_trans (right_len h) (by omega)
theorem ok_comp (x y:G):ok ⟨x.f0,y.f1,cmpG x y⟩:=chk_comp x.f2 y.f2
theorem cs_ok (x y:G):ok (spG (csG x y)):=by
 unfold ok spG csG compR
 split
 ·exact chk_comp x.f2 y.f2
 ·rfl
theorem cs_pos {x y:G} (hx:ok x) (hy:ok y) (h:x.f1=y.f0):(csG x y).2.2.2=true∧spG (csG x y)=⟨x.f0,y.f1,cmpG x y⟩:=by
 unfold csG compR
 rw [if_pos ⟨hx,hy,h⟩]
 exact⟨rfl,rfl⟩
theorem cs_neg {x y:G} (h:¬ x.f1=y.f0):¬(csG x y).2.2.2=true:=by
 unfold csG compR
 rw [if_neg (fun h2=>h h2.2.2)]
 exact Bool.false_ne_true
theorem add_le (out:List G) (b:G→Bool) (g:G):out.length≤(addG out b g).length:=by
 obtain⟨t,h⟩:=addG_grow out b g
 rw [h,List.length_append]
 omega
theorem add_any {out:List G} {b:G→Bool} {g:G}:(!out.any b)=decide (out.length < (addG out b g).length):=by
 unfold addG
 by_cases h:out.any b=true
 ·rw [if_pos h,h]
  simp
 ·rw [if_neg h,Bool.eq_false_iff.2 h]
  simp
def stepJ (g h:G) (out:List G):List G:=if g.f1=h.f0 then addG out (same ⟨g.f0,h.f1,cmpG g h⟩) ⟨g.f0,h.f1,cmpG g h⟩else out
theorem stepJ_le (g h:G) (out:List G):out.length≤(stepJ g h out).length:=by
 unfold stepJ
 split
 ·exact add_le _ _ _
 ·exact Nat.le_refl _
theorem stepJ_ok {g h:G} {out:List G} (ho:∀ x∈out,ok x):∀ x∈stepJ g h out,ok x:=by
 unfold stepJ
 split
 ·exact addG_all ho (ok_comp g h)
 ·exact ho
theorem spJ_cons {g h:G} {r out:List G} (hg:ok g) (hh:ok h):spJ same csG g (h :: r) out=spJ same csG g r (stepJ g h out):=by
 rw [spJ]
 unfold stepJ
 by_cases e:g.f1=h.f0
 ·obtain⟨h1,h2⟩:=cs_pos hg hh e
  rw [if_pos h1,if_pos e,h2]
 ·rw [if_neg (cs_neg e),if_neg e]
theorem spJ_le {g:G} (hg:ok g):∀(l out:List G),(∀ x∈l,ok x)→out.length≤(spJ same csG g l out).length
 | [],out,_=>Nat.le_refl _
 | h :: r,out,hl=>by
  rw [spJ_cons hg (hl h List.mem_cons_self)]
  exact Nat.le_trans (stepJ_le g h out) (spJ_le hg r _ (fun x hx=>hl x (List.mem_cons_of_mem _ hx)))
theorem spJ_ok {g:G} (hg:ok g):∀(l out:List G),(∀ x∈l,ok x)→(∀ x∈out,ok x)→∀ x∈spJ same csG g l out,ok x
 | [],out,_,ho=>ho
 | h :: r,out,hl,ho=>by
  rw [spJ_cons hg (hl h List.mem_cons_self)]
  exact spJ_ok hg r _ (fun x hx=>hl x (List.mem_cons_of_mem _ hx)) (stepJ_ok ho)
theorem clJ_cons {g h:G} {r out:List G} {ag:Bool} (ho:out.length≤120):clJ same cmpG g (h :: r) ag out=if(stepJ g h out).length≤120 then clJ same cmpG g r (ag || decide (out.length < (stepJ g h out).length)) (stepJ g h out)else none:=by
 rw [clJ]
 unfold stepJ
 by_cases e:g.f1=h.f0
 ·simp only [if_pos e]
  rw [← add_any]
 ·simp only [if_neg e]
  rw [if_pos ho,if_pos ho]
  simp
theorem both_J {g:G} (hg:ok g):∀(l out:List G) (ag:Bool),(∀ x∈l,ok x)→out.length≤120 →
  (clJ same cmpG g l ag out=none∧120 < (spJ same csG g l out).length) ∨
  (clJ same cmpG g l ag out=some (ag || decide (out.length < (spJ same csG g l out).length),spJ same csG g l out)∧(spJ same csG g l out).length≤120)
 | [],out,ag,_,ho=>by
  refine .inr ⟨?_,ho⟩
  show some (ag,out)=some (ag || decide (out.length < out.length),out)
  simp
 | h :: r,out,ag,hl,ho=>by
  have hr:∀ x∈r,ok x:=fun x hx=>hl x (List.mem_cons_of_mem _ hx)
  rw [clJ_cons ho,spJ_cons hg (hl h List.mem_cons_self)]
  have h1:=stepJ_le g h out
  have h2:=spJ_le hg r (stepJ g h out) hr
  by_cases c:(stepJ g h out).length≤120
  ·rw [if_pos c]
   rcases both_J hg r (stepJ g h out) (ag || decide (out.length < (stepJ g h out).length)) hr c with⟨h3,h4⟩|⟨h3,h4⟩
   ·exact .inl ⟨h3,h4⟩
   ·refine .inr ⟨?_,h4⟩
    rw [h3,Bool.or_assoc]
    congr 3
    rw [← Bool.decide_or]
    exact decide_eq_decide.2 (by omega)
  ·rw [if_neg c]
   exact .inl ⟨rfl,by omega⟩
theorem spI_big {now:List G}:∀(l out:List G),120 < out.length→spI same csG now l out=out
 | [],out,_=>rfl
 | g :: r,out,h=>by rw [spI,if_neg (by omega)]
theorem both_I {now:List G} (hn:∀ x∈now,ok x):∀(l out:List G) (ag:Bool),(∀ x∈l,ok x)→out.length≤120 →
  (clI same cmpG now l ag out=none∧120 < (spI same csG now l out).length) ∨
  (clI same cmpG now l ag out=some (ag || decide (out.length < (spI same csG now l out).length),spI same csG now l out)∧(spI same csG now l out).length≤120)
 | [],out,ag,_,ho=>by
  refine .inr ⟨?_,ho⟩
  show some (ag,out)=some (ag || decide (out.length < out.length),out)
  simp
 | g :: r,out,ag,hl,ho=>by
  have hr:∀ x∈r,ok x:=fun x hx=>hl x (List.mem_cons_of_mem _ hx)
  have hg:=hl g List.mem_cons_self
  rw [clI,spI,if_pos ho]
  have h1:=spJ_le hg now out hn
  rcases both_J hg now out ag hn ho with⟨h3,h4⟩|⟨h3,h4⟩
  ·rw [h3,Option.bind_none,spI_big r _ h4]
   exact .inl ⟨rfl,h4⟩
  ·rw [h3,Option.bind_some]
   simp only
   have h2:(spJ same csG g now out).length≤(spI same csG now r (spJ same csG g now out)).length:=by
    rcases both_I hn r (spJ same csG g now out) true hr h4 with⟨_,h5⟩|⟨h5,h6⟩
    ·omega
    ·exact spI_le hn r _ hr
   rcases both_I hn r (spJ same csG g now out) (ag || decide (out.length < (spJ same csG g now out).length)) hr h4 with⟨h5,h6⟩|⟨h5,h6⟩
   ·exact .inl ⟨h5,h6⟩
   ·refine .inr ⟨?_,h6⟩
    rw [h5,Bool.or_assoc]
    congr 3
    rw [← Bool.decide_or]
    exact decide_eq_decide.2 (by omega)
where
 spI_le {now:List G} (hn:∀ x∈now,ok x):∀(l out:List G),(∀ x∈l,ok x)→out.length≤(spI same csG now l out).length
  | [],out,_=>Nat.le_refl _
  | g :: r,out,hl=>by
   rw [spI]
   split
   ·exact Nat.le_trans (spJ_le (hl g List.mem_cons_self) now out hn) (spI_le hn r _ (fun x hx=>hl x (List.mem_cons_of_mem _ hx)))
   ·exact Nat.le_refl _
theorem spI_ok {now:List G} (hn:∀ x∈now,ok x):∀(l out:List G),(∀ x∈l,ok x)→(∀ x∈out,ok x)→∀ x∈spI same csG now l out,ok x
 | [],out,_,ho=>ho
 | g :: r,out,hl,ho=>by
  rw [spI]
  split
  ·exact spI_ok hn r _ (fun x hx=>hl x (List.mem_cons_of_mem _ hx)) (spJ_ok (hl g List.mem_cons_self) now out hn ho)
  ·exact ho
def Good (r:List G×Bool):Prop:=r.1.length≤120∧∀ x∈r.1,ok x
theorem both_R:∀(d:Nat) (out:List G) (n:Nat),120 - out.length≤d→d + 2≤n→(∀ x∈out,ok x)→∃ r,spR same csG n out=some r∧clR same cmpG n out=some r∧Good r:=by
 intro d
 induction d with
 | zero =>
  intro out n hd hn ho
  obtain⟨n,rfl⟩:∃ m,n=m + 2:=⟨n - 2,by omega⟩
  exact round out (n + 1) (by omega) ho (fun o h1 _ h3=>by omega)
 | succ d ih =>
  intro out n hd hn ho
  obtain⟨n,rfl⟩:∃ m,n=m + 2:=⟨n - 2,by omega⟩
  exact round out (n + 1) (by omega) ho (fun o h1 h2 h3=>ih o (n + 1) (by omega) (by omega) h2)
where
 round (out:List G) (n:Nat) (hn:1≤n) (ho:∀ x∈out,ok x) (ih:∀ o:List G,out.length < o.length→(∀ x∈o,ok x)→o.length≤120→∃ r,spR same csG n o=some r∧clR same cmpG n o=some r∧Good r):∃ r,spR same csG (n + 1) out=some r∧clR same cmpG (n + 1) out=some r∧Good r:=by
  by_cases c:out.length≤120
  ·rw [spR,if_pos c,clR,if_pos c]
   rcases both_I ho out out false ho c with⟨h1,h2⟩|⟨h1,h2⟩
   ·rw [h1,if_neg (by omega)]
    obtain⟨n,rfl⟩:∃ m,n=m + 1:=⟨n - 1,by omega⟩
    exact⟨([],false),by rw [spR,if_neg (by omega)],rfl,by simp [Good]⟩
   ·rw [h1]
    have h3:=both_I.spI_le ho out out ho
    have h4:=spI_ok ho out out ho ho
    by_cases e:(spI same csG out out out).length=out.length
    ·rw [if_pos e]
     simp only [Bool.false_or]
     rw [decide_eq_false (by omega),if_neg Bool.false_ne_true]
     exact⟨_,rfl,rfl,h2,h4⟩
    ·rw [if_neg e]
     simp only [Bool.false_or]
     rw [decide_eq_true (by omega),if_pos rfl]
     exact ih _ (by omega) h4 h2
  ·exact⟨([],false),by rw [spR,if_neg c],by rw [clR,if_neg c],by simp [Good]⟩
theorem clP_le:∀(l out o:List G),clP same isR l out=some o→out.length≤o.length
 | [],out,o,h=>by
  injection h with h
  rw [h]
  exact Nat.le_refl _
 | g :: r,out,o,h=>by
  rw [clP]at h
  split at h
  ·exact Nat.le_trans (add_le out (same g) g) (clP_le r _ o h)
  ·cases h
theorem clP_ok:∀(l out o:List G),clP same isR l out=some o→(∀ x∈out,ok x)→∀ x∈o,ok x
 | [],out,o,h,ho=>by
  injection h with h
  rw [← h]
  exact ho
 | g :: r,out,o,h,ho=>by
  rw [clP]at h
  split at h
  ·next hg=>exact clP_ok r _ o h (addG_all ho hg)
  ·cases h
theorem both_P:∀(l out:List G),spP same isR l out=clP same isR l out∨∃ o,spP same isR l out=some o∧120 < o.length∧(clP same isR l out=none∨∃ o2,clP same isR l out=some o2∧120 < o2.length)
 | [],out=>.inl rfl
 | g :: r,out=>by
  rw [spP]
  by_cases c:out.length≤120
  ·rw [if_pos c,clP]
   by_cases hg:isR g=true
   ·rw [if_pos hg,if_pos hg]
    exact both_P r (addG out (same g) g)
   ·rw [if_neg hg,if_neg hg]
    exact .inl rfl
  ·rw [if_neg c]
   refine .inr ⟨out,rfl,by omega, ?_⟩
   cases h:clP same isR (g :: r) out with
   | none=>exact .inl rfl
   | some o2=>exact .inr ⟨o2,rfl,by have:=clP_le _ _ _ h;omega⟩
theorem both_F (l:List G):∃ r,spF same isR csG 200 l=some r∧clF same isR cmpG 200 l=some r∧Good r:=by
 unfold spF clF
 have hz:Good ([],false):=by simp [Good]
 rcases both_P l []with h|⟨o,h1,h2,h3⟩
 ·rw [h]
  cases hc:clP same isR l []with
  | none=>exact⟨_,rfl,rfl,hz⟩
  | some o=>exact both_R 120 o 200 (by omega) (by omega) (clP_ok l [] o hc (fun x hx=>by cases hx))
 ·rw [h1]
  have e1:spR same csG 200 o=some ([],false):=by rw [spR,if_neg (by omega)]
  simp only [e1]
  rcases h3 with h3|⟨o2,h3,h4⟩
  ·rw [h3]
   exact⟨_,rfl,rfl,hz⟩
  ·rw [h3]
   have e2:clR same cmpG 200 o2=some ([],false):=by rw [clR,if_neg (by omega)]
   simp only [e2]
   exact⟨_,rfl,rfl,hz⟩
theorem j0_u (p0 p1:Int) (xs:List A) (q0 q1:Int) (ys:List A) (hx:xs.length≤36) (hy:ys.length≤36) (k:Nat) (hk:100000≤k):z0_.j0 k false p0 p1 xs q0 q1 ys=some (p0,q1,compF xs ys,true):=by
 have hc:c1 xs ys≤9000:=by
  unfold c1 c2
  have:xs.length * (ys.length + 2)≤36 * 38:=Nat.mul_le_mul hx (by omega)
  omega
 obtain⟨m,rfl⟩:∃ m,k=(m + 6 * c1 xs ys + 1) + 1:=⟨k - (6 * c1 xs ys + 2),by omega⟩
 rw [z0_.j0,if_neg Bool.false_ne_true]
 exact l0_ev m p0 p1 xs q0 q1 ys p0 q1 (by omega) (by omega) 6 0 [] (by omega) (by simp)
theorem comp_u (p0 p1:Int) (xs:List A) (q0 q1:Int) (ys:List A) (hx:xs.length≤36) (hy:ys.length≤36) (k:Nat) (hk:100000≤k):z0_.f k p0 p1 xs q0 q1 ys=some (compR p0 p1 xs q0 q1 ys):=by
 have hno:z0_.j0 k true p0 p1 xs q0 q1 ys=some (0,0,[],false):=by
  obtain⟨k,rfl⟩:∃ m,k=m + 1:=⟨k - 1,by omega⟩
  rw [z0_.j0,if_pos rfl]
 unfold z0_.f
 rw [spec_right_f p0 p1 xs (by omega) k (by omega),Option.bind_some]
 by_cases h0:chk none xs=true
 ·rw [if_pos h0,spec_right_f q0 q1 ys (by omega) k (by omega),Option.bind_some]
  by_cases h1:chk none ys=true
  ·rw [if_pos h1]
   by_cases h2:p1=q0
   ·rw [show(p1 != q0)=false by simp [h2],j0_u p0 p1 xs q0 q1 ys hx hy k hk,compR,if_pos ⟨h0,h1,h2⟩]
   ·rw [show(p1 != q0)=true by simp [h2],hno,compR,if_neg (fun h=>h2 h.2.2)]
  ·rw [if_neg h1,hno,compR,if_neg (fun h=>h1 h.2.1)]
 ·rw [if_neg h0,hno,compR,if_neg (fun h=>h0 h.1)]
theorem closed_ok (l:List G) (hl:l.length≤1048576) (hx:∀ x∈l,x.f2.length≤1048576):∃ gs gb,Good (gs,gb)∧∀ k,4000000≤k→spec_Closed.Ok k l gs gb∧impl_Closed.Ok k l gs gb:=by
 obtain⟨⟨gs,gb⟩,h1,h2,h3⟩:=both_F l
 refine⟨gs,gb,h3,fun k hk=>⟨⟨200,same,isR,csG,ok,hl,fun x g h4 h5=>?_,fun g hg=>⟨hx g hg, ?_,fun h=>h⟩,fun x y h4 h5=>⟨?_,cs_ok x y⟩,fun x h=>ok_len h,h1⟩,⟨200,same,isR,cmpG,ok,hl,fun x g h4 h5=>?_,fun g hg=>⟨hx g hg, ?_,fun h=>h⟩,fun x y h4 h5=>⟨?_,ok_comp x y⟩,fun x h=>ok_len h,h2⟩⟩⟩
 ·exact spec_same_f _ _ _ _ _ _ (by omega) k (by omega)
 ·exact spec_right_f _ _ _ (by have:=hx g hg;omega) k (by have:=hx g hg;omega)
 ·exact comp_u _ _ _ _ _ _ (right_len h4) (right_len h5) k (by omega)
 ·exact impl_same_f _ _ _ _ _ _ (by omega) k (by omega)
 ·exact impl_isGraph_f _ _ _ (by have:=hx g hg;omega) k (by have:=hx g hg;omega)
 ·exact comp_f _ _ _ _ _ _ (chk_in h4) (chk_in h5) (ok_len h4) (ok_len h5)
end Go.Proofs.Ytcckpjflbfofjaa.QGraphC
