-- Cut by prune.py, a program of this session, out of the texts of this claim: Lean checks it.
import Derived.Test.YtkajecadkkgfmaaGreatDoorVkqQCmp
namespace Go.Proofs.YtkajecadkkgfmaaGreatDoor.QOrd
open Go.RowKit Go.Proofs.YtkajecadkkgfmaaGreatDoor.QStr Go.Proofs.YtkajecadkkgfmaaGreatDoor.QTm Go.Proofs.YtkajecadkkgfmaaGreatDoor.QCmp
theorem sg_neg (n:Int):sg (-n)=-sg n:=by
 unfold sg
 by_cases h:n < 0
 ·rw [if_neg (by omega),if_pos (by omega),if_pos h]
  rfl
 ·by_cases h2:n > 0
  ·rw [if_pos (by omega),if_neg h,if_pos h2]
  ·rw [if_neg (by omega),if_neg (by omega),if_neg h,if_neg h2]
   rfl
theorem sg_zero {n:Int}:sg n=0↔n=0:=by
 unfold sg
 by_cases h:n < 0
 ·rw [if_pos h];constructor
  ·intro h;cases h
  ·omega
 ·rw [if_neg h]
  by_cases h2:n > 0
  ·rw [if_pos h2];constructor
   ·intro h;cases h
   ·omega
  ·rw [if_neg h2];constructor
   ·intro _;omega
   ·intro _;rfl
theorem sg_lt {n:Int}:sg n=-1↔n < 0:=by
 unfold sg
 by_cases h:n < 0
 ·rw [if_pos h];exact⟨fun _=>h,fun _=>rfl⟩
 ·rw [if_neg h]
  by_cases h2:n > 0
  ·rw [if_pos h2];constructor
   ·intro h;cases h
   ·omega
  ·rw [if_neg h2];constructor
   ·intro h;cases h
   ·omega
theorem ctx_lt {a b:List UInt8}:ctx a b=-1↔Op.bytesLess a b=true:=ctx_neg1
theorem ctx_trans {a b c:List UInt8} (h1:ctx a b=-1) (h2:ctx b c=-1):ctx a c=-1:=by
 rw [ctx_lt]at h1 h2 ⊢
 exact bl_trans a b c h1 h2
mutual
theorem tcmp_neg:∀ t u:Tm,tcmp u t=-tcmp t u
 | .num a,.num b=>by rw [tcmp_num,tcmp_num,← sg_neg];congr 1;omega
 | .sym a,.sym b=>by rw [tcmp_sym,tcmp_sym,ctx_neg]
 | .con f p,.con g q=>by
  rw [tcmp_con,tcmp_con]
  by_cases h:f=g
  ·rw [if_pos h,if_pos h.symm]
   by_cases h2:p.length=q.length
   ·rw [if_pos h2,if_pos h2.symm,tcmpL_neg p q h2]
   ·rw [if_neg h2,if_neg (fun e=>h2 e.symm),← sg_neg]
    congr 1
    omega
  ·rw [if_neg h,if_neg (fun e=>h e.symm),ctx_neg]
 | .num a,.sym b=>by rw [tcmp_kinds (by simp [kind]),tcmp_kinds (by simp [kind]),← sg_neg];rfl
 | .num a,.con g q=>by rw [tcmp_kinds (by simp [kind]),tcmp_kinds (by simp [kind]),← sg_neg];rfl
 | .sym a,.num b=>by rw [tcmp_kinds (by simp [kind]),tcmp_kinds (by simp [kind]),← sg_neg];rfl
 | .sym a,.con g q=>by rw [tcmp_kinds (by simp [kind]),tcmp_kinds (by simp [kind]),← sg_neg];rfl
 | .con f p,.num b=>by rw [tcmp_kinds (by simp [kind]),tcmp_kinds (by simp [kind]),← sg_neg];rfl
 | .con f p,.sym b=>by rw [tcmp_kinds (by simp [kind]),tcmp_kinds (by simp [kind]),← sg_neg];rfl
theorem tcmpL_neg:∀ p q:List Tm,p.length=q.length→tcmpL q p=-tcmpL p q
 | [],[],_=>by rw [tcmpL_nil];rfl
 | [],b :: q,h=>by simp at h
 | a :: p,[],h=>by simp at h
 | a :: p,b :: q,h=>by
  rw [tcmpL_cons,tcmpL_cons,tcmp_neg a b,tcmpL_neg p q (by simpa using h)]
  by_cases h2:tcmp a b=0
  ·rw [if_pos h2,if_pos (by omega)]
  ·rw [if_neg h2,if_neg (by omega)]
end
mutual
theorem tcmp_zero:∀ t u:Tm,tcmp t u=0→t=u
 | .num a,.num b,h=>by rw [tcmp_num,sg_zero]at h;rw [show a=b by omega]
 | .sym a,.sym b,h=>by rw [tcmp_sym,ctx_zero]at h;rw [h]
 | .con f p,.con g q,h=>by
  rw [tcmp_con]at h
  by_cases hfg:f=g
  ·rw [if_pos hfg]at h
   by_cases h2:p.length=q.length
   ·rw [if_pos h2]at h
    rw [hfg,tcmpL_zero p q h2 h]
   ·rw [if_neg h2,sg_zero]at h
    omega
  ·rw [if_neg hfg]at h
   exact absurd (ctx_zero.1 h) hfg
 | .num a,.sym b,h=>by rw [tcmp_kinds (by simp [kind])]at h;simp [kind,sg]at h
 | .num a,.con g q,h=>by rw [tcmp_kinds (by simp [kind])]at h;simp [kind,sg]at h
 | .sym a,.num b,h=>by rw [tcmp_kinds (by simp [kind])]at h;simp [kind,sg]at h
 | .sym a,.con g q,h=>by rw [tcmp_kinds (by simp [kind])]at h;simp [kind,sg]at h
 | .con f p,.num b,h=>by rw [tcmp_kinds (by simp [kind])]at h;simp [kind,sg]at h
 | .con f p,.sym b,h=>by rw [tcmp_kinds (by simp [kind])]at h;simp [kind,sg]at h
theorem tcmpL_zero:∀ p q:List Tm,p.length=q.length→tcmpL p q=0→p=q
 | [],[],_,_=>rfl
 | [],b :: q,h,_=>by simp at h
 | a :: p,[],h,_=>by simp at h
 | a :: p,b :: q,h,h0=>by
  rw [tcmpL_cons]at h0
  by_cases h2:tcmp a b=0
  ·rw [if_pos h2]at h0
   rw [tcmp_zero a b h2,tcmpL_zero p q (by simpa using h) h0]
  ·rw [if_neg h2]at h0
   exact absurd h0 h2
end
mutual
theorem tcmp_range:∀ t u:Tm,tcmp t u=-1∨tcmp t u=0∨tcmp t u=1
 | .num a,.num b=>by rw [tcmp_num];exact sg_range _
 | .sym a,.sym b=>by rw [tcmp_sym];exact ctx_range _ _
 | .con f p,.con g q=>by
  rw [tcmp_con]
  split
  ·split
   ·exact tcmpL_range p q
   ·exact sg_range _
  ·exact ctx_range _ _
 | .num a,.sym b=>by rw [tcmp_kinds (by simp [kind])];exact sg_range _
 | .num a,.con g q=>by rw [tcmp_kinds (by simp [kind])];exact sg_range _
 | .sym a,.num b=>by rw [tcmp_kinds (by simp [kind])];exact sg_range _
 | .sym a,.con g q=>by rw [tcmp_kinds (by simp [kind])];exact sg_range _
 | .con f p,.num b=>by rw [tcmp_kinds (by simp [kind])];exact sg_range _
 | .con f p,.sym b=>by rw [tcmp_kinds (by simp [kind])];exact sg_range _
theorem tcmpL_range:∀ p q:List Tm,tcmpL p q=-1∨tcmpL p q=0∨tcmpL p q=1
 | [],q=>by rw [tcmpL_nil];exact .inr (.inl rfl)
 | a :: p,[]=>by rw [tcmpL];exact .inr (.inl rfl)
 | a :: p,b :: q=>by
  rw [tcmpL_cons]
  split
  ·exact tcmpL_range p q
  ·exact tcmp_range a b
end
theorem kinds_lt {t u:Tm} (h:tcmp t u=-1):kind t≤kind u:=by
 by_cases hk:kind t=kind u
 ·omega
 ·rw [tcmp_kinds hk,sg_lt]at h
  omega
theorem lt_kinds {t u:Tm} (h:kind t < kind u):tcmp t u=-1:=by
 rw [tcmp_kinds (by omega),sg_lt]
 omega
mutual
theorem tcmp_trans:∀ t u v:Tm,tcmp t u=-1→tcmp u v=-1→tcmp t v=-1
 | .num a,.num b,.num c,h1,h2=>by
  rw [tcmp_num,sg_lt]at h1 h2 ⊢
  omega
 | .sym a,.sym b,.sym c,h1,h2=>by
  rw [tcmp_sym]at h1 h2 ⊢
  exact ctx_trans h1 h2
 | .con f p,.con g q,.con h r,h1,h2=>by
  rw [tcmp_con]at h1 h2 ⊢
  by_cases e1:f=g
  ·rw [if_pos e1]at h1
   by_cases e2:g=h
   ·rw [if_pos e2]at h2
    rw [if_pos (e1.trans e2)]
    by_cases l1:p.length=q.length
    ·rw [if_pos l1]at h1
     by_cases l2:q.length=r.length
     ·rw [if_pos l2]at h2
      rw [if_pos (l1.trans l2)]
      exact tcmpL_trans p q r l1 l2 h1 h2
     ·rw [if_neg l2,sg_lt]at h2
      rw [if_neg (by omega),sg_lt]
      omega
    ·rw [if_neg l1,sg_lt]at h1
     by_cases l2:q.length=r.length
     ·rw [if_neg (by omega),sg_lt]
      omega
     ·rw [if_neg l2,sg_lt]at h2
      rw [if_neg (by omega),sg_lt]
      omega
   ·rw [if_neg e2]at h2
    rw [if_neg (by rw [e1];exact e2),e1]
    exact h2
  ·rw [if_neg e1]at h1
   by_cases e2:g=h
   ·rw [if_neg (by rw [← e2];exact e1),← e2]
    exact h1
   ·rw [if_neg e2]at h2
    have h3:=ctx_trans h1 h2
    rw [if_neg]
    ·exact h3
    ·intro e
     rw [e,ctx_self]at h3
     cases h3
 | .num a,.num b,.sym c,_,_=>lt_kinds (by simp [kind])
 | .num a,.num b,.con h r,_,_=>lt_kinds (by simp [kind])
 | .num a,.sym b,.sym c,_,_=>lt_kinds (by simp [kind])
 | .num a,.sym b,.con h r,_,_=>lt_kinds (by simp [kind])
 | .num a,.con g q,.con h r,_,_=>lt_kinds (by simp [kind])
 | .sym a,.sym b,.con h r,_,_=>lt_kinds (by simp [kind])
 | .sym a,.con g q,.con h r,_,_=>lt_kinds (by simp [kind])
 | .sym a,.num b,_,h1,_=>by have:=kinds_lt h1;simp [kind]at this
 | .con f p,.num b,_,h1,_=>by have:=kinds_lt h1;simp [kind]at this
 | .con f p,.sym b,_,h1,_=>by have:=kinds_lt h1;simp [kind]at this
 | _,.sym b,.num c,_,h2=>by have:=kinds_lt h2;simp [kind]at this
 | _,.con g q,.num c,_,h2=>by have:=kinds_lt h2;simp [kind]at this
 | _,.con g q,.sym c,_,h2=>by have:=kinds_lt h2;simp [kind]at this
theorem tcmpL_trans:∀ p q r:List Tm,p.length=q.length→q.length=r.length→tcmpL p q=-1→tcmpL q r=-1→tcmpL p r=-1
 | [],_,_,_,_,h,_=>by rw [tcmpL_nil]at h;cases h
 | a :: p,[],_,h,_,_,_=>by simp at h
 | a :: p,b :: q,[],_,h,_,_=>by simp at h
 | a :: p,b :: q,c :: r,h1,h2,h3,h4=>by
  rw [tcmpL_cons]at h3 h4 ⊢
  by_cases e1:tcmp a b=0
  ·rw [if_pos e1]at h3
   have e1':=tcmp_zero a b e1
   subst e1'
   by_cases e2:tcmp a c=0
   ·rw [if_pos e2]at h4 ⊢
    exact tcmpL_trans p q r (by simpa using h1) (by simpa using h2) h3 h4
   ·rw [if_neg e2]at h4 ⊢
    exact h4
  ·rw [if_neg e1]at h3
   by_cases e2:tcmp b c=0
   ·have e2':=tcmp_zero b c e2
    subst e2'
    rw [if_neg e1]
    exact h3
   ·rw [if_neg e2]at h4
    have h5:=tcmp_trans a b c h3 h4
    rw [if_neg (by omega)]
    exact h5
end
end Go.Proofs.YtkajecadkkgfmaaGreatDoor.QOrd
