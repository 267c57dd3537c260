-- Cut by prune.py, a program of this session, out of the texts of this claim: Lean checks it.
import Derived.Test.YtkajecadkkgfmaaGreatDoorVkqQTup
import Derived.Test.YtkajecadkkgfmaaGreatDoorVkqQTerms
import Derived.Test.YtkajecadkkgfmaaGreatDoorVkqPnx14
import Derived.Test.YtkajecadkkgfmaaGreatDoorVkqPnx0
import Derived.Test.YtkajecadkkgfmaaGreatDoorVkqPnx17
import Derived.Test.YtkajecadkkgfmaaGreatDoorVkqPnx7
import Derived.Test.YtkajecadkkgfmaaGreatDoorVkqPnx9
namespace Go.Proofs.YtkajecadkkgfmaaGreatDoor.QRel
open Go.RowKit Go.Proofs.YtkajecadkkgfmaaGreatDoor.Pn Go.Proofs.YtkajecadkkgfmaaGreatDoorW.PrintWords Go.Proofs.YtkajecadkkgfmaaGreatDoorW.PrintLast Go.Proofs.YtkajecadkkgfmaaGreatDoor.QStr Go.Proofs.YtkajecadkkgfmaaGreatDoor.QTm Go.Proofs.YtkajecadkkgfmaaGreatDoor.QPrs Go.Proofs.YtkajecadkkgfmaaGreatDoor.QNumb Go.Proofs.YtkajecadkkgfmaaGreatDoor.QKind Go.Proofs.YtkajecadkkgfmaaGreatDoor.QParts Go.Proofs.YtkajecadkkgfmaaGreatDoor.QLaws Go.Proofs.YtkajecadkkgfmaaGreatDoor.QSize Go.Proofs.YtkajecadkkgfmaaGreatDoor.QCmp Go.Proofs.YtkajecadkkgfmaaGreatDoor.QTup Go.Proofs.YtkajecadkkgfmaaGreatDoor.QTerms Go.Proofs.YtkajecadkkgfmaaGreatDoor.QImpl
abbrev TI:=S36
theorem rdI_get (xs:List TI) (i:Nat) (h:i < xs.length):y24 xs (i:Int)=xs[i]:=by
 unfold y24
 rw [show((i:Int)).toNat=i from rfl,List.getD_eq_getElem?_getD,List.getElem?_eq_getElem h]
 rfl
/-- The terms that texts are, if all are terms. -/
noncomputable def prsL:List ByteArray→Option Row
 | []=>some []
 | x :: l=>match prs (L x)with
  | none=>none
  | some t=>match prsL l with
   | none=>none
   | some ts=>some (t :: ts)
def enc (ts:Row):List ByteArray:=ts.map rB
theorem enc_len (ts:Row):(enc ts).length=ts.length:=List.length_map _
theorem prs_rB {t:Tm} (h:Sh t):prs (L (rB t))=some t:=sh_prs h
theorem prsL_enc:∀(ts:Row),(∀ t∈ts,Sh t)→prsL (enc ts)=some ts
 | [],_=>rfl
 | t :: ts,h=>by
  have h1:=prsL_enc ts (fun u hu=>h u (by simp [hu]))
  show prsL (rB t :: enc ts)=_
  rw [prsL,prs_rB (h t (by simp)),h1]
theorem prsL_some:∀(l:List ByteArray) (ts:Row),prsL l=some ts→(∀ t∈ts,Sh t)∧l=enc ts
 | [],ts,h=>by
  rw [prsL]at h
  injection h with h
  subst h
  exact⟨fun t ht=>(by cases ht),rfl⟩
 | x :: l,ts,h=>by
  rw [prsL]at h
  cases hp:prs (L x)with
  | none=>rw [hp]at h;cases h
  | some t =>
   cases hl:prsL l with
   | none=>rw [hp,hl]at h;cases h
   | some us =>
    rw [hp,hl]at h
    injection h with h
    subst h
    obtain⟨h1,h2⟩:=prsL_some l us hl
    obtain⟨g1,g2,g3⟩:=prs_some.1 hp
    refine⟨fun u hu=>?_, ?_⟩
    ·rcases List.mem_cons.1 hu with rfl|hu
     ·exact⟨g1,by rw [g2];exact g3⟩
     ·exact h1 u hu
    ·rw [h2]
     show x :: enc us=rB t :: enc us
     rw [rB,g2,B_L]
theorem prsL_iff {l:List ByteArray} {ts:Row}:prsL l=some ts↔(∀ t∈ts,Sh t)∧l=enc ts :=
 ⟨prsL_some l ts,fun⟨h1,h2⟩=>by rw [h2];exact prsL_enc ts h1⟩
noncomputable def isTup (l:List ByteArray):Option Row:=if l.length≤6 then prsL l else none
theorem isTup_iff {l:List ByteArray} {ts:Row}:isTup l=some ts↔ts.length≤6∧(∀ t∈ts,Sh t)∧l=enc ts:=by
 unfold isTup
 by_cases h:l.length≤6
 ·rw [if_pos h,prsL_iff]
  constructor
  ·rintro⟨h1,h2⟩
   exact⟨by rw [h2,enc_len]at h;exact h,h1,h2⟩
  ·rintro⟨_,h1,h2⟩
   exact⟨h1,h2⟩
 ·rw [if_neg h]
  constructor
  ·intro h;cases h
  ·rintro⟨h1,_,h2⟩
   rw [h2,enc_len]at h
   exact absurd h1 h
theorem idx_l (l:List ByteArray) (hs:∀ x∈l,x.size≤1048576) (hn:l.length≤1000):∀(d i k:Nat),i + d=l.length→4194500 + d < k →
  ∃ r,z2_.l0 k l (l.length:Int) (i:Int)=some r∧(r≥0↔prsL (l.drop i)=none)
 | 0,i,k,hd,hk=>by
  obtain⟨k,rfl⟩:∃ m,k=m + 1:=⟨k - 1,by omega⟩
  refine⟨-1,by rw [z2_.l0,if_neg (by omega)], ?_⟩
  rw [List.drop_of_length_le (by omega),prsL]
  simp
 | d + 1,i,k,hd,hk=>by
  obtain⟨k,rfl⟩:∃ m,k=m + 1:=⟨k - 1,by omega⟩
  have hlt:i < l.length:=by omega
  have hz:=hs _ (List.getElem_mem hlt)
  have hko:=kindOf_f (L l[i]) (by rw [L_length];omega) k (by rw [L_length];omega)
  rw [B_L]at hko
  rw [z2_.l0,if_pos (by omega),if_pos (by omega),if_pos (by omega),rdOf_get l i hlt]
  unfold impl_isTuple_1.f
  rw [hko,Option.bind_some,Option.bind_some,List.drop_eq_getElem_cons hlt,prsL]
  cases hp:prs (L l[i])with
  | none=>exact⟨_,by rw [show(kd none == 0)=true from rfl,if_pos rfl],by simp⟩
  | some t =>
   have kt:=kind_pos t
   obtain⟨r,h1,h2⟩:=idx_l l hs hn d (i + 1) k (by omega) (by omega)
   refine⟨r,by rw [show(kd (some t) == 0)=false by rw [beq_eq_false_iff_ne];simp only [kd];omega,if_neg (by decide),step_i (by omega),h1], ?_⟩
   rw [h2]
   cases prsL (l.drop (i + 1)) <;> simp
theorem isTuple_f (l:List ByteArray) (hs:∀ x∈l,x.size≤1048576) (k:Nat) (hk:4200000 < k):impl_isTuple.f k l=some (isTup l).isSome:=by
 unfold impl_isTuple.f isTup
 by_cases h:l.length≤6
 ·rw [if_pos (by omega),if_pos h]
  obtain⟨r,h1,h2⟩:=idx_l l hs (by omega) l.length 0 k (by omega) (by omega)
  unfold slices_ContainsFunc_string_string_impl_isTuple_1.f z2_.f
  rw [show(0:Int)=((0:Nat):Int)from rfl,h1,Option.bind_some,Option.bind_some]
  rw [List.drop_zero]at h2
  congr 1
  rw [Bool.eq_iff_iff,Bool.not_eq_true',decide_eq_false_iff_not,show((0:Nat):Int)=0 from rfl,h2]
  cases prsL l <;> simp
 ·rw [if_neg (by omega),if_neg h]
  rfl
theorem stuple_l (l:List ByteArray) (hs:∀ x∈l,x.size≤1048576) (hn:l.length≤1000):∀(d i k:Nat),i + d=l.length→4194500 + d < k →
  spec_TupleOk.l0 k (i:Int) l=some (prsL (l.drop i)).isSome
 | 0,i,k,hd,hk=>by
  obtain⟨k,rfl⟩:∃ m,k=m + 1:=⟨k - 1,by omega⟩
  rw [spec_TupleOk.l0,if_neg (by omega),List.drop_of_length_le (by omega),prsL]
  rfl
 | d + 1,i,k,hd,hk=>by
  obtain⟨k,rfl⟩:∃ m,k=m + 1:=⟨k - 1,by omega⟩
  have hlt:i < l.length:=by omega
  have hz:=hs _ (List.getElem_mem hlt)
  have hko:=spec_kind _ (L l[i]) rfl (by rw [L_length];omega) k (by rw [L_length];omega)
  rw [B_L]at hko
  rw [spec_TupleOk.l0,if_pos (by omega),if_pos (by omega),rdOf_get l i hlt,hko,Option.bind_some,List.drop_eq_getElem_cons hlt,prsL]
  cases hp:prs (L l[i])with
  | none=>rw [if_pos (show kd none=0 from rfl)];rfl
  | some t =>
   have kt:=kind_pos t
   rw [if_neg (by simp only [kd];omega),step_i (by omega),stuple_l l hs hn d (i + 1) k (by omega) (by omega)]
   cases prsL (l.drop (i + 1)) <;> rfl
theorem tupleOk_f (l:List ByteArray) (hs:∀ x∈l,x.size≤1048576) (k:Nat) (hk:4200000 < k):spec_TupleOk.f k l=some (isTup l).isSome:=by
 unfold spec_TupleOk.f isTup
 by_cases h:l.length≤6
 ·rw [if_neg (by omega),if_pos h]
  exact stuple_l l hs (by omega) l.length 0 k (by omega) (by omega)
 ·rw [if_pos (by omega),if_neg h]
  rfl
theorem icmpT (ts us:Row) (ht:∀ t∈ts,Sh t) (hu:∀ t∈us,Sh t) (hn:ts.length≤1000) (hn2:us.length≤1000):∀(d i k:Nat),i + d=ts.length→i≤us.length→5000 + d < k →
  z1_.l0 k (enc ts) (enc us) (enc ts) ((enc ts).length:Int) (i:Int)=some (lcmp (ts.drop i) (us.drop i))
 | 0,i,k,hd,hi,hk=>by
  obtain⟨k,rfl⟩:∃ m,k=m + 1:=⟨k - 1,by omega⟩
  rw [z1_.l0,enc_len,enc_len,if_neg (by omega),List.drop_of_length_le (show ts.length≤i by omega)]
  by_cases h:i < us.length
  ·rw [if_pos (by omega),List.drop_eq_getElem_cons h]
   rfl
  ·rw [if_neg (by omega),List.drop_of_length_le (by omega)]
   rfl
 | d + 1,i,k,hd,hi,hk=>by
  obtain⟨k,rfl⟩:∃ m,k=m + 1:=⟨k - 1,by omega⟩
  have hlt:i < ts.length:=by omega
  have h1:=ht _ (List.getElem_mem hlt)
  have h1l:=h1.2
  rw [z1_.l0,enc_len,enc_len,if_pos (by omega),if_pos (by omega),if_pos (by omega),List.drop_eq_getElem_cons hlt]
  by_cases h:i < us.length
  ·have h2:=hu _ (List.getElem_mem h)
   have h2l:=h2.2
   have hgo:=icmpT ts us ht hu hn hn2 d (i + 1) k (by omega) (by omega) (by omega)
   rw [enc_len]at hgo
   have hcmp:=impl_cmp _ ts[i] us[i] rfl h1.1 h2.1 h1l h2l k (by omega)
   rw [if_neg (by omega),if_pos (by omega),List.drop_eq_getElem_cons h,lcmp_cons,show enc ts=ts.map rB from rfl,show enc us=us.map rB from rfl,map_get ts i hlt,map_get us i h,show B (rnd ts[i])=rB ts[i]from rfl,show B (rnd us[i])=rB us[i]from rfl,hcmp,Option.bind_some,step_i (by omega)]
   split
   ·exact hgo
   ·rfl
  ·rw [if_pos (by omega),List.drop_of_length_le (show us.length≤i by omega)]
   rfl
theorem compareT_f (ts us:Row) (ht:∀ t∈ts,Sh t) (hu:∀ t∈us,Sh t) (hn:ts.length≤1000) (hn2:us.length≤1000) (k:Nat) (hk:7000 < k):impl_compareTuples.f k (enc ts) (enc us)=some (lcmp ts us):=by
 unfold impl_compareTuples.f z1_.f
 have:=icmpT ts us ht hu hn hn2 ts.length 0 k (by omega) (by omega) (by omega)
 rw [List.drop_zero,List.drop_zero]at this
 rw [show(0:Int)=((0:Nat):Int)from rfl,this,Option.bind_some]
theorem sg_pos {n:Int} (h:0 < n):sg n=1:=by
 unfold sg
 rw [if_neg (by omega),if_pos h]
theorem sg_neg1 {n:Int} (h:n < 0):sg n=-1:=by
 unfold sg
 rw [if_pos h]
theorem sg_0:sg 0=0:=by decide
theorem scmpT_end (ts us:Row) (i:Nat) (h1:i≤ts.length) (h2:i≤us.length) (h:¬(i < ts.length∧i < us.length)) (hn:ts.length≤1000) (hn2:us.length≤1000):spec_l01Sign.f (wrap64 (((enc ts).length:Int) - ((enc us).length:Int)))=some (lcmp (ts.drop i) (us.drop i)):=by
 rw [enc_len,enc_len,wrapS (by omega) (by omega),sign_f]
 congr 1
 by_cases a:i < ts.length
 ·rw [List.drop_eq_getElem_cons a,List.drop_of_length_le (show us.length≤i by omega),sg_pos (by omega)]
  rfl
 ·rw [List.drop_of_length_le (show ts.length≤i by omega)]
  by_cases b:i < us.length
  ·rw [List.drop_eq_getElem_cons b,sg_neg1 (by omega)]
   rfl
  ·rw [List.drop_of_length_le (show us.length≤i by omega),show((ts.length:Int) - (us.length:Int))=0 by omega,sg_0]
   rfl
theorem scmpT (ts us:Row) (ht:∀ t∈ts,Sh t) (hu:∀ t∈us,Sh t) (hn:ts.length≤1000) (hn2:us.length≤1000):∀(d i k:Nat),i + d=ts.length→i≤us.length→5000 + 2 * d < k →
  spec_l02Cmp.l0 k (i:Int) (enc ts) (enc us)=some (lcmp (ts.drop i) (us.drop i))
 | 0,i,k,hd,hi,hk=>by
  obtain⟨k,rfl⟩:∃ m,k=m + 2:=⟨k - 2,by omega⟩
  rw [spec_l02Cmp.l0,if_neg (by rw [enc_len];omega),spec_l02Cmp.j1,if_neg (by decide),scmpT_end ts us i (by omega) hi (by omega) hn hn2,Option.bind_some]
 | d + 1,i,k,hd,hi,hk=>by
  obtain⟨k,rfl⟩:∃ m,k=m + 2:=⟨k - 2,by omega⟩
  have hlt:i < ts.length:=by omega
  have h1:=ht _ (List.getElem_mem hlt)
  have h1l:=h1.2
  rw [spec_l02Cmp.l0,if_pos (by rw [enc_len];omega),spec_l02Cmp.j1]
  by_cases h:i < us.length
  ·have h2:=hu _ (List.getElem_mem h)
   have h2l:=h2.2
   have hgo:=scmpT ts us ht hu hn hn2 d (i + 1) k (by omega) (by omega) (by omega)
   have hcmp:=spec_cmp _ ts[i] us[i] rfl h1.1 h2.1 h1l h2l k (by omega)
   rw [show decide ((i:Int) < ((enc us).length:Int))=true by rw [enc_len];simp only [decide_eq_true_eq];omega,if_pos rfl,if_pos (by omega),if_pos (by rw [enc_len];omega),if_pos (by rw [enc_len];omega),List.drop_eq_getElem_cons hlt,List.drop_eq_getElem_cons h,lcmp_cons,show enc ts=ts.map rB from rfl,show enc us=us.map rB from rfl,map_get ts i hlt,map_get us i h,show B (rnd ts[i])=rB ts[i]from rfl,show B (rnd us[i])=rB us[i]from rfl,hcmp,Option.bind_some,step_i (by omega)]
   split
   ·exact hgo
   ·rfl
  ·rw [show decide ((i:Int) < ((enc us).length:Int))=false by rw [enc_len];simp only [decide_eq_false_iff_not];omega,if_neg (by decide),scmpT_end ts us i (by omega) hi (by omega) hn hn2,Option.bind_some]
theorem l02Cmp_f (ts us:Row) (ht:∀ t∈ts,Sh t) (hu:∀ t∈us,Sh t) (hn:ts.length≤1000) (hn2:us.length≤1000) (k:Nat) (hk:8000 < k):spec_l02Cmp.f k (enc ts) (enc us)=some (lcmp ts us) :=
 scmpT ts us ht hu hn hn2 ts.length 0 k (by omega) (by omega) (by omega)
/-- Are rows right, in order, behind another one? -/
noncomputable def okFrom (ar:Int):Option Row→List TI→Bool
 | _,[]=>true
 | prev,r :: rows=>match isTup r.f0 with
  | none=>false
  | some ts=>decide ((ts.length:Int)=ar) && (match prev with|none=>true|some p=>decide (lcmp p ts < 0)) && okFrom ar (some ts) rows
noncomputable def relB (ar:Int) (rows:List TI):Bool:=decide (0≤ar∧ar≤6) && decide (rows.length≤400) && okFrom ar none rows
theorem okFrom_cons (ar:Int) (prev:Option Row) (r:TI) (rows:List TI):okFrom ar prev (r :: rows)=match isTup r.f0 with
  | none=>false
  | some ts=>decide ((ts.length:Int)=ar) && (match prev with|none=>true|some p=>decide (lcmp p ts < 0)) && okFrom ar (some ts) rows:=by rw [okFrom]
/-- What is told of the row ahead. -/
def Prev (rows:List TI) (i:Nat):Option Row→Prop
 | none=>i=0
 | some p=>∃ j,i=j + 1∧isTup (y24 rows (j:Int)).f0=some p
theorem irel_l (ar:Int) (rows:List TI) (hs:∀ r∈rows,∀ x∈r.f0,x.size≤1048576) (hn:rows.length≤400):∀(d i k:Nat) (prev:Option Row),i + d=rows.length→5000000 + d < k→Prev rows i prev →
  impl_isRel.l0 k rows (rows.length:Int) (i:Int) ar rows=some (okFrom ar prev (rows.drop i))
 | 0,i,k,prev,hd,hk,hp=>by
  obtain⟨k,rfl⟩:∃ m,k=m + 1:=⟨k - 1,by omega⟩
  rw [impl_isRel.l0,if_neg (by omega),List.drop_of_length_le (by omega),okFrom]
 | d + 1,i,k,prev,hd,hk,hp=>by
  obtain⟨k,rfl⟩:∃ m,k=m + 1:=⟨k - 1,by omega⟩
  have hlt:i < rows.length:=by omega
  have hrd:=rdI_get rows i hlt
  rw [impl_isRel.l0,if_pos (by omega),if_pos (by omega),if_pos (by omega),hrd,isTuple_f _ (hs _ (List.getElem_mem hlt)) k (by omega),Option.bind_some,List.drop_eq_getElem_cons hlt,okFrom_cons]
  cases ht:isTup (rows[i]).f0 with
  | none=>rw [Option.isSome_none,if_neg (by decide)]
  | some ts =>
   simp only []
   obtain⟨g1,g2,g3⟩:=isTup_iff.1 ht
   have hgo:=irel_l ar rows hs hn d (i + 1) k (some ts) (by omega) (by omega) ⟨i,rfl,by rw [hrd];exact ht⟩
   rw [Option.isSome_some,if_pos rfl,g3,enc_len,step_i (by omega),hgo]
   by_cases har:(ts.length:Int)=ar
   ·rw [if_pos har,decide_eq_true har,Bool.true_and]
    cases prev with
    | none =>
     have hi:i=0:=hp
     rw [if_neg (by omega),Bool.true_and]
    | some p =>
     obtain⟨j,rfl,hj⟩:=hp
     simp only []
     obtain⟨p1,p2,p3⟩:=isTup_iff.1 hj
     have e:wrap64 (((j + 1:Nat):Int) - 1)=(j:Int):=by rw [wrapS (by omega) (by omega)];omega
     rw [if_pos (by omega),e,if_pos (by clear e;omega),if_pos (by clear e;omega),p3,compareT_f p ts p2 g2 (by clear e;omega) (by clear e;omega) k (by clear e;omega),Option.bind_some]
     by_cases hl:lcmp p ts < 0
     ·rw [if_neg (by clear e;omega),decide_eq_true hl,Bool.true_and]
     ·rw [if_pos (by clear e;omega),decide_eq_false hl,Bool.false_and]
   ·rw [if_neg har,decide_eq_false har,Bool.false_and,Bool.false_and]
theorem isRel_f (ar:Int) (rows:List TI) (hs:∀ r∈rows,∀ x∈r.f0,x.size≤1048576) (k:Nat) (hk:5001000 < k):impl_isRel.f k ar rows=some (relB ar rows):=by
 obtain⟨k,rfl⟩:∃ m,k=m + 1:=⟨k - 1,by omega⟩
 unfold impl_isRel.f relB
 rw [in_f,Option.bind_some]
 by_cases h:0≤ar∧ar≤6
 ·rw [decide_eq_true h,if_pos rfl,Bool.true_and,impl_isRel.j0]
  by_cases h2:rows.length≤400
  ·rw [show decide ((rows.length:Int) > 400)=false by simp only [decide_eq_false_iff_not];omega,if_neg (by decide),decide_eq_true h2,Bool.true_and]
   exact irel_l ar rows hs h2 rows.length 0 k none (by omega) (by omega) rfl
  ·rw [show decide ((rows.length:Int) > 400)=true by simp only [decide_eq_true_eq];omega,if_pos rfl,decide_eq_false h2,Bool.false_and]
 ·rw [decide_eq_false h,if_neg (by decide),impl_isRel.j0,if_pos rfl,Bool.false_and,Bool.false_and]
theorem srel_l (ar:Int) (rows:List TI) (hs:∀ r∈rows,∀ x∈r.f0,x.size≤1048576) (hn:rows.length≤400):∀(d i k:Nat) (prev:Option Row),i + d=rows.length→5000000 + d < k→Prev rows i prev →
  spec_RelOk.l0 k (i:Int) ar rows=some (okFrom ar prev (rows.drop i))
 | 0,i,k,prev,hd,hk,hp=>by
  obtain⟨k,rfl⟩:∃ m,k=m + 1:=⟨k - 1,by omega⟩
  rw [spec_RelOk.l0,if_neg (by omega),List.drop_of_length_le (by omega),okFrom]
 | d + 1,i,k,prev,hd,hk,hp=>by
  obtain⟨k,rfl⟩:∃ m,k=m + 1:=⟨k - 1,by omega⟩
  have hlt:i < rows.length:=by omega
  have hrd:=rdI_get rows i hlt
  rw [spec_RelOk.l0,if_pos (by omega),if_pos (by omega),hrd,tupleOk_f _ (hs _ (List.getElem_mem hlt)) k (by omega),Option.bind_some,List.drop_eq_getElem_cons hlt,okFrom_cons]
  cases ht:isTup (rows[i]).f0 with
  | none =>
   rw [Option.isSome_none,if_neg (show ¬(false=true)by decide)]
   split <;> rfl
  | some ts =>
   simp only []
   obtain⟨g1,g2,g3⟩:=isTup_iff.1 ht
   have hgo:=srel_l ar rows hs hn d (i + 1) k (some ts) (by omega) (by omega) ⟨i,rfl,by rw [hrd];exact ht⟩
   rw [Option.isSome_some,if_pos (show true=true from rfl),g3,enc_len,step_i (by omega),hgo]
   by_cases har:(ts.length:Int)=ar
   ·rw [if_pos har,decide_eq_true har,Bool.true_and]
    cases prev with
    | none =>
     have hi:i=0:=hp
     rw [if_neg (by omega),Bool.true_and]
    | some p =>
     obtain⟨j,rfl,hj⟩:=hp
     simp only []
     obtain⟨p1,p2,p3⟩:=isTup_iff.1 hj
     have e:wrap64 (((j + 1:Nat):Int) - 1)=(j:Int):=by rw [wrapS (by omega) (by omega)];omega
     rw [if_pos (by omega),e,if_pos (by clear e;omega),if_pos (by clear e;omega),p3,l02Cmp_f p ts p2 g2 (by clear e;omega) (by clear e;omega) k (by clear e;omega),Option.bind_some]
     by_cases hl:lcmp p ts < 0
     ·rw [if_neg (by clear e;omega),decide_eq_true hl,Bool.true_and]
     ·rw [if_pos (by clear e;omega),decide_eq_false hl,Bool.false_and]
   ·rw [if_neg har,decide_eq_false har,Bool.false_and,Bool.false_and]
theorem relOk_f (ar:Int) (rows:List TI) (hs:∀ r∈rows,∀ x∈r.f0,x.size≤1048576) (k:Nat) (hk:5001000 < k):spec_RelOk.f k ar rows=some (relB ar rows):=by
 obtain⟨k,rfl⟩:∃ m,k=m + 1:=⟨k - 1,by omega⟩
 unfold spec_RelOk.f relB
 rw [between_f,Option.bind_some]
 by_cases h:0≤ar∧ar≤6
 ·rw [decide_eq_true h,if_pos rfl,Bool.true_and,spec_RelOk.j0]
  by_cases h2:rows.length≤400
  ·rw [show decide ((rows.length:Int) > 400)=false by simp only [decide_eq_false_iff_not];omega,if_neg (by decide),decide_eq_true h2,Bool.true_and]
   exact srel_l ar rows hs h2 rows.length 0 k none (by omega) (by omega) rfl
  ·rw [show decide ((rows.length:Int) > 400)=true by simp only [decide_eq_true_eq];omega,if_pos rfl,decide_eq_false h2,Bool.false_and]
 ·rw [decide_eq_false h,if_neg (by decide),spec_RelOk.j0,if_pos rfl,Bool.false_and,Bool.false_and]
def encR (rs:List Row):List TI:=rs.map fun ts=>(⟨enc ts⟩:TI)
/-- Rows of an arity. -/
def Ar (ar:Int) (ts:Row):Prop:=(ts.length:Int)=ar∧ts.length≤6∧∀ t∈ts,Sh t
def After:Option Row→List Row→Prop
 | none,rs=>Srt rs
 | some p,rs=>Srt (p :: rs)
theorem after_cons (prev:Option Row) (ts:Row) (rs:List Row):After prev (ts :: rs)↔(match prev with|none=>True|some p=>lcmp p ts < 0)∧Srt (ts :: rs):=by
 cases prev with
 | none=>simp [After]
 | some p =>
  simp only [After]
  constructor
  ·intro h
   rw [srt_cons]at h
   exact⟨h.1 ts (by simp),h.2⟩
  ·rintro⟨h1,h2⟩
   refine srt_cons.2 ⟨fun x hx=>?_,h2⟩
   rcases List.mem_cons.1 hx with rfl|hx
   ·exact h1
   ·exact lcmp_trans p ts x h1 ((srt_cons.1 h2).1 x hx)
theorem okFrom_iff (ar:Int):∀(rows:List TI) (prev:Option Row),okFrom ar prev rows=true↔∃ rs,rows=encR rs∧(∀ ts∈rs,Ar ar ts)∧After prev rs
 | [],prev=>by
  rw [okFrom]
  constructor
  ·intro _
   refine⟨[],rfl,fun ts h=>(by cases h), ?_⟩
   cases prev with
   | none=>exact srt_nil
   | some p=>exact srt_cons.2 ⟨fun b hb=>(by cases hb),srt_nil⟩
  ·intro _;rfl
 | r :: rows,prev=>by
  rw [okFrom_cons]
  cases ht:isTup r.f0 with
  | none =>
   constructor
   ·intro h;cases h
   ·rintro⟨rs,h1,h2,_⟩
    cases rs with
    | nil=>cases h1
    | cons ts rs =>
     injection h1 with h1 _
     have h3:=h2 ts (by simp)
     have:isTup r.f0=some ts:=isTup_iff.2 ⟨h3.2.1,h3.2.2,by rw [h1]⟩
     rw [ht]at this
     cases this
  | some ts =>
   obtain⟨g1,g2,g3⟩:=isTup_iff.1 ht
   have er:r=(⟨enc ts⟩:TI):=by cases r;simp only at g3;rw [g3]
   simp only [Bool.and_eq_true,decide_eq_true_eq,okFrom_iff ar rows (some ts)]
   constructor
   ·rintro⟨⟨h1,h2⟩,rs,h3,h4,h5⟩
    refine⟨ts :: rs,by rw [h3,er];rfl,fun us hus=>?_,(after_cons prev ts rs).2 ⟨?_,h5⟩⟩
    ·rcases List.mem_cons.1 hus with rfl|hus
     ·exact⟨h1,g1,g2⟩
     ·exact h4 us hus
    ·cases prev with
     | none=>trivial
     | some p=>simpa using h2
   ·rintro⟨rs,h1,h2,h3⟩
    cases rs with
    | nil=>cases h1
    | cons us rs =>
     injection h1 with h1 h4
     have h5:=h2 us (by simp)
     have:isTup r.f0=some us:=isTup_iff.2 ⟨h5.2.1,h5.2.2,by rw [h1]⟩
     rw [ht]at this
     injection this with this
     subst this
     obtain⟨h6,h7⟩:=(after_cons prev ts rs).1 h3
     refine⟨⟨h5.1, ?_⟩,rs,h4,fun us hus=>h2 us (by simp [hus]),h7⟩
     cases prev with
     | none=>rfl
     | some p=>simpa using h6
theorem relB_iff (ar:Int) (rows:List TI):relB ar rows=true↔(0≤ar∧ar≤6)∧∃ rs,rows=encR rs∧rs.length≤400∧(∀ ts∈rs,Ar ar ts)∧Srt rs:=by
 unfold relB
 simp only [Bool.and_eq_true,decide_eq_true_eq,okFrom_iff]
 constructor
 ·rintro⟨⟨h1,h2⟩,rs,h3,h4,h5⟩
  exact⟨h1,rs,h3,by rw [h3,encR,List.length_map]at h2;exact h2,h4,h5⟩
 ·rintro⟨h1,rs,h3,h2,h4,h5⟩
  exact⟨⟨h1,by rw [h3,encR,List.length_map];exact h2⟩,rs,h3,h4,h5⟩
end Go.Proofs.YtkajecadkkgfmaaGreatDoor.QRel
