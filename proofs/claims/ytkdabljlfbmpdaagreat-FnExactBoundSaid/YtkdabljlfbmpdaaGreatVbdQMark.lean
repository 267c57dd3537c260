-- Cut by prune.py, a program of this session, out of the texts of this claim: Lean checks it.
import Derived.Test.YtkdabljlfbmpdaaGreatVbdQLaws
import Derived.Test.YtkdabljlfbmpdaaGreatVbdPbx22
namespace Go.Proofs.YtkdabljlfbmpdaaGreat.QMark
open Go.RowKit Go.Proofs.YtkdabljlfbmpdaaGreat.Pb Go.Proofs.YtkdabljlfbmpdaaGreatW.PrintWords Go.Proofs.YtkdabljlfbmpdaaGreatW.PrintLast Go.Proofs.YtkdabljlfbmpdaaGreat.QStr Go.Proofs.YtkdabljlfbmpdaaGreat.QLaws
def mt (x:Nat):List UInt8:=109 :: Lib.decDigits x
theorem digit_str (u:Nat) (hu:u≤1000000000000):strOfNums [(wrap64 (48 + (Int.tmod (u:Int) 10))) % 256]=B [UInt8.ofNat (48 + u % 10)]:=by
 have h1:Int.tmod (u:Int) 10=((u % 10:Nat):Int):=by rw [Int.tmod_eq_emod_of_nonneg (by omega)];omega
 have h2:(wrap64 (48 + (Int.tmod (u:Int) 10))) % 256=((48 + u % 10:Nat):Int):=by
  rw [h1,wrapS (by omega) (by omega)]
  omega
 rw [h2]
 rfl
theorem mark_l:∀(d u:Nat) (acc:List UInt8) (k:Nat),u < 10 ^ d→u≤1000000000000→0 < u→acc.length + d≤100→d + 1 < k→laws_markText.l0 k (u:Int) (B acc)=some (B (109 :: (Lib.decDigits u ++ acc)))
 | 0,u,acc,k,h,_,h0,_,_=>by simp at h;omega
 | d + 1,u,acc,k,h,hu,h0,hl,hk=>by
  obtain⟨k,rfl⟩:∃ m,k=m + 2:=⟨k - 2,by omega⟩
  have hds:=digit_str u hu
  have hdiv:Int.tdiv (u:Int) 10=((u / 10:Nat):Int):=by rw [Int.tdiv_eq_ediv_of_nonneg (by omega)];omega
  have hw:wrap64 (Int.tdiv (u:Int) 10)=((u / 10:Nat):Int):=by rw [hdiv];exact wrap_nat (by clear hds hdiv;omega)
  rw [laws_markText.l0,if_pos (by clear hds hdiv hw;omega),Option.bind_some,hds,if_pos (by rw [size_B,size_B];simp only [List.length_cons,List.length_nil];clear hds hdiv hw;omega),hw,y1,List.singleton_append]
  clear hds hdiv hw
  by_cases hs:u < 10
  ·have e:u / 10=0:=by omega
   rw [e,dec_small hs,Nat.mod_eq_of_lt hs,laws_markText.l0,if_neg (by omega),if_pos (by rw [size_B];simp only [List.length_cons];omega),show((⟨#[109]⟩:ByteArray))=B [109]from rfl,y1]
   rfl
  ·rw [mark_l d (u / 10) _ (k + 1) (by rw [Nat.pow_succ]at h;omega) (by omega) (by omega) (by simp only [List.length_cons];omega) (by omega),dec_big hs,List.append_assoc,List.singleton_append]
theorem mark_f (u:Nat) (hu:u < 1000000000) (k:Nat) (hk:20 < k):laws_markText.f k (u:Int)=some (B (mt u)):=by
 unfold laws_markText.f
 by_cases h:u=0
 ·subst h
  rw [if_pos (by omega),mt,dec_small (by omega)]
  rfl
 ·rw [if_neg (by omega),show((⟨#[]⟩:ByteArray))=B []from rfl,mark_l 9 u [] k (by omega) (by omega) (by omega) (by simp) (by omega),List.append_nil]
  rfl
def marks (c n:Nat):List ByteArray:=(List.range n).map fun j=>B (mt (c + j))
theorem marks_length (c n:Nat):(marks c n).length=n:=by simp [marks]
theorem marks_succ (c n:Nat):marks c (n + 1)=marks c n ++ [B (mt (c + n))]:=by simp [marks,List.range_succ]
theorem marks_get (c n i:Nat) (h:i < (marks c n).length):(marks c n)[i]=B (mt (c + i)):=by simp [marks]
theorem markS_l (c n:Nat) (hc:c + n < 1000000000):∀(d i k:Nat) (rest:List ByteArray),i + d=n→rest.length=d→d + 21 < k→laws_markStringS.l0 k (marks c i ++ rest) ((c + i:Nat):Int) (i:Int)=some (((c + n:Nat):Int),marks c n)
 | 0,i,k,rest,hd,hr,hk=>by
  obtain⟨k,rfl⟩:∃ m,k=m + 1:=⟨k - 1,by omega⟩
  have hr0:rest=[]:=List.length_eq_zero_iff.1 hr
  have hi:i=n:=by omega
  rw [hr0,List.append_nil,hi,laws_markStringS.l0,if_neg (by rw [marks_length];omega)]
 | d + 1,i,k,[],hd,hr,hk=>by simp at hr
 | d + 1,i,k,x :: rest,hd,hr,hk=>by
  obtain⟨k,rfl⟩:∃ m,k=m + 1:=⟨k - 1,by omega⟩
  have hset:(marks c i ++ x :: rest).set i (B (mt (c + i)))=marks c (i + 1) ++ rest:=by
   rw [List.set_append_right _ _ (by rw [marks_length];omega),marks_length,Nat.sub_self,List.set_cons_zero,marks_succ,List.append_assoc,List.singleton_append]
  rw [laws_markStringS.l0,if_pos (by simp only [List.length_append,marks_length,List.length_cons];omega),mark_f (c + i) (by omega) k (by omega),Option.bind_some,if_pos (by omega),show((i:Int)).toNat=i from rfl,hset,step_i (by omega),step_i (by omega)]
  exact markS_l c n hc d (i + 1) k rest (by omega) (by simpa using hr) (by omega)
theorem markS_f (c:Nat) (xs:List ByteArray) (hc:c + xs.length < 1000000000) (k:Nat) (hk:xs.length + 21 < k):laws_markStringS.f k xs (c:Int)=some (((c + xs.length:Nat):Int),marks c xs.length):=by
 have:=markS_l c xs.length hc xs.length 0 k xs (by omega) rfl (by omega)
 unfold laws_markStringS.f
 simpa [marks] using this
theorem heldS_l (c n:Nat) (hc:c + n < 1000000000):∀(d i k:Nat),i + d=n→d + 21 < k→laws_heldStringS.l0 k (marks c n) ((c + i:Nat):Int) (i:Int)=some ((c + n:Nat):Int)
 | 0,i,k,hd,hk=>by
  obtain⟨k,rfl⟩:∃ m,k=m + 1:=⟨k - 1,by omega⟩
  rw [laws_heldStringS.l0,if_neg (by rw [marks_length];omega),show c + i=c + n by omega]
 | d + 1,i,k,hd,hk=>by
  obtain⟨k,rfl⟩:∃ m,k=m + 1:=⟨k - 1,by omega⟩
  have hlt:i < (marks c n).length:=by rw [marks_length];omega
  rw [laws_heldStringS.l0,if_pos (by rw [marks_length];omega),if_pos (by omega),mark_f (c + i) (by omega) k (by omega),Option.bind_some,rdOf_get _ i hlt,marks_get,if_pos rfl,step_i (by omega),step_i (by omega)]
  exact heldS_l c n hc d (i + 1) k (by omega) (by omega)
theorem heldS_f (c n:Nat) (hc:c + n < 1000000000) (k:Nat) (hk:n + 21 < k):laws_heldStringS.f k (marks c n) (c:Int)=some ((c + n:Nat):Int):=by
 unfold laws_heldStringS.f
 exact heldS_l c n hc n 0 k (by omega) hk
end Go.Proofs.YtkdabljlfbmpdaaGreat.QMark
