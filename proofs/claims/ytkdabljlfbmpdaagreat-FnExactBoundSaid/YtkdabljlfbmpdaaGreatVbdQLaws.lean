-- Cut by prune.py, a program of this session, out of the texts of this claim: Lean checks it.
import Derived.Test.YtkdabljlfbmpdaaGreatVbdQStr
import Derived.Test.YtkdabljlfbmpdaaGreatVbdPbx18
namespace Go.Proofs.YtkdabljlfbmpdaaGreat.QLaws
open Go.RowKit Go.Proofs.YtkdabljlfbmpdaaGreat.Pb Go.Proofs.YtkdabljlfbmpdaaGreatW.PrintWords Go.Proofs.YtkdabljlfbmpdaaGreatW.PrintLast Go.Proofs.YtkdabljlfbmpdaaGreat.QStr
theorem rdOf_get (xs:List ByteArray) (i:Nat) (h:i < xs.length):rdOf ByteArray.empty xs (i:Int)=xs[i]:=by
 unfold rdOf
 rw [show((i:Int)).toNat=i from rfl,List.getD_eq_getElem?_getD,List.getElem?_eq_getElem h]
 rfl
theorem step_i {i:Nat} (h:i≤281474976710656):wrap64 ((i:Int) + 1)=((i + 1:Nat):Int):=by
 rw [wrapS (by omega) (by omega)]
 omega
theorem eqS_l (xs:List ByteArray) (hx:xs.length≤281474976710656):∀(d i k:Nat),i≤xs.length→xs.length - i=d→d < k→laws_eqStringS.l0 k xs xs (i:Int)=some true
 | 0,i,k,hi,hd,hk=>by
  obtain⟨k,rfl⟩:∃ m,k=m + 1:=⟨k - 1,by omega⟩
  rw [laws_eqStringS.l0,if_neg (by omega)]
 | d + 1,i,k,hi,hd,hk=>by
  obtain⟨k,rfl⟩:∃ m,k=m + 1:=⟨k - 1,by omega⟩
  rw [laws_eqStringS.l0,if_pos (by omega),if_pos (by omega),if_pos (by omega),if_pos rfl,step_i (by omega),eqS_l xs hx d (i + 1) k (by omega) (by omega) (by omega)]
theorem eqS_f (xs:List ByteArray) (hx:xs.length≤281474976710656) (k:Nat) (hk:xs.length < k):laws_eqStringS.f k xs xs=some true:=by
 unfold laws_eqStringS.f
 rw [if_pos rfl]
 exact eqS_l xs hx xs.length 0 k (by omega) (by omega) hk
end Go.Proofs.YtkdabljlfbmpdaaGreat.QLaws
