-- Cut by prune.py, a program of this session, out of the texts of this claim: Lean checks it.
import Derived.Test.YtkajecadkkgfmaaGreatDoorVsqQRel
import Derived.Test.YtkajecadkkgfmaaGreatDoorVsqQLaw3
import Derived.Test.YtkajecadkkgfmaaGreatDoorVsqPnx31
import Derived.Test.YtkajecadkkgfmaaGreatDoorVsqPnx0
import Derived.Test.YtkajecadkkgfmaaGreatDoorVsqPnx17
import Derived.Test.YtkajecadkkgfmaaGreatDoorVsqPnx9
namespace Go.Proofs.YtkajecadkkgfmaaGreatDoor.QSeek
open Go.RowKit Go.Proofs.YtkajecadkkgfmaaGreatDoor.Pn Go.Proofs.YtkajecadkkgfmaaGreatDoorW.PrintWords Go.Proofs.YtkajecadkkgfmaaGreatDoorW.PrintLast Go.Proofs.YtkajecadkkgfmaaGreatDoor.QStr Go.Proofs.YtkajecadkkgfmaaGreatDoor.QLaws Go.Proofs.YtkajecadkkgfmaaGreatDoor.QLaw2 Go.Proofs.YtkajecadkkgfmaaGreatDoor.QLaw3 Go.Proofs.YtkajecadkkgfmaaGreatDoor.QRel
abbrev TI:=S36
/-- Two lists of the same texts. -/
def eqT (a b:List ByteArray):Bool:=decide (a.map (·.data.toList)=b.map (·.data.toList))
theorem s_toList_data (s:ByteArray):s.toList=s.data.toList:=by
 obtain⟨a⟩:=s
 obtain⟨l⟩:=a
 exact ByteArray.toList_mk l
theorem eqT_cons (a b:ByteArray) (l m:List ByteArray):eqT (a :: l) (b :: m)=(decide (a.data.toList=b.data.toList) && eqT l m):=by
 unfold eqT
 rw [List.map_cons,List.map_cons,← Bool.decide_and]
 exact decide_eq_decide.2 (by rw [List.cons.injEq])
theorem eqT_len {l m:List ByteArray} (h:l.length≠m.length):eqT l m=false :=
 decide_eq_false (fun e=>h (by have:=congrArg List.length e;rwa [List.length_map,List.length_map]at this))
theorem equal_l (l m:List ByteArray) (hl:l.length=m.length) (hn:l.length≤281474976710656):∀(d i k:Nat),i + d=l.length→d < k→slices_Equal_string_string.l0 k l m (l.length:Int) (i:Int)=some (eqT (l.drop i) (m.drop i))
 | d,i,0,_,hk=>absurd hk (Nat.not_lt_zero d)
 | 0,i,k + 1,h,_=>by
  rw [slices_Equal_string_string.l0,if_neg (by omega),List.drop_of_length_le (by omega),List.drop_of_length_le (by omega)]
  rfl
 | d + 1,i,k + 1,h,hk=>by
  have hi:i < l.length:=by omega
  have hj:i < m.length:=by omega
  rw [slices_Equal_string_string.l0,if_pos (by omega),if_pos (by omega),if_pos (by omega),if_pos (by omega),rdOf_get l i hi,rdOf_get m i hj,s_toList_data,s_toList_data,List.drop_eq_getElem_cons hi,List.drop_eq_getElem_cons hj,eqT_cons]
  by_cases e:l[i].data.toList=m[i].data.toList
  ·rw [if_pos e,step_i (by omega),equal_l l m hl hn d (i + 1) k (by omega) (by omega),decide_eq_true e,Bool.true_and]
  ·rw [if_neg e,decide_eq_false e,Bool.false_and]
theorem equal_f (l m:List ByteArray) (hn:l.length≤1048576) (k:Nat) (hk:1048577 < k):slices_Equal_string_string.f k l m=some (eqT l m):=by
 unfold slices_Equal_string_string.f
 by_cases hl:l.length=m.length
 ·rw [if_pos (by omega),show(0:Int)=((0:Nat):Int)from rfl,equal_l l m hl (by omega) l.length 0 k (by omega) (by omega)]
  rfl
 ·rw [if_neg (by omega),eqT_len hl]
theorem copy_f (l:List ByteArray) (h:l.length≤1048576):impl_copyTuple.f l=some l:=by
 unfold impl_copyTuple.f
 rw [Option.bind_some,if_pos (by simp only [List.length_nil];omega),List.nil_append]
theorem tuple_f (l:List ByteArray) (h:l.length≤1048576):spec_l02Tuple.f l=some l:=by
 unfold spec_l02Tuple.f
 rw [Option.bind_some,if_pos (by simp only [List.length_nil];omega),List.nil_append]
/-- A row begins so. -/
def beg (hs:List ByteArray) (r:TI):Bool:=decide (hs.length≤r.f0.length) && eqT (r.f0.take hs.length) hs
theorem mk_f0 (r:TI):(⟨r.f0⟩:TI)=r:=rfl
theorem seek_il (hs:List ByteArray) (rows:List TI) (hn:rows.length≤400) (hr:∀ r∈rows,r.f0.length≤1048576) (hh:hs.length≤1048576):∀(d i k:Nat) (out:List TI),i + d=rows.length→out.length + d≤800→d + 1048577 < k →
  impl_RelSeek.l0 k hs out rows (rows.length:Int) (i:Int)=some (out ++ (rows.drop i).filter (beg hs))
 | 0,i,k,out,h,_,hk=>by
  obtain⟨k,rfl⟩:∃ m,k=m + 1:=⟨k - 1,by omega⟩
  rw [impl_RelSeek.l0,if_neg (by omega),List.drop_of_length_le (by omega)]
  simp
 | d + 1,i,k,out,h,ho,hk=>by
  obtain⟨k,rfl⟩:∃ m,k=m + 1:=⟨k - 1,by omega⟩
  have hi:i < rows.length:=by omega
  have hl:=hr rows[i] (List.getElem_mem hi)
  have ih:=fun out ho=>seek_il hs rows hn hr hh d (i + 1) k out (by omega) ho (by omega)
  rw [impl_RelSeek.l0,if_pos (by omega),if_pos (by omega),if_pos (by omega),QRel.rdI_get rows i hi,step_i (by omega),List.drop_eq_getElem_cons hi,List.filter_cons]
  generalize rows[i]=r at hl
  by_cases h1:hs.length≤r.f0.length
  ·rw [if_pos (by omega),if_pos (by omega),show((hs.length:Int)).toNat=hs.length from rfl,equal_f _ _ (by rw [List.length_take];omega) k (by omega),Option.bind_some]
   by_cases h2:eqT (r.f0.take hs.length) hs=true
   ·have hb:beg hs r=true:=by unfold beg;rw [decide_eq_true h1,h2];rfl
    rw [if_pos h2,copy_f r.f0 hl,Option.bind_some,if_pos (by omega),if_pos hb,mk_f0,ih _ (by rw [List.length_append,List.length_singleton];omega),List.append_assoc]
    rfl
   ·have hb:¬ beg hs r=true:=by unfold beg;rw [Bool.eq_false_iff.2 h2,Bool.and_false];decide
    rw [if_neg h2,if_neg hb,ih _ (by omega)]
  ·have hb:¬ beg hs r=true:=by unfold beg;rw [decide_eq_false h1,Bool.false_and];decide
   rw [if_neg (by omega),if_neg hb,ih _ (by omega)]
/-- What RelSeek answers. -/
noncomputable def seekF (ar:Int) (rows:List TI) (hs:List ByteArray):List TI:=if relB ar rows=true then rows.filter (beg hs)else []
theorem rel_rows {ar:Int} {rows:List TI} (h:relB ar rows=true):0≤ar∧ar≤6∧rows.length≤400∧∀ r∈rows,(r.f0.length:Int)=ar:=by
 obtain⟨⟨h0,h1⟩,rs,rfl,h3,h4,_⟩:=(relB_iff ar rows).1 h
 refine⟨h0,h1,by unfold encR;rw [List.length_map];exact h3,fun r hr=>?_⟩
 unfold encR at hr
 obtain⟨ts,ht,rfl⟩:=List.mem_map.1 hr
 have:=(h4 ts ht).1
 rw [show(⟨enc ts⟩:TI).f0=enc ts from rfl,enc_len]
 exact this
theorem impl_seek_f (ar:Int) (rows:List TI) (hs:List ByteArray) (hf:FewI rows) (hh:hs.length≤1048576) (k:Nat) (hk:6000000 < k):impl_RelSeek.f k ar rows hs=some (seekF ar rows hs):=by
 unfold impl_RelSeek.f seekF
 rw [isRel_f ar rows (fun r hr=>(hf.2 r hr).2) k (by omega),Option.bind_some]
 by_cases h:relB ar rows=true
 ·obtain⟨h0,h1,h2,h3⟩:=rel_rows h
  rw [if_pos h,if_pos h,show(0:Int)=((0:Nat):Int)from rfl,seek_il hs rows h2 (fun r hr=>by have:=h3 r hr;omega) hh rows.length 0 k [] (by omega) (by rw [List.length_nil];omega) (by omega),List.nil_append,List.drop_zero]
 ·rw [if_neg h,if_neg h]
end Go.Proofs.YtkajecadkkgfmaaGreatDoor.QSeek
