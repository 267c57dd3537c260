-- Cut by prune.py, a program of this session, out of the texts of this claim: Lean checks it.
import Derived.Test.YtkajecadkkgfmaaGreatDoorVkqQRel
import Derived.Test.YtkajecadkkgfmaaGreatDoorVkqQLaw3
import Derived.Test.YtkajecadkkgfmaaGreatDoorVkqPnx31
import Derived.Test.YtkajecadkkgfmaaGreatDoorVkqPnx19
import Derived.Test.YtkajecadkkgfmaaGreatDoorVkqPnx9
namespace Go.Proofs.YtkajecadkkgfmaaGreatDoor.QSeek
open Go.RowKit Go.Proofs.YtkajecadkkgfmaaGreatDoor.Pn Go.Proofs.YtkajecadkkgfmaaGreatDoorW.PrintWords Go.Proofs.YtkajecadkkgfmaaGreatDoorW.PrintLast Go.Proofs.YtkajecadkkgfmaaGreatDoor.QStr Go.Proofs.YtkajecadkkgfmaaGreatDoor.QLaws Go.Proofs.YtkajecadkkgfmaaGreatDoor.QLaw2 Go.Proofs.YtkajecadkkgfmaaGreatDoor.QLaw3 Go.Proofs.YtkajecadkkgfmaaGreatDoor.QRel
abbrev TI:=S36
/-- Two lists of the same texts. -/
def eqT (a b:List ByteArray):Bool:=decide (a.map (·.data.toList)=b.map (·.data.toList))
theorem s_toList_data (s:ByteArray):s.toList=s.data.toList:=by
 obtain⟨a⟩:=s
 obtain⟨l⟩:=a
 exact ByteArray.toList_mk l
theorem eqT_cons (a b:ByteArray) (l m:List ByteArray):eqT (a :: l) (b :: m)=(decide (a.data.toList=b.data.toList) && eqT l m):=by
 unfold eqT
 rw [List.map_cons,List.map_cons,← Bool.decide_and]
 exact decide_eq_decide.2 (by rw [List.cons.injEq])
theorem eqT_len {l m:List ByteArray} (h:l.length≠m.length):eqT l m=false :=
 decide_eq_false (fun e=>h (by have:=congrArg List.length e;rwa [List.length_map,List.length_map]at this))
theorem same_l (l m:List ByteArray) (hl:l.length=m.length) (hn:l.length≤1048576):∀(d i k:Nat),i + d=l.length→d < k→spec_l02Same.l0 k (i:Int) l m=some (eqT (l.drop i) (m.drop i))
 | d,i,0,_,hk=>absurd hk (Nat.not_lt_zero d)
 | 0,i,k + 1,h,_=>by
  rw [spec_l02Same.l0,if_neg (by omega),List.drop_of_length_le (by omega),List.drop_of_length_le (by omega)]
  rfl
 | d + 1,i,k + 1,h,hk=>by
  have hi:i < l.length:=by omega
  have hj:i < m.length:=by omega
  rw [spec_l02Same.l0,if_pos (by omega),if_pos (by omega),if_pos (by omega),rdOf_get l i hi,rdOf_get m i hj,s_toList_data,s_toList_data,List.drop_eq_getElem_cons hi,List.drop_eq_getElem_cons hj,eqT_cons]
  by_cases e:l[i].data.toList=m[i].data.toList
  ·rw [if_pos e,step_i (by omega),same_l l m hl hn d (i + 1) k (by omega) (by omega),decide_eq_true e,Bool.true_and]
  ·rw [if_neg e,decide_eq_false e,Bool.false_and]
theorem same_f (l m:List ByteArray) (hn:l.length≤1048576) (k:Nat) (hk:1048577 < k):spec_l02Same.f k l m=some (eqT l m):=by
 unfold spec_l02Same.f
 by_cases hl:l.length=m.length
 ·rw [if_pos (by omega),show(0:Int)=((0:Nat):Int)from rfl,same_l l m hl hn l.length 0 k (by omega) (by omega)]
  rfl
 ·rw [if_neg (by omega),eqT_len hl]
theorem copy_f (l:List ByteArray) (h:l.length≤1048576):impl_copyTuple.f l=some l:=by
 unfold impl_copyTuple.f
 rw [Option.bind_some,if_pos (by simp only [List.length_nil];omega),List.nil_append]
theorem tuple_f (l:List ByteArray) (h:l.length≤1048576):spec_l02Tuple.f l=some l:=by
 unfold spec_l02Tuple.f
 rw [Option.bind_some,if_pos (by simp only [List.length_nil];omega),List.nil_append]
theorem mk_f0 (r:TI):(⟨r.f0⟩:TI)=r:=rfl
theorem rel_rows {ar:Int} {rows:List TI} (h:relB ar rows=true):0≤ar∧ar≤6∧rows.length≤400∧∀ r∈rows,(r.f0.length:Int)=ar:=by
 obtain⟨⟨h0,h1⟩,rs,rfl,h3,h4,_⟩:=(relB_iff ar rows).1 h
 refine⟨h0,h1,by unfold encR;rw [List.length_map];exact h3,fun r hr=>?_⟩
 unfold encR at hr
 obtain⟨ts,ht,rfl⟩:=List.mem_map.1 hr
 have:=(h4 ts ht).1
 rw [show(⟨enc ts⟩:TI).f0=enc ts from rfl,enc_len]
 exact this
end Go.Proofs.YtkajecadkkgfmaaGreatDoor.QSeek
