-- Cut by prune.py, a program of this session, out of the texts of this claim: Lean checks it.
import Derived.Test.YtkajecadkkgfmaaGreatDoorVkqQParts
import Derived.Test.YtkajecadkkgfmaaGreatDoorVkqQLaws
namespace Go.Proofs.YtkajecadkkgfmaaGreatDoor.QSize
open Go.RowKit Go.Proofs.YtkajecadkkgfmaaGreatDoor.Pn Go.Proofs.YtkajecadkkgfmaaGreatDoorW.PrintWords Go.Proofs.YtkajecadkkgfmaaGreatDoorW.PrintLast Go.Proofs.YtkajecadkkgfmaaGreatDoor.QStr Go.Proofs.YtkajecadkkgfmaaGreatDoor.QTm Go.Proofs.YtkajecadkkgfmaaGreatDoor.QPrs Go.Proofs.YtkajecadkkgfmaaGreatDoor.QKind Go.Proofs.YtkajecadkkgfmaaGreatDoor.QParts Go.Proofs.YtkajecadkkgfmaaGreatDoor.QLaws
theorem kids_num (v:Int):kids (.num v)=[]:=rfl
theorem kids_sym (b:List UInt8):kids (.sym b)=[]:=rfl
theorem kids_con (nm:List UInt8) (ts:List Tm):kids (.con nm ts)=ts:=rfl
theorem rndT_len2:∀(ts:List Tm),OkL ts→∀ t∈ts,(rnd t).length + ts.length≤(rndT ts).length
 | [],_,t,h=>by cases h
 | a :: ts,ho,t,h=>by
  rw [okL_cons]at ho
  have hts:ts.length + 1≤(rndT ts).length:=by
   clear h
   induction ts with
   | nil=>rw [rndT_nil];simp
   | cons b ts ih =>
    rw [okL_cons]at ho
    have:=ih ⟨ho.1,ho.2.2⟩
    rw [rndT_cons]
    simp only [List.length_cons,List.length_append]
    omega
  rw [rndT_cons]
  simp only [List.length_cons,List.length_append]
  rcases List.mem_cons.1 h with rfl|h
  ·omega
  ·have:=rndT_len2 ts ho.2 t h
   have:=rnd_pos a ho.1
   omega
/-- A kid's text, the kids' number and more have room in the text. -/
theorem kids_len {t:Tm} (h:Ok t):(∀ u∈kids t,(rnd u).length + (kids t).length + 1≤(rnd t).length)∧(kids t).length≤(rnd t).length:=by
 cases t with
 | num v=>exact⟨fun u hu=>(by rw [kids_num]at hu;exact absurd hu (List.not_mem_nil)),by rw [kids_num];exact Nat.zero_le _⟩
 | sym b=>exact⟨fun u hu=>(by rw [kids_sym]at hu;exact absurd hu (List.not_mem_nil)),by rw [kids_sym];exact Nat.zero_le _⟩
 | con nm ts =>
  rw [ok_con]at h
  have h1:=List.length_pos_iff.2 (nam_ne h.1)
  have key:∀ u∈ts,(rnd u).length + ts.length + 1≤(rnd (.con nm ts)).length:=by
   intro u hu
   cases ts with
   | nil=>cases hu
   | cons a ts =>
    have:=rndT_len2 (a :: ts) h.2 u hu
    rw [rndT_cons]at this
    rw [rnd_con,rndA_cons]
    simp only [List.length_cons,List.length_append]at this ⊢
    omega
  refine⟨key, ?_⟩
  rw [kids_con]
  cases ts with
  | nil=>simp
  | cons a ts=>have:=key a (by simp);omega
theorem kids_ok {t:Tm} (h:Ok t):∀ u∈kids t,Ok u:=by
 cases t with
 | num v=>intro u hu;rw [kids_num]at hu;cases hu
 | sym b=>intro u hu;rw [kids_sym]at hu;cases hu
 | con nm ts=>rw [ok_con,okL_iff]at h;exact h.2
theorem map_get (ts:List Tm) (i:Nat) (h:i < ts.length):rdOf ByteArray.empty (ts.map rB) (i:Int)=B (rnd ts[i]):=by
 rw [rdOf_get _ i (by rw [List.length_map];exact h),List.getElem_map]
 rfl
end Go.Proofs.YtkajecadkkgfmaaGreatDoor.QSize
