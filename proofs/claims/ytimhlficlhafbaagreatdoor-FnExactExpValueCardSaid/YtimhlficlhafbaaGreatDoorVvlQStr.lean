-- Cut by prune.py.
import Derived.Test.YtimhlficlhafbaaGreatDoorVvlWWords
import Derived.Test.YtimhlficlhafbaaGreatDoorVvlWLast
import Derived.Lib.Strings
import Derived.Lib.AtoiAllCases
import Derived.Lib.ItoaNum
namespace Go.Proofs.YtimhlficlhafbaaGreatDoor.QStr
open RowKit YtimhlficlhafbaaGreatDoorW.PrintWords YtimhlficlhafbaaGreatDoorW.PrintLast
def B (l:List UInt8):ByteArray:=⟨l.toArray⟩
def L (s:ByteArray):List UInt8:=s.data.toList
theorem B_L (s:ByteArray):B (L s)=s:=by cases s;rfl
theorem L_B (l:List UInt8):L (B l)=l:=rfl
theorem data_B (l:List UInt8):(B l).data.toList=l:=rfl
theorem y24 (l:List UInt8):(B l).size=l.length:=rfl
theorem L_length (s:ByteArray):(L s).length=s.size:=rfl
theorem toList_B (l:List UInt8):(B l).toList=l:=ByteArray.toList_mk l
theorem B_inj {l m:List UInt8} (h:B l=B m):l=m:=by
 have:=congrArg L h
 exact this
theorem bt_B (l:List UInt8) (i:Nat) (h:i < l.length):bt (B l) (i:Int)=((l[i]).toNat:Int):=by
 unfold bt
 rw [dif_pos (show(i:Int).toNat < (B l).size by rw [y24];simpa using h)]
 rfl
theorem extract_B (l:List UInt8) (a b:Nat):(B l).extract a b=B ((l.take b).drop a):=by
 rw [Lib.extract_eq,data_B,B,List.drop_take]
theorem y3 (l m:List UInt8):B l ++ B m=B (l ++ m):=by
 have h:(B l ++ B m).data=(B l).data ++ (B m).data:=ByteArray.data_append
 have e:∀ x:ByteArray,x=⟨x.data⟩:=fun x=>by cases x;rfl
 rw [e (B l ++ B m),h]
 simp [B]
theorem wrapS {n:Int} (h0:-9223372036854775808≤n) (h1:n≤9223372036854775807):wrap64 n=n:=by
 unfold wrap64
 omega
theorem wrap_nat {n:Nat} (h:n≤9223372036854775807):wrap64 (n:Int)=(n:Int):=wrapS (by omega) (by omega)
def isLet (c:UInt8):Bool:=(decide (97≤c.toNat) && decide (c.toNat≤122)) || (decide (65≤c.toNat) && decide (c.toNat≤90))
def isDig (c:UInt8):Bool:=decide (48≤c.toNat) && decide (c.toNat≤57)
def isWrd (c:UInt8):Bool:=isLet c || isDig c || decide (c.toNat=95)
def isBg (c:UInt8):Bool:=decide (65≤c.toNat) && decide (c.toNat≤90)
def isSy (c:UInt8):Bool:=decide (32≤c.toNat) && decide (c.toNat≤126) && decide (c.toNat≠34) && decide (c.toNat≠92)
theorem lt256 (c:UInt8):c.toNat < 256:=c.toNat_lt
theorem isBg_wrd {c:UInt8} (h:isBg c=true):isWrd c=true:=by
 simp only [isBg,isWrd,isLet,Bool.and_eq_true,decide_eq_true_eq,Bool.or_eq_true]at h ⊢
 omega
theorem isBg_let {c:UInt8} (h:isBg c=true):isLet c=true:=by
 simp only [isBg,isLet,Bool.and_eq_true,decide_eq_true_eq,Bool.or_eq_true]at h ⊢
 omega
theorem takeWhile_append_stop {α:Type} {p:α→Bool} {l r:List α} (h:∀ x∈l,p x=true) (hr:∀ y,r.head?=some y→p y=false):(l ++ r).takeWhile p=l:=by
 induction l with
 | nil =>
  cases r with
  | nil=>rfl
  | cons y r=>simp [hr y rfl]
 | cons x l ih =>
  rw [List.cons_append,List.takeWhile_cons,if_pos (h x (by simp)),ih (fun z hz=>h z (by simp [hz]))]
theorem takeWhile_all {α:Type} {p:α→Bool} (l:List α):∀ x∈l.takeWhile p,p x=true:=by
 induction l with
 | nil=>simp
 | cons y l ih =>
  intro x hx
  rw [List.takeWhile_cons]at hx
  split at hx
  ·rename_i hy
   rcases List.mem_cons.1 hx with rfl|hx
   ·exact hy
   ·exact ih x hx
  ·simp at hx
theorem takeWhile_take {α:Type} {p:α→Bool} (l:List α):l.take (l.takeWhile p).length=l.takeWhile p:=by
 induction l with
 | nil=>rfl
 | cons y l ih =>
  rw [List.takeWhile_cons]
  split
  ·simp [ih]
  ·rfl
theorem takeWhile_le {α:Type} {p:α→Bool} (l:List α):(l.takeWhile p).length≤l.length:=by
 have:=congrArg List.length (takeWhile_take (p:=p) l)
 rw [List.length_take]at this
 omega
theorem takeWhile_step {α:Type} {p:α→Bool} (l:List α) (i:Nat) (h:i < l.length):(l.drop i).takeWhile p=if p l[i]=true then l[i] :: (l.drop (i + 1)).takeWhile p else []:=by
 rw [List.drop_eq_getElem_cons h,List.takeWhile_cons]
theorem ofNat_toNat {n:Nat} (h:n < 256):(UInt8.ofNat n).toNat=n:=by simp;omega
def dg (c:UInt8):Nat:=c.toNat - 48
def dval (acc:Nat) (l:List UInt8):Nat:=l.foldl (fun a c=>a * 10 + dg c) acc
theorem dval_nil (acc:Nat):dval acc []=acc:=by unfold dval;rw [List.foldl_nil]
theorem dval_cons (acc:Nat) (c:UInt8) (r:List UInt8):dval acc (c :: r)=dval (acc * 10 + dg c) r:=by unfold dval;rw [List.foldl_cons]
theorem dval_append (l m:List UInt8) (acc:Nat):dval acc (l ++ m)=dval (dval acc l) m:=by unfold dval;rw [List.foldl_append]
theorem dg_ofNat {n:Nat} (h:n < 10):dg (UInt8.ofNat (48 + n))=n:=by
 have e:=ofNat_toNat (n:=48 + n) (by omega)
 unfold dg
 omega
theorem dec_small {u:Nat} (h:u < 10):Lib.decDigits u=[UInt8.ofNat (48 + u)]:=by rw [Lib.decDigits,dif_pos h]
theorem dec_big {u:Nat} (h:¬ u < 10):Lib.decDigits u=Lib.decDigits (u / 10) ++ [UInt8.ofNat (48 + u % 10)]:=by rw [Lib.decDigits,dif_neg h]
theorem dval_dec (u:Nat):dval 0 (Lib.decDigits u)=u:=by
 induction u using Nat.strongRecOn with
 | _ u ih =>
  by_cases h:u < 10
  ·rw [dec_small h]
   rw [dval_cons,dval_nil,dg_ofNat h]
   omega
  ·rw [dec_big h,dval_append,ih (u / 10) (by omega)]
   rw [dval_cons,dval_nil,dg_ofNat (by omega)]
   omega
theorem dec_dig (u:Nat):∀ c∈Lib.decDigits u,isDig c=true:=by
 induction u using Nat.strongRecOn with
 | _ u ih =>
  by_cases h:u < 10
  ·rw [dec_small h]
   intro c hc
   rw [List.mem_singleton.1 hc]
   have e:=ofNat_toNat (n:=48 + u) (by omega)
   simp only [isDig,e,Bool.and_eq_true,decide_eq_true_eq]
   omega
  ·rw [dec_big h]
   intro c hc
   rcases List.mem_append.1 hc with hc|hc
   ·exact ih (u / 10) (by omega) c hc
   ·rw [List.mem_singleton.1 hc]
    have e:=ofNat_toNat (n:=48 + u % 10) (by omega)
    simp only [isDig,e,Bool.and_eq_true,decide_eq_true_eq]
    omega
theorem dec_ne (u:Nat):Lib.decDigits u≠[]:=by
 by_cases h:u < 10
 ·rw [dec_small h];simp
 ·rw [dec_big h];simp
theorem dec_len (u:Nat):∀ d,u < 10 ^ (d + 1)→(Lib.decDigits u).length≤d + 1:=by
 intro d
 induction d generalizing u with
 | zero =>
  intro h
  rw [dec_small (by simpa using h)]
  simp
 | succ d ih =>
  intro h
  by_cases hs:u < 10
  ·rw [dec_small hs];simp
  ·rw [dec_big hs,List.length_append]
   have:=ih (u / 10) (by rw [Nat.pow_succ]at h;omega)
   simp only [List.length_cons,List.length_nil]
   omega
theorem dval_le {l:List UInt8} (h:∀ c∈l,isDig c=true):∀ acc d,l.length≤d→dval acc l < (acc + 1) * 10 ^ d:=by
 induction l with
 | nil =>
  intro acc d _
  have h1:0 < 10 ^ d:=Nat.pow_pos (by omega)
  have h2:(acc + 1) * 1≤(acc + 1) * 10 ^ d:=Nat.mul_le_mul_left _ h1
  rw [dval_nil]
  omega
 | cons c l ih =>
  intro acc d hd
  obtain⟨d,rfl⟩:∃ e,d=e + 1:=⟨d - 1,by simp at hd;omega⟩
  have hc:=h c (by simp)
  simp only [isDig,Bool.and_eq_true,decide_eq_true_eq]at hc
  have:=ih (fun x hx=>h x (by simp [hx])) (acc * 10 + dg c) d (by simpa using hd)
  rw [dval_cons]
  have hg:dg c≤9:=by unfold dg;omega
  have e:(acc * 10 + dg c + 1) * 10 ^ d≤(acc + 1) * 10 * 10 ^ d:=Nat.mul_le_mul_right _ (by omega)
  rw [Nat.pow_succ,Nat.mul_comm (10 ^ d) 10,← Nat.mul_assoc]
  omega
theorem parse_digits {l:List UInt8} (h:∀ c∈l,isDig c=true):∀ acc,dval acc l < 1844674407370955161→acc≤dval acc l→Lib.parseUint10 acc l=.ok (dval acc l):=by
 induction l with
 | nil=>intro acc _ _;rw [dval_nil];rfl
 | cons c l ih =>
  intro acc hv _
  have hc:=h c (by simp)
  simp only [isDig,Bool.and_eq_true,decide_eq_true_eq]at hc
  rw [dval_cons]at hv ⊢
  have mono:∀(m:List UInt8) a,a≤dval a m:=by
   intro m
   induction m with
   | nil=>intro a;rw [dval_nil];exact Nat.le_refl _
   | cons x m ihm =>
    intro a
    have:=ihm (a * 10 + dg x)
    rw [dval_cons]
    omega
  have h1:=mono l (acc * 10 + dg c)
  have hg:dg c=c.toNat - 48:=rfl
  rw [hg]at hv h1 ⊢
  have n1:¬(1844674407370955162≤acc):=by omega
  have n2:¬(18446744073709551616≤acc * 10 + (c.toNat - 48)):=by omega
  simp only [Lib.parseUint10,hc.1,hc.2,n1,n2,and_self,if_true,if_false]
  exact ih (fun x hx=>h x (by simp [hx])) _ hv h1
theorem atoi_itoa (n:Int) (h0:-1000000≤n) (h1:n≤1000000):Lib.atoiAll (Lib.itoa n)=.ok n:=by
 have key:∀ u:Nat,u≤1000000→Lib.parseMag (Lib.decDigits u)=.ok u:=by
  intro u hu
  unfold Lib.parseMag
  rw [if_neg (dec_ne u),parse_digits (dec_dig u) 0 (by rw [dval_dec];omega) (by omega),dval_dec]
 unfold Lib.itoa
 by_cases hn:n < 0
 ·rw [if_pos hn,Lib.atoiAll_minus,key n.natAbs (by omega)]
  unfold Lib.signed
  simp only
  rw [if_neg (by omega)]
  congr 1
  omega
 ·rw [if_neg hn]
  obtain⟨c,r,hc⟩:∃ c r,Lib.decDigits n.toNat=c :: r:=by
   cases h:Lib.decDigits n.toNat with
   | nil=>exact absurd h (dec_ne _)
   | cons c r=>exact⟨c,r,rfl⟩
  have hd:=dec_dig n.toNat c (by rw [hc];simp)
  simp only [isDig,Bool.and_eq_true,decide_eq_true_eq]at hd
  rw [hc,Lib.atoiAll_plain c r (by omega) (by omega),← hc,key n.toNat (by omega)]
  unfold Lib.signless
  simp only
  rw [if_neg (by omega)]
  congr 1
  omega
end Go.Proofs.YtimhlficlhafbaaGreatDoor.QStr
