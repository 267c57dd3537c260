-- Cut by prune.py.
import Derived.Test.YtimhlficlhafbaaGreatDoorVvlQStr
namespace Go.Proofs.YtimhlficlhafbaaGreatDoor.QTm
open QStr
inductive Tm where
 | num (n:Int)
 | sym (b:List UInt8)
 | con (nm:List UInt8) (ts:List Tm)
mutual
def rnd:Tm→List UInt8
 | .num n=>Lib.itoa n
 | .sym b=>34 :: (b ++ [34])
 | .con nm ts=>nm ++ rndA ts
def rndA:List Tm→List UInt8
 | []=>[]
 | a :: ts=>40 :: (rnd a ++ rndT ts)
def rndT:List Tm→List UInt8
 | []=>[41]
 | a :: ts=>44 :: (rnd a ++ rndT ts)
end
def Nam (nm:List UInt8):Prop:=nm.length≤20∧∃ c r,nm=c :: r∧isBg c=true∧∀ x∈r,isWrd x=true
mutual
def Ok:Tm→Prop
 | .num n=>-1000000≤n∧n≤1000000
 | .sym b=>b.length≤20∧∀ x∈b,isSy x=true
 | .con nm ts=>Nam nm∧OkL ts
def OkL:List Tm→Prop
 | []=>True
 | a :: ts=>Ok a∧OkL ts
end
def kind:Tm→Nat
 | .num _=>1
 | .sym _=>2
 | .con _ _=>3
theorem kind_pos (t:Tm):1≤kind t∧kind t≤3:=by cases t <;> simp [kind]
theorem rnd_num (n:Int):rnd (.num n)=Lib.itoa n:=by rw [rnd]
theorem rnd_sym (b:List UInt8):rnd (.sym b)=34 :: (b ++ [34]):=by rw [rnd]
theorem rnd_con (nm:List UInt8) (ts:List Tm):rnd (.con nm ts)=nm ++ rndA ts:=by rw [rnd]
theorem rndA_nil:rndA []=[]:=by rw [rndA]
theorem rndA_cons (a:Tm) (ts:List Tm):rndA (a :: ts)=40 :: (rnd a ++ rndT ts):=by rw [rndA]
theorem rndT_nil:rndT []=[41]:=by rw [rndT]
theorem rndT_cons (a:Tm) (ts:List Tm):rndT (a :: ts)=44 :: (rnd a ++ rndT ts):=by rw [rndT]
theorem ok_num (n:Int):Ok (.num n)↔-1000000≤n∧n≤1000000:=by rw [Ok]
theorem ok_sym (b:List UInt8):Ok (.sym b)↔b.length≤20∧∀ x∈b,isSy x=true:=by rw [Ok]
theorem ok_con (nm:List UInt8) (ts:List Tm):Ok (.con nm ts)↔Nam nm∧OkL ts:=by rw [Ok]
theorem okL_cons (a:Tm) (ts:List Tm):OkL (a :: ts)↔Ok a∧OkL ts:=by rw [OkL]
theorem okL_nil:OkL []:=by rw [OkL];trivial
theorem okL_iff (ts:List Tm):OkL ts↔∀ a∈ts,Ok a:=by
 induction ts with
 | nil=>simp [okL_nil]
 | cons a ts ih=>rw [okL_cons,ih];simp
theorem itoa_ne (n:Int):Lib.itoa n≠[]:=by
 unfold Lib.itoa
 split
 ·simp
 ·exact dec_ne _
theorem itoa_front (n:Int):∃ c r,Lib.itoa n=c :: r∧(c=45∨isDig c=true)∧∀ x∈r,isDig x=true:=by
 unfold Lib.itoa
 split
 ·exact⟨45,_,rfl,.inl rfl,dec_dig _⟩
 ·cases h:Lib.decDigits n.toNat with
  | nil=>exact absurd h (dec_ne _)
  | cons c r =>
   have hd:=dec_dig n.toNat
   rw [h]at hd
   exact⟨c,r,rfl,.inr (hd c (by simp)),fun x hx=>hd x (by simp [hx])⟩
theorem nam_ne {nm:List UInt8} (h:Nam nm):nm≠[]:=by
 obtain⟨_,c,r,rfl,_⟩:=h
 simp
theorem nam_wrd {nm:List UInt8} (h:Nam nm):∀ x∈nm,isWrd x=true:=by
 obtain⟨_,c,r,rfl,hc,hr⟩:=h
 intro x hx
 rcases List.mem_cons.1 hx with rfl|hx
 ·exact isBg_wrd hc
 ·exact hr x hx
theorem rnd_pos (t:Tm) (h:Ok t):1≤(rnd t).length:=by
 cases t with
 | num n =>
  rw [rnd_num]
  have:=itoa_ne n
  cases h:Lib.itoa n with
  | nil=>exact absurd h this
  | cons c r=>simp
 | sym b=>rw [rnd_sym];simp
 | con nm ts =>
  rw [rnd_con,List.length_append]
  rw [ok_con]at h
  have:=nam_ne h.1
  cases nm with
  | nil=>exact absurd rfl this
  | cons c r=>simp only [List.length_cons];omega
def Stop (r:List UInt8):Prop:=∀ y,r.head?=some y→y=44∨y=41
theorem stop_nil:Stop []:=fun y h=>by simp at h
theorem stop_rndT (ts:List Tm) (r:List UInt8):Stop (rndT ts ++ r):=by
 intro y h
 cases ts with
 | nil=>rw [rndT_nil]at h;simp at h;exact .inr h.symm
 | cons a ts=>rw [rndT_cons]at h;simp at h;exact .inl h.symm
theorem stop_not {p:UInt8→Bool} (h1:p 44=false) (h2:p 41=false) {r:List UInt8} (h:Stop r):∀ y,r.head?=some y→p y=false:=by
 intro y hy
 rcases h y hy with rfl|rfl
 ·exact h1
 ·exact h2
end Go.Proofs.YtimhlficlhafbaaGreatDoor.QTm
