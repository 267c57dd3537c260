-- Cut by prune.py.
import Derived.Test.YtimhlficlhafbaaGreatDoorVvlQRule
namespace Go.Proofs.YtimhlficlhafbaaGreatDoor.QTree
open RowKit Pv YtimhlficlhafbaaGreatDoorW.PrintWords YtimhlficlhafbaaGreatDoorW.PrintLast QStr QGenR QRule
def bump (us:List Int) (k:Int):List Int:=us.set k.toNat (rd us k + 1)
def incs (us:List Int):List Int→List Int
 | []=>us
 | k :: r=>incs (bump us k) r
def InR (m:Int) (ks:List Int):Prop:=∀ k∈ks,0≤k∧k < m
theorem inR_nil (m:Int):InR m []:=fun k h=>by cases h
theorem inR_cons {m k:Int} {ks:List Int}:InR m (k :: ks)↔(0≤k∧k < m)∧InR m ks:=by
 unfold InR
 rw [List.forall_mem_cons]
theorem inR_le {m m':Int} {ks:List Int} (h:InR m ks) (hm:m≤m'):InR m' ks:=fun k hk=>⟨(h k hk).1,by have:=(h k hk).2;omega⟩
theorem bump_len (us:List Int) (k:Int):(bump us k).length=us.length:=List.length_set
theorem incs_len:∀(ks us:List Int),(incs us ks).length=us.length
 | [],_=>rfl
 | k :: r,us=>(incs_len r (bump us k)).trans (bump_len us k)
theorem incs_app:∀(ks ls us:List Int),incs us (ks ++ ls)=incs (incs us ks) ls
 | [],_,_=>rfl
 | k :: r,ls,us=>incs_app r ls (bump us k)
theorem bump_at (us:List Int) (k:Int) (j:Nat) (hk:k.toNat < us.length):(bump us k).getD j 0=if k.toNat=j then us.getD j 0 + 1 else us.getD j 0:=by
 unfold bump rd
 rw [List.getD_eq_getElem?_getD,List.getElem?_set]
 by_cases h:k.toNat=j
 ·subst h
  rw [if_pos rfl,if_pos rfl,if_pos hk]
  rfl
 ·rw [if_neg h,if_neg h,← List.getD_eq_getElem?_getD]
theorem incs_le:∀(ks us:List Int) (j:Nat),InR us.length ks→us.getD j 0≤(incs us ks).getD j 0
 | [],us,j,_=>Int.le_refl _
 | k :: r,us,j,h=>by
  obtain⟨h1,h2⟩:=inR_cons.1 h
  have ih:=incs_le r (bump us k) j (by rw [bump_len];exact h2)
  have hb:=bump_at us k j (by omega)
  show us.getD j 0≤(incs (bump us k) r).getD j 0
  by_cases e:k.toNat=j
  ·rw [if_pos e]at hb
   omega
  ·rw [if_neg e]at hb
   omega
theorem incs_up:∀(ks us:List Int) (j:Nat),InR us.length ks→(incs us ks).getD j 0≤us.getD j 0 + (ks.length:Int)
 | [],us,j,_=>by
  show us.getD j 0≤us.getD j 0 + 0
  omega
 | k :: r,us,j,h=>by
  obtain⟨h1,h2⟩:=inR_cons.1 h
  have ih:=incs_up r (bump us k) j (by rw [bump_len];exact h2)
  have hb:=bump_at us k j (by omega)
  show(incs (bump us k) r).getD j 0≤us.getD j 0 + ((k :: r).length:Int)
  rw [List.length_cons]
  by_cases e:k.toNat=j
  ·rw [if_pos e]at hb
   omega
  ·rw [if_neg e]at hb
   omega
theorem incs_same:∀(ks us:List Int) (j:Nat),InR us.length ks→(j:Int)∉ks→(incs us ks).getD j 0=us.getD j 0
 | [],us,j,_,_=>rfl
 | k :: r,us,j,h,hj=>by
  obtain⟨h1,h2⟩:=inR_cons.1 h
  rw [List.mem_cons,not_or]at hj
  have ih:=incs_same r (bump us k) j (by rw [bump_len];exact h2) hj.2
  have hb:=bump_at us k j (by omega)
  rw [if_neg (by omega)]at hb
  exact ih.trans hb
def tot:List Int→Int
 | []=>0
 | x :: r=>x + tot r
theorem tot_set:∀(us:List Int) (i:Nat) (v:Int),i < us.length→tot (us.set i v)=tot us - us.getD i 0 + v
 | [],i,v,h=>absurd h (Nat.not_lt_zero i)
 | x :: r,0,v,_=>by
  show v + tot r=x + tot r - x + v
  omega
 | x :: r,i + 1,v,h=>by
  have ih:=tot_set r i v (by simpa using h)
  show x + tot (r.set i v)=x + tot r - r.getD i 0 + v
  omega
theorem tot_incs:∀(ks us:List Int),InR us.length ks→tot (incs us ks)=tot us + (ks.length:Int)
 | [],us,_=>by
  show tot us=tot us + 0
  omega
 | k :: r,us,h=>by
  obtain⟨h1,h2⟩:=inR_cons.1 h
  have ih:=tot_incs r (bump us k) (by rw [bump_len];exact h2)
  have ht:tot (bump us k)=tot us + 1:=by
   unfold bump rd
   rw [tot_set us k.toNat _ (by omega)]
   omega
  show tot (incs (bump us k) r)=tot us + ((k :: r).length:Int)
  rw [ih,ht,List.length_cons]
  omega
theorem tot_ones:∀(us:List Int),(∀ x∈us,x=1)→tot us=(us.length:Int)
 | [],_=>rfl
 | x :: r,h=>by
  have ih:=tot_ones r (fun y hy=>h y (List.mem_cons_of_mem _ hy))
  have hx:=h x List.mem_cons_self
  show x + tot r=((x :: r).length:Int)
  rw [List.length_cons]
  omega
theorem tot_zeros (n:Nat):tot (List.replicate n 0)=0:=by
 induction n with
 | zero=>rfl
 | succ n ih =>
  rw [List.replicate_succ]
  show 0 + tot (List.replicate n 0)=0
  omega
def phi:List Int→List Nat→Nat
 | u :: us,w :: ws=>(if u=0 then w else 0) + phi us ws
 | _,_=>0
theorem phi_nil (us:List Int):phi us []=0:=by cases us <;> rfl
theorem phi_set:∀(us:List Int) (ws:List Nat) (j:Nat),us.getD j 0=0→j < us.length→j < ws.length→phi (us.set j 1) ws + ws.getD j 0=phi us ws
 | [],ws,j,_,h,_=>absurd h (Nat.not_lt_zero j)
 | u :: us,[],j,_,_,h=>absurd h (Nat.not_lt_zero j)
 | u :: us,w :: ws,0,h,_,_=>by
  have hu:u=0:=h
  subst hu
  show(if(1:Int)=0 then w else 0) + phi us ws + w=(if(0:Int)=0 then w else 0) + phi us ws
  rw [if_neg (by decide),if_pos rfl]
  omega
 | u :: us,w :: ws,j + 1,h,h1,h2=>by
  have ih:=phi_set us ws j h (by simpa using h1) (by simpa using h2)
  show(if u=0 then w else 0) + phi (us.set j 1) ws + ws.getD j 0=(if u=0 then w else 0) + phi us ws
  omega
def sumW (ws:List Nat):List Int→Nat
 | []=>0
 | k :: r=>ws.getD k.toNat 0 + sumW ws r
theorem phi_incs (ws:List Nat):∀(ks us:List Int),InR ws.length ks→ws.length≤us.length→(∀ j,0≤us.getD j 0)→(∀ j,(incs us ks).getD j 0≤1)→phi (incs us ks) ws + sumW ws ks=phi us ws
 | [],us,_,_,_,_=>rfl
 | k :: r,us,h,hl,h0,h1=>by
  obtain⟨h2,h3⟩:=inR_cons.1 h
  have hk:k.toNat < us.length:=by omega
  have hm:=incs_le r (bump us k) k.toNat (by rw [bump_len];exact inR_le h3 (by omega))
  have hb:=bump_at us k k.toNat hk
  rw [if_pos rfl]at hb
  have hz:=h0 k.toNat
  have ho:=h1 k.toNat
  have hu:us.getD k.toNat 0=0:=by
   have:(incs us (k :: r)).getD k.toNat 0=(incs (bump us k) r).getD k.toNat 0:=rfl
   omega
  have hset:bump us k=us.set k.toNat 1:=by
   unfold bump rd
   rw [hu]
   rfl
  have ih:=phi_incs ws r (bump us k) h3 (by rw [bump_len];exact hl) (fun j=>by
   have:=bump_at us k j hk
   have:=h0 j
   by_cases e:k.toNat=j
   ·rw [if_pos e]at *
    omega
   ·rw [if_neg e]at *
    omega) h1
  have hp:=phi_set us ws k.toNat hu hk (by omega)
  rw [← hset]at hp
  show phi (incs (bump us k) r) ws + (ws.getD k.toNat 0 + sumW ws r)=phi us ws
  omega
theorem phi_snoc:∀(ws:List Nat) (us:List Int) (w:Nat),ws.length < us.length→us.getD ws.length 0=0→phi us (ws ++ [w])=phi us ws + w
 | [],[],w,h,_=>absurd h (Nat.not_lt_zero _)
 | [],u :: us,w,_,h=>by
  have hu:u=0:=h
  subst hu
  show(if(0:Int)=0 then w else 0) + phi us []=0 + w
  rw [if_pos rfl,phi_nil]
  omega
 | v :: ws,[],w,h,_=>absurd h (Nat.not_lt_zero _)
 | v :: ws,u :: us,w,h,h0=>by
  have ih:=phi_snoc ws us w (by simpa using h) h0
  show(if u=0 then v else 0) + phi us (ws ++ [w])=(if u=0 then v else 0) + phi us ws + w
  omega
end Go.Proofs.YtimhlficlhafbaaGreatDoor.QTree
