-- Cut by prune.py.
import Derived.Test.YtimhlficlhafbaaGreatDoorVvlQImpl
namespace Go.Proofs.YtimhlficlhafbaaGreatDoor.QImpl
open RowKit Pv YtimhlficlhafbaaGreatDoorW.PrintWords YtimhlficlhafbaaGreatDoorW.PrintLast QStr QTm
theorem numRes_itoa (v:Int) (h0:-1000000≤v) (h1:v≤1000000) (r:List UInt8):numRes (Lib.itoa v ++ r) (Lib.itoa v).length=(1,((Lib.itoa v).length:Int)):=by
 unfold numRes
 rw [List.take_left,atoi_itoa v h0 h1]
 simp only
 rw [if_pos ⟨h0,h1,trivial⟩]
theorem bt_zero (c:UInt8) (r:List UInt8):bt (B (c :: r)) 0=(c.toNat:Int):=bt_B (c :: r) 0 (by simp)
theorem pos_step (p m:Nat) (h:p + (1 + m)≤9223372036854775807):wrap64 ((p:Int) + wrap64 (1 + (m:Int)))=((p + (1 + m):Nat):Int):=by
 have h1:wrap64 (1 + (m:Int))=1 + (m:Int):=wrapS (by omega) (by omega)
 rw [h1,wrapS (by omega) (by omega)]
 omega
theorem args (G:List UInt8) (N:Nat) (hG:G.length≤281474976710656)
  (ih:∀(b:Tm) (r:List UInt8) (k:Nat),Ok b→Stop r→(rnd b).length < N→(rnd b ++ r).length≤281474976710656→4 * (rnd b ++ r).length + 60 < k→impl_termAt.f k (B (rnd b ++ r))=some ((kind b:Int),((rnd b).length:Int))) (r:List UInt8) :
  ∀(us:List Tm) (b:Tm) (pre:List UInt8) (y:UInt8) (k:Nat),Ok b→OkL us→G=pre ++ y :: (rnd b ++ (rndT us ++ r))→1≤pre.length→pre.length + 1 + (rnd b).length + (rndT us).length≤N→4 * (rnd b ++ (rndT us ++ r)).length + 64 < k →
   impl_termAt.l1 k (B G) (pre.length:Int) true=some (3,((pre.length + 1 + (rnd b).length + (rndT us).length:Nat):Int)):=by
 intro us
 induction us with
 | nil =>
  intro b pre y k hb _ he hp hN hk
  obtain⟨k,rfl⟩:∃ m,k=m + 2:=⟨k - 2,by omega⟩
  have htl:G.length=pre.length + 1 + (rnd b).length + 1 + r.length:=by
   rw [he,rndT_nil];simp only [List.length_append,List.length_cons,List.length_nil];omega
  have hdrop:G.drop (pre.length + 1)=rnd b ++ (rndT [] ++ r):=by rw [he];exact drop_app _ _ _
  have hlen:(rnd b ++ (rndT [] ++ r)).length=(rnd b).length + 1 + r.length:=by
   rw [rndT_nil];simp only [List.length_append,List.length_cons,List.length_nil];omega
  have hih:=ih b (rndT [] ++ r) (k + 1) hb (stop_rndT [] r) (by omega) (by omega) (by omega)
  have hbt:bt (B G) ((pre.length + (1 + (rnd b).length):Nat):Int)=41:=by
   have:=bt_app (pre ++ y :: rnd b) 41 r
   rw [show pre ++ y :: rnd b ++ 41 :: r=G by rw [he,rndT_nil];simp,show(pre ++ y :: rnd b).length=pre.length + (1 + (rnd b).length)by rw [List.length_append,List.length_cons,Nat.add_comm (rnd b).length 1]]at this
   exact this
  have hkb:=kind_pos b
  have hst:=pos_step pre.length (rnd b).length (by clear hbt;omega)
  have hst2:=wrap_nat (n:=pre.length + (1 + (rnd b).length) + 1) (by clear hbt hst;omega)
  rw [impl_termAt.l1,if_pos rfl,show((pre.length:Int)) + 1=((pre.length + 1:Nat):Int)by clear hbt hst hst2;omega,wrap_nat (by clear hbt hst hst2;omega),if_pos (by clear hbt hst hst2;omega),if_pos (by rw [y24];clear hbt hst hst2;omega),
   show(((pre.length + 1:Nat):Int)).toNat=pre.length + 1 from rfl,extract_from,hdrop,hih,Option.bind_some]
  clear hih hdrop
  rw [if_neg (show ¬((kind b:Nat):Int)=0 by clear hbt hst hst2;omega)]
  simp only []
  rw [hst]
  rw [if_pos (by rw [y24];clear hbt hst hst2;omega),if_pos (by clear hbt hst hst2;omega),hbt,show((41:Int) == 44)=false from rfl]
  rw [impl_termAt.l1,if_neg (by simp),if_pos (by rw [y24];clear hbt hst hst2;omega),if_pos (by clear hbt hst hst2;omega),hbt,if_pos rfl,
   show((pre.length + (1 + (rnd b).length):Nat):Int) + 1=((pre.length + (1 + (rnd b).length) + 1:Nat):Int)by clear hbt hst hst2;omega,hst2,rndT_nil]
  congr 3
  clear hbt hst hst2
  simp only [List.length_cons,List.length_nil]
  omega
 | cons u us ihu =>
  intro b pre y k hb hus he hp hN hk
  rw [okL_cons]at hus
  obtain⟨k,rfl⟩:∃ m,k=m + 1:=⟨k - 1,by omega⟩
  have htr:(rndT (u :: us)).length=1 + (rnd u).length + (rndT us).length:=by
   rw [rndT_cons];simp only [List.length_append,List.length_cons];omega
  have htl:G.length=pre.length + 1 + (rnd b).length + 1 + (rnd u).length + (rndT us).length + r.length:=by
   rw [he];simp only [List.length_append,List.length_cons,htr];omega
  have hdrop:G.drop (pre.length + 1)=rnd b ++ (rndT (u :: us) ++ r):=by rw [he];exact drop_app _ _ _
  have hlen:(rnd b ++ (rndT (u :: us) ++ r)).length=(rnd b).length + 1 + (rnd u).length + (rndT us).length + r.length:=by
   simp only [List.length_append,htr];omega
  have hlen2:(rnd u ++ (rndT us ++ r)).length=(rnd u).length + (rndT us).length + r.length:=by
   simp only [List.length_append];omega
  have hih:=ih b (rndT (u :: us) ++ r) k hb (stop_rndT (u :: us) r) (by omega) (by omega) (by omega)
  have hpl:(pre ++ y :: rnd b).length=pre.length + (1 + (rnd b).length):=by rw [List.length_append,List.length_cons,Nat.add_comm (rnd b).length 1]
  have he2:G=(pre ++ y :: rnd b) ++ 44 :: (rnd u ++ (rndT us ++ r)):=by rw [he,rndT_cons];simp
  have hbt:bt (B G) ((pre.length + (1 + (rnd b).length):Nat):Int)=44:=by
   have:=bt_app (pre ++ y :: rnd b) 44 (rnd u ++ (rndT us ++ r))
   rw [← he2,hpl]at this
   exact this
  have hrp:=rnd_pos b hb
  have hgo:=ihu u (pre ++ y :: rnd b) 44 k hus.1 hus.2 he2 (by omega) (by omega) (by omega)
  rw [hpl]at hgo
  have hkb:=kind_pos b
  have hst:=pos_step pre.length (rnd b).length (by clear hbt hgo;omega)
  rw [impl_termAt.l1,if_pos rfl,show((pre.length:Int)) + 1=((pre.length + 1:Nat):Int)by clear hbt hst hgo;omega,wrap_nat (by clear hbt hst hgo;omega),if_pos (by clear hbt hst hgo;omega),if_pos (by rw [y24];clear hbt hst hgo;omega),
   show(((pre.length + 1:Nat):Int)).toNat=pre.length + 1 from rfl,extract_from,hdrop,hih,Option.bind_some]
  clear hih hdrop
  rw [if_neg (show ¬((kind b:Nat):Int)=0 by clear hbt hst hgo;omega)]
  simp only []
  rw [hst]
  rw [if_pos (by rw [y24];clear hbt hst hgo;omega),if_pos (by clear hbt hst hgo;omega),hbt,show((44:Int) == 44)=true from rfl,hgo,htr]
  congr 3
  clear hbt hst hgo
  omega
theorem termAt_rnd:∀(n:Nat) (t:Tm) (r:List UInt8),(rnd t).length=n→Ok t→Stop r→(rnd t ++ r).length≤281474976710656→∀ k,4 * (rnd t ++ r).length + 60 < k →
  impl_termAt.f k (B (rnd t ++ r))=some ((kind t:Int),((rnd t).length:Int)):=by
 intro n
 induction n using Nat.strongRecOn with
 | _ n ih =>
  intro t r hn ht hr hl k hk
  obtain⟨k,rfl⟩:∃ m,k=m + 1:=⟨k - 1,by omega⟩
  rw [impl_termAt.f,toList_B]
  cases t with
  | num v =>
   rw [ok_num]at ht
   rw [rnd_num]at hl hk hn ⊢
   obtain⟨c,q,he,hc,hq⟩:=itoa_front v
   have hj:impl_termAt.j0 k (B (Lib.itoa v ++ r)) true=some (1,((Lib.itoa v).length:Int)):=by
    rw [j0_num _ hl c (q ++ r) (by rw [he];rfl) k (by omega),takeWhile_append_stop hq (stop_not rfl rfl hr),
     show 1 + q.length=(Lib.itoa v).length by rw [he];simp only [List.length_cons];omega,numRes_itoa v ht.1 ht.2]
   rw [if_neg (by rw [he];simp),if_pos (by rw [y24,he];simp only [List.cons_append,List.length_cons];omega),show bt (B (Lib.itoa v ++ r)) 0=(c.toNat:Int)by rw [he];exact bt_zero _ _]
   rcases hc with rfl|hc
   ·rw [if_neg (show ¬(((45:UInt8).toNat:Int)=34)by rw [toNat_45];omega),if_pos (by rfl)]
    exact hj
   ·have hcd:=hc
    simp only [isDig,Bool.and_eq_true,decide_eq_true_eq]at hcd
    rw [if_neg (by omega),if_neg (by omega),isDigit_f,Option.bind_some,hc]
    exact hj
  | sym b =>
   rw [ok_sym]at ht
   rw [rnd_sym]at hl hk hn ⊢
   have hlr:34 :: (b ++ [34]) ++ r=34 :: (b ++ 34 :: r):=by simp
   rw [hlr]at hl hk ⊢
   rw [if_neg (by simp),if_pos (by rw [y24];simp only [List.length_cons];omega),bt_zero,if_pos (by rfl)]
   unfold impl_symbolLong.f
   rw [show(1:Int)=((1:Nat):Int)from rfl]
   have hat:∀ q,(h:q < (34 :: (b ++ 34 :: r)).length)→(hq1:1≤q)→(hq:q - 1 < b.length)→(34 :: (b ++ 34 :: r))[q]=b[q - 1]:=by
    intro q h hq1 hq
    obtain⟨q,rfl⟩:∃ m,q=m + 1:=⟨q - 1,by omega⟩
    simp only [List.getElem_cons_succ,Nat.add_sub_cancel]
    rw [List.getElem_append_left]
   have hend:∀(h:b.length + 1 < (34 :: (b ++ 34 :: r)).length),(34 :: (b ++ 34 :: r))[b.length + 1]=34:=by
    intro h
    simp
   have hsy:∀ q,1≤q→q < b.length + 1→∀ h:q < (34 :: (b ++ 34 :: r)).length,isSy (34 :: (b ++ 34 :: r))[q]=true:=by
    intro q h1 h2 h
    rw [hat q h h1 (by omega)]
    exact ht.2 _ (List.getElem_mem _)
   have hlen:b.length + 1 < (34 :: (b ++ 34 :: r)).length:=by simp only [List.length_cons,List.length_append];omega
   rcases symbolLong_l (34 :: (b ++ 34 :: r)) (by omega) 21 1 k (by omega) (by omega) (by omega)with⟨j,h1,h2,⟨h3,h4⟩,h5,h6⟩|⟨h5,_⟩
   ·have hj:j=b.length + 1:=by
     rcases Nat.lt_trichotomy j (b.length + 1)with h|h|h
     ·have:=hsy j h1 h h3
      rw [h4]at this
      exact absurd this (by decide)
     ·exact h
     ·have:=h5 (b.length + 1) (by omega) h hlen
      rw [hend hlen]at this
      exact absurd this (by decide)
    have e:(34 :: (b ++ [34])).length=b.length + 1 + 1:=by simp
    rw [h6,Option.bind_some,if_pos (by omega),hj,e]
    rfl
   ·exact absurd ⟨b.length + 1,by omega,by omega,⟨hlen,hend hlen⟩,hsy⟩ h5
  | con nm ts =>
   rw [ok_con]at ht
   obtain⟨hnm,hts⟩:=ht
   obtain⟨hn20,c,q,hcq,hc,hq⟩:=hnm
   rw [rnd_con]at hl hk hn ⊢
   have hbg:=hc
   simp only [isBg,Bool.and_eq_true,decide_eq_true_eq]at hbg
   have hlc:nm ++ rndA ts ++ r=c :: (q ++ (rndA ts ++ r)):=by rw [hcq];simp
   have hstop:∀ y,(rndA ts ++ r).head?=some y→isWrd y=false:=by
    intro y hy
    cases ts with
    | nil=>rw [rndA_nil,List.nil_append]at hy;exact stop_not rfl rfl hr y hy
    | cons a ts=>rw [rndA_cons]at hy;simp at hy;subst hy;rfl
   have hnl:nmLen (nm ++ rndA ts ++ r)=nm.length:=by
    rw [hlc,nmLen,if_pos (isBg_let hc),takeWhile_append_stop hq hstop,hcq]
    simp
   obtain⟨k,rfl⟩:∃ m,k=m + 4:=⟨k - 4,by omega⟩
   rw [if_neg (by rw [hlc];simp),if_pos (by rw [y24,hlc];simp only [List.length_cons];omega),show bt (B (nm ++ rndA ts ++ r)) 0=(c.toNat:Int)by rw [hlc];exact bt_zero _ _,if_neg (by omega),if_neg (by omega),isDigit_f,Option.bind_some,
    show isDig c=false by simp only [isDig,Bool.and_eq_false_iff,decide_eq_false_iff_not];omega,impl_termAt.j0,if_neg (by simp),if_pos (by rw [y24,hlc];simp only [List.length_cons];omega),
    show bt (B (nm ++ rndA ts ++ r)) 0=(c.toNat:Int)by rw [hlc];exact bt_zero _ _,if_pos (by omega),show decide ((c.toNat:Int)≤90)=true by simp only [decide_eq_true_eq];omega,
    impl_termAt.j3,if_pos rfl,nameLong_f _ (by omega) _ (by omega),Option.bind_some,hnl,if_neg (by omega)]
   cases ts with
   | nil =>
    rw [rndA_nil,List.append_nil]
    have hfin:impl_termAt.j4 (k + 2) (B (nm ++ r)) ((nm.length:Nat):Int) true=some ((kind (.con nm []):Int),((nm.length:Nat):Int)):=by
     rw [impl_termAt.j4,if_pos rfl]
     rfl
    cases r with
    | nil =>
     rw [if_pos (by rw [y24];simp)]
     exact hfin
    | cons y r =>
     rw [if_neg (by rw [y24];simp only [List.length_append,List.length_cons];omega),if_pos (by omega),if_pos (by rw [y24];simp only [List.length_append,List.length_cons];omega),bt_app]
     have:(((y.toNat:Nat):Int) != 40)=true:=by
      rcases hr y rfl with rfl|rfl <;> rfl
     rw [this]
     exact hfin
   | cons a ts =>
    have hlen:(nm ++ rndA (a :: ts)).length=nm.length + 1 + (rnd a).length + (rndT ts).length:=by
     rw [rndA_cons]
     simp only [List.length_append,List.length_cons]
     omega
    have htot:(nm ++ rndA (a :: ts) ++ r).length=nm.length + 1 + (rnd a).length + (rndT ts).length + r.length:=by rw [List.length_append,hlen]
    rw [if_neg (by rw [y24,htot];omega),if_pos (by omega),if_pos (by rw [y24,htot];omega),
     show bt (B (nm ++ rndA (a :: ts) ++ r)) ((nm.length:Nat):Int)=40 by rw [rndA_cons,List.append_assoc,List.cons_append,bt_app];rfl,show((40:Int) != 40)=false from rfl,impl_termAt.j4,if_neg (by simp)]
    have hpos:=nam_ne ⟨hn20,c,q,hcq,hc,hq⟩
    have hnp:1≤nm.length:=by rw [hcq];simp
    rw [okL_cons]at hts
    have hG:nm ++ rndA (a :: ts) ++ r=nm ++ 40 :: (rnd a ++ (rndT ts ++ r)):=by rw [rndA_cons];simp
    have:=args (nm ++ rndA (a :: ts) ++ r) (nm ++ rndA (a :: ts)).length hl (fun b r' k' h1 h2 h3 h4 h5=>ih (rnd b).length (hn ▸ h3) b r' rfl h1 h2 h4 k' h5) r ts a nm 40 (k + 1) hts.1 hts.2 hG hnp (by rw [hlen];omega) (by rw [htot]at hk;simp only [List.length_append];omega)
    rw [this,hlen]
    rfl
end Go.Proofs.YtimhlficlhafbaaGreatDoor.QImpl
