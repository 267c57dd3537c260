-- Cut by prune.py.
import Derived.Test.YtimhlficlhafbaaGreatDoorVvlQForm
namespace Go.Proofs.YtimhlficlhafbaaGreatDoor.QExpT
open RowKit Pv YtimhlficlhafbaaGreatDoorW.PrintWords YtimhlficlhafbaaGreatDoorW.PrintLast QStr QGenR QRule QTree QText QForm
theorem join_f (acc:List ByteArray) (h:(Lib.join (acc.map L) [44,32]).length≤140737488355328) (hl:acc.length≤140737488355328):strings_Join.f acc (⟨#[44,32]⟩:ByteArray)=some (B (Lib.join (acc.map L) [44,32])):=by
 unfold strings_Join.f
 exact(if_pos (show(Lib.join (acc.map (·.data.toList)) ((⟨#[44,32]⟩:ByteArray)).data.toList).length≤140737488355328 from h)).trans (if_pos hl)
theorem map_L (T:List (List UInt8)) (ks:List Int):(ks.map (fun k=>B (tx T k))).map L=ks.map (tx T):=by
 rw [List.map_map]
 rfl
theorem sizeB (l:List UInt8):(B l).size=l.length:=rfl
section
variable (es : List IEx) (a : Int) (b : ByteArray) (c : List Int) (d : List ILt) (T : List (List UInt8))
theorem texts_l (ks:List Int) (hk:ks.length≤1048576) (hev:∀ k∈ks,Ev (fun m=>z0_.f m es a b c d k) (B (tx T k))) (hl:(Lib.join (ks.map (tx T)) [44,32]).length≤140737488355328):∀(q j:Nat),j + q=ks.length →
  Ev (fun m=>z1_.l0 m ((ks.take j).map (fun k=>B (tx T k))) ks (ks.length:Int) (j:Int) es a b c d) (B (Lib.join (ks.map (tx T)) [44,32]))
 | 0,j,h=>by
  obtain rfl:j=ks.length:=h
  refine y17 ⟨0,fun m _=>?_⟩
  rw [z1_.l0,if_neg (by omega),List.take_of_length_le (Nat.le_refl _),join_f _ (by rw [map_L];exact hl) (by rw [List.length_map];omega),Option.bind_some,map_L]
 | q + 1,j,h=>by
  have hj:j < ks.length:=by omega
  obtain⟨K1,h1⟩:=hev ks[j] (List.getElem_mem hj)
  obtain⟨K2,h2⟩:=texts_l ks hk hev hl q (j + 1) (by omega)
  refine y17 ⟨max K1 K2,fun m hm=>?_⟩
  have e1:=h1 m (by omega)
  have e2:=h2 m (by omega)
  simp only []at e1 e2
  rw [List.take_succ_eq_append_getElem hj,List.map_append]at e2
  rw [z1_.l0,if_pos (by omega),if_pos (by omega),if_pos (by omega),rdN_get ks j hj,e1,Option.bind_some,if_pos (by rw [List.length_map,List.length_take];omega),step_i (by omega)]
  exact e2
theorem texts_ev (ks:List Int) (hk:ks.length≤1048576) (hev:∀ k∈ks,Ev (fun m=>z0_.f m es a b c d k) (B (tx T k))) (hl:(Lib.join (ks.map (tx T)) [44,32]).length≤140737488355328) :
  Ev (fun m=>z1_.f m es a b c d ks) (B (Lib.join (ks.map (tx T)) [44,32])):=by
 obtain⟨K,h⟩:=texts_l es a b c d T ks hk hev hl ks.length 0 (by omega)
 refine y17 ⟨K,fun m hm=>?_⟩
 rw [z1_.f]
 exact h m hm
theorem rdE (k:Int) (h0:0≤k) (h1:k < (es.length:Int)):(y23 es k).f0=kd_ es k:=by
 obtain⟨n,rfl⟩:∃ n:Nat,k=(n:Int):=⟨k.toNat,by omega⟩
 have:y23 es (n:Int)=es[n]'(by omega):=getD_at _ es n (by omega)
 rw [this]
 unfold kd_
 rw [show((n:Int)).toNat=n from rfl,getD_in es n (by omega)]
theorem side_ev (k:Int) (h0:0≤k) (h1:k < (es.length:Int)) (hl:(tx T k).length≤140737488355328) (hev:Ev (fun m=>z0_.f m es a b c d k) (B (tx T k))) :
  Ev (fun m=>impl_Rule_expText_1.f m k es a b c d) (B (side es T k)):=by
 obtain⟨K,h⟩:=hev
 refine y17 ⟨K,fun m hm=>?_⟩
 have e1:=h m hm
 simp only []at e1
 rw [impl_Rule_expText_1.f,if_pos h0,if_pos h1,rdE es k h0 h1,isSum_f,Option.bind_some]
 unfold side
 by_cases hs:5≤kd_ es k∧kd_ es k≤7
 ·rw [if_pos (decide_eq_true hs),if_pos hs,e1,Option.bind_some,if_pos (by rw [sizeB];omega),if_pos (by rw [ByteArray.size_append,sizeB];show 1 + _ + 1≤_;omega)]
  show some (B [40] ++ B (tx T k) ++ B [41])=_
  rw [y3,y3]
  rfl
 ·rw [if_neg (by intro hx;exact hs (of_decide_eq_true hx)),if_neg hs,e1,Option.bind_some]
end
theorem sg_f (f0:Int) (h:5≤f0∧f0≤7):rdOf ByteArray.empty [(⟨#[43]⟩:ByteArray),(⟨#[45]⟩:ByteArray),(⟨#[42]⟩:ByteArray)] (wrap64 (f0 - 5))=B [sgn f0]∧0≤wrap64 (f0 - 5)∧wrap64 (f0 - 5) < 3:=by
 rw [wrapS (by omega) (by omega)]
 rcases (show f0=5∨f0=6∨f0=7 by omega)with rfl|rfl|rfl
 ·exact⟨rfl,by decide,by decide⟩
 ·exact⟨rfl,by decide,by decide⟩
 ·exact⟨rfl,by decide,by decide⟩
theorem expText_ev (es:List IEx) (a:Int) (b:ByteArray) (c:List Int) (d:List ILt) (hes:EsOk es) (hn:es.length≤1048576) (hk:∀ e∈es,e.f2.length≤1048576) (hT:∀ i < es.length,(tx (txs es) (i:Int)).length≤536870912):∀(n i:Nat),i < n→i < es.length →
  Ev (fun m=>z0_.f m es a b c d (i:Int)) (B (tx (txs es) (i:Int)))
 | 0,i,h,_=>absurd h (Nat.not_lt_zero i)
 | n + 1,i,_,hi=>by
  have hE:=hes i hi
  have hTi:=hT i hi
  have hrd:y23 es (i:Int)=es[i]:=getD_at _ es i hi
  have hkid:∀ k∈es[i].f2,Ev (fun m=>z0_.f m es a b c d k) (B (tx (txs es) k)):=fun k hk2=>by
   have hr:=hE.1 k hk2
   have:=expText_ev es a b c d hes hn hk hT n k.toNat (by omega) (by omega)
   rwa [show((k.toNat:Nat):Int)=k by omega]at this
  rw [txs_at es hes i hi]at hTi ⊢
  have hL:(L es[i].f1).length=es[i].f1.size:=L_length _
  generalize hT2:txs es=T at hTi hkid ⊢
  unfold QText.one at hTi ⊢
  by_cases h2:es[i].f0=2
  ·refine y17 ⟨0,fun m _=>?_⟩
   rw [z0_.f,if_pos (by omega),if_pos (by omega),hrd,if_pos h2,if_pos h2]
   rfl
  ·rw [if_neg h2]at hTi ⊢
   by_cases h4:es[i].f0=4
   ·rw [if_pos h4]at hTi ⊢
    by_cases h0:es[i].f2=[]
    ·refine y17 ⟨0,fun m _=>?_⟩
     rw [if_pos h0,z0_.f,if_pos (by omega),if_pos (by omega),hrd,if_neg h2,if_pos h4,if_neg (by rw [h0];decide),B_L]
    ·rw [if_neg h0]at hTi ⊢
     have hpos:0 < es[i].f2.length:=List.length_pos_iff.2 h0
     rw [List.length_append,List.length_cons,List.length_append]at hTi
     have h41:([41]:List UInt8).length=1:=rfl
     obtain⟨K,hx⟩:=texts_ev es a b c d T es[i].f2 (hk _ (List.getElem_mem hi)) hkid (by omega)
     refine y17 ⟨K,fun m hm=>?_⟩
     have e1:=hx m hm
     simp only []at e1
     rw [z0_.f,if_pos (by omega),if_pos (by omega),hrd,if_neg h2,if_pos h4,if_pos (by omega),if_pos (by omega),e1,Option.bind_some,
      if_pos (by rw [ByteArray.size_append,sizeB];show es[i].f1.size + 1 + _≤_;omega),if_pos (by rw [ByteArray.size_append,ByteArray.size_append,sizeB];show es[i].f1.size + 1 + _ + 1≤_;omega)]
     congr 1
     show es[i].f1 ++ B [40] ++ B _ ++ B [41]=_
     rw [← B_L es[i].f1,y3,y3,y3,L_B]
     congr 1
     simp only [List.append_assoc,List.cons_append,List.nil_append]
   ·rw [if_neg h4]at hTi ⊢
    by_cases h5:5≤es[i].f0∧es[i].f0≤7
    ·rw [if_pos h5]at hTi ⊢
     have hl2:=hE.2.2.2.1 h5.1
     rw [List.length_append,List.length_cons,List.length_cons,List.length_cons]at hTi
     have m0:rd es[i].f2 0∈es[i].f2:=rd_mem (ks:=es[i].f2) (j:=0) (by omega)
     have m1:rd es[i].f2 1∈es[i].f2:=rd_mem (ks:=es[i].f2) (j:=1) (by omega)
     have r0:=hE.1 _ m0
     have r1:=hE.1 _ m1
     have s0:=side_le es T (rd es[i].f2 0)
     have s1:=side_le es T (rd es[i].f2 1)
     obtain⟨K0,x0⟩:=side_ev es a b c d T _ r0.1 (by omega) (by omega) (hkid _ m0)
     obtain⟨K1,x1⟩:=side_ev es a b c d T _ r1.1 (by omega) (by omega) (hkid _ m1)
     obtain⟨g0,g1,g2⟩:=sg_f es[i].f0 h5
     have hj:∀ m,max K0 K1≤m→z0_.j0 (m + 1) true es a b c d es[i].f0 es[i].f1 es[i].f2=some (B (side es T (rd es[i].f2 0) ++ 32 :: sgn es[i].f0 :: 32 :: side es T (rd es[i].f2 1))):=by
      intro m hm
      have e0:=x0 m (by omega)
      have e1:=x1 m (by omega)
      simp only []at e0 e1
      have z32:(⟨#[32]⟩:ByteArray).size=1:=rfl
      rw [z0_.j0,if_pos rfl,if_pos (by omega),e0,Option.bind_some,if_pos (by rw [sizeB];omega),Option.bind_some,if_pos g1,if_pos (show wrap64 (es[i].f0 - 5) < (([(⟨#[43]⟩:ByteArray),(⟨#[45]⟩:ByteArray),(⟨#[42]⟩:ByteArray)].length:Nat):Int)from g2),g0,
       if_pos (by rw [ByteArray.size_append,sizeB,sizeB,z32];show _ + 1 + 1≤_;omega),if_pos (by rw [ByteArray.size_append,ByteArray.size_append,sizeB,sizeB,z32];show _ + 1 + 1 + 1≤_;omega),if_pos (by omega),e1,Option.bind_some,
       if_pos (by rw [ByteArray.size_append,ByteArray.size_append,ByteArray.size_append,sizeB,sizeB,sizeB,z32];show _ + 1 + 1 + 1 + _≤_;omega)]
      congr 1
      show B _ ++ B [32] ++ B [sgn es[i].f0] ++ B [32] ++ B _=_
      rw [y3,y3,y3,y3]
      congr 1
      simp only [List.append_assoc,List.cons_append,List.nil_append]
     refine y17 ⟨max K0 K1 + 1,fun m hm=>?_⟩
     obtain⟨m,rfl⟩:∃ p,m=p + 1:=⟨m - 1,by omega⟩
     rw [z0_.f,if_pos (by omega),if_pos (by omega),hrd,if_neg h2,if_neg h4]
     rcases (show es[i].f0=5∨es[i].f0=6∨es[i].f0=7 by omega)with h|h|h
     ·rw [if_pos h,show(es[i].f0 == 5)=true from by rw [h];rfl]
      exact hj m (by omega)
     ·rw [if_neg (by omega),if_pos h,show(es[i].f0 == 6)=true from by rw [h];rfl]
      exact hj m (by omega)
     ·rw [if_neg (by omega),if_neg (by omega),show(es[i].f0 == 7)=true from by rw [h];rfl]
      exact hj m (by omega)
    ·rw [if_neg h5]at hTi ⊢
     refine y17 ⟨1,fun m hm=>?_⟩
     obtain⟨m,rfl⟩:∃ p,m=p + 1:=⟨m - 1,by omega⟩
     have hle:=hE.2.2.1
     rw [z0_.f,if_pos (by omega),if_pos (by omega),hrd,if_neg h2,if_neg h4,if_neg (by omega),if_neg (by omega),show(es[i].f0 == 7)=false from by simp;omega,z0_.j0,if_neg (by decide),B_L]
def lit (T:List (List UInt8)) (l:ILt):List UInt8 :=
 if l.f0=3 then tx T (rd l.f2 0) ++ 32 :: (L l.f1 ++ 32 :: tx T (rd l.f2 1))
 else(if l.f0=2 then [33]else []) ++ (L l.f1 ++ 40 :: (Lib.join (l.f2.map (tx T)) [44,32] ++ [41]))
theorem lit_ev (es:List IEx) (a:Int) (b:ByteArray) (c:List Int) (d:List ILt) (T:List (List UInt8)) (hev:∀ k,0≤k→k < (es.length:Int)→Ev (fun m=>z0_.f m es a b c d k) (B (tx T k)))
  (l:ILt) (hin:InR (es.length:Int) l.f2) (h3:l.f0=3→l.f2.length=2) (hk:l.f2.length≤1048576) (hl:(lit T l).length≤70368744177664) :
  Ev (fun m=>z2_.f m es a b c d l.f0 l.f1 l.f2) (B (lit T l)):=by
 have hL:(L l.f1).length=l.f1.size:=L_length _
 unfold lit at hl ⊢
 by_cases e3:l.f0=3
 ·rw [if_pos e3]at hl ⊢
  have hl2:=h3 e3
  rw [List.length_append,List.length_cons,List.length_append,List.length_cons]at hl
  have r0:=hin _ (rd_mem (ks:=l.f2) (j:=0) (by omega))
  have r1:=hin _ (rd_mem (ks:=l.f2) (j:=1) (by omega))
  obtain⟨K0,x0⟩:=hev _ r0.1 r0.2
  obtain⟨K1,x1⟩:=hev _ r1.1 r1.2
  refine⟨max K0 K1,fun m hm=>?_⟩
  have e0:=x0 m (by omega)
  have e1:=x1 m (by omega)
  simp only [show(((0:Nat):Int))=0 from rfl,show(((1:Nat):Int))=1 from rfl]at e0 e1 hl ⊢
  have z32:(⟨#[32]⟩:ByteArray).size=1:=rfl
  show z2_.f m es a b c d l.f0 l.f1 l.f2=_
  unfold z2_.f
  rw [if_pos e3,if_pos (by omega),e0,Option.bind_some,if_pos (by rw [sizeB];omega),if_pos (by rw [ByteArray.size_append,sizeB,z32];omega),if_pos (by rw [ByteArray.size_append,ByteArray.size_append,sizeB,z32];omega),if_pos (by omega),e1,Option.bind_some,
   if_pos (by rw [ByteArray.size_append,ByteArray.size_append,ByteArray.size_append,sizeB,sizeB,z32];omega)]
  congr 1
  show B _ ++ B [32] ++ l.f1 ++ B [32] ++ B _=_
  rw [← B_L l.f1,y3,y3,y3,y3,L_B]
  congr 1
  simp only [List.append_assoc,List.cons_append,List.nil_append]
 ·rw [if_neg e3]at hl ⊢
  have h41:([41]:List UInt8).length=1:=rfl
  rw [List.length_append,List.length_append,List.length_cons,List.length_append]at hl
  obtain⟨K,hx⟩:=texts_ev es a b c d T l.f2 hk (fun k hk2=>hev k (hin k hk2).1 (hin k hk2).2) (by omega)
  refine⟨K,fun m hm=>?_⟩
  have e1:=hx m hm
  simp only []at e1
  show z2_.f m es a b c d l.f0 l.f1 l.f2=_
  unfold z2_.f
  have z33:(⟨#[33]⟩:ByteArray).size=1:=rfl
  have z40:(⟨#[40]⟩:ByteArray).size=1:=rfl
  rw [if_neg e3]
  by_cases e2:l.f0=2
  ·rw [if_pos e2]at hl ⊢
   rw [if_pos e2,if_pos (by omega),if_pos (by rw [ByteArray.size_append,z33];omega),e1,Option.bind_some,if_pos (by rw [ByteArray.size_append,ByteArray.size_append,sizeB,z33,z40];omega),if_pos (by rw [ByteArray.size_append,ByteArray.size_append,ByteArray.size_append,sizeB,z33,z40];omega)]
   congr 1
   show B [33] ++ l.f1 ++ B [40] ++ B _ ++ B [41]=_
   rw [← B_L l.f1,y3,y3,y3,y3,L_B]
   congr 1
   simp only [List.append_assoc,List.cons_append,List.nil_append]
  ·rw [if_neg e2]at hl ⊢
   rw [if_neg e2,if_pos (by omega),e1,Option.bind_some,if_pos (by rw [ByteArray.size_append,sizeB,z40];omega),if_pos (by rw [ByteArray.size_append,ByteArray.size_append,sizeB,z40];omega)]
   congr 1
   show l.f1 ++ B [40] ++ B _ ++ B [41]=_
   rw [← B_L l.f1,y3,y3,y3,L_B]
   congr 1
   simp only [List.append_assoc,List.cons_append,List.nil_append]
end Go.Proofs.YtimhlficlhafbaaGreatDoor.QExpT
