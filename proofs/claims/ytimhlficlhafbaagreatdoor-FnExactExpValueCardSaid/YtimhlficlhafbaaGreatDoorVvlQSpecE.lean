-- Cut by prune.py.
import Derived.Test.YtimhlficlhafbaaGreatDoorVvlQExpT
namespace Go.Proofs.YtimhlficlhafbaaGreatDoor.QSpecE
open RowKit Pv YtimhlficlhafbaaGreatDoorW.PrintWords YtimhlficlhafbaaGreatDoorW.PrintLast QStr QGenR QRule QTree QText QForm QExpT
theorem btw_f (a b c:Int):z8_.f a b c=some (decide (b≤a∧a≤c)):=by
 unfold z8_.f
 by_cases h:a≥b
 ·rw [if_pos h]
  exact congrArg some (decide_eq_decide.2 ⟨fun h2=>⟨h,h2⟩,fun h2=>h2.2⟩)
 ·rw [if_neg h]
  exact congrArg some (decide_eq_false (fun h2=>h h2.1)).symm
def G (es:List IEx) (g:Nat→Option (List ByteArray×Bool)) (r:Bool):Prop:=∃ o,Ev g (o,r)∧(r=true→o=(txs es).map B)
theorem G.step {es:List IEx} {g f:Nat→Option (List ByteArray×Bool)} {r:Bool} (h:∀ m,g (m + 1)=f m) (hf:G es f r):G es g r:=by
 obtain⟨o,he,ho⟩:=hf
 exact⟨o,Ev.step h he,ho⟩
theorem G.no {es:List IEx} {g:Nat→Option (List ByteArray×Bool)} {o:List ByteArray} {r:Bool} (h:∀ m,g (m + 1)=some (o,false)) (hr:r=false):G es g r:=by
 subst hr
 exact⟨o,y17 ⟨0,fun m _=>h m⟩,fun h=>by cases h⟩
theorem txs_one (es:List IEx) (i:Nat) (hi:i < es.length) (h:EOk (i:Int) es[i]):tx (txs es) (i:Int)=QText.one es es[i] (txs es):=by
 unfold txs
 show(bld es es.length).getD i []=_
 rw [bld_at es i _ hi,getD_in es i hi]
 exact one_congr es _ _ h _ _ (fun k hk=>by
  have:=h.1 k hk
  exact(tx_bld es i es.length k this.1 this.2 (by omega)).symm)
def outs (es:List IEx) (i:Nat):List ByteArray:=((txs es).take i).map B ++ List.replicate (es.length - i) (⟨#[]⟩:ByteArray)
theorem outs_len (es:List IEx) (i:Nat) (hi:i≤es.length):(outs es i).length=es.length:=by
 have:=txs_len es
 unfold outs
 rw [List.length_append,List.length_map,List.length_take,List.length_replicate]
 omega
theorem outs_all (es:List IEx):outs es es.length=(txs es).map B:=by
 have:=txs_len es
 unfold outs
 rw [Nat.sub_self,List.replicate_zero,List.append_nil,List.take_of_length_le (by omega)]
theorem outs_at (es:List IEx) (i:Nat) (hi:i≤es.length) (k:Int) (h0:0≤k) (h1:k < (i:Int)):rdOf ByteArray.empty (outs es i) k=B (tx (txs es) k):=by
 have hT:=txs_len es
 obtain⟨n,rfl⟩:∃ n:Nat,k=(n:Int):=⟨k.toNat,by omega⟩
 have hn:n < i:=by omega
 unfold rdOf outs tx
 rw [show((n:Int)).toNat=n from rfl,List.getD_eq_getElem?_getD,List.getElem?_append_left (by rw [List.length_map,List.length_take];omega),List.getElem?_map,List.getElem?_take_of_lt hn,List.getD_eq_getElem?_getD,List.getElem?_eq_getElem (by omega)]
 rfl
theorem outs_set (es:List IEx) (i:Nat) (hi:i < es.length):(outs es i).set i (B (tx (txs es) (i:Int)))=outs es (i + 1):=by
 have hT:=txs_len es
 have h:=gset B (txs es) i (by omega) (es.length - (i + 1)) (⟨#[]⟩:ByteArray)
 have e:tx (txs es) (i:Int)=(txs es)[i]'(by omega):=by
  unfold tx
  rw [show((i:Int)).toNat=i from rfl,List.getD_eq_getElem?_getD,List.getElem?_eq_getElem (by omega)]
  rfl
 rw [e]
 unfold outs
 rw [show es.length - i=es.length - (i + 1) + 1 by omega]
 exact h
section
variable (es : List IEx) (a : Int) (b : ByteArray) (c : List Int) (d : List ILt)
theorem sside_f (o:List ByteArray) (T:List (List UInt8)) (k:Int) (h0:0≤k) (h1:k < (es.length:Int)) (hl:es.length=o.length) (ho:rdOf ByteArray.empty o k=B (tx T k)) (hs:(tx T k).length≤3000):spec_l04Side.f es a b c d o k=some (B (side es T k)):=by
 unfold spec_l04Side.f side
 rw [if_pos h0,if_pos h1,rdE es k h0 h1,btw_f,Option.bind_some,ho]
 by_cases h:5≤kd_ es k∧kd_ es k≤7
 ·rw [if_pos (decide_eq_true h),if_pos h,if_pos (by omega),if_pos (by rw [sizeB];omega),if_pos (by rw [ByteArray.size_append,sizeB];show 1 + _ + 1≤_;omega)]
  show some (B [40] ++ B (tx T k) ++ B [41])=_
  rw [y3,y3]
  rfl
 ·rw [if_neg (by intro hx;exact h (of_decide_eq_true hx)),if_neg h,if_pos (by omega)]
theorem s6_ev (us:List Int) (o:List ByteArray) (i:Nat) (hi:i < es.length) (hi2:i≤1048576) (hol:o.length=es.length) (s:List UInt8) (z:Bool) (r:Bool)
  (h1:z=false→G es (fun k=>z10_.l0 k us (o.set i (B s)) ((i + 1:Nat):Int) es a b c d) r) (h2:z=true→r=false) :
  G es (fun k=>z10_.j6 k us o (i:Int) (B s) z es a b c d) r:=by
 cases z with
 | true =>
  refine G.no (o:=o) (fun m=>?_) (h2 rfl)
  rw [z10_.j6,if_pos rfl]
 | false =>
  refine G.step (fun m=>?_) (h1 rfl)
  rw [z10_.j6,if_neg (by decide),if_pos (by omega),if_pos (by omega),step_i (by omega)]
  rfl
theorem s5_ev (us:List Int) (o:List ByteArray) (i:Nat) (hi:i < es.length) (hi2:i≤1048576) (hol:o.length=es.length) (s:List UInt8) (f0:Int) (f1:ByteArray) (f2:List Int) (r:Bool)
  (h1:(f0≤3→f2.length=0)∧s.length≤3000→G es (fun k=>z10_.l0 k us (o.set i (B s)) ((i + 1:Nat):Int) es a b c d) r) (h2:¬((f0≤3→f2.length=0)∧s.length≤3000)→r=false) :
  G es (fun k=>z10_.j5 k us o (i:Int) (B s) es a b c d f0 f1 f2) r:=by
 have h6:=fun z=>s6_ev es a b c d us o i hi hi2 hol s z r
 by_cases h3:f0≤3
 ·by_cases hz:f2.length=0
  ·refine G.step (fun m=>?_) (h6 (decide (((B s).size:Int) > 3000)) (fun hx=>h1 ⟨fun _=>hz,by have:=of_decide_eq_false hx;rw [sizeB]at this;omega⟩) (fun hx=>h2 (fun hy=>by have:=of_decide_eq_true hx;rw [sizeB]at this;omega)))
   rw [z10_.j5,if_pos h3,if_neg (by omega)]
  ·refine G.step (fun m=>?_) (h6 true (fun hx=>by cases hx) (fun _=>h2 (fun hy=>hz (hy.1 h3))))
   rw [z10_.j5,if_pos h3,if_pos (by omega)]
 ·refine G.step (fun m=>?_) (h6 (decide (((B s).size:Int) > 3000)) (fun hx=>h1 ⟨fun hy=>absurd hy h3,by have:=of_decide_eq_false hx;rw [sizeB]at this;omega⟩) (fun hx=>h2 (fun hy=>by have:=of_decide_eq_true hx;rw [sizeB]at this;omega)))
  rw [z10_.j5,if_neg h3]
theorem s2_l (us:List Int) (o:List ByteArray) (T:List (List UInt8)) (i:Nat) (hio:i≤o.length) (ks:List Int) (hk:ks.length≤1048576) (hin:InR (i:Int) ks) (ho:∀ k∈ks,rdOf ByteArray.empty o k=B (tx T k)) (hs:∀ k∈ks,(tx T k).length≤3000) (f0:Int) (f1:ByteArray) (r:Bool) :
  ∀(q j:Nat) (s:List UInt8),j + q=ks.length→0 < j→s.length + q * 3002≤70368744177664 →
  G es (fun k=>z10_.l2 k us o (i:Int) (B (s ++ Lib.joinTail [44,32] ((ks.map (tx T)).drop j))) (ks.length:Int) es a b c d f0 f1 ks) r→G es (fun k=>z10_.l2 k us o (i:Int) (B s) (j:Int) es a b c d f0 f1 ks) r
 | 0,j,s,h,_,_,hg=>by
  obtain rfl:j=ks.length:=h
  rwa [List.drop_of_length_le (by rw [List.length_map];exact Nat.le_refl _),show Lib.joinTail [44,32] []=[]from rfl,List.append_nil]at hg
 | q + 1,j,s,h,h0,hl,hg=>by
  have hj:j < ks.length:=by omega
  have hmem:ks[j]∈ks:=List.getElem_mem hj
  have hr:=hin _ hmem
  have hsj:=hs _ hmem
  have ht:Lib.joinTail [44,32] ((ks.map (tx T)).drop j)=[44,32] ++ tx T ks[j] ++ Lib.joinTail [44,32] ((ks.map (tx T)).drop (j + 1)):=by
   rw [List.drop_eq_getElem_cons (by rw [List.length_map];exact hj),List.getElem_map]
   simp [Lib.joinTail]
  rw [ht,← List.append_assoc,← List.append_assoc]at hg
  have ih:=s2_l us o T i hio ks hk hin ho hs f0 f1 r q (j + 1) (s ++ [44,32] ++ tx T ks[j]) (by omega) (by omega) (by
   rw [List.length_append,List.length_append]
   show s.length + 2 + _ + _≤_
   omega) hg
  refine G.step (fun m=>?_) ih
  have z2:(⟨#[44,32]⟩:ByteArray).size=2:=rfl
  rw [z10_.l2,if_pos (by omega),if_neg (by omega),if_pos (by rw [sizeB];omega),if_pos (by omega),rdN_get ks j hj,if_pos hr.1,if_pos (by omega),ho _ hmem,if_pos (by rw [ByteArray.size_append,sizeB,sizeB,z2];omega),step_i (by omega)]
  show z10_.l2 m us o (i:Int) (B s ++ B [44,32] ++ B (tx T ks[j])) _ es a b c d f0 f1 ks=_
  rw [y3,y3]
theorem s2_ev (us:List Int) (o:List ByteArray) (T:List (List UInt8)) (i:Nat) (hi:i < es.length) (_hi2:i≤1048576) (hol:o.length=es.length) (ks:List Int) (hk:ks.length≤1048576) (hin:InR (i:Int) ks) (ho:∀ k∈ks,rdOf ByteArray.empty o k=B (tx T k)) (hs:∀ k∈ks,(tx T k).length≤3000) (f0:Int) (f1:ByteArray) (hf:f1.size≤1048576) (r:Bool)
  (hg:G es (fun k=>z10_.j5 k us o (i:Int) (B (if ks=[]then L f1 else L f1 ++ 40 :: (Lib.join (ks.map (tx T)) [44,32] ++ [41]))) es a b c d f0 f1 ks) r) :
  G es (fun k=>z10_.l2 k us o (i:Int) f1 0 es a b c d f0 f1 ks) r:=by
 have hL:(L f1).length=f1.size:=L_length _
 by_cases h0:ks=[]
 ·rw [if_pos h0]at hg
  refine G.step (fun m=>?_) hg
  have hz:ks.length=0:=by rw [h0];rfl
  rw [z10_.l2,if_neg (by omega),if_neg (by omega),B_L]
 ·rw [if_neg h0]at hg
  have hpos:0 < ks.length:=List.length_pos_iff.2 h0
  have hmem:ks[0]∈ks:=List.getElem_mem hpos
  have hr:=hin _ hmem
  have hs0:=hs _ hmem
  have hjoin:Lib.join (ks.map (tx T)) [44,32]=tx T ks[0] ++ Lib.joinTail [44,32] ((ks.map (tx T)).drop 1):=by
   cases ks with
   | nil=>exact absurd rfl h0
   | cons x y =>
    rw [List.map_cons,Lib.join_cons]
    rfl
  have hlens:(Lib.joinTail [44,32] ((ks.map (tx T)).drop 1)).length≤ks.length * 3002:=by
   rw [Lib.joinTail_length]
   have:∀ l:List (List UInt8),(∀ x∈l,x.length≤3000)→Lib.lens l≤l.length * 3000:=by
    intro l
    induction l with
    | nil=>intro _;exact Nat.zero_le _
    | cons x y ih =>
     intro hx
     have h1:=ih (fun z hz=>hx z (List.mem_cons_of_mem _ hz))
     have h2:=hx x List.mem_cons_self
     unfold Lib.lens at h1 ⊢
     rw [List.map_cons,List.sum_cons,List.length_cons]
     omega
   have h3:=this ((ks.map (tx T)).drop 1) (fun x hx=>by
    obtain⟨k,hk1,rfl⟩:=List.mem_map.1 (List.mem_of_mem_drop hx)
    exact hs k hk1)
   have h4:((ks.map (tx T)).drop 1).length≤ks.length:=by rw [List.length_drop,List.length_map];omega
   show 2 * _ + _≤_
   omega
  have e1:=s2_l es a b c d us o T i (by omega) ks hk hin ho hs f0 f1 r (ks.length - 1) 1 (L f1 ++ 40 :: tx T ks[0]) (by omega) (by omega) (by
   rw [List.length_append,List.length_cons]
   omega) (by
   refine G.step (fun m=>?_) hg
   have z1:(⟨#[41]⟩:ByteArray).size=1:=rfl
   rw [z10_.l2,if_neg (by omega),if_pos (by omega),if_pos (by
    rw [sizeB,List.length_append,List.length_append,List.length_cons]
    omega)]
   show z10_.j5 m us o (i:Int) (B _ ++ B [41]) es a b c d f0 f1 ks=_
   rw [y3,hjoin]
   simp only [List.append_assoc,List.cons_append])
  refine G.step (fun m=>?_) e1
  have z1:(⟨#[40]⟩:ByteArray).size=1:=rfl
  have hrd:rd ks 0=ks[0]:=rdN_get ks 0 hpos
  rw [z10_.l2,if_pos (by omega),if_pos rfl,if_pos (by omega),if_pos (by omega),hrd,if_pos hr.1,if_pos (by omega),ho _ hmem,if_pos (by rw [ByteArray.size_append,sizeB,z1];omega)]
  show z10_.l2 m us o (i:Int) (f1 ++ B [40] ++ B (tx T ks[0])) _ es a b c d f0 f1 ks=_
  rw [show wrap64 ((0:Int) + 1)=((1:Nat):Int)from by rw [wrapS (by omega) (by omega)];rfl,← B_L f1,y3,y3,L_B]
  simp only [List.append_assoc,List.cons_append,List.nil_append]
theorem ssg_f (f0:Int) (h:5≤f0∧f0≤7):rdOf ByteArray.empty [(⟨#[32,43,32]⟩:ByteArray),(⟨#[32,45,32]⟩:ByteArray),(⟨#[32,42,32]⟩:ByteArray)] (wrap64 (f0 - 5))=B [32,sgn f0,32]∧0≤wrap64 (f0 - 5)∧wrap64 (f0 - 5) < 3:=by
 rw [wrapS (by omega) (by omega)]
 rcases (show f0=5∨f0=6∨f0=7 by omega)with rfl|rfl|rfl
 ·exact⟨rfl,by decide,by decide⟩
 ·exact⟨rfl,by decide,by decide⟩
 ·exact⟨rfl,by decide,by decide⟩
theorem s1_end (i:Nat) (hi:i < es.length) (hi2:i≤1048576) (e:IEx) (hk:e.f2.length≤1048576) (hf:e.f1.size≤1048576) (hin:InR (i:Int) e.f2) (us:List Int) (o:List ByteArray) (T:List (List UInt8)) (hol:o.length=es.length)
  (ho:∀ k,0≤k→k < (i:Int)→rdOf ByteArray.empty o k=B (tx T k)) (hs:∀ k,0≤k→k < (i:Int)→(tx T k).length≤3000) (r:Bool)
  (h1:EC e.f0 e.f2.length∧(QText.one es e T).length≤3000→G es (fun k=>z10_.l0 k us (o.set i (B (QText.one es e T))) ((i + 1:Nat):Int) es a b c d) r) (h2:¬(EC e.f0 e.f2.length∧(QText.one es e T).length≤3000)→r=false) :
  G es (fun k=>z10_.l1 k us o (i:Int) (e.f2.length:Int) es a b c d e.f0 e.f1 e.f2) r:=by
 have h5:=fun s=>s5_ev es a b c d us o i hi hi2 hol s e.f0 e.f1 e.f2 r
 have hL:(L e.f1).length=e.f1.size:=L_length _
 have hj2:∀ z:Bool,z=decide (e.f0=1∨e.f0=3)→G es (fun k=>z10_.j2 k us o (i:Int) e.f0 z es a b c d e.f0 e.f1 e.f2) r:=by
  intro z hz
  by_cases h13:e.f0=1∨e.f0=3
  ·rw [decide_eq_true h13]at hz
   have he:QText.one es e T=L e.f1:=by
    unfold QText.one
    rw [if_neg (by omega),if_neg (by omega),if_neg (by omega)]
   rw [he]at h1 h2
   refine G.step (fun m=>?_) (h5 (L e.f1) (fun hx=>h1 ⟨⟨by omega,by omega,fun hy=>by omega,hx.1⟩,hx.2⟩) (fun hx=>h2 (fun hy=>hx ⟨hy.1.2.2.2,hy.2⟩)))
   rw [hz,z10_.j2,if_pos rfl,B_L]
  ·rw [decide_eq_false h13]at hz
   by_cases e2:e.f0=2
   ·have he:QText.one es e T=[95]:=by
     unfold QText.one
     rw [if_pos e2]
    rw [he]at h1 h2
    refine G.step (fun m=>?_) (h5 [95] (fun hx=>h1 ⟨⟨by omega,by omega,fun hy=>by omega,hx.1⟩,hx.2⟩) (fun hx=>h2 (fun hy=>hx ⟨hy.1.2.2.2,hy.2⟩)))
    rw [hz,z10_.j2,if_neg (by decide),if_pos e2]
    rfl
   ·by_cases e4:e.f0=4
    ·have he:QText.one es e T=if e.f2=[]then L e.f1 else L e.f1 ++ 40 :: (Lib.join (e.f2.map (tx T)) [44,32] ++ [41]):=by
      unfold QText.one
      rw [if_neg e2,if_pos e4]
     rw [he]at h1 h2
     have hg:=s2_ev es a b c d us o T i hi hi2 hol e.f2 hk hin (fun k hk2=>ho k (hin k hk2).1 (hin k hk2).2) (fun k hk2=>hs k (hin k hk2).1 (hin k hk2).2) e.f0 e.f1 hf r
      (h5 _ (fun hx=>h1 ⟨⟨by omega,by omega,fun hy=>by omega,hx.1⟩,hx.2⟩) (fun hx=>h2 (fun hy=>hx ⟨hy.1.2.2.2,hy.2⟩)))
     refine G.step (fun m=>?_) hg
     rw [hz,z10_.j2,if_neg (by decide),if_neg e2,if_pos e4]
    ·have hj4:∀ y:Bool,y=decide (5≤e.f0∧e.f0≤7)→G es (fun k=>z10_.j4 k us o (i:Int) y es a b c d e.f0 e.f1 e.f2) r:=by
      intro y hy
      by_cases h57:5≤e.f0∧e.f0≤7
      ·rw [decide_eq_true h57]at hy
       by_cases hl2:e.f2.length=2
       ·have he:QText.one es e T=side es T (rd e.f2 0) ++ 32 :: sgn e.f0 :: 32 :: side es T (rd e.f2 1):=by
         unfold QText.one
         rw [if_neg e2,if_neg e4,if_pos h57]
        rw [he]at h1 h2
        have r0:=hin _ (rd_mem (ks:=e.f2) (j:=0) (by omega))
        have r1:=hin _ (rd_mem (ks:=e.f2) (j:=1) (by omega))
        simp only [show(((0:Nat):Int))=0 from rfl,show(((1:Nat):Int))=1 from rfl]at r0 r1
        have s0:=side_le es T (rd e.f2 0)
        have s1:=side_le es T (rd e.f2 1)
        have t0:=hs _ r0.1 r0.2
        have t1:=hs _ r1.1 r1.2
        obtain⟨g0,g1,g2⟩:=ssg_f e.f0 h57
        refine G.step (fun m=>?_) (h5 _ (fun hx=>h1 ⟨⟨by omega,by omega,fun _=>hl2,hx.1⟩,hx.2⟩) (fun hx=>h2 (fun hy=>hx ⟨hy.1.2.2.2,hy.2⟩)))
        rw [hy,z10_.j4,if_pos rfl,if_pos (by omega),Option.bind_some,if_pos g1,if_pos (show wrap64 (e.f0 - 5) < (([(⟨#[32,43,32]⟩:ByteArray),(⟨#[32,45,32]⟩:ByteArray),(⟨#[32,42,32]⟩:ByteArray)].length:Nat):Int)from g2),if_pos (by omega),
         sside_f es a b c d o T _ r0.1 (by omega) hol.symm (ho _ r0.1 r0.2) t0,Option.bind_some,g0,if_pos (by rw [sizeB,sizeB];show _ + 3≤_;omega),if_pos (by omega),
         sside_f es a b c d o T _ r1.1 (by omega) hol.symm (ho _ r1.1 r1.2) t1,Option.bind_some,if_pos (by rw [ByteArray.size_append,sizeB,sizeB,sizeB];show _ + 3 + _≤_;omega),y3,y3]
        simp only [List.append_assoc,List.cons_append,List.nil_append]
       ·refine G.no (o:=o) (fun m=>?_) (h2 (fun hx=>hl2 (hx.1.2.2.1 h57.1)))
        rw [hy,z10_.j4,if_pos rfl,if_neg (by omega)]
      ·rw [decide_eq_false h57]at hy
       refine G.no (o:=o) (fun m=>?_) (h2 (fun hx=>by have:=hx.1;unfold EC at this;omega))
       rw [hy,z10_.j4,if_neg (by decide)]
     by_cases e5:e.f0=5
     ·refine G.step (fun m=>?_) (hj4 (e.f0 == 5) (by rw [e5];rfl))
      rw [hz,z10_.j2,if_neg (by decide),if_neg e2,if_neg e4,if_pos e5]
     ·by_cases e6:e.f0=6
      ·refine G.step (fun m=>?_) (hj4 (e.f0 == 6) (by rw [e6];rfl))
       rw [hz,z10_.j2,if_neg (by decide),if_neg e2,if_neg e4,if_neg e5,if_pos e6]
      ·refine G.step (fun m=>?_) (hj4 (e.f0 == 7) (by
        by_cases e7:e.f0=7
        ·rw [e7]
         rfl
        ·rw [decide_eq_false (by omega)]
         simp [e7]))
       rw [hz,z10_.j2,if_neg (by decide),if_neg e2,if_neg e4,if_neg e5,if_neg e6]
 by_cases e1:e.f0=1
 ·refine G.step (fun m=>?_) (hj2 (e.f0 == 1) (by rw [e1];rfl))
  rw [z10_.l1,if_neg (by omega),if_pos e1]
 ·refine G.step (fun m=>?_) (hj2 (e.f0 == 3) (by
   by_cases e3:e.f0=3
   ·rw [e3]
    rfl
   ·rw [decide_eq_false (by omega)]
    simp [e3]))
  rw [z10_.l1,if_neg (by omega),if_neg e1]
theorem s1_ev (i:Nat) (hi:i≤1048576) (ks:List Int) (hk:ks.length≤1048576) (f0:Int) (f1:ByteArray) (o:List ByteArray) (r:Bool):∀(q j:Nat) (us:List Int),j + q=ks.length→i≤us.length→(∀ m,0≤us.getD m 0∧us.getD m 0≤4611686018427387904 - (q:Int)) →
  (InR (i:Int) (ks.drop j)→G es (fun k=>z10_.l1 k (incs us (ks.drop j)) o (i:Int) (ks.length:Int) es a b c d f0 f1 ks) r)→(¬ InR (i:Int) (ks.drop j)→r=false) →
  G es (fun k=>z10_.l1 k us o (i:Int) (j:Int) es a b c d f0 f1 ks) r
 | 0,j,us,h,_,_,h1,_=>by
  obtain rfl:j=ks.length:=h
  rw [List.drop_length]at h1
  exact h1 (inR_nil _)
 | q + 1,j,us,h,hu,hc,h1,h2=>by
  have hj:j < ks.length:=by omega
  rw [List.drop_eq_getElem_cons hj]at h1 h2
  by_cases hin:0≤ks[j]∧ks[j] < (i:Int)
  ·have hb:(bump us ks[j]).length=us.length:=bump_len us _
   have ih:=s1_ev i hi ks hk f0 f1 o r q (j + 1) (bump us ks[j]) (by omega) (by omega) (fun m=>by
    have hba:=bump_at us ks[j] m (by omega)
    have:=hc m
    by_cases e:ks[j].toNat=m
    ·rw [if_pos e]at hba
     omega
    ·rw [if_neg e]at hba
     omega) (fun hr=>h1 (inR_cons.2 ⟨hin,hr⟩)) (fun hr=>h2 (fun hx=>hr (inR_cons.1 hx).2))
   refine G.step (fun m=>?_) ih
   have hcm:=hc ks[j].toNat
   have hrd:rd us ks[j]=us.getD ks[j].toNat 0:=rfl
   rw [z10_.l1,if_pos (by omega),if_pos (by omega),rdN_get ks j hj,wrapS (n:=(i:Int) - 1) (by omega) (by omega),btw_f,Option.bind_some,if_pos (decide_eq_true ⟨hin.1,by omega⟩),if_pos hin.1,if_pos (by omega),wrapS (by omega) (by omega),step_i (by omega)]
   rfl
  ·refine G.no (o:=o) (fun m=>?_) (h2 (fun hx=>hin (inR_cons.1 hx).1))
   rw [z10_.l1,if_pos (by omega),if_pos (by omega),rdN_get ks j hj,wrapS (n:=(i:Int) - 1) (by omega) (by omega),btw_f,Option.bind_some,if_neg (by
    intro hx
    have:=of_decide_eq_true hx
    exact hin ⟨this.1,by omega⟩)]
def SOk (i:Nat) (e:IEx):Prop:=EOk (i:Int) e∧(tx (txs es) (i:Int)).length≤3000
def SsOk:Prop:=∀ i (h:i < es.length),SOk es i es[i]
theorem s0_ev (hn:es.length≤1048576) (hk:∀ e∈es,e.f1.size≤1048576∧e.f2.length≤1048576) (hd1:d.length≤1048576) (r:Bool):∀(q i:Nat),i + q=es.length→(∀ m (h:m < es.length),m < i→SOk es m es[m]) →
  (SsOk es→G es (fun k=>z10_.l3 k (incs (us0 es) (kids es es.length)) (outs es es.length) ((⟨a,b,c⟩:ILt) :: d) 0) r)→(¬ SsOk es→r=false) →
  G es (fun k=>z10_.l0 k (incs (us0 es) (kids es i)) (outs es i) (i:Int) es a b c d) r
 | 0,i,h,hd,h1,_=>by
  obtain rfl:i=es.length:=h
  refine G.step (fun m=>?_) (h1 (fun m hm=>hd m hm hm))
  rw [z10_.l0,if_neg (by omega),Option.bind_some,if_pos (by rw [List.length_singleton];omega)]
  rfl
 | q + 1,i,h,hd,h1,h2=>by
  have hi:i < es.length:=by omega
  have hkl:=hk es[i] (List.getElem_mem hi)
  have hE:incs (us0 es) (kids es (i + 1))=incs (incs (us0 es) (kids es i)) es[i].f2:=by
   show incs (us0 es) (kids es i ++ (es.getD i zE).f2)=_
   rw [incs_app,getD_in es i hi]
  have hpre:InR (i:Int) (kids es i):=by
   intro k hk2
   obtain⟨j,hj,hm⟩:=kids_mem es i k hk2
   rw [getD_in es j (by omega)]at hm
   have:=(hd j (by omega) hj).1.1 k hm
   omega
  have hcnt:=cnt_ok (kids es i) (us0 es) (by rw [us0_len];exact inR_le hpre (by omega)) (us0_at es)
  have hkl2:=kids_len es (fun e he=>(hk e he).2) i (by omega)
  have hb2:i * 1048576≤1048576 * 1048576:=Nat.mul_le_mul_right _ (by omega)
  have hout:=fun k h0 h1=>outs_at es i (by omega) k h0 h1
  have hsm:∀ k:Int,0≤k→k < (i:Int)→(tx (txs es) k).length≤3000:=fun k h0 h1=>by
   have:=(hd k.toNat (by omega) (by omega)).2
   rwa [show((k.toNat:Nat):Int)=k by omega]at this
  have hl1:=s1_ev es a b c d i (by omega) es[i].f2 hkl.2 es[i].f0 es[i].f1 (outs es i) r es[i].f2.length 0 (incs (us0 es) (kids es i)) (by omega) (by rw [incs_len,us0_len];omega) (fun m=>by
   have:=hcnt m
   omega)
   (fun hin=>by
    rw [List.drop_zero]at hin ⊢
    refine s1_end es a b c d i hi (by omega) es[i] hkl.2 hkl.1 hin _ (outs es i) (txs es) (outs_len es i (by omega)) hout hsm r (fun hx=>?_) (fun hx=>h2 (fun hy=>hx (by
     have hz:=hy i hi
     refine⟨hz.1.2, ?_⟩
     rw [← txs_one es i hi hz.1]
     exact hz.2)))
    have he:EOk (i:Int) es[i]:=⟨hin,hx.1⟩
    rw [← txs_one es i hi he,outs_set es i hi,← hE]
    refine s0_ev hn hk hd1 r q (i + 1) (by omega) (fun m hm hlt=>?_) h1 h2
    by_cases e:m=i
    ·subst e
     exact⟨he,by rw [txs_one es m hi he];exact hx.2⟩
    ·exact hd m hm (by omega))
   (fun hin=>by
    rw [List.drop_zero]at hin
    exact h2 (fun hx=>hin (hx i hi).1.1))
  refine G.step (fun m=>?_) hl1
  rw [z10_.l0,if_pos (by omega),if_pos (by omega)]
  have hrd:y23 es (i:Int)=es[i]:=getD_at _ es i hi
  rw [hrd]
  rfl
theorem s5_l (us:List Int) (o:List ByteArray) (hu:us.length≤1048576) (ho:o=(txs es).map B):∀(q i:Nat),i + q=us.length→G es (fun k=>z10_.l5 k us o (i:Int)) ((us.drop i).all (fun x=>x == 1))
 | 0,i,h=>by
  refine⟨o,y17 ⟨0,fun m _=>?_⟩,fun _=>ho⟩
  rw [z10_.l5,if_neg (by omega),List.drop_of_length_le (by omega)]
  rfl
 | q + 1,i,h=>by
  have hi:i < us.length:=by omega
  rw [List.drop_eq_getElem_cons hi,List.all_cons]
  by_cases e:us[i]=1
  ·rw [show(us[i] == 1)=true by simp [e],Bool.true_and]
   refine G.step (fun m=>?_) (s5_l us o hu ho q (i + 1) (by omega))
   rw [z10_.l5,if_pos (by omega),if_pos (by omega),rdN_get us i hi,if_pos e,step_i (by omega)]
  ·rw [show(us[i] == 1)=false by simp [e],Bool.false_and]
   refine G.no (o:=o) (fun m=>?_) rfl
   rw [z10_.l5,if_pos (by omega),if_pos (by omega),rdN_get us i hi,if_neg e]
theorem s4_ev (hn:es.length≤1048576) (ls:List ILt) (hls:ls.length≤1048577) (i:Nat) (hi:i < ls.length) (hk:ls[i].f2.length≤1048576) (o:List ByteArray) (r:Bool):∀(q j:Nat) (us:List Int),j + q=ls[i].f2.length→us.length=es.length→(∀ m,0≤us.getD m 0∧us.getD m 0≤4611686018427387904 - (q:Int)) →
  (InR (es.length:Int) (ls[i].f2.drop j)→G es (fun k=>z10_.l3 k (incs us (ls[i].f2.drop j)) o ls ((i + 1:Nat):Int)) r)→(¬ InR (es.length:Int) (ls[i].f2.drop j)→r=false) →
  G es (fun k=>z10_.l4 k us o ls (i:Int) (j:Int)) r
 | 0,j,us,h,_,_,h1,_=>by
  obtain rfl:j=ls[i].f2.length:=h
  rw [List.drop_length]at h1
  have hrd:y22 ls (i:Int)=ls[i]:=getD_at _ ls i hi
  refine G.step (fun m=>?_) (h1 (inR_nil _))
  rw [z10_.l4,if_pos (by omega),if_pos (by omega),hrd,if_neg (by omega),step_i (by omega)]
  rfl
 | q + 1,j,us,h,hu,hc,h1,h2=>by
  have hj:j < ls[i].f2.length:=by omega
  have hrd:y22 ls (i:Int)=ls[i]:=getD_at _ ls i hi
  rw [List.drop_eq_getElem_cons hj]at h1 h2
  by_cases hin:0≤ls[i].f2[j]∧ls[i].f2[j] < (es.length:Int)
  ·have hb:(bump us ls[i].f2[j]).length=us.length:=bump_len us _
   have ih:=s4_ev hn ls hls i hi hk o r q (j + 1) (bump us ls[i].f2[j]) (by omega) (by omega) (fun m=>by
    have hba:=bump_at us ls[i].f2[j] m (by omega)
    have:=hc m
    by_cases e:ls[i].f2[j].toNat=m
    ·rw [if_pos e]at hba
     omega
    ·rw [if_neg e]at hba
     omega) (fun hr=>h1 (inR_cons.2 ⟨hin,hr⟩)) (fun hr=>h2 (fun hx=>hr (inR_cons.1 hx).2))
   refine G.step (fun m=>?_) ih
   have hcm:=hc ls[i].f2[j].toNat
   have hru:rd us ls[i].f2[j]=us.getD ls[i].f2[j].toNat 0:=rfl
   rw [z10_.l4,if_pos (by omega),if_pos (by omega),hrd,if_pos (by omega),if_pos (by omega),rdN_get ls[i].f2 j hj,wrapS (n:=(us.length:Int) - 1) (by omega) (by omega),btw_f,Option.bind_some,if_pos (decide_eq_true ⟨hin.1,by omega⟩),if_pos hin.1,if_pos (by omega),wrapS (by omega) (by omega),step_i (by omega)]
   rfl
  ·refine G.no (o:=o) (fun m=>?_) (h2 (fun hx=>hin (inR_cons.1 hx).1))
   rw [z10_.l4,if_pos (by omega),if_pos (by omega),hrd,if_pos (by omega),if_pos (by omega),rdN_get ls[i].f2 j hj,wrapS (n:=(us.length:Int) - 1) (by omega) (by omega),btw_f,Option.bind_some,if_neg (by
    intro hx
    have:=of_decide_eq_true hx
    exact hin ⟨this.1,by omega⟩)]
def AsOk (ls:List ILt):Prop:=∀ i (h:i < ls.length),InR (es.length:Int) ls[i].f2
theorem s3_ev (hn:es.length≤1048576) (ls:List ILt) (hls:ls.length≤1048577) (hk:∀ l∈ls,l.f2.length≤1048576) (u:List Int) (hu:u.length=es.length) (hc:∀ m,0≤u.getD m 0∧u.getD m 0≤1099511627776) (o:List ByteArray) (ho:o=(txs es).map B) (r:Bool):∀(q i:Nat),i + q=ls.length→(∀ m (h:m < ls.length),m < i→InR (es.length:Int) ls[m].f2) →
  (AsOk es ls→r=(incs u (lat ls ls.length)).all (fun x=>x == 1))→(¬ AsOk es ls→r=false) →
  G es (fun k=>z10_.l3 k (incs u (lat ls i)) o ls (i:Int)) r
 | 0,i,h,hd,h1,_=>by
  obtain rfl:i=ls.length:=h
  rw [h1 (fun m hm=>hd m hm hm)]
  have:=s5_l es (incs u (lat ls ls.length)) o (by rw [incs_len];omega) ho (incs u (lat ls ls.length)).length 0 (by omega)
  rw [List.drop_zero]at this
  refine G.step (fun m=>?_) this
  rw [z10_.l3,if_neg (by omega)]
  rfl
 | q + 1,i,h,hd,h1,h2=>by
  have hi:i < ls.length:=by omega
  have hkl:=hk ls[i] (List.getElem_mem hi)
  have hE:incs u (lat ls (i + 1))=incs (incs u (lat ls i)) ls[i].f2:=by
   show incs u (lat ls i ++ (ls.getD i zL).f2)=_
   rw [incs_app,getD_l ls i hi]
  have hpre:InR (u.length:Int) (lat ls i):=by
   rw [hu]
   exact lat_in es.length ls i (by omega) (fun m hm hlt=>hd m hm hlt)
  have hl2:=lat_len ls hk i (by omega)
  have hb2:i * 1048576≤1048577 * 1048576:=Nat.mul_le_mul_right _ (by omega)
  have h4:=s4_ev es hn ls hls i hi hkl o r ls[i].f2.length 0 (incs u (lat ls i)) (by omega) (by rw [incs_len,hu]) (fun m=>by
   have g1:=incs_le (lat ls i) u m hpre
   have g2:=incs_up (lat ls i) u m hpre
   have g3:=hc m
   omega) (fun hin=>by
   rw [List.drop_zero]at hin ⊢
   rw [← hE]
   refine s3_ev hn ls hls hk u hu hc o ho r q (i + 1) (by omega) (fun m hm hlt=>?_) h1 h2
   by_cases e:m=i
   ·subst e
    exact hin
   ·exact hd m hm (by omega)) (fun hin=>by
   rw [List.drop_zero]at hin
   exact h2 (fun hx=>hin (hx i hi)))
  refine G.step (fun m=>?_) h4
  rw [z10_.l3,if_pos (by omega)]
  rfl
end
def Ref (es:List IEx) (h:ILt) (bd:List ILt):Prop:=SsOk es∧AsOk es (h :: bd)∧es.length≤60∧∀ x∈incs (incs (us0 es) (kids es es.length)) (lat (h :: bd) (h :: bd).length),x=1
open Classical in
theorem l04Exps_ev (es:List IEx) (h:ILt) (bd:List ILt) (hk:∀ e∈es,e.f1.size≤1048576∧e.f2.length≤1048576) (hh:h.f2.length≤1048576) (hb:bd.length≤1048576) (hbl:∀ l∈bd,l.f2.length≤1048576) :
  G es (fun k=>z10_.f k es h.f0 h.f1 h.f2 bd) (decide (Ref es h bd)):=by
 by_cases h60:es.length≤60
 ·have hkk:=kids_len es (fun e he=>(hk e he).2) es.length (Nat.le_refl _)
  have main:=s0_ev es h.f0 h.f1 h.f2 bd (by omega) hk hb (decide (Ref es h bd)) es.length 0 (by omega) (fun m _ hm=>absurd hm (Nat.not_lt_zero m))
   (fun hes=>by
    refine s3_ev es (by omega) (h :: bd) (by rw [List.length_cons];omega) (fun l hl=>?_) _ (by rw [incs_len,us0_len]) (fun m=>?_) _ (outs_all es) _ (h :: bd).length 0 (by omega) (fun m _ hm=>absurd hm (Nat.not_lt_zero m)) (fun hls=>?_) (fun hls=>?_)
    ·rcases List.mem_cons.1 hl with rfl|hl
     ·exact hh
     ·exact hbl l hl
    ·have:=cnt_ok (kids es es.length) (us0 es) (by rw [us0_len];exact kids_in es (fun i hi=>(hes i hi).1) es.length (Nat.le_refl _)) (us0_at es) m
     omega
    ·by_cases ho:∀ x∈incs (incs (us0 es) (kids es es.length)) (lat (h :: bd) (h :: bd).length),x=1
     ·rw [decide_eq_true (show Ref es h bd from⟨hes,hls,h60,ho⟩)]
      exact(List.all_eq_true.2 (fun x hx=>by simp [ho x hx])).symm
     ·rw [decide_eq_false (show ¬ Ref es h bd from fun hf=>ho hf.2.2.2)]
      refine(Bool.eq_false_iff.2 (fun hx=>ho (fun x hx2=>?_))).symm
      have:=List.all_eq_true.1 hx x hx2
      simpa using this
    ·exact decide_eq_false (fun hf=>hls hf.2.1))
   (fun hes=>decide_eq_false (fun hf=>hes hf.1))
  obtain⟨o,⟨K,main⟩,ho⟩:=main
  refine⟨o,⟨K,fun k hk=>?_⟩,ho⟩
  show z10_.f k es h.f0 h.f1 h.f2 bd=_
  unfold z10_.f
  rw [if_neg (by omega),if_pos (by omega),if_pos (by omega),if_pos (by omega)]
  have:=main k hk
  have hz:outs es 0=List.replicate es.length (⟨#[]⟩:ByteArray):=by
   unfold outs
   rw [List.take_zero]
   rfl
  rw [hz]at this
  exact this
 ·rw [decide_eq_false (fun hf:Ref es h bd=>h60 hf.2.2.1)]
  refine⟨[],⟨0,fun k _=>?_⟩,fun hx=>by cases hx⟩
  show z10_.f k es h.f0 h.f1 h.f2 bd=_
  unfold z10_.f
  rw [if_pos (by omega)]
end Go.Proofs.YtimhlficlhafbaaGreatDoor.QSpecE
