-- Cut by prune.py.
import Derived.Test.YtimhlficlhafbaaGreatDoorVvlQSpecE
namespace Go.Proofs.YtimhlficlhafbaaGreatDoor.QRuleT
open RowKit Pv YtimhlficlhafbaaGreatDoorW.PrintWords YtimhlficlhafbaaGreatDoorW.PrintLast QStr QGenR QRule QTree QText QForm QExpT QSpecE
def lits (T:List (List UInt8)) (bd:List ILt):List (List UInt8):=bd.map (lit T)
def rest (T:List (List UInt8)) (bd:List ILt):List UInt8:=if bd=[]then []else [32,58,45,32] ++ Lib.join (lits T bd) [44,32]
def whole (es:List IEx) (h:ILt) (bd:List ILt):List UInt8:=lit (txs es) h ++ rest (txs es) bd ++ [46]
theorem lens_mem:∀(xs:List (List UInt8)) (x:List UInt8),x∈xs→x.length≤Lib.lens xs
 | [],x,h=>by cases h
 | y :: r,x,h=>by
  have ih:=lens_mem r x
  unfold Lib.lens at ih ⊢
  rw [List.map_cons,List.sum_cons]
  rcases List.mem_cons.1 h with rfl|h
  ·omega
  ·have:=ih h
   omega
theorem join_length:∀(xs:List (List UInt8)),xs≠[]→(Lib.join xs [44,32]).length + 2=2 * xs.length + Lib.lens xs
 | [],h=>absurd rfl h
 | x :: r,_=>by
  rw [Lib.join_cons,List.length_append,Lib.joinTail_length]
  unfold Lib.lens
  rw [List.map_cons,List.sum_cons]
  show _ + (2 * r.length + _) + 2=2 * (r.length + 1) + _
  omega
theorem rest_le (T:List (List UInt8)) (bd:List ILt):(rest T bd).length≤Lib.lens (lits T bd) + 2 * bd.length + 4:=by
 unfold rest
 by_cases h:bd=[]
 ·rw [if_pos h]
  exact Nat.zero_le _
 ·have:=join_length (lits T bd) (fun hx=>h (List.map_eq_nil_iff.1 hx))
  rw [if_neg h,List.length_append]
  have hl:(lits T bd).length=bd.length:=List.length_map _
  show 4 + _≤_
  omega
theorem rest_mem (T:List (List UInt8)) (bd:List ILt) (l:ILt) (h:l∈bd):(lit T l).length≤(rest T bd).length:=by
 unfold rest
 have hne:bd≠[]:=fun hx=>by rw [hx]at h;cases h
 have h1:=join_length (lits T bd) (fun hx=>hne (List.map_eq_nil_iff.1 hx))
 have h2:=lens_mem (lits T bd) (lit T l) (List.mem_map_of_mem h)
 have h3:0 < bd.length:=List.length_pos_iff.2 hne
 have hl:(lits T bd).length=bd.length:=List.length_map _
 rw [if_neg hne,List.length_append]
 omega
theorem rest_len (T:List (List UInt8)) (bd:List ILt):2 * bd.length≤(rest T bd).length:=by
 unfold rest
 by_cases h:bd=[]
 ·rw [if_pos h,h]
  exact Nat.le_refl _
 ·have:=join_length (lits T bd) (fun hx=>h (List.map_eq_nil_iff.1 hx))
  have hl:(lits T bd).length=bd.length:=List.length_map _
  rw [if_neg h,List.length_append]
  show _≤4 + _
  omega
theorem lit_le (T:List (List UInt8)) (l:ILt) (h3:l.f0=3→l.f2.length=2):(lit T l).length≤l.f1.size + 4 + sm T l.f2 + 2 * l.f2.length:=by
 have hL:(L l.f1).length=l.f1.size:=L_length _
 unfold lit
 by_cases e3:l.f0=3
 ·have hs:sm T l.f2=(tx T (rd l.f2 0)).length + ((tx T (rd l.f2 1)).length + 0):=by
   conv=>lhs;rw [two (h3 e3)]
   rfl
  rw [if_pos e3,List.length_append,List.length_cons,List.length_append,List.length_cons]
  omega
 ·have:=join_le T l.f2
  rw [if_neg e3,List.length_append,List.length_append,List.length_cons,List.length_append]
  have h41:([41]:List UInt8).length=1:=rfl
  by_cases e2:l.f0=2
  ·rw [if_pos e2]
   show 1 + _≤_
   omega
  ·rw [if_neg e2]
   show 0 + _≤_
   omega
theorem lit_mem (T:List (List UInt8)) (l:ILt) (h3:l.f0=3→l.f2.length=2) (k:Int) (hk:k∈l.f2):(tx T k).length≤(lit T l).length:=by
 unfold lit
 by_cases e3:l.f0=3
 ·rw [if_pos e3,List.length_append,List.length_cons,List.length_append,List.length_cons]
  rw [two (h3 e3)]at hk
  rcases List.mem_cons.1 hk with rfl|hk
  ·omega
  ·rcases List.mem_cons.1 hk with rfl|hk
   ·omega
   ·cases hk
 ·have:=join_mem T l.f2 k hk
  rw [if_neg e3,List.length_append,List.length_append,List.length_cons,List.length_append]
  omega
theorem sm_le (T:List (List UInt8)) (n:Int) (M:Nat) (hT:∀ k,0≤k→k < n→(tx T k).length≤M):∀ ks,InR n ks→sm T ks≤ks.length * M
 | [],_=>Nat.zero_le _
 | k :: r,h=>by
  obtain⟨h1,h2⟩:=inR_cons.1 h
  have ih:=sm_le T n M hT r h2
  have:=hT k h1.1 h1.2
  show(tx T k).length + sm T r≤(r.length + 1) * M
  rw [Nat.add_mul]
  omega
theorem lens_lits (T:List (List UInt8)) (n:Nat) (hT:∀ k,0≤k→k < (n:Int)→(tx T k).length≤536870912) (ls:List ILt) (hl:∀ i (h:i < ls.length),InR (n:Int) ls[i].f2∧(ls[i].f0=3→ls[i].f2.length=2)) (hf:∀ l∈ls,l.f1.size≤1048576) :
  ∀ i,i≤ls.length→Lib.lens (lits T (ls.take i))≤i * 1048580 + (lat ls i).length * 536870914
 | 0,_=>by
  rw [List.take_zero]
  exact Nat.zero_le _
 | i + 1,hi=>by
  have ih:=lens_lits T n hT ls hl hf i (by omega)
  have h1:=hl i (by omega)
  have h2:=lit_le T ls[i] h1.2
  have h3:=sm_le T n 536870912 hT ls[i].f2 h1.1
  have h4:=hf ls[i] (List.getElem_mem (by omega))
  have e:lits T (ls.take (i + 1))=lits T (ls.take i) ++ [lit T ls[i]]:=by
   unfold lits
   rw [List.take_succ_eq_append_getElem (by omega),List.map_append]
   rfl
  have el:Lib.lens (lits T (ls.take i) ++ [lit T ls[i]])=Lib.lens (lits T (ls.take i)) + (lit T ls[i]).length:=by
   unfold Lib.lens
   rw [List.map_append,List.sum_append]
   rfl
  have ea:(lat ls (i + 1)).length=(lat ls i).length + ls[i].f2.length:=by
   show(lat ls i ++ (ls.getD i zL).f2).length=_
   rw [List.length_append,getD_l ls i (by omega)]
  rw [e,el,ea,Nat.add_mul,Nat.add_mul]
  omega
theorem frm_few (es:List IEx) (h:ILt) (bd:List ILt) (hf:Frm es h bd):(lat (h :: bd) (h :: bd).length).length≤60:=by
 obtain⟨h1,h2,h3,h4⟩:=hf
 have hk:=kids_in es h1 es.length (Nat.le_refl _)
 have hl:=lat_in es.length (h :: bd) (h :: bd).length (Nat.le_refl _) (fun m hm _=>(h2 m hm).1)
 have t1:=tot_incs (kids es es.length) (us0 es) (by rw [us0_len];exact hk)
 have t2:=tot_incs (lat (h :: bd) (h :: bd).length) (incs (us0 es) (kids es es.length)) (by rw [incs_len,us0_len];exact hl)
 have t3:=tot_ones _ h4
 have t4:=tot_zeros es.length
 rw [incs_len,incs_len,us0_len]at t3
 have t5:tot (us0 es)=0:=t4
 omega
theorem frm_one (es:List IEx) (h:ILt) (bd:List ILt) (hf:Frm es h bd) (j:Nat):(incs (us0 es) (kids es es.length)).getD j 0≤1:=by
 obtain⟨h1,h2,h3,h4⟩:=hf
 have hl:=lat_in es.length (h :: bd) (h :: bd).length (Nat.le_refl _) (fun m hm _=>(h2 m hm).1)
 have g:=incs_le (lat (h :: bd) (h :: bd).length) (incs (us0 es) (kids es es.length)) j (by rw [incs_len,us0_len];exact hl)
 by_cases hj:j < (incs (incs (us0 es) (kids es es.length)) (lat (h :: bd) (h :: bd).length)).length
 ·have:=h4 _ (List.getElem_mem hj)
  rw [List.getD_eq_getElem?_getD (l:=incs (incs _ _) _),List.getElem?_eq_getElem hj]at g
  simp only [Option.getD_some]at g
  omega
 ·rw [List.getD_eq_getElem?_getD,List.getElem?_eq_none (by rw [incs_len]at hj;omega)]
  decide
theorem lat_mem (ls:List ILt):∀ i,i≤ls.length→∀ k∈lat ls i,∃ j,∃ h:j < ls.length,k∈ls[j].f2
 | 0,_,k,hk=>by cases hk
 | i + 1,hi,k,hk=>by
  rcases List.mem_append.1 hk with hk|hk
  ·exact lat_mem ls i (by omega) k hk
  ·rw [getD_l ls i (by omega)]at hk
   exact⟨i,by omega,hk⟩
theorem in_whole (es:List IEx) (h:ILt) (bd:List ILt) (hf:Frm es h bd):∀(n i:Nat),es.length≤i + n→i < es.length→(tx (txs es) (i:Int)).length≤(whole es h bd).length
 | 0,i,h1,h2=>by omega
 | n + 1,i,h1,hi=>by
  have ih:=in_whole es h bd hf n
  obtain⟨f1,f2,f3,f4⟩:=hf
  have hk:=kids_in es f1 es.length (Nat.le_refl _)
  have hl:=lat_in es.length (h :: bd) (h :: bd).length (Nat.le_refl _) (fun m hm _=>(f2 m hm).1)
  have hwl:(whole es h bd).length=(lit (txs es) h).length + (rest (txs es) bd).length + 1:=by
   unfold whole
   rw [List.length_append,List.length_append]
   rfl
  by_cases m1:(i:Int)∈kids es es.length
  ·obtain⟨j,hj,hm⟩:=kids_mem es es.length (i:Int) m1
   rw [getD_in es j hj]at hm
   have hr:=(f1 j hj).1 _ hm
   have:=one_mem es es[j] (j:Int) (f1 j hj) (txs es) (i:Int) hm
   rw [← txs_at es f1 j hj]at this
   exact Nat.le_trans this (ih j (by omega) hj)
  ·by_cases m2:(i:Int)∈lat (h :: bd) (h :: bd).length
   ·obtain⟨j,hj,hm⟩:=lat_mem (h :: bd) (h :: bd).length (Nat.le_refl _) (i:Int) m2
    have hlo:=f2 j hj
    have g:=lit_mem (txs es) (h :: bd)[j] hlo.2.2.2.1 (i:Int) hm
    rcases List.mem_cons.1 (List.getElem_mem hj)with e|e
    ·rw [e]at g
     omega
    ·have:=rest_mem (txs es) bd _ e
     omega
   ·have e1:=incs_same (lat (h :: bd) (h :: bd).length) (incs (us0 es) (kids es es.length)) i (by rw [incs_len,us0_len];exact hl) m2
    have e2:=incs_same (kids es es.length) (us0 es) i (by rw [us0_len];exact hk) m1
    have hj:i < (incs (incs (us0 es) (kids es es.length)) (lat (h :: bd) (h :: bd).length)).length:=by
     rw [incs_len,incs_len,us0_len]
     exact hi
    have e3:=f4 _ (List.getElem_mem hj)
    rw [e2,us0_at,List.getD_eq_getElem?_getD,List.getElem?_eq_getElem hj]at e1
    simp only [Option.getD_some]at e1
    omega
open Classical in
noncomputable def ruleT (es:List IEx) (h:ILt) (bd:List ILt):List UInt8:=if Frm es h bd∧(whole es h bd).length≤3000 then whole es h bd else []
theorem take_lits (T:List (List UInt8)) (bd:List ILt):((bd.map (fun l=>B (lit T l)))).map L=lits T bd:=by
 rw [List.map_map]
 rfl
theorem rule_l (es:List IEx) (a:Int) (b:ByteArray) (c:List Int) (d bd:List ILt) (T:List (List UInt8)) (hb:bd.length≤1048576) (hev:∀ l∈bd,Ev (fun m=>z2_.f m es a b c d l.f0 l.f1 l.f2) (B (lit T l))) (s:List UInt8) (hl:s.length + (rest T bd).length≤70368744177664) (w:List UInt8) (hw:w=s ++ rest T bd ++ [46]) :
  ∀(q i:Nat),i + q=bd.length→Ev (fun m=>impl_ruleText.l0 m (B s) ((bd.take i).map (fun l=>B (lit T l))) bd (bd.length:Int) (i:Int) es a b c d) (B (if w.length≤3000 then w else []))
 | 0,i,h=>by
  obtain rfl:i=bd.length:=h
  have hwl:w.length=s.length + (rest T bd).length + 1:=by
   rw [hw,List.length_append,List.length_append]
   rfl
  refine y17 ⟨0,fun m _=>?_⟩
  rw [impl_ruleText.l0,if_neg (by omega),List.take_of_length_le (Nat.le_refl _),List.length_map]
  have z46:(⟨#[46]⟩:ByteArray).size=1:=rfl
  have z4:(⟨#[32,58,45,32]⟩:ByteArray).size=4:=rfl
  by_cases h0:bd=[]
  ·have hr:rest T bd=[]:=if_pos h0
   have hz:bd.length=0:=by rw [h0];rfl
   rw [hr,List.append_nil]at hw
   rw [hr]at hwl hl
   have hwl2:w.length=s.length + 1:=hwl
   rw [if_neg (by omega),if_pos (by rw [sizeB];omega)]
   show(if((B s ++ B [46]).size:Int) > 3000 then some (B [])else some (B s ++ B [46]))=_
   rw [y3,← hw,sizeB]
   by_cases h3:w.length≤3000
   ·rw [if_pos h3,if_neg (by omega)]
   ·rw [if_neg h3,if_pos (by omega)]
  ·have hpos:0 < bd.length:=List.length_pos_iff.2 h0
   have hr:rest T bd=[32,58,45,32] ++ Lib.join (lits T bd) [44,32]:=if_neg h0
   have hrl:(rest T bd).length=4 + (Lib.join (lits T bd) [44,32]).length:=by
    rw [hr,List.length_append]
    rfl
   rw [if_pos (by omega),join_f _ (by rw [take_lits];omega) (by rw [List.length_map];omega),Option.bind_some,take_lits,if_pos (by rw [sizeB];omega),if_pos (by rw [ByteArray.size_append,sizeB,sizeB,z4];omega),if_pos (by rw [ByteArray.size_append,ByteArray.size_append,sizeB,sizeB,z4];omega)]
   show(if((B s ++ (B [32,58,45,32] ++ B _) ++ B [46]).size:Int) > 3000 then some (B [])else some (B s ++ (B [32,58,45,32] ++ B _) ++ B [46]))=_
   rw [y3,y3,y3,← hr,← hw,sizeB]
   by_cases h3:w.length≤3000
   ·rw [if_pos h3,if_neg (by omega)]
   ·rw [if_neg h3,if_pos (by omega)]
 | q + 1,i,h=>by
  have hi:i < bd.length:=by omega
  obtain⟨K1,h1⟩:=hev bd[i] (List.getElem_mem hi)
  obtain⟨K2,h2⟩:=rule_l es a b c d bd T hb hev s hl w hw q (i + 1) (by omega)
  refine y17 ⟨max K1 K2,fun m hm=>?_⟩
  have e1:=h1 m (by omega)
  have e2:=h2 m (by omega)
  simp only []at e1 e2
  have hrd:y22 bd (i:Int)=bd[i]:=getD_at _ bd i hi
  rw [List.take_succ_eq_append_getElem hi,List.map_append]at e2
  rw [impl_ruleText.l0,if_pos (by omega),if_pos (by omega),if_pos (by omega),hrd,e1,Option.bind_some,if_pos (by rw [List.length_map,List.length_take];omega),step_i (by omega)]
  exact e2
def FewR (es:List IEx) (h:ILt) (bd:List ILt):Prop:=es.length≤1048576∧(∀ e∈es,e.f1.size≤1048576∧e.f2.length≤1048576)∧(h.f1.size≤1048576∧h.f2.length≤1048576)∧bd.length≤1048576∧∀ l∈bd,l.f1.size≤1048576∧l.f2.length≤1048576
theorem impl_ev (es:List IEx) (h:ILt) (bd:List ILt) (hw:FewR es h bd):Ev (fun k=>impl_ruleText.f k es h.f0 h.f1 h.f2 bd) (B (ruleT es h bd)):=by
 obtain⟨w1,w2,w3,w4,w5⟩:=hw
 have hfm:=isFormed_ev es h bd w1 (fun e he=>(w2 e he).2) w3.2 w4 (fun l hl=>(w5 l hl).2)
 by_cases hf:Frm es h bd
 ·rw [show @decide (Frm es h bd) (Classical.propDecidable _)=true from @decide_eq_true _ (Classical.propDecidable _) hf]at hfm
  have hb:=tree_bound es hf.1 hf.2.2.1 w2 (frm_one es h bd hf)
  have hb2:∀ k:Int,0≤k→k < (es.length:Int)→(tx (txs es) k).length≤536870912:=fun k h0 h1=>by
   have:=hb k.toNat (by omega)
   rwa [show((k.toNat:Nat):Int)=k by omega]at this
  have hev:∀ k:Int,0≤k→k < (es.length:Int)→Ev (fun m=>z0_.f m es h.f0 h.f1 h.f2 bd k) (B (tx (txs es) k)):=fun k h0 h1=>by
   have:=expText_ev es h.f0 h.f1 h.f2 bd hf.1 w1 (fun e he=>(w2 e he).2) hb es.length k.toNat (by omega) (by omega)
   rwa [show((k.toNat:Nat):Int)=k by omega]at this
  have hlo:=hf.2.1
  have hl:=lens_lits (txs es) es.length hb2 (h :: bd) (fun i hi=>⟨(hlo i hi).1,(hlo i hi).2.2.2.1⟩) (fun l hl=>by
   rcases List.mem_cons.1 hl with rfl|hl
   ·exact w3.1
   ·exact(w5 l hl).1) (h :: bd).length (Nat.le_refl _)
  have hfew:=frm_few es h bd hf
  rw [List.take_of_length_le (Nat.le_refl _)]at hl
  have hls:Lib.lens (lits (txs es) (h :: bd))=(lit (txs es) h).length + Lib.lens (lits (txs es) bd):=by
   unfold lits Lib.lens
   rw [List.map_cons,List.map_cons,List.sum_cons]
  have hlen:(h :: bd).length=bd.length + 1:=rfl
  have hb3:(h :: bd).length * 1048580≤1048577 * 1048580:=Nat.mul_le_mul_right _ (by omega)
  have hb4:(lat (h :: bd) (h :: bd).length).length * 536870914≤60 * 536870914:=Nat.mul_le_mul_right _ hfew
  have hrl:=rest_le (txs es) bd
  have hmem:∀ l∈bd,(lit (txs es) l).length≤(rest (txs es) bd).length:=fun l hl=>rest_mem (txs es) bd l hl
  have h0:=hlo 0 (by rw [hlen];omega)
  have hlit0:=lit_ev es h.f0 h.f1 h.f2 bd (txs es) hev h h0.1 h0.2.2.2.1 w3.2 (by omega)
  have hlits:∀ l∈bd,Ev (fun m=>z2_.f m es h.f0 h.f1 h.f2 bd l.f0 l.f1 l.f2) (B (lit (txs es) l)):=fun l hl=>by
   obtain⟨j,hj,rfl⟩:=List.getElem_of_mem hl
   have hj2:=hlo (j + 1) (by rw [hlen];omega)
   rw [List.getElem_cons_succ]at hj2
   have:=hmem _ hl
   exact lit_ev es h.f0 h.f1 h.f2 bd (txs es) hev bd[j] hj2.1 hj2.2.2.2.1 (w5 _ hl).2 (by omega)
  have hr:=rule_l es h.f0 h.f1 h.f2 bd bd (txs es) w4 hlits (lit (txs es) h) (by omega) (whole es h bd) rfl bd.length 0 (by omega)
  have he:ruleT es h bd=if(whole es h bd).length≤3000 then whole es h bd else []:=by
   unfold ruleT
   by_cases h3:(whole es h bd).length≤3000
   ·rw [if_pos h3,if_pos ⟨hf,h3⟩]
   ·rw [if_neg h3,if_neg (fun hx=>h3 hx.2)]
  rw [he]
  obtain⟨K1,g1⟩:=hfm
  obtain⟨K2,g2⟩:=hlit0
  obtain⟨K3,g3⟩:=hr
  refine⟨max K1 (max K2 K3),fun k hk=>?_⟩
  have e1:=g1 k (by omega)
  have e2:=g2 k (by omega)
  have e3:=g3 k (by omega)
  simp only []at e1 e2 e3
  rw [List.take_zero]at e3
  show impl_ruleText.f k es h.f0 h.f1 h.f2 bd=_
  unfold impl_ruleText.f
  rw [e1,Option.bind_some,if_pos rfl,e2,Option.bind_some]
  exact e3
 ·rw [show @decide (Frm es h bd) (Classical.propDecidable _)=false from @decide_eq_false _ (Classical.propDecidable _) hf]at hfm
  obtain⟨K1,g1⟩:=hfm
  refine⟨K1,fun k hk=>?_⟩
  have e1:=g1 k hk
  simp only []at e1
  show impl_ruleText.f k es h.f0 h.f1 h.f2 bd=_
  unfold impl_ruleText.f ruleT
  rw [e1,Option.bind_some,if_neg (by decide),if_neg (fun hx=>hf hx.1)]
  rfl
def LitOk (l:ILt):Prop:=(l.f0=3∧l.f2.length=2)∨l.f0=1∨l.f0=2
theorem slit_l (o:List ByteArray) (T:List (List UInt8)) (ks:List Int) (hk:ks.length≤1048576) (n:Nat) (hn:n=o.length) (hin:InR (n:Int) ks) (ho:∀ k,0≤k→k < (n:Int)→rdOf ByteArray.empty o k=B (tx T k)) (hs:∀ k,0≤k→k < (n:Int)→(tx T k).length≤3000) (f0:Int) (f1:ByteArray) :
  ∀(q j:Nat) (s:List UInt8),j + q=ks.length→0 < j→s.length + q * 3002≤70368744177664 →
  Ev (fun k=>spec_l04Lit.l0 k o (B s) (j:Int) f0 f1 ks) (B (s ++ Lib.joinTail [44,32] ((ks.map (tx T)).drop j) ++ [41]),decide (f0=1∨f0=2))
 | 0,j,s,h,_,hl=>by
  obtain rfl:j=ks.length:=h
  refine y17 ⟨0,fun m _=>?_⟩
  rw [List.drop_of_length_le (by rw [List.length_map];exact Nat.le_refl _),show Lib.joinTail [44,32] []=[]from rfl,List.append_nil,spec_l04Lit.l0,if_neg (by omega),if_pos (by rw [sizeB];omega)]
  show(if f0=1 then some (B s ++ B [41],true)else some (B s ++ B [41],(f0 == 2)))=_
  rw [y3]
  by_cases e1:f0=1
  ·rw [if_pos e1,decide_eq_true (Or.inl e1)]
  ·rw [if_neg e1]
   by_cases e2:f0=2
   ·rw [decide_eq_true (Or.inr e2),e2]
    rfl
   ·rw [decide_eq_false (fun hx=>hx.elim e1 e2),show(f0 == 2)=false by simp [e2]]
 | q + 1,j,s,h,h0,hl=>by
  have hj:j < ks.length:=by omega
  have hr:=hin _ (List.getElem_mem hj)
  have hsj:=hs _ hr.1 hr.2
  have ht:Lib.joinTail [44,32] ((ks.map (tx T)).drop j)=[44,32] ++ tx T ks[j] ++ Lib.joinTail [44,32] ((ks.map (tx T)).drop (j + 1)):=by
   rw [List.drop_eq_getElem_cons (by rw [List.length_map];exact hj),List.getElem_map]
   simp [Lib.joinTail]
  obtain⟨K,ih⟩:=slit_l o T ks hk n hn hin ho hs f0 f1 q (j + 1) (s ++ [44,32] ++ tx T ks[j]) (by omega) (by omega) (by
   rw [List.length_append,List.length_append]
   show s.length + 2 + _ + _≤_
   omega)
  refine y17 ⟨K,fun m hm=>?_⟩
  have e:=ih m hm
  simp only []at e
  have z2:(⟨#[44,32]⟩:ByteArray).size=2:=rfl
  rw [spec_l04Lit.l0,if_pos (by omega),if_pos (by omega),if_pos (by rw [sizeB];omega),if_pos (by omega),rdN_get ks j hj,if_pos hr.1,if_pos (by omega),ho _ hr.1 hr.2,if_pos (by rw [ByteArray.size_append,sizeB,sizeB,z2];omega),step_i (by omega)]
  show spec_l04Lit.l0 m o (B s ++ B [44,32] ++ B (tx T ks[j])) _ f0 f1 ks=_
  rw [y3,y3,e,ht]
  simp only [List.append_assoc]
theorem slit_0 (o:List ByteArray) (T:List (List UInt8)) (ks:List Int) (hk:ks.length≤1048576) (n:Nat) (hn:n=o.length) (hin:InR (n:Int) ks) (ho:∀ k,0≤k→k < (n:Int)→rdOf ByteArray.empty o k=B (tx T k)) (hs:∀ k,0≤k→k < (n:Int)→(tx T k).length≤3000) (f0:Int) (f1:ByteArray)
  (s:List UInt8) (hl:s.length≤2097152):Ev (fun k=>spec_l04Lit.l0 k o (B s) 0 f0 f1 ks) (B (s ++ Lib.join (ks.map (tx T)) [44,32] ++ [41]),decide (f0=1∨f0=2)):=by
 by_cases h0:ks=[]
 ·have hz:ks.length=0:=by rw [h0];rfl
  refine y17 ⟨0,fun m _=>?_⟩
  rw [spec_l04Lit.l0,if_neg (by omega),if_pos (by rw [sizeB];omega)]
  show(if f0=1 then some (B s ++ B [41],true)else some (B s ++ B [41],(f0 == 2)))=_
  rw [y3,h0,List.map_nil,Lib.join_nil,List.append_nil]
  by_cases e1:f0=1
  ·rw [if_pos e1,decide_eq_true (Or.inl e1)]
  ·rw [if_neg e1]
   by_cases e2:f0=2
   ·rw [decide_eq_true (Or.inr e2),e2]
    rfl
   ·rw [decide_eq_false (fun hx=>hx.elim e1 e2),show(f0 == 2)=false by simp [e2]]
 ·have hpos:0 < ks.length:=List.length_pos_iff.2 h0
  have hr:=hin _ (List.getElem_mem hpos)
  have hs0:=hs _ hr.1 hr.2
  obtain⟨K,h⟩:=slit_l o T ks hk n hn hin ho hs f0 f1 (ks.length - 1) 1 (s ++ tx T ks[0]) (by omega) (by omega) (by rw [List.length_append];omega)
  have hjoin:Lib.join (ks.map (tx T)) [44,32]=tx T ks[0] ++ Lib.joinTail [44,32] ((ks.map (tx T)).drop 1):=by
   cases ks with
   | nil=>exact absurd rfl h0
   | cons x y =>
    rw [List.map_cons,Lib.join_cons]
    rfl
  refine y17 ⟨K,fun m hm=>?_⟩
  have e:=h m hm
  simp only []at e
  have hrd:rd ks 0=ks[0]:=rdN_get ks 0 hpos
  rw [spec_l04Lit.l0,if_pos (by omega),if_neg (by omega),if_pos (by omega),hrd,if_pos hr.1,if_pos (by omega),ho _ hr.1 hr.2,if_pos (by rw [sizeB,sizeB];omega),y3,show wrap64 ((0:Int) + 1)=((1:Nat):Int)from by rw [wrapS (by omega) (by omega)];rfl,e,hjoin]
  simp only [List.append_assoc]
open Classical in
theorem slit_ev (o:List ByteArray) (T:List (List UInt8)) (l:ILt) (hk:l.f2.length≤1048576) (hf:l.f1.size≤1048576) (n:Nat) (hn:n=o.length) (hin:InR (n:Int) l.f2) (ho:∀ k,0≤k→k < (n:Int)→rdOf ByteArray.empty o k=B (tx T k)) (hs:∀ k,0≤k→k < (n:Int)→(tx T k).length≤3000) :
  ∃ x,Ev (fun k=>spec_l04Lit.f k l.f0 l.f1 l.f2 o) (x,decide (LitOk l))∧(LitOk l→x=B (lit T l)):=by
 have hL:(L l.f1).length=l.f1.size:=L_length _
 by_cases e3:l.f0=3
 ·by_cases hl2:l.f2.length=2
  ·have r0:=hin _ (rd_mem (ks:=l.f2) (j:=0) (by omega))
   have r1:=hin _ (rd_mem (ks:=l.f2) (j:=1) (by omega))
   simp only [show(((0:Nat):Int))=0 from rfl,show(((1:Nat):Int))=1 from rfl]at r0 r1
   have s0:=hs _ r0.1 r0.2
   have s1:=hs _ r1.1 r1.2
   have hok:LitOk l:=Or.inl ⟨e3,hl2⟩
   refine⟨B (lit T l),⟨0,fun k _=>?_⟩,fun _=>rfl⟩
   show spec_l04Lit.f k l.f0 l.f1 l.f2 o=_
   unfold spec_l04Lit.f lit
   have z32:(⟨#[32]⟩:ByteArray).size=1:=rfl
   rw [decide_eq_true hok,if_pos e3,if_pos e3,if_pos (by omega),if_pos (by omega),if_pos r0.1,if_pos (by omega),ho _ r0.1 r0.2,if_pos (by rw [sizeB];omega),if_pos (by rw [ByteArray.size_append,sizeB,z32];omega),if_pos (by rw [ByteArray.size_append,ByteArray.size_append,sizeB,z32];omega),if_pos (by omega),if_pos r1.1,if_pos (by omega),ho _ r1.1 r1.2,
    if_pos (by rw [ByteArray.size_append,ByteArray.size_append,ByteArray.size_append,sizeB,sizeB,z32];omega)]
   show some (B _ ++ B [32] ++ l.f1 ++ B [32] ++ B _,true)=_
   rw [← B_L l.f1,y3,y3,y3,y3,L_B]
   simp only [List.append_assoc,List.cons_append,List.nil_append]
  ·have hno:¬ LitOk l:=fun hx=>hx.elim (fun hy=>hl2 hy.2) (fun hy=>by omega)
   refine⟨B [],⟨0,fun k _=>?_⟩,fun hx=>absurd hx hno⟩
   show spec_l04Lit.f k l.f0 l.f1 l.f2 o=_
   unfold spec_l04Lit.f
   rw [decide_eq_false hno,if_pos e3,if_neg (by omega)]
   rfl
 ·have hiff:decide (LitOk l)=decide (l.f0=1∨l.f0=2):=decide_eq_decide.2 ⟨fun hx=>hx.elim (fun hy=>absurd hy.1 e3) id,Or.inr⟩
  obtain⟨K,h⟩:=slit_0 o T l.f2 hk n hn hin ho hs l.f0 l.f1 ((if l.f0=2 then [33]else []) ++ (L l.f1 ++ [40])) (by
   rw [List.length_append,List.length_append]
   have:([40]:List UInt8).length=1:=rfl
   by_cases e2:l.f0=2
   ·rw [if_pos e2]
    show 1 + _≤_
    omega
   ·rw [if_neg e2]
    show 0 + _≤_
    omega)
  refine⟨B (lit T l),⟨K + 1,fun k hk2=>?_⟩,fun _=>rfl⟩
  obtain⟨k,rfl⟩:∃ m,k=m + 1:=⟨k - 1,by omega⟩
  have e:=h k (by omega)
  simp only []at e
  rw [hiff]
  show spec_l04Lit.f (k + 1) l.f0 l.f1 l.f2 o=_
  unfold spec_l04Lit.f lit
  have z33:(⟨#[33]⟩:ByteArray).size=1:=rfl
  have z40:(⟨#[40]⟩:ByteArray).size=1:=rfl
  rw [if_neg e3,if_neg e3,if_pos (by omega)]
  by_cases e2:l.f0=2
  ·rw [if_pos e2]at e
   rw [if_pos e2,if_pos e2,if_pos (by rw [ByteArray.size_append,z40];omega),spec_l04Lit.j0]
   have hx:(⟨#[33]⟩:ByteArray) ++ (l.f1 ++ (⟨#[40]⟩:ByteArray))=B ([33] ++ (L l.f1 ++ [40])):=by
    show B [33] ++ (l.f1 ++ B [40])=_
    rw [← B_L l.f1,y3,y3,L_B]
   rw [hx,e]
   simp only [List.append_assoc,List.cons_append,List.nil_append]
  ·rw [if_neg e2]at e
   rw [if_neg e2,if_neg e2,spec_l04Lit.j0]
   have hx:l.f1 ++ (⟨#[40]⟩:ByteArray)=B ([] ++ (L l.f1 ++ [40])):=by
    show l.f1 ++ B [40]=_
    rw [← B_L l.f1,y3,L_B,List.nil_append]
   rw [hx,e]
   simp only [List.append_assoc,List.cons_append,List.nil_append]
def behind (T:List (List UInt8)) (bd:List ILt) (i:Nat):List UInt8:=if i=0 then rest T bd else Lib.joinTail [44,32] ((lits T bd).drop i)
theorem behind_end (T:List (List UInt8)) (bd:List ILt):behind T bd bd.length=[]:=by
 unfold behind
 by_cases h:bd.length=0
 ·rw [if_pos h]
  exact if_pos (List.length_eq_zero_iff.1 h)
 ·rw [if_neg h,List.drop_of_length_le (by unfold lits;rw [List.length_map];exact Nat.le_refl _)]
  rfl
theorem behind_at (T:List (List UInt8)) (bd:List ILt) (i:Nat) (h:i < bd.length):behind T bd i=(if i=0 then [32,58,45,32]else [44,32]) ++ lit T bd[i] ++ behind T bd (i + 1):=by
 unfold behind
 rw [if_neg (Nat.succ_ne_zero i)]
 by_cases h0:i=0
 ·subst h0
  rw [if_pos rfl,if_pos rfl]
  unfold rest
  rw [if_neg (fun hx=>by rw [hx]at h;exact absurd h (by decide))]
  cases bd with
  | nil=>exact absurd h (by decide)
  | cons x y =>
   unfold lits
   rw [List.map_cons,Lib.join_cons]
   simp only [List.append_assoc,List.getElem_cons_zero,List.drop_succ_cons,List.drop_zero]
 ·rw [if_neg h0,if_neg h0]
  unfold lits
  rw [List.drop_eq_getElem_cons (by rw [List.length_map];exact h),List.getElem_map]
  simp [Lib.joinTail]
open Classical in
theorem srule_l (es:List IEx) (a:Int) (b:ByteArray) (c:List Int) (bd:List ILt) (o:List ByteArray) (T:List (List UInt8)) (hb:bd.length≤1048576) (n:Nat) (hn:n=o.length) (hin:∀ l∈bd,InR (n:Int) l.f2) (ho:∀ k,0≤k→k < (n:Int)→rdOf ByteArray.empty o k=B (tx T k)) (hs:∀ k,0≤k→k < (n:Int)→(tx T k).length≤3000)
  (hk:∀ l∈bd,l.f1.size≤1048576∧l.f2.length≤1048576) :
  ∀(q i:Nat) (s:List UInt8),i + q=bd.length→s.length≤70368744177664→Ev (fun k=>z5_.l0 k o (B s) (i:Int) es a b c bd) (B (if(∀ m (h:m < bd.length),i≤m→LitOk bd[m])∧(s ++ behind T bd i ++ [46]).length≤3000 then s ++ behind T bd i ++ [46]else []))
 | q,i,s,h,hl=>by
  have hstop:∀ m,z5_.j2 (m + 1) o (B s) (i:Int) false es a b c bd=some (B (if s.length + 1≤3000 then s ++ [46]else [])):=by
   intro m
   rw [z5_.j2,if_neg (by decide),if_pos (by rw [sizeB];omega)]
   show(if((B s ++ B [46]).size:Int) > 3000 then some (B [])else some (B s ++ B [46]))=_
   rw [y3,sizeB,List.length_append]
   have h1:([46]:List UInt8).length=1:=rfl
   by_cases h3:s.length + 1≤3000
   ·rw [if_pos h3,if_neg (by omega)]
   ·rw [if_neg h3,if_pos (by omega)]
  by_cases hi:i < bd.length
  ·by_cases hsh:s.length≤3000
   ·have hmem:bd[i]∈bd:=List.getElem_mem hi
    have hrd:y22 bd (i:Int)=bd[i]:=getD_at _ bd i hi
    obtain⟨x,⟨K1,hx⟩,hx2⟩:=slit_ev o T bd[i] (hk _ hmem).2 (hk _ hmem).1 n hn (hin _ hmem) ho hs
    have hll:LitOk bd[i]→(lit T bd[i]).length≤1048580 + 1048576 * 3002:=fun hok=>by
     have h1:=lit_le T bd[i] (fun h3=>hok.elim (fun hy=>hy.2) (fun hy=>by omega))
     have h2:=sm_le T n 3000 hs bd[i].f2 (hin _ hmem)
     have h3:=hk _ hmem
     omega
    match q,h with
    | 0,h=>exact absurd h (by omega)
    | q + 1,h =>
    have ih:=fun(hok:LitOk bd[i])=>srule_l es a b c bd o T hb n hn hin ho hs hk q (i + 1) (s ++ (if i=0 then [32,58,45,32]else [44,32]) ++ lit T bd[i]) (by omega) (by
     have:=hll hok
     rw [List.length_append,List.length_append]
     have h4:(if i=0 then [32,58,45,32]else [44,32]:List UInt8).length≤4:=by
      by_cases h0:i=0
      ·rw [if_pos h0]
       exact Nat.le_refl _
      ·rw [if_neg h0]
       decide
     omega)
    by_cases hok:LitOk bd[i]
    ·obtain⟨K2,ih⟩:=ih hok
     have hll2:=hll hok
     refine y17 ⟨max K1 K2 + 1,fun m hm=>?_⟩
     obtain⟨m,rfl⟩:∃ p,m=p + 1:=⟨m - 1,by omega⟩
     have e1:=hx m (by omega)
     have e2:=ih m (by omega)
     simp only []at e1 e2
     rw [decide_eq_true hok,hx2 hok]at e1
     have hcond:((∀ m (h:m < bd.length),i + 1≤m→LitOk bd[m])∧(s ++ (if i=0 then [32,58,45,32]else [44,32]) ++ lit T bd[i] ++ behind T bd (i + 1) ++ [46]).length≤3000)↔((∀ m (h:m < bd.length),i≤m→LitOk bd[m])∧(s ++ behind T bd i ++ [46]).length≤3000):=by
      rw [behind_at T bd i hi]
      simp only [List.append_assoc]
      refine and_congr ⟨fun h p hp hip=>?_,fun h p hp hip=>h p hp (by omega)⟩ Iff.rfl
      by_cases e:p=i
      ·subst e
       exact hok
      ·exact h p hp (by omega)
     have hres:(if(∀ m (h:m < bd.length),i + 1≤m→LitOk bd[m])∧(s ++ (if i=0 then [32,58,45,32]else [44,32]) ++ lit T bd[i] ++ behind T bd (i + 1) ++ [46]).length≤3000 then s ++ (if i=0 then [32,58,45,32]else [44,32]) ++ lit T bd[i] ++ behind T bd (i + 1) ++ [46]else [])=(if(∀ m (h:m < bd.length),i≤m→LitOk bd[m])∧(s ++ behind T bd i ++ [46]).length≤3000 then s ++ behind T bd i ++ [46]else []):=by
      refine ite_congr (propext hcond) (fun _=>?_) (fun _=>rfl)
      rw [behind_at T bd i hi]
      simp only [List.append_assoc]
     rw [hres]at e2
     rw [z5_.l0,if_pos (by omega),decide_eq_true (by rw [sizeB];omega),z5_.j2,if_pos rfl]
     have z4:(⟨#[32,58,45,32]⟩:ByteArray).size=4:=rfl
     have z2:(⟨#[44,32]⟩:ByteArray).size=2:=rfl
     by_cases h0:i=0
     ·rw [if_pos h0]at e2
      rw [if_pos (by omega),if_pos (by rw [sizeB];omega),if_pos (by omega),if_pos (by omega),hrd,e1,Option.bind_some,if_pos rfl,if_pos (by rw [ByteArray.size_append,sizeB,sizeB,z4];omega),step_i (by omega)]
      show z5_.l0 m o (B s ++ B [32,58,45,32] ++ B (lit T bd[i])) _ es a b c bd=_
      rw [y3,y3]
      exact e2
     ·rw [if_neg h0]at e2
      rw [if_neg (by omega),if_pos (by rw [sizeB];omega),if_pos (by omega),if_pos (by omega),hrd,e1,Option.bind_some,if_pos rfl,if_pos (by rw [ByteArray.size_append,sizeB,sizeB,z2];omega),step_i (by omega)]
      show z5_.l0 m o (B s ++ B [44,32] ++ B (lit T bd[i])) _ es a b c bd=_
      rw [y3,y3]
      exact e2
    ·refine y17 ⟨K1 + 1,fun m hm=>?_⟩
     obtain⟨m,rfl⟩:∃ p,m=p + 1:=⟨m - 1,by omega⟩
     have e1:=hx m (by omega)
     simp only []at e1
     rw [decide_eq_false hok]at e1
     rw [if_neg (fun hy=>hok (hy.1 i hi (Nat.le_refl _))),z5_.l0,if_pos (by omega),decide_eq_true (by rw [sizeB];omega),z5_.j2,if_pos rfl]
     by_cases h0:i=0
     ·rw [if_pos (by omega),if_pos (by rw [sizeB];omega),if_pos (by omega),if_pos (by omega),hrd,e1,Option.bind_some,if_neg (show ¬(false=true)from by decide)]
      rfl
     ·rw [if_neg (by omega),if_pos (by rw [sizeB];omega),if_pos (by omega),if_pos (by omega),hrd,e1,Option.bind_some,if_neg (show ¬(false=true)from by decide)]
      rfl
   ·refine y17 ⟨1,fun m hm=>?_⟩
    obtain⟨m,rfl⟩:∃ p,m=p + 1:=⟨m - 1,by omega⟩
    rw [z5_.l0,if_pos (by omega),decide_eq_false (by rw [sizeB];omega),hstop m,if_neg (by omega),if_neg (fun hy=>by
     have:=hy.2
     rw [List.length_append,List.length_append]at this
     omega)]
  ·obtain rfl:i=bd.length:=by omega
   refine y17 ⟨1,fun m hm=>?_⟩
   obtain⟨m,rfl⟩:∃ p,m=p + 1:=⟨m - 1,by omega⟩
   rw [z5_.l0,if_neg (by omega),hstop m,behind_end,List.append_nil]
   have h1:(s ++ [46]).length=s.length + 1:=by rw [List.length_append];rfl
   by_cases h3:s.length + 1≤3000
   ·rw [if_pos h3,if_pos ⟨fun p hp hip=>by omega,by omega⟩]
   ·rw [if_neg h3,if_neg (fun hy=>by have:=hy.2;omega)]
theorem spec_ev (es:List IEx) (h:ILt) (bd:List ILt) (hw:FewR es h bd):Ev (fun k=>z5_.f k es h.f0 h.f1 h.f2 bd) (B (ruleT es h bd)):=by
 obtain⟨w1,w2,w3,w4,w5⟩:=hw
 obtain⟨o,⟨K1,g1⟩,ho⟩:=l04Exps_ev es h bd w2 w3.2 w4 (fun l hl=>(w5 l hl).2)
 have hlen:(h :: bd).length=bd.length + 1:=rfl
 have hwl:(whole es h bd).length=(lit (txs es) h).length + (rest (txs es) bd).length + 1:=by
  unfold whole
  rw [List.length_append,List.length_append]
  rfl
 have hto:Frm es h bd∧(whole es h bd).length≤3000→bd.length≤3000∧Ref es h bd∧h.f0=1∧LitOk h∧∀ m (hm:m < bd.length),0≤m→LitOk bd[m]:=by
  intro⟨hf,hl⟩
  have hr:=rest_len (txs es) bd
  have hin:=in_whole es h bd hf es.length
  obtain⟨f1,f2,f3,f4⟩:=hf
  have hlit:∀ l,1≤l.f0→l.f0≤3→(l.f0=3→l.f2.length=2)→LitOk l:=fun l h1 h2 h3=>by
   unfold LitOk
   by_cases e:l.f0=3
   ·exact Or.inl ⟨e,h3 e⟩
   ·exact Or.inr (by omega)
  have h0:=f2 0 (by rw [hlen];omega)
  refine⟨by omega,⟨fun i hi=>⟨f1 i hi,Nat.le_trans (hin i (by omega) hi) hl⟩,fun i hi=>(f2 i hi).1,f3,f4⟩,h0.2.2.2.2 rfl,hlit _ h0.2.1 h0.2.2.1 h0.2.2.2.1,fun m hm _=>?_⟩
  have:=f2 (m + 1) (by rw [hlen];omega)
  rw [List.getElem_cons_succ]at this
  exact hlit _ this.2.1 this.2.2.1 this.2.2.2.1
 have hno:¬(Frm es h bd∧(whole es h bd).length≤3000)→ruleT es h bd=[]:=fun hx=>by
  unfold ruleT
  rw [if_neg hx]
 by_cases hb3:bd.length≤3000
 ·by_cases hR:Ref es h bd
  ·rw [show @decide (Ref es h bd) (Classical.propDecidable _)=true from @decide_eq_true _ (Classical.propDecidable _) hR]at g1 ho
   have hoT:=ho rfl
   obtain⟨r1,r2,r3,r4⟩:=hR
   have hol:es.length=o.length:=by rw [hoT,List.length_map,txs_len]
   have hev:∀ k,0≤k→k < (es.length:Int)→rdOf ByteArray.empty o k=B (tx (txs es) k):=fun k h0 h1=>by
    have:=outs_at es es.length (Nat.le_refl _) k h0 h1
    rwa [outs_all,← hoT]at this
   have hsm:∀ k:Int,0≤k→k < (es.length:Int)→(tx (txs es) k).length≤3000:=fun k h0 h1=>by
    have:=(r1 k.toNat (by omega)).2
    rwa [show((k.toNat:Nat):Int)=k by omega]at this
   obtain⟨x,⟨K2,g2⟩,hx⟩:=slit_ev o (txs es) h w3.2 w3.1 es.length hol (r2 0 (by rw [hlen];omega)) hev hsm
   by_cases hok:LitOk h
   ·rw [show @decide (LitOk h) (Classical.propDecidable _)=true from @decide_eq_true _ (Classical.propDecidable _) hok,hx hok]at g2
    by_cases hk1:h.f0=1
    ·have hll:=lit_le (txs es) h (fun h3=>by omega)
     have hss:=sm_le (txs es) es.length 3000 hsm h.f2 (r2 0 (by rw [hlen];omega))
     obtain⟨K3,g3⟩:=srule_l es h.f0 h.f1 h.f2 bd o (txs es) w4 es.length hol (fun l hl=>by
      obtain⟨j,hj,rfl⟩:=List.getElem_of_mem hl
      exact r2 (j + 1) (by rw [hlen];omega)) hev hsm w5 bd.length 0 (lit (txs es) h) (by omega) (by omega)
     refine⟨max K1 (max K2 K3) + 1,fun k hk=>?_⟩
     have e1:=g1 k (by omega)
     have e2:=g2 k (by omega)
     simp only []at e1 e2
     obtain⟨k,rfl⟩:∃ m,k=m + 1:=⟨k - 1,by omega⟩
     have e3:=g3 k (by omega)
     simp only []at e3
     show z5_.f (k + 1) es h.f0 h.f1 h.f2 bd=_
     unfold z5_.f
     rw [if_neg (by omega),e1,Option.bind_some]
     show(if true=true then _ else _)=_
     rw [if_pos rfl,e2,Option.bind_some]
     show(if true=true then z5_.j0 (k + 1) o (B (lit (txs es) h)) (h.f0 != 1) es h.f0 h.f1 h.f2 bd else _)=_
     rw [if_pos rfl,z5_.j0,show(h.f0 != 1)=false by simp [hk1],if_neg (by decide)]
     have e4:z5_.l0 k o (B (lit (txs es) h)) 0 es h.f0 h.f1 h.f2 bd=_:=e3
     rw [e4]
     congr 2
     have hbh:lit (txs es) h ++ behind (txs es) bd 0 ++ [46]=whole es h bd:=rfl
     rw [hbh]
     by_cases hall:Frm es h bd∧(whole es h bd).length≤3000
     ·have:=hto hall
      unfold ruleT
      rw [if_pos hall,if_pos ⟨fun m hm h0=>this.2.2.2.2 m hm h0,hall.2⟩]
     ·rw [hno hall,if_neg]
      intro hy
      refine hall ⟨⟨fun i hi=>(r1 i hi).1,fun i hi=>?_,r3,r4⟩,hy.2⟩
      refine⟨r2 i hi, ?_⟩
      have hconv:∀ l:ILt,LitOk l→1≤l.f0∧l.f0≤3∧(l.f0=3→l.f2.length=2):=fun l hl=>by
       rcases hl with hl|hl
       ·exact⟨by omega,by omega,fun _=>hl.2⟩
       ·exact⟨by omega,by omega,fun h3=>by omega⟩
      cases i with
      | zero =>
       have:=hconv h hok
       exact⟨this.1,this.2.1,this.2.2,fun _=>hk1⟩
      | succ i =>
       have:=hconv bd[i] (hy.1 i (by rw [hlen]at hi;omega) (Nat.zero_le _))
       exact⟨this.1,this.2.1,this.2.2,fun hx=>absurd hx (Nat.succ_ne_zero i)⟩
    ·refine⟨max K1 K2 + 1,fun k hk=>?_⟩
     have e1:=g1 k (by omega)
     have e2:=g2 k (by omega)
     simp only []at e1 e2
     obtain⟨k,rfl⟩:∃ m,k=m + 1:=⟨k - 1,by omega⟩
     rw [hno (fun hy=>hk1 (hto hy).2.2.1)]
     show z5_.f (k + 1) es h.f0 h.f1 h.f2 bd=_
     unfold z5_.f
     rw [if_neg (by omega),e1,Option.bind_some]
     show(if true=true then _ else _)=_
     rw [if_pos rfl,e2,Option.bind_some]
     show(if true=true then z5_.j0 (k + 1) o (B (lit (txs es) h)) (h.f0 != 1) es h.f0 h.f1 h.f2 bd else _)=_
     rw [if_pos rfl,z5_.j0,show(h.f0 != 1)=true by simp [hk1],if_pos rfl]
     rfl
   ·rw [show @decide (LitOk h) (Classical.propDecidable _)=false from @decide_eq_false _ (Classical.propDecidable _) hok]at g2
    refine⟨max K1 K2 + 1,fun k hk=>?_⟩
    have e1:=g1 k (by omega)
    have e2:=g2 k (by omega)
    simp only []at e1 e2
    obtain⟨k,rfl⟩:∃ m,k=m + 1:=⟨k - 1,by omega⟩
    rw [hno (fun hy=>hok (hto hy).2.2.2.1)]
    show z5_.f (k + 1) es h.f0 h.f1 h.f2 bd=_
    unfold z5_.f
    rw [if_neg (by omega),e1,Option.bind_some]
    show(if true=true then _ else _)=_
    rw [if_pos rfl,e2,Option.bind_some]
    show(if false=true then _ else z5_.j0 (k + 1) o x true es h.f0 h.f1 h.f2 bd)=_
    rw [if_neg (by decide),z5_.j0,if_pos rfl]
    rfl
  ·rw [show @decide (Ref es h bd) (Classical.propDecidable _)=false from @decide_eq_false _ (Classical.propDecidable _) hR]at g1
   refine⟨K1,fun k hk=>?_⟩
   have e1:=g1 k (by omega)
   simp only []at e1
   rw [hno (fun hy=>hR (hto hy).2.1)]
   show z5_.f k es h.f0 h.f1 h.f2 bd=_
   unfold z5_.f
   rw [if_neg (by omega),e1,Option.bind_some]
   show(if false=true then _ else _)=_
   rw [if_neg (by decide)]
   rfl
 ·refine⟨0,fun k _=>?_⟩
  rw [hno (fun hy=>hb3 (hto hy).1)]
  show z5_.f k es h.f0 h.f1 h.f2 bd=_
  unfold z5_.f
  rw [if_pos (by omega)]
  rfl
end Go.Proofs.YtimhlficlhafbaaGreatDoor.QRuleT
