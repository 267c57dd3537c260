-- Cut by prune.py.
import Derived.Test.YtkdabljlfbmpdaaVgrQOldD
import Derived.Test.YtkdabljlfbmpdaaVgrQBndC
namespace Go.Proofs.Ytkdabljlfbmpdaa.QBndD
open RowKit Pw YtkdabljlfbmpdaaW.PrintWords YtkdabljlfbmpdaaW.PrintLast QStr QGenR QRule QTree QText QForm QRuleT QWith QVars QLeast QSet QOldA QOldB QBndA
open QOldC (rd_two txt_of lit_V)
open QOldD (ev_list Arg args_ev arg_ok)
open QBndC (ANi TB tb_iff)
set_option linter.unusedVariables false
set_option linter.unusedSimpArgs false
section
variable (es : List IEx) (a : Int) (b : ByteArray) (c : List Int) (d : List ILt)
theorem any_args (ho:Okr es d):∃ K,∀ l∈d,∀ k,K≤k→∀ x∈l.f2,impl_Rule_hasAny.f k es a b c d x=some (ANi es x):=by
 have h1:∀ l∈d,∃ K,∀ k,K≤k→∀ x∈l.f2,impl_Rule_hasAny.f k es a b c d x=some (ANi es x):=fun l hl=>by
  obtain⟨K,h⟩:=ev_list (fun x k=>impl_Rule_hasAny.f k es a b c d x=some (ANi es x)) l.f2 (fun x hx=>by
   have hr:=ho.rng l hl x hx
   obtain⟨K1,e1⟩:=any_ev es a b c d ho.ok ho.szs ho.few ho.kds x.toNat (by omega)
   rw [show((x.toNat:Nat):Int)=x by omega]at e1
   exact⟨K1,fun k hk=>e1 k hk⟩)
  exact⟨K,fun k hk x hx=>h x hx k hk⟩
 exact ev_list (fun l k=>∀ x∈l.f2,impl_Rule_hasAny.f k es a b c d x=some (ANi es x)) d h1
theorem bound_both (h:ILt) (hw:FewR es h d) (hf:Frm es h d):∃ gs:List ByteArray,gs.length≤60∧(∀ s∈gs,∃ e∈es,e.f1=s)∧Ev (fun k=>impl_Rule_bound.f k es h.f0 h.f1 h.f2 d) gs ∧
  Ev (fun k=>(z9_.f k es h.f0 h.f1 h.f2 d).bind fun t=>spec_Bound.l0 k [] t 0 es h.f0 h.f1 h.f2 d) gs:=by
 have ho:=okr_of hw hf
 have h60:=ho.few
 have hlit:=ho.lits
 obtain⟨rk,⟨K1,e1⟩,k1,k2⟩:=reck_ev es h.f0 h.f1 h.f2 d ho.ok ho.un ho.few ho.kds
 obtain⟨T,t1,t2,t3⟩:=QBndB.l0_ev es h.f0 h.f1 h.f2 d ho rk k1 k2 d.length 0 [] (by omega) (by rw [List.length_nil];omega)
 rw [List.drop_zero]at t2
 rw [List.length_nil]at t1
 obtain⟨m,hm,hfix⟩:=QBndC.pass_ev es h.f0 h.f1 h.f2 d ho T (by omega) (es.length + 1) 0 (by omega) (Nat.le_refl _)
 obtain⟨K2,e2⟩:=t3 _ hm
 have hbl:=bey_len (bey_It (lit_V es d ho) T m (PT:=PTi es) (TL:=TB es))
 obtain⟨K3,e3⟩:=QBndB.names_l es h.f0 h.f1 h.f2 d (lsIt d (VRc es) (PTi es) (TB es) T m) (by omega) h60 es.length 0 (by omega)
 have hgl:(lsNm (lsIt d (VRc es) (PTi es) (TB es) T m) es).length≤60:=by
  have h1:=lsNm_len (lsIt d (VRc es) (PTi es) (TB es) T m) es []
  rw [List.length_nil]at h1
  unfold lsNm
  omega
 refine⟨_,hgl,nm_txt _ es, ?_,⟨max K1 (max K2 K3),fun k hk=>?_⟩⟩
 ·obtain⟨K,hA⟩:=args_ev es h.f0 h.f1 h.f2 d ho
  obtain⟨K9,hN⟩:=any_args es h.f0 h.f1 h.f2 d ho
  refine⟨max K K9,fun k hk=>?_⟩
  have hA2:∀ l∈d,∀ x∈l.f2,_:=fun l hl x hx=>arg_ok es h.f0 h.f1 h.f2 d ho hl hx (hA l hl k (by omega) x hx)
  have hN2:∀ l∈d,∀ x∈l.f2,lsANf k es h.f0 h.f1 h.f2 d x=ANi es x:=fun l hl x hx=>by
   unfold lsANf
   rw [hN l hl k (by omega) x hx]
   rfl
  have hok:lsOkB k es h.f0 h.f1 h.f2 d=true:=by
   unfold lsOkB lsOk
   simp only [Bool.and_eq_true,decide_eq_true_eq,List.all_eq_true,Bool.or_eq_true,bne_iff_ne,beq_iff_eq]
   refine⟨⟨h60,fun e he=>(hw.2.1 e he).1,hlit,fun l hl=>⟨by have:=ho.args l hl;omega, ?_,fun x hx=>(hA2 l hl x hx).1⟩⟩,fun l hl x hx=>by rw [hN l hl k (by omega) x hx];rfl⟩
   by_cases h3:l.f0=3
   ·exact .inr (ho.two l hl h3)
   ·exact .inl h3
  show impl_Rule_bound.f k es h.f0 h.f1 h.f2 d=_
  unfold impl_Rule_bound.f
  rw [if_pos hok]
  congr 1
  unfold lsRes
  refine nm_congr (fun s=>?_) es
  have hV:∀ l∈d,l.f0=3→(∀ s∈lsVRf k es h.f0 h.f1 h.f2 d (rd l.f2 0),∃ e∈es,e.f1=s)∧∀ s∈lsVRf k es h.f0 h.f1 h.f2 d (rd l.f2 1),∃ e∈es,e.f1=s:=fun l hl h3=>by
   have h2:=ho.two l hl h3
   have g0:rd l.f2 0∈l.f2:=(rd_two h2 0 (by omega)).1
   have g1:rd l.f2 1∈l.f2:=(rd_two h2 1 (by omega)).1
   rw [(hA2 l hl _ g0).2.1,(hA2 l hl _ g1).2.1]
   exact lit_V es d ho l hl h3
  obtain⟨n,hn,hfn⟩:=fix_ex (es:=es) (PT:=lsPTf k es h.f0 h.f1 h.f2 d) (TL:=lsTB (lsANf k es h.f0 h.f1 h.f2 d) (lsVRf k es h.f0 h.f1 h.f2 d)) hV (d.foldl (lsL es (lsPLf k es h.f0 h.f1 h.f2 d)) [])
  rw [lsIt_same hfn 100 (by omega),mem_It (tb_iff _ _) hfn s,mem_It (TL:=TB es) (tb_iff (ANi es) (VRc es)) hfix s]
  have hbase:∀ s,s∈d.foldl (lsL es (lsPLf k es h.f0 h.f1 h.f2 d)) []↔s∈T:=fun s=>by
   rw [mem_base,t2 s]
   constructor
   ·rintro⟨l,hl,h1,x,hx,y,hy,hv,ht⟩
    obtain⟨z,rfl,g⟩:=((hA2 l hl x hx).2.2.2 y).1 hy
    have hr:=ho.rng l hl x hx
    obtain⟨g1,g2⟩:=(pl_iff (dn es ho.ok) ho.un (a:=x.toNat) (fun i=>by rw [show((x.toNat:Nat):Int)=x by omega];exact ho.root l hl x hx i) z).2 g
    have hz:=re_le (dn es ho.ok) g1
    have hrd:y19 es (z:Int)=es[z]:=getD_at _ es z (by omega)
    rw [hrd]at hv ht
    exact .inr ⟨l,hl,h1,x,hx,z,g1,by unfold Nmd;rw [getD_in es z (by omega)];exact⟨hv,g2,ht⟩⟩
   ·rintro(h0|⟨l,hl,h1,x,hx,z,g1,hN⟩)
    ·cases h0
    ·have hr:=ho.rng l hl x hx
     have hz:=re_le (dn es ho.ok) g1
     have hrd:y19 es (z:Int)=es[z]:=getD_at _ es z (by omega)
     unfold Nmd at hN
     rw [getD_in es z (by omega)]at hN
     have g:=(pl_iff (dn es ho.ok) ho.un (a:=x.toNat) (fun i=>by rw [show((x.toNat:Nat):Int)=x by omega];exact ho.root l hl x hx i) z).1 ⟨g1,hN.2.1⟩
     exact⟨l,hl,h1,x,hx,(z:Int),((hA2 l hl x hx).2.2.2 _).2 ⟨z,rfl,g⟩,by rw [hrd];exact hN.1,by rw [hrd];exact hN.2.2⟩
  have hval:∀ l∈d,l.f0=3→∀ y,(y=rd l.f2 0∨y=rd l.f2 1)→lsVRf k es h.f0 h.f1 h.f2 d y=VRc es y∧lsPTf k es h.f0 h.f1 h.f2 d y=PTi es y∧lsANf k es h.f0 h.f1 h.f2 d y=ANi es y:=fun l hl h3 y hy=>by
   have h2:=ho.two l hl h3
   have g0:rd l.f2 0∈l.f2:=(rd_two h2 0 (by omega)).1
   have g1:rd l.f2 1∈l.f2:=(rd_two h2 1 (by omega)).1
   have hm:y∈l.f2:=by
    rcases hy with rfl|rfl
    ·exact g0
    ·exact g1
   exact⟨(hA2 l hl y hm).2.1,(hA2 l hl y hm).2.2.1,hN2 l hl y hm⟩
  constructor
  ·refine dv_congr (fun s hs=>(hbase s).1 hs) (fun n g=>?_)
   rintro⟨l,hl,h3,h4,u,v,huv,hp,hc,rfl,rfl⟩
   have hv2:=hval l hl h3 v (by rcases huv with⟨_,rfl⟩|⟨_,rfl⟩;exact .inr rfl;exact .inl rfl)
   have hu2:=hval l hl h3 u (by rcases huv with⟨rfl,_⟩|⟨rfl,_⟩;exact .inl rfl;exact .inr rfl)
   rw [hv2.2.1]at hp
   rw [hu2.2.2]at hc
   rw [hv2.1,hu2.1]
   exact⟨l,hl,h3,h4,u,v,huv,hp,hc,rfl,rfl⟩
  ·refine dv_congr (fun s hs=>(hbase s).2 hs) (fun n g=>?_)
   rintro⟨l,hl,h3,h4,u,v,huv,hp,hc,rfl,rfl⟩
   have hv2:=hval l hl h3 v (by rcases huv with⟨_,rfl⟩|⟨_,rfl⟩;exact .inr rfl;exact .inl rfl)
   have hu2:=hval l hl h3 u (by rcases huv with⟨rfl,_⟩|⟨rfl,_⟩;exact .inl rfl;exact .inr rfl)
   rw [← hv2.2.1]at hp
   rw [← hu2.2.2]at hc
   rw [← hv2.1,← hu2.1]
   exact⟨l,hl,h3,h4,u,v,huv,hp,hc,rfl,rfl⟩
 ·have e1:=e1 k (by omega)
  have e2:=e2 k (by omega)
  have e3:=e3 k (by omega)
  simp only []at e1 e2 e3
  show((z9_.f k es h.f0 h.f1 h.f2 d).bind _)=_
  unfold z9_.f
  rw [e1,Option.bind_some,show z9_.l0 k [] rk 0 es h.f0 h.f1 h.f2 d=_ from e2,Option.bind_some]
  rw [List.take_zero]at e3
  exact e3
end
end Go.Proofs.Ytkdabljlfbmpdaa.QBndD
