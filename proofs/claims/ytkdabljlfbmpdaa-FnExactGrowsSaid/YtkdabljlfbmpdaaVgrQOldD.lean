-- Cut by prune.py.
import Derived.Test.YtkdabljlfbmpdaaVgrQOldC
namespace Go.Proofs.Ytkdabljlfbmpdaa.QOldD
open RowKit Pw YtkdabljlfbmpdaaW.PrintWords YtkdabljlfbmpdaaW.PrintLast QStr QGenR QRule QTree QText QForm QRuleT QWith QVars QLeast QSet QOldA QOldB QOldC
set_option linter.unusedVariables false
set_option linter.unusedSimpArgs false
theorem ev_list {α:Type} (g:α→Nat→Prop):∀(xs:List α),(∀ x∈xs,∃ K,∀ k,K≤k→g x k)→∃ K,∀ x∈xs,∀ k,K≤k→g x k
 | [],_=>⟨0,fun x h=>by cases h⟩
 | y :: r,h=>by
  obtain⟨K1,h1⟩:=h y List.mem_cons_self
  obtain⟨K2,h2⟩:=ev_list g r (fun x hx=>h x (List.mem_cons_of_mem _ hx))
  refine⟨max K1 K2,fun x hx k hk=>?_⟩
  rcases List.mem_cons.1 hx with rfl|hx
  ·exact h1 k (by omega)
  ·exact h2 x hx k (by omega)
def Co (es:List IEx) (x:Int):Prop:=(y19 es x).f0=1
def No (es:List IEx) (x:Int):List ByteArray:=[(y19 es x).f1]
theorem tl_iff (es:List IEx) (S:List ByteArray) (x:Int):lsTL es S x=true↔Co es x∧∀ t∈No es x,t∈S:=by
 unfold lsTL Co No
 rw [Bool.and_eq_true,decide_eq_true_eq,hasB_iff]
 constructor
 ·rintro⟨h1,h2⟩
  exact⟨h1,fun t ht=>by rw [List.mem_singleton]at ht;rw [ht];exact h2⟩
 ·rintro⟨h1,h2⟩
  exact⟨h1,h2 _ List.mem_cons_self⟩
def Arg (es:List IEx) (a:Int) (b:ByteArray) (c:List Int) (d:List ILt) (x:Int) (k:Nat):Prop :=
 (∃ xs,impl_Rule_plain.f k es a b c d x=some xs∧xs.length≤60∧∀ y,y∈xs↔∃ z:Nat,y=(z:Int)∧Pl (kd es) (cal es) x.toNat z)∧impl_Rule_vars.f k es a b c d x=some (VRc es x)∧z2_.f k es a b c d x=some (PTi es x)
section
variable (es : List IEx) (a : Int) (b : ByteArray) (c : List Int) (d : List ILt)
theorem args_ev (ho:Okr es d):∃ K,∀ l∈d,∀ k,K≤k→∀ x∈l.f2,Arg es a b c d x k:=by
 have h1:∀ l∈d,∃ K,∀ k,K≤k→∀ x∈l.f2,Arg es a b c d x k:=fun l hl=>by
  obtain⟨K,h⟩:=ev_list (Arg es a b c d) l.f2 (fun x hx=>by
   have hr:=ho.rng l hl x hx
   obtain⟨xs,⟨K1,e1⟩,p1,p2⟩:=plain_ev es a b c d ho.ok ho.szs ho.few ho.kds (x.toNat + 1) x.toNat (by omega) (by omega)
   obtain⟨K2,e2⟩:=vars_ev es a b c d ho.ok ho.szs ho.few ho.kds x.toNat (by omega)
   obtain⟨K3,e3⟩:=pat_ev es a b c d ho.ok ho.szs ho.few ho.kds x.toNat (by omega)
   have hs:=ho.szs x.toNat (by omega)
   have hx0:((x.toNat:Nat):Int)=x:=by omega
   rw [hx0]at e1 e2 e3
   refine⟨max K1 (max K2 K3),fun k hk=>⟨⟨xs,e1 k (by omega),by omega,p2⟩,e2 k (by omega),e3 k (by omega)⟩⟩)
  exact⟨K,fun k hk x hx=>h x hx k hk⟩
 exact ev_list (fun l k=>∀ x∈l.f2,Arg es a b c d x k) d h1
theorem arg_ok (ho:Okr es d) {l:ILt} (hl:l∈d) {x:Int} (hx:x∈l.f2) {k:Nat} (h:Arg es a b c d x k):lsArg k es a b c d x=true∧lsVRf k es a b c d x=VRc es x∧lsPTf k es a b c d x=PTi es x∧∀ y,y∈lsPLf k es a b c d x↔∃ z:Nat,y=(z:Int)∧Pl (kd es) (cal es) x.toNat z:=by
 obtain⟨⟨xs,e1,p1,p2⟩,e2,e3⟩:=h
 have hr:=ho.rng l hl x hx
 have hf:=ho.few
 have hv:=vrs_len es x.toNat
 have hV:lsVRf k es a b c d x=VRc es x:=by unfold lsVRf;rw [e2];rfl
 have hP:lsPLf k es a b c d x=xs:=by unfold lsPLf;rw [e1];rfl
 refine⟨?_,hV,by unfold lsPTf;rw [e3];rfl,by rw [hP];exact p2⟩
 unfold lsArg
 rw [hV,hP,e1,e2,e3]
 simp only [Bool.and_eq_true,decide_eq_true_eq,List.all_eq_true,Option.isSome_some,and_true,true_and]
 refine⟨hr.1,hr.2,by omega,fun y hy=>?_,by unfold VRc;omega,fun s hs=>?_⟩
 ·obtain⟨z,rfl,g⟩:=(p2 y).1 hy
  have:=re_le (dn es ho.ok) (pl_re g)
  omega
 ·obtain⟨e,he,h⟩:=txt_of es d ho hl hx s hs
  exact hasB_iff.2 (List.mem_map.2 ⟨e,he,h⟩)
theorem old_both (h:ILt) (hw:FewR es h d) (hf:Frm es h d):∃ gs:List ByteArray,gs.length≤60∧(∀ s∈gs,∃ e∈es,e.f1=s)∧Ev (fun k=>impl_Rule_old.f k es h.f0 h.f1 h.f2 d) gs ∧
  Ev (fun k=>(spec_l08Old.f k es h.f0 h.f1 h.f2 d).bind fun t=>spec_Old.l0 k [] t 0 es h.f0 h.f1 h.f2 d) gs:=by
 have ho:=okr_of hw hf
 have h60:=ho.few
 have hlit:=ho.lits
 obtain⟨rk,⟨K1,e1⟩,k1,k2⟩:=reck_ev es h.f0 h.f1 h.f2 d ho.ok ho.un ho.few ho.kds
 obtain⟨T,t1,t2,t3⟩:=l0_ev es h.f0 h.f1 h.f2 d ho rk k1 k2 d.length 0 [] (by omega) (by rw [List.length_nil];omega)
 rw [List.drop_zero]at t2
 obtain⟨m,hm,hfix⟩:=pass_ev es h.f0 h.f1 h.f2 d ho T (by omega) (es.length + 1) 0 (by omega) (Nat.le_refl _)
 obtain⟨K2,e2⟩:=t3 _ (by rw [List.nil_append];exact hm)
 have hbl:=bey_len (bey_It (lit_V es d ho) T m (PT:=PTi es) (TL:=lsTL es))
 obtain⟨K3,e3⟩:=names_l es h.f0 h.f1 h.f2 d (lsIt d (VRc es) (PTi es) (lsTL es) T m) (by omega) h60 es.length 0 (by omega)
 have hgl:(lsNm (lsIt d (VRc es) (PTi es) (lsTL es) T m) es).length≤60:=by
  have h1:=lsNm_len (lsIt d (VRc es) (PTi es) (lsTL es) T m) es []
  rw [List.length_nil]at h1
  unfold lsNm
  omega
 refine⟨_,hgl,nm_txt _ es, ?_,⟨max K1 (max K2 K3),fun k hk=>?_⟩⟩
 ·obtain⟨K,hA⟩:=args_ev es h.f0 h.f1 h.f2 d ho
  refine⟨K,fun k hk=>?_⟩
  have hA2:∀ l∈d,∀ x∈l.f2,_:=fun l hl x hx=>arg_ok es h.f0 h.f1 h.f2 d ho hl hx (hA l hl k hk x hx)
  have hok:lsOk k es h.f0 h.f1 h.f2 d=true:=by
   unfold lsOk
   simp only [Bool.and_eq_true,decide_eq_true_eq,List.all_eq_true,Bool.or_eq_true,bne_iff_ne,beq_iff_eq]
   refine⟨h60,fun e he=>(hw.2.1 e he).1,hlit,fun l hl=>⟨by have:=ho.args l hl;omega, ?_,fun x hx=>(hA2 l hl x hx).1⟩⟩
   by_cases h3:l.f0=3
   ·exact .inr (ho.two l hl h3)
   ·exact .inl h3
  show impl_Rule_old.f k es h.f0 h.f1 h.f2 d=_
  unfold impl_Rule_old.f
  rw [if_pos hok]
  congr 1
  unfold lsRes
  refine nm_congr (fun s=>?_) es
  have hV:∀ l∈d,l.f0=3→(∀ s∈lsVRf k es h.f0 h.f1 h.f2 d (rd l.f2 0),∃ e∈es,e.f1=s)∧∀ s∈lsVRf k es h.f0 h.f1 h.f2 d (rd l.f2 1),∃ e∈es,e.f1=s:=fun l hl h3=>by
   have h2:=ho.two l hl h3
   have g0:rd l.f2 0∈l.f2:=(rd_two h2 0 (by omega)).1
   have g1:rd l.f2 1∈l.f2:=(rd_two h2 1 (by omega)).1
   rw [(hA2 l hl _ g0).2.1,(hA2 l hl _ g1).2.1]
   exact lit_V es d ho l hl h3
  obtain⟨n,hn,hfn⟩:=fix_ex (es:=es) (PT:=lsPTf k es h.f0 h.f1 h.f2 d) (TL:=lsTL es) hV (d.foldl (lsL es (lsPLf k es h.f0 h.f1 h.f2 d)) [])
  rw [lsIt_same hfn 100 (by omega),mem_It (tl_iff es) hfn s,mem_It (tl_iff es) hfix s]
  have hbase:∀ s,s∈d.foldl (lsL es (lsPLf k es h.f0 h.f1 h.f2 d)) []↔s∈T:=fun s=>by
   rw [mem_base,t2 s]
   constructor
   ·rintro⟨l,hl,h1,x,hx,y,hy,hv,ht⟩
    obtain⟨z,rfl,g⟩:=((hA2 l hl x hx).2.2.2 y).1 hy
    have hr:=ho.rng l hl x hx
    obtain⟨g1,g2⟩:=(pl_iff (dn es ho.ok) ho.un (a:=x.toNat) (fun i=>by rw [show((x.toNat:Nat):Int)=x by omega];exact ho.root l hl x hx i) z).2 g
    have hz:=re_le (dn es ho.ok) g1
    have hrd:y19 es (z:Int)=es[z]:=getD_at _ es z (by omega)
    rw [hrd]at hv ht
    exact⟨l,hl,h1,x,hx,z,g1,by unfold Nmd;rw [getD_in es z (by omega)];exact⟨hv,g2,ht⟩⟩
   ·rintro⟨l,hl,h1,x,hx,z,g1,hN⟩
    have hr:=ho.rng l hl x hx
    have hz:=re_le (dn es ho.ok) g1
    have hrd:y19 es (z:Int)=es[z]:=getD_at _ es z (by omega)
    unfold Nmd at hN
    rw [getD_in es z (by omega)]at hN
    have g:=(pl_iff (dn es ho.ok) ho.un (a:=x.toNat) (fun i=>by rw [show((x.toNat:Nat):Int)=x by omega];exact ho.root l hl x hx i) z).1 ⟨g1,hN.2.1⟩
    exact⟨l,hl,h1,x,hx,(z:Int),((hA2 l hl x hx).2.2.2 _).2 ⟨z,rfl,g⟩,by rw [hrd];exact hN.1,by rw [hrd];exact hN.2.2⟩
  have hval:∀ l∈d,l.f0=3→∀ y,(y=rd l.f2 0∨y=rd l.f2 1)→lsVRf k es h.f0 h.f1 h.f2 d y=VRc es y∧lsPTf k es h.f0 h.f1 h.f2 d y=PTi es y:=fun l hl h3 y hy=>by
   have h2:=ho.two l hl h3
   have g0:rd l.f2 0∈l.f2:=(rd_two h2 0 (by omega)).1
   have g1:rd l.f2 1∈l.f2:=(rd_two h2 1 (by omega)).1
   have hm:y∈l.f2:=by
    rcases hy with rfl|rfl
    ·exact g0
    ·exact g1
   exact⟨(hA2 l hl y hm).2.1,(hA2 l hl y hm).2.2.1⟩
  constructor
  ·refine dv_congr (fun s hs=>(hbase s).1 hs) (fun n g=>?_)
   rintro⟨l,hl,h3,h4,u,v,huv,hp,hc,rfl,rfl⟩
   have hv2:=hval l hl h3 v (by rcases huv with⟨_,rfl⟩|⟨_,rfl⟩;exact .inr rfl;exact .inl rfl)
   rw [hv2.2]at hp
   rw [hv2.1]
   exact⟨l,hl,h3,h4,u,v,huv,hp,hc,rfl,rfl⟩
  ·refine dv_congr (fun s hs=>(hbase s).2 hs) (fun n g=>?_)
   rintro⟨l,hl,h3,h4,u,v,huv,hp,hc,rfl,rfl⟩
   have hv2:=hval l hl h3 v (by rcases huv with⟨_,rfl⟩|⟨_,rfl⟩;exact .inr rfl;exact .inl rfl)
   rw [← hv2.2]at hp
   rw [← hv2.1]
   exact⟨l,hl,h3,h4,u,v,huv,hp,hc,rfl,rfl⟩
 ·have e1:=e1 k (by omega)
  have e2:=e2 k (by omega)
  have e3:=e3 k (by omega)
  simp only []at e1 e2 e3
  show((spec_l08Old.f k es h.f0 h.f1 h.f2 d).bind _)=_
  unfold spec_l08Old.f
  rw [e1,Option.bind_some,show spec_l08Old.l0 k [] rk 0 es h.f0 h.f1 h.f2 d=_ from e2,Option.bind_some]
  rw [List.take_zero]at e3
  exact e3
end
end Go.Proofs.Ytkdabljlfbmpdaa.QOldD
