-- Cut by prune.py, a program of this session, out of the texts of this claim: Lean checks it.
import Derived.Test.YtcckpjflbfofjaaVclPdx20
import Derived.Test.YtcckpjflbfofjaaVclQGraphC
namespace Go.Proofs.Ytcckpjflbfofjaa.Pure
open Go.RowKit Go.Proofs.Ytcckpjflbfofjaa.Pd Go.Proofs.YtcckpjflbfofjaaW.PrintWords Go.Proofs.YtcckpjflbfofjaaW.PrintLast Go.Proofs.Ytcckpjflbfofjaa.QStr Go.Proofs.Ytcckpjflbfofjaa.QGraph Go.Proofs.Ytcckpjflbfofjaa.QGraphT Go.Proofs.Ytcckpjflbfofjaa.QGraphM Go.Proofs.Ytcckpjflbfofjaa.QGraphC
set_option linter.unusedVariables false
set_option linter.unusedSimpArgs false
abbrev LG:=S24
def cvG (x:LG):G:=⟨x.f0,x.f1,x.f2.map cvA⟩
theorem up {n:Nat} (h:n≤281474976710656):wrap64 ((n:Int) + 1)=((n + 1:Nat):Int):=by
 unfold wrap64
 omega
theorem rdL (p r:List LG) (x:LG):rd_T24 (p ++ x :: r) (p.length:Int)=x:=by
 unfold rd_T24
 rw [show((p.length:Int)).toNat=p.length from rfl,List.getD_eq_getElem?_getD,List.getElem?_append_right (Nat.le_refl _),Nat.sub_self]
 rfl
theorem rdG (p r:List G) (x:G):y14 (p ++ x :: r) (p.length:Int)=x:=by
 unfold y14
 rw [show((p.length:Int)).toNat=p.length from rfl,List.getD_eq_getElem?_getD,List.getElem?_append_right (Nat.le_refl _),Nat.sub_self]
 rfl
theorem snoc_len {α:Type} (p:List α) (x:α):((p ++ [x]).length:Int)=((p.length + 1:Nat):Int):=by simp
theorem snoc_cons {α:Type} (p r:List α) (x:α):p ++ x :: r=(p ++ [x]) ++ r:=by simp
theorem setG (p r:List G) (x y:G):(p ++ x :: r).set ((p.length:Int)).toNat y=p ++ y :: r:=by
 rw [show((p.length:Int)).toNat=p.length from rfl]
 simp
/-- How much the graphs are. -/
def wt:List LG→Nat
 | []=>0
 | x :: r=>x.f2.length + wt r
theorem sz1 (a b:Int) (l:List LA) (hl:l.length≤281474976710656) (v:Int) (h0:0≤v) (h1:v≤1048576):∃ r,laws_szGraph.f a b l v=some r∧(r < 0∨(0≤r∧r=v - l.length)):=by
 have hw:wrap64 (v - (l.length:Int))=v - l.length:=by
  unfold wrap64
  omega
 unfold laws_szGraph.f laws_szArcS.f
 rw [hw]
 by_cases c:v - (l.length:Int) < 0
 ·rw [if_pos c,Option.bind_some,if_pos (by decide)]
  exact⟨-1,rfl,.inl (by decide)⟩
 ·rw [if_neg c,Option.bind_some,if_neg c]
  exact⟨_,rfl,.inr ⟨by omega,rfl⟩⟩
theorem szS:∀(r p:List LG) (v:Int) (k:Nat),p.length + r.length≤1048576→(∀ x∈r,x.f2.length≤281474976710656)→0≤v→v≤1048576→r.length < k→∃ t,laws_szGraphS.l0 k (p ++ r) v (p.length:Int)=some t∧(t < 0∨(0≤t∧(wt r:Int)≤v))
 | [],p,v,k,h1,h2,h3,h4,hk=>by
  obtain⟨k,rfl⟩:∃ m,k=m + 1:=⟨k - 1,by omega⟩
  rw [laws_szGraphS.l0,if_neg (by simp)]
  exact⟨v,rfl,.inr ⟨h3,by simpa [wt] using h3⟩⟩
 | x :: r,p,v,k,h1,h2,h3,h4,hk=>by
  obtain⟨k,rfl⟩:∃ m,k=m + 1:=⟨k - 1,by omega⟩
  simp only [List.length_cons]at h1 hk
  rw [laws_szGraphS.l0,if_pos (by simp only [List.length_append,List.length_cons];omega),if_pos (by omega),rdL]
  obtain⟨t,e,h5⟩:=sz1 x.f0 x.f1 x.f2 (h2 x List.mem_cons_self) v h3 h4
  rw [e,Option.bind_some]
  by_cases c:t < 0
  ·rw [if_pos c]
   exact⟨-1,rfl,.inl (by decide)⟩
  ·rw [if_neg c,up (by omega),snoc_cons,← snoc_len]
   obtain⟨u,e2,h6⟩:=szS r (p ++ [x]) t k (by simp only [List.length_append,List.length_singleton];omega) (fun y hy=>h2 y (List.mem_cons_of_mem _ hy)) (by omega) (by omega) (by omega)
   refine⟨u,e2,h6.imp id (fun h7=>⟨h7.1, ?_⟩)⟩
   have:wt (x :: r)=x.f2.length + wt r:=rfl
   omega
theorem wt_mem:∀(l:List LG) (x:LG),x∈l→x.f2.length≤wt l
 | y :: r,x,h=>by
  rw [wt]
  rcases List.mem_cons.1 h with rfl|h
  ·omega
  ·have:=wt_mem r x h
   omega
theorem toS:∀(r p:List LG) (k:Nat),p.length + r.length≤1048576→(∀ x∈r,x.f2.length≤1048576)→r.length + 1048578 < k→laws_toGraphS.l0 k (p ++ r) (p.map cvG ++ List.replicate r.length z28) (p.length:Int)=some ((p ++ r).map cvG)
 | [],p,k,h1,h2,hk=>by
  obtain⟨k,rfl⟩:∃ m,k=m + 1:=⟨k - 1,by omega⟩
  rw [laws_toGraphS.l0,if_neg (by simp)]
  simp
 | x :: r,p,k,h1,h2,hk=>by
  obtain⟨k,rfl⟩:∃ m,k=m + 1:=⟨k - 1,by omega⟩
  simp only [List.length_cons]at h1 hk
  rw [laws_toGraphS.l0,if_pos (by simp only [List.length_append,List.length_cons];omega),if_pos (by omega),rdL,toG_f _ _ _ (h2 x List.mem_cons_self) k (by omega),Option.bind_some]
  simp only []
  rw [if_pos (by simp only [List.length_append,List.length_map,List.length_replicate,List.length_cons];omega),List.length_cons,List.replicate_succ,up (by omega)]
  have e:(p.map cvG ++ z28 :: List.replicate r.length z28).set ((p.length:Int)).toNat (⟨x.f0,x.f1,x.f2.map cvA⟩:G)=(p ++ [x]).map cvG ++ List.replicate r.length z28:=by
   rw [show((p.length:Int)).toNat=(p.map cvG).length by simp]
   simp [cvG]
  rw [e,snoc_cons,← snoc_len]
  exact toS r (p ++ [x]) k (by simp only [List.length_append,List.length_singleton];omega) (fun y hy=>h2 y (List.mem_cons_of_mem _ hy)) (by omega)
theorem eqS:∀(r p:List G) (k:Nat),p.length + r.length≤1048576→(∀ x∈r,x.f2.length≤1048576)→r.length + 1048578 < k→laws_eqGraphS.l0 k (p ++ r) (p ++ r) (p.length:Int)=some true
 | [],p,k,h1,h2,hk=>by
  obtain⟨k,rfl⟩:∃ m,k=m + 1:=⟨k - 1,by omega⟩
  rw [laws_eqGraphS.l0,if_neg (by simp)]
 | x :: r,p,k,h1,h2,hk=>by
  obtain⟨k,rfl⟩:∃ m,k=m + 1:=⟨k - 1,by omega⟩
  simp only [List.length_cons]at h1 hk
  rw [laws_eqGraphS.l0,if_pos (by simp only [List.length_append,List.length_cons];omega),if_pos (by omega),if_pos (by simp only [List.length_append,List.length_cons];omega),rdG,eqG_f _ _ _ (h2 x List.mem_cons_self) k (by omega),Option.bind_some,if_pos rfl,up (by omega),snoc_cons,← snoc_len]
  exact eqS r (p ++ [x]) k (by simp only [List.length_append,List.length_singleton];omega) (fun y hy=>h2 y (List.mem_cons_of_mem _ hy)) (by omega)
def wm:List G→Nat
 | []=>0
 | x :: r=>2 + 3 * x.f2.length + wm r
def mkS:Nat→List G→List G
 | _,[]=>[]
 | n,x :: r=>⟨(n:Int),((n + 1:Nat):Int),mks (n + 2) x.f2⟩ :: mkS (n + 2 + 3 * x.f2.length) r
theorem mkS_len:∀ n l,(mkS n l).length=l.length
 | _,[]=>rfl
 | n,x :: r=>congrArg (· + 1) (mkS_len (n + 2 + 3 * x.f2.length) r)
theorem markS:∀(r p:List G) (n k:Nat),p.length + r.length≤1048576→(∀ x∈r,x.f2.length≤1048576)→n + wm r≤50000000→r.length + 1048578 < k→laws_markGraphS.l0 k (p ++ r) (n:Int) (p.length:Int)=some (((n + wm r:Nat):Int),p ++ mkS n r)
 | [],p,n,k,h1,h2,h3,hk=>by
  obtain⟨k,rfl⟩:∃ m,k=m + 1:=⟨k - 1,by omega⟩
  rw [laws_markGraphS.l0,if_neg (by simp)]
  rfl
 | x :: r,p,n,k,h1,h2,h3,hk=>by
  obtain⟨k,rfl⟩:∃ m,k=m + 1:=⟨k - 1,by omega⟩
  simp only [List.length_cons]at h1 hk
  have hw:wm (x :: r)=2 + 3 * x.f2.length + wm r:=rfl
  rw [hw]at h3
  have hm:=mark_l x.f2 [] (n + 2) k (by have:=h2 x List.mem_cons_self;simp only [List.length_nil];omega) (by omega) (by have:=h2 x List.mem_cons_self;omega)
  simp only [List.nil_append,List.length_nil]at hm
  rw [laws_markGraphS.l0,if_pos (by simp only [List.length_append,List.length_cons];omega),if_pos (by omega),rdG,up (by omega),up (by omega)]
  unfold laws_markArcS.f
  rw [show((0:Int))=((0:Nat):Int)from rfl,hm,Option.bind_some]
  simp only []
  rw [setG,up (by omega),snoc_cons,← snoc_len (x:=(⟨(n:Int),((n + 1:Nat):Int),mks (n + 2) x.f2⟩:G)),markS r _ (n + 2 + 3 * x.f2.length) k (by simp only [List.length_append,List.length_singleton];omega) (fun y hy=>h2 y (List.mem_cons_of_mem _ hy)) (by omega) (by omega),hw,mkS]
  rw [show n + 2 + 3 * x.f2.length + wm r=n + (2 + 3 * x.f2.length + wm r)by omega]
  simp
theorem heldS:∀(r p:List G) (n k:Nat),p.length + r.length≤1048576→(∀ x∈r,x.f2.length≤1048576)→n + wm r≤50000000→r.length + 1048578 < k→laws_heldGraphS.l0 k (p ++ mkS n r) (n:Int) (p.length:Int)=some ((n + wm r:Nat):Int)
 | [],p,n,k,h1,h2,h3,hk=>by
  obtain⟨k,rfl⟩:∃ m,k=m + 1:=⟨k - 1,by omega⟩
  rw [mkS,laws_heldGraphS.l0,if_neg (by simp)]
  rfl
 | x :: r,p,n,k,h1,h2,h3,hk=>by
  obtain⟨k,rfl⟩:∃ m,k=m + 1:=⟨k - 1,by omega⟩
  simp only [List.length_cons]at h1 hk
  have hw:wm (x :: r)=2 + 3 * x.f2.length + wm r:=rfl
  rw [hw]at h3
  have hm:=held_l x.f2 [] (n + 2) k (by have:=h2 x List.mem_cons_self;simp only [List.length_nil];omega) (by omega) (by have:=h2 x List.mem_cons_self;omega)
  simp only [List.nil_append,List.length_nil]at hm
  rw [mkS,laws_heldGraphS.l0,if_pos (by simp only [List.length_append,List.length_cons];omega),if_pos (by omega),rdG]
  simp only []
  rw [if_pos trivial,up (by omega),if_pos rfl,up (by omega)]
  unfold laws_heldArcS.f
  rw [show((0:Int))=((0:Nat):Int)from rfl,hm,Option.bind_some,if_neg (by omega),up (by omega),snoc_cons,← snoc_len (x:=(⟨(n:Int),((n + 1:Nat):Int),mks (n + 2) x.f2⟩:G)),heldS r _ (n + 2 + 3 * x.f2.length) k (by simp only [List.length_append,List.length_singleton];omega) (fun y hy=>h2 y (List.mem_cons_of_mem _ hy)) (by omega) (by omega),hw]
  rw [show n + 2 + 3 * x.f2.length + wm r=n + (2 + 3 * x.f2.length + wm r)by omega]
theorem wm_map:∀ l:List LG,wm (l.map cvG)=2 * l.length + 3 * wt l
 | []=>rfl
 | x :: r=>by
  rw [List.map_cons,wm,wm_map r,wt,List.length_cons]
  simp only [cvG,List.length_map]
  omega
theorem wm_le:∀ l:List G,(∀ x∈l,x.f2.length≤36)→wm l≤110 * l.length
 | [],_=>Nat.le_refl _
 | x :: r,h=>by
  have h1:=h x List.mem_cons_self
  have h2:=wm_le r (fun y hy=>h y (List.mem_cons_of_mem _ hy))
  rw [wm,List.length_cons]
  omega
theorem FnExactClosed:laws_FnExactClosed.Pure:=by
 intro l hl
 obtain⟨hl1,hl2,hl3⟩:=hl
 have hx:∀ x∈l,x.f2.length≤281474976710656:=fun x hx=>by
  have h:=(hl3 x hx).2.2.2.1
  omega
 have hn:l.length≤281474976710656:=by omega
 have hw:wrap64 (1048576 - (l.length:Int))=1048576 - (l.length:Int):=by
  unfold wrap64
  omega
 by_cases c:(1048576:Int) - (l.length:Int) < 0
 ·refine⟨0, -1, ?_,.inl (by decide)⟩
  unfold laws_szGraphS.f
  rw [hw,if_pos c]
 have hsz:∀ k,l.length < k→∃ t,laws_szGraphS.f k l 1048576=some t∧(t < 0∨(0≤t∧(wt l:Int)≤1048576 - (l.length:Int))):=fun k hk=>by
  unfold laws_szGraphS.f
  rw [hw,if_neg c]
  exact szS l [] (1048576 - (l.length:Int)) k (by simp only [List.length_nil];omega) hx (by omega) (by omega) hk
 obtain⟨t,h1,h2⟩:=hsz 8000000 (by omega)
 by_cases ct:t < 0
 ·exact⟨8000000,t,h1,.inl ct⟩
 have hwt:(wt l:Int)≤1048576 - (l.length:Int):=(h2.resolve_left ct).2
 have hlen:l.length≤1048576:=by omega
 have hx2:∀ x∈l,x.f2.length≤1048576:=fun x hx=>by
  have:=wt_mem l x hx
  omega
 have hm:(l.map cvG).length≤1048576:=by rw [List.length_map];exact hlen
 have hmx:∀ x∈l.map cvG,x.f2.length≤1048576:=fun x hx=>by
  obtain⟨y,hy,rfl⟩:=List.mem_map.1 hx
  show(y.f2.map cvA).length≤_
  rw [List.length_map]
  exact hx2 y hy
 obtain⟨gs,gb,hg,hok⟩:=closed_ok (l.map cvG) hm hmx
 obtain⟨hs1,hs2⟩:=hok 8000000 (by omega)
 obtain⟨hg1,hg2⟩:=hg
 simp only at hg1 hg2
 have hgx:∀ x∈gs,x.f2.length≤36:=fun x hx=>right_len (hg2 x hx)
 have hgy:∀ x∈gs,x.f2.length≤1048576:=fun x hx=>Nat.le_trans (hgx x hx) (by omega)
 have hwm:=wm_map l
 have hwg:=wm_le gs hgx
 have e1:((1:Nat):Int)=1:=rfl
 have hM:=markS (l.map cvG) [] 1 8000000 (by simp only [List.length_nil];omega) hmx (by omega) (by omega)
 have hN:=markS gs [] 1 8000000 (by simp only [List.length_nil];omega) hgy (by omega) (by omega)
 have hH:=heldS gs [] 1 8000000 (by simp only [List.length_nil];omega) hgy (by omega) (by omega)
 simp only [List.nil_append,List.length_nil]at hM hN hH
 rw [e1]at hM hN hH
 refine⟨8000000,t,h1,.inr ⟨ct,l.map cvG,gs,gb,_,_,_,_, ?_,hs1,hs2, ?_, ?_,hM,by omega,hN,mkS_len 1 gs,hH,by omega⟩⟩
 ·unfold laws_toGraphS.f
  rw [if_pos (by omega),if_pos (by omega)]
  exact toS l [] 8000000 (by simp only [List.length_nil];omega) hx2 (by omega)
 ·unfold laws_eqGraphS.f
  rw [if_pos rfl]
  exact eqS gs [] 8000000 (by simp only [List.length_nil];omega) hgy (by omega)
 ·unfold laws_eqGraphS.f
  rw [if_pos rfl]
  exact eqS (l.map cvG) [] 8000000 (by simp only [List.length_nil];omega) hmx (by omega)
end Go.Proofs.Ytcckpjflbfofjaa.Pure
