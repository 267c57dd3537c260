-- Cut by prune.py, a program of this session, out of the texts of this claim: Lean checks it.
import Derived.Test.YtcckpjflbfofjaaVclQIvP
namespace Go.Proofs.Ytcckpjflbfofjaa.QClo
open Go.RowKit Go.Proofs.YtcckpjflbfofjaaW.PrintWords Go.Proofs.YtcckpjflbfofjaaW.PrintLast Go.Proofs.YtcckpjflbfofjaaW.PrintMore
set_option linter.unusedVariables false
set_option linter.unusedSimpArgs false
theorem bx1 {W:World} {g ty:Nat} {a0:Value} (h:W.heap[g]?=some (.cells #[a0] ty (0,0))):W.cell? ⟨g,0,none⟩=some a0∧W.frozen? ⟨g,0,none⟩=false:=⟨(y7 h 0).trans rfl,y11 h 0⟩
theorem bx3 {W:World} {g ty:Nat} {a0 a1 a2:Value} (h:W.heap[g]?=some (.cells #[a0,a1,a2] ty (0,0))):W.cell? ⟨g,0,none⟩=some a0∧W.cell? ⟨g,1,none⟩=some a1∧W.cell? ⟨g,2,none⟩=some a2∧W.frozen? ⟨g,0,none⟩=false∧W.frozen? ⟨g,1,none⟩=false∧W.frozen? ⟨g,2,none⟩=false:=⟨(y7 h 0).trans rfl,(y7 h 1).trans rfl,(y7 h 2).trans rfl,y11 h 0,y11 h 1,y11 h 2⟩
theorem append_moved {P:Program} {w w':World} {base:Nat} {t ty e:TypeId} {i:TypeInfo} {z:Value} {size bytes:Nat} (ht:P.underlying t=some (.slice e)) (hi:P.info? e=some i) (hz:i.zero=some z) (hsize:i.size=size) (hby:i.bytes=bytes)
  {v v':Value} {n:Nat} {xs:List Value} (hown:w.ownsRow base e size v n xs) {a:Addr} {m c:Nat} {news:List Value} (hl:news.length=m * size) (hnews:∀ j u,news[j]?=some u→w.cell? (a.add j)=some u) (h1:∀ u∈news,u.oneCell'=true)
  (h63:n + m≤maxLen) (hbytes:(n + m) * bytes≤140737488355328) (hr:(Builtin.append_ #[t,t] ty #[v,.slice (some a) m c]).run P w=.ok v' w') (hg:w.grownBy w' v.ownBlock):v'.ownBlock=v.ownBlock∨∀ k,k < w.heap.size→w'.heap[k]?=w.heap[k]?:=by
 subst hsize
 subst hby
 rcases hown.2 with⟨rfl,rfl⟩|⟨g,cap,cur,rfl,hbg,hgc,hnc,hcm,hcs,htake⟩
 ·exact .inr (fun k hk=>hg.block k hk (by simp [Value.ownBlock]))
 ·by_cases hroom:n + m≤cap
  ·have hfit:n * i.size + news.length≤cur.size:=by rw [hl,hcs,← Nat.add_mul];exact Nat.mul_le_mul_right _ hroom
   have h2:=run_append_room (P:=P) w t ty e i ht hi g n cap cur hgc a m c news hl hnews h1 hroom hfit
   rw [hr]at h2
   injection h2 with h2 h3
   subst h2
   exact .inl rfl
  ·have holds:∀ j u,xs[j]?=some u→w.cell? ((⟨g,0,none⟩:Addr).add j)=some u:=hown.cells (g:=g) rfl
   have h2:=run_append_grow (P:=P) w t ty e i z ht hi hz ⟨g,0,none⟩ n cap xs hown.1 holds a m c news hl hnews (by omega) (by simp only [maxLen]at h63;omega) (growslice_fits (by omega) hbytes)
   rw [hr]at h2
   injection h2 with h2 h3
   subst h3
   exact .inr (fun k hk=>heap_alloc_old w.drew _ hk)
section
variable {P : Program} {ops : Array Oper} {rest : List Oper} {o : Oper} {a : Act} {Q : Exit → Act → World → Prop} {α : Type}
theorem S_append_kept (d:Kd α) {w0 W:World} (base:Nat) (hgd:o.guard=none) (s x:Operand) (t e:TypeId) (z:Value) (bytes:Nat)
  (ho:o.op=.call { callee:=.builtin .append,args:=#[s,x],argTypes:=#[t,t] })
  (ht:P.underlying t=some (.slice e)) (hinfo:(P.info? e).map (fun i=>(i.zero,i.size,i.bytes))=some (some z,d.sz,bytes)) (hz:z.cells.size=d.sz) (hs0:0 < d.sz) (hb0:0 < bytes)
  (v:Value) (xs:List α) (p:α) (cs:List Value) (ok okp:Nat→Prop) (hs:a.eval s=v) (hx:a.eval x=.slice (some ⟨W.heap.size,0,none⟩) 1 1) (hp:d.M W base okp p cs) (hokp:∀ k,okp k→ok k∧some k≠v.ownBlock) (hfresh:∀ k,W.heap.size≤k→ok k)
  (HO:Kd.S d e W base (fun k=>ok k∧¬ okp k) v xs) (HB:Below base w0 W) (hbase:base≤W.heap.size) (hl:(xs.length + 1) * bytes≤140737488355328)
  (h:∀ v1 w1,Kd.S d e w1 base ok v1 (xs ++ [p])→Below base w0 w1→W.grownBy w1 v.ownBlock→(v1.ownBlock=v.ownBlock∨(∃ b,v1.ownBlock=some b∧W.heap.size≤b)∧∀ k,k < W.heap.size→w1.heap[k]?=W.heap[k]?)→wpList P ops Q rest (a.put o.dst v1) w1) :
  wpList P ops Q (o :: rest) a (W.alloc (.cells cs.toArray e)):=by
 obtain⟨i0,hi,hzz⟩:=Option.map_eq_some_iff.1 hinfo
 simp only [Prod.mk.injEq]at hzz
 obtain⟨hz0,hz1,hz2⟩:=hzz
 have hlen:xs.length + 1≤140737488355328:=Nat.le_trans (Nat.le_mul_of_pos_right _ hb0) hl
 obtain⟨f,hf,hR⟩:=Kd.S_tag HO xs.length okp (fun _ hk h2=>h2.2 hk)
 obtain⟨h0,inner,hown,hr⟩:=Kd.R_mono hR (fun _ hk=>hk.1)
 have hys:cs.length=d.sz:=d.K_len (d.K_of_M hp)
 have h1:∀ u∈cs,u.oneCell'=true:=d.K_one (d.K_of_M hp)
 have hown':W.ownsRow base e d.sz v xs.length inner:=by
  rw [List.length_zipIdx]at hown
  exact hown
 have hnews:∀ j u,cs[j]?=some u→(W.alloc (.cells cs.toArray e)).cell? ((⟨W.heap.size,0,none⟩:Addr).add j)=some u:=by
  simpa using World.news_of_block (cs:=cs.toArray) (t:=e) (fr:=(0,0)) (heap_alloc_new W (.cells cs.toArray e))
 have hcl:cs.length=1 * d.sz:=by rw [hys];simp
 refine wpList_plain hgd fun K hK=>?_
 obtain⟨v',w',hrun,h2,h3,_,h5⟩:=run_append_own_at (P:=P) (W.alloc (.cells cs.toArray e)) base t o.type e i0 z d.sz bytes ht hi hz0 hz1 hz2 hz hs0 v xs.length inner (hown'.alloc _) ⟨W.heap.size,0,none⟩ 1 1 cs hcl hnews h1 (by simp only [maxLen];omega) hl (by simp;omega)
 have hmv:=append_moved (P:=P) ht hi hz0 hz1 hz2 (hown'.alloc (.cells cs.toArray e)) hcl hnews h1 (by simp only [maxLen];omega) hl hrun h3
 unfold Oper.wp execOp
 simp only [ho,resolve,invoke,builtin,Sem.run_bind,Sem.run_pure,Result.andThen_ok,List.map_toArray,List.map_cons,List.map_nil,hs,hx,hrun]
 have hgb:W.grownBy w' v.ownBlock:=World.grownBy.trans (World.grownBy_alloc W _ _) h3
 have hat:v'.ownBlock=v.ownBlock∨∃ b,v'.ownBlock=some b∧W.heap.size≤b:=by
  rcases h5 with h5|h5
  ·exact .inl h5
  ·exact .inr ⟨_,h5,by simp⟩
 refine hK _ _ (h v' w' ⟨f, ?_⟩ ((HB.alloc hbase _).grown h3 (by simp;omega) (own_base hown')) hgb ?_)
 ·have hz2':=Kd.R_appended (d:=Kd.tag f d) h0 hr (d.M_mono (fun k hk=>⟨hk,hf k hk⟩) hp:(Kd.tag f d).M W base okp (p,xs.length) cs) hokp hfresh (by rw [List.length_zipIdx];exact h2) hgb hat
  rw [← Kd.zip_snoc]at hz2'
  exact hz2'
 ·rcases hmv with hmv|hmv
  ·exact .inl hmv
  ·rcases hat with hat|hat
   ·exact .inl hat
   ·exact .inr ⟨hat,fun k hk=>(hmv k (by simp;omega)).trans (heap_alloc_old W _ hk)⟩
end
/-- What a put leaves: only the variable's cell and the row's own block have turned; the elder block is as it was where the row has moved. -/
def StepG (go:Nat) (v v1:Value) (w w1:World):Prop:=w.heap.size≤w1.heap.size∧(∀ k,k < w.heap.size→k≠go→some k≠v.ownBlock→w1.heap[k]?=w.heap[k]?)∧(v1.ownBlock=v.ownBlock∨(∃ b,v1.ownBlock=some b∧w.heap.size≤b)∧∀ k,k < w.heap.size→k≠go→w1.heap[k]?=w.heap[k]?)
theorem StepG.of_below {go:Nat} {v:Value} {w w1:World} (h:Below w.heap.size w w1):StepG go v v w w1:=⟨h.size,fun k hk _ _=>h.block k hk,.inl rfl⟩
/-- An elder slice of a row that has grown since: what it holds can still be read. -/
def Now {α:Type} (d:Kd α) (go:Nat) (An:Option Addr) (n:Nat) (xs0:List α) (v:Value) (out:List α) (W:World):Prop :=
 n=xs0.length∧(((∃ c,v=.slice An out.length c)∧∃ t,out=xs0 ++ t)∨Kd.F d W (fun k=>(k≠go∧some k≠v.ownBlock)∧k < W.heap.size) An n xs0)
section
variable {α : Type} {d : Kd α} {go n e base : Nat} {An : Option Addr} {xs0 out out1 : List α} {v v1 : Value} {W W1 : World}
theorem Now.start {c:Nat}:Now d go An out.length out (.slice An out.length c) out W:=⟨rfl,.inl ⟨⟨c,rfl⟩,[],(List.append_nil _).symm⟩⟩
theorem Now.C {ok:Nat→Prop} (h:Now d go An n xs0 v out W) (hS:Kd.S d e W base ok v out):Kd.C d W An xs0.length xs0:=by
 obtain⟨rfl,⟨⟨c,rfl⟩,t,rfl⟩|h⟩:=h
 ·have h2:=(Kd.S_reads' (Kd.S_take hS (m:=xs0.length) (by rw [List.length_append];omega))).2.2
  rw [List.take_left]at h2
  exact h2
 ·exact Kd.F_now h
theorem Now.below (h:Now d go An n xs0 v out W) (hb:Below W.heap.size W W1):Now d go An n xs0 v out W1:=by
 refine⟨h.1,h.2.imp id (fun h2=>?_)⟩
 exact Kd.F_mono (Kd.F_step h2 (fun k hk hlt=>hb.block k hlt)) (fun k hk=>⟨hk.1,Nat.lt_of_lt_of_le hk.2 hb.size⟩)
theorem same_at {A A1:Option Addr} {n1 n2 c1 c2:Nat} {ys:List α} {ok ok1:Nat→Prop} (h:Kd.S d e W base ok (.slice A n1 c1) out) (h1:Kd.S d e W1 base ok1 (.slice A1 n2 c2) ys) (he:(Value.slice A1 n2 c2).ownBlock=(Value.slice A n1 c1).ownBlock):A1=A:=by
 rcases A with _|ad
 ·rcases A1 with _|ad1
  ·rfl
  ·simp [Value.ownBlock]at he
 ·rcases A1 with _|ad1
  ·simp [Value.ownBlock]at he
  ·obtain⟨g,rfl⟩:=Kd.R_head (Kd.S_R h)
   obtain⟨g1,rfl⟩:=Kd.R_head (Kd.S_R h1)
   simp [Value.ownBlock]at he
   rw [he]
theorem Now.step {ok1:Nat→Prop} {A A1:Option Addr} {c c1:Nat} (h:Now d go An n xs0 (.slice A out.length c) out W) (hS:Kd.S d e W base (fun k=>k≠go) (.slice A out.length c) out) (hS1:Kd.S d e W1 base ok1 (.slice A1 out1.length c1) out1) (hst:StepG go (.slice A out.length c) (.slice A1 out1.length c1) W W1) (hx:∃ t,out1=out ++ t):Now d go An n xs0 (.slice A1 out1.length c1) out1 W1:=by
 obtain⟨rfl,h⟩:=h
 obtain⟨h1,h2,h3⟩:=hst
 have hlt:=Kd.S_lt hS
 refine⟨rfl, ?_⟩
 rcases h with⟨⟨c2,e2⟩,t,ht⟩|h
 ·injection e2 with e2 _ _
  subst e2
  rcases h3 with h3|⟨⟨b,hb,hle⟩,h3⟩
  ·obtain rfl:=same_at hS hS1 h3
   obtain⟨t1,rfl⟩:=hx
   exact .inl ⟨⟨_,rfl⟩,t ++ t1,by rw [ht,List.append_assoc]⟩
  ·refine .inr ?_
   have hT:Kd.S d e W base (fun k=>k≠go∧k < W.heap.size) (.slice A xs0.length c) xs0:=by
    have h4:=Kd.S_take (Kd.S_mono (Kd.S_bound hS) (fun k hk=>(⟨hk.1,hk.2.2.1⟩:k≠go∧k < W.heap.size))) (m:=xs0.length) (by rw [ht,List.length_append];omega)
    rw [ht,List.take_left]at h4
    exact h4
   refine Kd.F_mono (Kd.F_step (Kd.S_F hT) (fun k hk hlt=>h3 k hlt hk.1)) (fun k hk=>⟨⟨hk.1,fun e=>?_⟩,Nat.lt_of_lt_of_le hk.2 h1⟩)
   rw [hb]at e
   injection e with e
   omega
 ·refine .inr ?_
  refine Kd.F_mono (Kd.F_step h (fun k hk hlt=>h2 k hlt hk.1.1 hk.1.2)) (fun k hk=>⟨⟨hk.1.1, ?_⟩,Nat.lt_of_lt_of_le hk.2 h1⟩)
  rcases h3 with h3|⟨⟨b,hb,hle⟩,h3⟩
  ·rw [h3]
   exact hk.1.2
  ·intro e
   rw [hb]at e
   injection e with e
   have:=hk.2
   omega
/-- What is read, and is neither in the variable's block nor in the row's own. -/
def Far {α:Type} (d:Kd α) (go:Nat) (A:Option Addr) (n:Nat) (xs:List α) (v:Value) (W:World):Prop:=Kd.F d W (fun k=>(k≠go∧some k≠v.ownBlock)∧k < W.heap.size) A n xs
theorem nv_step {gb:Nat} (hst:StepG go v v1 W W1) (hg:gb < W.heap.size) (h:some gb≠v.ownBlock):some gb≠v1.ownBlock:=by
 rcases hst.2.2 with h3|⟨⟨b,hb,hle⟩,_⟩
 ·rw [h3]
  exact h
 ·intro e
  rw [hb]at e
  injection e with e
  omega
theorem Far.below {A:Option Addr} (h:Far d go A n xs0 v W) (hb:Below W.heap.size W W1):Far d go A n xs0 v W1 :=
 Kd.F_mono (Kd.F_step h (fun k hk hlt=>hb.block k hlt)) (fun k hk=>⟨hk.1,Nat.lt_of_lt_of_le hk.2 hb.size⟩)
theorem Far.step {A:Option Addr} (h:Far d go A n xs0 v W) (hst:StepG go v v1 W W1):Far d go A n xs0 v1 W1:=by
 obtain⟨h1,h2,h3⟩:=hst
 refine Kd.F_mono (Kd.F_step h (fun k hk hlt=>h2 k hlt hk.1.1 hk.1.2)) (fun k hk=>⟨⟨hk.1.1, ?_⟩,Nat.lt_of_lt_of_le hk.2 h1⟩)
 rcases h3 with h3|⟨⟨b,hb,hle⟩,h3⟩
 ·rw [h3]
  exact hk.1.2
 ·intro e
  rw [hb]at e
  injection e with e
  have:=hk.2
  omega
theorem Far.C {A:Option Addr} (h:Far d go A n xs0 v W):Kd.C d W A n xs0:=Kd.F_now h
theorem Now.rows {ok:Nat→Prop} (h:Now d go An n xs0 v out W) (hS:Kd.S d e W base ok v out) (hno:∀ k,ok k→k≠go) (z:α) (i:Int) (h0:0≤i) (h1:i < (xs0.length:Int)) :
  ∃ ad c,An=some ad∧c.length=d.sz∧Kd.FK d W (fun k=>(k≠go∧some k≠v.ownBlock)∧k < W.heap.size) (xs0.getD i.toNat z) c∧∀ j u,c[j]?=some u→W.cell? (ad.add (i.toNat * d.sz + j))=some u:=by
 obtain⟨rfl,⟨⟨c,rfl⟩,t,rfl⟩|h⟩:=h
 ·have hp:0 < (xs0 ++ t).length:=by rw [List.length_append];omega
  obtain⟨g,cap,e1,_⟩:=Kd.S_form hS hp
  injection e1 with e1 _ _
  subst e1
  obtain⟨c,hcl,hM,hcc⟩:=Kd.R_getA (Kd.S_R (Kd.S_mono (Kd.S_bound hS) (fun k hk=>(⟨hno k hk.1,hk.2.2.1⟩:k≠go∧k < W.heap.size)))) z i h0 (by rw [List.length_append];omega)
  refine⟨_,c,rfl,hcl, ?_,hcc⟩
  have h2:=Kd.FK_of_M hM
  rw [show(xs0 ++ t).getD i.toNat z=xs0.getD i.toNat z by rw [List.getD_eq_getElem?_getD,List.getD_eq_getElem?_getD,List.getElem?_append_left (by omega)]]at h2
  exact Kd.FK_mono h2 (fun k hk=>⟨⟨hk.1.1,hk.2⟩,hk.1.2⟩)
 ·obtain⟨ad,c,e1,hs,hr,hcc⟩:=(Kd.F_rows h).get_ z i h0 h1
  exact⟨ad,c,e1,hs,hr,hcc⟩
/-- A row's blocks are none of the variable's. -/
theorem S_no {ok:Nat→Prop} {t:Nat} {cells:Array Value} (hS:Kd.S d e W base ok v out) (hb:W.heap[go]?=some (.cells cells t (0,0))) (ht:∀ q,q∈e :: d.E→q≠t):Kd.S d e W base (fun k=>k≠go) v out:=Kd.S_mono (Kd.S_types hS hb ht) (fun _ hk=>hk.2)
end
end Go.Proofs.Ytcckpjflbfofjaa.QClo
