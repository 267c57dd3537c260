-- Cut by prune.py, a program of this session, out of the texts of this claim: Lean checks it.
import Derived.Test.YtcckpjflbfofjaaVclQMapW
import Derived.Test.YtcckpjflbfofjaaVclQPairs
import Derived.Test.YtcckpjflbfofjaaVclQSortR
namespace Go.Proofs.Ytcckpjflbfofjaa.Pd
open Go.RowKit Go.Proofs.YtcckpjflbfofjaaW.PrintWords Go.Proofs.YtcckpjflbfofjaaW.PrintLast Go.Proofs.YtcckpjflbfofjaaW.PrintMore Go.Proofs.Ytcckpjflbfofjaa.QStr Go.Proofs.Ytcckpjflbfofjaa.QGraph Go.Proofs.Ytcckpjflbfofjaa.QGraphR Go.Proofs.Ytcckpjflbfofjaa.QMapA Go.Proofs.Ytcckpjflbfofjaa.QMapR Go.Proofs.Ytcckpjflbfofjaa.QMapW Go.Proofs.Ytcckpjflbfofjaa.QPairs Go.Proofs.Ytcckpjflbfofjaa.QCompU Go.Proofs.Ytcckpjflbfofjaa.QSortU Go.Proofs.Ytcckpjflbfofjaa.QSortR
attribute [local go_sem] max2_int min2_int max_two min_two max_three min_three max_four min_four
set_option linter.unusedVariables false
set_option linter.unusedSimpArgs false
section
variable {W : World} {B n : Nat} {F : Int → Int → Option Bool}
/-- The object o is a map that holds just what F tells. -/
def PMo (o:Obj) (n:Nat) (F:Int→Int→Option Bool):Prop:=∃(W:World) (B:Nat),W.heap[B]?=some o∧PM W B n F
theorem PM.o (h:PM W B n F):∃ o,W.heap[B]?=some o∧PMo o n F:=by
 have h2:=h
 obtain⟨D,hD,_⟩:=h2
 obtain⟨es,clock,hb,_⟩:=hD
 exact⟨_,hb,W,B,hb,h⟩
theorem PMo.at {o:Obj} (h:PMo o n F) (e:W.heap[B]?=some o):PM W B n F:=by
 obtain⟨W0,B0,h0,D,hD,h1⟩:=h
 obtain⟨es,clock,hb,h2⟩:=hD
 rw [h0]at hb
 exact⟨D,⟨es,clock,by rw [e];exact hb,h2⟩,h1⟩
theorem PMo.mono {o:Obj} {m:Nat} (h:PMo o n F) (hm:n≤m):PMo o m F:=by
 obtain⟨W0,B0,h0,D,hD,h1⟩:=h
 exact⟨W0,B0,h0,D,hD.mono hm,h1⟩
theorem PMo.to {o:Obj} {m:Nat} {F':Int→Int→Option Bool} (h:PMo o n F) (hm:n≤m) (hF:F=F'):PMo o m F':=hF ▸ h.mono hm
theorem PM.drew (h:PM W B n F):PM W.drew B n F:=h
/-- The objects: a map, and a range over it. -/
def PRo (om or:Obj) (n:Nat) (F:Int→Int→Option Bool) (G:Int→Int→Bool) (cnt:Nat) (B:Nat):Prop:=∃(W:World) (r:Nat),W.heap[B]?=some om∧W.heap[r]?=some or∧PR W B r n F G cnt
theorem PR.o {r cnt:Nat} {G:Int→Int→Bool} (h:PR W B r n F G cnt):∃ om or,W.heap[B]?=some om∧W.heap[r]?=some or∧PRo om or n F G cnt B:=by
 have h2:=h
 obtain⟨D,L,⟨es,clock,since,seen,c0,hb,_,_,_,hr,_⟩,_⟩:=h2
 exact⟨_,_,hb,hr,W,r,hb,hr,h⟩
theorem PRo.at {om or:Obj} {r cnt:Nat} {G:Int→Int→Bool} (h:PRo om or n F G cnt B) (e:W.heap[B]?=some om) (e2:W.heap[r]?=some or):PR W B r n F G cnt:=by
 obtain⟨W0,r0,h0,h00,D,L,⟨es,clock,since,seen,c0,hb,p1,p2,p3,hr,p4⟩,h1⟩:=h
 rw [h0]at hb
 rw [h00]at hr
 exact⟨D,L,⟨es,clock,since,seen,c0,by rw [e];exact hb,p1,p2,p3,by rw [e2];exact hr,p4⟩,h1⟩
theorem PRo.not1 {om or:Obj} {cnt:Nat} {G:Int→Int→Bool} (h:PRo om or n F G cnt B):∀ cs t fr,om≠.cells cs t fr:=by
 obtain⟨W0,r0,h0,h00,D,L,⟨es,clock,since,seen,c0,hb,_⟩,h1⟩:=h
 rw [h0]at hb
 injection hb with hb
 subst hb
 intro cs t fr e
 cases e
theorem PRo.not2 {om or:Obj} {cnt:Nat} {G:Int→Int→Bool} (h:PRo om or n F G cnt B):∀ cs t fr,or≠.cells cs t fr:=by
 obtain⟨W0,r0,h0,h00,D,L,⟨es,clock,since,seen,c0,hb,_,_,_,hr,_⟩,h1⟩:=h
 rw [h00]at hr
 injection hr with hr
 subst hr
 intro cs t fr e
 cases e
theorem PRo.le {om or:Obj} {cnt:Nat} {G:Int→Int→Bool} (h:PRo om or n F G cnt B):cnt≤n:=by
 obtain⟨W0,r0,h0,h00,D,L,⟨es,clock,since,seen,c0,hb,_,h3,_,hr,_,h4,_⟩,h1⟩:=h
 subst h4
 refine Nat.le_trans ?_ h3
 unfold leftOf
 exact Array.size_filter_le
theorem y10 {w:World} {g:Nat} {o:Obj} (h:w.heap[g]?=some o) {p:Addr} (hp:g≠p.block) (u:Value):(w.setCell p u).heap[g]?=some o:=(Below.heap_setCell w p u g hp).trans h
theorem below_grown0 {w W W1:World} (h:Below w.heap.size w W) {row:Option Nat} (hg:W.grownBy W1 row) (hrow:∀ k,row=some k→w.heap.size≤k):Below w.heap.size w W1 :=
 ⟨hg.os.trans h.os,hg.tape.trans h.tape,hg.output.trans h.output,Nat.le_trans h.size hg.size,fun i hi=>(hg.block i (Nat.lt_of_lt_of_le hi h.size) (fun e=>by have:=hrow i e.symm;omega)).trans (h.block i hi)⟩
theorem row_ne {base:Nat} {u:Value} {d:List A} {g:Nat} {o:Obj} (h:Kd.R k53 53 W base (fun _=>True) u d) (hb:W.heap[g]?=some o) (ho:∀ cs t fr,o≠.cells cs t fr):some g≠u.ownBlock:=by
 intro e
 obtain⟨cells,hc⟩:=Kd.R_typed h g e.symm
 rw [hb]at hc
 injection hc with hc
 exact ho _ _ _ hc
theorem R_iter {W1:World} {base:Nat} {u:Value} {d:List A} {g:Nat} {o:Obj} (h:Kd.R k53 53 W base (fun _=>True) u d) (hg:W.grownBy W1 (some g)) (hb:W.heap[g]?=some o) (ho:∀ cs t fr,o≠.cells cs t fr):Kd.R k53 53 W1 base (fun _=>True) u d:=by
 refine Kd.R_mono (Kd.R_grown (Kd.R_bound h) hg ?_) (fun _ _=>trivial)
 rintro k ⟨_,_,_,q,_,cells,hc⟩ e
 injection e with e
 subst e
 rw [hb]at hc
 injection hc with hc
 exact ho _ _ _ hc
end
section
variable {P : Program} {ops : Array Oper} {rest : List Oper} {o : Oper} {a : Act} {Q : Exit → Act → World → Prop} {W : World}
theorem make_event (hg:o.guard=none) (hop:o.op=Op.makeMap 66 none)
  (h:∀ g,g=W.heap.size→∀ w1 om,w1.heap[g]?=some om→PMo om 0 (fun _ _=>none)→Below W.heap.size W w1→wpList P ops Q rest (a.put o.dst (.map (some g))) w1):wpList P ops Q (o :: rest) a W:=by
 refine wpList_plain hg fun K' hK'=>?_
 unfold Oper.wp
 have hrun:(Instr.makeMap 66 none).run P W=.ok (.map (some W.heap.size)) (W.alloc (.map #[] 0)):=run_makeMap 66 W
 simp [execOp,hop,hrun,Result.andThen]
 obtain⟨om,h1,h2⟩:=PM.o (PM.made W)
 exact hK' _ _ (h _ rfl _ om h1 h2 (y1 (Below.refl _ _) _))
theorem run_look2 {B n:Nat} {F:Int→Int→Option Bool} (h:PM W B n F) {m x:Operand} (hop:o.op=Op.lookup 66 m x false) (hm:a.eval m=.map (some B)) {p q:Int} {l:Lit} (hk:keyOf Try.prog 67 (QMapA.key p q)=some l) (hx:a.eval x=QMapA.key p q) {b:Bool} (hb:(F p q).getD false=b) :
  (execOp a.eval o).run Try.prog W=.ok (.value (.bool b)) W:=by
 rw [← hb]
 exact run_look h hop hm hk hx
theorem next_run {W1:World} {v p:Value} {ty:TypeId} (hg:o.guard=none) (it:Operand) (hop:o.op=Op.next it false) (hit:a.eval it=p) (hty:o.type=ty) (hrun:(Instr.next p false ty).run P W=.ok v W1)
  (h:wpList P ops Q rest (a.put o.dst v) W1):wpList P ops Q (o :: rest) a W:=by
 subst hty
 refine wpList_plain hg fun K' hK'=>?_
 unfold Oper.wp
 simp [execOp,hop,hit,hrun,Result.andThen]
 exact hK' _ _ h
theorem entry_run {v p:Value} (hg:o.guard=none) (it:Operand) (hop:o.op=Op.entry it) (hit:a.eval it=p) (hrun:(Instr.entry p).run P W=.ok v W)
  (h:wpList P ops Q rest (a.put o.dst v) W):wpList P ops Q (o :: rest) a W:=by
 refine wpList_plain hg fun K' hK'=>?_
 unfold Oper.wp
 simp [execOp,hop,hit,hrun,Result.andThen]
 exact hK' _ _ h
theorem put_run {w':World} {m kv vv:Value} {mo xo vo:Operand} (hop:o.op=Op.mapUpdate 66 mo xo vo) (hm:a.eval mo=m) (hx:a.eval xo=kv) (hv:a.eval vo=vv) (hrun:(Instr.mapUpdate 66 m kv vv).run P W=.ok () w') :
  (execOp a.eval o).run P W=.ok .skip w':=by
 simp [execOp,hop,hm,hx,hv,hrun,Result.andThen]
end
theorem room {i j a b:Nat} (hi:i < a) (hj:j < b) (ha:a≤1048576) (hb:b≤1048576):i * b + j < maxLen:=by
 have h1:i * b≤1048576 * 1048576:=Nat.mul_le_mul (by omega) hb
 unfold maxLen
 omega
theorem hitF {om:Obj} {n j:Nat} {L:List (A×A)} {l:List A} {x0 x1 y0 y1:Int} {x2 y2 b0 v:Bool} (h:PMo om (n + j + 1) (fun c d=>if c=x0∧d=y1 then some v else Fp (L ++ (l.take j).map fun y=>((⟨x0,x1,x2⟩:A),y)) c d))
  (hj:j < l.length) (hy:l[j]=⟨y0,y1,y2⟩) (he:x1=y0) (hb:(Fp (L ++ (l.take j).map fun y=>((⟨x0,x1,x2⟩:A),y)) x0 y1).getD false=b0) (hv:((b0 || x2) || y2)=v) :
  PMo om (n + (j + 1)) (Fp (L ++ (l.take (j + 1)).map fun y=>((⟨x0,x1,x2⟩:A),y))):=by
 refine h.to (by omega) ?_
 rw [map_step _ l j hj,← List.append_assoc,hy,Fp_hit _ he]
 show _=fun c d=>if c=x0∧d=y1 then some (((Fp (L ++ (l.take j).map fun y=>((⟨x0,x1,x2⟩:A),y)) x0 y1).getD false || x2) || y2)else _
 rw [hb,hv]
theorem missF {om:Obj} {n j:Nat} {L:List (A×A)} {l:List A} {x0 x1 y0 y1:Int} {x2 y2:Bool} (h:PMo om (n + j) (Fp (L ++ (l.take j).map fun y=>((⟨x0,x1,x2⟩:A),y))))
  (hj:j < l.length) (hy:l[j]=⟨y0,y1,y2⟩) (he:¬ x1=y0):PMo om (n + (j + 1)) (Fp (L ++ (l.take (j + 1)).map fun y=>((⟨x0,x1,x2⟩:A),y))):=by
 refine h.to (by omega) ?_
 rw [map_step _ l j hj,← List.append_assoc,hy,Fp_miss _ he]
theorem doneF {om:Obj} {i j:Nat} {l m:List A} {x:A} (h:PMo om (i * m.length + j) (Fp (prs (l.take i) m ++ (m.take j).map fun y=>(x,y)))) (hi:i < l.length) (hx:l[i]=x) (hj:j=m.length):PMo om ((i + 1) * m.length) (Fp (prs (l.take (i + 1)) m)):=by
 refine h.to (by rw [Nat.add_mul,Nat.one_mul];omega) ?_
 rw [prs_step l m i hi,hx,hj,List.take_length]
theorem startM (F:Int→Int→Option Bool) (z:A):z∈([]:List A)↔F z.f0 z.f1=some z.f2∧(F z.f0 z.f1).isSome=false:=by
 constructor
 ·intro h
  cases h
 ·rintro⟨h1,h2⟩
  rw [h1]at h2
  cases h2
section
variable {d : List A} {F : Int → Int → Option Bool} {G : Int → Int → Bool} {p q : Int} {b : Bool}
theorem stepD (hd:d.Pairwise fun x y=>¬(x.f0=y.f0∧x.f1=y.f1)) (hz:∀ z:A,z∈d↔F z.f0 z.f1=some z.f2∧G z.f0 z.f1=false) (hF:F p q=some b) (hG:G p q=true):(d ++ [(⟨p,q,b⟩:A)]).Pairwise fun x y=>¬(x.f0=y.f0∧x.f1=y.f1):=by
 refine List.pairwise_append.2 ⟨hd,List.pairwise_singleton _ _,fun x hx y hy=>?_⟩
 rw [List.mem_singleton]at hy
 subst hy
 rintro⟨h1,h2⟩
 have:=((hz x).1 hx).2
 rw [h1,h2]at this
 exact absurd (hG.symm.trans this) (by decide)
theorem stepM (hz:∀ z:A,z∈d↔F z.f0 z.f1=some z.f2∧G z.f0 z.f1=false) (hF:F p q=some b) (hG:G p q=true):∀ z:A,z∈d ++ [(⟨p,q,b⟩:A)]↔F z.f0 z.f1=some z.f2∧(G z.f0 z.f1 && !decide (z.f0=p∧z.f1=q))=false:=by
 intro z
 rw [List.mem_append,List.mem_singleton,hz z]
 constructor
 ·rintro(⟨h1,h2⟩|rfl)
  ·exact⟨h1,by rw [h2];rfl⟩
  ·exact⟨hF,by simp⟩
 ·rintro⟨h1,h2⟩
  by_cases e:z.f0=p∧z.f1=q
  ·obtain⟨z0,z1,z2⟩:=z
   obtain⟨rfl,rfl⟩:=e
   have:some z2=some b:=h1.symm.trans hF
   injection this with this
   subst this
   exact Or.inr rfl
  ·rw [decide_eq_false e]at h2
   exact Or.inl ⟨h1,by simpa using h2⟩
theorem finM {xs ys:List A} (hz:∀ z:A,z∈d↔Fp (prs xs ys) z.f0 z.f1=some z.f2∧G z.f0 z.f1=false) (hl:∀ a b l,keyOf Try.prog 67 (QMapA.key a b)=some l→G a b=false) (h0:∀ x∈xs,inA x) (h1:∀ y∈ys,inA y) :
  ∀ z,z∈d.toArray.toList↔fnd z.f0 z.f1 xs ys=true∧z.f2=str z.f0 z.f1 xs ys:=by
 intro z
 show z∈d↔_
 rw [hz z,Fp_all]
 constructor
 ·rintro⟨h2,_⟩
  by_cases e:fnd z.f0 z.f1 xs ys=true
  ·rw [if_pos e]at h2
   injection h2 with h2
   exact⟨e,h2.symm⟩
  ·rw [if_neg e]at h2
   cases h2
 ·rintro⟨h2,h3⟩
  obtain⟨i0,i1⟩:=fnd_in h0 h1 h2
  obtain⟨l,hk⟩:=key_ex i0 i1
  exact⟨by rw [if_pos h2,h3],hl _ _ l hk⟩
end
theorem lenN {n a b c:Nat} (h:n + c≤a * b) (ha:a≤1048576) (hb:b≤1048576):n≤1099511627776:=by
 have h1:a * b≤1048576 * 1048576:=Nat.mul_le_mul ha hb
 omega
theorem endR {W:World} {base g:Nat} {u a b c:Value} {d:List A} {cs:Array Value} (h:Kd.R k53 53 W base (fun _=>True) u d) (hb:W.heap[g]?=some (.cells cs 28 (0,0))) :
  Kd.R k53 53 (((W.setCell ⟨g,0,none⟩ a).setCell ⟨g,1,none⟩ b).setCell ⟨g,2,none⟩ c) base (fun _=>True) u d :=
 Kd.R_set (Kd.R_set (Kd.R_set h hb (by decide) 0 _) (blk_set hb 0 a) (by decide) 1 _) (blk_set (blk_set hb 0 a) 1 b) (by decide) 2 _
/-- What compose makes of two graphs whose ends lie within the bounds. -/
def impl_compose.f (a0_0:Int) (a0_1:Int) (l0_2:List (S53)) (a1_0:Int) (a1_1:Int) (l1_2:List (S53)):Option (Int×Int×List (S53)) :=
 if(l0_2.all (fun x=>decide (inA x)) && (l1_2.all (fun x=>decide (inA x)) && (decide (l0_2.length≤1048576) && decide (l1_2.length≤1048576))))=true then some (a0_0,a1_1,compF l0_2 l1_2)else none
set_option maxHeartbeats 16000000 in
set_option maxRecDepth 100000 in
theorem impl_compose.calls (a0_0:Int) (a0_1:Int) (A0_2:Option Addr) (c0_2:Nat) (l0_2:List (S53)) (a1_0:Int) (a1_1:Int) (A1_2:Option Addr) (c1_2:Nat) (l1_2:List (S53)) (r1:Int) (r2:Int) (r3:List (S53)) (w:World) (hr0_2:Kd.C k53 w A0_2 l0_2.length l0_2) (hc0_2:l0_2.length≤c0_2) (hr1_2:Kd.C k53 w A1_2 l1_2.length l1_2) (hc1_2:l1_2.length≤c1_2) (h:impl_compose.f a0_0 a0_1 l0_2 a1_0 a1_1 l1_2=some (r1,r2,r3)) :
  Calls Try.prog 30 #[.agg #[.int .i64 a0_0,.int .i64 a0_1,.slice A0_2 l0_2.length c0_2],.agg #[.int .i64 a1_0,.int .i64 a1_1,.slice A1_2 l1_2.length c1_2]] w fun e w'=>∃ v2_:Value,e=.returned (.agg #[.int .i64 r1,.int .i64 r2,v2_])∧Kd.R k53 53 w' w.heap.size (fun _=>True) v2_ r3∧Below w.heap.size w w':=by
 have hu28:=Try.underlying28
 have hu53:=Try.underlying53
 have hu67:=Try.underlying67
 have hu66:=Try.underlying66
 unfold impl_compose.f at h
 by_cases hg0:(l0_2.all (fun x=>decide (inA x)) && (l1_2.all (fun x=>decide (inA x)) && (decide (l0_2.length≤1048576) && decide (l1_2.length≤1048576))))=true
 case neg =>
  rw [if_neg hg0]at h
  cases h
 rw [if_pos hg0]at h
 simp only [Option.some.injEq,Prod.mk.injEq]at h
 obtain⟨rfl,rfl,rfl⟩:=h
 simp only [Bool.and_eq_true,List.all_eq_true,decide_eq_true_eq]at hg0
 obtain⟨hin0,hin1,hn0,hn1⟩:=hg0
 have HI0:=y0.mk hin0
 clear hin0
 have HI1:=y0.mk hin1
 clear hin1
 have HN0:=y0.mk hn0
 clear hn0
 have HN1:=y0.mk hn1
 clear hn1
 have HR0:=y0.mk hr0_2
 clear hr0_2
 have HC0:=y0.mk hc0_2
 clear hc0_2
 have HR1:=y0.mk hr1_2
 clear hr1_2
 have HC1:=y0.mk hc1_2
 clear hc1_2
 have HB:=y0.mk (Below.refl w.heap.size w)
 go_enter Try.func30,Try.ntmps30
 go_wp2_with (first
   | ((with_reducible refine y12 (N:=2) rfl ?_);refine box_event ?hg (N:=2) ?hd (cs:=#[.int .i64 a0_0,.int .i64 a0_1,.slice A0_2 l0_2.length c0_2]) (t:=28) ?hr ?_;(case hd=>rfl);(case hg=>rfl);(case hr=>first|(go_simp;done)|(go_simp;rfl));intro ga hg w1 hbox hb;have n0_:=y0.mk (hbox);have n1_:=y0.mk ((by rw [hg];exact(below_size (by repeat(first|(with_reducible first|exact HB.out|apply y1|apply y13|apply y2)|exact HB.out))):w.heap.size≤ga));have n2_:=y0.mk (y4 (by repeat(first|(with_reducible first|exact HB.out|apply y1|apply y13|apply y2)|exact HB.out)) hb);(try clear BKa);(try clear GEa);(try clear HB);have BKa:=n0_;have GEa:=n1_;have HB:=n2_;clear n0_ n1_ n2_;clear hb hbox hg)
   | ((with_reducible refine y12 (N:=3) rfl ?_);refine box_event ?hg (N:=3) ?hd (cs:=#[.int .i64 a1_0,.int .i64 a1_1,.slice A1_2 l1_2.length c1_2]) (t:=28) ?hr ?_;(case hd=>rfl);(case hg=>rfl);(case hr=>first|(go_simp;done)|(go_simp;rfl));intro gb hg w2 hbox hb;have n0_:=y0.mk (y6 (g:=ga) (o:=(.cells #[.int .i64 a0_0,.int .i64 a0_1,.slice A0_2 l0_2.length c0_2] 28 (0,0))) (by(with_reducible repeat(first|refine y9 ?_ _|refine y8 ?_|refine y5 ?_ _));exact BKa.out) hb);have n1_:=y0.mk ((by rw [hg];exact Nat.ne_of_lt (blk_lt (g:=ga) (o:=(.cells #[.int .i64 a0_0,.int .i64 a0_1,.slice A0_2 l0_2.length c0_2] 28 (0,0))) (by(with_reducible repeat(first|refine y9 ?_ _|refine y8 ?_|refine y5 ?_ _));exact BKa.out)):ga≠gb));have n2_:=y0.mk (hbox);have n3_:=y0.mk ((by rw [hg];exact(below_size (by repeat(first|(with_reducible first|exact HB.out|apply y1|apply y13|apply y2|refine y3 ?_ GEa.out)|exact HB.out))):w.heap.size≤gb));have n4_:=y0.mk (y4 (by repeat(first|(with_reducible first|exact HB.out|apply y1|apply y13|apply y2|refine y3 ?_ GEa.out)|exact HB.out)) hb);(try clear BKa);(try clear NBa_b);(try clear BKb);(try clear GEb);(try clear HB);have BKa:=n0_;have NBa_b:=n1_;have BKb:=n2_;have GEb:=n3_;have HB:=n4_;clear n0_ n1_ n2_ n3_ n4_;clear hb hbox hg)
   | ((with_reducible refine y12 (N:=4) rfl ?_);refine box_event ?hg (N:=4) ?hd (cs:=#[.int .i64 0,.int .i64 0,.slice none 0 0]) (t:=28) ?hr ?_;(case hd=>rfl);(case hg=>rfl);(case hr=>first|(go_simp;done)|(go_simp;rfl));intro gr hg w3 hbox hb;have n0_:=y0.mk (y6 (g:=ga) (o:=(.cells #[.int .i64 a0_0,.int .i64 a0_1,.slice A0_2 l0_2.length c0_2] 28 (0,0))) (by(with_reducible repeat(first|refine y9 ?_ _|refine y8 ?_|refine y5 ?_ _));exact BKa.out) hb);have n1_:=y0.mk (y6 (g:=gb) (o:=(.cells #[.int .i64 a1_0,.int .i64 a1_1,.slice A1_2 l1_2.length c1_2] 28 (0,0))) (by(with_reducible repeat(first|refine y9 ?_ _|refine y8 ?_|refine y5 ?_ _));exact BKb.out) hb);have n2_:=y0.mk ((by rw [hg];exact Nat.ne_of_lt (blk_lt (g:=ga) (o:=(.cells #[.int .i64 a0_0,.int .i64 a0_1,.slice A0_2 l0_2.length c0_2] 28 (0,0))) (by(with_reducible repeat(first|refine y9 ?_ _|refine y8 ?_|refine y5 ?_ _));exact BKa.out)):ga≠gr));have n3_:=y0.mk ((by rw [hg];exact Nat.ne_of_lt (blk_lt (g:=gb) (o:=(.cells #[.int .i64 a1_0,.int .i64 a1_1,.slice A1_2 l1_2.length c1_2] 28 (0,0))) (by(with_reducible repeat(first|refine y9 ?_ _|refine y8 ?_|refine y5 ?_ _));exact BKb.out)):gb≠gr));have n4_:=y0.mk (hbox);have n5_:=y0.mk ((by rw [hg];exact(below_size (by repeat(first|(with_reducible first|exact HB.out|apply y1|apply y13|apply y2|refine y3 ?_ GEa.out|refine y3 ?_ GEb.out)|exact HB.out))):w.heap.size≤gr));have n6_:=y0.mk (y4 (by repeat(first|(with_reducible first|exact HB.out|apply y1|apply y13|apply y2|refine y3 ?_ GEa.out|refine y3 ?_ GEb.out)|exact HB.out)) hb);(try clear BKa);(try clear BKb);(try clear NBa_r);(try clear NBb_r);(try clear BKr);(try clear GEr);(try clear HB);have BKa:=n0_;have BKb:=n1_;have NBa_r:=n2_;have NBb_r:=n3_;have BKr:=n4_;have GEr:=n5_;have HB:=n6_;clear n0_ n1_ n2_ n3_ n4_ n5_ n6_;clear hb hbox hg)
   | ((with_reducible refine y12 (N:=14) rfl ?_);refine make_event rfl rfl ?_;intro gm hg w4 om hbox hM hb;have n0_:=y0.mk (y6 (g:=ga) (o:=(.cells #[.int .i64 a0_0,.int .i64 a0_1,.slice A0_2 l0_2.length c0_2] 28 (0,0))) (by(with_reducible repeat(first|refine y9 ?_ _|refine y8 ?_|refine y5 ?_ _));exact BKa.out) hb);have n1_:=y0.mk (y6 (g:=gb) (o:=(.cells #[.int .i64 a1_0,.int .i64 a1_1,.slice A1_2 l1_2.length c1_2] 28 (0,0))) (by(with_reducible repeat(first|refine y9 ?_ _|refine y8 ?_|refine y5 ?_ _));exact BKb.out) hb);have n2_:=y0.mk (y6 (g:=gr) (o:=(.cells #[.int .i64 0,.int .i64 0,.slice none 0 0] 28 (0,0))) (by(with_reducible repeat(first|refine y9 ?_ _|refine y8 ?_|refine y5 ?_ _));exact BKr.out) hb);have n3_:=y0.mk ((by rw [hg];exact Nat.ne_of_lt (blk_lt (g:=ga) (o:=(.cells #[.int .i64 a0_0,.int .i64 a0_1,.slice A0_2 l0_2.length c0_2] 28 (0,0))) (by(with_reducible repeat(first|refine y9 ?_ _|refine y8 ?_|refine y5 ?_ _));exact BKa.out)):ga≠gm));have n4_:=y0.mk ((by rw [hg];exact Nat.ne_of_lt (blk_lt (g:=gb) (o:=(.cells #[.int .i64 a1_0,.int .i64 a1_1,.slice A1_2 l1_2.length c1_2] 28 (0,0))) (by(with_reducible repeat(first|refine y9 ?_ _|refine y8 ?_|refine y5 ?_ _));exact BKb.out)):gb≠gm));have n5_:=y0.mk ((by rw [hg];exact Nat.ne_of_lt (blk_lt (g:=gr) (o:=(.cells #[.int .i64 0,.int .i64 0,.slice none 0 0] 28 (0,0))) (by(with_reducible repeat(first|refine y9 ?_ _|refine y8 ?_|refine y5 ?_ _));exact BKr.out)):gr≠gm));have n6_:=y0.mk (hbox);have n7_:=y0.mk (hM);have n8_:=y0.mk ((by rw [hg];exact(below_size (by repeat(first|(with_reducible first|exact HB.out|apply y1|apply y13|apply y2|refine y3 ?_ GEa.out|refine y3 ?_ GEb.out|refine y3 ?_ GEr.out)|exact HB.out))):w.heap.size≤gm));have n9_:=y0.mk (y4 (by repeat(first|(with_reducible first|exact HB.out|apply y1|apply y13|apply y2|refine y3 ?_ GEa.out|refine y3 ?_ GEb.out|refine y3 ?_ GEr.out)|exact HB.out)) hb);(try clear BKa);(try clear BKb);(try clear BKr);(try clear NBa_m);(try clear NBb_m);(try clear NBr_m);(try clear BKm);(try clear HM);(try clear GEm);(try clear HB);have BKa:=n0_;have BKb:=n1_;have BKr:=n2_;have NBa_m:=n3_;have NBb_m:=n4_;have NBr_m:=n5_;have BKm:=n6_;have HM:=n7_;have GEm:=n8_;have HB:=n9_;clear n0_ n1_ n2_ n3_ n4_ n5_ n6_ n7_ n8_ n9_;clear hb hbox hg hM;have hca_0:w4.cell? ⟨ga,0,none⟩=some (.int .i64 a0_0):=(y7 BKa.out 0).trans rfl;have hca_1:w4.cell? ⟨ga,1,none⟩=some (.int .i64 a0_1):=(y7 BKa.out 1).trans rfl;have hca_2:w4.cell? ⟨ga,2,none⟩=some (.slice A0_2 l0_2.length c0_2):=(y7 BKa.out 2).trans rfl;have hfa_0:=y11 BKa.out 0;have hfa_1:=y11 BKa.out 1;have hfa_2:=y11 BKa.out 2))
 go_loopg [18] l0_2.length (fun kq v18 w'=>∃(xi:Int) (i:Nat) (om:Obj),v18=.int .i64 xi∧y0 (xi=(i:Int))∧y0 (kq + i=l0_2.length)∧y0 (PMo om (i * l1_2.length) (Fp (prs (l0_2.take i) l1_2)))∧y0 (w'.heap[ga]?=some (.cells #[.int .i64 a0_0,.int .i64 a0_1,.slice A0_2 l0_2.length c0_2] 28 (0,0)))∧y0 (w'.heap[gb]?=some (.cells #[.int .i64 a1_0,.int .i64 a1_1,.slice A1_2 l1_2.length c1_2] 28 (0,0)))∧y0 (w'.heap[gr]?=some (.cells #[.int .i64 0,.int .i64 0,.slice none 0 0] 28 (0,0)))∧y0 (w'.heap[gm]?=some om)∧y0 (Below w.heap.size w w'))
 case atStart=>exact⟨0,0,om,rfl,⟨rfl⟩,⟨Nat.add_zero _⟩,⟨(by rw [Nat.zero_mul];exact HM.out)⟩,⟨(by(with_reducible repeat(first|refine y9 ?_ _|refine y8 ?_|refine y5 ?_ _));exact BKa.out)⟩,⟨(by(with_reducible repeat(first|refine y9 ?_ _|refine y8 ?_|refine y5 ?_ _));exact BKb.out)⟩,⟨(by(with_reducible repeat(first|refine y9 ?_ _|refine y8 ?_|refine y5 ?_ _));exact BKr.out)⟩,⟨(by(with_reducible repeat(first|refine y9 ?_ _|refine y8 ?_|refine y5 ?_ _));exact BKm.out)⟩,⟨(by repeat(first|(with_reducible first|exact HB.out|apply y1|apply y13|apply y2|refine y3 ?_ GEa.out|refine y3 ?_ GEb.out|refine y3 ?_ GEr.out|refine y3 ?_ GEm.out)|exact HB.out))⟩⟩
 case round =>
  try clear hca_0
  try clear hca_1
  try clear hca_2
  try clear hfa_0
  try clear hfa_1
  try clear hfa_2
  clear HM
  obtain⟨xi,i,om,rfl,HXI,HK1,HM,BKa,BKb,BKr,BKm,HB⟩:=hrel
  by_cases c:xi < (l0_2.length:Int)
  ·skip
   have hi:i < l0_2.length:=by have:=HXI.out;omega
   have p1:0≤xi:=by have:=HXI.out;omega
   obtain⟨ad1,e1,hx0,hx1,hx2⟩:=at_T53 HR0.out xi p1 c
   have rg1:y15 l0_2 xi=l0_2[i]:=by rw [HXI.out];exact rd_get l0_2 i hi
   rw [rg1]at hx0 hx1 hx2
   clear rg1
   obtain⟨x,HXE⟩:∃ x:S53,y0 (l0_2[i]=x):=⟨_,⟨rfl⟩⟩
   rw [HXE.out]at hx0 hx1 hx2
   obtain⟨x0,x1,x2⟩:=x
   cases e1
   replace hx0:wr.cell? (ad1.add ((xi).toNat * 3))=some (.int .i64 x0):=(HB.out.cell (World.block_lt_of_cell? w _ hx0)).trans hx0
   replace hx1:wr.cell? ⟨(ad1.add ((xi).toNat * 3)).block,(ad1.add ((xi).toNat * 3)).off + 1,none⟩=some (.int .i64 x1):=(HB.out.cell (World.block_lt_of_cell? w _ hx1)).trans hx1
   replace hx2:wr.cell? ⟨(ad1.add ((xi).toNat * 3)).block,(ad1.add ((xi).toNat * 3)).off + 2,none⟩=some (.bool x2):=(HB.out.cell (World.block_lt_of_cell? w _ hx2)).trans hx2
   have q1:=eq_true c
   replace p1:=eq_true p1
   have cb1:decide (xi < (l0_2.length:Int))=true:=decide_eq_true c
   go_upto_region 5 with(first
     | ((with_reducible refine y12 (N:=7) rfl ?_);refine box_event ?hg (N:=7) ?hd (cs:=#[.int .i64 0,.int .i64 0,.bool false]) (t:=53) ?hr ?_;(case hd=>rfl);(case hg=>rfl);(case hr=>first|(go_simp;done)|(go_simp;rfl));intro gx hg w5 hbox hb;have n0_:=y0.mk (y6 (g:=ga) (o:=(.cells #[.int .i64 a0_0,.int .i64 a0_1,.slice (some ad1) l0_2.length c0_2] 28 (0,0))) (by(with_reducible repeat(first|refine y9 ?_ _|refine y8 ?_|refine y5 ?_ _));exact BKa.out) hb);have n1_:=y0.mk (y6 (g:=gb) (o:=(.cells #[.int .i64 a1_0,.int .i64 a1_1,.slice A1_2 l1_2.length c1_2] 28 (0,0))) (by(with_reducible repeat(first|refine y9 ?_ _|refine y8 ?_|refine y5 ?_ _));exact BKb.out) hb);have n2_:=y0.mk (y6 (g:=gr) (o:=(.cells #[.int .i64 0,.int .i64 0,.slice none 0 0] 28 (0,0))) (by(with_reducible repeat(first|refine y9 ?_ _|refine y8 ?_|refine y5 ?_ _));exact BKr.out) hb);have n3_:=y0.mk (y6 (g:=gm) (o:=om) (by(with_reducible repeat(first|refine y9 ?_ _|refine y8 ?_|refine y5 ?_ _));exact BKm.out) hb);have n4_:=y0.mk ((by rw [hg];exact Nat.ne_of_lt (blk_lt (g:=ga) (o:=(.cells #[.int .i64 a0_0,.int .i64 a0_1,.slice (some ad1) l0_2.length c0_2] 28 (0,0))) (by(with_reducible repeat(first|refine y9 ?_ _|refine y8 ?_|refine y5 ?_ _));exact BKa.out)):ga≠gx));have n5_:=y0.mk ((by rw [hg];exact Nat.ne_of_lt (blk_lt (g:=gb) (o:=(.cells #[.int .i64 a1_0,.int .i64 a1_1,.slice A1_2 l1_2.length c1_2] 28 (0,0))) (by(with_reducible repeat(first|refine y9 ?_ _|refine y8 ?_|refine y5 ?_ _));exact BKb.out)):gb≠gx));have n6_:=y0.mk ((by rw [hg];exact Nat.ne_of_lt (blk_lt (g:=gr) (o:=(.cells #[.int .i64 0,.int .i64 0,.slice none 0 0] 28 (0,0))) (by(with_reducible repeat(first|refine y9 ?_ _|refine y8 ?_|refine y5 ?_ _));exact BKr.out)):gr≠gx));have n7_:=y0.mk ((by rw [hg];exact Nat.ne_of_lt (blk_lt (g:=gm) (o:=om) (by(with_reducible repeat(first|refine y9 ?_ _|refine y8 ?_|refine y5 ?_ _));exact BKm.out)):gm≠gx));have n8_:=y0.mk (hbox);have n9_:=y0.mk ((by rw [hg];exact(below_size (by repeat(first|(with_reducible first|exact HB.out|apply y1|apply y13|apply y2|refine y3 ?_ GEa.out|refine y3 ?_ GEb.out|refine y3 ?_ GEr.out|refine y3 ?_ GEm.out)|exact HB.out))):w.heap.size≤gx));have n10_:=y0.mk (y4 (by repeat(first|(with_reducible first|exact HB.out|apply y1|apply y13|apply y2|refine y3 ?_ GEa.out|refine y3 ?_ GEb.out|refine y3 ?_ GEr.out|refine y3 ?_ GEm.out)|exact HB.out)) hb);(try clear BKa);(try clear BKb);(try clear BKr);(try clear BKm);(try clear NBa_x);(try clear NBb_x);(try clear NBr_x);(try clear NBm_x);(try clear BKx);(try clear GEx);(try clear HB);have BKa:=n0_;have BKb:=n1_;have BKr:=n2_;have BKm:=n3_;have NBa_x:=n4_;have NBb_x:=n5_;have NBr_x:=n6_;have NBm_x:=n7_;have BKx:=n8_;have GEx:=n9_;have HB:=n10_;clear n0_ n1_ n2_ n3_ n4_ n5_ n6_ n7_ n8_ n9_ n10_;clear hb hbox hg;have hcx_0:w5.cell? ⟨gx,0,none⟩=some (.int .i64 0):=(y7 BKx.out 0).trans rfl;have hcx_1:w5.cell? ⟨gx,1,none⟩=some (.int .i64 0):=(y7 BKx.out 1).trans rfl;have hcx_2:w5.cell? ⟨gx,2,none⟩=some (.bool false):=(y7 BKx.out 2).trans rfl;have hfx_0:=y11 BKx.out 0;have hfx_1:=y11 BKx.out 1;have hfx_2:=y11 BKx.out 2))
   have n0_:=y0.mk (by(with_reducible repeat(first|refine y9 ?_ _|refine y8 ?_|refine y5 ?_ _));refine y10 ?_ NBa_x.out _;(with_reducible repeat(first|refine y9 ?_ _|refine y8 ?_|refine y5 ?_ _));refine y10 ?_ NBa_x.out _;(with_reducible repeat(first|refine y9 ?_ _|refine y8 ?_|refine y5 ?_ _));refine y10 ?_ NBa_x.out _;(with_reducible repeat(first|refine y9 ?_ _|refine y8 ?_|refine y5 ?_ _));exact BKa.out:(((w5.setCell ⟨gx,0,none⟩ (.int .i64 x0)).setCell ⟨gx,1,none⟩ (.int .i64 x1)).setCell ⟨gx,2,none⟩ (.bool x2)).heap[ga]?=some (.cells #[.int .i64 a0_0,.int .i64 a0_1,.slice (some ad1) l0_2.length c0_2] 28 (0,0)))
   have n1_:=y0.mk (by(with_reducible repeat(first|refine y9 ?_ _|refine y8 ?_|refine y5 ?_ _));refine y10 ?_ NBb_x.out _;(with_reducible repeat(first|refine y9 ?_ _|refine y8 ?_|refine y5 ?_ _));refine y10 ?_ NBb_x.out _;(with_reducible repeat(first|refine y9 ?_ _|refine y8 ?_|refine y5 ?_ _));refine y10 ?_ NBb_x.out _;(with_reducible repeat(first|refine y9 ?_ _|refine y8 ?_|refine y5 ?_ _));exact BKb.out:(((w5.setCell ⟨gx,0,none⟩ (.int .i64 x0)).setCell ⟨gx,1,none⟩ (.int .i64 x1)).setCell ⟨gx,2,none⟩ (.bool x2)).heap[gb]?=some (.cells #[.int .i64 a1_0,.int .i64 a1_1,.slice A1_2 l1_2.length c1_2] 28 (0,0)))
   have n2_:=y0.mk (by(with_reducible repeat(first|refine y9 ?_ _|refine y8 ?_|refine y5 ?_ _));refine y10 ?_ NBr_x.out _;(with_reducible repeat(first|refine y9 ?_ _|refine y8 ?_|refine y5 ?_ _));refine y10 ?_ NBr_x.out _;(with_reducible repeat(first|refine y9 ?_ _|refine y8 ?_|refine y5 ?_ _));refine y10 ?_ NBr_x.out _;(with_reducible repeat(first|refine y9 ?_ _|refine y8 ?_|refine y5 ?_ _));exact BKr.out:(((w5.setCell ⟨gx,0,none⟩ (.int .i64 x0)).setCell ⟨gx,1,none⟩ (.int .i64 x1)).setCell ⟨gx,2,none⟩ (.bool x2)).heap[gr]?=some (.cells #[.int .i64 0,.int .i64 0,.slice none 0 0] 28 (0,0)))
   have n3_:=y0.mk (by(with_reducible repeat(first|refine y9 ?_ _|refine y8 ?_|refine y5 ?_ _));refine y10 ?_ NBm_x.out _;(with_reducible repeat(first|refine y9 ?_ _|refine y8 ?_|refine y5 ?_ _));refine y10 ?_ NBm_x.out _;(with_reducible repeat(first|refine y9 ?_ _|refine y8 ?_|refine y5 ?_ _));refine y10 ?_ NBm_x.out _;(with_reducible repeat(first|refine y9 ?_ _|refine y8 ?_|refine y5 ?_ _));exact BKm.out:(((w5.setCell ⟨gx,0,none⟩ (.int .i64 x0)).setCell ⟨gx,1,none⟩ (.int .i64 x1)).setCell ⟨gx,2,none⟩ (.bool x2)).heap[gm]?=some om)
   have n4_:=y0.mk (by(with_reducible repeat(first|refine y9 ?_ _|refine y8 ?_|refine y5 ?_ _));refine blk_put (cs:=#[.int .i64 x0,.int .i64 x1,.bool false]) ?_ 2 _ rfl;(with_reducible repeat(first|refine y9 ?_ _|refine y8 ?_|refine y5 ?_ _));refine blk_put (cs:=#[.int .i64 x0,.int .i64 0,.bool false]) ?_ 1 _ rfl;(with_reducible repeat(first|refine y9 ?_ _|refine y8 ?_|refine y5 ?_ _));refine blk_put (cs:=#[.int .i64 0,.int .i64 0,.bool false]) ?_ 0 _ rfl;(with_reducible repeat(first|refine y9 ?_ _|refine y8 ?_|refine y5 ?_ _));exact BKx.out:(((w5.setCell ⟨gx,0,none⟩ (.int .i64 x0)).setCell ⟨gx,1,none⟩ (.int .i64 x1)).setCell ⟨gx,2,none⟩ (.bool x2)).heap[gx]?=some (.cells #[.int .i64 x0,.int .i64 x1,.bool x2] 53 (0,0)))
   have n5_:=y0.mk ((by repeat(first|(with_reducible first|exact HB.out|apply y1|apply y13|apply y2|refine y3 ?_ GEa.out|refine y3 ?_ GEb.out|refine y3 ?_ GEr.out|refine y3 ?_ GEm.out|refine y3 ?_ GEx.out)|exact HB.out)):Below w.heap.size w (((w5.setCell ⟨gx,0,none⟩ (.int .i64 x0)).setCell ⟨gx,1,none⟩ (.int .i64 x1)).setCell ⟨gx,2,none⟩ (.bool x2)))
   (try clear BKa)
   (try clear BKb)
   (try clear BKr)
   (try clear BKm)
   (try clear BKx)
   (try clear HB)
   generalize (((w5.setCell ⟨gx,0,none⟩ (.int .i64 x0)).setCell ⟨gx,1,none⟩ (.int .i64 x1)).setCell ⟨gx,2,none⟩ (.bool x2))=w6 at n0_ n1_ n2_ n3_ n4_ n5_ ⊢
   have BKa:=n0_
   have BKb:=n1_
   have BKr:=n2_
   have BKm:=n3_
   have BKx:=n4_
   have HB:=n5_
   clear n0_ n1_ n2_ n3_ n4_ n5_
   try clear hcx_0
   try clear hfx_0
   try clear hcx_1
   try clear hfx_1
   try clear hcx_2
   try clear hfx_2
   have hcb_0:w6.cell? ⟨gb,0,none⟩=some (.int .i64 a1_0):=(y7 BKb.out 0).trans rfl
   have hcb_1:w6.cell? ⟨gb,1,none⟩=some (.int .i64 a1_1):=(y7 BKb.out 1).trans rfl
   have hcb_2:w6.cell? ⟨gb,2,none⟩=some (.slice A1_2 l1_2.length c1_2):=(y7 BKb.out 2).trans rfl
   have hfb_0:=y11 BKb.out 0
   have hfb_1:=y11 BKb.out 1
   have hfb_2:=y11 BKb.out 2
   go_wp2
   go_loopg [25] l1_2.length (fun kq v25 w'=>∃(xj:Int) (j:Nat) (om:Obj),v25=.int .i64 xj∧y0 (xj=(j:Int))∧y0 (kq + j=l1_2.length)∧y0 (PMo om (i * l1_2.length + j) (Fp (prs (l0_2.take i) l1_2 ++ (l1_2.take j).map fun y=>((⟨x0,x1,x2⟩:S53),y))))∧y0 (w'.heap[ga]?=some (.cells #[.int .i64 a0_0,.int .i64 a0_1,.slice (some ad1) l0_2.length c0_2] 28 (0,0)))∧y0 (w'.heap[gb]?=some (.cells #[.int .i64 a1_0,.int .i64 a1_1,.slice A1_2 l1_2.length c1_2] 28 (0,0)))∧y0 (w'.heap[gr]?=some (.cells #[.int .i64 0,.int .i64 0,.slice none 0 0] 28 (0,0)))∧y0 (w'.heap[gm]?=some om)∧y0 (w'.heap[gx]?=some (.cells #[.int .i64 x0,.int .i64 x1,.bool x2] 53 (0,0)))∧y0 (Below w.heap.size w w'))
   case atStart=>exact⟨0,0,om,rfl,⟨rfl⟩,⟨Nat.add_zero _⟩,⟨(by simpa using HM.out)⟩,⟨(by(with_reducible repeat(first|refine y9 ?_ _|refine y8 ?_|refine y5 ?_ _));exact BKa.out)⟩,⟨(by(with_reducible repeat(first|refine y9 ?_ _|refine y8 ?_|refine y5 ?_ _));exact BKb.out)⟩,⟨(by(with_reducible repeat(first|refine y9 ?_ _|refine y8 ?_|refine y5 ?_ _));exact BKr.out)⟩,⟨(by(with_reducible repeat(first|refine y9 ?_ _|refine y8 ?_|refine y5 ?_ _));exact BKm.out)⟩,⟨(by(with_reducible repeat(first|refine y9 ?_ _|refine y8 ?_|refine y5 ?_ _));exact BKx.out)⟩,⟨(by repeat(first|(with_reducible first|exact HB.out|apply y1|apply y13|apply y2|refine y3 ?_ GEa.out|refine y3 ?_ GEb.out|refine y3 ?_ GEr.out|refine y3 ?_ GEm.out|refine y3 ?_ GEx.out)|exact HB.out))⟩⟩
   case round =>
    clear HM
    try clear hcb_0
    try clear hfb_0
    try clear hcb_1
    try clear hfb_1
    try clear hcb_2
    try clear hfb_2
    clear hx0 hx1 hx2
    obtain⟨xj,j,om,rfl,HXJ,HK2,HM,BKa,BKb,BKr,BKm,BKx,HB⟩:=hrel
    clear c
    by_cases c:xj < (l1_2.length:Int)
    ·skip
     have hj:j < l1_2.length:=by have:=HXJ.out;omega
     have p2:0≤xj:=by have:=HXJ.out;omega
     obtain⟨ad2,e2,hv0,hv1,hv2⟩:=at_T53 HR1.out xj p2 c
     have rg2:y15 l1_2 xj=l1_2[j]:=by rw [HXJ.out];exact rd_get l1_2 j hj
     rw [rg2]at hv0 hv1 hv2
     clear rg2
     obtain⟨v,HVE⟩:∃ x:S53,y0 (l1_2[j]=x):=⟨_,⟨rfl⟩⟩
     rw [HVE.out]at hv0 hv1 hv2
     obtain⟨v0,v1,v2⟩:=v
     cases e2
     replace hv0:wr.cell? (ad2.add ((xj).toNat * 3))=some (.int .i64 v0):=(HB.out.cell (World.block_lt_of_cell? w _ hv0)).trans hv0
     replace hv1:wr.cell? ⟨(ad2.add ((xj).toNat * 3)).block,(ad2.add ((xj).toNat * 3)).off + 1,none⟩=some (.int .i64 v1):=(HB.out.cell (World.block_lt_of_cell? w _ hv1)).trans hv1
     replace hv2:wr.cell? ⟨(ad2.add ((xj).toNat * 3)).block,(ad2.add ((xj).toNat * 3)).off + 2,none⟩=some (.bool v2):=(HB.out.cell (World.block_lt_of_cell? w _ hv2)).trans hv2
     have q2:=eq_true c
     replace p2:=eq_true p2
     have cb2:decide (xj < (l1_2.length:Int))=true:=decide_eq_true c
     go_upto_region 8 with(first
       | ((with_reducible refine y12 (N:=9) rfl ?_);refine box_event ?hg (N:=9) ?hd (cs:=#[.int .i64 0,.int .i64 0,.bool false]) (t:=53) ?hr ?_;(case hd=>rfl);(case hg=>rfl);(case hr=>first|(go_simp;done)|(go_simp;rfl));intro gv hg w7 hbox hb;have n0_:=y0.mk (y6 (g:=ga) (o:=(.cells #[.int .i64 a0_0,.int .i64 a0_1,.slice (some ad1) l0_2.length c0_2] 28 (0,0))) (by(with_reducible repeat(first|refine y9 ?_ _|refine y8 ?_|refine y5 ?_ _));exact BKa.out) hb);have n1_:=y0.mk (y6 (g:=gb) (o:=(.cells #[.int .i64 a1_0,.int .i64 a1_1,.slice (some ad2) l1_2.length c1_2] 28 (0,0))) (by(with_reducible repeat(first|refine y9 ?_ _|refine y8 ?_|refine y5 ?_ _));exact BKb.out) hb);have n2_:=y0.mk (y6 (g:=gr) (o:=(.cells #[.int .i64 0,.int .i64 0,.slice none 0 0] 28 (0,0))) (by(with_reducible repeat(first|refine y9 ?_ _|refine y8 ?_|refine y5 ?_ _));exact BKr.out) hb);have n3_:=y0.mk (y6 (g:=gm) (o:=om) (by(with_reducible repeat(first|refine y9 ?_ _|refine y8 ?_|refine y5 ?_ _));exact BKm.out) hb);have n4_:=y0.mk (y6 (g:=gx) (o:=(.cells #[.int .i64 x0,.int .i64 x1,.bool x2] 53 (0,0))) (by(with_reducible repeat(first|refine y9 ?_ _|refine y8 ?_|refine y5 ?_ _));exact BKx.out) hb);have n5_:=y0.mk ((by rw [hg];exact Nat.ne_of_lt (blk_lt (g:=ga) (o:=(.cells #[.int .i64 a0_0,.int .i64 a0_1,.slice (some ad1) l0_2.length c0_2] 28 (0,0))) (by(with_reducible repeat(first|refine y9 ?_ _|refine y8 ?_|refine y5 ?_ _));exact BKa.out)):ga≠gv));have n6_:=y0.mk ((by rw [hg];exact Nat.ne_of_lt (blk_lt (g:=gb) (o:=(.cells #[.int .i64 a1_0,.int .i64 a1_1,.slice (some ad2) l1_2.length c1_2] 28 (0,0))) (by(with_reducible repeat(first|refine y9 ?_ _|refine y8 ?_|refine y5 ?_ _));exact BKb.out)):gb≠gv));have n7_:=y0.mk ((by rw [hg];exact Nat.ne_of_lt (blk_lt (g:=gr) (o:=(.cells #[.int .i64 0,.int .i64 0,.slice none 0 0] 28 (0,0))) (by(with_reducible repeat(first|refine y9 ?_ _|refine y8 ?_|refine y5 ?_ _));exact BKr.out)):gr≠gv));have n8_:=y0.mk ((by rw [hg];exact Nat.ne_of_lt (blk_lt (g:=gm) (o:=om) (by(with_reducible repeat(first|refine y9 ?_ _|refine y8 ?_|refine y5 ?_ _));exact BKm.out)):gm≠gv));have n9_:=y0.mk ((by rw [hg];exact Nat.ne_of_lt (blk_lt (g:=gx) (o:=(.cells #[.int .i64 x0,.int .i64 x1,.bool x2] 53 (0,0))) (by(with_reducible repeat(first|refine y9 ?_ _|refine y8 ?_|refine y5 ?_ _));exact BKx.out)):gx≠gv));have n10_:=y0.mk (hbox);have n11_:=y0.mk ((by rw [hg];exact(below_size (by repeat(first|(with_reducible first|exact HB.out|apply y1|apply y13|apply y2|refine y3 ?_ GEa.out|refine y3 ?_ GEb.out|refine y3 ?_ GEr.out|refine y3 ?_ GEm.out|refine y3 ?_ GEx.out)|exact HB.out))):w.heap.size≤gv));have n12_:=y0.mk (y4 (by repeat(first|(with_reducible first|exact HB.out|apply y1|apply y13|apply y2|refine y3 ?_ GEa.out|refine y3 ?_ GEb.out|refine y3 ?_ GEr.out|refine y3 ?_ GEm.out|refine y3 ?_ GEx.out)|exact HB.out)) hb);(try clear BKa);(try clear BKb);(try clear BKr);(try clear BKm);(try clear BKx);(try clear NBa_v);(try clear NBb_v);(try clear NBr_v);(try clear NBm_v);(try clear NBx_v);(try clear BKv);(try clear GEv);(try clear HB);have BKa:=n0_;have BKb:=n1_;have BKr:=n2_;have BKm:=n3_;have BKx:=n4_;have NBa_v:=n5_;have NBb_v:=n6_;have NBr_v:=n7_;have NBm_v:=n8_;have NBx_v:=n9_;have BKv:=n10_;have GEv:=n11_;have HB:=n12_;clear n0_ n1_ n2_ n3_ n4_ n5_ n6_ n7_ n8_ n9_ n10_ n11_ n12_;clear hb hbox hg;have hcv_0:w7.cell? ⟨gv,0,none⟩=some (.int .i64 0):=(y7 BKv.out 0).trans rfl;have hcv_1:w7.cell? ⟨gv,1,none⟩=some (.int .i64 0):=(y7 BKv.out 1).trans rfl;have hcv_2:w7.cell? ⟨gv,2,none⟩=some (.bool false):=(y7 BKv.out 2).trans rfl;have hfv_0:=y11 BKv.out 0;have hfv_1:=y11 BKv.out 1;have hfv_2:=y11 BKv.out 2))
     have n0_:=y0.mk (by(with_reducible repeat(first|refine y9 ?_ _|refine y8 ?_|refine y5 ?_ _));refine y10 ?_ NBa_v.out _;(with_reducible repeat(first|refine y9 ?_ _|refine y8 ?_|refine y5 ?_ _));refine y10 ?_ NBa_v.out _;(with_reducible repeat(first|refine y9 ?_ _|refine y8 ?_|refine y5 ?_ _));refine y10 ?_ NBa_v.out _;(with_reducible repeat(first|refine y9 ?_ _|refine y8 ?_|refine y5 ?_ _));exact BKa.out:(((w7.setCell ⟨gv,0,none⟩ (.int .i64 v0)).setCell ⟨gv,1,none⟩ (.int .i64 v1)).setCell ⟨gv,2,none⟩ (.bool v2)).heap[ga]?=some (.cells #[.int .i64 a0_0,.int .i64 a0_1,.slice (some ad1) l0_2.length c0_2] 28 (0,0)))
     have n1_:=y0.mk (by(with_reducible repeat(first|refine y9 ?_ _|refine y8 ?_|refine y5 ?_ _));refine y10 ?_ NBb_v.out _;(with_reducible repeat(first|refine y9 ?_ _|refine y8 ?_|refine y5 ?_ _));refine y10 ?_ NBb_v.out _;(with_reducible repeat(first|refine y9 ?_ _|refine y8 ?_|refine y5 ?_ _));refine y10 ?_ NBb_v.out _;(with_reducible repeat(first|refine y9 ?_ _|refine y8 ?_|refine y5 ?_ _));exact BKb.out:(((w7.setCell ⟨gv,0,none⟩ (.int .i64 v0)).setCell ⟨gv,1,none⟩ (.int .i64 v1)).setCell ⟨gv,2,none⟩ (.bool v2)).heap[gb]?=some (.cells #[.int .i64 a1_0,.int .i64 a1_1,.slice (some ad2) l1_2.length c1_2] 28 (0,0)))
     have n2_:=y0.mk (by(with_reducible repeat(first|refine y9 ?_ _|refine y8 ?_|refine y5 ?_ _));refine y10 ?_ NBr_v.out _;(with_reducible repeat(first|refine y9 ?_ _|refine y8 ?_|refine y5 ?_ _));refine y10 ?_ NBr_v.out _;(with_reducible repeat(first|refine y9 ?_ _|refine y8 ?_|refine y5 ?_ _));refine y10 ?_ NBr_v.out _;(with_reducible repeat(first|refine y9 ?_ _|refine y8 ?_|refine y5 ?_ _));exact BKr.out:(((w7.setCell ⟨gv,0,none⟩ (.int .i64 v0)).setCell ⟨gv,1,none⟩ (.int .i64 v1)).setCell ⟨gv,2,none⟩ (.bool v2)).heap[gr]?=some (.cells #[.int .i64 0,.int .i64 0,.slice none 0 0] 28 (0,0)))
     have n3_:=y0.mk (by(with_reducible repeat(first|refine y9 ?_ _|refine y8 ?_|refine y5 ?_ _));refine y10 ?_ NBm_v.out _;(with_reducible repeat(first|refine y9 ?_ _|refine y8 ?_|refine y5 ?_ _));refine y10 ?_ NBm_v.out _;(with_reducible repeat(first|refine y9 ?_ _|refine y8 ?_|refine y5 ?_ _));refine y10 ?_ NBm_v.out _;(with_reducible repeat(first|refine y9 ?_ _|refine y8 ?_|refine y5 ?_ _));exact BKm.out:(((w7.setCell ⟨gv,0,none⟩ (.int .i64 v0)).setCell ⟨gv,1,none⟩ (.int .i64 v1)).setCell ⟨gv,2,none⟩ (.bool v2)).heap[gm]?=some om)
     have n4_:=y0.mk (by(with_reducible repeat(first|refine y9 ?_ _|refine y8 ?_|refine y5 ?_ _));refine y10 ?_ NBx_v.out _;(with_reducible repeat(first|refine y9 ?_ _|refine y8 ?_|refine y5 ?_ _));refine y10 ?_ NBx_v.out _;(with_reducible repeat(first|refine y9 ?_ _|refine y8 ?_|refine y5 ?_ _));refine y10 ?_ NBx_v.out _;(with_reducible repeat(first|refine y9 ?_ _|refine y8 ?_|refine y5 ?_ _));exact BKx.out:(((w7.setCell ⟨gv,0,none⟩ (.int .i64 v0)).setCell ⟨gv,1,none⟩ (.int .i64 v1)).setCell ⟨gv,2,none⟩ (.bool v2)).heap[gx]?=some (.cells #[.int .i64 x0,.int .i64 x1,.bool x2] 53 (0,0)))
     have n5_:=y0.mk (by(with_reducible repeat(first|refine y9 ?_ _|refine y8 ?_|refine y5 ?_ _));refine blk_put (cs:=#[.int .i64 v0,.int .i64 v1,.bool false]) ?_ 2 _ rfl;(with_reducible repeat(first|refine y9 ?_ _|refine y8 ?_|refine y5 ?_ _));refine blk_put (cs:=#[.int .i64 v0,.int .i64 0,.bool false]) ?_ 1 _ rfl;(with_reducible repeat(first|refine y9 ?_ _|refine y8 ?_|refine y5 ?_ _));refine blk_put (cs:=#[.int .i64 0,.int .i64 0,.bool false]) ?_ 0 _ rfl;(with_reducible repeat(first|refine y9 ?_ _|refine y8 ?_|refine y5 ?_ _));exact BKv.out:(((w7.setCell ⟨gv,0,none⟩ (.int .i64 v0)).setCell ⟨gv,1,none⟩ (.int .i64 v1)).setCell ⟨gv,2,none⟩ (.bool v2)).heap[gv]?=some (.cells #[.int .i64 v0,.int .i64 v1,.bool v2] 53 (0,0)))
     have n6_:=y0.mk ((by repeat(first|(with_reducible first|exact HB.out|apply y1|apply y13|apply y2|refine y3 ?_ GEa.out|refine y3 ?_ GEb.out|refine y3 ?_ GEr.out|refine y3 ?_ GEm.out|refine y3 ?_ GEx.out|refine y3 ?_ GEv.out)|exact HB.out)):Below w.heap.size w (((w7.setCell ⟨gv,0,none⟩ (.int .i64 v0)).setCell ⟨gv,1,none⟩ (.int .i64 v1)).setCell ⟨gv,2,none⟩ (.bool v2)))
     (try clear BKa)
     (try clear BKb)
     (try clear BKr)
     (try clear BKm)
     (try clear BKx)
     (try clear BKv)
     (try clear HB)
     generalize (((w7.setCell ⟨gv,0,none⟩ (.int .i64 v0)).setCell ⟨gv,1,none⟩ (.int .i64 v1)).setCell ⟨gv,2,none⟩ (.bool v2))=w8 at n0_ n1_ n2_ n3_ n4_ n5_ n6_ ⊢
     have BKa:=n0_
     have BKb:=n1_
     have BKr:=n2_
     have BKm:=n3_
     have BKx:=n4_
     have BKv:=n5_
     have HB:=n6_
     clear n0_ n1_ n2_ n3_ n4_ n5_ n6_
     try clear hcv_0
     try clear hfv_0
     try clear hcv_1
     try clear hfv_1
     try clear hcv_2
     try clear hfv_2
     clear hv0 hv1 hv2
     have HHI:=y0.mk hi
     have HHJ:=y0.mk hj
     by_cases ce:x1=v0
     ·skip
      have ceb:(x1 == v0)=true:=beq_iff_eq.mpr ce
      have HCE:=y0.mk ce
      clear ce
      obtain⟨kl,HKL⟩:∃ kl,y0 (keyOf Try.prog 67 (QMapA.key x0 v1)=some kl):=by
       have h0:=HI0.out _ (List.getElem_mem HHI.out)
       have h1:=HI1.out _ (List.getElem_mem HHJ.out)
       rw [HXE.out]at h0
       rw [HVE.out]at h1
       obtain⟨kl,hkl⟩:=key_ex h0.1 h1.2
       exact⟨kl,⟨hkl⟩⟩
      have HROOM:=y0.mk (room (i:=i) (j:=j) HHI.out HHJ.out HN0.out HN1.out)
      have hcx_0:w8.cell? ⟨gx,0,none⟩=some (.int .i64 x0):=(y7 BKx.out 0).trans rfl
      have hcx_1:w8.cell? ⟨gx,1,none⟩=some (.int .i64 x1):=(y7 BKx.out 1).trans rfl
      have hcx_2:w8.cell? ⟨gx,2,none⟩=some (.bool x2):=(y7 BKx.out 2).trans rfl
      have hfx_0:=y11 BKx.out 0
      have hfx_1:=y11 BKx.out 1
      have hfx_2:=y11 BKx.out 2
      have hcv_0:w8.cell? ⟨gv,0,none⟩=some (.int .i64 v0):=(y7 BKv.out 0).trans rfl
      have hcv_1:w8.cell? ⟨gv,1,none⟩=some (.int .i64 v1):=(y7 BKv.out 1).trans rfl
      have hcv_2:w8.cell? ⟨gv,2,none⟩=some (.bool v2):=(y7 BKv.out 2).trans rfl
      have hfv_0:=y11 BKv.out 0
      have hfv_1:=y11 BKv.out 1
      have hfv_2:=y11 BKv.out 2
      go_upto_region 10 with(first
        | ((with_reducible refine y12 (N:=10) rfl ?_);refine box_event ?hg (N:=10) ?hd (cs:=#[.int .i64 0,.int .i64 0]) (t:=67) ?hr ?_;(case hd=>rfl);(case hg=>rfl);(case hr=>first|(go_simp;done)|(go_simp;rfl));intro gk hg w9 hbox hb;have n0_:=y0.mk (y6 (g:=ga) (o:=(.cells #[.int .i64 a0_0,.int .i64 a0_1,.slice (some ad1) l0_2.length c0_2] 28 (0,0))) (by(with_reducible repeat(first|refine y9 ?_ _|refine y8 ?_|refine y5 ?_ _));exact BKa.out) hb);have n1_:=y0.mk (y6 (g:=gb) (o:=(.cells #[.int .i64 a1_0,.int .i64 a1_1,.slice (some ad2) l1_2.length c1_2] 28 (0,0))) (by(with_reducible repeat(first|refine y9 ?_ _|refine y8 ?_|refine y5 ?_ _));exact BKb.out) hb);have n2_:=y0.mk (y6 (g:=gr) (o:=(.cells #[.int .i64 0,.int .i64 0,.slice none 0 0] 28 (0,0))) (by(with_reducible repeat(first|refine y9 ?_ _|refine y8 ?_|refine y5 ?_ _));exact BKr.out) hb);have n3_:=y0.mk (y6 (g:=gm) (o:=om) (by(with_reducible repeat(first|refine y9 ?_ _|refine y8 ?_|refine y5 ?_ _));exact BKm.out) hb);have n4_:=y0.mk (y6 (g:=gx) (o:=(.cells #[.int .i64 x0,.int .i64 x1,.bool x2] 53 (0,0))) (by(with_reducible repeat(first|refine y9 ?_ _|refine y8 ?_|refine y5 ?_ _));exact BKx.out) hb);have n5_:=y0.mk (y6 (g:=gv) (o:=(.cells #[.int .i64 v0,.int .i64 v1,.bool v2] 53 (0,0))) (by(with_reducible repeat(first|refine y9 ?_ _|refine y8 ?_|refine y5 ?_ _));exact BKv.out) hb);have n6_:=y0.mk ((by rw [hg];exact Nat.ne_of_lt (blk_lt (g:=ga) (o:=(.cells #[.int .i64 a0_0,.int .i64 a0_1,.slice (some ad1) l0_2.length c0_2] 28 (0,0))) (by(with_reducible repeat(first|refine y9 ?_ _|refine y8 ?_|refine y5 ?_ _));exact BKa.out)):ga≠gk));have n7_:=y0.mk ((by rw [hg];exact Nat.ne_of_lt (blk_lt (g:=gb) (o:=(.cells #[.int .i64 a1_0,.int .i64 a1_1,.slice (some ad2) l1_2.length c1_2] 28 (0,0))) (by(with_reducible repeat(first|refine y9 ?_ _|refine y8 ?_|refine y5 ?_ _));exact BKb.out)):gb≠gk));have n8_:=y0.mk ((by rw [hg];exact Nat.ne_of_lt (blk_lt (g:=gr) (o:=(.cells #[.int .i64 0,.int .i64 0,.slice none 0 0] 28 (0,0))) (by(with_reducible repeat(first|refine y9 ?_ _|refine y8 ?_|refine y5 ?_ _));exact BKr.out)):gr≠gk));have n9_:=y0.mk ((by rw [hg];exact Nat.ne_of_lt (blk_lt (g:=gm) (o:=om) (by(with_reducible repeat(first|refine y9 ?_ _|refine y8 ?_|refine y5 ?_ _));exact BKm.out)):gm≠gk));have n10_:=y0.mk ((by rw [hg];exact Nat.ne_of_lt (blk_lt (g:=gx) (o:=(.cells #[.int .i64 x0,.int .i64 x1,.bool x2] 53 (0,0))) (by(with_reducible repeat(first|refine y9 ?_ _|refine y8 ?_|refine y5 ?_ _));exact BKx.out)):gx≠gk));have n11_:=y0.mk ((by rw [hg];exact Nat.ne_of_lt (blk_lt (g:=gv) (o:=(.cells #[.int .i64 v0,.int .i64 v1,.bool v2] 53 (0,0))) (by(with_reducible repeat(first|refine y9 ?_ _|refine y8 ?_|refine y5 ?_ _));exact BKv.out)):gv≠gk));have n12_:=y0.mk (hbox);have n13_:=y0.mk ((by rw [hg];exact(below_size (by repeat(first|(with_reducible first|exact HB.out|apply y1|apply y13|apply y2|refine y3 ?_ GEa.out|refine y3 ?_ GEb.out|refine y3 ?_ GEr.out|refine y3 ?_ GEm.out|refine y3 ?_ GEx.out|refine y3 ?_ GEv.out)|exact HB.out))):w.heap.size≤gk));have n14_:=y0.mk (y4 (by repeat(first|(with_reducible first|exact HB.out|apply y1|apply y13|apply y2|refine y3 ?_ GEa.out|refine y3 ?_ GEb.out|refine y3 ?_ GEr.out|refine y3 ?_ GEm.out|refine y3 ?_ GEx.out|refine y3 ?_ GEv.out)|exact HB.out)) hb);(try clear BKa);(try clear BKb);(try clear BKr);(try clear BKm);(try clear BKx);(try clear BKv);(try clear NBa_k);(try clear NBb_k);(try clear NBr_k);(try clear NBm_k);(try clear NBx_k);(try clear NBv_k);(try clear BKk);(try clear GEk);(try clear HB);have BKa:=n0_;have BKb:=n1_;have BKr:=n2_;have BKm:=n3_;have BKx:=n4_;have BKv:=n5_;have NBa_k:=n6_;have NBb_k:=n7_;have NBr_k:=n8_;have NBm_k:=n9_;have NBx_k:=n10_;have NBv_k:=n11_;have BKk:=n12_;have GEk:=n13_;have HB:=n14_;clear n0_ n1_ n2_ n3_ n4_ n5_ n6_ n7_ n8_ n9_ n10_ n11_ n12_ n13_ n14_;clear hb hbox hg;have hck_0:w9.cell? ⟨gk,0,none⟩=some (.int .i64 0):=(y7 BKk.out 0).trans rfl;have hck_1:w9.cell? ⟨gk,1,none⟩=some (.int .i64 0):=(y7 BKk.out 1).trans rfl;have hfk_0:=y11 BKk.out 0;have hfk_1:=y11 BKk.out 1))
      have n0_:=y0.mk (by(with_reducible repeat(first|refine y9 ?_ _|refine y8 ?_|refine y5 ?_ _));refine y10 ?_ NBa_k.out _;(with_reducible repeat(first|refine y9 ?_ _|refine y8 ?_|refine y5 ?_ _));refine y10 ?_ NBa_k.out _;(with_reducible repeat(first|refine y9 ?_ _|refine y8 ?_|refine y5 ?_ _));exact BKa.out:((w9.setCell ⟨gk,0,none⟩ (.int .i64 x0)).setCell ⟨gk,1,none⟩ (.int .i64 v1)).heap[ga]?=some (.cells #[.int .i64 a0_0,.int .i64 a0_1,.slice (some ad1) l0_2.length c0_2] 28 (0,0)))
      have n1_:=y0.mk (by(with_reducible repeat(first|refine y9 ?_ _|refine y8 ?_|refine y5 ?_ _));refine y10 ?_ NBb_k.out _;(with_reducible repeat(first|refine y9 ?_ _|refine y8 ?_|refine y5 ?_ _));refine y10 ?_ NBb_k.out _;(with_reducible repeat(first|refine y9 ?_ _|refine y8 ?_|refine y5 ?_ _));exact BKb.out:((w9.setCell ⟨gk,0,none⟩ (.int .i64 x0)).setCell ⟨gk,1,none⟩ (.int .i64 v1)).heap[gb]?=some (.cells #[.int .i64 a1_0,.int .i64 a1_1,.slice (some ad2) l1_2.length c1_2] 28 (0,0)))
      have n2_:=y0.mk (by(with_reducible repeat(first|refine y9 ?_ _|refine y8 ?_|refine y5 ?_ _));refine y10 ?_ NBr_k.out _;(with_reducible repeat(first|refine y9 ?_ _|refine y8 ?_|refine y5 ?_ _));refine y10 ?_ NBr_k.out _;(with_reducible repeat(first|refine y9 ?_ _|refine y8 ?_|refine y5 ?_ _));exact BKr.out:((w9.setCell ⟨gk,0,none⟩ (.int .i64 x0)).setCell ⟨gk,1,none⟩ (.int .i64 v1)).heap[gr]?=some (.cells #[.int .i64 0,.int .i64 0,.slice none 0 0] 28 (0,0)))
      have n3_:=y0.mk (by(with_reducible repeat(first|refine y9 ?_ _|refine y8 ?_|refine y5 ?_ _));refine y10 ?_ NBm_k.out _;(with_reducible repeat(first|refine y9 ?_ _|refine y8 ?_|refine y5 ?_ _));refine y10 ?_ NBm_k.out _;(with_reducible repeat(first|refine y9 ?_ _|refine y8 ?_|refine y5 ?_ _));exact BKm.out:((w9.setCell ⟨gk,0,none⟩ (.int .i64 x0)).setCell ⟨gk,1,none⟩ (.int .i64 v1)).heap[gm]?=some om)
      have n4_:=y0.mk (by(with_reducible repeat(first|refine y9 ?_ _|refine y8 ?_|refine y5 ?_ _));refine y10 ?_ NBx_k.out _;(with_reducible repeat(first|refine y9 ?_ _|refine y8 ?_|refine y5 ?_ _));refine y10 ?_ NBx_k.out _;(with_reducible repeat(first|refine y9 ?_ _|refine y8 ?_|refine y5 ?_ _));exact BKx.out:((w9.setCell ⟨gk,0,none⟩ (.int .i64 x0)).setCell ⟨gk,1,none⟩ (.int .i64 v1)).heap[gx]?=some (.cells #[.int .i64 x0,.int .i64 x1,.bool x2] 53 (0,0)))
      have n5_:=y0.mk (by(with_reducible repeat(first|refine y9 ?_ _|refine y8 ?_|refine y5 ?_ _));refine y10 ?_ NBv_k.out _;(with_reducible repeat(first|refine y9 ?_ _|refine y8 ?_|refine y5 ?_ _));refine y10 ?_ NBv_k.out _;(with_reducible repeat(first|refine y9 ?_ _|refine y8 ?_|refine y5 ?_ _));exact BKv.out:((w9.setCell ⟨gk,0,none⟩ (.int .i64 x0)).setCell ⟨gk,1,none⟩ (.int .i64 v1)).heap[gv]?=some (.cells #[.int .i64 v0,.int .i64 v1,.bool v2] 53 (0,0)))
      have n6_:=y0.mk (by(with_reducible repeat(first|refine y9 ?_ _|refine y8 ?_|refine y5 ?_ _));refine blk_put (cs:=#[.int .i64 x0,.int .i64 0]) ?_ 1 _ rfl;(with_reducible repeat(first|refine y9 ?_ _|refine y8 ?_|refine y5 ?_ _));refine blk_put (cs:=#[.int .i64 0,.int .i64 0]) ?_ 0 _ rfl;(with_reducible repeat(first|refine y9 ?_ _|refine y8 ?_|refine y5 ?_ _));exact BKk.out:((w9.setCell ⟨gk,0,none⟩ (.int .i64 x0)).setCell ⟨gk,1,none⟩ (.int .i64 v1)).heap[gk]?=some (.cells #[.int .i64 x0,.int .i64 v1] 67 (0,0)))
      have n7_:=y0.mk ((by repeat(first|(with_reducible first|exact HB.out|apply y1|apply y13|apply y2|refine y3 ?_ GEa.out|refine y3 ?_ GEb.out|refine y3 ?_ GEr.out|refine y3 ?_ GEm.out|refine y3 ?_ GEx.out|refine y3 ?_ GEv.out|refine y3 ?_ GEk.out)|exact HB.out)):Below w.heap.size w ((w9.setCell ⟨gk,0,none⟩ (.int .i64 x0)).setCell ⟨gk,1,none⟩ (.int .i64 v1)))
      (try clear BKa)
      (try clear BKb)
      (try clear BKr)
      (try clear BKm)
      (try clear BKx)
      (try clear BKv)
      (try clear BKk)
      (try clear HB)
      generalize ((w9.setCell ⟨gk,0,none⟩ (.int .i64 x0)).setCell ⟨gk,1,none⟩ (.int .i64 v1))=w10 at n0_ n1_ n2_ n3_ n4_ n5_ n6_ n7_ ⊢
      have BKa:=n0_
      have BKb:=n1_
      have BKr:=n2_
      have BKm:=n3_
      have BKx:=n4_
      have BKv:=n5_
      have BKk:=n6_
      have HB:=n7_
      clear n0_ n1_ n2_ n3_ n4_ n5_ n6_ n7_
      try clear hck_0
      try clear hfk_0
      try clear hck_1
      try clear hfk_1
      clear hcx_0 hfx_0
      clear hcx_1 hfx_1
      clear hcx_2 hfx_2
      clear hcv_0 hfv_0
      clear hcv_1 hfv_1
      clear hcv_2 hfv_2
      obtain⟨b0,hb0⟩:∃ b,((Fp (prs (l0_2.take i) l1_2 ++ (l1_2.take j).map fun y=>((⟨x0,x1,x2⟩:S53),y))) x0 v1).getD false=b:=⟨_,rfl⟩
      have HB0:=y0.mk hb0
      clear hb0
      have hPM:PM w10 gm (i * l1_2.length + j) (Fp (prs (l0_2.take i) l1_2 ++ (l1_2.take j).map fun y=>((⟨x0,x1,x2⟩:S53),y))):=HM.out.at BKm.out
      have HPM:=y0.mk hPM
      clear hPM
      cases b0 with
      | true =>
       refine start_ (n:=14) (S:=fun w'=>w'.cell? ⟨gx,2,none⟩=some (.bool x2)∧w'.cell? ⟨gv,2,none⟩=some (.bool v2)∧w'.cell? ⟨gk,0,none⟩=some (.int .i64 x0)∧w'.cell? ⟨gk,1,none⟩=some (.int .i64 v1)∧PM w' gm (i * l1_2.length + j) (Fp (prs (l0_2.take i) l1_2 ++ (l1_2.take j).map fun y=>((⟨x0,x1,x2⟩:S53),y)))) (ds:=[13]) #[false,false,false,false,false,false,false,false,false,false,false,false,false,false] (by kernel_rfl) rfl rfl ⟨(y7 BKx.out 2).trans rfl,(y7 BKv.out 2).trans rfl,(y7 BKk.out 0).trans rfl,(y7 BKk.out 1).trans rfl,PM.drew HPM.out⟩ (fun hHeld=>?_)
       refine pure_ (i:=0) (N:=some 39) (v:=?_) (a':=?_) #[true,false,false,false,false,false,false,false,false,false,false,false,false,false] rfl rfl (by kernel_rfl) (fun _ _ _ h=>h) (Or.inl ⟨by rfl, ?_⟩) ?_ ?_
       rotate_left
       ·intro w'
        go_simp
        with_reducible rfl
       rotate_left
       ·simp only [Act.put,List.setIfInBounds_toArray,List.set_cons_zero,List.set_cons_succ,i64_w,i32_w]
        rfl
       refine take_ (i:=1) (N:=some 40) (v:=?_) (a':=?_) #[true,true,false,false,false,false,false,false,false,false,false,false,false,false] rfl rfl (by kernel_rfl) (fun _ _ _ h=>h) (Or.inl ⟨by rfl, ?_⟩) hHeld ?_ ?_
       rotate_left
       ·rintro w' ⟨s0,s1,s2,s3,s4⟩
        go_simp
        with_reducible rfl
       rotate_left
       ·simp only [Act.put,List.setIfInBounds_toArray,List.set_cons_zero,List.set_cons_succ,i64_w,i32_w]
        rfl
       refine pure_ (i:=2) (N:=some 41) (v:=?_) (a':=?_) #[true,true,true,false,false,false,false,false,false,false,false,false,false,false] rfl rfl (by kernel_rfl) (fun _ _ _ h=>h) (Or.inl ⟨by rfl, ?_⟩) ?_ ?_
       rotate_left
       ·intro w'
        go_simp
        with_reducible rfl
       rotate_left
       ·simp only [Act.put,List.setIfInBounds_toArray,List.set_cons_zero,List.set_cons_succ,i64_w,i32_w]
        rfl
       refine take_ (i:=3) (N:=some 42) (v:=?_) (a':=?_) #[true,true,true,true,false,false,false,false,false,false,false,false,false,false] rfl rfl (by kernel_rfl) (fun _ _ _ h=>h) (Or.inl ⟨by rfl, ?_⟩) hHeld ?_ ?_
       rotate_left
       ·rintro w' ⟨s0,s1,s2,s3,s4⟩
        go_simp
        with_reducible rfl
       rotate_left
       ·simp only [Act.put,List.setIfInBounds_toArray,List.set_cons_zero,List.set_cons_succ,i64_w,i32_w]
        rfl
       refine take_ (i:=4) (N:=some 43) (v:=?_) (a':=?_) #[true,true,true,true,true,false,false,false,false,false,false,false,false,false] rfl rfl (by kernel_rfl) (fun _ _ _ h=>h) (Or.inl ⟨by rfl, ?_⟩) hHeld ?_ ?_
       rotate_left
       ·rintro w' ⟨s0,s1,s2,s3,s4⟩
        refine run_look2 (m:=.tmp 41) (x:=.tmp 42) s4 ?_ ?_ HKL.out ?_ HB0.out <;> rfl
       rotate_left
       ·simp only [Act.put,List.setIfInBounds_toArray,List.set_cons_zero,List.set_cons_succ,i64_w,i32_w]
        rfl
       refine pure_ (i:=5) (N:=some 44) (v:=?_) (a':=?_) #[true,true,true,true,true,true,false,false,false,false,false,false,false,false] rfl rfl (by kernel_rfl) (fun _ _ _ h=>h) (Or.inl ⟨by rfl, ?_⟩) ?_ ?_
       rotate_left
       ·intro w'
        go_simp
        with_reducible rfl
       rotate_left
       ·simp only [Act.put,List.setIfInBounds_toArray,List.set_cons_zero,List.set_cons_succ,i64_w,i32_w]
        rfl
       refine pure_ (i:=6) (N:=some 45) (v:=undef) (a':=?_) #[true,true,true,true,true,true,true,false,false,false,false,false,false,false] rfl rfl (by kernel_rfl) (fun _ _ _ h=>h) (Or.inr ⟨by rfl,rfl⟩) ?_ ?_
       rotate_left
       ·simp only [Act.put,List.setIfInBounds_toArray,List.set_cons_zero,List.set_cons_succ,i64_w,i32_w]
        rfl
       refine pure_ (i:=7) (N:=some 46) (v:=undef) (a':=?_) #[true,true,true,true,true,true,true,true,false,false,false,false,false,false] rfl rfl (by kernel_rfl) (fun _ _ _ h=>h) (Or.inr ⟨by rfl,rfl⟩) ?_ ?_
       rotate_left
       ·simp only [Act.put,List.setIfInBounds_toArray,List.set_cons_zero,List.set_cons_succ,i64_w,i32_w]
        rfl
       refine pure_ (i:=8) (N:=some 47) (v:=?_) (a':=?_) #[true,true,true,true,true,true,true,true,true,false,false,false,false,false] rfl rfl (by kernel_rfl) (fun _ _ _ h=>h) (Or.inl ⟨by rfl, ?_⟩) ?_ ?_
       rotate_left
       ·intro w'
        go_simp
        with_reducible rfl
       rotate_left
       ·simp only [Act.put,List.setIfInBounds_toArray,List.set_cons_zero,List.set_cons_succ,i64_w,i32_w]
        rfl
       refine pure_ (i:=9) (N:=some 48) (v:=?_) (a':=?_) #[true,true,true,true,true,true,true,true,true,true,false,false,false,false] rfl rfl (by kernel_rfl) (fun _ _ _ h=>h) (Or.inl ⟨by rfl, ?_⟩) ?_ ?_
       rotate_left
       ·intro w'
        go_simp
        with_reducible rfl
       rotate_left
       ·simp only [Act.put,List.setIfInBounds_toArray,List.set_cons_zero,List.set_cons_succ,i64_w,i32_w]
        rfl
       refine pure_ (i:=10) (N:=some 49) (v:=undef) (a':=?_) #[true,true,true,true,true,true,true,true,true,true,true,false,false,false] rfl rfl (by kernel_rfl) (fun _ _ _ h=>h) (Or.inr ⟨by rfl,rfl⟩) ?_ ?_
       rotate_left
       ·simp only [Act.put,List.setIfInBounds_toArray,List.set_cons_zero,List.set_cons_succ,i64_w,i32_w]
        rfl
       refine pure_ (i:=11) (N:=some 50) (v:=undef) (a':=?_) #[true,true,true,true,true,true,true,true,true,true,true,true,false,false] rfl rfl (by kernel_rfl) (fun _ _ _ h=>h) (Or.inr ⟨by rfl,rfl⟩) ?_ ?_
       rotate_left
       ·simp only [Act.put,List.setIfInBounds_toArray,List.set_cons_zero,List.set_cons_succ,i64_w,i32_w]
        rfl
       refine pure_ (i:=12) (N:=some 51) (v:=?_) (a':=?_) #[true,true,true,true,true,true,true,true,true,true,true,true,true,false] rfl rfl (by kernel_rfl) (fun _ _ _ h=>h) (Or.inl ⟨by rfl, ?_⟩) ?_ ?_
       rotate_left
       ·intro w'
        go_simp
        with_reducible rfl
       rotate_left
       ·simp only [Act.put,List.setIfInBounds_toArray,List.set_cons_zero,List.set_cons_succ,i64_w,i32_w]
        rfl
       refine last_ (i:=13) (N:=none) #[true,true,true,true,true,true,true,true,true,true,true,true,true,true] rfl rfl (by kernel_rfl) (by decide) (fun K hK=>?_)
       obtain⟨w11,hrun,hPM2,hg⟩:=QMapA.PM.put (PM.drew HPM.out) HROOM.out HKL.out true
       refine skip_ (w1:=w11) (by rfl) rfl ?_ ?_
       ·refine put_run (mo:=.tmp 39) (xo:=.tmp 40) (vo:=.tmp 51) ?_ ?_ ?_ ?_ hrun <;> rfl
       obtain⟨om2,hom,hMo⟩:=PM.o hPM2
       have n0_:=y0.mk (blk_grown (y8 BKa.out) hg (fun e=>NBa_m.out (Option.some.inj e)))
       have n1_:=y0.mk (blk_grown (y8 BKb.out) hg (fun e=>NBb_m.out (Option.some.inj e)))
       have n2_:=y0.mk (blk_grown (y8 BKr.out) hg (fun e=>NBr_m.out (Option.some.inj e)))
       have n3_:=y0.mk (blk_grown (y8 BKx.out) hg (fun e=>NBm_x.out (Option.some.inj e).symm))
       have n4_:=y0.mk (hom)
       have n5_:=y0.mk (hMo)
       have n6_:=y0.mk (below_grown0 (y2 HB.out) hg (fun k hk=>by injection hk with hk;rw [← hk];exact GEm.out))
       (try clear BKa)
       (try clear BKb)
       (try clear BKr)
       (try clear BKx)
       (try clear BKm)
       (try clear HM)
       (try clear HB)
       have BKa:=n0_
       have BKb:=n1_
       have BKr:=n2_
       have BKx:=n3_
       have BKm:=n4_
       have HM:=n5_
       have HB:=n6_
       clear n0_ n1_ n2_ n3_ n4_ n5_ n6_
       refine hK.out _ _ ?_
       clear hK K
       refine done_ (by kernel_rfl) ?_
       try go_wp2
       go_roundg (l1_2.length - j - 1)
       case measure=>have:=HK2.out;have:=HHJ.out;omega
       case rel=>exact⟨wrap64 (xj + 1),j + 1,om2,(by first|rfl|(simp;done)|(simp [*];done)),⟨(by rw [HXJ.out];exact step_i (by have:=HHJ.out;have:=HN1.out;omega))⟩,⟨(by have:=HHJ.out;omega)⟩,⟨hitF HM.out HHJ.out HVE.out HCE.out HB0.out rfl⟩,⟨BKa.out⟩,⟨BKb.out⟩,⟨BKr.out⟩,⟨BKm.out⟩,⟨BKx.out⟩,⟨HB.out⟩⟩
      | false =>
       cases x2 with
       | true =>
        refine start_ (n:=14) (S:=fun w'=>w'.cell? ⟨gx,2,none⟩=some (.bool true)∧w'.cell? ⟨gv,2,none⟩=some (.bool v2)∧w'.cell? ⟨gk,0,none⟩=some (.int .i64 x0)∧w'.cell? ⟨gk,1,none⟩=some (.int .i64 v1)∧PM w' gm (i * l1_2.length + j) (Fp (prs (l0_2.take i) l1_2 ++ (l1_2.take j).map fun y=>((⟨x0,x1,true⟩:S53),y)))) (ds:=[13]) #[false,false,false,false,false,false,false,false,false,false,false,false,false,false] (by kernel_rfl) rfl rfl ⟨(y7 BKx.out 2).trans rfl,(y7 BKv.out 2).trans rfl,(y7 BKk.out 0).trans rfl,(y7 BKk.out 1).trans rfl,PM.drew HPM.out⟩ (fun hHeld=>?_)
        refine pure_ (i:=0) (N:=some 39) (v:=?_) (a':=?_) #[true,false,false,false,false,false,false,false,false,false,false,false,false,false] rfl rfl (by kernel_rfl) (fun _ _ _ h=>h) (Or.inl ⟨by rfl, ?_⟩) ?_ ?_
        rotate_left
        ·intro w'
         go_simp
         with_reducible rfl
        rotate_left
        ·simp only [Act.put,List.setIfInBounds_toArray,List.set_cons_zero,List.set_cons_succ,i64_w,i32_w]
         rfl
        refine take_ (i:=1) (N:=some 40) (v:=?_) (a':=?_) #[true,true,false,false,false,false,false,false,false,false,false,false,false,false] rfl rfl (by kernel_rfl) (fun _ _ _ h=>h) (Or.inl ⟨by rfl, ?_⟩) hHeld ?_ ?_
        rotate_left
        ·rintro w' ⟨s0,s1,s2,s3,s4⟩
         go_simp
         with_reducible rfl
        rotate_left
        ·simp only [Act.put,List.setIfInBounds_toArray,List.set_cons_zero,List.set_cons_succ,i64_w,i32_w]
         rfl
        refine pure_ (i:=2) (N:=some 41) (v:=?_) (a':=?_) #[true,true,true,false,false,false,false,false,false,false,false,false,false,false] rfl rfl (by kernel_rfl) (fun _ _ _ h=>h) (Or.inl ⟨by rfl, ?_⟩) ?_ ?_
        rotate_left
        ·intro w'
         go_simp
         with_reducible rfl
        rotate_left
        ·simp only [Act.put,List.setIfInBounds_toArray,List.set_cons_zero,List.set_cons_succ,i64_w,i32_w]
         rfl
        refine take_ (i:=3) (N:=some 42) (v:=?_) (a':=?_) #[true,true,true,true,false,false,false,false,false,false,false,false,false,false] rfl rfl (by kernel_rfl) (fun _ _ _ h=>h) (Or.inl ⟨by rfl, ?_⟩) hHeld ?_ ?_
        rotate_left
        ·rintro w' ⟨s0,s1,s2,s3,s4⟩
         go_simp
         with_reducible rfl
        rotate_left
        ·simp only [Act.put,List.setIfInBounds_toArray,List.set_cons_zero,List.set_cons_succ,i64_w,i32_w]
         rfl
        refine take_ (i:=4) (N:=some 43) (v:=?_) (a':=?_) #[true,true,true,true,true,false,false,false,false,false,false,false,false,false] rfl rfl (by kernel_rfl) (fun _ _ _ h=>h) (Or.inl ⟨by rfl, ?_⟩) hHeld ?_ ?_
        rotate_left
        ·rintro w' ⟨s0,s1,s2,s3,s4⟩
         refine run_look2 (m:=.tmp 41) (x:=.tmp 42) s4 ?_ ?_ HKL.out ?_ HB0.out <;> rfl
        rotate_left
        ·simp only [Act.put,List.setIfInBounds_toArray,List.set_cons_zero,List.set_cons_succ,i64_w,i32_w]
         rfl
        refine pure_ (i:=5) (N:=some 44) (v:=?_) (a':=?_) #[true,true,true,true,true,true,false,false,false,false,false,false,false,false] rfl rfl (by kernel_rfl) (fun _ _ _ h=>h) (Or.inl ⟨by rfl, ?_⟩) ?_ ?_
        rotate_left
        ·intro w'
         go_simp
         with_reducible rfl
        rotate_left
        ·simp only [Act.put,List.setIfInBounds_toArray,List.set_cons_zero,List.set_cons_succ,i64_w,i32_w]
         rfl
        refine pure_ (i:=6) (N:=some 45) (v:=?_) (a':=?_) #[true,true,true,true,true,true,true,false,false,false,false,false,false,false] rfl rfl (by kernel_rfl) (fun _ _ _ h=>h) (Or.inl ⟨by rfl, ?_⟩) ?_ ?_
        rotate_left
        ·intro w'
         go_simp
         with_reducible rfl
        rotate_left
        ·simp only [Act.put,List.setIfInBounds_toArray,List.set_cons_zero,List.set_cons_succ,i64_w,i32_w]
         rfl
        refine take_ (i:=7) (N:=some 46) (v:=?_) (a':=?_) #[true,true,true,true,true,true,true,true,false,false,false,false,false,false] rfl rfl (by kernel_rfl) (fun _ _ _ h=>h) (Or.inl ⟨by rfl, ?_⟩) hHeld ?_ ?_
        rotate_left
        ·rintro w' ⟨s0,s1,s2,s3,s4⟩
         go_simp
         with_reducible rfl
        rotate_left
        ·simp only [Act.put,List.setIfInBounds_toArray,List.set_cons_zero,List.set_cons_succ,i64_w,i32_w]
         rfl
        refine pure_ (i:=8) (N:=some 47) (v:=?_) (a':=?_) #[true,true,true,true,true,true,true,true,true,false,false,false,false,false] rfl rfl (by kernel_rfl) (fun _ _ _ h=>h) (Or.inl ⟨by rfl, ?_⟩) ?_ ?_
        rotate_left
        ·intro w'
         go_simp
         with_reducible rfl
        rotate_left
        ·simp only [Act.put,List.setIfInBounds_toArray,List.set_cons_zero,List.set_cons_succ,i64_w,i32_w]
         rfl
        refine pure_ (i:=9) (N:=some 48) (v:=?_) (a':=?_) #[true,true,true,true,true,true,true,true,true,true,false,false,false,false] rfl rfl (by kernel_rfl) (fun _ _ _ h=>h) (Or.inl ⟨by rfl, ?_⟩) ?_ ?_
        rotate_left
        ·intro w'
         go_simp
         with_reducible rfl
        rotate_left
        ·simp only [Act.put,List.setIfInBounds_toArray,List.set_cons_zero,List.set_cons_succ,i64_w,i32_w]
         rfl
        refine pure_ (i:=10) (N:=some 49) (v:=undef) (a':=?_) #[true,true,true,true,true,true,true,true,true,true,true,false,false,false] rfl rfl (by kernel_rfl) (fun _ _ _ h=>h) (Or.inr ⟨by rfl,rfl⟩) ?_ ?_
        rotate_left
        ·simp only [Act.put,List.setIfInBounds_toArray,List.set_cons_zero,List.set_cons_succ,i64_w,i32_w]
         rfl
        refine pure_ (i:=11) (N:=some 50) (v:=undef) (a':=?_) #[true,true,true,true,true,true,true,true,true,true,true,true,false,false] rfl rfl (by kernel_rfl) (fun _ _ _ h=>h) (Or.inr ⟨by rfl,rfl⟩) ?_ ?_
        rotate_left
        ·simp only [Act.put,List.setIfInBounds_toArray,List.set_cons_zero,List.set_cons_succ,i64_w,i32_w]
         rfl
        refine pure_ (i:=12) (N:=some 51) (v:=?_) (a':=?_) #[true,true,true,true,true,true,true,true,true,true,true,true,true,false] rfl rfl (by kernel_rfl) (fun _ _ _ h=>h) (Or.inl ⟨by rfl, ?_⟩) ?_ ?_
        rotate_left
        ·intro w'
         go_simp
         with_reducible rfl
        rotate_left
        ·simp only [Act.put,List.setIfInBounds_toArray,List.set_cons_zero,List.set_cons_succ,i64_w,i32_w]
         rfl
        refine last_ (i:=13) (N:=none) #[true,true,true,true,true,true,true,true,true,true,true,true,true,true] rfl rfl (by kernel_rfl) (by decide) (fun K hK=>?_)
        obtain⟨w11,hrun,hPM2,hg⟩:=QMapA.PM.put (PM.drew HPM.out) HROOM.out HKL.out true
        refine skip_ (w1:=w11) (by rfl) rfl ?_ ?_
        ·refine put_run (mo:=.tmp 39) (xo:=.tmp 40) (vo:=.tmp 51) ?_ ?_ ?_ ?_ hrun <;> rfl
        obtain⟨om2,hom,hMo⟩:=PM.o hPM2
        have n0_:=y0.mk (blk_grown (y8 BKa.out) hg (fun e=>NBa_m.out (Option.some.inj e)))
        have n1_:=y0.mk (blk_grown (y8 BKb.out) hg (fun e=>NBb_m.out (Option.some.inj e)))
        have n2_:=y0.mk (blk_grown (y8 BKr.out) hg (fun e=>NBr_m.out (Option.some.inj e)))
        have n3_:=y0.mk (blk_grown (y8 BKx.out) hg (fun e=>NBm_x.out (Option.some.inj e).symm))
        have n4_:=y0.mk (hom)
        have n5_:=y0.mk (hMo)
        have n6_:=y0.mk (below_grown0 (y2 HB.out) hg (fun k hk=>by injection hk with hk;rw [← hk];exact GEm.out))
        (try clear BKa)
        (try clear BKb)
        (try clear BKr)
        (try clear BKx)
        (try clear BKm)
        (try clear HM)
        (try clear HB)
        have BKa:=n0_
        have BKb:=n1_
        have BKr:=n2_
        have BKx:=n3_
        have BKm:=n4_
        have HM:=n5_
        have HB:=n6_
        clear n0_ n1_ n2_ n3_ n4_ n5_ n6_
        refine hK.out _ _ ?_
        clear hK K
        refine done_ (by kernel_rfl) ?_
        try go_wp2
        go_roundg (l1_2.length - j - 1)
        case measure=>have:=HK2.out;have:=HHJ.out;omega
        case rel=>exact⟨wrap64 (xj + 1),j + 1,om2,(by first|rfl|(simp;done)|(simp [*];done)),⟨(by rw [HXJ.out];exact step_i (by have:=HHJ.out;have:=HN1.out;omega))⟩,⟨(by have:=HHJ.out;omega)⟩,⟨hitF HM.out HHJ.out HVE.out HCE.out HB0.out rfl⟩,⟨BKa.out⟩,⟨BKb.out⟩,⟨BKr.out⟩,⟨BKm.out⟩,⟨BKx.out⟩,⟨HB.out⟩⟩
       | false =>
        refine start_ (n:=14) (S:=fun w'=>w'.cell? ⟨gx,2,none⟩=some (.bool false)∧w'.cell? ⟨gv,2,none⟩=some (.bool v2)∧w'.cell? ⟨gk,0,none⟩=some (.int .i64 x0)∧w'.cell? ⟨gk,1,none⟩=some (.int .i64 v1)∧PM w' gm (i * l1_2.length + j) (Fp (prs (l0_2.take i) l1_2 ++ (l1_2.take j).map fun y=>((⟨x0,x1,false⟩:S53),y)))) (ds:=[13]) #[false,false,false,false,false,false,false,false,false,false,false,false,false,false] (by kernel_rfl) rfl rfl ⟨(y7 BKx.out 2).trans rfl,(y7 BKv.out 2).trans rfl,(y7 BKk.out 0).trans rfl,(y7 BKk.out 1).trans rfl,PM.drew HPM.out⟩ (fun hHeld=>?_)
        refine pure_ (i:=0) (N:=some 39) (v:=?_) (a':=?_) #[true,false,false,false,false,false,false,false,false,false,false,false,false,false] rfl rfl (by kernel_rfl) (fun _ _ _ h=>h) (Or.inl ⟨by rfl, ?_⟩) ?_ ?_
        rotate_left
        ·intro w'
         go_simp
         with_reducible rfl
        rotate_left
        ·simp only [Act.put,List.setIfInBounds_toArray,List.set_cons_zero,List.set_cons_succ,i64_w,i32_w]
         rfl
        refine take_ (i:=1) (N:=some 40) (v:=?_) (a':=?_) #[true,true,false,false,false,false,false,false,false,false,false,false,false,false] rfl rfl (by kernel_rfl) (fun _ _ _ h=>h) (Or.inl ⟨by rfl, ?_⟩) hHeld ?_ ?_
        rotate_left
        ·rintro w' ⟨s0,s1,s2,s3,s4⟩
         go_simp
         with_reducible rfl
        rotate_left
        ·simp only [Act.put,List.setIfInBounds_toArray,List.set_cons_zero,List.set_cons_succ,i64_w,i32_w]
         rfl
        refine pure_ (i:=2) (N:=some 41) (v:=?_) (a':=?_) #[true,true,true,false,false,false,false,false,false,false,false,false,false,false] rfl rfl (by kernel_rfl) (fun _ _ _ h=>h) (Or.inl ⟨by rfl, ?_⟩) ?_ ?_
        rotate_left
        ·intro w'
         go_simp
         with_reducible rfl
        rotate_left
        ·simp only [Act.put,List.setIfInBounds_toArray,List.set_cons_zero,List.set_cons_succ,i64_w,i32_w]
         rfl
        refine take_ (i:=3) (N:=some 42) (v:=?_) (a':=?_) #[true,true,true,true,false,false,false,false,false,false,false,false,false,false] rfl rfl (by kernel_rfl) (fun _ _ _ h=>h) (Or.inl ⟨by rfl, ?_⟩) hHeld ?_ ?_
        rotate_left
        ·rintro w' ⟨s0,s1,s2,s3,s4⟩
         go_simp
         with_reducible rfl
        rotate_left
        ·simp only [Act.put,List.setIfInBounds_toArray,List.set_cons_zero,List.set_cons_succ,i64_w,i32_w]
         rfl
        refine take_ (i:=4) (N:=some 43) (v:=?_) (a':=?_) #[true,true,true,true,true,false,false,false,false,false,false,false,false,false] rfl rfl (by kernel_rfl) (fun _ _ _ h=>h) (Or.inl ⟨by rfl, ?_⟩) hHeld ?_ ?_
        rotate_left
        ·rintro w' ⟨s0,s1,s2,s3,s4⟩
         refine run_look2 (m:=.tmp 41) (x:=.tmp 42) s4 ?_ ?_ HKL.out ?_ HB0.out <;> rfl
        rotate_left
        ·simp only [Act.put,List.setIfInBounds_toArray,List.set_cons_zero,List.set_cons_succ,i64_w,i32_w]
         rfl
        refine pure_ (i:=5) (N:=some 44) (v:=?_) (a':=?_) #[true,true,true,true,true,true,false,false,false,false,false,false,false,false] rfl rfl (by kernel_rfl) (fun _ _ _ h=>h) (Or.inl ⟨by rfl, ?_⟩) ?_ ?_
        rotate_left
        ·intro w'
         go_simp
         with_reducible rfl
        rotate_left
        ·simp only [Act.put,List.setIfInBounds_toArray,List.set_cons_zero,List.set_cons_succ,i64_w,i32_w]
         rfl
        refine pure_ (i:=6) (N:=some 45) (v:=?_) (a':=?_) #[true,true,true,true,true,true,true,false,false,false,false,false,false,false] rfl rfl (by kernel_rfl) (fun _ _ _ h=>h) (Or.inl ⟨by rfl, ?_⟩) ?_ ?_
        rotate_left
        ·intro w'
         go_simp
         with_reducible rfl
        rotate_left
        ·simp only [Act.put,List.setIfInBounds_toArray,List.set_cons_zero,List.set_cons_succ,i64_w,i32_w]
         rfl
        refine take_ (i:=7) (N:=some 46) (v:=?_) (a':=?_) #[true,true,true,true,true,true,true,true,false,false,false,false,false,false] rfl rfl (by kernel_rfl) (fun _ _ _ h=>h) (Or.inl ⟨by rfl, ?_⟩) hHeld ?_ ?_
        rotate_left
        ·rintro w' ⟨s0,s1,s2,s3,s4⟩
         go_simp
         with_reducible rfl
        rotate_left
        ·simp only [Act.put,List.setIfInBounds_toArray,List.set_cons_zero,List.set_cons_succ,i64_w,i32_w]
         rfl
        refine pure_ (i:=8) (N:=some 47) (v:=?_) (a':=?_) #[true,true,true,true,true,true,true,true,true,false,false,false,false,false] rfl rfl (by kernel_rfl) (fun _ _ _ h=>h) (Or.inl ⟨by rfl, ?_⟩) ?_ ?_
        rotate_left
        ·intro w'
         go_simp
         with_reducible rfl
        rotate_left
        ·simp only [Act.put,List.setIfInBounds_toArray,List.set_cons_zero,List.set_cons_succ,i64_w,i32_w]
         rfl
        refine pure_ (i:=9) (N:=some 48) (v:=?_) (a':=?_) #[true,true,true,true,true,true,true,true,true,true,false,false,false,false] rfl rfl (by kernel_rfl) (fun _ _ _ h=>h) (Or.inl ⟨by rfl, ?_⟩) ?_ ?_
        rotate_left
        ·intro w'
         go_simp
         with_reducible rfl
        rotate_left
        ·simp only [Act.put,List.setIfInBounds_toArray,List.set_cons_zero,List.set_cons_succ,i64_w,i32_w]
         rfl
        refine pure_ (i:=10) (N:=some 49) (v:=?_) (a':=?_) #[true,true,true,true,true,true,true,true,true,true,true,false,false,false] rfl rfl (by kernel_rfl) (fun _ _ _ h=>h) (Or.inl ⟨by rfl, ?_⟩) ?_ ?_
        rotate_left
        ·intro w'
         go_simp
         with_reducible rfl
        rotate_left
        ·simp only [Act.put,List.setIfInBounds_toArray,List.set_cons_zero,List.set_cons_succ,i64_w,i32_w]
         rfl
        refine take_ (i:=11) (N:=some 50) (v:=?_) (a':=?_) #[true,true,true,true,true,true,true,true,true,true,true,true,false,false] rfl rfl (by kernel_rfl) (fun _ _ _ h=>h) (Or.inl ⟨by rfl, ?_⟩) hHeld ?_ ?_
        rotate_left
        ·rintro w' ⟨s0,s1,s2,s3,s4⟩
         go_simp
         with_reducible rfl
        rotate_left
        ·simp only [Act.put,List.setIfInBounds_toArray,List.set_cons_zero,List.set_cons_succ,i64_w,i32_w]
         rfl
        refine pure_ (i:=12) (N:=some 51) (v:=?_) (a':=?_) #[true,true,true,true,true,true,true,true,true,true,true,true,true,false] rfl rfl (by kernel_rfl) (fun _ _ _ h=>h) (Or.inl ⟨by rfl, ?_⟩) ?_ ?_
        rotate_left
        ·intro w'
         go_simp
         with_reducible rfl
        rotate_left
        ·simp only [Act.put,List.setIfInBounds_toArray,List.set_cons_zero,List.set_cons_succ,i64_w,i32_w]
         rfl
        refine last_ (i:=13) (N:=none) #[true,true,true,true,true,true,true,true,true,true,true,true,true,true] rfl rfl (by kernel_rfl) (by decide) (fun K hK=>?_)
        obtain⟨w11,hrun,hPM2,hg⟩:=QMapA.PM.put (PM.drew HPM.out) HROOM.out HKL.out v2
        refine skip_ (w1:=w11) (by rfl) rfl ?_ ?_
        ·refine put_run (mo:=.tmp 39) (xo:=.tmp 40) (vo:=.tmp 51) ?_ ?_ ?_ ?_ hrun <;> rfl
        obtain⟨om2,hom,hMo⟩:=PM.o hPM2
        have n0_:=y0.mk (blk_grown (y8 BKa.out) hg (fun e=>NBa_m.out (Option.some.inj e)))
        have n1_:=y0.mk (blk_grown (y8 BKb.out) hg (fun e=>NBb_m.out (Option.some.inj e)))
        have n2_:=y0.mk (blk_grown (y8 BKr.out) hg (fun e=>NBr_m.out (Option.some.inj e)))
        have n3_:=y0.mk (blk_grown (y8 BKx.out) hg (fun e=>NBm_x.out (Option.some.inj e).symm))
        have n4_:=y0.mk (hom)
        have n5_:=y0.mk (hMo)
        have n6_:=y0.mk (below_grown0 (y2 HB.out) hg (fun k hk=>by injection hk with hk;rw [← hk];exact GEm.out))
        (try clear BKa)
        (try clear BKb)
        (try clear BKr)
        (try clear BKx)
        (try clear BKm)
        (try clear HM)
        (try clear HB)
        have BKa:=n0_
        have BKb:=n1_
        have BKr:=n2_
        have BKx:=n3_
        have BKm:=n4_
        have HM:=n5_
        have HB:=n6_
        clear n0_ n1_ n2_ n3_ n4_ n5_ n6_
        refine hK.out _ _ ?_
        clear hK K
        refine done_ (by kernel_rfl) ?_
        try go_wp2
        go_roundg (l1_2.length - j - 1)
        case measure=>have:=HK2.out;have:=HHJ.out;omega
        case rel=>exact⟨wrap64 (xj + 1),j + 1,om2,(by first|rfl|(simp;done)|(simp [*];done)),⟨(by rw [HXJ.out];exact step_i (by have:=HHJ.out;have:=HN1.out;omega))⟩,⟨(by have:=HHJ.out;omega)⟩,⟨hitF HM.out HHJ.out HVE.out HCE.out HB0.out rfl⟩,⟨BKa.out⟩,⟨BKb.out⟩,⟨BKr.out⟩,⟨BKm.out⟩,⟨BKx.out⟩,⟨HB.out⟩⟩
     ·skip
      have ceb:(x1 == v0)=false:=beq_eq_false_iff_ne.mpr ce
      have HCE:=y0.mk ce
      clear ce
      have hcx_0:w8.cell? ⟨gx,0,none⟩=some (.int .i64 x0):=(y7 BKx.out 0).trans rfl
      have hcx_1:w8.cell? ⟨gx,1,none⟩=some (.int .i64 x1):=(y7 BKx.out 1).trans rfl
      have hcx_2:w8.cell? ⟨gx,2,none⟩=some (.bool x2):=(y7 BKx.out 2).trans rfl
      have hfx_0:=y11 BKx.out 0
      have hfx_1:=y11 BKx.out 1
      have hfx_2:=y11 BKx.out 2
      have hcv_0:w8.cell? ⟨gv,0,none⟩=some (.int .i64 v0):=(y7 BKv.out 0).trans rfl
      have hcv_1:w8.cell? ⟨gv,1,none⟩=some (.int .i64 v1):=(y7 BKv.out 1).trans rfl
      have hcv_2:w8.cell? ⟨gv,2,none⟩=some (.bool v2):=(y7 BKv.out 2).trans rfl
      have hfv_0:=y11 BKv.out 0
      have hfv_1:=y11 BKv.out 1
      have hfv_2:=y11 BKv.out 2
      go_wp2
      go_roundg (l1_2.length - j - 1)
      case measure=>have:=HK2.out;have:=HHJ.out;omega
      case rel=>exact⟨wrap64 (xj + 1),j + 1,om,(by first|rfl|(simp;done)|(simp [*];done)),⟨(by rw [HXJ.out];exact step_i (by have:=HHJ.out;have:=HN1.out;omega))⟩,⟨(by have:=HHJ.out;omega)⟩,⟨missF HM.out HHJ.out HVE.out HCE.out⟩,⟨(by(with_reducible repeat(first|refine y9 ?_ _|refine y8 ?_|refine y5 ?_ _));exact BKa.out)⟩,⟨(by(with_reducible repeat(first|refine y9 ?_ _|refine y8 ?_|refine y5 ?_ _));exact BKb.out)⟩,⟨(by(with_reducible repeat(first|refine y9 ?_ _|refine y8 ?_|refine y5 ?_ _));exact BKr.out)⟩,⟨(by(with_reducible repeat(first|refine y9 ?_ _|refine y8 ?_|refine y5 ?_ _));exact BKm.out)⟩,⟨(by(with_reducible repeat(first|refine y9 ?_ _|refine y8 ?_|refine y5 ?_ _));exact BKx.out)⟩,⟨(by repeat(first|(with_reducible first|exact HB.out|apply y1|apply y13|apply y2|refine y3 ?_ GEa.out|refine y3 ?_ GEb.out|refine y3 ?_ GEr.out|refine y3 ?_ GEm.out|refine y3 ?_ GEx.out|refine y3 ?_ GEv.out|refine y3 ?_ GEk.out)|exact HB.out))⟩⟩
    ·skip
     have cb2:decide (xj < (l1_2.length:Int))=false:=decide_eq_false c
     have hje:j=l1_2.length:=by have:=HXJ.out;have:=HK2.out;omega
     go_wp2
     go_roundg (l0_2.length - i - 1)
     case measure=>have:=HK1.out;omega
     case rel=>exact⟨wrap64 (xi + 1),i + 1,om,(by first|rfl|(simp;done)|(simp [*];done)),⟨(by rw [HXI.out];exact step_i (by have:=HN0.out;omega))⟩,⟨(by omega)⟩,⟨doneF HM.out hi HXE.out hje⟩,⟨(by(with_reducible repeat(first|refine y9 ?_ _|refine y8 ?_|refine y5 ?_ _));exact BKa.out)⟩,⟨(by(with_reducible repeat(first|refine y9 ?_ _|refine y8 ?_|refine y5 ?_ _));exact BKb.out)⟩,⟨(by(with_reducible repeat(first|refine y9 ?_ _|refine y8 ?_|refine y5 ?_ _));exact BKr.out)⟩,⟨(by(with_reducible repeat(first|refine y9 ?_ _|refine y8 ?_|refine y5 ?_ _));exact BKm.out)⟩,⟨(by repeat(first|(with_reducible first|exact HB.out|apply y1|apply y13|apply y2|refine y3 ?_ GEa.out|refine y3 ?_ GEb.out|refine y3 ?_ GEr.out|refine y3 ?_ GEm.out|refine y3 ?_ GEx.out|refine y3 ?_ GEv.out|refine y3 ?_ GEk.out)|exact HB.out))⟩⟩
  ·skip
   have cb1:decide (xi < (l0_2.length:Int))=false:=decide_eq_false c
   have hie:i=l0_2.length:=by have:=HXI.out;have:=HK1.out;omega
   rw [hie,List.take_length]at HM
   have HG:=y0.mk hie
   clear hie
   have hca_0:wr.cell? ⟨ga,0,none⟩=some (.int .i64 a0_0):=(y7 BKa.out 0).trans rfl
   have hca_1:wr.cell? ⟨ga,1,none⟩=some (.int .i64 a0_1):=(y7 BKa.out 1).trans rfl
   have hca_2:wr.cell? ⟨ga,2,none⟩=some (.slice A0_2 l0_2.length c0_2):=(y7 BKa.out 2).trans rfl
   have hfa_0:=y11 BKa.out 0
   have hfa_1:=y11 BKa.out 1
   have hfa_2:=y11 BKa.out 2
   have hcb_0:wr.cell? ⟨gb,0,none⟩=some (.int .i64 a1_0):=(y7 BKb.out 0).trans rfl
   have hcb_1:wr.cell? ⟨gb,1,none⟩=some (.int .i64 a1_1):=(y7 BKb.out 1).trans rfl
   have hcb_2:wr.cell? ⟨gb,2,none⟩=some (.slice A1_2 l1_2.length c1_2):=(y7 BKb.out 2).trans rfl
   have hfb_0:=y11 BKb.out 0
   have hfb_1:=y11 BKb.out 1
   have hfb_2:=y11 BKb.out 2
   go_upto_region 14 with(first
     | ((with_reducible refine y12 (N:=11) rfl ?_);refine box_event ?hg (N:=11) ?hd (cs:=#[.int .i64 0,.int .i64 0,.slice none 0 0]) (t:=28) ?hr ?_;(case hd=>rfl);(case hg=>rfl);(case hr=>first|(go_simp;done)|(go_simp;rfl));intro go hg w12 hbox hb;have n0_:=y0.mk (y6 (g:=ga) (o:=(.cells #[.int .i64 a0_0,.int .i64 a0_1,.slice A0_2 l0_2.length c0_2] 28 (0,0))) (by(with_reducible repeat(first|refine y9 ?_ _|refine y8 ?_|refine y5 ?_ _));exact BKa.out) hb);have n1_:=y0.mk (y6 (g:=gb) (o:=(.cells #[.int .i64 a1_0,.int .i64 a1_1,.slice A1_2 l1_2.length c1_2] 28 (0,0))) (by(with_reducible repeat(first|refine y9 ?_ _|refine y8 ?_|refine y5 ?_ _));exact BKb.out) hb);have n2_:=y0.mk (y6 (g:=gr) (o:=(.cells #[.int .i64 0,.int .i64 0,.slice none 0 0] 28 (0,0))) (by(with_reducible repeat(first|refine y9 ?_ _|refine y8 ?_|refine y5 ?_ _));exact BKr.out) hb);have n3_:=y0.mk (y6 (g:=gm) (o:=om) (by(with_reducible repeat(first|refine y9 ?_ _|refine y8 ?_|refine y5 ?_ _));exact BKm.out) hb);have n4_:=y0.mk ((by rw [hg];exact Nat.ne_of_lt (blk_lt (g:=ga) (o:=(.cells #[.int .i64 a0_0,.int .i64 a0_1,.slice A0_2 l0_2.length c0_2] 28 (0,0))) (by(with_reducible repeat(first|refine y9 ?_ _|refine y8 ?_|refine y5 ?_ _));exact BKa.out)):ga≠go));have n5_:=y0.mk ((by rw [hg];exact Nat.ne_of_lt (blk_lt (g:=gb) (o:=(.cells #[.int .i64 a1_0,.int .i64 a1_1,.slice A1_2 l1_2.length c1_2] 28 (0,0))) (by(with_reducible repeat(first|refine y9 ?_ _|refine y8 ?_|refine y5 ?_ _));exact BKb.out)):gb≠go));have n6_:=y0.mk ((by rw [hg];exact Nat.ne_of_lt (blk_lt (g:=gr) (o:=(.cells #[.int .i64 0,.int .i64 0,.slice none 0 0] 28 (0,0))) (by(with_reducible repeat(first|refine y9 ?_ _|refine y8 ?_|refine y5 ?_ _));exact BKr.out)):gr≠go));have n7_:=y0.mk ((by rw [hg];exact Nat.ne_of_lt (blk_lt (g:=gm) (o:=om) (by(with_reducible repeat(first|refine y9 ?_ _|refine y8 ?_|refine y5 ?_ _));exact BKm.out)):gm≠go));have n8_:=y0.mk (hbox);have n9_:=y0.mk ((by rw [hg];exact(below_size (by repeat(first|(with_reducible first|exact HB.out|apply y1|apply y13|apply y2|refine y3 ?_ GEa.out|refine y3 ?_ GEb.out|refine y3 ?_ GEr.out|refine y3 ?_ GEm.out)|exact HB.out))):w.heap.size≤go));have n10_:=y0.mk (y4 (by repeat(first|(with_reducible first|exact HB.out|apply y1|apply y13|apply y2|refine y3 ?_ GEa.out|refine y3 ?_ GEb.out|refine y3 ?_ GEr.out|refine y3 ?_ GEm.out)|exact HB.out)) hb);(try clear BKa);(try clear BKb);(try clear BKr);(try clear BKm);(try clear NBa_o);(try clear NBb_o);(try clear NBr_o);(try clear NBm_o);(try clear BKo);(try clear GEo);(try clear HB);have BKa:=n0_;have BKb:=n1_;have BKr:=n2_;have BKm:=n3_;have NBa_o:=n4_;have NBb_o:=n5_;have NBr_o:=n6_;have NBm_o:=n7_;have BKo:=n8_;have GEo:=n9_;have HB:=n10_;clear n0_ n1_ n2_ n3_ n4_ n5_ n6_ n7_ n8_ n9_ n10_;clear hb hbox hg;have hco_0:w12.cell? ⟨go,0,none⟩=some (.int .i64 0):=(y7 BKo.out 0).trans rfl;have hco_1:w12.cell? ⟨go,1,none⟩=some (.int .i64 0):=(y7 BKo.out 1).trans rfl;have hco_2:w12.cell? ⟨go,2,none⟩=some (.slice none 0 0):=(y7 BKo.out 2).trans rfl;have hfo_0:=y11 BKo.out 0;have hfo_1:=y11 BKo.out 1;have hfo_2:=y11 BKo.out 2))
   have n0_:=y0.mk (by(with_reducible repeat(first|refine y9 ?_ _|refine y8 ?_|refine y5 ?_ _));refine y10 ?_ NBa_o.out _;(with_reducible repeat(first|refine y9 ?_ _|refine y8 ?_|refine y5 ?_ _));refine y10 ?_ NBa_o.out _;(with_reducible repeat(first|refine y9 ?_ _|refine y8 ?_|refine y5 ?_ _));refine y10 ?_ NBa_o.out _;(with_reducible repeat(first|refine y9 ?_ _|refine y8 ?_|refine y5 ?_ _));exact BKa.out:(((w12.setCell ⟨go,0,none⟩ (.int .i64 a0_0)).setCell ⟨go,1,none⟩ (.int .i64 a1_1)).setCell ⟨go,2,none⟩ (.slice none 0 0)).heap[ga]?=some (.cells #[.int .i64 a0_0,.int .i64 a0_1,.slice A0_2 l0_2.length c0_2] 28 (0,0)))
   have n1_:=y0.mk (by(with_reducible repeat(first|refine y9 ?_ _|refine y8 ?_|refine y5 ?_ _));refine y10 ?_ NBb_o.out _;(with_reducible repeat(first|refine y9 ?_ _|refine y8 ?_|refine y5 ?_ _));refine y10 ?_ NBb_o.out _;(with_reducible repeat(first|refine y9 ?_ _|refine y8 ?_|refine y5 ?_ _));refine y10 ?_ NBb_o.out _;(with_reducible repeat(first|refine y9 ?_ _|refine y8 ?_|refine y5 ?_ _));exact BKb.out:(((w12.setCell ⟨go,0,none⟩ (.int .i64 a0_0)).setCell ⟨go,1,none⟩ (.int .i64 a1_1)).setCell ⟨go,2,none⟩ (.slice none 0 0)).heap[gb]?=some (.cells #[.int .i64 a1_0,.int .i64 a1_1,.slice A1_2 l1_2.length c1_2] 28 (0,0)))
   have n2_:=y0.mk (by(with_reducible repeat(first|refine y9 ?_ _|refine y8 ?_|refine y5 ?_ _));refine y10 ?_ NBr_o.out _;(with_reducible repeat(first|refine y9 ?_ _|refine y8 ?_|refine y5 ?_ _));refine y10 ?_ NBr_o.out _;(with_reducible repeat(first|refine y9 ?_ _|refine y8 ?_|refine y5 ?_ _));refine y10 ?_ NBr_o.out _;(with_reducible repeat(first|refine y9 ?_ _|refine y8 ?_|refine y5 ?_ _));exact BKr.out:(((w12.setCell ⟨go,0,none⟩ (.int .i64 a0_0)).setCell ⟨go,1,none⟩ (.int .i64 a1_1)).setCell ⟨go,2,none⟩ (.slice none 0 0)).heap[gr]?=some (.cells #[.int .i64 0,.int .i64 0,.slice none 0 0] 28 (0,0)))
   have n3_:=y0.mk (by(with_reducible repeat(first|refine y9 ?_ _|refine y8 ?_|refine y5 ?_ _));refine y10 ?_ NBm_o.out _;(with_reducible repeat(first|refine y9 ?_ _|refine y8 ?_|refine y5 ?_ _));refine y10 ?_ NBm_o.out _;(with_reducible repeat(first|refine y9 ?_ _|refine y8 ?_|refine y5 ?_ _));refine y10 ?_ NBm_o.out _;(with_reducible repeat(first|refine y9 ?_ _|refine y8 ?_|refine y5 ?_ _));exact BKm.out:(((w12.setCell ⟨go,0,none⟩ (.int .i64 a0_0)).setCell ⟨go,1,none⟩ (.int .i64 a1_1)).setCell ⟨go,2,none⟩ (.slice none 0 0)).heap[gm]?=some om)
   have n4_:=y0.mk (by(with_reducible repeat(first|refine y9 ?_ _|refine y8 ?_|refine y5 ?_ _));refine blk_put (cs:=#[.int .i64 a0_0,.int .i64 a1_1,.slice none 0 0]) ?_ 2 _ rfl;(with_reducible repeat(first|refine y9 ?_ _|refine y8 ?_|refine y5 ?_ _));refine blk_put (cs:=#[.int .i64 a0_0,.int .i64 0,.slice none 0 0]) ?_ 1 _ rfl;(with_reducible repeat(first|refine y9 ?_ _|refine y8 ?_|refine y5 ?_ _));refine blk_put (cs:=#[.int .i64 0,.int .i64 0,.slice none 0 0]) ?_ 0 _ rfl;(with_reducible repeat(first|refine y9 ?_ _|refine y8 ?_|refine y5 ?_ _));exact BKo.out:(((w12.setCell ⟨go,0,none⟩ (.int .i64 a0_0)).setCell ⟨go,1,none⟩ (.int .i64 a1_1)).setCell ⟨go,2,none⟩ (.slice none 0 0)).heap[go]?=some (.cells #[.int .i64 a0_0,.int .i64 a1_1,.slice none 0 0] 28 (0,0)))
   have n5_:=y0.mk ((by repeat(first|(with_reducible first|exact HB.out|apply y1|apply y13|apply y2|refine y3 ?_ GEa.out|refine y3 ?_ GEb.out|refine y3 ?_ GEr.out|refine y3 ?_ GEm.out|refine y3 ?_ GEo.out)|exact HB.out)):Below w.heap.size w (((w12.setCell ⟨go,0,none⟩ (.int .i64 a0_0)).setCell ⟨go,1,none⟩ (.int .i64 a1_1)).setCell ⟨go,2,none⟩ (.slice none 0 0)))
   (try clear BKa)
   (try clear BKb)
   (try clear BKr)
   (try clear BKm)
   (try clear BKo)
   (try clear HB)
   generalize (((w12.setCell ⟨go,0,none⟩ (.int .i64 a0_0)).setCell ⟨go,1,none⟩ (.int .i64 a1_1)).setCell ⟨go,2,none⟩ (.slice none 0 0))=w13 at n0_ n1_ n2_ n3_ n4_ n5_ ⊢
   have BKa:=n0_
   have BKb:=n1_
   have BKr:=n2_
   have BKm:=n3_
   have BKo:=n4_
   have HB:=n5_
   clear n0_ n1_ n2_ n3_ n4_ n5_
   try clear hco_0
   try clear hfo_0
   try clear hco_1
   try clear hfo_1
   try clear hco_2
   try clear hfo_2
   clear hca_0 hfa_0
   clear hca_1 hfa_1
   clear hca_2 hfa_2
   clear hcb_0 hfb_0
   clear hcb_1 hfb_1
   clear hcb_2 hfb_2
   have HPM:=y0.mk (HM.out.at BKm.out)
   go_wp2_with (first
     | ((with_reducible refine y12 (N:=60) rfl ?_);refine range_event rfl (.tmp 59) rfl rfl HPM.out ?_;intro gi w14 cnt hri hPR hg hsz;obtain⟨om2,or,hom,hor,hPo⟩:=PR.o hPR;have n0_:=y0.mk (blk_grown BKr.out hg (by simp));have n1_:=y0.mk (blk_grown BKo.out hg (by simp));have n2_:=y0.mk (hom);have n3_:=y0.mk (hor);have n4_:=y0.mk (hPo);have n5_:=y0.mk ((by rw [hri];exact HB.out.size:w.heap.size≤gi));have n6_:=y0.mk ((by rw [hri];exact Nat.ne_of_lt (blk_lt BKr.out):gr≠gi));have n7_:=y0.mk ((by rw [hri];exact Nat.ne_of_lt (blk_lt BKo.out):go≠gi));have n8_:=y0.mk ((by rw [hri];exact Nat.ne_of_lt (blk_lt BKm.out):gm≠gi));have n9_:=y0.mk (below_grown0 HB.out hg (fun k hk=>by cases hk));(try clear BKr);(try clear BKo);(try clear BKm);(try clear BKi);(try clear HP);(try clear GEi);(try clear NBr_i);(try clear NBo_i);(try clear NBm_i);(try clear HB);have BKr:=n0_;have BKo:=n1_;have BKm:=n2_;have BKi:=n3_;have HP:=n4_;have GEi:=n5_;have NBr_i:=n6_;have NBo_i:=n7_;have NBm_i:=n8_;have HB:=n9_;clear n0_ n1_ n2_ n3_ n4_ n5_ n6_ n7_ n8_ n9_;clear hg hom hor hPo hPR hsz hri))
   go_loopg [61] (cnt + 1) (fun kq v61 w'=>∃(cnt':Nat) (G:Int→Int→Bool) (or:Obj) (d:List S53) (u:Value),y0 (kq=cnt' + 1)∧y0 (PRo om2 or (l0_2.length * l1_2.length) (Fp (prs l0_2 l1_2)) G cnt' gm)∧y0 (d.length + cnt'≤l0_2.length * l1_2.length)∧y0 (d.Pairwise fun x y=>¬(x.f0=y.f0∧x.f1=y.f1))∧y0 (∀ z:S53,z∈d↔(Fp (prs l0_2 l1_2)) z.f0 z.f1=some z.f2∧G z.f0 z.f1=false)∧y0 (Kd.R k53 53 w' w.heap.size (fun _=>True) u d)∧y0 (w'.heap[gr]?=some (.cells #[.int .i64 0,.int .i64 0,.slice none 0 0] 28 (0,0)))∧y0 (w'.heap[go]?=some (.cells #[.int .i64 a0_0,.int .i64 a1_1,u] 28 (0,0)))∧y0 (w'.heap[gm]?=some om2)∧y0 (w'.heap[gi]?=some or)∧y0 (Below w.heap.size w w'))
   case atStart=>exact⟨cnt,_,or,[],.slice none 0 0,⟨rfl⟩,⟨HP.out⟩,⟨(by have:=PRo.le HP.out;simpa using this)⟩,⟨List.Pairwise.nil⟩,⟨startM _⟩,⟨Kd.R_nil _ _ _ _ _⟩,⟨BKr.out⟩,⟨BKo.out⟩,⟨BKm.out⟩,⟨BKi.out⟩,⟨HB.out⟩⟩
   case round =>
    clear HP
    obtain⟨cnt',G,or,d,u,HK3,HP,HLN,HD,HZ,HO,BKr,BKo,BKm,BKi,HB⟩:=hrel
    have hPR:=HP.out.at BKm.out BKi.out
    rcases hPR.next 0 with⟨h0,hl,hrun⟩|⟨p,q,b,kl,w15,cnt2,hk,hG,hF,hrun,hPR2,hlt,hg,hsz,hen⟩
    ·skip
     have HL:=y0.mk hl
     clear hl h0 hPR
     obtain⟨A9,c9,rfl⟩:=Kd.R_slice HO.out
     have hco_0:wr.cell? ⟨go,0,none⟩=some (.int .i64 a0_0):=(y7 BKo.out 0).trans rfl
     have hco_1:wr.cell? ⟨go,1,none⟩=some (.int .i64 a1_1):=(y7 BKo.out 1).trans rfl
     have hco_2:wr.cell? ⟨go,2,none⟩=some (.slice A9 d.length c9):=(y7 BKo.out 2).trans rfl
     have hfo_0:=y11 BKo.out 0
     have hfo_1:=y11 BKo.out 1
     have hfo_2:=y11 BKo.out 2
     go_wp2_with (first
       | ((with_reducible refine y12 (N:=61) rfl ?_);refine next_run rfl (.tmp 60) rfl rfl rfl hrun ?_;clear hrun)
       | (go_at_call 44;(with_reducible refine(sortR w.heap.size (.slice A9 d.length c9) d _ ?s1 ?s2).mono ?_);(case s1=>exact HO.out);(case s2=>have:=lenN HLN.out HN0.out HN1.out;omega);rintro e w16 ⟨rfl,d',hp,hs,ho,hg2⟩;have n0_:=y0.mk (blk_grown BKr.out hg2 (Kd.R_ne HO.out BKr.out (by decide)));have n1_:=y0.mk (blk_grown BKo.out hg2 (Kd.R_ne HO.out BKo.out (by decide)));have n2_:=y0.mk (below_grown0 HB.out hg2 (fun k hk=>Kd.R_base HO.out k hk));have n3_:=y0.mk (ho);(try clear BKr);(try clear BKo);(try clear HB);(try clear HO);have BKr:=n0_;have BKo:=n1_;have HB:=n2_;have HO:=n3_;clear n0_ n1_ n2_ n3_;clear ho hg2;have HPI:=y0.mk hp;have HSI:=y0.mk hs;clear hp hs;have HFIN:=y0.mk (sorted_comp HI0.out HI1.out HPI.out HSI.out (by simpa using HD.out) (finM HZ.out HL.out HI0.out HI1.out));rw [HFIN.out]at HO;have hcp_0:w16.cell? ⟨go,0,none⟩=some (.int .i64 a0_0):=(y7 BKo.out 0).trans rfl;have hcp_1:w16.cell? ⟨go,1,none⟩=some (.int .i64 a1_1):=(y7 BKo.out 1).trans rfl;have hcp_2:w16.cell? ⟨go,2,none⟩=some (.slice A9 d.length c9):=(y7 BKo.out 2).trans rfl;have hfp_0:=y11 BKo.out 0;have hfp_1:=y11 BKo.out 1;have hfp_2:=y11 BKo.out 2;have hcr_0:w16.cell? ⟨gr,0,none⟩=some (.int .i64 0):=(y7 BKr.out 0).trans rfl;have hcr_1:w16.cell? ⟨gr,1,none⟩=some (.int .i64 0):=(y7 BKr.out 1).trans rfl;have hcr_2:w16.cell? ⟨gr,2,none⟩=some (.slice none 0 0):=(y7 BKr.out 2).trans rfl;have hfr_0:=y11 BKr.out 0;have hfr_1:=y11 BKr.out 1;have hfr_2:=y11 BKr.out 2))
     refine bodyPost_ret (results_cell_row rfl _ _ gr 28 #[.int .i64 a0_0,.int .i64 a1_1,.slice A9 d.length c9] (0,0) _ rfl (by(with_reducible repeat(first|refine y9 ?_ _|refine y8 ?_|refine y5 ?_ _));refine blk_put (cs:=#[.int .i64 a0_0,.int .i64 a1_1,.slice none 0 0]) ?_ 2 _ rfl;(with_reducible repeat(first|refine y9 ?_ _|refine y8 ?_|refine y5 ?_ _));refine blk_put (cs:=#[.int .i64 a0_0,.int .i64 0,.slice none 0 0]) ?_ 1 _ rfl;(with_reducible repeat(first|refine y9 ?_ _|refine y8 ?_|refine y5 ?_ _));refine blk_put (cs:=#[.int .i64 0,.int .i64 0,.slice none 0 0]) ?_ 0 _ rfl;(with_reducible repeat(first|refine y9 ?_ _|refine y8 ?_|refine y5 ?_ _));exact BKr.out) Try.underlying28 rfl (by kernel_rfl)) rfl ?_
     exact⟨_,rfl,endR HO.out BKr.out,(by repeat(first|(with_reducible first|exact HB.out|apply y1|apply y13|apply y2|refine y3 ?_ GEa.out|refine y3 ?_ GEb.out|refine y3 ?_ GEr.out|refine y3 ?_ GEm.out|refine y3 ?_ GEo.out)|exact HB.out))⟩
    ·skip
     unfold QMapA.key at hrun hen
     clear hPR
     have HGp:=y0.mk hG
     have HFp:=y0.mk hF
     have HLT:=y0.mk hlt
     clear hG hF hlt hk hsz
     obtain⟨om3,or2,hom,hor,hPo⟩:=PR.o hPR2
     have hom2:=blk_grown BKm.out hg (fun e=>NBm_i.out (by injection e))
     have homE:om3=om2:=Option.some.inj (hom.symm.trans hom2)
     rw [homE]at hPo
     clear hom homE hPR2
     have HEN:=y0.mk hen
     clear hen
     have n0_:=y0.mk (blk_grown BKr.out hg (fun e=>NBr_i.out (by injection e)))
     have n1_:=y0.mk (blk_grown BKo.out hg (fun e=>NBo_i.out (by injection e)))
     have n2_:=y0.mk (R_iter HO.out hg BKi.out (PRo.not2 HP.out))
     have n3_:=y0.mk (hPo)
     have n4_:=y0.mk (hom2)
     have n5_:=y0.mk (hor)
     have n6_:=y0.mk (below_grown0 HB.out hg (fun k hk=>by injection hk with hk;rw [← hk];exact GEi.out))
     (try clear BKr)
     (try clear BKo)
     (try clear HO)
     (try clear HP)
     (try clear BKm)
     (try clear BKi)
     (try clear HB)
     have BKr:=n0_
     have BKo:=n1_
     have HO:=n2_
     have HP:=n3_
     have BKm:=n4_
     have BKi:=n5_
     have HB:=n6_
     clear n0_ n1_ n2_ n3_ n4_ n5_ n6_
     clear hg hom2 hor hPo
     go_upto_region 17 with(first
       | ((with_reducible refine y12 (N:=61) rfl ?_);refine next_run rfl (.tmp 60) rfl rfl rfl hrun ?_;clear hrun)
       | ((with_reducible refine y12 (N:=63) rfl ?_);refine entry_run rfl (.tmp 60) rfl rfl HEN.out ?_)
       | ((with_reducible refine y12 (N:=12) rfl ?_);refine box_event ?hg (N:=12) ?hd (cs:=#[.int .i64 0,.int .i64 0]) (t:=67) ?hr ?_;(case hd=>rfl);(case hg=>rfl);(case hr=>first|(go_simp;done)|(go_simp;rfl));intro gk hg w17 hbox hb;have n0_:=y0.mk (y6 (g:=gr) (o:=(.cells #[.int .i64 0,.int .i64 0,.slice none 0 0] 28 (0,0))) (by(with_reducible repeat(first|refine y9 ?_ _|refine y8 ?_|refine y5 ?_ _));exact BKr.out) hb);have n1_:=y0.mk (y6 (g:=go) (o:=(.cells #[.int .i64 a0_0,.int .i64 a1_1,u] 28 (0,0))) (by(with_reducible repeat(first|refine y9 ?_ _|refine y8 ?_|refine y5 ?_ _));exact BKo.out) hb);have n2_:=y0.mk (y6 (g:=gm) (o:=om2) (by(with_reducible repeat(first|refine y9 ?_ _|refine y8 ?_|refine y5 ?_ _));exact BKm.out) hb);have n3_:=y0.mk (y6 (g:=gi) (o:=or2) (by(with_reducible repeat(first|refine y9 ?_ _|refine y8 ?_|refine y5 ?_ _));exact BKi.out) hb);have n4_:=y0.mk ((by rw [hg];exact Nat.ne_of_lt (blk_lt (g:=gr) (o:=(.cells #[.int .i64 0,.int .i64 0,.slice none 0 0] 28 (0,0))) (by(with_reducible repeat(first|refine y9 ?_ _|refine y8 ?_|refine y5 ?_ _));exact BKr.out)):gr≠gk));have n5_:=y0.mk ((by rw [hg];exact Nat.ne_of_lt (blk_lt (g:=go) (o:=(.cells #[.int .i64 a0_0,.int .i64 a1_1,u] 28 (0,0))) (by(with_reducible repeat(first|refine y9 ?_ _|refine y8 ?_|refine y5 ?_ _));exact BKo.out)):go≠gk));have n6_:=y0.mk ((by rw [hg];exact Nat.ne_of_lt (blk_lt (g:=gm) (o:=om2) (by(with_reducible repeat(first|refine y9 ?_ _|refine y8 ?_|refine y5 ?_ _));exact BKm.out)):gm≠gk));have n7_:=y0.mk ((by rw [hg];exact Nat.ne_of_lt (blk_lt (g:=gi) (o:=or2) (by(with_reducible repeat(first|refine y9 ?_ _|refine y8 ?_|refine y5 ?_ _));exact BKi.out)):gi≠gk));have n8_:=y0.mk (hbox);have n9_:=y0.mk ((by rw [hg];exact(below_size (by repeat(first|(with_reducible first|exact HB.out|apply y1|apply y13|apply y2|refine y3 ?_ GEr.out|refine y3 ?_ GEm.out|refine y3 ?_ GEo.out|refine y3 ?_ GEi.out)|exact HB.out))):w.heap.size≤gk));have n10_:=y0.mk (y4 (by repeat(first|(with_reducible first|exact HB.out|apply y1|apply y13|apply y2|refine y3 ?_ GEr.out|refine y3 ?_ GEm.out|refine y3 ?_ GEo.out|refine y3 ?_ GEi.out)|exact HB.out)) hb);(try clear BKr);(try clear BKo);(try clear BKm);(try clear BKi);(try clear NBr_k);(try clear NBo_k);(try clear NBm_k);(try clear NBi_k);(try clear BKk);(try clear GEk);(try clear HB);have BKr:=n0_;have BKo:=n1_;have BKm:=n2_;have BKi:=n3_;have NBr_k:=n4_;have NBo_k:=n5_;have NBm_k:=n6_;have NBi_k:=n7_;have BKk:=n8_;have GEk:=n9_;have HB:=n10_;clear n0_ n1_ n2_ n3_ n4_ n5_ n6_ n7_ n8_ n9_ n10_;have n9_:=y0.mk (Kd.R_below HO.out hb);clear HO;have HO:=n9_;clear n9_;clear hb hbox hg;have hck_0:w17.cell? ⟨gk,0,none⟩=some (.int .i64 0):=(y7 BKk.out 0).trans rfl;have hck_1:w17.cell? ⟨gk,1,none⟩=some (.int .i64 0):=(y7 BKk.out 1).trans rfl;have hfk_0:=y11 BKk.out 0;have hfk_1:=y11 BKk.out 1))
     have nO_:y0 (Kd.R k53 53 ((w17.setCell ⟨gk,0,none⟩ (.int .i64 p)).setCell ⟨gk,1,none⟩ (.int .i64 q)) w.heap.size (fun _=>True) u d):=⟨Kd.R_set (Kd.R_set HO.out BKk.out (by decide) 0 _) (blk_put (cs:=#[.int .i64 0,.int .i64 0]) BKk.out 0 (.int .i64 p) rfl) (by decide) 1 _⟩
     clear HO
     have HO:=nO_
     clear nO_
     have n0_:=y0.mk (by(with_reducible repeat(first|refine y9 ?_ _|refine y8 ?_|refine y5 ?_ _));refine y10 ?_ NBr_k.out _;(with_reducible repeat(first|refine y9 ?_ _|refine y8 ?_|refine y5 ?_ _));refine y10 ?_ NBr_k.out _;(with_reducible repeat(first|refine y9 ?_ _|refine y8 ?_|refine y5 ?_ _));exact BKr.out:((w17.setCell ⟨gk,0,none⟩ (.int .i64 p)).setCell ⟨gk,1,none⟩ (.int .i64 q)).heap[gr]?=some (.cells #[.int .i64 0,.int .i64 0,.slice none 0 0] 28 (0,0)))
     have n1_:=y0.mk (by(with_reducible repeat(first|refine y9 ?_ _|refine y8 ?_|refine y5 ?_ _));refine y10 ?_ NBo_k.out _;(with_reducible repeat(first|refine y9 ?_ _|refine y8 ?_|refine y5 ?_ _));refine y10 ?_ NBo_k.out _;(with_reducible repeat(first|refine y9 ?_ _|refine y8 ?_|refine y5 ?_ _));exact BKo.out:((w17.setCell ⟨gk,0,none⟩ (.int .i64 p)).setCell ⟨gk,1,none⟩ (.int .i64 q)).heap[go]?=some (.cells #[.int .i64 a0_0,.int .i64 a1_1,u] 28 (0,0)))
     have n2_:=y0.mk (by(with_reducible repeat(first|refine y9 ?_ _|refine y8 ?_|refine y5 ?_ _));refine y10 ?_ NBm_k.out _;(with_reducible repeat(first|refine y9 ?_ _|refine y8 ?_|refine y5 ?_ _));refine y10 ?_ NBm_k.out _;(with_reducible repeat(first|refine y9 ?_ _|refine y8 ?_|refine y5 ?_ _));exact BKm.out:((w17.setCell ⟨gk,0,none⟩ (.int .i64 p)).setCell ⟨gk,1,none⟩ (.int .i64 q)).heap[gm]?=some om2)
     have n3_:=y0.mk (by(with_reducible repeat(first|refine y9 ?_ _|refine y8 ?_|refine y5 ?_ _));refine y10 ?_ NBi_k.out _;(with_reducible repeat(first|refine y9 ?_ _|refine y8 ?_|refine y5 ?_ _));refine y10 ?_ NBi_k.out _;(with_reducible repeat(first|refine y9 ?_ _|refine y8 ?_|refine y5 ?_ _));exact BKi.out:((w17.setCell ⟨gk,0,none⟩ (.int .i64 p)).setCell ⟨gk,1,none⟩ (.int .i64 q)).heap[gi]?=some or2)
     have n4_:=y0.mk (by(with_reducible repeat(first|refine y9 ?_ _|refine y8 ?_|refine y5 ?_ _));refine blk_put (cs:=#[.int .i64 p,.int .i64 0]) ?_ 1 _ rfl;(with_reducible repeat(first|refine y9 ?_ _|refine y8 ?_|refine y5 ?_ _));refine blk_put (cs:=#[.int .i64 0,.int .i64 0]) ?_ 0 _ rfl;(with_reducible repeat(first|refine y9 ?_ _|refine y8 ?_|refine y5 ?_ _));exact BKk.out:((w17.setCell ⟨gk,0,none⟩ (.int .i64 p)).setCell ⟨gk,1,none⟩ (.int .i64 q)).heap[gk]?=some (.cells #[.int .i64 p,.int .i64 q] 67 (0,0)))
     have n5_:=y0.mk ((by repeat(first|(with_reducible first|exact HB.out|apply y1|apply y13|apply y2|refine y3 ?_ GEr.out|refine y3 ?_ GEm.out|refine y3 ?_ GEo.out|refine y3 ?_ GEi.out|refine y3 ?_ GEk.out)|exact HB.out)):Below w.heap.size w ((w17.setCell ⟨gk,0,none⟩ (.int .i64 p)).setCell ⟨gk,1,none⟩ (.int .i64 q)))
     (try clear BKr)
     (try clear BKo)
     (try clear BKm)
     (try clear BKi)
     (try clear BKk)
     (try clear HB)
     generalize ((w17.setCell ⟨gk,0,none⟩ (.int .i64 p)).setCell ⟨gk,1,none⟩ (.int .i64 q))=w18 at HO n0_ n1_ n2_ n3_ n4_ n5_ ⊢
     have BKr:=n0_
     have BKo:=n1_
     have BKm:=n2_
     have BKi:=n3_
     have BKk:=n4_
     have HB:=n5_
     clear n0_ n1_ n2_ n3_ n4_ n5_
     try clear hck_0
     try clear hfk_0
     try clear hck_1
     try clear hfk_1
     have hco_0:w18.cell? ⟨go,0,none⟩=some (.int .i64 a0_0):=(y7 BKo.out 0).trans rfl
     have hco_1:w18.cell? ⟨go,1,none⟩=some (.int .i64 a1_1):=(y7 BKo.out 1).trans rfl
     have hco_2:w18.cell? ⟨go,2,none⟩=some (u):=(y7 BKo.out 2).trans rfl
     have hfo_0:=y11 BKo.out 0
     have hfo_1:=y11 BKo.out 1
     have hfo_2:=y11 BKo.out 2
     have hck_0:w18.cell? ⟨gk,0,none⟩=some (.int .i64 p):=(y7 BKk.out 0).trans rfl
     have hck_1:w18.cell? ⟨gk,1,none⟩=some (.int .i64 q):=(y7 BKk.out 1).trans rfl
     have hfk_0:=y11 BKk.out 0
     have hfk_1:=y11 BKk.out 1
     go_wp2_with (first
       | ((with_reducible refine gate_builtin (b:=.append) (xs:=#[.tmp 67,.tmp 74]) rfl ?_);at_builtin;refine Kd.R_append k53 (w0:=w) w.heap.size rfl (.tmp 67) (.tmp 74) 26 53 (.agg #[(.int .i64 0),(.int .i64 0),(.bool false)]) 24 rfl Try.underlying26 info53 rfl (by decide) (by omega) u d (⟨p,q,b⟩:S53) [.int .i64 p,.int .i64 q,.bool b] (fun _=>True) (fun _=>False) rfl rfl ?aP (fun _ hk=>hk.elim) ?aF ?aO ?aB ?aS ?aL ?_;(case aP=>exact k53_mkM _ _ _ (⟨p,q,b⟩:S53));(case aB=>exact(by repeat(first|(with_reducible first|exact HB.out|apply y1|apply y13|apply y2|refine y3 ?_ GEr.out|refine y3 ?_ GEm.out|refine y3 ?_ GEo.out|refine y3 ?_ GEi.out|refine y3 ?_ GEk.out)|exact HB.out)));(case aF=>exact(fun _ _=>trivial));(case aO=>exact(by(with_reducible repeat(first|apply Kd.R_alloc|apply Kd.R_drewN|apply Kd.R_drew));exact HO.out));(case aS=>exact(below_size (by repeat(first|(with_reducible first|exact HB.out|apply y1|apply y13|apply y2|refine y3 ?_ GEr.out|refine y3 ?_ GEm.out|refine y3 ?_ GEo.out|refine y3 ?_ GEi.out|refine y3 ?_ GEk.out)|exact HB.out))));(case aL=>have:=lenN HLN.out HN0.out HN1.out;omega);intro v2 w19 ho hb hg hat;have n0_:=y0.mk (blk_grown BKr.out hg (Kd.R_ne HO.out BKr.out (by decide)));have n1_:=y0.mk (blk_grown BKo.out hg (Kd.R_ne HO.out BKo.out (by decide)));have n2_:=y0.mk (blk_grown BKm.out hg (row_ne HO.out BKm.out (PRo.not1 HP.out)));have n3_:=y0.mk (blk_grown BKi.out hg (row_ne HO.out BKi.out (PRo.not2 HP.out)));have n4_:=y0.mk (hb);have n5_:=y0.mk (ho);(try clear BKr);(try clear BKo);(try clear BKm);(try clear BKi);(try clear HB);(try clear HO);have BKr:=n0_;have BKo:=n1_;have BKm:=n2_;have BKi:=n3_;have HB:=n4_;have HO:=n5_;clear n0_ n1_ n2_ n3_ n4_ n5_;clear ho hb hg hat;obtain⟨A9,c9,eo9⟩:=Kd.R_slice HO.out;subst eo9;have hcp_0:w19.cell? ⟨go,0,none⟩=some (.int .i64 a0_0):=(y7 BKo.out 0).trans rfl;have hcp_1:w19.cell? ⟨go,1,none⟩=some (.int .i64 a1_1):=(y7 BKo.out 1).trans rfl;have hcp_2:w19.cell? ⟨go,2,none⟩=some (u):=(y7 BKo.out 2).trans rfl;have hfp_0:=y11 BKo.out 0;have hfp_1:=y11 BKo.out 1;have hfp_2:=y11 BKo.out 2))
     have HO2:y0 (Kd.R k53 53 w19 w.heap.size (fun _=>True) (.slice A9 (d.length + 1) c9) (d ++ [(⟨p,q,b⟩:S53)])):=⟨by have h:=HO.out;rw [List.length_append,List.length_singleton]at h;exact h⟩
     go_roundg (cnt2 + 1)
     case measure=>have:=HK3.out;have:=HLT.out;omega
     case rel=>exact⟨cnt2,_,or2,_,_,⟨rfl⟩,⟨HP.out⟩,⟨(by rw [List.length_append];have:=HLN.out;have:=HLT.out;simp only [List.length_singleton];omega)⟩,⟨stepD HD.out HZ.out HFp.out HGp.out⟩,⟨stepM HZ.out HFp.out HGp.out⟩,⟨Kd.R_set HO2.out BKo.out (by decide) 2 _⟩,⟨(by(with_reducible repeat(first|refine y9 ?_ _|refine y8 ?_|refine y5 ?_ _));refine y10 ?_ NBr_o.out _;exact BKr.out)⟩,⟨(by(with_reducible repeat(first|refine y9 ?_ _|refine y8 ?_|refine y5 ?_ _));refine blk_put (cs:=#[.int .i64 a0_0,.int .i64 a1_1,u]) ?_ 2 _ rfl;exact BKo.out)⟩,⟨(by(with_reducible repeat(first|refine y9 ?_ _|refine y8 ?_|refine y5 ?_ _));refine y10 ?_ NBm_o.out _;exact BKm.out)⟩,⟨(by(with_reducible repeat(first|refine y9 ?_ _|refine y8 ?_|refine y5 ?_ _));refine y10 ?_ (Ne.symm NBo_i.out) _;exact BKi.out)⟩,⟨(by repeat(first|(with_reducible first|exact HB.out|apply y1|apply y13|apply y2|refine y3 ?_ GEr.out|refine y3 ?_ GEm.out|refine y3 ?_ GEo.out|refine y3 ?_ GEi.out|refine y3 ?_ GEk.out)|exact HB.out))⟩⟩
end Go.Proofs.Ytcckpjflbfofjaa.Pd
