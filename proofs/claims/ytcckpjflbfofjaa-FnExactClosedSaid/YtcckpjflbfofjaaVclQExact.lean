-- Cut by prune.py, a program of this session, out of the texts of this claim: Lean checks it.
import Derived.Test.YtcckpjflbfofjaaVclPdx0
import Derived.Test.YtcckpjflbfofjaaVclPdx4
import Derived.Sort.Grow
import Derived.Shelf.SlSortCmp.NoneTotal
namespace Go.Proofs.Ytcckpjflbfofjaa.Pd
open Go.RowKit Go.Proofs.YtcckpjflbfofjaaW.PrintWords Go.Proofs.YtcckpjflbfofjaaW.PrintLast Go.Proofs.YtcckpjflbfofjaaW.PrintMore
attribute [local go_sem] max2_int min2_int max_two min_two max_three min_three max_four min_four   -- for this text's walks alone
set_option linter.unusedVariables false
set_option linter.unusedSimpArgs false
open Go.Sort Go.Shelf Go.Lib
/-- Behind w: draws, and new blocks. -/
def Ex (w W:World):Prop:=∃ q os',W=grow (w.drewN q) os'
theorem Ex.refl (w:World):Ex w w:=⟨0,#[],by simp [grow,World.drewN]⟩
theorem Ex.alloc {w W:World} (h:Ex w W) (o:Obj):Ex w (W.alloc o):=by
 obtain⟨q,os,rfl⟩:=h
 exact⟨q,os ++ #[o],by rw [alloc_eq_grow,grow_grow]⟩
theorem Ex.drew {w W:World} (h:Ex w W):Ex w W.drew:=by
 obtain⟨q,os,rfl⟩:=h
 exact⟨q + 1,os,rfl⟩
theorem Ex.drewN {w W:World} (h:Ex w W) (m:Nat):Ex w (W.drewN m):=by
 obtain⟨q,os,rfl⟩:=h
 exact⟨q + m,os,by simp [grow,World.drewN,Nat.add_assoc]⟩
section
variable {P : Program} {ops : Array Oper} {rest : List Oper} {o : Oper} {a : Act} {Q : Exit → Act → World → Prop}
theorem box_exact {W:World} (hgd:o.guard=none) {N:Tmp} (_hd:o.dst=some N) {cs:Array Value} {t:TypeId}
  (hrun:(execOp a.eval o).run P W=.ok (.value (.pointer (some ⟨W.heap.size,0,none⟩))) (W.alloc (.cells cs t (0,0))))
  (h:∀ g,g=W.heap.size→∀ w1,w1.heap[g]?=some (.cells cs t (0,0))→Below W.heap.size W w1→w1=W.alloc (.cells cs t (0,0))→wpList P ops Q rest (a.put o.dst (.pointer (some ⟨g,0,none⟩))) w1):wpList P ops Q (o :: rest) a W :=
 Kd.event_run hgd hrun (h _ rfl _ (blk_new W _) (y1 (Below.refl _ _) _) rfl)
end
section
variable {P : Program} {ops : Array Oper} {o : Oper} {a : Act} {Q : Exit → Act → World → Prop} {Kc : Act → World → Prop}
theorem R_lit_exact {α:Type} (d:Kd α) {w0 W:World} (base e:Nat) (hw:Region.wanted o (yielded ops a.tmps)=true) {N:Tmp} (hd:o.dst=some N) {xs:List α} {inner:List Value} {ok okp:Nat→Prop}
  (hrun:(execOp a.eval o).run P W=.ok (.value (.slice (some ⟨W.heap.size,0,none⟩) xs.length xs.length)) (W.alloc (.cells inner.toArray e)))
  (hrep:Reps (d.M W base okp) d.sz xs inner) (hok:∀ k,okp k→ok k) (hfresh:ok W.heap.size) (HB:Below base w0 W) (hbase:base≤W.heap.size) (hm:xs.length≤9223372036854775807)
  (h:∀ v1 w1,d.R e w1 base ok v1 xs→Below base w0 w1→W.grownBy w1 none→(∃ b,v1.ownBlock=some b∧W.heap.size≤b)→w1=W.alloc (.cells inner.toArray e)→Kc (a.put o.dst v1) w1):if Region.wanted o (yielded ops a.tmps)=true then Oper.wp P o a W Kc Q else Kc (a.put o.dst undef) W:=by
 have key:=Kd.R_lit_step (P:=P) (ops:=ops) (o:=o) (a:=a) (Q:=Q) (Kc:=fun a1 w1=>w1=W.alloc (.cells inner.toArray e)→Kc a1 w1) d base e hw hd hrun hrep hok hfresh HB hbase hm (fun v1 w1 h1 h2 h3 h4 h5=>h v1 w1 h1 h2 h3 h4 h5)
 rw [if_pos hw]at key ⊢
 unfold Oper.wp at key ⊢
 rw [hrun]at key ⊢
 exact key rfl
end
set_option maxHeartbeats 8000000 in
set_option maxRecDepth 100000 in
theorem impl_compareArcs.exact (k:Nat) (a0_0:Int) (a0_1:Int) (a0_2:Bool) (a1_0:Int) (a1_1:Int) (a1_2:Bool) (r:Int) (w:World) (h:impl_compareArcs.f k a0_0 a0_1 a0_2 a1_0 a1_1 a1_2=some r) :
  Calls Try.prog 43 #[.agg #[.int .i64 a0_0,.int .i64 a0_1,.bool a0_2],.agg #[.int .i64 a1_0,.int .i64 a1_1,.bool a1_2]] w fun e w'=>e=.returned (.int .i64 r)∧Ex w w':=by
 have hu53:=Try.underlying53
 have HB:=y0.mk (Below.refl w.heap.size w)
 have HX:=y0.mk (Ex.refl w)
 have H:((cmp_Compare_int.f a0_0 a1_0).bind fun t172=>((cmp_Compare_int.f a0_1 a1_1).bind fun t173=>((cmp_Or_int.f k (([t172,t173]:List Int))).bind fun t177=>(some t177))))=some r:=h
 clear h
 replace H:=Option.bind_eq_some_iff.mp H
 obtain⟨t172,A30,H⟩:=H
 replace H:((cmp_Compare_int.f a0_1 a1_1).bind fun t173=>((cmp_Or_int.f k (([t172,t173]:List Int))).bind fun t177=>(some t177)))=some r:=H
 have A3:=y0.mk A30
 clear A30
 replace H:=Option.bind_eq_some_iff.mp H
 obtain⟨t173,A40,H⟩:=H
 replace H:((cmp_Or_int.f k (([t172,t173]:List Int))).bind fun t177=>(some t177))=some r:=H
 have A4:=y0.mk A40
 clear A40
 obtain⟨y174,hy174⟩:∃ y_:List Int,y_=(([t172,t173]:List Int)):=⟨_,rfl⟩
 replace H:((cmp_Or_int.f k y174).bind fun t177=>(some t177))=some r:=by first|(rw [hy174];with_reducible exact H)|(have H2_:=(Option.bind_some _ _).symm.trans H;rw [hy174];with_reducible exact H2_)|(have H2_:=(Option.bind_some _ _).symm.trans H;with_reducible exact H2_)|with_reducible exact H|(rw [hy174];exact H)|exact H
 have Ny174:=y0.mk hy174
 clear hy174
 replace H:=Option.bind_eq_some_iff.mp H
 obtain⟨t177,A50,H⟩:=H
 replace H:(some t177)=some r:=H
 have A5:=y0.mk A50
 clear A50
 obtain rfl:=Option.some.inj H
 go_enter Try.func43,Try.ntmps43
 try go_wp2_with (first|((with_reducible refine y12 (N:=2) rfl ?_);refine box_exact ?hg (N:=2) ?hd (cs:=#[.int .i64 a0_0,.int .i64 a0_1,.bool a0_2]) (t:=53) ?hr ?_;(case hd=>rfl);(case hg=>rfl);(case hr=>first|(go_simp;done)|(go_simp;rfl));intro gb170 hg w6 hbox hb hx;replace HX:=y0.mk (show Ex w w6 by rw [hx];exact(by repeat(first|exact HX.out|apply Ex.alloc|apply Ex.drewN|apply Ex.drew)));clear hx;have n0_:=y0.mk (y4 (by repeat(first|(with_reducible first|exact HB.out|apply y1|apply y13|apply y2)|exact HB.out)) hb);have n1_:=y0.mk (hbox);have n2_:=y0.mk ((by rw [hg];exact(below_size (by repeat(first|(with_reducible first|exact HB.out|apply y1|apply y13|apply y2)|exact HB.out))):w.heap.size≤gb170));have n3_:=y0.mk ((by rw [hg];exact(below_size (by repeat(first|(with_reducible first|exact HB.out|apply y1|apply y13|apply y2)|exact HB.out))):w.heap.size≤gb170));clear HB;have HB:=n0_;have BK170:=n1_;have GW170:=n2_;have GE170:=n3_;clear n0_ n1_ n2_ n3_;clear hb hbox hg)|((with_reducible refine y12 (N:=3) rfl ?_);refine box_exact ?hg (N:=3) ?hd (cs:=#[.int .i64 a1_0,.int .i64 a1_1,.bool a1_2]) (t:=53) ?hr ?_;(case hd=>rfl);(case hg=>rfl);(case hr=>first|(go_simp;done)|(go_simp;rfl));intro gb171 hg w7 hbox hb hx;replace HX:=y0.mk (show Ex w w7 by rw [hx];exact(by repeat(first|exact HX.out|apply Ex.alloc|apply Ex.drewN|apply Ex.drew)));clear hx;have n0_:=y0.mk (y6 (g:=gb170) (o:=.cells #[.int .i64 a0_0,.int .i64 a0_1,.bool a0_2] 53 (0,0)) (by(with_reducible repeat(first|refine y9 ?_ _|refine y8 ?_|refine y5 ?_ _));exact BK170.out) hb);have n1_:=y0.mk (y4 (by repeat(first|(with_reducible first|exact HB.out|apply y1|apply y13|apply y2|refine y3 ?_ GE170.out)|exact HB.out)) hb);have n2_:=y0.mk (hbox);have n3_:=y0.mk ((by rw [hg];exact(below_size (by repeat(first|(with_reducible first|exact HB.out|apply y1|apply y13|apply y2|refine y3 ?_ GE170.out)|exact HB.out))):w.heap.size≤gb171));have n4_:=y0.mk ((by rw [hg];exact(below_size (by repeat(first|(with_reducible first|exact HB.out|apply y1|apply y13|apply y2|refine y3 ?_ GE170.out)|exact HB.out))):w.heap.size≤gb171));have n5_:=y0.mk ((by rw [hg];exact Nat.ne_of_lt (blk_lt (g:=gb170) (o:=.cells #[.int .i64 a0_0,.int .i64 a0_1,.bool a0_2] 53 (0,0)) (by(with_reducible repeat(first|refine y9 ?_ _|refine y8 ?_|refine y5 ?_ _));exact BK170.out)):gb170≠gb171));have n6_:=y0.mk ((by rw [hg];exact Nat.ne_of_gt (blk_lt (g:=gb170) (o:=.cells #[.int .i64 a0_0,.int .i64 a0_1,.bool a0_2] 53 (0,0)) (by(with_reducible repeat(first|refine y9 ?_ _|refine y8 ?_|refine y5 ?_ _));exact BK170.out)):gb171≠gb170));clear BK170;clear HB;have BK170:=n0_;have HB:=n1_;have BK171:=n2_;have GW171:=n3_;have GE171:=n4_;have NB170_171:=n5_;have NB171_170:=n6_;clear n0_ n1_ n2_ n3_ n4_ n5_ n6_;clear hb hbox hg))
 have n0_:=y0.mk (y8 BK170.out)
 have n1_:=y0.mk (y8 BK171.out)
 have n2_:=y0.mk (y2 HB.out)
 clear BK170
 clear BK171
 clear HB
 have BK170:=n0_
 have BK171:=n1_
 have HB:=n2_
 clear n0_ n1_ n2_
 replace HX:=y0.mk (Ex.drew HX.out)
 refine start_ (n:=13) (S:=fun w'=>w'.cell? ⟨gb170,0,none⟩=some (.int .i64 a0_0)∧w'.cell? ⟨gb170,1,none⟩=some (.int .i64 a0_1)∧w'.cell? ⟨gb170,2,none⟩=some (.bool a0_2)∧w'.cell? ⟨gb171,0,none⟩=some (.int .i64 a1_0)∧w'.cell? ⟨gb171,1,none⟩=some (.int .i64 a1_1)∧w'.cell? ⟨gb171,2,none⟩=some (.bool a1_2)) (ds:=[]) #[false,false,false,false,false,false,false,false,false,false,false,false,false] (by kernel_rfl) rfl rfl ⟨(y7 BK170.out 0).trans rfl,(y7 BK170.out 1).trans rfl,(y7 BK170.out 2).trans rfl,(y7 BK171.out 0).trans rfl,(y7 BK171.out 1).trans rfl,(y7 BK171.out 2).trans rfl⟩ (fun hHeld=>?_);refine with_tabW impl_compareArcs.tab1 impl_compareArcs.bits1 (fun HT_ HW_=>?_)
 generalize w7.drew=w8 at HX BK170 BK171 HB hHeld ⊢
 refine pure_ (i:=0) (N:=some 5) (v:=?_) (a':=?_) #[true,false,false,false,false,false,false,false,false,false,false,false,false] rfl rfl (any_of HT_.out (by kernel_rfl)) (fun _ _ _ h=>h) (Or.inl ⟨by rfl, ?_⟩) ?_ ?_
 rotate_left
 ·intro w'
  go_simp
  with_reducible rfl
 rotate_left
 ·simp only [Act.put,List.setIfInBounds_toArray,List.set_cons_zero,List.set_cons_succ,i64_w,i32_w]
  rfl
 refine pure_ (i:=2) (N:=some 7) (v:=?_) (a':=?_) #[true,false,true,false,false,false,false,false,false,false,false,false,false] rfl rfl (any_of HT_.out (by kernel_rfl)) (fun _ _ _ h=>h) (Or.inl ⟨by rfl, ?_⟩) ?_ ?_
 rotate_left
 ·intro w'
  go_simp
  with_reducible rfl
 rotate_left
 ·simp only [Act.put,List.setIfInBounds_toArray,List.set_cons_zero,List.set_cons_succ,i64_w,i32_w]
  rfl
 refine pure_ (i:=5) (N:=some 10) (v:=?_) (a':=?_) #[true,false,true,false,false,true,false,false,false,false,false,false,false] rfl rfl (any_of HT_.out (by kernel_rfl)) (fun _ _ _ h=>h) (Or.inl ⟨by rfl, ?_⟩) ?_ ?_
 rotate_left
 ·intro w'
  go_simp
  with_reducible rfl
 rotate_left
 ·simp only [Act.put,List.setIfInBounds_toArray,List.set_cons_zero,List.set_cons_succ,i64_w,i32_w]
  rfl
 refine pure_ (i:=7) (N:=some 12) (v:=?_) (a':=?_) #[true,false,true,false,false,true,false,true,false,false,false,false,false] rfl rfl (any_of HT_.out (by kernel_rfl)) (fun _ _ _ h=>h) (Or.inl ⟨by rfl, ?_⟩) ?_ ?_
 rotate_left
 ·intro w'
  go_simp
  with_reducible rfl
 rotate_left
 ·simp only [Act.put,List.setIfInBounds_toArray,List.set_cons_zero,List.set_cons_succ,i64_w,i32_w]
  rfl
 refine take_ (i:=1) (N:=some 6) (v:=?_) (a':=?_) #[true,true,true,false,false,true,false,true,false,false,false,false,false] rfl rfl (take_ofW HT_.out HW_.out (by kernel_rfl)) (fun _ _ _ h=>h) (Or.inl ⟨by rfl, ?_⟩) hHeld ?_ ?_
 rotate_left
 ·rintro w' ⟨s0,s1,s2,s3,s4,s5⟩
  go_simp
  with_reducible rfl
 rotate_left
 ·simp only [Act.put,List.setIfInBounds_toArray,List.set_cons_zero,List.set_cons_succ,i64_w,i32_w]
  rfl
 refine take_ (i:=3) (N:=some 8) (v:=?_) (a':=?_) #[true,true,true,true,false,true,false,true,false,false,false,false,false] rfl rfl (take_ofW HT_.out HW_.out (by kernel_rfl)) (fun _ _ _ h=>h) (Or.inl ⟨by rfl, ?_⟩) hHeld ?_ ?_
 rotate_left
 ·rintro w' ⟨s0,s1,s2,s3,s4,s5⟩
  go_simp
  with_reducible rfl
 rotate_left
 ·simp only [Act.put,List.setIfInBounds_toArray,List.set_cons_zero,List.set_cons_succ,i64_w,i32_w]
  rfl
 refine take_ (i:=6) (N:=some 11) (v:=?_) (a':=?_) #[true,true,true,true,false,true,true,true,false,false,false,false,false] rfl rfl (take_ofW HT_.out HW_.out (by kernel_rfl)) (fun _ _ _ h=>h) (Or.inl ⟨by rfl, ?_⟩) hHeld ?_ ?_
 rotate_left
 ·rintro w' ⟨s0,s1,s2,s3,s4,s5⟩
  go_simp
  with_reducible rfl
 rotate_left
 ·simp only [Act.put,List.setIfInBounds_toArray,List.set_cons_zero,List.set_cons_succ,i64_w,i32_w]
  rfl
 refine take_ (i:=8) (N:=some 13) (v:=?_) (a':=?_) #[true,true,true,true,false,true,true,true,true,false,false,false,false] rfl rfl (take_ofW HT_.out HW_.out (by kernel_rfl)) (fun _ _ _ h=>h) (Or.inl ⟨by rfl, ?_⟩) hHeld ?_ ?_
 rotate_left
 ·rintro w' ⟨s0,s1,s2,s3,s4,s5⟩
  go_simp
  with_reducible rfl
 rotate_left
 ·simp only [Act.put,List.setIfInBounds_toArray,List.set_cons_zero,List.set_cons_succ,i64_w,i32_w]
  rfl
 refine one_ (i:=4) (N:=some 9) #[true,true,true,true,true,true,true,true,true,false,false,false,false] rfl rfl (one_of HT_.out (by kernel_rfl)) (by decide) (fun K hK=>?_)
 refine goes_ Try.func56 (by kernel_rfl) rfl #[.int .i64 a0_0,.int .i64 a1_0] (by rfl) rfl rfl (by(try simp only [List.map_toArray,List.map_cons,List.map_nil]);first|done|rfl|(simp only [List.length_drop,List.length_take];rfl)) ?_
 with_reducible refine(cmp_Compare_int.calls a0_0 a1_0 t172 _ A3.out).mono ?_
 rintro e w' ⟨rfl,⟨nd,rfl⟩⟩
 refine⟨_,rfl, ?_⟩
 refine hK.out _ _ ⟨(y7 BK170.out 0).trans rfl,(y7 BK170.out 1).trans rfl,(y7 BK170.out 2).trans rfl,(y7 BK171.out 0).trans rfl,(y7 BK171.out 1).trans rfl,(y7 BK171.out 2).trans rfl⟩ (fun hHeld=>?_)
 clear hK K
 refine norm_ (a':=?_) ?_ ?_
 rotate_left
 ·show Act.put _ (some 9) _=_
  simp only [Act.put,List.setIfInBounds_toArray,List.set_cons_zero,List.set_cons_succ,i64_w,i32_w]
  rfl
 refine one_ (i:=9) (N:=some 14) #[true,true,true,true,true,true,true,true,true,true,false,false,false] rfl rfl (one_of HT_.out (by kernel_rfl)) (by decide) (fun K hK=>?_)
 refine goes_ Try.func56 (by kernel_rfl) rfl #[.int .i64 a0_1,.int .i64 a1_1] (by rfl) rfl rfl (by(try simp only [List.map_toArray,List.map_cons,List.map_nil]);first|done|rfl|(simp only [List.length_drop,List.length_take];rfl)) ?_
 with_reducible refine(cmp_Compare_int.calls a0_1 a1_1 t173 _ A4.out).mono ?_
 rintro e w' ⟨rfl,⟨nd,rfl⟩⟩
 refine⟨_,rfl, ?_⟩
 refine hK.out _ _ ⟨(y7 BK170.out 0).trans rfl,(y7 BK170.out 1).trans rfl,(y7 BK170.out 2).trans rfl,(y7 BK171.out 0).trans rfl,(y7 BK171.out 1).trans rfl,(y7 BK171.out 2).trans rfl⟩ (fun hHeld=>?_)
 clear hK K
 refine norm_ (a':=?_) ?_ ?_
 rotate_left
 ·show Act.put _ (some 14) _=_
  simp only [Act.put,List.setIfInBounds_toArray,List.set_cons_zero,List.set_cons_succ,i64_w,i32_w]
  rfl
 refine one_ (i:=10) (N:=some 15) #[true,true,true,true,true,true,true,true,true,true,true,false,false] rfl rfl (one_of HT_.out (by kernel_rfl)) (by decide) (fun K hK=>?_)
 refine R_lit_exact (Kd.int .i64) _ 3 ?hg (N:=15) ?hd (xs:=([t172,t173]:List Int)) (inner:=[.int .i64 t172,.int .i64 t173]) (ok:=fun _=>True) (okp:=fun _=>True) ?hr ?hp (fun _ hk=>hk) trivial (Below.refl _ _) (Nat.le_refl _) (by simp) ?_;(case hd=>rfl);(case hg=>rfl);(case hr=>first|(go_simp;done)|(go_simp;rfl));(case hp=>exact(Reps.one (show Kd.M (Kd.int .i64) _ _ _ t172 [.int .i64 t172]from rfl) (Reps.one (show Kd.M (Kd.int .i64) _ _ _ t173 [.int .i64 t173]from rfl) (Reps.none _ _))))
 intro v175 w9 ho10 hb hg_ hnew_ hx
 replace HX:=y0.mk (show Ex w w9 by rw [hx];exact(by repeat(first|exact HX.out|apply Ex.alloc|apply Ex.drewN|apply Ex.drew)))
 clear hx
 clear hg_ hnew_
 (first|rw [← Ny174.out]at ho10|(simp only [Int.reduceToNat]at ho10;rw [← Ny174.out]at ho10))
 have n0_:=y0.mk (Kd.R_lower ho10 (below_size (by repeat(first|(with_reducible first|exact HB.out|apply y1|apply y13|apply y2|refine y3 ?_ GE170.out|refine y3 ?_ GE171.out)|exact HB.out))))
 have n1_:=y0.mk (y6 (g:=gb170) (o:=.cells #[.int .i64 a0_0,.int .i64 a0_1,.bool a0_2] 53 (0,0)) (by(with_reducible repeat(first|refine y9 ?_ _|refine y8 ?_|refine y5 ?_ _));exact BK170.out) hb)
 have n2_:=y0.mk (y6 (g:=gb171) (o:=.cells #[.int .i64 a1_0,.int .i64 a1_1,.bool a1_2] 53 (0,0)) (by(with_reducible repeat(first|refine y9 ?_ _|refine y8 ?_|refine y5 ?_ _));exact BK171.out) hb)
 have n3_:=y0.mk (y4 (by repeat(first|(with_reducible first|exact HB.out|apply y1|apply y13|apply y2|refine y3 ?_ GE170.out|refine y3 ?_ GE171.out)|exact HB.out)) hb)
 clear BK170
 clear BK171
 clear HB
 have HO176:=n0_
 have BK170:=n1_
 have BK171:=n2_
 have HB:=n3_
 clear n0_ n1_ n2_ n3_
 clear hb ho10
 obtain⟨Ao11,co11,eo11⟩:=Kd.R_slice HO176.out
 (first|subst eo11|(injection eo11 with f1_ f2_ f3_;have f4_:=f1_.symm;have f5_:=f3_.symm;clear f1_ f2_ f3_;subst f4_;subst f5_))
 refine hK.out _ _ ⟨(y7 BK170.out 0).trans rfl,(y7 BK170.out 1).trans rfl,(y7 BK170.out 2).trans rfl,(y7 BK171.out 0).trans rfl,(y7 BK171.out 1).trans rfl,(y7 BK171.out 2).trans rfl⟩ (fun hHeld=>?_)
 clear hK K
 refine norm_ (a':=?_) ?_ ?_
 rotate_left
 ·show Act.put _ (some 15) _=_
  simp only [Act.put,List.setIfInBounds_toArray,List.set_cons_zero,List.set_cons_succ,i64_w,i32_w]
  rfl
 refine one_ (i:=11) (N:=some 16) #[true,true,true,true,true,true,true,true,true,true,true,true,false] rfl rfl (one_of HT_.out (by kernel_rfl)) (by decide) (fun K hK=>?_)
 refine goes_ Try.func55 (by kernel_rfl) rfl #[.slice Ao11 y174.length co11] (by rfl) rfl rfl (by(try simp only [List.map_toArray,List.map_cons,List.map_nil]);first|done|rfl|(simp only [List.length_drop,List.length_take];rfl)) ?_
 with_reducible refine(cmp_Or_int.calls k _ _ y174 t177 _ ?side1 ?side2 A5.out).mono ?_
 (case side1=>repeat(first|exact(Kd.R_reads' HO176.out).2.2|(with_reducible refine Kd.C_alloc ?_ _)|(with_reducible refine Kd.C_drewN ?_ _)|(with_reducible refine Kd.C_drew ?_)))
 (case side2=>exact(Kd.R_reads' HO176.out).2.1)
 rintro e w' ⟨rfl,⟨nd,rfl⟩⟩
 refine⟨_,rfl, ?_⟩
 refine hK.out _ _ ⟨(y7 BK170.out 0).trans rfl,(y7 BK170.out 1).trans rfl,(y7 BK170.out 2).trans rfl,(y7 BK171.out 0).trans rfl,(y7 BK171.out 1).trans rfl,(y7 BK171.out 2).trans rfl⟩ (fun hHeld=>?_)
 clear hK K
 refine norm_ (a':=?_) ?_ ?_
 rotate_left
 ·show Act.put _ (some 16) _=_
  simp only [Act.put,List.setIfInBounds_toArray,List.set_cons_zero,List.set_cons_succ,i64_w,i32_w]
  rfl
 refine pure_ (i:=12) (N:=some 4) (v:=?_) (a':=?_) #[true,true,true,true,true,true,true,true,true,true,true,true,true] rfl rfl (any_of HT_.out (by kernel_rfl)) (fun _ _ _ h=>h) (Or.inl ⟨by rfl, ?_⟩) ?_ ?_
 rotate_left
 ·intro w'
  go_simp
  with_reducible rfl
 rotate_left
 ·simp only [Act.put,List.setIfInBounds_toArray,List.set_cons_zero,List.set_cons_succ,i64_w,i32_w]
  rfl
 refine done_ (done_of HT_.out (by kernel_rfl)) ?_
 try go_wp2
 go_ret
 exact⟨by first|rfl|(simp [errW_none,errW_some] <;> rfl)|(simp [*,errW_none,errW_some] <;> rfl),(by repeat(first|exact HX.out|apply Ex.alloc|apply Ex.drewN|apply Ex.drew))⟩
end Go.Proofs.Ytcckpjflbfofjaa.Pd
