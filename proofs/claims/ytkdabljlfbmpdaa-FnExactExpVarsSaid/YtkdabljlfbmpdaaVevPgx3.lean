-- Cut by prune.py, a program of this session, out of the texts of this claim: Lean checks it.
import Derived.Test.YtkdabljlfbmpdaaVevPgx0
namespace Go.Proofs.Ytkdabljlfbmpdaa.Pg
open Go.RowKit Go.Proofs.YtkdabljlfbmpdaaW.PrintWords Go.Proofs.YtkdabljlfbmpdaaW.PrintLast Go.Proofs.YtkdabljlfbmpdaaW.PrintMore
attribute [local go_sem] max2_int min2_int max_two min_two max_three min_three max_four min_four   -- for this text's walks alone
set_option linter.unusedVariables false
set_option linter.unusedSimpArgs false
mutual
def z6_.l0:Nat→List Int→List ByteArray→Int→List (S63)→Int→ByteArray→List Int→List (S33)→Option (List ByteArray×Bool)
 | 0,_,_,_,_,_,_,_,_=>none
 | k + 1,x4,x5,x6,x170000,x170001,x170002,x170003,x170004=>if x6 < (x170000.length:Int)then(if 0≤x6 then(z6_.l1 k x4 x5 x6 0 x170000 x170001 x170002 x170003 x170004 ((y17 x170000 x6).f0) ((y17 x170000 x6).f1) ((y17 x170000 x6).f2))else(none))else((some (([(⟨x170001,x170002,x170003⟩:S33)]:List (S33)):List (S33))).bind fun y199=>(if y199.length + x170004.length < 2932031007402 then(z6_.l3 k x4 x5 (y199 ++ x170004) 0)else(none)))
def z6_.l1:Nat→List Int→List ByteArray→Int→Int→List (S63)→Int→ByteArray→List Int→List (S33)→Int→ByteArray→List Int→Option (List ByteArray×Bool)
 | 0,_,_,_,_,_,_,_,_,_,_,_,_=>none
 | k + 1,x4,x5,x6,x8,x170000,x170001,x170002,x170003,x170004,x181000,x181001,x181002=>if x8 < (x181002.length:Int)then(if 0≤x8 then((spec_l01Between.f (rd x181002 x8) 0 (wrap64 (x6 - 1))).bind fun t182=>(if t182=true then(if 0≤(rd x181002 x8)then(if(rd x181002 x8) < (x4.length:Int)then(z6_.l1 k (x4.set ((rd x181002 x8):Int).toNat (wrap64 ((rd x4 (rd x181002 x8)) + 1))) x5 x6 (wrap64 (x8 + 1)) x170000 x170001 x170002 x170003 x170004 x181000 x181001 x181002)else(none))else(none))else(some (x5,false))))else(none))else(if x181000=1 then(z6_.j2 k x4 x5 x6 x181000 (x181000 == 1) x170000 x170001 x170002 x170003 x170004 x181000 x181001 x181002)else(z6_.j2 k x4 x5 x6 x181000 (x181000 == 3) x170000 x170001 x170002 x170003 x170004 x181000 x181001 x181002))
def z6_.j5:Nat→List Int→List ByteArray→Int→ByteArray→List (S63)→Int→ByteArray→List Int→List (S33)→Int→ByteArray→List Int→Option (List ByteArray×Bool)
 | 0,_,_,_,_,_,_,_,_,_,_,_,_=>none
 | k + 1,x4,x5,x6,x9,x170000,x170001,x170002,x170003,x170004,x181000,x181001,x181002=>if x181000≤3 then(if(x181002.length:Int) > 0 then(z6_.j6 k x4 x5 x6 x9 true x170000 x170001 x170002 x170003 x170004)else(z6_.j6 k x4 x5 x6 x9 (decide ((x9.size:Int) > 3000)) x170000 x170001 x170002 x170003 x170004))else(z6_.j6 k x4 x5 x6 x9 (decide ((x9.size:Int) > 3000)) x170000 x170001 x170002 x170003 x170004)
def z6_.j6:Nat→List Int→List ByteArray→Int→ByteArray→Bool→List (S63)→Int→ByteArray→List Int→List (S33)→Option (List ByteArray×Bool)
 | 0,_,_,_,_,_,_,_,_,_,_=>none
 | k + 1,x4,x5,x6,x9,x156,x170000,x170001,x170002,x170003,x170004=>if x156=true then(some (x5,false))else(if 0≤x6 then(if x6 < (x5.length:Int)then(z6_.l0 k x4 (x5.set (x6:Int).toNat x9) (wrap64 (x6 + 1)) x170000 x170001 x170002 x170003 x170004)else(none))else(none))
def z6_.j2:Nat→List Int→List ByteArray→Int→Int→Bool→List (S63)→Int→ByteArray→List Int→List (S33)→Int→ByteArray→List Int→Option (List ByteArray×Bool)
 | 0,_,_,_,_,_,_,_,_,_,_,_,_,_=>none
 | k + 1,x4,x5,x6,x69,x71,x170000,x170001,x170002,x170003,x170004,x181000,x181001,x181002=>if x71=true then(z6_.j5 k x4 x5 x6 x181001 x170000 x170001 x170002 x170003 x170004 x181000 x181001 x181002)else(if x69=2 then(z6_.j5 k x4 x5 x6 (⟨#[95]⟩:ByteArray) x170000 x170001 x170002 x170003 x170004 x181000 x181001 x181002)else(if x69=4 then(z6_.l2 k x4 x5 x6 x181001 0 x170000 x170001 x170002 x170003 x170004 x181000 x181001 x181002)else(if x69=5 then(z6_.j4 k x4 x5 x6 (x69 == 5) x170000 x170001 x170002 x170003 x170004 x181000 x181001 x181002)else(if x69=6 then(z6_.j4 k x4 x5 x6 (x69 == 6) x170000 x170001 x170002 x170003 x170004 x181000 x181001 x181002)else(z6_.j4 k x4 x5 x6 (x69 == 7) x170000 x170001 x170002 x170003 x170004 x181000 x181001 x181002)))))
def z6_.l2:Nat→List Int→List ByteArray→Int→ByteArray→Int→List (S63)→Int→ByteArray→List Int→List (S33)→Int→ByteArray→List Int→Option (List ByteArray×Bool)
 | 0,_,_,_,_,_,_,_,_,_,_,_,_,_=>none
 | k + 1,x4,x5,x6,x9,x10,x170000,x170001,x170002,x170003,x170004,x181000,x181001,x181002=>if x10 < (x181002.length:Int)then(if x10=0 then(if x9.size + 1≤9223372036854775807 then(if 0≤x10 then(if 0≤(rd x181002 x10)then(if(rd x181002 x10) < (x5.length:Int)then(if(x9 ++ (⟨#[40]⟩:ByteArray)).size + (rdOf ByteArray.empty x5 (rd x181002 x10)).size≤9223372036854775807 then(z6_.l2 k x4 x5 x6 ((x9 ++ (⟨#[40]⟩:ByteArray)) ++ (rdOf ByteArray.empty x5 (rd x181002 x10))) (wrap64 (x10 + 1)) x170000 x170001 x170002 x170003 x170004 x181000 x181001 x181002)else(none))else(none))else(none))else(none))else(none))else(if x9.size + 2≤9223372036854775807 then(if 0≤x10 then(if 0≤(rd x181002 x10)then(if(rd x181002 x10) < (x5.length:Int)then(if(x9 ++ (⟨#[44,32]⟩:ByteArray)).size + (rdOf ByteArray.empty x5 (rd x181002 x10)).size≤9223372036854775807 then(z6_.l2 k x4 x5 x6 ((x9 ++ (⟨#[44,32]⟩:ByteArray)) ++ (rdOf ByteArray.empty x5 (rd x181002 x10))) (wrap64 (x10 + 1)) x170000 x170001 x170002 x170003 x170004 x181000 x181001 x181002)else(none))else(none))else(none))else(none))else(none)))else(if(x181002.length:Int) > 0 then(if x9.size + 1≤9223372036854775807 then(z6_.j5 k x4 x5 x6 (x9 ++ (⟨#[41]⟩:ByteArray)) x170000 x170001 x170002 x170003 x170004 x181000 x181001 x181002)else(none))else(z6_.j5 k x4 x5 x6 x9 x170000 x170001 x170002 x170003 x170004 x181000 x181001 x181002))
def z6_.j4:Nat→List Int→List ByteArray→Int→Bool→List (S63)→Int→ByteArray→List Int→List (S33)→Int→ByteArray→List Int→Option (List ByteArray×Bool)
 | 0,_,_,_,_,_,_,_,_,_,_,_,_=>none
 | k + 1,x4,x5,x6,x111,x170000,x170001,x170002,x170003,x170004,x181000,x181001,x181002=>if x111=true then(if(x181002.length:Int)=2 then((some (([(⟨#[32,43,32]⟩:ByteArray),(⟨#[32,45,32]⟩:ByteArray),(⟨#[32,42,32]⟩:ByteArray)]:List ByteArray):List ByteArray)).bind fun y190=>(if 0≤(wrap64 (x181000 - 5))then(if(wrap64 (x181000 - 5)) < (y190.length:Int)then(if 0 < (x181002.length:Int)then((spec_l04Side.f x170000 x170001 x170002 x170003 x170004 x5 (rd x181002 0)).bind fun t195=>(if t195.size + (rdOf ByteArray.empty y190 (wrap64 (x181000 - 5))).size≤9223372036854775807 then(if 1 < (x181002.length:Int)then((spec_l04Side.f x170000 x170001 x170002 x170003 x170004 x5 (rd x181002 1)).bind fun t197=>(if(t195 ++ (rdOf ByteArray.empty y190 (wrap64 (x181000 - 5)))).size + t197.size≤9223372036854775807 then(z6_.j5 k x4 x5 x6 ((t195 ++ (rdOf ByteArray.empty y190 (wrap64 (x181000 - 5)))) ++ t197) x170000 x170001 x170002 x170003 x170004 x181000 x181001 x181002)else(none)))else(none))else(none)))else(none))else(none))else(none)))else(some (x5,false)))else(some (x5,false))
def z6_.l3:Nat→List Int→List ByteArray→List (S33)→Int→Option (List ByteArray×Bool)
 | 0,_,_,_,_=>none
 | k + 1,x4,x5,x12,x13=>if x13 < (x12.length:Int)then(z6_.l4 k x4 x5 x12 x13 0)else(z6_.l5 k x4 x5 0)
def z6_.l4:Nat→List Int→List ByteArray→List (S33)→Int→Int→Option (List ByteArray×Bool)
 | 0,_,_,_,_,_=>none
 | k + 1,x4,x5,x12,x13,x14=>if 0≤x13 then(if x13 < (x12.length:Int)then(if x14 < (((y16 x12 x13).f2).length:Int)then(if 0≤x14 then((spec_l01Between.f (rd ((y16 x12 x13).f2) x14) 0 (wrap64 ((x4.length:Int) - 1))).bind fun t208=>(if t208=true then(if 0≤(rd ((y16 x12 x13).f2) x14)then(if(rd ((y16 x12 x13).f2) x14) < (x4.length:Int)then(z6_.l4 k (x4.set ((rd ((y16 x12 x13).f2) x14):Int).toNat (wrap64 ((rd x4 (rd ((y16 x12 x13).f2) x14)) + 1))) x5 x12 x13 (wrap64 (x14 + 1)))else(none))else(none))else(some (x5,false))))else(none))else(z6_.l3 k x4 x5 x12 (wrap64 (x13 + 1))))else(none))else(none)
def z6_.l5:Nat→List Int→List ByteArray→Int→Option (List ByteArray×Bool)
 | 0,_,_,_=>none
 | k + 1,x4,x5,x15=>if x15 < (x4.length:Int)then(if 0≤x15 then(if(rd x4 x15)=1 then(z6_.l5 k x4 x5 (wrap64 (x15 + 1)))else(some (x5,false)))else(none))else(some (x5,true))
end
def z6_.f (k:Nat) (l0_0:List (S63)) (a0_1:Int) (a0_2:ByteArray) (l0_3:List Int) (l0_4:List (S33)):Option (List ByteArray×Bool):=if(l0_0.length:Int) > 60 then(some ((([]:List ByteArray)),false))else(if 0≤(l0_0.length:Int)then(if((l0_0.length:Int):Int).toNat≤35184372088832 then(if((l0_0.length:Int):Int).toNat≤17592186044416 then(z6_.l0 k (List.replicate ((l0_0.length:Int):Int).toNat 0) (List.replicate ((l0_0.length:Int):Int).toNat (⟨#[]⟩:ByteArray)) 0 l0_0 a0_1 a0_2 l0_3 l0_4)else(none))else(none))else(none))
def z6_.T40:Bool×List (List Nat×List Nat):=(true,[([],[]),([],[]),([],[]),([2],[2]),([3],[3]),([4],[4]),([0,1,5],[0,1,5]),([],[]),([6,7],[6,7]),([],[]),([],[]),([],[]),([11],[11]),([12],[12]),([13],[13]),([9,10,14,6],[9,10,14]),([8,15],[8,15]),([16,15,0,1,2,3,4,5,6,7,8,9,10,11,12,13,14,15,16],[16])])
def z6_.B40:List Nat:=[0,0,0,4,12,28,63,0,255,0,0,0,2048,6144,14336,32383,65535,131071]
theorem z6_.tab40:rtab .any (opsOf Try.f47 40)=z6_.T40:=by kernel_rfl
theorem z6_.bits40:waitsOk z6_.T40.2 z6_.B40=true:=by kernel_rfl
set_option maxHeartbeats 8000000 in
set_option maxRecDepth 100000 in
theorem z6_.calls (k:Nat) (Di:Option Addr) (Bx:Nat) (Aa:List (S63)) (Av:Int) (Aw:ByteArray) (P0_3_:Nat→Prop) (Bc:Option Addr) (Bd:Nat) (Ak:List Int) (P0_4_:Nat→Prop) (Bg:Option Addr) (Bh:Nat) (Al:List (S33)) (r1:List ByteArray) (r2:Bool) (w:World) (Ke:Kd.C k63 w Di Aa.length Aa) (Kf:Aa.length≤Bx) (Nq:Kd.V (Kd.int .i64) 3 w w.heap.size (fun k_=>P0_3_ k_) (.slice Bc Ak.length Bd) Ak) (Nr:Kd.V k33 33 w w.heap.size (fun k_=>P0_4_ k_) (.slice Bg Al.length Bh) Al) (h:z6_.f k Aa Av Aw Ak Al=some (r1,r2)) :
  Calls Try.prog 47 #[.agg #[.slice Di Aa.length Bx,.int .i64 Av,.string Aw,.slice Bc Ak.length Bd,.slice Bg Al.length Bh]] w fun e w'=>∃ v0_:Value,e=.returned (.tuple #[v0_,.bool r2])∧Kd.R Kd.string 9 w' w.heap.size (fun k_=>(w.heap.size≤k_)) v0_ r1∧Below w.heap.size w w':=by
 have aV:=Try.underlying36
 have aW:=Try.underlying63
 have aX:=Try.underlying33
 have Gi:=y0.mk Ke
 have Kg:=y0.mk Kf
 clear Ke Kf
 have Ci:=y0.mk (show Kd.V (Kd.int .i64) 3 w w.heap.size (fun k_=>((P0_3_ k_∨P0_4_ k_)∨w.heap.size≤k_)) (.slice Bc Ak.length Bd) Ak from Kd.V_mono Nq (fun k_ hk=>.inl (.inl hk)))
 have Cj:=y0.mk (show Kd.V k33 33 w w.heap.size (fun k_=>((P0_3_ k_∨P0_4_ k_)∨w.heap.size≤k_)) (.slice Bg Al.length Bh) Al from Kd.V_mono Nr (fun k_ hk=>.inl (.inr hk)))
 have HB:=y0.mk (Below.refl w.heap.size w)
 have H:(if(Aa.length:Int) > 60 then(some ((([]:List ByteArray)),false))else(if 0≤(Aa.length:Int)then(if((Aa.length:Int):Int).toNat≤35184372088832 then(if((Aa.length:Int):Int).toNat≤17592186044416 then(z6_.l0 k (List.replicate ((Aa.length:Int):Int).toNat 0) (List.replicate ((Aa.length:Int):Int).toNat (⟨#[]⟩:ByteArray)) 0 Aa Av Aw Ak Al)else(none))else(none))else(none)))=some (r1,r2):=h
 clear h
 by_cases c2:(Aa.length:Int) > 60
 ·as_aux_lemma =>
  rw [if_pos c2]at H
  have Ns:decide (60 < (Aa.length:Int))=true:=decide_eq_true c2
  have Nt:decide (60 < Aa.length)=true:=decide_eq_true (by omega)
  clear c2
  obtain⟨Tw,Eg⟩:∃ y_:List ByteArray,y_=(([]:List ByteArray)):=⟨_,rfl⟩
  replace H:(some (Tw,false))=some (r1,r2):=by first|(rw [Eg];with_reducible exact H)|(have H2_:=(Option.bind_some _ _).symm.trans H;rw [Eg];with_reducible exact H2_)|(have H2_:=(Option.bind_some _ _).symm.trans H;with_reducible exact H2_)|with_reducible exact H|(rw [Eg];exact H)|exact H
  have Kh:=y0.mk Eg
  clear Eg
  simp only [Option.some.injEq,Prod.mk.injEq]at H
  obtain⟨rfl,rfl⟩:=H
  go_enter Try.func47,Try.ntmps47
  go_wp2_with (first|((with_reducible refine y14 (N:=1) rfl ?_);(try(refine gate_guard (by rfl) ?_;dsimp only));refine qe 1 #[.slice Di Aa.length Bx,.int .i64 Av,.string Aw,.slice Bc Ak.length Bd,.slice Bg Al.length Bh] 36 ?_;intro Af hg w3 hbox hb;replace Ci:=y0.mk (Kd.V_below (Kd.V_elderB (qV Ci.out) Af (Nat.le_of_eq hg.symm)) hb);replace Cj:=y0.mk (Kd.V_below (Kd.V_elderB (qV Cj.out) Af (Nat.le_of_eq hg.symm)) hb);have Ae:=y0.mk (hbox);have Nu:=y0.mk (qg (w:=w) hg);have Nv:=y0.mk (qg (w:=w) hg);replace HB:=y0.mk (y3 qb hb);clear hb hbox hg;obtain⟨Tx,Ty,Tz,Ua,Ub,Uc,Ud,Ue,Uf,Ug⟩:=qz5 Ae.out)|((with_reducible refine y14 (N:=20) rfl ?_);(try(refine gate_guard (by rfl) ?_;dsimp only));refine qL Kd.string 9 20 ([]:List ByteArray) ?_;intro aY w5 Kw hb hg_ hnew_;clear hg_ hnew_;(first|rw [← Kh.out]at Kw|(simp only [Int.reduceToNat]at Kw;rw [← Kh.out]at Kw));replace Ci:=y0.mk (Kd.V_elder' (qV Ci.out) (Kd.R_base Kw) hb);replace Cj:=y0.mk (Kd.V_elder' (qV Cj.out) (Kd.R_base Kw) hb);have Nw:=y0.mk (Kd.R_lower (Kd.R_newM (M:=fun k_=>(w.heap.size≤k_)) Kw (y2 qb) (fun k_ h_=>h_)) (y2 qb));replace Ae:=y0.mk (qK Ae.out hb);replace HB:=y0.mk (y3 qb hb);clear hb Kw))
  go_ret2
  exact⟨_,by first|rfl|(simp [y10,y11] <;> rfl)|(simp [*,y10,y11] <;> rfl),by(with_reducible repeat(first|apply Kd.R_alloc|apply Kd.R_drewN|apply Kd.R_drew));exact Kd.R_mono Nw.out (fun _ hk=>hk.1),qb⟩
 ·as_aux_lemma =>
  rw [if_neg c2]at H
  have Ns:decide (60 < (Aa.length:Int))=false:=decide_eq_false c2
  have Nt:decide (60 < Aa.length)=false:=decide_eq_false (by omega)
  clear c2
  obtain⟨c7,H⟩:=qo H
  have Uh:=eq_true c7
  have Ui:=decide_eq_true c7
  clear c7
  obtain⟨c8,H⟩:=qo H
  have Uj:=eq_true c8
  have Uk:=decide_eq_true c8
  clear c8
  obtain⟨Kx,Eh⟩:∃ y_:List Int,y_=(List.replicate ((Aa.length:Int):Int).toNat 0):=⟨_,rfl⟩
  replace H:(if((Aa.length:Int):Int).toNat≤17592186044416 then(z6_.l0 k Kx (List.replicate ((Aa.length:Int):Int).toNat (⟨#[]⟩:ByteArray)) 0 Aa Av Aw Ak Al)else(none))=some (r1,r2):=by first|(rw [Eh];with_reducible exact H)|(have H2_:=(Option.bind_some _ _).symm.trans H;rw [Eh];with_reducible exact H2_)|(have H2_:=(Option.bind_some _ _).symm.trans H;with_reducible exact H2_)|with_reducible exact H|(rw [Eh];exact H)|exact H
  have Ki:=y0.mk Eh
  clear Eh
  obtain⟨c9,H⟩:=qo H
  have Ul:=eq_true c9
  have Um:=decide_eq_true c9
  clear c9
  obtain⟨Nx,Ei⟩:∃ y_:List ByteArray,y_=(List.replicate ((Aa.length:Int):Int).toNat (⟨#[]⟩:ByteArray)):=⟨_,rfl⟩
  replace H:(z6_.l0 k Kx Nx 0 Aa Av Aw Ak Al)=some (r1,r2):=by first|(rw [Ei];with_reducible exact H)|(have H2_:=(Option.bind_some _ _).symm.trans H;rw [Ei];with_reducible exact H2_)|(have H2_:=(Option.bind_some _ _).symm.trans H;with_reducible exact H2_)|with_reducible exact H|(rw [Ei];exact H)|exact H
  have Kj:=y0.mk Ei
  clear Ei
  have H':=y0.mk H
  clear H
  go_enter Try.func47,Try.ntmps47
  go_wp2_with (first|((with_reducible refine y14 (N:=1) rfl ?_);(try(refine gate_guard (by rfl) ?_;dsimp only));refine qe 1 #[.slice Di Aa.length Bx,.int .i64 Av,.string Aw,.slice Bc Ak.length Bd,.slice Bg Al.length Bh] 36 ?_;intro Af hg bU hbox hb;replace Ci:=y0.mk (Kd.V_below (Kd.V_elderB (qV Ci.out) Af (Nat.le_of_eq hg.symm)) hb);replace Cj:=y0.mk (Kd.V_below (Kd.V_elderB (qV Cj.out) Af (Nat.le_of_eq hg.symm)) hb);have Ae:=y0.mk (hbox);have Nu:=y0.mk (qg (w:=w) hg);have Nv:=y0.mk (qg (w:=w) hg);replace HB:=y0.mk (y3 qb hb);clear hb hbox hg;obtain⟨Hr,Hs,Ht,Hu,Hv,Hw,Hx,Hy,Hz,Ia⟩:=qz5 Ae.out)|((with_reducible refine y14 (N:=24) rfl ?_);(try(refine gate_guard (by rfl) ?_;dsimp only));refine Kd.R_make (Kd.int .i64) _ 3 rfl (N:=24) rfl 23 _ _ rfl (Aa.length:Int) rfl rfl Try.underlying23 (.int .i64 0) 8 info3 rfl (by decide) (by omega) 0 (ok:=fun _=>True) (okp:=fun _=>True) rfl (fun _ hk=>hk) trivial (of_decide_eq_true qy0) (Nat.le_trans (Nat.mul_le_mul_right _ (of_decide_eq_true qy0:(Aa.length:Int).toNat≤35184372088832)) (by omega)) (Below.refl _ _) (Nat.le_refl _) ?_;intro Ay bV Ey hb hg_ hnew_;clear hg_ hnew_;(first|rw [← Ki.out]at Ey|(simp only [Int.reduceToNat]at Ey;rw [← Ki.out]at Ey));replace Ci:=y0.mk (Kd.V_elder' (qV Ci.out) (Kd.R_base Ey) hb);replace Cj:=y0.mk (Kd.V_elder' (qV Cj.out) (Kd.R_base Ey) hb);have Gj:=y0.mk (Kd.R_lower (Kd.R_newM (M:=fun k_=>(w.heap.size≤k_)) Ey (y2 qb) (fun k_ h_=>h_)) (y2 qb));replace Ae:=y0.mk (qK Ae.out hb);replace HB:=y0.mk (y3 qb hb);clear hb Ey;obtain⟨Ib,Ic,Id,Ie,If,Ig,Ih,Ii,Ij,Ik⟩:=qz5 Ae.out)|((with_reducible refine y14 (N:=28) rfl ?_);(try(refine gate_guard (by rfl) ?_;dsimp only));refine Kd.R_make Kd.string _ 9 rfl (N:=28) rfl 30 _ _ rfl (Aa.length:Int) rfl rfl Try.underlying30 (.string ⟨#[]⟩) 16 info9 rfl (by decide) (by omega) (⟨#[]⟩:ByteArray) (ok:=fun _=>True) (okp:=fun _=>True) rfl (fun _ hk=>hk) trivial (of_decide_eq_true qy0) (Nat.le_trans (Nat.mul_le_mul_right _ (of_decide_eq_true qy0:(Aa.length:Int).toNat≤17592186044416)) (by omega)) (Below.refl _ _) (Nat.le_refl _) ?_;intro Aq bW Ez hb hg_ hnew_;clear hg_ hnew_;(first|rw [← Kj.out]at Ez|(simp only [Int.reduceToNat]at Ez;rw [← Kj.out]at Ez));replace Ci:=y0.mk (Kd.V_elder' (qV Ci.out) (Kd.R_base Ez) hb);replace Cj:=y0.mk (Kd.V_elder' (qV Cj.out) (Kd.R_base Ez) hb);replace Gj:=y0.mk (Kd.R_below (qR Gj.out) hb);have Ny:=y0.mk (Kd.R_lower (Kd.R_newM (M:=fun k_=>(w.heap.size≤k_)) Ez (y2 qb) (fun k_ h_=>h_)) (y2 qb));replace Ae:=y0.mk (qK Ae.out hb);replace HB:=y0.mk (y3 qb hb);clear hb Ez))
  go_loopg [6] k (fun kq v6 w'=>∃(Fa:List Int) (As:List ByteArray) (Ad:Int),v6=.int .i64 Ad∧y0 (z6_.l0 kq Fa As Ad Aa Av Aw Ak Al=some (r1,r2))∧y0 (kq≤k)∧y0 (Kd.R (Kd.int .i64) 3 w' w.heap.size (fun k_=>(w.heap.size≤k_)) Ay Fa)∧y0 (Kd.R Kd.string 9 w' w.heap.size (fun k_=>(w.heap.size≤k_)) Aq As)∧y0 (Kd.V (Kd.int .i64) 3 w' w.heap.size (fun k_=>((P0_3_ k_∨P0_4_ k_)∨w.heap.size≤k_)∧some k_≠(Ay:Value).ownBlock∧some k_≠(Aq:Value).ownBlock∧k_≠Af) (.slice Bc Ak.length Bd) Ak)∧y0 (Kd.V k33 33 w' w.heap.size (fun k_=>((P0_3_ k_∨P0_4_ k_)∨w.heap.size≤k_)∧some k_≠(Ay:Value).ownBlock∧some k_≠(Aq:Value).ownBlock∧k_≠Af) (.slice Bg Al.length Bh) Al)∧y0 (w'.heap[Af]?=some (.cells #[(.slice Di Aa.length Bx),.int .i64 Av,.string Aw,(.slice Bc Ak.length Bd),(.slice Bg Al.length Bh)] 36 (0,0)))∧y0 (Below w.heap.size w w'))
  case atStart=>exact⟨(Kx),(Nx),(0),qy2,H',⟨Nat.le_refl _⟩,⟨qR (Kd.R_mono Gj.out (fun _ hk=>hk.1))⟩,⟨qR (Kd.R_mono Ny.out (fun _ hk=>hk.1))⟩,⟨qV (Kd.V_mono Ci.out (fun _ hk=>⟨hk.1.1.1,⟨hk.1.2,⟨hk.2,hk.1.1.2⟩⟩⟩))⟩,⟨qV (Kd.V_mono Cj.out (fun _ hk=>⟨hk.1.1.1,⟨hk.1.2,⟨hk.2,hk.1.1.2⟩⟩⟩))⟩,⟨qk Ae.out⟩,⟨qb⟩⟩
  case round =>
   clear H'
   (try clear Ns Nt Uh Ui Uj Uk Ul Um Hr Hs Ht Hu Hv Ib Ic Id Ie If Hw Hx Hy Hz Ia Ig Ih Ii Ij Ik)
   obtain⟨Fa,As,Ad,rfl,HA,Cv,Aj,Ai,Ab,Ac,Ae,HB⟩:=hrel
   cases gk with
   | zero=>exact absurd HA.out (by simp [z6_.l0])
   | succ k1 =>
    have H:=HA.out
    clear HA
    simp only [z6_.l0]at H
    by_cases Nk:Ad < (Aa.length:Int)
    ·as_aux_lemma =>
     rw [if_pos Nk]at H
     have Gk:=decide_eq_true Nk
     clear Nk
     obtain⟨Wp,H⟩:=qo H
     have Nz:decide (0≤Ad)=true:=decide_eq_true Wp
     clear Wp
     have H':=y0.mk H
     clear H
     obtain⟨Il,Im,Io,Ip,Iq,Ir,Is,Iu,Iv,Iw⟩:=qz5 Ae.out
     have Ix:0≤(Ad:Int):=of_decide_eq_true qy0
     have Iy:Ad < (Aa.length:Int):=of_decide_eq_true qy0
     obtain⟨Cn,Bz,Bn,Un,Da,Db,Dc,Fl,Fm⟩:=at_T63 Gi.out Ad Ix Iy
     cases Un
     replace Da:=(HB.out.cell (World.block_lt_of_cell? w _ Da)).trans Da
     replace Db:=(HB.out.cell (World.block_lt_of_cell? w _ Db)).trans Db
     replace Dc:=(HB.out.cell (World.block_lt_of_cell? w _ Dc)).trans Dc
     have Cb:=y0.mk Fm
     have Qz:=y0.mk Fl
     clear Fm Fl
     replace Ix:=eq_true Ix
     replace Iy:=eq_true Iy
     go_wp2_with (first|((with_reducible refine y14 (N:=7) rfl ?_);(try(refine gate_guard (by rfl) ?_;dsimp only));refine qe 7 #[.int .i64 0,.string (⟨#[]⟩:ByteArray),.slice none 0 0] 63 ?_;intro Am hg bX hbox hb;replace Aj:=y0.mk (Kd.R_below (qR Aj.out) hb);replace Ai:=y0.mk (Kd.R_below (qR Ai.out) hb);replace Ab:=y0.mk (Kd.V_below (Kd.V_elderB (qV Ab.out) Am (Nat.le_of_eq hg.symm)) hb);replace Ac:=y0.mk (Kd.V_below (Kd.V_elderB (qV Ac.out) Am (Nat.le_of_eq hg.symm)) hb);have Ah:=y0.mk (hbox);have Wq:=y0.mk (qg (w:=w) hg);have Wr:=y0.mk (qg (w:=w) hg);replace HB:=y0.mk (y3 qb hb);have Ao:=y0.mk (qn Ae.out hg);have Ar:=y0.mk (qm Ae.out hg);replace Ae:=y0.mk (qK Ae.out hb);clear hb hbox hg;have Ws:=Ar.out;have Wt:=Ao.out;obtain⟨Iz,Ja,Jb,Jc,Jd,Je⟩:=qz3 Ah.out))
     go_loopg [8] k1 (fun kq v8 w'=>∃(Az:List Int) (Bf:Int),v8=.int .i64 Bf∧y0 (z6_.l1 kq Az As Ad Bf Aa Av Aw Ak Al ((y17 Aa Ad).f0) ((y17 Aa Ad).f1) ((y17 Aa Ad).f2)=some (r1,r2))∧y0 (kq≤k1)∧y0 (Kd.R (Kd.int .i64) 3 w' w.heap.size (fun k_=>(w.heap.size≤k_)) Ay Az)∧y0 (Kd.R Kd.string 9 w' w.heap.size (fun k_=>(w.heap.size≤k_)) Aq As)∧y0 (Kd.V (Kd.int .i64) 3 w' w.heap.size (fun k_=>((P0_3_ k_∨P0_4_ k_)∨w.heap.size≤k_)∧some k_≠(Ay:Value).ownBlock∧some k_≠(Aq:Value).ownBlock∧k_≠Af∧k_≠Am) (.slice Bc Ak.length Bd) Ak)∧y0 (Kd.V k33 33 w' w.heap.size (fun k_=>((P0_3_ k_∨P0_4_ k_)∨w.heap.size≤k_)∧some k_≠(Ay:Value).ownBlock∧some k_≠(Aq:Value).ownBlock∧k_≠Af∧k_≠Am) (.slice Bg Al.length Bh) Al)∧y0 (w'.heap[Af]?=some (.cells #[(.slice (some Cn) Aa.length Bx),.int .i64 Av,.string Aw,(.slice Bc Ak.length Bd),(.slice Bg Al.length Bh)] 36 (0,0)))∧y0 (w'.heap[Am]?=some (.cells #[.int .i64 ((y17 Aa Ad).f0),.string ((y17 Aa Ad).f1),(.slice Bz ((y17 Aa Ad).f2).length Bn)] 63 (0,0)))∧y0 (Below w.heap.size w w'))
     case atStart=>exact⟨(Fa),(0),qy2,H',⟨Nat.le_refl _⟩,⟨qR (Kd.R_mono (Kd.R_far (p:=⟨Am,2,none⟩) (Kd.R_far (p:=⟨Am,1,none⟩) (Kd.R_far (p:=⟨Am,0,none⟩) (Kd.R_types Aj.out Ah.out (by decide)) (fun _ hk=>hk.2) (.int .i64 ((y17 Aa Ad).f0))) (fun _ hk=>hk.2) (.string ((y17 Aa Ad).f1))) (fun _ hk=>hk.2) (.slice Bz ((y17 Aa Ad).f2).length Bn)) (fun _ hk=>hk.1))⟩,⟨qR (Kd.R_mono (Kd.R_far (p:=⟨Am,2,none⟩) (Kd.R_far (p:=⟨Am,1,none⟩) (Kd.R_far (p:=⟨Am,0,none⟩) (Kd.R_types Ai.out Ah.out (by decide)) (fun _ hk=>hk.2) (.int .i64 ((y17 Aa Ad).f0))) (fun _ hk=>hk.2) (.string ((y17 Aa Ad).f1))) (fun _ hk=>hk.2) (.slice Bz ((y17 Aa Ad).f2).length Bn)) (fun _ hk=>hk.1))⟩,⟨qV (Kd.V_mono (Kd.V_far (p:=⟨Am,2,none⟩) (Kd.V_far (p:=⟨Am,1,none⟩) (Kd.V_far (p:=⟨Am,0,none⟩) (Kd.V_mono Ab.out (fun k_ hk=>(⟨hk,hk.2⟩:_∧k_≠Am))) (fun _ hk=>hk.2) (.int .i64 ((y17 Aa Ad).f0))) (fun _ hk=>hk.2) (.string ((y17 Aa Ad).f1))) (fun _ hk=>hk.2) (.slice Bz ((y17 Aa Ad).f2).length Bn)) (fun _ hk=>⟨hk.1.1.1,⟨hk.1.1.2.1,⟨hk.1.1.2.2.1,⟨hk.1.1.2.2.2,hk.1.2⟩⟩⟩⟩))⟩,⟨qV (Kd.V_mono (Kd.V_far (p:=⟨Am,2,none⟩) (Kd.V_far (p:=⟨Am,1,none⟩) (Kd.V_far (p:=⟨Am,0,none⟩) (Kd.V_mono Ac.out (fun k_ hk=>(⟨hk,hk.2⟩:_∧k_≠Am))) (fun _ hk=>hk.2) (.int .i64 ((y17 Aa Ad).f0))) (fun _ hk=>hk.2) (.string ((y17 Aa Ad).f1))) (fun _ hk=>hk.2) (.slice Bz ((y17 Aa Ad).f2).length Bn)) (fun _ hk=>⟨hk.1.1.1,⟨hk.1.1.2.1,⟨hk.1.1.2.2.1,⟨hk.1.1.2.2.2,hk.1.2⟩⟩⟩⟩))⟩,⟨by(with_reducible repeat(first|refine y8 ?_ _|refine y7 ?_|refine y4 ?_ _));refine y9 ?_ Ao.out _;(with_reducible repeat(first|refine y8 ?_ _|refine y7 ?_|refine y4 ?_ _));refine y9 ?_ Ao.out _;(with_reducible repeat(first|refine y8 ?_ _|refine y7 ?_|refine y4 ?_ _));refine y9 ?_ Ao.out _;(with_reducible repeat(first|refine y8 ?_ _|refine y7 ?_|refine y4 ?_ _));exact Ae.out⟩,⟨by(with_reducible repeat(first|refine y8 ?_ _|refine y7 ?_|refine y4 ?_ _));refine blk_put (cs:=#[.int .i64 ((y17 Aa Ad).f0),.string ((y17 Aa Ad).f1),.slice none 0 0]) ?_ 2 _ rfl;(with_reducible repeat(first|refine y8 ?_ _|refine y7 ?_|refine y4 ?_ _));refine blk_put (cs:=#[.int .i64 ((y17 Aa Ad).f0),.string (⟨#[]⟩:ByteArray),.slice none 0 0]) ?_ 1 _ rfl;(with_reducible repeat(first|refine y8 ?_ _|refine y7 ?_|refine y4 ?_ _));refine blk_put (cs:=#[.int .i64 0,.string (⟨#[]⟩:ByteArray),.slice none 0 0]) ?_ 0 _ rfl;(with_reducible repeat(first|refine y8 ?_ _|refine y7 ?_|refine y4 ?_ _));exact Ah.out⟩,⟨qb⟩⟩
     case round =>
      clear H'
      (try clear Gk Nz Il Im Io Ip Iq Iz Ja Jb Ir Is Iu Iv Iw Jc Jd Je Da Db Dc Ix Iy)
      obtain⟨Az,Bf,rfl,HA,Cu,Aj,Ai,Ab,Ac,Ae,Ah,HB⟩:=hrel
      cases gk with
      | zero=>exact absurd HA.out (by simp [z6_.l1])
      | succ k2 =>
       have H:=HA.out
       clear HA
       simp only [z6_.l1]at H
       by_cases Nl:Bf < (((y17 Aa Ad).f2).length:Int)
       ·as_aux_lemma =>
        rw [if_pos Nl]at H
        have Kk:=decide_eq_true Nl
        clear Nl
        obtain⟨Wu,H⟩:=qo H
        have Wv:decide (0≤Bf)=true:=decide_eq_true Wu
        clear Wu
        obtain⟨Uo,Ww,H⟩:=qB H
        by_cases Ra:Uo=true
        ·subst Ra
         replace H:=qT H
         obtain⟨Wx,H⟩:=qo H
         have Wy:decide (0≤(rd ((y17 Aa Ad).f2) Bf))=true:=decide_eq_true Wx
         clear Wx
         obtain⟨Wz,H⟩:=qo H
         have Xa:decide ((rd ((y17 Aa Ad).f2) Bf) < (Az.length:Int))=true:=decide_eq_true Wz
         clear Wz
         obtain⟨Ky,Ej⟩:∃ y_:List Int,y_=(Az.set ((rd ((y17 Aa Ad).f2) Bf):Int).toNat (wrap64 ((rd Az (rd ((y17 Aa Ad).f2) Bf)) + 1))):=⟨_,rfl⟩
         replace H:(z6_.l1 k2 Ky As Ad (wrap64 (Bf + 1)) Aa Av Aw Ak Al ((y17 Aa Ad).f0) ((y17 Aa Ad).f1) ((y17 Aa Ad).f2))=some (r1,r2):=by first|(rw [Ej];with_reducible exact H)|(have H2_:=(Option.bind_some _ _).symm.trans H;rw [Ej];with_reducible exact H2_)|(have H2_:=(Option.bind_some _ _).symm.trans H;with_reducible exact H2_)|with_reducible exact H|(rw [Ej];exact H)|exact H
         have Oa:=y0.mk Ej
         clear Ej
         have H':=y0.mk H
         clear H
         have Xb:=Ar.out
         have Xc:=Ao.out
         obtain⟨Fn,Fo,Fp,Fq,Fr,Fs⟩:=qz3 Ah.out
         have Fb:0≤(Bf:Int):=of_decide_eq_true qy0
         have Fc:Bf < (((y17 Aa Ad).f2).length:Int):=of_decide_eq_true qy0
         obtain⟨Gl,Kz,Bp⟩:=Kd.at_int Cb.out Bf Fb Fc
         cases Kz
         replace Bp:=(HB.out.cell (World.block_lt_of_cell? w _ Bp)).trans Bp
         replace Fb:=eq_true Fb
         replace Fc:=eq_true Fc
         go_wp2_with (first|((with_reducible refine y13 (f:=23) rfl ?_);refine y15 (some 55) rfl rfl Try.func23 (by kernel_rfl) rfl #[.int .i64 (rd ((y17 Aa Ad).f2) Bf),.int .i64 0,.int .i64 (wrap64 (Ad - 1))] rfl qy1 ?_;(with_reducible refine(spec_l01Between.calls (rd ((y17 Aa Ad).f2) Bf) 0 (wrap64 (Ad - 1)) true _ Ww.out).mono ?_);rintro e w' ⟨rfl,⟨nd,rfl⟩⟩;refine⟨_,rfl, ?_⟩;(try(rw [drewN_self wr];have e1_:∀(n_:Nat) (a_:Addr),World.cell? wr a_=World.cell? (World.drewN wr n_) a_:=fun _ _=>rfl;have e2_:∀(n_:Nat) (a_:Addr),World.frozen? wr a_=World.frozen? (World.drewN wr n_) a_:=fun _ _=>rfl;generalize hq_:World.drewN wr _=wr;have e3_:=(fun a_=>(e1_ _ a_).trans (congrArg (fun w_=>World.cell? w_ a_) hq_));have e4_:=(fun a_=>(e2_ _ a_).trans (congrArg (fun w_=>World.frozen? w_ a_) hq_));clear e1_ e2_;(try replace Bp:=(e3_ _).symm.trans Bp);(try replace Fn:=(e3_ _).symm.trans Fn);(try replace Fq:=(e4_ _).symm.trans Fq);(try replace Fo:=(e3_ _).symm.trans Fo);(try replace Fr:=(e4_ _).symm.trans Fr);(try replace Fp:=(e3_ _).symm.trans Fp);(try replace Fs:=(e4_ _).symm.trans Fs);skip;clear e3_ e4_;have n0_:y0 (Kd.V (Kd.int .i64) 3 wr w.heap.size (fun k_=>((P0_3_ k_∨P0_4_ k_)∨w.heap.size≤k_)∧some k_≠(Ay:Value).ownBlock∧some k_≠(Aq:Value).ownBlock∧k_≠Af∧k_≠Am) (.slice Bc Ak.length Bd) Ak):=⟨by rw [← hq_];exact(qV Ab.out)⟩;have n1_:y0 (Kd.V k33 33 wr w.heap.size (fun k_=>((P0_3_ k_∨P0_4_ k_)∨w.heap.size≤k_)∧some k_≠(Ay:Value).ownBlock∧some k_≠(Aq:Value).ownBlock∧k_≠Af∧k_≠Am) (.slice Bg Al.length Bh) Al):=⟨by rw [← hq_];exact(qV Ac.out)⟩;have n2_:y0 (Kd.R (Kd.int .i64) 3 wr w.heap.size (fun k_=>(w.heap.size≤k_)) Ay Az):=⟨by rw [← hq_];exact(qR Aj.out)⟩;have n3_:y0 (Kd.R Kd.string 9 wr w.heap.size (fun k_=>(w.heap.size≤k_)) Aq As):=⟨by rw [← hq_];exact(qR Ai.out)⟩;have n4_:y0 (wr.heap[Af]?=some (.cells #[.slice (some Cn) Aa.length Bx,.int .i64 Av,.string Aw,.slice Bc Ak.length Bd,.slice Bg Al.length Bh] 36 (0,0))):=⟨by rw [← hq_];exact(qk Ae.out)⟩;have n5_:y0 (wr.heap[Am]?=some (.cells #[.int .i64 ((y17 Aa Ad).f0),.string ((y17 Aa Ad).f1),.slice (some Gl) ((y17 Aa Ad).f2).length Bn] 63 (0,0))):=⟨by rw [← hq_];exact(qk Ah.out)⟩;have n6_:y0 (Below w.heap.size w wr):=⟨by rw [← hq_];exact qb⟩;clear Ab Ac Aj Ai Ae Ah HB hq_;have Ab:=n0_;have Ac:=n1_;have Aj:=n2_;have Ai:=n3_;have Ae:=n4_;have Ah:=n5_;have HB:=n6_;clear n0_ n1_ n2_ n3_ n4_ n5_ n6_));have La:0≤(Bf:Int):=of_decide_eq_true qy0;have Lb:Bf < (((y17 Aa Ad).f2).length:Int):=of_decide_eq_true qy0;obtain⟨Ob,Up,Ds⟩:=Kd.at_int Cb.out Bf La Lb;obtain rfl:Gl=Ob:=(by injection Up);replace Ds:=(HB.out.cell (World.block_lt_of_cell? w _ Ds)).trans Ds;replace La:=eq_true La;replace Lb:=eq_true Lb;obtain⟨aZ,Gc,Uq⟩:=Kd.R_slice Aj.out;subst Uq;have Lc:0≤((rd ((y17 Aa Ad).f2) Bf):Int):=of_decide_eq_true qy0;have Ld:(rd ((y17 Aa Ad).f2) Bf) < (Az.length:Int):=of_decide_eq_true qy0;obtain⟨Xd,Ur,Jf⟩:=Kd.at_int (Kd.R_reads' Aj.out).2.2 (rd ((y17 Aa Ad).f2) Bf) Lc Ld;cases Ur;replace Lc:=eq_true Lc;replace Ld:=eq_true Ld;have Us:0≤((rd ((y17 Aa Ad).f2) Bf):Int):=of_decide_eq_true qy0;have Ut:((rd ((y17 Aa Ad).f2) Bf):Int) < ((Az.length:Int):Int):=of_decide_eq_true qy0;obtain⟨Ek,bA,Oc,Od,Uu,bB,Oe⟩:=Kd.R_form Aj.out (by omega);(first|cases Oc|(injection Oc with ea_ en_ ec_;(first|subst ea_|(injection ea_ with ea_;subst ea_));subst ec_;clear en_));have Uv:=y0.mk Od;have bC:=y0.mk Oe;clear Od Uu Oe;(first|simp only [add_plain]at Jf|skip);obtain⟨Uw,Ux⟩:=Kd.R_celln 0 Aj.out ((rd ((y17 Aa Ad).f2) Bf):Int) Us Ut;replace Us:=eq_true Us;replace Ut:=eq_true Ut;obtain⟨hy33_,hz33_⟩:=Kd.R_celln 0 Aj.out ((rd ((y17 Aa Ad).f2) Bf):Int) (of_decide_eq_true qy0) (of_decide_eq_true qy0);have Le:=Kd.R_putg Aj.out ((rd ((y17 Aa Ad).f2) Bf):Int) (wrap64 ((rd Az (rd ((y17 Aa Ad).f2) Bf)) + 1)))|((with_reducible refine gate_store (t:=3) (p:=67) rfl ?_);refine store_event (t:=3) (p:=67) (v:=?vo_w34) (w1:=(wr.setCell ⟨Ek,((rd ((y17 Aa Ad).f2) Bf):Int).toNat,none⟩ (.int .i64 (wrap64 ((rd Az (rd ((y17 Aa Ad).f2) Bf)) + 1))))) ?hg ?ho ?hn ?hr ?_;(case ho=>rfl);(case hg=>rfl);(case hn=>rfl);(case hr=>first|(go_simp;done)|(go_simp;rfl));intro Uy hw;have hg:wr.grownBy Uy (some Ek):=(by rw [hw];exact Le.2);have hp_:Kd.R (Kd.int .i64) 3 Uy w.heap.size (fun k_=>(w.heap.size≤k_)) (.slice (some ⟨Ek,0,none⟩) Az.length Gc) Ky:=(by rw [hw,Oa.out];exact Le.1);clear Le;replace Ai:=y0.mk (Kd.R_over' (v:=(.slice (some ⟨Ek,0,none⟩) Az.length Gc)) (qR Ai.out) (Kd.R_typed Aj.out) (by decide) hg);replace Ab:=y0.mk (Kd.V_afterv (v:=(.slice (some ⟨Ek,0,none⟩) Az.length Gc)) (v1:=(.slice (some ⟨Ek,0,none⟩) Az.length Gc)) (ok:=(fun k_=>((P0_3_ k_∨P0_4_ k_)∨w.heap.size≤k_)∧some k_≠(Aq:Value).ownBlock∧k_≠Af∧k_≠Am)) (qV (Kd.V_mono Ab.out (fun _ hk=>⟨⟨hk.1,⟨hk.2.2.1,⟨hk.2.2.2.1,hk.2.2.2.2⟩⟩⟩,hk.2.1⟩))) hg (.inl rfl));replace Ac:=y0.mk (Kd.V_afterv (v:=(.slice (some ⟨Ek,0,none⟩) Az.length Gc)) (v1:=(.slice (some ⟨Ek,0,none⟩) Az.length Gc)) (ok:=(fun k_=>((P0_3_ k_∨P0_4_ k_)∨w.heap.size≤k_)∧some k_≠(Aq:Value).ownBlock∧k_≠Af∧k_≠Am)) (qV (Kd.V_mono Ac.out (fun _ hk=>⟨⟨hk.1,⟨hk.2.2.1,⟨hk.2.2.2.1,hk.2.2.2.2⟩⟩⟩,hk.2.1⟩))) hg (.inl rfl));replace Ae:=y0.mk (blk_grown (qk Ae.out) hg (Kd.R_ne Aj.out Ae.out (by decide)));replace Ah:=y0.mk (blk_grown (qk Ah.out) hg (Kd.R_ne Aj.out Ah.out (by decide)));replace Aj:=y0.mk (hp_);replace HB:=y0.mk ((by rw [hw];exact below_set (HB.out) Uv.out:Below w.heap.size w Uy));clear hg hw hp_))
         go_roundg k2
         case measure=>have:=Cv.out;have:=Cu.out;omega
         exact⟨(Ky),(wrap64 (Bf + 1)),qy2,H',⟨by have:=Cv.out;have:=Cu.out;omega⟩,⟨qR Aj.out⟩,⟨qR Ai.out⟩,⟨qV (Kd.V_mono Ab.out (fun _ hk=>⟨hk.1.1,⟨hk.2,⟨hk.1.2.1,⟨hk.1.2.2.1,hk.1.2.2.2⟩⟩⟩⟩))⟩,⟨qV (Kd.V_mono Ac.out (fun _ hk=>⟨hk.1.1,⟨hk.2,⟨hk.1.2.1,⟨hk.1.2.2.1,hk.1.2.2.2⟩⟩⟩⟩))⟩,⟨qk Ae.out⟩,⟨qk Ah.out⟩,⟨qb⟩⟩
        ·replace Ra:=Bool.eq_false_iff.mpr Ra
         subst Ra
         replace H:=qF H
         simp only [Option.some.injEq,Prod.mk.injEq]at H
         obtain⟨rfl,rfl⟩:=H
         have Xe:=Ar.out
         have Xf:=Ao.out
         obtain⟨Rb,Rc,Rf,Rg,Rh,Ri⟩:=qz3 Ah.out
         have Fb:0≤(Bf:Int):=of_decide_eq_true qy0
         have Fc:Bf < (((y17 Aa Ad).f2).length:Int):=of_decide_eq_true qy0
         obtain⟨Gl,Kz,Bp⟩:=Kd.at_int Cb.out Bf Fb Fc
         cases Kz
         replace Bp:=(HB.out.cell (World.block_lt_of_cell? w _ Bp)).trans Bp
         replace Fb:=eq_true Fb
         replace Fc:=eq_true Fc
         go_wp2_with (first|((with_reducible refine y13 (f:=23) rfl ?_);refine y15 (some 55) rfl rfl Try.func23 (by kernel_rfl) rfl #[.int .i64 (rd ((y17 Aa Ad).f2) Bf),.int .i64 0,.int .i64 (wrap64 (Ad - 1))] rfl qy1 ?_;(with_reducible refine(spec_l01Between.calls (rd ((y17 Aa Ad).f2) Bf) 0 (wrap64 (Ad - 1)) false _ Ww.out).mono ?_);rintro e w' ⟨rfl,⟨nd,rfl⟩⟩;refine⟨_,rfl, ?_⟩))
         go_ret2
         exact⟨_,by first|rfl|(simp [y10,y11] <;> rfl)|(simp [*,y10,y11] <;> rfl),by(with_reducible repeat(first|apply Kd.R_alloc|apply Kd.R_drewN|apply Kd.R_drew));exact Ai.out,qb⟩
       ·as_aux_lemma =>
        rw [if_neg Nl]at H
        have Kk:=decide_eq_false Nl
        clear Nl
        have Lf:=y0.mk H
        clear H
        have Xg:=Ar.out
        have Xh:=Ao.out
        obtain⟨Jg,Jh,Ji,Jj,Jk,Jl⟩:=qz3 Ah.out
        go_upto_block 4 with(fail)
        go_cut [9] (fun v9 wc=>∃(kq:Nat) (Co:ByteArray),v9=.string Co∧y0 (z6_.j5 kq Az As Ad Co Aa Av Aw Ak Al ((y17 Aa Ad).f0) ((y17 Aa Ad).f1) ((y17 Aa Ad).f2)=some (r1,r2))∧y0 (kq≤k2)∧y0 (Kd.R (Kd.int .i64) 3 wc w.heap.size (fun k_=>(w.heap.size≤k_)) Ay Az)∧y0 (Kd.R Kd.string 9 wc w.heap.size (fun k_=>(w.heap.size≤k_)) Aq As)∧y0 (Kd.V (Kd.int .i64) 3 wc w.heap.size (fun k_=>((P0_3_ k_∨P0_4_ k_)∨w.heap.size≤k_)∧some k_≠(Ay:Value).ownBlock∧some k_≠(Aq:Value).ownBlock∧k_≠Af∧k_≠Am) (.slice Bc Ak.length Bd) Ak)∧y0 (Kd.V k33 33 wc w.heap.size (fun k_=>((P0_3_ k_∨P0_4_ k_)∨w.heap.size≤k_)∧some k_≠(Ay:Value).ownBlock∧some k_≠(Aq:Value).ownBlock∧k_≠Af∧k_≠Am) (.slice Bg Al.length Bh) Al)∧y0 (wc.heap[Af]?=some (.cells #[(.slice (some Cn) Aa.length Bx),.int .i64 Av,.string Aw,(.slice Bc Ak.length Bd),(.slice Bg Al.length Bh)] 36 (0,0)))∧y0 (wc.heap[Am]?=some (.cells #[.int .i64 ((y17 Aa Ad).f0),.string ((y17 Aa Ad).f1),(.slice Bz ((y17 Aa Ad).f2).length Bn)] 63 (0,0)))∧y0 (Below w.heap.size w wc))
        case first =>
         have H:=Lf.out
         clear Lf
         have Lg:=y0.mk H
         clear H
         go_upto_if 71 with(fail)
         go_cut [71] (fun bD wc=>∃(kq:Nat) (Dt:Bool),bD=.bool Dt∧y0 (z6_.j2 kq Az As Ad ((y17 Aa Ad).f0) Dt Aa Av Aw Ak Al ((y17 Aa Ad).f0) ((y17 Aa Ad).f1) ((y17 Aa Ad).f2)=some (r1,r2))∧y0 (kq≤k2)∧y0 (Kd.R (Kd.int .i64) 3 wc w.heap.size (fun k_=>(w.heap.size≤k_)) Ay Az)∧y0 (Kd.R Kd.string 9 wc w.heap.size (fun k_=>(w.heap.size≤k_)) Aq As)∧y0 (Kd.V (Kd.int .i64) 3 wc w.heap.size (fun k_=>((P0_3_ k_∨P0_4_ k_)∨w.heap.size≤k_)∧some k_≠(Ay:Value).ownBlock∧some k_≠(Aq:Value).ownBlock∧k_≠Af∧k_≠Am) (.slice Bc Ak.length Bd) Ak)∧y0 (Kd.V k33 33 wc w.heap.size (fun k_=>((P0_3_ k_∨P0_4_ k_)∨w.heap.size≤k_)∧some k_≠(Ay:Value).ownBlock∧some k_≠(Aq:Value).ownBlock∧k_≠Af∧k_≠Am) (.slice Bg Al.length Bh) Al)∧y0 (wc.heap[Af]?=some (.cells #[(.slice (some Cn) Aa.length Bx),.int .i64 Av,.string Aw,(.slice Bc Ak.length Bd),(.slice Bg Al.length Bh)] 36 (0,0)))∧y0 (wc.heap[Am]?=some (.cells #[.int .i64 ((y17 Aa Ad).f0),.string ((y17 Aa Ad).f1),(.slice Bz ((y17 Aa Ad).f2).length Bn)] 63 (0,0)))∧y0 (Below w.heap.size w wc))
         case first =>
          have H:=Lg.out
          clear Lg
          by_cases Lh:((y17 Aa Ad).f0)=1
          ·as_aux_lemma =>
           rw [if_pos Lh]at H
           have El:(((y17 Aa Ad).f0) == 1)=true:=beq_iff_eq.mpr Lh
           have Of:(((y17 Aa Ad).f0) != 1)=false:=bne_eq_false_iff_eq.mpr Lh
           clear Lh
           (first|rw [El]|(simp only [i64_w,i32_w];rw [El])|skip)
           have H':=y0.mk H
           clear H
           go_wp2
           go_meet
           exact⟨_,((((y17 Aa Ad).f0) == 1)),qy2,H',⟨by have:=Cv.out;have:=Cu.out;first|omega|exact Nat.le_refl _⟩,⟨qR Aj.out⟩,⟨qR Ai.out⟩,⟨qV Ab.out⟩,⟨qV Ac.out⟩,⟨qk Ae.out⟩,⟨qk Ah.out⟩,⟨qb⟩⟩
          ·as_aux_lemma =>
           rw [if_neg Lh]at H
           have El:(((y17 Aa Ad).f0) == 1)=false:=beq_eq_false_iff_ne.mpr Lh
           have Of:(((y17 Aa Ad).f0) != 1)=true:=bne_iff_ne.mpr Lh
           (first|rw [El]|(simp only [i64_w,i32_w];rw [El])|skip)
           have H':=y0.mk H
           clear H
           go_wp2
           go_meet
           exact⟨_,((((y17 Aa Ad).f0) == 3)),qy2,H',⟨by have:=Cv.out;have:=Cu.out;first|omega|exact Nat.le_refl _⟩,⟨qR Aj.out⟩,⟨qR Ai.out⟩,⟨qV Ab.out⟩,⟨qV Ac.out⟩,⟨qk Ae.out⟩,⟨qk Ah.out⟩,⟨qb⟩⟩
         case rest =>
          clear Lg
          (try clear Kk Jg Jh Ji Jj Jk Jl)
          obtain⟨kq,Dt,rfl,HA,Cy,Aj,Ai,Ab,Ac,Ae,Ah,HB⟩:=hcut
          cases kq with
          | zero=>exact absurd HA.out (by simp [z6_.j2])
          | succ Li =>
           have H:=HA.out
           clear HA
           simp only [z6_.j2]at H
           by_cases Og:Dt=true
           ·subst Og
            replace H:=qT H
            have H':=y0.mk H
            clear H
            have Xi:=Ar.out
            have Xj:=Ao.out
            obtain⟨Rj,Rk,Rl,Rn,Ro,Rp⟩:=qz3 Ah.out
            go_wp2
            go_meet
            exact⟨_,(((y17 Aa Ad).f1)),qy2,H',⟨by have:=Cv.out;have:=Cu.out;have:=Cy.out;first|omega|exact Nat.le_refl _⟩,⟨qR Aj.out⟩,⟨qR Ai.out⟩,⟨qV Ab.out⟩,⟨qV Ac.out⟩,⟨qk Ae.out⟩,⟨qk Ah.out⟩,⟨qb⟩⟩
           ·replace Og:=Bool.eq_false_iff.mpr Og
            subst Og
            replace H:=qF H
            by_cases Lj:((y17 Aa Ad).f0)=2
            ·as_aux_lemma =>
             rw [if_pos Lj]at H
             have Kl:(((y17 Aa Ad).f0) == 2)=true:=beq_iff_eq.mpr Lj
             have Km:(((y17 Aa Ad).f0) != 2)=false:=bne_eq_false_iff_eq.mpr Lj
             clear Lj
             have H':=y0.mk H
             clear H
             go_wp2
             go_meet
             exact⟨_,((⟨#[95]⟩:ByteArray)),qy2,H',⟨by have:=Cv.out;have:=Cu.out;have:=Cy.out;first|omega|exact Nat.le_refl _⟩,⟨qR Aj.out⟩,⟨qR Ai.out⟩,⟨qV Ab.out⟩,⟨qV Ac.out⟩,⟨qk Ae.out⟩,⟨qk Ah.out⟩,⟨qb⟩⟩
            ·as_aux_lemma =>
             rw [if_neg Lj]at H
             have Kl:(((y17 Aa Ad).f0) == 2)=false:=beq_eq_false_iff_ne.mpr Lj
             have Km:(((y17 Aa Ad).f0) != 2)=true:=bne_iff_ne.mpr Lj
             by_cases Lk:((y17 Aa Ad).f0)=4
             ·as_aux_lemma =>
              rw [if_pos Lk]at H
              have Gm:(((y17 Aa Ad).f0) == 4)=true:=beq_iff_eq.mpr Lk
              have Gn:(((y17 Aa Ad).f0) != 4)=false:=bne_eq_false_iff_eq.mpr Lk
              clear Lk
              have H':=y0.mk H
              clear H
              have Xk:=Ar.out
              have Xl:=Ao.out
              obtain⟨Jm,Jn,Jo,Jp,Jq,Jr⟩:=qz3 Ah.out
              go_wp2
              go_loopg [9,10] Li (fun kq v9 bE w'=>∃(Du:ByteArray) (Au:Int),v9=.string Du∧bE=.int .i64 Au∧y0 (z6_.l2 kq Az As Ad Du Au Aa Av Aw Ak Al ((y17 Aa Ad).f0) ((y17 Aa Ad).f1) ((y17 Aa Ad).f2)=some (r1,r2))∧y0 (kq≤Li)∧y0 (Kd.R (Kd.int .i64) 3 w' w.heap.size (fun k_=>(w.heap.size≤k_)) Ay Az)∧y0 (Kd.R Kd.string 9 w' w.heap.size (fun k_=>(w.heap.size≤k_)) Aq As)∧y0 (Kd.V (Kd.int .i64) 3 w' w.heap.size (fun k_=>((P0_3_ k_∨P0_4_ k_)∨w.heap.size≤k_)∧some k_≠(Ay:Value).ownBlock∧some k_≠(Aq:Value).ownBlock∧k_≠Af∧k_≠Am) (.slice Bc Ak.length Bd) Ak)∧y0 (Kd.V k33 33 w' w.heap.size (fun k_=>((P0_3_ k_∨P0_4_ k_)∨w.heap.size≤k_)∧some k_≠(Ay:Value).ownBlock∧some k_≠(Aq:Value).ownBlock∧k_≠Af∧k_≠Am) (.slice Bg Al.length Bh) Al)∧y0 (w'.heap[Af]?=some (.cells #[(.slice (some Cn) Aa.length Bx),.int .i64 Av,.string Aw,(.slice Bc Ak.length Bd),(.slice Bg Al.length Bh)] 36 (0,0)))∧y0 (w'.heap[Am]?=some (.cells #[.int .i64 ((y17 Aa Ad).f0),.string ((y17 Aa Ad).f1),(.slice Bz ((y17 Aa Ad).f2).length Bn)] 63 (0,0)))∧y0 (Below w.heap.size w w'))
              case atStart=>exact⟨(((y17 Aa Ad).f1)),(0),qy2,qy2,H',⟨Nat.le_refl _⟩,⟨qR Aj.out⟩,⟨qR Ai.out⟩,⟨qV Ab.out⟩,⟨qV Ac.out⟩,⟨qk Ae.out⟩,⟨qk Ah.out⟩,⟨qb⟩⟩
              case round =>
               clear H'
               (try clear Og Kl Km Gm Gn Jm Jn Jo Jp Jq Jr)
               obtain⟨Du,Au,rfl,rfl,HA,Nm,Aj,Ai,Ab,Ac,Ae,Ah,HB⟩:=hrel
               cases gk with
               | zero=>exact absurd HA.out (by simp [z6_.l2])
               | succ k4 =>
                have H:=HA.out
                clear HA
                simp only [z6_.l2]at H
                by_cases Nn:Au < (((y17 Aa Ad).f2).length:Int)
                ·as_aux_lemma =>
                 rw [if_pos Nn]at H
                 have Oh:=decide_eq_true Nn
                 clear Nn
                 by_cases Ll:Au=0
                 ·as_aux_lemma =>
                  rw [if_pos Ll]at H
                  have Oi:(Au == 0)=true:=beq_iff_eq.mpr Ll
                  have Oj:(Au != 0)=false:=bne_eq_false_iff_eq.mpr Ll
                  clear Ll
                  obtain⟨Uz,H⟩:=qo H
                  have Xm:=eq_true Uz
                  have Xn:=decide_eq_true Uz
                  have Xo:=eq_false (Nat.not_lt.2 Uz)
                  obtain⟨Xp,H⟩:=qo H
                  have Xq:decide (0≤Au)=true:=decide_eq_true Xp
                  clear Xp
                  obtain⟨Xr,H⟩:=qo H
                  have Xs:decide (0≤(rd ((y17 Aa Ad).f2) Au))=true:=decide_eq_true Xr
                  clear Xr
                  obtain⟨Xt,H⟩:=qo H
                  have Xu:decide ((rd ((y17 Aa Ad).f2) Au) < (As.length:Int))=true:=decide_eq_true Xt
                  clear Xt
                  obtain⟨Va,H⟩:=qo H
                  have Xv:=eq_true Va
                  have Xw:=decide_eq_true Va
                  have Ok:=eq_false (Nat.not_lt.2 Va)
                  have Xx:(9223372036854775807 < Du.size + 1 + (rdOf ByteArray.empty As (rd ((y17 Aa Ad).f2) Au)).size)=False:=qs Ok
                  have H':=y0.mk H
                  clear H
                  have Xy:=Ar.out
                  have Xz:=Ao.out
                  obtain⟨Rq,Rs,Rt,Ru,Rv,Rw⟩:=qz3 Ah.out
                  have Lm:0≤(Au:Int):=of_decide_eq_true qy0
                  have Ln:Au < (((y17 Aa Ad).f2).length:Int):=of_decide_eq_true qy0
                  obtain⟨Ya,Vb,Dv⟩:=Kd.at_int Cb.out Au Lm Ln
                  cases Vb
                  replace Dv:=(HB.out.cell (World.block_lt_of_cell? w _ Dv)).trans Dv
                  replace Lm:=eq_true Lm
                  replace Ln:=eq_true Ln
                  obtain⟨bF,bG,Vc⟩:=Kd.R_slice Ai.out
                  subst Vc
                  have Lo:0≤((rd ((y17 Aa Ad).f2) Au):Int):=of_decide_eq_true qy0
                  have Lp:(rd ((y17 Aa Ad).f2) Au) < (As.length:Int):=of_decide_eq_true qy0
                  obtain⟨Yb,Vd,Rx⟩:=Kd.at_string (Kd.R_reads' Ai.out).2.2 (rd ((y17 Aa Ad).f2) Au) Lo Lp
                  cases Vd
                  replace Lo:=eq_true Lo
                  replace Lp:=eq_true Lp
                  go_wp2
                  go_roundg k4
                  case measure=>have:=Cv.out;have:=Cu.out;have:=Cy.out;have:=Nm.out;omega
                  exact⟨((Du ++ (⟨#[40]⟩:ByteArray)) ++ (rdOf ByteArray.empty As (rd ((y17 Aa Ad).f2) Au))),(wrap64 (Au + 1)),qy2,qy2,H',⟨by have:=Cv.out;have:=Cu.out;have:=Cy.out;have:=Nm.out;omega⟩,⟨qR Aj.out⟩,⟨qR Ai.out⟩,⟨qV Ab.out⟩,⟨qV Ac.out⟩,⟨qk Ae.out⟩,⟨qk Ah.out⟩,⟨qb⟩⟩
                 ·as_aux_lemma =>
                  rw [if_neg Ll]at H
                  have Oi:(Au == 0)=false:=beq_eq_false_iff_ne.mpr Ll
                  have Oj:(Au != 0)=true:=bne_iff_ne.mpr Ll
                  obtain⟨Ve,H⟩:=qo H
                  have Yc:=eq_true Ve
                  have Yd:=decide_eq_true Ve
                  have Ye:=eq_false (Nat.not_lt.2 Ve)
                  obtain⟨Yf,H⟩:=qo H
                  have Yg:decide (0≤Au)=true:=decide_eq_true Yf
                  clear Yf
                  obtain⟨Yh,H⟩:=qo H
                  have Yi:decide (0≤(rd ((y17 Aa Ad).f2) Au))=true:=decide_eq_true Yh
                  clear Yh
                  obtain⟨Yj,H⟩:=qo H
                  have Yk:decide ((rd ((y17 Aa Ad).f2) Au) < (As.length:Int))=true:=decide_eq_true Yj
                  clear Yj
                  obtain⟨Vf,H⟩:=qo H
                  have Yl:=eq_true Vf
                  have Ym:=decide_eq_true Vf
                  have Ol:=eq_false (Nat.not_lt.2 Vf)
                  have Yn:(9223372036854775807 < Du.size + 2 + (rdOf ByteArray.empty As (rd ((y17 Aa Ad).f2) Au)).size)=False:=qs Ol
                  have H':=y0.mk H
                  clear H
                  have Yo:=Ar.out
                  have Yp:=Ao.out
                  obtain⟨Ry,Rz,Sa,Sb,Sc,Sd⟩:=qz3 Ah.out
                  have Lq:0≤(Au:Int):=of_decide_eq_true qy0
                  have Lr:Au < (((y17 Aa Ad).f2).length:Int):=of_decide_eq_true qy0
                  obtain⟨Yq,Vg,Dw⟩:=Kd.at_int Cb.out Au Lq Lr
                  cases Vg
                  replace Dw:=(HB.out.cell (World.block_lt_of_cell? w _ Dw)).trans Dw
                  replace Lq:=eq_true Lq
                  replace Lr:=eq_true Lr
                  obtain⟨bH,bI,Vh⟩:=Kd.R_slice Ai.out
                  subst Vh
                  have Ls:0≤((rd ((y17 Aa Ad).f2) Au):Int):=of_decide_eq_true qy0
                  have Lt:(rd ((y17 Aa Ad).f2) Au) < (As.length:Int):=of_decide_eq_true qy0
                  obtain⟨Yr,Vi,Se⟩:=Kd.at_string (Kd.R_reads' Ai.out).2.2 (rd ((y17 Aa Ad).f2) Au) Ls Lt
                  cases Vi
                  replace Ls:=eq_true Ls
                  replace Lt:=eq_true Lt
                  go_wp2
                  go_roundg k4
                  case measure=>have:=Cv.out;have:=Cu.out;have:=Cy.out;have:=Nm.out;omega
                  exact⟨((Du ++ (⟨#[44,32]⟩:ByteArray)) ++ (rdOf ByteArray.empty As (rd ((y17 Aa Ad).f2) Au))),(wrap64 (Au + 1)),qy2,qy2,H',⟨by have:=Cv.out;have:=Cu.out;have:=Cy.out;have:=Nm.out;omega⟩,⟨qR Aj.out⟩,⟨qR Ai.out⟩,⟨qV Ab.out⟩,⟨qV Ac.out⟩,⟨qk Ae.out⟩,⟨qk Ah.out⟩,⟨qb⟩⟩
                ·as_aux_lemma =>
                 rw [if_neg Nn]at H
                 have Oh:=decide_eq_false Nn
                 clear Nn
                 by_cases Np:(((y17 Aa Ad).f2).length:Int) > 0
                 ·as_aux_lemma =>
                  rw [if_pos Np]at H
                  have Om:decide (0 < (((y17 Aa Ad).f2).length:Int))=true:=decide_eq_true Np
                  have On:decide (0 < ((y17 Aa Ad).f2).length)=true:=decide_eq_true (by omega)
                  clear Np
                  obtain⟨Vj,H⟩:=qo H
                  have Ys:=eq_true Vj
                  have Yt:=decide_eq_true Vj
                  have Yu:=eq_false (Nat.not_lt.2 Vj)
                  have H':=y0.mk H
                  clear H
                  have Yv:=Ar.out
                  have Yw:=Ao.out
                  obtain⟨Sf,Sg,Sh,Si,Sj,Sk⟩:=qz3 Ah.out
                  go_wp2
                  go_meet
                  exact⟨_,(Du ++ (⟨#[41]⟩:ByteArray)),qy2,H',⟨by have:=Cv.out;have:=Cu.out;have:=Cy.out;have:=Nm.out;first|omega|exact Nat.le_refl _⟩,⟨qR Aj.out⟩,⟨qR Ai.out⟩,⟨qV Ab.out⟩,⟨qV Ac.out⟩,⟨qk Ae.out⟩,⟨qk Ah.out⟩,⟨qb⟩⟩
                 ·as_aux_lemma =>
                  rw [if_neg Np]at H
                  have Om:decide (0 < (((y17 Aa Ad).f2).length:Int))=false:=decide_eq_false Np
                  have On:decide (0 < ((y17 Aa Ad).f2).length)=false:=decide_eq_false (by omega)
                  clear Np
                  have H':=y0.mk H
                  clear H
                  have Yx:=Ar.out
                  have Yy:=Ao.out
                  obtain⟨Sl,Sm,Sn,So,Sp,Sq⟩:=qz3 Ah.out
                  go_wp2
                  go_meet
                  exact⟨_,(Du),qy2,H',⟨by have:=Cv.out;have:=Cu.out;have:=Cy.out;have:=Nm.out;first|omega|exact Nat.le_refl _⟩,⟨qR Aj.out⟩,⟨qR Ai.out⟩,⟨qV Ab.out⟩,⟨qV Ac.out⟩,⟨qk Ae.out⟩,⟨qk Ah.out⟩,⟨qb⟩⟩
             ·as_aux_lemma =>
              rw [if_neg Lk]at H
              have Gm:(((y17 Aa Ad).f0) == 4)=false:=beq_eq_false_iff_ne.mpr Lk
              have Gn:(((y17 Aa Ad).f0) != 4)=true:=bne_iff_ne.mpr Lk
              have Lu:=y0.mk H
              clear H
              go_upto_if 111 with(fail)
              go_cut [111] (fun Vk wc=>∃(kq:Nat) (Dd:Bool),Vk=.bool Dd∧y0 (z6_.j4 kq Az As Ad Dd Aa Av Aw Ak Al ((y17 Aa Ad).f0) ((y17 Aa Ad).f1) ((y17 Aa Ad).f2)=some (r1,r2))∧y0 (kq≤Li)∧y0 (Kd.R (Kd.int .i64) 3 wc w.heap.size (fun k_=>(w.heap.size≤k_)) Ay Az)∧y0 (Kd.R Kd.string 9 wc w.heap.size (fun k_=>(w.heap.size≤k_)) Aq As)∧y0 (Kd.V (Kd.int .i64) 3 wc w.heap.size (fun k_=>((P0_3_ k_∨P0_4_ k_)∨w.heap.size≤k_)∧some k_≠(Ay:Value).ownBlock∧some k_≠(Aq:Value).ownBlock∧k_≠Af∧k_≠Am) (.slice Bc Ak.length Bd) Ak)∧y0 (Kd.V k33 33 wc w.heap.size (fun k_=>((P0_3_ k_∨P0_4_ k_)∨w.heap.size≤k_)∧some k_≠(Ay:Value).ownBlock∧some k_≠(Aq:Value).ownBlock∧k_≠Af∧k_≠Am) (.slice Bg Al.length Bh) Al)∧y0 (wc.heap[Af]?=some (.cells #[(.slice (some Cn) Aa.length Bx),.int .i64 Av,.string Aw,(.slice Bc Ak.length Bd),(.slice Bg Al.length Bh)] 36 (0,0)))∧y0 (wc.heap[Am]?=some (.cells #[.int .i64 ((y17 Aa Ad).f0),.string ((y17 Aa Ad).f1),(.slice Bz ((y17 Aa Ad).f2).length Bn)] 63 (0,0)))∧y0 (Below w.heap.size w wc))
              case first =>
               have H:=Lu.out
               clear Lu
               by_cases Lv:((y17 Aa Ad).f0)=5
               ·as_aux_lemma =>
                rw [if_pos Lv]at H
                have Em:(((y17 Aa Ad).f0) == 5)=true:=beq_iff_eq.mpr Lv
                have Oo:(((y17 Aa Ad).f0) != 5)=false:=bne_eq_false_iff_eq.mpr Lv
                clear Lv
                (first|rw [Em]|(simp only [i64_w,i32_w];rw [Em])|skip)
                have H':=y0.mk H
                clear H
                go_wp2
                go_meet
                exact⟨_,((((y17 Aa Ad).f0) == 5)),qy2,H',⟨by have:=Cv.out;have:=Cu.out;have:=Cy.out;first|omega|exact Nat.le_refl _⟩,⟨qR Aj.out⟩,⟨qR Ai.out⟩,⟨qV Ab.out⟩,⟨qV Ac.out⟩,⟨qk Ae.out⟩,⟨qk Ah.out⟩,⟨qb⟩⟩
               ·as_aux_lemma =>
                rw [if_neg Lv]at H
                have Em:(((y17 Aa Ad).f0) == 5)=false:=beq_eq_false_iff_ne.mpr Lv
                have Oo:(((y17 Aa Ad).f0) != 5)=true:=bne_iff_ne.mpr Lv
                (first|rw [Em]|(simp only [i64_w,i32_w];rw [Em])|skip)
                by_cases Lw:((y17 Aa Ad).f0)=6
                ·as_aux_lemma =>
                 rw [if_pos Lw]at H
                 have Op:(((y17 Aa Ad).f0) == 6)=true:=beq_iff_eq.mpr Lw
                 have Oq:(((y17 Aa Ad).f0) != 6)=false:=bne_eq_false_iff_eq.mpr Lw
                 clear Lw
                 have H':=y0.mk H
                 clear H
                 go_wp2
                 go_meet
                 exact⟨_,((((y17 Aa Ad).f0) == 6)),qy2,H',⟨by have:=Cv.out;have:=Cu.out;have:=Cy.out;first|omega|exact Nat.le_refl _⟩,⟨qR Aj.out⟩,⟨qR Ai.out⟩,⟨qV Ab.out⟩,⟨qV Ac.out⟩,⟨qk Ae.out⟩,⟨qk Ah.out⟩,⟨qb⟩⟩
                ·as_aux_lemma =>
                 rw [if_neg Lw]at H
                 have Op:(((y17 Aa Ad).f0) == 6)=false:=beq_eq_false_iff_ne.mpr Lw
                 have Oq:(((y17 Aa Ad).f0) != 6)=true:=bne_iff_ne.mpr Lw
                 have H':=y0.mk H
                 clear H
                 go_wp2
                 go_meet
                 exact⟨_,((((y17 Aa Ad).f0) == 7)),qy2,H',⟨by have:=Cv.out;have:=Cu.out;have:=Cy.out;first|omega|exact Nat.le_refl _⟩,⟨qR Aj.out⟩,⟨qR Ai.out⟩,⟨qV Ab.out⟩,⟨qV Ac.out⟩,⟨qk Ae.out⟩,⟨qk Ah.out⟩,⟨qb⟩⟩
              case rest =>
               clear Lu
               (try clear Gm Gn)
               obtain⟨kq,Dd,rfl,HA,Vl,Aj,Ai,Ab,Ac,Ae,Ah,HB⟩:=hcut
               cases kq with
               | zero=>exact absurd HA.out (by simp [z6_.j4])
               | succ Ot =>
                have H:=HA.out
                clear HA
                simp only [z6_.j4]at H
                by_cases Sr:Dd=true
                ·subst Sr
                 replace H:=qT H
                 by_cases Lx:(((y17 Aa Ad).f2).length:Int)=2
                 ·as_aux_lemma =>
                  rw [if_pos Lx]at H
                  have Ou:((((y17 Aa Ad).f2).length:Int) == 2)=true:=beq_iff_eq.mpr Lx
                  have Ov:((((y17 Aa Ad).f2).length:Int) != 2)=false:=bne_eq_false_iff_eq.mpr Lx
                  clear Lx
                  obtain⟨Cz,En⟩:∃ y_:List ByteArray,y_=(([(⟨#[32,43,32]⟩:ByteArray),(⟨#[32,45,32]⟩:ByteArray),(⟨#[32,42,32]⟩:ByteArray)]:List ByteArray)):=⟨_,rfl⟩
                  replace H:(if 0≤(wrap64 (((y17 Aa Ad).f0) - 5))then(if(wrap64 (((y17 Aa Ad).f0) - 5)) < (Cz.length:Int)then(if 0 < (((y17 Aa Ad).f2).length:Int)then((spec_l04Side.f Aa Av Aw Ak Al As (rd ((y17 Aa Ad).f2) 0)).bind fun Dj=>(if Dj.size + (rdOf ByteArray.empty Cz (wrap64 (((y17 Aa Ad).f0) - 5))).size≤9223372036854775807 then(if 1 < (((y17 Aa Ad).f2).length:Int)then((spec_l04Side.f Aa Av Aw Ak Al As (rd ((y17 Aa Ad).f2) 1)).bind fun Dx=>(if(Dj ++ (rdOf ByteArray.empty Cz (wrap64 (((y17 Aa Ad).f0) - 5)))).size + Dx.size≤9223372036854775807 then(z6_.j5 Ot Az As Ad ((Dj ++ (rdOf ByteArray.empty Cz (wrap64 (((y17 Aa Ad).f0) - 5)))) ++ Dx) Aa Av Aw Ak Al ((y17 Aa Ad).f0) ((y17 Aa Ad).f1) ((y17 Aa Ad).f2))else(none)))else(none))else(none)))else(none))else(none))else(none))=some (r1,r2):=by first|(rw [En];with_reducible exact H)|(have H2_:=(Option.bind_some _ _).symm.trans H;rw [En];with_reducible exact H2_)|(have H2_:=(Option.bind_some _ _).symm.trans H;with_reducible exact H2_)|with_reducible exact H|(rw [En];exact H)|exact H
                  have Kn:=y0.mk En
                  clear En
                  obtain⟨Cw,Eo⟩:∃ j_:Int,(wrap64 (((y17 Aa Ad).f0) - 5))=j_:=⟨_,rfl⟩
                  replace H:(if 0≤(Cw)then(if(Cw) < (Cz.length:Int)then(if 0 < (((y17 Aa Ad).f2).length:Int)then((spec_l04Side.f Aa Av Aw Ak Al As (rd ((y17 Aa Ad).f2) 0)).bind fun Dj=>(if Dj.size + (rdOf ByteArray.empty Cz (Cw)).size≤9223372036854775807 then(if 1 < (((y17 Aa Ad).f2).length:Int)then((spec_l04Side.f Aa Av Aw Ak Al As (rd ((y17 Aa Ad).f2) 1)).bind fun Dx=>(if(Dj ++ (rdOf ByteArray.empty Cz (Cw))).size + Dx.size≤9223372036854775807 then(z6_.j5 Ot Az As Ad ((Dj ++ (rdOf ByteArray.empty Cz (Cw))) ++ Dx) Aa Av Aw Ak Al ((y17 Aa Ad).f0) ((y17 Aa Ad).f1) ((y17 Aa Ad).f2))else(none)))else(none))else(none)))else(none))else(none))else(none))=some (r1,r2):=by first|(rw [Eo]at H;exact H)|(simp only [Eo]at H ⊢;exact H)
                  have hji78w:(IntKind.i64.wrap (((y17 Aa Ad).f0) - 5))=Cw:=(i64_w _).trans Eo
                  obtain⟨Yz,H⟩:=qo H
                  have Za:decide (0≤(Cw))=true:=decide_eq_true Yz
                  clear Yz
                  obtain⟨Zb,H⟩:=qo H
                  have Zc:decide ((Cw) < (Cz.length:Int))=true:=decide_eq_true Zb
                  clear Zb
                  obtain⟨Zd,H⟩:=qo H
                  have Ze:decide (0 < (((y17 Aa Ad).f2).length:Int))=true:=decide_eq_true Zd
                  have Zf:decide (0 < ((y17 Aa Ad).f2).length)=true:=decide_eq_true (by omega)
                  clear Zd
                  obtain⟨Dj,bJ,H⟩:=qB H
                  obtain⟨Vm,H⟩:=qo H
                  have Zg:=eq_true Vm
                  have Zh:=decide_eq_true Vm
                  have Zi:=eq_false (Nat.not_lt.2 Vm)
                  obtain⟨Zj,H⟩:=qo H
                  have Zk:decide (1 < (((y17 Aa Ad).f2).length:Int))=true:=decide_eq_true Zj
                  have Zl:decide (1 < ((y17 Aa Ad).f2).length)=true:=decide_eq_true (by omega)
                  clear Zj
                  obtain⟨Dx,bK,H⟩:=qB H
                  obtain⟨Vn,H⟩:=qo H
                  have Zm:=eq_true Vn
                  have Zn:=decide_eq_true Vn
                  have Ow:=eq_false (Nat.not_lt.2 Vn)
                  have Zo:(9223372036854775807 < Dj.size + (rdOf ByteArray.empty Cz (Cw)).size + Dx.size)=False:=qs Ow
                  have H':=y0.mk H
                  clear H
                  have Zp:=Ar.out
                  have Zq:=Ao.out
                  obtain⟨Ss,St,Su,Sv,Sw,Sx⟩:=qz3 Ah.out
                  try go_wp2_with (first|((with_reducible refine y14 (N:=120) rfl ?_);(try(refine gate_guard (by rfl) ?_;dsimp only));refine qL Kd.string 9 120 ([(⟨#[32,43,32]⟩:ByteArray),(⟨#[32,45,32]⟩:ByteArray),(⟨#[32,42,32]⟩:ByteArray)]:List ByteArray) ?_;intro bL bM Ep hb hg_ hnew_;clear hg_ hnew_;(first|rw [← Kn.out]at Ep|(simp only [Int.reduceToNat]at Ep;rw [← Kn.out]at Ep));replace Aj:=y0.mk (Kd.R_below (qR Aj.out) hb);replace Ab:=y0.mk (Kd.V_elder' (qV Ab.out) (Kd.R_base Ep) hb);replace Ac:=y0.mk (Kd.V_elder' (qV Ac.out) (Kd.R_base Ep) hb);have Cp:=y0.mk (Kd.R_lower (Kd.R_new' (Kd.R_newM (M:=fun k_=>(w.heap.size≤k_)) Ep (y2 qb) (fun k_ h_=>h_)) (Kd.R_lt (qR Ai.out))) (y2 qb));replace Ai:=y0.mk (Kd.R_elder' (qR Ai.out) (Kd.R_base Ep) hb);replace Ae:=y0.mk (qK Ae.out hb);replace Ah:=y0.mk (qK Ah.out hb);replace HB:=y0.mk (y3 qb hb);clear hb Ep;obtain⟨Sy,Sz,Ta,Tc,Td,Te⟩:=qz3 Ah.out;obtain⟨bN,bO,Vo⟩:=Kd.R_slice Cp.out;subst Vo;have Ly:0≤((Cw):Int):=of_decide_eq_true qy0;have Lz:(Cw) < (Cz.length:Int):=of_decide_eq_true qy0;obtain⟨Zr,Vp,Tf⟩:=Kd.at_string (Kd.R_reads' Cp.out).2.2 (Cw) Ly Lz;cases Vp;replace Ly:=eq_true Ly;replace Lz:=eq_true Lz))
                  replace Aj:=y0.mk (Kd.R_drew Aj.out)
                  replace Ai:=y0.mk (Kd.R_drew Ai.out)
                  replace Ab:=y0.mk (Kd.V_drew Ab.out)
                  replace Ac:=y0.mk (Kd.V_drew Ac.out)
                  replace Cp:=y0.mk (Kd.R_drew Cp.out)
                  replace Ae:=y0.mk (y7 Ae.out)
                  replace Ah:=y0.mk (y7 Ah.out)
                  replace HB:=y0.mk (below_drew1 HB.out)
                  have Ma:0≤(0:Int):=(by omega)
                  have Mb:0 < (((y17 Aa Ad).f2).length:Int):=of_decide_eq_true qy0
                  obtain⟨Eq,Vq,Cc⟩:=Kd.at_int Cb.out 0 Ma Mb
                  have Bq:=Cc
                  (try rw [show((0:Int)).toNat=0 from rfl]at Bq)
                  (try rw [show 0 * 1=0 from rfl]at Bq)
                  (try rw [Addr.add_zero']at Bq)
                  cases Vq
                  have Zs:(0 < ((y17 Aa Ad).f2).length)=True:=eq_true (by omega)
                  (try rw [show((0:Int)).toNat=0 from rfl]at Cc)
                  (try rw [Addr.add_zero']at Cc)
                  replace Cc:=(HB.out.cell (World.block_lt_of_cell? w _ Cc)).trans Cc
                  replace Ma:=eq_true Ma
                  replace Mb:=eq_true Mb
                  have Mc:0≤(1:Int):=(by omega)
                  have Md:1 < (((y17 Aa Ad).f2).length:Int):=of_decide_eq_true qy0
                  obtain⟨Ox,Vr,Cd⟩:=Kd.at_int Cb.out 1 Mc Md
                  have Br:=Cd
                  (try rw [show((1:Int)).toNat=1 from rfl]at Br)
                  (try rw [show 1 * 1=1 from rfl]at Br)
                  (try simp only [Nat.reduceMul,Nat.reduceEqDiff,Go.Addr.add,↓reduceIte]at Br)
                  obtain rfl:Eq=Ox:=(by injection Vr)
                  (try simp only [show(1:Int).toNat=1 from rfl,Nat.reduceMul,Nat.reduceEqDiff,Go.Addr.add,↓reduceIte]at Cd)
                  have Zt:(1 < ((y17 Aa Ad).f2).length)=True:=eq_true (by omega)
                  (try rw [show((1:Int)).toNat=1 from rfl]at Cd)
                  replace Cd:=(HB.out.cell (World.block_lt_of_cell? w _ Cd)).trans Cd
                  replace Mc:=eq_true Mc
                  replace Md:=eq_true Md
                  obtain⟨Oy,Oz,Pa⟩:=Kd.R_slice Ai.out
                  (first|subst Pa|(injection Pa with f1_ f2_ f3_;have f4_:=f1_.symm;have f5_:=f3_.symm;clear f1_ f2_ f3_;subst f4_;subst f5_))
                  refine start_ (n:=18) (S:=fun w'=>w'.cell? ⟨Af,0,none⟩=some (.slice (some Cn) Aa.length Bx)∧w'.cell? ⟨Af,1,none⟩=some (.int .i64 Av)∧w'.cell? ⟨Af,2,none⟩=some (.string Aw)∧w'.cell? ⟨Af,3,none⟩=some (.slice Bc Ak.length Bd)∧w'.cell? ⟨Af,4,none⟩=some (.slice Bg Al.length Bh)∧w'.cell? ⟨Am,0,none⟩=some (.int .i64 ((y17 Aa Ad).f0))∧w'.cell? ⟨Am,1,none⟩=some (.string ((y17 Aa Ad).f1))∧w'.cell? ⟨Am,2,none⟩=some (.slice (some Eq) ((y17 Aa Ad).f2).length Bn)∧w'.cell? Eq=some (.int .i64 (rd ((y17 Aa Ad).f2) 0))∧w'.cell? ⟨Eq.block,Eq.off + 1,none⟩=some (.int .i64 (rd ((y17 Aa Ad).f2) 1))) (ds:=[]) (fl_ 18 0) (by kernel_rfl) rfl rfl ⟨(y6 Ae.out 0).trans rfl,(y6 Ae.out 1).trans rfl,(y6 Ae.out 2).trans rfl,(y6 Ae.out 3).trans rfl,(y6 Ae.out 4).trans rfl,(y6 Ah.out 0).trans rfl,(y6 Ah.out 1).trans rfl,(y6 Ah.out 2).trans rfl,((HB.out.cell (World.block_lt_of_cell? w _ Bq)).trans Bq),((HB.out.cell (World.block_lt_of_cell? w _ Br)).trans Br)⟩ (fun hHeld=>?_);refine with_tabW z6_.tab40 z6_.bits40 (fun HT_ HW_=>?_)
                  generalize bM.drew=bY at Aj Ai Ab Ac Cp Ae Ah HB Cc Cd hHeld ⊢
                  refine qp 1 127 (fl_ 18 2) ?_
                  refine qp 2 128 (fl_ 18 6) ?_
                  refine qp 7 133 (fl_ 18 134) ?_
                  refine qp 10 136 (fl_ 18 1158) ?_
                  refine qp 11 137 (fl_ 18 3206) ?_
                  refine qt 0 126 (fl_ 18 3207) hHeld ?_
                  refine qt 3 129 (fl_ 18 3215) hHeld ?_
                  refine qp 4 130 (fl_ 18 3231) ?_
                  refine qt 5 131 (fl_ 18 3263) hHeld ?_
                  refine qt 9 135 (fl_ 18 3775) hHeld ?_
                  refine qt 12 138 (fl_ 18 7871) hHeld ?_
                  refine qp 13 139 (fl_ 18 16063) ?_
                  refine qt 14 140 (fl_ 18 32447) hHeld ?_
                  refine qO 6 132 (fl_ 18 32511) (fun K hK=>?_)
                  refine goes_ Try.func66 (by kernel_rfl) rfl #[.agg #[.slice (some Cn) Aa.length Bx,.int .i64 Av,.string Aw,.slice Bc Ak.length Bd,.slice Bg Al.length Bh],.slice Oy As.length Oz,.int .i64 (rd ((y17 Aa Ad).f2) 0)] (by rfl) rfl rfl qy1 ?_
                  with_reducible refine(spec_l04Side.calls _ _ Aa Av Aw _ _ Ak _ _ Al _ _ As (rd ((y17 Aa Ad).f2) 0) Dj _ (qc (Kd.C_below Gi.out HB.out)) Kg.out (qc ((Kd.V_reads' Ab.out).2.2)) (by exact(Kd.V_reads' Ab.out).2.1) (qc ((Kd.V_reads' Ac.out).2.2)) (by exact(Kd.V_reads' Ac.out).2.1) (qc ((Kd.R_reads' Ai.out).2.2)) (by exact(Kd.R_reads' Ai.out).2.1) bJ.out).mono ?_
                  rintro e bZ ⟨rfl,hb⟩
                  refine⟨_,rfl, ?_⟩
                  replace Aj:=y0.mk (Kd.R_below (qR Aj.out) hb)
                  replace Ai:=y0.mk (Kd.R_below (qR Ai.out) hb)
                  replace Ab:=y0.mk (Kd.V_below (qV Ab.out) hb)
                  replace Ac:=y0.mk (Kd.V_below (qV Ac.out) hb)
                  replace Cp:=y0.mk (Kd.R_below (qR Cp.out) hb)
                  replace Ae:=y0.mk (qK Ae.out hb)
                  replace Ah:=y0.mk (qK Ah.out hb)
                  replace HB:=y0.mk (y3 qb hb)
                  (try clear hb)
                  refine hK.out _ _ ⟨(y6 Ae.out 0).trans rfl,(y6 Ae.out 1).trans rfl,(y6 Ae.out 2).trans rfl,(y6 Ae.out 3).trans rfl,(y6 Ae.out 4).trans rfl,(y6 Ah.out 0).trans rfl,(y6 Ah.out 1).trans rfl,(y6 Ah.out 2).trans rfl,((HB.out.cell (World.block_lt_of_cell? w _ Bq)).trans Bq),((HB.out.cell (World.block_lt_of_cell? w _ Br)).trans Br)⟩ (fun hHeld=>?_)
                  clear hK K
                  refine qx 132 ?_
                  refine qp 8 134 (fl_ 18 32767) ?_
                  refine qO 15 141 (fl_ 18 65535) (fun K hK=>?_)
                  refine goes_ Try.func66 (by kernel_rfl) rfl #[.agg #[.slice (some Cn) Aa.length Bx,.int .i64 Av,.string Aw,.slice Bc Ak.length Bd,.slice Bg Al.length Bh],.slice Oy As.length Oz,.int .i64 (rd ((y17 Aa Ad).f2) 1)] (by rfl) rfl rfl qy1 ?_
                  with_reducible refine(spec_l04Side.calls _ _ Aa Av Aw _ _ Ak _ _ Al _ _ As (rd ((y17 Aa Ad).f2) 1) Dx _ (qc (Kd.C_below Gi.out HB.out)) Kg.out (qc ((Kd.V_reads' Ab.out).2.2)) (by exact(Kd.V_reads' Ab.out).2.1) (qc ((Kd.V_reads' Ac.out).2.2)) (by exact(Kd.V_reads' Ac.out).2.1) (qc ((Kd.R_reads' Ai.out).2.2)) (by exact(Kd.R_reads' Ai.out).2.1) bK.out).mono ?_
                  rintro e cA ⟨rfl,hb⟩
                  refine⟨_,rfl, ?_⟩
                  replace Aj:=y0.mk (Kd.R_below (qR Aj.out) hb)
                  replace Ai:=y0.mk (Kd.R_below (qR Ai.out) hb)
                  replace Ab:=y0.mk (Kd.V_below (qV Ab.out) hb)
                  replace Ac:=y0.mk (Kd.V_below (qV Ac.out) hb)
                  replace Cp:=y0.mk (Kd.R_below (qR Cp.out) hb)
                  replace Ae:=y0.mk (qK Ae.out hb)
                  replace Ah:=y0.mk (qK Ah.out hb)
                  replace HB:=y0.mk (y3 qb hb)
                  (try clear hb)
                  refine hK.out _ _ ⟨(y6 Ae.out 0).trans rfl,(y6 Ae.out 1).trans rfl,(y6 Ae.out 2).trans rfl,(y6 Ae.out 3).trans rfl,(y6 Ae.out 4).trans rfl,(y6 Ah.out 0).trans rfl,(y6 Ah.out 1).trans rfl,(y6 Ah.out 2).trans rfl,((HB.out.cell (World.block_lt_of_cell? w _ Bq)).trans Bq),((HB.out.cell (World.block_lt_of_cell? w _ Br)).trans Br)⟩ (fun hHeld=>?_)
                  clear hK K
                  refine qx 141 ?_
                  refine qp 16 142 (fl_ 18 131071) ?_
                  refine qp 17 9 (fl_ 18 262143) ?_
                  refine done_ (done_of HT_.out (by kernel_rfl)) ?_
                  try go_wp2
                  go_meet
                  exact⟨_,((Dj ++ (rdOf ByteArray.empty Cz (Cw))) ++ Dx),(by first|rfl|(simp;done)|(simp only [← Eo] <;> (first|rfl|simp))|(simp [*];done)),(by first|exact H'|(have h_:=H';simp only [← Eo]at h_ ⊢;exact h_)),⟨by have:=Cv.out;have:=Cu.out;have:=Cy.out;have:=Vl.out;first|omega|exact Nat.le_refl _⟩,⟨qR Aj.out⟩,⟨qR (Kd.R_mono Ai.out (fun _ hk=>hk.1))⟩,⟨qV (Kd.V_mono Ab.out (fun _ hk=>⟨hk.1.1,⟨hk.1.2.1,⟨hk.1.2.2.1,⟨hk.1.2.2.2.1,hk.1.2.2.2.2⟩⟩⟩⟩))⟩,⟨qV (Kd.V_mono Ac.out (fun _ hk=>⟨hk.1.1,⟨hk.1.2.1,⟨hk.1.2.2.1,⟨hk.1.2.2.2.1,hk.1.2.2.2.2⟩⟩⟩⟩))⟩,⟨qk Ae.out⟩,⟨qk Ah.out⟩,⟨qb⟩⟩
                 ·as_aux_lemma =>
                  rw [if_neg Lx]at H
                  have Ou:((((y17 Aa Ad).f2).length:Int) == 2)=false:=beq_eq_false_iff_ne.mpr Lx
                  have Ov:((((y17 Aa Ad).f2).length:Int) != 2)=true:=bne_iff_ne.mpr Lx
                  simp only [Option.some.injEq,Prod.mk.injEq]at H
                  obtain⟨rfl,rfl⟩:=H
                  have Zu:=Ar.out
                  have Zv:=Ao.out
                  obtain⟨Tg,Th,Ti,Tj,Tk,Tl⟩:=qz3 Ah.out
                  go_wp2
                  go_ret2
                  exact⟨_,by first|rfl|(simp [y10,y11] <;> rfl)|(simp [*,y10,y11] <;> rfl),by(with_reducible repeat(first|apply Kd.R_alloc|apply Kd.R_drewN|apply Kd.R_drew));exact Ai.out,qb⟩
                ·replace Sr:=Bool.eq_false_iff.mpr Sr
                 subst Sr
                 replace H:=qF H
                 simp only [Option.some.injEq,Prod.mk.injEq]at H
                 obtain⟨rfl,rfl⟩:=H
                 go_wp2
                 go_ret2
                 exact⟨_,by first|rfl|(simp [y10,y11] <;> rfl)|(simp [*,y10,y11] <;> rfl),by(with_reducible repeat(first|apply Kd.R_alloc|apply Kd.R_drewN|apply Kd.R_drew));exact Ai.out,qb⟩
        case rest =>
         clear Lf
         obtain⟨kq,Co,rfl,HA,Gp,Aj,Ai,Ab,Ac,Ae,Ah,HB⟩:=hcut
         cases kq with
         | zero=>exact absurd HA.out (by simp [z6_.j5])
         | succ Vs =>
          have H:=HA.out
          clear HA
          simp only [z6_.j5]at H
          have Me:=y0.mk H
          clear H
          go_upto_region 41 with(fail)
          go_cut [156] (fun Vt wc=>∃(kq:Nat) (De:Bool),Vt=.bool De∧y0 (z6_.j6 kq Az As Ad Co De Aa Av Aw Ak Al=some (r1,r2))∧y0 (kq≤Vs)∧y0 (Kd.R (Kd.int .i64) 3 wc w.heap.size (fun k_=>(w.heap.size≤k_)) Ay Az)∧y0 (Kd.R Kd.string 9 wc w.heap.size (fun k_=>(w.heap.size≤k_)) Aq As)∧y0 (Kd.V (Kd.int .i64) 3 wc w.heap.size (fun k_=>((P0_3_ k_∨P0_4_ k_)∨w.heap.size≤k_)∧some k_≠(Ay:Value).ownBlock∧some k_≠(Aq:Value).ownBlock∧k_≠Af∧k_≠Am) (.slice Bc Ak.length Bd) Ak)∧y0 (Kd.V k33 33 wc w.heap.size (fun k_=>((P0_3_ k_∨P0_4_ k_)∨w.heap.size≤k_)∧some k_≠(Ay:Value).ownBlock∧some k_≠(Aq:Value).ownBlock∧k_≠Af∧k_≠Am) (.slice Bg Al.length Bh) Al)∧y0 (wc.heap[Af]?=some (.cells #[(.slice (some Cn) Aa.length Bx),.int .i64 Av,.string Aw,(.slice Bc Ak.length Bd),(.slice Bg Al.length Bh)] 36 (0,0)))∧y0 (wc.heap[Am]?=some (.cells #[.int .i64 ((y17 Aa Ad).f0),.string ((y17 Aa Ad).f1),(.slice Bz ((y17 Aa Ad).f2).length Bn)] 63 (0,0)))∧y0 (Below w.heap.size w wc))
          case first =>
           have H:=Me.out
           clear Me
           by_cases Gd:((y17 Aa Ad).f0)≤3
           ·as_aux_lemma =>
            rw [if_pos Gd]at H
            have Dk:=decide_eq_true Gd
            clear Gd
            (first|rw [Dk]|(simp only [i64_w,i32_w];rw [Dk])|skip)
            by_cases Ge:(((y17 Aa Ad).f2).length:Int) > 0
            ·as_aux_lemma =>
             rw [if_pos Ge]at H
             have Mf:decide (0 < (((y17 Aa Ad).f2).length:Int))=true:=decide_eq_true Ge
             have Mg:decide (0 < ((y17 Aa Ad).f2).length)=true:=decide_eq_true (by omega)
             clear Ge
             have H':=y0.mk H
             clear H
             have Vu:=Ar.out
             have Vv:=Ao.out
             obtain⟨Pb,Pc,Pd,Pe,Pf,Ph⟩:=qz3 Ah.out
             go_wp2
             go_meet
             exact⟨_,(true),qy2,H',⟨by have:=Cv.out;have:=Cu.out;have:=Gp.out;first|omega|exact Nat.le_refl _⟩,⟨qR Aj.out⟩,⟨qR Ai.out⟩,⟨qV Ab.out⟩,⟨qV Ac.out⟩,⟨qk Ae.out⟩,⟨qk Ah.out⟩,⟨qb⟩⟩
            ·as_aux_lemma =>
             rw [if_neg Ge]at H
             have Mf:decide (0 < (((y17 Aa Ad).f2).length:Int))=false:=decide_eq_false Ge
             have Mg:decide (0 < ((y17 Aa Ad).f2).length)=false:=decide_eq_false (by omega)
             clear Ge
             have H':=y0.mk H
             clear H
             have Vw:=Ar.out
             have Vx:=Ao.out
             obtain⟨Pi,Pj,Pk,Pm,Pn,Po⟩:=qz3 Ah.out
             go_wp2
             go_meet
             exact⟨_,(decide ((Co.size:Int) > 3000)),qy2,H',⟨by have:=Cv.out;have:=Cu.out;have:=Gp.out;first|omega|exact Nat.le_refl _⟩,⟨qR Aj.out⟩,⟨qR Ai.out⟩,⟨qV Ab.out⟩,⟨qV Ac.out⟩,⟨qk Ae.out⟩,⟨qk Ah.out⟩,⟨qb⟩⟩
           ·as_aux_lemma =>
            rw [if_neg Gd]at H
            have Dk:=decide_eq_false Gd
            clear Gd
            (first|rw [Dk]|(simp only [i64_w,i32_w];rw [Dk])|skip)
            have H':=y0.mk H
            clear H
            have Vy:=Ar.out
            have Vz:=Ao.out
            obtain⟨Pp,Pq,Pr,Ps,Pt,Pu⟩:=qz3 Ah.out
            go_wp2
            go_meet
            exact⟨_,(decide ((Co.size:Int) > 3000)),qy2,H',⟨by have:=Cv.out;have:=Cu.out;have:=Gp.out;first|omega|exact Nat.le_refl _⟩,⟨qR Aj.out⟩,⟨qR Ai.out⟩,⟨qV Ab.out⟩,⟨qV Ac.out⟩,⟨qk Ae.out⟩,⟨qk Ah.out⟩,⟨qb⟩⟩
          case rest =>
           clear Me
           obtain⟨kq,De,rfl,HA,Pv,Aj,Ai,Ab,Ac,Ae,Ah,HB⟩:=hcut
           cases kq with
           | zero=>exact absurd HA.out (by simp [z6_.j6])
           | succ Pw =>
            have H:=HA.out
            clear HA
            simp only [z6_.j6]at H
            by_cases Js:De=true
            ·subst Js
             replace H:=qT H
             simp only [Option.some.injEq,Prod.mk.injEq]at H
             obtain⟨rfl,rfl⟩:=H
             go_wp2
             go_ret2
             exact⟨_,by first|rfl|(simp [y10,y11] <;> rfl)|(simp [*,y10,y11] <;> rfl),by(with_reducible repeat(first|apply Kd.R_alloc|apply Kd.R_drewN|apply Kd.R_drew));exact Ai.out,qb⟩
            ·replace Js:=Bool.eq_false_iff.mpr Js
             subst Js
             replace H:=qF H
             obtain⟨Px,H⟩:=qo H
             have Wa:decide (0≤Ad)=true:=decide_eq_true Px
             clear Px
             obtain⟨Py,H⟩:=qo H
             have Wb:decide (Ad < (As.length:Int))=true:=decide_eq_true Py
             clear Py
             obtain⟨Mh,Er⟩:∃ y_:List ByteArray,y_=(As.set (Ad:Int).toNat Co):=⟨_,rfl⟩
             replace H:(z6_.l0 Pw Az Mh (wrap64 (Ad + 1)) Aa Av Aw Ak Al)=some (r1,r2):=by first|(rw [Er];with_reducible exact H)|(have H2_:=(Option.bind_some _ _).symm.trans H;rw [Er];with_reducible exact H2_)|(have H2_:=(Option.bind_some _ _).symm.trans H;with_reducible exact H2_)|with_reducible exact H|(rw [Er];exact H)|exact H
             have Pz:=y0.mk Er
             clear Er
             have H':=y0.mk H
             clear H
             have Mi:0≤(Ad:Int):=of_decide_eq_true qy0
             have Mj:(Ad:Int) < ((As.length:Int):Int):=of_decide_eq_true qy0
             obtain⟨Cx,Dq,Ko,Kp,Qa,Zw,Kq⟩:=Kd.R_form Ai.out (by omega)
             (first|cases Ko|(injection Ko with ea_ en_ ec_;(first|subst ea_|(injection ea_ with ea_;subst ea_));subst ec_;clear en_))
             have Qb:=y0.mk Kp
             have Zx:=y0.mk Kq
             clear Kp Qa Kq
             obtain⟨Tm,Tn⟩:=Kd.R_celln (⟨#[]⟩:ByteArray) Ai.out (Ad:Int) Mi Mj
             replace Mi:=eq_true Mi
             replace Mj:=eq_true Mj
             have Gq:=Kd.R_putg Ai.out (Ad:Int) Co
             go_wp2_with (first|((with_reducible refine gate_store (t:=9) (p:=161) rfl ?_);refine store_event (t:=9) (p:=161) (v:=?vo_w113) (w1:=(wc.setCell ⟨Cx,(Ad:Int).toNat,none⟩ (.string Co))) ?hg ?ho ?hn ?hr ?_;(case ho=>rfl);(case hg=>rfl);(case hn=>rfl);(case hr=>first|(go_simp;done)|(go_simp;rfl));intro Ml hw;have hg:wc.grownBy Ml (some Cx):=(by rw [hw];exact Gq.2);have hp_:Kd.R Kd.string 9 Ml w.heap.size (fun k_=>(w.heap.size≤k_)) (.slice (some ⟨Cx,0,none⟩) As.length Dq) Mh:=(by rw [hw,Pz.out];exact Gq.1);clear Gq;replace Aj:=y0.mk (Kd.R_over' (v:=(.slice (some ⟨Cx,0,none⟩) As.length Dq)) (qR Aj.out) (Kd.R_typed Ai.out) (by decide) hg);replace Ab:=y0.mk (Kd.V_afterv (v:=(.slice (some ⟨Cx,0,none⟩) As.length Dq)) (v1:=(.slice (some ⟨Cx,0,none⟩) As.length Dq)) (ok:=(fun k_=>((P0_3_ k_∨P0_4_ k_)∨w.heap.size≤k_)∧some k_≠(Ay:Value).ownBlock∧k_≠Af∧k_≠Am)) (qV (Kd.V_mono Ab.out (fun _ hk=>⟨⟨hk.1,⟨hk.2.1,⟨hk.2.2.2.1,hk.2.2.2.2⟩⟩⟩,hk.2.2.1⟩))) hg (.inl rfl));replace Ac:=y0.mk (Kd.V_afterv (v:=(.slice (some ⟨Cx,0,none⟩) As.length Dq)) (v1:=(.slice (some ⟨Cx,0,none⟩) As.length Dq)) (ok:=(fun k_=>((P0_3_ k_∨P0_4_ k_)∨w.heap.size≤k_)∧some k_≠(Ay:Value).ownBlock∧k_≠Af∧k_≠Am)) (qV (Kd.V_mono Ac.out (fun _ hk=>⟨⟨hk.1,⟨hk.2.1,⟨hk.2.2.2.1,hk.2.2.2.2⟩⟩⟩,hk.2.2.1⟩))) hg (.inl rfl));replace Ae:=y0.mk (blk_grown (qk Ae.out) hg (Kd.R_ne Ai.out Ae.out (by decide)));replace Ah:=y0.mk (blk_grown (qk Ah.out) hg (Kd.R_ne Ai.out Ah.out (by decide)));replace Ai:=y0.mk (hp_);replace HB:=y0.mk ((by rw [hw];exact below_set (HB.out) Qb.out:Below w.heap.size w Ml));clear hg hw hp_))
             go_roundg Pw
             case measure=>have:=Cv.out;have:=Cu.out;have:=Gp.out;have:=Pv.out;omega
             exact⟨(Az),(Mh),(wrap64 (Ad + 1)),qy2,H',⟨by have:=Cv.out;have:=Cu.out;have:=Gp.out;have:=Pv.out;omega⟩,⟨qR Aj.out⟩,⟨qR Ai.out⟩,⟨qV (Kd.V_mono Ab.out (fun _ hk=>⟨hk.1.1,⟨hk.1.2.1,⟨hk.2,hk.1.2.2.1⟩⟩⟩))⟩,⟨qV (Kd.V_mono Ac.out (fun _ hk=>⟨hk.1.1,⟨hk.1.2.1,⟨hk.2,hk.1.2.2.1⟩⟩⟩))⟩,⟨qk Ae.out⟩,⟨qb⟩⟩
    ·as_aux_lemma =>
     rw [if_neg Nk]at H
     have Gk:=decide_eq_false Nk
     clear Nk
     obtain⟨Jt,Es⟩:∃ y_:List (S33),y_=(([(⟨Av,Aw,Ak⟩:S33)]:List (S33))):=⟨_,rfl⟩
     replace H:(if Jt.length + Al.length < 2932031007402 then(z6_.l3 k1 Fa As (Jt ++ Al) 0)else(none))=some (r1,r2):=by first|(rw [Es];with_reducible exact H)|(have H2_:=(Option.bind_some _ _).symm.trans H;rw [Es];with_reducible exact H2_)|(have H2_:=(Option.bind_some _ _).symm.trans H;with_reducible exact H2_)|with_reducible exact H|(rw [Es];exact H)|exact H
     have Kr:=y0.mk Es
     clear Es
     obtain⟨Qc,H⟩:=qo H
     have Mm:=y0.mk Qc
     clear Qc
     obtain⟨Ap,Et⟩:∃ y_:List (S33),y_=(Jt ++ Al):=⟨_,rfl⟩
     replace H:(z6_.l3 k1 Fa As Ap 0)=some (r1,r2):=by first|(rw [Et];with_reducible exact H)|(have H2_:=(Option.bind_some _ _).symm.trans H;rw [Et];with_reducible exact H2_)|(have H2_:=(Option.bind_some _ _).symm.trans H;with_reducible exact H2_)|with_reducible exact H|(rw [Et];exact H)|exact H
     have Qd:=y0.mk Et
     clear Et
     have H':=y0.mk H
     clear H
     obtain⟨Gr,Gs,Gt,Gu,Gv,Gw,Gx,Gy,Gz,Ha⟩:=qz5 Ae.out
     go_wp2_with (first|((with_reducible refine y14 (N:=164) rfl ?_);(try(refine gate_guard (by rfl) ?_;dsimp only));refine Kd.N_lit k33 _ 33 ?hg (N':=164) ?hd (xs:=([(⟨Av,Aw,Ak⟩:S33)]:List (S33))) (inner:=[.int .i64 Av,.string Aw,.slice Bc Ak.length Bd]) (ok:=(fun k_=>((P0_3_ k_∨P0_4_ k_)∨w.heap.size≤k_)∧some k_≠(Ay:Value).ownBlock∧some k_≠(Aq:Value).ownBlock∧k_≠Af)) (okp:=(fun k_=>((P0_3_ k_∨P0_4_ k_)∨w.heap.size≤k_)∧some k_≠(Ay:Value).ownBlock∧some k_≠(Aq:Value).ownBlock∧k_≠Af)) ?hr ?hp (fun _ hk=>hk) ((show ∀ k_,wr.heap.size≤k_→(fun k_=>((P0_3_ k_∨P0_4_ k_)∨w.heap.size≤k_)∧some k_≠(Ay:Value).ownBlock∧some k_≠(Aq:Value).ownBlock∧k_≠Af) k_ from fun k_ hk=>⟨(.inr (Nat.le_trans (y2 qb) hk)),Kd.fresh' (Kd.R_lt (qR Aj.out)) k_ hk,Kd.fresh' (Kd.R_lt (qR Ai.out)) k_ hk,Kd.freshB (g:=Af) (o:=.cells #[.slice Di Aa.length Bx,.int .i64 Av,.string Aw,.slice Bc Ak.length Bd,.slice Bg Al.length Bh] 36 (0,0)) (qk Ae.out) k_ hk⟩) _ (Nat.le_refl _)) (Below.refl _ _) (Nat.le_refl _) (by simp) ?_;(case hd=>rfl);(case hg=>rfl);(case hr=>first|(go_simp;done)|(go_simp;rfl));(case hp=>exact(Reps.c3 (show Kd.FK k33 _ _ (⟨Av,Aw,Ak⟩:S33) [.int .i64 Av,.string Aw,.slice Bc Ak.length Bd]from(k33_mkF _ _ (⟨Av,Aw,Ak⟩:S33) (Kd.V_reads' (Kd.V_mono (ok':=(fun k_=>((P0_3_ k_∨P0_4_ k_)∨w.heap.size≤k_)∧some k_≠(Ay:Value).ownBlock∧some k_≠(Aq:Value).ownBlock∧k_≠Af)) (Ab.out) (fun k_ hk=>⟨hk.1,⟨hk.2.1,⟨hk.2.2.1,hk.2.2.2⟩⟩⟩))).2.1 (Kd.V_F (Kd.V_mono (ok':=(fun k_=>((P0_3_ k_∨P0_4_ k_)∨w.heap.size≤k_)∧some k_≠(Ay:Value).ownBlock∧some k_≠(Aq:Value).ownBlock∧k_≠Af)) (Ab.out) (fun k_ hk=>⟨hk.1,⟨hk.2.1,⟨hk.2.2.1,hk.2.2.2⟩⟩⟩))))) (Reps.none _ _)));intro Mn bP Dl hb hg_ hnew_;clear hg_ hnew_;(first|rw [← Kr.out]at Dl|(simp only [Int.reduceToNat]at Dl;rw [← Kr.out]at Dl));replace Aj:=y0.mk (Kd.R_below (qR Aj.out) hb);replace Ai:=y0.mk (Kd.R_below (qR Ai.out) hb);replace Ab:=y0.mk (Kd.V_elder' (qV Ab.out) (Kd.N_base Dl) hb);replace Ac:=y0.mk (Kd.V_elder' (qV Ac.out) (Kd.N_base Dl) hb);have Eu:=y0.mk (Kd.N_lower Dl (y2 qb));replace Ae:=y0.mk (qK Ae.out hb);replace HB:=y0.mk (y3 qb hb);clear hb Dl;obtain⟨Hb,Hc,Hd,He,Hf,Hg,Hh,Hi,Hj,Hk⟩:=qz5 Ae.out)|((with_reducible refine gate_builtin (b:=.append) (xs:=#[.tmp 164,.tmp 166]) rfl ?_);(try(refine gate_guard (by rfl) ?_;dsimp only));at_builtin;refine Kd.N_append_rows k33 (w0:=w) w.heap.size rfl (.tmp 164) (.tmp 166) 34 33 (.agg #[(.int .i64 0),(.string ⟨#[]⟩),(.slice none 0 0)]) 48 rfl Try.underlying34 info33 rfl (by decide) (by omega) Mn Jt Al _ _ _ (fun k_=>((P0_3_ k_∨P0_4_ k_)∨w.heap.size≤k_)∧some k_≠(Ay:Value).ownBlock∧some k_≠(Aq:Value).ownBlock∧k_≠Af) (fun k_=>((fun k_=>((P0_3_ k_∨P0_4_ k_)∨w.heap.size≤k_)∧some k_≠(Ay:Value).ownBlock∧some k_≠(Aq:Value).ownBlock∧k_≠Af)) k_∧some k_≠(Mn:Value).ownBlock) rfl rfl ?aO ?aR (fun _ hk=>hk) ?aF ?aB ?aS ?aL ?_;(case aR=>exact(by skip;exact Kd.V_F (Kd.V_mono (ok':=(fun k_=>((fun k_=>((P0_3_ k_∨P0_4_ k_)∨w.heap.size≤k_)∧some k_≠(Ay:Value).ownBlock∧some k_≠(Aq:Value).ownBlock∧k_≠Af)) k_∧some k_≠(Mn:Value).ownBlock)) (Ac.out) (fun k_ hk=>⟨⟨hk.1.1,⟨hk.1.2.1,⟨hk.1.2.2.1,hk.1.2.2.2⟩⟩⟩,hk.2⟩))));(case aB=>exact qb);(case aF=>exact(fun k_ hk=>⟨(.inr (Nat.le_trans (y2 qb) hk)),Kd.fresh' (Kd.R_lt (qR Aj.out)) k_ hk,Kd.fresh' (Kd.R_lt (qR Ai.out)) k_ hk,Kd.freshB (g:=Af) (o:=.cells #[.slice Di Aa.length Bx,.int .i64 Av,.string Aw,.slice Bc Ak.length Bd,.slice Bg Al.length Bh] 36 (0,0)) (qk Ae.out) k_ hk⟩));(case aO=>exact(qN Eu.out));(case aS=>exact(y2 qb));(case aL=>have:=Mm.out;omega);intro Mo bQ ho hb hg hat;rw [← Qd.out]at ho;replace Aj:=y0.mk (Kd.R_over' (qR Aj.out) (Kd.N_typed (qN Eu.out)) (by decide) hg);replace Ai:=y0.mk (Kd.R_over' (qR Ai.out) (Kd.N_typed (qN Eu.out)) (by decide) hg);replace Ab:=y0.mk (Kd.V_afterv (ok:=(fun k_=>((P0_3_ k_∨P0_4_ k_)∨w.heap.size≤k_)∧some k_≠(Ay:Value).ownBlock∧some k_≠(Aq:Value).ownBlock∧k_≠Af)) (qV Ab.out) hg hat);replace Ac:=y0.mk (Kd.V_afterv (ok:=(fun k_=>((P0_3_ k_∨P0_4_ k_)∨w.heap.size≤k_)∧some k_≠(Ay:Value).ownBlock∧some k_≠(Aq:Value).ownBlock∧k_≠Af)) (qV Ac.out) hg hat);replace Ae:=y0.mk (blk_grown (qk Ae.out) hg (Kd.N_ne Eu.out Ae.out (by decide)));replace HB:=y0.mk (hb);have Qe:=y0.mk (ho);clear Eu;clear ho hb hg hat))
     go_loopg [13] k1 (fun kq bR w'=>∃(Az:List Int) (Ag:Int),bR=.int .i64 Ag∧y0 (z6_.l3 kq Az As Ap Ag=some (r1,r2))∧y0 (kq≤k1)∧y0 (Kd.R (Kd.int .i64) 3 w' w.heap.size (fun k_=>(w.heap.size≤k_)) Ay Az)∧y0 (Kd.R Kd.string 9 w' w.heap.size (fun k_=>(w.heap.size≤k_)) Aq As)∧y0 (Kd.N k33 33 w' w.heap.size (fun k_=>((P0_3_ k_∨P0_4_ k_)∨w.heap.size≤k_)∧some k_≠(Ay:Value).ownBlock∧some k_≠(Aq:Value).ownBlock∧k_≠Af) Mo Ap)∧y0 (Kd.V (Kd.int .i64) 3 w' w.heap.size (fun k_=>((P0_3_ k_∨P0_4_ k_)∨w.heap.size≤k_)∧some k_≠(Ay:Value).ownBlock∧some k_≠(Aq:Value).ownBlock∧some k_≠(Mo:Value).ownBlock∧k_≠Af) (.slice Bc Ak.length Bd) Ak)∧y0 (Kd.V k33 33 w' w.heap.size (fun k_=>((P0_3_ k_∨P0_4_ k_)∨w.heap.size≤k_)∧some k_≠(Ay:Value).ownBlock∧some k_≠(Aq:Value).ownBlock∧some k_≠(Mo:Value).ownBlock∧k_≠Af) (.slice Bg Al.length Bh) Al)∧y0 (w'.heap[Af]?=some (.cells #[(.slice Di Aa.length Bx),.int .i64 Av,.string Aw,(.slice Bc Ak.length Bd),(.slice Bg Al.length Bh)] 36 (0,0)))∧y0 (Below w.heap.size w w'))
     case atStart=>exact⟨(Fa),(0),qy2,H',⟨Nat.le_refl _⟩,⟨qR Aj.out⟩,⟨qR Ai.out⟩,⟨qN Qe.out⟩,⟨qV (Kd.V_mono Ab.out (fun _ hk=>⟨hk.1.1,⟨hk.1.2.1,⟨hk.1.2.2.1,⟨hk.2,hk.1.2.2.2⟩⟩⟩⟩))⟩,⟨qV (Kd.V_mono Ac.out (fun _ hk=>⟨hk.1.1,⟨hk.1.2.1,⟨hk.1.2.2.1,⟨hk.2,hk.1.2.2.2⟩⟩⟩⟩))⟩,⟨qk Ae.out⟩,⟨qb⟩⟩
     case round =>
      clear H'
      (try clear Gk Gr Gs Gt Gu Gv Hb Hc Hd He Hf Gw Gx Gy Gz Ha Hg Hh Hi Hj Hk)
      obtain⟨Az,Ag,rfl,HA,Cu,Aj,Ai,Ba,Ab,Ac,Ae,HB⟩:=hrel
      cases gk with
      | zero=>exact absurd HA.out (by simp [z6_.l3])
      | succ k2 =>
       have H:=HA.out
       clear HA
       simp only [z6_.l3]at H
       by_cases Gf:Ag < (Ap.length:Int)
       ·as_aux_lemma =>
        rw [if_pos Gf]at H
        have Fd:=decide_eq_true Gf
        clear Gf
        have H':=y0.mk H
        clear H
        obtain⟨Hl,Ca,Qf⟩:=Kd.N_slice Ba.out
        subst Qf
        go_wp2
        go_loopg [14] k2 (fun kq bS w'=>∃(Be:List Int) (At:Int),bS=.int .i64 At∧y0 (z6_.l4 kq Be As Ap Ag At=some (r1,r2))∧y0 (kq≤k2)∧y0 (Kd.R (Kd.int .i64) 3 w' w.heap.size (fun k_=>(w.heap.size≤k_)) Ay Be)∧y0 (Kd.R Kd.string 9 w' w.heap.size (fun k_=>(w.heap.size≤k_)) Aq As)∧y0 (Kd.N k33 33 w' w.heap.size (fun k_=>((P0_3_ k_∨P0_4_ k_)∨w.heap.size≤k_)∧some k_≠(Ay:Value).ownBlock∧some k_≠(Aq:Value).ownBlock∧k_≠Af) (.slice Hl Ap.length Ca) Ap)∧y0 (Kd.V (Kd.int .i64) 3 w' w.heap.size (fun k_=>((P0_3_ k_∨P0_4_ k_)∨w.heap.size≤k_)∧some k_≠(Ay:Value).ownBlock∧some k_≠(Aq:Value).ownBlock∧some k_≠((.slice Hl Ap.length Ca):Value).ownBlock∧k_≠Af) (.slice Bc Ak.length Bd) Ak)∧y0 (Kd.V k33 33 w' w.heap.size (fun k_=>((P0_3_ k_∨P0_4_ k_)∨w.heap.size≤k_)∧some k_≠(Ay:Value).ownBlock∧some k_≠(Aq:Value).ownBlock∧some k_≠((.slice Hl Ap.length Ca):Value).ownBlock∧k_≠Af) (.slice Bg Al.length Bh) Al)∧y0 (w'.heap[Af]?=some (.cells #[(.slice Di Aa.length Bx),.int .i64 Av,.string Aw,(.slice Bc Ak.length Bd),(.slice Bg Al.length Bh)] 36 (0,0)))∧y0 (Below w.heap.size w w'))
        case atStart=>exact⟨(Az),(0),qy2,H',⟨Nat.le_refl _⟩,⟨qR Aj.out⟩,⟨qR Ai.out⟩,⟨qN Ba.out⟩,⟨qV Ab.out⟩,⟨qV Ac.out⟩,⟨qk Ae.out⟩,⟨qb⟩⟩
        case round =>
         clear H'
         (try clear Fd)
         obtain⟨Be,At,rfl,HA,Mp,Aj,Ai,Ba,Ab,Ac,Ae,HB⟩:=hrel
         cases gk with
         | zero=>exact absurd HA.out (by simp [z6_.l4])
         | succ k3 =>
          have H:=HA.out
          clear HA
          simp only [z6_.l4]at H
          obtain⟨Qg,H⟩:=qo H
          have Wc:decide (0≤Ag)=true:=decide_eq_true Qg
          clear Qg
          obtain⟨Qh,H⟩:=qo H
          have Wd:decide (Ag < (Ap.length:Int))=true:=decide_eq_true Qh
          clear Qh
          by_cases Gg:At < (((y16 Ap Ag).f2).length:Int)
          ·as_aux_lemma =>
           rw [if_pos Gg]at H
           have Mq:=decide_eq_true Gg
           clear Gg
           obtain⟨Qi,H⟩:=qo H
           have We:decide (0≤At)=true:=decide_eq_true Qi
           clear Qi
           obtain⟨Wf,Qj,H⟩:=qB H
           by_cases Ju:Wf=true
           ·subst Ju
            replace H:=qT H
            obtain⟨Qk,H⟩:=qo H
            have Wg:decide (0≤(rd ((y16 Ap Ag).f2) At))=true:=decide_eq_true Qk
            clear Qk
            obtain⟨Ql,H⟩:=qo H
            have Wh:decide ((rd ((y16 Ap Ag).f2) At) < (Be.length:Int))=true:=decide_eq_true Ql
            clear Ql
            obtain⟨Mr,Ew⟩:∃ y_:List Int,y_=(Be.set ((rd ((y16 Ap Ag).f2) At):Int).toNat (wrap64 ((rd Be (rd ((y16 Ap Ag).f2) At)) + 1))):=⟨_,rfl⟩
            replace H:(z6_.l4 k3 Mr As Ap Ag (wrap64 (At + 1)))=some (r1,r2):=by first|(rw [Ew];with_reducible exact H)|(have H2_:=(Option.bind_some _ _).symm.trans H;rw [Ew];with_reducible exact H2_)|(have H2_:=(Option.bind_some _ _).symm.trans H;with_reducible exact H2_)|with_reducible exact H|(rw [Ew];exact H)|exact H
            have Qm:=y0.mk Ew
            clear Ew
            have H':=y0.mk H
            clear H
            have Cq:0≤(Ag:Int):=of_decide_eq_true qy0
            have Cr:Ag < (Ap.length:Int):=of_decide_eq_true qy0
            obtain⟨Bu,Hm,Dy,Hn,Df,Dg,Bl,Bv,Bw⟩:=at_T33 (Kd.N_reads' Ba.out).2.2 Ag Cq Cr
            cases Hn
            obtain⟨Ks,Dm,Do,Ck⟩:=Kd.N_get Ba.out z33 Ag Cq (by first|exact Cr|exact of_decide_eq_true qy0|(have e_:=(Kd.N_reads' Ba.out).1;omega))
            obtain⟨Ft,Fu,rfl,Bj,Bk⟩:=k33_openF Do
            have Bb:=Ck 2 _ rfl
            rw [add_field _ _ 2 (by omega)]at Bb
            replace Bb:=Option.some.inj (Bb.symm.trans Bl)
            injection Bb with hva_ hvn_ hvc_
            rw [hva_]at Bk
            rw [hvc_]at Bj
            have Ce:=y0.mk (show Kd.V (Kd.int .i64) 3 _ w.heap.size _ _ ((y16 Ap Ag).f2)from Kd.V_mk Bj Bk)
            clear hva_ hvn_ hvc_ Bk Bj
            clear Ck Dm
            have Cl:=y0.mk Bw
            have Fv:=y0.mk Bv
            clear Bw Bv
            replace Cq:=eq_true Cq
            replace Cr:=eq_true Cr
            have Dz:0≤(Ag:Int):=of_decide_eq_true qy0
            have Ea:Ag < (Ap.length:Int):=of_decide_eq_true qy0
            obtain⟨Ho,Ms,Mt,Mu,Eb,Ec,Cf,Cs,Ct⟩:=at_T33 (Kd.N_reads' Ba.out).2.2 Ag Dz Ea
            obtain rfl:Bu=Ho:=(by injection Mu)
            obtain⟨Qn,Fe,Ff,Dp⟩:=Kd.N_get Ba.out z33 Ag Dz (by first|exact Ea|exact of_decide_eq_true qy0|(have e_:=(Kd.N_reads' Ba.out).1;omega))
            obtain⟨Jv,Jw,rfl,Cg,Ch⟩:=k33_openF Ff
            have Bs:=Dp 2 _ rfl
            rw [add_field _ _ 2 (by omega)]at Bs
            replace Bs:=Option.some.inj (Bs.symm.trans Cf)
            injection Bs with hva_ hvn_ hvc_
            rw [hva_]at Ch
            rw [hvc_]at Cg
            have Cm:=y0.mk (show Kd.V (Kd.int .i64) 3 _ w.heap.size _ _ ((y16 Ap Ag).f2)from Kd.V_mk Cg Ch)
            clear hva_ hvn_ hvc_ Ch Cg
            clear Dp Fe
            have Bt:=y0.mk Ct
            have Jx:=y0.mk Cs
            clear Ct Cs
            replace Dz:=eq_true Dz
            replace Ea:=eq_true Ea
            have ea_:=Option.some.inj (Bl.symm.trans Cf)
            injection ea_ with ea_ en_ ec_
            subst ea_
            subst ec_
            clear en_
            have Fg:0≤(At:Int):=of_decide_eq_true qy0
            have Fh:At < (((y16 Ap Ag).f2).length:Int):=of_decide_eq_true qy0
            obtain⟨Ex,Mv,Ed⟩:=Kd.at_int (by repeat(first|(with_reducible exact Bt.out)|(with_reducible refine Kd.C_alloc ?_ _)|(with_reducible refine Kd.C_drewN ?_ _)|(with_reducible refine Kd.C_drew ?_)|exact Bt.out)) At Fg Fh
            cases Mv
            replace Fg:=eq_true Fg
            replace Fh:=eq_true Fh
            obtain⟨Dr,Bi,Qo⟩:=Kd.R_slice Aj.out
            subst Qo
            go_wp2_with (first|((with_reducible refine y13 (f:=23) rfl ?_);refine y15 (some 195) rfl rfl Try.func23 (by kernel_rfl) rfl #[.int .i64 (rd ((y16 Ap Ag).f2) At),.int .i64 0,.int .i64 (wrap64 ((Be.length:Int) - 1))] rfl qy1 ?_;(with_reducible refine(spec_l01Between.calls (rd ((y16 Ap Ag).f2) At) 0 (wrap64 ((Be.length:Int) - 1)) true _ Qj.out).mono ?_);rintro e w' ⟨rfl,⟨nd,rfl⟩⟩;refine⟨_,rfl, ?_⟩;(try(rw [drewN_self wr];have e1_:∀(n_:Nat) (a_:Addr),World.cell? wr a_=World.cell? (World.drewN wr n_) a_:=fun _ _=>rfl;have e2_:∀(n_:Nat) (a_:Addr),World.frozen? wr a_=World.frozen? (World.drewN wr n_) a_:=fun _ _=>rfl;generalize hq_:World.drewN wr _=wr;have e3_:=(fun a_=>(e1_ _ a_).trans (congrArg (fun w_=>World.cell? w_ a_) hq_));have e4_:=(fun a_=>(e2_ _ a_).trans (congrArg (fun w_=>World.frozen? w_ a_) hq_));clear e1_ e2_;(try replace Df:=(e3_ _).symm.trans Df);(try replace Dg:=(e3_ _).symm.trans Dg);(try replace Bl:=(e3_ _).symm.trans Bl);(try replace Eb:=(e3_ _).symm.trans Eb);(try replace Ec:=(e3_ _).symm.trans Ec);(try replace Cf:=(e3_ _).symm.trans Cf);(try replace Ed:=(e3_ _).symm.trans Ed);skip;clear e3_ e4_;have n0_:y0 (Kd.V (Kd.int .i64) 3 wr w.heap.size (fun k_=>((P0_3_ k_∨P0_4_ k_)∨w.heap.size≤k_)∧some k_≠(.slice (some Bu) Ap.length Ca:Value).ownBlock∧some k_≠(.slice Dr Be.length Bi:Value).ownBlock∧some k_≠(Aq:Value).ownBlock∧k_≠Af) (.slice (some Ex) ((y16 Ap Ag).f2).length Dy) ((y16 Ap Ag).f2)):=⟨by rw [← hq_];exact(qV (Kd.V_mono Ce.out (fun _ hk=>⟨hk.1.1,⟨hk.2,⟨hk.1.2.1,⟨hk.1.2.2.1,hk.1.2.2.2⟩⟩⟩⟩)))⟩;have n1_:y0 (Kd.V (Kd.int .i64) 3 wr w.heap.size (fun k_=>((P0_3_ k_∨P0_4_ k_)∨w.heap.size≤k_)∧some k_≠(.slice (some Bu) Ap.length Ca:Value).ownBlock∧some k_≠(.slice Dr Be.length Bi:Value).ownBlock∧some k_≠(Aq:Value).ownBlock∧k_≠Af) (.slice (some Ex) ((y16 Ap Ag).f2).length Dy) ((y16 Ap Ag).f2)):=⟨by rw [← hq_];exact(qV (Kd.V_mono Cm.out (fun _ hk=>⟨hk.1.1,⟨hk.2,⟨hk.1.2.1,⟨hk.1.2.2.1,hk.1.2.2.2⟩⟩⟩⟩)))⟩;have n2_:y0 (Kd.N k33 33 wr w.heap.size (fun k_=>((P0_3_ k_∨P0_4_ k_)∨w.heap.size≤k_)∧some k_≠(.slice Dr Be.length Bi:Value).ownBlock∧some k_≠(Aq:Value).ownBlock∧k_≠Af) (.slice (some Bu) Ap.length Ca) Ap):=⟨by rw [← hq_];exact(qN Ba.out)⟩;have n3_:y0 (Kd.V (Kd.int .i64) 3 wr w.heap.size (fun k_=>((P0_3_ k_∨P0_4_ k_)∨w.heap.size≤k_)∧some k_≠(.slice (some Bu) Ap.length Ca:Value).ownBlock∧some k_≠(.slice Dr Be.length Bi:Value).ownBlock∧some k_≠(Aq:Value).ownBlock∧k_≠Af) (.slice Bc Ak.length Bd) Ak):=⟨by rw [← hq_];exact(qV (Kd.V_mono Ab.out (fun _ hk=>⟨hk.1,⟨hk.2.2.2.1,⟨hk.2.1,⟨hk.2.2.1,hk.2.2.2.2⟩⟩⟩⟩)))⟩;have n4_:y0 (Kd.V k33 33 wr w.heap.size (fun k_=>((P0_3_ k_∨P0_4_ k_)∨w.heap.size≤k_)∧some k_≠(.slice (some Bu) Ap.length Ca:Value).ownBlock∧some k_≠(.slice Dr Be.length Bi:Value).ownBlock∧some k_≠(Aq:Value).ownBlock∧k_≠Af) (.slice Bg Al.length Bh) Al):=⟨by rw [← hq_];exact(qV (Kd.V_mono Ac.out (fun _ hk=>⟨hk.1,⟨hk.2.2.2.1,⟨hk.2.1,⟨hk.2.2.1,hk.2.2.2.2⟩⟩⟩⟩)))⟩;have n5_:y0 (Kd.R (Kd.int .i64) 3 wr w.heap.size (fun k_=>(w.heap.size≤k_)) (.slice Dr Be.length Bi) Be):=⟨by rw [← hq_];exact(qR Aj.out)⟩;have n6_:y0 (Kd.R Kd.string 9 wr w.heap.size (fun k_=>(w.heap.size≤k_)) Aq As):=⟨by rw [← hq_];exact(qR Ai.out)⟩;have n7_:y0 (wr.heap[Af]?=some (.cells #[.slice Di Aa.length Bx,.int .i64 Av,.string Aw,.slice Bc Ak.length Bd,.slice Bg Al.length Bh] 36 (0,0))):=⟨by rw [← hq_];exact(qk Ae.out)⟩;have n8_:y0 (Below w.heap.size w wr):=⟨by rw [← hq_];exact qb⟩;have n9_:y0 (Kd.C (Kd.int .i64) wr (some Ex) ((y16 Ap Ag).f2).length ((y16 Ap Ag).f2)):=⟨by rw [← hq_];exact(by repeat(first|(with_reducible exact Cl.out)|(with_reducible refine Kd.C_alloc ?_ _)|(with_reducible refine Kd.C_drewN ?_ _)|(with_reducible refine Kd.C_drew ?_)|exact Cl.out))⟩;have n10_:y0 (Kd.C (Kd.int .i64) wr (some Ex) ((y16 Ap Ag).f2).length ((y16 Ap Ag).f2)):=⟨by rw [← hq_];exact(by repeat(first|(with_reducible exact Bt.out)|(with_reducible refine Kd.C_alloc ?_ _)|(with_reducible refine Kd.C_drewN ?_ _)|(with_reducible refine Kd.C_drew ?_)|exact Bt.out))⟩;clear Ce Cm Ba Ab Ac Aj Ai Ae HB Cl Bt hq_;have Ce:=n0_;have Cm:=n1_;have Ba:=n2_;have Ab:=n3_;have Ac:=n4_;have Aj:=n5_;have Ai:=n6_;have Ae:=n7_;have HB:=n8_;have Cl:=n9_;have Bt:=n10_;clear n0_ n1_ n2_ n3_ n4_ n5_ n6_ n7_ n8_ n9_ n10_));have Jy:0≤(Ag:Int):=of_decide_eq_true qy0;have Jz:Ag < (Ap.length:Int):=of_decide_eq_true qy0;obtain⟨Qp,Wj,Wk,Wl,To,Tp,Fx,Fy,Fz⟩:=at_T33 (Kd.N_reads' Ba.out).2.2 Ag Jy Jz;obtain rfl:Bu=Qp:=(by injection Wl);obtain⟨Zy,Mw,Mx,Hp⟩:=Kd.N_get Ba.out z33 Ag Jy (by first|exact Jz|exact of_decide_eq_true qy0|(have e_:=(Kd.N_reads' Ba.out).1;omega));obtain⟨Tq,Tr,rfl,Ee,Ef⟩:=k33_openF Mx;have Dh:=Hp 2 _ rfl;rw [add_field _ _ 2 (by omega)]at Dh;replace Dh:=Option.some.inj (Dh.symm.trans Fx);injection Dh with hva_ hvn_ hvc_;rw [hva_]at Ef;rw [hvc_]at Ee;have Ga:=y0.mk (show Kd.V (Kd.int .i64) 3 _ w.heap.size _ _ ((y16 Ap Ag).f2)from Kd.V_mk Ee Ef);clear hva_ hvn_ hvc_ Ef Ee;clear Hp Mw;have Gb:=y0.mk Fz;have Ts:=y0.mk Fy;clear Fz Fy;replace Jy:=eq_true Jy;replace Jz:=eq_true Jz;have ea_:=Option.some.inj (Bl.symm.trans Fx);injection ea_ with ea_ en_ ec_;subst ea_;subst ec_;clear en_;have My:0≤(At:Int):=of_decide_eq_true qy0;have Mz:At < (((y16 Ap Ag).f2).length:Int):=of_decide_eq_true qy0;obtain⟨Zz,Wm,Tt⟩:=Kd.at_int (by repeat(first|(with_reducible exact Gb.out)|(with_reducible refine Kd.C_alloc ?_ _)|(with_reducible refine Kd.C_drewN ?_ _)|(with_reducible refine Kd.C_drew ?_)|exact Gb.out)) At My Mz;cases Wm;replace My:=eq_true My;replace Mz:=eq_true Mz;have Na:0≤((rd ((y16 Ap Ag).f2) At):Int):=of_decide_eq_true qy0;have Nb:(rd ((y16 Ap Ag).f2) At) < (Be.length:Int):=of_decide_eq_true qy0;obtain⟨aA,Wn,Ka⟩:=Kd.at_int (Kd.R_reads' Aj.out).2.2 (rd ((y16 Ap Ag).f2) At) Na Nb;cases Wn;replace Na:=eq_true Na;replace Nb:=eq_true Nb;have Nc:0≤((rd ((y16 Ap Ag).f2) At):Int):=of_decide_eq_true qy0;have Nd:((rd ((y16 Ap Ag).f2) At):Int) < ((Be.length:Int):Int):=of_decide_eq_true qy0;obtain⟨Bo,aC,Kt,Ku,Qq,aD,Kv⟩:=Kd.R_form Aj.out (by omega);(first|cases Kt|(injection Kt with ea_ en_ ec_;(first|subst ea_|(injection ea_ with ea_;subst ea_));subst ec_;clear en_));have Qr:=y0.mk Ku;have aE:=y0.mk Kv;clear Ku Qq Kv;(first|simp only [add_plain]at Ka|skip);obtain⟨Tu,Tv⟩:=Kd.R_celln 0 Aj.out ((rd ((y16 Ap Ag).f2) At):Int) Nc Nd;replace Nc:=eq_true Nc;replace Nd:=eq_true Nd;obtain⟨hy132_,hz132_⟩:=Kd.R_celln 0 Aj.out ((rd ((y16 Ap Ag).f2) At):Int) (of_decide_eq_true qy0) (of_decide_eq_true qy0);have Hq:=Kd.R_putg Aj.out ((rd ((y16 Ap Ag).f2) At):Int) (wrap64 ((rd Be (rd ((y16 Ap Ag).f2) At)) + 1)))|((with_reducible refine gate_store (t:=3) (p:=210) rfl ?_);refine store_event (t:=3) (p:=210) (v:=?vo_w133) (w1:=(wr.setCell ⟨Bo,((rd ((y16 Ap Ag).f2) At):Int).toNat,none⟩ (.int .i64 (wrap64 ((rd Be (rd ((y16 Ap Ag).f2) At)) + 1))))) ?hg ?ho ?hn ?hr ?_;(case ho=>rfl);(case hg=>rfl);(case hn=>rfl);(case hr=>first|(go_simp;done)|(go_simp;rfl));intro Nf hw;have hg:wr.grownBy Nf (some Bo):=(by rw [hw];exact Hq.2);have hp_:Kd.R (Kd.int .i64) 3 Nf w.heap.size (fun k_=>(w.heap.size≤k_)) (.slice (some ⟨Bo,0,none⟩) Be.length Bi) Mr:=(by rw [hw,Qm.out];exact Hq.1);clear Hq;replace Ai:=y0.mk (Kd.R_over' (v:=(.slice (some ⟨Bo,0,none⟩) Be.length Bi)) (qR Ai.out) (Kd.R_typed Aj.out) (by decide) hg);replace Ba:=y0.mk (Kd.N_afterv (v:=(.slice (some ⟨Bo,0,none⟩) Be.length Bi)) (v1:=(.slice (some ⟨Bo,0,none⟩) Be.length Bi)) (ok:=(fun k_=>((P0_3_ k_∨P0_4_ k_)∨w.heap.size≤k_)∧some k_≠(Aq:Value).ownBlock∧k_≠Af)) (qN (Kd.N_mono Ba.out (fun _ hk=>⟨⟨hk.1,⟨hk.2.2.1,hk.2.2.2⟩⟩,hk.2.1⟩))) hg (.inl rfl));replace Ab:=y0.mk (Kd.V_afterv (v:=(.slice (some ⟨Bo,0,none⟩) Be.length Bi)) (v1:=(.slice (some ⟨Bo,0,none⟩) Be.length Bi)) (ok:=(fun k_=>((P0_3_ k_∨P0_4_ k_)∨w.heap.size≤k_)∧some k_≠(Aq:Value).ownBlock∧some k_≠(.slice (some Bu) Ap.length Ca:Value).ownBlock∧k_≠Af)) (qV (Kd.V_mono Ab.out (fun _ hk=>⟨⟨hk.1,⟨hk.2.2.2.1,⟨hk.2.1,hk.2.2.2.2⟩⟩⟩,hk.2.2.1⟩))) hg (.inl rfl));replace Ac:=y0.mk (Kd.V_afterv (v:=(.slice (some ⟨Bo,0,none⟩) Be.length Bi)) (v1:=(.slice (some ⟨Bo,0,none⟩) Be.length Bi)) (ok:=(fun k_=>((P0_3_ k_∨P0_4_ k_)∨w.heap.size≤k_)∧some k_≠(Aq:Value).ownBlock∧some k_≠(.slice (some Bu) Ap.length Ca:Value).ownBlock∧k_≠Af)) (qV (Kd.V_mono Ac.out (fun _ hk=>⟨⟨hk.1,⟨hk.2.2.2.1,⟨hk.2.1,hk.2.2.2.2⟩⟩⟩,hk.2.2.1⟩))) hg (.inl rfl));replace Ae:=y0.mk (blk_grown (qk Ae.out) hg (Kd.R_ne Aj.out Ae.out (by decide)));replace Aj:=y0.mk (hp_);replace Ce:=y0.mk (Kd.V_afterv (v:=(.slice (some ⟨Bo,0,none⟩) Be.length Bi)) (v1:=(.slice (some ⟨Bo,0,none⟩) Be.length Bi)) (ok:=(fun k_=>((P0_3_ k_∨P0_4_ k_)∨w.heap.size≤k_)∧some k_≠(Aq:Value).ownBlock∧some k_≠(.slice (some Bu) Ap.length Ca:Value).ownBlock∧k_≠Af)) (qV (Kd.V_mono Ce.out (fun _ hk=>⟨⟨hk.1,⟨hk.2.2.2.1,⟨hk.2.1,hk.2.2.2.2⟩⟩⟩,hk.2.2.1⟩))) hg (.inl rfl));replace Cm:=y0.mk (Kd.V_afterv (v:=(.slice (some ⟨Bo,0,none⟩) Be.length Bi)) (v1:=(.slice (some ⟨Bo,0,none⟩) Be.length Bi)) (ok:=(fun k_=>((P0_3_ k_∨P0_4_ k_)∨w.heap.size≤k_)∧some k_≠(Aq:Value).ownBlock∧some k_≠(.slice (some Bu) Ap.length Ca:Value).ownBlock∧k_≠Af)) (qV (Kd.V_mono Cm.out (fun _ hk=>⟨⟨hk.1,⟨hk.2.2.2.1,⟨hk.2.1,hk.2.2.2.2⟩⟩⟩,hk.2.2.1⟩))) hg (.inl rfl));replace Ga:=y0.mk (Kd.V_afterv (v:=(.slice (some ⟨Bo,0,none⟩) Be.length Bi)) (v1:=(.slice (some ⟨Bo,0,none⟩) Be.length Bi)) (ok:=(fun k_=>((P0_3_ k_∨P0_4_ k_)∨w.heap.size≤k_)∧some k_≠(Aq:Value).ownBlock∧some k_≠(.slice (some Bu) Ap.length Ca:Value).ownBlock∧k_≠Af)) (qV (Kd.V_mono Ga.out (fun _ hk=>⟨⟨hk.1.1,⟨hk.1.2.2.1,⟨hk.2,hk.1.2.2.2⟩⟩⟩,hk.1.2.1⟩))) hg (.inl rfl));replace HB:=y0.mk ((by rw [hw];exact below_set (HB.out) Qr.out:Below w.heap.size w Nf));clear hg hw hp_))
            go_roundg k3
            case measure=>have:=Cv.out;have:=Cu.out;have:=Mp.out;omega
            exact⟨(Mr),(wrap64 (At + 1)),qy2,H',⟨by have:=Cv.out;have:=Cu.out;have:=Mp.out;omega⟩,⟨qR Aj.out⟩,⟨qR Ai.out⟩,⟨qN (Kd.N_mono Ba.out (fun _ hk=>⟨hk.1.1,⟨hk.2,⟨hk.1.2.1,hk.1.2.2⟩⟩⟩))⟩,⟨qV (Kd.V_mono Ab.out (fun _ hk=>⟨hk.1.1,⟨hk.2,⟨hk.1.2.1,⟨hk.1.2.2.1,hk.1.2.2.2⟩⟩⟩⟩))⟩,⟨qV (Kd.V_mono Ac.out (fun _ hk=>⟨hk.1.1,⟨hk.2,⟨hk.1.2.1,⟨hk.1.2.2.1,hk.1.2.2.2⟩⟩⟩⟩))⟩,⟨qk Ae.out⟩,⟨qb⟩⟩
           ·replace Ju:=Bool.eq_false_iff.mpr Ju
            subst Ju
            replace H:=qF H
            simp only [Option.some.injEq,Prod.mk.injEq]at H
            obtain⟨rfl,rfl⟩:=H
            have Cq:0≤(Ag:Int):=of_decide_eq_true qy0
            have Cr:Ag < (Ap.length:Int):=of_decide_eq_true qy0
            obtain⟨Bu,Hm,Dy,Hn,Df,Dg,Bl,Bv,Bw⟩:=at_T33 (Kd.N_reads' Ba.out).2.2 Ag Cq Cr
            cases Hn
            obtain⟨Ks,Dm,Do,Ck⟩:=Kd.N_get Ba.out z33 Ag Cq (by first|exact Cr|exact of_decide_eq_true qy0|(have e_:=(Kd.N_reads' Ba.out).1;omega))
            obtain⟨Ft,Fu,rfl,Bj,Bk⟩:=k33_openF Do
            have Bb:=Ck 2 _ rfl
            rw [add_field _ _ 2 (by omega)]at Bb
            replace Bb:=Option.some.inj (Bb.symm.trans Bl)
            injection Bb with hva_ hvn_ hvc_
            rw [hva_]at Bk
            rw [hvc_]at Bj
            have Ce:=y0.mk (show Kd.V (Kd.int .i64) 3 _ w.heap.size _ _ ((y16 Ap Ag).f2)from Kd.V_mk Bj Bk)
            clear hva_ hvn_ hvc_ Bk Bj
            clear Ck Dm
            have Cl:=y0.mk Bw
            have Fv:=y0.mk Bv
            clear Bw Bv
            replace Cq:=eq_true Cq
            replace Cr:=eq_true Cr
            have Dz:0≤(Ag:Int):=of_decide_eq_true qy0
            have Ea:Ag < (Ap.length:Int):=of_decide_eq_true qy0
            obtain⟨Ho,Ms,Mt,Mu,Eb,Ec,Cf,Cs,Ct⟩:=at_T33 (Kd.N_reads' Ba.out).2.2 Ag Dz Ea
            obtain rfl:Bu=Ho:=(by injection Mu)
            obtain⟨Qn,Fe,Ff,Dp⟩:=Kd.N_get Ba.out z33 Ag Dz (by first|exact Ea|exact of_decide_eq_true qy0|(have e_:=(Kd.N_reads' Ba.out).1;omega))
            obtain⟨Jv,Jw,rfl,Cg,Ch⟩:=k33_openF Ff
            have Bs:=Dp 2 _ rfl
            rw [add_field _ _ 2 (by omega)]at Bs
            replace Bs:=Option.some.inj (Bs.symm.trans Cf)
            injection Bs with hva_ hvn_ hvc_
            rw [hva_]at Ch
            rw [hvc_]at Cg
            have Cm:=y0.mk (show Kd.V (Kd.int .i64) 3 _ w.heap.size _ _ ((y16 Ap Ag).f2)from Kd.V_mk Cg Ch)
            clear hva_ hvn_ hvc_ Ch Cg
            clear Dp Fe
            have Bt:=y0.mk Ct
            have Jx:=y0.mk Cs
            clear Ct Cs
            replace Dz:=eq_true Dz
            replace Ea:=eq_true Ea
            have ea_:=Option.some.inj (Bl.symm.trans Cf)
            injection ea_ with ea_ en_ ec_
            subst ea_
            subst ec_
            clear en_
            have Fg:0≤(At:Int):=of_decide_eq_true qy0
            have Fh:At < (((y16 Ap Ag).f2).length:Int):=of_decide_eq_true qy0
            obtain⟨Ex,Mv,Ed⟩:=Kd.at_int (by repeat(first|(with_reducible exact Bt.out)|(with_reducible refine Kd.C_alloc ?_ _)|(with_reducible refine Kd.C_drewN ?_ _)|(with_reducible refine Kd.C_drew ?_)|exact Bt.out)) At Fg Fh
            cases Mv
            replace Fg:=eq_true Fg
            replace Fh:=eq_true Fh
            obtain⟨aG,aH,Qs⟩:=Kd.R_slice Aj.out
            subst Qs
            go_wp2_with (first|((with_reducible refine y13 (f:=23) rfl ?_);refine y15 (some 195) rfl rfl Try.func23 (by kernel_rfl) rfl #[.int .i64 (rd ((y16 Ap Ag).f2) At),.int .i64 0,.int .i64 (wrap64 ((Be.length:Int) - 1))] rfl qy1 ?_;(with_reducible refine(spec_l01Between.calls (rd ((y16 Ap Ag).f2) At) 0 (wrap64 ((Be.length:Int) - 1)) false _ Qj.out).mono ?_);rintro e w' ⟨rfl,⟨nd,rfl⟩⟩;refine⟨_,rfl, ?_⟩))
            go_ret2
            exact⟨_,by first|rfl|(simp [y10,y11] <;> rfl)|(simp [*,y10,y11] <;> rfl),by(with_reducible repeat(first|apply Kd.R_alloc|apply Kd.R_drewN|apply Kd.R_drew));exact Ai.out,qb⟩
          ·as_aux_lemma =>
           rw [if_neg Gg]at H
           have Mq:=decide_eq_false Gg
           clear Gg
           have H':=y0.mk H
           clear H
           have Cq:0≤(Ag:Int):=of_decide_eq_true qy0
           have Cr:Ag < (Ap.length:Int):=of_decide_eq_true qy0
           obtain⟨Bu,Hm,Dy,Hn,Df,Dg,Bl,Bv,Bw⟩:=at_T33 (Kd.N_reads' Ba.out).2.2 Ag Cq Cr
           cases Hn
           obtain⟨Ks,Dm,Do,Ck⟩:=Kd.N_get Ba.out z33 Ag Cq (by first|exact Cr|exact of_decide_eq_true qy0|(have e_:=(Kd.N_reads' Ba.out).1;omega))
           obtain⟨Ft,Fu,rfl,Bj,Bk⟩:=k33_openF Do
           have Bb:=Ck 2 _ rfl
           rw [add_field _ _ 2 (by omega)]at Bb
           replace Bb:=Option.some.inj (Bb.symm.trans Bl)
           injection Bb with hva_ hvn_ hvc_
           rw [hva_]at Bk
           rw [hvc_]at Bj
           have Ce:=y0.mk (show Kd.V (Kd.int .i64) 3 _ w.heap.size _ _ ((y16 Ap Ag).f2)from Kd.V_mk Bj Bk)
           clear hva_ hvn_ hvc_ Bk Bj
           clear Ck Dm
           have Cl:=y0.mk Bw
           have Fv:=y0.mk Bv
           clear Bw Bv
           replace Cq:=eq_true Cq
           replace Cr:=eq_true Cr
           go_wp2
           go_roundg k3
           case measure=>have:=Cv.out;have:=Cu.out;have:=Mp.out;omega
           exact⟨(Be),(wrap64 (Ag + 1)),qy2,H',⟨by have:=Cv.out;have:=Cu.out;have:=Mp.out;omega⟩,⟨qR Aj.out⟩,⟨qR Ai.out⟩,⟨qN Ba.out⟩,⟨qV Ab.out⟩,⟨qV Ac.out⟩,⟨qk Ae.out⟩,⟨qb⟩⟩
       ·as_aux_lemma =>
        rw [if_neg Gf]at H
        have Fd:=decide_eq_false Gf
        clear Gf
        have H':=y0.mk H
        clear H
        obtain⟨aI,aJ,Qt⟩:=Kd.N_slice Ba.out
        subst Qt
        go_wp2
        go_loopg [15] k2 (fun kq bT w'=>∃(Bm:Int),bT=.int .i64 Bm∧y0 (z6_.l5 kq Az As Bm=some (r1,r2))∧y0 (kq≤k2)∧y0 (Kd.R (Kd.int .i64) 3 w' w.heap.size (fun k_=>(w.heap.size≤k_)) Ay Az)∧y0 (Kd.R Kd.string 9 w' w.heap.size (fun k_=>(w.heap.size≤k_)) Aq As)∧y0 (Kd.V (Kd.int .i64) 3 w' w.heap.size (fun k_=>((P0_3_ k_∨P0_4_ k_)∨w.heap.size≤k_)∧some k_≠(Ay:Value).ownBlock∧some k_≠(Aq:Value).ownBlock∧k_≠Af) (.slice Bc Ak.length Bd) Ak)∧y0 (Kd.V k33 33 w' w.heap.size (fun k_=>((P0_3_ k_∨P0_4_ k_)∨w.heap.size≤k_)∧some k_≠(Ay:Value).ownBlock∧some k_≠(Aq:Value).ownBlock∧k_≠Af) (.slice Bg Al.length Bh) Al)∧y0 (w'.heap[Af]?=some (.cells #[(.slice Di Aa.length Bx),.int .i64 Av,.string Aw,(.slice Bc Ak.length Bd),(.slice Bg Al.length Bh)] 36 (0,0)))∧y0 (Below w.heap.size w w'))
        case atStart=>exact⟨(0),qy2,H',⟨Nat.le_refl _⟩,⟨qR Aj.out⟩,⟨qR Ai.out⟩,⟨qV (Kd.V_mono Ab.out (fun _ hk=>⟨hk.1,⟨hk.2.1,⟨hk.2.2.1,hk.2.2.2.2⟩⟩⟩))⟩,⟨qV (Kd.V_mono Ac.out (fun _ hk=>⟨hk.1,⟨hk.2.1,⟨hk.2.2.1,hk.2.2.2.2⟩⟩⟩))⟩,⟨qk Ae.out⟩,⟨qb⟩⟩
        case round =>
         clear H'
         (try clear Fd)
         obtain⟨Bm,rfl,HA,Mp,Aj,Ai,Ab,Ac,Ae,HB⟩:=hrel
         cases gk with
         | zero=>exact absurd HA.out (by simp [z6_.l5])
         | succ k3 =>
          have H:=HA.out
          clear HA
          simp only [z6_.l5]at H
          by_cases Gh:Bm < (Az.length:Int)
          ·as_aux_lemma =>
           rw [if_pos Gh]at H
           have Ng:=decide_eq_true Gh
           clear Gh
           obtain⟨Qu,H⟩:=qo H
           have Wo:decide (0≤Bm)=true:=decide_eq_true Qu
           clear Qu
           by_cases Fi:(rd Az Bm)=1
           ·as_aux_lemma =>
            rw [if_pos Fi]at H
            have Nh:((rd Az Bm) == 1)=true:=beq_iff_eq.mpr Fi
            have Ni:((rd Az Bm) != 1)=false:=bne_eq_false_iff_eq.mpr Fi
            clear Fi
            have H':=y0.mk H
            clear H
            obtain⟨aK,aM,Qv⟩:=Kd.R_slice Aj.out
            subst Qv
            have Fj:0≤(Bm:Int):=of_decide_eq_true qy0
            have Fk:Bm < (Az.length:Int):=of_decide_eq_true qy0
            obtain⟨Qw,Nj,Kb⟩:=Kd.at_int (Kd.R_reads' Aj.out).2.2 Bm Fj Fk
            cases Nj
            replace Fj:=eq_true Fj
            replace Fk:=eq_true Fk
            go_wp2
            go_roundg k3
            case measure=>have:=Cv.out;have:=Cu.out;have:=Mp.out;omega
            exact⟨(wrap64 (Bm + 1)),qy2,H',⟨by have:=Cv.out;have:=Cu.out;have:=Mp.out;omega⟩,⟨qR Aj.out⟩,⟨qR Ai.out⟩,⟨qV Ab.out⟩,⟨qV Ac.out⟩,⟨qk Ae.out⟩,⟨qb⟩⟩
           ·as_aux_lemma =>
            rw [if_neg Fi]at H
            have Nh:((rd Az Bm) == 1)=false:=beq_eq_false_iff_ne.mpr Fi
            have Ni:((rd Az Bm) != 1)=true:=bne_iff_ne.mpr Fi
            simp only [Option.some.injEq,Prod.mk.injEq]at H
            obtain⟨rfl,rfl⟩:=H
            obtain⟨aN,aQ,Qx⟩:=Kd.R_slice Aj.out
            subst Qx
            have Fj:0≤(Bm:Int):=of_decide_eq_true qy0
            have Fk:Bm < (Az.length:Int):=of_decide_eq_true qy0
            obtain⟨Qw,Nj,Kb⟩:=Kd.at_int (Kd.R_reads' Aj.out).2.2 Bm Fj Fk
            cases Nj
            replace Fj:=eq_true Fj
            replace Fk:=eq_true Fk
            go_wp2
            go_ret2
            exact⟨_,by first|rfl|(simp [y10,y11] <;> rfl)|(simp [*,y10,y11] <;> rfl),by(with_reducible repeat(first|apply Kd.R_alloc|apply Kd.R_drewN|apply Kd.R_drew));exact Ai.out,qb⟩
          ·as_aux_lemma =>
           rw [if_neg Gh]at H
           have Ng:=decide_eq_false Gh
           clear Gh
           simp only [Option.some.injEq,Prod.mk.injEq]at H
           obtain⟨rfl,rfl⟩:=H
           obtain⟨aT,aU,Qy⟩:=Kd.R_slice Aj.out
           subst Qy
           go_wp2
           go_ret2
           exact⟨_,by first|rfl|(simp [y10,y11] <;> rfl)|(simp [*,y10,y11] <;> rfl),by(with_reducible repeat(first|apply Kd.R_alloc|apply Kd.R_drewN|apply Kd.R_drew));exact Ai.out,qb⟩
end Go.Proofs.Ytkdabljlfbmpdaa.Pg
