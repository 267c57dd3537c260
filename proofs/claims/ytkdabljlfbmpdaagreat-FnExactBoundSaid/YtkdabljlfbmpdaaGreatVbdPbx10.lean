-- Cut by prune.py, a program of this session, out of the texts of this claim: Lean checks it.
import Derived.Test.YtkdabljlfbmpdaaGreatVbdPbx0
import Derived.Test.YtkdabljlfbmpdaaGreatVbdPbx4
import Derived.Test.YtkdabljlfbmpdaaGreatVbdPbx8
namespace Go.Proofs.YtkdabljlfbmpdaaGreat.Pb
open Go.RowKit Go.Proofs.YtkdabljlfbmpdaaGreatW.PrintWords Go.Proofs.YtkdabljlfbmpdaaGreatW.PrintLast Go.Proofs.YtkdabljlfbmpdaaGreatW.PrintMore
attribute [local go_sem] max2_int min2_int max_two min_two max_three min_three max_four min_four   -- for this text's walks alone
set_option linter.unusedVariables false
set_option linter.unusedSimpArgs false
mutual
def z9_.l0:Nat→List ByteArray→List Bool→Int→List (S48)→Int→ByteArray→List Int→List (S33)→Option (List ByteArray)
 | 0,_,_,_,_,_,_,_,_=>none
 | k + 1,x3,x4,x5,x285000,x285001,x285002,x285003,x285004=>if x5 < (x285004.length:Int)then(z9_.l1 k x3 x4 x5 0 x285000 x285001 x285002 x285003 x285004)else(z9_.l3 k x3 x285000 x285001 x285002 x285003 x285004)
def z9_.l1:Nat→List ByteArray→List Bool→Int→Int→List (S48)→Int→ByteArray→List Int→List (S33)→Option (List ByteArray)
 | 0,_,_,_,_,_,_,_,_,_=>none
 | k + 1,x3,x4,x5,x6,x285000,x285001,x285002,x285003,x285004=>if 0≤x5 then(if x5 < (x285004.length:Int)then(if x6 < (((y19 x285004 x5).f2).length:Int)then(z9_.j2 k x3 x4 x5 x6 (((y19 x285004 x5).f0) == 1) x285000 x285001 x285002 x285003 x285004)else(z9_.j2 k x3 x4 x5 x6 false x285000 x285001 x285002 x285003 x285004))else(none))else(none)
def z9_.j2:Nat→List ByteArray→List Bool→Int→Int→Bool→List (S48)→Int→ByteArray→List Int→List (S33)→Option (List ByteArray)
 | 0,_,_,_,_,_,_,_,_,_,_=>none
 | k + 1,x3,x4,x5,x6,x44,x285000,x285001,x285002,x285003,x285004=>if x44=true then(if 0≤x5 then(if x5 < (x285004.length:Int)then(if 0≤x6 then(if x6 < (((y19 x285004 x5).f2).length:Int)then((z12_.f k x285000 x285001 x285002 x285003 x285004 (rd ((y19 x285004 x5).f2) x6)).bind fun t295=>(z9_.l2 k x3 x4 x5 x6 t295 0 x285000 x285001 x285002 x285003 x285004))else(none))else(none))else(none))else(none))else(z9_.l0 k x3 x4 (wrap64 (x5 + 1)) x285000 x285001 x285002 x285003 x285004)
def z9_.l2:Nat→List ByteArray→List Bool→Int→Int→List Bool→Int→List (S48)→Int→ByteArray→List Int→List (S33)→Option (List ByteArray)
 | 0,_,_,_,_,_,_,_,_,_,_,_=>none
 | k + 1,x3,x4,x5,x6,x7,x8,x285000,x285001,x285002,x285003,x285004=>if x8 < (x7.length:Int)then(if 0≤x8 then(if rdOf false x7 x8=true then(if x8 < (x285000.length:Int)then(if((y20 x285000 x8).f0)=1 then(if x8 < (x4.length:Int)then(if rdOf false x4 x8=true then(z9_.l2 k x3 x4 x5 x6 x7 (wrap64 (x8 + 1)) x285000 x285001 x285002 x285003 x285004)else((spec_l05In.f k x3 ((y20 x285000 x8).f1)).bind fun t302=>(if t302=true then(z9_.l2 k x3 x4 x5 x6 x7 (wrap64 (x8 + 1)) x285000 x285001 x285002 x285003 x285004)else(if x3.length < 8796093022208 then(z9_.l2 k (x3 ++ [(y20 x285000 x8).f1]) x4 x5 x6 x7 (wrap64 (x8 + 1)) x285000 x285001 x285002 x285003 x285004)else(none)))))else(none))else(z9_.l2 k x3 x4 x5 x6 x7 (wrap64 (x8 + 1)) x285000 x285001 x285002 x285003 x285004))else(none))else(z9_.l2 k x3 x4 x5 x6 x7 (wrap64 (x8 + 1)) x285000 x285001 x285002 x285003 x285004))else(none))else(z9_.l1 k x3 x4 x5 (wrap64 (x6 + 1)) x285000 x285001 x285002 x285003 x285004)
def z9_.l3:Nat→List ByteArray→List (S48)→Int→ByteArray→List Int→List (S33)→Option (List ByteArray)
 | 0,_,_,_,_,_,_=>none
 | k + 1,x3,x285000,x285001,x285002,x285003,x285004=>z9_.l4 k x3 (x3.length:Int) 0 x285000 x285001 x285002 x285003 x285004
def z9_.l4:Nat→List ByteArray→Int→Int→List (S48)→Int→ByteArray→List Int→List (S33)→Option (List ByteArray)
 | 0,_,_,_,_,_,_,_,_=>none
 | k + 1,x3,x9,x10,x285000,x285001,x285002,x285003,x285004=>if x10 < (x285004.length:Int)then(if 0≤x10 then(if((y19 x285004 x10).f0)=3 then(z9_.j6 k x3 x9 x10 (((y19 x285004 x10).f1).toList != ([61]:List UInt8)) x285000 x285001 x285002 x285003 x285004 ((y19 x285004 x10).f0) ((y19 x285004 x10).f1) ((y19 x285004 x10).f2))else(z9_.j6 k x3 x9 x10 true x285000 x285001 x285002 x285003 x285004 ((y19 x285004 x10).f0) ((y19 x285004 x10).f1) ((y19 x285004 x10).f2)))else(none))else(if(x3.length:Int)=x9 then(some x3)else(z9_.l3 k x3 x285000 x285001 x285002 x285003 x285004))
def z9_.j6:Nat→List ByteArray→Int→Int→Bool→List (S48)→Int→ByteArray→List Int→List (S33)→Int→ByteArray→List Int→Option (List ByteArray)
 | 0,_,_,_,_,_,_,_,_,_,_,_,_=>none
 | k + 1,x3,x9,x10,x125,x285000,x285001,x285002,x285003,x285004,x309000,x309001,x309002=>if x125=true then(z9_.l4 k x3 x9 (wrap64 (x10 + 1)) x285000 x285001 x285002 x285003 x285004)else(z9_.l5 k x3 x9 x10 0 x285000 x285001 x285002 x285003 x285004 x309000 x309001 x309002)
def z9_.l5:Nat→List ByteArray→Int→Int→Int→List (S48)→Int→ByteArray→List Int→List (S33)→Int→ByteArray→List Int→Option (List ByteArray)
 | 0,_,_,_,_,_,_,_,_,_,_,_,_=>none
 | k + 1,x3,x9,x10,x12,x285000,x285001,x285002,x285003,x285004,x309000,x309001,x309002=>if x12 < 2 then(if 0≤x12 then(if x12 < (x309002.length:Int)then(if 0≤(wrap64 (1 - x12))then(if(wrap64 (1 - x12)) < (x309002.length:Int)then((z10_.f k x285000 x285001 x285002 x285003 x285004 (rd x309002 x12) 2 2).bind fun t311=>(if t311=true then(z9_.j8 k x3 x9 x10 x12 (rd x309002 (wrap64 (1 - x12))) true x285000 x285001 x285002 x285003 x285004 x309000 x309001 x309002)else((spec_l06Vars.f k x285000 x285001 x285002 x285003 x285004 (rd x309002 x12)).bind fun t312=>((spec_l06All.f k t312 x3).bind fun t315=>(if t315=true then((z10_.f k x285000 x285001 x285002 x285003 x285004 (rd x309002 (wrap64 (1 - x12))) 5 7).bind fun t316=>(z9_.j8 k x3 x9 x10 x12 (rd x309002 (wrap64 (1 - x12))) t316 x285000 x285001 x285002 x285003 x285004 x309000 x309001 x309002))else(z9_.j8 k x3 x9 x10 x12 (rd x309002 (wrap64 (1 - x12))) true x285000 x285001 x285002 x285003 x285004 x309000 x309001 x309002))))))else(none))else(none))else(none))else(none))else(z9_.l4 k x3 x9 (wrap64 (x10 + 1)) x285000 x285001 x285002 x285003 x285004)
def z9_.j8:Nat→List ByteArray→Int→Int→Int→Int→Bool→List (S48)→Int→ByteArray→List Int→List (S33)→Int→ByteArray→List Int→Option (List ByteArray)
 | 0,_,_,_,_,_,_,_,_,_,_,_,_,_,_=>none
 | k + 1,x3,x9,x10,x12,x14,x156,x285000,x285001,x285002,x285003,x285004,x309000,x309001,x309002=>if x156=true then(z9_.l5 k x3 x9 x10 (wrap64 (x12 + 1)) x285000 x285001 x285002 x285003 x285004 x309000 x309001 x309002)else((spec_l06Vars.f k x285000 x285001 x285002 x285003 x285004 x14).bind fun t317=>(z9_.l6 k x3 x9 x10 x12 t317 0 x285000 x285001 x285002 x285003 x285004 x309000 x309001 x309002))
def z9_.l6:Nat→List ByteArray→Int→Int→Int→List ByteArray→Int→List (S48)→Int→ByteArray→List Int→List (S33)→Int→ByteArray→List Int→Option (List ByteArray)
 | 0,_,_,_,_,_,_,_,_,_,_,_,_,_,_=>none
 | k + 1,x3,x9,x10,x12,x15,x16,x285000,x285001,x285002,x285003,x285004,x309000,x309001,x309002=>if x16 < (x15.length:Int)then(if 0≤x16 then((spec_l05In.f k x3 (rdOf ByteArray.empty x15 x16)).bind fun t321=>(if t321=true then(z9_.l6 k x3 x9 x10 x12 x15 (wrap64 (x16 + 1)) x285000 x285001 x285002 x285003 x285004 x309000 x309001 x309002)else(if x3.length < 8796093022208 then(z9_.l6 k (x3 ++ [rdOf ByteArray.empty x15 x16]) x9 x10 x12 x15 (wrap64 (x16 + 1)) x285000 x285001 x285002 x285003 x285004 x309000 x309001 x309002)else(none))))else(none))else(z9_.l5 k x3 x9 x10 (wrap64 (x12 + 1)) x285000 x285001 x285002 x285003 x285004 x309000 x309001 x309002)
end
def z9_.f (k:Nat) (l0_0:List (S48)) (a0_1:Int) (a0_2:ByteArray) (l0_3:List Int) (l0_4:List (S33)):Option (List ByteArray):=(z11_.f k l0_0 a0_1 a0_2 l0_3 l0_4).bind fun t288=>(z9_.l0 k (([]:List ByteArray)) t288 0 l0_0 a0_1 a0_2 l0_3 l0_4)
def z9_.T9:Bool×List (List Nat×List Nat):=(true,[([],[]),([],[]),([1],[1]),([],[]),([2,3],[2,3]),([4],[4]),([5],[5]),([],[]),([6,7],[6,7]),([8],[8]),([0,9],[0,9]),([10,10,0,1,2,3,4,5,6,7,8,9,10],[10])])
def z9_.B9:List Nat:=[0,0,2,0,14,30,62,0,254,510,1023,2047]
theorem z9_.tab9:rtab .any (opsOf Tryz.f17 9)=z9_.T9:=by kernel_rfl
theorem z9_.bits9:waitsOk z9_.T9.2 z9_.B9=true:=by kernel_rfl
def z9_.T24:Bool×List (List Nat×List Nat):=(true,[([],[]),([0],[0]),([],[]),([1,2],[1,2]),([3],[3]),([],[]),([5],[5]),([],[]),([7],[7]),([6,8],[6,8]),([9],[9]),([4,0,1,2,3,4],[4]),([10,11,0,1,2,3,4,5,6,7,8,9,10,11],[10])])
def z9_.B24:List Nat:=[0,1,0,7,15,0,32,0,128,480,992,31,4095]
theorem z9_.tab24:rtab .any (opsOf Tryz.f17 24)=z9_.T24:=by kernel_rfl
theorem z9_.bits24:waitsOk z9_.T24.2 z9_.B24=true:=by kernel_rfl
set_option maxHeartbeats 8000000 in
set_option maxRecDepth 100000 in
theorem z9_.calls (k:Nat) (Bk:Option Addr) (Bl:Nat) (Af:List (S48)) (Aj:Int) (Ak:ByteArray) (Bm:Option Addr) (Bn:Nat) (Ai:List Int) (Dt:Option Addr) (Bo:Nat) (Aa:List (S33)) (r:List ByteArray) (w:World) (Ic:Kd.C k48 w Bk Af.length Af) (Id:Af.length≤Bl) (Ie:Kd.C (Kd.int .i64) w Bm Ai.length Ai) (If:Ai.length≤Bn) (Ig:Kd.C k33 w Dt Aa.length Aa) (Ih:Aa.length≤Bo) (h:z9_.f k Af Aj Ak Ai Aa=some r) :
  Calls Tryz.prog 17 #[.agg #[.slice Bk Af.length Bl,.int .i64 Aj,.string Ak,.slice Bm Ai.length Bn,.slice Dt Aa.length Bo]] w fun e w'=>∃ v0_:Value,e=.returned (v0_)∧Kd.R Kd.string 9 w' w.heap.size (fun _=>True) v0_ r∧Below w.heap.size w w':=by
 have Ww:=Tryz.underlying36
 have Wx:=Tryz.underlying33
 have Bg:=y0.mk Ic
 have Co:=y0.mk Id
 clear Ic Id
 have Cp:=y0.mk Ie
 have Cq:=y0.mk If
 clear Ie If
 have Bp:=y0.mk Ig
 have Cr:=y0.mk Ih
 clear Ig Ih
 have HB:=y0.mk (Below.refl w.heap.size w)
 have H:((z11_.f k Af Aj Ak Ai Aa).bind fun Ay=>(z9_.l0 k (([]:List ByteArray)) Ay 0 Af Aj Ak Ai Aa))=some r:=h
 clear h
 obtain⟨Ku,Eh⟩:∃ y_:List ByteArray,y_=(([]:List ByteArray)):=⟨_,rfl⟩
 replace H:((z11_.f k Af Aj Ak Ai Aa).bind fun Ay=>(z9_.l0 k Ku Ay 0 Af Aj Ak Ai Aa))=some r:=by first|(rw [Eh];with_reducible exact H)|(have H2_:=(Option.bind_some _ _).symm.trans H;rw [Eh];with_reducible exact H2_)|(have H2_:=(Option.bind_some _ _).symm.trans H;with_reducible exact H2_)|with_reducible exact H|(rw [Eh];exact H)|exact H
 have Ii:=y0.mk Eh
 clear Eh
 obtain⟨Ay,A2,H⟩:=qB H
 have H':=y0.mk H
 clear H
 go_enter Tryz.func17,Tryz.ntmps17
 go_wp2_with (first|((with_reducible refine y16 (N:=1) rfl ?_);refine qe 1 #[.slice Bk Af.length Bl,.int .i64 Aj,.string Ak,.slice Bm Ai.length Bn,.slice Dt Aa.length Bo] 36 ?_;intro Bi hg w3 hbox hb;have Ab:=y0.mk (hbox);have Va:=y0.mk (qg (w:=w) hg);have Vb:=y0.mk (qg (w:=w) hg);replace HB:=y0.mk (y5 qb hb);clear hb hbox hg)|((with_reducible refine y16 (N:=17) rfl ?_);refine qL Kd.string 9 17 ([]:List ByteArray) ?_;intro Wy w4 Kv hb hg_ hnew_;clear hg_ hnew_;(first|rw [← Ii.out]at Kv|(simp only [Int.reduceToNat]at Kv;rw [← Ii.out]at Kv));have Fq:=y0.mk (Kd.R_lower Kv (y4 qb));replace Ab:=y0.mk (qK Ab.out hb);replace HB:=y0.mk (y5 qb hb);clear hb Kv;obtain⟨Ir,Is,Iu,Iv,Iw,Ix,Iy,Iz,Ja,Jb⟩:=qz5 Ab.out)|((with_reducible refine y15 (f:=35) rfl ?_);refine y17 (some 19) rfl rfl Tryz.func35 (by kernel_rfl) rfl #[.agg #[.slice Bk Af.length Bl,.int .i64 Aj,.string Ak,.slice Bm Ai.length Bn,.slice Dt Aa.length Bo]] rfl qy1 ?_;(with_reducible refine(z11_.calls k _ _ Af Aj Ak _ _ Ai _ _ Aa Ay _ (qc (Kd.C_below Bg.out HB.out)) Co.out (qc (Kd.C_below Cp.out HB.out)) Cq.out (qc (Kd.C_below Bp.out HB.out)) Cr.out A2.out).mono ?_);rintro e w7 ⟨Fr,rfl,Eg,hb⟩;refine⟨_,rfl, ?_⟩;replace Fq:=y0.mk (Kd.R_below (qR Fq.out) hb);have Kw:=y0.mk (Kd.R_lower Eg (y4 qb));replace Ab:=y0.mk (qK Ab.out hb);replace HB:=y0.mk (y5 qb hb);(try clear hb);(try clear Eg)))
 go_loopg [3,5] k (fun kq v3 v5 w'=>∃(Fs:List ByteArray) (As:Int),v5=.int .i64 As∧y0 (z9_.l0 kq Fs Ay As Af Aj Ak Ai Aa=some r)∧y0 (kq≤k)∧y0 (Kd.R Kd.string 9 w' w.heap.size (fun _=>True) v3 Fs)∧y0 (Kd.R Kd.bool 4 w' w.heap.size (fun _=>True) Fr Ay)∧y0 (w'.heap[Bi]?=some (.cells #[(.slice Bk Af.length Bl),.int .i64 Aj,.string Ak,(.slice Bm Ai.length Bn),(.slice Dt Aa.length Bo)] 36 (0,0)))∧y0 (Below w.heap.size w w'))
 case atStart=>exact⟨(Ku),(0),qy2,H',⟨Nat.le_refl _⟩,⟨qR Fq.out⟩,⟨qR Kw.out⟩,⟨qk Ab.out⟩,⟨qb⟩⟩
 case round =>
  clear H'
  (try clear Ir Is Iu Iv Iw Ix Iy Iz Ja Jb)
  obtain⟨Fs,As,rfl,HA,Ca,Ad,Bb,Ab,HB⟩:=hrel
  cases gk with
  | zero=>exact absurd HA.out (by simp [z9_.l0])
  | succ k1 =>
   have H:=HA.out
   clear HA
   simp only [z9_.l0]at H
   by_cases c8:As < (Aa.length:Int)
   ·as_aux_lemma =>
    rw [if_pos c8]at H
    have Jc:=decide_eq_true c8
    clear c8
    have H':=y0.mk H
    clear H
    obtain⟨Jd,Je,Jf,Jg,Jh,Ji,Jj,Jk,Jl,Jm⟩:=qz5 Ab.out
    go_wp2
    go_loopg [3,6] k1 (fun kq v3 v6 w'=>∃(Bc:List ByteArray) (Be:Int),v6=.int .i64 Be∧y0 (z9_.l1 kq Bc Ay As Be Af Aj Ak Ai Aa=some r)∧y0 (kq≤k1)∧y0 (Kd.R Kd.string 9 w' w.heap.size (fun _=>True) v3 Bc)∧y0 (Kd.R Kd.bool 4 w' w.heap.size (fun _=>True) Fr Ay)∧y0 (w'.heap[Bi]?=some (.cells #[(.slice Bk Af.length Bl),.int .i64 Aj,.string Ak,(.slice Bm Ai.length Bn),(.slice Dt Aa.length Bo)] 36 (0,0)))∧y0 (Below w.heap.size w w'))
    case atStart=>exact⟨(Fs),(0),qy2,H',⟨Nat.le_refl _⟩,⟨qR Ad.out⟩,⟨qR Bb.out⟩,⟨qk Ab.out⟩,⟨qb⟩⟩
    case round =>
     clear H'
     (try clear Jc Jd Je Jf Jg Jh Ji Jj Jk Jl Jm)
     obtain⟨Bc,Be,rfl,HA,Bz,Ad,Bb,Ab,HB⟩:=hrel
     cases gk with
     | zero=>exact absurd HA.out (by simp [z9_.l1])
     | succ k2 =>
      have H:=HA.out
      clear HA
      simp only [z9_.l1]at H
      have Jn:=y0.mk H
      clear H
      go_upto_region 7 with(fail)
      go_cut [44] (fun Wz wc=>∃(kq:Nat) (Et:Bool),Wz=.bool Et∧y0 (z9_.j2 kq Bc Ay As Be Et Af Aj Ak Ai Aa=some r)∧y0 (kq≤k2)∧y0 (Kd.R Kd.string 9 wc w.heap.size (fun _=>True) u3 Bc)∧y0 (Kd.R Kd.bool 4 wc w.heap.size (fun _=>True) Fr Ay)∧y0 (wc.heap[Bi]?=some (.cells #[(.slice Bk Af.length Bl),.int .i64 Aj,.string Ak,(.slice Bm Ai.length Bn),(.slice Dt Aa.length Bo)] 36 (0,0)))∧y0 (Below w.heap.size w wc))
      case first =>
       have H:=Jn.out
       clear Jn
       obtain⟨Vc,H⟩:=qo H
       have Ij:decide (0≤As)=true:=decide_eq_true Vc
       clear Vc
       (first|rw [Ij]|(simp only [i64_w,i32_w];rw [Ij])|skip)
       obtain⟨Vd,H⟩:=qo H
       have Ve:decide (As < (Aa.length:Int))=true:=decide_eq_true Vd
       clear Vd
       obtain⟨Np,Nq,Nr,Ns,Nt,Nu,Nv,Nw,Nx,Ny⟩:=qz5 Ab.out
       have Jo:0≤(As:Int):=of_decide_eq_true qy0
       have Jp:As < (Aa.length:Int):=of_decide_eq_true qy0
       obtain⟨Kx,Ti,Tj,Tk,Du,Dw,Da,Eu,Ew⟩:=at_T33 Bp.out As Jo Jp
       cases Tk
       replace Du:=(HB.out.cell (World.block_lt_of_cell? w _ Du)).trans Du
       replace Dw:=(HB.out.cell (World.block_lt_of_cell? w _ Dw)).trans Dw
       replace Da:=(HB.out.cell (World.block_lt_of_cell? w _ Da)).trans Da
       have Nz:=y0.mk Ew
       have Oa:=y0.mk Eu
       clear Ew Eu
       replace Jo:=eq_true Jo
       replace Jp:=eq_true Jp
       by_cases Kp:Be < (((y19 Aa As).f2).length:Int)
       ·as_aux_lemma =>
        rw [if_pos Kp]at H
        have Ky:=decide_eq_true Kp
        clear Kp
        have H':=y0.mk H
        clear H
        have Jq:0≤(As:Int):=of_decide_eq_true qy0
        have Jr:As < (Aa.length:Int):=of_decide_eq_true qy0
        obtain⟨Kz,Tl,Tm,Tn,Dx,Dy,Db,Ex,Ey⟩:=at_T33 Bp.out As Jq Jr
        obtain rfl:Kx=Kz:=(by injection Tn)
        replace Dx:=(HB.out.cell (World.block_lt_of_cell? w _ Dx)).trans Dx
        replace Dy:=(HB.out.cell (World.block_lt_of_cell? w _ Dy)).trans Dy
        replace Db:=(HB.out.cell (World.block_lt_of_cell? w _ Db)).trans Db
        have Ob:=y0.mk Ey
        have Oc:=y0.mk Ex
        clear Ey Ex
        replace Jq:=eq_true Jq
        replace Jr:=eq_true Jr
        have ea_:=Option.some.inj (Da.symm.trans Db)
        injection ea_ with ea_ en_ ec_
        subst ea_
        subst ec_
        clear en_
        go_wp2
        go_meet
        exact⟨_,((((y19 Aa As).f0) == 1)),qy2,H',⟨by have:=Ca.out;have:=Bz.out;first|omega|exact Nat.le_refl _⟩,⟨qR Ad.out⟩,⟨qR Bb.out⟩,⟨qk Ab.out⟩,⟨qb⟩⟩
       ·as_aux_lemma =>
        rw [if_neg Kp]at H
        have Ky:=decide_eq_false Kp
        clear Kp
        have H':=y0.mk H
        clear H
        go_wp2
        go_meet
        exact⟨_,(false),qy2,H',⟨by have:=Ca.out;have:=Bz.out;first|omega|exact Nat.le_refl _⟩,⟨qR Ad.out⟩,⟨qR Bb.out⟩,⟨qk Ab.out⟩,⟨qb⟩⟩
      case rest =>
       clear Jn
       obtain⟨kq,Et,rfl,HA,Ez,Ad,Bb,Ab,HB⟩:=hcut
       cases kq with
       | zero=>exact absurd HA.out (by simp [z9_.j2])
       | succ Od =>
        have H:=HA.out
        clear HA
        simp only [z9_.j2]at H
        by_cases La:Et=true
        ·subst La
         replace H:=qT H
         obtain⟨Vf,H⟩:=qo H
         have Lb:decide (0≤As)=true:=decide_eq_true Vf
         clear Vf
         obtain⟨Vg,H⟩:=qo H
         have Lc:decide (As < (Aa.length:Int))=true:=decide_eq_true Vg
         clear Vg
         obtain⟨Vh,H⟩:=qo H
         have Ld:decide (0≤Be)=true:=decide_eq_true Vh
         clear Vh
         obtain⟨Vi,H⟩:=qo H
         have Le:decide (Be < (((y19 Aa As).f2).length:Int))=true:=decide_eq_true Vi
         clear Vi
         obtain⟨Br,Xa,H⟩:=qB H
         have H':=y0.mk H
         clear H
         try go_wp2
         replace Ad:=y0.mk (Kd.R_drew Ad.out)
         replace Bb:=y0.mk (Kd.R_drew Bb.out)
         replace Ab:=y0.mk (y9 Ab.out)
         replace HB:=y0.mk (y2 HB.out)
         have Gl:0≤(As:Int):=of_decide_eq_true qy0
         have Gm:As < (Aa.length:Int):=of_decide_eq_true qy0
         obtain⟨Cw,To,Js,Tp,Cc,Cd,Ce,Fa,Fb⟩:=at_T33 Bp.out As Gl Gm
         have Dc:=Ce
         have Dd:=Cd
         have De:=Cc
         cases Tp
         replace Cc:=(HB.out.cell (World.block_lt_of_cell? w _ Cc)).trans Cc
         replace Cd:=(HB.out.cell (World.block_lt_of_cell? w _ Cd)).trans Cd
         replace Ce:=(HB.out.cell (World.block_lt_of_cell? w _ Ce)).trans Ce
         have Fc:=y0.mk Fb
         have Oe:=y0.mk Fa
         clear Fb Fa
         replace Gl:=eq_true Gl
         replace Gm:=eq_true Gm
         have Gn:0≤(Be:Int):=of_decide_eq_true qy0
         have Gp:Be < (((y19 Aa As).f2).length:Int):=of_decide_eq_true qy0
         obtain⟨Ik,Tq,Cf⟩:=Kd.at_int Fc.out Be Gn Gp
         have Df:=Cf
         cases Tq
         replace Cf:=(HB.out.cell (World.block_lt_of_cell? w _ Cf)).trans Cf
         replace Gn:=eq_true Gn
         replace Gp:=eq_true Gp
         refine start_ (n:=12) (S:=fun w'=>w'.cell? ⟨Bi,0,none⟩=some (.slice Bk Af.length Bl)∧w'.cell? ⟨Bi,1,none⟩=some (.int .i64 Aj)∧w'.cell? ⟨Bi,2,none⟩=some (.string Ak)∧w'.cell? ⟨Bi,3,none⟩=some (.slice Bm Ai.length Bn)∧w'.cell? ⟨Bi,4,none⟩=some (.slice (some Cw) Aa.length Bo)∧w'.cell? (Cw.add ((As).toNat * 3))=some (.int .i64 ((y19 Aa As).f0))∧w'.cell? ⟨(Cw.add ((As).toNat * 3)).block,(Cw.add ((As).toNat * 3)).off + 1,none⟩=some (.string ((y19 Aa As).f1))∧w'.cell? ⟨(Cw.add ((As).toNat * 3)).block,(Cw.add ((As).toNat * 3)).off + 2,none⟩=some (.slice (some Ik) ((y19 Aa As).f2).length Js)∧w'.cell? (Ik.add (Be).toNat)=some (.int .i64 (rd ((y19 Aa As).f2) Be))) (ds:=[]) (fl_ 12 0) (by kernel_rfl) rfl rfl ⟨(y8 Ab.out 0).trans rfl,(y8 Ab.out 1).trans rfl,(y8 Ab.out 2).trans rfl,(y8 Ab.out 3).trans rfl,(y8 Ab.out 4).trans rfl,((HB.out.cell (World.block_lt_of_cell? w _ De)).trans De),((HB.out.cell (World.block_lt_of_cell? w _ Dd)).trans Dd),((HB.out.cell (World.block_lt_of_cell? w _ Dc)).trans Dc),((HB.out.cell (World.block_lt_of_cell? w _ Df)).trans Df)⟩ (fun hHeld=>?_);refine with_tabW z9_.tab9 z9_.bits9 (fun HT_ HW_=>?_)
         generalize wc.drew=Yn at Ad Bb Ab HB Fc Cc Cd Ce Cf hHeld ⊢
         refine qp 1 48 (fl_ 12 2) ?_
         refine qp 3 50 (fl_ 12 10) ?_
         refine qp 7 54 (fl_ 12 138) ?_
         refine qt 0 47 (fl_ 12 139) hHeld ?_
         refine qt 2 49 (fl_ 12 143) hHeld ?_
         refine qp 4 51 (fl_ 12 159) ?_
         refine qp 5 52 (fl_ 12 191) ?_
         refine qt 6 53 (fl_ 12 255) hHeld ?_
         refine qp 8 55 (fl_ 12 511) ?_
         refine qt 9 56 (fl_ 12 1023) hHeld ?_
         refine qO 10 57 (fl_ 12 2047) (fun K hK=>?_)
         refine goes_ Tryz.func36 (by kernel_rfl) rfl #[.agg #[.slice Bk Af.length Bl,.int .i64 Aj,.string Ak,.slice Bm Ai.length Bn,.slice (some Cw) Aa.length Bo],.int .i64 (rd ((y19 Aa As).f2) Be)] (by rfl) rfl rfl qy1 ?_
         with_reducible refine(z12_.calls Od _ _ Af Aj Ak _ _ Ai _ _ Aa (rd ((y19 Aa As).f2) Be) Br _ (qc (Kd.C_below Bg.out HB.out)) Co.out (qc (Kd.C_below Cp.out HB.out)) Cq.out (qc (Kd.C_below Bp.out HB.out)) Cr.out Xa.out).mono ?_
         rintro e Yo ⟨Lf,rfl,Eg,hb⟩
         refine⟨_,rfl, ?_⟩
         replace Ad:=y0.mk (Kd.R_below (qR Ad.out) hb)
         have Lg:=y0.mk (Kd.R_lower (Kd.R_new' Eg (Kd.R_lt (qR Bb.out))) (y4 qb))
         replace Bb:=y0.mk (Kd.R_elder' (qR Bb.out) (Kd.R_base Eg) hb)
         replace Ab:=y0.mk (qK Ab.out hb)
         replace HB:=y0.mk (y5 qb hb)
         (try clear hb)
         (try clear Eg)
         refine hK.out _ _ ⟨(y8 Ab.out 0).trans rfl,(y8 Ab.out 1).trans rfl,(y8 Ab.out 2).trans rfl,(y8 Ab.out 3).trans rfl,(y8 Ab.out 4).trans rfl,((HB.out.cell (World.block_lt_of_cell? w _ De)).trans De),((HB.out.cell (World.block_lt_of_cell? w _ Dd)).trans Dd),((HB.out.cell (World.block_lt_of_cell? w _ Dc)).trans Dc),((HB.out.cell (World.block_lt_of_cell? w _ Df)).trans Df)⟩ (fun hHeld=>?_)
         clear hK K
         refine qx 57 ?_
         refine qp 11 7 (fl_ 12 4095) ?_
         refine done_ (done_of HT_.out (by kernel_rfl)) ?_
         try go_wp2
         go_loopg [3,8] Od (fun kq v3 v8 w'=>∃(Bf:List ByteArray) (Ag:Int),v8=.int .i64 Ag∧y0 (z9_.l2 kq Bf Ay As Be Br Ag Af Aj Ak Ai Aa=some r)∧y0 (kq≤Od)∧y0 (Kd.R Kd.string 9 w' w.heap.size (fun _=>True) v3 Bf)∧y0 (Kd.R Kd.bool 4 w' w.heap.size (fun k_=>some k_≠(Lf:Value).ownBlock) Fr Ay)∧y0 (Kd.R Kd.bool 4 w' w.heap.size (fun k_=>some k_≠(Fr:Value).ownBlock) Lf Br)∧y0 (w'.heap[Bi]?=some (.cells #[(.slice Bk Af.length Bl),.int .i64 Aj,.string Ak,(.slice Bm Ai.length Bn),(.slice (some Cw) Aa.length Bo)] 36 (0,0)))∧y0 (Below w.heap.size w w'))
         case atStart=>exact⟨(Bc),(0),qy2,H',⟨Nat.le_refl _⟩,⟨qR Ad.out⟩,⟨qR (Kd.R_mono Bb.out (fun _ hk=>hk.2))⟩,⟨qR (Kd.R_mono Lg.out (fun _ hk=>hk.2))⟩,⟨qk Ab.out⟩,⟨qb⟩⟩
         case round =>
          clear H'
          (try clear La Lb Lc Ld Le Cc Cd Ce Cf Gl Gn Gm Gp)
          obtain⟨Bf,Ag,rfl,HA,Fp,Ad,Bb,Bw,Ab,HB⟩:=hrel
          cases gk with
          | zero=>exact absurd HA.out (by simp [z9_.l2])
          | succ k4 =>
           have H:=HA.out
           clear HA
           simp only [z9_.l2]at H
           by_cases Kq:Ag < (Br.length:Int)
           ·as_aux_lemma =>
            rw [if_pos Kq]at H
            have Lh:=decide_eq_true Kq
            clear Kq
            obtain⟨Vj,H⟩:=qo H
            have Vk:decide (0≤Ag)=true:=decide_eq_true Vj
            clear Vj
            obtain⟨Li,Ft⟩:∃ b_:Bool,b_=(rdOf false Br Ag):=⟨_,rfl⟩
            replace H:(if Li=true then(if Ag < (Af.length:Int)then(if((y20 Af Ag).f0)=1 then(if Ag < (Ay.length:Int)then(if rdOf false Ay Ag=true then(z9_.l2 k4 Bf Ay As Be Br (wrap64 (Ag + 1)) Af Aj Ak Ai Aa)else((spec_l05In.f k4 Bf ((y20 Af Ag).f1)).bind fun Fu=>(if Fu=true then(z9_.l2 k4 Bf Ay As Be Br (wrap64 (Ag + 1)) Af Aj Ak Ai Aa)else(if Bf.length < 8796093022208 then(z9_.l2 k4 (Bf ++ [(y20 Af Ag).f1]) Ay As Be Br (wrap64 (Ag + 1)) Af Aj Ak Ai Aa)else(none)))))else(none))else(z9_.l2 k4 Bf Ay As Be Br (wrap64 (Ag + 1)) Af Aj Ak Ai Aa))else(none))else(z9_.l2 k4 Bf Ay As Be Br (wrap64 (Ag + 1)) Af Aj Ak Ai Aa))=some r:=by rw [← Ft]at H;exact H
            have Cx:=y0.mk Ft
            clear Ft
            by_cases Of:Li=true
            ·subst Of
             replace H:=qT H
             obtain⟨Vl,H⟩:=qo H
             have Vm:decide (Ag < (Af.length:Int))=true:=decide_eq_true Vl
             clear Vl
             by_cases Jt:((y20 Af Ag).f0)=1
             ·as_aux_lemma =>
              rw [if_pos Jt]at H
              have Lj:(((y20 Af Ag).f0) == 1)=true:=beq_iff_eq.mpr Jt
              have Lk:(((y20 Af Ag).f0) != 1)=false:=bne_eq_false_iff_eq.mpr Jt
              clear Jt
              obtain⟨Vn,H⟩:=qo H
              have Vo:decide (Ag < (Ay.length:Int))=true:=decide_eq_true Vn
              clear Vn
              obtain⟨Ll,Fv⟩:∃ b_:Bool,b_=(rdOf false Ay Ag):=⟨_,rfl⟩
              replace H:(if Ll=true then(z9_.l2 k4 Bf Ay As Be Br (wrap64 (Ag + 1)) Af Aj Ak Ai Aa)else((spec_l05In.f k4 Bf ((y20 Af Ag).f1)).bind fun Fu=>(if Fu=true then(z9_.l2 k4 Bf Ay As Be Br (wrap64 (Ag + 1)) Af Aj Ak Ai Aa)else(if Bf.length < 8796093022208 then(z9_.l2 k4 (Bf ++ [(y20 Af Ag).f1]) Ay As Be Br (wrap64 (Ag + 1)) Af Aj Ak Ai Aa)else(none)))))=some r:=by rw [← Fv]at H;exact H
              have Dq:=y0.mk Fv
              clear Fv
              by_cases Og:Ll=true
              ·subst Og
               replace H:=qT H
               have H':=y0.mk H
               clear H
               obtain⟨Xb,Xc,Tr⟩:=Kd.R_slice Bw.out
               subst Tr
               have Bs:0≤(Ag:Int):=of_decide_eq_true qy0
               have Bt:Ag < (Br.length:Int):=of_decide_eq_true qy0
               obtain⟨Fd,Dz,Aw⟩:=Kd.at_bool (Kd.R_reads' Bw.out).2.2 Ag Bs Bt
               (try rw [← Cx.out]at Aw)
               (try rw [← Dq.out]at Aw)
               cases Dz
               replace Bs:=eq_true Bs
               replace Bt:=eq_true Bt
               obtain⟨Oh,Oi,Oj,Ok,Ol,Om,On,Oo,Oq,Ot⟩:=qz5 Ab.out
               have Cj:0≤(Ag:Int):=of_decide_eq_true qy0
               have Ck:Ag < (Af.length:Int):=of_decide_eq_true qy0
               obtain⟨Dr,Em,En,Eo,At,Au,Ar,Az,Ba⟩:=at_T48 Bg.out Ag Cj Ck
               cases Eo
               replace At:=(HB.out.cell (World.block_lt_of_cell? w _ At)).trans At
               replace Au:=(HB.out.cell (World.block_lt_of_cell? w _ Au)).trans Au
               replace Ar:=(HB.out.cell (World.block_lt_of_cell? w _ Ar)).trans Ar
               have Ea:=y0.mk Ba
               have Eb:=y0.mk Az
               clear Ba Az
               replace Cj:=eq_true Cj
               replace Ck:=eq_true Ck
               obtain⟨Xd,Xe,Ts⟩:=Kd.R_slice Bb.out
               subst Ts
               have Dm:0≤(Ag:Int):=of_decide_eq_true qy0
               have Do:Ag < (Ay.length:Int):=of_decide_eq_true qy0
               obtain⟨Il,Fx,Bj⟩:=Kd.at_bool (Kd.R_reads' Bb.out).2.2 Ag Dm Do
               (try rw [← Cx.out]at Bj)
               (try rw [← Dq.out]at Bj)
               cases Fx
               replace Dm:=eq_true Dm
               replace Do:=eq_true Do
               go_wp2
               go_roundg k4
               case measure=>have:=Ca.out;have:=Bz.out;have:=Ez.out;have:=Fp.out;omega
               exact⟨(Bf),(wrap64 (Ag + 1)),qy2,H',⟨by have:=Ca.out;have:=Bz.out;have:=Ez.out;have:=Fp.out;omega⟩,⟨qR Ad.out⟩,⟨qR Bb.out⟩,⟨qR Bw.out⟩,⟨qk Ab.out⟩,⟨qb⟩⟩
              ·replace Og:=Bool.eq_false_iff.mpr Og
               subst Og
               replace H:=qF H
               obtain⟨Fu,Vp,H⟩:=qB H
               by_cases Ou:Fu=true
               ·subst Ou
                replace H:=qT H
                have H':=y0.mk H
                clear H
                obtain⟨Xf,Xg,Tt⟩:=Kd.R_slice Bw.out
                subst Tt
                have Bs:0≤(Ag:Int):=of_decide_eq_true qy0
                have Bt:Ag < (Br.length:Int):=of_decide_eq_true qy0
                obtain⟨Fd,Dz,Aw⟩:=Kd.at_bool (Kd.R_reads' Bw.out).2.2 Ag Bs Bt
                (try rw [← Cx.out]at Aw)
                (try rw [← Dq.out]at Aw)
                cases Dz
                replace Bs:=eq_true Bs
                replace Bt:=eq_true Bt
                obtain⟨Ov,Ow,Ox,Oy,Oz,Pa,Pc,Pd,Pe,Pf⟩:=qz5 Ab.out
                have Cj:0≤(Ag:Int):=of_decide_eq_true qy0
                have Ck:Ag < (Af.length:Int):=of_decide_eq_true qy0
                obtain⟨Dr,Em,En,Eo,At,Au,Ar,Az,Ba⟩:=at_T48 Bg.out Ag Cj Ck
                cases Eo
                replace At:=(HB.out.cell (World.block_lt_of_cell? w _ At)).trans At
                replace Au:=(HB.out.cell (World.block_lt_of_cell? w _ Au)).trans Au
                replace Ar:=(HB.out.cell (World.block_lt_of_cell? w _ Ar)).trans Ar
                have Ea:=y0.mk Ba
                have Eb:=y0.mk Az
                clear Ba Az
                replace Cj:=eq_true Cj
                replace Ck:=eq_true Ck
                obtain⟨Xh,Xi,Tu⟩:=Kd.R_slice Bb.out
                subst Tu
                have Dm:0≤(Ag:Int):=of_decide_eq_true qy0
                have Do:Ag < (Ay.length:Int):=of_decide_eq_true qy0
                obtain⟨Il,Fx,Bj⟩:=Kd.at_bool (Kd.R_reads' Bb.out).2.2 Ag Dm Do
                (try rw [← Cx.out]at Bj)
                (try rw [← Dq.out]at Bj)
                cases Fx
                replace Dm:=eq_true Dm
                replace Do:=eq_true Do
                have Ep:0≤(Ag:Int):=of_decide_eq_true qy0
                have Eq:Ag < (Af.length:Int):=of_decide_eq_true qy0
                obtain⟨Fy,Ju,Jv,Jw,Bu,Bv,Bh,Cs,Ct⟩:=at_T48 Bg.out Ag Ep Eq
                obtain rfl:Dr=Fy:=(by injection Jw)
                replace Bu:=(HB.out.cell (World.block_lt_of_cell? w _ Bu)).trans Bu
                replace Bv:=(HB.out.cell (World.block_lt_of_cell? w _ Bv)).trans Bv
                replace Bh:=(HB.out.cell (World.block_lt_of_cell? w _ Bh)).trans Bh
                have Gq:=y0.mk Ct
                have Gr:=y0.mk Cs
                clear Ct Cs
                replace Ep:=eq_true Ep
                replace Eq:=eq_true Eq
                have ea_:=Option.some.inj (Ar.symm.trans Bh)
                injection ea_ with ea_ en_ ec_
                subst ea_
                subst ec_
                clear en_
                obtain⟨Xj,Xk,Tv⟩:=Kd.R_slice Ad.out
                subst Tv
                go_wp2_with (first|(go_at_call 18;(with_reducible refine(spec_l05In.calls k4 _ _ Bf ((y20 Af Ag).f1) true _ (qc ((Kd.R_reads' Ad.out).2.2)) (by exact(Kd.R_reads' Ad.out).2.1) Vp.out).mono ?_);rintro e w' ⟨rfl,⟨nd,rfl⟩⟩))
                go_roundg k4
                case measure=>have:=Ca.out;have:=Bz.out;have:=Ez.out;have:=Fp.out;omega
                exact⟨(Bf),(wrap64 (Ag + 1)),qy2,H',⟨by have:=Ca.out;have:=Bz.out;have:=Ez.out;have:=Fp.out;omega⟩,⟨qR Ad.out⟩,⟨qR Bb.out⟩,⟨qR Bw.out⟩,⟨qk Ab.out⟩,⟨qb⟩⟩
               ·replace Ou:=Bool.eq_false_iff.mpr Ou
                subst Ou
                replace H:=qF H
                obtain⟨Vq,H⟩:=qo H
                have Lm:=y0.mk Vq
                clear Vq
                obtain⟨Ln,Ei⟩:∃ y_:List ByteArray,y_=(Bf ++ [(y20 Af Ag).f1]):=⟨_,rfl⟩
                replace H:(z9_.l2 k4 Ln Ay As Be Br (wrap64 (Ag + 1)) Af Aj Ak Ai Aa)=some r:=by first|(rw [Ei];with_reducible exact H)|(have H2_:=(Option.bind_some _ _).symm.trans H;rw [Ei];with_reducible exact H2_)|(have H2_:=(Option.bind_some _ _).symm.trans H;with_reducible exact H2_)|with_reducible exact H|(rw [Ei];exact H)|exact H
                have Lo:=y0.mk Ei
                clear Ei
                have H':=y0.mk H
                clear H
                obtain⟨Xl,Xm,Tw⟩:=Kd.R_slice Bw.out
                subst Tw
                have Bs:0≤(Ag:Int):=of_decide_eq_true qy0
                have Bt:Ag < (Br.length:Int):=of_decide_eq_true qy0
                obtain⟨Fd,Dz,Aw⟩:=Kd.at_bool (Kd.R_reads' Bw.out).2.2 Ag Bs Bt
                (try rw [← Cx.out]at Aw)
                (try rw [← Dq.out]at Aw)
                cases Dz
                replace Bs:=eq_true Bs
                replace Bt:=eq_true Bt
                obtain⟨Pg,Ph,Pj,Pk,Pm,Pn,Po,Pp,Pq,Pr⟩:=qz5 Ab.out
                have Cj:0≤(Ag:Int):=of_decide_eq_true qy0
                have Ck:Ag < (Af.length:Int):=of_decide_eq_true qy0
                obtain⟨Dr,Em,En,Eo,At,Au,Ar,Az,Ba⟩:=at_T48 Bg.out Ag Cj Ck
                cases Eo
                replace At:=(HB.out.cell (World.block_lt_of_cell? w _ At)).trans At
                replace Au:=(HB.out.cell (World.block_lt_of_cell? w _ Au)).trans Au
                replace Ar:=(HB.out.cell (World.block_lt_of_cell? w _ Ar)).trans Ar
                have Ea:=y0.mk Ba
                have Eb:=y0.mk Az
                clear Ba Az
                replace Cj:=eq_true Cj
                replace Ck:=eq_true Ck
                obtain⟨Xn,Xo,Tx⟩:=Kd.R_slice Bb.out
                subst Tx
                have Dm:0≤(Ag:Int):=of_decide_eq_true qy0
                have Do:Ag < (Ay.length:Int):=of_decide_eq_true qy0
                obtain⟨Il,Fx,Bj⟩:=Kd.at_bool (Kd.R_reads' Bb.out).2.2 Ag Dm Do
                (try rw [← Cx.out]at Bj)
                (try rw [← Dq.out]at Bj)
                cases Fx
                replace Dm:=eq_true Dm
                replace Do:=eq_true Do
                have Ep:0≤(Ag:Int):=of_decide_eq_true qy0
                have Eq:Ag < (Af.length:Int):=of_decide_eq_true qy0
                obtain⟨Fy,Ju,Jv,Jw,Bu,Bv,Bh,Cs,Ct⟩:=at_T48 Bg.out Ag Ep Eq
                obtain rfl:Dr=Fy:=(by injection Jw)
                replace Bu:=(HB.out.cell (World.block_lt_of_cell? w _ Bu)).trans Bu
                replace Bv:=(HB.out.cell (World.block_lt_of_cell? w _ Bv)).trans Bv
                replace Bh:=(HB.out.cell (World.block_lt_of_cell? w _ Bh)).trans Bh
                have Gq:=y0.mk Ct
                have Gr:=y0.mk Cs
                clear Ct Cs
                replace Ep:=eq_true Ep
                replace Eq:=eq_true Eq
                have ea_:=Option.some.inj (Ar.symm.trans Bh)
                injection ea_ with ea_ en_ ec_
                subst ea_
                subst ec_
                clear en_
                obtain⟨Ty,Tz,Ua⟩:=Kd.R_slice Ad.out
                subst Ua
                go_wp2_with (first|(go_at_call 18;(with_reducible refine(spec_l05In.calls k4 _ _ Bf ((y20 Af Ag).f1) false _ (qc ((Kd.R_reads' Ad.out).2.2)) (by exact(Kd.R_reads' Ad.out).2.1) Vp.out).mono ?_);rintro e w' ⟨rfl,⟨nd,rfl⟩⟩;have Jx:0≤(Ag:Int):=of_decide_eq_true qy0;have Jy:Ag < (Af.length:Int):=of_decide_eq_true qy0;obtain⟨Lp,Ub,Uc,Ud,Ec,Ed,Dg,Fe,Ff⟩:=at_T48 Bg.out Ag Jx Jy;obtain rfl:Dr=Lp:=(by injection Ud);replace Ec:=(HB.out.cell (World.block_lt_of_cell? w _ Ec)).trans Ec;replace Ed:=(HB.out.cell (World.block_lt_of_cell? w _ Ed)).trans Ed;replace Dg:=(HB.out.cell (World.block_lt_of_cell? w _ Dg)).trans Dg;have Ps:=y0.mk Ff;have Pt:=y0.mk Fe;clear Ff Fe;replace Jx:=eq_true Jx;replace Jy:=eq_true Jy;have ea_:=Option.some.inj (Ar.symm.trans Dg);injection ea_ with ea_ en_ ec_;subst ea_;subst ec_;clear en_)|((with_reducible refine gate_builtin (b:=.append) (xs:=#[.tmp 95,.tmp 102]) rfl ?_);at_builtin;refine Kd.R_append Kd.string (w0:=w) w.heap.size rfl (.tmp 95) (.tmp 102) 30 9 (.string ⟨#[]⟩) 16 rfl Tryz.underlying30 info9 rfl (by decide) (by omega) (.slice Ty Bf.length Tz) Bf ((y20 Af Ag).f1) [.string ((y20 Af Ag).f1)] (fun _=>True) (fun _=>False) rfl rfl ?aP (fun _ hk=>hk.elim) ?aF ?aO ?aB ?aS ?aL ?_;(case aP=>exact rfl);(case aB=>exact qb);(case aF=>exact(fun _ _=>trivial));(case aO=>exact(qR Ad.out));(case aS=>exact(y4 qb));(case aL=>have:=Lm.out;omega);intro Xp Yp ho hb hg hat;rw [← Lo.out]at ho;replace Bb:=y0.mk (Kd.R_over' (qR Bb.out) (Kd.R_typed (qR Ad.out)) (by decide) hg);replace Bw:=y0.mk (Kd.R_over' (qR Bw.out) (Kd.R_typed (qR Ad.out)) (by decide) hg);replace Ab:=y0.mk (blk_grown (qk Ab.out) hg (Kd.R_ne Ad.out Ab.out (by decide)));replace HB:=y0.mk (hb);have Lq:=y0.mk (ho);clear Ad;clear ho hb hg hat))
                go_roundg k4
                case measure=>have:=Ca.out;have:=Bz.out;have:=Ez.out;have:=Fp.out;omega
                exact⟨(Ln),(wrap64 (Ag + 1)),qy2,H',⟨by have:=Ca.out;have:=Bz.out;have:=Ez.out;have:=Fp.out;omega⟩,⟨qR Lq.out⟩,⟨qR Bb.out⟩,⟨qR Bw.out⟩,⟨qk Ab.out⟩,⟨qb⟩⟩
             ·as_aux_lemma =>
              rw [if_neg Jt]at H
              have Lj:(((y20 Af Ag).f0) == 1)=false:=beq_eq_false_iff_ne.mpr Jt
              have Lk:(((y20 Af Ag).f0) != 1)=true:=bne_iff_ne.mpr Jt
              have H':=y0.mk H
              clear H
              obtain⟨Xq,Xr,Ue⟩:=Kd.R_slice Bw.out
              subst Ue
              have Bs:0≤(Ag:Int):=of_decide_eq_true qy0
              have Bt:Ag < (Br.length:Int):=of_decide_eq_true qy0
              obtain⟨Fd,Dz,Aw⟩:=Kd.at_bool (Kd.R_reads' Bw.out).2.2 Ag Bs Bt
              (try rw [← Cx.out]at Aw)
              cases Dz
              replace Bs:=eq_true Bs
              replace Bt:=eq_true Bt
              obtain⟨Pu,Pv,Pw,Px,Py,Pz,Qa,Qb,Qc,Qd⟩:=qz5 Ab.out
              have Cj:0≤(Ag:Int):=of_decide_eq_true qy0
              have Ck:Ag < (Af.length:Int):=of_decide_eq_true qy0
              obtain⟨Dr,Em,En,Eo,At,Au,Ar,Az,Ba⟩:=at_T48 Bg.out Ag Cj Ck
              cases Eo
              replace At:=(HB.out.cell (World.block_lt_of_cell? w _ At)).trans At
              replace Au:=(HB.out.cell (World.block_lt_of_cell? w _ Au)).trans Au
              replace Ar:=(HB.out.cell (World.block_lt_of_cell? w _ Ar)).trans Ar
              have Ea:=y0.mk Ba
              have Eb:=y0.mk Az
              clear Ba Az
              replace Cj:=eq_true Cj
              replace Ck:=eq_true Ck
              go_wp2
              go_roundg k4
              case measure=>have:=Ca.out;have:=Bz.out;have:=Ez.out;have:=Fp.out;omega
              exact⟨(Bf),(wrap64 (Ag + 1)),qy2,H',⟨by have:=Ca.out;have:=Bz.out;have:=Ez.out;have:=Fp.out;omega⟩,⟨qR Ad.out⟩,⟨qR Bb.out⟩,⟨qR Bw.out⟩,⟨qk Ab.out⟩,⟨qb⟩⟩
            ·replace Of:=Bool.eq_false_iff.mpr Of
             subst Of
             replace H:=qF H
             have H':=y0.mk H
             clear H
             obtain⟨Xs,Xt,Uf⟩:=Kd.R_slice Bw.out
             subst Uf
             have Bs:0≤(Ag:Int):=of_decide_eq_true qy0
             have Bt:Ag < (Br.length:Int):=of_decide_eq_true qy0
             obtain⟨Fd,Dz,Aw⟩:=Kd.at_bool (Kd.R_reads' Bw.out).2.2 Ag Bs Bt
             (try rw [← Cx.out]at Aw)
             cases Dz
             replace Bs:=eq_true Bs
             replace Bt:=eq_true Bt
             go_wp2
             go_roundg k4
             case measure=>have:=Ca.out;have:=Bz.out;have:=Ez.out;have:=Fp.out;omega
             exact⟨(Bf),(wrap64 (Ag + 1)),qy2,H',⟨by have:=Ca.out;have:=Bz.out;have:=Ez.out;have:=Fp.out;omega⟩,⟨qR Ad.out⟩,⟨qR Bb.out⟩,⟨qR Bw.out⟩,⟨qk Ab.out⟩,⟨qb⟩⟩
           ·as_aux_lemma =>
            rw [if_neg Kq]at H
            have Lh:=decide_eq_false Kq
            clear Kq
            have H':=y0.mk H
            clear H
            obtain⟨Xu,Xv,Ug⟩:=Kd.R_slice Bw.out
            subst Ug
            go_wp2
            go_roundg k4
            case measure=>have:=Ca.out;have:=Bz.out;have:=Ez.out;have:=Fp.out;omega
            exact⟨(Bf),(wrap64 (Be + 1)),qy2,H',⟨by have:=Ca.out;have:=Bz.out;have:=Ez.out;have:=Fp.out;omega⟩,⟨qR Ad.out⟩,⟨qR (Kd.R_mono Bb.out (fun _ hk=>trivial))⟩,⟨qk Ab.out⟩,⟨qb⟩⟩
        ·replace La:=Bool.eq_false_iff.mpr La
         subst La
         replace H:=qF H
         have H':=y0.mk H
         clear H
         go_wp2
         go_roundg Od
         case measure=>have:=Ca.out;have:=Bz.out;have:=Ez.out;omega
         exact⟨(Bc),(wrap64 (As + 1)),qy2,H',⟨by have:=Ca.out;have:=Bz.out;have:=Ez.out;omega⟩,⟨qR Ad.out⟩,⟨qR Bb.out⟩,⟨qk Ab.out⟩,⟨qb⟩⟩
   ·as_aux_lemma =>
    rw [if_neg c8]at H
    have Jc:=decide_eq_false c8
    clear c8
    have H':=y0.mk H
    clear H
    obtain⟨Gs,Gt,Gu,Gv,Gw,Gx,Gy,Gz,Ha,Hb⟩:=qz5 Ab.out
    go_wp2
    go_loopg [3] k1 (fun kq v3 w'=>∃(Bc:List ByteArray),y0 (z9_.l3 kq Bc Af Aj Ak Ai Aa=some r)∧y0 (kq≤k1)∧y0 (Kd.R Kd.string 9 w' w.heap.size (fun _=>True) v3 Bc)∧y0 (w'.heap[Bi]?=some (.cells #[(.slice Bk Af.length Bl),.int .i64 Aj,.string Ak,(.slice Bm Ai.length Bn),(.slice Dt Aa.length Bo)] 36 (0,0)))∧y0 (Below w.heap.size w w'))
    case atStart=>exact⟨(Fs),H',⟨Nat.le_refl _⟩,⟨qR Ad.out⟩,⟨qk Ab.out⟩,⟨qb⟩⟩
    case round =>
     clear H'
     (try clear Jc Gs Gt Gu Gv Gw Gx Gy Gz Ha Hb)
     obtain⟨Bc,HA,Bz,Ad,Ab,HB⟩:=hrel
     cases gk with
     | zero=>exact absurd HA.out (by simp [z9_.l3])
     | succ k2 =>
      have H:=HA.out
      clear HA
      simp only [z9_.l3]at H
      have H':=y0.mk H
      clear H
      obtain⟨Xw,Xx,Uh⟩:=Kd.R_slice Ad.out
      subst Uh
      go_wp2
      go_loopg [3,10] k2 (fun kq v3 Xy w'=>∃(Cl:List ByteArray) (Ac:Int),Xy=.int .i64 Ac∧y0 (z9_.l4 kq Cl (Bc.length:Int) Ac Af Aj Ak Ai Aa=some r)∧y0 (kq≤k2)∧y0 (Kd.R Kd.string 9 w' w.heap.size (fun _=>True) v3 Cl)∧y0 (w'.heap[Bi]?=some (.cells #[(.slice Bk Af.length Bl),.int .i64 Aj,.string Ak,(.slice Bm Ai.length Bn),(.slice Dt Aa.length Bo)] 36 (0,0)))∧y0 (Below w.heap.size w w'))
      case atStart=>exact⟨(Bc),(0),qy2,H',⟨Nat.le_refl _⟩,⟨qR Ad.out⟩,⟨qk Ab.out⟩,⟨qb⟩⟩
      case round =>
       clear H'
       obtain⟨Cl,Ac,rfl,HA,Ee,Ad,Ab,HB⟩:=hrel
       cases gk with
       | zero=>exact absurd HA.out (by simp [z9_.l4])
       | succ k3 =>
        have H:=HA.out
        clear HA
        simp only [z9_.l4]at H
        by_cases Kr:Ac < (Aa.length:Int)
        ·as_aux_lemma =>
         rw [if_pos Kr]at H
         have Im:=decide_eq_true Kr
         clear Kr
         obtain⟨Vr,H⟩:=qo H
         have Lr:decide (0≤Ac)=true:=decide_eq_true Vr
         clear Vr
         have Jz:=y0.mk H
         clear H
         obtain⟨Hc,Hd,He,Hf,Hg,Hh,Hi,Hj,Hk,Hl⟩:=qz5 Ab.out
         have Hm:0≤(Ac:Int):=of_decide_eq_true qy0
         have Hn:Ac < (Aa.length:Int):=of_decide_eq_true qy0
         obtain⟨Cy,Ef,Cm,Ui,Dh,Di,Dj,Fg,Fh⟩:=at_T33 Bp.out Ac Hm Hn
         cases Ui
         replace Dh:=(HB.out.cell (World.block_lt_of_cell? w _ Dh)).trans Dh
         replace Di:=(HB.out.cell (World.block_lt_of_cell? w _ Di)).trans Di
         replace Dj:=(HB.out.cell (World.block_lt_of_cell? w _ Dj)).trans Dj
         have Fi:=y0.mk Fh
         have Qe:=y0.mk Fg
         clear Fh Fg
         replace Hm:=eq_true Hm
         replace Hn:=eq_true Hn
         go_upto_region 20 with(first|((with_reducible refine y16 (N:=11) rfl ?_);refine qe 11 #[.int .i64 0,.string (⟨#[]⟩:ByteArray),.slice none 0 0] 33 ?_;intro Bq hg Yq hbox hb;replace Ad:=y0.mk (Kd.R_below (qR Ad.out) hb);have Ah:=y0.mk (hbox);have Vs:=y0.mk (qg (w:=w) hg);have Vt:=y0.mk (qg (w:=w) hg);replace HB:=y0.mk (y5 qb hb);have Am:=y0.mk (qn Ab.out hg);have Bd:=y0.mk (qm Ab.out hg);replace Ab:=y0.mk (qK Ab.out hb);clear hb hbox hg;have Vu:=Bd.out;have Vv:=Am.out;obtain⟨Ho,Hp,Hq,Hr,Hs,Ht⟩:=qz3 Ah.out))
         (try simp only [Act.put,qS_,qZ_,qC_])
         go_cut [125] (fun Uj wc=>∃(kq:Nat) (Dk:Bool),Uj=.bool Dk∧y0 (z9_.j6 kq Cl (Bc.length:Int) Ac Dk Af Aj Ak Ai Aa ((y19 Aa Ac).f0) ((y19 Aa Ac).f1) ((y19 Aa Ac).f2)=some r)∧y0 (kq≤k3)∧y0 (Kd.R Kd.string 9 wc w.heap.size (fun _=>True) u3 Cl)∧y0 (wc.heap[Bi]?=some (.cells #[(.slice Bk Af.length Bl),.int .i64 Aj,.string Ak,(.slice Bm Ai.length Bn),(.slice (some Cy) Aa.length Bo)] 36 (0,0)))∧y0 (wc.heap[Bq]?=some (.cells #[.int .i64 ((y19 Aa Ac).f0),.string ((y19 Aa Ac).f1),(.slice Ef ((y19 Aa Ac).f2).length Cm)] 33 (0,0)))∧y0 (Below w.heap.size w wc))
         case first =>
          have H:=Jz.out
          clear Jz
          by_cases Ka:((y19 Aa Ac).f0)=3
          ·as_aux_lemma =>
           rw [if_pos Ka]at H
           have Ej:(((y19 Aa Ac).f0) == 3)=true:=beq_iff_eq.mpr Ka
           have Ls:(((y19 Aa Ac).f0) != 3)=false:=bne_eq_false_iff_eq.mpr Ka
           clear Ka
           (first|rw [Ej]|(simp only [i64_w,i32_w];rw [Ej])|skip)
           have H':=y0.mk H
           clear H
           have Vw:=Bd.out
           have Vx:=Am.out
           obtain⟨Qf,Qg,Qh,Qi,Qj,Qk⟩:=qz3 Ah.out
           go_wp2
           go_meet
           exact⟨_,((((y19 Aa Ac).f1).toList != ([61]:List UInt8))),qy2,H',⟨by have:=Ca.out;have:=Bz.out;have:=Ee.out;first|omega|exact Nat.le_refl _⟩,⟨qR (Kd.R_mono (Kd.R_far (p:=⟨Bq,2,none⟩) (Kd.R_far (p:=⟨Bq,1,none⟩) (Kd.R_far (p:=⟨Bq,0,none⟩) (Kd.R_types Ad.out Ah.out (by decide)) (fun _ hk=>hk.2) (.int .i64 ((y19 Aa Ac).f0))) (fun _ hk=>hk.2) (.string ((y19 Aa Ac).f1))) (fun _ hk=>hk.2) (.slice Ef ((y19 Aa Ac).f2).length Cm)) (fun _ hk=>trivial))⟩,⟨by(with_reducible repeat(first|refine y10 ?_ _|refine y9 ?_|refine y6 ?_ _));refine y11 ?_ Am.out _;(with_reducible repeat(first|refine y10 ?_ _|refine y9 ?_|refine y6 ?_ _));refine y11 ?_ Am.out _;(with_reducible repeat(first|refine y10 ?_ _|refine y9 ?_|refine y6 ?_ _));refine y11 ?_ Am.out _;(with_reducible repeat(first|refine y10 ?_ _|refine y9 ?_|refine y6 ?_ _));exact Ab.out⟩,⟨by(with_reducible repeat(first|refine y10 ?_ _|refine y9 ?_|refine y6 ?_ _));refine blk_put (cs:=#[.int .i64 ((y19 Aa Ac).f0),.string ((y19 Aa Ac).f1),.slice none 0 0]) ?_ 2 _ rfl;(with_reducible repeat(first|refine y10 ?_ _|refine y9 ?_|refine y6 ?_ _));refine blk_put (cs:=#[.int .i64 ((y19 Aa Ac).f0),.string (⟨#[]⟩:ByteArray),.slice none 0 0]) ?_ 1 _ rfl;(with_reducible repeat(first|refine y10 ?_ _|refine y9 ?_|refine y6 ?_ _));refine blk_put (cs:=#[.int .i64 0,.string (⟨#[]⟩:ByteArray),.slice none 0 0]) ?_ 0 _ rfl;(with_reducible repeat(first|refine y10 ?_ _|refine y9 ?_|refine y6 ?_ _));exact Ah.out⟩,⟨qb⟩⟩
          ·as_aux_lemma =>
           rw [if_neg Ka]at H
           have Ej:(((y19 Aa Ac).f0) == 3)=false:=beq_eq_false_iff_ne.mpr Ka
           have Ls:(((y19 Aa Ac).f0) != 3)=true:=bne_iff_ne.mpr Ka
           (first|rw [Ej]|(simp only [i64_w,i32_w];rw [Ej])|skip)
           have H':=y0.mk H
           clear H
           have Vy:=Bd.out
           have Vz:=Am.out
           obtain⟨Ql,Qm,Qn,Qo,Qp,Qq⟩:=qz3 Ah.out
           go_wp2
           go_meet
           exact⟨_,(true),qy2,H',⟨by have:=Ca.out;have:=Bz.out;have:=Ee.out;first|omega|exact Nat.le_refl _⟩,⟨qR (Kd.R_mono (Kd.R_far (p:=⟨Bq,2,none⟩) (Kd.R_far (p:=⟨Bq,1,none⟩) (Kd.R_far (p:=⟨Bq,0,none⟩) (Kd.R_types Ad.out Ah.out (by decide)) (fun _ hk=>hk.2) (.int .i64 ((y19 Aa Ac).f0))) (fun _ hk=>hk.2) (.string ((y19 Aa Ac).f1))) (fun _ hk=>hk.2) (.slice Ef ((y19 Aa Ac).f2).length Cm)) (fun _ hk=>trivial))⟩,⟨by(with_reducible repeat(first|refine y10 ?_ _|refine y9 ?_|refine y6 ?_ _));refine y11 ?_ Am.out _;(with_reducible repeat(first|refine y10 ?_ _|refine y9 ?_|refine y6 ?_ _));refine y11 ?_ Am.out _;(with_reducible repeat(first|refine y10 ?_ _|refine y9 ?_|refine y6 ?_ _));refine y11 ?_ Am.out _;(with_reducible repeat(first|refine y10 ?_ _|refine y9 ?_|refine y6 ?_ _));exact Ab.out⟩,⟨by(with_reducible repeat(first|refine y10 ?_ _|refine y9 ?_|refine y6 ?_ _));refine blk_put (cs:=#[.int .i64 ((y19 Aa Ac).f0),.string ((y19 Aa Ac).f1),.slice none 0 0]) ?_ 2 _ rfl;(with_reducible repeat(first|refine y10 ?_ _|refine y9 ?_|refine y6 ?_ _));refine blk_put (cs:=#[.int .i64 ((y19 Aa Ac).f0),.string (⟨#[]⟩:ByteArray),.slice none 0 0]) ?_ 1 _ rfl;(with_reducible repeat(first|refine y10 ?_ _|refine y9 ?_|refine y6 ?_ _));refine blk_put (cs:=#[.int .i64 0,.string (⟨#[]⟩:ByteArray),.slice none 0 0]) ?_ 0 _ rfl;(with_reducible repeat(first|refine y10 ?_ _|refine y9 ?_|refine y6 ?_ _));exact Ah.out⟩,⟨qb⟩⟩
         case rest =>
          clear Jz
          (try clear Im Lr Hc Hd He Hf Hg Ho Hp Hq Hh Hi Hj Hk Hl Hr Hs Ht Dh Di Dj Hm Hn)
          obtain⟨kq,Dk,rfl,HA,Cn,Ad,Ab,Ah,HB⟩:=hcut
          cases kq with
          | zero=>exact absurd HA.out (by simp [z9_.j6])
          | succ Kb =>
           have H:=HA.out
           clear HA
           simp only [z9_.j6]at H
           by_cases Lt:Dk=true
           ·subst Lt
            replace H:=qT H
            have H':=y0.mk H
            clear H
            go_wp2
            go_roundg Kb
            case measure=>have:=Ca.out;have:=Bz.out;have:=Ee.out;have:=Cn.out;omega
            exact⟨(Cl),(wrap64 (Ac + 1)),qy2,H',⟨by have:=Ca.out;have:=Bz.out;have:=Ee.out;have:=Cn.out;omega⟩,⟨qR Ad.out⟩,⟨qk Ab.out⟩,⟨qb⟩⟩
           ·replace Lt:=Bool.eq_false_iff.mpr Lt
            subst Lt
            replace H:=qF H
            have H':=y0.mk H
            clear H
            go_wp2
            go_loopg [3,12] Kb (fun kq v3 Xz w'=>∃(Cu:List ByteArray) (Ap:Int),Xz=.int .i64 Ap∧y0 (z9_.l5 kq Cu (Bc.length:Int) Ac Ap Af Aj Ak Ai Aa ((y19 Aa Ac).f0) ((y19 Aa Ac).f1) ((y19 Aa Ac).f2)=some r)∧y0 (kq≤Kb)∧y0 (Kd.R Kd.string 9 w' w.heap.size (fun _=>True) v3 Cu)∧y0 (w'.heap[Bi]?=some (.cells #[(.slice Bk Af.length Bl),.int .i64 Aj,.string Ak,(.slice Bm Ai.length Bn),(.slice (some Cy) Aa.length Bo)] 36 (0,0)))∧y0 (w'.heap[Bq]?=some (.cells #[.int .i64 ((y19 Aa Ac).f0),.string ((y19 Aa Ac).f1),(.slice Ef ((y19 Aa Ac).f2).length Cm)] 33 (0,0)))∧y0 (Below w.heap.size w w'))
            case atStart=>exact⟨(Cl),(0),qy2,H',⟨Nat.le_refl _⟩,⟨qR Ad.out⟩,⟨qk Ab.out⟩,⟨qk Ah.out⟩,⟨qb⟩⟩
            case round =>
             clear H'
             (try clear Lt)
             obtain⟨Cu,Ap,rfl,HA,Fm,Ad,Ab,Ah,HB⟩:=hrel
             cases gk with
             | zero=>exact absurd HA.out (by simp [z9_.l5])
             | succ k5 =>
              have H:=HA.out
              clear HA
              simp only [z9_.l5]at H
              by_cases Ks:Ap < 2
              ·as_aux_lemma =>
               rw [if_pos Ks]at H
               have Io:=decide_eq_true Ks
               clear Ks
               obtain⟨Wa,H⟩:=qo H
               have Lu:decide (0≤Ap)=true:=decide_eq_true Wa
               clear Wa
               obtain⟨Wb,H⟩:=qo H
               have Lv:decide (Ap < (((y19 Aa Ac).f2).length:Int))=true:=decide_eq_true Wb
               clear Wb
               obtain⟨Bx,Fj⟩:∃ j_:Int,(wrap64 (1 - Ap))=j_:=⟨_,rfl⟩
               replace H:(if 0≤(Bx)then(if(Bx) < (((y19 Aa Ac).f2).length:Int)then((z10_.f k5 Af Aj Ak Ai Aa (rd ((y19 Aa Ac).f2) Ap) 2 2).bind fun Ke=>(if Ke=true then(z9_.j8 k5 Cu (Bc.length:Int) Ac Ap (rd ((y19 Aa Ac).f2) (Bx)) true Af Aj Ak Ai Aa ((y19 Aa Ac).f0) ((y19 Aa Ac).f1) ((y19 Aa Ac).f2))else((spec_l06Vars.f k5 Af Aj Ak Ai Aa (rd ((y19 Aa Ac).f2) Ap)).bind fun Fn=>((spec_l06All.f k5 Fn Cu).bind fun Kf=>(if Kf=true then((z10_.f k5 Af Aj Ak Ai Aa (rd ((y19 Aa Ac).f2) (Bx)) 5 7).bind fun Hu=>(z9_.j8 k5 Cu (Bc.length:Int) Ac Ap (rd ((y19 Aa Ac).f2) (Bx)) Hu Af Aj Ak Ai Aa ((y19 Aa Ac).f0) ((y19 Aa Ac).f1) ((y19 Aa Ac).f2)))else(z9_.j8 k5 Cu (Bc.length:Int) Ac Ap (rd ((y19 Aa Ac).f2) (Bx)) true Af Aj Ak Ai Aa ((y19 Aa Ac).f0) ((y19 Aa Ac).f1) ((y19 Aa Ac).f2)))))))else(none))else(none))=some r:=by first|(rw [Fj]at H;exact H)|(simp only [Fj]at H ⊢;exact H)
               have hji70w:(IntKind.i64.wrap (1 - Ap))=Bx:=(i64_w _).trans Fj
               obtain⟨Wc,H⟩:=qo H
               have Lw:decide (0≤(Bx))=true:=decide_eq_true Wc
               clear Wc
               obtain⟨Wd,H⟩:=qo H
               have Lx:decide ((Bx) < (((y19 Aa Ac).f2).length:Int))=true:=decide_eq_true Wd
               clear Wd
               have Kg:=y0.mk H
               clear H
               try go_wp2
               replace Ad:=y0.mk (Kd.R_drew Ad.out)
               replace Ab:=y0.mk (y9 Ab.out)
               replace Ah:=y0.mk (y9 Ah.out)
               replace HB:=y0.mk (y2 HB.out)
               have Hv:0≤(Ap:Int):=of_decide_eq_true qy0
               have Hw:Ap < (((y19 Aa Ac).f2).length:Int):=of_decide_eq_true qy0
               obtain⟨Ds,Uk,Cg⟩:=Kd.at_int Fi.out Ap Hv Hw
               have Fk:=Cg
               cases Uk
               replace Cg:=(HB.out.cell (World.block_lt_of_cell? w _ Cg)).trans Cg
               replace Hv:=eq_true Hv
               replace Hw:=eq_true Hw
               have Hx:0≤((Bx):Int):=of_decide_eq_true qy0
               have Hy:(Bx) < (((y19 Aa Ac).f2).length:Int):=of_decide_eq_true qy0
               obtain⟨Ly,Ul,Ch⟩:=Kd.at_int Fi.out (Bx) Hx Hy
               have Fl:=Ch
               obtain rfl:Ds=Ly:=(by injection Ul)
               replace Ch:=(HB.out.cell (World.block_lt_of_cell? w _ Ch)).trans Ch
               replace Hx:=eq_true Hx
               replace Hy:=eq_true Hy
               refine start_ (n:=13) (S:=fun w'=>w'.cell? ⟨Bq,0,none⟩=some (.int .i64 ((y19 Aa Ac).f0))∧w'.cell? ⟨Bq,1,none⟩=some (.string ((y19 Aa Ac).f1))∧w'.cell? ⟨Bq,2,none⟩=some (.slice (some Ds) ((y19 Aa Ac).f2).length Cm)∧w'.cell? (Ds.add (Ap).toNat)=some (.int .i64 (rd ((y19 Aa Ac).f2) Ap))∧w'.cell? (Ds.add ((Bx)).toNat)=some (.int .i64 (rd ((y19 Aa Ac).f2) (Bx)))) (ds:=[]) (fl_ 13 0) (by kernel_rfl) rfl rfl ⟨(y8 Ah.out 0).trans rfl,(y8 Ah.out 1).trans rfl,(y8 Ah.out 2).trans rfl,((HB.out.cell (World.block_lt_of_cell? w _ Fk)).trans Fk),((HB.out.cell (World.block_lt_of_cell? w _ Fl)).trans Fl)⟩ (fun hHeld=>?_);refine with_tabW z9_.tab24 z9_.bits24 (fun HT_ HW_=>?_)
               generalize wr.drew=Yr at Ad Ab Ah HB Cg Ch hHeld ⊢
               refine qp 0 130 (fl_ 13 1) ?_
               refine qp 2 132 (fl_ 13 5) ?_
               refine qp 5 135 (fl_ 13 37) ?_
               refine qp 7 137 (fl_ 13 165) ?_
               refine qp 8 138 (fl_ 13 421) ?_
               refine qt 1 131 (fl_ 13 423) hHeld ?_
               refine qp 3 133 (fl_ 13 431) ?_
               refine qt 4 134 (fl_ 13 447) hHeld ?_
               refine qp 11 13 (fl_ 13 2495) ?_
               refine qt 6 136 (fl_ 13 2559) hHeld ?_
               refine qp 9 139 (fl_ 13 3071) ?_
               refine qt 10 140 (fl_ 13 4095) hHeld ?_
               refine qp 12 14 (fl_ 13 8191) ?_
               refine done_ (done_of HT_.out (by kernel_rfl)) ?_
               go_upto_region 25 with(fail)
               go_cut [156] (fun Um wc=>∃(kq:Nat) (Dl:Bool),Um=.bool Dl∧y0 (z9_.j8 kq Cu (Bc.length:Int) Ac Ap (rd ((y19 Aa Ac).f2) (Bx)) Dl Af Aj Ak Ai Aa ((y19 Aa Ac).f0) ((y19 Aa Ac).f1) ((y19 Aa Ac).f2)=some r)∧y0 (kq≤k5)∧y0 (Kd.R Kd.string 9 wc w.heap.size (fun _=>True) u3 Cu)∧y0 (wc.heap[Bi]?=some (.cells #[(.slice Bk Af.length Bl),.int .i64 Aj,.string Ak,(.slice Bm Ai.length Bn),(.slice (some Cy) Aa.length Bo)] 36 (0,0)))∧y0 (wc.heap[Bq]?=some (.cells #[.int .i64 ((y19 Aa Ac).f0),.string ((y19 Aa Ac).f1),(.slice (some Ds) ((y19 Aa Ac).f2).length Cm)] 33 (0,0)))∧y0 (Below w.heap.size w wc))
               case first =>
                have H:=Kg.out
                clear Kg
                obtain⟨Ke,Uo,H⟩:=qB H
                by_cases Qr:Ke=true
                ·subst Qr
                 replace H:=qT H
                 have H':=y0.mk H
                 clear H
                 have We:=Am.out
                 have Wf:=Bd.out
                 obtain⟨Qs,Qt,Qu,Qv,Qw,Qx,Qy,Qz,Ra,Rb⟩:=qz5 Ab.out
                 go_wp2_with (first|((with_reducible refine y15 (f:=37) rfl ?_);refine y17 (some 143) rfl rfl Tryz.func37 (by kernel_rfl) rfl #[.agg #[.slice Bk Af.length Bl,.int .i64 Aj,.string Ak,.slice Bm Ai.length Bn,.slice (some Cy) Aa.length Bo],.int .i64 (rd ((y19 Aa Ac).f2) Ap),.int .i64 2,.int .i64 2] rfl qy1 ?_;(with_reducible refine(z10_.calls k5 _ _ Af Aj Ak _ _ Ai _ _ Aa (rd ((y19 Aa Ac).f2) Ap) 2 2 true _ (qc (Kd.C_below Bg.out HB.out)) Co.out (qc (Kd.C_below Cp.out HB.out)) Cq.out (qc (Kd.C_below Bp.out HB.out)) Cr.out Uo.out).mono ?_);rintro e Ys ⟨rfl,hb⟩;refine⟨_,rfl, ?_⟩;replace Ad:=y0.mk (Kd.R_below (qR Ad.out) hb);replace Ab:=y0.mk (qK Ab.out hb);replace Ah:=y0.mk (qK Ah.out hb);replace HB:=y0.mk (y5 qb hb);(try clear hb)))
                 go_meet
                 exact⟨_,(true),qy2,H',⟨by have:=Ca.out;have:=Bz.out;have:=Ee.out;have:=Cn.out;have:=Fm.out;first|omega|exact Nat.le_refl _⟩,⟨qR Ad.out⟩,⟨qk Ab.out⟩,⟨qk Ah.out⟩,⟨qb⟩⟩
                ·replace Qr:=Bool.eq_false_iff.mpr Qr
                 subst Qr
                 replace H:=qF H
                 obtain⟨Fn,Wg,H⟩:=qB H
                 obtain⟨Kf,Wh,H⟩:=qB H
                 by_cases Rc:Kf=true
                 ·subst Rc
                  replace H:=qT H
                  obtain⟨Hu,Ya,H⟩:=qB H
                  have H':=y0.mk H
                  clear H
                  have Wj:=Am.out
                  have Wk:=Bd.out
                  obtain⟨Rf,Rg,Rh,Ri,Rj,Rl,Rn,Ro,Rp,Rq⟩:=qz5 Ab.out
                  go_wp2_with (first|((with_reducible refine y15 (f:=37) rfl ?_);refine y17 (some 143) rfl rfl Tryz.func37 (by kernel_rfl) rfl #[.agg #[.slice Bk Af.length Bl,.int .i64 Aj,.string Ak,.slice Bm Ai.length Bn,.slice (some Cy) Aa.length Bo],.int .i64 (rd ((y19 Aa Ac).f2) Ap),.int .i64 2,.int .i64 2] rfl qy1 ?_;(with_reducible refine(z10_.calls k5 _ _ Af Aj Ak _ _ Ai _ _ Aa (rd ((y19 Aa Ac).f2) Ap) 2 2 false _ (qc (Kd.C_below Bg.out HB.out)) Co.out (qc (Kd.C_below Cp.out HB.out)) Cq.out (qc (Kd.C_below Bp.out HB.out)) Cr.out Uo.out).mono ?_);rintro e Yt ⟨rfl,hb⟩;refine⟨_,rfl, ?_⟩;replace Ad:=y0.mk (Kd.R_below (qR Ad.out) hb);replace Ab:=y0.mk (qK Ab.out hb);replace Ah:=y0.mk (qK Ah.out hb);replace HB:=y0.mk (y5 qb hb);(try clear hb);obtain⟨Rs,Rt,Ru,Rv,Rw,Rx,Ry,Rz,Sa,Sb⟩:=qz5 Ab.out)|(go_at_call 39;(with_reducible refine(spec_l06Vars.calls k5 _ _ Af Aj Ak _ _ Ai _ _ Aa (rd ((y19 Aa Ac).f2) Ap) Fn _ (qc (Kd.C_below Bg.out HB.out)) Co.out (qc (Kd.C_below Cp.out HB.out)) Cq.out (qc (Kd.C_below Bp.out HB.out)) Cr.out Wg.out).mono ?_);rintro e Yu ⟨Up,rfl,Eg,hb⟩;have Cv:=y0.mk (Kd.R_lower (Kd.R_new' Eg (Kd.R_lt (qR Ad.out))) (y4 qb));replace Ad:=y0.mk (Kd.R_elder' (qR Ad.out) (Kd.R_base Eg) hb);replace Ab:=y0.mk (qK Ab.out hb);replace Ah:=y0.mk (qK Ah.out hb);replace HB:=y0.mk (y5 qb hb);(try clear hb);(try clear Eg);obtain⟨Yb,Yc,Uq⟩:=Kd.R_slice Cv.out;subst Uq;obtain⟨Yd,Ye,Ur⟩:=Kd.R_slice Ad.out;subst Ur)|(go_at_call 38;(with_reducible refine(spec_l06All.calls k5 _ _ Fn _ _ Cu true _ (qc ((Kd.R_reads' Cv.out).2.2)) (by exact(Kd.R_reads' Cv.out).2.1) (qc ((Kd.R_reads' Ad.out).2.2)) (by exact(Kd.R_reads' Ad.out).2.1) Wh.out).mono ?_);rintro e w' ⟨rfl,⟨nd,rfl⟩⟩;obtain⟨Sc,Sd,Se,Sf,Sg,Sh,Si,Sj,Sk,Sl⟩:=qz5 Ab.out)|(go_at_call 37;(with_reducible refine(z10_.calls k5 _ _ Af Aj Ak _ _ Ai _ _ Aa (rd ((y19 Aa Ac).f2) (Bx)) 5 7 Hu _ (qc (Kd.C_below Bg.out qb)) Co.out (qc (Kd.C_below Cp.out qb)) Cq.out (qc (Kd.C_below Bp.out qb)) Cr.out Ya.out).mono ?_);rintro e Yv ⟨rfl,hb⟩;replace Ad:=y0.mk (Kd.R_below (qR Ad.out) hb);replace Cv:=y0.mk (Kd.R_below (qR Cv.out) hb);replace Ab:=y0.mk (qK Ab.out hb);replace Ah:=y0.mk (qK Ah.out hb);replace HB:=y0.mk (y5 qb hb);(try clear hb)))
                  go_meet
                  exact⟨_,(Hu),qy2,H',⟨by have:=Ca.out;have:=Bz.out;have:=Ee.out;have:=Cn.out;have:=Fm.out;first|omega|exact Nat.le_refl _⟩,⟨qR (Kd.R_mono Ad.out (fun _ hk=>trivial))⟩,⟨qk Ab.out⟩,⟨qk Ah.out⟩,⟨qb⟩⟩
                 ·replace Rc:=Bool.eq_false_iff.mpr Rc
                  subst Rc
                  replace H:=qF H
                  have H':=y0.mk H
                  clear H
                  have Wl:=Am.out
                  have Wm:=Bd.out
                  obtain⟨Sm,Sn,So,Sp,Sq,Sr,Ss,St,Su,Sv⟩:=qz5 Ab.out
                  go_wp2_with (first|((with_reducible refine y15 (f:=37) rfl ?_);refine y17 (some 143) rfl rfl Tryz.func37 (by kernel_rfl) rfl #[.agg #[.slice Bk Af.length Bl,.int .i64 Aj,.string Ak,.slice Bm Ai.length Bn,.slice (some Cy) Aa.length Bo],.int .i64 (rd ((y19 Aa Ac).f2) Ap),.int .i64 2,.int .i64 2] rfl qy1 ?_;(with_reducible refine(z10_.calls k5 _ _ Af Aj Ak _ _ Ai _ _ Aa (rd ((y19 Aa Ac).f2) Ap) 2 2 false _ (qc (Kd.C_below Bg.out HB.out)) Co.out (qc (Kd.C_below Cp.out HB.out)) Cq.out (qc (Kd.C_below Bp.out HB.out)) Cr.out Uo.out).mono ?_);rintro e Yw ⟨rfl,hb⟩;refine⟨_,rfl, ?_⟩;replace Ad:=y0.mk (Kd.R_below (qR Ad.out) hb);replace Ab:=y0.mk (qK Ab.out hb);replace Ah:=y0.mk (qK Ah.out hb);replace HB:=y0.mk (y5 qb hb);(try clear hb);obtain⟨Sw,Sx,Sy,Sz,Ta,Tc,Td,Te,Tf,Tg⟩:=qz5 Ab.out)|(go_at_call 39;(with_reducible refine(spec_l06Vars.calls k5 _ _ Af Aj Ak _ _ Ai _ _ Aa (rd ((y19 Aa Ac).f2) Ap) Fn _ (qc (Kd.C_below Bg.out HB.out)) Co.out (qc (Kd.C_below Cp.out HB.out)) Cq.out (qc (Kd.C_below Bp.out HB.out)) Cr.out Wg.out).mono ?_);rintro e Yx ⟨Up,rfl,Eg,hb⟩;have Cv:=y0.mk (Kd.R_lower (Kd.R_new' Eg (Kd.R_lt (qR Ad.out))) (y4 qb));replace Ad:=y0.mk (Kd.R_elder' (qR Ad.out) (Kd.R_base Eg) hb);replace Ab:=y0.mk (qK Ab.out hb);replace Ah:=y0.mk (qK Ah.out hb);replace HB:=y0.mk (y5 qb hb);(try clear hb);(try clear Eg);obtain⟨Yf,Yg,Us⟩:=Kd.R_slice Cv.out;subst Us;obtain⟨Yh,Yi,Ut⟩:=Kd.R_slice Ad.out;subst Ut)|(go_at_call 38;(with_reducible refine(spec_l06All.calls k5 _ _ Fn _ _ Cu false _ (qc ((Kd.R_reads' Cv.out).2.2)) (by exact(Kd.R_reads' Cv.out).2.1) (qc ((Kd.R_reads' Ad.out).2.2)) (by exact(Kd.R_reads' Ad.out).2.1) Wh.out).mono ?_);rintro e w' ⟨rfl,⟨nd,rfl⟩⟩))
                  go_meet
                  exact⟨_,(true),qy2,H',⟨by have:=Ca.out;have:=Bz.out;have:=Ee.out;have:=Cn.out;have:=Fm.out;first|omega|exact Nat.le_refl _⟩,⟨qR (Kd.R_mono Ad.out (fun _ hk=>trivial))⟩,⟨qk Ab.out⟩,⟨qk Ah.out⟩,⟨qb⟩⟩
               case rest =>
                clear Kg
                (try clear Io Lu Lv Lw Lx Cg Ch Hv Hx Hw Hy)
                obtain⟨kq,Dl,rfl,HA,Ek,Ad,Ab,Ah,HB⟩:=hcut
                cases kq with
                | zero=>exact absurd HA.out (by simp [z9_.j8])
                | succ Hz =>
                 have H:=HA.out
                 clear HA
                 simp only [z9_.j8]at H
                 by_cases Fz:Dl=true
                 ·subst Fz
                  replace H:=qT H
                  have H':=y0.mk H
                  clear H
                  go_wp2
                  go_roundg Hz
                  case measure=>have:=Ca.out;have:=Bz.out;have:=Ee.out;have:=Cn.out;have:=Fm.out;have:=Ek.out;omega
                  exact⟨(Cu),(wrap64 (Ap + 1)),qy2,H',⟨by have:=Ca.out;have:=Bz.out;have:=Ee.out;have:=Cn.out;have:=Fm.out;have:=Ek.out;omega⟩,⟨qR Ad.out⟩,⟨qk Ab.out⟩,⟨qk Ah.out⟩,⟨qb⟩⟩
                 ·replace Fz:=Bool.eq_false_iff.mpr Fz
                  subst Fz
                  replace H:=qF H
                  obtain⟨Ci,Uu,H⟩:=qB H
                  have H':=y0.mk H
                  clear H
                  have Uv:=Am.out
                  have Uw:=Bd.out
                  obtain⟨Ga,Gb,Gc,Gd,Ge,Gf,Gg,Gh,Gi,Gj⟩:=qz5 Ab.out
                  go_wp2_with (first|((with_reducible refine y15 (f:=39) rfl ?_);refine y17 (some 159) rfl rfl Tryz.func39 (by kernel_rfl) rfl #[.agg #[.slice Bk Af.length Bl,.int .i64 Aj,.string Ak,.slice Bm Ai.length Bn,.slice (some Cy) Aa.length Bo],.int .i64 (rd ((y19 Aa Ac).f2) (Bx))] rfl (by(try simp only [qM_,List.map_cons,List.map_nil]);first|done|(simp only [Fj];rfl)|rfl|(simp only [qD_,qT_];rfl)) ?_;(with_reducible refine(spec_l06Vars.calls Hz _ _ Af Aj Ak _ _ Ai _ _ Aa (rd ((y19 Aa Ac).f2) (Bx)) Ci _ (qc (Kd.C_below Bg.out HB.out)) Co.out (qc (Kd.C_below Cp.out HB.out)) Cq.out (qc (Kd.C_below Bp.out HB.out)) Cr.out Uu.out).mono ?_);rintro e Yj ⟨Lz,rfl,Eg,hb⟩;refine⟨_,rfl, ?_⟩;have Ma:=y0.mk (Kd.R_lower (Kd.R_new' Eg (Kd.R_lt (qR Ad.out))) (y4 qb));replace Ad:=y0.mk (Kd.R_elder' (qR Ad.out) (Kd.R_base Eg) hb);replace Ab:=y0.mk (qK Ab.out hb);replace Ah:=y0.mk (qK Ah.out hb);replace HB:=y0.mk (y5 qb hb);(try clear hb);(try clear Eg)))
                  go_loopg [3,16] Hz (fun kq v3 Yk w'=>∃(Cz:List ByteArray) (Av:Int),Yk=.int .i64 Av∧y0 (z9_.l6 kq Cz (Bc.length:Int) Ac Ap Ci Av Af Aj Ak Ai Aa ((y19 Aa Ac).f0) ((y19 Aa Ac).f1) ((y19 Aa Ac).f2)=some r)∧y0 (kq≤Hz)∧y0 (Kd.R Kd.string 9 w' w.heap.size (fun k_=>some k_≠(Lz:Value).ownBlock) v3 Cz)∧y0 (Kd.R Kd.string 9 w' w.heap.size (fun k_=>some k_≠(v3:Value).ownBlock) Lz Ci)∧y0 (w'.heap[Bi]?=some (.cells #[(.slice Bk Af.length Bl),.int .i64 Aj,.string Ak,(.slice Bm Ai.length Bn),(.slice (some Cy) Aa.length Bo)] 36 (0,0)))∧y0 (w'.heap[Bq]?=some (.cells #[.int .i64 ((y19 Aa Ac).f0),.string ((y19 Aa Ac).f1),(.slice (some Ds) ((y19 Aa Ac).f2).length Cm)] 33 (0,0)))∧y0 (Below w.heap.size w w'))
                  case atStart=>exact⟨(Cu),(0),qy2,H',⟨Nat.le_refl _⟩,⟨qR (Kd.R_mono Ad.out (fun _ hk=>hk.2))⟩,⟨qR (Kd.R_mono Ma.out (fun _ hk=>hk.2))⟩,⟨qk Ab.out⟩,⟨qk Ah.out⟩,⟨qb⟩⟩
                  case round =>
                   clear H'
                   (try clear Fz Ga Gb Gc Gd Ge Gf Gg Gh Gi Gj)
                   obtain⟨Cz,Av,rfl,HA,Kt,Ad,Cb,Ab,Ah,HB⟩:=hrel
                   cases gk with
                   | zero=>exact absurd HA.out (by simp [z9_.l6])
                   | succ k7 =>
                    have H:=HA.out
                    clear HA
                    simp only [z9_.l6]at H
                    by_cases Fo:Av < (Ci.length:Int)
                    ·as_aux_lemma =>
                     rw [if_pos Fo]at H
                     have Kh:=decide_eq_true Fo
                     clear Fo
                     obtain⟨Mb,H⟩:=qo H
                     have Ux:decide (0≤Av)=true:=decide_eq_true Mb
                     clear Mb
                     obtain⟨Uy,Mc,H⟩:=qB H
                     by_cases Ia:Uy=true
                     ·subst Ia
                      replace H:=qT H
                      have H':=y0.mk H
                      clear H
                      obtain⟨Wn,Wo,Md⟩:=Kd.R_slice Cb.out
                      subst Md
                      have Er:0≤(Av:Int):=of_decide_eq_true qy0
                      have Es:Av < (Ci.length:Int):=of_decide_eq_true qy0
                      obtain⟨Gk,Ki,Ib⟩:=Kd.at_string (Kd.R_reads' Cb.out).2.2 Av Er Es
                      cases Ki
                      replace Er:=eq_true Er
                      replace Es:=eq_true Es
                      obtain⟨Me,Mf,Mg⟩:=Kd.R_slice Ad.out
                      subst Mg
                      go_wp2_with (first|((with_reducible refine y15 (f:=18) rfl ?_);refine y17 (some 171) rfl rfl Tryz.func18 (by kernel_rfl) rfl #[.slice Me Cz.length Mf,.string (rdOf ByteArray.empty Ci Av)] rfl qy1 ?_;(with_reducible refine(spec_l05In.calls k7 _ _ Cz (rdOf ByteArray.empty Ci Av) true _ (qc ((Kd.R_reads' Ad.out).2.2)) (by exact(Kd.R_reads' Ad.out).2.1) Mc.out).mono ?_);rintro e w' ⟨rfl,⟨nd,rfl⟩⟩;refine⟨_,rfl, ?_⟩))
                      go_roundg k7
                      case measure=>have:=Ca.out;have:=Bz.out;have:=Ee.out;have:=Cn.out;have:=Fm.out;have:=Ek.out;have:=Kt.out;omega
                      exact⟨(Cz),(wrap64 (Av + 1)),qy2,H',⟨by have:=Ca.out;have:=Bz.out;have:=Ee.out;have:=Cn.out;have:=Fm.out;have:=Ek.out;have:=Kt.out;omega⟩,⟨qR Ad.out⟩,⟨qR Cb.out⟩,⟨qk Ab.out⟩,⟨qk Ah.out⟩,⟨qb⟩⟩
                     ·replace Ia:=Bool.eq_false_iff.mpr Ia
                      subst Ia
                      replace H:=qF H
                      obtain⟨Mh,H⟩:=qo H
                      have Kj:=y0.mk Mh
                      clear Mh
                      obtain⟨Mi,El⟩:∃ y_:List ByteArray,y_=(Cz ++ [rdOf ByteArray.empty Ci Av]):=⟨_,rfl⟩
                      replace H:(z9_.l6 k7 Mi (Bc.length:Int) Ac Ap Ci (wrap64 (Av + 1)) Af Aj Ak Ai Aa ((y19 Aa Ac).f0) ((y19 Aa Ac).f1) ((y19 Aa Ac).f2))=some r:=by first|(rw [El];with_reducible exact H)|(have H2_:=(Option.bind_some _ _).symm.trans H;rw [El];with_reducible exact H2_)|(have H2_:=(Option.bind_some _ _).symm.trans H;with_reducible exact H2_)|with_reducible exact H|(rw [El];exact H)|exact H
                      have Mj:=y0.mk El
                      clear El
                      have H':=y0.mk H
                      clear H
                      obtain⟨Wp,Ml,Mm⟩:=Kd.R_slice Cb.out
                      subst Mm
                      have Er:0≤(Av:Int):=of_decide_eq_true qy0
                      have Es:Av < (Ci.length:Int):=of_decide_eq_true qy0
                      obtain⟨Gk,Ki,Ib⟩:=Kd.at_string (Kd.R_reads' Cb.out).2.2 Av Er Es
                      cases Ki
                      replace Er:=eq_true Er
                      replace Es:=eq_true Es
                      obtain⟨Ip,Iq,Mn⟩:=Kd.R_slice Ad.out
                      subst Mn
                      go_wp2_with (first|((with_reducible refine y15 (f:=18) rfl ?_);refine y17 (some 171) rfl rfl Tryz.func18 (by kernel_rfl) rfl #[.slice Ip Cz.length Iq,.string (rdOf ByteArray.empty Ci Av)] rfl qy1 ?_;(with_reducible refine(spec_l05In.calls k7 _ _ Cz (rdOf ByteArray.empty Ci Av) false _ (qc ((Kd.R_reads' Ad.out).2.2)) (by exact(Kd.R_reads' Ad.out).2.1) Mc.out).mono ?_);rintro e w' ⟨rfl,⟨nd,rfl⟩⟩;refine⟨_,rfl, ?_⟩;have Kk:0≤(Av:Int):=of_decide_eq_true qy0;have Kl:Av < (Ci.length:Int):=of_decide_eq_true qy0;obtain⟨Mo,Uz,Th⟩:=Kd.at_string (Kd.R_reads' Cb.out).2.2 Av Kk Kl;obtain rfl:Gk=Mo:=(by injection Uz);replace Kk:=eq_true Kk;replace Kl:=eq_true Kl)|((with_reducible refine gate_builtin (b:=.append) (xs:=#[.tmp 173,.tmp 178]) rfl ?_);at_builtin;refine Kd.R_append Kd.string (w0:=w) w.heap.size rfl (.tmp 173) (.tmp 178) 30 9 (.string ⟨#[]⟩) 16 rfl Tryz.underlying30 info9 rfl (by decide) (by omega) (.slice Ip Cz.length Iq) Cz (rdOf ByteArray.empty Ci Av) [.string (rdOf ByteArray.empty Ci Av)] (fun k_=>some k_≠(.slice (some Gk) Ci.length Ml:Value).ownBlock) (fun _=>False) rfl rfl ?aP (fun _ hk=>hk.elim) ?aF ?aO ?aB ?aS ?aL ?_;(case aP=>exact rfl);(case aB=>exact qb);(case aF=>exact(fun k_ hk=>Kd.fresh' (Kd.R_lt (qR Cb.out)) k_ hk));(case aO=>exact(qR Ad.out));(case aS=>exact(y4 qb));(case aL=>have:=Kj.out;omega);intro Yl Ym ho hb hg hat;rw [← Mj.out]at ho;replace Cb:=y0.mk (Kd.R_after (ok:=(fun _=>True)) (qR (Kd.R_mono Cb.out (fun _ hk=>⟨trivial,hk⟩))) hg hat);replace Ab:=y0.mk (blk_grown (qk Ab.out) hg (Kd.R_ne Ad.out Ab.out (by decide)));replace Ah:=y0.mk (blk_grown (qk Ah.out) hg (Kd.R_ne Ad.out Ah.out (by decide)));replace HB:=y0.mk (hb);have Mp:=y0.mk (ho);clear Ad;clear ho hb hg hat))
                      go_roundg k7
                      case measure=>have:=Ca.out;have:=Bz.out;have:=Ee.out;have:=Cn.out;have:=Fm.out;have:=Ek.out;have:=Kt.out;omega
                      exact⟨(Mi),(wrap64 (Av + 1)),qy2,H',⟨by have:=Ca.out;have:=Bz.out;have:=Ee.out;have:=Cn.out;have:=Fm.out;have:=Ek.out;have:=Kt.out;omega⟩,⟨qR Mp.out⟩,⟨qR (Kd.R_mono Cb.out (fun _ hk=>hk.2))⟩,⟨qk Ab.out⟩,⟨qk Ah.out⟩,⟨qb⟩⟩
                    ·as_aux_lemma =>
                     rw [if_neg Fo]at H
                     have Kh:=decide_eq_false Fo
                     clear Fo
                     have H':=y0.mk H
                     clear H
                     obtain⟨Wq,Wr,Mq⟩:=Kd.R_slice Cb.out
                     subst Mq
                     go_wp2
                     go_roundg k7
                     case measure=>have:=Ca.out;have:=Bz.out;have:=Ee.out;have:=Cn.out;have:=Fm.out;have:=Ek.out;have:=Kt.out;omega
                     exact⟨(Cz),(wrap64 (Ap + 1)),qy2,H',⟨by have:=Ca.out;have:=Bz.out;have:=Ee.out;have:=Cn.out;have:=Fm.out;have:=Ek.out;have:=Kt.out;omega⟩,⟨qR (Kd.R_mono Ad.out (fun _ hk=>trivial))⟩,⟨qk Ab.out⟩,⟨qk Ah.out⟩,⟨qb⟩⟩
              ·as_aux_lemma =>
               rw [if_neg Ks]at H
               have Io:=decide_eq_false Ks
               clear Ks
               have H':=y0.mk H
               clear H
               go_wp2
               go_roundg k5
               case measure=>have:=Ca.out;have:=Bz.out;have:=Ee.out;have:=Cn.out;have:=Fm.out;omega
               exact⟨(Cu),(wrap64 (Ac + 1)),qy2,H',⟨by have:=Ca.out;have:=Bz.out;have:=Ee.out;have:=Cn.out;have:=Fm.out;omega⟩,⟨qR Ad.out⟩,⟨qk Ab.out⟩,⟨qb⟩⟩
        ·as_aux_lemma =>
         rw [if_neg Kr]at H
         have Im:=decide_eq_false Kr
         clear Kr
         by_cases Dp:(Cl.length:Int)=(Bc.length:Int)
         ·as_aux_lemma =>
          rw [if_pos Dp]at H
          have Km:((Cl.length:Int) == (Bc.length:Int))=true:=beq_iff_eq.mpr Dp
          have Kn:((Cl.length:Int) != (Bc.length:Int))=false:=bne_eq_false_iff_eq.mpr Dp
          have Ko:(Cl.length == Bc.length)=true:=by first|simpa using Dp|(simp at Dp ⊢;omega)
          clear Dp
          obtain rfl:=Option.some.inj H
          obtain⟨Mr,Ms,Mt,Mu,Mv,Mw,Mx,My,Mz,Na⟩:=qz5 Ab.out
          obtain⟨Ws,Wt,Nb⟩:=Kd.R_slice Ad.out
          subst Nb
          go_wp2
          go_ret
          exact⟨_,by first|rfl|(simp [y12,y13] <;> rfl)|(simp [*,y12,y13] <;> rfl),by(with_reducible repeat(first|apply Kd.R_alloc|apply Kd.R_drewN|apply Kd.R_drew));exact Ad.out,qb⟩
         ·as_aux_lemma =>
          rw [if_neg Dp]at H
          have Km:((Cl.length:Int) == (Bc.length:Int))=false:=beq_eq_false_iff_ne.mpr Dp
          have Kn:((Cl.length:Int) != (Bc.length:Int))=true:=bne_iff_ne.mpr Dp
          have Ko:(Cl.length == Bc.length)=false:=by first|simpa using Dp|(simp at Dp ⊢;omega)
          have H':=y0.mk H
          clear H
          obtain⟨Nc,Nd,Nf,Ng,Nh,Ni,Nj,Nk,Nl,Nm⟩:=qz5 Ab.out
          obtain⟨Wu,Wv,Nn⟩:=Kd.R_slice Ad.out
          subst Nn
          go_wp2
          go_roundg k3
          case measure=>have:=Ca.out;have:=Bz.out;have:=Ee.out;omega
          exact⟨(Cl),H',⟨by have:=Ca.out;have:=Bz.out;have:=Ee.out;omega⟩,⟨qR Ad.out⟩,⟨qk Ab.out⟩,⟨qb⟩⟩
end Go.Proofs.YtkdabljlfbmpdaaGreat.Pb
