-- Cut by prune.py.
import Derived.Test.YtkdabljlfbmpdaaVgrPwx20
set_option maxHeartbeats 8000000
set_option maxRecDepth 100000
section
namespace Go.Proofs.Ytkdabljlfbmpdaa.Pw
open RowKit YtkdabljlfbmpdaaW.PrintWords YtkdabljlfbmpdaaW.PrintLast YtkdabljlfbmpdaaW.PrintMore
set_option linter.unusedVariables false
set_option linter.unusedSimpArgs false
def lsNm (S:List ByteArray) (es:List (S63)):List ByteArray:=es.foldl (fun out e=>if e.f0=1∧QSet.hasB S e.f1=true∧QSet.hasB out e.f1=false then out ++ [e.f1]else out) []
theorem lsNm_len (S:List ByteArray):∀(es:List (S63)) (out:List ByteArray),(es.foldl (fun out e=>if e.f0=1∧QSet.hasB S e.f1=true∧QSet.hasB out e.f1=false then out ++ [e.f1]else out) out).length≤out.length + es.length
 | [],out=>Nat.le_refl _
 | e :: r,out=>by
  rw [List.foldl_cons,List.length_cons]
  by_cases h:e.f0=1∧QSet.hasB S e.f1=true∧QSet.hasB out e.f1=false
  ·rw [if_pos h]
   have:=lsNm_len S r (out ++ [e.f1])
   rw [List.length_append,List.length_singleton]at this
   omega
  ·rw [if_neg h]
   have:=lsNm_len S r out
   omega
theorem lsNm_step (S:List ByteArray) (es:List (S63)) (i:Nat) (hi:i < es.length):lsNm S (es.take (i + 1))=if es[i].f0=1∧QSet.hasB S es[i].f1=true∧QSet.hasB (lsNm S (es.take i)) es[i].f1=false then lsNm S (es.take i) ++ [es[i].f1]else lsNm S (es.take i):=by
 unfold lsNm
 rw [List.take_succ_eq_append_getElem hi,List.foldl_append,List.foldl_cons,List.foldl_nil]
theorem lsIdx (l:List ByteArray) (s:ByteArray) (hl:l.length≤1099511627776):∀(q i:Nat),i + q=l.length→∃ r,(∃ K,∀ k,K≤k→z6_.l0 k l s (l.length:Int) (i:Int)=some r)∧decide (r≥0)=QSet.hasB (l.drop i) s
 | 0,i,h=>by
  refine⟨-1,⟨1,fun k hk=>?_⟩, ?_⟩
  ·obtain⟨k,rfl⟩:∃ p,k=p + 1:=⟨k - 1,by omega⟩
   rw [z6_.l0,if_neg (by omega)]
  ·rw [List.drop_of_length_le (by omega)]
   rfl
 | q + 1,i,h=>by
  have hi:i < l.length:=by omega
  have hr:rdOf ByteArray.empty l (i:Int)=l[i]:=by
   unfold rdOf
   rw [show((i:Int)).toNat=i from rfl,List.getD_eq_getElem?_getD,List.getElem?_eq_getElem hi]
   rfl
  rw [List.drop_eq_getElem_cons hi]
  have hc:QSet.hasB (l[i] :: l.drop (i + 1)) s=(decide (l[i].toList=s.toList) || QSet.hasB (l.drop (i + 1)) s):=rfl
  rw [hc]
  by_cases e:s.toList=l[i].toList
  ·refine⟨(i:Int),⟨1,fun k hk=>?_⟩,by rw [decide_eq_true e.symm,Bool.true_or];exact decide_eq_true (by omega)⟩
   obtain⟨k,rfl⟩:∃ p,k=p + 1:=⟨k - 1,by omega⟩
   rw [z6_.l0,if_pos (by omega),if_pos (by omega),if_pos (by omega),hr,if_pos e]
  ·obtain⟨r,⟨K,h1⟩,h2⟩:=lsIdx l s hl q (i + 1) (by omega)
   refine⟨r,⟨K + 1,fun k hk=>?_⟩,by rw [(decide_eq_false (fun h=>e h.symm):decide (l[i].toList=s.toList)=false),Bool.false_or];exact h2⟩
   obtain⟨k,rfl⟩:∃ p,k=p + 1:=⟨k - 1,by omega⟩
   rw [z6_.l0,if_pos (by omega),if_pos (by omega),if_pos (by omega),hr,if_neg e,QIv.step_u (by omega)]
   exact h1 k (by omega)
theorem lsHas (l:List ByteArray) (s:ByteArray) (hl:l.length≤1099511627776):∃ k,slices_Contains_string_string.f k l s=some (QSet.hasB l s):=by
 obtain⟨r,⟨K,h1⟩,h2⟩:=lsIdx l s hl l.length 0 (by omega)
 refine⟨K, ?_⟩
 have h3:z6_.l0 K l s (l.length:Int) 0=some r:=h1 K (Nat.le_refl _)
 unfold slices_Contains_string_string.f z6_.f
 rw [h3,Option.bind_some,h2,List.drop_zero]
set_option maxHeartbeats 16000000 in
set_option maxRecDepth 100000 in
theorem impl_Rule_names.calls (Bf:Option Addr) (Ay:Nat) (Aa:List (S63)) (Bd:Int) (Be:ByteArray) (Az:Option Addr) (Ba:Nat) (Aw:List Int) (Bb:Option Addr) (Bc:Nat) (Ax:List (S33)) (gm:Nat) (S:List ByteArray) (w:World) (Bg:Kd.C k63 w Bf Aa.length Aa) (Bh:Aa.length≤Ay) (Bi:Kd.C (Kd.int .i64) w Az Aw.length Aw) (Bj:Aw.length≤Ba) (Bk:Kd.C k33 w Bb Ax.length Ax) (Bl:Ax.length≤Bc) (hm:QSet.MS w gm S) (hn:Aa.length≤1048576) (hsz:∀ e∈Aa,e.f1.size≤1099511627776) :
  Calls Try.prog 75 #[.agg #[.slice Bf Aa.length Ay,.int .i64 Bd,.string Be,.slice Az Aw.length Ba,.slice Bb Ax.length Bc],.map (some gm)] w fun e w'=>∃ v:Value,e=.returned v∧Kd.R Kd.string 9 w' w.heap.size (fun _=>True) v (lsNm S Aa)∧Below w.heap.size w w':=by
 replace Bg:=y0.mk Bg
 replace Bh:=y0.mk Bh
 replace Bi:=y0.mk Bi
 replace Bj:=y0.mk Bj
 replace Bk:=y0.mk Bk
 replace Bl:=y0.mk Bl
 replace hm:=y0.mk hm
 have HN:=y0.mk hn
 have HSZ:=y0.mk hsz
 clear hn hsz
 have HB:=y0.mk (Below.refl w.heap.size w)
 have Cf:=Try.underlying36
 have Cg:=Try.underlying63
 go_enter Try.func75,Try.ntmps75
 go_wp2_with (first
  | ((with_reducible refine y16 (N:=2) rfl ?_);refine qe 2 #[.slice Bf Aa.length Ay,.int .i64 Bd,.string Be,.slice Az Aw.length Ba,.slice Bb Ax.length Bc] 36 ?_;intro gr hg w1 hbox hb;have BKr:=y0.mk (hbox);have GEr:=y0.mk ((by rw [hg];exact HB.out.size:w.heap.size≤gr));have Nm_r:=y0.mk ((by rw [hg];exact Nat.ne_of_lt hm.out.lt:gm≠gr));replace hm:=y0.mk (QSet.MS.below hm.out hb);replace HB:=y0.mk (y4 HB.out hb);clear hb hg hbox;obtain⟨Ab,Ac,Ad,Af,Ag,Ah,Ai,Aj,Ak,Am⟩:=QSet.bx5 BKr.out)
  | ((with_reducible refine y16 (N:=8) rfl ?_);refine qL Kd.string 9 8 ([]:List ByteArray) ?_;intro vo w2 ho hb hg_ hnew_;clear hg_ hnew_;(repeat first|clear Ab|clear Ah|clear Ac|clear Ai|clear Ad|clear Aj|clear Af|clear Ak|clear Ag|clear Am);have HOo:=y0.mk (Kd.R_lower ho (y3 HB.out));replace BKr:=y0.mk (y6 BKr.out hb);replace hm:=y0.mk (QSet.MS.below hm.out hb);replace HB:=y0.mk (y4 HB.out hb);clear hb ho;obtain⟨Ab,Ac,Ad,Af,Ag,Ah,Ai,Aj,Ak,Am⟩:=QSet.bx5 BKr.out))
 go_loopg [5,12] Aa.length (fun kq v5 Cb w'=>∃(xi:Int) (i:Nat),Cb=.int .i64 xi∧y0 (xi=(i:Int))∧y0 (kq + i=Aa.length)∧y0 (Kd.R Kd.string 9 w' w.heap.size (fun _=>True) (v5) (lsNm S (Aa.take i)))∧y0 (w'.heap[gr]?=some (.cells #[.slice Bf Aa.length Ay,.int .i64 Bd,.string Be,.slice Az Aw.length Ba,.slice Bb Ax.length Bc] 36 (0,0)))∧y0 (QSet.MS w' gm (S))∧y0 (Below w.heap.size w w'))
 case atStart=>exact⟨0,0,rfl,⟨rfl⟩,⟨Nat.add_zero _⟩,⟨qR HOo.out⟩,⟨BKr.out⟩,⟨hm.out⟩,⟨HB.out⟩⟩
 case round =>
  (repeat first|clear Ab|clear Ah|clear Ac|clear Ai|clear Ad|clear Aj|clear Af|clear Ak|clear Ag|clear Am)
  clear HOo hm BKr HB
  obtain⟨xi,i,rfl,HXI,HK,HOo,BKr,hm,HB⟩:=hrel
  obtain⟨Ao,co,eo_⟩:=Kd.R_slice HOo.out
  subst eo_
  by_cases c:xi < (Aa.length:Int)
  ·skip
   have Cc:decide (xi < (Aa.length:Int))=true:=decide_eq_true c
   have hi:i < Aa.length:=by have:=HXI.out;omega
   have p1:0≤xi:=by have:=HXI.out;omega
   obtain⟨Bs,A1,c1,e1,Bm,Bn,Bo,Cd,Ce⟩:=at_T63 Bg.out xi p1 c
   have rg:y19 Aa xi=Aa[i]:=by rw [HXI.out];unfold y19;rw [show((i:Int)).toNat=i from rfl,List.getD_eq_getElem?_getD,List.getElem?_eq_getElem hi];rfl
   rw [rg]at Bm Bn Bo
   clear rg Cd Ce
   have HST:=y0.mk (lsNm_step S Aa i hi)
   have Br:=y0.mk (HSZ.out _ (List.getElem_mem hi))
   generalize Aa[i]=e0 at Bm Bn Bo HST Br
   replace hi:=y0.mk hi
   have HLN:y0 ((lsNm S (Aa.take i)).length≤1048576):=by
    have h1:=lsNm_len S (Aa.take i) []
    have h2:=HN.out
    have h3:(Aa.take i).length≤Aa.length:=by rw [qT_];omega
    rw [List.length_nil]at h1
    exact⟨by unfold lsNm;omega⟩
   cases e1
   replace Bm:=qC Bm HB
   replace Bn:=qC Bn HB
   replace Bo:=qC Bo HB
   have q1:=eq_true c
   replace p1:=eq_true p1
   clear c
   obtain⟨Ab,Ac,Ad,Af,Ag,Ah,Ai,Aj,Ak,Am⟩:=QSet.bx5 BKr.out
   go_upto_region 5 with(first
    | ((with_reducible refine y16 (N:=7) rfl ?_);refine qe 7 #[.int .i64 0,.string (⟨#[]⟩:ByteArray),.slice none 0 0] 63 ?_;intro ge hg w3 hbox hb;(repeat first|clear Ab|clear Ah|clear Ac|clear Ai|clear Ad|clear Aj|clear Af|clear Ak|clear Ag|clear Am);have BKe:=y0.mk (hbox);have GEe:=y0.mk ((by rw [hg];exact HB.out.size:w.heap.size≤ge));have Nr_e:=y0.mk ((by rw [hg];exact Nat.ne_of_lt (blk_lt BKr.out):gr≠ge));have Nm_e:=y0.mk ((by rw [hg];exact Nat.ne_of_lt hm.out.lt:gm≠ge));replace HOo:=y0.mk (Kd.R_below HOo.out hb);replace BKr:=y0.mk (y6 BKr.out hb);replace hm:=y0.mk (QSet.MS.below hm.out hb);replace HB:=y0.mk (y4 HB.out hb);clear hb hg hbox;obtain⟨Ab,Ac,Ad,Af,Ag,Ah,Ai,Aj,Ak,Am⟩:=QSet.bx5 BKr.out;obtain⟨Ap,Ar,As,At,Au,Av⟩:=QSet.bx3 BKe.out))
   (repeat first|clear Ab|clear Ah|clear Ac|clear Ai|clear Ad|clear Aj|clear Af|clear Ak|clear Ag|clear Am|clear Ap|clear At|clear Ar|clear Au|clear As|clear Av)
   have nHOo_:=y0.mk ((Kd.R_set (Kd.R_set (Kd.R_set HOo.out BKe.out (by decide) 0 _) (blk_set BKe.out 0 (.int .i64 e0.f0)) (by decide) 1 _) (blk_set (blk_set BKe.out 0 (.int .i64 e0.f0)) 1 (.string e0.f1)) (by decide) 2 _):Kd.R Kd.string 9 (((w3.setCell ⟨ge,0,none⟩ (.int .i64 e0.f0)).setCell ⟨ge,1,none⟩ (.string e0.f1)).setCell ⟨ge,2,none⟩ (.slice A1 e0.f2.length c1)) w.heap.size (fun _=>True) (.slice Ao (lsNm S (Aa.take i)).length co) (lsNm S (Aa.take i)))
   have nBKr_:=y0.mk ((y10 (y10 (y10 BKr.out (Nr_e.out) _) (Nr_e.out) _) (Nr_e.out) _):(((w3.setCell ⟨ge,0,none⟩ (.int .i64 e0.f0)).setCell ⟨ge,1,none⟩ (.string e0.f1)).setCell ⟨ge,2,none⟩ (.slice A1 e0.f2.length c1)).heap[gr]?=some (.cells #[.slice (some Bs) Aa.length Ay,.int .i64 Bd,.string Be,.slice Az Aw.length Ba,.slice Bb Ax.length Bc] 36 (0,0)))
   have nBKe_:=y0.mk ((blk_set (blk_set (blk_set BKe.out 0 (.int .i64 e0.f0)) 1 (.string e0.f1)) 2 (.slice A1 e0.f2.length c1)):(((w3.setCell ⟨ge,0,none⟩ (.int .i64 e0.f0)).setCell ⟨ge,1,none⟩ (.string e0.f1)).setCell ⟨ge,2,none⟩ (.slice A1 e0.f2.length c1)).heap[ge]?=some (.cells #[.int .i64 e0.f0,.string e0.f1,.slice A1 e0.f2.length c1] 63 (0,0)))
   have nHM_:=y0.mk ((QSet.MS.set (QSet.MS.set (QSet.MS.set hm.out Nm_e.out 0 _) Nm_e.out 1 _) Nm_e.out 2 _):QSet.MS (((w3.setCell ⟨ge,0,none⟩ (.int .i64 e0.f0)).setCell ⟨ge,1,none⟩ (.string e0.f1)).setCell ⟨ge,2,none⟩ (.slice A1 e0.f2.length c1)) gm (S))
   have nHB_:=y0.mk ((below_set (below_set (below_set HB.out GEe.out) GEe.out) GEe.out):Below w.heap.size w (((w3.setCell ⟨ge,0,none⟩ (.int .i64 e0.f0)).setCell ⟨ge,1,none⟩ (.string e0.f1)).setCell ⟨ge,2,none⟩ (.slice A1 e0.f2.length c1)))
   clear HOo
   clear BKr
   clear BKe
   clear hm
   clear HB
   generalize (((w3.setCell ⟨ge,0,none⟩ (.int .i64 e0.f0)).setCell ⟨ge,1,none⟩ (.string e0.f1)).setCell ⟨ge,2,none⟩ (.slice A1 e0.f2.length c1))=w4 at nHOo_ nBKr_ nBKe_ nHM_ nHB_ ⊢
   have HOo:=nHOo_
   clear nHOo_
   have BKr:=nBKr_
   clear nBKr_
   have BKe:=nBKe_
   clear nBKe_
   have hm:=nHM_
   clear nHM_
   have HB:=nHB_
   clear nHB_
   obtain⟨Ab,Ac,Ad,Af,Ag,Ah,Ai,Aj,Ak,Am⟩:=QSet.bx5 BKr.out
   obtain⟨Ap,Ar,As,At,Au,Av⟩:=QSet.bx3 BKe.out
   clear Bm Bn Bo
   by_cases k1:e0.f0=1
   ·skip
    have k1b:(e0.f0 == 1)=true:=beq_iff_eq.mpr k1
    have Bt:=y0.mk k1
    clear k1
    obtain⟨b,Ca⟩:∃ b,QSet.hasB S e0.f1=b:=⟨_,rfl⟩
    replace Ca:=y0.mk Ca
    cases b with
    | true =>
     obtain⟨kc,hkc⟩:=lsHas (lsNm S (Aa.take i)) e0.f1 (by have:=HLN.out;omega)
     replace hkc:=y0.mk hkc
     obtain⟨t,ht⟩:∃ b,QSet.hasB (lsNm S (Aa.take i)) e0.f1=b:=⟨_,rfl⟩
     rw [ht]at hkc
     replace ht:=y0.mk ht
     cases t with
     | true =>
      go_wp2_with (first
       | ((try(refine gate_guard (by rfl) ?_;dsimp only));(with_reducible refine y16 (N:=23) rfl ?_);refine QSet.look_event rfl (.tmp 20) (.tmp 22) rfl rfl (s:=e0.f1) rfl hm.out (by have:=Br.out;unfold maxLen;omega) ?_;rw [Ca.out])
       | ((try(refine gate_guard (by rfl) ?_;dsimp only));go_at_call 54;(with_reducible refine(slices_Contains_string_string.calls kc _ _ (lsNm S (Aa.take i)) e0.f1 true _ (Kd.R_reads' HOo.out).2.2 (Kd.R_reads' HOo.out).2.1 hkc.out).mono ?_);rintro e_ w5 ⟨rfl,hd_⟩;have hb:=hd_.below;(repeat first|clear Ab|clear Ah|clear Ac|clear Ai|clear Ad|clear Aj|clear Af|clear Ak|clear Ag|clear Am|clear Ap|clear At|clear Ar|clear Au|clear As|clear Av);replace HOo:=y0.mk (Kd.R_below HOo.out hb);replace BKr:=y0.mk (y6 BKr.out hb);replace BKe:=y0.mk (y6 BKe.out hb);replace hm:=y0.mk (QSet.MS.below hm.out hb);replace HB:=y0.mk (y4 HB.out hb);(try clear hb);(try clear hd_);(try clear ho);obtain⟨Ab,Ac,Ad,Af,Ag,Ah,Ai,Aj,Ak,Am⟩:=QSet.bx5 BKr.out;obtain⟨Ap,Ar,As,At,Au,Av⟩:=QSet.bx3 BKe.out))
      go_roundg (Aa.length - i - 1)
      case measure=>have:=HK.out;have:=hi.out;omega
      exact⟨wrap64 (xi + 1),i + 1,qy2,⟨by rw [HXI.out];exact QIv.step_u (by have:=HN.out;have:=hi.out;omega)⟩,⟨by have:=hi.out;omega⟩,⟨by rw [HST.out,if_neg (by rw [ht.out];simp)];exact HOo.out⟩,⟨BKr.out⟩,⟨hm.out⟩,⟨HB.out⟩⟩
     | false =>
      go_wp2_with (first
       | ((try(refine gate_guard (by rfl) ?_;dsimp only));(with_reducible refine y16 (N:=23) rfl ?_);refine QSet.look_event rfl (.tmp 20) (.tmp 22) rfl rfl (s:=e0.f1) rfl hm.out (by have:=Br.out;unfold maxLen;omega) ?_;rw [Ca.out])
       | ((try(refine gate_guard (by rfl) ?_;dsimp only));go_at_call 54;(with_reducible refine(slices_Contains_string_string.calls kc _ _ (lsNm S (Aa.take i)) e0.f1 false _ (Kd.R_reads' HOo.out).2.2 (Kd.R_reads' HOo.out).2.1 hkc.out).mono ?_);rintro e_ w5 ⟨rfl,hd_⟩;have hb:=hd_.below;(repeat first|clear Ab|clear Ah|clear Ac|clear Ai|clear Ad|clear Aj|clear Af|clear Ak|clear Ag|clear Am|clear Ap|clear At|clear Ar|clear Au|clear As|clear Av);replace HOo:=y0.mk (Kd.R_below HOo.out hb);replace BKr:=y0.mk (y6 BKr.out hb);replace BKe:=y0.mk (y6 BKe.out hb);replace hm:=y0.mk (QSet.MS.below hm.out hb);replace HB:=y0.mk (y4 HB.out hb);(try clear hb);(try clear hd_);(try clear ho);obtain⟨Ab,Ac,Ad,Af,Ag,Ah,Ai,Aj,Ak,Am⟩:=QSet.bx5 BKr.out;obtain⟨Ap,Ar,As,At,Au,Av⟩:=QSet.bx3 BKe.out)
       | ((with_reducible refine gate_builtin (b:=.append) (xs:=#[.tmp 32,.tmp 35]) rfl ?_);at_builtin;refine Kd.R_append Kd.string (w0:=w) w.heap.size rfl (.tmp 32) (.tmp 35) 30 9 (.string ⟨#[]⟩) 16 rfl Try.underlying30 info9 rfl (by decide) (by omega) (.slice Ao (lsNm S (Aa.take i)).length co) (lsNm S (Aa.take i)) (e0.f1) [.string (e0.f1)] (fun _=>True) (fun _=>False) rfl (by first|(go_simp;done)|(go_simp;rfl)) ?aP (fun _ hk=>hk.elim) ?aF ?aO ?aB ?aS ?aL ?_;(case aP=>exact rfl);(case aB=>exact qb);(case aF=>exact(fun _ _=>trivial));(case aO=>exact(qR HOo.out));(case aS=>exact(y3 qb));(case aL=>have:=HLN.out;omega);intro v9 w9 ho hb hg hat;(repeat first|clear Ab|clear Ah|clear Ac|clear Ai|clear Ad|clear Aj|clear Af|clear Ak|clear Ag|clear Am|clear Ap|clear At|clear Ar|clear Au|clear As|clear Av);have nBKr_:=y0.mk (blk_grown (g:=gr) (o:=(.cells #[.slice (some Bs) Aa.length Ay,.int .i64 Bd,.string Be,.slice Az Aw.length Ba,.slice Bb Ax.length Bc] 36 (0,0))) (qk BKr.out) hg (Kd.R_ne HOo.out BKr.out (by decide)));have nHM_:=y0.mk ((QSet.MS.below hm.out (by repeat(first|exact Below.refl _ _|apply below_alloc))).over (qR HOo.out) hg);have nHOo_:=y0.mk (ho);have nHB_:=y0.mk (hb);clear BKr hm HOo HB ho hb hg hat;have BKr:=nBKr_;have hm:=nHM_;have HOo:=nHOo_;have HB:=nHB_;clear nBKr_ nHM_ nHOo_ nHB_;have Ab:w9.cell? ⟨gr,0,none⟩=some (.slice (some Bs) Aa.length Ay):=(y7 BKr.out 0).trans rfl))
      go_roundg (Aa.length - i - 1)
      case measure=>have:=HK.out;have:=hi.out;omega
      exact⟨wrap64 (xi + 1),i + 1,qy2,⟨by rw [HXI.out];exact QIv.step_u (by have:=HN.out;have:=hi.out;omega)⟩,⟨by have:=hi.out;omega⟩,⟨by rw [HST.out,if_pos ⟨Bt.out,Ca.out,ht.out⟩];exact HOo.out⟩,⟨BKr.out⟩,⟨hm.out⟩,⟨HB.out⟩⟩
    | false =>
     go_wp2_with (first
      | ((try(refine gate_guard (by rfl) ?_;dsimp only));(with_reducible refine y16 (N:=23) rfl ?_);refine QSet.look_event rfl (.tmp 20) (.tmp 22) rfl rfl (s:=e0.f1) rfl hm.out (by have:=Br.out;unfold maxLen;omega) ?_;rw [Ca.out]))
     go_roundg (Aa.length - i - 1)
     case measure=>have:=HK.out;have:=hi.out;omega
     exact⟨wrap64 (xi + 1),i + 1,qy2,⟨by rw [HXI.out];exact QIv.step_u (by have:=HN.out;have:=hi.out;omega)⟩,⟨by have:=hi.out;omega⟩,⟨by rw [HST.out,if_neg (by rw [Ca.out];simp)];exact HOo.out⟩,⟨BKr.out⟩,⟨hm.out⟩,⟨HB.out⟩⟩
   ·skip
    have k1b:(e0.f0 == 1)=false:=beq_eq_false_iff_ne.mpr k1
    have Bt:=y0.mk k1
    clear k1
    go_wp2
    go_roundg (Aa.length - i - 1)
    case measure=>have:=HK.out;have:=hi.out;omega
    exact⟨wrap64 (xi + 1),i + 1,qy2,⟨by rw [HXI.out];exact QIv.step_u (by have:=HN.out;have:=hi.out;omega)⟩,⟨by have:=hi.out;omega⟩,⟨by rw [HST.out,if_neg (fun h_=>Bt.out h_.1)];exact HOo.out⟩,⟨BKr.out⟩,⟨hm.out⟩,⟨HB.out⟩⟩
  ·skip
   have Cc:decide (xi < (Aa.length:Int))=false:=decide_eq_false c
   have HE:y0 (Aa.take i=Aa):=⟨List.take_of_length_le (by have:=HXI.out;have:=HK.out;omega)⟩
   rw [HE.out]at HOo
   go_wp2
   go_ret
   exact⟨_,by first|rfl|(rw [HE.out];rfl)|(simp [HE.out,y12,y13] <;> rfl),by rw [HE.out];exact HOo.out,HB.out⟩
def lsK (es:List (S63)) (l:S33) (S:List ByteArray) (y:Int):List ByteArray:=if l.f0=1∧(y19 es y).f0=1 then QSet.ins S (y19 es y).f1 else S
def lsA (es:List (S63)) (PL:Int→List Int) (l:S33) (S:List ByteArray) (x:Int):List ByteArray:=(PL x).foldl (lsK es l) S
def lsL (es:List (S63)) (PL:Int→List Int) (S:List ByteArray) (l:S33):List ByteArray:=l.f2.foldl (lsA es PL l) S
def lsO (VR:Int→List ByteArray) (PT:Int→Bool) (TL:List ByteArray→Int→Bool) (S:List ByteArray) (a b:Int):List ByteArray:=if(PT b && TL S a)=true then(VR b).foldl QSet.ins S else S
def lsE (VR:Int→List ByteArray) (PT:Int→Bool) (TL:List ByteArray→Int→Bool) (a b:Int) (S:List ByteArray):Nat→List ByteArray
 | 0=>S
 | 1=>lsO VR PT TL S a b
 | _=>lsO VR PT TL (lsO VR PT TL S a b) b a
def lsP (VR:Int→List ByteArray) (PT:Int→Bool) (TL:List ByteArray→Int→Bool) (S:List ByteArray) (l:S33):List ByteArray:=if l.f0=3∧l.f1.toList=([61]:List UInt8)then lsE VR PT TL (rd l.f2 0) (rd l.f2 1) S 2 else S
def lsW (bd:List (S33)) (VR:Int→List ByteArray) (PT:Int→Bool) (TL:List ByteArray→Int→Bool) (S:List ByteArray):List ByteArray:=bd.foldl (lsP VR PT TL) S
def lsIt (bd:List (S33)) (VR:Int→List ByteArray) (PT:Int→Bool) (TL:List ByteArray→Int→Bool) (S:List ByteArray):Nat→List ByteArray
 | 0=>S
 | n + 1=>lsW bd VR PT TL (lsIt bd VR PT TL S n)
def lsG (es:List (S63)) (S:List ByteArray):Prop:=S.Nodup∧∀ s∈S,∃ e∈es,e.f1=s
theorem lsG_nil (es:List (S63)):lsG es []:=⟨List.nodup_nil,fun s h=>by cases h⟩
theorem lsG_ins {es:List (S63)} {S:List ByteArray} (h:lsG es S) {s:ByteArray} (hs:∃ e∈es,e.f1=s):lsG es (QSet.ins S s):=by
 refine⟨?_,fun t ht=>?_⟩
 ·unfold QSet.ins
  by_cases e:QSet.hasB S s=true
  ·rw [if_pos e]
   exact h.1
  ·rw [if_neg e]
   refine List.nodup_append.2 ⟨h.1,by simp,fun a ha b hb=>?_⟩
   rw [List.mem_singleton]at hb
   subst hb
   rintro rfl
   exact e (QSet.hasB_iff.2 ha)
 ·rcases QSet.mem_ins.1 ht with ht|rfl
  ·exact h.2 t ht
  ·exact hs
theorem nodup_sub {α:Type}:∀(xs ys:List α),xs.Nodup→(∀ x∈xs,x∈ys)→xs.length≤ys.length
 | [],ys,_,_=>Nat.zero_le _
 | x :: r,ys,h,hs=>by
  obtain⟨h1,h2⟩:=List.nodup_cons.1 h
  obtain⟨p,q,rfl⟩:=List.append_of_mem (hs x List.mem_cons_self)
  have:=nodup_sub r (p ++ q) h2 (fun y hy=>by
   have h3:=hs y (List.mem_cons_of_mem _ hy)
   rcases List.mem_append.1 h3 with h3|h3
   ·exact List.mem_append_left _ h3
   ·rcases List.mem_cons.1 h3 with rfl|h3
    ·exact absurd hy h1
    ·exact List.mem_append_right _ h3)
  rw [List.length_append]at this
  rw [List.length_cons,List.length_append,List.length_cons]
  omega
theorem lsG_len {es:List (S63)} {S:List ByteArray} (h:lsG es S):S.length≤es.length:=by
 have:=nodup_sub S (es.map (·.f1)) h.1 (fun s hs=>by
  obtain⟨e,he,rfl⟩:=h.2 s hs
  exact List.mem_map_of_mem he)
 rwa [List.length_map]at this
theorem foldl_at {α β:Type} (f:β→α→β) (z:β) (xs:List α) (i:Nat) (hi:i < xs.length):(xs.take (i + 1)).foldl f z=f ((xs.take i).foldl f z) xs[i]:=by
 rw [List.take_succ_eq_append_getElem hi,List.foldl_append,List.foldl_cons,List.foldl_nil]
theorem lsE_step (VR:Int→List ByteArray) (PT:Int→Bool) (TL:List ByteArray→Int→Bool) (xs:List Int) (S:List ByteArray) (s:Nat) (hs:s < 2):lsE VR PT TL (rd xs 0) (rd xs 1) S (s + 1)=lsO VR PT TL (lsE VR PT TL (rd xs 0) (rd xs 1) S s) (rd xs (s:Int)) (rd [rd xs 1,rd xs 0] (s:Int)):=by
 match s,hs with
 | 0,_=>rfl
 | 1,_=>rfl
theorem ins_grow (S:List ByteArray) (s:ByteArray):∃ T,QSet.ins S s=S ++ T:=by
 unfold QSet.ins
 by_cases h:QSet.hasB S s=true
 ·rw [if_pos h]
  exact⟨[],(List.append_nil S).symm⟩
 ·rw [if_neg h]
  exact⟨[s],rfl⟩
theorem fold_grow {α:Type} (f:List ByteArray→α→List ByteArray) (hf:∀ S a,∃ T,f S a=S ++ T):∀(xs:List α) (S:List ByteArray),∃ T,xs.foldl f S=S ++ T
 | [],S=>⟨[],(List.append_nil S).symm⟩
 | x :: r,S=>by
  obtain⟨T,h⟩:=hf S x
  obtain⟨U,h2⟩:=fold_grow f hf r (f S x)
  exact⟨T ++ U,by rw [List.foldl_cons,h2,h,List.append_assoc]⟩
theorem lsO_grow (VR:Int→List ByteArray) (PT:Int→Bool) (TL:List ByteArray→Int→Bool) (S:List ByteArray) (a b:Int):∃ T,lsO VR PT TL S a b=S ++ T:=by
 unfold lsO
 by_cases h:(PT b && TL S a)=true
 ·rw [if_pos h]
  exact fold_grow _ ins_grow _ _
 ·rw [if_neg h]
  exact⟨[],(List.append_nil S).symm⟩
theorem lsP_grow (VR:Int→List ByteArray) (PT:Int→Bool) (TL:List ByteArray→Int→Bool) (S:List ByteArray) (l:S33):∃ T,lsP VR PT TL S l=S ++ T:=by
 unfold lsP
 by_cases h:l.f0=3∧l.f1.toList=([61]:List UInt8)
 ·rw [if_pos h]
  obtain⟨T,h1⟩:=lsO_grow VR PT TL S (rd l.f2 0) (rd l.f2 1)
  obtain⟨U,h2⟩:=lsO_grow VR PT TL (lsO VR PT TL S (rd l.f2 0) (rd l.f2 1)) (rd l.f2 1) (rd l.f2 0)
  exact⟨T ++ U,by show lsO VR PT TL (lsO VR PT TL S (rd l.f2 0) (rd l.f2 1)) (rd l.f2 1) (rd l.f2 0)=_;rw [h2,h1,List.append_assoc]⟩
 ·rw [if_neg h]
  exact⟨[],(List.append_nil S).symm⟩
theorem lsW_same {bd:List (S33)} {VR:Int→List ByteArray} {PT:Int→Bool} {TL:List ByteArray→Int→Bool} {S:List ByteArray} (h:¬((S.length:Int) < ((lsW bd VR PT TL S).length:Int))):lsW bd VR PT TL S=S:=by
 obtain⟨T,hT⟩:=fold_grow _ (lsP_grow VR PT TL) bd S
 have h2:lsW bd VR PT TL S=S ++ T:=hT
 rw [h2,List.length_append]at h
 have:T=[]:=List.length_eq_zero_iff.1 (by omega)
 rw [h2,this,List.append_nil]
theorem lsIt_same {bd:List (S33)} {VR:Int→List ByteArray} {PT:Int→Bool} {TL:List ByteArray→Int→Bool} {S:List ByteArray} {n:Nat} (h:lsW bd VR PT TL (lsIt bd VR PT TL S n)=lsIt bd VR PT TL S n):∀ m,n≤m→lsIt bd VR PT TL S m=lsIt bd VR PT TL S n
 | 0,hm=>by
  obtain rfl:n=0:=by omega
  rfl
 | m + 1,hm=>by
  by_cases e:n=m + 1
  ·rw [e]
  ·show lsW bd VR PT TL (lsIt bd VR PT TL S m)=_
   rw [lsIt_same h m (by omega),h]
theorem cell_grown0 {W W1:World} {p:Addr} {v:Value} (h:W.cell? p=some v) (hg:W.grownBy W1 none):W1.cell? p=some v:=by
 have hlt:=World.block_lt_of_cell? W _ h
 have hb:=hg.block p.block hlt (by simp)
 unfold World.cell? at h ⊢
 rw [hb]
 exact h
def lsPLf (k:Nat) (es:List (S63)) (a:Int) (b:ByteArray) (c:List Int) (bd:List (S33)) (x:Int):List Int:=(impl_Rule_plain.f k es a b c bd x).getD []
def lsVRf (k:Nat) (es:List (S63)) (a:Int) (b:ByteArray) (c:List Int) (bd:List (S33)) (x:Int):List ByteArray:=(impl_Rule_vars.f k es a b c bd x).getD []
def lsPTf (k:Nat) (es:List (S63)) (a:Int) (b:ByteArray) (c:List Int) (bd:List (S33)) (x:Int):Bool:=(z2_.f k es a b c bd x).getD false
def lsArg (k:Nat) (es:List (S63)) (a:Int) (b:ByteArray) (c:List Int) (bd:List (S33)) (x:Int):Bool:=decide (0≤x) && (decide (x < (es.length:Int)) && ((impl_Rule_plain.f k es a b c bd x).isSome && (decide ((lsPLf k es a b c bd x).length≤1048576) && ((lsPLf k es a b c bd x).all (fun y=>decide (0≤y) && decide (y < (es.length:Int))) && ((impl_Rule_vars.f k es a b c bd x).isSome && (decide ((lsVRf k es a b c bd x).length≤1048576) && ((lsVRf k es a b c bd x).all (fun s=>QSet.hasB (es.map (·.f1)) s) && (z2_.f k es a b c bd x).isSome)))))))
def lsOk (k:Nat) (es:List (S63)) (a:Int) (b:ByteArray) (c:List Int) (bd:List (S33)):Bool:=decide (es.length≤60) && (es.all (fun e=>decide (e.f1.size≤1048576)) && (decide (bd.length≤1048576) && bd.all (fun l=>decide (l.f2.length≤1048576) && ((l.f0 != 3 || l.f2.length == 2) && l.f2.all (lsArg k es a b c bd)))))
def lsRes (k:Nat) (es:List (S63)) (a:Int) (b:ByteArray) (c:List Int) (bd:List (S33)) (TL:List ByteArray→Int→Bool):List ByteArray:=lsNm (lsIt bd (lsVRf k es a b c bd) (lsPTf k es a b c bd) TL (bd.foldl (lsL es (lsPLf k es a b c bd)) []) 100) es
theorem lsArg_spec {k:Nat} {es:List (S63)} {a:Int} {b:ByteArray} {c:List Int} {bd:List (S33)} {x:Int} (h:lsArg k es a b c bd x=true) :
  (0≤x∧x < (es.length:Int))∧(impl_Rule_plain.f k es a b c bd x=some (lsPLf k es a b c bd x)∧(lsPLf k es a b c bd x).length≤1048576∧∀ y∈lsPLf k es a b c bd x,0≤y∧y < (es.length:Int)) ∧
  (impl_Rule_vars.f k es a b c bd x=some (lsVRf k es a b c bd x)∧(lsVRf k es a b c bd x).length≤1048576∧∀ s∈lsVRf k es a b c bd x,∃ e∈es,e.f1=s)∧z2_.f k es a b c bd x=some (lsPTf k es a b c bd x):=by
 unfold lsArg at h
 simp only [Bool.and_eq_true,decide_eq_true_eq,List.all_eq_true]at h
 obtain⟨h1,h2,h3,h4,h5,h6,h7,h8,h9⟩:=h
 refine⟨⟨h1,h2⟩,⟨?_,h4,h5⟩,⟨?_,h7,fun s hs=>?_⟩, ?_⟩
 ·obtain⟨v,hv⟩:=Option.isSome_iff_exists.1 h3
  unfold lsPLf
  rw [hv]
  rfl
 ·obtain⟨v,hv⟩:=Option.isSome_iff_exists.1 h6
  unfold lsVRf
  rw [hv]
  rfl
 ·have:=QSet.hasB_iff.1 (h8 s hs)
  obtain⟨e,he,h⟩:=List.mem_map.1 this
  exact⟨e,he,h⟩
 ·obtain⟨v,hv⟩:=Option.isSome_iff_exists.1 h9
  unfold lsPTf
  rw [hv]
  rfl
theorem lsOk_spec {k:Nat} {es:List (S63)} {a:Int} {b:ByteArray} {c:List Int} {bd:List (S33)} (h:lsOk k es a b c bd=true) :
  es.length≤60∧(∀ e∈es,e.f1.size≤1048576)∧bd.length≤1048576∧(∀ l∈bd,l.f2.length≤1048576)∧(∀ l∈bd,l.f0=3→l.f2.length=2)∧∀ l∈bd,∀ x∈l.f2,lsArg k es a b c bd x=true:=by
 unfold lsOk at h
 simp only [Bool.and_eq_true,decide_eq_true_eq,List.all_eq_true,Bool.or_eq_true,bne_iff_ne,beq_iff_eq]at h
 obtain⟨h1,h2,h3,h4⟩:=h
 exact⟨h1,h2,h3,fun l hl=>(h4 l hl).1,fun l hl h5=>((h4 l hl).2.1).resolve_left (fun h6=>h6 h5),fun l hl=>(h4 l hl).2.2⟩
set_option maxHeartbeats 32000000 in
set_option maxRecDepth 100000 in
theorem impl_Rule_least.calls (FN:Nat) (hFN:∀(args:Array Value) (W:World),Sem.run Try.prog (callFunc FN args) W=.ok (.enter FN args) W) (k:Nat) (Bh:Option Addr) (Bb:Nat) (Ap:List (S63)) (Ay:Int) (Az:ByteArray) (Bc:Option Addr) (Bd:Nat) (Ax:List Int) (Bv:Option Addr) (Be:Nat) (Am:List (S33)) (gt:Nat) (PL:Int→List Int) (VR:Int→List ByteArray) (PT:Int→Bool) (TL:List ByteArray→Int→Bool) (w:World) (Cb:Kd.C k63 w Bh Ap.length Ap) (Cc:Ap.length≤Bb) (Cd:Kd.C (Kd.int .i64) w Bc Ax.length Ax) (Ce:Ax.length≤Bd) (Cf:Kd.C k33 w Bv Am.length Am) (Cg:Am.length≤Be)
  (HPL:y0 (∀ l∈Am,∀ x∈l.f2,impl_Rule_plain.f k Ap Ay Az Ax Am x=some (PL x)∧(PL x).length≤1048576∧∀ y∈PL x,0≤y∧y < (Ap.length:Int)))
  (HVR:y0 (∀ l∈Am,∀ x∈l.f2,impl_Rule_vars.f k Ap Ay Az Ax Am x=some (VR x)∧(VR x).length≤1048576∧∀ s∈VR x,∃ e∈Ap,e.f1=s)) (HPT:y0 (∀ l∈Am,∀ x∈l.f2,z2_.f k Ap Ay Az Ax Am x=some (PT x)))
  (H3:y0 (∀ l∈Am,l.f0=3→l.f2.length=2)) (HN:y0 (Ap.length≤60)) (HSZ:y0 (∀ e∈Ap,e.f1.size≤1048576)) (HBL:y0 (Am.length≤1048576)) (HAL:y0 (∀ l∈Am,l.f2.length≤1048576))
  (HTL:y0 (∀(W:World) (g:Nat) (S:List ByteArray) (l:S33) (x y:Int),Below w.heap.size w W→QSet.MS W g S→l∈Am→x∈l.f2→Calls Try.prog FN #[.int .i64 x,.int .i64 y,.map (some g),.pointer (some ⟨gt,0,none⟩)] W fun e w'=>e=.returned (.bool (TL S x))∧Below W.heap.size W w')) :
  Calls Try.prog 59 #[.agg #[.slice Bh Ap.length Bb,.int .i64 Ay,.string Az,.slice Bc Ax.length Bd,.slice Bv Am.length Be],.func (.func FN) #[] #[.pointer (some ⟨gt,0,none⟩)]] w fun e w'=>∃ v:Value,e=.returned v∧Kd.R Kd.string 9 w' w.heap.size (fun _=>True) v (lsNm (lsIt Am VR PT TL (Am.foldl (lsL Ap PL) []) 100) Ap)∧Below w.heap.size w w':=by
 replace Cb:=y0.mk Cb
 replace Cc:=y0.mk Cc
 replace Cd:=y0.mk Cd
 replace Ce:=y0.mk Ce
 replace Cf:=y0.mk Cf
 replace Cg:=y0.mk Cg
 have HB:=y0.mk (Below.refl w.heap.size w)
 have Dh:=Try.underlying36
 have Di:=Try.underlying63
 have Dj:=Try.underlying33
 go_enter Try.func59,Try.ntmps59
 have HG:=y0.mk (lsG_nil Ap)
 go_wp2_with (first
  | ((with_reducible refine y16 (N:=2) rfl ?_);refine qe 2 #[.slice Bh Ap.length Bb,.int .i64 Ay,.string Az,.slice Bc Ax.length Bd,.slice Bv Am.length Be] 36 ?_;intro gr hg w1 hbox hb;have BKr:=y0.mk (hbox);have GEr:=y0.mk ((by rw [hg];exact HB.out.size:w.heap.size≤gr));replace HB:=y0.mk (y4 HB.out hb);clear hb hg hbox;obtain⟨Aa,Ab,Ac,Ad,Af,Ag,Ah,Ai,Aj,Ak⟩:=QSet.bx5 BKr.out)
  | ((with_reducible refine y16 (N:=20) rfl ?_);refine QSet.make_event rfl rfl ?_;intro gm hg w2 hM_ hb;(repeat first|clear Aa|clear Ag|clear Ab|clear Ah|clear Ac|clear Ai|clear Ad|clear Aj|clear Af|clear Ak);have HM:=y0.mk (hM_);have GEm:=y0.mk ((by rw [hg];exact HB.out.size:w.heap.size≤gm));have Nr_m:=y0.mk ((by rw [hg];exact Nat.ne_of_lt (blk_lt BKr.out):gr≠gm));replace BKr:=y0.mk (y6 BKr.out hb);replace HB:=y0.mk (y4 HB.out hb);clear hb hg hM_;obtain⟨Aa,Ab,Ac,Ad,Af,Ag,Ah,Ai,Aj,Ak⟩:=QSet.bx5 BKr.out))
 go_loopg [24] Am.length (fun kq Cu w'=>∃(xA:Int) (nA:Nat),Cu=.int .i64 xA∧y0 (xA=(nA:Int))∧y0 (kq + nA=Am.length)∧y0 (lsG Ap ((Am.take nA).foldl (lsL Ap PL) []))∧y0 (w'.heap[gr]?=some (.cells #[.slice Bh Ap.length Bb,.int .i64 Ay,.string Az,.slice Bc Ax.length Bd,.slice Bv Am.length Be] 36 (0,0)))∧y0 (QSet.MS w' gm ((Am.take nA).foldl (lsL Ap PL) []))∧y0 (Below w.heap.size w w'))
 case atStart=>exact⟨0,0,rfl,⟨rfl⟩,⟨Nat.add_zero _⟩,⟨HG.out⟩,⟨BKr.out⟩,⟨HM.out⟩,⟨HB.out⟩⟩
 case round =>
  (repeat first|clear Aa|clear Ag|clear Ab|clear Ah|clear Ac|clear Ai|clear Ad|clear Aj|clear Af|clear Ak)
  clear BKr HM HB
  clear HG
  obtain⟨xA,nA,rfl,HXA,HKA,HG,BKr,HM,HB⟩:=hrel
  obtain⟨SA,HSA⟩:∃ S_,y0 ((Am.take nA).foldl (lsL Ap PL) []=S_):=⟨_,⟨rfl⟩⟩
  rw [HSA.out]at HM HG
  have HLENA:=HBL
  by_cases c:xA < (Am.length:Int)
  ·skip
   have Bo:decide (xA < (Am.length:Int))=true:=decide_eq_true c
   have hi:nA < Am.length:=by have:=HXA.out;omega
   have p1:0≤xA:=by have:=HXA.out;omega
   obtain⟨adl,Al,cl,e1,Ba,Bf,Bw,Bz,Ca⟩:=at_T33 Cf.out xA p1 c
   have rg:y18 Am xA=Am[nA]:=by rw [HXA.out];unfold y18;rw [show((nA:Int)).toNat=nA from rfl,List.getD_eq_getElem?_getD,List.getElem?_eq_getElem hi];rfl
   rw [rg]at Ba Bf Bw Bz Ca
   clear rg
   have HST:=y0.mk (foldl_at (lsL Ap PL) ([]) Am nA hi)
   have HME:=y0.mk (List.getElem_mem hi)
   generalize Am[nA]=l at Ba Bf Bw Bz Ca HST HME
   have HIA:=y0.mk hi
   clear hi
   have HRl:=y0.mk Ca
   have HCl:=y0.mk Bz
   clear Ca Bz
   have HSTl:=HST
   clear HST
   have HMEl:=HME
   clear HME
   cases e1
   replace Ba:=qC Ba HB
   replace Bf:=qC Bf HB
   replace Bw:=qC Bw HB
   have q1:=eq_true c
   replace p1:=eq_true p1
   clear c
   obtain⟨Aa,Ab,Ac,Ad,Af,Ag,Ah,Ai,Aj,Ak⟩:=QSet.bx5 BKr.out
   go_upto_region 5 with(first
    | ((with_reducible refine y16 (N:=7) rfl ?_);refine qe 7 #[.int .i64 0,.string (⟨#[]⟩:ByteArray),.slice none 0 0] 33 ?_;intro gl hg w3 hbox hb;(repeat first|clear Aa|clear Ag|clear Ab|clear Ah|clear Ac|clear Ai|clear Ad|clear Aj|clear Af|clear Ak);have BKl:=y0.mk (hbox);have GEl:=y0.mk ((by rw [hg];exact HB.out.size:w.heap.size≤gl));have Nr_l:=y0.mk ((by rw [hg];exact Nat.ne_of_lt (blk_lt BKr.out):gr≠gl));have Nm_l:=y0.mk ((by rw [hg];exact Nat.ne_of_lt HM.out.lt:gm≠gl));replace BKr:=y0.mk (y6 BKr.out hb);replace HM:=y0.mk (QSet.MS.below HM.out hb);replace HB:=y0.mk (y4 HB.out hb);clear hb hg hbox;obtain⟨Aa,Ab,Ac,Ad,Af,Ag,Ah,Ai,Aj,Ak⟩:=QSet.bx5 BKr.out;obtain⟨Ar,As,At,Au,Av,Aw⟩:=QSet.bx3 BKl.out))
   (repeat first|clear Aa|clear Ag|clear Ab|clear Ah|clear Ac|clear Ai|clear Ad|clear Aj|clear Af|clear Ak|clear Ar|clear Au|clear As|clear Av|clear At|clear Aw)
   have nBKr_:=y0.mk ((y10 (y10 (y10 BKr.out (Nr_l.out) _) (Nr_l.out) _) (Nr_l.out) _):(((w3.setCell ⟨gl,0,none⟩ (.int .i64 l.f0)).setCell ⟨gl,1,none⟩ (.string l.f1)).setCell ⟨gl,2,none⟩ (.slice Al l.f2.length cl)).heap[gr]?=some (.cells #[.slice Bh Ap.length Bb,.int .i64 Ay,.string Az,.slice Bc Ax.length Bd,.slice (some adl) Am.length Be] 36 (0,0)))
   have nBKl_:=y0.mk ((blk_set (blk_set (blk_set BKl.out 0 (.int .i64 l.f0)) 1 (.string l.f1)) 2 (.slice Al l.f2.length cl)):(((w3.setCell ⟨gl,0,none⟩ (.int .i64 l.f0)).setCell ⟨gl,1,none⟩ (.string l.f1)).setCell ⟨gl,2,none⟩ (.slice Al l.f2.length cl)).heap[gl]?=some (.cells #[.int .i64 l.f0,.string l.f1,.slice Al l.f2.length cl] 33 (0,0)))
   have nHM_:=y0.mk ((QSet.MS.set (QSet.MS.set (QSet.MS.set HM.out Nm_l.out 0 _) Nm_l.out 1 _) Nm_l.out 2 _):QSet.MS (((w3.setCell ⟨gl,0,none⟩ (.int .i64 l.f0)).setCell ⟨gl,1,none⟩ (.string l.f1)).setCell ⟨gl,2,none⟩ (.slice Al l.f2.length cl)) gm (SA))
   have nHB_:=y0.mk ((below_set (below_set (below_set HB.out GEl.out) GEl.out) GEl.out):Below w.heap.size w (((w3.setCell ⟨gl,0,none⟩ (.int .i64 l.f0)).setCell ⟨gl,1,none⟩ (.string l.f1)).setCell ⟨gl,2,none⟩ (.slice Al l.f2.length cl)))
   clear BKr
   clear BKl
   clear HM
   clear HB
   generalize (((w3.setCell ⟨gl,0,none⟩ (.int .i64 l.f0)).setCell ⟨gl,1,none⟩ (.string l.f1)).setCell ⟨gl,2,none⟩ (.slice Al l.f2.length cl))=w4 at nBKr_ nBKl_ nHM_ nHB_ ⊢
   have BKr:=nBKr_
   clear nBKr_
   have BKl:=nBKl_
   clear nBKl_
   have HM:=nHM_
   clear nHM_
   have HB:=nHB_
   clear nHB_
   obtain⟨Aa,Ab,Ac,Ad,Af,Ag,Ah,Ai,Aj,Ak⟩:=QSet.bx5 BKr.out
   obtain⟨Ar,As,At,Au,Av,Aw⟩:=QSet.bx3 BKl.out
   clear Ba Bf Bw Bo p1 q1
   go_wp2
   go_loopg [31] l.f2.length (fun kq Cv w'=>∃(xB:Int) (nB:Nat),Cv=.int .i64 xB∧y0 (xB=(nB:Int))∧y0 (kq + nB=l.f2.length)∧y0 (lsG Ap ((l.f2.take nB).foldl (lsA Ap PL l) SA))∧y0 (w'.heap[gr]?=some (.cells #[.slice Bh Ap.length Bb,.int .i64 Ay,.string Az,.slice Bc Ax.length Bd,.slice (some adl) Am.length Be] 36 (0,0)))∧y0 (w'.heap[gl]?=some (.cells #[.int .i64 l.f0,.string l.f1,.slice Al l.f2.length cl] 33 (0,0)))∧y0 (QSet.MS w' gm ((l.f2.take nB).foldl (lsA Ap PL l) SA))∧y0 (Below w.heap.size w w'))
   case atStart=>exact⟨0,0,rfl,⟨rfl⟩,⟨Nat.add_zero _⟩,⟨HG.out⟩,⟨BKr.out⟩,⟨BKl.out⟩,⟨HM.out⟩,⟨HB.out⟩⟩
   case round =>
    (repeat first|clear Aa|clear Ag|clear Ab|clear Ah|clear Ac|clear Ai|clear Ad|clear Aj|clear Af|clear Ak|clear Ar|clear Au|clear As|clear Av|clear At|clear Aw)
    clear BKr BKl HM HB
    clear HG
    obtain⟨xB,nB,rfl,HXB,HKB,HG,BKr,BKl,HM,HB⟩:=hrel
    obtain⟨SB,HSB⟩:∃ S_,y0 ((l.f2.take nB).foldl (lsA Ap PL l) SA=S_):=⟨_,⟨rfl⟩⟩
    rw [HSB.out]at HM HG
    have HLENB:=y0.mk (HAL.out l HMEl.out)
    by_cases c:xB < (l.f2.length:Int)
    ·skip
     have Bo:decide (xB < (l.f2.length:Int))=true:=decide_eq_true c
     have hi:nB < (l.f2).length:=by have:=HXB.out;omega
     have p1:0≤xB:=by have:=HXB.out;omega
     obtain⟨adx,e1,Ba⟩:=Kd.at_int HRl.out xB p1 c
     have rg:rd (l.f2) xB=(l.f2)[nB]:=by rw [HXB.out];unfold rd;rw [show((nB:Int)).toNat=nB from rfl,List.getD_eq_getElem?_getD,List.getElem?_eq_getElem hi];rfl
     rw [rg]at Ba
     clear rg
     have HSTx:=y0.mk (foldl_at (lsA Ap PL l) (SA) (l.f2) nB hi)
     have HMEx:=y0.mk (List.getElem_mem hi)
     generalize (l.f2)[nB]=x at Ba HSTx HMEx
     have HIB:=y0.mk hi
     clear hi
     cases e1
     have q1:=eq_true c
     replace p1:=eq_true p1
     clear c
     replace Ba:=qC Ba HB
     have HP:=y0.mk (HPL.out l HMEl.out x HMEx.out)
     obtain⟨Aa,Ab,Ac,Ad,Af,Ag,Ah,Ai,Aj,Ak⟩:=QSet.bx5 BKr.out
     obtain⟨Ar,As,At,Au,Av,Aw⟩:=QSet.bx3 BKl.out
     go_wp2_with (first
      | (go_at_call 73;(with_reducible refine(impl_Rule_plain.calls k _ _ Ap Ay Az _ _ Ax _ _ Am x (PL x) _ (Kd.C_below Cb.out HB.out) Cc.out (Kd.C_below Cd.out HB.out) Ce.out (Kd.C_below Cf.out HB.out) Cg.out HP.out.1).mono ?_);rintro e_ w5 ⟨v_,rfl,ho,hb⟩;obtain⟨AK,cK,eK_⟩:=Kd.R_slice ho;subst eK_;(repeat first|clear Aa|clear Ag|clear Ab|clear Ah|clear Ac|clear Ai|clear Ad|clear Aj|clear Af|clear Ak|clear Ar|clear Au|clear As|clear Av|clear At|clear Aw);have HOK:=y0.mk (Kd.R_lower ho (y3 HB.out));replace BKr:=y0.mk (y6 BKr.out hb);replace BKl:=y0.mk (y6 BKl.out hb);replace HM:=y0.mk (QSet.MS.below HM.out hb);replace HB:=y0.mk (y4 HB.out hb);(try clear hb);(try clear hd_);(try clear ho);obtain⟨Aa,Ab,Ac,Ad,Af,Ag,Ah,Ai,Aj,Ak⟩:=QSet.bx5 BKr.out;obtain⟨Ar,As,At,Au,Av,Aw⟩:=QSet.bx3 BKl.out))
     clear Ba Bo p1 q1
     go_loopg [39] (PL x).length (fun kq Cw w'=>∃(xC:Int) (nC:Nat),Cw=.int .i64 xC∧y0 (xC=(nC:Int))∧y0 (kq + nC=(PL x).length)∧y0 (lsG Ap (((PL x).take nC).foldl (lsK Ap l) SB))∧y0 (Kd.R (Kd.int .i64) 3 w' w.heap.size (fun _=>True) (.slice AK (PL x).length cK) (PL x))∧y0 (w'.heap[gr]?=some (.cells #[.slice Bh Ap.length Bb,.int .i64 Ay,.string Az,.slice Bc Ax.length Bd,.slice (some adl) Am.length Be] 36 (0,0)))∧y0 (w'.heap[gl]?=some (.cells #[.int .i64 l.f0,.string l.f1,.slice (some adx) l.f2.length cl] 33 (0,0)))∧y0 (QSet.MS w' gm (((PL x).take nC).foldl (lsK Ap l) SB))∧y0 (Below w.heap.size w w'))
     case atStart=>exact⟨0,0,rfl,⟨rfl⟩,⟨Nat.add_zero _⟩,⟨HG.out⟩,⟨qR HOK.out⟩,⟨BKr.out⟩,⟨BKl.out⟩,⟨HM.out⟩,⟨HB.out⟩⟩
     case round =>
      (repeat first|clear Aa|clear Ag|clear Ab|clear Ah|clear Ac|clear Ai|clear Ad|clear Aj|clear Af|clear Ak|clear Ar|clear Au|clear As|clear Av|clear At|clear Aw)
      clear HOK BKr BKl HM HB
      clear HG
      obtain⟨xC,nC,rfl,HXC,HKC,HG,HOK,BKr,BKl,HM,HB⟩:=hrel
      obtain⟨SC,HSC⟩:∃ S_,y0 (((PL x).take nC).foldl (lsK Ap l) SB=S_):=⟨_,⟨rfl⟩⟩
      rw [HSC.out]at HM HG
      have HLENC:=y0.mk HP.out.2.1
      by_cases c:xC < ((PL x).length:Int)
      ·skip
       have Bo:decide (xC < ((PL x).length:Int))=true:=decide_eq_true c
       have hi:nC < (PL x).length:=by have:=HXC.out;omega
       have p1:0≤xC:=by have:=HXC.out;omega
       obtain⟨ady,e1,Ba⟩:=Kd.at_int (Kd.R_reads' HOK.out).2.2 xC p1 c
       have rg:rd (PL x) xC=(PL x)[nC]:=by rw [HXC.out];unfold rd;rw [show((nC:Int)).toNat=nC from rfl,List.getD_eq_getElem?_getD,List.getElem?_eq_getElem hi];rfl
       rw [rg]at Ba
       clear rg
       have HSTy:=y0.mk (foldl_at (lsK Ap l) (SB) (PL x) nC hi)
       have HMEy:=y0.mk (List.getElem_mem hi)
       generalize (PL x)[nC]=y at Ba HSTy HMEy
       have HIC:=y0.mk hi
       clear hi
       cases e1
       have q1:=eq_true c
       replace p1:=eq_true p1
       clear c
       have py:=(HP.out.2.2 y HMEy.out).1
       have qy:=(HP.out.2.2 y HMEy.out).2
       obtain⟨ade,Ae,ce,e2,Ci,Cj,Ck,Cx,Cy⟩:=at_T63 Cb.out y py qy
       clear Cx Cy
       have hme:y19 Ap y∈Ap:=by
        have hlt:y.toNat < Ap.length:=by omega
        have:y19 Ap y=Ap[y.toNat]:=by unfold y19;rw [List.getD_eq_getElem?_getD,List.getElem?_eq_getElem hlt];rfl
        rw [this]
        exact List.getElem_mem hlt
       have HLK:y0 (lsK Ap l SC y=if l.f0=1∧(y19 Ap y).f0=1 then QSet.ins SC (y19 Ap y).f1 else SC):=⟨rfl⟩
       have HME:=y0.mk hme
       clear hme
       generalize y19 Ap y=e0 at Ci Cj Ck HLK HME
       cases e2
       replace Ci:=qC Ci HB
       replace Cj:=qC Cj HB
       replace Ck:=qC Ck HB
       replace py:=eq_true py
       replace qy:=eq_true qy
       obtain⟨Aa,Ab,Ac,Ad,Af,Ag,Ah,Ai,Aj,Ak⟩:=QSet.bx5 BKr.out
       obtain⟨Ar,As,At,Au,Av,Aw⟩:=QSet.bx3 BKl.out
       go_upto_region 12 with(first
        | ((with_reducible refine y16 (N:=12) rfl ?_);refine qe 12 #[.int .i64 0,.string (⟨#[]⟩:ByteArray),.slice none 0 0] 63 ?_;intro ge hg w6 hbox hb;(repeat first|clear Aa|clear Ag|clear Ab|clear Ah|clear Ac|clear Ai|clear Ad|clear Aj|clear Af|clear Ak|clear Ar|clear Au|clear As|clear Av|clear At|clear Aw);have BKe:=y0.mk (hbox);have GEe:=y0.mk ((by rw [hg];exact HB.out.size:w.heap.size≤ge));have Nr_e:=y0.mk ((by rw [hg];exact Nat.ne_of_lt (blk_lt BKr.out):gr≠ge));have Nl_e:=y0.mk ((by rw [hg];exact Nat.ne_of_lt (blk_lt BKl.out):gl≠ge));have Nm_e:=y0.mk ((by rw [hg];exact Nat.ne_of_lt HM.out.lt:gm≠ge));replace HOK:=y0.mk (Kd.R_below HOK.out hb);replace BKr:=y0.mk (y6 BKr.out hb);replace BKl:=y0.mk (y6 BKl.out hb);replace HM:=y0.mk (QSet.MS.below HM.out hb);replace HB:=y0.mk (y4 HB.out hb);clear hb hg hbox;obtain⟨Aa,Ab,Ac,Ad,Af,Ag,Ah,Ai,Aj,Ak⟩:=QSet.bx5 BKr.out;obtain⟨Ar,As,At,Au,Av,Aw⟩:=QSet.bx3 BKl.out;obtain⟨Bp,Bq,Br,Bs,Bt,Bu⟩:=QSet.bx3 BKe.out))
       (repeat first|clear Aa|clear Ag|clear Ab|clear Ah|clear Ac|clear Ai|clear Ad|clear Aj|clear Af|clear Ak|clear Ar|clear Au|clear As|clear Av|clear At|clear Aw|clear Bp|clear Bs|clear Bq|clear Bt|clear Br|clear Bu)
       have nHOK_:=y0.mk ((Kd.R_set (Kd.R_set (Kd.R_set HOK.out BKe.out (by decide) 0 _) (blk_set BKe.out 0 (.int .i64 e0.f0)) (by decide) 1 _) (blk_set (blk_set BKe.out 0 (.int .i64 e0.f0)) 1 (.string e0.f1)) (by decide) 2 _):Kd.R (Kd.int .i64) 3 (((w6.setCell ⟨ge,0,none⟩ (.int .i64 e0.f0)).setCell ⟨ge,1,none⟩ (.string e0.f1)).setCell ⟨ge,2,none⟩ (.slice Ae e0.f2.length ce)) w.heap.size (fun _=>True) (.slice (some ady) (PL x).length cK) (PL x))
       have nBKr_:=y0.mk ((y10 (y10 (y10 BKr.out (Nr_e.out) _) (Nr_e.out) _) (Nr_e.out) _):(((w6.setCell ⟨ge,0,none⟩ (.int .i64 e0.f0)).setCell ⟨ge,1,none⟩ (.string e0.f1)).setCell ⟨ge,2,none⟩ (.slice Ae e0.f2.length ce)).heap[gr]?=some (.cells #[.slice (some ade) Ap.length Bb,.int .i64 Ay,.string Az,.slice Bc Ax.length Bd,.slice (some adl) Am.length Be] 36 (0,0)))
       have nBKl_:=y0.mk ((y10 (y10 (y10 BKl.out (Nl_e.out) _) (Nl_e.out) _) (Nl_e.out) _):(((w6.setCell ⟨ge,0,none⟩ (.int .i64 e0.f0)).setCell ⟨ge,1,none⟩ (.string e0.f1)).setCell ⟨ge,2,none⟩ (.slice Ae e0.f2.length ce)).heap[gl]?=some (.cells #[.int .i64 l.f0,.string l.f1,.slice (some adx) l.f2.length cl] 33 (0,0)))
       have nBKe_:=y0.mk ((blk_set (blk_set (blk_set BKe.out 0 (.int .i64 e0.f0)) 1 (.string e0.f1)) 2 (.slice Ae e0.f2.length ce)):(((w6.setCell ⟨ge,0,none⟩ (.int .i64 e0.f0)).setCell ⟨ge,1,none⟩ (.string e0.f1)).setCell ⟨ge,2,none⟩ (.slice Ae e0.f2.length ce)).heap[ge]?=some (.cells #[.int .i64 e0.f0,.string e0.f1,.slice Ae e0.f2.length ce] 63 (0,0)))
       have nHM_:=y0.mk ((QSet.MS.set (QSet.MS.set (QSet.MS.set HM.out Nm_e.out 0 _) Nm_e.out 1 _) Nm_e.out 2 _):QSet.MS (((w6.setCell ⟨ge,0,none⟩ (.int .i64 e0.f0)).setCell ⟨ge,1,none⟩ (.string e0.f1)).setCell ⟨ge,2,none⟩ (.slice Ae e0.f2.length ce)) gm (SC))
       have nHB_:=y0.mk ((below_set (below_set (below_set HB.out GEe.out) GEe.out) GEe.out):Below w.heap.size w (((w6.setCell ⟨ge,0,none⟩ (.int .i64 e0.f0)).setCell ⟨ge,1,none⟩ (.string e0.f1)).setCell ⟨ge,2,none⟩ (.slice Ae e0.f2.length ce)))
       clear HOK
       clear BKr
       clear BKl
       clear BKe
       clear HM
       clear HB
       generalize (((w6.setCell ⟨ge,0,none⟩ (.int .i64 e0.f0)).setCell ⟨ge,1,none⟩ (.string e0.f1)).setCell ⟨ge,2,none⟩ (.slice Ae e0.f2.length ce))=w7 at nHOK_ nBKr_ nBKl_ nBKe_ nHM_ nHB_ ⊢
       have HOK:=nHOK_
       clear nHOK_
       have BKr:=nBKr_
       clear nBKr_
       have BKl:=nBKl_
       clear nBKl_
       have BKe:=nBKe_
       clear nBKe_
       have HM:=nHM_
       clear nHM_
       have HB:=nHB_
       clear nHB_
       obtain⟨Aa,Ab,Ac,Ad,Af,Ag,Ah,Ai,Aj,Ak⟩:=QSet.bx5 BKr.out
       obtain⟨Ar,As,At,Au,Av,Aw⟩:=QSet.bx3 BKl.out
       obtain⟨Bp,Bq,Br,Bs,Bt,Bu⟩:=QSet.bx3 BKe.out
       clear Ci Cj Ck Ba
       by_cases k1:l.f0=1
       ·skip
        have k1b:(l.f0 == 1)=true:=beq_iff_eq.mpr k1
        by_cases k2:e0.f0=1
        ·skip
         have k2b:(e0.f0 == 1)=true:=beq_iff_eq.mpr k2
         have HKK:=y0.mk (And.intro k1 k2)
         clear k1 k2
         have HGN:=y0.mk (lsG_ins HG.out ⟨e0,HME.out,rfl⟩)
         have HRM:=y0.mk (lsG_len HG.out)
         go_wp2_with (first
          | ((with_reducible refine QSet.gate_put (m:=.tmp 56) (x:=.tmp 58) rfl ?_);(refine QSet.put_event rfl (.tmp 56) (.tmp 58) _ rfl rfl (s:=e0.f1) rfl rfl HM.out (by have:=HRM.out;have:=HN.out;unfold maxLen;omega) (by have:=HSZ.out e0 HME.out;unfold maxLen;omega) ?_);intro w8 hM_ hg_;(repeat first|clear Aa|clear Ag|clear Ab|clear Ah|clear Ac|clear Ai|clear Ad|clear Aj|clear Af|clear Ak|clear Ar|clear Au|clear As|clear Av|clear At|clear Aw|clear Bp|clear Bs|clear Bq|clear Bt|clear Br|clear Bu);have nHOK_:=y0.mk (QSet.MS.row HM.out HOK.out hg_);have nBKr_:=y0.mk (QSet.MS.blk BKr.out (Nr_m.out) hg_);have nBKl_:=y0.mk (QSet.MS.blk BKl.out (Ne.symm Nm_l.out) hg_);have nBKe_:=y0.mk (QSet.MS.blk BKe.out (Ne.symm Nm_e.out) hg_);have nHB_:=y0.mk (QSet.MS.low HB.out hg_ GEm.out);have nHMn_:=y0.mk (hM_);clear HOK BKr BKl BKe HB HM hM_ hg_;have HOK:=nHOK_;clear nHOK_;have BKr:=nBKr_;clear nBKr_;have BKl:=nBKl_;clear nBKl_;have BKe:=nBKe_;clear nBKe_;have HB:=nHB_;clear nHB_;have HM:=nHMn_;clear nHMn_;obtain⟨Aa,Ab,Ac,Ad,Af,Ag,Ah,Ai,Aj,Ak⟩:=QSet.bx5 BKr.out;obtain⟨Ar,As,At,Au,Av,Aw⟩:=QSet.bx3 BKl.out;obtain⟨Bp,Bq,Br,Bs,Bt,Bu⟩:=QSet.bx3 BKe.out))
         clear HG
         have HG:=HGN
         clear HGN
         go_roundg ((PL x).length - nC - 1)
         case measure=>have:=HKC.out;have:=HIC.out;omega
         exact⟨wrap64 (xC + 1),nC + 1,qy2,⟨by rw [HXC.out];exact QIv.step_u (by have:=HIC.out;have:=HLENC.out;omega)⟩,⟨by have:=HKC.out;have:=HIC.out;omega⟩,⟨by rw [HSTy.out,HSC.out,HLK.out,if_pos HKK.out];exact HG.out⟩,⟨qR HOK.out⟩,⟨BKr.out⟩,⟨BKl.out⟩,⟨by rw [HSTy.out,HSC.out,HLK.out,if_pos HKK.out];exact HM.out⟩,⟨HB.out⟩⟩
        ·skip
         have k2b:(e0.f0 == 1)=false:=beq_eq_false_iff_ne.mpr k2
         have HKK:=y0.mk k2
         clear k2 k1
         go_wp2
         go_roundg ((PL x).length - nC - 1)
         case measure=>have:=HKC.out;have:=HIC.out;omega
         exact⟨wrap64 (xC + 1),nC + 1,qy2,⟨by rw [HXC.out];exact QIv.step_u (by have:=HIC.out;have:=HLENC.out;omega)⟩,⟨by have:=HKC.out;have:=HIC.out;omega⟩,⟨by rw [HSTy.out,HSC.out,HLK.out,if_neg (fun h_=>HKK.out h_.2)];exact HG.out⟩,⟨qR HOK.out⟩,⟨BKr.out⟩,⟨BKl.out⟩,⟨by rw [HSTy.out,HSC.out,HLK.out,if_neg (fun h_=>HKK.out h_.2)];exact HM.out⟩,⟨HB.out⟩⟩
       ·skip
        have k1b:(l.f0 == 1)=false:=beq_eq_false_iff_ne.mpr k1
        have HKK:=y0.mk k1
        clear k1
        go_wp2
        go_roundg ((PL x).length - nC - 1)
        case measure=>have:=HKC.out;have:=HIC.out;omega
        exact⟨wrap64 (xC + 1),nC + 1,qy2,⟨by rw [HXC.out];exact QIv.step_u (by have:=HIC.out;have:=HLENC.out;omega)⟩,⟨by have:=HKC.out;have:=HIC.out;omega⟩,⟨by rw [HSTy.out,HSC.out,HLK.out,if_neg (fun h_=>HKK.out h_.1)];exact HG.out⟩,⟨qR HOK.out⟩,⟨BKr.out⟩,⟨BKl.out⟩,⟨by rw [HSTy.out,HSC.out,HLK.out,if_neg (fun h_=>HKK.out h_.1)];exact HM.out⟩,⟨HB.out⟩⟩
      ·skip
       have Bo:decide (xC < ((PL x).length:Int))=false:=decide_eq_false c
       have HE:y0 (lsA Ap PL l SB x=SC):=⟨by rw [← HSC.out,List.take_of_length_le (by have:=HXC.out;have:=HKC.out;omega)];rfl⟩
       go_wp2
       go_roundg (l.f2.length - nB - 1)
       case measure=>have:=HKB.out;have:=HIB.out;omega
       exact⟨wrap64 (xB + 1),nB + 1,qy2,⟨by rw [HXB.out];exact QIv.step_u (by have:=HIB.out;have:=HLENB.out;omega)⟩,⟨by have:=HKB.out;have:=HIB.out;omega⟩,⟨by rw [HSTx.out,HSB.out,HE.out];exact HG.out⟩,⟨BKr.out⟩,⟨BKl.out⟩,⟨by rw [HSTx.out,HSB.out,HE.out];exact HM.out⟩,⟨HB.out⟩⟩
    ·skip
     have Bo:decide (xB < (l.f2.length:Int))=false:=decide_eq_false c
     have HE:y0 (lsL Ap PL SA l=SB):=⟨by rw [← HSB.out,List.take_of_length_le (by have:=HXB.out;have:=HKB.out;omega)];rfl⟩
     go_wp2
     go_roundg (Am.length - nA - 1)
     case measure=>have:=HKA.out;have:=HIA.out;omega
     exact⟨wrap64 (xA + 1),nA + 1,qy2,⟨by rw [HXA.out];exact QIv.step_u (by have:=HIA.out;have:=HLENA.out;omega)⟩,⟨by have:=HKA.out;have:=HIA.out;omega⟩,⟨by rw [HSTl.out,HSA.out,HE.out];exact HG.out⟩,⟨BKr.out⟩,⟨by rw [HSTl.out,HSA.out,HE.out];exact HM.out⟩,⟨HB.out⟩⟩
  ·skip
   have Bo:decide (xA < (Am.length:Int))=false:=decide_eq_false c
   have HE:y0 (Am.foldl (lsL Ap PL) []=SA):=⟨by rw [← HSA.out,List.take_of_length_le (by have:=HXA.out;have:=HKA.out;omega)]⟩
   have Cz:=HE
   clear HSA HE HXA HKA
   obtain⟨Aa,Ab,Ac,Ad,Af,Ag,Ah,Ai,Aj,Ak⟩:=QSet.bx5 BKr.out
   go_wp2
   (repeat first|clear Aa|clear Ag|clear Ab|clear Ah|clear Ac|clear Ai|clear Ad|clear Aj|clear Af|clear Ak)
   go_loopg [13] 62 (fun kq Da w'=>∃(xZ:Int) (nZ:Nat),Da=.int .i64 xZ∧y0 (xZ=if nZ=0 then -1 else((lsIt Am VR PT TL SA (nZ - 1)).length:Int))∧y0 ((nZ:Int)≤xZ + 1)∧y0 (kq + nZ=62)∧y0 (lsG Ap (lsIt Am VR PT TL SA nZ))∧y0 (w'.heap[gr]?=some (.cells #[.slice Bh Ap.length Bb,.int .i64 Ay,.string Az,.slice Bc Ax.length Bd,.slice Bv Am.length Be] 36 (0,0)))∧y0 (QSet.MS w' gm (lsIt Am VR PT TL SA nZ))∧y0 (Below w.heap.size w w'))
   case atStart=>exact⟨-1,0,rfl,⟨rfl⟩,⟨by omega⟩,⟨rfl⟩,⟨HG.out⟩,⟨BKr.out⟩,⟨HM.out⟩,⟨HB.out⟩⟩
   case round =>
    clear BKr HM HB HG
    obtain⟨xZ,nZ,rfl,HXZ,HNZ,HKZ,HG,BKr,HM,HB⟩:=hrel
    obtain⟨SZ,HSZ_⟩:∃ S_,y0 (lsIt Am VR PT TL SA nZ=S_):=⟨_,⟨rfl⟩⟩
    rw [HSZ_.out]at HM HG
    by_cases c:xZ < (SZ.length:Int)
    ·skip
     have Bo:decide (xZ < (SZ.length:Int))=true:=decide_eq_true c
     have HCZ:=y0.mk c
     clear c
     have HRM:=y0.mk (lsG_len HG.out)
     obtain⟨Aa,Ab,Ac,Ad,Af,Ag,Ah,Ai,Aj,Ak⟩:=QSet.bx5 BKr.out
     go_wp2_with (first
      | ((with_reducible refine gate_builtin (b:=.len) (xs:=#[.tmp 63]) rfl ?_);refine QSet.len_event rfl (.tmp 63) rfl rfl HM.out ?_)
      | ((with_reducible refine gate_builtin (b:=.len) (xs:=#[.tmp 66]) rfl ?_);refine QSet.len_event rfl (.tmp 66) rfl rfl HM.out ?_))
     clear Bo
     go_loopg [71] Am.length (fun kq Db w'=>∃(xD:Int) (nD:Nat),Db=.int .i64 xD∧y0 (xD=(nD:Int))∧y0 (kq + nD=Am.length)∧y0 (lsG Ap ((Am.take nD).foldl (lsP VR PT TL) SZ))∧y0 (w'.heap[gr]?=some (.cells #[.slice Bh Ap.length Bb,.int .i64 Ay,.string Az,.slice Bc Ax.length Bd,.slice Bv Am.length Be] 36 (0,0)))∧y0 (QSet.MS w' gm ((Am.take nD).foldl (lsP VR PT TL) SZ))∧y0 (Below w.heap.size w w'))
     case atStart=>exact⟨0,0,rfl,⟨rfl⟩,⟨Nat.add_zero _⟩,⟨HG.out⟩,⟨BKr.out⟩,⟨HM.out⟩,⟨HB.out⟩⟩
     case round =>
      (repeat first|clear Aa|clear Ag|clear Ab|clear Ah|clear Ac|clear Ai|clear Ad|clear Aj|clear Af|clear Ak)
      clear BKr HM HB
      clear HG
      obtain⟨xD,nD,rfl,HXD,HKD,HG,BKr,HM,HB⟩:=hrel
      obtain⟨SD,HSD⟩:∃ S_,y0 ((Am.take nD).foldl (lsP VR PT TL) SZ=S_):=⟨_,⟨rfl⟩⟩
      rw [HSD.out]at HM HG
      have HLEND:=HBL
      by_cases c:xD < (Am.length:Int)
      ·skip
       have Bo:decide (xD < (Am.length:Int))=true:=decide_eq_true c
       have hi:nD < Am.length:=by have:=HXD.out;omega
       have p1:0≤xD:=by have:=HXD.out;omega
       obtain⟨adl,Al,cl,e1,Ba,Bf,Bw,Bz,Ca⟩:=at_T33 Cf.out xD p1 c
       have rg:y18 Am xD=Am[nD]:=by rw [HXD.out];unfold y18;rw [show((nD:Int)).toNat=nD from rfl,List.getD_eq_getElem?_getD,List.getElem?_eq_getElem hi];rfl
       rw [rg]at Ba Bf Bw Bz Ca
       clear rg
       have HST:=y0.mk (foldl_at (lsP VR PT TL) (SZ) Am nD hi)
       have HME:=y0.mk (List.getElem_mem hi)
       generalize Am[nD]=l at Ba Bf Bw Bz Ca HST HME
       have HID:=y0.mk hi
       clear hi
       have HRl:=y0.mk Ca
       have HCl:=y0.mk Bz
       clear Ca Bz
       have HSTl:=HST
       clear HST
       have HMEl:=HME
       clear HME
       cases e1
       replace Ba:=qC Ba HB
       replace Bf:=qC Bf HB
       replace Bw:=qC Bw HB
       have q1:=eq_true c
       replace p1:=eq_true p1
       clear c
       obtain⟨Aa,Ab,Ac,Ad,Af,Ag,Ah,Ai,Aj,Ak⟩:=QSet.bx5 BKr.out
       go_upto_region 23 with(first
        | ((with_reducible refine y16 (N:=15) rfl ?_);refine qe 15 #[.int .i64 0,.string (⟨#[]⟩:ByteArray),.slice none 0 0] 33 ?_;intro gl hg w8 hbox hb;(repeat first|clear Aa|clear Ag|clear Ab|clear Ah|clear Ac|clear Ai|clear Ad|clear Aj|clear Af|clear Ak);have BKl:=y0.mk (hbox);have GEl:=y0.mk ((by rw [hg];exact HB.out.size:w.heap.size≤gl));have Nr_l:=y0.mk ((by rw [hg];exact Nat.ne_of_lt (blk_lt BKr.out):gr≠gl));have Nm_l:=y0.mk ((by rw [hg];exact Nat.ne_of_lt HM.out.lt:gm≠gl));replace BKr:=y0.mk (y6 BKr.out hb);replace HM:=y0.mk (QSet.MS.below HM.out hb);replace HB:=y0.mk (y4 HB.out hb);clear hb hg hbox;obtain⟨Aa,Ab,Ac,Ad,Af,Ag,Ah,Ai,Aj,Ak⟩:=QSet.bx5 BKr.out;obtain⟨Ar,As,At,Au,Av,Aw⟩:=QSet.bx3 BKl.out))
       (repeat first|clear Aa|clear Ag|clear Ab|clear Ah|clear Ac|clear Ai|clear Ad|clear Aj|clear Af|clear Ak|clear Ar|clear Au|clear As|clear Av|clear At|clear Aw)
       have nBKr_:=y0.mk ((y10 (y10 (y10 BKr.out (Nr_l.out) _) (Nr_l.out) _) (Nr_l.out) _):(((w8.setCell ⟨gl,0,none⟩ (.int .i64 l.f0)).setCell ⟨gl,1,none⟩ (.string l.f1)).setCell ⟨gl,2,none⟩ (.slice Al l.f2.length cl)).heap[gr]?=some (.cells #[.slice Bh Ap.length Bb,.int .i64 Ay,.string Az,.slice Bc Ax.length Bd,.slice (some adl) Am.length Be] 36 (0,0)))
       have nBKl_:=y0.mk ((blk_set (blk_set (blk_set BKl.out 0 (.int .i64 l.f0)) 1 (.string l.f1)) 2 (.slice Al l.f2.length cl)):(((w8.setCell ⟨gl,0,none⟩ (.int .i64 l.f0)).setCell ⟨gl,1,none⟩ (.string l.f1)).setCell ⟨gl,2,none⟩ (.slice Al l.f2.length cl)).heap[gl]?=some (.cells #[.int .i64 l.f0,.string l.f1,.slice Al l.f2.length cl] 33 (0,0)))
       have nHM_:=y0.mk ((QSet.MS.set (QSet.MS.set (QSet.MS.set HM.out Nm_l.out 0 _) Nm_l.out 1 _) Nm_l.out 2 _):QSet.MS (((w8.setCell ⟨gl,0,none⟩ (.int .i64 l.f0)).setCell ⟨gl,1,none⟩ (.string l.f1)).setCell ⟨gl,2,none⟩ (.slice Al l.f2.length cl)) gm (SD))
       have nHB_:=y0.mk ((below_set (below_set (below_set HB.out GEl.out) GEl.out) GEl.out):Below w.heap.size w (((w8.setCell ⟨gl,0,none⟩ (.int .i64 l.f0)).setCell ⟨gl,1,none⟩ (.string l.f1)).setCell ⟨gl,2,none⟩ (.slice Al l.f2.length cl)))
       clear BKr
       clear BKl
       clear HM
       clear HB
       generalize (((w8.setCell ⟨gl,0,none⟩ (.int .i64 l.f0)).setCell ⟨gl,1,none⟩ (.string l.f1)).setCell ⟨gl,2,none⟩ (.slice Al l.f2.length cl))=w9 at nBKr_ nBKl_ nHM_ nHB_ ⊢
       have BKr:=nBKr_
       clear nBKr_
       have BKl:=nBKl_
       clear nBKl_
       have HM:=nHM_
       clear nHM_
       have HB:=nHB_
       clear nHB_
       obtain⟨Aa,Ab,Ac,Ad,Af,Ag,Ah,Ai,Aj,Ak⟩:=QSet.bx5 BKr.out
       obtain⟨Ar,As,At,Au,Av,Aw⟩:=QSet.bx3 BKl.out
       clear Ba Bf Bw Bo p1 q1
       by_cases k1:l.f0=3
       ·skip
        have k1b:(l.f0 != 3)=false:=bne_eq_false_iff_eq.mpr k1
        by_cases k2:l.f1.toList=([61]:List UInt8)
        ·skip
         have k2b:(l.f1.toList == ([61]:List UInt8))=true:=beq_iff_eq.mpr k2
         have HLP:y0 (lsP VR PT TL SD l=lsE VR PT TL (rd l.f2 0) (rd l.f2 1) SD 2):=⟨if_pos ⟨k1,k2⟩⟩
         have Ch:=y0.mk (H3.out l HMEl.out k1)
         clear k1 k2
         go_upto_region 24 with(first|(fail))
         clear k1b k2b
         have z0:(0:Int) < (l.f2.length:Int):=by have:=Ch.out;omega
         have z1:(1:Int) < (l.f2.length:Int):=by have:=Ch.out;omega
         obtain⟨adx,e1,Ba⟩:=Kd.at_int HRl.out 0 (by decide) z0
         obtain⟨Dc,e3,Bf⟩:=Kd.at_int HRl.out 1 (by decide) z1
         cases e1
         cases e3
         replace Ba:=qC Ba HB
         replace Bf:=qC Bf HB
         have z2:(0 < l.f2.length)=True:=eq_true (by have:=Ch.out;omega)
         have z3:(1 < l.f2.length)=True:=eq_true (by have:=Ch.out;omega)
         replace Ba:w9.cell? adx=some (.int .i64 (rd l.f2 0)):=Ba
         replace Bf:w9.cell? ⟨adx.block,adx.off + 1,none⟩=some (.int .i64 (rd l.f2 1)):=Bf
         replace z0:=eq_true z0
         replace z1:=eq_true z1
         have Bx:=y0.mk Ba
         have Bn:=y0.mk Bf
         clear Ba Bf
         obtain⟨y0_,Cl⟩:∃ y_,y0 (rd l.f2 0=y_):=⟨_,⟨rfl⟩⟩
         obtain⟨y1_,Cm⟩:∃ y_,y0 (rd l.f2 1=y_):=⟨_,⟨rfl⟩⟩
         replace Bx:=y0.mk (Cl.out ▸ Bx.out)
         replace Bn:=y0.mk (Cm.out ▸ Bn.out)
         (repeat first|clear Aa|clear Ag|clear Ab|clear Ah|clear Ac|clear Ai|clear Ad|clear Aj|clear Af|clear Ak|clear Ar|clear Au|clear As|clear Av|clear At|clear Aw)
         refine start_ (n:=11) (S:=fun w'=>w'.cell? ⟨gl,2,none⟩=some (.slice (some adx) l.f2.length cl)∧w'.cell? adx=some (.int .i64 y0_)∧w'.cell? ⟨adx.block,adx.off + 1,none⟩=some (.int .i64 y1_)) (ds:=[]) (fl_ 11 0) (by kernel_rfl) rfl rfl ⟨(y7 BKl.out 2).trans rfl,Bx.out,Bn.out⟩ (fun hHeld=>?_)
         replace BKr:=y0.mk (y8 BKr.out)
         replace BKl:=y0.mk (y8 BKl.out)
         replace HM:=y0.mk (QSet.MS.drew HM.out)
         replace Bx:=y0.mk ((show w9.drew.cell? adx=_ from Bx.out))
         replace Bn:=y0.mk ((show w9.drew.cell? ⟨adx.block,adx.off + 1,none⟩=_ from Bn.out))
         replace HB:=y0.mk (y2 HB.out)
         generalize w9.drew=Dd at BKr BKl HM Bx Bn HB hHeld ⊢
         refine qp 0 83 (fl_ 11 1) ?_
         refine qt 1 84 (fl_ 11 3) hHeld ?_
         refine qp 2 85 (fl_ 11 7) ?_
         refine qt 3 86 (fl_ 11 15) hHeld ?_
         refine qp 4 87 (fl_ 11 31) ?_
         refine qt 5 88 (fl_ 11 63) hHeld ?_
         refine qp 6 89 (fl_ 11 127) ?_
         refine qt 7 90 (fl_ 11 255) hHeld ?_
         refine qp 10 93 (fl_ 11 1279) ?_
         refine qO 8 91 (fl_ 11 1535) (fun K hK=>?_)
         refine Kd.R_lit_step (Kd.int .i64) w.heap.size 3 ?hg (N:=91) ?hd (xs:=[y1_,y0_]) (inner:=[.int .i64 y1_,.int .i64 y0_]) (ok:=fun _=>True) (okp:=fun _=>True) (w0:=w) ?hr ?hp (fun _ hk=>hk) trivial HB.out (y3 HB.out) (by simp) ?_
         case hg=>rfl
         case hd=>rfl
         case hr=>first|(go_simp;done)|(go_simp;rfl)
         case hp=>exact Reps.one (show Kd.M (Kd.int .i64) _ _ _ y1_ [.int .i64 y1_]from rfl) (Reps.one (show Kd.M (Kd.int .i64) _ _ _ y0_ [.int .i64 y0_]from rfl) (Reps.none _ _))
         intro vq Dk ho Cr hg_ hnew_
         clear hnew_
         obtain⟨Aq,cq,eq_⟩:=Kd.R_slice ho
         subst eq_
         have HOq:=y0.mk (ho)
         replace BKr:=y0.mk (blk_grown BKr.out hg_ (by simp))
         replace BKl:=y0.mk (blk_grown BKl.out hg_ (by simp))
         replace HM:=y0.mk (QSet.MS.keep HM.out (hg_.block _ HM.out.lt (by simp)))
         replace Bx:=y0.mk (cell_grown0 Bx.out hg_)
         replace Bn:=y0.mk (cell_grown0 Bn.out hg_)
         replace HB:=y0.mk (Cr)
         clear hg_ ho Cr
         refine hK.out _ _ ⟨(y7 BKl.out 2).trans rfl,Bx.out,Bn.out⟩ (fun hHeld=>?_)
         clear hHeld hK K
         refine qx 91 ?_
         refine qp 9 92 (fl_ 11 2047) ?_
         refine done_ (by kernel_rfl) ?_
         clear Bx Bn
         obtain⟨Aa,Ab,Ac,Ad,Af,Ag,Ah,Ai,Aj,Ak⟩:=QSet.bx5 BKr.out
         obtain⟨Ar,As,At,Au,Av,Aw⟩:=QSet.bx3 BKl.out
         go_wp2
         go_loopg [93] 2 (fun kq De w'=>∃(xE:Int) (nE:Nat),De=.int .i64 xE∧y0 (xE=(nE:Int))∧y0 (kq + nE=2)∧y0 (lsG Ap (lsE VR PT TL y0_ y1_ SD nE))∧y0 (Kd.R (Kd.int .i64) 3 w' w.heap.size (fun _=>True) (.slice Aq [y1_,y0_].length cq) ([y1_,y0_]))∧y0 (w'.heap[gr]?=some (.cells #[.slice Bh Ap.length Bb,.int .i64 Ay,.string Az,.slice Bc Ax.length Bd,.slice (some adl) Am.length Be] 36 (0,0)))∧y0 (w'.heap[gl]?=some (.cells #[.int .i64 l.f0,.string l.f1,.slice (some adx) l.f2.length cl] 33 (0,0)))∧y0 (QSet.MS w' gm (lsE VR PT TL y0_ y1_ SD nE))∧y0 (Below w.heap.size w w'))
         case atStart=>exact⟨0,0,rfl,⟨rfl⟩,⟨Nat.add_zero _⟩,⟨HG.out⟩,⟨qR HOq.out⟩,⟨BKr.out⟩,⟨BKl.out⟩,⟨HM.out⟩,⟨HB.out⟩⟩
         case round =>
          (repeat first|clear Aa|clear Ag|clear Ab|clear Ah|clear Ac|clear Ai|clear Ad|clear Aj|clear Af|clear Ak|clear Ar|clear Au|clear As|clear Av|clear At|clear Aw)
          clear HOq BKr BKl HM HB
          clear HG
          obtain⟨xE,nE,rfl,HXE,HKE,HG,HOq,BKr,BKl,HM,HB⟩:=hrel
          obtain⟨SE,HSE⟩:∃ S_,y0 (lsE VR PT TL y0_ y1_ SD nE=S_):=⟨_,⟨rfl⟩⟩
          rw [HSE.out]at HM HG
          by_cases c:xE < 2
          ·skip
           have Bo:decide (xE < 2)=true:=decide_eq_true c
           have HLENE:y0 ((2:Nat)≤2):=⟨Nat.le_refl _⟩
           have HIE:y0 (nE < 2):=⟨by have:=HXE.out;omega⟩
           have p1:0≤xE:=by have:=HXE.out;omega
           have q2:xE < (l.f2.length:Int):=by have:=Ch.out;omega
           obtain⟨adq,e1,Ba⟩:=Kd.at_int (Kd.R_reads' HOq.out).2.2 xE p1 (show xE < (([y1_,y0_].length:Nat):Int)from c)
           obtain⟨adz,e2,Bf⟩:=Kd.at_int HRl.out xE p1 q2
           cases e1
           cases e2
           have Bn:=y0.mk Bf
           clear Bf
           have HMB:y0 (rd [y1_,y0_] xE∈l.f2):=⟨by
            have h2:=Ch.out
            have g0:rd l.f2 0∈l.f2:=by unfold rd;rw [show((0:Int)).toNat=0 from rfl,List.getD_eq_getElem?_getD,List.getElem?_eq_getElem (by omega)];exact List.getElem_mem _
            have g1:rd l.f2 1∈l.f2:=by unfold rd;rw [show((1:Int)).toNat=1 from rfl,List.getD_eq_getElem?_getD,List.getElem?_eq_getElem (by omega)];exact List.getElem_mem _
            rw [Cl.out]at g0
            rw [Cm.out]at g1
            rw [HXE.out]
            have h3:=HIE.out
            match nE,h3 with
            | 0,_=>exact g1
            | 1,_=>exact g0⟩
           have HMA:y0 (rd l.f2 xE∈l.f2):=⟨by
            have hlt:xE.toNat < l.f2.length:=by omega
            unfold rd
            rw [List.getD_eq_getElem?_getD,List.getElem?_eq_getElem hlt]
            exact List.getElem_mem _⟩
           have HSTE:y0 (lsE VR PT TL y0_ y1_ SD (nE + 1)=lsO VR PT TL SE (rd l.f2 xE) (rd [y1_,y0_] xE)):=⟨by
            have h:=lsE_step VR PT TL l.f2 SD nE HIE.out
            rw [Cl.out,Cm.out,HSE.out,← HXE.out]at h
            exact h⟩
           generalize rd [y1_,y0_] xE=b_ at Ba HMB HSTE
           generalize rd l.f2 xE=a_ at Bn HMA HSTE
           have qc:=eq_true c
           replace q2:=eq_true q2
           replace p1:=eq_true p1
           clear c
           have HPB:=y0.mk (HPT.out l HMEl.out b_ HMB.out)
           have HVB:=y0.mk (HVR.out l HMEl.out b_ HMB.out)
           obtain⟨t1,Cn⟩:∃ t,PT b_=t:=⟨_,rfl⟩
           obtain⟨t2,Cp⟩:∃ t,TL SE a_=t:=⟨_,rfl⟩
           rw [Cn]at HPB
           have HLO:y0 (lsO VR PT TL SE a_ b_=if(t1 && t2)=true then(VR b_).foldl QSet.ins SE else SE):=⟨by unfold lsO;rw [Cn,Cp]⟩
           have Cs:y0 (∀(W:World),Below w.heap.size w W→QSet.MS W gm SE→Calls Try.prog FN #[.int .i64 a_,.int .i64 b_,.map (some gm),.pointer (some ⟨gt,0,none⟩)] W fun e w'=>e=.returned (.bool t2)∧Below W.heap.size W w'):=⟨fun W hb hm=>by rw [← Cp];exact HTL.out W gm SE l a_ b_ hb hm HMEl.out HMA.out⟩
           clear Cn Cp
           obtain⟨Aa,Ab,Ac,Ad,Af,Ag,Ah,Ai,Aj,Ak⟩:=QSet.bx5 BKr.out
           obtain⟨Ar,As,At,Au,Av,Aw⟩:=QSet.bx3 BKl.out
           cases t1 with
           | true =>
            cases t2 with
            | true =>
             go_wp2_with (first
              | (go_at_call 74;(with_reducible refine(z2_.calls k _ _ Ap Ay Az _ _ Ax _ _ Am b_ true _ (Kd.C_below Cb.out HB.out) Cc.out (Kd.C_below Cd.out HB.out) Ce.out (Kd.C_below Cf.out HB.out) Cg.out HPB.out).mono ?_);rintro e_ Ct ⟨rfl,hb⟩;(repeat first|clear Aa|clear Ag|clear Ab|clear Ah|clear Ac|clear Ai|clear Ad|clear Aj|clear Af|clear Ak|clear Ar|clear Au|clear As|clear Av|clear At|clear Aw);replace HOq:=y0.mk (Kd.R_below HOq.out hb);replace BKr:=y0.mk (y6 BKr.out hb);replace BKl:=y0.mk (y6 BKl.out hb);replace HM:=y0.mk (QSet.MS.below HM.out hb);replace HB:=y0.mk (y4 HB.out hb);(try clear hb);(try clear hd_);(try clear ho);obtain⟨Aa,Ab,Ac,Ad,Af,Ag,Ah,Ai,Aj,Ak⟩:=QSet.bx5 BKr.out;obtain⟨Ar,As,At,Au,Av,Aw⟩:=QSet.bx3 BKl.out;have Bf:=qC Bn.out HB)
              | ((try(refine gate_guard (by rfl) ?_;dsimp only));(with_reducible refine(Cs.out _ HB.out HM.out).mono ?_);rintro e_ Df ⟨rfl,hb⟩;(repeat first|clear Aa|clear Ag|clear Ab|clear Ah|clear Ac|clear Ai|clear Ad|clear Aj|clear Af|clear Ak|clear Ar|clear Au|clear As|clear Av|clear At|clear Aw);replace HOq:=y0.mk (Kd.R_below HOq.out hb);replace BKr:=y0.mk (y6 BKr.out hb);replace BKl:=y0.mk (y6 BKl.out hb);replace HM:=y0.mk (QSet.MS.below HM.out hb);replace HB:=y0.mk (y4 HB.out hb);(try clear hb);(try clear hd_);(try clear ho);obtain⟨Aa,Ab,Ac,Ad,Af,Ag,Ah,Ai,Aj,Ak⟩:=QSet.bx5 BKr.out;obtain⟨Ar,As,At,Au,Av,Aw⟩:=QSet.bx3 BKl.out)
              | (go_at_call 30;(with_reducible refine(impl_Rule_vars.calls k _ _ Ap Ay Az _ _ Ax _ _ Am b_ (VR b_) _ (Kd.C_below Cb.out HB.out) Cc.out (Kd.C_below Cd.out HB.out) Ce.out (Kd.C_below Cf.out HB.out) Cg.out HVB.out.1).mono ?_);rintro e_ Dl ⟨v_,rfl,ho,hb⟩;obtain⟨AV,cV,eV_⟩:=Kd.R_slice ho;subst eV_;(repeat first|clear Aa|clear Ag|clear Ab|clear Ah|clear Ac|clear Ai|clear Ad|clear Aj|clear Af|clear Ak|clear Ar|clear Au|clear As|clear Av|clear At|clear Aw);have HOV:=y0.mk (Kd.R_lower ho (y3 HB.out));replace HOq:=y0.mk (Kd.R_below HOq.out hb);replace BKr:=y0.mk (y6 BKr.out hb);replace BKl:=y0.mk (y6 BKl.out hb);replace HM:=y0.mk (QSet.MS.below HM.out hb);replace HB:=y0.mk (y4 HB.out hb);(try clear hb);(try clear hd_);(try clear ho);obtain⟨Aa,Ab,Ac,Ad,Af,Ag,Ah,Ai,Aj,Ak⟩:=QSet.bx5 BKr.out;obtain⟨Ar,As,At,Au,Av,Aw⟩:=QSet.bx3 BKl.out))
             clear Ba
             go_loopg [116] (VR b_).length (fun kq Cq w'=>∃(xF:Int) (nF:Nat),Cq=.int .i64 xF∧y0 (xF=(nF:Int))∧y0 (kq + nF=(VR b_).length)∧y0 (lsG Ap (((VR b_).take nF).foldl QSet.ins SE))∧y0 (Kd.R (Kd.int .i64) 3 w' w.heap.size (fun _=>True) (.slice (some adq) [y1_,y0_].length cq) ([y1_,y0_]))∧y0 (Kd.R Kd.string 9 w' w.heap.size (fun _=>True) (.slice AV (VR b_).length cV) (VR b_))∧y0 (w'.heap[gr]?=some (.cells #[.slice Bh Ap.length Bb,.int .i64 Ay,.string Az,.slice Bc Ax.length Bd,.slice (some adl) Am.length Be] 36 (0,0)))∧y0 (w'.heap[gl]?=some (.cells #[.int .i64 l.f0,.string l.f1,.slice (some adx) l.f2.length cl] 33 (0,0)))∧y0 (QSet.MS w' gm (((VR b_).take nF).foldl QSet.ins SE))∧y0 (Below w.heap.size w w'))
             case atStart=>exact⟨0,0,rfl,⟨rfl⟩,⟨Nat.add_zero _⟩,⟨HG.out⟩,⟨qR HOq.out⟩,⟨qR HOV.out⟩,⟨BKr.out⟩,⟨BKl.out⟩,⟨HM.out⟩,⟨HB.out⟩⟩
             case round =>
              (repeat first|clear Aa|clear Ag|clear Ab|clear Ah|clear Ac|clear Ai|clear Ad|clear Aj|clear Af|clear Ak|clear Ar|clear Au|clear As|clear Av|clear At|clear Aw)
              clear HOq HOV BKr BKl HM HB
              clear HG
              obtain⟨xF,nF,rfl,HXF,HKF,HG,HOq,HOV,BKr,BKl,HM,HB⟩:=hrel
              obtain⟨SF,HSF⟩:∃ S_,y0 (((VR b_).take nF).foldl QSet.ins SE=S_):=⟨_,⟨rfl⟩⟩
              rw [HSF.out]at HM HG
              have HLENF:=y0.mk HVB.out.2.1
              by_cases c:xF < ((VR b_).length:Int)
              ·skip
               have Dg:decide (xF < ((VR b_).length:Int))=true:=decide_eq_true c
               have hi:nF < (VR b_).length:=by have:=HXF.out;omega
               have p3:0≤xF:=by have:=HXF.out;omega
               obtain⟨adv,e1,Ba⟩:=Kd.at_string (Kd.R_reads' HOV.out).2.2 xF p3 c
               have rg:rdOf ByteArray.empty (VR b_) xF=(VR b_)[nF]:=by rw [HXF.out];unfold rdOf;rw [show((nF:Int)).toNat=nF from rfl,List.getD_eq_getElem?_getD,List.getElem?_eq_getElem hi];rfl
               rw [rg]at Ba
               clear rg
               have HSTv:=y0.mk (foldl_at QSet.ins SE (VR b_) nF hi)
               have HMEv:=y0.mk (HVB.out.2.2 _ (List.getElem_mem hi))
               generalize (VR b_)[nF]=s_ at Ba HSTv HMEv
               replace hi:=y0.mk hi
               cases e1
               have q3:=eq_true c
               replace p3:=eq_true p3
               clear c
               have HGN:=y0.mk (lsG_ins HG.out HMEv.out)
               have HRM:=y0.mk (lsG_len HG.out)
               have HSS:y0 (s_.size≤1048576):=⟨by obtain⟨e_,he_,rfl⟩:=HMEv.out;exact HSZ.out e_ he_⟩
               obtain⟨Aa,Ab,Ac,Ad,Af,Ag,Ah,Ai,Aj,Ak⟩:=QSet.bx5 BKr.out
               obtain⟨Ar,As,At,Au,Av,Aw⟩:=QSet.bx3 BKl.out
               go_wp2_with (first
                | ((with_reducible refine QSet.gate_put (m:=.tmp 120) (x:=.tmp 121) rfl ?_);(refine QSet.put_event rfl (.tmp 120) (.tmp 121) _ rfl rfl (s:=s_) rfl rfl HM.out (by have:=HRM.out;have:=HN.out;unfold maxLen;omega) (by have:=HSS.out;unfold maxLen;omega) ?_);intro Dm hM_ hg_;(repeat first|clear Aa|clear Ag|clear Ab|clear Ah|clear Ac|clear Ai|clear Ad|clear Aj|clear Af|clear Ak|clear Ar|clear Au|clear As|clear Av|clear At|clear Aw);have nHOq_:=y0.mk (QSet.MS.row HM.out HOq.out hg_);have nHOV_:=y0.mk (QSet.MS.row HM.out HOV.out hg_);have nBKr_:=y0.mk (QSet.MS.blk BKr.out (Nr_m.out) hg_);have nBKl_:=y0.mk (QSet.MS.blk BKl.out (Ne.symm Nm_l.out) hg_);have nHB_:=y0.mk (QSet.MS.low HB.out hg_ GEm.out);have nHMn_:=y0.mk (hM_);clear HOq HOV BKr BKl HB HM hM_ hg_;have HOq:=nHOq_;clear nHOq_;have HOV:=nHOV_;clear nHOV_;have BKr:=nBKr_;clear nBKr_;have BKl:=nBKl_;clear nBKl_;have HB:=nHB_;clear nHB_;have HM:=nHMn_;clear nHMn_;obtain⟨Aa,Ab,Ac,Ad,Af,Ag,Ah,Ai,Aj,Ak⟩:=QSet.bx5 BKr.out;obtain⟨Ar,As,At,Au,Av,Aw⟩:=QSet.bx3 BKl.out))
               clear HG
               have HG:=HGN
               clear HGN
               go_roundg ((VR b_).length - nF - 1)
               case measure=>have:=HKF.out;have:=hi.out;omega
               exact⟨wrap64 (xF + 1),nF + 1,qy2,⟨by rw [HXF.out];exact QIv.step_u (by have:=hi.out;have:=HLENF.out;omega)⟩,⟨by have:=HKF.out;have:=hi.out;omega⟩,⟨by rw [HSTv.out,HSF.out];exact HG.out⟩,⟨qR HOq.out⟩,⟨qR HOV.out⟩,⟨BKr.out⟩,⟨BKl.out⟩,⟨by rw [HSTv.out,HSF.out];exact HM.out⟩,⟨HB.out⟩⟩
              ·skip
               have Dg:decide (xF < ((VR b_).length:Int))=false:=decide_eq_false c
               have HE:y0 ((VR b_).foldl QSet.ins SE=SF):=⟨by rw [← HSF.out,List.take_of_length_le (by have:=HXF.out;have:=HKF.out;omega)]⟩
               go_wp2
               go_roundg (2 - nE - 1)
               case measure=>have:=HKE.out;have:=HIE.out;omega
               exact⟨wrap64 (xE + 1),nE + 1,qy2,⟨by rw [HXE.out];exact QIv.step_u (by have:=HIE.out;have:=HLENE.out;omega)⟩,⟨by have:=HKE.out;have:=HIE.out;omega⟩,⟨by rw [HSTE.out,HLO.out,if_pos (show(true && true)=true from rfl),HE.out];exact HG.out⟩,⟨qR HOq.out⟩,⟨BKr.out⟩,⟨BKl.out⟩,⟨by rw [HSTE.out,HLO.out,if_pos (show(true && true)=true from rfl),HE.out];exact HM.out⟩,⟨HB.out⟩⟩
            | false =>
             go_wp2_with (first
              | (go_at_call 74;(with_reducible refine(z2_.calls k _ _ Ap Ay Az _ _ Ax _ _ Am b_ true _ (Kd.C_below Cb.out HB.out) Cc.out (Kd.C_below Cd.out HB.out) Ce.out (Kd.C_below Cf.out HB.out) Cg.out HPB.out).mono ?_);rintro e_ Ct ⟨rfl,hb⟩;(repeat first|clear Aa|clear Ag|clear Ab|clear Ah|clear Ac|clear Ai|clear Ad|clear Aj|clear Af|clear Ak|clear Ar|clear Au|clear As|clear Av|clear At|clear Aw);replace HOq:=y0.mk (Kd.R_below HOq.out hb);replace BKr:=y0.mk (y6 BKr.out hb);replace BKl:=y0.mk (y6 BKl.out hb);replace HM:=y0.mk (QSet.MS.below HM.out hb);replace HB:=y0.mk (y4 HB.out hb);(try clear hb);(try clear hd_);(try clear ho);obtain⟨Aa,Ab,Ac,Ad,Af,Ag,Ah,Ai,Aj,Ak⟩:=QSet.bx5 BKr.out;obtain⟨Ar,As,At,Au,Av,Aw⟩:=QSet.bx3 BKl.out;have Bf:=qC Bn.out HB)
              | ((try(refine gate_guard (by rfl) ?_;dsimp only));(with_reducible refine(Cs.out _ HB.out HM.out).mono ?_);rintro e_ Df ⟨rfl,hb⟩;(repeat first|clear Aa|clear Ag|clear Ab|clear Ah|clear Ac|clear Ai|clear Ad|clear Aj|clear Af|clear Ak|clear Ar|clear Au|clear As|clear Av|clear At|clear Aw);replace HOq:=y0.mk (Kd.R_below HOq.out hb);replace BKr:=y0.mk (y6 BKr.out hb);replace BKl:=y0.mk (y6 BKl.out hb);replace HM:=y0.mk (QSet.MS.below HM.out hb);replace HB:=y0.mk (y4 HB.out hb);(try clear hb);(try clear hd_);(try clear ho);obtain⟨Aa,Ab,Ac,Ad,Af,Ag,Ah,Ai,Aj,Ak⟩:=QSet.bx5 BKr.out;obtain⟨Ar,As,At,Au,Av,Aw⟩:=QSet.bx3 BKl.out))
             go_roundg (2 - nE - 1)
             case measure=>have:=HKE.out;have:=HIE.out;omega
             exact⟨wrap64 (xE + 1),nE + 1,qy2,⟨by rw [HXE.out];exact QIv.step_u (by have:=HIE.out;have:=HLENE.out;omega)⟩,⟨by have:=HKE.out;have:=HIE.out;omega⟩,⟨by rw [HSTE.out,HLO.out,if_neg (by simp)];exact HG.out⟩,⟨qR HOq.out⟩,⟨BKr.out⟩,⟨BKl.out⟩,⟨by rw [HSTE.out,HLO.out,if_neg (by simp)];exact HM.out⟩,⟨HB.out⟩⟩
           | false =>
            go_wp2_with (first
             | (go_at_call 74;(with_reducible refine(z2_.calls k _ _ Ap Ay Az _ _ Ax _ _ Am b_ false _ (Kd.C_below Cb.out HB.out) Cc.out (Kd.C_below Cd.out HB.out) Ce.out (Kd.C_below Cf.out HB.out) Cg.out HPB.out).mono ?_);rintro e_ Ct ⟨rfl,hb⟩;(repeat first|clear Aa|clear Ag|clear Ab|clear Ah|clear Ac|clear Ai|clear Ad|clear Aj|clear Af|clear Ak|clear Ar|clear Au|clear As|clear Av|clear At|clear Aw);replace HOq:=y0.mk (Kd.R_below HOq.out hb);replace BKr:=y0.mk (y6 BKr.out hb);replace BKl:=y0.mk (y6 BKl.out hb);replace HM:=y0.mk (QSet.MS.below HM.out hb);replace HB:=y0.mk (y4 HB.out hb);(try clear hb);(try clear hd_);(try clear ho);obtain⟨Aa,Ab,Ac,Ad,Af,Ag,Ah,Ai,Aj,Ak⟩:=QSet.bx5 BKr.out;obtain⟨Ar,As,At,Au,Av,Aw⟩:=QSet.bx3 BKl.out;have Bf:=qC Bn.out HB))
            go_roundg (2 - nE - 1)
            case measure=>have:=HKE.out;have:=HIE.out;omega
            exact⟨wrap64 (xE + 1),nE + 1,qy2,⟨by rw [HXE.out];exact QIv.step_u (by have:=HIE.out;have:=HLENE.out;omega)⟩,⟨by have:=HKE.out;have:=HIE.out;omega⟩,⟨by rw [HSTE.out,HLO.out,if_neg (by simp)];exact HG.out⟩,⟨qR HOq.out⟩,⟨BKr.out⟩,⟨BKl.out⟩,⟨by rw [HSTE.out,HLO.out,if_neg (by simp)];exact HM.out⟩,⟨HB.out⟩⟩
          ·skip
           have Bo:decide (xE < 2)=false:=decide_eq_false c
           have HE:y0 (lsP VR PT TL SD l=SE):=⟨by
            rw [HLP.out,Cl.out,Cm.out,← HSE.out]
            have h1:=HXE.out
            have h2:=HKE.out
            rw [show nE=2 by omega]⟩
           go_wp2
           go_roundg (Am.length - nD - 1)
           case measure=>have:=HKD.out;have:=HID.out;omega
           exact⟨wrap64 (xD + 1),nD + 1,qy2,⟨by rw [HXD.out];exact QIv.step_u (by have:=HID.out;have:=HLEND.out;omega)⟩,⟨by have:=HKD.out;have:=HID.out;omega⟩,⟨by rw [HSTl.out,HSD.out,HE.out];exact HG.out⟩,⟨BKr.out⟩,⟨by rw [HSTl.out,HSD.out,HE.out];exact HM.out⟩,⟨HB.out⟩⟩
        ·skip
         have k2b:(l.f1.toList == ([61]:List UInt8))=false:=beq_eq_false_iff_ne.mpr k2
         have HLP:y0 (lsP VR PT TL SD l=SD):=⟨if_neg (fun h_=>k2 h_.2)⟩
         clear k1 k2
         go_wp2
         go_roundg (Am.length - nD - 1)
         case measure=>have:=HKD.out;have:=HID.out;omega
         exact⟨wrap64 (xD + 1),nD + 1,qy2,⟨by rw [HXD.out];exact QIv.step_u (by have:=HID.out;have:=HLEND.out;omega)⟩,⟨by have:=HKD.out;have:=HID.out;omega⟩,⟨by rw [HSTl.out,HSD.out,HLP.out];exact HG.out⟩,⟨BKr.out⟩,⟨by rw [HSTl.out,HSD.out,HLP.out];exact HM.out⟩,⟨HB.out⟩⟩
       ·skip
        have k1b:(l.f0 != 3)=true:=bne_iff_ne.mpr k1
        have HLP:y0 (lsP VR PT TL SD l=SD):=⟨if_neg (fun h_=>k1 h_.1)⟩
        clear k1
        go_wp2
        go_roundg (Am.length - nD - 1)
        case measure=>have:=HKD.out;have:=HID.out;omega
        exact⟨wrap64 (xD + 1),nD + 1,qy2,⟨by rw [HXD.out];exact QIv.step_u (by have:=HID.out;have:=HLEND.out;omega)⟩,⟨by have:=HKD.out;have:=HID.out;omega⟩,⟨by rw [HSTl.out,HSD.out,HLP.out];exact HG.out⟩,⟨BKr.out⟩,⟨by rw [HSTl.out,HSD.out,HLP.out];exact HM.out⟩,⟨HB.out⟩⟩
      ·skip
       have Bo:decide (xD < (Am.length:Int))=false:=decide_eq_false c
       have HE:y0 (lsIt Am VR PT TL SA (nZ + 1)=SD):=⟨by
        rw [← HSD.out,List.take_of_length_le (by have:=HXD.out;have:=HKD.out;omega),← HSZ_.out]
        rfl⟩
       go_wp2
       go_roundg (62 - nZ - 1)
       case measure=>have:=HKZ.out;have:=HNZ.out;have:=HCZ.out;have:=HRM.out;have:=HN.out;omega
       exact⟨(SZ.length:Int),nZ + 1,qy2,⟨by rw [if_neg (Nat.succ_ne_zero _),Nat.add_sub_cancel,HSZ_.out]⟩,⟨by have:=HNZ.out;have:=HCZ.out;omega⟩,⟨by have:=HKZ.out;have:=HNZ.out;have:=HCZ.out;have:=HRM.out;have:=HN.out;omega⟩,⟨by rw [HE.out];exact HG.out⟩,⟨BKr.out⟩,⟨by rw [HE.out];exact HM.out⟩,⟨HB.out⟩⟩
    ·skip
     have Bo:decide (xZ < (SZ.length:Int))=false:=decide_eq_false c
     have HE:y0 (lsIt Am VR PT TL SA 100=SZ):=⟨by
      have h1:=HXZ.out
      have h2:=HNZ.out
      have h3:=HKZ.out
      have h4:=HSZ_.out
      match nZ,h1,h2,h3,h4 with
      | 0,h1,h2,h3,h4=>rw [if_pos rfl]at h1;omega
      | m + 1,h1,h2,h3,h4 =>
       rw [if_neg (Nat.succ_ne_zero _),Nat.add_sub_cancel]at h1
       have h5:lsW Am VR PT TL (lsIt Am VR PT TL SA m)=lsIt Am VR PT TL SA m:=lsW_same (by rw [← h1,show lsW Am VR PT TL (lsIt Am VR PT TL SA m)=SZ from h4];exact c)
       rw [lsIt_same h5 100 (by omega),← h4]
       exact h5.symm⟩
     clear c
     obtain⟨Aa,Ab,Ac,Ad,Af,Ag,Ah,Ai,Aj,Ak⟩:=QSet.bx5 BKr.out
     go_wp2_with (first
      | ((with_reducible refine gate_builtin (b:=.len) (xs:=#[.tmp 63]) rfl ?_);refine QSet.len_event rfl (.tmp 63) rfl rfl HM.out ?_)
      | (go_at_call 75;(with_reducible refine(impl_Rule_names.calls _ _ Ap Ay Az _ _ Ax _ _ Am gm SZ _ (Kd.C_below Cb.out HB.out) Cc.out (Kd.C_below Cd.out HB.out) Ce.out (Kd.C_below Cf.out HB.out) Cg.out HM.out (by have:=HN.out;omega) (fun e he=>by have:=HSZ.out e he;omega)).mono ?_);rintro e_ Dd ⟨v_,rfl,ho,hb⟩;(repeat first|clear Aa|clear Ag|clear Ab|clear Ah|clear Ac|clear Ai|clear Ad|clear Aj|clear Af|clear Ak);have HOn:=y0.mk (Kd.R_lower ho (y3 HB.out));replace HB:=y0.mk (y4 HB.out hb);clear ho hb))
     go_ret
     exact⟨_,by first|rfl|(simp [y12,y13] <;> rfl),by rw [Cz.out,HE.out];exact HOn.out,HB.out⟩
def lsTL (es:List (S63)) (S:List ByteArray) (x:Int):Bool:=decide ((y19 es x).f0=1) && QSet.hasB S (y19 es x).f1
theorem impl_Rule_old_1.calls (Af:Option Addr) (Ag:Nat) (Aa:List (S63)) (Ar:Int) (As:ByteArray) (Ah:Option Addr) (Ai:Nat) (Ab:List Int) (Aj:Option Addr) (Ak:Nat) (Ac:List (S33)) (gt gm:Nat) (S:List ByteArray) (x y:Int) (w:World) (Ad:Kd.C k63 w Af Aa.length Aa) (Au:Aa.length≤Ag) (Am:Kd.C (Kd.int .i64) w Ah Ab.length Ab) (Av:Ab.length≤Ai) (Ap:Kd.C k33 w Aj Ac.length Ac) (Aw:Ac.length≤Ak) (hbt:w.heap[gt]?=some (.cells #[.slice Af Aa.length Ag,.int .i64 Ar,.string As,.slice Ah Ab.length Ai,.slice Aj Ac.length Ak] 36 (0,0))) (hm:QSet.MS w gm S) (h0:0≤x) (h1:x < (Aa.length:Int)) (hsz:∀ e∈Aa,e.f1.size≤1048576) :
  Calls Try.prog 60 #[.int .i64 x,.int .i64 y,.map (some gm),.pointer (some ⟨gt,0,none⟩)] w fun e w'=>e=.returned (.bool (lsTL Aa S x))∧Below w.heap.size w w':=by
 have HB:=y0.mk (Below.refl w.heap.size w)
 replace hm:=y0.mk hm
 replace hbt:=y0.mk hbt
 have Bn:=Try.underlying36
 have Bo:=Try.underlying63
 obtain⟨ade,Ae,ce,e2,Bi,Bj,Bk,Bl,Bm⟩:=at_T63 Ad x h0 h1
 clear Bl Bm
 have hme:y19 Aa x∈Aa:=by
  have hlt:x.toNat < Aa.length:=by omega
  have:y19 Aa x=Aa[x.toNat]:=by unfold y19;rw [List.getD_eq_getElem?_getD,List.getElem?_eq_getElem hlt];rfl
  rw [this]
  exact List.getElem_mem hlt
 have HLT:y0 (lsTL Aa S x=(decide ((y19 Aa x).f0=1) && QSet.hasB S (y19 Aa x).f1)):=⟨rfl⟩
 have Ax:=y0.mk (hsz _ hme)
 clear hme hsz Ad Am Ap
 generalize y19 Aa x=e0 at Bi Bj Bk HLT Ax
 cases e2
 obtain⟨Ay,Az,Ba,Bb,Bc,Bd,Be,Bf,Bg,Bh⟩:=QSet.bx5 hbt.out
 replace h0:=eq_true h0
 replace h1:=eq_true h1
 by_cases k1:e0.f0=1
 ·skip
  have k1b:(e0.f0 == 1)=true:=beq_iff_eq.mpr k1
  have At:=y0.mk k1
  clear k1
  go_enter Try.func60,Try.ntmps60
  go_wp2_with (first
   | ((try(refine gate_guard (by rfl) ?_;dsimp only));(with_reducible refine y16 (N:=23) rfl ?_);refine QSet.look_event rfl (.tmp 16) (.tmp 22) rfl rfl (s:=e0.f1) rfl hm.out (by have:=Ax.out;unfold maxLen;omega) ?_))
  go_ret
  exact⟨by rw [HLT.out,decide_eq_true At.out,Bool.true_and];first|rfl|(simp [y12,y13] <;> rfl),HB.out⟩
 ·skip
  have k1b:(e0.f0 == 1)=false:=beq_eq_false_iff_ne.mpr k1
  have At:=y0.mk k1
  clear k1
  go_enter Try.func60,Try.ntmps60
  go_wp2
  go_ret
  exact⟨by rw [HLT.out,decide_eq_false At.out,Bool.false_and];first|rfl|(simp [y12,y13] <;> rfl),HB.out⟩
def impl_Rule_old.f (k:Nat) (Ae:List (S63)) (Al:Int) (An:ByteArray) (Ao:List Int) (Aq:List (S33)):Option (List ByteArray):=if lsOk k Ae Al An Ao Aq=true then some (lsRes k Ae Al An Ao Aq (lsTL Ae))else none
theorem impl_Rule_old.calls (k:Nat) (Bg:Option Addr) (Bh:Nat) (Aa:List (S63)) (Ad:Int) (Af:ByteArray) (Bi:Option Addr) (Bj:Nat) (Ab:List Int) (Bk:Option Addr) (Bl:Nat) (Ac:List (S33)) (r:List ByteArray) (w:World) (Ag:Kd.C k63 w Bg Aa.length Aa) (Ah:Aa.length≤Bh) (Ai:Kd.C (Kd.int .i64) w Bi Ab.length Ab) (Aj:Ab.length≤Bj) (Ak:Kd.C k33 w Bk Ac.length Ac) (Am:Ac.length≤Bl) (h:impl_Rule_old.f k Aa Ad Af Ab Ac=some r) :
  Calls Try.prog 40 #[.agg #[.slice Bg Aa.length Bh,.int .i64 Ad,.string Af,.slice Bi Ab.length Bj,.slice Bk Ac.length Bl]] w fun e w'=>∃ v0_:Value,e=.returned (v0_)∧Kd.R Kd.string 9 w' w.heap.size (fun _=>True) v0_ r∧Below w.heap.size w w':=by
 unfold impl_Rule_old.f at h
 by_cases hk:lsOk k Aa Ad Af Ab Ac=true
 case neg=>rw [if_neg hk]at h;cases h
 rw [if_pos hk]at h
 obtain rfl:=Option.some.inj h
 clear h
 obtain⟨g1,g2,g3,g4,g5,g6⟩:=lsOk_spec hk
 clear hk
 replace Ag:=y0.mk Ag
 replace Ah:=y0.mk Ah
 replace Ai:=y0.mk Ai
 replace Aj:=y0.mk Aj
 replace Ak:=y0.mk Ak
 replace Am:=y0.mk Am
 have Bo:=y0.mk g1
 have Bn:=y0.mk g2
 have Bp:=y0.mk g3
 have Bq:=y0.mk g4
 have Br:=y0.mk g5
 have Bm:=y0.mk g6
 clear g1 g2 g3 g4 g5 g6
 have HB:=y0.mk (Below.refl w.heap.size w)
 have Bs:=Try.underlying36
 go_enter Try.func40,Try.ntmps40
 go_wp2_with (first
  | ((with_reducible refine y16 (N:=1) rfl ?_);refine qe 1 #[.slice Bg Aa.length Bh,.int .i64 Ad,.string Af,.slice Bi Ab.length Bj,.slice Bk Ac.length Bl] 36 ?_;intro gt hg w1 hbox hb;have BKt:=y0.mk (hbox);have GEt:=y0.mk ((by rw [hg];exact HB.out.size:w.heap.size≤gt));replace HB:=y0.mk (y4 HB.out hb);clear hb hg hbox;obtain⟨Aw,Ax,Ay,Az,Ba,Bb,Bc,Bd,Be,Bf⟩:=QSet.bx5 BKt.out)
  | (go_at_call 59;(with_reducible refine(impl_Rule_least.calls _ Try.call60 k _ _ Aa Ad Af _ _ Ab _ _ Ac gt (lsPLf k Aa Ad Af Ab Ac) (lsVRf k Aa Ad Af Ab Ac) (lsPTf k Aa Ad Af Ab Ac) (lsTL Aa) _ (Kd.C_below Ag.out HB.out) Ah.out (Kd.C_below Ai.out HB.out) Aj.out (Kd.C_below Ak.out HB.out) Am.out ⟨fun l hl x hx=>(lsArg_spec (Bm.out l hl x hx)).2.1⟩ ⟨fun l hl x hx=>(lsArg_spec (Bm.out l hl x hx)).2.2.1⟩ ⟨fun l hl x hx=>(lsArg_spec (Bm.out l hl x hx)).2.2.2⟩ Br Bo Bn Bp Bq ⟨fun W g S l x y hb_ hm_ hl_ hx_=>impl_Rule_old_1.calls _ _ Aa Ad Af _ _ Ab _ _ Ac gt g S x y W (Kd.C_below Ag.out (y4 HB.out hb_)) Ah.out (Kd.C_below Ai.out (y4 HB.out hb_)) Aj.out (Kd.C_below Ak.out (y4 HB.out hb_)) Am.out (y6 BKt.out hb_) hm_ (lsArg_spec (Bm.out l hl_ x hx_)).1.1 (lsArg_spec (Bm.out l hl_ x hx_)).1.2 Bn.out⟩).mono ?_);rintro e_ w2 ⟨v_,rfl,ho,hb⟩;obtain⟨Ao,co,eo_⟩:=Kd.R_slice ho;subst eo_;(repeat first|clear Aw|clear Bb|clear Ax|clear Bc|clear Ay|clear Bd|clear Az|clear Be|clear Ba|clear Bf);have HOo:=y0.mk (Kd.R_lower ho (y3 HB.out));replace BKt:=y0.mk (y6 BKt.out hb);replace HB:=y0.mk (y4 HB.out hb);(try clear hb);(try clear hd_);(try clear ho);obtain⟨Aw,Ax,Ay,Az,Ba,Bb,Bc,Bd,Be,Bf⟩:=QSet.bx5 BKt.out))
 go_ret
 exact⟨_,by first|rfl|(simp [y12,y13] <;> rfl),HOo.out,HB.out⟩
def impl_Rule_hasAny_1.f (a0:Int) (Ae:List (S63)) (a1_1:Int) (a1_2:ByteArray) (l1_3:List Int) (l1_4:List (S33)):Option (Bool):=if 0≤a0 then(if a0 < (Ae.length:Int)then(some (((y19 Ae a0).f0) == 2))else(none))else(none)
theorem impl_Rule_hasAny_1.calls (a0:Int) (As:Option Addr) (At:Nat) (Aa:List (S63)) (Au:Int) (Av:ByteArray) (Aw:Option Addr) (Ax:Nat) (Ad:List Int) (Ay:Option Addr) (Az:Nat) (Af:List (S33)) (g1:Nat) (r:Bool) (w:World) (Ag:Kd.C k63 w As Aa.length Aa) (Ah:Aa.length≤At) (Ai:Kd.C (Kd.int .i64) w Aw Ad.length Ad) (Aj:Ad.length≤Ax) (Ak:Kd.C k33 w Ay Af.length Af) (Am:Af.length≤Az) (Ba:w.heap[g1]?=some (.cells #[.slice As Aa.length At,.int .i64 Au,.string Av,.slice Aw Ad.length Ax,.slice Ay Af.length Az] 36 (0,0))) (h:impl_Rule_hasAny_1.f a0 Aa Au Av Ad Af=some r) :
  Calls Try.prog 91 #[.int .i64 a0,.pointer (some ⟨g1,0,none⟩)] w fun e w'=>e=.returned (.bool r)∧Drawn0 w w':=by
 have Bb:=y0.mk Ag
 have Bu:=y0.mk Ah
 clear Ag Ah
 have Bv:=y0.mk Ai
 have Bw:=y0.mk Aj
 clear Ai Aj
 have Bx:=y0.mk Ak
 have Bz:=y0.mk Am
 clear Ak Am
 replace Ba:=y0.mk Ba
 have H:(if 0≤a0 then(if a0 < (Aa.length:Int)then(some (((y19 Aa a0).f0) == 2))else(none))else(none))=some r:=h
 clear h
 obtain⟨c3,H⟩:=qo H
 have Cc:decide (0≤a0)=true:=decide_eq_true c3
 clear c3
 obtain⟨c4,H⟩:=qo H
 have Cd:decide (a0 < (Aa.length:Int))=true:=decide_eq_true c4
 clear c4
 obtain rfl:=Option.some.inj H
 obtain⟨Bh,Bi,Bj,Bk,Bl,Bm,Bn,Bo,Bp,Bq⟩:=qz5 Ba.out
 have Ap:0≤(a0:Int):=qd
 have Ar:a0 < (Aa.length:Int):=qd
 obtain⟨Ca,Br,Bs,Bt,Bc,Bd,Be,Ab,Ac⟩:=at_T63 Bb.out a0 Ap Ar
 cases Bt
 have Bf:=y0.mk Ac
 have Bg:=y0.mk Ab
 clear Ac Ab
 replace Ap:=eq_true Ap
 replace Ar:=eq_true Ar
 go_enter Try.func91,Try.ntmps91
 go_wp2
 go_ret
 exact qf2
def impl_Rule_hasAny.g (Ae:List (S63)) (Al:Int) (An:ByteArray) (Ao:List Int) (Aq:List (S33)) (x:Int):Bool:=(impl_Rule_hasAny_1.f x Ae Al An Ao Aq).getD false
def impl_Rule_hasAny.f (k:Nat) (Ae:List (S63)) (Al:Int) (An:ByteArray) (Ao:List Int) (Aq:List (S33)) (a1:Int):Option Bool :=
 (impl_Rule_within.f k Ae Al An Ao Aq a1).bind fun xs=>if xs.length≤1099511627776∧(xs.all fun x=>(impl_Rule_hasAny_1.f x Ae Al An Ao Aq).isSome)=true then some ((xs.any (impl_Rule_hasAny.g Ae Al An Ao Aq)))else none
theorem slices_IndexFunc_hasAny.calls (A0:Option Addr) (c0:Nat) (l0:List Int) (Ap:Option Addr) (Ar:Nat) (Aa:List (S63)) (Ad:Int) (Af:ByteArray) (As:Option Addr) (At:Nat) (Ab:List Int) (Au:Option Addr) (Av:Nat) (Ac:List (S33)) (g1:Nat) (w:World) (Bf:Kd.C (Kd.int .i64) w A0 l0.length l0) (Bi:l0.length≤c0) (Ag:Kd.C k63 w Ap Aa.length Aa) (Ah:Aa.length≤Ar) (Ai:Kd.C (Kd.int .i64) w As Ab.length Ab) (Aj:Ab.length≤At) (Ak:Kd.C k33 w Au Ac.length Ac) (Am:Ac.length≤Av) (Aw:w.heap[g1]?=some (.cells #[.slice Ap Aa.length Ar,.int .i64 Ad,.string Af,.slice As Ab.length At,.slice Au Ac.length Av] 36 (0,0)))
  (hn:l0.length≤1099511627776) (hg:∀ x∈l0,(impl_Rule_hasAny_1.f x Aa Ad Af Ab Ac).isSome=true) :
  Calls Try.prog 92 #[.slice A0 l0.length c0,.func (.func 91) #[] #[.pointer (some ⟨g1,0,none⟩)]] w fun e w'=>∃ r:Int,e=.returned (.int .i64 r)∧decide (r≥0)=l0.any (impl_Rule_hasAny.g Aa Ad Af Ab Ac)∧Below w.heap.size w w':=by
 have hlt:=(Array.getElem?_eq_some_iff.1 Aw).1
 replace Bf:=y0.mk Bf
 replace Ag:=y0.mk Ag
 replace Ah:=y0.mk Ah
 replace Ai:=y0.mk Ai
 replace Aj:=y0.mk Aj
 replace Ak:=y0.mk Ak
 replace Am:=y0.mk Am
 replace Aw:=y0.mk Aw
 have HN:=y0.mk hn
 have HG:=y0.mk hg
 clear hn hg Bi
 have HB:=y0.mk (Below.refl w.heap.size w)
 go_enter Try.func92,Try.ntmps92
 go_wp2
 go_loopg [8] l0.length (fun kq v8 w'=>∃(xi:Int) (i:Nat),v8=.int .i64 xi∧y0 (xi=(i:Int))∧y0 (kq + i=l0.length)∧y0 (l0.any (impl_Rule_hasAny.g Aa Ad Af Ab Ac)=(l0.drop i).any (impl_Rule_hasAny.g Aa Ad Af Ab Ac))∧y0 (Below w.heap.size w w'))
 case atStart=>exact⟨0,0,rfl,⟨rfl⟩,⟨Nat.add_zero _⟩,⟨by rw [List.drop_zero]⟩,⟨qb⟩⟩
 case round =>
  obtain⟨xi,i,rfl,HXI,HK,HD,HB⟩:=hrel
  by_cases c3:xi < (l0.length:Int)
  ·have Bd:decide (xi < (l0.length:Int))=true:=decide_eq_true c3
   have hi:i < l0.length:=by have:=HXI.out;omega
   have p1:0≤xi:=by have:=HXI.out;omega
   have rg:rd l0 xi=l0[i]:=by rw [HXI.out];unfold rd;rw [show((i:Int)).toNat=i from rfl,List.getD_eq_getElem?_getD,List.getElem?_eq_getElem hi];rfl
   obtain⟨ad,e1,hx⟩:=Kd.at_int Bf.out xi p1 c3
   cases e1
   rw [rg]at hx
   replace hx:=qC hx HB
   obtain⟨b,Be⟩:=Option.isSome_iff_exists.1 (HG.out _ (List.getElem_mem hi))
   have Bg:impl_Rule_hasAny.g Aa Ad Af Ab Ac l0[i]=b:=by unfold impl_Rule_hasAny.g;rw [Be];rfl
   have HDn:y0 (l0.any (impl_Rule_hasAny.g Aa Ad Af Ab Ac)=(b || (l0.drop (i + 1)).any (impl_Rule_hasAny.g Aa Ad Af Ab Ac))):=⟨by rw [HD.out,List.drop_eq_getElem_cons hi,List.any_cons,Bg]⟩
   have Bh:=y0.mk Be
   have HI:=y0.mk hi
   clear Be Bg rg HD
   generalize l0[i]=x0 at hx Bh
   clear hi
   replace p1:=eq_true p1
   replace c3:=eq_true c3
   have step:∀(w1:World),Below w.heap.size w w1→Calls Try.prog 91 #[.int .i64 x0,.pointer (some ⟨g1,0,none⟩)] w1 fun e w'=>e=.returned (.bool b)∧Below w1.heap.size w1 w':=by
    intro w1 hb
    refine(impl_Rule_hasAny_1.calls x0 Ap Ar Aa Ad Af As At Ab Au Av Ac g1 b w1 (Kd.C_below Ag.out hb) Ah.out (Kd.C_below Ai.out hb) Aj.out (Kd.C_below Ak.out hb) Am.out ((hb.block g1 hlt).trans Aw.out) Bh.out).mono ?_
    rintro e w2 ⟨rfl,hd⟩
    exact⟨rfl,hd.below⟩
   replace step:=y0.mk step
   cases b with
   | true =>
    go_wp2_with (first|(go_at_call 91;(with_reducible refine(step.out _ qb).mono ?_);rintro e w8 ⟨rfl,hb⟩;have n0_:=y0.mk (y4 qb hb);clear HB hb;have HB:=n0_;clear n0_))
    go_ret
    exact⟨xi,by first|rfl|(simp [y12,y13] <;> rfl),by rw [HDn.out,Bool.true_or];exact decide_eq_true (by have:=HXI.out;omega),qb⟩
   | false =>
    go_wp2_with (first|(go_at_call 91;(with_reducible refine(step.out _ qb).mono ?_);rintro e w9 ⟨rfl,hb⟩;have n0_:=y0.mk (y4 qb hb);clear HB hb;have HB:=n0_;clear n0_))
    go_roundg (l0.length - i - 1)
    case measure=>have:=HK.out;have:=HI.out;omega
    exact⟨wrap64 (xi + 1),i + 1,qy2,⟨by rw [HXI.out];exact QIv.step_u (by have:=HN.out;have:=HI.out;omega)⟩,⟨by have:=HI.out;omega⟩,⟨by rw [HDn.out,Bool.false_or]⟩,⟨qb⟩⟩
  ·have Bd:decide (xi < (l0.length:Int))=false:=decide_eq_false c3
   have hd:l0.drop i=[]:=List.drop_of_length_le (by have:=HXI.out;have:=HK.out;omega)
   have HE:y0 (l0.any (impl_Rule_hasAny.g Aa Ad Af Ab Ac)=false):=⟨by rw [HD.out,hd];rfl⟩
   clear hd
   go_wp2
   go_ret
   exact⟨-1,by first|rfl|(simp [y12,y13] <;> rfl),by rw [HE.out];rfl,qb⟩
theorem slices_ContainsFunc_hasAny.calls (A0:Option Addr) (c0:Nat) (l0:List Int) (Aj:Option Addr) (Ak:Nat) (Aa:List (S63)) (Ad:Int) (Af:ByteArray) (Am:Option Addr) (Ap:Nat) (Ab:List Int) (Ar:Option Addr) (As:Nat) (Ac:List (S33)) (g1:Nat) (w:World) (Ax:Kd.C (Kd.int .i64) w A0 l0.length l0) (Ay:l0.length≤c0) (Ag:Kd.C k63 w Aj Aa.length Aa) (At:Aa.length≤Ak) (Ah:Kd.C (Kd.int .i64) w Am Ab.length Ab) (Au:Ab.length≤Ap) (Ai:Kd.C k33 w Ar Ac.length Ac) (Av:Ac.length≤As) (Aw:w.heap[g1]?=some (.cells #[.slice Aj Aa.length Ak,.int .i64 Ad,.string Af,.slice Am Ab.length Ap,.slice Ar Ac.length As] 36 (0,0)))
  (hn:l0.length≤1099511627776) (hg:∀ x∈l0,(impl_Rule_hasAny_1.f x Aa Ad Af Ab Ac).isSome=true) :
  Calls Try.prog 81 #[.slice A0 l0.length c0,.func (.func 91) #[] #[.pointer (some ⟨g1,0,none⟩)]] w fun e w'=>e=.returned (.bool (l0.any (impl_Rule_hasAny.g Aa Ad Af Ab Ac)))∧Below w.heap.size w w':=by
 have HC:=y0.mk (slices_IndexFunc_hasAny.calls A0 c0 l0 Aj Ak Aa Ad Af Am Ap Ab Ar As Ac g1 w Ax Ay Ag At Ah Au Ai Av Aw hn hg)
 have HB:=y0.mk (Below.refl w.heap.size w)
 clear hn hg Aw Ax Ag Ah Ai
 go_enter Try.func81,Try.ntmps81
 go_wp2_with (first|(go_at_call 92;(with_reducible refine HC.out.mono ?_);rintro e w8 ⟨r,rfl,hr,hb⟩;have HR:=y0.mk hr;have n0_:=y0.mk (y4 qb hb);clear HB hb hr;have HB:=n0_;clear n0_))
 go_ret
 exact⟨by rw [← HR.out];first|rfl|(simp [y12,y13] <;> rfl),qb⟩
theorem impl_Rule_hasAny.calls (k:Nat) (Ag:Option Addr) (Ah:Nat) (Aa:List (S63)) (Ad:Int) (Af:ByteArray) (Ai:Option Addr) (Aj:Nat) (Ab:List Int) (Ak:Option Addr) (Am:Nat) (Ac:List (S33)) (a1:Int) (r:Bool) (w:World) (Ba:Kd.C k63 w Ag Aa.length Aa) (Bb:Aa.length≤Ah) (Bc:Kd.C (Kd.int .i64) w Ai Ab.length Ab) (Bd:Ab.length≤Aj) (Be:Kd.C k33 w Ak Ac.length Ac) (Bf:Ac.length≤Am) (h:impl_Rule_hasAny.f k Aa Ad Af Ab Ac a1=some r) :
  Calls Try.prog 78 #[.agg #[.slice Ag Aa.length Ah,.int .i64 Ad,.string Af,.slice Ai Ab.length Aj,.slice Ak Ac.length Am],.int .i64 a1] w fun e w'=>e=.returned (.bool r)∧Below w.heap.size w w':=by
 unfold impl_Rule_hasAny.f at h
 obtain⟨xs,E1,h⟩:=Option.bind_eq_some_iff.1 h
 by_cases hc:xs.length≤1099511627776∧(xs.all fun x=>(impl_Rule_hasAny_1.f x Aa Ad Af Ab Ac).isSome)=true
 case neg=>rw [if_neg hc]at h;cases h
 rw [if_pos hc]at h
 obtain rfl:=Option.some.inj h
 clear h
 have HLN:=y0.mk hc.1
 have HAL:=y0.mk (List.all_eq_true.1 hc.2)
 clear hc
 replace E1:=y0.mk E1
 replace Ba:=y0.mk Ba
 replace Bb:=y0.mk Bb
 replace Bc:=y0.mk Bc
 replace Bd:=y0.mk Bd
 replace Be:=y0.mk Be
 replace Bf:=y0.mk Bf
 have HB:=y0.mk (Below.refl w.heap.size w)
 have Bm:=Try.underlying36
 go_enter Try.func78,Try.ntmps78
 go_wp2_with (first
  | ((with_reducible refine y16 (N:=2) rfl ?_);refine qe 2 #[.slice Ag Aa.length Ah,.int .i64 Ad,.string Af,.slice Ai Ab.length Aj,.slice Ak Ac.length Am] 36 ?_;intro gr hg w1 hbox hb;have BKr:=y0.mk (hbox);have GEr:=y0.mk ((by rw [hg];exact HB.out.size:w.heap.size≤gr));replace HB:=y0.mk (y4 HB.out hb);clear hb hg hbox;obtain⟨Ap,Ar,As,At,Au,Av,Aw,Ax,Ay,Az⟩:=QIv.box5 BKr.out)
  | (go_at_call 53;(with_reducible refine(impl_Rule_within.calls k _ _ Aa Ad Af _ _ Ab _ _ Ac a1 xs _ (Kd.C_below Ba.out HB.out) Bb.out (Kd.C_below Bc.out HB.out) Bd.out (Kd.C_below Be.out HB.out) Bf.out E1.out).mono ?_);rintro e w2 ⟨v_,rfl,ho,hb⟩;obtain⟨loX,hiX,hlo_,hhi_,hOX_⟩:=QIv.OR.new ho;obtain⟨AX,cX,eA_⟩:=hOX_.slice;subst eA_;(repeat first|clear Ap|clear Ar|clear As|clear At|clear Au|clear Av|clear Aw|clear Ax|clear Ay|clear Az);have OX:=y0.mk (hOX_);have LX:=y0.mk ((by rw [hhi_];exact Nat.le_refl _:hiX≤_));have BX:=y0.mk ((by rw [hlo_];exact HB.out.size:w.heap.size≤loX));have IX:=y0.mk ((by rw [hlo_,hhi_];exact hb.size:loX≤hiX));have Er_X:=y0.mk ((by rw [hlo_];exact QIv.ki_lt BKr.out:gr < loX));replace BKr:=y0.mk (y6 (g:=gr) (o:=(.cells #[.slice Ag Aa.length Ah,.int .i64 Ad,.string Af,.slice Ai Ab.length Aj,.slice Ak Ac.length Am] 36 (0,0))) BKr.out hb);replace HB:=y0.mk (y4 HB.out hb);(try clear hb);(try clear ho);(try clear hlo_);(try clear hhi_);obtain⟨Ap,Ar,As,At,Au,Av,Aw,Ax,Ay,Az⟩:=QIv.box5 BKr.out)
  | (go_at_call 81;(with_reducible refine(slices_ContainsFunc_hasAny.calls _ _ xs _ _ Aa Ad Af _ _ Ab _ _ Ac gr _ OX.out.C OX.out.le (Kd.C_below Ba.out HB.out) Bb.out (Kd.C_below Bc.out HB.out) Bd.out (Kd.C_below Be.out HB.out) Bf.out BKr.out HLN.out HAL.out).mono ?_);rintro e w3 ⟨rfl,hb⟩;(repeat first|clear Ap|clear Ar|clear As|clear At|clear Au|clear Av|clear Aw|clear Ax|clear Ay|clear Az);replace OX:=y0.mk (OX.out.below hb);replace LX:=y0.mk (Nat.le_trans LX.out hb.size);replace BKr:=y0.mk (y6 (g:=gr) (o:=(.cells #[.slice Ag Aa.length Ah,.int .i64 Ad,.string Af,.slice Ai Ab.length Aj,.slice Ak Ac.length Am] 36 (0,0))) BKr.out hb);replace HB:=y0.mk (y4 HB.out hb);(try clear hb);obtain⟨Ap,Ar,As,At,Au,Av,Aw,Ax,Ay,Az⟩:=QIv.box5 BKr.out))
 go_ret
 exact⟨by first|rfl|(simp [y12,y13] <;> rfl),HB.out⟩
def lsTB (AN:Int→Bool) (VR:Int→List ByteArray) (S:List ByteArray) (x:Int):Bool:=!(AN x) && !((VR x).any (fun s=>!QSet.hasB S s))
theorem impl_Rule_bound_1_1.calls (s:ByteArray) (g1 gm:Nat) (S:List ByteArray) (w:World) (hb1:w.heap[g1]?=some (.cells #[.map (some gm)] 85 (0,0))) (hm:QSet.MS w gm S) (hs:s.size≤1099511627776) :
  Calls Try.prog 79 #[.string s,.pointer (some ⟨g1,0,none⟩)] w fun e w'=>e=.returned (.bool (!QSet.hasB S s))∧Below w.heap.size w w':=by
 have HB:=y0.mk (Below.refl w.heap.size w)
 replace hm:=y0.mk hm
 replace hs:=y0.mk hs
 replace hb1:=y0.mk hb1
 have hcs_0:w.cell? ⟨g1,0,none⟩=some (.map (some gm)):=(y7 hb1.out 0).trans rfl
 have hfs_0:=blk_frozen hb1.out 0
 go_enter Try.func79,Try.ntmps79
 go_wp2_with (first|((with_reducible refine y16 (N:=6) rfl ?_);refine QSet.look_event rfl (.tmp 4) (.tmp 5) rfl rfl (s:=s) rfl hm.out (by have:=hs.out;unfold maxLen;omega) ?_))
 go_ret
 exact⟨by first|rfl|(simp [y12,y13] <;> rfl),HB.out⟩
theorem slices_IndexFunc_Rule_bound_1_1.calls (A0:Option Addr) (c0:Nat) (l0:List ByteArray) (g1:Nat) (gm:Nat) (S:List ByteArray) (w:World) (Ab:Kd.C Kd.string w A0 l0.length l0) (Ac:l0.length≤c0) (hn:l0.length≤1099511627776) (hsz:∀ s∈l0,s.size≤1099511627776) (Ad:w.heap[g1]?=some (.cells #[.map (some gm)] 85 (0,0))) (hm:QSet.MS w gm S) :
  Calls Try.prog 76 #[.slice A0 l0.length c0,.func (.func 79) #[] #[.pointer (some ⟨g1,0,none⟩)]] w fun e w'=>∃ r:Int,e=.returned (.int .i64 r)∧decide (r≥0)=l0.any (fun s=>!QSet.hasB S s)∧Below w.heap.size w w':=by
 have HCALL:y0 (∀(w1:World) (s:ByteArray),s∈l0→Below w.heap.size w w1→Calls Try.prog 79 #[.string s,.pointer (some ⟨g1,0,none⟩)] w1 fun e w'=>e=.returned (.bool (!QSet.hasB S s))∧Below w1.heap.size w1 w'):=⟨fun w1 s hs hb=>(impl_Rule_bound_1_1.calls s g1 gm S w1 (y6 Ad hb) (hm.below hb) (hsz s hs))⟩
 have Af:=y0.mk Ab
 have HN:=y0.mk hn
 clear Ab hn Ac
 have HB:=y0.mk (Below.refl w.heap.size w)
 go_enter Try.func76,Try.ntmps76
 go_wp2
 go_loopg [8] l0.length (fun kq v8 w'=>∃(xi:Int) (i:Nat),v8=.int .i64 xi∧y0 (xi=(i:Int))∧y0 (kq + i=l0.length)∧y0 (l0.any (fun s=>!QSet.hasB S s)=(l0.drop i).any (fun s=>!QSet.hasB S s))∧y0 (Below w.heap.size w w'))
 case atStart=>exact⟨0,0,rfl,⟨rfl⟩,⟨Nat.add_zero _⟩,⟨by rw [List.drop_zero]⟩,⟨qb⟩⟩
 case round =>
  obtain⟨xi,i,rfl,HXI,HK,HD,HB⟩:=hrel
  by_cases c3:xi < (l0.length:Int)
  ·have Aa:decide (xi < (l0.length:Int))=true:=decide_eq_true c3
   have hi:i < l0.length:=by have:=HXI.out;omega
   have p1:0≤xi:=by have:=HXI.out;omega
   have rg:rdOf ByteArray.empty l0 xi=l0[i]:=by rw [HXI.out];unfold rdOf;rw [show((i:Int)).toNat=i from rfl,List.getD_eq_getElem?_getD,List.getElem?_eq_getElem hi];rfl
   obtain⟨ad,e1,hx⟩:=Kd.at_string Af.out xi p1 c3
   cases e1
   rw [rg]at hx
   replace hx:=qC hx HB
   have HSt:=y0.mk (fun(w1:World) (hb:Below w.heap.size w w1)=>HCALL.out w1 _ (List.getElem_mem hi) hb)
   have HDn:y0 (l0.any (fun s=>!QSet.hasB S s)=((!QSet.hasB S l0[i]) || (l0.drop (i + 1)).any (fun s=>!QSet.hasB S s))):=⟨by rw [HD.out,List.drop_eq_getElem_cons hi,List.any_cons]⟩
   clear rg HD
   generalize l0[i]=x0 at hx HSt HDn
   replace hi:=y0.mk hi
   generalize (!QSet.hasB S x0)=b at HSt HDn
   replace p1:=eq_true p1
   replace c3:=eq_true c3
   cases b with
   | true =>
    go_wp2_with (first|(go_at_call 79;(with_reducible refine(HSt.out _ qb).mono ?_);rintro e w8 ⟨rfl,hb⟩;have n0_:=y0.mk (y4 qb hb);clear HB hb;have HB:=n0_;clear n0_))
    go_ret
    exact⟨xi,by first|rfl|(simp [y12,y13] <;> rfl),by rw [HDn.out,Bool.true_or];exact decide_eq_true (by have:=HXI.out;omega),qb⟩
   | false =>
    go_wp2_with (first|(go_at_call 79;(with_reducible refine(HSt.out _ qb).mono ?_);rintro e w9 ⟨rfl,hb⟩;have n0_:=y0.mk (y4 qb hb);clear HB hb;have HB:=n0_;clear n0_))
    go_roundg (l0.length - i - 1)
    case measure=>have:=HK.out;have:=hi.out;omega
    exact⟨wrap64 (xi + 1),i + 1,qy2,⟨by rw [HXI.out];exact QIv.step_u (by have:=HN.out;have:=hi.out;omega)⟩,⟨by have:=hi.out;omega⟩,⟨by rw [HDn.out,Bool.false_or]⟩,⟨qb⟩⟩
  ·have Aa:decide (xi < (l0.length:Int))=false:=decide_eq_false c3
   have hd:l0.drop i=[]:=List.drop_of_length_le (by have:=HXI.out;have:=HK.out;omega)
   have HE:y0 (l0.any (fun s=>!QSet.hasB S s)=false):=⟨by rw [HD.out,hd];rfl⟩
   clear hd
   go_wp2
   go_ret
   exact⟨-1,by first|rfl|(simp [y12,y13] <;> rfl),by rw [HE.out];rfl,qb⟩
theorem slices_ContainsFunc_Rule_bound_1_1.calls (A0:Option Addr) (c0:Nat) (l0:List ByteArray) (g1:Nat) (gm:Nat) (S:List ByteArray) (w:World) (hr0:Kd.C Kd.string w A0 l0.length l0) (hc0:l0.length≤c0) (hn:l0.length≤1099511627776) (hsz:∀ s∈l0,s.size≤1099511627776) (hb1:w.heap[g1]?=some (.cells #[.map (some gm)] 85 (0,0))) (hm:QSet.MS w gm S) :
  Calls Try.prog 62 #[.slice A0 l0.length c0,.func (.func 79) #[] #[.pointer (some ⟨g1,0,none⟩)]] w fun e w'=>e=.returned (.bool (l0.any (fun s=>!QSet.hasB S s)))∧Below w.heap.size w w':=by
 have HC:=y0.mk (slices_IndexFunc_Rule_bound_1_1.calls A0 c0 l0 g1 gm S w hr0 hc0 hn hsz hb1 hm)
 have HB:=y0.mk (Below.refl w.heap.size w)
 clear hn hsz hr0
 go_enter Try.func62,Try.ntmps62
 go_wp2_with (first|(go_at_call 76;(with_reducible refine HC.out.mono ?_);rintro e w8 ⟨r,rfl,hr,hb⟩;have HR:=y0.mk hr;have n0_:=y0.mk (y4 qb hb);clear HB hb hr;have HB:=n0_;clear n0_))
 go_ret
 exact⟨by rw [← HR.out];first|rfl|(simp [y12,y13] <;> rfl),qb⟩
theorem impl_Rule_bound_1.calls (k:Nat) (Bi:Option Addr) (Bj:Nat) (Ar:List (S63)) (Au:Int) (Av:ByteArray) (Bk:Option Addr) (Bl:Nat) (As:List Int) (Bm:Option Addr) (Bn:Nat) (At:List (S33)) (gt gm:Nat) (S:List ByteArray) (x y:Int) (AN:Int→Bool) (VR:Int→List ByteArray) (w:World) (Bc:Kd.C k63 w Bi Ar.length Ar) (Bd:Ar.length≤Bj) (Be:Kd.C (Kd.int .i64) w Bk As.length As) (Bf:As.length≤Bl) (Bg:Kd.C k33 w Bm At.length At) (Bh:At.length≤Bn) (hbt:w.heap[gt]?=some (.cells #[.slice Bi Ar.length Bj,.int .i64 Au,.string Av,.slice Bk As.length Bl,.slice Bm At.length Bn] 36 (0,0))) (hm:QSet.MS w gm S) (ha:impl_Rule_hasAny.f k Ar Au Av As At x=some (AN x)) (hv:impl_Rule_vars.f k Ar Au Av As At x=some (VR x)) (hl:(VR x).length≤1048576) (hsz:∀ s∈VR x,s.size≤1048576) :
  Calls Try.prog 77 #[.int .i64 x,.int .i64 y,.map (some gm),.pointer (some ⟨gt,0,none⟩)] w fun e w'=>e=.returned (.bool (lsTB AN VR S x))∧Below w.heap.size w w':=by
 replace Bc:=y0.mk Bc
 replace Bd:=y0.mk Bd
 replace Be:=y0.mk Be
 replace Bf:=y0.mk Bf
 replace Bg:=y0.mk Bg
 replace Bh:=y0.mk Bh
 have HB:=y0.mk (Below.refl w.heap.size w)
 replace hm:=y0.mk hm
 replace hbt:=y0.mk hbt
 have HL:=y0.mk hl
 have HSZ:=y0.mk hsz
 clear hl hsz
 have Bo:=Try.underlying36
 replace hv:=y0.mk hv
 obtain⟨h,hh⟩:∃ h,AN x=h:=⟨_,rfl⟩
 rw [hh]at ha
 have HA:=y0.mk ha
 have HT:y0 (lsTB AN VR S x=(!h && !((VR x).any (fun s=>!QSet.hasB S s)))):=⟨by unfold lsTB;rw [hh]⟩
 clear ha hh
 cases h with
 | true =>
  obtain⟨Aa,Ab,Ac,Ad,Af,Ag,Ah,Ai,Aj,Ak⟩:=QSet.bx5 hbt.out
  go_enter Try.func77,Try.ntmps77
  go_wp2_with (first
   | ((with_reducible refine y16 (N:=6) rfl ?_);refine qe 6 #[.map (some gm)] 85 ?_;intro gs hg w1 hbox hb;(repeat first|clear Aa|clear Ag|clear Ab|clear Ah|clear Ac|clear Ai|clear Ad|clear Aj|clear Af|clear Ak);have BKs:=y0.mk (hbox);have GEs:=y0.mk ((by rw [hg];exact HB.out.size:w.heap.size≤gs));have Nt_s:=y0.mk ((by rw [hg];exact Nat.ne_of_lt (blk_lt hbt.out):gt≠gs));have Nm_s:=y0.mk ((by rw [hg];exact Nat.ne_of_lt hm.out.lt:gm≠gs));replace hbt:=y0.mk (y6 hbt.out hb);replace hm:=y0.mk (QSet.MS.below hm.out hb);replace HB:=y0.mk (y4 HB.out hb);clear hb hg hbox;obtain⟨Aa,Ab,Ac,Ad,Af,Ag,Ah,Ai,Aj,Ak⟩:=QSet.bx5 hbt.out;obtain⟨Am,Ap⟩:=QSet.bx1 BKs.out)
   | (go_at_call 78;(with_reducible refine(impl_Rule_hasAny.calls k _ _ Ar Au Av _ _ As _ _ At x true _ (Kd.C_below Bc.out HB.out) Bd.out (Kd.C_below Be.out HB.out) Bf.out (Kd.C_below Bg.out HB.out) Bh.out HA.out).mono ?_);rintro e_ w2 ⟨rfl,hb⟩;(repeat first|clear Aa|clear Ag|clear Ab|clear Ah|clear Ac|clear Ai|clear Ad|clear Aj|clear Af|clear Ak|clear Am|clear Ap);replace hbt:=y0.mk (y6 hbt.out hb);replace BKs:=y0.mk (y6 BKs.out hb);replace hm:=y0.mk (QSet.MS.below hm.out hb);replace HB:=y0.mk (y4 HB.out hb);(try clear hb);(try clear hd_);(try clear ho);obtain⟨Aa,Ab,Ac,Ad,Af,Ag,Ah,Ai,Aj,Ak⟩:=QSet.bx5 hbt.out;obtain⟨Am,Ap⟩:=QSet.bx1 BKs.out))
  go_ret
  exact⟨by rw [HT.out];first|rfl|(simp [y12,y13] <;> rfl),HB.out⟩
 | false =>
  obtain⟨Aa,Ab,Ac,Ad,Af,Ag,Ah,Ai,Aj,Ak⟩:=QSet.bx5 hbt.out
  go_enter Try.func77,Try.ntmps77
  go_wp2_with (first
   | ((with_reducible refine y16 (N:=6) rfl ?_);refine qe 6 #[.map (some gm)] 85 ?_;intro gs hg w1 hbox hb;(repeat first|clear Aa|clear Ag|clear Ab|clear Ah|clear Ac|clear Ai|clear Ad|clear Aj|clear Af|clear Ak);have BKs:=y0.mk (hbox);have GEs:=y0.mk ((by rw [hg];exact HB.out.size:w.heap.size≤gs));have Nt_s:=y0.mk ((by rw [hg];exact Nat.ne_of_lt (blk_lt hbt.out):gt≠gs));have Nm_s:=y0.mk ((by rw [hg];exact Nat.ne_of_lt hm.out.lt:gm≠gs));replace hbt:=y0.mk (y6 hbt.out hb);replace hm:=y0.mk (QSet.MS.below hm.out hb);replace HB:=y0.mk (y4 HB.out hb);clear hb hg hbox;obtain⟨Aa,Ab,Ac,Ad,Af,Ag,Ah,Ai,Aj,Ak⟩:=QSet.bx5 hbt.out;obtain⟨Am,Ap⟩:=QSet.bx1 BKs.out)
   | (go_at_call 78;(with_reducible refine(impl_Rule_hasAny.calls k _ _ Ar Au Av _ _ As _ _ At x false _ (Kd.C_below Bc.out HB.out) Bd.out (Kd.C_below Be.out HB.out) Bf.out (Kd.C_below Bg.out HB.out) Bh.out HA.out).mono ?_);rintro e_ w2 ⟨rfl,hb⟩;(repeat first|clear Aa|clear Ag|clear Ab|clear Ah|clear Ac|clear Ai|clear Ad|clear Aj|clear Af|clear Ak|clear Am|clear Ap);replace hbt:=y0.mk (y6 hbt.out hb);replace BKs:=y0.mk (y6 BKs.out hb);replace hm:=y0.mk (QSet.MS.below hm.out hb);replace HB:=y0.mk (y4 HB.out hb);(try clear hb);(try clear hd_);(try clear ho);obtain⟨Aa,Ab,Ac,Ad,Af,Ag,Ah,Ai,Aj,Ak⟩:=QSet.bx5 hbt.out;obtain⟨Am,Ap⟩:=QSet.bx1 BKs.out)
   | ((try(refine gate_guard (by rfl) ?_;dsimp only));go_at_call 30;(with_reducible refine(impl_Rule_vars.calls k _ _ Ar Au Av _ _ As _ _ At x (VR x) _ (Kd.C_below Bc.out HB.out) Bd.out (Kd.C_below Be.out HB.out) Bf.out (Kd.C_below Bg.out HB.out) Bh.out hv.out).mono ?_);rintro e_ w3 ⟨v_,rfl,ho,hb⟩;obtain⟨AV,cV,eV_⟩:=Kd.R_slice ho;subst eV_;(repeat first|clear Aa|clear Ag|clear Ab|clear Ah|clear Ac|clear Ai|clear Ad|clear Aj|clear Af|clear Ak|clear Am|clear Ap);have HOV:=y0.mk (Kd.R_lower ho (y3 HB.out));replace hbt:=y0.mk (y6 hbt.out hb);replace BKs:=y0.mk (y6 BKs.out hb);replace hm:=y0.mk (QSet.MS.below hm.out hb);replace HB:=y0.mk (y4 HB.out hb);(try clear hb);(try clear hd_);(try clear ho);obtain⟨Aa,Ab,Ac,Ad,Af,Ag,Ah,Ai,Aj,Ak⟩:=QSet.bx5 hbt.out;obtain⟨Am,Ap⟩:=QSet.bx1 BKs.out)
   | ((try(refine gate_guard (by rfl) ?_;dsimp only));go_at_call 62;(with_reducible refine(slices_ContainsFunc_Rule_bound_1_1.calls _ _ (VR x) gs gm S _ (Kd.R_reads' HOV.out).2.2 (Kd.R_reads' HOV.out).2.1 (by have:=HL.out;omega) (fun s hs=>by have:=HSZ.out s hs;omega) BKs.out hm.out).mono ?_);rintro e_ w4 ⟨rfl,hb⟩;(repeat first|clear Aa|clear Ag|clear Ab|clear Ah|clear Ac|clear Ai|clear Ad|clear Aj|clear Af|clear Ak|clear Am|clear Ap);replace HOV:=y0.mk (Kd.R_below HOV.out hb);replace hbt:=y0.mk (y6 hbt.out hb);replace BKs:=y0.mk (y6 BKs.out hb);replace hm:=y0.mk (QSet.MS.below hm.out hb);replace HB:=y0.mk (y4 HB.out hb);(try clear hb);(try clear hd_);(try clear ho);obtain⟨Aa,Ab,Ac,Ad,Af,Ag,Ah,Ai,Aj,Ak⟩:=QSet.bx5 hbt.out;obtain⟨Am,Ap⟩:=QSet.bx1 BKs.out))
  go_ret
  exact⟨by rw [HT.out];first|rfl|(simp [y12,y13] <;> rfl),HB.out⟩
def lsANf (k:Nat) (es:List (S63)) (a:Int) (b:ByteArray) (c:List Int) (bd:List (S33)) (x:Int):Bool:=(impl_Rule_hasAny.f k es a b c bd x).getD false
def lsOkB (k:Nat) (es:List (S63)) (a:Int) (b:ByteArray) (c:List Int) (bd:List (S33)):Bool:=lsOk k es a b c bd && bd.all (fun l=>l.f2.all (fun x=>(impl_Rule_hasAny.f k es a b c bd x).isSome))
theorem lsOkB_spec {k:Nat} {es:List (S63)} {a:Int} {b:ByteArray} {c:List Int} {bd:List (S33)} (h:lsOkB k es a b c bd=true):lsOk k es a b c bd=true∧∀ l∈bd,∀ x∈l.f2,impl_Rule_hasAny.f k es a b c bd x=some (lsANf k es a b c bd x):=by
 unfold lsOkB at h
 simp only [Bool.and_eq_true,List.all_eq_true]at h
 refine⟨h.1,fun l hl x hx=>?_⟩
 obtain⟨v,hv⟩:=Option.isSome_iff_exists.1 (h.2 l hl x hx)
 unfold lsANf
 rw [hv]
 rfl
def impl_Rule_bound.f (k:Nat) (Ae:List (S63)) (Al:Int) (An:ByteArray) (Ao:List Int) (Aq:List (S33)):Option (List ByteArray):=if lsOkB k Ae Al An Ao Aq=true then some (lsRes k Ae Al An Ao Aq (lsTB (lsANf k Ae Al An Ao Aq) (lsVRf k Ae Al An Ao Aq)))else none
theorem impl_Rule_bound.calls (k:Nat) (Bg:Option Addr) (Bh:Nat) (Aa:List (S63)) (Ad:Int) (Af:ByteArray) (Bi:Option Addr) (Bj:Nat) (Ab:List Int) (Bk:Option Addr) (Bl:Nat) (Ac:List (S33)) (r:List ByteArray) (w:World) (Ag:Kd.C k63 w Bg Aa.length Aa) (Ah:Aa.length≤Bh) (Ai:Kd.C (Kd.int .i64) w Bi Ab.length Ab) (Aj:Ab.length≤Bj) (Ak:Kd.C k33 w Bk Ac.length Ac) (Am:Ac.length≤Bl) (h:impl_Rule_bound.f k Aa Ad Af Ab Ac=some r) :
  Calls Try.prog 63 #[.agg #[.slice Bg Aa.length Bh,.int .i64 Ad,.string Af,.slice Bi Ab.length Bj,.slice Bk Ac.length Bl]] w fun e w'=>∃ v0_:Value,e=.returned (v0_)∧Kd.R Kd.string 9 w' w.heap.size (fun _=>True) v0_ r∧Below w.heap.size w w':=by
 unfold impl_Rule_bound.f at h
 by_cases hk:lsOkB k Aa Ad Af Ab Ac=true
 case neg=>rw [if_neg hk]at h;cases h
 rw [if_pos hk]at h
 obtain rfl:=Option.some.inj h
 clear h
 obtain⟨g0,g7⟩:=lsOkB_spec hk
 obtain⟨g1,g2,g3,g4,g5,g6⟩:=lsOk_spec g0
 clear hk g0
 replace Ag:=y0.mk Ag
 replace Ah:=y0.mk Ah
 replace Ai:=y0.mk Ai
 replace Aj:=y0.mk Aj
 replace Ak:=y0.mk Ak
 replace Am:=y0.mk Am
 have Bo:=y0.mk g1
 have Bn:=y0.mk g2
 have Bp:=y0.mk g3
 have Bq:=y0.mk g4
 have Br:=y0.mk g5
 have Bm:=y0.mk g6
 have Bs:=y0.mk g7
 clear g1 g2 g3 g4 g5 g6 g7
 have HB:=y0.mk (Below.refl w.heap.size w)
 have Bt:=Try.underlying36
 go_enter Try.func63,Try.ntmps63
 go_wp2_with (first
  | ((with_reducible refine y16 (N:=1) rfl ?_);refine qe 1 #[.slice Bg Aa.length Bh,.int .i64 Ad,.string Af,.slice Bi Ab.length Bj,.slice Bk Ac.length Bl] 36 ?_;intro gt hg w1 hbox hb;have BKt:=y0.mk (hbox);have GEt:=y0.mk ((by rw [hg];exact HB.out.size:w.heap.size≤gt));replace HB:=y0.mk (y4 HB.out hb);clear hb hg hbox;obtain⟨Aw,Ax,Ay,Az,Ba,Bb,Bc,Bd,Be,Bf⟩:=QSet.bx5 BKt.out)
  | (go_at_call 59;(with_reducible refine(impl_Rule_least.calls _ Try.call77 k _ _ Aa Ad Af _ _ Ab _ _ Ac gt (lsPLf k Aa Ad Af Ab Ac) (lsVRf k Aa Ad Af Ab Ac) (lsPTf k Aa Ad Af Ab Ac) (lsTB (lsANf k Aa Ad Af Ab Ac) (lsVRf k Aa Ad Af Ab Ac)) _ (Kd.C_below Ag.out HB.out) Ah.out (Kd.C_below Ai.out HB.out) Aj.out (Kd.C_below Ak.out HB.out) Am.out ⟨fun l hl x hx=>(lsArg_spec (Bm.out l hl x hx)).2.1⟩ ⟨fun l hl x hx=>(lsArg_spec (Bm.out l hl x hx)).2.2.1⟩ ⟨fun l hl x hx=>(lsArg_spec (Bm.out l hl x hx)).2.2.2⟩ Br Bo Bn Bp Bq ⟨fun W g S l x y hb_ hm_ hl_ hx_=>impl_Rule_bound_1.calls k _ _ Aa Ad Af _ _ Ab _ _ Ac gt g S x y (lsANf k Aa Ad Af Ab Ac) (lsVRf k Aa Ad Af Ab Ac) W (Kd.C_below Ag.out (y4 HB.out hb_)) Ah.out (Kd.C_below Ai.out (y4 HB.out hb_)) Aj.out (Kd.C_below Ak.out (y4 HB.out hb_)) Am.out (y6 BKt.out hb_) hm_ (Bs.out l hl_ x hx_) (lsArg_spec (Bm.out l hl_ x hx_)).2.2.1.1 (lsArg_spec (Bm.out l hl_ x hx_)).2.2.1.2.1 (fun s hs=>by obtain⟨e_,he_,rfl⟩:=(lsArg_spec (Bm.out l hl_ x hx_)).2.2.1.2.2 s hs;exact Bn.out e_ he_)⟩).mono ?_);rintro e_ w2 ⟨v_,rfl,ho,hb⟩;obtain⟨Ao,co,eo_⟩:=Kd.R_slice ho;subst eo_;(repeat first|clear Aw|clear Bb|clear Ax|clear Bc|clear Ay|clear Bd|clear Az|clear Be|clear Ba|clear Bf);have HOo:=y0.mk (Kd.R_lower ho (y3 HB.out));replace BKt:=y0.mk (y6 BKt.out hb);replace HB:=y0.mk (y4 HB.out hb);(try clear hb);(try clear hd_);(try clear ho);obtain⟨Aw,Ax,Ay,Az,Ba,Bb,Bc,Bd,Be,Bf⟩:=QSet.bx5 BKt.out))
 go_ret
 exact⟨_,by first|rfl|(simp [y12,y13] <;> rfl),HOo.out,HB.out⟩
theorem impl_Rule_grows_1.calls (s:ByteArray) (g1:Nat) (Ao:Option Addr) (co:Nat) (S:List ByteArray) (w:World) (hb1:w.heap[g1]?=some (.cells #[.slice Ao S.length co] 30 (0,0))) (hr:Kd.C Kd.string w Ao S.length S) (hc:S.length≤co) (ho:S.length≤1099511627776) :
  Calls Try.prog 64 #[.string s,.pointer (some ⟨g1,0,none⟩)] w fun e w'=>e=.returned (.bool (!QSet.hasB S s))∧Below w.heap.size w w':=by
 have HB:=y0.mk (Below.refl w.heap.size w)
 obtain⟨k,hk⟩:=lsHas S s ho
 have HK:=y0.mk hk
 have HR:=y0.mk hr
 have HC:=y0.mk hc
 clear hk hr hc ho
 replace hb1:=y0.mk hb1
 have hcs_0:w.cell? ⟨g1,0,none⟩=some (.slice Ao S.length co):=(y7 hb1.out 0).trans rfl
 have hfs_0:=blk_frozen hb1.out 0
 go_enter Try.func64,Try.ntmps64
 go_wp2_with (first|(go_at_call 54;(with_reducible refine(slices_Contains_string_string.calls k _ _ S s _ _ HR.out HC.out HK.out).mono ?_);rintro e_ w2 ⟨rfl,hd_⟩;have hb:=hd_.below;replace HB:=y0.mk (y4 HB.out hb);clear hb hd_))
 go_ret
 exact⟨by first|rfl|(simp [y12,y13] <;> rfl),HB.out⟩
theorem slices_IndexFunc_Rule_grows_1.calls (A0:Option Addr) (c0:Nat) (l0:List ByteArray) (g1:Nat) (Ao:Option Addr) (co:Nat) (S:List ByteArray) (w:World) (Ab:Kd.C Kd.string w A0 l0.length l0) (Ac:l0.length≤c0) (hn:l0.length≤1099511627776) (hsz:∀ s∈l0,s.size≤1099511627776) (Ad:w.heap[g1]?=some (.cells #[.slice Ao S.length co] 30 (0,0))) (hr:Kd.C Kd.string w Ao S.length S) (hc:S.length≤co) (ho:S.length≤1099511627776) :
  Calls Try.prog 76 #[.slice A0 l0.length c0,.func (.func 64) #[] #[.pointer (some ⟨g1,0,none⟩)]] w fun e w'=>∃ r:Int,e=.returned (.int .i64 r)∧decide (r≥0)=l0.any (fun s=>!QSet.hasB S s)∧Below w.heap.size w w':=by
 have HCALL:y0 (∀(w1:World) (s:ByteArray),s∈l0→Below w.heap.size w w1→Calls Try.prog 64 #[.string s,.pointer (some ⟨g1,0,none⟩)] w1 fun e w'=>e=.returned (.bool (!QSet.hasB S s))∧Below w1.heap.size w1 w'):=⟨fun w1 s hs hb=>(impl_Rule_grows_1.calls s g1 Ao co S w1 (y6 Ad hb) (Kd.C_below hr hb) hc ho)⟩
 have Af:=y0.mk Ab
 have HN:=y0.mk hn
 clear Ab hn Ac
 have HB:=y0.mk (Below.refl w.heap.size w)
 go_enter Try.func76,Try.ntmps76
 go_wp2
 go_loopg [8] l0.length (fun kq v8 w'=>∃(xi:Int) (i:Nat),v8=.int .i64 xi∧y0 (xi=(i:Int))∧y0 (kq + i=l0.length)∧y0 (l0.any (fun s=>!QSet.hasB S s)=(l0.drop i).any (fun s=>!QSet.hasB S s))∧y0 (Below w.heap.size w w'))
 case atStart=>exact⟨0,0,rfl,⟨rfl⟩,⟨Nat.add_zero _⟩,⟨by rw [List.drop_zero]⟩,⟨qb⟩⟩
 case round =>
  obtain⟨xi,i,rfl,HXI,HK,HD,HB⟩:=hrel
  by_cases c3:xi < (l0.length:Int)
  ·have Aa:decide (xi < (l0.length:Int))=true:=decide_eq_true c3
   have hi:i < l0.length:=by have:=HXI.out;omega
   have p1:0≤xi:=by have:=HXI.out;omega
   have rg:rdOf ByteArray.empty l0 xi=l0[i]:=by rw [HXI.out];unfold rdOf;rw [show((i:Int)).toNat=i from rfl,List.getD_eq_getElem?_getD,List.getElem?_eq_getElem hi];rfl
   obtain⟨ad,e1,hx⟩:=Kd.at_string Af.out xi p1 c3
   cases e1
   rw [rg]at hx
   replace hx:=qC hx HB
   have HSt:=y0.mk (fun(w1:World) (hb:Below w.heap.size w w1)=>HCALL.out w1 _ (List.getElem_mem hi) hb)
   have HDn:y0 (l0.any (fun s=>!QSet.hasB S s)=((!QSet.hasB S l0[i]) || (l0.drop (i + 1)).any (fun s=>!QSet.hasB S s))):=⟨by rw [HD.out,List.drop_eq_getElem_cons hi,List.any_cons]⟩
   clear rg HD
   generalize l0[i]=x0 at hx HSt HDn
   replace hi:=y0.mk hi
   generalize (!QSet.hasB S x0)=b at HSt HDn
   replace p1:=eq_true p1
   replace c3:=eq_true c3
   cases b with
   | true =>
    go_wp2_with (first|(go_at_call 64;(with_reducible refine(HSt.out _ qb).mono ?_);rintro e w8 ⟨rfl,hb⟩;have n0_:=y0.mk (y4 qb hb);clear HB hb;have HB:=n0_;clear n0_))
    go_ret
    exact⟨xi,by first|rfl|(simp [y12,y13] <;> rfl),by rw [HDn.out,Bool.true_or];exact decide_eq_true (by have:=HXI.out;omega),qb⟩
   | false =>
    go_wp2_with (first|(go_at_call 64;(with_reducible refine(HSt.out _ qb).mono ?_);rintro e w9 ⟨rfl,hb⟩;have n0_:=y0.mk (y4 qb hb);clear HB hb;have HB:=n0_;clear n0_))
    go_roundg (l0.length - i - 1)
    case measure=>have:=HK.out;have:=hi.out;omega
    exact⟨wrap64 (xi + 1),i + 1,qy2,⟨by rw [HXI.out];exact QIv.step_u (by have:=HN.out;have:=hi.out;omega)⟩,⟨by have:=hi.out;omega⟩,⟨by rw [HDn.out,Bool.false_or]⟩,⟨qb⟩⟩
  ·have Aa:decide (xi < (l0.length:Int))=false:=decide_eq_false c3
   have hd:l0.drop i=[]:=List.drop_of_length_le (by have:=HXI.out;have:=HK.out;omega)
   have HE:y0 (l0.any (fun s=>!QSet.hasB S s)=false):=⟨by rw [HD.out,hd];rfl⟩
   clear hd
   go_wp2
   go_ret
   exact⟨-1,by first|rfl|(simp [y12,y13] <;> rfl),by rw [HE.out];rfl,qb⟩
theorem slices_ContainsFunc_Rule_grows_1.calls (A0:Option Addr) (c0:Nat) (l0:List ByteArray) (g1:Nat) (Ao:Option Addr) (co:Nat) (S:List ByteArray) (w:World) (hr0:Kd.C Kd.string w A0 l0.length l0) (hc0:l0.length≤c0) (hn:l0.length≤1099511627776) (hsz:∀ s∈l0,s.size≤1099511627776) (hb1:w.heap[g1]?=some (.cells #[.slice Ao S.length co] 30 (0,0))) (hr:Kd.C Kd.string w Ao S.length S) (hc:S.length≤co) (ho:S.length≤1099511627776) :
  Calls Try.prog 62 #[.slice A0 l0.length c0,.func (.func 64) #[] #[.pointer (some ⟨g1,0,none⟩)]] w fun e w'=>e=.returned (.bool (l0.any (fun s=>!QSet.hasB S s)))∧Below w.heap.size w w':=by
 have HC:=y0.mk (slices_IndexFunc_Rule_grows_1.calls A0 c0 l0 g1 Ao co S w hr0 hc0 hn hsz hb1 hr hc ho)
 have HB:=y0.mk (Below.refl w.heap.size w)
 clear hn hsz hr0
 go_enter Try.func62,Try.ntmps62
 go_wp2_with (first|(go_at_call 76;(with_reducible refine HC.out.mono ?_);rintro e w8 ⟨r,rfl,hr,hb⟩;have HR:=y0.mk hr;have n0_:=y0.mk (y4 qb hb);clear HB hb hr;have HB:=n0_;clear n0_))
 go_ret
 exact⟨by rw [← HR.out];first|rfl|(simp [y12,y13] <;> rfl),qb⟩
def lsGy (k:Nat) (es:List (S63)) (a:Int) (b:ByteArray) (c:List Int) (bd:List (S33)) (y:Int):Bool:=(impl_isSum.f (y19 es y).f0).getD false || ((y19 es y).f0 == 4 && decide (((lsVRf k es a b c bd y).length:Int) > 0))
def lsWI (k:Nat) (es:List (S63)) (a:Int) (b:ByteArray) (c:List Int) (bd:List (S33)) (x:Int):List Int:=(impl_Rule_within.f k es a b c bd x).getD []
def lsGx (k:Nat) (es:List (S63)) (a:Int) (b:ByteArray) (c:List Int) (bd:List (S33)) (x:Int):Bool:=(lsWI k es a b c bd x).any (lsGy k es a b c bd)
def lsOkY (k:Nat) (es:List (S63)) (a:Int) (b:ByteArray) (c:List Int) (bd:List (S33)) (y:Int):Bool:=decide (0≤y) && (decide (y < (es.length:Int)) && ((impl_isSum.f (y19 es y).f0).isSome && (impl_Rule_vars.f k es a b c bd y).isSome))
def lsOkX (k:Nat) (es:List (S63)) (a:Int) (b:ByteArray) (c:List Int) (bd:List (S33)) (x:Int):Bool:=(impl_Rule_within.f k es a b c bd x).isSome && (decide ((lsWI k es a b c bd x).length≤1048576) && (lsWI k es a b c bd x).all (lsOkY k es a b c bd))
def lsOkG (k:Nat) (es:List (S63)) (a:Int) (b:ByteArray) (c:List Int) (bd:List (S33)) (o bn:List ByteArray):Bool:=decide (o.length≤1048576) && (decide (bn.length≤1048576) && (bn.all (fun s=>decide (s.size≤1048576)) && (decide (c.length≤1048576) && c.all (lsOkX k es a b c bd))))
def impl_Rule_grows.f (k:Nat) (Al:List (S63)) (An:Int) (Ao:ByteArray) (Ae:List Int) (Aq:List (S33)):Option Bool :=
 (impl_Rule_old.f k Al An Ao Ae Aq).bind fun o=>(impl_Rule_bound.f k Al An Ao Ae Aq).bind fun bn=>if lsOkG k Al An Ao Ae Aq o bn=true then some (bn.any (fun s=>!QSet.hasB o s) || Ae.any (lsGx k Al An Ao Ae Aq))else none
set_option maxHeartbeats 16000000 in
set_option maxRecDepth 100000 in
theorem impl_Rule_grows.calls (k:Nat) (Bc:Option Addr) (Bd:Nat) (Ap:List (S63)) (As:Int) (At:ByteArray) (Bi:Option Addr) (Be:Nat) (Aa:List Int) (Bf:Option Addr) (Bg:Nat) (Ar:List (S33)) (r:Bool) (w:World) (Bk:Kd.C k63 w Bc Ap.length Ap) (Bl:Ap.length≤Bd) (Bm:Kd.C (Kd.int .i64) w Bi Aa.length Aa) (Bn:Aa.length≤Be) (Bo:Kd.C k33 w Bf Ar.length Ar) (Bp:Ar.length≤Bg) (h:impl_Rule_grows.f k Ap As At Aa Ar=some r) :
  Calls Try.prog 44 #[.agg #[.slice Bc Ap.length Bd,.int .i64 As,.string At,.slice Bi Aa.length Be,.slice Bf Ar.length Bg]] w fun e w'=>e=.returned (.bool r)∧Below w.heap.size w w':=by
 unfold impl_Rule_grows.f at h
 obtain⟨o,E1,h⟩:=Option.bind_eq_some_iff.1 h
 obtain⟨bn,E2,h⟩:=Option.bind_eq_some_iff.1 h
 by_cases hk:lsOkG k Ap As At Aa Ar o bn=true
 case neg=>rw [if_neg hk]at h;cases h
 rw [if_pos hk]at h
 obtain rfl:=Option.some.inj h
 clear h
 unfold lsOkG at hk
 simp only [Bool.and_eq_true,decide_eq_true_eq,List.all_eq_true]at hk
 obtain⟨g1,g2,g3,g4,g5⟩:=hk
 replace Bk:=y0.mk Bk
 replace Bl:=y0.mk Bl
 replace Bm:=y0.mk Bm
 replace Bn:=y0.mk Bn
 replace Bo:=y0.mk Bo
 replace Bp:=y0.mk Bp
 have Bx:=y0.mk g1
 have Bz:=y0.mk g2
 have Ca:=y0.mk g3
 have Cb:=y0.mk g4
 have Cc:=y0.mk g5
 clear g1 g2 g3 g4 g5
 replace E1:=y0.mk E1
 replace E2:=y0.mk E2
 have HB:=y0.mk (Below.refl w.heap.size w)
 have Ci:=Try.underlying36
 have Cj:=Try.underlying63
 have Ck:=Try.underlying33
 obtain⟨b,hb_⟩:∃ b,bn.any (fun s=>!QSet.hasB o s)=b:=⟨_,rfl⟩
 have HCF:y0 (∀(W:World) (A0 A1:Option Addr) (c0 c1 g1:Nat),Kd.C Kd.string W A0 bn.length bn→bn.length≤c0→W.heap[g1]?=some (.cells #[.slice A1 o.length c1] 30 (0,0))→Kd.C Kd.string W A1 o.length o→o.length≤c1→Calls Try.prog 62 #[.slice A0 bn.length c0,.func (.func 64) #[] #[.pointer (some ⟨g1,0,none⟩)]] W fun e w'=>e=.returned (.bool b)∧Below W.heap.size W w'):=⟨fun W A0 A1 c0 c1 g1 h1 h2 h3 h4 h5=>by
  rw [← hb_]
  exact slices_ContainsFunc_Rule_grows_1.calls A0 c0 bn g1 A1 c1 o W h1 h2 (by have:=Bz.out;omega) (fun s hs=>by have:=Ca.out s hs;omega) h3 h4 h5 (by have:=Bx.out;omega)⟩
 rw [hb_]
 clear hb_
 go_enter Try.func44,Try.ntmps44
 go_upto_region 2 with(first
  | ((with_reducible refine y16 (N:=1) rfl ?_);refine qe 1 #[.slice Bc Ap.length Bd,.int .i64 As,.string At,.slice Bi Aa.length Be,.slice Bf Ar.length Bg] 36 ?_;intro gr hg w1 hbox hb;have BKr:=y0.mk (hbox);have GEr:=y0.mk ((by rw [hg];exact HB.out.size:w.heap.size≤gr));replace HB:=y0.mk (y4 HB.out hb);clear hb hg hbox;obtain⟨Ab,Ac,Ad,Af,Ag,Ah,Ai,Aj,Ak,Am⟩:=QSet.bx5 BKr.out)
  | (go_at_call 40;(with_reducible refine(impl_Rule_old.calls k _ _ Ap As At _ _ Aa _ _ Ar o _ (Kd.C_below Bk.out HB.out) Bl.out (Kd.C_below Bm.out HB.out) Bn.out (Kd.C_below Bo.out HB.out) Bp.out E1.out).mono ?_);rintro e_ w2 ⟨v_,rfl,ho,hb⟩;obtain⟨Ao,co,eo_⟩:=Kd.R_slice ho;subst eo_;(repeat first|clear Ab|clear Ah|clear Ac|clear Ai|clear Ad|clear Aj|clear Af|clear Ak|clear Ag|clear Am);have HOo:=y0.mk (Kd.R_lower ho (y3 HB.out));replace BKr:=y0.mk (y6 BKr.out hb);replace HB:=y0.mk (y4 HB.out hb);(try clear hb);(try clear hd_);(try clear ho);obtain⟨Ab,Ac,Ad,Af,Ag,Ah,Ai,Aj,Ak,Am⟩:=QSet.bx5 BKr.out)
  | ((with_reducible refine y16 (N:=3) rfl ?_);refine qe 3 #[.slice none 0 0] 30 ?_;intro gs hg w3 hbox hb;(repeat first|clear Ab|clear Ah|clear Ac|clear Ai|clear Ad|clear Aj|clear Af|clear Ak|clear Ag|clear Am);have BKs:=y0.mk (hbox);have GEs:=y0.mk ((by rw [hg];exact HB.out.size:w.heap.size≤gs));have Nr_s:=y0.mk ((by rw [hg];exact Nat.ne_of_lt (blk_lt BKr.out):gr≠gs));replace HOo:=y0.mk (Kd.R_below HOo.out hb);replace BKr:=y0.mk (y6 BKr.out hb);replace HB:=y0.mk (y4 HB.out hb);clear hb hg hbox;obtain⟨Ab,Ac,Ad,Af,Ag,Ah,Ai,Aj,Ak,Am⟩:=QSet.bx5 BKr.out;obtain⟨Au,Av⟩:=QSet.bx1 BKs.out))
 (repeat first|clear Ab|clear Ah|clear Ac|clear Ai|clear Ad|clear Aj|clear Af|clear Ak|clear Ag|clear Am|clear Au|clear Av)
 have nHOo_:=y0.mk ((Kd.R_set HOo.out BKs.out (by decide) 0 _):Kd.R Kd.string 9 (w3.setCell ⟨gs,0,none⟩ (.slice Ao (o).length co)) w.heap.size (fun _=>True) (.slice Ao (o).length co) (o))
 have nBKr_:=y0.mk ((y10 BKr.out (Nr_s.out) _):(w3.setCell ⟨gs,0,none⟩ (.slice Ao (o).length co)).heap[gr]?=some (.cells #[.slice Bc Ap.length Bd,.int .i64 As,.string At,.slice Bi Aa.length Be,.slice Bf Ar.length Bg] 36 (0,0)))
 have nBKs_:=y0.mk ((blk_set BKs.out 0 (.slice Ao (o).length co)):(w3.setCell ⟨gs,0,none⟩ (.slice Ao (o).length co)).heap[gs]?=some (.cells #[.slice Ao (o).length co] 30 (0,0)))
 have nHB_:=y0.mk ((below_set HB.out GEs.out):Below w.heap.size w (w3.setCell ⟨gs,0,none⟩ (.slice Ao (o).length co)))
 clear HOo
 clear BKr
 clear BKs
 clear HB
 generalize (w3.setCell ⟨gs,0,none⟩ (.slice Ao (o).length co))=w4 at nHOo_ nBKr_ nBKs_ nHB_ ⊢
 have HOo:=nHOo_
 clear nHOo_
 have BKr:=nBKr_
 clear nBKr_
 have BKs:=nBKs_
 clear nBKs_
 have HB:=nHB_
 clear nHB_
 obtain⟨Ab,Ac,Ad,Af,Ag,Ah,Ai,Aj,Ak,Am⟩:=QSet.bx5 BKr.out
 obtain⟨Au,Av⟩:=QSet.bx1 BKs.out
 cases b with
 | true =>
  go_wp2_with (first
   | (go_at_call 63;(with_reducible refine(impl_Rule_bound.calls k _ _ Ap As At _ _ Aa _ _ Ar bn _ (Kd.C_below Bk.out HB.out) Bl.out (Kd.C_below Bm.out HB.out) Bn.out (Kd.C_below Bo.out HB.out) Bp.out E2.out).mono ?_);rintro e_ w5 ⟨v_,rfl,ho,hb⟩;obtain⟨AB,cB,eB_⟩:=Kd.R_slice ho;subst eB_;(repeat first|clear Ab|clear Ah|clear Ac|clear Ai|clear Ad|clear Aj|clear Af|clear Ak|clear Ag|clear Am|clear Au|clear Av);have HOB:=y0.mk (Kd.R_lower ho (y3 HB.out));replace HOo:=y0.mk (Kd.R_below HOo.out hb);replace BKr:=y0.mk (y6 BKr.out hb);replace BKs:=y0.mk (y6 BKs.out hb);replace HB:=y0.mk (y4 HB.out hb);(try clear hb);(try clear hd_);(try clear ho);obtain⟨Ab,Ac,Ad,Af,Ag,Ah,Ai,Aj,Ak,Am⟩:=QSet.bx5 BKr.out;obtain⟨Au,Av⟩:=QSet.bx1 BKs.out)
   | (go_at_call 62;(with_reducible refine(HCF.out _ _ _ _ _ _ (Kd.R_reads' HOB.out).2.2 (Kd.R_reads' HOB.out).2.1 BKs.out (Kd.R_reads' HOo.out).2.2 (Kd.R_reads' HOo.out).2.1).mono ?_);rintro e_ w6 ⟨rfl,hb⟩;(repeat first|clear Ab|clear Ah|clear Ac|clear Ai|clear Ad|clear Aj|clear Af|clear Ak|clear Ag|clear Am|clear Au|clear Av);replace HOo:=y0.mk (Kd.R_below HOo.out hb);replace HOB:=y0.mk (Kd.R_below HOB.out hb);replace BKr:=y0.mk (y6 BKr.out hb);replace BKs:=y0.mk (y6 BKs.out hb);replace HB:=y0.mk (y4 HB.out hb);(try clear hb);(try clear hd_);(try clear ho);obtain⟨Ab,Ac,Ad,Af,Ag,Ah,Ai,Aj,Ak,Am⟩:=QSet.bx5 BKr.out;obtain⟨Au,Av⟩:=QSet.bx1 BKs.out))
  go_ret
  exact⟨by first|rfl|(simp [y12,y13] <;> rfl),HB.out⟩
 | false =>
  go_wp2_with (first
   | (go_at_call 63;(with_reducible refine(impl_Rule_bound.calls k _ _ Ap As At _ _ Aa _ _ Ar bn _ (Kd.C_below Bk.out HB.out) Bl.out (Kd.C_below Bm.out HB.out) Bn.out (Kd.C_below Bo.out HB.out) Bp.out E2.out).mono ?_);rintro e_ w5 ⟨v_,rfl,ho,hb⟩;obtain⟨AB,cB,eB_⟩:=Kd.R_slice ho;subst eB_;(repeat first|clear Ab|clear Ah|clear Ac|clear Ai|clear Ad|clear Aj|clear Af|clear Ak|clear Ag|clear Am|clear Au|clear Av);have HOB:=y0.mk (Kd.R_lower ho (y3 HB.out));replace HOo:=y0.mk (Kd.R_below HOo.out hb);replace BKr:=y0.mk (y6 BKr.out hb);replace BKs:=y0.mk (y6 BKs.out hb);replace HB:=y0.mk (y4 HB.out hb);(try clear hb);(try clear hd_);(try clear ho);obtain⟨Ab,Ac,Ad,Af,Ag,Ah,Ai,Aj,Ak,Am⟩:=QSet.bx5 BKr.out;obtain⟨Au,Av⟩:=QSet.bx1 BKs.out)
   | (go_at_call 62;(with_reducible refine(HCF.out _ _ _ _ _ _ (Kd.R_reads' HOB.out).2.2 (Kd.R_reads' HOB.out).2.1 BKs.out (Kd.R_reads' HOo.out).2.2 (Kd.R_reads' HOo.out).2.1).mono ?_);rintro e_ w6 ⟨rfl,hb⟩;(repeat first|clear Ab|clear Ah|clear Ac|clear Ai|clear Ad|clear Aj|clear Af|clear Ak|clear Ag|clear Am|clear Au|clear Av);replace HOo:=y0.mk (Kd.R_below HOo.out hb);replace HOB:=y0.mk (Kd.R_below HOB.out hb);replace BKr:=y0.mk (y6 BKr.out hb);replace BKs:=y0.mk (y6 BKs.out hb);replace HB:=y0.mk (y4 HB.out hb);(try clear hb);(try clear hd_);(try clear ho);obtain⟨Ab,Ac,Ad,Af,Ag,Ah,Ai,Aj,Ak,Am⟩:=QSet.bx5 BKr.out;obtain⟨Au,Av⟩:=QSet.bx1 BKs.out))
  (repeat first|clear Ab|clear Ah|clear Ac|clear Ai|clear Ad|clear Aj|clear Af|clear Ak|clear Ag|clear Am|clear Au|clear Av)
  clear HOo HOB BKs
  obtain⟨Ab,Ac,Ad,Af,Ag,Ah,Ai,Aj,Ak,Am⟩:=QSet.bx5 BKr.out
  (repeat first|clear Ab|clear Ah|clear Ac|clear Ai|clear Ad|clear Aj|clear Af|clear Ak|clear Ag|clear Am)
  go_loopg [18] Aa.length (fun kq Cd w'=>∃(xi:Int) (i:Nat),Cd=.int .i64 xi∧y0 (xi=(i:Int))∧y0 (kq + i=Aa.length)∧y0 (Aa.any (lsGx k Ap As At Aa Ar)=(Aa.drop i).any (lsGx k Ap As At Aa Ar))∧y0 (w'.heap[gr]?=some (.cells #[.slice Bc Ap.length Bd,.int .i64 As,.string At,.slice Bi Aa.length Be,.slice Bf Ar.length Bg] 36 (0,0)))∧y0 (Below w.heap.size w w'))
  case atStart=>exact⟨0,0,rfl,⟨rfl⟩,⟨Nat.add_zero _⟩,⟨by rw [List.drop_zero]⟩,⟨BKr.out⟩,⟨HB.out⟩⟩
  case round =>
   clear BKr HB
   obtain⟨xi,i,rfl,HXI,HK,HD,BKr,HB⟩:=hrel
   by_cases c:xi < (Aa.length:Int)
   ·skip
    have Bt:decide (xi < (Aa.length:Int))=true:=decide_eq_true c
    have hi:i < Aa.length:=by have:=HXI.out;omega
    have p1:0≤xi:=by have:=HXI.out;omega
    obtain⟨Ce,e1,Bj⟩:=Kd.at_int Bm.out xi p1 c
    have rg:rd Aa xi=Aa[i]:=by rw [HXI.out];unfold rd;rw [show((i:Int)).toNat=i from rfl,List.getD_eq_getElem?_getD,List.getElem?_eq_getElem hi];rfl
    rw [rg]at Bj
    clear rg
    have HOX:=y0.mk (Cc.out _ (List.getElem_mem hi))
    have HDn:y0 (Aa.any (lsGx k Ap As At Aa Ar)=(lsGx k Ap As At Aa Ar Aa[i] || (Aa.drop (i + 1)).any (lsGx k Ap As At Aa Ar))):=⟨by rw [HD.out,List.drop_eq_getElem_cons hi,List.any_cons]⟩
    obtain⟨x,hxe⟩:∃ x,Aa[i]=x:=⟨_,rfl⟩
    rw [hxe]at Bj
    replace HOX:=y0.mk (hxe ▸ HOX.out)
    replace HDn:=y0.mk (hxe ▸ HDn.out)
    have HI:=y0.mk hi
    clear hxe hi HD
    have HWI:y0 (impl_Rule_within.f k Ap As At Aa Ar x=some (lsWI k Ap As At Aa Ar x)∧(lsWI k Ap As At Aa Ar x).length≤1048576∧∀ y∈lsWI k Ap As At Aa Ar x,lsOkY k Ap As At Aa Ar y=true):=⟨by
     have h_:=HOX.out
     unfold lsOkX at h_
     simp only [Bool.and_eq_true,decide_eq_true_eq,List.all_eq_true]at h_
     refine⟨?_,h_.2.1,h_.2.2⟩
     obtain⟨v_,hv_⟩:=Option.isSome_iff_exists.1 h_.1
     unfold lsWI
     rw [hv_]
     rfl⟩
    have HGX:y0 (lsGx k Ap As At Aa Ar x=(lsWI k Ap As At Aa Ar x).any (lsGy k Ap As At Aa Ar)):=⟨rfl⟩
    generalize hxs:lsWI k Ap As At Aa Ar x=xs at HWI HGX
    clear hxs
    cases e1
    replace Bj:=qC Bj HB
    have q1:=eq_true c
    replace p1:=eq_true p1
    clear c
    obtain⟨Ab,Ac,Ad,Af,Ag,Ah,Ai,Aj,Ak,Am⟩:=QSet.bx5 BKr.out
    go_wp2_with (first
     | (go_at_call 53;(with_reducible refine(impl_Rule_within.calls k _ _ Ap As At _ _ Aa _ _ Ar x xs _ (Kd.C_below Bk.out HB.out) Bl.out (Kd.C_below Bm.out HB.out) Bn.out (Kd.C_below Bo.out HB.out) Bp.out HWI.out.1).mono ?_);rintro e_ w7 ⟨v_,rfl,ho,hb⟩;obtain⟨AK,cK,eK_⟩:=Kd.R_slice ho;subst eK_;(repeat first|clear Ab|clear Ah|clear Ac|clear Ai|clear Ad|clear Aj|clear Af|clear Ak|clear Ag|clear Am);have HOK:=y0.mk (Kd.R_lower ho (y3 HB.out));replace BKr:=y0.mk (y6 BKr.out hb);replace HB:=y0.mk (y4 HB.out hb);(try clear hb);(try clear hd_);(try clear ho);obtain⟨Ab,Ac,Ad,Af,Ag,Ah,Ai,Aj,Ak,Am⟩:=QSet.bx5 BKr.out))
    clear Bj Bt p1 q1
    (repeat first|clear Ab|clear Ah|clear Ac|clear Ai|clear Ad|clear Aj|clear Af|clear Ak|clear Ag|clear Am)
    go_loopg [26] xs.length (fun kq Cf w'=>∃(xj:Int) (j:Nat),Cf=.int .i64 xj∧y0 (xj=(j:Int))∧y0 (kq + j=xs.length)∧y0 (xs.any (lsGy k Ap As At Aa Ar)=(xs.drop j).any (lsGy k Ap As At Aa Ar))∧y0 (Kd.R (Kd.int .i64) 3 w' w.heap.size (fun _=>True) (.slice AK (xs).length cK) (xs))∧y0 (w'.heap[gr]?=some (.cells #[.slice Bc Ap.length Bd,.int .i64 As,.string At,.slice (some Ce) Aa.length Be,.slice Bf Ar.length Bg] 36 (0,0)))∧y0 (Below w.heap.size w w'))
    case atStart=>exact⟨0,0,rfl,⟨rfl⟩,⟨Nat.add_zero _⟩,⟨by rw [List.drop_zero]⟩,⟨qR HOK.out⟩,⟨BKr.out⟩,⟨HB.out⟩⟩
    case round =>
     clear HOK BKr HB
     obtain⟨xj,j,rfl,HXJ,Br,Bw,HOK,BKr,HB⟩:=hrel
     by_cases c:xj < (xs.length:Int)
     ·skip
      have Bt:decide (xj < (xs.length:Int))=true:=decide_eq_true c
      have hj:j < xs.length:=by have:=HXJ.out;omega
      have p1:0≤xj:=by have:=HXJ.out;omega
      obtain⟨ady,e1,Bj⟩:=Kd.at_int (Kd.R_reads' HOK.out).2.2 xj p1 c
      have rg:rd xs xj=xs[j]:=by rw [HXJ.out];unfold rd;rw [show((j:Int)).toNat=j from rfl,List.getD_eq_getElem?_getD,List.getElem?_eq_getElem hj];rfl
      rw [rg]at Bj
      clear rg
      have HOY:=y0.mk (HWI.out.2.2 _ (List.getElem_mem hj))
      have HDy:y0 (xs.any (lsGy k Ap As At Aa Ar)=(lsGy k Ap As At Aa Ar xs[j] || (xs.drop (j + 1)).any (lsGy k Ap As At Aa Ar))):=⟨by rw [Bw.out,List.drop_eq_getElem_cons hj,List.any_cons]⟩
      generalize xs[j]=y at Bj HOY HDy
      have HJ:=y0.mk hj
      clear hj Bw
      cases e1
      have hoy:=HOY.out
      unfold lsOkY at hoy
      simp only [Bool.and_eq_true,decide_eq_true_eq]at hoy
      obtain⟨py,qy,hsm,hvs⟩:=hoy
      obtain⟨sm,hsm⟩:=Option.isSome_iff_exists.1 hsm
      obtain⟨vs,hvs⟩:=Option.isSome_iff_exists.1 hvs
      have HGY:y0 (lsGy k Ap As At Aa Ar y=(sm || ((y19 Ap y).f0 == 4 && decide ((vs.length:Int) > 0)))):=⟨by unfold lsGy lsVRf;rw [hsm,hvs];rfl⟩
      have HSM:=y0.mk hsm
      have HVS:=y0.mk hvs
      clear hsm hvs
      obtain⟨ade,Ae,ce,e2,Bh,Bu,Bv,Cg,Ch⟩:=at_T63 Bk.out y py qy
      clear Cg Ch
      generalize y19 Ap y=e0 at Bh Bu Bv HGY HSM
      cases e2
      have Bq:=y0.mk Bh
      replace Bh:=qC Bh HB
      replace Bu:=qC Bu HB
      replace Bv:=qC Bv HB
      replace py:=eq_true py
      replace qy:=eq_true qy
      have q1:=eq_true c
      replace p1:=eq_true p1
      clear c
      obtain⟨Ab,Ac,Ad,Af,Ag,Ah,Ai,Aj,Ak,Am⟩:=QSet.bx5 BKr.out
      cases sm with
      | true =>
       go_wp2_with (first
        | (go_at_call 65;(with_reducible refine(impl_isSum.calls e0.f0 true _ HSM.out).mono ?_);rintro e_ w8 ⟨rfl,hd_⟩;have hb:=hd_.below;(repeat first|clear Ab|clear Ah|clear Ac|clear Ai|clear Ad|clear Aj|clear Af|clear Ak|clear Ag|clear Am);replace HOK:=y0.mk (Kd.R_below HOK.out hb);replace BKr:=y0.mk (y6 BKr.out hb);replace HB:=y0.mk (y4 HB.out hb);(try clear hb);(try clear hd_);(try clear ho);obtain⟨Ab,Ac,Ad,Af,Ag,Ah,Ai,Aj,Ak,Am⟩:=QSet.bx5 BKr.out;clear Bh;have Bh:=qC Bq.out HB))
       go_ret
       exact⟨by rw [HDn.out,HGX.out,HDy.out,HGY.out];simp only [Bool.true_or,Bool.false_or];first|rfl|(simp [y12,y13] <;> rfl),HB.out⟩
      | false =>
       by_cases k4:e0.f0=4
       ·skip
        have k4b:(e0.f0 == 4)=true:=beq_iff_eq.mpr k4
        by_cases kv:(vs.length:Int) > 0
        ·skip
         have kvb:decide ((vs.length:Int) > 0)=true:=decide_eq_true kv
         have kvc:decide (0 < (vs.length:Int))=true:=decide_eq_true kv
         have kvd:decide (0 < vs.length)=true:=decide_eq_true (by omega)
         have kve:(0 < vs.length)=True:=eq_true (by omega)
         have Bs:=y0.mk k4b
         have HKV:=y0.mk kvb
         clear k4 kv
         go_wp2_with (first
          | (go_at_call 65;(with_reducible refine(impl_isSum.calls e0.f0 false _ HSM.out).mono ?_);rintro e_ w8 ⟨rfl,hd_⟩;have hb:=hd_.below;(repeat first|clear Ab|clear Ah|clear Ac|clear Ai|clear Ad|clear Aj|clear Af|clear Ak|clear Ag|clear Am);replace HOK:=y0.mk (Kd.R_below HOK.out hb);replace BKr:=y0.mk (y6 BKr.out hb);replace HB:=y0.mk (y4 HB.out hb);(try clear hb);(try clear hd_);(try clear ho);obtain⟨Ab,Ac,Ad,Af,Ag,Ah,Ai,Aj,Ak,Am⟩:=QSet.bx5 BKr.out;clear Bh;have Bh:=qC Bq.out HB)
          | ((try(refine gate_guard (by rfl) ?_;dsimp only));go_at_call 30;(with_reducible refine(impl_Rule_vars.calls k _ _ Ap As At _ _ Aa _ _ Ar y vs _ (Kd.C_below Bk.out HB.out) Bl.out (Kd.C_below Bm.out HB.out) Bn.out (Kd.C_below Bo.out HB.out) Bp.out HVS.out).mono ?_);rintro e_ w9 ⟨v_,rfl,ho,hb⟩;obtain⟨AV,cV,eV_⟩:=Kd.R_slice ho;subst eV_;(repeat first|clear Ab|clear Ah|clear Ac|clear Ai|clear Ad|clear Aj|clear Af|clear Ak|clear Ag|clear Am);have HOV:=y0.mk (Kd.R_lower ho (y3 HB.out));replace HOK:=y0.mk (Kd.R_below HOK.out hb);replace BKr:=y0.mk (y6 BKr.out hb);replace HB:=y0.mk (y4 HB.out hb);(try clear hb);(try clear hd_);(try clear ho);obtain⟨Ab,Ac,Ad,Af,Ag,Ah,Ai,Aj,Ak,Am⟩:=QSet.bx5 BKr.out))
         go_ret
         exact⟨by rw [HDn.out,HGX.out,HDy.out,HGY.out];rw [Bs.out,HKV.out];simp only [Bool.true_or,Bool.false_or,Bool.true_and];first|rfl|(simp [y12,y13] <;> rfl),HB.out⟩
        ·skip
         have kvb:decide ((vs.length:Int) > 0)=false:=decide_eq_false kv
         have kvc:decide (0 < (vs.length:Int))=false:=decide_eq_false kv
         have kvd:decide (0 < vs.length)=false:=decide_eq_false (by omega)
         have kve:(0 < vs.length)=False:=eq_false (by omega)
         have Bs:=y0.mk k4b
         have HKV:=y0.mk kvb
         clear k4 kv
         go_wp2_with (first
          | (go_at_call 65;(with_reducible refine(impl_isSum.calls e0.f0 false _ HSM.out).mono ?_);rintro e_ w8 ⟨rfl,hd_⟩;have hb:=hd_.below;(repeat first|clear Ab|clear Ah|clear Ac|clear Ai|clear Ad|clear Aj|clear Af|clear Ak|clear Ag|clear Am);replace HOK:=y0.mk (Kd.R_below HOK.out hb);replace BKr:=y0.mk (y6 BKr.out hb);replace HB:=y0.mk (y4 HB.out hb);(try clear hb);(try clear hd_);(try clear ho);obtain⟨Ab,Ac,Ad,Af,Ag,Ah,Ai,Aj,Ak,Am⟩:=QSet.bx5 BKr.out;clear Bh;have Bh:=qC Bq.out HB)
          | ((try(refine gate_guard (by rfl) ?_;dsimp only));go_at_call 30;(with_reducible refine(impl_Rule_vars.calls k _ _ Ap As At _ _ Aa _ _ Ar y vs _ (Kd.C_below Bk.out HB.out) Bl.out (Kd.C_below Bm.out HB.out) Bn.out (Kd.C_below Bo.out HB.out) Bp.out HVS.out).mono ?_);rintro e_ w9 ⟨v_,rfl,ho,hb⟩;obtain⟨AV,cV,eV_⟩:=Kd.R_slice ho;subst eV_;(repeat first|clear Ab|clear Ah|clear Ac|clear Ai|clear Ad|clear Aj|clear Af|clear Ak|clear Ag|clear Am);have HOV:=y0.mk (Kd.R_lower ho (y3 HB.out));replace HOK:=y0.mk (Kd.R_below HOK.out hb);replace BKr:=y0.mk (y6 BKr.out hb);replace HB:=y0.mk (y4 HB.out hb);(try clear hb);(try clear hd_);(try clear ho);obtain⟨Ab,Ac,Ad,Af,Ag,Ah,Ai,Aj,Ak,Am⟩:=QSet.bx5 BKr.out))
         go_roundg (xs.length - j - 1)
         case measure=>have:=Br.out;have:=HJ.out;omega
         exact⟨wrap64 (xj + 1),j + 1,qy2,⟨by rw [HXJ.out];exact QIv.step_u (by have:=HJ.out;have:=HWI.out.2.1;omega)⟩,⟨by have:=Br.out;have:=HJ.out;omega⟩,⟨by rw [HDy.out,HGY.out];rw [Bs.out,HKV.out];rfl⟩,⟨qR HOK.out⟩,⟨BKr.out⟩,⟨HB.out⟩⟩
       ·skip
        have k4b:(e0.f0 == 4)=false:=beq_eq_false_iff_ne.mpr k4
        have Bs:=y0.mk k4b
        clear k4
        go_wp2_with (first
         | (go_at_call 65;(with_reducible refine(impl_isSum.calls e0.f0 false _ HSM.out).mono ?_);rintro e_ w8 ⟨rfl,hd_⟩;have hb:=hd_.below;(repeat first|clear Ab|clear Ah|clear Ac|clear Ai|clear Ad|clear Aj|clear Af|clear Ak|clear Ag|clear Am);replace HOK:=y0.mk (Kd.R_below HOK.out hb);replace BKr:=y0.mk (y6 BKr.out hb);replace HB:=y0.mk (y4 HB.out hb);(try clear hb);(try clear hd_);(try clear ho);obtain⟨Ab,Ac,Ad,Af,Ag,Ah,Ai,Aj,Ak,Am⟩:=QSet.bx5 BKr.out;clear Bh;have Bh:=qC Bq.out HB))
        go_roundg (xs.length - j - 1)
        case measure=>have:=Br.out;have:=HJ.out;omega
        exact⟨wrap64 (xj + 1),j + 1,qy2,⟨by rw [HXJ.out];exact QIv.step_u (by have:=HJ.out;have:=HWI.out.2.1;omega)⟩,⟨by have:=Br.out;have:=HJ.out;omega⟩,⟨by rw [HDy.out,HGY.out];rw [Bs.out];rfl⟩,⟨qR HOK.out⟩,⟨BKr.out⟩,⟨HB.out⟩⟩
     ·skip
      have Bt:decide (xj < (xs.length:Int))=false:=decide_eq_false c
      have HE:y0 (xs.any (lsGy k Ap As At Aa Ar)=false):=⟨by rw [Bw.out,List.drop_of_length_le (by have:=HXJ.out;have:=Br.out;omega)];rfl⟩
      go_wp2
      go_roundg (Aa.length - i - 1)
      case measure=>have:=HK.out;have:=HI.out;omega
      exact⟨wrap64 (xi + 1),i + 1,qy2,⟨by rw [HXI.out];exact QIv.step_u (by have:=HI.out;have:=Cb.out;omega)⟩,⟨by have:=HK.out;have:=HI.out;omega⟩,⟨by rw [HDn.out,HGX.out,HE.out];rfl⟩,⟨BKr.out⟩,⟨HB.out⟩⟩
   ·skip
    have Bt:decide (xi < (Aa.length:Int))=false:=decide_eq_false c
    have HE:y0 (Aa.any (lsGx k Ap As At Aa Ar)=false):=⟨by rw [HD.out,List.drop_of_length_le (by have:=HXI.out;have:=HK.out;omega)];rfl⟩
    go_wp2
    go_ret
    exact⟨by rw [HE.out];first|rfl|(simp [y12,y13] <;> rfl),HB.out⟩
def impl_Grows.f (k:Nat) (Ae:List (S63)) (Al:Int) (An:ByteArray) (Ao:List Int) (Aq:List (S33)):Option (Bool):=(impl_hasForm.f k Ae Al An Ao Aq).bind fun By=>(if By=true then((impl_Rule_grows.f k Ae Al An Ao Aq).bind fun Di=>(some Di))else(some false))
theorem impl_Grows.calls (k:Nat) (Ah:Option Addr) (Ai:Nat) (Ab:List (S63)) (Af:Int) (Ag:ByteArray) (Aj:Option Addr) (Ak:Nat) (Ac:List Int) (Am:Option Addr) (Ap:Nat) (Ad:List (S33)) (r:Bool) (w:World) (Ax:Kd.C k63 w Ah Ab.length Ab) (Ay:Ab.length≤Ai) (Az:Kd.C (Kd.int .i64) w Aj Ac.length Ac) (Ba:Ac.length≤Ak) (Bb:Kd.C k33 w Am Ad.length Ad) (Bc:Ad.length≤Ap) (h:impl_Grows.f k Ab Af Ag Ac Ad=some r) :
  Calls Try.prog 18 #[.agg #[.slice Ah Ab.length Ai,.int .i64 Af,.string Ag,.slice Aj Ac.length Ak,.slice Am Ad.length Ap]] w fun e w'=>e=.returned (.bool r)∧Below w.heap.size w w':=by
 have Cn:=Try.underlying36
 have Ar:=y0.mk Ax
 have As:=y0.mk Ay
 clear Ax Ay
 have At:=y0.mk Az
 have Au:=y0.mk Ba
 clear Az Ba
 have Av:=y0.mk Bb
 have Aw:=y0.mk Bc
 clear Bb Bc
 have HB:=y0.mk (Below.refl w.heap.size w)
 have H:((impl_hasForm.f k Ab Af Ag Ac Ad).bind fun Bd=>(if Bd=true then((impl_Rule_grows.f k Ab Af Ag Ac Ad).bind fun Be=>(some Be))else(some false)))=some r:=h
 clear h
 obtain⟨Bd,A2,H⟩:=qB H
 by_cases c3:Bd=true
 ·subst c3
  replace H:=qT H
  obtain⟨Be,A4,H⟩:=qB H
  obtain rfl:=Option.some.inj H
  go_enter Try.func18,Try.ntmps18
  go_wp2_with (first|((with_reducible refine y16 (N:=1) rfl ?_);refine qe 1 #[.slice Ah Ab.length Ai,.int .i64 Af,.string Ag,.slice Aj Ac.length Ak,.slice Am Ad.length Ap] 36 ?_;intro Bf hg w5 hbox hb;have Aa:=y0.mk (hbox);have Bg:=y0.mk (qg (w:=w) hg);have Bh:=y0.mk (qg (w:=w) hg);replace HB:=y0.mk (y4 qb hb);clear hb hbox hg;obtain⟨Bs,Bt,Bu,Bv,Bw,Bx,Bz,Ca,Cb,Cc⟩:=qz5 Aa.out)|((with_reducible refine y15 (f:=28) rfl ?_);refine y17 (some 4) rfl rfl Try.func28 (by kernel_rfl) rfl #[.agg #[.slice Ah Ab.length Ai,.int .i64 Af,.string Ag,.slice Aj Ac.length Ak,.slice Am Ad.length Ap]] rfl qy1 ?_;(with_reducible refine(impl_hasForm.calls k _ _ Ab Af Ag _ _ Ac _ _ Ad true _ (qc (Kd.C_below Ar.out HB.out)) As.out (qc (Kd.C_below At.out HB.out)) Au.out (qc (Kd.C_below Av.out HB.out)) Aw.out A2.out).mono ?_);rintro e w7 ⟨rfl,hb⟩;refine⟨_,rfl, ?_⟩;replace Aa:=y0.mk (qK Aa.out hb);replace HB:=y0.mk (y4 qb hb);(try clear hb);obtain⟨Cd,Ce,Cf,Cg,Ch,Ci,Cj,Ck,Cl,Cm⟩:=qz5 Aa.out)|(go_at_call 44;(with_reducible refine(impl_Rule_grows.calls k _ _ Ab Af Ag _ _ Ac _ _ Ad Be _ (qc (Kd.C_below Ar.out HB.out)) As.out (qc (Kd.C_below At.out HB.out)) Au.out (qc (Kd.C_below Av.out HB.out)) Aw.out A4.out).mono ?_);rintro e w9 ⟨rfl,hb⟩;replace Aa:=y0.mk (qK Aa.out hb);replace HB:=y0.mk (y4 qb hb);(try clear hb)))
  go_ret
  exact⟨qf,qb⟩
 ·replace c3:=Bool.eq_false_iff.mpr c3
  subst c3
  replace H:=qF H
  obtain rfl:=Option.some.inj H
  go_enter Try.func18,Try.ntmps18
  go_wp2_with (first|((with_reducible refine y16 (N:=1) rfl ?_);refine qe 1 #[.slice Ah Ab.length Ai,.int .i64 Af,.string Ag,.slice Aj Ac.length Ak,.slice Am Ad.length Ap] 36 ?_;intro Bf hg Cp hbox hb;have Aa:=y0.mk (hbox);have Bg:=y0.mk (qg (w:=w) hg);have Bh:=y0.mk (qg (w:=w) hg);replace HB:=y0.mk (y4 qb hb);clear hb hbox hg;obtain⟨Bi,Bj,Bk,Bl,Bm,Bn,Bo,Bp,Bq,Br⟩:=qz5 Aa.out)|((with_reducible refine y15 (f:=28) rfl ?_);refine y17 (some 4) rfl rfl Try.func28 (by kernel_rfl) rfl #[.agg #[.slice Ah Ab.length Ai,.int .i64 Af,.string Ag,.slice Aj Ac.length Ak,.slice Am Ad.length Ap]] rfl qy1 ?_;(with_reducible refine(impl_hasForm.calls k _ _ Ab Af Ag _ _ Ac _ _ Ad false _ (qc (Kd.C_below Ar.out HB.out)) As.out (qc (Kd.C_below At.out HB.out)) Au.out (qc (Kd.C_below Av.out HB.out)) Aw.out A2.out).mono ?_);rintro e Cq ⟨rfl,hb⟩;refine⟨_,rfl, ?_⟩;replace Aa:=y0.mk (qK Aa.out hb);replace HB:=y0.mk (y4 qb hb);(try clear hb)))
  go_ret
  exact⟨qf,qb⟩
def laws_FnExactGrows.f (k:Nat) (Ae:List (S69)) (Al:Int) (An:ByteArray) (Ao:List Int) (Aq:List (S25)):Option (Bool):=(laws_szRule.f k Ae Al An Ao Aq 1048576).bind fun By=>(if By < 0 then(some true)else((laws_toRule.f k Ae Al An Ao Aq).bind fun bt574=>((spec_Grows.f k bt574.1 bt574.2.1 bt574.2.2.1 bt574.2.2.2.1 bt574.2.2.2.2).bind fun Di=>((laws_toRule.f k Ae Al An Ao Aq).bind fun bt586=>((impl_Grows.f k bt586.1 bt586.2.1 bt586.2.2.1 bt586.2.2.2.1 bt586.2.2.2.2).bind fun Du=>(if(Du != Di)=true then(some false)else((laws_toRule.f k Ae Al An Ao Aq).bind fun bt599=>((laws_eqRule.f k bt586.1 bt586.2.1 bt586.2.2.1 bt586.2.2.2.1 bt586.2.2.2.2 bt599.1 bt599.2.1 bt599.2.2.1 bt599.2.2.2.1 bt599.2.2.2.2).bind fun Ea=>(if Ea=true then(some true)else(some false))))))))))
theorem laws_FnExactGrows.calls (k:Nat) (Bg:Option Addr) (Bh:Nat) (Am:List (S69)) (Au:Int) (Av:ByteArray) (Bi:Option Addr) (Bj:Nat) (Ap:List Int) (Bk:Option Addr) (Bl:Nat) (Ar:List (S25)) (r:Bool) (w:World) (Ct:Kd.C k69 w Bg Am.length Am) (Cu:Am.length≤Bh) (Cv:Kd.C (Kd.int .i64) w Bi Ap.length Ap) (Cw:Ap.length≤Bj) (Cx:Kd.C k25 w Bk Ar.length Ar) (Cy:Ar.length≤Bl) (h:laws_FnExactGrows.f k Am Au Av Ap Ar=some r) (htrue_:r=true) :
  Calls Try.prog 5 #[.agg #[.slice Bg Am.length Bh,.int .i64 Au,.string Av,.slice Bi Ap.length Bj,.slice Bk Ar.length Bl]] w fun e w'=>e=.returned (.bool r)∧Below w.heap.size w w':=by
 have Gi:=Try.underlying28
 have Gj:=Try.underlying36
 have Bp:=y0.mk Ct
 have Bq:=y0.mk Cu
 clear Ct Cu
 have Br:=y0.mk Cv
 have Bs:=y0.mk Cw
 clear Cv Cw
 have Bt:=y0.mk Cx
 have Bu:=y0.mk Cy
 clear Cx Cy
 have HB:=y0.mk (Below.refl w.heap.size w)
 have H:((laws_szRule.f k Am Au Av Ap Ar 1048576).bind fun Ce=>(if Ce < 0 then(some true)else((laws_toRule.f k Am Au Av Ap Ar).bind fun Bv=>((spec_Grows.f k Bv.1 Bv.2.1 Bv.2.2.1 Bv.2.2.2.1 Bv.2.2.2.2).bind fun Bm=>((laws_toRule.f k Am Au Av Ap Ar).bind fun Bd=>((impl_Grows.f k Bd.1 Bd.2.1 Bd.2.2.1 Bd.2.2.2.1 Bd.2.2.2.2).bind fun Bn=>(if(Bn != Bm)=true then(some false)else((laws_toRule.f k Am Au Av Ap Ar).bind fun Bw=>((laws_eqRule.f k Bd.1 Bd.2.1 Bd.2.2.1 Bd.2.2.2.1 Bd.2.2.2.2 Bw.1 Bw.2.1 Bw.2.2.1 Bw.2.2.2.1 Bw.2.2.2.2).bind fun Cf=>(if Cf=true then(some true)else(some false)))))))))))=some r:=h
 clear h
 obtain⟨Ce,A2,H⟩:=qB H
 by_cases c3:Ce < 0
 ·rw [if_pos c3]at H
  have Ff:=decide_eq_true c3
  clear c3
  obtain rfl:=Option.some.inj H
  go_enter Try.func5,Try.ntmps5
  go_wp2_with (first|((with_reducible refine y16 (N:=1) rfl ?_);refine qe 1 #[.slice Bg Am.length Bh,.int .i64 Au,.string Av,.slice Bi Ap.length Bj,.slice Bk Ar.length Bl] 28 ?_;intro Bo hg w4 hbox hb;have Ab:=y0.mk (hbox);have Db:=y0.mk (qg (w:=w) hg);have Dc:=y0.mk (qg (w:=w) hg);replace HB:=y0.mk (y4 qb hb);clear hb hbox hg;obtain⟨Fg,Fh,Fi,Fj,Fk,Fl,Fm,Fn,Fo,Fp⟩:=qz5 Ab.out)|((with_reducible refine y15 (f:=6) rfl ?_);refine y17 (some 9) rfl rfl Try.func6 (by kernel_rfl) rfl #[.agg #[.slice Bg Am.length Bh,.int .i64 Au,.string Av,.slice Bi Ap.length Bj,.slice Bk Ar.length Bl],.int .i64 1048576] rfl qy1 ?_;(with_reducible refine(laws_szRule.calls k _ _ Am Au Av _ _ Ap _ _ Ar 1048576 Ce _ (qc (Kd.C_below Bp.out HB.out)) Bq.out (qc (Kd.C_below Br.out HB.out)) Bs.out (qc (Kd.C_below Bt.out HB.out)) Bu.out A2.out).mono ?_);rintro e w6 ⟨rfl,hb⟩;refine⟨_,rfl, ?_⟩;replace Ab:=y0.mk (qK Ab.out hb);replace HB:=y0.mk (y4 qb hb);(try clear hb)))
  go_ret
  exact⟨qf,qb⟩
 ·rw [if_neg c3]at H
  have Ff:=decide_eq_false c3
  clear c3
  obtain⟨⟨Cj,Cz,Da,Cc,Ck⟩,A7,H⟩:=qB H
  dsimp only at H
  obtain⟨Bm,A8,H⟩:=qB H
  obtain⟨⟨As,Aw,Ax,At,Ay⟩,A9,H⟩:=qB H
  dsimp only at H
  obtain⟨Bn,Gk,H⟩:=qB H
  by_cases Cg:(Bn != Bm)=true
  ·rw [if_pos Cg]at H
   have Dd:(Bn != Bm)=true:=Cg
   (try(have De:decide (Bn=Bm)=false:=by simpa using Cg))
   (try(have Df:(Bn == Bm)=false:=by simpa using Cg))
   (try(have Gd:¬(Bn=Bm):=by simpa using Cg))
   clear Cg
   exact absurd ((Option.some.inj H).trans htrue_) (by decide)
  ·rw [if_neg Cg]at H
   have Dd:(Bn != Bm)=false:=by simpa using Cg
   (try(have De:decide (Bn=Bm)=true:=by simpa using Cg))
   (try(have Df:(Bn == Bm)=true:=by simpa using Cg))
   clear Cg
   obtain⟨⟨Cl,Cm,Cn,Cp,Cq⟩,Gl,H⟩:=qB H
   replace H:((laws_eqRule.f k As Aw Ax At Ay Cl Cm Cn Cp Cq).bind fun Cf=>(if Cf=true then(some true)else(some false)))=some r:=H
   obtain⟨Cf,Gm,H⟩:=qB H
   by_cases Do:Cf=true
   ·subst Do
    replace H:=qT H
    obtain rfl:=Option.some.inj H
    go_enter Try.func5,Try.ntmps5
    try go_wp2_with (first|((with_reducible refine y16 (N:=1) rfl ?_);refine qe 1 #[.slice Bg Am.length Bh,.int .i64 Au,.string Av,.slice Bi Ap.length Bj,.slice Bk Ar.length Bl] 28 ?_;intro Bo hg Gz hbox hb;have Ab:=y0.mk (hbox);have Db:=y0.mk (qg (w:=w) hg);have Dc:=y0.mk (qg (w:=w) hg);replace HB:=y0.mk (y4 qb hb);clear hb hbox hg;obtain⟨Dp,Dq,Dr,Ds,Dt,Du,Dw,Dx,Dy,Dz⟩:=qz5 Ab.out)|((with_reducible refine y15 (f:=6) rfl ?_);refine y17 (some 9) rfl rfl Try.func6 (by kernel_rfl) rfl #[.agg #[.slice Bg Am.length Bh,.int .i64 Au,.string Av,.slice Bi Ap.length Bj,.slice Bk Ar.length Bl],.int .i64 1048576] rfl qy1 ?_;(with_reducible refine(laws_szRule.calls k _ _ Am Au Av _ _ Ap _ _ Ar 1048576 Ce _ (qc (Kd.C_below Bp.out HB.out)) Bq.out (qc (Kd.C_below Br.out HB.out)) Bs.out (qc (Kd.C_below Bt.out HB.out)) Bu.out A2.out).mono ?_);rintro e Ha ⟨rfl,hb⟩;refine⟨_,rfl, ?_⟩;replace Ab:=y0.mk (qK Ab.out hb);replace HB:=y0.mk (y4 qb hb);(try clear hb);obtain⟨Ea,Eb,Ec,Ed,Ee,Ef,Eg,Eh,Ei,Ej⟩:=qz5 Ab.out)|((with_reducible refine y15 (f:=8) rfl ?_);refine y17 (some 13) rfl rfl Try.func8 (by kernel_rfl) rfl #[.agg #[.slice Bg Am.length Bh,.int .i64 Au,.string Av,.slice Bi Ap.length Bj,.slice Bk Ar.length Bl]] rfl qy1 ?_;(with_reducible refine(laws_toRule.calls k _ _ Am Au Av _ _ Ap _ _ Ar Cj Cz Da Cc Ck _ (qc (Kd.C_below Bp.out HB.out)) Bq.out (qc (Kd.C_below Br.out HB.out)) Bs.out (qc (Kd.C_below Bt.out HB.out)) Bu.out A7.out).mono ?_);rintro e Hb ⟨Gn,Gp,Gq,rfl,Ch,Bx,Ci,hb⟩;refine⟨_,rfl, ?_⟩;have Af:=y0.mk (Kd.S_lower Ch (y3 qb));have Ad:=y0.mk (Kd.R_lower Bx (y3 qb));have Ag:=y0.mk (Kd.S_lower Ci (y3 qb));replace Ab:=y0.mk (qK Ab.out hb);replace HB:=y0.mk (y4 qb hb);(try clear hb);(try clear Ch);(try clear Bx);(try clear Ci);obtain⟨Dg,Dh,Fq⟩:=Kd.S_slice Af.out;subst Fq;obtain⟨Cr,Cs,Fr⟩:=Kd.R_slice Ad.out;subst Fr;obtain⟨Di,Dj,Fs⟩:=Kd.S_slice Ag.out;subst Fs)|((with_reducible refine y15 (f:=17) rfl ?_);refine y17 (some 14) rfl rfl Try.func17 (by kernel_rfl) rfl #[.agg #[.slice Dg Cj.length Dh,.int .i64 Cz,.string Da,.slice Cr Cc.length Cs,.slice Di Ck.length Dj]] rfl qy1 ?_;(with_reducible refine(spec_Grows.calls k _ _ Cj Cz Da _ _ Cc _ _ Ck Bm _ (qc ((Kd.S_reads' Af.out).2.2)) (by exact(Kd.S_reads' Af.out).2.1) (qc ((Kd.R_reads' Ad.out).2.2)) (by exact(Kd.R_reads' Ad.out).2.1) (qc ((Kd.S_reads' Ag.out).2.2)) (by exact(Kd.S_reads' Ag.out).2.1) A8.out).mono ?_);rintro e Hc ⟨rfl,hb⟩;refine⟨_,rfl, ?_⟩;replace Af:=y0.mk (Kd.S_below (qS Af.out) hb);replace Ad:=y0.mk (Kd.R_below (qR Ad.out) hb);replace Ag:=y0.mk (Kd.S_below (qS Ag.out) hb);replace Ab:=y0.mk (qK Ab.out hb);replace HB:=y0.mk (y4 qb hb);(try clear hb);obtain⟨Ek,El,Em,En,Eo,Ep,Eq,Er,Es,Et⟩:=qz5 Ab.out)|((with_reducible refine y15 (f:=8) rfl ?_);refine y17 (some 16) rfl rfl Try.func8 (by kernel_rfl) rfl #[.agg #[.slice Bg Am.length Bh,.int .i64 Au,.string Av,.slice Bi Ap.length Bj,.slice Bk Ar.length Bl]] rfl qy1 ?_;(with_reducible refine(laws_toRule.calls k _ _ Am Au Av _ _ Ap _ _ Ar As Aw Ax At Ay _ (qc (Kd.C_below Bp.out HB.out)) Bq.out (qc (Kd.C_below Br.out HB.out)) Bs.out (qc (Kd.C_below Bt.out HB.out)) Bu.out A9.out).mono ?_);rintro e Hd ⟨Gr,Gs,Gt,rfl,Ch,Bx,Ci,hb⟩;refine⟨_,rfl, ?_⟩;have Ai:=y0.mk (Kd.S_lower (Kd.S_new' (Kd.S_new' Ch (Kd.S_lt (qS Af.out))) (Kd.R_lt (qR Ad.out))) (y3 qb));replace Af:=y0.mk (Kd.S_mono (Kd.S_told (Kd.S_told (Kd.S_old (qS Af.out) hb) (Kd.S_base Ch)) (Kd.R_base Bx)) (fun _ h_=>h_.1));have Ah:=y0.mk (Kd.R_lower (Kd.R_new' Bx (Kd.R_lt (qR Ad.out))) (y3 qb));have Aj:=y0.mk (Kd.S_lower (Kd.S_new' (Kd.S_new' Ci (Kd.R_lt (qR Ad.out))) (Kd.S_lt (qS Ag.out))) (y3 qb));replace Ad:=y0.mk (Kd.R_elder' (qR Ad.out) (Kd.R_base Bx) hb);replace Ag:=y0.mk (Kd.S_mono (Kd.S_told (Kd.S_told (Kd.S_old (qS Ag.out) hb) (Kd.R_base Bx)) (Kd.S_base Ci)) (fun _ h_=>h_.1));replace Ab:=y0.mk (qK Ab.out hb);replace HB:=y0.mk (y4 qb hb);(try clear hb);(try clear Ch);(try clear Bx);(try clear Ci))|((with_reducible refine y16 (N:=5) rfl ?_);refine qe 5 #[.slice none 0 0,.int .i64 0,.string (⟨#[]⟩:ByteArray),.slice none 0 0,.slice none 0 0] 36 ?_;intro Aa hg He hbox hb;replace Af:=y0.mk (Kd.S_below (qS Af.out) hb);replace Ad:=y0.mk (Kd.R_below (qR Ad.out) hb);replace Ag:=y0.mk (Kd.S_below (qS Ag.out) hb);replace Ai:=y0.mk (Kd.S_below (qS Ai.out) hb);replace Ah:=y0.mk (Kd.R_below (qR Ah.out) hb);replace Aj:=y0.mk (Kd.S_below (qS Aj.out) hb);have Ac:=y0.mk (hbox);have Ge:=y0.mk (qg (w:=w) hg);have Gf:=y0.mk (qg (w:=w) hg);replace HB:=y0.mk (y4 qb hb);have Ak:=y0.mk (qn Ab.out hg);have Cd:=y0.mk (qm Ab.out hg);replace Ab:=y0.mk (qK Ab.out hb);clear hb hbox hg;obtain⟨Ba,Az,Ft⟩:=Kd.S_slice Ai.out;subst Ft;have Gg:=Cd.out;have Gh:=Ak.out;obtain⟨Eu,Ew,Ex,Ey,Ez,Fa,Fb,Fc,Fd,Fe⟩:=qz5 Ac.out;obtain⟨Bc,Bb,Fu⟩:=Kd.R_slice Ah.out;subst Fu;obtain⟨Bf,Be,Fv⟩:=Kd.S_slice Aj.out;subst Fv)|((with_reducible refine y15 (f:=18) rfl ?_);refine y17 (some 18) rfl rfl Try.func18 (by kernel_rfl) rfl #[.agg #[.slice Ba As.length Az,.int .i64 Aw,.string Ax,.slice Bc At.length Bb,.slice Bf Ay.length Be]] rfl qy1 ?_;(with_reducible refine(impl_Grows.calls k _ _ As Aw Ax _ _ At _ _ Ay Bn _ (by refine(Kd.S_reads' (e:=63) (base:=w.heap.size) (ok:=fun k_=>((some k_≠(.slice Bc At.length Bb:Value).ownBlock∧some k_≠(.slice Dg Cj.length Dh:Value).ownBlock)∧some k_≠(.slice Cr Cc.length Cs:Value).ownBlock)) (n:=As.length) (c:=Az) ?_).2.2;exact(qS ((Kd.S_mono (Kd.S_far (p:=⟨Aa,4,none⟩) (Kd.S_far (p:=⟨Aa,3,none⟩) (qfS Aa (Kd.S_types Ai.out Ac.out (by decide)) (.slice Ba As.length Az) (.int .i64 Aw) (.string Ax)) (fun _ hk=>hk.2) (.slice Bc At.length Bb)) (fun _ hk=>hk.2) (.slice Bf Ay.length Be)) (fun _ h_=>h_.1))))) (by exact(Kd.S_reads' Ai.out).2.1) (by refine(Kd.R_reads' (e:=3) (base:=w.heap.size) (ok:=fun k_=>(True∧some k_≠(.slice Cr Cc.length Cs:Value).ownBlock)) (n:=At.length) (c:=Bb) ?_).2.2;exact(qR ((Kd.R_mono (Kd.R_far (p:=⟨Aa,4,none⟩) (Kd.R_far (p:=⟨Aa,3,none⟩) (qfR Aa (Kd.R_types Ah.out Ac.out (by decide)) (.slice Ba As.length Az) (.int .i64 Aw) (.string Ax)) (fun _ hk=>hk.2) (.slice Bc At.length Bb)) (fun _ hk=>hk.2) (.slice Bf Ay.length Be)) (fun _ h_=>h_.1))))) (by exact(Kd.R_reads' Ah.out).2.1) (by refine(Kd.S_reads' (e:=33) (base:=w.heap.size) (ok:=fun k_=>((some k_≠(.slice Bc At.length Bb:Value).ownBlock∧some k_≠(.slice Cr Cc.length Cs:Value).ownBlock)∧some k_≠(.slice Di Ck.length Dj:Value).ownBlock)) (n:=Ay.length) (c:=Be) ?_).2.2;exact(qS ((Kd.S_mono (Kd.S_far (p:=⟨Aa,4,none⟩) (Kd.S_far (p:=⟨Aa,3,none⟩) (qfS Aa (Kd.S_types Aj.out Ac.out (by decide)) (.slice Ba As.length Az) (.int .i64 Aw) (.string Ax)) (fun _ hk=>hk.2) (.slice Bc At.length Bb)) (fun _ hk=>hk.2) (.slice Bf Ay.length Be)) (fun _ h_=>h_.1))))) (by exact(Kd.S_reads' Aj.out).2.1) Gk.out).mono ?_);rintro e Gu ⟨rfl,hb⟩;refine⟨_,rfl, ?_⟩;replace Af:=y0.mk (Kd.S_below (qS ((Kd.S_mono (Kd.S_far (p:=⟨Aa,4,none⟩) (Kd.S_far (p:=⟨Aa,3,none⟩) (qfS Aa (Kd.S_types Af.out Ac.out (by decide)) (.slice Ba As.length Az) (.int .i64 Aw) (.string Ax)) (fun _ hk=>hk.2) (.slice Bc At.length Bb)) (fun _ hk=>hk.2) (.slice Bf Ay.length Be)) (fun _ h_=>h_.1)))) hb);replace Ad:=y0.mk (Kd.R_below (qR ((Kd.R_mono (Kd.R_far (p:=⟨Aa,4,none⟩) (Kd.R_far (p:=⟨Aa,3,none⟩) (qfR Aa (Kd.R_types Ad.out Ac.out (by decide)) (.slice Ba As.length Az) (.int .i64 Aw) (.string Ax)) (fun _ hk=>hk.2) (.slice Bc At.length Bb)) (fun _ hk=>hk.2) (.slice Bf Ay.length Be)) (fun _ h_=>h_.1)))) hb);replace Ag:=y0.mk (Kd.S_below (qS ((Kd.S_mono (Kd.S_far (p:=⟨Aa,4,none⟩) (Kd.S_far (p:=⟨Aa,3,none⟩) (qfS Aa (Kd.S_types Ag.out Ac.out (by decide)) (.slice Ba As.length Az) (.int .i64 Aw) (.string Ax)) (fun _ hk=>hk.2) (.slice Bc At.length Bb)) (fun _ hk=>hk.2) (.slice Bf Ay.length Be)) (fun _ h_=>h_.1)))) hb);replace Ai:=y0.mk (Kd.S_below (qS ((Kd.S_mono (Kd.S_far (p:=⟨Aa,4,none⟩) (Kd.S_far (p:=⟨Aa,3,none⟩) (qfS Aa (Kd.S_types Ai.out Ac.out (by decide)) (.slice Ba As.length Az) (.int .i64 Aw) (.string Ax)) (fun _ hk=>hk.2) (.slice Bc At.length Bb)) (fun _ hk=>hk.2) (.slice Bf Ay.length Be)) (fun _ h_=>h_.1)))) hb);replace Ah:=y0.mk (Kd.R_below (qR ((Kd.R_mono (Kd.R_far (p:=⟨Aa,4,none⟩) (Kd.R_far (p:=⟨Aa,3,none⟩) (qfR Aa (Kd.R_types Ah.out Ac.out (by decide)) (.slice Ba As.length Az) (.int .i64 Aw) (.string Ax)) (fun _ hk=>hk.2) (.slice Bc At.length Bb)) (fun _ hk=>hk.2) (.slice Bf Ay.length Be)) (fun _ h_=>h_.1)))) hb);replace Aj:=y0.mk (Kd.S_below (qS ((Kd.S_mono (Kd.S_far (p:=⟨Aa,4,none⟩) (Kd.S_far (p:=⟨Aa,3,none⟩) (qfS Aa (Kd.S_types Aj.out Ac.out (by decide)) (.slice Ba As.length Az) (.int .i64 Aw) (.string Ax)) (fun _ hk=>hk.2) (.slice Bc At.length Bb)) (fun _ hk=>hk.2) (.slice Bf Ay.length Be)) (fun _ h_=>h_.1)))) hb);replace Ab:=y0.mk (y6 (g:=Bo) (o:=.cells #[.slice Bg Am.length Bh,.int .i64 Au,.string Av,.slice Bi Ap.length Bj,.slice Bk Ar.length Bl] 28 (0,0)) (by(with_reducible repeat(first|refine y9 ?_ _|refine y8 ?_|refine y5 ?_ _));refine y10 ?_ Ak.out _;refine y10 ?_ Ak.out _;refine y10 ?_ Ak.out _;refine y10 ?_ Ak.out _;refine y10 ?_ Ak.out _;(with_reducible repeat(first|refine y9 ?_ _|refine y8 ?_|refine y5 ?_ _));exact Ab.out) hb);replace Ac:=y0.mk (y6 (g:=Aa) (o:=.cells #[.slice Ba As.length Az,.int .i64 Aw,.string Ax,.slice Bc At.length Bb,.slice Bf Ay.length Be] 36 (0,0)) (by(with_reducible repeat(first|refine y9 ?_ _|refine y8 ?_|refine y5 ?_ _));refine y11 (cs:=#[.slice Ba As.length Az,.int .i64 Aw,.string Ax,.slice Bc At.length Bb,.slice none 0 0]) ?_ 4 _ rfl;refine y11 (cs:=#[.slice Ba As.length Az,.int .i64 Aw,.string Ax,.slice none 0 0,.slice none 0 0]) ?_ 3 _ rfl;refine y11 (cs:=#[.slice Ba As.length Az,.int .i64 Aw,.string (⟨#[]⟩:ByteArray),.slice none 0 0,.slice none 0 0]) ?_ 2 _ rfl;refine y11 (cs:=#[.slice Ba As.length Az,.int .i64 0,.string (⟨#[]⟩:ByteArray),.slice none 0 0,.slice none 0 0]) ?_ 1 _ rfl;refine y11 (cs:=#[.slice none 0 0,.int .i64 0,.string (⟨#[]⟩:ByteArray),.slice none 0 0,.slice none 0 0]) ?_ 0 _ rfl;(with_reducible repeat(first|refine y9 ?_ _|refine y8 ?_|refine y5 ?_ _));exact Ac.out) hb);replace HB:=y0.mk (y4 qb hb);(try clear hb)))
    replace Af:=y0.mk (Kd.S_drew Af.out)
    replace Ad:=y0.mk (Kd.R_drew Ad.out)
    replace Ag:=y0.mk (Kd.S_drew Ag.out)
    replace Ai:=y0.mk (Kd.S_drew Ai.out)
    replace Ah:=y0.mk (Kd.R_drew Ah.out)
    replace Aj:=y0.mk (Kd.S_drew Aj.out)
    replace Ab:=y0.mk (y8 Ab.out)
    replace Ac:=y0.mk (y8 Ac.out)
    replace HB:=y0.mk (y2 HB.out)
    refine start_ (n:=5) (S:=fun w'=>w'.cell? ⟨Aa,0,none⟩=some (.slice Ba As.length Az)∧w'.cell? ⟨Aa,1,none⟩=some (.int .i64 Aw)∧w'.cell? ⟨Aa,2,none⟩=some (.string Ax)∧w'.cell? ⟨Aa,3,none⟩=some (.slice Bc At.length Bb)∧w'.cell? ⟨Aa,4,none⟩=some (.slice Bf Ay.length Be)∧w'.cell? ⟨Bo,0,none⟩=some (.slice Bg Am.length Bh)∧w'.cell? ⟨Bo,1,none⟩=some (.int .i64 Au)∧w'.cell? ⟨Bo,2,none⟩=some (.string Av)∧w'.cell? ⟨Bo,3,none⟩=some (.slice Bi Ap.length Bj)∧w'.cell? ⟨Bo,4,none⟩=some (.slice Bk Ar.length Bl)) (ds:=[]) #[false,false,false,false,false] (by kernel_rfl) rfl rfl ⟨(y7 Ac.out 0).trans rfl,(y7 Ac.out 1).trans rfl,(y7 Ac.out 2).trans rfl,(y7 Ac.out 3).trans rfl,(y7 Ac.out 4).trans rfl,(y7 Ab.out 0).trans rfl,(y7 Ab.out 1).trans rfl,(y7 Ab.out 2).trans rfl,(y7 Ab.out 3).trans rfl,(y7 Ab.out 4).trans rfl⟩ (fun hHeld=>?_)
    generalize Gu.drew=Hf at Af Ad Ag Ai Ah Aj Ab Ac HB hHeld ⊢
    refine qt 0 22 #[true,false,false,false,false] hHeld ?_
    refine qt 1 23 #[true,true,false,false,false] hHeld ?_
    refine qO 2 24 #[true,true,true,false,false] (fun K hK=>?_)
    refine goes_ Try.func8 (by kernel_rfl) rfl #[.agg #[.slice Bg Am.length Bh,.int .i64 Au,.string Av,.slice Bi Ap.length Bj,.slice Bk Ar.length Bl]] (by rfl) rfl rfl qy1 ?_
    with_reducible refine(laws_toRule.calls k _ _ Am Au Av _ _ Ap _ _ Ar Cl Cm Cn Cp Cq _ (qc (Kd.C_below Bp.out HB.out)) Bq.out (qc (Kd.C_below Br.out HB.out)) Bs.out (qc (Kd.C_below Bt.out HB.out)) Bu.out Gl.out).mono ?_
    rintro e Hg ⟨Gv,Gw,Gx,rfl,Ch,Bx,Ci,hb⟩
    refine⟨_,rfl, ?_⟩
    have Bz:=y0.mk (Kd.S_lower (Kd.S_new' (Kd.S_new' (Kd.S_new' (Kd.S_new' Ch (Kd.S_lt (qS Af.out))) (Kd.R_lt (qR Ad.out))) (Kd.S_lt (qS Ai.out))) (Kd.R_lt (qR Ah.out))) (y3 qb))
    replace Af:=y0.mk (Kd.S_mono (Kd.S_told (Kd.S_told (Kd.S_old (qS Af.out) hb) (Kd.S_base Ch)) (Kd.R_base Bx)) (fun _ h_=>h_.1))
    replace Ai:=y0.mk (Kd.S_mono (Kd.S_told (Kd.S_told (Kd.S_old (qS Ai.out) hb) (Kd.S_base Ch)) (Kd.R_base Bx)) (fun _ h_=>h_.1))
    have Ca:=y0.mk (Kd.R_lower (Kd.R_new' (Kd.R_new' Bx (Kd.R_lt (qR Ad.out))) (Kd.R_lt (qR Ah.out))) (y3 qb))
    have Cb:=y0.mk (Kd.S_lower (Kd.S_new' (Kd.S_new' (Kd.S_new' (Kd.S_new' Ci (Kd.R_lt (qR Ad.out))) (Kd.S_lt (qS Ag.out))) (Kd.R_lt (qR Ah.out))) (Kd.S_lt (qS Aj.out))) (y3 qb))
    replace Ad:=y0.mk (Kd.R_elder' (qR Ad.out) (Kd.R_base Bx) hb)
    replace Ag:=y0.mk (Kd.S_mono (Kd.S_told (Kd.S_told (Kd.S_old (qS Ag.out) hb) (Kd.R_base Bx)) (Kd.S_base Ci)) (fun _ h_=>h_.1))
    replace Ah:=y0.mk (Kd.R_elder' (qR Ah.out) (Kd.R_base Bx) hb)
    replace Aj:=y0.mk (Kd.S_mono (Kd.S_told (Kd.S_told (Kd.S_old (qS Aj.out) hb) (Kd.R_base Bx)) (Kd.S_base Ci)) (fun _ h_=>h_.1))
    replace Ab:=y0.mk (qK Ab.out hb)
    replace Ac:=y0.mk (qK Ac.out hb)
    replace HB:=y0.mk (y4 qb hb)
    (try clear hb)
    (try clear Ch)
    (try clear Bx)
    (try clear Ci)
    obtain⟨Fx,Fy,Dk⟩:=Kd.S_slice Bz.out
    (first|subst Dk|(injection Dk with f1_ f2_ f3_;have f4_:=f1_.symm;have f5_:=f3_.symm;clear f1_ f2_ f3_;subst f4_;subst f5_))
    obtain⟨Fz,Ga,Dl⟩:=Kd.R_slice Ca.out
    (first|subst Dl|(injection Dl with f1_ f2_ f3_;have f4_:=f1_.symm;have f5_:=f3_.symm;clear f1_ f2_ f3_;subst f4_;subst f5_))
    obtain⟨Gb,Gc,Dm⟩:=Kd.S_slice Cb.out
    (first|subst Dm|(injection Dm with f1_ f2_ f3_;have f4_:=f1_.symm;have f5_:=f3_.symm;clear f1_ f2_ f3_;subst f4_;subst f5_))
    refine hK.out _ _ ⟨(y7 Ac.out 0).trans rfl,(y7 Ac.out 1).trans rfl,(y7 Ac.out 2).trans rfl,(y7 Ac.out 3).trans rfl,(y7 Ac.out 4).trans rfl,(y7 Ab.out 0).trans rfl,(y7 Ab.out 1).trans rfl,(y7 Ab.out 2).trans rfl,(y7 Ab.out 3).trans rfl,(y7 Ab.out 4).trans rfl⟩ (fun hHeld=>?_)
    clear hK K
    refine qx 24 ?_
    refine qO 3 25 #[true,true,true,true,false] (fun K hK=>?_)
    refine goes_ Try.func11 (by kernel_rfl) rfl #[.agg #[.slice Ba As.length Az,.int .i64 Aw,.string Ax,.slice Bc At.length Bb,.slice Bf Ay.length Be],.agg #[.slice Fx Cl.length Fy,.int .i64 Cm,.string Cn,.slice Fz Cp.length Ga,.slice Gb Cq.length Gc]] (by rfl) rfl rfl qy1 ?_
    with_reducible refine(laws_eqRule.calls k _ _ As Aw Ax _ _ At _ _ Ay _ _ Cl Cm Cn _ _ Cp _ _ Cq true _ ?side1 ?side2 ?side3 ?side4 ?side5 ?side6 ?side7 ?side8 ?side9 ?side10 ?side11 ?side12 Gm.out).mono ?_
    (case side1=>repeat(first|exact(Kd.S_reads' Ai.out).2.2|(with_reducible refine Kd.C_alloc ?_ _)|(with_reducible refine Kd.C_drewN ?_ _)|(with_reducible refine Kd.C_drew ?_)))
    (case side2=>exact(Kd.S_reads' Ai.out).2.1)
    (case side3=>repeat(first|exact(Kd.R_reads' Ah.out).2.2|(with_reducible refine Kd.C_alloc ?_ _)|(with_reducible refine Kd.C_drewN ?_ _)|(with_reducible refine Kd.C_drew ?_)))
    (case side4=>exact(Kd.R_reads' Ah.out).2.1)
    (case side5=>repeat(first|exact(Kd.S_reads' Aj.out).2.2|(with_reducible refine Kd.C_alloc ?_ _)|(with_reducible refine Kd.C_drewN ?_ _)|(with_reducible refine Kd.C_drew ?_)))
    (case side6=>exact(Kd.S_reads' Aj.out).2.1)
    (case side7=>repeat(first|exact(Kd.S_reads' Bz.out).2.2|(with_reducible refine Kd.C_alloc ?_ _)|(with_reducible refine Kd.C_drewN ?_ _)|(with_reducible refine Kd.C_drew ?_)))
    (case side8=>exact(Kd.S_reads' Bz.out).2.1)
    (case side9=>repeat(first|exact(Kd.R_reads' Ca.out).2.2|(with_reducible refine Kd.C_alloc ?_ _)|(with_reducible refine Kd.C_drewN ?_ _)|(with_reducible refine Kd.C_drew ?_)))
    (case side10=>exact(Kd.R_reads' Ca.out).2.1)
    (case side11=>repeat(first|exact(Kd.S_reads' Cb.out).2.2|(with_reducible refine Kd.C_alloc ?_ _)|(with_reducible refine Kd.C_drewN ?_ _)|(with_reducible refine Kd.C_drew ?_)))
    (case side12=>exact(Kd.S_reads' Cb.out).2.1)
    rintro e Hh ⟨rfl,hb⟩
    refine⟨_,rfl, ?_⟩
    replace Af:=y0.mk (Kd.S_below (qS Af.out) hb)
    replace Ad:=y0.mk (Kd.R_below (qR Ad.out) hb)
    replace Ag:=y0.mk (Kd.S_below (qS Ag.out) hb)
    replace Ai:=y0.mk (Kd.S_below (qS Ai.out) hb)
    replace Ah:=y0.mk (Kd.R_below (qR Ah.out) hb)
    replace Aj:=y0.mk (Kd.S_below (qS Aj.out) hb)
    replace Bz:=y0.mk (Kd.S_below (qS Bz.out) hb)
    replace Ca:=y0.mk (Kd.R_below (qR Ca.out) hb)
    replace Cb:=y0.mk (Kd.S_below (qS Cb.out) hb)
    replace Ab:=y0.mk (qK Ab.out hb)
    replace Ac:=y0.mk (qK Ac.out hb)
    replace HB:=y0.mk (y4 qb hb)
    (try clear hb)
    refine hK.out _ _ ⟨(y7 Ac.out 0).trans rfl,(y7 Ac.out 1).trans rfl,(y7 Ac.out 2).trans rfl,(y7 Ac.out 3).trans rfl,(y7 Ac.out 4).trans rfl,(y7 Ab.out 0).trans rfl,(y7 Ab.out 1).trans rfl,(y7 Ab.out 2).trans rfl,(y7 Ab.out 3).trans rfl,(y7 Ab.out 4).trans rfl⟩ (fun hHeld=>?_)
    clear hK K
    refine qx 25 ?_
    refine qp 4 26 #[true,true,true,true,true] ?_
    refine done_ (by kernel_rfl) ?_
    try go_wp2
    go_ret
    exact⟨qf,qb⟩
   ·replace Do:=Bool.eq_false_iff.mpr Do
    subst Do
    replace H:=qF H
    exact absurd ((Option.some.inj H).trans htrue_) (by decide)
def laws_FnExactGrows.Pure:Prop:=∀(x0:S28),okT28 x0→∃ k,laws_FnExactGrows.f k x0.f0 x0.f1.f0 x0.f1.f1 x0.f1.f2 x0.f2=some true
theorem laws_FnExactGrows.walk (P:laws_FnExactGrows.Pure) (x0:S28) (A0_0:Option Addr) (c0_0:Nat) (A0_3:Option Addr) (c0_3:Nat) (A0_4:Option Addr) (c0_4:Nat) (w:World) (hr0_0:Kd.C k69 w A0_0 x0.f0.length x0.f0) (hc0_0:x0.f0.length≤c0_0) (hr0_3:Kd.C (Kd.int .i64) w A0_3 x0.f1.f2.length x0.f1.f2) (hc0_3:x0.f1.f2.length≤c0_3) (hr0_4:Kd.C k25 w A0_4 x0.f2.length x0.f2) (hc0_4:x0.f2.length≤c0_4) (k0:okT28 x0) :
  Calls Try.prog 5 #[.agg #[.slice A0_0 x0.f0.length c0_0,.int .i64 x0.f1.f0,.string x0.f1.f1,.slice A0_3 x0.f1.f2.length c0_3,.slice A0_4 x0.f2.length c0_4]] w fun e w'=>e=.returned (.bool true)∧Below w.heap.size w w':=by
 obtain⟨k,h⟩:=P x0 k0
 refine(laws_FnExactGrows.calls k A0_0 c0_0 x0.f0 x0.f1.f0 x0.f1.f1 A0_3 c0_3 x0.f1.f2 A0_4 c0_4 x0.f2 true w hr0_0 hc0_0 hr0_3 hc0_3 hr0_4 hc0_4 h rfl).mono ?_
 rintro e w' ⟨rfl,hd⟩
 exact⟨rfl,hd⟩
end Go.Proofs.Ytkdabljlfbmpdaa.Pw
end
