-- Cut by prune.py.
import Derived.Test.YtkdabljlfbmpdaaVgrQVars
import Derived.Test.YtkdabljlfbmpdaaVgrQLeast
namespace Go.Proofs.Ytkdabljlfbmpdaa.QOldA
open RowKit Pw YtkdabljlfbmpdaaW.PrintWords YtkdabljlfbmpdaaW.PrintLast QStr QGenR QRule QTree QText QForm QRuleT QWith QVars QLeast
set_option linter.unusedVariables false
set_option linter.unusedSimpArgs false
theorem incs_count:∀(ks us:List Int) (j:Nat),InR us.length ks→(incs us ks).getD j 0=us.getD j 0 + ((ks.count (j:Int):Nat):Int)
 | [],us,j,_=>by
  show us.getD j 0=us.getD j 0 + 0
  omega
 | k :: r,us,j,h=>by
  obtain⟨h1,h2⟩:=inR_cons.1 h
  have ih:=incs_count r (bump us k) j (by rw [bump_len];exact h2)
  have hb:=bump_at us k j (by omega)
  show(incs (bump us k) r).getD j 0=_
  rw [ih,hb,List.count_cons]
  by_cases e:k.toNat=j
  ·rw [if_pos e,if_pos (by rw [beq_iff_eq];omega)]
   omega
  ·rw [if_neg e,if_neg (by rw [beq_iff_eq];omega)]
   omega
theorem cnt1 (es:List IEx) (k:Int):∀ m i,i < m→k∈kd es i→1≤(kids es m).count k
 | 0,i,h,_=>absurd h (Nat.not_lt_zero i)
 | m + 1,i,h,hk=>by
  show 1≤(kids es m ++ kd es m).count k
  rw [List.count_append]
  by_cases e:i=m
  ·subst e
   have:=List.count_pos_iff.2 hk
   omega
  ·have:=cnt1 es k m i (by omega) hk
   omega
theorem cnt2 (es:List IEx) (k:Int):∀ m i j,i < m→j < m→i≠j→k∈kd es i→k∈kd es j→2≤(kids es m).count k
 | 0,i,_,h,_,_,_,_=>absurd h (Nat.not_lt_zero i)
 | m + 1,i,j,hi,hj,hne,h1,h2=>by
  show 2≤(kids es m ++ kd es m).count k
  rw [List.count_append]
  by_cases e:i=m
  ·subst e
   have:=List.count_pos_iff.2 h1
   have:=cnt1 es k i j (by omega) h2
   omega
  ·by_cases e2:j=m
   ·subst e2
    have:=List.count_pos_iff.2 h2
    have:=cnt1 es k j i (by omega) h1
    omega
   ·have:=cnt2 es k m i j (by omega) (by omega) hne h1 h2
    omega
theorem kd_lt {es:List IEx} {i:Nat} {k:Int} (h:k∈kd es i):i < es.length:=by
 refine Classical.byContradiction fun hc=>?_
 have e:kd es i=[]:=by
  unfold kd
  rw [List.getD_eq_getElem?_getD,List.getElem?_eq_none (by omega)]
  rfl
 rw [e]at h
 cases h
theorem frm_count {es:List IEx} {h:ILt} {bd:List ILt} (hf:Frm es h bd) {k:Int} (hk:0≤k∧k < (es.length:Int)):(kids es es.length).count k + (lat (h :: bd) (h :: bd).length).count k=1:=by
 obtain⟨h1,h2,h3,h4⟩:=hf
 have hki:=kids_in es h1 es.length (Nat.le_refl _)
 have hl:=lat_in es.length (h :: bd) (h :: bd).length (Nat.le_refl _) (fun m hm _=>(h2 m hm).1)
 have c1:=incs_count (kids es es.length) (us0 es) k.toNat (by rw [us0_len];exact hki)
 have c2:=incs_count (lat (h :: bd) (h :: bd).length) (incs (us0 es) (kids es es.length)) k.toNat (by rw [incs_len,us0_len];exact hl)
 have hlt:k.toNat < (incs (incs (us0 es) (kids es es.length)) (lat (h :: bd) (h :: bd).length)).length:=by rw [incs_len,incs_len,us0_len];omega
 have e:=h4 _ (List.getElem_mem hlt)
 rw [List.getD_eq_getElem?_getD (l:=incs (incs _ _) _),List.getElem?_eq_getElem hlt]at c2
 simp only [Option.getD_some]at c2
 rw [us0_at]at c1
 rw [show((k.toNat:Nat):Int)=k by omega]at c1 c2
 omega
theorem frm_un {es:List IEx} {h:ILt} {bd:List ILt} (hf:Frm es h bd):Un (kd es):=by
 intro i j k h1 h2
 refine Classical.byContradiction fun hne=>?_
 have hk:=dn es hf.1 i k h1
 have hi:=kd_lt h1
 have:=cnt2 es k es.length i j hi (kd_lt h2) hne h1 h2
 have:=frm_count hf (k:=k) ⟨hk.1,by omega⟩
 omega
theorem lat_of (ls:List ILt) (x:Int):∀ m j,j < m→x∈(ls.getD j zL).f2→x∈lat ls m
 | 0,j,h,_=>absurd h (Nat.not_lt_zero j)
 | m + 1,j,h,hx=>by
  show x∈lat ls m ++ (ls.getD m zL).f2
  by_cases e:j=m
  ·subst e
   exact List.mem_append_right _ hx
  ·exact List.mem_append_left _ (lat_of ls x m j (by omega) hx)
theorem frm_lit {es:List IEx} {h:ILt} {bd:List ILt} (hf:Frm es h bd) {l:ILt} (hl:l∈bd) {x:Int} (hx:x∈l.f2):(0≤x∧x < (es.length:Int))∧∀ i,x∉kd es i:=by
 obtain⟨j,hj,e⟩:=List.getElem_of_mem (List.mem_cons_of_mem h hl)
 have hr:0≤x∧x < (es.length:Int):=(hf.2.1 j hj).1 x (by rw [e];exact hx)
 refine⟨hr,fun i hi=>?_⟩
 have h1:=lat_of (h :: bd) x (h :: bd).length j hj (by rw [getD_l _ j hj,e];exact hx)
 have h2:=List.count_pos_iff.2 h1
 have h3:=cnt1 es x es.length i (kd_lt hi) hi
 have:=frm_count hf hr
 omega
theorem lat_le (ls:List ILt):∀ m j,j < m→(ls.getD j zL).f2.length≤(lat ls m).length
 | 0,j,h=>absurd h (Nat.not_lt_zero j)
 | m + 1,j,h=>by
  show _≤(lat ls m ++ (ls.getD m zL).f2).length
  rw [List.length_append]
  by_cases e:j=m
  ·subst e
   omega
  ·have:=lat_le ls m j (by omega)
   omega
theorem frm_arg {es:List IEx} {h:ILt} {bd:List ILt} (hf:Frm es h bd) {l:ILt} (hl:l∈bd):l.f2.length≤60∧(l.f0=3→l.f2.length=2):=by
 obtain⟨j,hj,e⟩:=List.getElem_of_mem (List.mem_cons_of_mem h hl)
 have h1:=lat_le (h :: bd) (h :: bd).length j hj
 rw [getD_l _ j hj,e]at h1
 have h2:=frm_few es h bd hf
 exact⟨by omega,fun h3=>by have:=(hf.2.1 j hj).2.2.2.1;rw [e]at this;exact this h3⟩
def cal (es:List IEx) (i:Nat):Prop:=5≤(es.getD i zE).f0∧(es.getD i zE).f0≤7
theorem isSum_f (v:Int):impl_isSum.f v=some (decide (5≤v∧v≤7)):=by
 unfold impl_isSum.f
 rw [in_f,Option.bind_some]
theorem calc_f (v:Int):spec_l06Calc.f v=some (decide (5≤v∧v≤7)):=by
 unfold spec_l06Calc.f
 rw [between_f,Option.bind_some]
section
variable (es : List IEx) (a : Int) (b : ByteArray) (c : List Int) (d : List ILt)
def Pi (n:Nat) (xs:List Int):Prop:=Ev (fun k=>impl_Rule_plain.f k es a b c d (n:Int)) xs∧xs.length≤sz es n∧∀ x,x∈xs↔∃ y:Nat,x=(y:Int)∧Pl (kd es) (cal es) n y
theorem plain_l (ks:List Int) (hk:ks.length≤1048576) (hks:∀ k∈ks,0≤k∧∃ xs,Pi es a b c d k.toNat xs):∀(q j:Nat) (out:List Int),j + q=ks.length→out.length + sumS es (ks.drop j)≤1048576 →
  ∃ ys:List Int,Ev (fun m=>impl_Rule_plain.l0 m out ks (ks.length:Int) (j:Int) es a b c d) ((out ++ ys).mergeSort (fun x y=>decide (x≤y)))∧ys.length≤sumS es (ks.drop j)∧∀ x,x∈ys↔∃ k∈ks.drop j,∃ y:Nat,x=(y:Int)∧Pl (kd es) (cal es) k.toNat y
 | 0,j,out,h,hl=>by
  have hd:ks.drop j=[]:=List.drop_of_length_le (by omega)
  rw [hd]at hl ⊢
  refine⟨[],y14 ⟨0,fun m _=>?_⟩,Nat.le_refl _,fun x=>⟨(fun h=>by cases h),(fun h=>by obtain⟨_,h,_⟩:=h;cases h)⟩⟩
  have hl2:out.length≤1048576:=hl
  rw [impl_Rule_plain.l0,if_neg (by omega),slices_Sort_int_int.f,if_pos (by omega),Option.bind_some,List.append_nil]
 | q + 1,j,out,h,hl=>by
  have hj:j < ks.length:=by omega
  obtain⟨h0,xs,⟨K1,hx⟩,hxl,hxm⟩:=hks ks[j] (List.getElem_mem hj)
  rw [List.drop_eq_getElem_cons hj]at hl ⊢
  have hs:sumS es (ks[j] :: ks.drop (j + 1))=sz es ks[j].toNat + sumS es (ks.drop (j + 1)):=rfl
  rw [hs]at hl ⊢
  obtain⟨ys,⟨K2,hy⟩,hyl,hym⟩:=plain_l ks hk hks q (j + 1) (out ++ xs) (by omega) (by rw [List.length_append];omega)
  refine⟨xs ++ ys,y14 ⟨max K1 K2,fun m hm=>?_⟩,by rw [List.length_append];omega,fun x=>?_⟩
  ·have e1:=hx m (by omega)
   have e2:=hy m (by omega)
   simp only []at e1 e2
   rw [show((ks[j].toNat:Nat):Int)=ks[j]by omega]at e1
   rw [impl_Rule_plain.l0,if_pos (by omega),if_pos (by omega),if_pos (by omega),rdN_get ks j hj,e1,Option.bind_some,if_pos (by omega),step_i (by omega),e2,List.append_assoc out xs ys]
  ·rw [List.mem_append,hxm x,hym x]
   constructor
   ·rintro(h|⟨k,hk,h⟩)
    ·exact⟨_,List.mem_cons_self,h⟩
    ·exact⟨k,List.mem_cons_of_mem _ hk,h⟩
   ·rintro⟨k,hk,h⟩
    rcases List.mem_cons.1 hk with rfl|hk
    ·exact .inl h
    ·exact .inr ⟨k,hk,h⟩
theorem plain_ev (hes:EsOk es) (hsz:∀ i < es.length,sz es i≤60) (hn:es.length≤60) (hk:∀ e∈es,e.f2.length≤1048576):∀(m n:Nat),n < m→n < es.length→∃ xs,Pi es a b c d n xs
 | 0,n,h,_=>absurd h (Nat.not_lt_zero n)
 | m + 1,n,h,hl=>by
  have hrd:y19 es (n:Int)=es[n]:=getD_at _ es n hl
  have hE:=(hes n hl).1
  have hkd:kd es n=es[n].f2:=by rw [kd,getD_in es n hl]
  have hS:sumS es es[n].f2 + 1=sz es n:=by
   unfold sz
   rw [hkd,sumS_eq es n _ hE]
   omega
  have hs60:=hsz n hl
  have hcal:cal es n↔5≤es[n].f0∧es[n].f0≤7:=by
   unfold cal
   rw [getD_in es n hl]
  by_cases hc:cal es n
  ·refine⟨[(n:Int)].mergeSort (fun x y=>decide (x≤y)),y14 ⟨0,fun k _=>?_⟩, ?_,fun x=>?_⟩
   ·rw [impl_Rule_plain.f,Option.bind_some,if_pos (by omega),if_pos (by omega),hrd,isSum_f,Option.bind_some,if_pos (decide_eq_true (hcal.1 hc)),slices_Sort_int_int.f,if_pos (by rw [List.length_singleton];omega),Option.bind_some]
   ·rw [List.length_mergeSort,List.length_singleton]
    omega
   ·rw [List.mem_mergeSort,List.mem_singleton]
    constructor
    ·rintro rfl
     exact⟨n,rfl,Pl.here⟩
    ·rintro⟨y,rfl,g⟩
     rcases pl_top g with rfl|⟨h0,_⟩
     ·rfl
     ·exact absurd hc h0
  ·obtain⟨ys,⟨K,hy⟩,hyl,hym⟩:=plain_l es a b c d es[n].f2 (hk _ (List.getElem_mem hl)) (fun k hk2=>by
    have hr:=hE k hk2
    exact⟨hr.1,plain_ev hes hsz hn hk m k.toNat (by omega) (by omega)⟩) es[n].f2.length 0 [(n:Int)] (by omega) (by rw [List.drop_zero,List.length_singleton];omega)
   rw [List.drop_zero]at hyl hym
   refine⟨([(n:Int)] ++ ys).mergeSort (fun x y=>decide (x≤y)),y14 ⟨K,fun k hk3=>?_⟩, ?_,fun x=>?_⟩
   ·have e:=hy k hk3
    simp only []at e
    rw [impl_Rule_plain.f,Option.bind_some,if_pos (by omega),if_pos (by omega),hrd,isSum_f,Option.bind_some,if_neg (by rw [decide_eq_true_eq];exact fun h=>hc (hcal.2 h))]
    exact e
   ·rw [List.length_mergeSort,List.length_append,List.length_singleton]
    omega
   ·rw [List.mem_mergeSort,List.mem_append,hym x,List.mem_singleton]
    constructor
    ·rintro(rfl|⟨k,hk4,y,rfl,g⟩)
     ·exact⟨n,rfl,Pl.here⟩
     ·exact⟨y,rfl,pl_kid hc (by rw [hkd];exact hk4) g⟩
    ·rintro⟨y,rfl,g⟩
     rcases pl_top g with rfl|⟨_,k,hk4,g⟩
     ·exact .inl rfl
     ·rw [hkd]at hk4
      exact .inr ⟨k,hk4,y,rfl,g⟩
open Classical in
noncomputable def PTc (n:Nat):Bool:=decide (¬ ∃ i,Re (kd es) n i∧cal es i)
open Classical in
theorem pat_ev (hes:EsOk es) (hsz:∀ i < es.length,sz es i≤60) (hn:es.length≤60) (hk:∀ e∈es,e.f2.length≤1048576) (n:Nat) (hl:n < es.length):Ev (fun k=>z2_.f k es a b c d (n:Int)) (PTc es n):=by
 obtain⟨xs,⟨K,e⟩,h1,_,h3⟩:=within_ev es a b c d hes hsz hn hk (n + 1) n (by omega) hl
 have h60:=hsz n hl
 have hg:∀ x∈xs,∃ y:Nat,x=(y:Int)∧Re (kd es) n y∧impl_Rule_isPattern_1.f x es a b c d=some (decide (5≤(es.getD y zE).f0∧(es.getD y zE).f0≤7)):=fun x hx=>by
  obtain⟨y,rfl,g⟩:=(h3 x).1 hx
  have hy:=re_le (dn es hes) g
  have hrd:y19 es (y:Int)=es[y]:=getD_at _ es y (by omega)
  refine⟨y,rfl,g, ?_⟩
  unfold impl_Rule_isPattern_1.f
  rw [if_pos (by omega),if_pos (by omega),hrd,isSum_f,Option.bind_some,getD_in es y (by omega)]
 refine⟨K,fun k hk=>?_⟩
 have e:=e k hk
 simp only []at e
 show z2_.f k es a b c d (n:Int)=_
 unfold z2_.f
 rw [e,Option.bind_some,if_pos ⟨by omega,List.all_eq_true.2 (fun x hx=>by obtain⟨y,_,_,h⟩:=hg x hx;rw [h];rfl)⟩]
 congr 1
 rw [Bool.eq_iff_iff,Bool.not_eq_true',List.any_eq_false]
 unfold PTc
 rw [decide_eq_true_eq]
 constructor
 ·rintro h ⟨i,g,hc⟩
  have hx:=(h3 (i:Int)).2 ⟨i,rfl,g⟩
  obtain⟨y,e2,_,h4⟩:=hg _ hx
  obtain rfl:i=y:=by omega
  refine h _ hx ?_
  unfold z2_.g
  rw [h4]
  simpa [cal] using hc
 ·intro h x hx h5
  obtain⟨y,rfl,g,h4⟩:=hg x hx
  unfold z2_.g at h5
  rw [h4]at h5
  exact h ⟨y,g,by simpa [cal] using h5⟩
theorem kind_l (hes:EsOk es) (hn:es.length≤60) (n:Nat) (hl:n < es.length) (m:List Bool) (hm:m.length=es.length):∀(q i:Nat),i + q=n + 1→∃ r:Bool,Ev (fun k=>z10_.l0 k (n:Int) 5 7 m (i:Int) es a b c d) r∧(r=true↔∃ x,i≤x∧x≤n∧Mk m x∧cal es x)
 | 0,i,h=>by
  refine⟨false,y14 ⟨0,fun k _=>?_⟩,⟨(fun h=>by cases h),(fun⟨x,h1,h2,_⟩=>by omega)⟩⟩
  rw [z10_.l0,if_neg (by omega)]
 | q + 1,i,h=>by
  have hi:i < es.length:=by omega
  have hrd:y19 es (i:Int)=es[i]:=getD_at _ es i hi
  have hcal:cal es i↔5≤es[i].f0∧es[i].f0≤7:=by
   unfold cal
   rw [getD_in es i hi]
  obtain⟨r,⟨K,e⟩,h2⟩:=kind_l hes hn n hl m hm q (i + 1) (by omega)
  by_cases hM:Mk m i
  ·by_cases hc:cal es i
   ·refine⟨true,y14 ⟨0,fun k _=>?_⟩,⟨fun _=>⟨i,Nat.le_refl _,by omega,hM,hc⟩,fun _=>rfl⟩⟩
    rw [z10_.l0,if_pos (by omega),if_pos (by omega),if_pos (by omega),if_pos ((rdB m i).2 hM),if_pos (by omega),hrd,between_f,Option.bind_some,if_pos (decide_eq_true (hcal.1 hc))]
   ·refine⟨r,y14 ⟨K,fun k hk=>?_⟩,h2.trans ⟨fun⟨x,h3,h4⟩=>⟨x,by omega,h4⟩,fun⟨x,h3,h4,h5,h6⟩=>⟨x,by
     have:x≠i:=fun e=>hc (e ▸ h6)
     omega,h4,h5,h6⟩⟩⟩
    have e:=e k hk
    simp only []at e
    rw [z10_.l0,if_pos (by omega),if_pos (by omega),if_pos (by omega),if_pos ((rdB m i).2 hM),if_pos (by omega),hrd,between_f,Option.bind_some,if_neg (by rw [decide_eq_true_eq];exact fun h=>hc (hcal.2 h)),step_i (by omega)]
    exact e
  ·refine⟨r,y14 ⟨K,fun k hk=>?_⟩,h2.trans ⟨fun⟨x,h3,h4⟩=>⟨x,by omega,h4⟩,fun⟨x,h3,h4,h5,h6⟩=>⟨x,by
    have:x≠i:=fun e=>hM (e ▸ h5)
    omega,h4,h5,h6⟩⟩⟩
   have e:=e k hk
   simp only []at e
   rw [z10_.l0,if_pos (by omega),if_pos (by omega),if_pos (by omega),if_neg (fun hx=>hM ((rdB m i).1 hx)),step_i (by omega)]
   exact e
open Classical in
theorem kind_ev (hes:EsOk es) (hn:es.length≤60) (hk:∀ e∈es,e.f2.length≤1048576) (n:Nat) (hl:n < es.length):Ev (fun k=>z10_.f k es a b c d (n:Int) 5 7) (!(PTc es n)):=by
 obtain⟨m,⟨K1,e1⟩,h1,h2⟩:=in_ev es a b c d hes hn hk n hl
 obtain⟨r,⟨K2,e2⟩,h3⟩:=kind_l es a b c d hes hn n hl m h1 (n + 1) 0 (by omega)
 have hr:(!(PTc es n))=r:=by
  rw [Bool.eq_iff_iff,h3]
  unfold PTc
  rw [Bool.not_eq_true',decide_eq_false_iff_not,Classical.not_not]
  constructor
  ·rintro⟨i,g,hc⟩
   exact⟨i,Nat.zero_le _,re_le (dn es hes) g,(h2 i).2 g,hc⟩
  ·rintro⟨x,_,_,h5,h6⟩
   exact⟨x,(h2 x).1 h5,h6⟩
 rw [hr]
 refine⟨max K1 K2,fun k hk=>?_⟩
 have e1:=e1 k (by omega)
 have e2:=e2 k (by omega)
 simp only []at e1 e2
 show z10_.f k es a b c d (n:Int) 5 7=_
 unfold z10_.f
 rw [e1,Option.bind_some]
 exact e2
theorem setv_at (v:Bool):∀(ks:List Int) (m:List Bool) (x:Nat),(∀ k∈ks,k.toNat < m.length)→((∃ k∈ks,k.toNat=x)→(Mk (ks.foldl (fun m k=>m.set k.toNat v) m) x↔v=true))∧((¬ ∃ k∈ks,k.toNat=x)→(Mk (ks.foldl (fun m k=>m.set k.toNat v) m) x↔Mk m x))
 | [],m,x,_=>⟨(fun⟨k,h,_⟩=>by cases h),fun _=>Iff.rfl⟩
 | k :: r,m,x,h=>by
  have ih:=setv_at v r (m.set k.toNat v) x (fun y hy=>by rw [List.length_set];exact h y (List.mem_cons_of_mem _ hy))
  have hk:=h k List.mem_cons_self
  rw [List.foldl_cons]
  by_cases hr:∃ y∈r,y.toNat=x
  ·refine⟨fun _=>ih.1 hr,fun hn=>absurd ?_ hn⟩
   obtain⟨y,hy,e⟩:=hr
   exact⟨y,List.mem_cons_of_mem _ hy,e⟩
  ·have h2:=ih.2 hr
   have h3:Mk (m.set k.toNat v) x↔if k.toNat=x then v=true else Mk m x:=by
    unfold Mk
    rw [List.getD_eq_getElem?_getD,List.getElem?_set]
    by_cases e:k.toNat=x
    ·rw [if_pos e,if_pos e,if_pos hk]
     rfl
    ·rw [if_neg e,if_neg e,← List.getD_eq_getElem?_getD]
   rw [h2,h3]
   refine⟨fun⟨y,hy,e⟩=>?_,fun hn=>?_⟩
   ·rcases List.mem_cons.1 hy with rfl|hy
    ·rw [if_pos e]
    ·exact absurd ⟨y,hy,e⟩ hr
   ·rw [if_neg (fun e=>hn ⟨k,List.mem_cons_self,e⟩)]
theorem reck_l1 (hes:EsOk es) (hn:es.length≤60) (i:Nat) (hi:i < es.length) (hkl:es[i].f2.length≤1048576) (v:Bool) (r:List Bool):∀(q j:Nat) (m:List Bool),j + q=es[i].f2.length→m.length=es.length→(v=true↔(Mk m i∨cal es i)) →
  Ev (fun k=>z11_.l0 k ((es[i].f2.drop j).foldl (fun m k=>m.set k.toNat v) m) ((i:Int) - 1) es a b c d) r→Ev (fun k=>z11_.l1 k m (i:Int) (j:Int) es a b c d) r
 | 0,j,m,h,hm,hv,hr=>by
  have hrd:y19 es (i:Int)=es[i]:=getD_at _ es i hi
  rw [List.drop_of_length_le (by omega)]at hr
  obtain⟨K,hr⟩:=hr
  refine y14 ⟨K,fun k hk=>?_⟩
  have e:=hr k hk
  simp only [List.foldl_nil]at e
  rw [z11_.l1,if_pos (by omega),if_pos (by omega),hrd,if_neg (by omega),wrapS (by omega) (by omega)]
  exact e
 | q + 1,j,m,h,hm,hv,hr=>by
  have hrd:y19 es (i:Int)=es[i]:=getD_at _ es i hi
  have hj:j < es[i].f2.length:=by omega
  have hkr:=(hes i hi).1 _ (List.getElem_mem hj)
  have hcal:cal es i↔5≤es[i].f0∧es[i].f0≤7:=by
   unfold cal
   rw [getD_in es i hi]
  rw [List.drop_eq_getElem_cons hj,List.foldl_cons]at hr
  have hsame:Mk (m.set (es[i].f2[j]).toNat v) i↔Mk m i:=by
   unfold Mk
   rw [List.getD_eq_getElem?_getD,List.getElem?_set,if_neg (by omega),← List.getD_eq_getElem?_getD]
  obtain⟨K,hr⟩:=reck_l1 hes hn i hi hkl v r q (j + 1) (m.set (es[i].f2[j]).toNat v) (by omega) (by rw [List.length_set];exact hm) (by rw [hsame];exact hv) hr
  refine y14 ⟨K,fun k hk=>?_⟩
  have e:=hr k hk
  simp only []at e
  rw [z11_.l1,if_pos (by omega),if_pos (by omega),hrd,if_pos (by omega),if_pos (by omega),if_pos (by omega)]
  by_cases hM:Mk m i
  ·have hvt:v=true:=hv.2 (.inl hM)
   rw [hvt]at e
   rw [if_pos ((rdB m i).2 hM),rdN_get _ j hj,if_pos hkr.1,if_pos (by omega),step_i (by omega)]
   exact e
  ·have hvc:decide (5≤es[i].f0∧es[i].f0≤7)=v:=by
    rw [Bool.eq_iff_iff,decide_eq_true_eq,hv,hcal]
    exact⟨.inr,fun h=>h.resolve_left hM⟩
   rw [if_neg (fun hx=>hM ((rdB m i).1 hx)),calc_f,Option.bind_some,rdN_get _ j hj,if_pos hkr.1,if_pos (by omega),step_i (by omega),hvc]
   exact e
theorem setv_len (v:Bool):∀(ks:List Int) (m:List Bool),(ks.foldl (fun m k=>m.set k.toNat v) m).length=m.length
 | [],_=>rfl
 | k :: r,m=>by
  rw [List.foldl_cons,setv_len v r,List.length_set]
open Classical in
theorem reck_l0 (hes:EsOk es) (hu:Un (kd es)) (hn:es.length≤60) (hk:∀ e∈es,e.f2.length≤1048576):∀(i:Nat) (m:List Bool),i≤es.length→m.length=es.length→InvR (kd es) (cal es) i m →
  ∃ r,Ev (fun k=>z11_.l0 k m ((i:Int) - 1) es a b c d) r∧r.length=es.length∧InvR (kd es) (cal es) 0 r
 | 0,m,_,hm,hI=>by
  refine⟨m,y14 ⟨0,fun k _=>?_⟩,hm,hI⟩
  rw [z11_.l0,if_neg (by omega)]
 | i + 1,m,hi,hm,hI=>by
  have hlt:i < es.length:=by omega
  have hkd:kd es i=es[i].f2:=by rw [kd,getD_in es i hlt]
  have hE:=(hes i hlt).1
  obtain⟨r,hr,h1,h2⟩:=reck_l0 hes hu hn hk i (es[i].f2.foldl (fun m' k=>m'.set k.toNat (decide (Mk m i∨cal es i))) m) (by omega) (by show(es[i].f2.foldl _ m).length=_;rw [setv_len];exact hm)
   (invR_step (dn es hes) hu hI (v:=(decide (Mk m i∨cal es i))=true) (by rw [decide_eq_true_eq]) (fun x=>by
    rw [hkd]
    exact setv_at _ es[i].f2 m x (fun k hk=>by have:=hE k hk;omega)))
  obtain⟨K,e⟩:=reck_l1 es a b c d hes hn i hlt (hk _ (List.getElem_mem hlt)) (decide (Mk m i∨cal es i)) r es[i].f2.length 0 m (by omega) hm (by rw [decide_eq_true_eq]) (by rw [List.drop_zero];exact hr)
  refine⟨r,y14 ⟨K,fun k hk=>?_⟩,h1,h2⟩
  have e:=e k hk
  simp only []at e
  rw [z11_.l0,if_pos (by omega),show((i + 1:Nat):Int) - 1=(i:Int)by omega]
  exact e
theorem reck_ev (hes:EsOk es) (hu:Un (kd es)) (hn:es.length≤60) (hk:∀ e∈es,e.f2.length≤1048576):∃ r,Ev (fun k=>z11_.f k es a b c d) r∧r.length=es.length∧∀ x,Mk r x↔Rk (kd es) (cal es) x:=by
 have hlen:(List.replicate es.length false).length=es.length:=List.length_replicate
 obtain⟨r,⟨K,e⟩,h1,h2⟩:=reck_l0 es a b c d hes hu hn hk es.length (List.replicate es.length false) (Nat.le_refl _) hlen (fun x=>by
  constructor
  ·intro h
   unfold Mk at h
   rw [List.getD_eq_getElem?_getD,List.getElem?_replicate]at h
   split at h <;> cases h
  ·rintro⟨j,hj,k,hk,_⟩
   have:=kd_lt hk
   omega)
 refine⟨r,⟨K,fun k hk=>?_⟩,h1,invR_all h2⟩
 have e:=e k hk
 simp only []at e
 show z11_.f k es a b c d=_
 unfold z11_.f
 rw [if_pos (by omega),show((es.length:Int)).toNat=es.length from rfl,if_pos (by omega),wrapS (by omega) (by omega)]
 exact e
end
end Go.Proofs.Ytkdabljlfbmpdaa.QOldA
