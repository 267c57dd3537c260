-- Cut by prune.py.
import Derived.Test.YtkdabljlfbmpdaaVgrQRuleT
import Derived.Test.YtkdabljlfbmpdaaVgrQWith
namespace Go.Proofs.Ytkdabljlfbmpdaa.QVars
open RowKit Pw YtkdabljlfbmpdaaW.PrintWords YtkdabljlfbmpdaaW.PrintLast QStr QGenR QRule QTree QText QForm QExpT QSpecE QRuleT QWith
set_option linter.unusedVariables false
set_option linter.unusedSimpArgs false
abbrev kd (es:List IEx) (j:Nat):List Int:=(es.getD j zE).f2
theorem dn (es:List IEx) (h:EsOk es):Dn (kd es):=by
 intro j k hk
 by_cases hj:j < es.length
 ·have e:kd es j=es[j].f2:=by
   unfold kd
   rw [getD_in es j hj]
  rw [e]at hk
  exact(h j hj).1 k hk
 ·have e:kd es j=[]:=by
   unfold kd
   rw [List.getD_eq_getElem?_getD,List.getElem?_eq_none (by omega)]
   rfl
  rw [e]at hk
  cases hk
def szs (es:List IEx):Nat→List Nat
 | 0=>[]
 | i + 1=>szs es i ++ [1 + sumW (szs es i) (kd es i)]
def sz (es:List IEx) (i:Nat):Nat:=1 + sumW (szs es i) (kd es i)
theorem szs_len (es:List IEx):∀ i,(szs es i).length=i
 | 0=>rfl
 | i + 1=>by
  rw [szs,List.length_append,szs_len es i]
  rfl
theorem szs_at (es:List IEx):∀ i j,j < i→(szs es i).getD j 0=sz es j
 | 0,j,h=>absurd h (Nat.not_lt_zero j)
 | i + 1,j,h=>by
  have hl:=szs_len es i
  rw [szs,List.getD_eq_getElem?_getD]
  by_cases e:j=i
  ·subst e
   rw [List.getElem?_append_right (by omega),hl,Nat.sub_self]
   rfl
  ·rw [List.getElem?_append_left (by omega),← List.getD_eq_getElem?_getD,szs_at es i j (by omega)]
def sumS (es:List IEx):List Int→Nat
 | []=>0
 | k :: r=>sz es k.toNat + sumS es r
theorem sumS_eq (es:List IEx) (i:Nat):∀ ks,InR (i:Int) ks→sumW (szs es i) ks=sumS es ks
 | [],_=>rfl
 | k :: r,h=>by
  obtain⟨h1,h2⟩:=inR_cons.1 h
  rw [sumW,sumS,szs_at es i k.toNat (by omega),sumS_eq es i r h2]
theorem cnt_phi (es:List IEx) (h:EsOk es) (hu:∀ j,(incs (us0 es) (kids es es.length)).getD j 0≤1) :
  ∀ i,i≤es.length→phi (incs (us0 es) (kids es i)) (szs es i)=i∧(i < es.length→sumW (szs es i) (kd es i)≤i)
 | i,hi=>by
  have hle:∀ m,m≤es.length→∀ j,(incs (us0 es) (kids es m)).getD j 0≤1:=by
   intro m hm
   induction hd:es.length - m generalizing m with
   | zero =>
    obtain rfl:m=es.length:=by omega
    exact hu
   | succ d ihd =>
    intro j
    have h1:=ihd (m + 1) (by omega) (by omega) j
    have h2:incs (us0 es) (kids es (m + 1))=incs (incs (us0 es) (kids es m)) (es.getD m zE).f2:=incs_app _ _ _
    rw [h2]at h1
    have h3:=incs_le (es.getD m zE).f2 (incs (us0 es) (kids es m)) j (by
     rw [incs_len,us0_len,getD_in es m (by omega)]
     exact inR_le (h m (by omega)).1 (by omega))
    omega
  have step:∀ i,i < es.length→phi (incs (us0 es) (kids es (i + 1))) (szs es i) + sumW (szs es i) (kd es i)=phi (incs (us0 es) (kids es i)) (szs es i):=by
   intro i hlt
   have hk1:=kids_in es h i (by omega)
   have hk2:InR (i:Int) (kd es i):=by
    rw [kd,getD_in es i hlt]
    exact(h i hlt).1
   have h0:∀ j,0≤(incs (us0 es) (kids es i)).getD j 0:=fun j=>by
    have:=incs_le (kids es i) (us0 es) j (by rw [us0_len];exact inR_le hk1 (by omega))
    rw [us0_at]at this
    exact this
   have hE:incs (us0 es) (kids es (i + 1))=incs (incs (us0 es) (kids es i)) (kd es i):=incs_app _ _ _
   have hp:=phi_incs (szs es i) (kd es i) (incs (us0 es) (kids es i)) (by rw [szs_len];exact hk2) (by rw [szs_len,incs_len,us0_len];omega) h0 (fun j=>by rw [← hE];exact hle (i + 1) (by omega) j)
   rw [hE]
   exact hp
  have all:∀ i,i≤es.length→phi (incs (us0 es) (kids es i)) (szs es i)=i:=by
   intro i
   induction i with
   | zero=>exact fun _=>phi_nil _
   | succ i ih =>
    intro hi
    have ih:=ih (by omega)
    have hs:=step i (by omega)
    have hk1:=kids_in es h i (by omega)
    have hz:(incs (us0 es) (kids es (i + 1))).getD i 0=0:=by
     rw [incs_same _ _ _ (by rw [us0_len];exact inR_le (kids_in es h (i + 1) hi) (by omega)) (fun hm=>by
      rcases List.mem_append.1 hm with hm|hm
      ·have:=hk1 _ hm
       omega
      ·have:=dn es h i _ hm
       omega),us0_at]
    have hn:=phi_snoc (szs es i) (incs (us0 es) (kids es (i + 1))) (1 + sumW (szs es i) (kd es i)) (by rw [szs_len,incs_len,us0_len];omega) (by rw [szs_len];exact hz)
    rw [szs,hn]
    omega
  refine⟨all i hi,fun hlt=>?_⟩
  have h1:=all i hi
  have h2:=step i hlt
  omega
theorem sz_le (es:List IEx) (h:EsOk es) (hn:es.length≤60) (hu:∀ j,(incs (us0 es) (kids es es.length)).getD j 0≤1) (i:Nat) (hi:i < es.length):sz es i≤60:=by
 have:=(cnt_phi es h hu i (by omega)).2 hi
 unfold sz
 omega
section
variable (es : List IEx) (a : Int) (b : ByteArray) (c : List Int) (d : List ILt)
theorem sorted_ (xs:List Int):(xs.mergeSort (fun x y=>decide (x≤y))).Pairwise (·≤·):=by
 have:=List.pairwise_mergeSort (le:=fun(x y:Int)=>decide (x≤y)) (fun x y z h1 h2=>by simp only [decide_eq_true_eq]at *;omega) (fun x y=>by simp only [Bool.or_eq_true,decide_eq_true_eq];omega) xs
 simpa using this
def Wi (n:Nat) (xs:List Int):Prop:=Ev (fun k=>impl_Rule_within.f k es a b c d (n:Int)) xs∧xs.length=sz es n∧xs.Pairwise (·≤·)∧∀ x,x∈xs↔∃ y:Nat,x=(y:Int)∧Re (kd es) n y
theorem within_l (n:Nat) (hn:n < 281474976710656) (ks:List Int) (hk:ks.length≤1048576) (hks:∀ k∈ks,0≤k∧∃ xs,Wi es a b c d k.toNat xs):∀(q j:Nat) (out:List Int),j + q=ks.length→out.length + sumS es (ks.drop j)≤1048576 →
  ∃ ys:List Int,Ev (fun m=>impl_Rule_within.l0 m (n:Int) out ks (ks.length:Int) (j:Int) es a b c d) ((out ++ ys ++ [(n:Int)]).mergeSort (fun x y=>decide (x≤y)))∧ys.length=sumS es (ks.drop j)∧∀ x,x∈ys↔∃ k∈ks.drop j,∃ y:Nat,x=(y:Int)∧Re (kd es) k.toNat y
 | 0,j,out,h,hl=>by
  have hd:ks.drop j=[]:=List.drop_of_length_le (by omega)
  rw [hd]at hl ⊢
  refine⟨[],y14 ⟨0,fun m _=>?_⟩,rfl,fun x=>⟨(fun h=>by cases h),(fun h=>by obtain⟨_,h,_⟩:=h;cases h)⟩⟩
  have hl2:out.length≤1048576:=hl
  rw [impl_Rule_within.l0,if_neg (by omega),if_pos (by omega),slices_Sort_int_int.f,if_pos (by rw [List.length_append,List.length_singleton];omega),Option.bind_some,List.append_nil]
 | q + 1,j,out,h,hl=>by
  have hj:j < ks.length:=by omega
  obtain⟨h0,xs,⟨K1,hx⟩,hxl,_,hxm⟩:=hks ks[j] (List.getElem_mem hj)
  rw [List.drop_eq_getElem_cons hj]at hl ⊢
  have hs:sumS es (ks[j] :: ks.drop (j + 1))=sz es ks[j].toNat + sumS es (ks.drop (j + 1)):=rfl
  rw [hs]at hl ⊢
  obtain⟨ys,⟨K2,hy⟩,hyl,hym⟩:=within_l n hn ks hk hks q (j + 1) (out ++ xs) (by omega) (by rw [List.length_append,hxl];omega)
  refine⟨xs ++ ys,y14 ⟨max K1 K2,fun m hm=>?_⟩,by rw [List.length_append,hxl,hyl],fun x=>?_⟩
  ·have e1:=hx m (by omega)
   have e2:=hy m (by omega)
   simp only []at e1 e2
   rw [show((ks[j].toNat:Nat):Int)=ks[j]by omega]at e1
   rw [impl_Rule_within.l0,if_pos (by omega),if_pos (by omega),if_pos (by omega),rdN_get ks j hj,e1,Option.bind_some,if_pos (by omega),step_i (by omega),e2,List.append_assoc out xs ys]
  ·rw [List.mem_append,hxm x,hym x]
   constructor
   ·rintro(h|⟨k,hk,h⟩)
    ·exact⟨_,List.mem_cons_self,h⟩
    ·exact⟨k,List.mem_cons_of_mem _ hk,h⟩
   ·rintro⟨k,hk,h⟩
    rcases List.mem_cons.1 hk with rfl|hk
    ·exact .inl h
    ·exact .inr ⟨k,hk,h⟩
theorem within_ev (hes:EsOk es) (hsz:∀ i < es.length,sz es i≤60) (hn:es.length≤60) (hk:∀ e∈es,e.f2.length≤1048576):∀(m n:Nat),n < m→n < es.length→∃ xs,Wi es a b c d n xs
 | 0,n,h,_=>absurd h (Nat.not_lt_zero n)
 | m + 1,n,h,hl=>by
  have hrd:y19 es (n:Int)=es[n]:=getD_at _ es n hl
  have hE:=(hes n hl).1
  have hkd:kd es n=es[n].f2:=by rw [kd,getD_in es n hl]
  have hS:sumS es es[n].f2 + 1=sz es n:=by
   unfold sz
   rw [hkd,sumS_eq es n _ hE]
   omega
  have hs60:=hsz n hl
  obtain⟨ys,⟨K,hy⟩,hyl,hym⟩:=within_l es a b c d n (by omega) es[n].f2 (hk _ (List.getElem_mem hl)) (fun k hk2=>by
   have hr:=hE k hk2
   exact⟨hr.1,within_ev hes hsz hn hk m k.toNat (by omega) (by omega)⟩) es[n].f2.length 0 [] (by omega) (by rw [List.drop_zero,List.length_nil];omega)
  rw [List.drop_zero]at hyl hym
  refine⟨([] ++ ys ++ [(n:Int)]).mergeSort (fun x y=>decide (x≤y)),y14 ⟨K,fun k hk3=>?_⟩, ?_,sorted_ _,fun x=>?_⟩
  ·have e:=hy k hk3
   simp only []at e
   rw [impl_Rule_within.f,if_pos (by omega),if_pos (by omega),hrd]
   exact e
  ·rw [List.length_mergeSort,List.length_append,List.nil_append,hyl]
   exact hS
  ·rw [List.mem_mergeSort,List.nil_append,List.mem_append,hym x,List.mem_singleton]
   constructor
   ·rintro(⟨k,hk4,y,rfl,g⟩|rfl)
    ·exact⟨y,rfl,re_kid (by rw [hkd];exact hk4) g⟩
    ·exact⟨n,rfl,Re.here⟩
   ·rintro⟨y,rfl,g⟩
    rcases re_top g with rfl|⟨k,hk4,g⟩
    ·exact .inr rfl
    ·rw [hkd]at hk4
     exact .inl ⟨k,hk4,y,rfl,g⟩
theorem bt_eq {x y:ByteArray}:x.toList=y.toList↔x=y:=by
 constructor
 ·intro h
  have h1:=toList_B (L x)
  have h2:=toList_B (L y)
  rw [B_L]at h1 h2
  rw [h1,h2]at h
  rw [← B_L x,← B_L y,h]
 ·rintro rfl
  rfl
theorem index_ev (xs:List ByteArray) (hx:xs.length≤1048576) (s:ByteArray):∀(q i:Nat),i + q=xs.length→∃ r,Ev (fun k=>z6_.l0 k xs s (xs.length:Int) (i:Int)) r∧(r≥0↔s∈xs.drop i)
 | 0,i,h=>by
  refine⟨-1,y14 ⟨0,fun m _=>?_⟩, ?_⟩
  ·rw [z6_.l0,if_neg (by omega)]
  ·rw [List.drop_of_length_le (by omega)]
   exact⟨fun h=>by omega,fun h=>by cases h⟩
 | q + 1,i,h=>by
  have hi:i < xs.length:=by omega
  rw [List.drop_eq_getElem_cons hi]
  by_cases e:s=xs[i]
  ·refine⟨(i:Int),y14 ⟨0,fun m _=>?_⟩,⟨fun _=>by rw [e];exact List.mem_cons_self,fun _=>by omega⟩⟩
   rw [z6_.l0,if_pos (by omega),if_pos (by omega),if_pos (by omega),rdOf_get xs i hi,if_pos (bt_eq.2 e)]
  ·obtain⟨r,⟨K,h1⟩,h2⟩:=index_ev xs hx s q (i + 1) (by omega)
   refine⟨r,y14 ⟨K,fun m hm=>?_⟩, ?_⟩
   ·have e1:=h1 m hm
    simp only []at e1
    rw [z6_.l0,if_pos (by omega),if_pos (by omega),if_pos (by omega),rdOf_get xs i hi,if_neg (fun h=>e (bt_eq.1 h)),step_i (by omega)]
    exact e1
   ·rw [h2,List.mem_cons]
    exact⟨.inr,fun h=>h.resolve_left e⟩
open Classical in
theorem has_ev (xs:List ByteArray) (hx:xs.length≤1048576) (s:ByteArray):Ev (fun k=>slices_Contains_string_string.f k xs s) (decide (s∈xs)):=by
 obtain⟨r,⟨K,h1⟩,h2⟩:=index_ev xs hx s xs.length 0 (by omega)
 rw [List.drop_zero]at h2
 refine⟨K,fun k hk=>?_⟩
 have e1:=h1 k hk
 simp only []at e1
 show slices_Contains_string_string.f k xs s=_
 unfold slices_Contains_string_string.f z6_.f
 rw [show(0:Int)=((0:Nat):Int)from rfl,e1,Option.bind_some]
 congr 1
 exact decide_eq_decide.2 h2
def isVar (es:List IEx) (x:Nat):Bool:=decide ((es.getD x zE).f0=1)
def txt (es:List IEx) (x:Nat):ByteArray:=(es.getD x zE).f1
open Classical in
theorem vars_l (hn:es.length≤60) (xs:List Int) (hx:xs.length≤1048576) (hin:∀ x∈xs,0≤x∧x < (es.length:Int)):∀(q i:Nat) (out:List ByteArray),i + q=xs.length→out.length + q≤1048576 →
  Ev (fun k=>impl_Rule_vars.l0 k out xs (xs.length:Int) (i:Int) es a b c d) (((xs.drop i).map Int.toNat).foldl (nam (isVar es) (txt es)) out)
 | 0,i,out,h,_=>by
  refine y14 ⟨0,fun m _=>?_⟩
  rw [List.drop_of_length_le (by omega),impl_Rule_vars.l0,if_neg (by omega)]
  rfl
 | q + 1,i,out,h,hl=>by
  have hi:i < xs.length:=by omega
  have hr:=hin _ (List.getElem_mem hi)
  have hlt:xs[i].toNat < es.length:=by omega
  have hrd:y19 es xs[i]=es[xs[i].toNat]:=by
   have:=getD_at z63 es xs[i].toNat hlt
   rwa [show((xs[i].toNat:Nat):Int)=xs[i]by omega]at this
  have hg:es.getD xs[i].toNat zE=es[xs[i].toNat]:=getD_in es _ hlt
  rw [List.drop_eq_getElem_cons hi,List.map_cons,List.foldl_cons]
  obtain⟨K1,e1⟩:=has_ev out (by omega) (es[xs[i].toNat]).f1
  by_cases hv:(es[xs[i].toNat]).f0=1
  ·by_cases hm:(es[xs[i].toNat]).f1∈out
   ·have ho:nam (isVar es) (txt es) out xs[i].toNat=out:=if_neg (fun hx=>hx.2 (by unfold txt;rw [hg];exact hm))
    obtain⟨K2,e2⟩:=vars_l hn xs hx hin q (i + 1) out (by omega) (by omega)
    refine y14 ⟨max K1 K2,fun m hm2=>?_⟩
    have e1:=e1 m (by omega)
    have e2:=e2 m (by omega)
    simp only []at e1 e2
    rw [impl_Rule_vars.l0,if_pos (by omega),if_pos (by omega),if_pos (by omega),rdN_get xs i hi,if_pos hr.1,if_pos hr.2,hrd,if_pos hv,e1,Option.bind_some,if_pos (decide_eq_true hm),step_i (by omega),ho]
    exact e2
   ·have ho:nam (isVar es) (txt es) out xs[i].toNat=out ++ [(es[xs[i].toNat]).f1]:=by
     have:nam (isVar es) (txt es) out xs[i].toNat=out ++ [txt es xs[i].toNat]:=if_pos ⟨by unfold isVar;rw [hg];exact decide_eq_true hv,by unfold txt;rw [hg];exact hm⟩
     rw [this,txt,hg]
    obtain⟨K2,e2⟩:=vars_l hn xs hx hin q (i + 1) (out ++ [(es[xs[i].toNat]).f1]) (by omega) (by rw [List.length_append,List.length_singleton];omega)
    refine y14 ⟨max K1 K2,fun m hm2=>?_⟩
    have e1:=e1 m (by omega)
    have e2:=e2 m (by omega)
    simp only []at e1 e2
    rw [impl_Rule_vars.l0,if_pos (by omega),if_pos (by omega),if_pos (by omega),rdN_get xs i hi,if_pos hr.1,if_pos hr.2,hrd,if_pos hv,e1,Option.bind_some,if_neg (by rw [decide_eq_true_eq];exact hm),if_pos (by omega),step_i (by omega),ho]
    exact e2
  ·have ho:nam (isVar es) (txt es) out xs[i].toNat=out:=if_neg (fun hx=>hv (by have:=hx.1;unfold isVar at this;rw [hg]at this;exact of_decide_eq_true this))
   obtain⟨K2,e2⟩:=vars_l hn xs hx hin q (i + 1) out (by omega) (by omega)
   refine y14 ⟨K2,fun m hm2=>?_⟩
   have e2:=e2 m (by omega)
   simp only []at e2
   rw [impl_Rule_vars.l0,if_pos (by omega),if_pos (by omega),if_pos (by omega),rdN_get xs i hi,if_pos hr.1,if_pos hr.2,hrd,if_neg hv,step_i (by omega),ho]
   exact e2
noncomputable def vrs (n:Nat):List ByteArray:=upw (nam (isVar es) (txt es)) (Re (kd es) n) (n + 1) 0 []
theorem vars_ev (hes:EsOk es) (hsz:∀ i < es.length,sz es i≤60) (hn:es.length≤60) (hk:∀ e∈es,e.f2.length≤1048576) (n:Nat) (hl:n < es.length):Ev (fun k=>impl_Rule_vars.f k es a b c d (n:Int)) (vrs es n):=by
 obtain⟨xs,⟨K1,e1⟩,h1,h2,h3⟩:=within_ev es a b c d hes hsz hn hk (n + 1) n (by omega) hl
 have h60:=hsz n hl
 have hin:∀ x∈xs,0≤x∧x < (es.length:Int):=fun x hx=>by
  obtain⟨y,rfl,g⟩:=(h3 x).1 hx
  have:=re_le (dn es hes) g
  omega
 obtain⟨K2,e2⟩:=vars_l es a b c d hn xs (by omega) hin xs.length 0 [] (by omega) (by rw [List.length_nil];omega)
 have hf:=fold_up (nam (isVar es) (txt es)) (nam_nam _ _) (Re (kd es) n) (n + 1) 0 (xs.map Int.toNat) [] (by
   rw [List.pairwise_map]
   exact h2.imp (fun {x y} h=>by omega)) (fun x=>by
   rw [List.mem_map]
   constructor
   ·rintro⟨y,hy,rfl⟩
    obtain⟨z,rfl,g⟩:=(h3 y).1 hy
    exact⟨g,Nat.zero_le _⟩
   ·rintro⟨g,_⟩
    exact⟨(x:Int),(h3 _).2 ⟨x,rfl,g⟩,rfl⟩) (fun x hx=>by
   obtain⟨y,hy,rfl⟩:=List.mem_map.1 hx
   obtain⟨z,rfl,g⟩:=(h3 y).1 hy
   have:=re_le (dn es hes) g
   show z < 0 + (n + 1)
   omega)
 rw [List.drop_zero,hf]at e2
 refine⟨max K1 K2,fun k hk=>?_⟩
 have e1:=e1 k (by omega)
 have e2:=e2 k (by omega)
 simp only []at e1 e2
 show impl_Rule_vars.f k es a b c d (n:Int)=_
 unfold impl_Rule_vars.f
 rw [e1,Option.bind_some]
 exact e2
theorem mks_len:∀(ks:List Int) (m:List Bool),(ks.foldl (fun m k=>m.set k.toNat true) m).length=m.length
 | [],_=>rfl
 | k :: r,m=>by
  rw [List.foldl_cons,mks_len r,List.length_set]
theorem mks_at:∀(ks:List Int) (m:List Bool) (x:Nat),(∀ k∈ks,k.toNat < m.length)→(Mk (ks.foldl (fun m k=>m.set k.toNat true) m) x↔Mk m x∨∃ k∈ks,k.toNat=x)
 | [],m,x,_=>⟨.inl,fun h=>h.resolve_right (fun⟨_,h,_⟩=>by cases h)⟩
 | k :: r,m,x,h=>by
  rw [List.foldl_cons,mks_at r _ x (fun y hy=>by rw [List.length_set];exact h y (List.mem_cons_of_mem _ hy)),mk_set m _ x (h k List.mem_cons_self)]
  constructor
  ·rintro((h1|h1)|⟨y,hy,h1⟩)
   ·exact .inl h1
   ·exact .inr ⟨k,List.mem_cons_self,h1.symm⟩
   ·exact .inr ⟨y,List.mem_cons_of_mem _ hy,h1⟩
  ·rintro(h1|⟨y,hy,h1⟩)
   ·exact .inl (.inl h1)
   ·rcases List.mem_cons.1 hy with rfl|hy
    ·exact .inl (.inr h1.symm)
    ·exact .inr ⟨y,hy,h1⟩
theorem rdB (m:List Bool) (i:Nat):rdOf false m (i:Int)=true↔Mk m i:=Iff.rfl
theorem in_l1 (hes:EsOk es) (hn:es.length≤60) (i:Nat) (hi:i < es.length) (hkl:es[i].f2.length≤1048576) (r:List Bool):∀(q j:Nat) (m:List Bool),j + q=es[i].f2.length→m.length=es.length→Mk m i →
  Ev (fun k=>z12_.l0 k ((es[i].f2.drop j).foldl (fun m k=>m.set k.toNat true) m) ((i:Int) - 1) es a b c d) r→Ev (fun k=>z12_.l1 k m (i:Int) (j:Int) es a b c d) r
 | 0,j,m,h,hm,hmi,hr=>by
  have hrd:y19 es (i:Int)=es[i]:=getD_at _ es i hi
  rw [List.drop_of_length_le (by omega)]at hr
  obtain⟨K,hr⟩:=hr
  refine y14 ⟨K,fun k hk=>?_⟩
  have e:=hr k hk
  simp only [List.foldl_nil]at e
  rw [z12_.l1,if_pos (by omega),if_pos (by omega),hrd,if_neg (by omega),wrapS (by omega) (by omega)]
  exact e
 | q + 1,j,m,h,hm,hmi,hr=>by
  have hrd:y19 es (i:Int)=es[i]:=getD_at _ es i hi
  have hj:j < es[i].f2.length:=by omega
  have hkr:=(hes i hi).1 _ (List.getElem_mem hj)
  rw [List.drop_eq_getElem_cons hj,List.foldl_cons]at hr
  obtain⟨K,hr⟩:=in_l1 hes hn i hi hkl r q (j + 1) (m.set (es[i].f2[j]).toNat true) (by omega) (by rw [List.length_set];exact hm) ((mk_set m _ i (by omega)).2 (.inl hmi)) hr
  refine y14 ⟨K,fun k hk=>?_⟩
  have e:=hr k hk
  simp only []at e
  rw [z12_.l1,if_pos (by omega),if_pos (by omega),hrd,if_pos (by omega),if_pos (by omega),if_pos ((rdB m i).2 hmi),if_pos (by omega),rdN_get _ j hj,if_pos hkr.1,if_pos (by omega),step_i (by omega)]
  exact e
theorem in_l0 (hes:EsOk es) (hn:es.length≤60) (hk:∀ e∈es,e.f2.length≤1048576) (n:Nat):∀(i:Nat) (m:List Bool),i≤es.length→m.length=es.length→Inv (kd es) n i m →
  ∃ r,Ev (fun k=>z12_.l0 k m ((i:Int) - 1) es a b c d) r∧r.length=es.length∧Inv (kd es) n 0 r
 | 0,m,_,hm,hI=>by
  refine⟨m,y14 ⟨0,fun k _=>?_⟩,hm,hI⟩
  rw [z12_.l0,if_neg (by omega)]
 | i + 1,m,hi,hm,hI=>by
  have hlt:i < es.length:=by omega
  have hkd:kd es i=es[i].f2:=by rw [kd,getD_in es i hlt]
  have hrd:y19 es (i:Int)=es[i]:=getD_at _ es i hlt
  have hE:=(hes i hlt).1
  by_cases h:Mk m i
  ·obtain⟨r,hr,h1,h2⟩:=in_l0 hes hn hk n i (es[i].f2.foldl (fun m k=>m.set k.toNat true) m) (by omega) (by rw [mks_len];exact hm) (inv_yes (dn es hes) hI h (fun x=>by
    rw [hkd]
    exact mks_at _ m x (fun k hk=>by have:=hE k hk;omega)))
   obtain⟨K,e⟩:=in_l1 es a b c d hes hn i hlt (hk _ (List.getElem_mem hlt)) r es[i].f2.length 0 m (by omega) hm h (by rw [List.drop_zero];exact hr)
   refine⟨r,y14 ⟨K,fun k hk=>?_⟩,h1,h2⟩
   have e:=e k hk
   simp only []at e
   rw [z12_.l0,if_pos (by omega),show((i + 1:Nat):Int) - 1=(i:Int)by omega]
   exact e
  ·obtain⟨r,⟨K,e⟩,h1,h2⟩:=in_l0 hes hn hk n i m (by omega) hm (inv_no (dn es hes) hI h)
   refine⟨r,⟨K + 2,fun k hk=>?_⟩,h1,h2⟩
   obtain⟨k,rfl⟩:∃ p,k=p + 2:=⟨k - 2,by omega⟩
   have e:=e k (by omega)
   simp only []at e
   show z12_.l0 (k + 2) m (((i + 1:Nat):Int) - 1) es a b c d=_
   rw [z12_.l0,if_pos (by omega),show((i + 1:Nat):Int) - 1=(i:Int)by omega,z12_.l1,if_pos (by omega),if_pos (by omega),hrd]
   by_cases hz:(0:Int) < (es[i].f2.length:Int)
   ·rw [if_pos hz,if_pos (by omega),if_neg (fun hx=>h ((rdB m i).1 hx)),wrapS (by omega) (by omega)]
    exact e
   ·rw [if_neg hz,wrapS (by omega) (by omega)]
    exact e
theorem in_ev (hes:EsOk es) (hn:es.length≤60) (hk:∀ e∈es,e.f2.length≤1048576) (n:Nat) (hl:n < es.length) :
  ∃ r,Ev (fun k=>z12_.f k es a b c d (n:Int)) r∧r.length=es.length∧∀ x,Mk r x↔Re (kd es) n x:=by
 have hlen:(List.replicate es.length false).length=es.length:=List.length_replicate
 obtain⟨r,⟨K,e⟩,h1,h2⟩:=in_l0 es a b c d hes hn hk n (n + 1) ((List.replicate es.length false).set n true) (by omega) (by rw [List.length_set,hlen]) (inv_start (dn es hes) n _ (fun x=>by
  rw [mk_set _ _ x (by omega)]
  constructor
  ·rintro(h|h)
   ·unfold Mk at h
    rw [List.getD_eq_getElem?_getD,List.getElem?_replicate]at h
    split at h <;> cases h
   ·exact h
  ·exact .inr))
 refine⟨r,⟨K,fun k hk=>?_⟩,h1,inv_all h2⟩
 have e:=e k hk
 simp only []at e
 show z12_.f k es a b c d (n:Int)=_
 unfold z12_.f
 rw [if_pos (by omega),show((es.length:Int)).toNat=es.length from rfl,if_pos (by omega),Option.bind_some,if_pos (by omega),if_pos (by omega),show((n:Int)).toNat=n from rfl]
 rw [show((n + 1:Nat):Int) - 1=(n:Int)by omega]at e
 exact e
open Classical in
theorem in5_ev (xs:List ByteArray) (hx:xs.length≤281474976710656) (s:ByteArray):∀(q i:Nat),i + q=xs.length→Ev (fun k=>spec_l05In.l0 k xs s (i:Int)) (decide (s∈xs.drop i))
 | 0,i,h=>by
  refine y14 ⟨0,fun m _=>?_⟩
  rw [spec_l05In.l0,if_neg (by omega),List.drop_of_length_le (by omega)]
  exact congrArg some (decide_eq_false (List.not_mem_nil)).symm
 | q + 1,i,h=>by
  have hi:i < xs.length:=by omega
  rw [List.drop_eq_getElem_cons hi]
  by_cases e:s=xs[i]
  ·refine y14 ⟨0,fun m _=>?_⟩
   rw [spec_l05In.l0,if_pos (by omega),if_pos (by omega),rdOf_get xs i hi,if_pos (bt_eq.2 e.symm)]
   exact congrArg some (decide_eq_true (by rw [e];exact List.mem_cons_self)).symm
  ·obtain⟨K,h1⟩:=in5_ev xs hx s q (i + 1) (by omega)
   refine y14 ⟨K,fun m hm=>?_⟩
   have e1:=h1 m hm
   simp only []at e1
   rw [spec_l05In.l0,if_pos (by omega),if_pos (by omega),rdOf_get xs i hi,if_neg (fun h=>e (bt_eq.1 h).symm),step_i (by omega),e1]
   exact congrArg some (decide_eq_decide.2 ⟨fun h=>List.mem_cons_of_mem _ h,fun h=>(List.mem_cons.1 h).resolve_left e⟩)
open Classical in
theorem svars_l (hn:es.length≤60) (n:Nat) (hl:n < es.length) (m:List Bool) (hm:m.length=es.length):∀(q i:Nat) (out:List ByteArray),i + q=n + 1→out.length≤i →
  Ev (fun k=>spec_l06Vars.l0 k (n:Int) out m (i:Int) es a b c d) (upw (nam (isVar es) (txt es)) (Mk m) q i out)
 | 0,i,out,h,_=>by
  refine y14 ⟨0,fun k _=>?_⟩
  rw [spec_l06Vars.l0,if_neg (by omega)]
  rfl
 | q + 1,i,out,h,ho=>by
  have hi:i < es.length:=by omega
  have hrd:y19 es (i:Int)=es[i]:=getD_at _ es i hi
  have hg:es.getD i zE=es[i]:=getD_in es i hi
  obtain⟨K1,e1⟩:=in5_ev out (by omega) es[i].f1 out.length 0 (by omega)
  rw [List.drop_zero]at e1
  unfold upw
  by_cases hM:Mk m i
  ·rw [if_pos hM]
   have hol:=nam_len (isVar es) (txt es) out i
   obtain⟨K2,e2⟩:=svars_l hn n hl m hm q (i + 1) (nam (isVar es) (txt es) out i) (by omega) (by omega)
   refine y14 ⟨max K1 K2,fun k hk=>?_⟩
   have e1:=e1 k (by omega)
   have e2:=e2 k (by omega)
   simp only []at e1 e2
   rw [spec_l06Vars.l0,if_pos (by omega),if_pos (by omega),if_pos (by omega),if_pos ((rdB m i).2 hM),if_pos (by omega),hrd]
   by_cases hv:es[i].f0=1
   ·rw [if_pos hv]
    unfold spec_l05In.f
    rw [show(0:Int)=((0:Nat):Int)from rfl,e1,Option.bind_some]
    by_cases hm2:es[i].f1∈out
    ·have h1:nam (isVar es) (txt es) out i=out:=if_neg (fun hx=>hx.2 (by unfold txt;rw [hg];exact hm2))
     rw [if_pos (decide_eq_true hm2),step_i (by omega)]
     rw [h1]at e2 ⊢
     exact e2
    ·have h1:nam (isVar es) (txt es) out i=out ++ [es[i].f1]:=by
      have:nam (isVar es) (txt es) out i=out ++ [txt es i]:=if_pos ⟨by unfold isVar;rw [hg];exact decide_eq_true hv,by unfold txt;rw [hg];exact hm2⟩
      rw [this,txt,hg]
     rw [if_neg (by rw [decide_eq_true_eq];exact hm2),if_pos (by omega),step_i (by omega)]
     rw [h1]at e2 ⊢
     exact e2
   ·have h1:nam (isVar es) (txt es) out i=out:=if_neg (fun hx=>hv (by have:=hx.1;unfold isVar at this;rw [hg]at this;exact of_decide_eq_true this))
    rw [if_neg hv,step_i (by omega)]
    rw [h1]at e2 ⊢
    exact e2
  ·rw [if_neg hM]
   obtain⟨K2,e2⟩:=svars_l hn n hl m hm q (i + 1) out (by omega) (by omega)
   refine y14 ⟨K2,fun k hk=>?_⟩
   have e2:=e2 k (by omega)
   simp only []at e2
   rw [spec_l06Vars.l0,if_pos (by omega),if_pos (by omega),if_pos (by omega),if_neg (fun hx=>hM ((rdB m i).1 hx)),step_i (by omega)]
   exact e2
theorem svars_ev (hes:EsOk es) (hn:es.length≤60) (hk:∀ e∈es,e.f2.length≤1048576) (n:Nat) (hl:n < es.length):Ev (fun k=>spec_l06Vars.f k es a b c d (n:Int)) (vrs es n):=by
 obtain⟨m,⟨K1,e1⟩,h1,h2⟩:=in_ev es a b c d hes hn hk n hl
 obtain⟨K2,e2⟩:=svars_l es a b c d hn n hl m h1 (n + 1) 0 [] (by omega) (by rw [List.length_nil];omega)
 have hP:Mk m=Re (kd es) n:=funext fun x=>propext (h2 x)
 rw [hP]at e2
 refine⟨max K1 K2,fun k hk=>?_⟩
 have e1:=e1 k (by omega)
 have e2:=e2 k (by omega)
 simp only []at e1 e2
 show spec_l06Vars.f k es a b c d (n:Int)=_
 unfold spec_l06Vars.f
 rw [e1,Option.bind_some]
 exact e2
end
theorem vrs_len (es:List IEx) (n:Nat):(vrs es n).length≤n + 1:=by
 have:∀(d a:Nat) (P:Nat→Prop) (out:List ByteArray),(upw (nam (isVar es) (txt es)) P d a out).length≤out.length + d:=by
  intro d
  induction d with
  | zero=>exact fun _ _ _=>Nat.le_refl _
  | succ d ih =>
   intro a P out
   unfold upw
   have h1:=nam_len (isVar es) (txt es) out a
   by_cases h:P a
   ·rw [if_pos h]
    have:=ih (a + 1) P (nam (isVar es) (txt es) out a)
    omega
   ·rw [if_neg h]
    have:=ih (a + 1) P out
    omega
 have:=this (n + 1) 0 (Re (kd es) n) []
 rw [List.length_nil]at this
 unfold vrs
 omega
theorem between_f (a b c:Int):spec_l01Between.f a b c=some (decide (b≤a∧a≤c)):=by
 unfold spec_l01Between.f
 by_cases h:a≥b
 ·rw [if_pos h]
  congr 1
  exact decide_eq_decide.2 ⟨fun h2=>⟨h,h2⟩,fun h2=>h2.2⟩
 ·rw [if_neg h]
  congr 1
  exact(decide_eq_false (fun h2=>h h2.1)).symm
theorem form_ev (es:List IEx) (h:ILt) (bd:List ILt) (hw:FewR es h bd):∃ r,Ev (fun k=>impl_hasForm.f k es h.f0 h.f1 h.f2 bd) r∧(∃ t,Ev (fun k=>z7_.f k es h.f0 h.f1 h.f2 bd) t∧(t.toList=([]:List UInt8)↔r=false))∧(r=true→Frm es h bd):=by
 obtain⟨K1,e1⟩:=impl_ev es h bd hw
 refine⟨(B (ruleT es h bd)).toList != ([]:List UInt8),⟨K1,fun k hk=>?_⟩,⟨_,spec_ev es h bd hw, ?_⟩,fun hr=>?_⟩
 ·have e1:=e1 k hk
  simp only []at e1
  show impl_hasForm.f k es h.f0 h.f1 h.f2 bd=_
  unfold impl_hasForm.f
  rw [e1,Option.bind_some]
 ·simp
 ·rw [toList_B]at hr
  refine Classical.byContradiction fun hf=>?_
  rw [show ruleT es h bd=[]from if_neg (fun hx=>hf hx.1)]at hr
  cases hr
end Go.Proofs.Ytkdabljlfbmpdaa.QVars
