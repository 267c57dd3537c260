-- Cut by prune.py, a program of this session, out of the texts of this claim: Lean checks it.
import Derived.Test.YtkdabljlfbmpdaaGreatVbdQRuleT
import Derived.Test.YtkdabljlfbmpdaaGreatVbdQMark
import Derived.Test.YtkdabljlfbmpdaaGreatVbdPbx22
namespace Go.Proofs.YtkdabljlfbmpdaaGreat.QLawR
open Go.RowKit Go.Proofs.YtkdabljlfbmpdaaGreat.Pb Go.Proofs.YtkdabljlfbmpdaaGreatW.PrintWords Go.Proofs.YtkdabljlfbmpdaaGreatW.PrintLast Go.Proofs.YtkdabljlfbmpdaaGreat.QStr Go.Proofs.YtkdabljlfbmpdaaGreat.QGenR Go.Proofs.YtkdabljlfbmpdaaGreat.QRule Go.Proofs.YtkdabljlfbmpdaaGreat.QTree Go.Proofs.YtkdabljlfbmpdaaGreat.QText Go.Proofs.YtkdabljlfbmpdaaGreat.QRuleT
set_option linter.unusedVariables false
set_option linter.unusedSimpArgs false
theorem rm_ex (a:LEx) (h:okT63 a):RmEx a:=⟨by have:=h.2.1;simp only []at this;omega,by have:=h.2.2.2.1;unfold RmN;omega⟩
theorem rm_lt (a:LLt) (h:okT25 a):RmLt a:=⟨by have:=h.2.1;simp only []at this;omega,by have:=h.2.2.2.1;unfold RmN;omega⟩
theorem rm_ru (a:LRu) (h:okT28 a):RmRu a :=
 ⟨⟨by have:=h.1.2.1;omega,fun x hx=>rm_ex x (h.1.2.2 x hx)⟩,rm_lt _ h.2.1,by have:=h.2.2.2.1;omega,fun x hx=>rm_lt x (h.2.2.2.2 x hx)⟩
theorem fewR (a:LRu) (h:FwRu a):FewR (a.f0.map cvEx) (cvLt a.f1) (a.f2.map cvLt):=by
 obtain⟨h1,h2,h3⟩:=h
 refine⟨by rw [List.length_map];exact h1.1,fun e he=>?_,h2,by rw [List.length_map];exact h3.1,fun l hl=>?_⟩
 ·obtain⟨x,hx,rfl⟩:=List.mem_map.1 he
  exact h1.2 x hx
 ·obtain⟨x,hx,rfl⟩:=List.mem_map.1 hl
  exact h3.2 x hx
theorem markT_l:∀(d:Nat) (u:Nat) (s:ByteArray) (k:Nat),u < 10 ^ d→u≤4611686018427387904→s.size + d≤1000→d < k→∃ t,laws_markText.l0 k (u:Int) s=some t
 | 0,u,s,k,h,h1,h2,hk=>by
  obtain⟨k,rfl⟩:∃ m,k=m + 1:=⟨k - 1,by omega⟩
  have hu:u=0:=by simp at h;exact h
  subst hu
  exact⟨_,by rw [laws_markText.l0,if_neg (by omega),if_pos (by omega)]⟩
 | d + 1,u,s,k,h,h1,h2,hk=>by
  obtain⟨k,rfl⟩:∃ m,k=m + 1:=⟨k - 1,by omega⟩
  by_cases h0:u=0
  ·subst h0
   exact⟨_,by rw [laws_markText.l0,if_neg (by omega),if_pos (by omega)]⟩
  ·have hdiv:Int.tdiv (u:Int) 10=((u / 10:Nat):Int):=by rw [Int.tdiv_eq_ediv_of_nonneg (by omega)];omega
   have hw:wrap64 (Int.tdiv (u:Int) 10)=((u / 10:Nat):Int):=by rw [hdiv];exact wrap_nat (by clear hdiv;omega)
   have hs:∀ v:Int,(strOfNums [v]).size=1:=fun _=>rfl
   have hz:(strOfNums [(wrap64 (48 + (Int.tmod (u:Int) 10))) % 256] ++ s).size=1 + s.size:=by rw [ByteArray.size_append,hs]
   obtain⟨t,ht⟩:=markT_l d (u / 10) (strOfNums [(wrap64 (48 + (Int.tmod (u:Int) 10))) % 256] ++ s) k (by rw [Nat.pow_succ]at h;omega) (by omega) (by rw [hz];omega) (by omega)
   exact⟨t,by rw [laws_markText.l0,if_pos (by clear hdiv hw;omega),Option.bind_some,if_pos (by rw [hs];omega),hw];exact ht⟩
theorem markT_f (u:Nat) (h:u≤4611686018427387904) (k:Nat) (hk:100 < k):∃ t,laws_markText.f k (u:Int)=some t:=by
 unfold laws_markText.f
 by_cases h0:(u:Int)≤0
 ·rw [if_pos h0]
  exact⟨_,rfl⟩
 ·rw [if_neg h0]
  exact markT_l 20 u _ k (by omega) h (by decide) (by omega)
theorem step_n {i:Nat} (h:i≤4611686018427387904):wrap64 ((i:Int) + 1)=((i + 1:Nat):Int):=by
 rw [wrapS (by omega) (by omega)]
 omega
theorem markN_l:∀(d i n:Nat) (xs:List Int) (k:Nat),i + d=xs.length→n + d≤4611686018427387904→xs.length≤1048576→d < k→∃ ys,laws_markIntS.l0 k xs (n:Int) (i:Int)=some (((n + d:Nat):Int),ys)
 | 0,i,n,xs,k,h,h1,h2,hk=>by
  obtain⟨k,rfl⟩:∃ m,k=m + 1:=⟨k - 1,by omega⟩
  exact⟨_,by rw [laws_markIntS.l0,if_neg (by omega)];rfl⟩
 | d + 1,i,n,xs,k,h,h1,h2,hk=>by
  obtain⟨k,rfl⟩:∃ m,k=m + 1:=⟨k - 1,by omega⟩
  obtain⟨ys,e⟩:=markN_l d (i + 1) (n + 1) (xs.set i (n:Int)) k (by rw [List.length_set];omega) (by omega) (by rw [List.length_set];exact h2) (by omega)
  exact⟨ys,by rw [laws_markIntS.l0,if_pos (by omega),if_pos (by omega),step_n (by omega),step_i (by omega),show((i:Int)).toNat=i from rfl,e,show n + 1 + d=n + (d + 1)by omega]⟩
theorem markN_f (n:Nat) (xs:List Int) (k:Nat) (hx:xs.length≤1048576) (h1:n + xs.length≤4611686018427387904) (hk:1048576 < k):∃ ys,laws_markIntS.f k xs (n:Int)=some (((n + xs.length:Nat):Int),ys):=by
 unfold laws_markIntS.f
 exact markN_l xs.length 0 n xs k (by omega) h1 hx (by omega)
theorem markE_l:∀(d i n:Nat) (xs:List IEx) (k:Nat),i + d=xs.length→n + d * 2097152≤4611686018427387904→xs.length≤1048576→(∀ e∈xs.drop i,e.f2.length≤1048576)→1048577 + d < k→∃(r:Nat) (ys:List IEx),laws_markExpS.l0 k xs (n:Int) (i:Int)=some ((r:Int),ys)∧r≤n + d * 2097152
 | 0,i,n,xs,k,h,h1,h2,h3,hk=>by
  obtain⟨k,rfl⟩:∃ m,k=m + 1:=⟨k - 1,by omega⟩
  exact⟨n,_,by rw [laws_markExpS.l0,if_neg (by omega)],by omega⟩
 | d + 1,i,n,xs,k,h,h1,h2,h3,hk=>by
  obtain⟨k,rfl⟩:∃ m,k=m + 1:=⟨k - 1,by omega⟩
  have hi:i < xs.length:=by omega
  have hrd:y20 xs (i:Int)=xs[i]:=getD_at _ xs i hi
  rw [List.drop_eq_getElem_cons hi]at h3
  have h4:=h3 _ List.mem_cons_self
  obtain⟨t,ht⟩:=markT_f (n + 1) (by omega) k (by omega)
  obtain⟨zs,hz⟩:=markN_f (n + 1 + 1) xs[i].f2 k h4 (by omega) (by omega)
  obtain⟨r,ys,e,hr⟩:=markE_l d (i + 1) (n + 1 + 1 + xs[i].f2.length) (xs.set i ⟨(n:Int),t,zs⟩) k (by rw [List.length_set];omega) (by omega) (by rw [List.length_set];exact h2) (fun e he=>by
   rw [List.drop_set_of_lt (by omega)]at he
   exact h3 e (List.mem_cons_of_mem _ he)) (by omega)
  refine⟨r,ys, ?_,by omega⟩
  rw [laws_markExpS.l0,if_pos (by omega),if_pos (by omega),step_n (i:=n) (by omega),ht,Option.bind_some,step_n (i:=n + 1) (by omega),hrd,hz,Option.bind_some,step_i (by omega)]
  exact e
theorem markL_l:∀(d i n:Nat) (xs:List ILt) (k:Nat),i + d=xs.length→n + d * 2097152≤4611686018427387904→xs.length≤1048576→(∀ e∈xs.drop i,e.f2.length≤1048576)→1048577 + d < k→∃(r:Nat) (ys:List ILt),laws_markLitS.l0 k xs (n:Int) (i:Int)=some ((r:Int),ys)∧r≤n + d * 2097152
 | 0,i,n,xs,k,h,h1,h2,h3,hk=>by
  obtain⟨k,rfl⟩:∃ m,k=m + 1:=⟨k - 1,by omega⟩
  exact⟨n,_,by rw [laws_markLitS.l0,if_neg (by omega)],by omega⟩
 | d + 1,i,n,xs,k,h,h1,h2,h3,hk=>by
  obtain⟨k,rfl⟩:∃ m,k=m + 1:=⟨k - 1,by omega⟩
  have hi:i < xs.length:=by omega
  have hrd:y19 xs (i:Int)=xs[i]:=getD_at _ xs i hi
  rw [List.drop_eq_getElem_cons hi]at h3
  have h4:=h3 _ List.mem_cons_self
  obtain⟨t,ht⟩:=markT_f (n + 1) (by omega) k (by omega)
  obtain⟨zs,hz⟩:=markN_f (n + 1 + 1) xs[i].f2 k h4 (by omega) (by omega)
  obtain⟨r,ys,e,hr⟩:=markL_l d (i + 1) (n + 1 + 1 + xs[i].f2.length) (xs.set i ⟨(n:Int),t,zs⟩) k (by rw [List.length_set];omega) (by omega) (by rw [List.length_set];exact h2) (fun e he=>by
   rw [List.drop_set_of_lt (by omega)]at he
   exact h3 e (List.mem_cons_of_mem _ he)) (by omega)
  refine⟨r,ys, ?_,by omega⟩
  rw [laws_markLitS.l0,if_pos (by omega),if_pos (by omega),step_n (i:=n) (by omega),ht,Option.bind_some,step_n (i:=n + 1) (by omega),hrd,hz,Option.bind_some,step_i (by omega)]
  exact e
theorem markR_f (es:List IEx) (h:ILt) (bd:List ILt) (hw:FewR es h bd) (k:Nat) (hk:2097153 < k):∃ m:Nat,laws_markRule.f k es h.f0 h.f1 h.f2 bd 1=some (m:Int):=by
 obtain⟨w1,w2,w3,w4,w5⟩:=hw
 have b1:es.length * 2097152≤1048576 * 2097152:=Nat.mul_le_mul_right _ w1
 have b2:bd.length * 2097152≤1048576 * 2097152:=Nat.mul_le_mul_right _ w4
 obtain⟨r1,y1,e1,g1⟩:=markE_l es.length 0 1 es k (by omega) (by omega) w1 (fun e he=>(w2 e (by rwa [List.drop_zero]at he)).2) (by omega)
 obtain⟨y2,e2⟩:=markN_f r1 h.f2 k w3.2 (by omega) (by omega)
 obtain⟨r3,y3,e3,g3⟩:=markL_l bd.length 0 (r1 + h.f2.length) bd k (by omega) (by omega) w4 (fun e he=>(w5 e (by rwa [List.drop_zero]at he)).2) (by omega)
 refine⟨r3, ?_⟩
 unfold laws_markRule.f laws_markExpS.f laws_markLit.f laws_markLitS.f
 rw [show(1:Int)=((1:Nat):Int)from rfl,show(0:Int)=((0:Nat):Int)from rfl,e1,Option.bind_some,e2,Option.bind_some,Option.bind_some,e3,Option.bind_some]
end Go.Proofs.YtkdabljlfbmpdaaGreat.QLawR
