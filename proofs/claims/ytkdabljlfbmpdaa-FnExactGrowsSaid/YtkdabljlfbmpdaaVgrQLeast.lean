-- Cut by prune.py.
import Derived.Test.YtkdabljlfbmpdaaVgrQWith
import Derived.Test.YtkdabljlfbmpdaaVgrPwx24
namespace Go.Proofs.Ytkdabljlfbmpdaa.QLeast
open RowKit Pw YtkdabljlfbmpdaaW.PrintWords YtkdabljlfbmpdaaW.PrintLast QRule QText QWith QSet
set_option linter.unusedVariables false
set_option linter.unusedSimpArgs false
inductive Rk (ks:Nat→List Int) (cal:Nat→Prop):Nat→Prop
 | top (i:Nat) (k:Int):k∈ks i→cal i→Rk ks cal k.toNat
 | down (i:Nat) (k:Int):k∈ks i→Rk ks cal i→Rk ks cal k.toNat
inductive Pl (ks:Nat→List Int) (cal:Nat→Prop) (n:Nat):Nat→Prop
 | here:Pl ks cal n n
 | down (j:Nat) (k:Int):Pl ks cal n j→¬ cal j→k∈ks j→Pl ks cal n k.toNat
section
variable {ks : Nat → List Int} {cal : Nat → Prop}
theorem rk_inv {x:Nat} (h:Rk ks cal x):∃ i,∃ k∈ks i,k.toNat=x∧(cal i∨Rk ks cal i):=by
 cases h with
 | top i k hk hc=>exact⟨i,k,hk,rfl,.inl hc⟩
 | down i k hk hr=>exact⟨i,k,hk,rfl,.inr hr⟩
theorem pl_trans {n m x:Nat} (h:Pl ks cal n m) (g:Pl ks cal m x):Pl ks cal n x:=by
 induction g with
 | here=>exact h
 | down j k _ hc hk ih=>exact Pl.down j k ih hc hk
theorem pl_kid {n:Nat} {k:Int} {x:Nat} (hc:¬ cal n) (hk:k∈ks n) (g:Pl ks cal k.toNat x):Pl ks cal n x:=pl_trans (Pl.down n k Pl.here hc hk) g
theorem pl_top {n x:Nat} (g:Pl ks cal n x):x=n∨(¬ cal n∧∃ k∈ks n,Pl ks cal k.toNat x):=by
 induction g with
 | here=>exact .inl rfl
 | down j k _ hc hk ih =>
  rcases ih with rfl|⟨h0,k',hk',g'⟩
  ·exact .inr ⟨hc,k,hk,Pl.here⟩
  ·exact .inr ⟨h0,k',hk',Pl.down j k g' hc hk⟩
theorem pl_re {n x:Nat} (g:Pl ks cal n x):Re ks n x:=by
 induction g with
 | here=>exact Re.here
 | down j k _ _ hk ih=>exact Re.down j k ih hk
theorem re_pl {n x:Nat} (g:Re ks n x) (h:¬ Rk ks cal x):Pl ks cal n x:=by
 induction g with
 | here=>exact Pl.here
 | down j k _ hk ih=>exact Pl.down j k (ih (fun hr=>h (Rk.down j k hk hr))) (fun hc=>h (Rk.top j k hk hc)) hk
def Un (ks:Nat→List Int):Prop:=∀ i j k,k∈ks i→k∈ks j→i=j
theorem pl_not (hd:Dn ks) (hu:Un ks) {a x:Nat} (ha:∀ i,(a:Int)∉ks i) (g:Pl ks cal a x):¬ Rk ks cal x:=by
 induction g with
 | here =>
  intro h
  obtain⟨i,k,hk,e,_⟩:=rk_inv h
  have:=hd i k hk
  rw [show k=(a:Int)by omega]at hk
  exact ha i hk
 | down j k _ hc hk ih =>
  intro h
  obtain⟨i,k',hk',e,h2⟩:=rk_inv h
  have h3:=hd i k' hk'
  have h4:=hd j k hk
  rw [show k'=k by omega]at hk'
  have:=hu i j k hk' hk
  subst this
  exact h2.elim hc ih
theorem pl_iff (hd:Dn ks) (hu:Un ks) {a:Nat} (ha:∀ i,(a:Int)∉ks i) (x:Nat):(Re ks a x∧¬ Rk ks cal x)↔Pl ks cal a x :=
 ⟨fun h=>re_pl h.1 h.2,fun g=>⟨pl_re g,pl_not hd hu ha g⟩⟩
def InvR (ks:Nat→List Int) (cal:Nat→Prop) (i:Nat) (b:List Bool):Prop:=∀ x,Mk b x↔∃ j,i≤j∧∃ k∈ks j,k.toNat=x∧(cal j∨Rk ks cal j)
theorem invR_all {b:List Bool} (h:InvR ks cal 0 b) (x:Nat):Mk b x↔Rk ks cal x:=by
 rw [h x]
 constructor
 ·rintro⟨j,_,k,hk,rfl,hc|hr⟩
  ·exact Rk.top j k hk hc
  ·exact Rk.down j k hk hr
 ·intro g
  obtain⟨j,k,hk,e,h2⟩:=rk_inv g
  exact⟨j,Nat.zero_le _,k,hk,e,h2⟩
theorem invR_at (hd:Dn ks) {i:Nat} {b:List Bool} (h:InvR ks cal (i + 1) b):Mk b i↔Rk ks cal i:=by
 rw [h i]
 constructor
 ·rintro⟨j,_,k,hk,e,h2⟩
  rw [← e]
  exact h2.elim (Rk.top j k hk) (Rk.down j k hk)
 ·intro g
  obtain⟨j,k,hk,e,h2⟩:=rk_inv g
  have:=hd j k hk
  exact⟨j,by omega,k,hk,e,h2⟩
theorem invR_step (hd:Dn ks) (hu:Un ks) {i:Nat} {b b':List Bool} {v:Prop} (h:InvR ks cal (i + 1) b) (hv:v↔(Mk b i∨cal i)) (hb:∀ x,((∃ k∈ks i,k.toNat=x)→(Mk b' x↔v))∧((¬ ∃ k∈ks i,k.toNat=x)→(Mk b' x↔Mk b x))):InvR ks cal i b':=by
 have hi:=invR_at hd h
 intro x
 by_cases hx:∃ k∈ks i,k.toNat=x
 ·rw [(hb x).1 hx,hv,hi]
  obtain⟨k,hk,e⟩:=hx
  constructor
  ·intro h2
   exact⟨i,Nat.le_refl _,k,hk,e,h2.symm⟩
  ·rintro⟨j,hj,k',hk',e',h2⟩
   have h3:=hd j k' hk'
   have h4:=hd i k hk
   rw [show k'=k by omega]at hk'
   have:=hu j i k hk' hk
   subst this
   exact h2.symm
 ·rw [(hb x).2 hx,h x]
  constructor
  ·rintro⟨j,hj,h2⟩
   exact⟨j,by omega,h2⟩
  ·rintro⟨j,hj,k,hk,e,h2⟩
   refine⟨j, ?_,k,hk,e,h2⟩
   have:j≠i:=fun e2=>hx ⟨k,e2 ▸ hk,e⟩
   omega
end
theorem mem_fold (xs:List ByteArray):∀(S:List ByteArray) (s:ByteArray),s∈xs.foldl ins S↔s∈S∨s∈xs:=by
 induction xs with
 | nil=>exact fun S s=>⟨.inl,fun h=>h.elim id (fun h=>by cases h)⟩
 | cons x r ih =>
  intro S s
  rw [List.foldl_cons,ih,mem_ins,List.mem_cons]
  constructor
  ·rintro((h|h)|h)
   ·exact .inl h
   ·exact .inr (.inl h)
   ·exact .inr (.inr h)
  ·rintro(h|h|h)
   ·exact .inl (.inl h)
   ·exact .inl (.inr h)
   ·exact .inr h
inductive Dv (base:ByteArray→Prop) (rl:List ByteArray→List ByteArray→Prop):ByteArray→Prop
 | base (s:ByteArray):base s→Dv base rl s
 | step (need gives:List ByteArray) (s:ByteArray):rl need gives→(∀ t∈need,Dv base rl t)→s∈gives→Dv base rl s
section
variable {bd : List ILt} {VR : Int → List ByteArray} {PT : Int → Bool} {TL : List ByteArray → Int → Bool} {C : Int → Prop} {N : Int → List ByteArray}
def Rls (bd:List ILt) (VR:Int→List ByteArray) (PT:Int→Bool) (C:Int→Prop) (N:Int→List ByteArray):List ByteArray→List ByteArray→Prop:=fun need gives =>
 ∃ l∈bd,l.f0=3∧l.f1.toList=([61]:List UInt8)∧∃ a b,((a=rd l.f2 0∧b=rd l.f2 1)∨(a=rd l.f2 1∧b=rd l.f2 0))∧PT b=true∧C a∧need=N a∧gives=VR b
variable (hT : ∀ S a,TL S a = true ↔ C a ∧ ∀ t ∈ N a,t ∈ S)
include hT
theorem sound_O {D:ByteArray→Prop} {S:List ByteArray} (hS:∀ s∈S,D s) {a b:Int} (hr:PT b=true→C a→(∀ t∈N a,D t)→∀ s∈VR b,D s):∀ s∈lsO VR PT TL S a b,D s:=by
 intro s hs
 unfold lsO at hs
 by_cases h:(PT b && TL S a)=true
 ·rw [if_pos h]at hs
  rw [Bool.and_eq_true]at h
  obtain⟨h1,h2⟩:=(hT S a).1 h.2
  rcases (mem_fold _ _ _).1 hs with hs|hs
  ·exact hS s hs
  ·exact hr h.1 h1 (fun t ht=>hS t (h2 t ht)) s hs
 ·rw [if_neg h]at hs
  exact hS s hs
theorem sound_W {base:ByteArray→Prop} {S:List ByteArray} (hS:∀ s∈S,Dv base (Rls bd VR PT C N) s):∀ s∈lsW bd VR PT TL S,Dv base (Rls bd VR PT C N) s:=by
 have:∀(ls:List ILt),(∀ l∈ls,l∈bd)→∀ S,(∀ s∈S,Dv base (Rls bd VR PT C N) s)→∀ s∈ls.foldl (lsP VR PT TL) S,Dv base (Rls bd VR PT C N) s:=by
  intro ls
  induction ls with
  | nil=>exact fun _ S h=>h
  | cons l r ih =>
   intro hl S h
   rw [List.foldl_cons]
   refine ih (fun x hx=>hl x (List.mem_cons_of_mem _ hx)) _ ?_
   unfold lsP
   by_cases hc:l.f0=3∧l.f1.toList=([61]:List UInt8)
   ·rw [if_pos hc]
    refine sound_O hT (sound_O hT h (fun h1 h2 h3 s hs=>?_)) (fun h1 h2 h3 s hs=>?_)
    ·exact Dv.step _ _ s ⟨l,hl l List.mem_cons_self,hc.1,hc.2,_,_,.inl ⟨rfl,rfl⟩,h1,h2,rfl,rfl⟩ h3 hs
    ·exact Dv.step _ _ s ⟨l,hl l List.mem_cons_self,hc.1,hc.2,_,_,.inr ⟨rfl,rfl⟩,h1,h2,rfl,rfl⟩ h3 hs
   ·rw [if_neg hc]
    exact h
 exact this bd (fun _ h=>h) S hS
theorem sound_It (S0:List ByteArray):∀ n,∀ s∈lsIt bd VR PT TL S0 n,Dv (·∈S0) (Rls bd VR PT C N) s
 | 0,s,h=>Dv.base s h
 | n + 1,s,h=>sound_W hT (sound_It S0 n) s h
omit hT in
theorem fold_fix {α:Type} (f:List ByteArray→α→List ByteArray) (hf:∀ S a,∃ T,f S a=S ++ T):∀(xs:List α) (S:List ByteArray),xs.foldl f S=S→∀ x∈xs,f S x=S
 | [],_,_,x,h=>by cases h
 | y :: r,S,h,x,hx=>by
  rw [List.foldl_cons]at h
  obtain⟨T,hT⟩:=hf S y
  obtain⟨U,hU⟩:=fold_grow f hf r (f S y)
  have e:f S y=S:=by
   rw [hU,hT]at h
   have hl:=congrArg List.length h
   rw [List.length_append,List.length_append]at hl
   have:T=[]:=List.length_eq_zero_iff.1 (by omega)
   rw [hT,this,List.append_nil]
  rcases List.mem_cons.1 hx with rfl|hx
  ·exact e
  ·rw [e]at h
   exact fold_fix f hf r S h x hx
omit hT in
theorem lsO_two {S:List ByteArray} {a b:Int} (h:lsO VR PT TL (lsO VR PT TL S a b) b a=S):lsO VR PT TL S a b=S∧lsO VR PT TL S b a=S:=by
 obtain⟨T,hT⟩:=lsO_grow VR PT TL S a b
 obtain⟨U,hU⟩:=lsO_grow VR PT TL (lsO VR PT TL S a b) b a
 have e:lsO VR PT TL S a b=S:=by
  have h2:=h
  rw [hU,hT]at h2
  have hl:=congrArg List.length h2
  rw [List.length_append,List.length_append]at hl
  have:T=[]:=List.length_eq_zero_iff.1 (by omega)
  rw [hT,this,List.append_nil]
 rw [e]at h
 exact⟨e,h⟩
theorem closed {S:List ByteArray} (hf:lsW bd VR PT TL S=S) {base:ByteArray→Prop} (hb:∀ s,base s→s∈S) {s:ByteArray} (h:Dv base (Rls bd VR PT C N) s):s∈S:=by
 have hP:=fold_fix _ (lsP_grow VR PT TL) bd S hf
 induction h with
 | base s h=>exact hb s h
 | step need gives s hr _ hg ih =>
  obtain⟨l,hl,h0,h1,a,b,hab,hp,hc,rfl,rfl⟩:=hr
  have h2:=hP l hl
  have h3:lsO VR PT TL (lsO VR PT TL S (rd l.f2 0) (rd l.f2 1)) (rd l.f2 1) (rd l.f2 0)=S:=by
   have:lsP VR PT TL S l=lsE VR PT TL (rd l.f2 0) (rd l.f2 1) S 2:=if_pos ⟨h0,h1⟩
   rw [this]at h2
   exact h2
  obtain⟨h4,h5⟩:=lsO_two h3
  have h6:lsO VR PT TL S a b=S:=by
   rcases hab with⟨rfl,rfl⟩|⟨rfl,rfl⟩
   ·exact h4
   ·exact h5
  have h7:(PT b && TL S a)=true:=by rw [hp,(hT S a).2 ⟨hc,ih⟩];rfl
  have h8:(VR b).foldl ins S=S:=by
   have:lsO VR PT TL S a b=(VR b).foldl ins S:=if_pos h7
   rw [← this]
   exact h6
  have h9:=(mem_fold (VR b) S s).2 (.inr hg)
  rw [h8]at h9
  exact h9
theorem mem_It {S0:List ByteArray} {n:Nat} (hf:lsW bd VR PT TL (lsIt bd VR PT TL S0 n)=lsIt bd VR PT TL S0 n) (s:ByteArray):s∈lsIt bd VR PT TL S0 n↔Dv (·∈S0) (Rls bd VR PT C N) s:=by
 refine⟨sound_It hT S0 n s,closed hT hf (fun s hs=>?_)⟩
 have:∀ m,∃ T,lsIt bd VR PT TL S0 m=S0 ++ T:=by
  intro m
  induction m with
  | zero=>exact⟨[],(List.append_nil _).symm⟩
  | succ m ih =>
   obtain⟨T,h⟩:=ih
   obtain⟨U,h2⟩:=fold_grow _ (lsP_grow VR PT TL) bd (lsIt bd VR PT TL S0 m)
   exact⟨T ++ U,by show lsW bd VR PT TL (lsIt bd VR PT TL S0 m)=_;unfold lsW;rw [h2,h,List.append_assoc]⟩
 obtain⟨T,h⟩:=this n
 rw [h]
 exact List.mem_append_left _ hs
end
section
variable {es : List IEx} {bd : List ILt} {VR : Int → List ByteArray} {PT : Int → Bool} {TL : List ByteArray → Int → Bool}
def Bey (es:List IEx) (S0 S:List ByteArray):Prop:=∃ T,S=S0 ++ T∧lsG es T
theorem bey_ins {S0 S:List ByteArray} (h:Bey es S0 S) {s:ByteArray} (hs:∃ e∈es,e.f1=s):Bey es S0 (ins S s):=by
 obtain⟨T,rfl,hT⟩:=h
 unfold ins
 by_cases e:hasB (S0 ++ T) s=true
 ·rw [if_pos e]
  exact⟨T,rfl,hT⟩
 ·rw [if_neg e]
  refine⟨T ++ [s],List.append_assoc _ _ _, ?_⟩
  have:=lsG_ins hT hs
  unfold ins at this
  rwa [if_neg (fun h=>e (hasB_iff.2 (List.mem_append_right _ (hasB_iff.1 h))))]at this
theorem bey_fold {S0:List ByteArray}:∀(xs:List ByteArray) (S:List ByteArray),Bey es S0 S→(∀ s∈xs,∃ e∈es,e.f1=s)→Bey es S0 (xs.foldl ins S)
 | [],S,h,_=>h
 | x :: r,S,h,hx=>bey_fold r _ (bey_ins h (hx x List.mem_cons_self)) (fun s hs=>hx s (List.mem_cons_of_mem _ hs))
theorem bey_O {S0 S:List ByteArray} (h:Bey es S0 S) {a b:Int} (hb:∀ s∈VR b,∃ e∈es,e.f1=s):Bey es S0 (lsO VR PT TL S a b):=by
 unfold lsO
 by_cases hc:(PT b && TL S a)=true
 ·rw [if_pos hc]
  exact bey_fold _ _ h hb
 ·rw [if_neg hc]
  exact h
theorem bey_It (hV:∀ l∈bd,l.f0=3→(∀ s∈VR (rd l.f2 0),∃ e∈es,e.f1=s)∧∀ s∈VR (rd l.f2 1),∃ e∈es,e.f1=s) (S0:List ByteArray):∀ n,Bey es S0 (lsIt bd VR PT TL S0 n)
 | 0=>⟨[],(List.append_nil _).symm,lsG_nil es⟩
 | n + 1=>by
  have ih:=bey_It hV S0 n
  have:∀(ls:List ILt),(∀ l∈ls,l∈bd)→∀ S,Bey es S0 S→Bey es S0 (ls.foldl (lsP VR PT TL) S):=by
   intro ls
   induction ls with
   | nil=>exact fun _ S h=>h
   | cons l r ih =>
    intro hl S h
    rw [List.foldl_cons]
    refine ih (fun x hx=>hl x (List.mem_cons_of_mem _ hx)) _ ?_
    unfold lsP
    by_cases hc:l.f0=3∧l.f1.toList=([61]:List UInt8)
    ·rw [if_pos hc]
     obtain⟨h1,h2⟩:=hV l (hl l List.mem_cons_self) hc.1
     exact bey_O (bey_O h h2) h1
    ·rw [if_neg hc]
     exact h
  exact this bd (fun _ h=>h) _ ih
theorem bey_len {S0 S:List ByteArray} (h:Bey es S0 S):S.length≤S0.length + es.length:=by
 obtain⟨T,rfl,hT⟩:=h
 have:=lsG_len hT
 rw [List.length_append]
 omega
theorem fix_ex (hV:∀ l∈bd,l.f0=3→(∀ s∈VR (rd l.f2 0),∃ e∈es,e.f1=s)∧∀ s∈VR (rd l.f2 1),∃ e∈es,e.f1=s) (S0:List ByteArray):∃ n≤es.length,lsW bd VR PT TL (lsIt bd VR PT TL S0 n)=lsIt bd VR PT TL S0 n:=by
 refine Classical.byContradiction fun hc=>?_
 have:∀ n,n≤es.length + 1→S0.length + n≤(lsIt bd VR PT TL S0 n).length:=by
  intro n
  induction n with
  | zero=>exact fun _=>Nat.le_refl _
  | succ n ih =>
   intro hn
   have h1:=ih (by omega)
   refine Classical.byContradiction fun h2=>hc ⟨n,by omega,lsW_same (fun h3=>h2 ?_)⟩
   show S0.length + (n + 1)≤(lsW bd VR PT TL (lsIt bd VR PT TL S0 n)).length
   omega
 have h1:=this (es.length + 1) (Nat.le_refl _)
 have h2:=bey_len (bey_It hV S0 (es.length + 1) (PT:=PT) (TL:=TL))
 omega
end
theorem nm_congr {S S':List ByteArray} (h:∀ s,s∈S↔s∈S') (es:List IEx):lsNm S es=lsNm S' es:=by
 have:∀ s,hasB S s=hasB S' s:=fun s=>by rw [Bool.eq_iff_iff,hasB_iff,hasB_iff,h s]
 unfold lsNm
 simp only [this]
theorem nm_txt (S:List ByteArray) (es:List IEx):∀ s∈lsNm S es,∃ e∈es,e.f1=s:=by
 have:∀(xs:List IEx) (out:List ByteArray),(∀ x∈xs,x∈es)→(∀ s∈out,∃ e∈es,e.f1=s)→∀ s∈xs.foldl (fun out e=>if e.f0=1∧hasB S e.f1=true∧hasB out e.f1=false then out ++ [e.f1]else out) out,∃ e∈es,e.f1=s:=by
  intro xs
  induction xs with
  | nil=>exact fun _ _ h=>h
  | cons x r ih =>
   intro out hx h
   rw [List.foldl_cons]
   refine ih _ (fun y hy=>hx y (List.mem_cons_of_mem _ hy)) ?_
   by_cases hc:x.f0=1∧hasB S x.f1=true∧hasB out x.f1=false
   ·rw [if_pos hc]
    intro s hs
    rcases List.mem_append.1 hs with hs|hs
    ·exact h s hs
    ·rw [List.mem_singleton]at hs
     exact⟨x,hx x List.mem_cons_self,hs.symm⟩
   ·rw [if_neg hc]
    exact h
 exact this es [] (fun _ h=>h) (fun s h=>by cases h)
theorem dv_congr {b b':ByteArray→Prop} {r r':List ByteArray→List ByteArray→Prop} (hb:∀ s,b s→b' s) (hr:∀ n g,r n g→r' n g) {s:ByteArray} (h:Dv b r s):Dv b' r' s:=by
 induction h with
 | base s h=>exact Dv.base s (hb s h)
 | step n g s h _ hs ih=>exact Dv.step n g s (hr n g h) ih hs
theorem mem_base (es:List IEx) (PL:Int→List Int) (bd:List ILt) (s:ByteArray):s∈bd.foldl (lsL es PL) []↔∃ l∈bd,l.f0=1∧∃ x∈l.f2,∃ y∈PL x,(y19 es y).f0=1∧(y19 es y).f1=s:=by
 have hK:∀(l:ILt) (ys:List Int) (S:List ByteArray),s∈ys.foldl (lsK es l) S↔s∈S∨(l.f0=1∧∃ y∈ys,(y19 es y).f0=1∧(y19 es y).f1=s):=by
  intro l ys
  induction ys with
  | nil=>exact fun S=>⟨.inl,fun h=>h.elim id (fun h=>by obtain⟨_,y,h,_⟩:=h;cases h)⟩
  | cons y r ih =>
   intro S
   rw [List.foldl_cons,ih]
   unfold lsK
   by_cases h:l.f0=1∧(y19 es y).f0=1
   ·rw [if_pos h,mem_ins]
    constructor
    ·rintro((h1|h1)|⟨h1,z,hz,h2⟩)
     ·exact .inl h1
     ·exact .inr ⟨h.1,y,List.mem_cons_self,h.2,h1.symm⟩
     ·exact .inr ⟨h1,z,List.mem_cons_of_mem _ hz,h2⟩
    ·rintro(h1|⟨h1,z,hz,h2,h3⟩)
     ·exact .inl (.inl h1)
     ·rcases List.mem_cons.1 hz with rfl|hz
      ·exact .inl (.inr h3.symm)
      ·exact .inr ⟨h1,z,hz,h2,h3⟩
   ·rw [if_neg h]
    constructor
    ·rintro(h1|⟨h1,z,hz,h2⟩)
     ·exact .inl h1
     ·exact .inr ⟨h1,z,List.mem_cons_of_mem _ hz,h2⟩
    ·rintro(h1|⟨h1,z,hz,h2,h3⟩)
     ·exact .inl h1
     ·rcases List.mem_cons.1 hz with rfl|hz
      ·exact absurd ⟨h1,h2⟩ h
      ·exact .inr ⟨h1,z,hz,h2,h3⟩
 have hA:∀(l:ILt) (xs:List Int) (S:List ByteArray),s∈xs.foldl (lsA es PL l) S↔s∈S∨(l.f0=1∧∃ x∈xs,∃ y∈PL x,(y19 es y).f0=1∧(y19 es y).f1=s):=by
  intro l xs
  induction xs with
  | nil=>exact fun S=>⟨.inl,fun h=>h.elim id (fun h=>by obtain⟨_,y,h,_⟩:=h;cases h)⟩
  | cons x r ih =>
   intro S
   rw [List.foldl_cons,ih]
   unfold lsA
   rw [hK]
   constructor
   ·rintro((h1|⟨h1,h2⟩)|⟨h1,z,hz,h2⟩)
    ·exact .inl h1
    ·exact .inr ⟨h1,x,List.mem_cons_self,h2⟩
    ·exact .inr ⟨h1,z,List.mem_cons_of_mem _ hz,h2⟩
   ·rintro(h1|⟨h1,z,hz,h2⟩)
    ·exact .inl (.inl h1)
    ·rcases List.mem_cons.1 hz with rfl|hz
     ·exact .inl (.inr ⟨h1,h2⟩)
     ·exact .inr ⟨h1,z,hz,h2⟩
 have hL:∀(ls:List ILt) (S:List ByteArray),s∈ls.foldl (lsL es PL) S↔s∈S∨∃ l∈ls,l.f0=1∧∃ x∈l.f2,∃ y∈PL x,(y19 es y).f0=1∧(y19 es y).f1=s:=by
  intro ls
  induction ls with
  | nil=>exact fun S=>⟨.inl,fun h=>h.elim id (fun h=>by obtain⟨_,h,_⟩:=h;cases h)⟩
  | cons l r ih =>
   intro S
   rw [List.foldl_cons,ih]
   unfold lsL
   rw [hA]
   constructor
   ·rintro((h1|h1)|⟨z,hz,h2⟩)
    ·exact .inl h1
    ·exact .inr ⟨l,List.mem_cons_self,h1⟩
    ·exact .inr ⟨z,List.mem_cons_of_mem _ hz,h2⟩
   ·rintro(h1|⟨z,hz,h2⟩)
    ·exact .inl (.inl h1)
    ·rcases List.mem_cons.1 hz with rfl|hz
     ·exact .inl (.inr h2)
     ·exact .inr ⟨z,hz,h2⟩
 rw [hL]
 exact⟨fun h=>h.elim (fun h=>by cases h) id,.inr⟩
end Go.Proofs.Ytkdabljlfbmpdaa.QLeast
