-- Cut by prune.py.
import Derived.Test.YtimhlficlhafbaaGreatDoorVvlQGenR
import Derived.Test.YtimhlficlhafbaaGreatDoorVvlPvx25
namespace Go.Proofs.YtimhlficlhafbaaGreatDoor.QRule
open RowKit Pv YtimhlficlhafbaaGreatDoorW.PrintWords YtimhlficlhafbaaGreatDoorW.PrintLast QStr QGenR
abbrev LEx:=S59
abbrev IEx:=S67
abbrev LLt:=S25
abbrev ILt:=S35
abbrev LRu:=S28
theorem getD_at {α:Type} (z:α) (xs:List α) (i:Nat) (h:i < xs.length):xs.getD ((i:Int)).toNat z=xs[i]:=by
 rw [show((i:Int)).toNat=i from rfl,List.getD_eq_getElem?_getD,List.getElem?_eq_getElem h]
 rfl
def cvEx (a:LEx):IEx:=⟨a.f0,a.f1,a.f2⟩
def cvLt (a:LLt):ILt:=⟨a.f0,a.f1,a.f2⟩
def FewN (xs:List Int):Prop:=xs.length≤1048576
def RmN (xs:List Int):Prop:=xs.length≤281474976710656
def RmEx (a:LEx):Prop:=a.f1.size≤281474976710656∧RmN a.f2
def FwEx (a:LEx):Prop:=a.f1.size≤1048576∧FewN a.f2
def FiEx (a:IEx):Prop:=a.f1.size≤1048576∧FewN a.f2
def RmLt (a:LLt):Prop:=a.f1.size≤281474976710656∧RmN a.f2
def FwLt (a:LLt):Prop:=a.f1.size≤1048576∧FewN a.f2
def FiLt (a:ILt):Prop:=a.f1.size≤1048576∧FewN a.f2
def RmRu (a:LRu):Prop:=RoomL RmEx a.f0∧RmLt a.f1∧RoomL RmLt a.f2
def FwRu (a:LRu):Prop:=FewL FwEx a.f0∧FwLt a.f1∧FewL FwLt a.f2
theorem szN_f (xs:List Int) (hx:RmN xs) (v:Int) (h0:0≤v) (h1:v≤1048576):∃ r,laws_szIntS.f xs v=some r∧r≤v∧(0≤r→FewN xs):=by
 unfold RmN at hx
 unfold laws_szIntS.f FewN
 rw [wrapS (by omega) (by omega)]
 by_cases h:v - (xs.length:Int) < 0
 ·rw [if_pos h]
  exact⟨_,rfl,by omega,fun h=>by omega⟩
 ·rw [if_neg h]
  exact⟨_,rfl,by omega,fun _=>by omega⟩
theorem rdN_get (xs:List Int) (i:Nat) (h:i < xs.length):rd xs (i:Int)=xs[i]:=getD_at 0 xs i h
theorem toN_l (xs:List Int) (hx:FewN xs):∀(d i k:Nat),i + d=xs.length→d < k→laws_toIntS.l0 k xs (xs.take i ++ List.replicate d 0) (i:Int)=some xs
 | 0,i,k,hd,hk=>by
  obtain⟨k,rfl⟩:∃ m,k=m + 1:=⟨k - 1,by omega⟩
  rw [laws_toIntS.l0,if_neg (by omega),List.replicate_zero,List.append_nil,List.take_of_length_le (by omega)]
 | d + 1,i,k,hd,hk=>by
  obtain⟨k,rfl⟩:∃ m,k=m + 1:=⟨k - 1,by omega⟩
  have hlt:i < xs.length:=by omega
  have hx1:xs.length≤1048576:=hx
  have hs:=gset (fun a:Int=>a) xs i hlt d 0
  rw [List.map_id' (xs.take i),List.map_id' (xs.take (i + 1))]at hs
  rw [laws_toIntS.l0,if_pos (by omega),if_pos (by omega),if_pos (by simp only [List.length_append,List.length_take,List.length_replicate];omega),rdN_get xs i hlt,show((i:Int)).toNat=i from rfl,hs,step_i (by omega),toN_l xs hx d (i + 1) k (by omega) (by omega)]
theorem toN_f (xs:List Int) (hx:FewN xs) (k:Nat) (hk:1048576 < k):laws_toIntS.f k xs=some xs:=by
 have hx1:xs.length≤1048576:=hx
 unfold laws_toIntS.f
 rw [if_pos (by omega),if_pos (by omega)]
 have:=toN_l xs hx xs.length 0 k (by omega) (by omega)
 simpa using this
theorem eqN_l (xs:List Int) (hx:FewN xs):∀(d i k:Nat),i + d=xs.length→d < k→laws_eqIntS.l0 k xs xs (i:Int)=some true
 | 0,i,k,hd,hk=>by
  obtain⟨k,rfl⟩:∃ m,k=m + 1:=⟨k - 1,by omega⟩
  rw [laws_eqIntS.l0,if_neg (by omega)]
 | d + 1,i,k,hd,hk=>by
  obtain⟨k,rfl⟩:∃ m,k=m + 1:=⟨k - 1,by omega⟩
  have hx1:xs.length≤1048576:=hx
  rw [laws_eqIntS.l0,if_pos (by omega),if_pos (by omega),if_pos (by omega),if_pos rfl,step_i (by omega),eqN_l xs hx d (i + 1) k (by omega) (by omega)]
theorem eqN_f (xs:List Int) (hx:FewN xs) (k:Nat) (hk:1048576 < k):laws_eqIntS.f k xs xs=some true:=by
 have hx1:xs.length≤1048576:=hx
 unfold laws_eqIntS.f
 rw [if_pos rfl]
 exact eqN_l xs hx xs.length 0 k (by omega) (by omega)
theorem left_ (s:ByteArray) (hs:s.size≤281474976710656) (v:Int) (h0:0≤v) (h1:v≤1048576) (g:Int→Option Int) (P:Prop)
  (hg:∀ u,0≤u→u≤v→∃ r,g u=some r∧r≤u∧(0≤r→P)) :
  ∃ r,(if(wrap64 (v - (s.size:Int))) < 0 then(some (-1))else((g (wrap64 (v - (s.size:Int)))).bind fun t=>(if t < 0 then(some (-1))else(some t))))=some r∧r≤v∧(0≤r→s.size≤1048576∧P):=by
 rw [wrapS (by omega) (by omega)]
 by_cases h:v - (s.size:Int) < 0
 ·rw [if_pos h]
  exact⟨_,rfl,by omega,fun h=>by omega⟩
 ·rw [if_neg h]
  obtain⟨r,h2,h3,h4⟩:=hg (v - (s.size:Int)) (by omega) (by omega)
  rw [h2,Option.bind_some]
  by_cases h5:r < 0
  ·rw [if_pos h5]
   exact⟨_,rfl,by omega,fun h=>by omega⟩
  ·rw [if_neg h5]
   exact⟨_,rfl,by omega,fun h=>⟨by omega,h4 h⟩⟩
theorem then_ (x:Option Int) (v:Int) (P Q:Prop) (g:Int→Option Int) (hx:∃ r,x=some r∧r≤v∧(0≤r→P))
  (hg:∀ u,0≤u→u≤v→∃ r,g u=some r∧r≤u∧(0≤r→Q)) (h0:0≤v):∃ r,(x.bind fun t=>(if t < 0 then(some (-1))else(g t)))=some r∧r≤v∧(0≤r→P∧Q):=by
 obtain⟨r,rfl,h1,h2⟩:=hx
 rw [Option.bind_some]
 by_cases h5:r < 0
 ·rw [if_pos h5]
  exact⟨_,rfl,by omega,fun h=>by omega⟩
 ·rw [if_neg h5]
  obtain⟨q,h3,h4,h6⟩:=hg r (by omega) h1
  exact⟨q,h3,by omega,fun h=>⟨h2 (by omega),h6 h⟩⟩
theorem last_ (x:Option Int) (v:Int) (P:Prop) (hx:∃ r,x=some r∧r≤v∧(0≤r→P)) (h0:0≤v):∃ r,(x.bind fun t=>(if t < 0 then(some (-1))else(some t)))=some r∧r≤v∧(0≤r→P):=by
 obtain⟨r,h1,h2,h3⟩:=then_ x v P True (fun t=>some t) hx (fun u h0 _=>⟨u,rfl,Int.le_refl _,fun _=>trivial⟩) h0
 exact⟨r,h1,h2,fun h=>(h3 h).1⟩
theorem szEx_f (a:LEx) (v:Int) (ha:RmEx a) (h0:0≤v) (h1:v≤1048576):∃ r,laws_szExp.f a.f0 a.f1 a.f2 v=some r∧r≤v∧(0≤r→FwEx a) :=
 left_ a.f1 ha.1 v h0 h1 (fun u=>laws_szIntS.f a.f2 u) (FewN a.f2) (fun u g0 g1=>szN_f a.f2 ha.2 u g0 (by omega))
theorem szExS_f (xs:List LEx) (hx:RoomL RmEx xs) (v:Int) (h0:0≤v) (h1:v≤1048576) (k:Nat) (hk:1048577 < k):∃ r,laws_szExpS.f k xs v=some r∧r≤v∧(0≤r→FewL FwEx xs) :=
 gsz laws_szExpS.l0 (fun _ (a:LEx) v=>laws_szExp.f a.f0 a.f1 a.f2 v) rd_T59 laws_szExpS.f (fun _ _ _=>rfl) (fun _ _ _ _=>rfl) (getD_at _) RmEx FwEx 0 (fun a v _ ha h0 h1 _=>szEx_f a v ha h0 h1) xs hx v h0 h1 k (by omega)
theorem toEx_f (a:LEx) (k:Nat) (ha:FwEx a) (hk:1048576 < k):laws_toExp.f k a.f0 a.f1 a.f2=some (a.f0,a.f1,a.f2):=by
 unfold laws_toExp.f
 rw [toN_f a.f2 ha.2 k hk,Option.bind_some]
theorem toExS_f (xs:List LEx) (hx:FewL FwEx xs) (k:Nat) (hk:2097153 < k):laws_toExpS.f k xs=some (xs.map cvEx):=by
 have h1:=hx.1
 unfold laws_toExpS.f
 rw [if_pos (by omega),if_pos (by omega)]
 exact gto0 laws_toExpS.l0 (fun k (a:LEx)=>laws_toExp.f k a.f0 a.f1 a.f2) rd_T59 (fun bt=>(⟨bt.1,bt.2.1,bt.2.2⟩:IEx)) (fun _ _ _ _=>rfl) (getD_at _) FwEx cvEx 1048576 (fun a k ha hk=>⟨_,toEx_f a k ha hk,rfl⟩) xs hx _ k (by omega)
theorem eqEx_f (b:IEx) (k:Nat) (hb:FiEx b) (hk:1048576 < k):laws_eqExp.f k b.f0 b.f1 b.f2 b.f0 b.f1 b.f2=some true:=by
 unfold laws_eqExp.f
 rw [if_pos rfl,if_pos rfl,eqN_f b.f2 hb.2 k hk,Option.bind_some,if_pos rfl]
theorem eqExS_f (xs:List IEx) (hx:FewL FiEx xs) (k:Nat) (hk:2097153 < k):laws_eqExpS.f k xs xs=some true:=by
 unfold laws_eqExpS.f
 rw [if_pos rfl]
 exact geq0 laws_eqExpS.l0 (fun k (a b:IEx)=>laws_eqExp.f k a.f0 a.f1 a.f2 b.f0 b.f1 b.f2) y23 (fun _ _ _ _=>rfl) (getD_at _) FiEx 1048576 (fun b k hb hk=>eqEx_f b k hb hk) xs hx k (by omega)
theorem szLt_f (a:LLt) (v:Int) (ha:RmLt a) (h0:0≤v) (h1:v≤1048576):∃ r,laws_szLit.f a.f0 a.f1 a.f2 v=some r∧r≤v∧(0≤r→FwLt a) :=
 left_ a.f1 ha.1 v h0 h1 (fun u=>laws_szIntS.f a.f2 u) (FewN a.f2) (fun u g0 g1=>szN_f a.f2 ha.2 u g0 (by omega))
theorem szLtS_f (xs:List LLt) (hx:RoomL RmLt xs) (v:Int) (h0:0≤v) (h1:v≤1048576) (k:Nat) (hk:1048577 < k):∃ r,laws_szLitS.f k xs v=some r∧r≤v∧(0≤r→FewL FwLt xs) :=
 gsz laws_szLitS.l0 (fun _ (a:LLt) v=>laws_szLit.f a.f0 a.f1 a.f2 v) rd_T25 laws_szLitS.f (fun _ _ _=>rfl) (fun _ _ _ _=>rfl) (getD_at _) RmLt FwLt 0 (fun a v _ ha h0 h1 _=>szLt_f a v ha h0 h1) xs hx v h0 h1 k (by omega)
theorem toLt_f (a:LLt) (k:Nat) (ha:FwLt a) (hk:1048576 < k):laws_toLit.f k a.f0 a.f1 a.f2=some (a.f0,a.f1,a.f2):=by
 unfold laws_toLit.f
 rw [toN_f a.f2 ha.2 k hk,Option.bind_some]
theorem toLtS_f (xs:List LLt) (hx:FewL FwLt xs) (k:Nat) (hk:2097153 < k):laws_toLitS.f k xs=some (xs.map cvLt):=by
 have h1:=hx.1
 unfold laws_toLitS.f
 rw [if_pos (by omega),if_pos (by omega)]
 exact gto0 laws_toLitS.l0 (fun k (a:LLt)=>laws_toLit.f k a.f0 a.f1 a.f2) rd_T25 (fun bt=>(⟨bt.1,bt.2.1,bt.2.2⟩:ILt)) (fun _ _ _ _=>rfl) (getD_at _) FwLt cvLt 1048576 (fun a k ha hk=>⟨_,toLt_f a k ha hk,rfl⟩) xs hx _ k (by omega)
theorem eqLt_f (b:ILt) (k:Nat) (hb:FiLt b) (hk:1048576 < k):laws_eqLit.f k b.f0 b.f1 b.f2 b.f0 b.f1 b.f2=some true:=by
 unfold laws_eqLit.f
 rw [if_pos rfl,if_pos rfl,eqN_f b.f2 hb.2 k hk,Option.bind_some,if_pos rfl]
theorem eqLtS_f (xs:List ILt) (hx:FewL FiLt xs) (k:Nat) (hk:2097153 < k):laws_eqLitS.f k xs xs=some true:=by
 unfold laws_eqLitS.f
 rw [if_pos rfl]
 exact geq0 laws_eqLitS.l0 (fun k (a b:ILt)=>laws_eqLit.f k a.f0 a.f1 a.f2 b.f0 b.f1 b.f2) y22 (fun _ _ _ _=>rfl) (getD_at _) FiLt 1048576 (fun b k hb hk=>eqLt_f b k hb hk) xs hx k (by omega)
theorem szRu_f (a:LRu) (v:Int) (k:Nat) (ha:RmRu a) (h0:0≤v) (h1:v≤1048576) (hk:1048577 < k):∃ r,laws_szRule.f k a.f0 a.f1.f0 a.f1.f1 a.f1.f2 a.f2 v=some r∧r≤v∧(0≤r→FwRu a) :=
 then_ _ v _ _ (fun t=>(laws_szLit.f a.f1.f0 a.f1.f1 a.f1.f2 t).bind fun t124=>(if t124 < 0 then(some (-1))else((laws_szLitS.f k a.f2 t124).bind fun t125=>(if t125 < 0 then(some (-1))else(some t125))))) (szExS_f a.f0 ha.1 v h0 h1 k hk)
  (fun u g0 g1=>then_ _ u _ _ (fun t=>(laws_szLitS.f k a.f2 t).bind fun t125=>(if t125 < 0 then(some (-1))else(some t125))) (szLt_f a.f1 u ha.2.1 g0 (by omega))
   (fun u g2 g3=>last_ _ u _ (szLtS_f a.f2 ha.2.2 u g2 (by omega) k hk) g2) g0) h0
theorem toRu_f (a:LRu) (k:Nat) (ha:FwRu a) (hk:2097153 < k):laws_toRule.f k a.f0 a.f1.f0 a.f1.f1 a.f1.f2 a.f2=some (a.f0.map cvEx,a.f1.f0,a.f1.f1,a.f1.f2,a.f2.map cvLt):=by
 unfold laws_toRule.f
 rw [toExS_f a.f0 ha.1 k (by omega),Option.bind_some,toLt_f a.f1 k ha.2.1 (by omega),Option.bind_some,toLtS_f a.f2 ha.2.2 k (by omega),Option.bind_some]
theorem eqRu_f (e:List IEx) (l:ILt) (b:List ILt) (k:Nat) (he:FewL FiEx e) (hl:FiLt l) (hb:FewL FiLt b) (hk:2097153 < k):laws_eqRule.f k e l.f0 l.f1 l.f2 b e l.f0 l.f1 l.f2 b=some true:=by
 unfold laws_eqRule.f
 rw [eqExS_f e he k (by omega),Option.bind_some,if_pos rfl,eqLt_f l k hl (by omega),Option.bind_some,if_pos rfl,eqLtS_f b hb k (by omega),Option.bind_some,if_pos rfl]
theorem fi_ex (a:LEx) (h:FwEx a):FiEx (cvEx a):=h
theorem fi_lt (a:LLt) (h:FwLt a):FiLt (cvLt a):=h
end Go.Proofs.YtimhlficlhafbaaGreatDoor.QRule
