-- Cut by prune.py.
import Derived.Test.YtimhlficlhafbaaGreatDoorVvlQImplB
namespace Go.Proofs.YtimhlficlhafbaaGreatDoor.QPrs
open RowKit Pv YtimhlficlhafbaaGreatDoorW.PrintWords YtimhlficlhafbaaGreatDoorW.PrintLast QStr QTm QImpl
theorem pref (t u:Tm) (r q:List UInt8) (ht:Ok t) (hu:Ok u) (hr:Stop r) (hq:Stop q) (he:rnd t ++ r=rnd u ++ q) (hl:(rnd t ++ r).length≤281474976710656):kind t=kind u∧rnd t=rnd u∧r=q:=by
 have h1:=termAt_rnd _ t r rfl ht hr hl (4 * (rnd t ++ r).length + 61) (by omega)
 have h2:=termAt_rnd _ u q rfl hu hq (by rw [← he];exact hl) (4 * (rnd t ++ r).length + 61) (by rw [← he];omega)
 rw [he]at h1
 rw [he]at h2
 rw [h1]at h2
 simp only [Option.some.injEq,Prod.mk.injEq]at h2
 obtain⟨h3,h4⟩:=h2
 have h5:=List.append_inj he (by omega)
 exact⟨by omega,h5.1,h5.2⟩
theorem itoa_inj {v w:Int} (h1:-1000000≤v∧v≤1000000) (h2:-1000000≤w∧w≤1000000) (h:Lib.itoa v=Lib.itoa w):v=w:=by
 have a:=atoi_itoa v h1.1 h1.2
 rw [h,atoi_itoa w h2.1 h2.2]at a
 injection a with a
 exact a.symm
theorem front_wrd {nm:List UInt8} (h:Nam nm) (ts:List Tm):(nm ++ rndA ts).takeWhile isWrd=nm:=by
 apply takeWhile_append_stop (nam_wrd h)
 intro y hy
 cases ts with
 | nil=>rw [rndA_nil]at hy;simp at hy
 | cons a ts=>rw [rndA_cons]at hy;simp at hy;subst hy;rfl
theorem rndT_inj (n:Nat) (IH:∀ t u,Ok t→Ok u→(rnd t).length < n→(rnd t).length≤281474976710656→rnd t=rnd u→t=u) :
  ∀(ts us:List Tm),OkL ts→OkL us→(rndT ts).length≤n→(rndT ts).length≤281474976710656→rndT ts=rndT us→ts=us
 | [],[],_,_,_,_,_=>rfl
 | [],b :: us,_,_,_,_,h=>by rw [rndT_nil,rndT_cons]at h;simp at h
 | a :: ts,[],_,_,_,_,h=>by rw [rndT_nil,rndT_cons]at h;simp at h
 | a :: ts,b :: us,ha,hb,hn,hl,h=>by
  rw [okL_cons]at ha hb
  rw [rndT_cons]at hn hl
  rw [rndT_cons,rndT_cons]at h
  injection h with _ h
  rw [List.length_cons,List.length_append]at hn hl
  have hs1:=stop_rndT ts []
  have hs2:=stop_rndT us []
  rw [List.append_nil]at hs1 hs2
  obtain⟨_,h1,h2⟩:=pref a b (rndT ts) (rndT us) ha.1 hb.1 hs1 hs2 h (by rw [List.length_append];omega)
  have hp:=rnd_pos a ha.1
  rw [IH a b ha.1 hb.1 (by omega) (by omega) h1,rndT_inj n IH ts us ha.2 hb.2 (by omega) (by omega) h2]
theorem rnd_inj:∀(n:Nat) (t u:Tm),(rnd t).length=n→Ok t→Ok u→(rnd t).length≤281474976710656→rnd t=rnd u→t=u:=by
 intro n
 induction n using Nat.strongRecOn with
 | _ n ih =>
  intro t u hn ht hu hl he
  have hk:=(pref t u [] [] ht hu stop_nil stop_nil (by rw [he]) (by rw [List.append_nil];exact hl)).1
  cases t with
  | num v =>
   cases u with
   | num w=>rw [rnd_num,rnd_num]at he;rw [ok_num]at ht hu;rw [itoa_inj ht hu he]
   | sym b=>simp [kind]at hk
   | con nm ts=>simp [kind]at hk
  | sym b =>
   cases u with
   | num w=>simp [kind]at hk
   | sym c=>rw [rnd_sym,rnd_sym]at he;simp at he;rw [he]
   | con nm ts=>simp [kind]at hk
  | con nm ts =>
   cases u with
   | num w=>simp [kind]at hk
   | sym c=>simp [kind]at hk
   | con mm us =>
    rw [ok_con]at ht hu
    rw [rnd_con]at hn hl
    rw [rnd_con,rnd_con]at he
    have h1:=front_wrd ht.1 ts
    rw [he,front_wrd hu.1 us]at h1
    subst h1
    have h2:=List.append_cancel_left he
    rw [List.length_append]at hn hl
    have hnp:=nam_ne ht.1
    have hnl:1≤mm.length:=List.length_pos_iff.2 hnp
    congr 1
    cases ts with
    | nil =>
     cases us with
     | nil=>rfl
     | cons b us=>rw [rndA_nil,rndA_cons]at h2;simp at h2
    | cons a ts =>
     cases us with
     | nil=>rw [rndA_nil,rndA_cons]at h2;simp at h2
     | cons b us =>
      refine rndT_inj n (fun t u h1 h2 h3 h4 h5=>ih (rnd t).length h3 t u rfl h1 h2 h4 h5) (a :: ts) (b :: us) ht.2 hu.2 ?_ ?_ ?_
      ·rw [rndA_cons]at hn;rw [rndT_cons];simp only [List.length_cons]at hn ⊢;omega
      ·rw [rndA_cons]at hl;rw [rndT_cons];simp only [List.length_cons]at hl ⊢;omega
      ·rw [rndA_cons,rndA_cons]at h2;rw [rndT_cons,rndT_cons];injection h2 with _ h2;rw [h2]
open Classical in
noncomputable def prs (s:List UInt8):Option Tm:=if h:∃ t,Ok t∧rnd t=s∧s.length≤200 then some h.choose else none
theorem prs_some {s:List UInt8} {t:Tm}:prs s=some t↔Ok t∧rnd t=s∧s.length≤200:=by
 unfold prs
 constructor
 ·intro h
  split at h
  ·rename_i hx
   injection h with h
   rw [← h]
   exact hx.choose_spec
  ·cases h
 ·intro h
  have hx:∃ t,Ok t∧rnd t=s∧s.length≤200:=⟨t,h⟩
  rw [dif_pos hx]
  congr 1
  have hc:=hx.choose_spec
  exact rnd_inj _ _ _ rfl hc.1 h.1 (by rw [hc.2.1];omega) (by rw [hc.2.1,h.2.1])
theorem prs_rnd {t:Tm} (h:Ok t) (hl:(rnd t).length≤200):prs (rnd t)=some t:=prs_some.2 ⟨h,rfl,hl⟩
theorem prs_none {s:List UInt8}:prs s=none↔¬ ∃ t,Ok t∧rnd t=s∧s.length≤200:=by
 rw [Option.eq_none_iff_forall_ne_some]
 constructor
 ·rintro h ⟨t,ht⟩
  exact h t (prs_some.2 ht)
 ·intro h t ht
  exact h ⟨t,prs_some.1 ht⟩
def kd:Option Tm→Int
 | none=>0
 | some t=>(kind t:Int)
theorem kd_zero {o:Option Tm}:kd o=0↔o=none:=by
 cases o with
 | none=>simp [kd]
 | some t =>
  have:=kind_pos t
  simp only [kd,reduceCtorEq,iff_false]
  omega
theorem prs_long {s:List UInt8} (h:200 < s.length):prs s=none:=by
 rw [prs_none]
 rintro⟨t,_,_,h2⟩
 omega
theorem prs_nil:prs []=none:=by
 rw [prs_none]
 rintro⟨t,h1,h2,_⟩
 have:=rnd_pos t h1
 rw [h2]at this
 simp at this
theorem kindOf_f (s:List UInt8) (hs:s.length≤281474976710656) (k:Nat) (hk:4 * s.length + 60 < k):impl_kindOf.f k (B s)=some (kd (prs s)):=by
 unfold impl_kindOf.f
 obtain⟨x,hx,hg⟩:=termAt_good _ s rfl hs k hk
 rw [hx,Option.bind_some]
 by_cases h200:200 < s.length
 ·rw [if_pos (by rw [y24];omega),prs_long h200]
  rfl
 ·rw [if_neg (by rw [y24];omega)]
  by_cases hx2:x.2=(s.length:Int)
  ·rw [if_pos (by rw [y24];exact hx2)]
   rcases hg with rfl|⟨t,r,ht,hr,rfl⟩
   ·have:s=[]:=List.length_eq_zero_iff.1 (by simp only at hx2;omega)
    rw [this,prs_nil]
    rfl
   ·have hrl:=congrArg List.length hr
    rw [List.length_append]at hrl
    simp only at hx2
    have:r=[]:=List.length_eq_zero_iff.1 (by omega)
    rw [this,List.append_nil]at hr
    rw [hr,prs_rnd ht (by rw [← hr];omega)]
    rfl
  ·rw [if_neg (by rw [y24];exact hx2)]
   cases hp:prs s with
   | none=>rfl
   | some u =>
    exfalso
    obtain⟨h1,h2,h3⟩:=prs_some.1 hp
    have:=termAt_rnd _ u [] rfl h1 stop_nil (by rw [List.append_nil,h2];exact hs) k (by rw [List.append_nil,h2];exact hk)
    rw [List.append_nil,h2,hx]at this
    injection this with this
    exact hx2 (by rw [this])
end Go.Proofs.YtimhlficlhafbaaGreatDoor.QPrs
