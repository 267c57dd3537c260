-- Cut by prune.py, a program of this session, out of the texts of this claim: Lean checks it.
import Derived.Test.YtamjmldfifofbaaVppQRule
import Derived.Test.YtamjmldfifofbaaVppQLaws
import Derived.Test.YtamjmldfifofbaaVppPpx14
import Derived.Test.YtamjmldfifofbaaVppPpx16
import Derived.Test.YtamjmldfifofbaaVppPpx19
namespace Go.Proofs.Ytamjmldfifofbaa.QProgR
open Go.RowKit Go.Proofs.Ytamjmldfifofbaa.Pp Go.Proofs.YtamjmldfifofbaaW.PrintWords Go.Proofs.YtamjmldfifofbaaW.PrintLast Go.Proofs.Ytamjmldfifofbaa.QStr Go.Proofs.Ytamjmldfifofbaa.QGenR Go.Proofs.Ytamjmldfifofbaa.QRule
open Go.Proofs.Ytamjmldfifofbaa.QLaws (toS_f eqS_f)
abbrev LCon := S147
abbrev ICon := S80
abbrev LTy := S112
abbrev ITy := S78
abbrev LRl := S114
abbrev IRl := S84
def cvCon (a : LCon) : ICon := ⟨a.f0,a.f1⟩
def cvTy (a : LTy) : ITy := ⟨a.f0,a.f1.map cvCon⟩
def cvRl (a : LRl) : IRl := ⟨a.f0,a.f1,a.f2⟩
def mL {α : Type} (m : α → Nat) (xs : List α) : Nat := xs.length + (xs.map m).sum
theorem mL_mem {α : Type} (m : α → Nat) : ∀ (xs : List α) (a : α),a ∈ xs → m a ≤ (xs.map m).sum
 | [],a,h => by cases h
 | x :: r,a,h => by
  have ih := mL_mem m r a
  rw [List.map_cons,List.sum_cons]
  rcases List.mem_cons.1 h with rfl | h
  ·omega
  ·have := ih h
   omega
theorem mL_few {α : Type} (m : α → Nat) (xs : List α) (h : mL m xs ≤ 1048576) : FewL (fun a => m a ≤ 1048576) xs := by
 unfold mL at h
 exact ⟨by omega,fun a ha => by have := mL_mem m xs a ha; omega⟩
theorem gszm_l {α : Type} (l0 : Nat → List α → Int → Int → Option Int) (szE : Nat → α → Int → Option Int) (rdA : List α → Int → α)
  (h0 : ∀ k xs v i,l0 (k + 1) xs v i = if i < (xs.length : Int) then (if 0 ≤ i then ((szE k (rdA xs i) v).bind fun t => (if t < 0 then (some (-1)) else (l0 k xs t (wrap64 (i + 1))))) else (none)) else (some v))
  (hrd : ∀ (xs : List α) (i : Nat) (h : i < xs.length),rdA xs (i : Int) = xs[i]) (Rm : α → Prop) (m : α → Nat) (K : Nat)
  (hsz : ∀ a v k,Rm a → 0 ≤ v → v ≤ 1048576 → K < k → ∃ r,szE k a v = some r ∧ r ≤ v ∧ (0 ≤ r → r + (m a : Int) = v))
  (xs : List α) (hx : xs.length ≤ 281474976710656) (hr : ∀ a ∈ xs,Rm a) : ∀ (d i k : Nat) (v : Int),i + d = xs.length → d + K < k → 0 ≤ v → v ≤ 1048576 →
  ∃ r,l0 k xs v (i : Int) = some r ∧ r ≤ v ∧ (0 ≤ r → r + (((xs.drop i).map m).sum : Int) = v)
 | 0,i,k,v,hd,hk,g0,g1 => by
  obtain ⟨k,rfl⟩ : ∃ m,k = m + 1 := ⟨k - 1,by omega⟩
  refine ⟨v,by rw [h0,if_neg (by omega)],Int.le_refl _,fun _ => ?_⟩
  rw [List.drop_of_length_le (by omega)]
  show v + ((0 : Nat) : Int) = v
  omega
 | d + 1,i,k,v,hd,hk,g0,g1 => by
  obtain ⟨k,rfl⟩ : ∃ m,k = m + 1 := ⟨k - 1,by omega⟩
  have hlt : i < xs.length := by omega
  obtain ⟨r,hr0,hr1,hr2⟩ := hsz xs[i] v k (hr _ (List.getElem_mem hlt)) g0 g1 (by omega)
  rw [h0,if_pos (by omega),if_pos (by omega),hrd xs i hlt,hr0,Option.bind_some]
  by_cases h : r < 0
  ·rw [if_pos h]
   exact ⟨_,rfl,by omega,fun h => by omega⟩
  ·rw [if_neg h,step_i (by omega)]
   obtain ⟨q,hq,hq1,hq2⟩ := gszm_l l0 szE rdA h0 hrd Rm m K hsz xs hx hr d (i + 1) k r (by omega) (by omega) (by omega) (by omega)
   refine ⟨q,hq,by omega,fun h0 => ?_⟩
   have := hr2 (by omega)
   have := hq2 h0
   rw [List.drop_eq_getElem_cons hlt,List.map_cons,List.sum_cons]
   omega
theorem gszm {α : Type} (l0 : Nat → List α → Int → Int → Option Int) (szE : Nat → α → Int → Option Int) (rdA : List α → Int → α) (f : Nat → List α → Int → Option Int)
  (hf : ∀ k xs v,f k xs v = if (wrap64 (v - (xs.length : Int))) < 0 then (some (-1)) else (l0 k xs (wrap64 (v - (xs.length : Int))) 0))
  (h0 : ∀ k xs v i,l0 (k + 1) xs v i = if i < (xs.length : Int) then (if 0 ≤ i then ((szE k (rdA xs i) v).bind fun t => (if t < 0 then (some (-1)) else (l0 k xs t (wrap64 (i + 1))))) else (none)) else (some v))
  (hrd : ∀ (xs : List α) (i : Nat) (h : i < xs.length),rdA xs (i : Int) = xs[i]) (Rm : α → Prop) (m : α → Nat) (K : Nat)
  (hsz : ∀ a v k,Rm a → 0 ≤ v → v ≤ 1048576 → K < k → ∃ r,szE k a v = some r ∧ r ≤ v ∧ (0 ≤ r → r + (m a : Int) = v))
  (xs : List α) (hx : RoomL Rm xs) (v : Int) (g0 : 0 ≤ v) (g1 : v ≤ 1048576) (k : Nat) (hk : 1048577 + K < k) : ∃ r,f k xs v = some r ∧ r ≤ v ∧ (0 ≤ r → r + (mL m xs : Int) = v) := by
 obtain ⟨hx1,hx2⟩ := hx
 rw [hf,wrapS (by omega) (by omega)]
 by_cases h : v - (xs.length : Int) < 0
 ·rw [if_pos h]
  exact ⟨_,rfl,by omega,fun h => by omega⟩
 ·rw [if_neg h]
  obtain ⟨r,hr,hr1,hr2⟩ := gszm_l l0 szE rdA h0 hrd Rm m K hsz xs hx1 hx2 xs.length 0 k (v - (xs.length : Int)) (by omega) (by omega) (by omega) (by omega)
  rw [show (0 : Int) = ((0 : Nat) : Int) from rfl,hr]
  refine ⟨_,rfl,by omega,fun h0 => ?_⟩
  have := hr2 h0
  rw [List.drop_zero] at this
  unfold mL
  omega
theorem leftm (s : ByteArray) (hs : s.size ≤ 281474976710656) (v : Int) (h0 : 0 ≤ v) (h1 : v ≤ 1048576) (g : Int → Option Int) (n : Nat)
  (hg : ∀ u,0 ≤ u → u ≤ v → ∃ r,g u = some r ∧ r ≤ u ∧ (0 ≤ r → r + (n : Int) = u)) :
  ∃ r,(if (wrap64 (v - (s.size : Int))) < 0 then (some (-1)) else ((g (wrap64 (v - (s.size : Int)))).bind fun t => (if t < 0 then (some (-1)) else (some t)))) = some r ∧ r ≤ v ∧ (0 ≤ r → r + ((s.size + n : Nat) : Int) = v) := by
 rw [wrapS (by omega) (by omega)]
 by_cases h : v - (s.size : Int) < 0
 ·rw [if_pos h]
  exact ⟨_,rfl,by omega,fun h => by omega⟩
 ·rw [if_neg h]
  obtain ⟨r,h2,h3,h4⟩ := hg (v - (s.size : Int)) (by omega) (by omega)
  rw [h2,Option.bind_some]
  by_cases h5 : r < 0
  ·rw [if_pos h5]
   exact ⟨_,rfl,by omega,fun h => by omega⟩
  ·rw [if_neg h5]
   exact ⟨_,rfl,by omega,fun h => by have := h4 h; omega⟩
def RmS (xs : List ByteArray) : Prop := RoomL (fun s : ByteArray => s.size ≤ 281474976710656) xs
def mS (xs : List ByteArray) : Nat := mL ByteArray.size xs
theorem szS_l (xs : List ByteArray) (hx : xs.length ≤ 281474976710656) (hs : ∀ s ∈ xs,s.size ≤ 281474976710656) : ∀ (d i k : Nat) (v : Int),i + d = xs.length → d < k → 0 ≤ v → v ≤ 1048576 →
  ∃ r,laws_szStringS.l0 k xs v (i : Int) = some r ∧ r ≤ v ∧ (0 ≤ r → r + (((xs.drop i).map ByteArray.size).sum : Int) = v)
 | 0,i,k,v,hd,hk,h0,h1 => by
  obtain ⟨k,rfl⟩ : ∃ m,k = m + 1 := ⟨k - 1,by omega⟩
  refine ⟨v,by rw [laws_szStringS.l0,if_neg (by omega)],Int.le_refl _,fun _ => ?_⟩
  rw [List.drop_of_length_le (by omega)]
  show v + ((0 : Nat) : Int) = v
  omega
 | d + 1,i,k,v,hd,hk,h0,h1 => by
  obtain ⟨k,rfl⟩ : ∃ m,k = m + 1 := ⟨k - 1,by omega⟩
  have hlt : i < xs.length := by omega
  have hsz := hs _ (List.getElem_mem hlt)
  rw [laws_szStringS.l0,if_pos (by omega),if_pos (by omega),rdOf_get xs i hlt,wrapS (n := v - (xs[i].size : Int)) (by omega) (by omega),step_i (by omega)]
  by_cases hv : v - (xs[i].size : Int) < 0
  ·rw [if_pos hv]
   exact ⟨_,rfl,by omega,fun h => by omega⟩
  ·rw [if_neg hv]
   obtain ⟨r,hr,hr1,hr2⟩ := szS_l xs hx hs d (i + 1) k (v - (xs[i].size : Int)) (by omega) (by omega) (by omega) (by omega)
   refine ⟨r,hr,by omega,fun h0 => ?_⟩
   have := hr2 h0
   rw [List.drop_eq_getElem_cons hlt,List.map_cons,List.sum_cons]
   omega
theorem szS_f (xs : List ByteArray) (hx : RmS xs) (v : Int) (h0 : 0 ≤ v) (h1 : v ≤ 1048576) (k : Nat) (hk : 1048576 < k) : ∃ r,laws_szStringS.f k xs v = some r ∧ r ≤ v ∧ (0 ≤ r → r + (mS xs : Int) = v) := by
 obtain ⟨hx1,hx2⟩ := hx
 unfold laws_szStringS.f
 rw [wrapS (by omega) (by omega)]
 by_cases h : v - (xs.length : Int) < 0
 ·rw [if_pos h]
  exact ⟨_,rfl,by omega,fun h => by omega⟩
 ·rw [if_neg h]
  obtain ⟨r,hr,hr1,hr2⟩ := szS_l xs hx1 hx2 xs.length 0 k (v - (xs.length : Int)) (by omega) (by omega) (by omega) (by omega)
  rw [show (0 : Int) = ((0 : Nat) : Int) from rfl,hr]
  refine ⟨r,rfl,by omega,fun h0 => ?_⟩
  have := hr2 h0
  rw [List.drop_zero] at this
  unfold mS mL
  omega
def RmCon (a : LCon) : Prop := a.f0.size ≤ 281474976710656 ∧ RmS a.f1
def mCon (a : LCon) : Nat := a.f0.size + mS a.f1
def mIC (a : ICon) : Nat := a.f0.size + mS a.f1
def RmTy (a : LTy) : Prop := a.f0.size ≤ 281474976710656 ∧ RoomL RmCon a.f1
def mTy (a : LTy) : Nat := a.f0.size + mL mCon a.f1
def mIT (a : ITy) : Nat := a.f0.size + mL mIC a.f1
def RmRl (a : LRl) : Prop := a.f0.size ≤ 281474976710656 ∧ RmS a.f1
def mRl (a : LRl) : Nat := a.f0.size + mS a.f1
def mIR (a : IRl) : Nat := a.f0.size + mS a.f1
theorem szCon_f (a : LCon) (v : Int) (k : Nat) (ha : RmCon a) (h0 : 0 ≤ v) (h1 : v ≤ 1048576) (hk : 1048576 < k) : ∃ r,laws_szCon.f k a.f0 a.f1 v = some r ∧ r ≤ v ∧ (0 ≤ r → r + (mCon a : Int) = v) :=
 leftm a.f0 ha.1 v h0 h1 (fun u => laws_szStringS.f k a.f1 u) (mS a.f1) (fun u g0 g1 => szS_f a.f1 ha.2 u g0 (by omega) k hk)
theorem szConS_f (xs : List LCon) (hx : RoomL RmCon xs) (v : Int) (h0 : 0 ≤ v) (h1 : v ≤ 1048576) (k : Nat) (hk : 2097153 < k) : ∃ r,laws_szConS.f k xs v = some r ∧ r ≤ v ∧ (0 ≤ r → r + (mL mCon xs : Int) = v) :=
 gszm laws_szConS.l0 (fun k (a : LCon) v => laws_szCon.f k a.f0 a.f1 v) rd_T147 laws_szConS.f (fun _ _ _ => rfl) (fun _ _ _ _ => rfl) (getD_at _) RmCon mCon 1048576 (fun a v k ha h0 h1 hk => szCon_f a v k ha h0 h1 hk) xs hx v h0 h1 k (by omega)
theorem szTy_f (a : LTy) (v : Int) (k : Nat) (ha : RmTy a) (h0 : 0 ≤ v) (h1 : v ≤ 1048576) (hk : 2097153 < k) : ∃ r,laws_szTypeDecl.f k a.f0 a.f1 v = some r ∧ r ≤ v ∧ (0 ≤ r → r + (mTy a : Int) = v) :=
 leftm a.f0 ha.1 v h0 h1 (fun u => laws_szConS.f k a.f1 u) (mL mCon a.f1) (fun u g0 g1 => szConS_f a.f1 ha.2 u g0 (by omega) k hk)
theorem szTyS_f (xs : List LTy) (hx : RoomL RmTy xs) (v : Int) (h0 : 0 ≤ v) (h1 : v ≤ 1048576) (k : Nat) (hk : 3145730 < k) : ∃ r,laws_szTypeDeclS.f k xs v = some r ∧ r ≤ v ∧ (0 ≤ r → r + (mL mTy xs : Int) = v) :=
 gszm laws_szTypeDeclS.l0 (fun k (a : LTy) v => laws_szTypeDecl.f k a.f0 a.f1 v) rd_T112 laws_szTypeDeclS.f (fun _ _ _ => rfl) (fun _ _ _ _ => rfl) (getD_at _) RmTy mTy 2097153 (fun a v k ha h0 h1 hk => szTy_f a v k ha h0 h1 hk) xs hx v h0 h1 k (by omega)
theorem szRl_f (a : LRl) (v : Int) (k : Nat) (ha : RmRl a) (h0 : 0 ≤ v) (h1 : v ≤ 1048576) (hk : 1048576 < k) : ∃ r,laws_szRelDecl.f k a.f0 a.f1 a.f2 v = some r ∧ r ≤ v ∧ (0 ≤ r → r + (mRl a : Int) = v) :=
 leftm a.f0 ha.1 v h0 h1 (fun u => laws_szStringS.f k a.f1 u) (mS a.f1) (fun u g0 g1 => szS_f a.f1 ha.2 u g0 (by omega) k hk)
theorem szRlS_f (xs : List LRl) (hx : RoomL RmRl xs) (v : Int) (h0 : 0 ≤ v) (h1 : v ≤ 1048576) (k : Nat) (hk : 2097153 < k) : ∃ r,laws_szRelDeclS.f k xs v = some r ∧ r ≤ v ∧ (0 ≤ r → r + (mL mRl xs : Int) = v) :=
 gszm laws_szRelDeclS.l0 (fun k (a : LRl) v => laws_szRelDecl.f k a.f0 a.f1 a.f2 v) rd_T114 laws_szRelDeclS.f (fun _ _ _ => rfl) (fun _ _ _ _ => rfl) (getD_at _) RmRl mRl 1048576 (fun a v k ha h0 h1 hk => szRl_f a v k ha h0 h1 hk) xs hx v h0 h1 k (by omega)
theorem toCon_f (a : LCon) (k : Nat) (ha : mCon a ≤ 1048576) (hk : 1048576 < k) : laws_toCon.f k a.f0 a.f1 = some (a.f0,a.f1) := by
 unfold mCon mS mL at ha
 unfold laws_toCon.f
 rw [toS_f a.f1 (by omega) k (by omega),Option.bind_some]
theorem toConS_f (xs : List LCon) (hx : FewL (fun a => mCon a ≤ 1048576) xs) (k : Nat) (hk : 2097153 < k) : laws_toConS.f k xs = some (xs.map cvCon) := by
 have h1 := hx.1
 unfold laws_toConS.f
 rw [if_pos (by omega),if_pos (by omega)]
 exact gto0 laws_toConS.l0 (fun k (a : LCon) => laws_toCon.f k a.f0 a.f1) rd_T147 (fun bt => (⟨bt.1,bt.2⟩ : ICon)) (fun _ _ _ _ => rfl) (getD_at _) (fun a => mCon a ≤ 1048576) cvCon 1048576 (fun a k ha hk => ⟨_,toCon_f a k ha hk,rfl⟩) xs hx _ k (by omega)
theorem eqCon_f (b : ICon) (k : Nat) (hb : mIC b ≤ 1048576) (hk : 1048576 < k) : laws_eqCon.f k b.f0 b.f1 b.f0 b.f1 = some true := by
 unfold mIC mS mL at hb
 unfold laws_eqCon.f
 rw [if_pos rfl,eqS_f b.f1 (by omega) k (by omega),Option.bind_some,if_pos rfl]
theorem eqConS_f (xs : List ICon) (hx : FewL (fun a => mIC a ≤ 1048576) xs) (k : Nat) (hk : 2097153 < k) : laws_eqConS.f k xs xs = some true := by
 unfold laws_eqConS.f
 rw [if_pos rfl]
 exact geq0 laws_eqConS.l0 (fun k (a b : ICon) => laws_eqCon.f k a.f0 a.f1 b.f0 b.f1) y22 (fun _ _ _ _ => rfl) (getD_at _) (fun a => mIC a ≤ 1048576) 1048576 (fun b k hb hk => eqCon_f b k hb hk) xs hx k (by omega)
theorem toTy_f (a : LTy) (k : Nat) (ha : mTy a ≤ 1048576) (hk : 2097153 < k) : laws_toTypeDecl.f k a.f0 a.f1 = some (a.f0,a.f1.map cvCon) := by
 unfold mTy at ha
 unfold laws_toTypeDecl.f
 rw [toConS_f a.f1 (mL_few _ _ (by omega)) k hk,Option.bind_some]
theorem toTyS_f (xs : List LTy) (hx : FewL (fun a => mTy a ≤ 1048576) xs) (k : Nat) (hk : 3145730 < k) : laws_toTypeDeclS.f k xs = some (xs.map cvTy) := by
 have h1 := hx.1
 unfold laws_toTypeDeclS.f
 rw [if_pos (by omega),if_pos (by omega)]
 exact gto0 laws_toTypeDeclS.l0 (fun k (a : LTy) => laws_toTypeDecl.f k a.f0 a.f1) rd_T112 (fun bt => (⟨bt.1,bt.2⟩ : ITy)) (fun _ _ _ _ => rfl) (getD_at _) (fun a => mTy a ≤ 1048576) cvTy 2097153 (fun a k ha hk => ⟨_,toTy_f a k ha hk,rfl⟩) xs hx _ k (by omega)
theorem eqTy_f (b : ITy) (k : Nat) (hb : mIT b ≤ 1048576) (hk : 2097153 < k) : laws_eqTypeDecl.f k b.f0 b.f1 b.f0 b.f1 = some true := by
 unfold mIT at hb
 unfold laws_eqTypeDecl.f
 rw [if_pos rfl,eqConS_f b.f1 (mL_few _ _ (by omega)) k hk,Option.bind_some,if_pos rfl]
theorem eqTyS_f (xs : List ITy) (hx : FewL (fun a => mIT a ≤ 1048576) xs) (k : Nat) (hk : 3145730 < k) : laws_eqTypeDeclS.f k xs xs = some true := by
 unfold laws_eqTypeDeclS.f
 rw [if_pos rfl]
 exact geq0 laws_eqTypeDeclS.l0 (fun k (a b : ITy) => laws_eqTypeDecl.f k a.f0 a.f1 b.f0 b.f1) y21 (fun _ _ _ _ => rfl) (getD_at _) (fun a => mIT a ≤ 1048576) 2097153 (fun b k hb hk => eqTy_f b k hb hk) xs hx k (by omega)
theorem toRl_f (a : LRl) (k : Nat) (ha : mRl a ≤ 1048576) (hk : 1048576 < k) : laws_toRelDecl.f k a.f0 a.f1 a.f2 = some (a.f0,a.f1,a.f2) := by
 unfold mRl mS mL at ha
 unfold laws_toRelDecl.f
 rw [toS_f a.f1 (by omega) k (by omega),Option.bind_some]
theorem toRlS_f (xs : List LRl) (hx : FewL (fun a => mRl a ≤ 1048576) xs) (k : Nat) (hk : 2097153 < k) : laws_toRelDeclS.f k xs = some (xs.map cvRl) := by
 have h1 := hx.1
 unfold laws_toRelDeclS.f
 rw [if_pos (by omega),if_pos (by omega)]
 exact gto0 laws_toRelDeclS.l0 (fun k (a : LRl) => laws_toRelDecl.f k a.f0 a.f1 a.f2) rd_T114 (fun bt => (⟨bt.1,bt.2.1,bt.2.2⟩ : IRl)) (fun _ _ _ _ => rfl) (getD_at _) (fun a => mRl a ≤ 1048576) cvRl 1048576 (fun a k ha hk => ⟨_,toRl_f a k ha hk,rfl⟩) xs hx _ k (by omega)
theorem eqRl_f (b : IRl) (k : Nat) (hb : mIR b ≤ 1048576) (hk : 1048576 < k) : laws_eqRelDecl.f k b.f0 b.f1 b.f2 b.f0 b.f1 b.f2 = some true := by
 unfold mIR mS mL at hb
 unfold laws_eqRelDecl.f
 rw [if_pos rfl,eqS_f b.f1 (by omega) k (by omega),Option.bind_some,if_pos rfl,if_pos rfl]
theorem eqRlS_f (xs : List IRl) (hx : FewL (fun a => mIR a ≤ 1048576) xs) (k : Nat) (hk : 2097153 < k) : laws_eqRelDeclS.f k xs xs = some true := by
 unfold laws_eqRelDeclS.f
 rw [if_pos rfl]
 exact geq0 laws_eqRelDeclS.l0 (fun k (a b : IRl) => laws_eqRelDecl.f k a.f0 a.f1 a.f2 b.f0 b.f1 b.f2) y23 (fun _ _ _ _ => rfl) (getD_at _) (fun a => mIR a ≤ 1048576) 1048576 (fun b k hb hk => eqRl_f b k hb hk) xs hx k (by omega)
/-- What is weighed and not too much. -/
def FwP (t : List LTy) (r : List LRl) (u : List LRu) : Prop := mL mTy t + mL mRl r ≤ 1048576 ∧ FewL FwRu u
theorem szP_f (t : List LTy) (r : List LRl) (u : List LRu) (ht : RoomL RmTy t) (hr : RoomL RmRl r) (hu : RoomL RmRu u) (k : Nat) (hk : 4000000 < k) : ∃ q,laws_szProg.f k t r u 1048576 = some q ∧ (0 ≤ q → FwP t r u) := by
 obtain ⟨a,ha,ha1,ha2⟩ := szTyS_f t ht 1048576 (by omega) (by omega) k (by omega)
 unfold laws_szProg.f
 rw [ha,Option.bind_some]
 by_cases h : a < 0
 ·rw [if_pos h]
  exact ⟨_,rfl,fun h => by omega⟩
 ·rw [if_neg h]
  obtain ⟨b,hb,hb1,hb2⟩ := szRlS_f r hr a (by omega) (by omega) k (by omega)
  rw [hb,Option.bind_some]
  by_cases h' : b < 0
  ·rw [if_pos h']
   exact ⟨_,rfl,fun h => by omega⟩
  ·rw [if_neg h']
   obtain ⟨c,hc,hc1,hc2⟩ := szRuS_f u hu b (by omega) (by omega) k (by omega)
   rw [hc,Option.bind_some]
   have e1 := ha2 (by omega)
   have e2 := hb2 (by omega)
   by_cases h2 : c < 0
   ·rw [if_pos h2]
    exact ⟨_,rfl,fun h => by omega⟩
   ·rw [if_neg h2]
    exact ⟨_,rfl,fun _ => ⟨by omega,hc2 (by omega)⟩⟩
theorem toP_f (t : List LTy) (r : List LRl) (u : List LRu) (h : FwP t r u) (k : Nat) (hk : 4000000 < k) : laws_toProg.f k t r u = some (t.map cvTy,r.map cvRl,u.map cvRu) := by
 obtain ⟨h1,h2⟩ := h
 unfold laws_toProg.f
 rw [toTyS_f t (mL_few _ _ (by omega)) k (by omega),Option.bind_some,toRlS_f r (mL_few _ _ (by omega)) k (by omega),Option.bind_some,toRuS_f u h2 k (by omega),Option.bind_some]
theorem mS_le (xs : List ByteArray) : xs.length ≤ mS xs := Nat.le_add_right _ _
theorem mIT_cv (a : LTy) : mIT (cvTy a) = mTy a := by
 unfold mIT mTy mL cvTy
 rw [List.length_map,List.map_map]
 rfl
theorem mIR_cv (a : LRl) : mIR (cvRl a) = mRl a := rfl
theorem eqP_f (t : List LTy) (r : List LRl) (u : List LRu) (h : FwP t r u) (k : Nat) (hk : 4000000 < k) : laws_eqProg.f k (t.map cvTy) (r.map cvRl) (u.map cvRu) (t.map cvTy) (r.map cvRl) (u.map cvRu) = some true := by
 obtain ⟨h1,h2⟩ := h
 unfold laws_eqProg.f
 rw [eqTyS_f _ (few_map (fun a (ha : mTy a ≤ 1048576) => by rw [mIT_cv]; exact ha) (mL_few mTy t (by omega))) k (by omega),Option.bind_some,if_pos rfl,eqRlS_f _ (few_map (fun a (ha : mRl a ≤ 1048576) => by rw [mIR_cv]; exact ha) (mL_few mRl r (by omega))) k (by omega),Option.bind_some,if_pos rfl,eqRuS_f _ (few_map fi_ru h2) k (by omega),Option.bind_some,if_pos rfl]
end Go.Proofs.Ytamjmldfifofbaa.QProgR
