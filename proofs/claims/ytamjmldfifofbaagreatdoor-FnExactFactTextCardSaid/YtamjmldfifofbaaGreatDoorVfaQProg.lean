-- Cut by prune.py, a program of this session, out of the texts of this claim: Lean checks it.
import Derived.Test.YtamjmldfifofbaaGreatDoorVfaQGen
import Derived.Test.YtamjmldfifofbaaGreatDoorVfaPfx0
import Derived.Test.YtamjmldfifofbaaGreatDoorVfaPfx9
import Derived.Test.YtamjmldfifofbaaGreatDoorVfaPfx15
namespace Go.Proofs.YtamjmldfifofbaaGreatDoor.QProg
open Go.RowKit Go.Proofs.YtamjmldfifofbaaGreatDoor.Pf Go.Proofs.YtamjmldfifofbaaGreatDoorW.PrintWords Go.Proofs.YtamjmldfifofbaaGreatDoorW.PrintLast Go.Proofs.YtamjmldfifofbaaGreatDoor.QStr Go.Proofs.YtamjmldfifofbaaGreatDoor.QLaws Go.Proofs.YtamjmldfifofbaaGreatDoor.QLaw2 Go.Proofs.YtamjmldfifofbaaGreatDoor.QGen
abbrev LCon := S124
abbrev ICon := S131
abbrev LTy := S63
abbrev ITy := S77
abbrev LRl := S65
abbrev IRl := S51
abbrev LEx := S127
abbrev IEx := S133
abbrev LLt := S70
abbrev ILt := S81
abbrev LRu := S73
abbrev IRu := S84
theorem getD_at {α : Type} (z : α) (xs : List α) (i : Nat) (h : i < xs.length) : xs.getD ((i : Int)).toNat z = xs[i] := by
 rw [show ((i : Int)).toNat = i from rfl,List.getD_eq_getElem?_getD,List.getElem?_eq_getElem h]
 rfl
def cvCon (a : LCon) : ICon := ⟨a.f0,a.f1⟩
def cvTy (a : LTy) : ITy := ⟨a.f0,a.f1.map cvCon⟩
def cvRl (a : LRl) : IRl := ⟨a.f0,a.f1,a.f2⟩
def cvEx (a : LEx) : IEx := ⟨a.f0,a.f1,a.f2⟩
def cvLt (a : LLt) : ILt := ⟨a.f0,a.f1,a.f2⟩
def cvRu (a : LRu) : IRu := ⟨a.f0.map cvEx,cvLt a.f1,a.f2.map cvLt⟩
def FewN (xs : List Int) : Prop := xs.length ≤ 1048576
def RmN (xs : List Int) : Prop := xs.length ≤ 281474976710656
def RmCon (a : LCon) : Prop := a.f0.size ≤ 281474976710656 ∧ Room a.f1
def FwCon (a : LCon) : Prop := a.f0.size ≤ 1048576 ∧ Few a.f1
def FiCon (a : ICon) : Prop := a.f0.size ≤ 1048576 ∧ Few a.f1
def RmTy (a : LTy) : Prop := a.f0.size ≤ 281474976710656 ∧ RoomL RmCon a.f1
def FwTy (a : LTy) : Prop := a.f0.size ≤ 1048576 ∧ FewL FwCon a.f1
def FiTy (a : ITy) : Prop := a.f0.size ≤ 1048576 ∧ FewL FiCon a.f1
def RmRl (a : LRl) : Prop := a.f0.size ≤ 281474976710656 ∧ Room a.f1
def FwRl (a : LRl) : Prop := a.f0.size ≤ 1048576 ∧ Few a.f1
def FiRl (a : IRl) : Prop := a.f0.size ≤ 1048576 ∧ Few a.f1
def RmEx (a : LEx) : Prop := a.f1.size ≤ 281474976710656 ∧ RmN a.f2
def FwEx (a : LEx) : Prop := a.f1.size ≤ 1048576 ∧ FewN a.f2
def FiEx (a : IEx) : Prop := a.f1.size ≤ 1048576 ∧ FewN a.f2
def RmLt (a : LLt) : Prop := a.f1.size ≤ 281474976710656 ∧ RmN a.f2
def FwLt (a : LLt) : Prop := a.f1.size ≤ 1048576 ∧ FewN a.f2
def FiLt (a : ILt) : Prop := a.f1.size ≤ 1048576 ∧ FewN a.f2
def RmRu (a : LRu) : Prop := RoomL RmEx a.f0 ∧ RmLt a.f1 ∧ RoomL RmLt a.f2
def FwRu (a : LRu) : Prop := FewL FwEx a.f0 ∧ FwLt a.f1 ∧ FewL FwLt a.f2
def FiRu (a : IRu) : Prop := FewL FiEx a.f0 ∧ FiLt a.f1 ∧ FewL FiLt a.f2
theorem szN_f (xs : List Int) (hx : RmN xs) (v : Int) (h0 : 0 ≤ v) (h1 : v ≤ 1048576) : ∃ r,laws_szIntS.f xs v = some r ∧ r ≤ v ∧ (0 ≤ r → FewN xs) := by
 unfold RmN at hx
 unfold laws_szIntS.f FewN
 rw [wrapS (by omega) (by omega)]
 by_cases h : v - (xs.length : Int) < 0
 ·rw [if_pos h]
  exact ⟨_,rfl,by omega,fun h => by omega⟩
 ·rw [if_neg h]
  exact ⟨_,rfl,by omega,fun _ => by omega⟩
theorem rdN_get (xs : List Int) (i : Nat) (h : i < xs.length) : rd xs (i : Int) = xs[i] := getD_at 0 xs i h
theorem toN_l (xs : List Int) (hx : FewN xs) : ∀ (d i k : Nat),i + d = xs.length → d < k → laws_toIntS.l0 k xs (xs.take i ++ List.replicate d 0) (i : Int) = some xs
 | 0,i,k,hd,hk => by
  obtain ⟨k,rfl⟩ : ∃ m,k = m + 1 := ⟨k - 1,by omega⟩
  rw [laws_toIntS.l0,if_neg (by omega),List.replicate_zero,List.append_nil,List.take_of_length_le (by omega)]
 | d + 1,i,k,hd,hk => by
  obtain ⟨k,rfl⟩ : ∃ m,k = m + 1 := ⟨k - 1,by omega⟩
  have hlt : i < xs.length := by omega
  have hx1 : xs.length ≤ 1048576 := hx
  have hs := gset (fun a : Int => a) xs i hlt d 0
  rw [List.map_id' (xs.take i),List.map_id' (xs.take (i + 1))] at hs
  rw [laws_toIntS.l0,if_pos (by omega),if_pos (by omega),if_pos (by simp only [List.length_append,List.length_take,List.length_replicate]; omega),rdN_get xs i hlt,show ((i : Int)).toNat = i from rfl,hs,step_i (by omega),toN_l xs hx d (i + 1) k (by omega) (by omega)]
theorem toN_f (xs : List Int) (hx : FewN xs) (k : Nat) (hk : 1048576 < k) : laws_toIntS.f k xs = some xs := by
 have hx1 : xs.length ≤ 1048576 := hx
 unfold laws_toIntS.f
 rw [if_pos (by omega),if_pos (by omega)]
 have := toN_l xs hx xs.length 0 k (by omega) (by omega)
 simpa using this
theorem eqN_l (xs : List Int) (hx : FewN xs) : ∀ (d i k : Nat),i + d = xs.length → d < k → laws_eqIntS.l0 k xs xs (i : Int) = some true
 | 0,i,k,hd,hk => by
  obtain ⟨k,rfl⟩ : ∃ m,k = m + 1 := ⟨k - 1,by omega⟩
  rw [laws_eqIntS.l0,if_neg (by omega)]
 | d + 1,i,k,hd,hk => by
  obtain ⟨k,rfl⟩ : ∃ m,k = m + 1 := ⟨k - 1,by omega⟩
  have hx1 : xs.length ≤ 1048576 := hx
  rw [laws_eqIntS.l0,if_pos (by omega),if_pos (by omega),if_pos (by omega),if_pos rfl,step_i (by omega),eqN_l xs hx d (i + 1) k (by omega) (by omega)]
theorem eqN_f (xs : List Int) (hx : FewN xs) (k : Nat) (hk : 1048576 < k) : laws_eqIntS.f k xs xs = some true := by
 have hx1 : xs.length ≤ 1048576 := hx
 unfold laws_eqIntS.f
 rw [if_pos rfl]
 exact eqN_l xs hx xs.length 0 k (by omega) (by omega)
theorem left_ (s : ByteArray) (hs : s.size ≤ 281474976710656) (v : Int) (h0 : 0 ≤ v) (h1 : v ≤ 1048576) (g : Int → Option Int) (P : Prop)
  (hg : ∀ u,0 ≤ u → u ≤ v → ∃ r,g u = some r ∧ r ≤ u ∧ (0 ≤ r → P)) :
  ∃ r,(if (wrap64 (v - (s.size : Int))) < 0 then (some (-1)) else ((g (wrap64 (v - (s.size : Int)))).bind fun t => (if t < 0 then (some (-1)) else (some t)))) = some r ∧ r ≤ v ∧ (0 ≤ r → s.size ≤ 1048576 ∧ P) := by
 rw [wrapS (by omega) (by omega)]
 by_cases h : v - (s.size : Int) < 0
 ·rw [if_pos h]
  exact ⟨_,rfl,by omega,fun h => by omega⟩
 ·rw [if_neg h]
  obtain ⟨r,h2,h3,h4⟩ := hg (v - (s.size : Int)) (by omega) (by omega)
  rw [h2,Option.bind_some]
  by_cases h5 : r < 0
  ·rw [if_pos h5]
   exact ⟨_,rfl,by omega,fun h => by omega⟩
  ·rw [if_neg h5]
   exact ⟨_,rfl,by omega,fun h => ⟨by omega,h4 h⟩⟩
/-- One behind another. -/
theorem then_ (x : Option Int) (v : Int) (P Q : Prop) (g : Int → Option Int) (hx : ∃ r,x = some r ∧ r ≤ v ∧ (0 ≤ r → P))
  (hg : ∀ u,0 ≤ u → u ≤ v → ∃ r,g u = some r ∧ r ≤ u ∧ (0 ≤ r → Q)) (h0 : 0 ≤ v) : ∃ r,(x.bind fun t => (if t < 0 then (some (-1)) else (g t))) = some r ∧ r ≤ v ∧ (0 ≤ r → P ∧ Q) := by
 obtain ⟨r,rfl,h1,h2⟩ := hx
 rw [Option.bind_some]
 by_cases h5 : r < 0
 ·rw [if_pos h5]
  exact ⟨_,rfl,by omega,fun h => by omega⟩
 ·rw [if_neg h5]
  obtain ⟨q,h3,h4,h6⟩ := hg r (by omega) h1
  exact ⟨q,h3,by omega,fun h => ⟨h2 (by omega),h6 h⟩⟩
theorem last_ (x : Option Int) (v : Int) (P : Prop) (hx : ∃ r,x = some r ∧ r ≤ v ∧ (0 ≤ r → P)) (h0 : 0 ≤ v) : ∃ r,(x.bind fun t => (if t < 0 then (some (-1)) else (some t))) = some r ∧ r ≤ v ∧ (0 ≤ r → P) := by
 obtain ⟨r,h1,h2,h3⟩ := then_ x v P True (fun t => some t) hx (fun u h0 _ => ⟨u,rfl,Int.le_refl _,fun _ => trivial⟩) h0
 exact ⟨r,h1,h2,fun h => (h3 h).1⟩
theorem szCon_f (a : LCon) (v : Int) (k : Nat) (ha : RmCon a) (h0 : 0 ≤ v) (h1 : v ≤ 1048576) (hk : 1048576 < k) : ∃ r,laws_szCon.f k a.f0 a.f1 v = some r ∧ r ≤ v ∧ (0 ≤ r → FwCon a) :=
 left_ a.f0 ha.1 v h0 h1 (fun u => laws_szStringS.f k a.f1 u) (Few a.f1) (fun u g0 g1 => szS_g a.f1 ha.2 u g0 (by omega) k hk)
theorem szConS_f (xs : List LCon) (hx : RoomL RmCon xs) (v : Int) (h0 : 0 ≤ v) (h1 : v ≤ 1048576) (k : Nat) (hk : 2097153 < k) : ∃ r,laws_szConS.f k xs v = some r ∧ r ≤ v ∧ (0 ≤ r → FewL FwCon xs) :=
 gsz laws_szConS.l0 (fun k (a : LCon) v => laws_szCon.f k a.f0 a.f1 v) rd_T124 laws_szConS.f (fun _ _ _ => rfl) (fun _ _ _ _ => rfl) (getD_at _) RmCon FwCon 1048576 (fun a v k ha => szCon_f a v k ha) xs hx v h0 h1 k (by omega)
theorem toCon_f (a : LCon) (k : Nat) (ha : FwCon a) (hk : 1048576 < k) : laws_toCon.f k a.f0 a.f1 = some (a.f0,a.f1) := by
 have h1 := ha.2.1
 unfold laws_toCon.f
 rw [toS_f a.f1 (by omega) k (by omega),Option.bind_some]
theorem toConS_f (xs : List LCon) (hx : FewL FwCon xs) (k : Nat) (hk : 2097153 < k) : laws_toConS.f k xs = some (xs.map cvCon) := by
 have h1 := hx.1
 unfold laws_toConS.f
 rw [if_pos (by omega),if_pos (by omega)]
 exact gto0 laws_toConS.l0 (fun k (a : LCon) => laws_toCon.f k a.f0 a.f1) rd_T124 (fun bt => (⟨bt.1,bt.2⟩ : ICon)) (fun _ _ _ _ => rfl) (getD_at _) FwCon cvCon 1048576 (fun a k ha hk => ⟨_,toCon_f a k ha hk,rfl⟩) xs hx _ k (by omega)
theorem eqCon_f (b : ICon) (k : Nat) (hb : FiCon b) (hk : 1048576 < k) : laws_eqCon.f k b.f0 b.f1 b.f0 b.f1 = some true := by
 have h1 := hb.2.1
 unfold laws_eqCon.f
 rw [if_pos rfl,eqS_f b.f1 (by omega) k (by omega),Option.bind_some,if_pos rfl]
theorem eqConS_f (xs : List ICon) (hx : FewL FiCon xs) (k : Nat) (hk : 2097153 < k) : laws_eqConS.f k xs xs = some true := by
 unfold laws_eqConS.f
 rw [if_pos rfl]
 exact geq0 laws_eqConS.l0 (fun k (a b : ICon) => laws_eqCon.f k a.f0 a.f1 b.f0 b.f1) rd_T131 (fun _ _ _ _ => rfl) (getD_at _) FiCon 1048576 (fun b k hb hk => eqCon_f b k hb hk) xs hx k (by omega)
theorem szTy_f (a : LTy) (v : Int) (k : Nat) (ha : RmTy a) (h0 : 0 ≤ v) (h1 : v ≤ 1048576) (hk : 2097153 < k) : ∃ r,laws_szTypeDecl.f k a.f0 a.f1 v = some r ∧ r ≤ v ∧ (0 ≤ r → FwTy a) :=
 left_ a.f0 ha.1 v h0 h1 (fun u => laws_szConS.f k a.f1 u) (FewL FwCon a.f1) (fun u g0 g1 => szConS_f a.f1 ha.2 u g0 (by omega) k hk)
theorem szTyS_f (xs : List LTy) (hx : RoomL RmTy xs) (v : Int) (h0 : 0 ≤ v) (h1 : v ≤ 1048576) (k : Nat) (hk : 3145730 < k) : ∃ r,laws_szTypeDeclS.f k xs v = some r ∧ r ≤ v ∧ (0 ≤ r → FewL FwTy xs) :=
 gsz laws_szTypeDeclS.l0 (fun k (a : LTy) v => laws_szTypeDecl.f k a.f0 a.f1 v) rd_T63 laws_szTypeDeclS.f (fun _ _ _ => rfl) (fun _ _ _ _ => rfl) (getD_at _) RmTy FwTy 2097153 (fun a v k ha => szTy_f a v k ha) xs hx v h0 h1 k (by omega)
theorem toTy_f (a : LTy) (k : Nat) (ha : FwTy a) (hk : 2097153 < k) : laws_toTypeDecl.f k a.f0 a.f1 = some (a.f0,a.f1.map cvCon) := by
 unfold laws_toTypeDecl.f
 rw [toConS_f a.f1 ha.2 k (by omega),Option.bind_some]
theorem toTyS_f (xs : List LTy) (hx : FewL FwTy xs) (k : Nat) (hk : 3145730 < k) : laws_toTypeDeclS.f k xs = some (xs.map cvTy) := by
 have h1 := hx.1
 unfold laws_toTypeDeclS.f
 rw [if_pos (by omega),if_pos (by omega)]
 exact gto0 laws_toTypeDeclS.l0 (fun k (a : LTy) => laws_toTypeDecl.f k a.f0 a.f1) rd_T63 (fun bt => (⟨bt.1,bt.2⟩ : ITy)) (fun _ _ _ _ => rfl) (getD_at _) FwTy cvTy 2097153 (fun a k ha hk => ⟨_,toTy_f a k ha hk,rfl⟩) xs hx _ k (by omega)
theorem eqTy_f (b : ITy) (k : Nat) (hb : FiTy b) (hk : 2097153 < k) : laws_eqTypeDecl.f k b.f0 b.f1 b.f0 b.f1 = some true := by
 unfold laws_eqTypeDecl.f
 rw [if_pos rfl,eqConS_f b.f1 hb.2 k (by omega),Option.bind_some,if_pos rfl]
theorem eqTyS_f (xs : List ITy) (hx : FewL FiTy xs) (k : Nat) (hk : 3145730 < k) : laws_eqTypeDeclS.f k xs xs = some true := by
 unfold laws_eqTypeDeclS.f
 rw [if_pos rfl]
 exact geq0 laws_eqTypeDeclS.l0 (fun k (a b : ITy) => laws_eqTypeDecl.f k a.f0 a.f1 b.f0 b.f1) rd_T77 (fun _ _ _ _ => rfl) (getD_at _) FiTy 2097153 (fun b k hb hk => eqTy_f b k hb hk) xs hx k (by omega)
theorem szRl_f (a : LRl) (v : Int) (k : Nat) (ha : RmRl a) (h0 : 0 ≤ v) (h1 : v ≤ 1048576) (hk : 1048576 < k) : ∃ r,laws_szRelDecl.f k a.f0 a.f1 a.f2 v = some r ∧ r ≤ v ∧ (0 ≤ r → FwRl a) :=
 left_ a.f0 ha.1 v h0 h1 (fun u => laws_szStringS.f k a.f1 u) (Few a.f1) (fun u g0 g1 => szS_g a.f1 ha.2 u g0 (by omega) k hk)
theorem szRlS_f (xs : List LRl) (hx : RoomL RmRl xs) (v : Int) (h0 : 0 ≤ v) (h1 : v ≤ 1048576) (k : Nat) (hk : 2097153 < k) : ∃ r,laws_szRelDeclS.f k xs v = some r ∧ r ≤ v ∧ (0 ≤ r → FewL FwRl xs) :=
 gsz laws_szRelDeclS.l0 (fun k (a : LRl) v => laws_szRelDecl.f k a.f0 a.f1 a.f2 v) rd_T65 laws_szRelDeclS.f (fun _ _ _ => rfl) (fun _ _ _ _ => rfl) (getD_at _) RmRl FwRl 1048576 (fun a v k ha => szRl_f a v k ha) xs hx v h0 h1 k (by omega)
theorem toRl_f (a : LRl) (k : Nat) (ha : FwRl a) (hk : 1048576 < k) : laws_toRelDecl.f k a.f0 a.f1 a.f2 = some (a.f0,a.f1,a.f2) := by
 have h1 := ha.2.1
 unfold laws_toRelDecl.f
 rw [toS_f a.f1 (by omega) k (by omega),Option.bind_some]
theorem toRlS_f (xs : List LRl) (hx : FewL FwRl xs) (k : Nat) (hk : 2097153 < k) : laws_toRelDeclS.f k xs = some (xs.map cvRl) := by
 have h1 := hx.1
 unfold laws_toRelDeclS.f
 rw [if_pos (by omega),if_pos (by omega)]
 exact gto0 laws_toRelDeclS.l0 (fun k (a : LRl) => laws_toRelDecl.f k a.f0 a.f1 a.f2) rd_T65 (fun bt => (⟨bt.1,bt.2.1,bt.2.2⟩ : IRl)) (fun _ _ _ _ => rfl) (getD_at _) FwRl cvRl 1048576 (fun a k ha hk => ⟨_,toRl_f a k ha hk,rfl⟩) xs hx _ k (by omega)
theorem eqRl_f (b : IRl) (k : Nat) (hb : FiRl b) (hk : 1048576 < k) : laws_eqRelDecl.f k b.f0 b.f1 b.f2 b.f0 b.f1 b.f2 = some true := by
 have h1 := hb.2.1
 unfold laws_eqRelDecl.f
 rw [if_pos rfl,eqS_f b.f1 (by omega) k (by omega),Option.bind_some,if_pos rfl,if_pos rfl]
theorem eqRlS_f (xs : List IRl) (hx : FewL FiRl xs) (k : Nat) (hk : 2097153 < k) : laws_eqRelDeclS.f k xs xs = some true := by
 unfold laws_eqRelDeclS.f
 rw [if_pos rfl]
 exact geq0 laws_eqRelDeclS.l0 (fun k (a b : IRl) => laws_eqRelDecl.f k a.f0 a.f1 a.f2 b.f0 b.f1 b.f2) rd_T51 (fun _ _ _ _ => rfl) (getD_at _) FiRl 1048576 (fun b k hb hk => eqRl_f b k hb hk) xs hx k (by omega)
theorem szEx_f (a : LEx) (v : Int) (ha : RmEx a) (h0 : 0 ≤ v) (h1 : v ≤ 1048576) : ∃ r,laws_szExp.f a.f0 a.f1 a.f2 v = some r ∧ r ≤ v ∧ (0 ≤ r → FwEx a) :=
 left_ a.f1 ha.1 v h0 h1 (fun u => laws_szIntS.f a.f2 u) (FewN a.f2) (fun u g0 g1 => szN_f a.f2 ha.2 u g0 (by omega))
theorem szExS_f (xs : List LEx) (hx : RoomL RmEx xs) (v : Int) (h0 : 0 ≤ v) (h1 : v ≤ 1048576) (k : Nat) (hk : 1048577 < k) : ∃ r,laws_szExpS.f k xs v = some r ∧ r ≤ v ∧ (0 ≤ r → FewL FwEx xs) :=
 gsz laws_szExpS.l0 (fun _ (a : LEx) v => laws_szExp.f a.f0 a.f1 a.f2 v) rd_T127 laws_szExpS.f (fun _ _ _ => rfl) (fun _ _ _ _ => rfl) (getD_at _) RmEx FwEx 0 (fun a v _ ha h0 h1 _ => szEx_f a v ha h0 h1) xs hx v h0 h1 k (by omega)
theorem toEx_f (a : LEx) (k : Nat) (ha : FwEx a) (hk : 1048576 < k) : laws_toExp.f k a.f0 a.f1 a.f2 = some (a.f0,a.f1,a.f2) := by
 unfold laws_toExp.f
 rw [toN_f a.f2 ha.2 k hk,Option.bind_some]
theorem toExS_f (xs : List LEx) (hx : FewL FwEx xs) (k : Nat) (hk : 2097153 < k) : laws_toExpS.f k xs = some (xs.map cvEx) := by
 have h1 := hx.1
 unfold laws_toExpS.f
 rw [if_pos (by omega),if_pos (by omega)]
 exact gto0 laws_toExpS.l0 (fun k (a : LEx) => laws_toExp.f k a.f0 a.f1 a.f2) rd_T127 (fun bt => (⟨bt.1,bt.2.1,bt.2.2⟩ : IEx)) (fun _ _ _ _ => rfl) (getD_at _) FwEx cvEx 1048576 (fun a k ha hk => ⟨_,toEx_f a k ha hk,rfl⟩) xs hx _ k (by omega)
theorem eqEx_f (b : IEx) (k : Nat) (hb : FiEx b) (hk : 1048576 < k) : laws_eqExp.f k b.f0 b.f1 b.f2 b.f0 b.f1 b.f2 = some true := by
 unfold laws_eqExp.f
 rw [if_pos rfl,if_pos rfl,eqN_f b.f2 hb.2 k hk,Option.bind_some,if_pos rfl]
theorem eqExS_f (xs : List IEx) (hx : FewL FiEx xs) (k : Nat) (hk : 2097153 < k) : laws_eqExpS.f k xs xs = some true := by
 unfold laws_eqExpS.f
 rw [if_pos rfl]
 exact geq0 laws_eqExpS.l0 (fun k (a b : IEx) => laws_eqExp.f k a.f0 a.f1 a.f2 b.f0 b.f1 b.f2) rd_T133 (fun _ _ _ _ => rfl) (getD_at _) FiEx 1048576 (fun b k hb hk => eqEx_f b k hb hk) xs hx k (by omega)
theorem szLt_f (a : LLt) (v : Int) (ha : RmLt a) (h0 : 0 ≤ v) (h1 : v ≤ 1048576) : ∃ r,laws_szLit.f a.f0 a.f1 a.f2 v = some r ∧ r ≤ v ∧ (0 ≤ r → FwLt a) :=
 left_ a.f1 ha.1 v h0 h1 (fun u => laws_szIntS.f a.f2 u) (FewN a.f2) (fun u g0 g1 => szN_f a.f2 ha.2 u g0 (by omega))
theorem szLtS_f (xs : List LLt) (hx : RoomL RmLt xs) (v : Int) (h0 : 0 ≤ v) (h1 : v ≤ 1048576) (k : Nat) (hk : 1048577 < k) : ∃ r,laws_szLitS.f k xs v = some r ∧ r ≤ v ∧ (0 ≤ r → FewL FwLt xs) :=
 gsz laws_szLitS.l0 (fun _ (a : LLt) v => laws_szLit.f a.f0 a.f1 a.f2 v) rd_T70 laws_szLitS.f (fun _ _ _ => rfl) (fun _ _ _ _ => rfl) (getD_at _) RmLt FwLt 0 (fun a v _ ha h0 h1 _ => szLt_f a v ha h0 h1) xs hx v h0 h1 k (by omega)
theorem toLt_f (a : LLt) (k : Nat) (ha : FwLt a) (hk : 1048576 < k) : laws_toLit.f k a.f0 a.f1 a.f2 = some (a.f0,a.f1,a.f2) := by
 unfold laws_toLit.f
 rw [toN_f a.f2 ha.2 k hk,Option.bind_some]
theorem toLtS_f (xs : List LLt) (hx : FewL FwLt xs) (k : Nat) (hk : 2097153 < k) : laws_toLitS.f k xs = some (xs.map cvLt) := by
 have h1 := hx.1
 unfold laws_toLitS.f
 rw [if_pos (by omega),if_pos (by omega)]
 exact gto0 laws_toLitS.l0 (fun k (a : LLt) => laws_toLit.f k a.f0 a.f1 a.f2) rd_T70 (fun bt => (⟨bt.1,bt.2.1,bt.2.2⟩ : ILt)) (fun _ _ _ _ => rfl) (getD_at _) FwLt cvLt 1048576 (fun a k ha hk => ⟨_,toLt_f a k ha hk,rfl⟩) xs hx _ k (by omega)
theorem eqLt_f (b : ILt) (k : Nat) (hb : FiLt b) (hk : 1048576 < k) : laws_eqLit.f k b.f0 b.f1 b.f2 b.f0 b.f1 b.f2 = some true := by
 unfold laws_eqLit.f
 rw [if_pos rfl,if_pos rfl,eqN_f b.f2 hb.2 k hk,Option.bind_some,if_pos rfl]
theorem eqLtS_f (xs : List ILt) (hx : FewL FiLt xs) (k : Nat) (hk : 2097153 < k) : laws_eqLitS.f k xs xs = some true := by
 unfold laws_eqLitS.f
 rw [if_pos rfl]
 exact geq0 laws_eqLitS.l0 (fun k (a b : ILt) => laws_eqLit.f k a.f0 a.f1 a.f2 b.f0 b.f1 b.f2) rd_T81 (fun _ _ _ _ => rfl) (getD_at _) FiLt 1048576 (fun b k hb hk => eqLt_f b k hb hk) xs hx k (by omega)
theorem szRu_f (a : LRu) (v : Int) (k : Nat) (ha : RmRu a) (h0 : 0 ≤ v) (h1 : v ≤ 1048576) (hk : 1048577 < k) : ∃ r,laws_szRule.f k a.f0 a.f1.f0 a.f1.f1 a.f1.f2 a.f2 v = some r ∧ r ≤ v ∧ (0 ≤ r → FwRu a) :=
 then_ _ v _ _ (fun t => (laws_szLit.f a.f1.f0 a.f1.f1 a.f1.f2 t).bind fun t124 => (if t124 < 0 then (some (-1)) else ((laws_szLitS.f k a.f2 t124).bind fun t125 => (if t125 < 0 then (some (-1)) else (some t125))))) (szExS_f a.f0 ha.1 v h0 h1 k hk)
  (fun u g0 g1 => then_ _ u _ _ (fun t => (laws_szLitS.f k a.f2 t).bind fun t125 => (if t125 < 0 then (some (-1)) else (some t125))) (szLt_f a.f1 u ha.2.1 g0 (by omega))
   (fun u g2 g3 => last_ _ u _ (szLtS_f a.f2 ha.2.2 u g2 (by omega) k hk) g2) g0) h0
theorem szRuS_f (xs : List LRu) (hx : RoomL RmRu xs) (v : Int) (h0 : 0 ≤ v) (h1 : v ≤ 1048576) (k : Nat) (hk : 2097154 < k) : ∃ r,laws_szRuleS.f k xs v = some r ∧ r ≤ v ∧ (0 ≤ r → FewL FwRu xs) :=
 gsz laws_szRuleS.l0 (fun k (a : LRu) v => laws_szRule.f k a.f0 a.f1.f0 a.f1.f1 a.f1.f2 a.f2 v) rd_T73 laws_szRuleS.f (fun _ _ _ => rfl) (fun _ _ _ _ => rfl) (getD_at _) RmRu FwRu 1048577 (fun a v k ha => szRu_f a v k ha) xs hx v h0 h1 k (by omega)
theorem toRu_f (a : LRu) (k : Nat) (ha : FwRu a) (hk : 2097153 < k) : laws_toRule.f k a.f0 a.f1.f0 a.f1.f1 a.f1.f2 a.f2 = some (a.f0.map cvEx,a.f1.f0,a.f1.f1,a.f1.f2,a.f2.map cvLt) := by
 unfold laws_toRule.f
 rw [toExS_f a.f0 ha.1 k (by omega),Option.bind_some,toLt_f a.f1 k ha.2.1 (by omega),Option.bind_some,toLtS_f a.f2 ha.2.2 k (by omega),Option.bind_some]
theorem toRuS_f (xs : List LRu) (hx : FewL FwRu xs) (k : Nat) (hk : 3145730 < k) : laws_toRuleS.f k xs = some (xs.map cvRu) := by
 have h1 := hx.1
 unfold laws_toRuleS.f
 rw [if_pos (by omega),if_pos (by omega)]
 exact gto0 laws_toRuleS.l0 (fun k (a : LRu) => laws_toRule.f k a.f0 a.f1.f0 a.f1.f1 a.f1.f2 a.f2) rd_T73 (fun bt => (⟨bt.1,(⟨bt.2.1,bt.2.2.1,bt.2.2.2.1⟩ : ILt),bt.2.2.2.2⟩ : IRu)) (fun _ _ _ _ => rfl) (getD_at _) FwRu cvRu 2097153 (fun a k ha hk => ⟨_,toRu_f a k ha hk,rfl⟩) xs hx _ k (by omega)
theorem eqRu_f (b : IRu) (k : Nat) (hb : FiRu b) (hk : 2097153 < k) : laws_eqRule.f k b.f0 b.f1.f0 b.f1.f1 b.f1.f2 b.f2 b.f0 b.f1.f0 b.f1.f1 b.f1.f2 b.f2 = some true := by
 unfold laws_eqRule.f
 rw [eqExS_f b.f0 hb.1 k (by omega),Option.bind_some,if_pos rfl,eqLt_f b.f1 k hb.2.1 (by omega),Option.bind_some,if_pos rfl,eqLtS_f b.f2 hb.2.2 k (by omega),Option.bind_some,if_pos rfl]
theorem eqRuS_f (xs : List IRu) (hx : FewL FiRu xs) (k : Nat) (hk : 3145730 < k) : laws_eqRuleS.f k xs xs = some true := by
 unfold laws_eqRuleS.f
 rw [if_pos rfl]
 exact geq0 laws_eqRuleS.l0 (fun k (a b : IRu) => laws_eqRule.f k a.f0 a.f1.f0 a.f1.f1 a.f1.f2 a.f2 b.f0 b.f1.f0 b.f1.f1 b.f1.f2 b.f2) rd_T84 (fun _ _ _ _ => rfl) (getD_at _) FiRu 2097153 (fun b k hb hk => eqRu_f b k hb hk) xs hx k (by omega)
def FwPg (t : List LTy) (r : List LRl) (u : List LRu) : Prop := FewL FwTy t ∧ FewL FwRl r ∧ FewL FwRu u
theorem szPg_f (t : List LTy) (r : List LRl) (u : List LRu) (ht : RoomL RmTy t) (hr : RoomL RmRl r) (hu : RoomL RmRu u) (v : Int) (h0 : 0 ≤ v) (h1 : v ≤ 1048576) (k : Nat) (hk : 4000000 < k) : ∃ q,laws_szProg.f k t r u v = some q ∧ q ≤ v ∧ (0 ≤ q → FwPg t r u) :=
 then_ _ v _ _ (fun x => (laws_szRelDeclS.f k r x).bind fun t130 => (if t130 < 0 then (some (-1)) else ((laws_szRuleS.f k u t130).bind fun t131 => (if t131 < 0 then (some (-1)) else (some t131))))) (szTyS_f t ht v h0 h1 k (by omega))
  (fun x g0 g1 => then_ _ x _ _ (fun y => (laws_szRuleS.f k u y).bind fun t131 => (if t131 < 0 then (some (-1)) else (some t131))) (szRlS_f r hr x g0 (by omega) k (by omega))
   (fun y g2 g3 => last_ _ y _ (szRuS_f u hu y g2 (by omega) k (by omega)) g2) g0) h0
theorem toPg_f (t : List LTy) (r : List LRl) (u : List LRu) (h : FwPg t r u) (k : Nat) (hk : 4000000 < k) : laws_toProg.f k t r u = some (t.map cvTy,r.map cvRl,u.map cvRu) := by
 unfold laws_toProg.f
 rw [toTyS_f t h.1 k (by omega),Option.bind_some,toRlS_f r h.2.1 k (by omega),Option.bind_some,toRuS_f u h.2.2 k (by omega),Option.bind_some]
theorem fi_con (a : LCon) (h : FwCon a) : FiCon (cvCon a) := h
theorem fi_ty (a : LTy) (h : FwTy a) : FiTy (cvTy a) := ⟨h.1,few_map fi_con h.2⟩
theorem fi_rl (a : LRl) (h : FwRl a) : FiRl (cvRl a) := h
theorem fi_ex (a : LEx) (h : FwEx a) : FiEx (cvEx a) := h
theorem fi_lt (a : LLt) (h : FwLt a) : FiLt (cvLt a) := h
theorem fi_ru (a : LRu) (h : FwRu a) : FiRu (cvRu a) := ⟨few_map fi_ex h.1,fi_lt _ h.2.1,few_map fi_lt h.2.2⟩
theorem eqPg_f (t : List LTy) (r : List LRl) (u : List LRu) (h : FwPg t r u) (k : Nat) (hk : 4000000 < k) : laws_eqProg.f k (t.map cvTy) (r.map cvRl) (u.map cvRu) (t.map cvTy) (r.map cvRl) (u.map cvRu) = some true := by
 unfold laws_eqProg.f
 rw [eqTyS_f _ (few_map fi_ty h.1) k (by omega),Option.bind_some,if_pos rfl,eqRlS_f _ (few_map fi_rl h.2.1) k (by omega),Option.bind_some,if_pos rfl,eqRuS_f _ (few_map fi_ru h.2.2) k (by omega),Option.bind_some,if_pos rfl]
end Go.Proofs.YtamjmldfifofbaaGreatDoor.QProg
