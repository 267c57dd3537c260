-- Cut by prune.py, a program of this session, out of the texts of this claim: Lean checks it.
import Derived.Test.YtkajecadkkgfmaaGreatDoorVptQLaw2
import Derived.Test.YtkajecadkkgfmaaGreatDoorVptPex0
import Derived.Test.YtkajecadkkgfmaaGreatDoorVptPex19
namespace Go.Proofs.YtkajecadkkgfmaaGreatDoor.QLaw3
open Go.RowKit Go.Proofs.YtkajecadkkgfmaaGreatDoor.Pe Go.Proofs.YtkajecadkkgfmaaGreatDoorW.PrintWords Go.Proofs.YtkajecadkkgfmaaGreatDoorW.PrintLast Go.Proofs.YtkajecadkkgfmaaGreatDoor.QStr Go.Proofs.YtkajecadkkgfmaaGreatDoor.QLaws Go.Proofs.YtkajecadkkgfmaaGreatDoor.QLaw2
abbrev TI := S36
abbrev TL := S27
theorem rdI_get (xs : List TI) (i : Nat) (h : i < xs.length) : y21 xs (i : Int) = xs[i] := by
 unfold y21
 rw [show ((i : Int)).toNat = i from rfl,List.getD_eq_getElem?_getD,List.getElem?_eq_getElem h]
 rfl
theorem rdL_get (xs : List TL) (i : Nat) (h : i < xs.length) : rd_T27 xs (i : Int) = xs[i] := by
 unfold rd_T27
 rw [show ((i : Int)).toNat = i from rfl,List.getD_eq_getElem?_getD,List.getElem?_eq_getElem h]
 rfl
def cv (a : TL) : TI := ⟨a.f0⟩
def FewR (xs : List TL) : Prop := xs.length ≤ 1048576 ∧ ∀ a ∈ xs,Few a.f0
def RoomR (xs : List TL) : Prop := xs.length ≤ 8796093022208 ∧ ∀ a ∈ xs,Room a.f0
theorem szR_l (xs : List TL) (hx : RoomR xs) : ∀ (d i k : Nat) (v : Int),i + d = xs.length → d + 1048576 < k → 0 ≤ v → v ≤ 1048576 →
  ∃ r,laws_szTupleS.l0 k xs v (i : Int) = some r ∧ r ≤ v ∧ (0 ≤ r → ∀ a ∈ xs.drop i,Few a.f0)
 | 0,i,k,v,hd,hk,h0,h1 => by
  obtain ⟨k,rfl⟩ : ∃ m,k = m + 1 := ⟨k - 1,by omega⟩
  refine ⟨v,by rw [laws_szTupleS.l0,if_neg (by omega)],Int.le_refl _,fun _ s hs => ?_⟩
  rw [List.drop_of_length_le (by omega)] at hs
  cases hs
 | d + 1,i,k,v,hd,hk,h0,h1 => by
  obtain ⟨k,rfl⟩ : ∃ m,k = m + 1 := ⟨k - 1,by omega⟩
  have hlt : i < xs.length := by omega
  have hx1 := hx.1
  obtain ⟨r,hr,hr1,hr2⟩ := szT_f xs[i].f0 (hx.2 _ (List.getElem_mem hlt)) v h0 h1 k (by omega)
  rw [laws_szTupleS.l0,if_pos (by omega),if_pos (by omega),rdL_get xs i hlt,hr,Option.bind_some]
  by_cases h : r < 0
  ·rw [if_pos h]
   exact ⟨_,rfl,by omega,fun h => by omega⟩
  ·rw [if_neg h,step_i (by omega)]
   obtain ⟨q,hq,hq1,hq2⟩ := szR_l xs hx d (i + 1) k r (by omega) (by omega) (by omega) (by omega)
   refine ⟨q,hq,by omega,fun h0 a ha => ?_⟩
   rw [List.drop_eq_getElem_cons hlt] at ha
   rcases List.mem_cons.1 ha with rfl | ha
   ·exact hr2 (by omega)
   ·exact hq2 h0 a ha
theorem szR_f (ar : Int) (xs : List TL) (hx : RoomR xs) (v : Int) (h0 : 0 ≤ v) (h1 : v ≤ 1048576) (k : Nat) (hk : 2100000 < k) :
  ∃ r,laws_szRel.f k ar xs v = some r ∧ r ≤ v ∧ (0 ≤ r → FewR xs) := by
 have hx1 := hx.1
 unfold laws_szRel.f laws_szTupleS.f
 rw [wrapS (by omega) (by omega)]
 by_cases h : v - (xs.length : Int) < 0
 ·rw [if_pos h,Option.bind_some,if_pos (by decide)]
  exact ⟨_,rfl,by omega,fun h => by omega⟩
 ·rw [if_neg h]
  obtain ⟨r,hr,hr1,hr2⟩ := szR_l xs hx xs.length 0 k (v - (xs.length : Int)) (by omega) (by omega) (by omega) (by omega)
  rw [show (0 : Int) = ((0 : Nat) : Int) from rfl,hr,Option.bind_some]
  by_cases h2 : r < ((0 : Nat) : Int)
  ·rw [if_pos h2]
   exact ⟨_,rfl,by omega,fun h => by omega⟩
  ·rw [if_neg h2]
   exact ⟨_,rfl,by omega,fun h0 => ⟨by omega,fun a ha => hr2 h0 a (by simpa using ha)⟩⟩
theorem set_atR (xs : List TL) (i : Nat) (h : i < xs.length) (m : Nat) (z : TI) : ((xs.take i).map cv ++ List.replicate (m + 1) z).set i (cv xs[i]) = (xs.take (i + 1)).map cv ++ List.replicate m z := by
 have hl : ((xs.take i).map cv).length = i := by rw [List.length_map,List.length_take]; omega
 rw [List.set_append_right _ _ (by omega),hl,Nat.sub_self,List.replicate_succ,List.set_cons_zero,List.take_succ_eq_append_getElem h,List.map_append,List.append_assoc]
 rfl
theorem toR_l (xs : List TL) (hx : FewR xs) (z : TI) : ∀ (d i k : Nat),i + d = xs.length → d + 1048577 < k → laws_toTupleS.l0 k xs ((xs.take i).map cv ++ List.replicate d z) (i : Int) = some (xs.map cv)
 | 0,i,k,hd,hk => by
  obtain ⟨k,rfl⟩ : ∃ m,k = m + 1 := ⟨k - 1,by omega⟩
  rw [laws_toTupleS.l0,if_neg (by omega),List.replicate_zero,List.append_nil,List.take_of_length_le (by omega)]
 | d + 1,i,k,hd,hk => by
  obtain ⟨k,rfl⟩ : ∃ m,k = m + 1 := ⟨k - 1,by omega⟩
  have hlt : i < xs.length := by omega
  have hx1 := hx.1
  rw [laws_toTupleS.l0,if_pos (by omega),if_pos (by omega),rdL_get xs i hlt,toT_f _ (hx.2 _ (List.getElem_mem hlt)) k (by omega),Option.bind_some,if_pos (by simp only [List.length_append,List.length_map,List.length_take,List.length_replicate]; omega),show ((i : Int)).toNat = i from rfl,
   show (⟨xs[i].f0⟩ : TI) = cv xs[i] from rfl,set_atR xs i hlt d z,step_i (by omega),toR_l xs hx z d (i + 1) k (by omega) (by omega)]
theorem toR_f (ar : Int) (xs : List TL) (hx : FewR xs) (k : Nat) (hk : 2100000 < k) : laws_toRel.f k ar xs = some (ar,xs.map cv) := by
 have hx1 := hx.1
 unfold laws_toRel.f laws_toTupleS.f
 have := toR_l xs hx z36 xs.length 0 k (by omega) (by omega)
 rw [List.take_zero,List.map_nil,List.nil_append] at this
 rw [if_pos (by omega),if_pos (by omega),show ((xs.length : Int)).toNat = xs.length from rfl,show (0 : Int) = ((0 : Nat) : Int) from rfl,this,Option.bind_some]
def FewI (xs : List TI) : Prop := xs.length ≤ 1048576 ∧ ∀ a ∈ xs,Few a.f0
theorem few_cv {xs : List TL} (h : FewR xs) : FewI (xs.map cv) := by
 refine ⟨by rw [List.length_map]; exact h.1,fun a ha => ?_⟩
 obtain ⟨b,hb,rfl⟩ := List.mem_map.1 ha
 exact h.2 b hb
theorem eqR_l (xs : List TI) (hx : FewI xs) : ∀ (d i k : Nat),i + d = xs.length → d + 1048577 < k → laws_eqTupleS.l0 k xs xs (i : Int) = some true
 | 0,i,k,hd,hk => by
  obtain ⟨k,rfl⟩ : ∃ m,k = m + 1 := ⟨k - 1,by omega⟩
  rw [laws_eqTupleS.l0,if_neg (by omega)]
 | d + 1,i,k,hd,hk => by
  obtain ⟨k,rfl⟩ : ∃ m,k = m + 1 := ⟨k - 1,by omega⟩
  have hlt : i < xs.length := by omega
  have hx1 := hx.1
  rw [laws_eqTupleS.l0,if_pos (by omega),if_pos (by omega),if_pos (by omega),rdI_get xs i hlt,eqT_f _ (hx.2 _ (List.getElem_mem hlt)) k (by omega),Option.bind_some,if_pos rfl,step_i (by omega),eqR_l xs hx d (i + 1) k (by omega) (by omega)]
theorem eqR_f (ar : Int) (xs : List TI) (hx : FewI xs) (k : Nat) (hk : 2100000 < k) : laws_eqRel.f k ar xs ar xs = some true := by
 have hx1 := hx.1
 unfold laws_eqRel.f laws_eqTupleS.f
 rw [if_pos rfl,if_pos rfl,show (0 : Int) = ((0 : Nat) : Int) from rfl,eqR_l xs hx xs.length 0 k (by omega) (by omega),Option.bind_some,if_pos rfl]
end Go.Proofs.YtkajecadkkgfmaaGreatDoor.QLaw3
