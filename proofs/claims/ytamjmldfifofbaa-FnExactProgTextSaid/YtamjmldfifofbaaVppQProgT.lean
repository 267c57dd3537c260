-- Cut by prune.py, a program of this session, out of the texts of this claim: Lean checks it.
import Derived.Test.YtamjmldfifofbaaVppQRuleT
import Derived.Test.YtamjmldfifofbaaVppQProgR
import Derived.Test.YtamjmldfifofbaaVppPpx15
import Derived.Test.YtamjmldfifofbaaVppPpx17
namespace Go.Proofs.Ytamjmldfifofbaa.QProgT
open Go.RowKit Go.Proofs.Ytamjmldfifofbaa.Pp Go.Proofs.YtamjmldfifofbaaW.PrintWords Go.Proofs.YtamjmldfifofbaaW.PrintLast Go.Proofs.Ytamjmldfifofbaa.QStr Go.Proofs.Ytamjmldfifofbaa.QGenR Go.Proofs.Ytamjmldfifofbaa.QRule Go.Proofs.Ytamjmldfifofbaa.QTree Go.Proofs.Ytamjmldfifofbaa.QText Go.Proofs.Ytamjmldfifofbaa.QForm Go.Proofs.Ytamjmldfifofbaa.QExpT Go.Proofs.Ytamjmldfifofbaa.QSpecE Go.Proofs.Ytamjmldfifofbaa.QRuleT Go.Proofs.Ytamjmldfifofbaa.QProgR
def tJ (l : List ByteArray) : List UInt8 := Lib.join (l.map L) [44,32]
def tCon (c : ICon) : List UInt8 := if c.f1 = [] then L c.f0 else L c.f0 ++ 40 :: (tJ c.f1 ++ [41])
def tTy (t : ITy) : List UInt8 := [116,121,112,101,32] ++ L t.f0 ++ [32,61,32] ++ Lib.join (t.f1.map tCon) [32,124,32] ++ [46,10]
def mW (m : Int) : List UInt8 := if m = 0 then [] else if m = 1 then [32,105,110,112,117,116] else if m = 2 then [32,111,117,116,112,117,116] else [32,105,110,108,105,110,101]
def tRl (r : IRl) : List UInt8 := [114,101,108,32] ++ L r.f0 ++ [40] ++ tJ r.f1 ++ [41] ++ mW r.f2 ++ [46,10]
noncomputable def rT (u : IRu) : List UInt8 := ruleT u.f0 u.f1 u.f2
def flat {α : Type} (f : α → List UInt8) (xs : List α) : List UInt8 := (xs.map f).flatten
theorem flat_cons {α : Type} (f : α → List UInt8) (x : α) (xs : List α) : flat f (x :: xs) = f x ++ flat f xs := by
 unfold flat
 rw [List.map_cons,List.flatten_cons]
theorem flat_at {α : Type} (f : α → List UInt8) (xs : List α) (i : Nat) (h : i < xs.length) : flat f (xs.drop i) = f xs[i] ++ flat f (xs.drop (i + 1)) := by
 rw [List.drop_eq_getElem_cons h,flat_cons]
theorem flat_end {α : Type} (f : α → List UInt8) (xs : List α) : flat f (xs.drop xs.length) = [] := by
 rw [List.drop_length]
 rfl
theorem joinS_length (sep : List UInt8) : ∀ (xs : List (List UInt8)),(Lib.join xs sep).length ≤ sep.length * xs.length + Lib.lens xs
 | [] => Nat.zero_le _
 | x :: r => by
  rw [Lib.join_cons,List.length_append,Lib.joinTail_length]
  unfold Lib.lens
  rw [List.map_cons,List.sum_cons,List.length_cons,Nat.mul_succ]
  omega
theorem tJ_le (l : List ByteArray) : (tJ l).length ≤ 2 * mS l := by
 have h := joinS_length [44,32] (l.map L)
 have h2 : Lib.lens (l.map L) = (l.map ByteArray.size).sum := by
  unfold Lib.lens
  rw [List.map_map]
  rfl
 unfold tJ mS mL
 rw [h2,List.length_map] at h
 have h3 : ([44,32] : List UInt8).length = 2 := rfl
 rw [h3] at h
 omega
theorem tCon_le (c : ICon) : (tCon c).length ≤ 2 * mIC c + 2 := by
 have := tJ_le c.f1
 have hL : (L c.f0).length = c.f0.size := L_length _
 unfold tCon mIC
 by_cases h : c.f1 = []
 ·rw [if_pos h]
  omega
 ·rw [if_neg h,List.length_append,List.length_cons,List.length_append]
  have h1 : ([41] : List UInt8).length = 1 := rfl
  omega
theorem lens_con : ∀ cs : List ICon,Lib.lens (cs.map tCon) ≤ 2 * (cs.map mIC).sum + 2 * cs.length
 | [] => Nat.zero_le _
 | c :: r => by
  have ih := lens_con r
  have := tCon_le c
  unfold Lib.lens at ih ⊢
  rw [List.map_cons,List.map_cons,List.map_cons,List.sum_cons,List.sum_cons,List.length_cons]
  omega
theorem joinC_le (cs : List ICon) : (Lib.join (cs.map tCon) [32,124,32]).length ≤ 5 * mL mIC cs := by
 have h := joinS_length [32,124,32] (cs.map tCon)
 have h2 := lens_con cs
 have h3 : ([32,124,32] : List UInt8).length = 3 := rfl
 rw [h3,List.length_map] at h
 unfold mL
 omega
theorem tTy_le (t : ITy) : (tTy t).length ≤ 5 * mIT t + 10 := by
 have := joinC_le t.f1
 have hL : (L t.f0).length = t.f0.size := L_length _
 unfold tTy mIT
 rw [List.length_append,List.length_append,List.length_append,List.length_append]
 show 5 + _ + 3 + _ + 2 ≤ _
 omega
theorem mW_le (m : Int) : (mW m).length ≤ 7 := by
 unfold mW
 by_cases h0 : m = 0
 ·rw [if_pos h0]
  decide
 ·rw [if_neg h0]
  by_cases h1 : m = 1
  ·rw [if_pos h1]
   decide
  ·rw [if_neg h1]
   by_cases h2 : m = 2
   ·rw [if_pos h2]
    decide
   ·rw [if_neg h2]
    decide
theorem tRl_le (r : IRl) : (tRl r).length ≤ 2 * mIR r + 15 := by
 have := tJ_le r.f1
 have := mW_le r.f2
 have hL : (L r.f0).length = r.f0.size := L_length _
 unfold tRl mIR
 rw [List.length_append,List.length_append,List.length_append,List.length_append,List.length_append,List.length_append]
 show 4 + _ + 1 + _ + 1 + _ + 2 ≤ _
 omega
theorem flat_le {α : Type} (f : α → List UInt8) (m : α → Nat) (a b : Nat) (h : ∀ x,(f x).length ≤ a * m x + b) : ∀ xs : List α,(flat f xs).length ≤ a * (xs.map m).sum + b * xs.length
 | [] => Nat.zero_le _
 | x :: r => by
  have ih := flat_le f m a b h r
  have := h x
  rw [flat_cons,List.length_append,List.map_cons,List.sum_cons,List.length_cons,Nat.mul_add,Nat.mul_succ]
  omega
theorem joinB_f (acc : List ByteArray) (sep : List UInt8) (h : (Lib.join (acc.map L) sep).length ≤ 140737488355328) (hl : acc.length ≤ 140737488355328) : strings_Join.f acc (B sep) = some (B (Lib.join (acc.map L) sep)) := by
 unfold strings_Join.f
 exact (if_pos (show (Lib.join (acc.map (·.data.toList)) ((B sep)).data.toList).length ≤ 140737488355328 from h)).trans (if_pos hl)
theorem app_r (s : List UInt8) (z : ByteArray) : B s ++ z = B (s ++ L z) := by
 conv => lhs; rw [← B_L z]
 exact y2 _ _
section
variable (ts : List ITy) (rs : List IRl) (us : List IRu)
theorem i1_ev (i : Nat) (hi : i < ts.length) (hn : ts.length ≤ 1048576) (cs : List ICon) (hc : cs.length ≤ 1048576) (hm : ∀ c ∈ cs,mS c.f1 ≤ 1048576 ∧ c.f0.size ≤ 1048576) (n0 : ByteArray) (f1 : List ICon) (s : List UInt8) (hs : s.length + n0.size + (Lib.join (cs.map tCon) [32,124,32]).length ≤ 70368744177664) (r : List UInt8)
  (h1 : Ev (fun k => z4_.l0 k (B (s ++ ([116,121,112,101,32] ++ L n0 ++ [32,61,32] ++ Lib.join (cs.map tCon) [32,124,32] ++ [46,10]))) ts (ts.length : Int) ((i + 1 : Nat) : Int) ts rs us) (B r)) :
  ∀ (q j : Nat),j + q = cs.length → Ev (fun k => z4_.l1 k (B s) ((cs.take j).map (fun c => B (tCon c))) ts (ts.length : Int) (i : Int) cs (cs.length : Int) (j : Int) ts rs us n0 f1) (B r)
 | 0,j,h => by
  obtain rfl : j = cs.length := h
  obtain ⟨K,h1⟩ := h1
  refine y14 ⟨K,fun m hm => ?_⟩
  have e1 := h1 m hm
  simp only [] at e1
  have hmap : ((cs.map (fun c => B (tCon c))).map L) = cs.map tCon := by
   rw [List.map_map]
   rfl
  have z5 : (⟨#[116,121,112,101,32]⟩ : ByteArray).size = 5 := rfl
  have z3 : (⟨#[32,61,32]⟩ : ByteArray).size = 3 := rfl
  have z2 : (⟨#[46,10]⟩ : ByteArray).size = 2 := rfl
  have hj := joinB_f (cs.map (fun c => B (tCon c))) [32,124,32] (by rw [hmap]; omega) (by rw [List.length_map]; omega)
  rw [hmap] at hj
  rw [z4_.l1,if_neg (by omega),if_pos (by omega),if_pos (by rw [ByteArray.size_append,z5]; omega),List.take_of_length_le (Nat.le_refl _)]
  show (strings_Join.f (cs.map (fun c => B (tCon c))) (B [32,124,32])).bind _ = _
  rw [hj,Option.bind_some,if_pos (by rw [ByteArray.size_append,ByteArray.size_append,y24,z5,z3]; omega),if_pos (by rw [ByteArray.size_append,ByteArray.size_append,ByteArray.size_append,y24,z5,z3]; omega),
   if_pos (by rw [ByteArray.size_append,ByteArray.size_append,ByteArray.size_append,ByteArray.size_append,y24,y24,z5,z3,z2]; omega),step_i (by omega)]
  show z4_.l0 m (B s ++ (B [116,121,112,101,32] ++ n0 ++ B [32,61,32] ++ B _ ++ B [46,10])) _ _ _ _ _ _ = _
  rw [← B_L n0,y2,y2,y2,y2,y2]
  exact e1
 | q + 1,j,h => by
  have hj : j < cs.length := by omega
  have hrd : y22 cs (j : Int) = cs[j] := getD_at _ cs j hj
  have hmj := hm _ (List.getElem_mem hj)
  have htl := tJ_le cs[j].f1
  obtain ⟨K,ih⟩ := i1_ev i hi hn cs hc hm n0 f1 s hs r h1 q (j + 1) (by omega)
  refine y14 ⟨K,fun m hm => ?_⟩
  have e1 := ih m hm
  simp only [] at e1
  rw [List.take_succ_eq_append_getElem hj,List.map_append] at e1
  rw [z4_.l1,if_pos (by omega),if_pos (by omega),if_pos (by omega),hrd]
  have hacc : ((cs.take j).map (fun c => B (tCon c))).length < 8796093022208 := by rw [List.length_map,List.length_take]; omega
  by_cases h0 : cs[j].f1 = []
  ·have ht : tCon cs[j] = L cs[j].f0 := if_pos h0
   rw [if_neg (by rw [h0]; decide),if_pos hacc,step_i (by omega)]
   rw [show ([cs[j]].map (fun c => B (tCon c))) = [cs[j].f0] from by
    show [B (tCon cs[j])] = _
    rw [ht,B_L]] at e1
   exact e1
  ·have ht : tCon cs[j] = L cs[j].f0 ++ 40 :: (tJ cs[j].f1 ++ [41]) := if_neg h0
   have hpos : 0 < cs[j].f1.length := List.length_pos_iff.2 h0
   have z1 : (⟨#[40]⟩ : ByteArray).size = 1 := rfl
   have z1' : (⟨#[41]⟩ : ByteArray).size = 1 := rfl
   have hsl := mS_le cs[j].f1
   have hjn := join_f cs[j].f1 (by show (tJ cs[j].f1).length ≤ _; omega) (by omega)
   rw [if_pos (by omega),hjn,Option.bind_some]
   have hsz : (B (Lib.join (cs[j].f1.map L) [44,32])).size = (tJ cs[j].f1).length := rfl
   rw [if_pos (by rw [hsz]; omega),if_pos (by rw [ByteArray.size_append,hsz,z1]; omega),if_pos (by rw [ByteArray.size_append,ByteArray.size_append,hsz,z1,z1']; omega),if_pos hacc,step_i (by omega)]
   have hx : cs[j].f0 ++ (((⟨#[40]⟩ : ByteArray) ++ B (Lib.join (cs[j].f1.map L) [44,32])) ++ (⟨#[41]⟩ : ByteArray)) = B (tCon cs[j]) := by
    show cs[j].f0 ++ ((B [40] ++ B _) ++ B [41]) = _
    rw [ht,← B_L cs[j].f0,y2,y2,y2,L_B]
    rfl
   rw [hx]
   exact e1
theorem i0_ev (hn : ts.length ≤ 1048576) (hm : ∀ t ∈ ts,mIT t ≤ 1048576) (r : List UInt8) : ∀ (q i : Nat) (s : List UInt8),i + q = ts.length → (s ++ flat tTy (ts.drop i)).length ≤ 35184372088832 →
  Ev (fun k => z4_.l2 k (B (s ++ flat tTy (ts.drop i))) rs (rs.length : Int) 0 ts rs us) (B r) → Ev (fun k => z4_.l0 k (B s) ts (ts.length : Int) (i : Int) ts rs us) (B r)
 | 0,i,s,h,_,h1 => by
  obtain rfl : i = ts.length := h
  rw [flat_end,List.append_nil] at h1
  obtain ⟨K,h1⟩ := h1
  refine y14 ⟨K,fun m hm => ?_⟩
  rw [z4_.l0,if_neg (by omega)]
  exact h1 m hm
 | q + 1,i,s,h,hl,h1 => by
  have hi : i < ts.length := by omega
  have hrd : y21 ts (i : Int) = ts[i] := getD_at _ ts i hi
  have hmi := hm _ (List.getElem_mem hi)
  rw [flat_at tTy ts i hi,← List.append_assoc] at h1 hl
  have ih := i0_ev hn hm r q (i + 1) (s ++ tTy ts[i]) (by omega) hl h1
  have hjc := joinC_le ts[i].f1
  unfold mIT mL at hmi
  unfold mL at hjc
  rw [List.length_append,List.length_append] at hl
  have e := i1_ev ts rs us i hi hn ts[i].f1 (by omega) (fun c hc => by
   have := mL_mem mIC ts[i].f1 c hc
   have h2 : mIC c = c.f0.size + mS c.f1 := rfl
   omega) ts[i].f0 ts[i].f1 s (by omega) r ih ts[i].f1.length 0 (by omega)
  obtain ⟨K,e⟩ := e
  refine y14 ⟨K,fun m hm => ?_⟩
  rw [z4_.l0,if_pos (by omega),if_pos (by omega),if_pos (by omega),hrd]
  have := e m hm
  simp only [List.take_zero] at this
  exact this
def MdOk (r : IRl) : Prop := 0 ≤ r.f2 ∧ r.f2 ≤ 3
theorem mode_f (m : Int) (h0 : m ≠ 0) (h1 : 0 ≤ m ∧ m ≤ 3) : [32] ++ L (rdOf ByteArray.empty [(⟨#[]⟩ : ByteArray),(⟨#[105,110,112,117,116]⟩ : ByteArray),(⟨#[111,117,116,112,117,116]⟩ : ByteArray),(⟨#[105,110,108,105,110,101]⟩ : ByteArray)] m) = mW m := by
 rcases (show m = 1 ∨ m = 2 ∨ m = 3 by omega) with rfl | rfl | rfl
 ·rfl
 ·rfl
 ·rfl
theorem i2_ev (hn : rs.length ≤ 1048576) (hm : ∀ x ∈ rs,mIR x ≤ 1048576) (r : List UInt8) : ∀ (q i : Nat) (s : List UInt8),i + q = rs.length → (s ++ flat tRl (rs.drop i)).length ≤ 35184372088832 →
  ((∀ x ∈ rs.drop i,MdOk x) → Ev (fun k => z4_.l3 k (B (s ++ flat tRl (rs.drop i))) us (us.length : Int) 0) (B r)) → (¬ (∀ x ∈ rs.drop i,MdOk x) → r = []) →
  Ev (fun k => z4_.l2 k (B s) rs (rs.length : Int) (i : Int) ts rs us) (B r)
 | 0,i,s,h,_,h1,_ => by
  obtain rfl : i = rs.length := h
  rw [flat_end,List.append_nil,List.drop_length] at h1
  obtain ⟨K,h1⟩ := h1 (fun x hx => by cases hx)
  refine y14 ⟨K,fun m hm => ?_⟩
  rw [z4_.l2,if_neg (by omega)]
  exact h1 m hm
 | q + 1,i,s,h,hl,h1,h2 => by
  have hi : i < rs.length := by omega
  have hrd : y23 rs (i : Int) = rs[i] := getD_at _ rs i hi
  have hmi := hm _ (List.getElem_mem hi)
  have htl := tJ_le rs[i].f1
  have hsl := mS_le rs[i].f1
  rw [flat_at tRl rs i hi,← List.append_assoc] at h1 hl
  rw [List.drop_eq_getElem_cons hi] at h1 h2
  unfold mIR at hmi
  by_cases hmd : MdOk rs[i]
  ·have ih := i2_ev hn hm r q (i + 1) (s ++ tRl rs[i]) (by omega) hl (fun hx => h1 (List.forall_mem_cons.2 ⟨hmd,hx⟩)) (fun hx => h2 (fun hy => hx (List.forall_mem_cons.1 hy).2))
   obtain ⟨K,ih⟩ := ih
   refine y14 ⟨K,fun m hm2 => ?_⟩
   have e1 := ih m hm2
   simp only [] at e1
   have hsl2 : s.length ≤ 35184372088832 := by rw [List.length_append,List.length_append] at hl; omega
   have z4 : (⟨#[114,101,108,32]⟩ : ByteArray).size = 4 := rfl
   have z1 : (⟨#[40]⟩ : ByteArray).size = 1 := rfl
   have z1' : (⟨#[41]⟩ : ByteArray).size = 1 := rfl
   have z32 : (⟨#[32]⟩ : ByteArray).size = 1 := rfl
   have hjn := join_f rs[i].f1 (by show (tJ rs[i].f1).length ≤ _; omega) (by omega)
   have hsz : (B (Lib.join (rs[i].f1.map L) [44,32])).size = (tJ rs[i].f1).length := rfl
   rw [z4_.l2,if_pos (by omega),if_pos (by omega),if_pos (by omega),hrd,in_f,Option.bind_some,if_pos (decide_eq_true (show 0 ≤ rs[i].f2 ∧ rs[i].f2 ≤ 3 from hmd)),if_pos (by omega),if_pos (by rw [ByteArray.size_append,z4]; omega),hjn,Option.bind_some,
    if_pos (by rw [ByteArray.size_append,ByteArray.size_append,hsz,z4,z1]; omega),if_pos (by rw [ByteArray.size_append,ByteArray.size_append,ByteArray.size_append,hsz,z4,z1]; omega),if_pos (by rw [ByteArray.size_append,ByteArray.size_append,ByteArray.size_append,ByteArray.size_append,hsz,y24,z4,z1,z1']; omega)]
   have hx : B s ++ (((((⟨#[114,101,108,32]⟩ : ByteArray) ++ rs[i].f0) ++ (⟨#[40]⟩ : ByteArray)) ++ B (Lib.join (rs[i].f1.map L) [44,32])) ++ (⟨#[41]⟩ : ByteArray)) = B (s ++ ([114,101,108,32] ++ L rs[i].f0 ++ [40] ++ tJ rs[i].f1 ++ [41])) := by
    show B s ++ ((((B [114,101,108,32] ++ rs[i].f0) ++ B [40]) ++ B _) ++ B [41]) = _
    rw [← B_L rs[i].f0,y2,y2,y2,y2,y2,L_B]
    rfl
   rw [hx]
   have hxl : (s ++ ([114,101,108,32] ++ L rs[i].f0 ++ [40] ++ tJ rs[i].f1 ++ [41])).length ≤ s.length + 4 + rs[i].f0.size + 1 + (tJ rs[i].f1).length + 1 := by
    rw [List.length_append,List.length_append,List.length_append,List.length_append,List.length_append]
    have hL : (L rs[i].f0).length = rs[i].f0.size := L_length _
    show _ + (4 + _ + 1 + _ + 1) ≤ _
    omega
   by_cases hz : rs[i].f2 = 0
   ·rw [if_pos hz,if_pos (by rw [y24]; omega),step_i (by omega)]
    have : B (s ++ ([114,101,108,32] ++ L rs[i].f0 ++ [40] ++ tJ rs[i].f1 ++ [41])) ++ (⟨#[46,10]⟩ : ByteArray) = B (s ++ tRl rs[i]) := by
     show B _ ++ B [46,10] = _
     rw [y2]
     unfold tRl mW
     rw [if_pos hz,List.append_nil]
     simp only [List.append_assoc]
    rw [this]
    exact e1
   ·have hmf := mode_f rs[i].f2 hz hmd
    have hml := mW_le rs[i].f2
    rw [← hmf,List.length_append] at hml
    have hml2 : (rdOf ByteArray.empty [(⟨#[]⟩ : ByteArray),(⟨#[105,110,112,117,116]⟩ : ByteArray),(⟨#[111,117,116,112,117,116]⟩ : ByteArray),(⟨#[105,110,108,105,110,101]⟩ : ByteArray)] rs[i].f2).size ≤ 6 := by
     have h1 : ([32] : List UInt8).length = 1 := rfl
     have : ∀ z : ByteArray,(L z).length = z.size := L_length
     rw [h1,this] at hml
     omega
    unfold impl_modeWords.f
    rw [if_neg hz,Option.bind_some,if_pos hmd.1,if_pos (show rs[i].f2 < (([(⟨#[]⟩ : ByteArray),(⟨#[105,110,112,117,116]⟩ : ByteArray),(⟨#[111,117,116,112,117,116]⟩ : ByteArray),(⟨#[105,110,108,105,110,101]⟩ : ByteArray)].length : Nat) : Int) from Int.lt_of_le_of_lt hmd.2 (by decide)),if_pos (by omega),if_pos (by rw [ByteArray.size_append,y24,z32]; omega),if_pos (by rw [ByteArray.size_append,ByteArray.size_append,y24,z32]; omega),step_i (by omega)]
    have : B (s ++ ([114,101,108,32] ++ L rs[i].f0 ++ [40] ++ tJ rs[i].f1 ++ [41])) ++ ((⟨#[32]⟩ : ByteArray) ++ rdOf ByteArray.empty [(⟨#[]⟩ : ByteArray),(⟨#[105,110,112,117,116]⟩ : ByteArray),(⟨#[111,117,116,112,117,116]⟩ : ByteArray),(⟨#[105,110,108,105,110,101]⟩ : ByteArray)] rs[i].f2) ++ (⟨#[46,10]⟩ : ByteArray) = B (s ++ tRl rs[i]) := by
     generalize hg : rdOf ByteArray.empty [(⟨#[]⟩ : ByteArray),(⟨#[105,110,112,117,116]⟩ : ByteArray),(⟨#[111,117,116,112,117,116]⟩ : ByteArray),(⟨#[105,110,108,105,110,101]⟩ : ByteArray)] rs[i].f2 = z at hmf ⊢
     show B _ ++ (B [32] ++ z) ++ B [46,10] = _
     rw [← B_L z,y2,y2,y2]
     unfold tRl
     rw [← hmf]
     simp only [List.append_assoc]
    rw [this]
    exact e1
  ·refine y14 ⟨0,fun m _ => ?_⟩
   rw [h2 (fun hx => hmd (List.forall_mem_cons.1 hx).1),z4_.l2,if_pos (by omega),if_pos (by omega),if_pos (by omega),hrd,in_f,Option.bind_some,if_neg (fun hx => hmd (show 0 ≤ rs[i].f2 ∧ rs[i].f2 ≤ 3 from of_decide_eq_true hx))]
   rfl
noncomputable def rN (u : IRu) : List UInt8 := rT u ++ [10]
theorem rT_le (u : IRu) : (rT u).length ≤ 3000 := by
 unfold rT ruleT
 by_cases h : Frm u.f0 u.f1 u.f2 ∧ (whole u.f0 u.f1 u.f2).length ≤ 3000
 ·rw [if_pos h]
  exact h.2
 ·rw [if_neg h]
  exact Nat.zero_le _
def FewU (us : List IRu) : Prop := us.length ≤ 1048576 ∧ ∀ u ∈ us,FewR u.f0 u.f1 u.f2
open Classical in
/-- What comes of the rules behind a text. -/
noncomputable def fin (us : List IRu) (i : Nat) (s : List UInt8) : List UInt8 := if (∀ u ∈ us.drop i,rT u ≠ []) ∧ (s ++ flat rN (us.drop i)).length ≤ 3000 then s ++ flat rN (us.drop i) else []
theorem fin_big (us : List IRu) (i : Nat) (s : List UInt8) (h : 3000 < s.length) : fin us i s = [] := by
 unfold fin
 rw [if_neg (fun hx => by
  have := hx.2
  rw [List.length_append] at this
  omega)]
theorem fin_no (us : List IRu) (i : Nat) (hi : i < us.length) (s : List UInt8) (h : rT us[i] = []) : fin us i s = [] := by
 unfold fin
 rw [if_neg (fun hx => hx.1 us[i] (by rw [List.drop_eq_getElem_cons hi]; exact List.mem_cons_self) h)]
theorem fin_at (us : List IRu) (i : Nat) (hi : i < us.length) (s : List UInt8) (h : rT us[i] ≠ []) : fin us i s = fin us (i + 1) (s ++ rN us[i]) := by
 unfold fin
 rw [flat_at rN us i hi,← List.append_assoc]
 refine ite_congr (propext (and_congr ?_ Iff.rfl)) (fun _ => rfl) (fun _ => rfl)
 rw [List.drop_eq_getElem_cons hi,List.forall_mem_cons]
 exact ⟨fun hx => hx.2,fun hx => ⟨h,hx⟩⟩
theorem fin_end (us : List IRu) (s : List UInt8) : fin us us.length s = if s.length ≤ 3000 then s else [] := by
 unfold fin
 rw [flat_end,List.append_nil,List.drop_length]
 refine ite_congr (propext ⟨fun hx => hx.2,fun hx => ⟨fun u hu => (by cases hu),hx⟩⟩) (fun _ => rfl) (fun _ => rfl)
theorem toList_nil {l : List UInt8} : (B l).toList = ([] : List UInt8) ↔ l = [] := by
 rw [toList_B]
theorem i3_ev (hu : FewU us) : ∀ (q i : Nat) (s : List UInt8),i + q = us.length → s.length ≤ 35184372088832 → Ev (fun k => z4_.l3 k (B s) us (us.length : Int) (i : Int)) (B (fin us i s))
 | 0,i,s,h,hl => by
  obtain rfl : i = us.length := h
  refine y14 ⟨0,fun m _ => ?_⟩
  rw [z4_.l3,if_neg (by omega),fin_end,y24]
  by_cases h3 : s.length ≤ 3000
  ·rw [if_pos h3,if_neg (by omega)]
  ·rw [if_neg h3,if_pos (by omega)]
   rfl
 | q + 1,i,s,h,hl => by
  have hi : i < us.length := by omega
  have hrd : y20 us (i : Int) = us[i] := getD_at _ us i hi
  obtain ⟨K1,g1⟩ := impl_ev us[i].f0 us[i].f1 us[i].f2 (hu.2 _ (List.getElem_mem hi))
  have hul := hu.1
  have hr3 := rT_le us[i]
  have g2 : ∀ m,K1 ≤ m → impl_ruleText.f m us[i].f0 us[i].f1.f0 us[i].f1.f1 us[i].f1.f2 us[i].f2 = some (B (rT us[i])) := fun m hm => by
   exact g1 m hm
  by_cases h0 : rT us[i] = []
  ·refine y14 ⟨K1,fun m hm => ?_⟩
   rw [z4_.l3,if_pos (by omega),if_pos (by omega),if_pos (by omega),hrd,g2 m hm,Option.bind_some,if_pos (toList_nil.2 h0),fin_no us i hi s h0]
   rfl
  ·by_cases h3 : s.length ≤ 3000
   ·have ih := i3_ev hu q (i + 1) (s ++ rN us[i]) (by omega) (by
     unfold rN
     rw [List.length_append,List.length_append]
     show _ + (_ + 1) ≤ _
     omega)
    obtain ⟨K2,ih⟩ := ih
    refine y14 ⟨max K1 K2,fun m hm => ?_⟩
    have e2 := ih m (by omega)
    simp only [] at e2
    rw [z4_.l3,if_pos (by omega),if_pos (by omega),if_pos (by omega),hrd,g2 m (by omega),Option.bind_some,if_neg (fun hx => h0 (toList_nil.1 hx)),if_neg (by rw [y24]; omega),if_pos (by rw [y24]; omega),if_pos (by rw [ByteArray.size_append,y24,y24]; show _ + (_ + 1) ≤ _; omega),step_i (by omega),fin_at us i hi s h0]
    show z4_.l3 m (B s ++ (B _ ++ B [10])) _ _ _ = _
    rw [y2,y2]
    exact e2
   ·refine y14 ⟨K1,fun m hm => ?_⟩
    rw [z4_.l3,if_pos (by omega),if_pos (by omega),if_pos (by omega),hrd,g2 m hm,Option.bind_some,if_neg (fun hx => h0 (toList_nil.1 hx)),if_pos (by rw [y24]; omega),fin_big us i s (by omega)]
    rfl
end
open Classical in
noncomputable def progT (ts : List ITy) (rs : List IRl) (us : List IRu) : List UInt8 := if (∀ x ∈ rs,MdOk x) then fin us 0 (flat tTy ts ++ flat tRl rs) else []
def FewPr (ts : List ITy) (rs : List IRl) (us : List IRu) : Prop := mL mIT ts + mL mIR rs ≤ 1048576 ∧ FewU us
theorem impl_prog (ts : List ITy) (rs : List IRl) (us : List IRu) (hw : FewPr ts rs us) : Ev (fun k => impl_ProgText.f k ts rs us) (B (progT ts rs us)) := by
 obtain ⟨h1,h2⟩ := hw
 have f1 := flat_le tTy mIT 5 10 tTy_le ts
 have f2 := flat_le tRl mIR 2 15 tRl_le rs
 unfold mL at h1
 have hr := i2_ev ts rs us (by omega) (fun x hx => by have := mL_mem mIR rs x hx; omega) (progT ts rs us) rs.length 0 (flat tTy ts) (by omega) (by rw [List.drop_zero,List.length_append]; omega)
  (fun hx => by
   rw [List.drop_zero] at hx ⊢
   have := i3_ev us h2 us.length 0 (flat tTy ts ++ flat tRl rs) (by omega) (by rw [List.length_append]; omega)
   unfold progT
   rw [if_pos hx]
   exact this)
  (fun hx => by
   rw [List.drop_zero] at hx
   unfold progT
   rw [if_neg hx])
 have ht := i0_ev ts rs us (by omega) (fun t ht => by have := mL_mem mIT ts t ht; omega) (progT ts rs us) ts.length 0 [] (by omega) (by rw [List.drop_zero,List.nil_append]; omega) (by
  rw [List.drop_zero,List.nil_append]
  exact hr)
 obtain ⟨K,ht⟩ := ht
 refine ⟨K,fun k hk => ?_⟩
 have e := ht k hk
 simp only [] at e
 show impl_ProgText.f k ts rs us = _
 unfold impl_ProgText.f z4_.f
 have e2 : z4_.l0 k (⟨#[]⟩ : ByteArray) ts (ts.length : Int) 0 ts rs us = some (B (progT ts rs us)) := e
 rw [e2,Option.bind_some]
section
variable (ts : List ITy) (rs : List IRl) (us : List IRu)
theorem s3_big (s : List UInt8) (i : Nat) (h : 3000 < s.length) : Ev (fun k => z6_.l3 k (B s) (i : Int) ts rs us) (B []) := by
 refine y14 ⟨1,fun m hm => ?_⟩
 obtain ⟨m,rfl⟩ : ∃ p,m = p + 1 := ⟨m - 1,by omega⟩
 have h7 : z6_.j7 (m + 1) (B s) (i : Int) false ts rs us = some (B []) := by
  rw [z6_.j7,if_neg (by decide),if_pos (by rw [y24]; omega)]
  rfl
 rw [z6_.l3]
 by_cases hi : (i : Int) < (us.length : Int)
 ·rw [if_pos hi,decide_eq_false (by rw [y24]; omega)]
  exact h7
 ·rw [if_neg hi]
  exact h7
theorem s2_big (s : List UInt8) (i : Nat) (h : 3000 < s.length) : Ev (fun k => z6_.l2 k (B s) (i : Int) ts rs us) (B []) := by
 obtain ⟨K,h3⟩ := s3_big ts rs us s 0 h
 refine y14 ⟨K + 1,fun m hm => ?_⟩
 obtain ⟨m,rfl⟩ : ∃ p,m = p + 1 := ⟨m - 1,by omega⟩
 have h5 : z6_.j5 (m + 1) (B s) (i : Int) false ts rs us = some (B []) := by
  rw [z6_.j5,if_neg (by decide)]
  exact h3 m (by omega)
 rw [z6_.l2]
 by_cases hi : (i : Int) < (rs.length : Int)
 ·rw [if_pos hi,decide_eq_false (by rw [y24]; omega)]
  exact h5
 ·rw [if_neg hi]
  exact h5
theorem s0_big (s : List UInt8) (i : Nat) (h : 3000 < s.length) : Ev (fun k => z6_.l0 k (B s) (i : Int) ts rs us) (B []) := by
 obtain ⟨K,h3⟩ := s2_big ts rs us s 0 h
 refine y14 ⟨K + 1,fun m hm => ?_⟩
 obtain ⟨m,rfl⟩ : ∃ p,m = p + 1 := ⟨m - 1,by omega⟩
 have h5 : z6_.j1 (m + 1) (B s) (i : Int) false ts rs us = some (B []) := by
  rw [z6_.j1,if_neg (by decide)]
  exact h3 m (by omega)
 rw [z6_.l0]
 by_cases hi : (i : Int) < (ts.length : Int)
 ·rw [if_pos hi,decide_eq_false (by rw [y24]; omega)]
  exact h5
 ·rw [if_neg hi]
  exact h5
theorem s1_big (s : List UInt8) (i j : Nat) (hi : i < ts.length) (hn : ts.length ≤ 1048576) (h : 3000 < s.length) (hl : s.length ≤ 70368744177664) : Ev (fun k => z6_.l1 k (B s) (i : Int) (j : Int) ts rs us) (B []) := by
 obtain ⟨K,h3⟩ := s0_big ts rs us (s ++ [46,10]) (i + 1) (by rw [List.length_append]; omega)
 refine y14 ⟨K + 1,fun m hm => ?_⟩
 obtain ⟨m,rfl⟩ : ∃ p,m = p + 1 := ⟨m - 1,by omega⟩
 have h5 : z6_.j3 (m + 1) (B s) (i : Int) (j : Int) false ts rs us = some (B []) := by
  rw [z6_.j3,if_neg (by decide),if_pos (by rw [y24]; omega),step_i (by omega)]
  show z6_.l0 m (B s ++ B [46,10]) _ ts rs us = _
  rw [y2]
  exact h3 m (by omega)
 rw [z6_.l1,if_pos (by omega),if_pos (by omega)]
 by_cases hj : (j : Int) < (((y21 ts (i : Int)).f1).length : Int)
 ·rw [if_pos hj,decide_eq_false (by rw [y24]; omega)]
  exact h5
 ·rw [if_neg hj]
  exact h5
theorem sl_l (xs : List ByteArray) (hn : xs.length ≤ 1048576) (hs : ∀ x ∈ xs,x.size ≤ 1048576) : ∀ (q i : Nat) (s : List UInt8),i + q = xs.length → s.length ≤ 3000 + 1048578 →
  ∃ y,Ev (fun k => spec_l04List.l0 k xs (B s) (i : Int)) (B y) ∧ y.length ≤ 3000 + 1048578 ∧ ((s ++ (if i = 0 then tJ xs else Lib.joinTail [44,32] ((xs.map L).drop i))).length ≤ 3000 → y = s ++ (if i = 0 then tJ xs else Lib.joinTail [44,32] ((xs.map L).drop i))) ∧ (3000 < (s ++ (if i = 0 then tJ xs else Lib.joinTail [44,32] ((xs.map L).drop i))).length → 3000 < y.length)
 | q,i,s,h,hl => by
  have hstop : ∀ m,spec_l04List.j1 (m + 1) xs (B s) (i : Int) false = some (B s) := fun m => by
   rw [spec_l04List.j1,if_neg (by decide)]
  by_cases hi : i < xs.length
  ·by_cases h3 : s.length ≤ 3000
   ·match q,h with
    | 0,h => exact absurd h (by omega)
    | q + 1,h =>
    have hsi := hs _ (List.getElem_mem hi)
    have hL : (L xs[i]).length = xs[i].size := L_length _
    have hsl : (if i = 0 then [] else [44,32] : List UInt8).length ≤ 2 := by
     by_cases h0 : i = 0
     ·rw [if_pos h0]
      decide
     ·rw [if_neg h0]
      decide
    have hdec : (if i = 0 then tJ xs else Lib.joinTail [44,32] ((xs.map L).drop i)) = (if i = 0 then [] else [44,32]) ++ L xs[i] ++ Lib.joinTail [44,32] ((xs.map L).drop (i + 1)) := by
     by_cases h0 : i = 0
     ·subst h0
      rw [if_pos rfl,if_pos rfl]
      unfold tJ
      cases xs with
      | nil => exact absurd hi (by decide)
      | cons a b =>
       rw [List.map_cons,Lib.join_cons]
       rfl
     ·rw [if_neg h0,if_neg h0,List.drop_eq_getElem_cons (by rw [List.length_map]; exact hi),List.getElem_map]
      simp [Lib.joinTail]
    obtain ⟨y,⟨K,hy⟩,hyl,hy1,hy2⟩ := sl_l xs hn hs q (i + 1) (s ++ (if i = 0 then [] else [44,32]) ++ L xs[i]) (by omega) (by
     rw [List.length_append,List.length_append]
     omega)
    rw [if_neg (Nat.succ_ne_zero i)] at hy1 hy2
    refine ⟨y,y14 ⟨K + 1,fun m hm => ?_⟩,hyl, ?_, ?_⟩
    ·obtain ⟨m,rfl⟩ : ∃ p,m = p + 1 := ⟨m - 1,by omega⟩
     have e := hy m (by omega)
     simp only [] at e
     have z2 : (⟨#[44,32]⟩ : ByteArray).size = 2 := rfl
     rw [spec_l04List.l0,if_pos (by omega),decide_eq_true (by rw [y24]; omega),spec_l04List.j1,if_pos rfl]
     by_cases h0 : i = 0
     ·rw [if_pos h0,List.append_nil] at e
      rw [if_neg (by omega),if_pos (by omega),if_pos (by omega),rdOf_get xs i hi,if_pos (by rw [y24]; omega),step_i (by omega),app_r]
      exact e
     ·rw [if_neg h0] at e
      rw [if_pos (by omega),if_pos (by rw [y24]; omega),if_pos (by omega),if_pos (by omega),rdOf_get xs i hi,if_pos (by rw [ByteArray.size_append,y24,z2]; omega),step_i (by omega)]
      show spec_l04List.l0 m xs (B s ++ B [44,32] ++ xs[i]) _ = _
      rw [y2,app_r]
      exact e
    ·intro hx
     rw [hdec] at hx ⊢
     rw [← List.append_assoc,← List.append_assoc] at hx ⊢
     exact hy1 hx
    ·intro hx
     rw [hdec] at hx
     rw [← List.append_assoc,← List.append_assoc] at hx
     exact hy2 hx
   ·refine ⟨s,y14 ⟨1,fun m hm => ?_⟩,hl,fun hx => ?_,fun _ => by omega⟩
    ·obtain ⟨m,rfl⟩ : ∃ p,m = p + 1 := ⟨m - 1,by omega⟩
     rw [spec_l04List.l0,if_pos (by omega),decide_eq_false (by rw [y24]; omega)]
     exact hstop m
    ·rw [List.length_append] at hx
     omega
  ·have hnil : (if i = 0 then tJ xs else Lib.joinTail [44,32] ((xs.map L).drop i)) = [] := by
    by_cases h0 : i = 0
    ·have : xs = [] := List.length_eq_zero_iff.1 (by omega)
     rw [if_pos h0,this]
     rfl
    ·rw [if_neg h0,List.drop_of_length_le (by rw [List.length_map]; omega)]
     rfl
   rw [hnil,List.append_nil]
   refine ⟨s,y14 ⟨1,fun m hm => ?_⟩,hl,fun _ => rfl,fun hx => hx⟩
   obtain ⟨m,rfl⟩ : ∃ p,m = p + 1 := ⟨m - 1,by omega⟩
   rw [spec_l04List.l0,if_neg (by omega)]
   exact hstop m
theorem list_ev (xs : List ByteArray) (hm : mS xs ≤ 1048576) : ∃ y,Ev (fun k => spec_l04List.f k xs) (B y) ∧ y.length ≤ 3000 + 1048578 ∧ ((tJ xs).length ≤ 3000 → y = tJ xs) ∧ (3000 < (tJ xs).length → 3000 < y.length) := by
 unfold mS mL at hm
 obtain ⟨y,h1,h2,h3,h4⟩ := sl_l xs (by omega) (fun x hx => by have := mL_mem ByteArray.size xs x hx; omega) xs.length 0 [] (by omega) (by decide)
 rw [if_pos rfl,List.nil_append] at h3 h4
 exact ⟨y,h1,h2,h3,h4⟩
theorem conJ_at (cs : List ICon) (j : Nat) (h : j < cs.length) : (if j = 0 then Lib.join (cs.map tCon) [32,124,32] else Lib.joinTail [32,124,32] ((cs.map tCon).drop j)) = (if j = 0 then [] else [32,124,32]) ++ tCon cs[j] ++ Lib.joinTail [32,124,32] ((cs.map tCon).drop (j + 1)) := by
 by_cases h0 : j = 0
 ·subst h0
  rw [if_pos rfl,if_pos rfl]
  cases cs with
  | nil => exact absurd h (by decide)
  | cons a b =>
   rw [List.map_cons,Lib.join_cons]
   rfl
 ·rw [if_neg h0,if_neg h0,List.drop_eq_getElem_cons (by rw [List.length_map]; exact h),List.getElem_map]
  simp [Lib.joinTail]
theorem conJ_end (cs : List ICon) : (if cs.length = 0 then Lib.join (cs.map tCon) [32,124,32] else Lib.joinTail [32,124,32] ((cs.map tCon).drop cs.length)) = [] := by
 by_cases h0 : cs.length = 0
 ·have : cs = [] := List.length_eq_zero_iff.1 h0
  rw [if_pos h0,this]
  rfl
 ·rw [if_neg h0,List.drop_of_length_le (by rw [List.length_map]; exact Nat.le_refl _)]
  rfl
theorem st1_ev (hn : ts.length ≤ 1048576) (i : Nat) (hi : i < ts.length) (hc : ts[i].f1.length ≤ 1048576) (hm : ∀ c ∈ ts[i].f1,mS c.f1 ≤ 1048576 ∧ c.f0.size ≤ 1048576) (tl : List UInt8) (r : List UInt8)
  (ih : ∀ s : List UInt8,s.length ≤ 35184372088832 → ((s ++ tl).length ≤ 3000 → Ev (fun k => z6_.l2 k (B (s ++ tl)) 0 ts rs us) (B r)) → (3000 < (s ++ tl).length → r = []) → Ev (fun k => z6_.l0 k (B s) ((i + 1 : Nat) : Int) ts rs us) (B r)) :
  ∀ (q j : Nat) (s : List UInt8),j + q = ts[i].f1.length → s.length ≤ 8796093022208 →
  ((s ++ (if j = 0 then Lib.join (ts[i].f1.map tCon) [32,124,32] else Lib.joinTail [32,124,32] ((ts[i].f1.map tCon).drop j)) ++ [46,10] ++ tl).length ≤ 3000 → Ev (fun k => z6_.l2 k (B (s ++ (if j = 0 then Lib.join (ts[i].f1.map tCon) [32,124,32] else Lib.joinTail [32,124,32] ((ts[i].f1.map tCon).drop j)) ++ [46,10] ++ tl)) 0 ts rs us) (B r)) →
  (3000 < (s ++ (if j = 0 then Lib.join (ts[i].f1.map tCon) [32,124,32] else Lib.joinTail [32,124,32] ((ts[i].f1.map tCon).drop j)) ++ [46,10] ++ tl).length → r = []) →
  Ev (fun k => z6_.l1 k (B s) (i : Int) (j : Int) ts rs us) (B r)
 | 0,j,s,h,hl,h1,h2 => by
  obtain rfl : j = ts[i].f1.length := h
  have hrd : y21 ts (i : Int) = ts[i] := getD_at _ ts i hi
  rw [conJ_end,List.append_nil] at h1 h2
  obtain ⟨K,hx⟩ := ih (s ++ [46,10]) (by rw [List.length_append]; show _ + 2 ≤ _; omega) h1 h2
  refine y14 ⟨K + 1,fun m hm => ?_⟩
  obtain ⟨m,rfl⟩ : ∃ p,m = p + 1 := ⟨m - 1,by omega⟩
  rw [z6_.l1,if_pos (by omega),if_pos (by omega),hrd,if_neg (by omega),z6_.j3,if_neg (by decide),if_pos (by rw [y24]; omega),step_i (by omega)]
  show z6_.l0 m (B s ++ B [46,10]) _ ts rs us = _
  rw [y2]
  exact hx m (by omega)
 | q + 1,j,s,h,hl,h1,h2 => by
  have hj : j < ts[i].f1.length := by omega
  have hrd : y21 ts (i : Int) = ts[i] := getD_at _ ts i hi
  have hrc : y22 ts[i].f1 (j : Int) = ts[i].f1[j] := getD_at _ ts[i].f1 j hj
  by_cases h3 : s.length ≤ 3000
  ·have hmj := hm _ (List.getElem_mem hj)
   have hL : (L ts[i].f1[j].f0).length = ts[i].f1[j].f0.size := L_length _
   rw [conJ_at ts[i].f1 j hj] at h1 h2
   have hsep : (if j = 0 then [] else [32,124,32] : List UInt8).length ≤ 3 := by
    by_cases h0 : j = 0
    ·rw [if_pos h0]
     decide
    ·rw [if_neg h0]
     decide
   -- the text so far
   have hs1 : ∀ z : ByteArray,z = (if j = 0 then B s else B s ++ (⟨#[32,124,32]⟩ : ByteArray)) ++ ts[i].f1[j].f0 → z = B (s ++ (if j = 0 then [] else [32,124,32]) ++ L ts[i].f1[j].f0) := by
    intro z hz
    by_cases h0 : j = 0
    ·rw [if_pos h0] at hz
     rw [if_pos h0,hz,app_r,List.append_nil]
    ·rw [if_neg h0] at hz
     rw [if_neg h0,hz]
     show B s ++ B [32,124,32] ++ _ = _
     rw [y2,app_r]
   by_cases h0 : ts[i].f1[j].f1 = []
   ·have ht : tCon ts[i].f1[j] = L ts[i].f1[j].f0 := if_pos h0
    rw [ht] at h1 h2
    have hgo := st1_ev hn i hi hc hm tl r ih q (j + 1) (s ++ (if j = 0 then [] else [32,124,32]) ++ L ts[i].f1[j].f0) (by omega) (by
     rw [List.length_append,List.length_append]
     omega) (by
     rw [if_neg (Nat.succ_ne_zero j)]
     simpa only [List.append_assoc] using h1) (by
     rw [if_neg (Nat.succ_ne_zero j)]
     simpa only [List.append_assoc] using h2)
    obtain ⟨K,hgo⟩ := hgo
    refine y14 ⟨K + 1,fun m hm2 => ?_⟩
    obtain ⟨m,rfl⟩ : ∃ p,m = p + 1 := ⟨m - 1,by omega⟩
    have e := hgo m (by omega)
    simp only [] at e
    have z3 : (⟨#[32,124,32]⟩ : ByteArray).size = 3 := rfl
    rw [z6_.l1,if_pos (by omega),if_pos (by omega),hrd,if_pos (by omega),decide_eq_true (by rw [y24]; omega),z6_.j3,if_pos rfl,if_pos (by omega),if_pos (by omega),if_pos (by omega),hrd,if_pos (by omega),hrc]
    by_cases hj0 : j = 0
    ·rw [if_neg (by omega),if_pos (by rw [y24]; omega),if_neg (by rw [h0]; decide),step_i (by omega),hs1 (B s ++ ts[i].f1[j].f0) (by rw [if_pos hj0])]
     exact e
    ·rw [if_pos (by omega),if_pos (by rw [y24]; omega),if_pos (by rw [ByteArray.size_append,y24,z3]; omega),if_neg (by rw [h0]; decide),step_i (by omega),hs1 (B s ++ (⟨#[32,124,32]⟩ : ByteArray) ++ ts[i].f1[j].f0) (by rw [if_neg hj0])]
     exact e
   ·have ht : tCon ts[i].f1[j] = L ts[i].f1[j].f0 ++ 40 :: (tJ ts[i].f1[j].f1 ++ [41]) := if_neg h0
    have hpos : 0 < ts[i].f1[j].f1.length := List.length_pos_iff.2 h0
    rw [ht] at h1 h2
    obtain ⟨y,⟨K1,hy⟩,hyl,hy1,hy2⟩ := list_ev ts[i].f1[j].f1 hmj.1
    -- what comes of the text with y in it
    have hgo : Ev (fun k => z6_.l1 k (B (s ++ (if j = 0 then [] else [32,124,32]) ++ L ts[i].f1[j].f0 ++ [40] ++ y ++ [41])) (i : Int) ((j + 1 : Nat) : Int) ts rs us) (B r) := by
     by_cases hle : (tJ ts[i].f1[j].f1).length ≤ 3000
     ·obtain rfl := hy1 hle
      refine st1_ev hn i hi hc hm tl r ih q (j + 1) _ (by omega) (by
       simp only [List.length_append,List.length_cons,List.length_nil]
       omega) ?_ ?_
      ·rw [if_neg (Nat.succ_ne_zero j)]
       simpa only [List.append_assoc,List.cons_append,List.nil_append] using h1
      ·rw [if_neg (Nat.succ_ne_zero j)]
       simpa only [List.append_assoc,List.cons_append,List.nil_append] using h2
     ·have hyb := hy2 (by omega)
      rw [h2 (by
       simp only [List.length_append,List.length_cons,List.length_nil]
       omega)]
      exact s1_big ts rs us _ i (j + 1) hi hn (by
       simp only [List.length_append,List.length_cons,List.length_nil]
       omega) (by
       simp only [List.length_append,List.length_cons,List.length_nil]
       omega)
    obtain ⟨K2,hgo⟩ := hgo
    refine y14 ⟨max K1 K2 + 1,fun m hm2 => ?_⟩
    obtain ⟨m,rfl⟩ : ∃ p,m = p + 1 := ⟨m - 1,by omega⟩
    have e := hgo m (by omega)
    have ey := hy m (by omega)
    simp only [] at e ey
    have z3 : (⟨#[32,124,32]⟩ : ByteArray).size = 3 := rfl
    have z1 : (⟨#[40]⟩ : ByteArray).size = 1 := rfl
    rw [z6_.l1,if_pos (by omega),if_pos (by omega),hrd,if_pos (by omega),decide_eq_true (by rw [y24]; omega),z6_.j3,if_pos rfl,if_pos (by omega),if_pos (by omega),if_pos (by omega),hrd,if_pos (by omega),hrc]
    have hfin : ∀ z : ByteArray,z = B (s ++ (if j = 0 then [] else [32,124,32]) ++ L ts[i].f1[j].f0) → z ++ (⟨#[40]⟩ : ByteArray) ++ B y ++ (⟨#[41]⟩ : ByteArray) = B (s ++ (if j = 0 then [] else [32,124,32]) ++ L ts[i].f1[j].f0 ++ [40] ++ y ++ [41]) := by
     intro z hz
     rw [hz]
     show B _ ++ B [40] ++ B y ++ B [41] = _
     rw [y2,y2,y2]
    by_cases hj0 : j = 0
    ·rw [if_neg (by omega),if_pos (by rw [y24]; omega),if_pos (by omega),if_pos (by rw [ByteArray.size_append,y24]; omega),ey,Option.bind_some,if_pos (by rw [ByteArray.size_append,ByteArray.size_append,y24,y24,z1]; omega),if_pos (by rw [ByteArray.size_append,ByteArray.size_append,ByteArray.size_append,y24,y24,z1]; omega),step_i (by omega),
      hfin (B s ++ ts[i].f1[j].f0) (hs1 _ (by rw [if_pos hj0]))]
     exact e
    ·rw [if_pos (by omega),if_pos (by rw [y24]; omega),if_pos (by rw [ByteArray.size_append,y24,z3]; omega),if_pos (by omega),if_pos (by rw [ByteArray.size_append,ByteArray.size_append,y24,z3]; omega),ey,Option.bind_some,if_pos (by rw [ByteArray.size_append,ByteArray.size_append,ByteArray.size_append,y24,y24,z1,z3]; omega),if_pos (by rw [ByteArray.size_append,ByteArray.size_append,ByteArray.size_append,ByteArray.size_append,y24,y24,z1,z3]; omega),step_i (by omega),
      hfin (B s ++ (⟨#[32,124,32]⟩ : ByteArray) ++ ts[i].f1[j].f0) (hs1 _ (by rw [if_neg hj0]))]
     exact e
  ·rw [h2 (by
    rw [List.length_append,List.length_append,List.length_append]
    omega)]
   exact s1_big ts rs us s i j hi hn (by omega) (by omega)
theorem st0_ev (hn : ts.length ≤ 1048576) (hm : ∀ t ∈ ts,mIT t ≤ 1048576) (r : List UInt8) : ∀ (q i : Nat) (s : List UInt8),i + q = ts.length → s.length ≤ 35184372088832 →
  ((s ++ flat tTy (ts.drop i)).length ≤ 3000 → Ev (fun k => z6_.l2 k (B (s ++ flat tTy (ts.drop i))) 0 ts rs us) (B r)) → (3000 < (s ++ flat tTy (ts.drop i)).length → r = []) → Ev (fun k => z6_.l0 k (B s) (i : Int) ts rs us) (B r)
 | q,i,s,h,hl,h1,h2 => by
  by_cases h3 : s.length ≤ 3000
  ·by_cases hi : i < ts.length
   ·match q,h with
    | 0,h => exact absurd h (by omega)
    | q + 1,h =>
    have hrd : y21 ts (i : Int) = ts[i] := getD_at _ ts i hi
    have hmi := hm _ (List.getElem_mem hi)
    have hmi2 : mIT ts[i] = ts[i].f0.size + (ts[i].f1.length + (ts[i].f1.map mIC).sum) := rfl
    have hL : (L ts[i].f0).length = ts[i].f0.size := L_length _
    rw [flat_at tTy ts i hi] at h1 h2
    have htt : tTy ts[i] = [116,121,112,101,32] ++ L ts[i].f0 ++ [32,61,32] ++ Lib.join (ts[i].f1.map tCon) [32,124,32] ++ [46,10] := rfl
    rw [htt] at h1 h2
    have e1 := st1_ev ts rs us hn i hi (by omega) (fun c hc => by
     have := mL_mem mIC ts[i].f1 c hc
     have h2 : mIC c = c.f0.size + mS c.f1 := rfl
     omega) (flat tTy (ts.drop (i + 1))) r (fun s hs => st0_ev hn hm r q (i + 1) s (by omega) hs) ts[i].f1.length 0 (s ++ [116,121,112,101,32] ++ L ts[i].f0 ++ [32,61,32]) (by omega) (by
     simp only [List.length_append,List.length_cons,List.length_nil]
     omega) (by
     rw [if_pos rfl]
     simpa only [List.append_assoc] using h1) (by
     rw [if_pos rfl]
     simpa only [List.append_assoc] using h2)
    obtain ⟨K,e1⟩ := e1
    refine y14 ⟨K + 1,fun m hm2 => ?_⟩
    obtain ⟨m,rfl⟩ : ∃ p,m = p + 1 := ⟨m - 1,by omega⟩
    have e := e1 m (by omega)
    simp only [] at e
    have z5 : (⟨#[116,121,112,101,32]⟩ : ByteArray).size = 5 := rfl
    rw [z6_.l0,if_pos (by omega),decide_eq_true (by rw [y24]; omega),z6_.j1,if_pos rfl,if_pos (by rw [y24]; omega),if_pos (by omega),if_pos (by omega),hrd,if_pos (by rw [ByteArray.size_append,y24,z5]; omega),if_pos (by rw [ByteArray.size_append,ByteArray.size_append,y24,z5]; omega)]
    have hx : B s ++ (⟨#[116,121,112,101,32]⟩ : ByteArray) ++ ts[i].f0 ++ (⟨#[32,61,32]⟩ : ByteArray) = B (s ++ [116,121,112,101,32] ++ L ts[i].f0 ++ [32,61,32]) := by
     show B s ++ B [116,121,112,101,32] ++ ts[i].f0 ++ B [32,61,32] = _
     rw [y2,app_r,y2]
    rw [hx]
    exact e
   ·obtain rfl : i = ts.length := by omega
    rw [flat_end,List.append_nil] at h1
    obtain ⟨K,h1⟩ := h1 h3
    refine y14 ⟨K + 1,fun m hm2 => ?_⟩
    obtain ⟨m,rfl⟩ : ∃ p,m = p + 1 := ⟨m - 1,by omega⟩
    rw [z6_.l0,if_neg (by omega),z6_.j1,if_neg (by decide)]
    exact h1 m (by omega)
  ·rw [h2 (by rw [List.length_append]; omega)]
   exact s0_big ts rs us s i (by omega)
theorem smode_f (m : Int) (h1 : 0 ≤ m ∧ m ≤ 3) : rdOf ByteArray.empty [(⟨#[]⟩ : ByteArray),(⟨#[32,105,110,112,117,116]⟩ : ByteArray),(⟨#[32,111,117,116,112,117,116]⟩ : ByteArray),(⟨#[32,105,110,108,105,110,101]⟩ : ByteArray)] m = B (mW m) := by
 rcases (show m = 0 ∨ m = 1 ∨ m = 2 ∨ m = 3 by omega) with rfl | rfl | rfl | rfl
 ·rfl
 ·rfl
 ·rfl
 ·rfl
theorem st2_ev (hn : rs.length ≤ 1048576) (hm : ∀ x ∈ rs,mIR x ≤ 1048576) (r : List UInt8) : ∀ (q i : Nat) (s : List UInt8),i + q = rs.length → s.length ≤ 35184372088832 →
  ((∀ x ∈ rs.drop i,MdOk x) ∧ (s ++ flat tRl (rs.drop i)).length ≤ 3000 → Ev (fun k => z6_.l3 k (B (s ++ flat tRl (rs.drop i))) 0 ts rs us) (B r)) → (¬ ((∀ x ∈ rs.drop i,MdOk x) ∧ (s ++ flat tRl (rs.drop i)).length ≤ 3000) → r = []) →
  Ev (fun k => z6_.l2 k (B s) (i : Int) ts rs us) (B r)
 | q,i,s,h,hl,h1,h2 => by
  by_cases h3 : s.length ≤ 3000
  ·by_cases hi : i < rs.length
   ·match q,h with
    | 0,h => exact absurd h (by omega)
    | q + 1,h =>
    have hrd : y23 rs (i : Int) = rs[i] := getD_at _ rs i hi
    have hmi := hm _ (List.getElem_mem hi)
    have hmi2 : mIR rs[i] = rs[i].f0.size + mS rs[i].f1 := rfl
    have hL : (L rs[i].f0).length = rs[i].f0.size := L_length _
    rw [flat_at tRl rs i hi,← List.append_assoc] at h1 h2
    rw [List.drop_eq_getElem_cons hi] at h1 h2
    by_cases hmd : MdOk rs[i]
    ·obtain ⟨y,⟨K1,hy⟩,hyl,hy1,hy2⟩ := list_ev rs[i].f1 (by omega)
     have hml := mW_le rs[i].f2
     have hgo : Ev (fun k => z6_.l2 k (B (s ++ [114,101,108,32] ++ L rs[i].f0 ++ [40] ++ y ++ [41] ++ mW rs[i].f2 ++ [46,10])) ((i + 1 : Nat) : Int) ts rs us) (B r) := by
      by_cases hle : (tJ rs[i].f1).length ≤ 3000
      ·obtain rfl := hy1 hle
       have hx : s ++ [114,101,108,32] ++ L rs[i].f0 ++ [40] ++ tJ rs[i].f1 ++ [41] ++ mW rs[i].f2 ++ [46,10] = s ++ tRl rs[i] := by
        unfold tRl
        simp only [List.append_assoc]
       rw [hx]
       refine st2_ev hn hm r q (i + 1) _ (by omega) (by
        have := tRl_le rs[i]
        rw [List.length_append]
        omega) (fun hz => h1 ⟨List.forall_mem_cons.2 ⟨hmd,hz.1⟩,hz.2⟩) (fun hz => h2 (fun hw => hz ⟨(List.forall_mem_cons.1 hw.1).2,hw.2⟩))
      ·have hyb := hy2 (by omega)
       rw [h2 (fun hw => by
        have := hw.2
        unfold tRl at this
        simp only [List.length_append,List.length_cons,List.length_nil] at this
        omega)]
       exact s2_big ts rs us _ (i + 1) (by
        simp only [List.length_append,List.length_cons,List.length_nil]
        omega)
     obtain ⟨K2,hgo⟩ := hgo
     refine y14 ⟨max K1 K2 + 1,fun m hm2 => ?_⟩
     obtain ⟨m,rfl⟩ : ∃ p,m = p + 1 := ⟨m - 1,by omega⟩
     have e := hgo m (by omega)
     have ey := hy m (by omega)
     simp only [] at e ey
     have z4 : (⟨#[114,101,108,32]⟩ : ByteArray).size = 4 := rfl
     have z1 : (⟨#[40]⟩ : ByteArray).size = 1 := rfl
     have z1' : (⟨#[41]⟩ : ByteArray).size = 1 := rfl
     rw [z6_.l2,if_pos (by omega),decide_eq_true (by rw [y24]; omega),z6_.j5,if_pos rfl,if_pos (by omega),if_pos (by omega),hrd,btw_f,Option.bind_some,if_pos (decide_eq_true (show 0 ≤ rs[i].f2 ∧ rs[i].f2 ≤ 3 from hmd)),if_pos (by rw [y24]; omega),if_pos (by rw [ByteArray.size_append,y24,z4]; omega),if_pos (by rw [ByteArray.size_append,ByteArray.size_append,y24,z4]; omega),ey,Option.bind_some,
      if_pos (by rw [ByteArray.size_append,ByteArray.size_append,ByteArray.size_append,y24,y24,z4,z1]; omega),if_pos (by rw [ByteArray.size_append,ByteArray.size_append,ByteArray.size_append,ByteArray.size_append,y24,y24,z4,z1]; omega),Option.bind_some,if_pos hmd.1,
      if_pos (show rs[i].f2 < (([(⟨#[]⟩ : ByteArray),(⟨#[32,105,110,112,117,116]⟩ : ByteArray),(⟨#[32,111,117,116,112,117,116]⟩ : ByteArray),(⟨#[32,105,110,108,105,110,101]⟩ : ByteArray)].length : Nat) : Int) from Int.lt_of_le_of_lt hmd.2 (by decide)),smode_f _ hmd]
     have hx : B s ++ (⟨#[114,101,108,32]⟩ : ByteArray) ++ rs[i].f0 ++ (⟨#[40]⟩ : ByteArray) ++ B y ++ (⟨#[41]⟩ : ByteArray) = B (s ++ [114,101,108,32] ++ L rs[i].f0 ++ [40] ++ y ++ [41]) := by
      show B s ++ B [114,101,108,32] ++ rs[i].f0 ++ B [40] ++ B y ++ B [41] = _
      rw [y2,app_r,y2,y2,y2]
     have hxl : (s ++ [114,101,108,32] ++ L rs[i].f0 ++ [40] ++ y ++ [41]).length ≤ 4000000 := by
      simp only [List.length_append,List.length_cons,List.length_nil]
      omega
     rw [hx,if_pos (by rw [y24,y24]; omega),y2,if_pos (by rw [y24,List.length_append]; omega),step_i (by omega)]
     show z6_.l2 m (B _ ++ B [46,10]) _ ts rs us = _
     rw [y2]
     exact e
    ·refine y14 ⟨1,fun m hm2 => ?_⟩
     obtain ⟨m,rfl⟩ : ∃ p,m = p + 1 := ⟨m - 1,by omega⟩
     rw [h2 (fun hw => hmd (List.forall_mem_cons.1 hw.1).1),z6_.l2,if_pos (by omega),decide_eq_true (by rw [y24]; omega),z6_.j5,if_pos rfl,if_pos (by omega),if_pos (by omega),hrd,btw_f,Option.bind_some,if_neg (fun hx => hmd (show 0 ≤ rs[i].f2 ∧ rs[i].f2 ≤ 3 from of_decide_eq_true hx))]
     rfl
   ·obtain rfl : i = rs.length := by omega
    rw [flat_end,List.append_nil,List.drop_length] at h1
    obtain ⟨K,h1⟩ := h1 ⟨fun x hx => (by cases hx),h3⟩
    refine y14 ⟨K + 1,fun m hm2 => ?_⟩
    obtain ⟨m,rfl⟩ : ∃ p,m = p + 1 := ⟨m - 1,by omega⟩
    rw [z6_.l2,if_neg (by omega),z6_.j5,if_neg (by decide)]
    exact h1 m (by omega)
  ·rw [h2 (fun hw => by
    have := hw.2
    rw [List.length_append] at this
    omega)]
   exact s2_big ts rs us s i (by omega)
theorem st3_ev (hu : FewU us) : ∀ (q i : Nat) (s : List UInt8),i + q = us.length → s.length ≤ 35184372088832 → Ev (fun k => z6_.l3 k (B s) (i : Int) ts rs us) (B (fin us i s))
 | q,i,s,h,hl => by
  by_cases h3 : s.length ≤ 3000
  ·by_cases hi : i < us.length
   ·match q,h with
    | 0,h => exact absurd h (by omega)
    | q + 1,h =>
    have hrd : y20 us (i : Int) = us[i] := getD_at _ us i hi
    obtain ⟨K1,g1⟩ := spec_ev us[i].f0 us[i].f1 us[i].f2 (hu.2 _ (List.getElem_mem hi))
    have g2 : ∀ m,K1 ≤ m → z7_.f m us[i].f0 us[i].f1.f0 us[i].f1.f1 us[i].f1.f2 us[i].f2 = some (B (rT us[i])) := fun m hm => g1 m hm
    have hul := hu.1
    have hr3 := rT_le us[i]
    by_cases h0 : rT us[i] = []
    ·refine y14 ⟨K1 + 1,fun m hm => ?_⟩
     obtain ⟨m,rfl⟩ : ∃ p,m = p + 1 := ⟨m - 1,by omega⟩
     rw [z6_.l3,if_pos (by omega),decide_eq_true (by rw [y24]; omega),z6_.j7,if_pos rfl,if_pos (by omega),if_pos (by omega),hrd,g2 m (by omega),Option.bind_some,if_pos (toList_nil.2 h0),fin_no us i hi s h0]
     rfl
    ·obtain ⟨K2,ih⟩ := st3_ev hu q (i + 1) (s ++ rN us[i]) (by omega) (by
      unfold rN
      rw [List.length_append,List.length_append]
      show _ + (_ + 1) ≤ _
      omega)
     refine y14 ⟨max K1 K2 + 1,fun m hm => ?_⟩
     obtain ⟨m,rfl⟩ : ∃ p,m = p + 1 := ⟨m - 1,by omega⟩
     have e2 := ih m (by omega)
     simp only [] at e2
     rw [z6_.l3,if_pos (by omega),decide_eq_true (by rw [y24]; omega),z6_.j7,if_pos rfl,if_pos (by omega),if_pos (by omega),hrd,g2 m (by omega),Option.bind_some,if_neg (fun hx => h0 (toList_nil.1 hx)),if_pos (by rw [y24,y24]; omega),if_pos (by rw [ByteArray.size_append,y24,y24]; omega),step_i (by omega),fin_at us i hi s h0]
     show z6_.l3 m (B s ++ B _ ++ B [10]) _ ts rs us = _
     rw [y2,y2,List.append_assoc]
     exact e2
   ·obtain rfl : i = us.length := by omega
    refine y14 ⟨1,fun m hm => ?_⟩
    obtain ⟨m,rfl⟩ : ∃ p,m = p + 1 := ⟨m - 1,by omega⟩
    rw [z6_.l3,if_neg (by omega),z6_.j7,if_neg (by decide),if_neg (by rw [y24]; omega),fin_end,if_pos h3]
  ·rw [fin_big us i s (by omega)]
   exact s3_big ts rs us s i (by omega)
end
theorem spec_prog (ts : List ITy) (rs : List IRl) (us : List IRu) (hw : FewPr ts rs us) : Ev (fun k => z6_.f k ts rs us) (B (progT ts rs us)) := by
 obtain ⟨h1,h2⟩ := hw
 have f1 := flat_le tTy mIT 5 10 tTy_le ts
 have f2 := flat_le tRl mIR 2 15 tRl_le rs
 unfold mL at h1
 have hr := st2_ev ts rs us (by omega) (fun x hx => by have := mL_mem mIR rs x hx; omega) (progT ts rs us) rs.length 0 (flat tTy ts) (by omega) (by omega)
  (fun hx => by
   rw [List.drop_zero] at hx ⊢
   have := st3_ev ts rs us h2 us.length 0 (flat tTy ts ++ flat tRl rs) (by omega) (by rw [List.length_append]; omega)
   unfold progT
   rw [if_pos hx.1]
   exact this)
  (fun hx => by
   rw [List.drop_zero] at hx
   unfold progT
   by_cases hm : ∀ x ∈ rs,MdOk x
   ·rw [if_pos hm]
    exact fin_big us 0 _ (by
     have : ¬ (flat tTy ts ++ flat tRl rs).length ≤ 3000 := fun h => hx ⟨hm,h⟩
     omega)
   ·rw [if_neg hm])
 have ht := st0_ev ts rs us (by omega) (fun t ht => by have := mL_mem mIT ts t ht; omega) (progT ts rs us) ts.length 0 [] (by omega) (by decide) (fun _ => by
  rw [List.drop_zero,List.nil_append]
  exact hr) (fun hx => by
  rw [List.drop_zero,List.nil_append] at hx
  unfold progT
  by_cases hm : ∀ x ∈ rs,MdOk x
  ·rw [if_pos hm]
   exact fin_big us 0 _ (by rw [List.length_append]; omega)
  ·rw [if_neg hm])
 exact ht
end Go.Proofs.Ytamjmldfifofbaa.QProgT
