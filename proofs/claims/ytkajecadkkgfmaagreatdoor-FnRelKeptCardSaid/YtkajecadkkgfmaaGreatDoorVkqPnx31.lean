-- Cut by prune.py, a program of this session, out of the texts of this claim: Lean checks it.
import Derived.Test.YtkajecadkkgfmaaGreatDoorVkqPnx0
import Derived.Test.YtkajecadkkgfmaaGreatDoorVkqPnx17
import Derived.Test.YtkajecadkkgfmaaGreatDoorVkqPnx19
section
namespace Go.Proofs.YtkajecadkkgfmaaGreatDoor.Pn
open Go.RowKit Go.Proofs.YtkajecadkkgfmaaGreatDoorW.PrintWords Go.Proofs.YtkajecadkkgfmaaGreatDoorW.PrintLast Go.Proofs.YtkajecadkkgfmaaGreatDoorW.PrintMore
attribute [local go_sem] max2_int min2_int max_two min_two max_three min_three max_four min_four   -- for this text's walks alone
set_option linter.unusedVariables false
set_option linter.unusedSimpArgs false
def slices_Equal_string_string.l0:Nat→List ByteArray→List ByteArray→Int→Int→Option (Bool)
 | 0,_,_,_,_=>none
 | k + 1,x0,x1,x12,x13=>if x13 < x12 then(if 0≤x13 then(if x13 < (x0.length:Int)then(if x13 < (x1.length:Int)then(if(rdOf ByteArray.empty x0 x13).toList=(rdOf ByteArray.empty x1 x13).toList then(slices_Equal_string_string.l0 k x0 x1 x12 (wrap64 (x13 + 1)))else(some false))else(none))else(none))else(none))else(some true)
def slices_Equal_string_string.f (k:Nat) (l0:List ByteArray) (l1:List ByteArray):Option (Bool):=if(l0.length:Int)=(l1.length:Int)then(slices_Equal_string_string.l0 k l0 l1 (l0.length:Int) 0)else(some false)
set_option maxHeartbeats 8000000 in
set_option maxRecDepth 100000 in
theorem slices_Equal_string_string.calls (k:Nat) (A0:Option Addr) (c0:Nat) (l0:List ByteArray) (A1:Option Addr) (c1:Nat) (l1:List ByteArray) (r:Bool) (w:World) (Av:Kd.C Kd.string w A0 l0.length l0) (Aw:l0.length≤c0) (Ay:Kd.C Kd.string w A1 l1.length l1) (Az:l1.length≤c1) (h:slices_Equal_string_string.f k l0 l1=some r) :
  Calls Tryz.prog 55 #[.slice A0 l0.length c0,.slice A1 l1.length c1] w fun e w'=>e=.returned (.bool r)∧y1 w w':=by
 have Bd:=y0.mk Av
 have Bj:=y0.mk Aw
 clear Av Aw
 have Be:=y0.mk Ay
 have Bk:=y0.mk Az
 clear Ay Az
 have H:(if(l0.length:Int)=(l1.length:Int)then(slices_Equal_string_string.l0 k l0 l1 (l0.length:Int) 0)else(some false))=some r:=h
 clear h
 by_cases c3:(l0.length:Int)=(l1.length:Int)
 ·rw [if_pos c3]at H
  have Ag:((l0.length:Int) == (l1.length:Int))=true:=beq_iff_eq.mpr c3
  have Ah:((l0.length:Int) != (l1.length:Int))=false:=bne_eq_false_iff_eq.mpr c3
  have Ai:(l0.length == l1.length)=true:=by first|simpa using c3|(simp at c3 ⊢;omega)
  clear c3
  have H':=y0.mk H
  clear H
  go_enter Tryz.func55,Tryz.ntmps55
  go_wp2
  repeat(go_quiet (fail);try go_wp2)
  go_loopg [13] k (fun kq Bf w'=>∃(Aa:Int),Bf=.int .i64 Aa∧y0 (slices_Equal_string_string.l0 kq l0 l1 (l0.length:Int) Aa=some r)∧y0 (kq≤k)∧y1 w w')
  case atStart=>exact⟨(0),qy2,H',⟨Nat.le_refl _⟩,by repeat(first|exact y1.refl _|apply y1.step)⟩
  case round =>
   clear H'
   (try clear Ag Ah Ai)
   obtain⟨Aa,rfl,HA,Ba,⟨m1,rfl⟩⟩:=hrel
   cases gk with
   | zero=>exact absurd HA.out (by simp [slices_Equal_string_string.l0])
   | succ k1 =>
    have H:=HA.out
    clear HA
    simp only [slices_Equal_string_string.l0]at H
    by_cases c4:Aa < (l0.length:Int)
    ·rw [if_pos c4]at H
     have Al:=decide_eq_true c4
     clear c4
     obtain⟨c5,H⟩:=qo H
     have Bg:decide (0≤Aa)=true:=decide_eq_true c5
     clear c5
     obtain⟨c6,H⟩:=qo H
     have Bh:decide (Aa < (l0.length:Int))=true:=decide_eq_true c6
     clear c6
     obtain⟨c7,H⟩:=qo H
     have Bi:decide (Aa < (l1.length:Int))=true:=decide_eq_true c7
     clear c7
     have Ac:0≤(Aa:Int):=of_decide_eq_true qy1
     have Ad:Aa < (l0.length:Int):=of_decide_eq_true qy1
     obtain⟨Bb,Am,Aj⟩:=Kd.at_string Bd.out Aa Ac Ad
     cases Am
     replace Ac:=eq_true Ac
     replace Ad:=eq_true Ad
     have Ae:0≤(Aa:Int):=of_decide_eq_true qy1
     have Af:Aa < (l1.length:Int):=of_decide_eq_true qy1
     obtain⟨Bc,Ap,Ak⟩:=Kd.at_string Be.out Aa Ae Af
     cases Ap
     replace Ae:=eq_true Ae
     replace Af:=eq_true Af
     by_cases c8:(rdOf ByteArray.empty l0 Aa).toList=(rdOf ByteArray.empty l1 Aa).toList
     ·rw [if_pos c8]at H
      have Aq:((rdOf ByteArray.empty l0 Aa).toList == (rdOf ByteArray.empty l1 Aa).toList)=true:=beq_iff_eq.mpr c8
      have Au:((rdOf ByteArray.empty l0 Aa).toList != (rdOf ByteArray.empty l1 Aa).toList)=false:=bne_eq_false_iff_eq.mpr c8
      clear c8
      have H':=y0.mk H
      clear H
      go_wp2
      repeat(go_quiet (fail);try go_wp2)
      go_roundg k1
      case measure=>have:=Ba.out;omega
      exact⟨(wrap64 (Aa + 1)),qy2,H',⟨by have:=Ba.out;omega⟩,by repeat(first|exact y1.refl _|apply y1.step)⟩
     ·rw [if_neg c8]at H
      have Aq:((rdOf ByteArray.empty l0 Aa).toList == (rdOf ByteArray.empty l1 Aa).toList)=false:=beq_eq_false_iff_ne.mpr c8
      have Au:((rdOf ByteArray.empty l0 Aa).toList != (rdOf ByteArray.empty l1 Aa).toList)=true:=bne_iff_ne.mpr c8
      obtain rfl:=Option.some.inj H
      go_wp2
      repeat(go_quiet (fail);try go_wp2)
      go_ret
      exact qf2
    ·rw [if_neg c4]at H
     have Al:=decide_eq_false c4
     clear c4
     obtain rfl:=Option.some.inj H
     go_wp2
     repeat(go_quiet (fail);try go_wp2)
     go_ret
     exact qf2
 ·rw [if_neg c3]at H
  have Ag:((l0.length:Int) == (l1.length:Int))=false:=beq_eq_false_iff_ne.mpr c3
  have Ah:((l0.length:Int) != (l1.length:Int))=true:=bne_iff_ne.mpr c3
  have Ai:(l0.length == l1.length)=false:=by first|simpa using c3|(simp at c3 ⊢;omega)
  obtain rfl:=Option.some.inj H
  go_enter Tryz.func55,Tryz.ntmps55
  go_wp2
  repeat(go_quiet (fail);try go_wp2)
  go_ret
  exact qf2
def laws_sameTexts.l0:Nat→List ByteArray→List ByteArray→Int→Option (Bool)
 | 0,_,_,_=>none
 | k + 1,x0,x1,x5=>if x5 < (x0.length:Int)then(if 0≤x5 then(if x5 < (x1.length:Int)then(if(rdOf ByteArray.empty x0 x5).toList=(rdOf ByteArray.empty x1 x5).toList then(laws_sameTexts.l0 k x0 x1 (wrap64 (x5 + 1)))else(some false))else(none))else(none))else(some true)
def laws_sameTexts.f (k:Nat) (l0:List ByteArray) (l1:List ByteArray):Option (Bool):=if(l0.length:Int)=(l1.length:Int)then(laws_sameTexts.l0 k l0 l1 0)else(some false)
set_option maxHeartbeats 8000000 in
set_option maxRecDepth 100000 in
theorem laws_sameTexts.calls (k:Nat) (A0:Option Addr) (c0:Nat) (l0:List ByteArray) (A1:Option Addr) (c1:Nat) (l1:List ByteArray) (r:Bool) (w:World) (Av:Kd.C Kd.string w A0 l0.length l0) (Aw:l0.length≤c0) (Ay:Kd.C Kd.string w A1 l1.length l1) (Az:l1.length≤c1) (h:laws_sameTexts.f k l0 l1=some r) :
  Calls Tryz.prog 23 #[.slice A0 l0.length c0,.slice A1 l1.length c1] w fun e w'=>e=.returned (.bool r)∧y1 w w':=by
 have Bd:=y0.mk Av
 have Bh:=y0.mk Aw
 clear Av Aw
 have Be:=y0.mk Ay
 have Bi:=y0.mk Az
 clear Ay Az
 have H:(if(l0.length:Int)=(l1.length:Int)then(laws_sameTexts.l0 k l0 l1 0)else(some false))=some r:=h
 clear h
 by_cases c3:(l0.length:Int)=(l1.length:Int)
 ·rw [if_pos c3]at H
  have Ag:((l0.length:Int) == (l1.length:Int))=true:=beq_iff_eq.mpr c3
  have Ah:((l0.length:Int) != (l1.length:Int))=false:=bne_eq_false_iff_eq.mpr c3
  have Ai:(l0.length == l1.length)=true:=by first|simpa using c3|(simp at c3 ⊢;omega)
  clear c3
  have H':=y0.mk H
  clear H
  go_enter Tryz.func23,Tryz.ntmps23
  go_wp2
  repeat(go_quiet (fail);try go_wp2)
  go_loopg [5] k (fun kq v5 w'=>∃(Aa:Int),v5=.int .i64 Aa∧y0 (laws_sameTexts.l0 kq l0 l1 Aa=some r)∧y0 (kq≤k)∧y1 w w')
  case atStart=>exact⟨(0),qy2,H',⟨Nat.le_refl _⟩,by repeat(first|exact y1.refl _|apply y1.step)⟩
  case round =>
   clear H'
   (try clear Ag Ah Ai)
   obtain⟨Aa,rfl,HA,Ba,⟨m1,rfl⟩⟩:=hrel
   cases gk with
   | zero=>exact absurd HA.out (by simp [laws_sameTexts.l0])
   | succ k1 =>
    have H:=HA.out
    clear HA
    simp only [laws_sameTexts.l0]at H
    by_cases c4:Aa < (l0.length:Int)
    ·rw [if_pos c4]at H
     have Al:=decide_eq_true c4
     clear c4
     obtain⟨c5,H⟩:=qo H
     have Bf:decide (0≤Aa)=true:=decide_eq_true c5
     clear c5
     obtain⟨c6,H⟩:=qo H
     have Bg:decide (Aa < (l1.length:Int))=true:=decide_eq_true c6
     clear c6
     have Ac:0≤(Aa:Int):=of_decide_eq_true qy1
     have Ad:Aa < (l0.length:Int):=of_decide_eq_true qy1
     obtain⟨Bb,Am,Aj⟩:=Kd.at_string Bd.out Aa Ac Ad
     cases Am
     replace Ac:=eq_true Ac
     replace Ad:=eq_true Ad
     have Ae:0≤(Aa:Int):=of_decide_eq_true qy1
     have Af:Aa < (l1.length:Int):=of_decide_eq_true qy1
     obtain⟨Bc,Ap,Ak⟩:=Kd.at_string Be.out Aa Ae Af
     cases Ap
     replace Ae:=eq_true Ae
     replace Af:=eq_true Af
     by_cases c7:(rdOf ByteArray.empty l0 Aa).toList=(rdOf ByteArray.empty l1 Aa).toList
     ·rw [if_pos c7]at H
      have Aq:((rdOf ByteArray.empty l0 Aa).toList == (rdOf ByteArray.empty l1 Aa).toList)=true:=beq_iff_eq.mpr c7
      have Au:((rdOf ByteArray.empty l0 Aa).toList != (rdOf ByteArray.empty l1 Aa).toList)=false:=bne_eq_false_iff_eq.mpr c7
      clear c7
      have H':=y0.mk H
      clear H
      go_wp2
      repeat(go_quiet (fail);try go_wp2)
      go_roundg k1
      case measure=>have:=Ba.out;omega
      exact⟨(wrap64 (Aa + 1)),qy2,H',⟨by have:=Ba.out;omega⟩,by repeat(first|exact y1.refl _|apply y1.step)⟩
     ·rw [if_neg c7]at H
      have Aq:((rdOf ByteArray.empty l0 Aa).toList == (rdOf ByteArray.empty l1 Aa).toList)=false:=beq_eq_false_iff_ne.mpr c7
      have Au:((rdOf ByteArray.empty l0 Aa).toList != (rdOf ByteArray.empty l1 Aa).toList)=true:=bne_iff_ne.mpr c7
      obtain rfl:=Option.some.inj H
      go_wp2
      repeat(go_quiet (fail);try go_wp2)
      go_ret
      exact qf2
    ·rw [if_neg c4]at H
     have Al:=decide_eq_false c4
     clear c4
     obtain rfl:=Option.some.inj H
     go_wp2
     repeat(go_quiet (fail);try go_wp2)
     go_ret
     exact qf2
 ·rw [if_neg c3]at H
  have Ag:((l0.length:Int) == (l1.length:Int))=false:=beq_eq_false_iff_ne.mpr c3
  have Ah:((l0.length:Int) != (l1.length:Int))=true:=bne_iff_ne.mpr c3
  have Ai:(l0.length == l1.length)=false:=by first|simpa using c3|(simp at c3 ⊢;omega)
  obtain rfl:=Option.some.inj H
  go_enter Tryz.func23,Tryz.ntmps23
  go_wp2
  repeat(go_quiet (fail);try go_wp2)
  go_ret
  exact qf2
end Go.Proofs.YtkajecadkkgfmaaGreatDoor.Pn
end
section
namespace Go.Proofs.YtkajecadkkgfmaaGreatDoor.Pn
open Go.RowKit Go.Proofs.YtkajecadkkgfmaaGreatDoorW.PrintWords Go.Proofs.YtkajecadkkgfmaaGreatDoorW.PrintLast Go.Proofs.YtkajecadkkgfmaaGreatDoorW.PrintMore
attribute [local go_sem] max2_int min2_int max_two min_two max_three min_three max_four min_four   -- for this text's walks alone
set_option linter.unusedVariables false
set_option linter.unusedSimpArgs false
def laws_sameRows.l0:Nat→List (S36)→List (S36)→Int→Option (Bool)
 | 0,_,_,_=>none
 | k + 1,x0,x1,x5=>if x5 < (x0.length:Int)then(if 0≤x5 then(if x5 < (x1.length:Int)then((laws_sameTexts.f k ((y24 x0 x5).f0) ((y24 x1 x5).f0)).bind fun t688=>(if t688=true then(laws_sameRows.l0 k x0 x1 (wrap64 (x5 + 1)))else(some false)))else(none))else(none))else(some true)
def laws_sameRows.f (k:Nat) (l0:List (S36)) (l1:List (S36)):Option (Bool):=if(l0.length:Int)=(l1.length:Int)then(laws_sameRows.l0 k l0 l1 0)else(some false)
set_option maxHeartbeats 8000000 in
set_option maxRecDepth 100000 in
theorem laws_sameRows.calls (k:Nat) (A0:Option Addr) (c0:Nat) (l0:List (S36)) (A1:Option Addr) (c1:Nat) (l1:List (S36)) (r:Bool) (w:World) (Bh:Kd.C k36 w A0 l0.length l0) (Bi:l0.length≤c0) (Bj:Kd.C k36 w A1 l1.length l1) (Bk:l1.length≤c1) (h:laws_sameRows.f k l0 l1=some r) :
  Calls Tryz.prog 60 #[.slice A0 l0.length c0,.slice A1 l1.length c1] w fun e w'=>e=.returned (.bool r)∧y1 w w':=by
 have Bo:=y0.mk Bh
 have Bs:=y0.mk Bi
 clear Bh Bi
 have Bp:=y0.mk Bj
 have Bt:=y0.mk Bk
 clear Bj Bk
 have H:(if(l0.length:Int)=(l1.length:Int)then(laws_sameRows.l0 k l0 l1 0)else(some false))=some r:=h
 clear h
 by_cases c3:(l0.length:Int)=(l1.length:Int)
 ·rw [if_pos c3]at H
  have Aq:((l0.length:Int) == (l1.length:Int))=true:=beq_iff_eq.mpr c3
  have Au:((l0.length:Int) != (l1.length:Int))=false:=bne_eq_false_iff_eq.mpr c3
  have Av:(l0.length == l1.length)=true:=by first|simpa using c3|(simp at c3 ⊢;omega)
  clear c3
  have H':=y0.mk H
  clear H
  go_enter Tryz.func60,Tryz.ntmps60
  go_wp2
  repeat(go_quiet (fail);try go_wp2)
  go_loopg [5] k (fun kq v5 w'=>∃(Aa:Int),v5=.int .i64 Aa∧y0 (laws_sameRows.l0 kq l0 l1 Aa=some r)∧y0 (kq≤k)∧y1 w w')
  case atStart=>exact⟨(0),qy2,H',⟨Nat.le_refl _⟩,by repeat(first|exact y1.refl _|apply y1.step)⟩
  case round =>
   clear H'
   (try clear Aq Au Av)
   obtain⟨Aa,rfl,HA,Bl,⟨m1,rfl⟩⟩:=hrel
   cases gk with
   | zero=>exact absurd HA.out (by simp [laws_sameRows.l0])
   | succ k1 =>
    have H:=HA.out
    clear HA
    simp only [laws_sameRows.l0]at H
    by_cases c4:Aa < (l0.length:Int)
    ·rw [if_pos c4]at H
     have Az:=decide_eq_true c4
     clear c4
     obtain⟨c5,H⟩:=qo H
     have Bq:decide (0≤Aa)=true:=decide_eq_true c5
     clear c5
     obtain⟨c6,H⟩:=qo H
     have Br:decide (Aa < (l1.length:Int))=true:=decide_eq_true c6
     clear c6
     obtain⟨Ba,A7,H⟩:=qB H
     have Ak:0≤(Aa:Int):=of_decide_eq_true qy1
     have Al:Aa < (l0.length:Int):=of_decide_eq_true qy1
     obtain⟨Bm,Bb,Bc,Bd,Aw,Ag,Ah⟩:=at_T36 Bo.out Aa Ak Al
     cases Bd
     have Ac:=y0.mk Ah
     have Ad:=y0.mk Ag
     clear Ah Ag
     replace Ak:=eq_true Ak
     replace Al:=eq_true Al
     have Am:0≤(Aa:Int):=of_decide_eq_true qy1
     have Ap:Aa < (l1.length:Int):=of_decide_eq_true qy1
     obtain⟨Bn,Be,Bf,Bg,Ay,Ai,Aj⟩:=at_T36 Bp.out Aa Am Ap
     cases Bg
     have Ae:=y0.mk Aj
     have Af:=y0.mk Ai
     clear Aj Ai
     replace Am:=eq_true Am
     replace Ap:=eq_true Ap
     by_cases c8:Ba=true
     ·subst c8
      replace H:=qT H
      have H':=y0.mk H
      clear H
      go_wp2_with (first|(go_at_call 23;(with_reducible refine(laws_sameTexts.calls k1 _ _ ((y24 l0 Aa).f0) _ _ ((y24 l1 Aa).f0) true _ (qc Ac.out) Ad.out (qc Ae.out) Af.out A7.out).mono ?_);rintro e w' ⟨rfl,⟨nd,rfl⟩⟩;(try first|exact⟨rfl,_,World.drewN_drewN _ _ _⟩|exact⟨rfl,_,Eq.trans (World.drewN_drewN _ _ _) (congrArg (World.drewN _) (Nat.add_assoc _ _ _))⟩)))
      repeat(go_quiet (first|(go_at_call 23;(with_reducible refine(laws_sameTexts.calls k1 _ _ ((y24 l0 Aa).f0) _ _ ((y24 l1 Aa).f0) true _ (qc Ac.out) Ad.out (qc Ae.out) Af.out A7.out).mono ?_);rintro e w' ⟨rfl,⟨nd,rfl⟩⟩;(try first|exact⟨rfl,_,World.drewN_drewN _ _ _⟩|exact⟨rfl,_,Eq.trans (World.drewN_drewN _ _ _) (congrArg (World.drewN _) (Nat.add_assoc _ _ _))⟩)));try go_wp2_with (first|(go_at_call 23;(with_reducible refine(laws_sameTexts.calls k1 _ _ ((y24 l0 Aa).f0) _ _ ((y24 l1 Aa).f0) true _ (qc Ac.out) Ad.out (qc Ae.out) Af.out A7.out).mono ?_);rintro e w' ⟨rfl,⟨nd,rfl⟩⟩;(try first|exact⟨rfl,_,World.drewN_drewN _ _ _⟩|exact⟨rfl,_,Eq.trans (World.drewN_drewN _ _ _) (congrArg (World.drewN _) (Nat.add_assoc _ _ _))⟩))))
      go_roundg k1
      case measure=>have:=Bl.out;omega
      exact⟨(wrap64 (Aa + 1)),qy2,H',⟨by have:=Bl.out;omega⟩,by repeat(first|exact y1.refl _|apply y1.step)⟩
     ·replace c8:=Bool.eq_false_iff.mpr c8
      subst c8
      replace H:=qF H
      obtain rfl:=Option.some.inj H
      go_wp2_with (first|(go_at_call 23;(with_reducible refine(laws_sameTexts.calls k1 _ _ ((y24 l0 Aa).f0) _ _ ((y24 l1 Aa).f0) false _ (qc Ac.out) Ad.out (qc Ae.out) Af.out A7.out).mono ?_);rintro e w' ⟨rfl,⟨nd,rfl⟩⟩;(try first|exact⟨rfl,_,World.drewN_drewN _ _ _⟩|exact⟨rfl,_,Eq.trans (World.drewN_drewN _ _ _) (congrArg (World.drewN _) (Nat.add_assoc _ _ _))⟩)))
      repeat(go_quiet (first|(go_at_call 23;(with_reducible refine(laws_sameTexts.calls k1 _ _ ((y24 l0 Aa).f0) _ _ ((y24 l1 Aa).f0) false _ (qc Ac.out) Ad.out (qc Ae.out) Af.out A7.out).mono ?_);rintro e w' ⟨rfl,⟨nd,rfl⟩⟩;(try first|exact⟨rfl,_,World.drewN_drewN _ _ _⟩|exact⟨rfl,_,Eq.trans (World.drewN_drewN _ _ _) (congrArg (World.drewN _) (Nat.add_assoc _ _ _))⟩)));try go_wp2_with (first|(go_at_call 23;(with_reducible refine(laws_sameTexts.calls k1 _ _ ((y24 l0 Aa).f0) _ _ ((y24 l1 Aa).f0) false _ (qc Ac.out) Ad.out (qc Ae.out) Af.out A7.out).mono ?_);rintro e w' ⟨rfl,⟨nd,rfl⟩⟩;(try first|exact⟨rfl,_,World.drewN_drewN _ _ _⟩|exact⟨rfl,_,Eq.trans (World.drewN_drewN _ _ _) (congrArg (World.drewN _) (Nat.add_assoc _ _ _))⟩))))
      go_ret
      exact qf2
    ·rw [if_neg c4]at H
     have Az:=decide_eq_false c4
     clear c4
     obtain rfl:=Option.some.inj H
     go_wp2
     repeat(go_quiet (fail);try go_wp2)
     go_ret
     exact qf2
 ·rw [if_neg c3]at H
  have Aq:((l0.length:Int) == (l1.length:Int))=false:=beq_eq_false_iff_ne.mpr c3
  have Au:((l0.length:Int) != (l1.length:Int))=true:=bne_iff_ne.mpr c3
  have Av:(l0.length == l1.length)=false:=by first|simpa using c3|(simp at c3 ⊢;omega)
  obtain rfl:=Option.some.inj H
  go_enter Tryz.func60,Tryz.ntmps60
  go_wp2
  repeat(go_quiet (fail);try go_wp2)
  go_ret
  exact qf2
def laws_sameRel.f (k:Nat) (a0_0:Int) (l0_1:List (S36)) (a1_0:Int) (l1_1:List (S36)):Option (Bool):=if a0_0=a1_0 then((laws_sameRows.f k l0_1 l1_1).bind fun t691=>(some t691))else(some false)
set_option maxHeartbeats 8000000 in
set_option maxRecDepth 100000 in
theorem laws_sameRel.calls (k:Nat) (Ae:Int) (Aj:Option Addr) (Ak:Nat) (Ag:List (S36)) (Af:Int) (Al:Option Addr) (Am:Nat) (Ah:List (S36)) (r:Bool) (w:World) (Ap:Kd.C k36 w Aj Ag.length Ag) (Aq:Ag.length≤Ak) (Au:Kd.C k36 w Al Ah.length Ah) (Av:Ah.length≤Am) (h:laws_sameRel.f k Ae Ag Af Ah=some r) :
  Calls Tryz.prog 25 #[.agg #[.int .i64 Ae,.slice Aj Ag.length Ak],.agg #[.int .i64 Af,.slice Al Ah.length Am]] w fun e w'=>e=.returned (.bool r)∧Below w.heap.size w w':=by
 have Cd:=Tryz.underlying32
 have Ay:=y0.mk Ap
 have Az:=y0.mk Aq
 clear Ap Aq
 have Ba:=y0.mk Au
 have Bb:=y0.mk Av
 clear Au Av
 have HB:=y0.mk (Below.refl w.heap.size w)
 have H:(if Ae=Af then((laws_sameRows.f k Ag Ah).bind fun Aw=>(some Aw))else(some false))=some r:=h
 clear h
 by_cases c3:Ae=Af
 ·rw [if_pos c3]at H
  have Bq:(Ae == Af)=true:=beq_iff_eq.mpr c3
  have Br:(Ae != Af)=false:=bne_eq_false_iff_eq.mpr c3
  clear c3
  obtain⟨Aw,A4,H⟩:=qB H
  obtain rfl:=Option.some.inj H
  go_enter Tryz.func25,Tryz.ntmps25
  go_wp2_with (first|((with_reducible refine y20 (N:=2) rfl ?_);refine qe 2 #[.int .i64 Ae,.slice Aj Ag.length Ak] 32 ?_;intro Bc hg w5 hbox hb;have Aa:=y0.mk (hbox);have Bd:=y0.mk (qg (w:=w) hg);have Be:=y0.mk (qg (w:=w) hg);replace HB:=y0.mk (y8 qb hb);clear hb hbox hg)|((with_reducible refine y20 (N:=3) rfl ?_);refine qe 3 #[.int .i64 Af,.slice Al Ah.length Am] 32 ?_;intro Bf hg w6 hbox hb;have Ai:=y0.mk (hbox);have Bg:=y0.mk (qg (w:=w) hg);have Bh:=y0.mk (qg (w:=w) hg);replace HB:=y0.mk (y8 qb hb);have Ac:=y0.mk (qn Aa.out hg);have Ad:=y0.mk (qm Aa.out hg);replace Aa:=y0.mk (qK Aa.out hb);clear hb hbox hg;have Ce:=Ac.out;have Cf:=Ad.out;obtain⟨Bs,Bt,Bu,Bv⟩:=qz2 Aa.out;obtain⟨Bw,Bx,Bz,Ca⟩:=qz2 Ai.out)|(go_at_call 60;(with_reducible refine(laws_sameRows.calls k _ _ Ag _ _ Ah Aw _ (qc (Kd.C_below Ay.out HB.out)) Az.out (qc (Kd.C_below Ba.out HB.out)) Bb.out A4.out).mono ?_);rintro e w' ⟨rfl,⟨nd,rfl⟩⟩))
  go_ret
  exact⟨qf,qb⟩
 ·rw [if_neg c3]at H
  have Bq:(Ae == Af)=false:=beq_eq_false_iff_ne.mpr c3
  have Br:(Ae != Af)=true:=bne_iff_ne.mpr c3
  obtain rfl:=Option.some.inj H
  go_enter Tryz.func25,Tryz.ntmps25
  go_wp2_with (first|((with_reducible refine y20 (N:=2) rfl ?_);refine qe 2 #[.int .i64 Ae,.slice Aj Ag.length Ak] 32 ?_;intro Bc hg Cg hbox hb;have Aa:=y0.mk (hbox);have Bd:=y0.mk (qg (w:=w) hg);have Be:=y0.mk (qg (w:=w) hg);replace HB:=y0.mk (y8 qb hb);clear hb hbox hg)|((with_reducible refine y20 (N:=3) rfl ?_);refine qe 3 #[.int .i64 Af,.slice Al Ah.length Am] 32 ?_;intro Bf hg Ch hbox hb;have Ai:=y0.mk (hbox);have Bg:=y0.mk (qg (w:=w) hg);have Bh:=y0.mk (qg (w:=w) hg);replace HB:=y0.mk (y8 qb hb);have Ac:=y0.mk (qn Aa.out hg);have Ad:=y0.mk (qm Aa.out hg);replace Aa:=y0.mk (qK Aa.out hb);clear hb hbox hg;have Cb:=Ac.out;have Cc:=Ad.out;obtain⟨Bi,Bj,Bk,Bl⟩:=qz2 Aa.out;obtain⟨Bm,Bn,Bo,Bp⟩:=qz2 Ai.out))
  go_ret
  exact⟨qf,qb⟩
def impl_RelOk.f (k:Nat) (a0_0:Int) (l0_1:List (S36)):Option (Bool):=(impl_isRel.f k a0_0 l0_1).bind fun t693=>(some t693)
set_option maxHeartbeats 8000000 in
set_option maxRecDepth 100000 in
theorem impl_RelOk.calls (k:Nat) (Ac:Int) (Ae:Option Addr) (Af:Nat) (Aa:List (S36)) (r:Bool) (w:World) (Ag:Kd.C k36 w Ae Aa.length Aa) (Ah:Aa.length≤Af) (hT:Tb w) (h:impl_RelOk.f k Ac Aa=some r) :
  Calls Tryz.prog 26 #[.agg #[.int .i64 Ac,.slice Ae Aa.length Af]] w fun e w'=>e=.returned (.bool r)∧Below w.heap.size w w':=by
 have Ay:=Tryz.underlying32
 have HT:=y0.mk hT
 clear hT
 have Aj:=y0.mk Ag
 have Ak:=y0.mk Ah
 clear Ag Ah
 have HB:=y0.mk (Below.refl w.heap.size w)
 have H:((impl_isRel.f k Ac Aa).bind fun Ai=>(some Ai))=some r:=h
 clear h
 obtain⟨Ai,A2,H⟩:=qB H
 obtain rfl:=Option.some.inj H
 go_enter Tryz.func26,Tryz.ntmps26
 go_wp2_with (first|((with_reducible refine y20 (N:=1) rfl ?_);refine qe 1 #[.int .i64 Ac,.slice Ae Aa.length Af] 32 ?_;intro Au hg w3 hbox hb;have Ad:=y0.mk (hbox);have Av:=y0.mk (qg (w:=w) hg);have Aw:=y0.mk (qg (w:=w) hg);replace HB:=y0.mk (y8 qb hb);clear hb hbox hg;obtain⟨Al,Am,Ap,Aq⟩:=qz2 Ad.out)|((with_reducible refine y19 (f:=40) rfl ?_);refine y22 (some 4) rfl rfl Tryz.func40 (by kernel_rfl) rfl #[.agg #[.int .i64 Ac,.slice Ae Aa.length Af]] rfl qy0 ?_;(with_reducible refine(impl_isRel.calls k Ac _ _ Aa Ai _ (qc (Kd.C_below Aj.out HB.out)) Ak.out (by exact Tb.below HT.out qb) A2.out).mono ?_);rintro e w5 ⟨rfl,hb⟩;refine⟨_,rfl, ?_⟩;replace Ad:=y0.mk (qK Ad.out hb);replace HB:=y0.mk (y8 qb hb);(try clear hb)))
 go_ret
 exact⟨qf,qb⟩
def impl_sameTuple.f (k:Nat) (l0_0:List ByteArray) (l1_0:List ByteArray):Option (Bool):=(slices_Equal_string_string.f k l0_0 l1_0).bind fun t696=>(some t696)
set_option maxHeartbeats 8000000 in
set_option maxRecDepth 100000 in
theorem impl_sameTuple.calls (k:Nat) (Ag:Option Addr) (Ah:Nat) (Aa:List ByteArray) (Ai:Option Addr) (Aj:Nat) (Ac:List ByteArray) (r:Bool) (w:World) (Ak:Kd.C Kd.string w Ag Aa.length Aa) (Al:Aa.length≤Ah) (Am:Kd.C Kd.string w Ai Ac.length Ac) (Ap:Ac.length≤Aj) (h:impl_sameTuple.f k Aa Ac=some r) :
  Calls Tryz.prog 66 #[.agg #[.slice Ag Aa.length Ah],.agg #[.slice Ai Ac.length Aj]] w fun e w'=>e=.returned (.bool r)∧Below w.heap.size w w':=by
 have Bk:=Tryz.underlying36
 have Au:=y0.mk Ak
 have Av:=y0.mk Al
 clear Ak Al
 have Aw:=y0.mk Am
 have Ay:=y0.mk Ap
 clear Am Ap
 have HB:=y0.mk (Below.refl w.heap.size w)
 have H:((slices_Equal_string_string.f k Aa Ac).bind fun Aq=>(some Aq))=some r:=h
 clear h
 obtain⟨Aq,A3,H⟩:=qB H
 obtain rfl:=Option.some.inj H
 go_enter Tryz.func66,Tryz.ntmps66
 go_wp2_with (first|((with_reducible refine y20 (N:=2) rfl ?_);refine qe 2 #[.slice Ag Aa.length Ah] 36 ?_;intro Be hg w4 hbox hb;have Ad:=y0.mk (hbox);have Bf:=y0.mk (qg (w:=w) hg);have Bg:=y0.mk (qg (w:=w) hg);replace HB:=y0.mk (y8 qb hb);clear hb hbox hg)|((with_reducible refine y20 (N:=3) rfl ?_);refine qe 3 #[.slice Ai Ac.length Aj] 36 ?_;intro Bh hg w5 hbox hb;have Az:=y0.mk (hbox);have Bi:=y0.mk (qg (w:=w) hg);have Bj:=y0.mk (qg (w:=w) hg);replace HB:=y0.mk (y8 qb hb);have Ae:=y0.mk (qn Ad.out hg);have Af:=y0.mk (qm Ad.out hg);replace Ad:=y0.mk (qK Ad.out hb);clear hb hbox hg;have Bl:=Ae.out;have Bm:=Af.out;obtain⟨Ba,Bb⟩:=qz1 Ad.out;obtain⟨Bc,Bd⟩:=qz1 Az.out)|((with_reducible refine y19 (f:=55) rfl ?_);refine y22 (some 9) rfl rfl Tryz.func55 (by kernel_rfl) rfl #[.slice Ag Aa.length Ah,.slice Ai Ac.length Aj] rfl qy0 ?_;(with_reducible refine(slices_Equal_string_string.calls k _ _ Aa _ _ Ac Aq _ (qc (Kd.C_below Au.out HB.out)) Av.out (qc (Kd.C_below Aw.out HB.out)) Ay.out A3.out).mono ?_);rintro e w' ⟨rfl,⟨nd,rfl⟩⟩;refine⟨_,rfl, ?_⟩))
 go_ret
 exact⟨qf,qb⟩
/-- Two tuples of the same texts. -/
def sameT (a b:List ByteArray):Bool:=decide (a.map (·.data.toList)=b.map (·.data.toList))
theorem bl_of_pw {B:Nat} {w w':World} (h:Below B w w') {g:Nat} {o:Obj} (hg:g < B) (hb:w.heap[g]?=some o):w'.heap[g]?=some o:=(h.block g hg).trans hb
theorem blk_lt' {w:World} {g:Nat} {o:Obj} (hb:w.heap[g]?=some o):g < w.heap.size:=(Array.getElem?_eq_some_iff.1 hb).1
set_option maxHeartbeats 8000000 in
set_option maxRecDepth 100000 in
theorem impl_Rel_has_1.calls (A0:Option Addr) (c0:Nat) (l0:List ByteArray) (g:Nat) (A1:Option Addr) (c1:Nat) (l1:List ByteArray) (w:World) (Ac:Kd.C Kd.string w A0 l0.length l0) (Ad:l0.length≤c0) (Ae:Kd.C Kd.string w A1 l1.length l1) (Af:l1.length≤c1)
  (Aa:w.heap[g]?=some (.cells #[.slice A1 l1.length c1] 36 (0,0))) (hsame:∃ k,impl_sameTuple.f k l0 l1=some (sameT l0 l1)) :
  Calls Tryz.prog 87 #[.agg #[.slice A0 l0.length c0],.pointer (some ⟨g,0,none⟩)] w fun e w'=>e=.returned (.bool (sameT l0 l1))∧Below w.heap.size w w':=by
 have Ag:=Tryz.underlying36
 obtain⟨k,A3⟩:=hsame
 have HB:=y0.mk (Below.refl w.heap.size w)
 have hlt:=blk_lt' Aa
 have hr0a:=y0.mk Ac
 have hr1a:=y0.mk Ae
 go_enter Tryz.func87,Tryz.ntmps87
 go_wp2_with (first
  | ((with_reducible refine y20 (N:=2) rfl ?_);refine qe 2 #[.slice A0 l0.length c0] 36 ?_;intro gb hg w4 hbox hb;have n0_:=y0.mk (y8 qb hb);have n2_:=bl_of_pw qb hlt Aa;have n3_:=bl_of_pw n0_.out hlt Aa;clear HB;have HB:=n0_;clear n0_ n2_ hg;have Ah:w4.cell? ⟨gb,0,none⟩=some (.slice A0 l0.length c0):=(y11 hbox 0).trans rfl;have Ai:=y15 hbox 0;have Aj:w4.cell? ⟨g,0,none⟩=some (.slice A1 l1.length c1):=(y11 n3_ 0).trans rfl;have Ak:=y15 n3_ 0;clear hbox hb n3_)
  | ((with_reducible refine y19 (f:=66) rfl ?_);refine y22 (some 6) rfl rfl Tryz.func66 (by kernel_rfl) rfl #[.agg #[.slice A0 l0.length c0],.agg #[.slice A1 l1.length c1]] rfl qy0 ?_;(with_reducible refine(impl_sameTuple.calls k _ _ l0 _ _ l1 (sameT l0 l1) _ (by exact Kd.C_below hr0a.out HB.out) Ad (by exact Kd.C_below hr1a.out HB.out) Af A3).mono ?_);rintro e w5 ⟨rfl,hb⟩;refine⟨_,rfl, ?_⟩;replace HB:=y0.mk (y8 qb hb);(try clear hb)))
 go_ret
 exact⟨by first|rfl|(simp [y17,y18] <;> rfl),qb⟩
/-- The loop: the first row, from a place on, that is the tuple. -/
def impl_Rel_has.l0 (lt:List ByteArray):Nat→List S36→Int→Option Int
 | 0,_,_=>none
 | k + 1,x0,x8=>if x8 < (x0.length:Int)then(if 0≤x8 then(if sameT (y24 x0 x8).f0 lt=true then(some x8)else impl_Rel_has.l0 lt k x0 (wrap64 (x8 + 1)))else none)else(some (-1))
set_option maxHeartbeats 8000000 in
set_option maxRecDepth 100000 in
theorem slices_IndexFunc_has.calls (k:Nat) (A0:Option Addr) (c0:Nat) (l0:List (S36)) (g:Nat) (A1:Option Addr) (c1:Nat) (l1:List ByteArray) (r:Int) (w:World) (Ak:Kd.C k36 w A0 l0.length l0) (Al:l0.length≤c0) (Am:Kd.C Kd.string w A1 l1.length l1) (Ap:l1.length≤c1)
  (Ah:w.heap[g]?=some (.cells #[.slice A1 l1.length c1] 36 (0,0))) (hsame:∀ l:List ByteArray,∃ k,impl_sameTuple.f k l l1=some (sameT l l1)) (h:impl_Rel_has.l0 l1 k l0 0=some r) :
  Calls Tryz.prog 88 #[.slice A0 l0.length c0,.func (.func 87) #[] #[.pointer (some ⟨g,0,none⟩)]] w fun e w'=>e=.returned (.int .i64 r)∧Below w.heap.size w w':=by
 have Av:=Tryz.underlying36
 have hlt:=blk_lt' Ah
 have Aw:=y0.mk Ak
 have Bc:=y0.mk Al
 have Ay:=y0.mk Am
 have Az:=y0.mk Ap
 have Ba:=y0.mk Ah
 have HS:=y0.mk hsame
 clear Ak Al Am Ap Ah hsame
 have HB:=y0.mk (Below.refl w.heap.size w)
 have H':=y0.mk h
 clear h
 go_enter Tryz.func88,Tryz.ntmps88
 go_wp2
 go_loopg [8] k (fun kq v8 w'=>∃(Aa:Int),v8=.int .i64 Aa∧y0 (impl_Rel_has.l0 l1 kq l0 Aa=some r)∧y0 (kq≤k)∧y0 (Below w.heap.size w w'))
 case atStart=>exact⟨(0),qy2,H',⟨Nat.le_refl _⟩,⟨qb⟩⟩
 case round =>
  clear H'
  obtain⟨Aa,rfl,HA,Aq,HB⟩:=hrel
  cases gk with
  | zero=>exact absurd HA.out (by simp [impl_Rel_has.l0])
  | succ k1 =>
   have H:=HA.out
   clear HA
   simp only [impl_Rel_has.l0]at H
   by_cases c3:Aa < (l0.length:Int)
   ·rw [if_pos c3]at H
    have Ai:=decide_eq_true c3
    clear c3
    obtain⟨c4,H⟩:=qo H
    have Bb:decide (0≤Aa)=true:=decide_eq_true c4
    clear c4
    have Af:0≤(Aa:Int):=of_decide_eq_true qy1
    have Ag:Aa < (l0.length:Int):=of_decide_eq_true qy1
    obtain⟨Au,A2,c2,Aj,Ac,Ad,Ae⟩:=at_T36 Aw.out Aa Af Ag
    cases Aj
    replace Ac:=(HB.out.cell (World.block_lt_of_cell? w _ Ac)).trans Ac
    have HI:=y0.mk Ae
    have HL:=y0.mk Ad
    clear Ae Ad
    replace Af:=eq_true Af
    replace Ag:=eq_true Ag
    obtain⟨b,hbb⟩:∃ b,sameT (y24 l0 Aa).f0 l1=b:=⟨_,rfl⟩
    rw [hbb]at H
    have HBB:=y0.mk hbb
    clear hbb
    have step:∀(w1:World),Below w.heap.size w w1→Calls Tryz.prog 87 #[.agg #[.slice A2 (y24 l0 Aa).f0.length c2],.pointer (some ⟨g,0,none⟩)] w1 fun e w'=>e=.returned (.bool b)∧Below w1.heap.size w1 w':=by
     intro w1 hb
     rw [← HBB.out]
     exact impl_Rel_has_1.calls A2 c2 _ g A1 c1 l1 w1 (Kd.C_below HI.out hb) HL.out (Kd.C_below Ay.out hb) Az.out (bl_of_pw hb hlt Ba.out) (HS.out _)
    have HSt:=y0.mk step
    clear step
    cases b with
    | true =>
     rw [if_pos rfl]at H
     obtain rfl:=Option.some.inj H
     go_wp2_with (first|(go_at_call 87;(with_reducible refine(HSt.out _ qb).mono ?_);rintro e w8 ⟨rfl,hb⟩;replace HB:=y0.mk (y8 qb hb);(try clear hb)))
     go_ret
     exact⟨by first|rfl|(simp [y17,y18] <;> rfl),qb⟩
    | false =>
     rw [if_neg (by decide)]at H
     have H':=y0.mk H
     clear H
     go_wp2_with (first|(go_at_call 87;(with_reducible refine(HSt.out _ qb).mono ?_);rintro e w9 ⟨rfl,hb⟩;replace HB:=y0.mk (y8 qb hb);(try clear hb)))
     go_roundg k1
     case measure=>have:=Aq.out;omega
     exact⟨(wrap64 (Aa + 1)),qy2,H',⟨by have:=Aq.out;omega⟩,⟨qb⟩⟩
   ·rw [if_neg c3]at H
    have Ai:=decide_eq_false c3
    clear c3
    obtain rfl:=Option.some.inj H
    go_wp2
    go_ret
    exact⟨by first|rfl|(simp [y17,y18] <;> rfl),qb⟩
set_option maxHeartbeats 8000000 in
set_option maxRecDepth 100000 in
theorem slices_ContainsFunc_has.calls (k:Nat) (A0:Option Addr) (c0:Nat) (l0:List (S36)) (g:Nat) (A1:Option Addr) (c1:Nat) (l1:List ByteArray) (r:Int) (w:World) (hr0:Kd.C k36 w A0 l0.length l0) (hc0:l0.length≤c0) (hr1:Kd.C Kd.string w A1 l1.length l1) (hc1:l1.length≤c1)
  (hb1:w.heap[g]?=some (.cells #[.slice A1 l1.length c1] 36 (0,0))) (hsame:∀ l:List ByteArray,∃ k,impl_sameTuple.f k l l1=some (sameT l l1)) (h:impl_Rel_has.l0 l1 k l0 0=some r) :
  Calls Tryz.prog 86 #[.slice A0 l0.length c0,.func (.func 87) #[] #[.pointer (some ⟨g,0,none⟩)]] w fun e w'=>e=.returned (.bool (decide (r≥0)))∧Below w.heap.size w w':=by
 have HC:=y0.mk (slices_IndexFunc_has.calls k A0 c0 l0 g A1 c1 l1 r w hr0 hc0 hr1 hc1 hb1 hsame h)
 have HB:=y0.mk (Below.refl w.heap.size w)
 clear h hsame hb1 hr0 hr1
 go_enter Tryz.func86,Tryz.ntmps86
 go_wp2_with (first|((with_reducible refine y19 (f:=88) rfl ?_);refine y22 (some 7) rfl rfl Tryz.func88 (by kernel_rfl) rfl #[.slice A0 l0.length c0,.func (.func 87) #[] #[.pointer (some ⟨g,0,none⟩)]] rfl qy0 ?_;(with_reducible refine HC.out.mono ?_);rintro e w4 ⟨rfl,hb⟩;refine⟨_,rfl, ?_⟩;replace HB:=y0.mk (y8 qb hb);(try clear hb)))
 go_ret
 exact⟨by first|rfl|(simp [y17,y18] <;> rfl),qb⟩
theorem toList_data (s:ByteArray):s.toList=s.data.toList:=by
 obtain⟨a⟩:=s
 obtain⟨l⟩:=a
 exact ByteArray.toList_mk l
theorem sameT_cons (a b:ByteArray) (l m:List ByteArray):sameT (a :: l) (b :: m)=(decide (a.data.toList=b.data.toList) && sameT l m):=by
 unfold sameT
 rw [List.map_cons,List.map_cons,← Bool.decide_and]
 exact decide_eq_decide.2 (by rw [List.cons.injEq])
theorem sameT_len {l m:List ByteArray} (h:l.length≠m.length):sameT l m=false :=
 decide_eq_false (fun e=>h (by have:=congrArg List.length e;rwa [List.length_map,List.length_map]at this))
theorem rdOf_at (xs:List ByteArray) (i:Nat) (h:i < xs.length):rdOf ByteArray.empty xs (i:Int)=xs[i]:=by
 unfold rdOf
 rw [show((i:Int)).toNat=i from rfl,List.getD_eq_getElem?_getD,List.getElem?_eq_getElem h]
 rfl
theorem wrap_up {i:Nat} (h:i≤281474976710656):wrap64 ((i:Int) + 1)=((i + 1:Nat):Int):=by
 unfold wrap64
 omega
theorem same_l (l m:List ByteArray) (hl:l.length=m.length) (hn:l.length≤281474976710656):∀(d i k:Nat),i + d=l.length→d < k→slices_Equal_string_string.l0 k l m (l.length:Int) (i:Int)=some (sameT (l.drop i) (m.drop i))
 | d,i,0,_,hk=>absurd hk (Nat.not_lt_zero d)
 | 0,i,k + 1,h,_=>by
  rw [slices_Equal_string_string.l0,if_neg (by omega),List.drop_of_length_le (by omega),List.drop_of_length_le (by omega)]
  rfl
 | d + 1,i,k + 1,h,hk=>by
  have hi:i < l.length:=by omega
  have hj:i < m.length:=by omega
  rw [slices_Equal_string_string.l0,if_pos (by omega),if_pos (by omega),if_pos (by omega),if_pos (by omega),rdOf_at l i hi,rdOf_at m i hj,toList_data,toList_data,List.drop_eq_getElem_cons hi,List.drop_eq_getElem_cons hj,sameT_cons]
  by_cases e:l[i].data.toList=m[i].data.toList
  ·rw [if_pos e,wrap_up (by omega),same_l l m hl hn d (i + 1) k (by omega) (by omega),decide_eq_true e,Bool.true_and]
  ·rw [if_neg e,decide_eq_false e,Bool.false_and]
theorem same_f (m:List ByteArray) (hn:m.length≤281474976710656) (l:List ByteArray):∃ k,impl_sameTuple.f k l m=some (sameT l m):=by
 refine⟨l.length + 1, ?_⟩
 unfold impl_sameTuple.f slices_Equal_string_string.f
 by_cases hl:l.length=m.length
 ·rw [if_pos (by omega),show(0:Int)=((0:Nat):Int)from rfl,same_l l m hl (by omega) l.length 0 _ (by omega) (by omega)]
  rfl
 ·rw [if_neg (by omega),sameT_len hl]
  rfl
/-- Whether a tuple is one of the rows. -/
def hasT (l0:List S36) (l1:List ByteArray):Bool:=l0.any fun o=>sameT o.f0 l1
theorem rd_at (xs:List S36) (i:Nat) (h:i < xs.length):y24 xs (i:Int)=xs[i]:=by
 unfold y24
 rw [show((i:Int)).toNat=i from rfl,List.getD_eq_getElem?_getD,List.getElem?_eq_getElem h]
 rfl
theorem has_l (l1:List ByteArray) (l0:List S36) (hn:l0.length≤281474976710656):∀(d i:Nat),i + d=l0.length→∃ r,impl_Rel_has.l0 l1 (d + 1) l0 (i:Int)=some r∧decide (r≥0)=hasT (l0.drop i) l1
 | 0,i,h=>by
  refine⟨-1, ?_, ?_⟩
  ·rw [impl_Rel_has.l0,if_neg (by omega)]
  ·rw [List.drop_of_length_le (by omega)]
   rfl
 | d + 1,i,h=>by
  have hi:i < l0.length:=by omega
  rw [impl_Rel_has.l0,if_pos (by omega),if_pos (by omega),rd_at l0 i hi,List.drop_eq_getElem_cons hi]
  by_cases e:sameT l0[i].f0 l1=true
  ·rw [if_pos e]
   refine⟨_,rfl, ?_⟩
   unfold hasT
   rw [List.any_cons,e,Bool.true_or]
   exact decide_eq_true (by omega)
  ·rw [if_neg e,wrap_up (by omega)]
   obtain⟨r,h1,h2⟩:=has_l l1 l0 hn d (i + 1) (by omega)
   refine⟨r,h1, ?_⟩
   rw [h2]
   unfold hasT
   rw [List.any_cons,Bool.eq_false_iff.2 e,Bool.false_or]
def impl_Rel_has.f (a0_0:Int) (l0_1:List (S36)) (l1_0:List ByteArray):Option Bool:=if l0_1.length≤281474976710656 then(if l1_0.length≤281474976710656 then some (hasT l0_1 l1_0)else none)else none
set_option maxHeartbeats 8000000 in
set_option maxRecDepth 100000 in
theorem impl_Rel_has.calls (Ad:Int) (Ae:Option Addr) (Af:Nat) (Aa:List (S36)) (Ag:Option Addr) (Ah:Nat) (Ac:List ByteArray) (r:Bool) (w:World) (Ai:Kd.C k36 w Ae Aa.length Aa) (Aj:Aa.length≤Af) (Ak:Kd.C Kd.string w Ag Ac.length Ac) (Al:Ac.length≤Ah) (h:impl_Rel_has.f Ad Aa Ac=some r) :
  Calls Tryz.prog 61 #[.agg #[.int .i64 Ad,.slice Ae Aa.length Af],.agg #[.slice Ag Ac.length Ah]] w fun e w'=>e=.returned (.bool r)∧Below w.heap.size w w':=by
 have Am:=Tryz.underlying36
 have Ap:=Tryz.underlying32
 unfold impl_Rel_has.f at h
 by_cases h1:Aa.length≤281474976710656
 ·rw [if_pos h1]at h
  by_cases h2:Ac.length≤281474976710656
  ·rw [if_pos h2]at h
   obtain rfl:=Option.some.inj h
   clear h
   obtain⟨r',g1,g2⟩:=has_l Ac Aa h1 Aa.length 0 (by omega)
   rw [List.drop_zero]at g2
   replace g1:impl_Rel_has.l0 Ac (Aa.length + 1) Aa 0=some r':=g1
   rw [← g2]
   have HG:=y0.mk g1
   clear g1 g2
   have HS:=y0.mk (same_f Ac h2)
   clear h1 h2
   have Aq:=y0.mk Ai
   have Au:=y0.mk Aj
   have Av:=y0.mk Ak
   have Aw:=y0.mk Al
   clear Ai Aj Ak Al
   have HB:=y0.mk (Below.refl w.heap.size w)
   go_enter Tryz.func61,Tryz.ntmps61
   go_wp2_with (first
    | ((with_reducible refine y20 (N:=2) rfl ?_);refine qe 2 #[.int .i64 Ad,.slice Ae Aa.length Af] 32 ?_;intro ga hg w4 hbox hb;have n0_:=y0.mk (y8 qb hb);have BKA:=y0.mk hbox;have hlta:=blk_lt' hbox;clear HB;have HB:=n0_;clear n0_ hg hbox hb)
    | ((with_reducible refine y20 (N:=3) rfl ?_);refine qe 3 #[.slice Ag Ac.length Ah] 36 ?_;intro gb hg w5 hbox hb;have n0_:=y0.mk (y8 qb hb);have n1_:=y0.mk (qK BKA.out hb);have BKB:=y0.mk hbox;clear BKA;have BKA:=n1_;clear HB;have HB:=n0_;clear n0_ n1_ hg hbox hb;have Ay:w5.cell? ⟨ga,0,none⟩=some (.int .i64 Ad):=(y11 BKA.out 0).trans rfl;have Az:w5.cell? ⟨ga,1,none⟩=some (.slice Ae Aa.length Af):=(y11 BKA.out 1).trans rfl;have Ba:=y15 BKA.out 0;have Bb:=y15 BKA.out 1)
    | (go_at_call 86;(with_reducible refine(slices_ContainsFunc_has.calls (Aa.length + 1) _ _ Aa gb Ag Ah Ac r' _ (by exact Kd.C_below Aq.out qb) Au.out (by exact Kd.C_below Av.out qb) Aw.out (by(with_reducible repeat(first|refine y13 ?_ _|refine y12 ?_|refine y9 ?_ _));exact BKB.out) HS.out HG.out).mono ?_);rintro e w6 ⟨rfl,hb⟩;replace HB:=y0.mk (y8 qb hb);(try clear hb)))
   go_ret
   exact⟨by first|rfl|(simp [y17,y18] <;> rfl),qb⟩
  ·rw [if_neg h2]at h
   cases h
 ·rw [if_neg h1]at h
  cases h
def impl_RelHas.f (k:Nat) (a0_0:Int) (l0_1:List (S36)) (l1_0:List ByteArray):Option (Bool):=(impl_isRel.f k a0_0 l0_1).bind fun t699=>(if t699=true then((impl_Rel_has.f a0_0 l0_1 l1_0).bind fun t700=>(some t700))else(some false))
set_option maxHeartbeats 8000000 in
set_option maxRecDepth 100000 in
theorem impl_RelHas.calls (k:Nat) (Ag:Int) (Ai:Option Addr) (Aj:Nat) (Ac:List (S36)) (Am:Option Addr) (Ap:Nat) (Ah:List ByteArray) (r:Bool) (w:World) (Aq:Kd.C k36 w Ai Ac.length Ac) (Au:Ac.length≤Aj) (Av:Kd.C Kd.string w Am Ah.length Ah) (Aw:Ah.length≤Ap) (hT:Tb w) (h:impl_RelHas.f k Ag Ac Ah=some r) :
  Calls Tryz.prog 27 #[.agg #[.int .i64 Ag,.slice Ai Ac.length Aj],.agg #[.slice Am Ah.length Ap]] w fun e w'=>e=.returned (.bool r)∧Below w.heap.size w w':=by
 have Bz:=Tryz.underlying32
 have Ca:=Tryz.underlying36
 have HT:=y0.mk hT
 clear hT
 have Ak:=y0.mk Aq
 have Al:=y0.mk Au
 clear Aq Au
 have Ba:=y0.mk Av
 have Bb:=y0.mk Aw
 clear Av Aw
 have HB:=y0.mk (Below.refl w.heap.size w)
 have H:((impl_isRel.f k Ag Ac).bind fun Ay=>(if Ay=true then((impl_Rel_has.f Ag Ac Ah).bind fun Az=>(some Az))else(some false)))=some r:=h
 clear h
 obtain⟨Ay,A3,H⟩:=qB H
 by_cases c4:Ay=true
 ·subst c4
  replace H:=qT H
  obtain⟨Az,A5,H⟩:=qB H
  obtain rfl:=Option.some.inj H
  go_enter Tryz.func27,Tryz.ntmps27
  go_wp2_with (first|((with_reducible refine y20 (N:=2) rfl ?_);refine qe 2 #[.int .i64 Ag,.slice Ai Ac.length Aj] 32 ?_;intro Bc hg w6 hbox hb;have Aa:=y0.mk (hbox);have Bd:=y0.mk (qg (w:=w) hg);have Be:=y0.mk (qg (w:=w) hg);replace HB:=y0.mk (y8 qb hb);clear hb hbox hg)|((with_reducible refine y20 (N:=3) rfl ?_);refine qe 3 #[.slice Am Ah.length Ap] 36 ?_;intro Bf hg w7 hbox hb;have Af:=y0.mk (hbox);have Bg:=y0.mk (qg (w:=w) hg);have Bh:=y0.mk (qg (w:=w) hg);replace HB:=y0.mk (y8 qb hb);have Ad:=y0.mk (qn Aa.out hg);have Ae:=y0.mk (qm Aa.out hg);replace Aa:=y0.mk (qK Aa.out hb);clear hb hbox hg;have Cb:=Ad.out;have Cc:=Ae.out;obtain⟨Bs,Bt,Bu,Bv⟩:=qz2 Aa.out)|((with_reducible refine y19 (f:=40) rfl ?_);refine y22 (some 6) rfl rfl Tryz.func40 (by kernel_rfl) rfl #[.agg #[.int .i64 Ag,.slice Ai Ac.length Aj]] rfl qy0 ?_;(with_reducible refine(impl_isRel.calls k Ag _ _ Ac true _ (qc (Kd.C_below Ak.out HB.out)) Al.out (by exact Tb.below HT.out qb) A3.out).mono ?_);rintro e Cd ⟨rfl,hb⟩;refine⟨_,rfl, ?_⟩;replace Aa:=y0.mk (qK Aa.out hb);replace Af:=y0.mk (qK Af.out hb);replace HB:=y0.mk (y8 qb hb);(try clear hb);obtain⟨Bi,Bj,Bk,Bl⟩:=qz2 Aa.out;obtain⟨Bm,Bn⟩:=qz1 Af.out)|(go_at_call 61;(with_reducible refine(impl_Rel_has.calls Ag _ _ Ac _ _ Ah Az _ (qc (Kd.C_below Ak.out HB.out)) Al.out (qc (Kd.C_below Ba.out HB.out)) Bb.out A5.out).mono ?_);rintro e Ce ⟨rfl,hb⟩;replace Aa:=y0.mk (qK Aa.out hb);replace Af:=y0.mk (qK Af.out hb);replace HB:=y0.mk (y8 qb hb);(try clear hb)))
  go_ret
  exact⟨qf,qb⟩
 ·replace c4:=Bool.eq_false_iff.mpr c4
  subst c4
  replace H:=qF H
  obtain rfl:=Option.some.inj H
  go_enter Tryz.func27,Tryz.ntmps27
  go_wp2_with (first|((with_reducible refine y20 (N:=2) rfl ?_);refine qe 2 #[.int .i64 Ag,.slice Ai Ac.length Aj] 32 ?_;intro Bc hg Cf hbox hb;have Aa:=y0.mk (hbox);have Bd:=y0.mk (qg (w:=w) hg);have Be:=y0.mk (qg (w:=w) hg);replace HB:=y0.mk (y8 qb hb);clear hb hbox hg)|((with_reducible refine y20 (N:=3) rfl ?_);refine qe 3 #[.slice Am Ah.length Ap] 36 ?_;intro Bf hg Cg hbox hb;have Af:=y0.mk (hbox);have Bg:=y0.mk (qg (w:=w) hg);have Bh:=y0.mk (qg (w:=w) hg);replace HB:=y0.mk (y8 qb hb);have Ad:=y0.mk (qn Aa.out hg);have Ae:=y0.mk (qm Aa.out hg);replace Aa:=y0.mk (qK Aa.out hb);clear hb hbox hg;have Bw:=Ad.out;have Bx:=Ae.out;obtain⟨Bo,Bp,Bq,Br⟩:=qz2 Aa.out)|((with_reducible refine y19 (f:=40) rfl ?_);refine y22 (some 6) rfl rfl Tryz.func40 (by kernel_rfl) rfl #[.agg #[.int .i64 Ag,.slice Ai Ac.length Aj]] rfl qy0 ?_;(with_reducible refine(impl_isRel.calls k Ag _ _ Ac false _ (qc (Kd.C_below Ak.out HB.out)) Al.out (by exact Tb.below HT.out qb) A3.out).mono ?_);rintro e Ch ⟨rfl,hb⟩;refine⟨_,rfl, ?_⟩;replace Aa:=y0.mk (qK Aa.out hb);replace Af:=y0.mk (qK Af.out hb);replace HB:=y0.mk (y8 qb hb);(try clear hb)))
  go_ret
  exact⟨qf,qb⟩
end Go.Proofs.YtkajecadkkgfmaaGreatDoor.Pn
end
section
namespace Go.Proofs.YtkajecadkkgfmaaGreatDoor.Pn
open Go.RowKit Go.Proofs.YtkajecadkkgfmaaGreatDoorW.PrintWords Go.Proofs.YtkajecadkkgfmaaGreatDoorW.PrintLast Go.Proofs.YtkajecadkkgfmaaGreatDoorW.PrintMore
attribute [local go_sem] max2_int min2_int max_two min_two max_three min_three max_four min_four   -- for this text's walks alone
set_option linter.unusedVariables false
set_option linter.unusedSimpArgs false
/-- A row that stays: it is none of the others. -/
def keepB (lb:List S36) (r:S36):Bool:=!hasT lb r.f0
/-- The first row, from a place on, that goes. -/
def fidx (lb:List S36):List S36→Nat→Int
 | [],_=>-1
 | r :: l,i=>if hasT lb r.f0=true then(i:Int)else fidx lb l (i + 1)
theorem fidx_cons (lb:List S36) (l:List S36) (i:Nat) (h:i < l.length):fidx lb (l.drop i) i=if hasT lb l[i].f0=true then(i:Int)else fidx lb (l.drop (i + 1)) (i + 1):=by
 rw [List.drop_eq_getElem_cons h]
 rfl
theorem fidx_none (lb:List S36):∀(l:List S36) (i:Nat),fidx lb l i=-1→∀ r∈l,keepB lb r=true
 | [],_,_,r,hr=>by cases hr
 | x :: l,i,h,r,hr=>by
  unfold fidx at h
  by_cases e:hasT lb x.f0=true
  ·rw [if_pos e]at h
   omega
  ·rw [if_neg e]at h
   rcases List.mem_cons.1 hr with rfl|hr
   ·unfold keepB
    rw [Bool.eq_false_iff.2 e]
    rfl
   ·exact fidx_none lb l (i + 1) h r hr
theorem fidx_some (lb:List S36):∀(l:List S36) (i:Nat),fidx lb l i≠-1→∃ j,∃ h:j < l.length,fidx lb l i=((i + j:Nat):Int)∧(∀ r∈l.take j,keepB lb r=true)∧hasT lb l[j].f0=true
 | [],_,h=>absurd rfl h
 | x :: l,i,h=>by
  unfold fidx at h ⊢
  by_cases e:hasT lb x.f0=true
  ·rw [if_pos e]
   exact⟨0,by simp,rfl,(fun r hr=>by cases hr),e⟩
  ·rw [if_neg e]at h ⊢
   obtain⟨j,hj,h1,h2,h3⟩:=fidx_some lb l (i + 1) h
   refine⟨j + 1,by simpa using hj,by rw [h1];omega,fun r hr=>?_,h3⟩
   rw [List.take_succ_cons]at hr
   rcases List.mem_cons.1 hr with rfl|hr
   ·unfold keepB
    rw [Bool.eq_false_iff.2 e]
    rfl
   ·exact h2 r hr
theorem wrap_lup {i:Nat} (h:i≤281474976710656):wrap64 ((i:Int) + 1)=((i + 1:Nat):Int):=by
 unfold wrap64
 omega
theorem has_some (b0:Int) (lb:List S36) (l:List ByteArray) (h1:lb.length≤281474976710656) (h2:l.length≤281474976710656):impl_Rel_has.f b0 lb l=some (hasT lb l):=by
 unfold impl_Rel_has.f
 rw [if_pos h1,if_pos h2]
set_option maxHeartbeats 8000000 in
set_option maxRecDepth 100000 in
theorem slices_IndexFunc_bound.calls (A0:Option Addr) (c0:Nat) (l0:List (S36)) (b0:Int) (Ab:Option Addr) (cb:Nat) (lb:List (S36)) (w:World) (Ac:Kd.C k36 w A0 l0.length l0) (Ad:l0.length≤c0) (hrb:Kd.C k36 w Ab lb.length lb) (hcb:lb.length≤cb)
  (hlb:lb.length≤281474976710656) (Ae:l0.length≤281474976710656) (hls:∀ r∈l0,r.f0.length≤281474976710656) :
  Calls Tryz.prog 88 #[.slice A0 l0.length c0,.func (.func 61) #[.agg #[.int .i64 b0,.slice Ab lb.length cb]] #[]] w fun e w'=>e=.returned (.int .i64 (fidx lb l0 0))∧Below w.heap.size w w':=by
 have Ah:=Tryz.underlying36
 have Ai:=y0.mk Ac
 have Am:=y0.mk Ad
 have HRb:=y0.mk hrb
 have HCb:=y0.mk hcb
 have HL:=y0.mk hlb
 have Aj:=y0.mk Ae
 have HLS:=y0.mk hls
 clear Ac Ad hrb hcb hlb Ae hls
 have HB:=y0.mk (Below.refl w.heap.size w)
 go_enter Tryz.func88,Tryz.ntmps88
 go_wp2
 go_loopg [8] l0.length (fun kq v8 w'=>∃(xi:Int) (i:Nat),v8=.int .i64 xi∧y0 (xi=(i:Int))∧y0 (kq + i=l0.length)∧y0 (fidx lb (l0.drop i) i=fidx lb l0 0)∧y0 (Below w.heap.size w w'))
 case atStart=>exact⟨0,0,rfl,⟨rfl⟩,⟨Nat.add_zero _⟩,⟨rfl⟩,HB⟩
 case round =>
  obtain⟨xi,i,rfl,HX,Ak,HA,HB⟩:=hrel
  by_cases c:xi < (l0.length:Int)
  ·have hi:i < l0.length:=by have:=HX.out;omega
   have p1:0≤xi:=by have:=HX.out;omega
   obtain⟨ad,A2,c2,e2,Aa,Af,Ag⟩:=at_T36 Ai.out xi p1 c
   cases e2
   replace Aa:=(HB.out.cell (World.block_lt_of_cell? w _ Aa)).trans Aa
   have hrd:y24 l0 xi=l0[i]:=by
    rw [HX.out]
    exact rd_at l0 i hi
   have hH:=fidx_cons lb l0 i hi
   rw [HA.out]at hH
   have hin:=HLS.out _ (List.getElem_mem hi)
   rw [← hrd]at hH hin
   obtain⟨b,hb⟩:∃ b,hasT lb (y24 l0 xi).f0=b:=⟨_,rfl⟩
   rw [hb]at hH
   have step:y0 (∀(w1:World),Below w.heap.size w w1→Calls Tryz.prog 61 #[.agg #[.int .i64 b0,.slice Ab lb.length cb],.agg #[.slice A2 (y24 l0 xi).f0.length c2]] w1 fun e w'=>e=.returned (.bool b)∧Below w1.heap.size w1 w') :=
    ⟨fun w1 h1=>impl_Rel_has.calls b0 Ab cb lb A2 c2 _ b w1 (Kd.C_below HRb.out h1) HCb.out (Kd.C_below Ag h1) Af (by rw [has_some b0 lb _ HL.out hin,hb])⟩
   have HHt:y0 (b=true→fidx lb l0 0=(i:Int)):=⟨fun e=>by rw [hH,if_pos e]⟩
   have HHf:y0 (b=false→fidx lb l0 0=fidx lb (l0.drop (i + 1)) (i + 1)):=⟨fun e=>by rw [hH,if_neg (by rw [e];decide)]⟩
   have HI:=y0.mk hi
   have q1:=eq_true c
   replace p1:=eq_true p1
   have Al:decide (xi < (l0.length:Int))=true:=decide_eq_true c
   clear hH hin hrd hb hi Ag Af c
   cases b with
   | true =>
    go_wp2_with (first|(go_at_call 61;(with_reducible refine(step.out _ HB.out).mono ?_);rintro e w5 ⟨rfl,hb⟩;have n0_:=y0.mk (y8 HB.out hb);clear HB hb;have HB:=n0_;clear n0_))
    go_ret
    refine⟨?_,HB.out⟩
    rw [(by first|exact HHt.out rfl|exact HHt.out trivial:fidx lb l0 0=(i:Int)),HX.out]
    rfl
   | false =>
    go_wp2_with (first|(go_at_call 61;(with_reducible refine(step.out _ HB.out).mono ?_);rintro e w5 ⟨rfl,hb⟩;have n0_:=y0.mk (y8 HB.out hb);clear HB hb;have HB:=n0_;clear n0_))
    go_roundg (l0.length - i - 1)
    case measure=>have:=Ak.out;have:=HI.out;omega
    case rel =>
     refine⟨wrap64 (xi + 1),i + 1,qy2,⟨?_⟩,⟨by have:=HI.out;omega⟩,⟨?_⟩,HB⟩
     ·rw [HX.out]
      exact wrap_lup (by have:=HI.out;have:=Aj.out;omega)
     ·exact(by first|exact HHf.out rfl|exact HHf.out trivial:fidx lb l0 0=fidx lb (l0.drop (i + 1)) (i + 1)).symm
  ·have Al:decide (xi < (l0.length:Int))=false:=decide_eq_false c
   go_wp2
   go_ret
   refine⟨?_,HB.out⟩
   have h1:=HA.out
   rw [List.drop_of_length_le (by have:=HX.out;omega)]at h1
   rw [← h1]
   rfl
/-- clear(s), s a slice of n > 0 elements of one cell each. -/
theorem run_clear1 {P:Program} (w:World) (t e ty:TypeId) (z u:Value) (ht:P.underlying t=some (.slice e)) (hv:∀ w,(zeroValue e).run P w=.ok z w) (hz:z.cells=#[u]) (h1:u.oneCell'=true) (b o n c:Nat) (hn:0 < n)
  (hc:∀ j,j < n→(w.cell? ⟨b,o + j,none⟩).isSome=true) (hf:∀ j,j < n→w.frozen? ⟨b,o + j,none⟩=false) :
  (Builtin.clear_ #[t] ty #[.slice (some ⟨b,o,none⟩) n c]).run P w=.ok (.tuple #[]) (w.setCells b o (List.replicate n u)):=by
 have hzc:(Builtin.zeroCells z.cells n).toList=List.replicate n u:=by
  rw [hz]
  simp [Builtin.zeroCells]
  apply List.ext_getElem
  ·simp
  ·intro i h1 h2
   simp [Nat.mod_one]
 have hst:=run_storeCells_cells (P:=P) b o (List.replicate n u) 0 w (by simpa using hc) (by simpa using hf) (by intro v hv';rw [List.eq_of_mem_replicate hv'];exact h1)
 simp only [Nat.add_zero]at hst
 obtain⟨m,rfl⟩:∃ m,n=m + 1:=⟨n - 1,by omega⟩
 simp [Builtin.clear_,run_underlying ht,hv,hzc,hst]
theorem zip_fst (l:List S36):∀ n,(l.zipIdx n).map Prod.fst=l:=by
 induction l with
 | nil=>intro n;rfl
 | cons x l ih =>
  intro n
  rw [List.zipIdx_cons,List.map_cons,ih]
theorem filter_fst (q:S36→Bool) (zs:List (S36×Nat)):(zs.filter fun p=>q p.1).map Prod.fst=(zs.map Prod.fst).filter q:=by
 rw [List.filter_map]
 rfl
theorem zip_apart (l:List S36):l.zipIdx.Pairwise fun x y=>x.2≠y.2:=by
 refine List.pairwise_iff_getElem.2 fun i j hi hj hij=>?_
 rw [List.getElem_zipIdx,List.getElem_zipIdx]
 show 0 + i≠0 + j
 omega
theorem tk_drop (q:S36→Bool) {l:List S36} {zs:List (S36×Nat)} {i j:Nat} (hj:j < l.length) (h:zs.take i=(l.zipIdx.take j).filter fun p=>q p.1) (hq:q l[j]=false):zs.take i=(l.zipIdx.take (j + 1)).filter fun p=>q p.1:=by
 rw [List.take_succ_eq_append_getElem (by rw [List.length_zipIdx];exact hj),List.filter_append,← h,List.getElem_zipIdx,List.filter_cons,if_neg (by show ¬ q l[j]=true;rw [hq];decide),List.filter_nil,List.append_nil]
theorem tk_keep (q:S36→Bool) {l:List S36} {zs:List (S36×Nat)} {i j:Nat} (hj:j < l.length) (hi:i < zs.length) (h:zs.take i=(l.zipIdx.take j).filter fun p=>q p.1) (hq:q l[j]=true):(zs.set i (l[j],j)).take (i + 1)=(l.zipIdx.take (j + 1)).filter fun p=>q p.1:=by
 have h1:l.zipIdx.take (j + 1)=l.zipIdx.take j ++ [(l[j],j)]:=by
  rw [List.take_succ_eq_append_getElem (by rw [List.length_zipIdx];exact hj),List.getElem_zipIdx]
  simp
 have h2:(zs.set i (l[j],j)).take (i + 1)=zs.take i ++ [(l[j],j)]:=by
  rw [List.take_succ_eq_append_getElem (by rw [List.length_set];exact hi),List.take_set_of_le (Nat.le_refl i),List.getElem_set_self]
 rw [h1,h2,List.filter_append,← h,List.filter_cons,if_pos (by show q l[j]=true;exact hq),List.filter_nil]
theorem dr_set {l zs:List (S36×Nat)} {i j:Nat} (p:S36×Nat) (hij:i < j + 1) (h:zs.drop j=l.drop j):(zs.set i p).drop (j + 1)=l.drop (j + 1):=by
 rw [List.drop_set_of_lt hij,← List.drop_drop,h,List.drop_drop]
theorem dr_one {l zs:List (S36×Nat)} {j:Nat} (h:zs.drop j=l.drop j):zs.drop (j + 1)=l.drop (j + 1):=by
 rw [← List.drop_drop,h,List.drop_drop]
/-- s[i:] and s[:i], i < n ≤ c. -/
theorem cut_lo {P:Program} (t e:TypeId) {ii:TypeInfo} (ht:P.underlying t=some (.slice e)) (hi:P.info? e=some ii) (hsz:ii.size=1) (g n c i:Nat) (hin:i < n) (hnc:n≤c) (W:World):(Instr.slice t (.slice (some ⟨g,0,none⟩) n c) (some (.int .i64 (i:Int))) none none).run P W=.ok (.slice (some ⟨g,i,none⟩) (n - i) (c - i)) W:=by
 have hel:P.elem t=e:=by simp [Program.elem,ht]
 have hu:P.underlying t=some (.slice (P.elem t)):=by rw [hel];exact ht
 rw [run_slice_l W t (some ⟨g,0,none⟩) n c hu .i64 (i:Int) (Int.natCast_nonneg _) (by omega),hel]
 simp [sizeOf,typeInfo,hi,hsz,sliced,Result.andThen,show c≠i by omega,add_at]
theorem cut_hi {P:Program} (t e:TypeId) {ii:TypeInfo} (ht:P.underlying t=some (.slice e)) (hi:P.info? e=some ii) (hsz:ii.size=1) (g n c i:Nat) (hin:i < n) (hnc:n≤c) (W:World):(Instr.slice t (.slice (some ⟨g,0,none⟩) n c) none (some (.int .i64 (i:Int))) none).run P W=.ok (.slice (some ⟨g,0,none⟩) i c) W:=by
 have hel:P.elem t=e:=by simp [Program.elem,ht]
 have hu:P.underlying t=some (.slice (P.elem t)):=by rw [hel];exact ht
 rw [run_slice_h W t (some ⟨g,0,none⟩) n c hu .i64 (i:Int) (Int.natCast_nonneg _) (by omega),hel]
 simp [sizeOf,typeInfo,hi,hsz,sliced,Result.andThen,add_at]
section
variable {f : Nat → Nat} {lo hi : Nat} {g n c : Nat} {zs : List (S36 × Nat)} {W : World}
abbrev kTag (f:Nat→Nat):Kd (S36×Nat):=Kd.tag f k36
/-- Element i: its one cell, a row. -/
theorem tag_at (h:QIv.OR (kTag f) 36 lo hi (.slice (some ⟨g,0,none⟩) n c) zs W) (i:Nat) (hin:i < n) (p:S36×Nat) (hp:zs[i]?=some p) :
  ∃ A cx,W.cell? ⟨g,i,none⟩=some (.slice A p.1.f0.length cx)∧W.frozen? ⟨g,i,none⟩=false∧p.1.f0.length≤cx∧Kd.C Kd.string W A p.1.f0.length p.1.f0∧(kTag f).M W lo (fun k=>k < hi∧k≠g) p [.slice A p.1.f0.length cx]:=by
 obtain⟨cs,hcl,hM,hcc,hfr⟩:=Kd.R_elem h p (i:Int) (by omega) (by omega)
 rw [show((i:Int)).toNat=i from rfl]at hM hcc hfr
 rw [List.getD_eq_getElem?_getD,hp,Option.getD_some]at hM
 obtain⟨u,rfl,hR⟩:=k36_openM hM
 obtain⟨A,cx,rfl⟩:=Kd.R_slice hR
 have h1:=hcc 0 _ rfl
 have h2:=hfr 0
 have hz:i * (kTag f).sz + 0=i:=by show i * 1 + 0=i;omega
 rw [hz]at h1 h2
 obtain⟨hl,hle,hC⟩:=Kd.R_reads' hR
 exact⟨A,cx,h1,h2,hle,hC,hM⟩
/-- An element is stored at place i. -/
theorem tag_put (h:QIv.OR (kTag f) 36 lo hi (.slice (some ⟨g,0,none⟩) n c) zs W) (i:Nat) (hin:i < n) (p:S36×Nat) (u:Value) (hM:(kTag f).M W lo (fun k=>k < hi∧k≠g) p [u]) :
  QIv.OR (kTag f) 36 lo hi (.slice (some ⟨g,0,none⟩) n c) (zs.set i p) (W.setCell ⟨g,i,none⟩ u):=by
 obtain⟨cs,hcl,_,hcc,_⟩:=Kd.R_elem h p (i:Int) (by omega) (by omega)
 have h1:cs.length=1:=hcl
 have key:=(Kd.R_seg h (i:Int) (by omega) (by omega) (c:=cs) (seg:=[u]) (j:=0) hcl hcc (by show 0 + 1≤1;omega) (x':=p) (okp:=fun k=>k < hi∧k≠g) (by rw [List.take_zero,List.nil_append,List.drop_of_length_le (by rw [h1];simp),List.append_nil];exact hM) (fun _ hk=>hk)).1
 have hz:((i:Int)).toNat * (kTag f).sz + 0=i:=by show i * 1 + 0=i;omega
 rw [hz]at key
 exact key
end
set_option maxHeartbeats 8000000 in
set_option maxRecDepth 100000 in
theorem slices_DeleteFunc_bound.calls (lo hi:Nat) (A0:Option Addr) (c0:Nat) (l0:List (S36)) (b0:Int) (Ab:Option Addr) (cb:Nat) (lb:List (S36)) (w0 w:World) (hB:Below w0.heap.size w0 w) (hlo:w0.heap.size≤lo) (hhi:hi≤w.heap.size) (ho:QIv.OS k36 36 lo hi (.slice A0 l0.length c0) l0 w)
  (hrb:∀ w1,QIv.KI lo hi w w1→Kd.C k36 w1 Ab lb.length lb) (hcb:lb.length≤cb) (hlb:lb.length≤281474976710656) (Af:l0.length≤281474976710656) (hls:∀ r∈l0,r.f0.length≤281474976710656) :
  Calls Tryz.prog 62 #[.slice A0 l0.length c0,.func (.func 61) #[.agg #[.int .i64 b0,.slice Ab lb.length cb]] #[]] w fun e w'=>e=.returned (.slice A0 (l0.filter (keepB lb)).length c0)∧QIv.OS k36 36 lo hi (.slice A0 (l0.filter (keepB lb)).length c0) (l0.filter (keepB lb)) w'∧Below w0.heap.size w0 w'∧QIv.KI lo hi w w':=by
 have Am:=Tryz.underlying36
 have HO:=y0.mk ho
 have HB:=y0.mk hB
 have HLO:=y0.mk hlo
 have HHI:=y0.mk hhi
 have HRb:=y0.mk hrb
 have HCb:=y0.mk hcb
 have HL:=y0.mk hlb
 have Ae:=y0.mk Af
 have HLS:=y0.mk hls
 have HK:=y0.mk (QIv.ki_refl lo hi w)
 have IDX:=y0.mk (fun(W:World) (hk:QIv.KI lo hi w W) (hC:Kd.C k36 W A0 l0.length l0)=>slices_IndexFunc_bound.calls A0 c0 l0 b0 Ab cb lb W hC (QIv.OS.le ho) (hrb W hk) hcb hlb Af hls)
 clear hB hlo hhi ho hrb hcb hlb Af hls
 by_cases hno:fidx lb l0 0=-1
 ·have hall:=fidx_none lb l0 0 hno
  have hfl:l0.filter (keepB lb)=l0:=List.filter_eq_self.2 hall
  rw [hfl]
  have Ap:(fidx lb l0 0 == -1)=true:=beq_iff_eq.mpr hno
  clear hall hfl hno
  go_enter Tryz.func62,Tryz.ntmps62
  go_wp2_with (first|(go_at_call 88;(with_reducible refine(IDX.out _ HK.out HO.out.C).mono ?_);rintro e w2 ⟨rfl,hb⟩;have n0_:=y0.mk (HO.out.below hb);have n1_:=y0.mk (y8 HB.out hb);have n2_:=y0.mk (QIv.ki_below HK.out hb);clear HO HB HK hb;have HO:=n0_;have HB:=n1_;have HK:=n2_;clear n0_ n1_ n2_))
  go_ret
  exact⟨by first|rfl|(simp [y17,y18] <;> rfl),HO.out,HB.out,HK.out⟩
 ·obtain⟨i0,Ag,hfi,hpre,hhas⟩:=fidx_some lb l0 0 hno
  rw [Nat.zero_add]at hfi
  rw [hfi]at IDX
  have Ap:((i0:Int) == -1)=false:=beq_eq_false_iff_ne.mpr (by omega)
  obtain⟨g,cap,hsl,hbg,_⟩:=Kd.S_form HO.out (by omega)
  injection hsl with e1 _ e3
  subst e1
  clear e3 hno
  obtain⟨ft,hR⟩:=HO.out
  have HR:y0 (QIv.OR (kTag ft) 36 lo hi (.slice (some ⟨g,0,none⟩) l0.length c0) l0.zipIdx w):=⟨hR⟩
  have hg:lo≤g∧g < hi:=⟨Kd.R_base hR g (by simp [Value.ownBlock]),hR.1 g (by simp [Value.ownBlock])⟩
  have HG:=y0.mk hg
  have hnc:=(Kd.R_reads' hR).2.1
  have HNC:=y0.mk hnc
  have Ac:(l0.zipIdx.take i0).filter (fun p=>keepB lb p.1)=l0.zipIdx.take i0:=by
   refine List.filter_eq_self.2 fun p hp=>hpre p.1 ?_
   have h1:p.1∈(l0.zipIdx.take i0).map Prod.fst:=List.mem_map_of_mem hp
   rwa [List.map_take,zip_fst]at h1
  have hst:l0.zipIdx.take i0=(l0.zipIdx.take (i0 + 1)).filter (fun p=>keepB lb p.1):=by
   rw [List.take_succ_eq_append_getElem (by rw [List.length_zipIdx];exact Ag),List.filter_append,Ac,List.getElem_zipIdx]
   have:keepB lb l0[i0]=false:=by
    unfold keepB
    rw [hhas]
    rfl
   rw [List.filter_cons,if_neg (by show ¬ keepB lb l0[i0]=true;rw [this];decide),List.filter_nil,List.append_nil]
  have HST:=y0.mk hst
  have HI0:=y0.mk Ag
  clear hR hg hnc Ac hst Ag hpre hhas hfi hbg
  go_enter Tryz.func62,Tryz.ntmps62
  go_wp2_with (first|(go_at_call 88;(with_reducible refine(IDX.out _ HK.out HO.out.C).mono ?_);rintro e w2 ⟨rfl,hb⟩;have n0_:=y0.mk (HR.out.below hb);have n1_:=y0.mk (y8 HB.out hb);have n2_:=y0.mk (QIv.ki_below HK.out hb);have n3_:=y0.mk (Nat.le_trans HHI.out hb.size);clear HR HB HK HO hb;have HR:=n0_;have HB:=n1_;have HK:=n2_;have HHW:=n3_;clear n0_ n1_ n2_ n3_))
  go_loopg [5,6] (l0.length - i0 - 1) (fun kq v5 v6 w'=>∃(xi xj:Int) (i j:Nat) (zs:List (S36×Nat)),v5=.int .i64 xi∧v6=.int .i64 xj∧y0 (xi=(i:Int))∧y0 (xj=(j:Int))∧y0 (kq + j=l0.length)∧y0 (i < j)∧y0 (zs.length=l0.length)∧y0 (zs.take i=(l0.zipIdx.take j).filter (fun p=>keepB lb p.1))∧y0 (zs.drop j=l0.zipIdx.drop j)∧y0 (QIv.OR (kTag ft) 36 lo hi (.slice (some ⟨g,0,none⟩) l0.length c0) zs w')∧y0 (QIv.KI lo hi w w')∧y0 (Below w0.heap.size w0 w')∧y0 (hi≤w'.heap.size))
  case atStart=>exact⟨(i0:Int),wrap64 ((i0:Int) + 1),i0,i0 + 1,l0.zipIdx,rfl,qy2,⟨rfl⟩,⟨wrap_lup (by have:=HI0.out;have:=Ae.out;omega)⟩,⟨(by have:=HI0.out;omega)⟩,⟨(by omega)⟩,⟨List.length_zipIdx⟩,HST,⟨rfl⟩,HR,HK,HB,HHW⟩
  case round =>
   clear HR HK HB HHW
   obtain⟨xi,xj,i,j,zs,rfl,rfl,HX,HXJ,Ah,HIJ,HZL,HZT,HZD,HR,HK,HB,HHW⟩:=hrel
   by_cases c:xj < (l0.length:Int)
   ·have hj:j < l0.length:=by have:=HXJ.out;omega
    have hzj:zs[j]?=some (l0[j],j):=by
     have h1:(zs.drop j)[0]?=(l0.zipIdx.drop j)[0]?:=by rw [HZD.out]
     rw [List.getElem?_drop,List.getElem?_drop,Nat.add_zero,List.getElem?_zipIdx,List.getElem?_eq_getElem hj]at h1
     rw [h1]
     simp
    obtain⟨Ax,cx,Ai,Aq,hle,hCx,hMx⟩:=tag_at HR.out j hj _ hzj
    obtain⟨x,hxe⟩:∃ x,l0[j]=x:=⟨_,rfl⟩
    rw [hxe]at Ai hle hCx hMx hzj
    have hxn:x.f0.length≤281474976710656:=by rw [← hxe];exact HLS.out _ (List.getElem_mem hj)
    obtain⟨b,hb⟩:∃ b,hasT lb x.f0=b:=⟨_,rfl⟩
    have p1:(0≤xj)=True:=eq_true (by have:=HXJ.out;omega)
    have q1:(xj < (l0.length:Int))=True:=eq_true c
    have Au:decide (xj < (l0.length:Int))=true:=decide_eq_true c
    have Ba:wr.cell? ⟨g,xj.toNat,none⟩=some (.slice Ax x.f0.length cx):=by
     rw [show xj.toNat=j by have:=HXJ.out;omega]
     exact Ai
    have STEP:y0 (∀ w1,Below wr.heap.size wr w1→Calls Tryz.prog 61 #[.agg #[.int .i64 b0,.slice Ab lb.length cb],.agg #[.slice Ax x.f0.length cx]] w1 fun e w'=>e=.returned (.bool b)∧Below w1.heap.size w1 w') :=
     ⟨fun w1 h1=>impl_Rel_has.calls b0 Ab cb lb Ax cx _ b w1 (HRb.out _ (QIv.ki_below HK.out h1)) HCb.out (Kd.C_below hCx h1) hle (by rw [has_some b0 lb _ HL.out hxn,hb])⟩
    have HMX:=y0.mk hMx
    have HBB:=y0.mk hb
    have HXE:=y0.mk hxe
    have HJ:=y0.mk hj
    have HBW:=y0.mk (Below.refl wr.heap.size wr)
    have KP:y0 (b=true→keepB lb l0[j]=false):=⟨fun e=>by unfold keepB;rw [hxe,hb,e];rfl⟩
    have KQ:y0 (b=false→keepB lb l0[j]=true):=⟨fun e=>by unfold keepB;rw [hxe,hb,e];rfl⟩
    have HI:=y0.mk (show i < l0.length by have:=HIJ.out;omega)
    have p3:(0≤xi)=True:=eq_true (by have:=HX.out;omega)
    have q3:(xi < (l0.length:Int))=True:=eq_true (by have:=HX.out;have:=HI.out;omega)
    have hzi:zs[i]?=some (zs[i]'(by rw [HZL.out];exact HI.out)):=List.getElem?_eq_getElem _
    have ATI:y0 (∀ W:World,Below wr.heap.size wr W→∃ A cx,W.cell? ⟨g,xi.toNat,none⟩=some (.slice A _ cx)∧W.frozen? ⟨g,xi.toNat,none⟩=false):=⟨fun W hW=>by
     obtain⟨A,cx,h1,h2,_⟩:=tag_at (HR.out.below hW) i HI.out _ hzi
     rw [show xi.toNat=i by have:=HX.out;omega]
     exact⟨A,cx,h1,h2⟩⟩
    have NXT:y0 (∀ W:World,Below wr.heap.size wr W→QIv.OR (kTag ft) 36 lo hi (.slice (some ⟨g,0,none⟩) l0.length c0) (zs.set i (l0[j],j)) (W.setCell ⟨g,xi.toNat,none⟩ (.slice Ax x.f0.length cx))):=⟨fun W hW=>by
     rw [show xi.toNat=i by have:=HX.out;omega]
     refine tag_put (HR.out.below hW) i HI.out _ _ ((kTag ft).M_move (fun k hk=>hW.block k (Nat.lt_of_lt_of_le hk.1 HHW.out)) ?_)
     rw [hxe]
     exact HMX.out⟩
    clear hb hxn Ai Aq hle hCx hMx hzj hzi c
    cases b with
    | true =>
     go_wp2_with (first|((with_reducible refine y20 (N:=7) rfl ?_);(try(refine y21 (by rfl) ?_;dsimp only));refine qe 7 #[.slice none 0 0] 36 ?_;intro gb hg Aj hbox hb;have n0_:=y0.mk hb;have BK:=y0.mk hbox;have GE:=y0.mk (Nat.le_of_eq hg.symm:wr.heap.size≤gb);clear HBW hb hg hbox;have HBW:=n0_;clear n0_;have hcz:Aj.cell? ⟨gb,0,none⟩=some (.slice none 0 0):=(y11 BK.out 0).trans rfl;have hfz:=y15 BK.out 0)|(go_at_call 61;(with_reducible refine(STEP.out _ (y6 HBW.out GE.out)).mono ?_);rintro e Ak ⟨rfl,hb⟩;have n0_:=y0.mk (y8 (y6 HBW.out GE.out) hb);clear HBW hb;have HBW:=n0_;clear n0_))
     go_roundg (l0.length - j - 1)
     case measure=>have:=Ah.out;have:=HJ.out;omega
     case rel =>
      exact⟨xi,wrap64 (xj + 1),i,j + 1,zs,rfl,qy2,HX,⟨by rw [HXJ.out];exact wrap_lup (by have:=HJ.out;have:=Ae.out;omega)⟩,⟨by have:=HJ.out;omega⟩,⟨by have:=HIJ.out;omega⟩,HZL,⟨tk_drop _ HJ.out HZT.out (by first|exact KP.out rfl|exact KP.out trivial)⟩,⟨dr_one HZD.out⟩,⟨HR.out.below HBW.out⟩,⟨QIv.ki_below HK.out HBW.out⟩,⟨y8 HB.out HBW.out⟩,⟨Nat.le_trans HHW.out HBW.out.size⟩⟩
    | false =>
     go_wp2_with (first|((with_reducible refine y20 (N:=7) rfl ?_);(try(refine y21 (by rfl) ?_;dsimp only));refine qe 7 #[.slice none 0 0] 36 ?_;intro gb hg Aj hbox hb;have n0_:=y0.mk hb;have BK:=y0.mk hbox;have GE:=y0.mk (Nat.le_of_eq hg.symm:wr.heap.size≤gb);clear HBW hb hg hbox;have HBW:=n0_;clear n0_;have hcz:Aj.cell? ⟨gb,0,none⟩=some (.slice none 0 0):=(y11 BK.out 0).trans rfl;have hfz:=y15 BK.out 0)|(go_at_call 61;(with_reducible refine(STEP.out _ (y6 HBW.out GE.out)).mono ?_);rintro e Ak ⟨rfl,hb⟩;have n0_:=y0.mk (y8 (y6 HBW.out GE.out) hb);have n1_:=y0.mk (y10 (y16 BK.out 0 (.slice Ax x.f0.length cx) rfl) hb);clear HBW BK hb;have HBW:=n0_;have BK:=n1_;clear n0_ n1_;have Av:Ak.cell? ⟨gb,0,none⟩=some (.slice Ax x.f0.length cx):=(y11 BK.out 0).trans rfl;have Aw:=y15 BK.out 0;obtain⟨As,cs,Bb,Bc⟩:=ATI.out Ak HBW.out))
     go_roundg (l0.length - j - 1)
     case measure=>have:=Ah.out;have:=HJ.out;omega
     case rel =>
      refine⟨wrap64 (xi + 1),wrap64 (xj + 1),i + 1,j + 1,zs.set i (l0[j]'HJ.out,j),qy2,qy2,⟨by rw [HX.out];exact wrap_lup (by have:=HI.out;have:=Ae.out;omega)⟩,⟨by rw [HXJ.out];exact wrap_lup (by have:=HJ.out;have:=Ae.out;omega)⟩,⟨by have:=HJ.out;omega⟩,⟨by have:=HIJ.out;omega⟩,⟨by rw [List.length_set];exact HZL.out⟩,⟨tk_keep _ HJ.out (by rw [HZL.out];exact HI.out) HZT.out (by first|exact KQ.out rfl|exact KQ.out trivial)⟩,⟨dr_set _ (by have:=HIJ.out;omega) HZD.out⟩,⟨NXT.out _ HBW.out⟩,⟨?_⟩,⟨?_⟩,⟨?_⟩⟩
      ·exact QIv.ki_set (QIv.ki_below HK.out HBW.out) HG.out
      ·exact y6 (y8 HB.out HBW.out) (Nat.le_trans HLO.out HG.out.1)
      ·exact Nat.le_trans (Nat.le_trans HHW.out HBW.out.size) (by simp [World.setCell])
   ·have hjn:j=l0.length:=by have:=HXJ.out;have:=Ah.out;omega
    have hil:i < l0.length:=by have:=HIJ.out;omega
    have Au:decide (xj < (l0.length:Int))=false:=decide_eq_false c
    obtain⟨ii,hii,_,hsz,_⟩:=info_parts info36
    have hx:=HX.out
    have hcut:∀ W,(Instr.slice 30 (.slice (some ⟨g,0,none⟩) l0.length c0) (some (.int .i64 xi)) none none).run Tryz.prog W=.ok (.slice (some ⟨g,i,none⟩) (l0.length - i) (c0 - i)) W:=by
     rw [hx]
     exact cut_lo _ _ Tryz.underlying30 hii hsz g l0.length c0 i hil HNC.out
    have Aa:∀ W,(Instr.slice 30 (.slice (some ⟨g,0,none⟩) l0.length c0) none (some (.int .i64 xi)) none).run Tryz.prog W=.ok (.slice (some ⟨g,0,none⟩) i c0) W:=by
     rw [hx]
     exact cut_hi _ _ Tryz.underlying30 hii hsz g l0.length c0 i hil HNC.out
    have hat:∀ k,k < l0.length - i→∃ A cx n,wr.cell? ⟨g,i + k,none⟩=some (.slice A n cx)∧wr.frozen? ⟨g,i + k,none⟩=false:=fun k hk=>by
     obtain⟨A,cx,h1,h2,_⟩:=tag_at HR.out (i + k) (by omega) _ (List.getElem?_eq_getElem (show i + k < zs.length by rw [HZL.out];omega))
     exact⟨A,cx,_,h1,h2⟩
    have hclr:(Builtin.clear_ #[30] 0 #[.slice (some ⟨g,i,none⟩) (l0.length - i) (c0 - i)]).run Tryz.prog wr=.ok (.tuple #[]) (wr.setCells g i (List.replicate (l0.length - i) (.slice none 0 0))):=by
     refine run_clear1 wr _ _ _ (.agg #[.slice none 0 0]) _ Tryz.underlying30 ?_ rfl rfl g i _ _ (by omega) (fun k hk=>?_) (fun k hk=>?_)
     ·intro w2
      go_simp
     ·obtain⟨A,cx,n,h1,h2⟩:=hat k hk
      rw [h1]
      rfl
     ·obtain⟨A,cx,n,h1,h2⟩:=hat k hk
      exact h2
    have HCUT:=y0.mk hcut
    have Ad:=y0.mk Aa
    have HCLR:=y0.mk hclr
    clear hat hii hsz hx c hcut Aa hclr
    have hcut:=HCUT.out
    have Aa:=Ad.out
    have hclr:=HCLR.out
    go_wp2
    go_ret
    have Al:(zs.take i).map Prod.fst=l0.filter (keepB lb):=by
     rw [HZT.out,hjn,List.take_of_length_le (by rw [List.length_zipIdx];omega),filter_fst,zip_fst]
    have hln:(l0.filter (keepB lb)).length=i:=by
     rw [← Al,List.length_map,qT_,HZL.out]
     omega
    have hpw:(zs.take i).Pairwise fun x y=>x.2≠y.2:=by
     rw [HZT.out,hjn,List.take_of_length_le (by rw [List.length_zipIdx];omega)]
     exact(zip_apart l0).filter _
    rw [hln]
    have Ay:QIv.OR (kTag ft) 36 lo hi (.slice (some ⟨g,0,none⟩) i c0) (zs.take i) wr:=Kd.R_take HR.out (by rw [HZL.out];omega)
    have Az:=QIv.R_pasts (g:=g) (List.replicate (l0.length - i) (Value.slice none 0 0)) Ay (off:=i) (by show i * 1≤i;omega)
    refine⟨rfl, ?_,QIv.below_sets _ HB.out (Nat.le_trans HLO.out HG.out.1),QIv.ki_sets _ HK.out HG.out⟩
    have h9:=QIv.S_sub Az hpw
    rw [Al]at h9
    exact h9
/-- What the walk asks for: no row too long to be told. -/
def okB (lb l:List S36):Bool:=decide (lb.length≤281474976710656) && (decide (l.length≤281474976710656) && l.all fun x=>decide (x.f0.length≤281474976710656))
def impl_RelLess.f (k:Nat) (a0_0:Int) (l0_1:List S36) (a1_0:Int) (l1_1:List S36):Option (Int×List S36) :=
 (impl_isRel.f k a0_0 l0_1).bind fun ta=>if ta=true then(impl_isRel.f k a1_0 l1_1).bind fun tb=>if tb=true then(if a0_0=a1_0 then(impl_copyRel.f k a0_0 l0_1).bind fun r=>(if okB l1_1 r.2=true then some (r.1,r.2.filter (keepB l1_1))else none)else some (0,[]))else some (0,[])else some (0,[])
theorem heapT:Kd.Heap k36:=Kd.heap_iso _ (Kd.heap_slice _ Kd.heap_string)
theorem ki_came {lo hi:Nat} {w W:World} {A:Option Addr} {xs:List S36} (h:Kd.C k36 w A xs.length xs) (hb:Below w.heap.size w W) (hlo:w.heap.size≤lo) (w1:World) (hk:QIv.KI lo hi W w1):Kd.C k36 w1 A xs.length xs :=
 heapT.C (fun k hlt=>(hk.2 k (Nat.lt_of_lt_of_le hlt hb.size) (fun h2=>by have:=h2.1;omega)).trans (hb.block k hlt)) h
set_option maxHeartbeats 8000000 in
set_option maxRecDepth 100000 in
theorem impl_RelLess.calls (k:Nat) (Ac:Int) (Ah:Option Addr) (Ai:Nat) (Ad:List (S36)) (Ae:Int) (Af:Option Addr) (Ag:Nat) (Aa:List (S36)) (r1:Int) (r2:List (S36)) (w:World) (Aj:Kd.C k36 w Ah Ad.length Ad) (Ak:Ad.length≤Ai) (Al:Kd.C k36 w Af Aa.length Aa) (Am:Aa.length≤Ag) (hT:Tb w) (h:impl_RelLess.f k Ac Ad Ae Aa=some (r1,r2)) :
  Calls Tryz.prog 28 #[.agg #[.int .i64 Ac,.slice Ah Ad.length Ai],.agg #[.int .i64 Ae,.slice Af Aa.length Ag]] w fun e w'=>∃ v1_:Value,e=.returned (.agg #[.int .i64 r1,v1_])∧Kd.S k36 36 w' w.heap.size (fun _=>True) v1_ r2∧Below w.heap.size w w':=by
 have Dl:=Tryz.underlying32
 have Dm:=Tryz.underlying36
 unfold impl_RelLess.f at h
 obtain⟨ta,E1,h⟩:=Option.bind_eq_some_iff.1 h
 have STA:y0 (∀ W,Below w.heap.size w W→Calls Tryz.prog 40 #[.agg #[.int .i64 Ac,.slice Ah Ad.length Ai]] W fun e w'=>e=.returned (.bool ta)∧Below W.heap.size W w'):=⟨fun W hW=>impl_isRel.calls k Ac Ah Ai Ad ta W (Kd.C_below Aj hW) Ak (Tb.below hT hW) E1⟩
 have HB:=y0.mk (Below.refl w.heap.size w)
 clear E1
 cases ta with
 | false =>
  rw [if_neg Bool.false_ne_true]at h
  simp only [Option.some.injEq,Prod.mk.injEq]at h
  obtain⟨rfl,rfl⟩:=h
  clear Aj Ak Al Am hT
  go_enter Tryz.func28,Tryz.ntmps28
  go_wp2_with (first
    | ((with_reducible refine y20 (N:=2) rfl ?_);refine qe 2 #[.int .i64 Ac,.slice Ah Ad.length Ai] 32 ?_;intro ga hg w1 hbox hb;replace BKa:=y0.mk (hbox);replace GEa:=y0.mk ((by rw [hg];exact HB.out.size:w.heap.size≤ga));replace HB:=y0.mk (y8 HB.out hb);clear hb hbox hg)
    | ((with_reducible refine y20 (N:=3) rfl ?_);refine qe 3 #[.int .i64 Ae,.slice Af Aa.length Ag] 32 ?_;intro gb hg w2 hbox hb;replace NBa_b:=y0.mk ((by rw [hg];exact Nat.ne_of_lt (blk_lt BKa.out):ga≠gb));replace NBb_a:=y0.mk ((by rw [hg];exact Nat.ne_of_gt (blk_lt BKa.out):gb≠ga));replace BKa:=y0.mk (y10 BKa.out hb);replace BKb:=y0.mk (hbox);replace GEb:=y0.mk ((by rw [hg];exact HB.out.size:w.heap.size≤gb));replace HB:=y0.mk (y8 HB.out hb);clear hb hbox hg)
    | ((with_reducible refine y20 (N:=4) rfl ?_);refine qe 4 #[.int .i64 0,.slice none 0 0] 32 ?_;intro gr hg w3 hbox hb;replace NBa_r:=y0.mk ((by rw [hg];exact Nat.ne_of_lt (blk_lt BKa.out):ga≠gr));replace NBb_r:=y0.mk ((by rw [hg];exact Nat.ne_of_lt (blk_lt BKb.out):gb≠gr));replace NBr_a:=y0.mk ((by rw [hg];exact Nat.ne_of_gt (blk_lt BKa.out):gr≠ga));replace BKa:=y0.mk (y10 BKa.out hb);replace NBr_b:=y0.mk ((by rw [hg];exact Nat.ne_of_gt (blk_lt BKb.out):gr≠gb));replace BKb:=y0.mk (y10 BKb.out hb);replace BKr:=y0.mk (hbox);replace GEr:=y0.mk ((by rw [hg];exact HB.out.size:w.heap.size≤gr));replace HB:=y0.mk (y8 HB.out hb);clear hb hbox hg;have Ap:w3.cell? ⟨ga,0,none⟩=some (.int .i64 Ac):=(y11 BKa.out 0).trans rfl;have Aq:w3.cell? ⟨ga,1,none⟩=some (.slice Ah Ad.length Ai):=(y11 BKa.out 1).trans rfl;have Au:=y15 BKa.out 0;have Av:=y15 BKa.out 1;have Aw:w3.cell? ⟨gb,0,none⟩=some (.int .i64 Ae):=(y11 BKb.out 0).trans rfl;have Ay:w3.cell? ⟨gb,1,none⟩=some (.slice Af Aa.length Ag):=(y11 BKb.out 1).trans rfl;have Az:=y15 BKb.out 0;have Ba:=y15 BKb.out 1;have Bb:w3.cell? ⟨gr,0,none⟩=some (.int .i64 0):=(y11 BKr.out 0).trans rfl;have Bc:w3.cell? ⟨gr,1,none⟩=some (.slice none 0 0):=(y11 BKr.out 1).trans rfl;have Bd:=y15 BKr.out 0;have Be:=y15 BKr.out 1;have haab_:=NBa_b.out;have haar_:=NBa_r.out;have haba_:=NBb_a.out;have habr_:=NBb_r.out;have hara_:=NBr_a.out;have harb_:=NBr_b.out)
    | ((try(refine y21 (by rfl) ?_;dsimp only));go_at_call 40;((with_reducible refine(STA.out _ HB.out).mono ?_);rintro e w4 ⟨rfl,hb⟩;replace BKa:=y0.mk (y10 BKa.out hb);replace BKb:=y0.mk (y10 BKb.out hb);replace BKr:=y0.mk (y10 BKr.out hb);replace HB:=y0.mk (y8 HB.out hb);clear hb;have Bf:w4.cell? ⟨ga,0,none⟩=some (.int .i64 Ac):=(y11 BKa.out 0).trans rfl;have Bg:w4.cell? ⟨ga,1,none⟩=some (.slice Ah Ad.length Ai):=(y11 BKa.out 1).trans rfl;have Bh:=y15 BKa.out 0;have Bi:=y15 BKa.out 1;have Bj:w4.cell? ⟨gb,0,none⟩=some (.int .i64 Ae):=(y11 BKb.out 0).trans rfl;have Bk:w4.cell? ⟨gb,1,none⟩=some (.slice Af Aa.length Ag):=(y11 BKb.out 1).trans rfl;have Bl:=y15 BKb.out 0;have Bm:=y15 BKb.out 1;have Bn:w4.cell? ⟨gr,0,none⟩=some (.int .i64 0):=(y11 BKr.out 0).trans rfl;have Bo:w4.cell? ⟨gr,1,none⟩=some (.slice none 0 0):=(y11 BKr.out 1).trans rfl;have Bp:=y15 BKr.out 0;have Bq:=y15 BKr.out 1)))
  refine bodyPost_ret (results_cell_row rfl _ _ gr 32 #[.int .i64 0,.slice none 0 0] (0,0) _ rfl (by(with_reducible repeat(first|refine y13 ?_ _|refine y12 ?_|refine y9 ?_ _));refine y16 (cs:=#[.int .i64 0,.slice none 0 0]) ?_ 1 _ rfl;refine y16 (cs:=#[.int .i64 0,.slice none 0 0]) ?_ 0 _ rfl;exact BKr.out) Tryz.underlying32 rfl (by kernel_rfl)) rfl ?_
  exact⟨.slice none 0 0,by first|rfl|(simp [y17,y18] <;> rfl),Kd.S_nil _ _ _ _ _,y6 (y6 HB.out GEr.out) GEr.out⟩
 | true =>
  rw [if_pos rfl]at h
  obtain⟨tb,E2,h⟩:=Option.bind_eq_some_iff.1 h
  have STB:y0 (∀ W,Below w.heap.size w W→Calls Tryz.prog 40 #[.agg #[.int .i64 Ae,.slice Af Aa.length Ag]] W fun e w'=>e=.returned (.bool tb)∧Below W.heap.size W w'):=⟨fun W hW=>impl_isRel.calls k Ae Af Ag Aa tb W (Kd.C_below Al hW) Am (Tb.below hT hW) E2⟩
  clear E2 hT
  cases tb with
  | false =>
   rw [if_neg Bool.false_ne_true]at h
   simp only [Option.some.injEq,Prod.mk.injEq]at h
   obtain⟨rfl,rfl⟩:=h
   clear Aj Ak Al Am
   go_enter Tryz.func28,Tryz.ntmps28
   go_wp2_with (first
     | ((with_reducible refine y20 (N:=2) rfl ?_);refine qe 2 #[.int .i64 Ac,.slice Ah Ad.length Ai] 32 ?_;intro ga hg w1 hbox hb;replace BKa:=y0.mk (hbox);replace GEa:=y0.mk ((by rw [hg];exact HB.out.size:w.heap.size≤ga));replace HB:=y0.mk (y8 HB.out hb);clear hb hbox hg)
     | ((with_reducible refine y20 (N:=3) rfl ?_);refine qe 3 #[.int .i64 Ae,.slice Af Aa.length Ag] 32 ?_;intro gb hg w2 hbox hb;replace NBa_b:=y0.mk ((by rw [hg];exact Nat.ne_of_lt (blk_lt BKa.out):ga≠gb));replace NBb_a:=y0.mk ((by rw [hg];exact Nat.ne_of_gt (blk_lt BKa.out):gb≠ga));replace BKa:=y0.mk (y10 BKa.out hb);replace BKb:=y0.mk (hbox);replace GEb:=y0.mk ((by rw [hg];exact HB.out.size:w.heap.size≤gb));replace HB:=y0.mk (y8 HB.out hb);clear hb hbox hg)
     | ((with_reducible refine y20 (N:=4) rfl ?_);refine qe 4 #[.int .i64 0,.slice none 0 0] 32 ?_;intro gr hg w3 hbox hb;replace NBa_r:=y0.mk ((by rw [hg];exact Nat.ne_of_lt (blk_lt BKa.out):ga≠gr));replace NBb_r:=y0.mk ((by rw [hg];exact Nat.ne_of_lt (blk_lt BKb.out):gb≠gr));replace NBr_a:=y0.mk ((by rw [hg];exact Nat.ne_of_gt (blk_lt BKa.out):gr≠ga));replace BKa:=y0.mk (y10 BKa.out hb);replace NBr_b:=y0.mk ((by rw [hg];exact Nat.ne_of_gt (blk_lt BKb.out):gr≠gb));replace BKb:=y0.mk (y10 BKb.out hb);replace BKr:=y0.mk (hbox);replace GEr:=y0.mk ((by rw [hg];exact HB.out.size:w.heap.size≤gr));replace HB:=y0.mk (y8 HB.out hb);clear hb hbox hg;have Ap:w3.cell? ⟨ga,0,none⟩=some (.int .i64 Ac):=(y11 BKa.out 0).trans rfl;have Aq:w3.cell? ⟨ga,1,none⟩=some (.slice Ah Ad.length Ai):=(y11 BKa.out 1).trans rfl;have Au:=y15 BKa.out 0;have Av:=y15 BKa.out 1;have Aw:w3.cell? ⟨gb,0,none⟩=some (.int .i64 Ae):=(y11 BKb.out 0).trans rfl;have Ay:w3.cell? ⟨gb,1,none⟩=some (.slice Af Aa.length Ag):=(y11 BKb.out 1).trans rfl;have Az:=y15 BKb.out 0;have Ba:=y15 BKb.out 1;have Bb:w3.cell? ⟨gr,0,none⟩=some (.int .i64 0):=(y11 BKr.out 0).trans rfl;have Bc:w3.cell? ⟨gr,1,none⟩=some (.slice none 0 0):=(y11 BKr.out 1).trans rfl;have Bd:=y15 BKr.out 0;have Be:=y15 BKr.out 1;have haab_:=NBa_b.out;have haar_:=NBa_r.out;have haba_:=NBb_a.out;have habr_:=NBb_r.out;have hara_:=NBr_a.out;have harb_:=NBr_b.out)
     | ((try(refine y21 (by rfl) ?_;dsimp only));go_at_call 40;((with_reducible refine(STA.out _ HB.out).mono ?_);rintro e w4 ⟨rfl,hb⟩;replace BKa:=y0.mk (y10 BKa.out hb);replace BKb:=y0.mk (y10 BKb.out hb);replace BKr:=y0.mk (y10 BKr.out hb);replace HB:=y0.mk (y8 HB.out hb);clear hb;have Bf:w4.cell? ⟨ga,0,none⟩=some (.int .i64 Ac):=(y11 BKa.out 0).trans rfl;have Bg:w4.cell? ⟨ga,1,none⟩=some (.slice Ah Ad.length Ai):=(y11 BKa.out 1).trans rfl;have Bh:=y15 BKa.out 0;have Bi:=y15 BKa.out 1;have Bj:w4.cell? ⟨gb,0,none⟩=some (.int .i64 Ae):=(y11 BKb.out 0).trans rfl;have Bk:w4.cell? ⟨gb,1,none⟩=some (.slice Af Aa.length Ag):=(y11 BKb.out 1).trans rfl;have Bl:=y15 BKb.out 0;have Bm:=y15 BKb.out 1;have Bn:w4.cell? ⟨gr,0,none⟩=some (.int .i64 0):=(y11 BKr.out 0).trans rfl;have Bo:w4.cell? ⟨gr,1,none⟩=some (.slice none 0 0):=(y11 BKr.out 1).trans rfl;have Bp:=y15 BKr.out 0;have Bq:=y15 BKr.out 1))
     | ((try(refine y21 (by rfl) ?_;dsimp only));go_at_call 40;((with_reducible refine(STB.out _ HB.out).mono ?_);rintro e w5 ⟨rfl,hb⟩;replace BKa:=y0.mk (y10 BKa.out hb);replace BKb:=y0.mk (y10 BKb.out hb);replace BKr:=y0.mk (y10 BKr.out hb);replace HB:=y0.mk (y8 HB.out hb);clear hb;have Br:w5.cell? ⟨ga,0,none⟩=some (.int .i64 Ac):=(y11 BKa.out 0).trans rfl;have Bs:w5.cell? ⟨ga,1,none⟩=some (.slice Ah Ad.length Ai):=(y11 BKa.out 1).trans rfl;have Bt:=y15 BKa.out 0;have Bu:=y15 BKa.out 1;have Bv:w5.cell? ⟨gb,0,none⟩=some (.int .i64 Ae):=(y11 BKb.out 0).trans rfl;have Bw:w5.cell? ⟨gb,1,none⟩=some (.slice Af Aa.length Ag):=(y11 BKb.out 1).trans rfl;have Bx:=y15 BKb.out 0;have Bz:=y15 BKb.out 1;have Ca:w5.cell? ⟨gr,0,none⟩=some (.int .i64 0):=(y11 BKr.out 0).trans rfl;have Cb:w5.cell? ⟨gr,1,none⟩=some (.slice none 0 0):=(y11 BKr.out 1).trans rfl;have Cc:=y15 BKr.out 0;have Cd:=y15 BKr.out 1)))
   refine bodyPost_ret (results_cell_row rfl _ _ gr 32 #[.int .i64 0,.slice none 0 0] (0,0) _ rfl (by(with_reducible repeat(first|refine y13 ?_ _|refine y12 ?_|refine y9 ?_ _));refine y16 (cs:=#[.int .i64 0,.slice none 0 0]) ?_ 1 _ rfl;refine y16 (cs:=#[.int .i64 0,.slice none 0 0]) ?_ 0 _ rfl;exact BKr.out) Tryz.underlying32 rfl (by kernel_rfl)) rfl ?_
   exact⟨.slice none 0 0,by first|rfl|(simp [y17,y18] <;> rfl),Kd.S_nil _ _ _ _ _,y6 (y6 HB.out GEr.out) GEr.out⟩
  | true =>
   rw [if_pos rfl]at h
   by_cases e0:Ac=Ae
   ·rw [if_pos e0]at h
    obtain⟨⟨q1,rl⟩,E3,h⟩:=Option.bind_eq_some_iff.1 h
    by_cases e1:okB Aa rl=true
    ·rw [if_pos e1]at h
     simp only [Option.some.injEq,Prod.mk.injEq]at h
     obtain⟨rfl,rfl⟩:=h
     simp only [okB,Bool.and_eq_true,List.all_eq_true,decide_eq_true_eq]at e1
     have HE:=y0.mk e1
     have Dn:=y0.mk E3
     have Do:=y0.mk Aj
     have Dp:=y0.mk Ak
     have Dq:=y0.mk Al
     have Dr:=y0.mk Am
     have ce:(Ac != Ae)=false:=by rw [e0];simp
     clear e0 e1 E3 Aj Ak Al Am
     go_enter Tryz.func28,Tryz.ntmps28
     go_wp2_with (first
      | ((with_reducible refine y20 (N:=2) rfl ?_);refine qe 2 #[.int .i64 Ac,.slice Ah Ad.length Ai] 32 ?_;intro ga hg w1 hbox hb;replace BKa:=y0.mk (hbox);replace GEa:=y0.mk ((by rw [hg];exact HB.out.size:w.heap.size≤ga));replace HB:=y0.mk (y8 HB.out hb);clear hb hbox hg)
      | ((with_reducible refine y20 (N:=3) rfl ?_);refine qe 3 #[.int .i64 Ae,.slice Af Aa.length Ag] 32 ?_;intro gb hg w2 hbox hb;replace NBa_b:=y0.mk ((by rw [hg];exact Nat.ne_of_lt (blk_lt BKa.out):ga≠gb));replace NBb_a:=y0.mk ((by rw [hg];exact Nat.ne_of_gt (blk_lt BKa.out):gb≠ga));replace BKa:=y0.mk (y10 BKa.out hb);replace BKb:=y0.mk (hbox);replace GEb:=y0.mk ((by rw [hg];exact HB.out.size:w.heap.size≤gb));replace HB:=y0.mk (y8 HB.out hb);clear hb hbox hg)
      | ((with_reducible refine y20 (N:=4) rfl ?_);refine qe 4 #[.int .i64 0,.slice none 0 0] 32 ?_;intro gr hg w3 hbox hb;replace NBa_r:=y0.mk ((by rw [hg];exact Nat.ne_of_lt (blk_lt BKa.out):ga≠gr));replace NBb_r:=y0.mk ((by rw [hg];exact Nat.ne_of_lt (blk_lt BKb.out):gb≠gr));replace NBr_a:=y0.mk ((by rw [hg];exact Nat.ne_of_gt (blk_lt BKa.out):gr≠ga));replace BKa:=y0.mk (y10 BKa.out hb);replace NBr_b:=y0.mk ((by rw [hg];exact Nat.ne_of_gt (blk_lt BKb.out):gr≠gb));replace BKb:=y0.mk (y10 BKb.out hb);replace BKr:=y0.mk (hbox);replace GEr:=y0.mk ((by rw [hg];exact HB.out.size:w.heap.size≤gr));replace HB:=y0.mk (y8 HB.out hb);clear hb hbox hg;have Ap:w3.cell? ⟨ga,0,none⟩=some (.int .i64 Ac):=(y11 BKa.out 0).trans rfl;have Aq:w3.cell? ⟨ga,1,none⟩=some (.slice Ah Ad.length Ai):=(y11 BKa.out 1).trans rfl;have Au:=y15 BKa.out 0;have Av:=y15 BKa.out 1;have Aw:w3.cell? ⟨gb,0,none⟩=some (.int .i64 Ae):=(y11 BKb.out 0).trans rfl;have Ay:w3.cell? ⟨gb,1,none⟩=some (.slice Af Aa.length Ag):=(y11 BKb.out 1).trans rfl;have Az:=y15 BKb.out 0;have Ba:=y15 BKb.out 1;have Bb:w3.cell? ⟨gr,0,none⟩=some (.int .i64 0):=(y11 BKr.out 0).trans rfl;have Bc:w3.cell? ⟨gr,1,none⟩=some (.slice none 0 0):=(y11 BKr.out 1).trans rfl;have Bd:=y15 BKr.out 0;have Be:=y15 BKr.out 1;have haab_:=NBa_b.out;have haar_:=NBa_r.out;have haba_:=NBb_a.out;have habr_:=NBb_r.out;have hara_:=NBr_a.out;have harb_:=NBr_b.out)
      | ((try(refine y21 (by rfl) ?_;dsimp only));go_at_call 40;((with_reducible refine(STA.out _ HB.out).mono ?_);rintro e w4 ⟨rfl,hb⟩;replace BKa:=y0.mk (y10 BKa.out hb);replace BKb:=y0.mk (y10 BKb.out hb);replace BKr:=y0.mk (y10 BKr.out hb);replace HB:=y0.mk (y8 HB.out hb);clear hb;have Bf:w4.cell? ⟨ga,0,none⟩=some (.int .i64 Ac):=(y11 BKa.out 0).trans rfl;have Bg:w4.cell? ⟨ga,1,none⟩=some (.slice Ah Ad.length Ai):=(y11 BKa.out 1).trans rfl;have Bh:=y15 BKa.out 0;have Bi:=y15 BKa.out 1;have Bj:w4.cell? ⟨gb,0,none⟩=some (.int .i64 Ae):=(y11 BKb.out 0).trans rfl;have Bk:w4.cell? ⟨gb,1,none⟩=some (.slice Af Aa.length Ag):=(y11 BKb.out 1).trans rfl;have Bl:=y15 BKb.out 0;have Bm:=y15 BKb.out 1;have Bn:w4.cell? ⟨gr,0,none⟩=some (.int .i64 0):=(y11 BKr.out 0).trans rfl;have Bo:w4.cell? ⟨gr,1,none⟩=some (.slice none 0 0):=(y11 BKr.out 1).trans rfl;have Bp:=y15 BKr.out 0;have Bq:=y15 BKr.out 1))
      | ((try(refine y21 (by rfl) ?_;dsimp only));go_at_call 40;((with_reducible refine(STB.out _ HB.out).mono ?_);rintro e w5 ⟨rfl,hb⟩;replace BKa:=y0.mk (y10 BKa.out hb);replace BKb:=y0.mk (y10 BKb.out hb);replace BKr:=y0.mk (y10 BKr.out hb);replace HB:=y0.mk (y8 HB.out hb);clear hb;have Br:w5.cell? ⟨ga,0,none⟩=some (.int .i64 Ac):=(y11 BKa.out 0).trans rfl;have Bs:w5.cell? ⟨ga,1,none⟩=some (.slice Ah Ad.length Ai):=(y11 BKa.out 1).trans rfl;have Bt:=y15 BKa.out 0;have Bu:=y15 BKa.out 1;have Bv:w5.cell? ⟨gb,0,none⟩=some (.int .i64 Ae):=(y11 BKb.out 0).trans rfl;have Bw:w5.cell? ⟨gb,1,none⟩=some (.slice Af Aa.length Ag):=(y11 BKb.out 1).trans rfl;have Bx:=y15 BKb.out 0;have Bz:=y15 BKb.out 1;have Ca:w5.cell? ⟨gr,0,none⟩=some (.int .i64 0):=(y11 BKr.out 0).trans rfl;have Cb:w5.cell? ⟨gr,1,none⟩=some (.slice none 0 0):=(y11 BKr.out 1).trans rfl;have Cc:=y15 BKr.out 0;have Cd:=y15 BKr.out 1))
      | (go_at_call 42;(with_reducible refine(impl_copyRel.calls k Ac _ _ Ad q1 rl _ (Kd.C_below Do.out HB.out) Dp.out Dn.out).mono ?_);rintro e w6 ⟨v6,rfl,Dk,hb⟩;obtain⟨lo,hi,hlo,hhi,hos⟩:=QIv.OS.new Dk;obtain⟨Ao,co,eo⟩:=hos.slice;subst eo;have HO:=y0.mk hos;have HLO:=y0.mk (by rw [hlo];exact HB.out.size:w.heap.size≤lo);have LTa:=y0.mk (by rw [hlo];exact blk_lt BKa.out:ga < lo);have LTb:=y0.mk (by rw [hlo];exact blk_lt BKb.out:gb < lo);have LTr:=y0.mk (by rw [hlo];exact blk_lt BKr.out:gr < lo);have HHI:=y0.mk (Nat.le_of_eq hhi);replace BKa:=y0.mk (y10 BKa.out hb);replace BKb:=y0.mk (y10 BKb.out hb);replace BKr:=y0.mk (y10 BKr.out hb);replace HB:=y0.mk (y8 HB.out hb);clear hb Dk hos hlo hhi)
      | ((with_reducible refine y20 (N:=5) rfl ?_);refine qe 5 #[.int .i64 0,.slice none 0 0] 32 ?_;intro go hg w7 hbox hb;replace NBa_o:=y0.mk ((by rw [hg];exact Nat.ne_of_lt (blk_lt BKa.out):ga≠go));replace NBb_o:=y0.mk ((by rw [hg];exact Nat.ne_of_lt (blk_lt BKb.out):gb≠go));replace NBr_o:=y0.mk ((by rw [hg];exact Nat.ne_of_lt (blk_lt BKr.out):gr≠go));replace NBo_a:=y0.mk ((by rw [hg];exact Nat.ne_of_gt (blk_lt BKa.out):go≠ga));replace BKa:=y0.mk (y10 BKa.out hb);replace NBo_b:=y0.mk ((by rw [hg];exact Nat.ne_of_gt (blk_lt BKb.out):go≠gb));replace BKb:=y0.mk (y10 BKb.out hb);replace NBo_r:=y0.mk ((by rw [hg];exact Nat.ne_of_gt (blk_lt BKr.out):go≠gr));replace BKr:=y0.mk (y10 BKr.out hb);replace BKo:=y0.mk (hbox);replace GEo:=y0.mk ((by rw [hg];exact HB.out.size:w.heap.size≤go));replace HO:=y0.mk (HO.out.below hb);replace LEo:=y0.mk ((by rw [hg];exact HHI.out:hi≤go));replace HHI:=y0.mk (Nat.le_trans HHI.out hb.size);replace HB:=y0.mk (y8 HB.out hb);clear hb hbox hg;have Ce:w7.cell? ⟨ga,0,none⟩=some (.int .i64 Ac):=(y11 BKa.out 0).trans rfl;have Cf:w7.cell? ⟨ga,1,none⟩=some (.slice Ah Ad.length Ai):=(y11 BKa.out 1).trans rfl;have Cg:=y15 BKa.out 0;have Ch:=y15 BKa.out 1;have Ci:w7.cell? ⟨gb,0,none⟩=some (.int .i64 Ae):=(y11 BKb.out 0).trans rfl;have Cj:w7.cell? ⟨gb,1,none⟩=some (.slice Af Aa.length Ag):=(y11 BKb.out 1).trans rfl;have Ck:=y15 BKb.out 0;have Cl:=y15 BKb.out 1;have Cm:w7.cell? ⟨gr,0,none⟩=some (.int .i64 0):=(y11 BKr.out 0).trans rfl;have Cn:w7.cell? ⟨gr,1,none⟩=some (.slice none 0 0):=(y11 BKr.out 1).trans rfl;have Co:=y15 BKr.out 0;have Cp:=y15 BKr.out 1;have Cq:w7.cell? ⟨go,0,none⟩=some (.int .i64 0):=(y11 BKo.out 0).trans rfl;have Cr:w7.cell? ⟨go,1,none⟩=some (.slice none 0 0):=(y11 BKo.out 1).trans rfl;have Cs:=y15 BKo.out 0;have Ct:=y15 BKo.out 1;have haab_:=NBa_b.out;have haar_:=NBa_r.out;have haao_:=NBa_o.out;have haba_:=NBb_a.out;have habr_:=NBb_r.out;have habo_:=NBb_o.out;have hara_:=NBr_a.out;have harb_:=NBr_b.out;have haro_:=NBr_o.out;have haoa_:=NBo_a.out;have haob_:=NBo_b.out;have haor_:=NBo_r.out)
      | (go_at_call 62;(with_reducible refine(slices_DeleteFunc_bound.calls lo hi Ao co rl Ae Af Ag Aa w _ (y6 (y6 HB.out GEo.out) GEo.out) HLO.out (Nat.le_trans HHI.out (by simp [World.setCell])) ((HO.out.set (.inr LEo.out) 0 _).set (.inr LEo.out) 1 _) (ki_came Dq.out (y6 (y6 HB.out GEo.out) GEo.out) HLO.out) Dr.out HE.out.1 HE.out.2.1 HE.out.2.2).mono ?_);rintro e w8 ⟨rfl,hos,hb,hk⟩;replace BKa:=y0.mk (QIv.ki_blk (y14 (y14 BKa.out NBa_o.out _) NBa_o.out _) hk (.inl LTa.out));replace BKb:=y0.mk (QIv.ki_blk (y14 (y14 BKb.out NBb_o.out _) NBb_o.out _) hk (.inl LTb.out));replace BKr:=y0.mk (QIv.ki_blk (y14 (y14 BKr.out NBr_o.out _) NBr_o.out _) hk (.inl LTr.out));replace BKo:=y0.mk (QIv.ki_blk (y16 (cs:=#[.int .i64 q1,.slice none 0 0]) (y16 (cs:=#[.int .i64 0,.slice none 0 0]) BKo.out 0 (.int .i64 q1) rfl) 1 (.slice Ao rl.length co) rfl) hk (.inr LEo.out));replace HO:=y0.mk (hos);replace HB:=y0.mk (hb);clear hos hb hk;obtain⟨Cu,Cv,Cw,Cx⟩:=qz2 BKa.out;obtain⟨Cy,Cz,Da,Db⟩:=qz2 BKb.out;obtain⟨Dc,Dd,De,Df⟩:=qz2 BKr.out;obtain⟨Dg,Dh,Di,Dj⟩:=qz2 BKo.out))
     refine bodyPost_ret (results_cell_row rfl _ _ gr 32 #[.int .i64 q1,.slice Ao (rl.filter (keepB Aa)).length co] (0,0) _ rfl (by(with_reducible repeat(first|refine y13 ?_ _|refine y12 ?_|refine y9 ?_ _));refine y16 (cs:=#[.int .i64 q1,.slice none 0 0]) ?_ 1 _ rfl;refine y16 (cs:=#[.int .i64 0,.slice none 0 0]) ?_ 0 _ rfl;exact y14 BKr.out NBr_o.out _) Tryz.underlying32 rfl (by kernel_rfl)) rfl ?_
     refine⟨_,by first|rfl|(simp [y17,y18] <;> rfl), ?_,y6 (y6 (y6 HB.out GEo.out) GEr.out) GEr.out⟩
     exact Kd.S_lower (Kd.S_mono (((HO.out.set (.inr LEo.out) 1 _).set (.inl LTr.out) 0 _).set (.inl LTr.out) 1 _) (fun _ _=>trivial)) HLO.out
    ·rw [if_neg e1]at h
     cases h
   ·rw [if_neg e0]at h
    simp only [Option.some.injEq,Prod.mk.injEq]at h
    obtain⟨rfl,rfl⟩:=h
    have ce:(Ac != Ae)=true:=by simp [e0]
    clear e0 Aj Ak Al Am
    go_enter Tryz.func28,Tryz.ntmps28
    go_wp2_with (first
     | ((with_reducible refine y20 (N:=2) rfl ?_);refine qe 2 #[.int .i64 Ac,.slice Ah Ad.length Ai] 32 ?_;intro ga hg w1 hbox hb;replace BKa:=y0.mk (hbox);replace GEa:=y0.mk ((by rw [hg];exact HB.out.size:w.heap.size≤ga));replace HB:=y0.mk (y8 HB.out hb);clear hb hbox hg)
     | ((with_reducible refine y20 (N:=3) rfl ?_);refine qe 3 #[.int .i64 Ae,.slice Af Aa.length Ag] 32 ?_;intro gb hg w2 hbox hb;replace NBa_b:=y0.mk ((by rw [hg];exact Nat.ne_of_lt (blk_lt BKa.out):ga≠gb));replace NBb_a:=y0.mk ((by rw [hg];exact Nat.ne_of_gt (blk_lt BKa.out):gb≠ga));replace BKa:=y0.mk (y10 BKa.out hb);replace BKb:=y0.mk (hbox);replace GEb:=y0.mk ((by rw [hg];exact HB.out.size:w.heap.size≤gb));replace HB:=y0.mk (y8 HB.out hb);clear hb hbox hg)
     | ((with_reducible refine y20 (N:=4) rfl ?_);refine qe 4 #[.int .i64 0,.slice none 0 0] 32 ?_;intro gr hg w3 hbox hb;replace NBa_r:=y0.mk ((by rw [hg];exact Nat.ne_of_lt (blk_lt BKa.out):ga≠gr));replace NBb_r:=y0.mk ((by rw [hg];exact Nat.ne_of_lt (blk_lt BKb.out):gb≠gr));replace NBr_a:=y0.mk ((by rw [hg];exact Nat.ne_of_gt (blk_lt BKa.out):gr≠ga));replace BKa:=y0.mk (y10 BKa.out hb);replace NBr_b:=y0.mk ((by rw [hg];exact Nat.ne_of_gt (blk_lt BKb.out):gr≠gb));replace BKb:=y0.mk (y10 BKb.out hb);replace BKr:=y0.mk (hbox);replace GEr:=y0.mk ((by rw [hg];exact HB.out.size:w.heap.size≤gr));replace HB:=y0.mk (y8 HB.out hb);clear hb hbox hg;have Ap:w3.cell? ⟨ga,0,none⟩=some (.int .i64 Ac):=(y11 BKa.out 0).trans rfl;have Aq:w3.cell? ⟨ga,1,none⟩=some (.slice Ah Ad.length Ai):=(y11 BKa.out 1).trans rfl;have Au:=y15 BKa.out 0;have Av:=y15 BKa.out 1;have Aw:w3.cell? ⟨gb,0,none⟩=some (.int .i64 Ae):=(y11 BKb.out 0).trans rfl;have Ay:w3.cell? ⟨gb,1,none⟩=some (.slice Af Aa.length Ag):=(y11 BKb.out 1).trans rfl;have Az:=y15 BKb.out 0;have Ba:=y15 BKb.out 1;have Bb:w3.cell? ⟨gr,0,none⟩=some (.int .i64 0):=(y11 BKr.out 0).trans rfl;have Bc:w3.cell? ⟨gr,1,none⟩=some (.slice none 0 0):=(y11 BKr.out 1).trans rfl;have Bd:=y15 BKr.out 0;have Be:=y15 BKr.out 1;have haab_:=NBa_b.out;have haar_:=NBa_r.out;have haba_:=NBb_a.out;have habr_:=NBb_r.out;have hara_:=NBr_a.out;have harb_:=NBr_b.out)
     | ((try(refine y21 (by rfl) ?_;dsimp only));go_at_call 40;((with_reducible refine(STA.out _ HB.out).mono ?_);rintro e w4 ⟨rfl,hb⟩;replace BKa:=y0.mk (y10 BKa.out hb);replace BKb:=y0.mk (y10 BKb.out hb);replace BKr:=y0.mk (y10 BKr.out hb);replace HB:=y0.mk (y8 HB.out hb);clear hb;have Bf:w4.cell? ⟨ga,0,none⟩=some (.int .i64 Ac):=(y11 BKa.out 0).trans rfl;have Bg:w4.cell? ⟨ga,1,none⟩=some (.slice Ah Ad.length Ai):=(y11 BKa.out 1).trans rfl;have Bh:=y15 BKa.out 0;have Bi:=y15 BKa.out 1;have Bj:w4.cell? ⟨gb,0,none⟩=some (.int .i64 Ae):=(y11 BKb.out 0).trans rfl;have Bk:w4.cell? ⟨gb,1,none⟩=some (.slice Af Aa.length Ag):=(y11 BKb.out 1).trans rfl;have Bl:=y15 BKb.out 0;have Bm:=y15 BKb.out 1;have Bn:w4.cell? ⟨gr,0,none⟩=some (.int .i64 0):=(y11 BKr.out 0).trans rfl;have Bo:w4.cell? ⟨gr,1,none⟩=some (.slice none 0 0):=(y11 BKr.out 1).trans rfl;have Bp:=y15 BKr.out 0;have Bq:=y15 BKr.out 1))
     | ((try(refine y21 (by rfl) ?_;dsimp only));go_at_call 40;((with_reducible refine(STB.out _ HB.out).mono ?_);rintro e w5 ⟨rfl,hb⟩;replace BKa:=y0.mk (y10 BKa.out hb);replace BKb:=y0.mk (y10 BKb.out hb);replace BKr:=y0.mk (y10 BKr.out hb);replace HB:=y0.mk (y8 HB.out hb);clear hb;have Br:w5.cell? ⟨ga,0,none⟩=some (.int .i64 Ac):=(y11 BKa.out 0).trans rfl;have Bs:w5.cell? ⟨ga,1,none⟩=some (.slice Ah Ad.length Ai):=(y11 BKa.out 1).trans rfl;have Bt:=y15 BKa.out 0;have Bu:=y15 BKa.out 1;have Bv:w5.cell? ⟨gb,0,none⟩=some (.int .i64 Ae):=(y11 BKb.out 0).trans rfl;have Bw:w5.cell? ⟨gb,1,none⟩=some (.slice Af Aa.length Ag):=(y11 BKb.out 1).trans rfl;have Bx:=y15 BKb.out 0;have Bz:=y15 BKb.out 1;have Ca:w5.cell? ⟨gr,0,none⟩=some (.int .i64 0):=(y11 BKr.out 0).trans rfl;have Cb:w5.cell? ⟨gr,1,none⟩=some (.slice none 0 0):=(y11 BKr.out 1).trans rfl;have Cc:=y15 BKr.out 0;have Cd:=y15 BKr.out 1)))
    refine bodyPost_ret (results_cell_row rfl _ _ gr 32 #[.int .i64 0,.slice none 0 0] (0,0) _ rfl (by(with_reducible repeat(first|refine y13 ?_ _|refine y12 ?_|refine y9 ?_ _));refine y16 (cs:=#[.int .i64 0,.slice none 0 0]) ?_ 1 _ rfl;refine y16 (cs:=#[.int .i64 0,.slice none 0 0]) ?_ 0 _ rfl;exact BKr.out) Tryz.underlying32 rfl (by kernel_rfl)) rfl ?_
    exact⟨.slice none 0 0,by first|rfl|(simp [y17,y18] <;> rfl),Kd.S_nil _ _ _ _ _,y6 (y6 HB.out GEr.out) GEr.out⟩
def spec_l02Same.l0:Nat→Int→List ByteArray→List ByteArray→Option (Bool)
 | 0,_,_,_=>none
 | k + 1,x5,x702000,x703000=>if x5 < (x702000.length:Int)then(if 0≤x5 then(if x5 < (x703000.length:Int)then(if(rdOf ByteArray.empty x702000 x5).toList=(rdOf ByteArray.empty x703000 x5).toList then(spec_l02Same.l0 k (wrap64 (x5 + 1)) x702000 x703000)else(some false))else(none))else(none))else(some true)
def spec_l02Same.f (k:Nat) (l0_0:List ByteArray) (l1_0:List ByteArray):Option (Bool):=if(l0_0.length:Int)=(l1_0.length:Int)then(spec_l02Same.l0 k 0 l0_0 l1_0)else(some false)
set_option maxHeartbeats 8000000 in
set_option maxRecDepth 100000 in
theorem spec_l02Same.calls (k:Nat) (Ak:Option Addr) (Al:Nat) (Ae:List ByteArray) (Am:Option Addr) (Ap:Nat) (Af:List ByteArray) (r:Bool) (w:World) (Bi:Kd.C Kd.string w Ak Ae.length Ae) (Bj:Ae.length≤Al) (Bk:Kd.C Kd.string w Am Af.length Af) (Bl:Af.length≤Ap) (h:spec_l02Same.f k Ae Af=some r) :
  Calls Tryz.prog 89 #[.agg #[.slice Ak Ae.length Al],.agg #[.slice Am Af.length Ap]] w fun e w'=>e=.returned (.bool r)∧Below w.heap.size w w':=by
 have Db:=Tryz.underlying36
 have Bt:=y0.mk Bi
 have Cm:=y0.mk Bj
 clear Bi Bj
 have Bu:=y0.mk Bk
 have Cn:=y0.mk Bl
 clear Bk Bl
 have HB:=y0.mk (Below.refl w.heap.size w)
 have H:(if(Ae.length:Int)=(Af.length:Int)then(spec_l02Same.l0 k 0 Ae Af)else(some false))=some r:=h
 clear h
 by_cases c3:(Ae.length:Int)=(Af.length:Int)
 ·rw [if_pos c3]at H
  have Bv:((Ae.length:Int) == (Af.length:Int))=true:=beq_iff_eq.mpr c3
  have Bw:((Ae.length:Int) != (Af.length:Int))=false:=bne_eq_false_iff_eq.mpr c3
  have Bx:(Ae.length == Af.length)=true:=by first|simpa using c3|(simp at c3 ⊢;omega)
  clear c3
  have H':=y0.mk H
  clear H
  go_enter Tryz.func89,Tryz.ntmps89
  go_wp2_with (first|((with_reducible refine y20 (N:=2) rfl ?_);refine qe 2 #[.slice Ak Ae.length Al] 36 ?_;intro Ai hg w4 hbox hb;have Aa:=y0.mk (hbox);have Av:=y0.mk (qg (w:=w) hg);have Aw:=y0.mk (qg (w:=w) hg);replace HB:=y0.mk (y8 qb hb);clear hb hbox hg)|((with_reducible refine y20 (N:=3) rfl ?_);refine qe 3 #[.slice Am Af.length Ap] 36 ?_;intro Aj hg w5 hbox hb;have Ag:=y0.mk (hbox);have Ay:=y0.mk (qg (w:=w) hg);have Az:=y0.mk (qg (w:=w) hg);replace HB:=y0.mk (y8 qb hb);have Ac:=y0.mk (qn Aa.out hg);have Ad:=y0.mk (qm Aa.out hg);replace Aa:=y0.mk (qK Aa.out hb);clear hb hbox hg;have Bz:=Ac.out;have Ca:=Ad.out;obtain⟨Ba,Bb⟩:=qz1 Aa.out;obtain⟨Bc,Bd⟩:=qz1 Ag.out))
  repeat(go_quiet (first|((with_reducible refine y20 (N:=2) rfl ?_);refine qe 2 #[.slice Ak Ae.length Al] 36 ?_;intro Ai hg w4 hbox hb;have Aa:=y0.mk (hbox);have Av:=y0.mk (qg (w:=w) hg);have Aw:=y0.mk (qg (w:=w) hg);replace HB:=y0.mk (y8 qb hb);clear hb hbox hg)|((with_reducible refine y20 (N:=3) rfl ?_);refine qe 3 #[.slice Am Af.length Ap] 36 ?_;intro Aj hg w5 hbox hb;have Ag:=y0.mk (hbox);have Ay:=y0.mk (qg (w:=w) hg);have Az:=y0.mk (qg (w:=w) hg);replace HB:=y0.mk (y8 qb hb);have Ac:=y0.mk (qn Aa.out hg);have Ad:=y0.mk (qm Aa.out hg);replace Aa:=y0.mk (qK Aa.out hb);clear hb hbox hg;have Bz:=Ac.out;have Ca:=Ad.out;obtain⟨Ba,Bb⟩:=qz1 Aa.out;obtain⟨Bc,Bd⟩:=qz1 Ag.out));try go_wp2_with (first|((with_reducible refine y20 (N:=2) rfl ?_);refine qe 2 #[.slice Ak Ae.length Al] 36 ?_;intro Ai hg w4 hbox hb;have Aa:=y0.mk (hbox);have Av:=y0.mk (qg (w:=w) hg);have Aw:=y0.mk (qg (w:=w) hg);replace HB:=y0.mk (y8 qb hb);clear hb hbox hg)|((with_reducible refine y20 (N:=3) rfl ?_);refine qe 3 #[.slice Am Af.length Ap] 36 ?_;intro Aj hg w5 hbox hb;have Ag:=y0.mk (hbox);have Ay:=y0.mk (qg (w:=w) hg);have Az:=y0.mk (qg (w:=w) hg);replace HB:=y0.mk (y8 qb hb);have Ac:=y0.mk (qn Aa.out hg);have Ad:=y0.mk (qm Aa.out hg);replace Aa:=y0.mk (qK Aa.out hb);clear hb hbox hg;have Bz:=Ac.out;have Ca:=Ad.out;obtain⟨Ba,Bb⟩:=qz1 Aa.out;obtain⟨Bc,Bd⟩:=qz1 Ag.out)))
  go_loopg [5] k (fun kq v5 w'=>∃(Ah:Int),v5=.int .i64 Ah∧y0 (spec_l02Same.l0 kq Ah Ae Af=some r)∧y0 (kq≤k)∧y0 (w'.heap[Ai]?=some (.cells #[(.slice Ak Ae.length Al)] 36 (0,0)))∧y0 (w'.heap[Aj]?=some (.cells #[(.slice Am Af.length Ap)] 36 (0,0)))∧y0 (Below w.heap.size w w'))
  case atStart=>exact⟨(0),qy2,H',⟨Nat.le_refl _⟩,⟨qk Aa.out⟩,⟨qk Ag.out⟩,⟨qb⟩⟩
  case round =>
   clear H'
   (try clear Bv Bw Bx Ba Bc Bb Bd)
   obtain⟨Ah,rfl,HA,Co,Aa,Ag,HB⟩:=hrel
   cases gk with
   | zero=>exact absurd HA.out (by simp [spec_l02Same.l0])
   | succ k1 =>
    have H:=HA.out
    clear HA
    simp only [spec_l02Same.l0]at H
    by_cases c9:Ah < (Ae.length:Int)
    ·rw [if_pos c9]at H
     have Cj:=decide_eq_true c9
     clear c9
     obtain⟨Cp,H⟩:=qo H
     have Cq:decide (0≤Ah)=true:=decide_eq_true Cp
     clear Cp
     obtain⟨Cr,H⟩:=qo H
     have Cs:decide (Ah < (Af.length:Int))=true:=decide_eq_true Cr
     clear Cr
     have Ct:=Ac.out
     have Cu:=Ad.out
     obtain⟨Cd,Ce⟩:=qz1 Aa.out
     have Bo:0≤(Ah:Int):=of_decide_eq_true qy1
     have Bp:Ah < (Ae.length:Int):=of_decide_eq_true qy1
     obtain⟨Cv,Ck,Aq⟩:=Kd.at_string Bt.out Ah Bo Bp
     cases Ck
     replace Aq:=(HB.out.cell (World.block_lt_of_cell? w _ Aq)).trans Aq
     replace Bo:=eq_true Bo
     replace Bp:=eq_true Bp
     obtain⟨Cf,Cg⟩:=qz1 Ag.out
     have Bq:0≤(Ah:Int):=of_decide_eq_true qy1
     have Br:Ah < (Af.length:Int):=of_decide_eq_true qy1
     obtain⟨Cw,Cl,Au⟩:=Kd.at_string Bu.out Ah Bq Br
     cases Cl
     replace Au:=(HB.out.cell (World.block_lt_of_cell? w _ Au)).trans Au
     replace Bq:=eq_true Bq
     replace Br:=eq_true Br
     by_cases Bs:(rdOf ByteArray.empty Ae Ah).toList=(rdOf ByteArray.empty Af Ah).toList
     ·rw [if_pos Bs]at H
      have Cb:((rdOf ByteArray.empty Ae Ah).toList == (rdOf ByteArray.empty Af Ah).toList)=true:=beq_iff_eq.mpr Bs
      have Cc:((rdOf ByteArray.empty Ae Ah).toList != (rdOf ByteArray.empty Af Ah).toList)=false:=bne_eq_false_iff_eq.mpr Bs
      clear Bs
      have H':=y0.mk H
      clear H
      go_wp2
      repeat(go_quiet (fail);try go_wp2)
      go_roundg k1
      case measure=>have:=Co.out;omega
      exact⟨(wrap64 (Ah + 1)),qy2,H',⟨by have:=Co.out;omega⟩,⟨qk Aa.out⟩,⟨qk Ag.out⟩,⟨qb⟩⟩
     ·rw [if_neg Bs]at H
      have Cb:((rdOf ByteArray.empty Ae Ah).toList == (rdOf ByteArray.empty Af Ah).toList)=false:=beq_eq_false_iff_ne.mpr Bs
      have Cc:((rdOf ByteArray.empty Ae Ah).toList != (rdOf ByteArray.empty Af Ah).toList)=true:=bne_iff_ne.mpr Bs
      obtain rfl:=Option.some.inj H
      go_wp2
      repeat(go_quiet (fail);try go_wp2)
      go_ret
      exact⟨qf,qb⟩
    ·rw [if_neg c9]at H
     have Cj:=decide_eq_false c9
     clear c9
     obtain rfl:=Option.some.inj H
     have Cx:=Ac.out
     have Cy:=Ad.out
     obtain⟨Ch,Ci⟩:=qz1 Aa.out
     go_wp2
     repeat(go_quiet (fail);try go_wp2)
     go_ret
     exact⟨qf,qb⟩
 ·rw [if_neg c3]at H
  have Bv:((Ae.length:Int) == (Af.length:Int))=false:=beq_eq_false_iff_ne.mpr c3
  have Bw:((Ae.length:Int) != (Af.length:Int))=true:=bne_iff_ne.mpr c3
  have Bx:(Ae.length == Af.length)=false:=by first|simpa using c3|(simp at c3 ⊢;omega)
  obtain rfl:=Option.some.inj H
  go_enter Tryz.func89,Tryz.ntmps89
  go_wp2_with (first|((with_reducible refine y20 (N:=2) rfl ?_);refine qe 2 #[.slice Ak Ae.length Al] 36 ?_;intro Ai hg Cz hbox hb;have Aa:=y0.mk (hbox);have Av:=y0.mk (qg (w:=w) hg);have Aw:=y0.mk (qg (w:=w) hg);replace HB:=y0.mk (y8 qb hb);clear hb hbox hg)|((with_reducible refine y20 (N:=3) rfl ?_);refine qe 3 #[.slice Am Af.length Ap] 36 ?_;intro Aj hg Da hbox hb;have Ag:=y0.mk (hbox);have Ay:=y0.mk (qg (w:=w) hg);have Az:=y0.mk (qg (w:=w) hg);replace HB:=y0.mk (y8 qb hb);have Ac:=y0.mk (qn Aa.out hg);have Ad:=y0.mk (qm Aa.out hg);replace Aa:=y0.mk (qK Aa.out hb);clear hb hbox hg;have Bm:=Ac.out;have Bn:=Ad.out;obtain⟨Be,Bf⟩:=qz1 Aa.out;obtain⟨Bg,Bh⟩:=qz1 Ag.out))
  repeat(go_quiet (first|((with_reducible refine y20 (N:=2) rfl ?_);refine qe 2 #[.slice Ak Ae.length Al] 36 ?_;intro Ai hg Cz hbox hb;have Aa:=y0.mk (hbox);have Av:=y0.mk (qg (w:=w) hg);have Aw:=y0.mk (qg (w:=w) hg);replace HB:=y0.mk (y8 qb hb);clear hb hbox hg)|((with_reducible refine y20 (N:=3) rfl ?_);refine qe 3 #[.slice Am Af.length Ap] 36 ?_;intro Aj hg Da hbox hb;have Ag:=y0.mk (hbox);have Ay:=y0.mk (qg (w:=w) hg);have Az:=y0.mk (qg (w:=w) hg);replace HB:=y0.mk (y8 qb hb);have Ac:=y0.mk (qn Aa.out hg);have Ad:=y0.mk (qm Aa.out hg);replace Aa:=y0.mk (qK Aa.out hb);clear hb hbox hg;have Bm:=Ac.out;have Bn:=Ad.out;obtain⟨Be,Bf⟩:=qz1 Aa.out;obtain⟨Bg,Bh⟩:=qz1 Ag.out));try go_wp2_with (first|((with_reducible refine y20 (N:=2) rfl ?_);refine qe 2 #[.slice Ak Ae.length Al] 36 ?_;intro Ai hg Cz hbox hb;have Aa:=y0.mk (hbox);have Av:=y0.mk (qg (w:=w) hg);have Aw:=y0.mk (qg (w:=w) hg);replace HB:=y0.mk (y8 qb hb);clear hb hbox hg)|((with_reducible refine y20 (N:=3) rfl ?_);refine qe 3 #[.slice Am Af.length Ap] 36 ?_;intro Aj hg Da hbox hb;have Ag:=y0.mk (hbox);have Ay:=y0.mk (qg (w:=w) hg);have Az:=y0.mk (qg (w:=w) hg);replace HB:=y0.mk (y8 qb hb);have Ac:=y0.mk (qn Aa.out hg);have Ad:=y0.mk (qm Aa.out hg);replace Aa:=y0.mk (qK Aa.out hb);clear hb hbox hg;have Bm:=Ac.out;have Bn:=Ad.out;obtain⟨Be,Bf⟩:=qz1 Aa.out;obtain⟨Bg,Bh⟩:=qz1 Ag.out)))
  go_ret
  exact⟨qf,qb⟩
end Go.Proofs.YtkajecadkkgfmaaGreatDoor.Pn
end
