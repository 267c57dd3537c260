-- Cut by prune.py.
import Derived.Test.YtimhlficlhafbaaGreatDoorVvlWMore
namespace Go.Proofs.YtimhlficlhafbaaGreatDoor.QIv
open RowKit YtimhlficlhafbaaGreatDoorW.PrintWords YtimhlficlhafbaaGreatDoorW.PrintLast YtimhlficlhafbaaGreatDoorW.PrintMore
section
variable {α : Type} {d : Kd α} {e lo hi lo2 hi2 g : Nat} {v : Value} {xs : List α} {W W1 : World}
def OS (d:Kd α) (e lo hi:Nat) (v:Value) (xs:List α) (W:World):Prop:=Kd.S d e W lo (fun k=>k < hi) v xs
def OR (d:Kd α) (e lo hi:Nat) (v:Value) (xs:List α) (W:World):Prop:=Kd.R d e W lo (fun k=>k < hi) v xs
def OV (d:Kd α) (e lo hi:Nat) (v:Value) (xs:List α) (W:World):Prop:=Kd.V d e W lo (fun k=>lo≤k∧k < hi) v xs
def KI (lo hi:Nat) (w W:World):Prop:=Kept w W (fun k=>lo≤k∧k < hi)
theorem OS.keep (h:OS d e lo hi v xs W) (hm:∀ k,lo≤k→k < hi→k < W.heap.size→W1.heap[k]?=W.heap[k]?):OS d e lo hi v xs W1 :=
 Kd.S_mono (Kd.S_move (Kd.S_bound h) (fun k hk=>hm k hk.2.1 hk.1 hk.2.2.1)) (fun _ hk=>hk.1)
theorem OR.keep (h:OR d e lo hi v xs W) (hm:∀ k,lo≤k→k < hi→k < W.heap.size→W1.heap[k]?=W.heap[k]?):OR d e lo hi v xs W1 :=
 Kd.R_mono (Kd.R_move (Kd.R_bound h) (fun k hk=>hm k hk.2.1 hk.1 hk.2.2.1)) (fun _ hk=>hk.1)
theorem OS.below (h:OS d e lo hi v xs W) (hb:Below W.heap.size W W1):OS d e lo hi v xs W1:=h.keep (fun k _ _ hk=>hb.block k hk)
theorem OR.below (h:OR d e lo hi v xs W) (hb:Below W.heap.size W W1):OR d e lo hi v xs W1:=h.keep (fun k _ _ hk=>hb.block k hk)
theorem OS.set (h:OS d e lo hi v xs W) (hg:g < lo∨hi≤g) (j:Nat) (u:Value):OS d e lo hi v xs (W.setCell ⟨g,j,none⟩ u):=h.keep (fun k h1 h2 _=>Below.heap_setCell W _ u k (by show k≠g;omega))
theorem OR.set (h:OR d e lo hi v xs W) (hg:g < lo∨hi≤g) (j:Nat) (u:Value):OR d e lo hi v xs (W.setCell ⟨g,j,none⟩ u):=h.keep (fun k h1 h2 _=>Below.heap_setCell W _ u k (by show k≠g;omega))
theorem OS.drew (h:OS d e lo hi v xs W):OS d e lo hi v xs W.drew:=h.keep (fun _ _ _ _=>rfl)
theorem OR.drew (h:OR d e lo hi v xs W):OR d e lo hi v xs W.drew:=h.keep (fun _ _ _ _=>rfl)
theorem OV.keep (h:OV d e lo hi v xs W) (hm:∀ k,lo≤k→k < hi→k < W.heap.size→W1.heap[k]?=W.heap[k]?):OV d e lo hi v xs W1:=by
 obtain⟨A,c,hv,hl,hf⟩:=h
 exact⟨A,c,hv,hl,Kd.F_step hf (fun k hk hlt=>hm k hk.1 hk.2 hlt)⟩
theorem OV.below (h:OV d e lo hi v xs W) (hb:Below W.heap.size W W1):OV d e lo hi v xs W1:=h.keep (fun k _ _ hk=>hb.block k hk)
theorem OV.set (h:OV d e lo hi v xs W) (hg:g < lo∨hi≤g) (j:Nat) (u:Value):OV d e lo hi v xs (W.setCell ⟨g,j,none⟩ u):=h.keep (fun k h1 h2 _=>Below.heap_setCell W _ u k (by show k≠g;omega))
theorem OV.drew (h:OV d e lo hi v xs W):OV d e lo hi v xs W.drew:=h.keep (fun _ _ _ _=>rfl)
theorem OV.slice (h:OV d e lo hi v xs W):∃ A c,v=.slice A xs.length c:=by
 obtain⟨A,c,hv,_,_⟩:=h
 exact⟨A,c,hv⟩
theorem OV.C {A:Option Addr} {n c:Nat} (h:OV d e lo hi (.slice A n c) xs W):d.C W A xs.length xs:=by
 obtain⟨A,c,hv,hl,hf⟩:=h
 injection hv with e1 e2 e3
 subst e1
 exact Kd.F_now hf
theorem OV.le {A:Option Addr} {c:Nat} (h:OV d e lo hi (.slice A xs.length c) xs W):xs.length≤c:=by
 obtain⟨A,c,hv,hl,hf⟩:=h
 injection hv with e1 e2 e3
 subst e3
 exact hl
theorem OV.len {A:Option Addr} {n c:Nat} (h:OV d e lo hi (.slice A n c) xs W):n=xs.length∧n≤c:=by
 obtain⟨A,c,hv,hl,hf⟩:=h
 injection hv with e1 e2 e3
 subst e3
 subst e2
 exact⟨rfl,hl⟩
theorem OS.slice (h:OS d e lo hi v xs W):∃ A c,v=.slice A xs.length c:=Kd.S_slice h
theorem OR.slice (h:OR d e lo hi v xs W):∃ A c,v=.slice A xs.length c:=Kd.R_slice h
theorem OS.C {A:Option Addr} {n c:Nat} (h:OS d e lo hi (.slice A n c) xs W):d.C W A xs.length xs:=(Kd.S_reads' h).2.2
theorem OR.C {A:Option Addr} {n c:Nat} (h:OR d e lo hi (.slice A n c) xs W):d.C W A xs.length xs:=(Kd.R_reads' h).2.2
theorem OS.le {A:Option Addr} {c:Nat} (h:OS d e lo hi (.slice A xs.length c) xs W):xs.length≤c:=(Kd.S_reads' h).2.1
theorem OR.le {A:Option Addr} {c:Nat} (h:OR d e lo hi (.slice A xs.length c) xs W):xs.length≤c:=(Kd.R_reads' h).2.1
theorem OS.len {A:Option Addr} {n c:Nat} (h:OS d e lo hi (.slice A n c) xs W):n=xs.length∧n≤c:=⟨(Kd.S_reads' h).1,(Kd.S_reads' h).2.1⟩
end
end Go.Proofs.YtimhlficlhafbaaGreatDoor.QIv
