-- Cut by prune.py, a program of this session, out of the texts of this claim: Lean checks it.
import Derived.Test.YtkajecadkkgfmaaGreatDoorVkqWApart
import Derived.Test.YtkajecadkkgfmaaGreatDoorVkqWMore
import Derived.Test.YtkajecadkkgfmaaGreatDoorVkqWKept
import Derived.Test.YtkajecadkkgfmaaGreatDoorVkqWShare
namespace Go.Proofs.YtkajecadkkgfmaaGreatDoor.QIv
open Go.RowKit Go.Proofs.YtkajecadkkgfmaaGreatDoorW.PrintWords Go.Proofs.YtkajecadkkgfmaaGreatDoorW.PrintLast Go.Proofs.YtkajecadkkgfmaaGreatDoorW.PrintMore
section
variable {α : Type} {d : Kd α} {e lo hi lo2 hi2 g : Nat} {v : Value} {xs : List α} {W W1 : World}
def OS (d:Kd α) (e lo hi:Nat) (v:Value) (xs:List α) (W:World):Prop:=Kd.S d e W lo (fun k=>k < hi) v xs
def OR (d:Kd α) (e lo hi:Nat) (v:Value) (xs:List α) (W:World):Prop:=Kd.R d e W lo (fun k=>k < hi) v xs
/-- A row that is only read, all of it in blocks lo..hi. -/
def OV (d:Kd α) (e lo hi:Nat) (v:Value) (xs:List α) (W:World):Prop:=Kd.V d e W lo (fun k=>lo≤k∧k < hi) v xs
/-- Only blocks from lo to hi have turned. -/
def KI (lo hi:Nat) (w W:World):Prop:=Kept w W (fun k=>lo≤k∧k < hi)
theorem OS.new (h:Kd.S d e W1 W.heap.size (fun _=>True) v xs):∃ lo hi,lo=W.heap.size∧hi=W1.heap.size∧OS d e lo hi v xs W1:=⟨_,_,rfl,rfl,Kd.S_mono (Kd.S_bound h) (fun _ hk=>hk.2.2.1)⟩
theorem OR.new (h:Kd.R d e W1 W.heap.size (fun _=>True) v xs):∃ lo hi,lo=W.heap.size∧hi=W1.heap.size∧OR d e lo hi v xs W1:=⟨_,_,rfl,rfl,Kd.R_mono (Kd.R_bound h) (fun _ hk=>hk.2.2.1)⟩
theorem OS.keep (h:OS d e lo hi v xs W) (hm:∀ k,lo≤k→k < hi→k < W.heap.size→W1.heap[k]?=W.heap[k]?):OS d e lo hi v xs W1 :=
 Kd.S_mono (Kd.S_move (Kd.S_bound h) (fun k hk=>hm k hk.2.1 hk.1 hk.2.2.1)) (fun _ hk=>hk.1)
theorem OR.keep (h:OR d e lo hi v xs W) (hm:∀ k,lo≤k→k < hi→k < W.heap.size→W1.heap[k]?=W.heap[k]?):OR d e lo hi v xs W1 :=
 Kd.R_mono (Kd.R_move (Kd.R_bound h) (fun k hk=>hm k hk.2.1 hk.1 hk.2.2.1)) (fun _ hk=>hk.1)
theorem OS.below (h:OS d e lo hi v xs W) (hb:Below W.heap.size W W1):OS d e lo hi v xs W1:=h.keep (fun k _ _ hk=>hb.block k hk)
theorem OR.below (h:OR d e lo hi v xs W) (hb:Below W.heap.size W W1):OR d e lo hi v xs W1:=h.keep (fun k _ _ hk=>hb.block k hk)
theorem OS.set (h:OS d e lo hi v xs W) (hg:g < lo∨hi≤g) (j:Nat) (u:Value):OS d e lo hi v xs (W.setCell ⟨g,j,none⟩ u):=h.keep (fun k h1 h2 _=>Below.heap_setCell W _ u k (by show k≠g;omega))
theorem OR.set (h:OR d e lo hi v xs W) (hg:g < lo∨hi≤g) (j:Nat) (u:Value):OR d e lo hi v xs (W.setCell ⟨g,j,none⟩ u):=h.keep (fun k h1 h2 _=>Below.heap_setCell W _ u k (by show k≠g;omega))
theorem OS.drew (h:OS d e lo hi v xs W):OS d e lo hi v xs W.drew:=h.keep (fun _ _ _ _=>rfl)
theorem OR.drew (h:OR d e lo hi v xs W):OR d e lo hi v xs W.drew:=h.keep (fun _ _ _ _=>rfl)
theorem OV.new (h:Kd.V d e W1 W.heap.size (fun k=>W.heap.size≤k) v xs):∃ lo hi,lo=W.heap.size∧hi=W1.heap.size∧OV d e lo hi v xs W1:=by
 obtain⟨A,c,hv,hl,hf⟩:=h
 exact⟨_,_,rfl,rfl,A,c,hv,hl,Kd.F_bound hf⟩
theorem OV.keep (h:OV d e lo hi v xs W) (hm:∀ k,lo≤k→k < hi→k < W.heap.size→W1.heap[k]?=W.heap[k]?):OV d e lo hi v xs W1:=by
 obtain⟨A,c,hv,hl,hf⟩:=h
 exact⟨A,c,hv,hl,Kd.F_step hf (fun k hk hlt=>hm k hk.1 hk.2 hlt)⟩
theorem OV.below (h:OV d e lo hi v xs W) (hb:Below W.heap.size W W1):OV d e lo hi v xs W1:=h.keep (fun k _ _ hk=>hb.block k hk)
theorem OV.set (h:OV d e lo hi v xs W) (hg:g < lo∨hi≤g) (j:Nat) (u:Value):OV d e lo hi v xs (W.setCell ⟨g,j,none⟩ u):=h.keep (fun k h1 h2 _=>Below.heap_setCell W _ u k (by show k≠g;omega))
theorem OV.drew (h:OV d e lo hi v xs W):OV d e lo hi v xs W.drew:=h.keep (fun _ _ _ _=>rfl)
theorem OV.slice (h:OV d e lo hi v xs W):∃ A c,v=.slice A xs.length c:=by
 obtain⟨A,c,hv,_,_⟩:=h
 exact⟨A,c,hv⟩
theorem OV.C {A:Option Addr} {n c:Nat} (h:OV d e lo hi (.slice A n c) xs W):d.C W A xs.length xs:=by
 obtain⟨A,c,hv,hl,hf⟩:=h
 injection hv with e1 e2 e3
 subst e1
 exact Kd.F_now hf
theorem OV.le {A:Option Addr} {c:Nat} (h:OV d e lo hi (.slice A xs.length c) xs W):xs.length≤c:=by
 obtain⟨A,c,hv,hl,hf⟩:=h
 injection hv with e1 e2 e3
 subst e3
 exact hl
theorem OV.len {A:Option Addr} {n c:Nat} (h:OV d e lo hi (.slice A n c) xs W):n=xs.length∧n≤c:=by
 obtain⟨A,c,hv,hl,hf⟩:=h
 injection hv with e1 e2 e3
 subst e3
 subst e2
 exact⟨rfl,hl⟩
theorem OS.slice (h:OS d e lo hi v xs W):∃ A c,v=.slice A xs.length c:=Kd.S_slice h
theorem OR.slice (h:OR d e lo hi v xs W):∃ A c,v=.slice A xs.length c:=Kd.R_slice h
theorem OS.C {A:Option Addr} {n c:Nat} (h:OS d e lo hi (.slice A n c) xs W):d.C W A xs.length xs:=(Kd.S_reads' h).2.2
theorem OR.C {A:Option Addr} {n c:Nat} (h:OR d e lo hi (.slice A n c) xs W):d.C W A xs.length xs:=(Kd.R_reads' h).2.2
theorem OS.le {A:Option Addr} {c:Nat} (h:OS d e lo hi (.slice A xs.length c) xs W):xs.length≤c:=(Kd.S_reads' h).2.1
theorem OR.le {A:Option Addr} {c:Nat} (h:OR d e lo hi (.slice A xs.length c) xs W):xs.length≤c:=(Kd.R_reads' h).2.1
theorem OS.len {A:Option Addr} {n c:Nat} (h:OS d e lo hi (.slice A n c) xs W):n=xs.length∧n≤c:=⟨(Kd.S_reads' h).1,(Kd.S_reads' h).2.1⟩
theorem ki_blk {o:Obj} (hb:W.heap[g]?=some o) (hk:KI lo hi W W1) (hg:g < lo∨hi≤g):W1.heap[g]?=some o:=blk_kept hb hk (fun h=>by omega)
theorem ki_lt {o:Obj} (hb:W.heap[g]?=some o):g < W.heap.size:=(Array.getElem?_eq_some_iff.1 hb).1
theorem box2 {a b:Value} {ty:Nat} (h:W.heap[g]?=some (.cells #[a,b] ty (0,0))):W.cell? ⟨g,0,none⟩=some a∧W.cell? ⟨g,1,none⟩=some b∧W.frozen? ⟨g,0,none⟩=false∧W.frozen? ⟨g,1,none⟩=false:=⟨(y11 h 0).trans rfl,(y11 h 1).trans rfl,y15 h 0,y15 h 1⟩
theorem box1 {a:Value} {ty:Nat} (h:W.heap[g]?=some (.cells #[a] ty (0,0))):W.cell? ⟨g,0,none⟩=some a∧W.frozen? ⟨g,0,none⟩=false:=⟨(y11 h 0).trans rfl,y15 h 0⟩
theorem ki_refl (lo hi:Nat) (w:World):KI lo hi w w:=Kept.refl w _
theorem ki_trans {w2:World} (h:KI lo hi W W1) (h2:KI lo hi W1 w2):KI lo hi W w2:=⟨Nat.le_trans h.1 h2.1,fun k hk hn=>(h2.2 k (Nat.lt_of_lt_of_le hk h.1) hn).trans (h.2 k hk hn)⟩
theorem ki_below (h:KI lo hi W W1) {w2:World} (hb:Below W1.heap.size W1 w2):KI lo hi W w2:=ki_trans h (Kept.of_below hb _)
/-- Elements that came from apart places, in order, are apart. -/
theorem S_sub {f:Nat→Nat} {base:Nat} {ok:Nat→Prop} {zs:List (α×Nat)} (h:(Kd.tag f d).R e W base ok v zs) (hp:zs.Pairwise fun x y=>x.2≠y.2):Kd.S d e W base ok v (zs.map Prod.fst):=by
 obtain⟨h0,inner,ho,hr⟩:=h
 refine⟨fun k=>zs.findIdx (fun p=>p.2 == f k),h0,inner,by rw [List.length_zipIdx,List.length_map];exact ho,by rw [List.length_zipIdx,List.length_map];exact hr.1,fun j q hj=>?_⟩
 rw [List.getElem?_zipIdx,Nat.zero_add]at hj
 obtain⟨x,hx,rfl⟩:=Option.map_eq_some_iff.1 hj
 rw [List.getElem?_map]at hx
 obtain⟨p,hp2,rfl⟩:=Option.map_eq_some_iff.1 hx
 refine d.M_mono (fun k hk=>⟨hk.1, ?_⟩) (hr.2 j p hp2)
 obtain⟨hl,he⟩:=List.getElem?_eq_some_iff.1 hp2
 have hk2:f k=p.2:=hk.2
 show zs.findIdx (fun q=>q.2 == f k)=j
 rw [hk2]
 refine(List.findIdx_eq hl).2 ⟨by rw [he];simp,fun i hi=>?_⟩
 have:=List.pairwise_iff_getElem.1 hp i j (by omega) hl hi
 rw [he]at this
 simpa using this
/-- Cells behind the row's end are written. -/
theorem R_past {base m cap:Nat} {ok:Nat→Prop} (h:d.R e W base ok (.slice (some ⟨g,0,none⟩) m cap) xs) {off:Nat} (hoff:m * d.sz≤off) (u:Value):d.R e (W.setCell ⟨g,off,none⟩ u) base ok (.slice (some ⟨g,0,none⟩) m cap) xs:=by
 have hn:=(Kd.R_reads' h).1
 obtain⟨h0,inner,⟨ho1,ho2⟩,hr⟩:=Kd.R_bound h
 rcases ho2 with⟨hv,_⟩|⟨g',cap',cur,hv,hb,hh,hnc,hcm,hcs,ht⟩
 ·cases hv
 ·injection hv with e1 e2 e3
  injection e1 with e1
  injection e1 with e1 _ _
  subst e1
  subst e3
  refine⟨fun k hk=>(h0 k hk).1,inner,⟨ho1,Or.inr ⟨g,cap,cur.setIfInBounds off u,by rw [hn],hb,blk_set hh off u,hnc,hcm,by rw [Array.size_setIfInBounds];exact hcs, ?_⟩⟩,hr.1,fun j p hj=>?_⟩
  ·rw [← ht,Array.toList_setIfInBounds,List.take_set_of_le (by rw [← hn];exact hoff)]
  ·refine d.M_mono (fun k hk=>⟨hk.1.1,hk.2⟩) (d.M_move (fun k hk=>?_) (hr.2 j p hj))
   exact Below.heap_setCell W _ u k (fun e1=>hk.2 (by rw [e1];simp [Value.ownBlock]))
theorem R_pasts {base m cap:Nat} {ok:Nat→Prop}:∀(vs:List Value) {W:World} (_:d.R e W base ok (.slice (some ⟨g,0,none⟩) m cap) xs) {off:Nat} (_:m * d.sz≤off),d.R e (W.setCells g off vs) base ok (.slice (some ⟨g,0,none⟩) m cap) xs
 | [],_,h,_,_=>h
 | u :: vs,_,h,off,hoff=>R_pasts vs (R_past h hoff u) (by omega)
theorem ki_set {j:Nat} {u:Value} (h:KI lo hi W W1) (hg:lo≤g∧g < hi):KI lo hi W (W1.setCell ⟨g,j,none⟩ u) :=
 ⟨by rw [show(W1.setCell ⟨g,j,none⟩ u).heap.size=W1.heap.size by simp [World.setCell]];exact h.1,fun k hk hn=>(Below.heap_setCell W1 _ u k (by show k≠g;rintro rfl;exact hn hg)).trans (h.2 k hk hn)⟩
theorem ki_sets:∀(vs:List Value) {W1:World} {off:Nat} (_:KI lo hi W W1) (_:lo≤g∧g < hi),KI lo hi W (W1.setCells g off vs)
 | [],_,_,h,_=>h
 | _ :: vs,_,_,h,hg=>ki_sets vs (ki_set h hg) hg
theorem below_sets {w0:World}:∀(vs:List Value) {W1:World} {off:Nat} (_:Below w0.heap.size w0 W1) (_:w0.heap.size≤g),Below w0.heap.size w0 (W1.setCells g off vs)
 | [],_,_,h,_=>h
 | _ :: vs,_,_,h,hg=>below_sets vs (y6 h hg) hg
end
end Go.Proofs.YtkajecadkkgfmaaGreatDoor.QIv
