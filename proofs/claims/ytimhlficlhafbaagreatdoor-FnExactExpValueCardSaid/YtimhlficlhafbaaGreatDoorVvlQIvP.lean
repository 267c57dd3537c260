-- Cut by prune.py.
import Derived.Test.YtimhlficlhafbaaGreatDoorVvlQIv
namespace Go.Proofs.YtimhlficlhafbaaGreatDoor.QIv
open RowKit YtimhlficlhafbaaGreatDoorW.PrintWords YtimhlficlhafbaaGreatDoorW.PrintLast YtimhlficlhafbaaGreatDoorW.PrintMore
section
variable {α : Type} {d : Kd α} {e lo hi lo2 hi2 g n cap : Nat} {v : Value} {xs : List α} {W W1 : World}
theorem OS.own (h:OS d e lo hi (.slice (some ⟨g,0,none⟩) n cap) xs W):lo≤g∧g < hi:=⟨Kd.R_base (Kd.S_R h) g (by simp [Value.ownBlock]),(Kd.S_R h).1 g (by simp [Value.ownBlock])⟩
theorem OS.blk (h:OS d e lo hi (.slice (some ⟨g,0,none⟩) n cap) xs W):∃ cur,W.heap[g]?=some (.cells cur e (0,0)):=by
 obtain⟨_,_,ho,_⟩:=Kd.S_R h
 rcases ho.2 with⟨hv,_⟩|⟨g',cap',cur,hv,_,hb,_⟩
 ·cases hv
 ·injection hv with e1 _ _
  injection e1 with e1
  injection e1 with e1 _ _
  subst e1
  exact⟨cur,hb⟩
theorem OS.put (h:OS d e lo hi (.slice (some ⟨g,0,none⟩) n cap) xs W) (z:α) {i:Int} (h0:0≤i) (h1:i < n) {j:Nat} {u:Value} {x':α} (hj:j + 1≤d.sz) (hu:u.oneCell'=true)
  (hM:∀(w:World) (base:Nat) (ok:Nat→Prop) (c:List Value),d.M w base ok (xs.getD i.toNat z) c→d.M w base ok x' (c.take j ++ [u] ++ c.drop (j + 1))) :
  OS d e lo hi (.slice (some ⟨g,0,none⟩) n cap) (xs.set i.toNat x') (W.setCell ⟨g,i.toNat * d.sz + j,none⟩ u):=by
 obtain⟨oki,c,hcl,hMc,hcc,hoki,hH⟩:=Kd.S_lend h z i h0 h1
 obtain⟨h2,h3⟩:=Kd.H_seg hH h0 h1 (seg:=[u]) (j:=j) hj (by intro q hq;rw [List.mem_singleton.1 hq];exact hu)
 refine Kd.H_back h2 (Kd.M_step (hM _ _ _ _ hMc) (fun k hk hlt=>h3.block k hlt (fun he=>?_))) (fun k hk=>hk)
 injection he with he
 exact(hoki k hk).2 he
theorem KI.put {p:Addr} {u:Value} (h:KI lo hi W W1) (hg:lo≤p.block∧p.block < hi):KI lo hi W (W1.setCell p u) :=
 ⟨by rw [show(W1.setCell p u).heap.size=W1.heap.size by simp [World.setCell]];exact h.1,fun k hk hn=>(Below.heap_setCell W1 _ u k (by rintro rfl;exact hn hg)).trans (h.2 k hk hn)⟩
end
theorem OR.len {α:Type} {d:Kd α} {e lo hi:Nat} {xs:List α} {W:World} {A:Option Addr} {n c:Nat} (h:OR d e lo hi (.slice A n c) xs W):n=xs.length∧n≤c:=⟨(Kd.R_reads' h).1,(Kd.R_reads' h).2.1⟩
theorem step_u {i:Nat} (h:i≤1152921504606846976):wrap64 ((i:Int) + 1)=((i + 1:Nat):Int):=by
 unfold wrap64
 omega
end Go.Proofs.YtimhlficlhafbaaGreatDoor.QIv
