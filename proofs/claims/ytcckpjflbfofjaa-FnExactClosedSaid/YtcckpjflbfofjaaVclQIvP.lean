-- Cut by prune.py, a program of this session, out of the texts of this claim: Lean checks it.
import Derived.Test.YtcckpjflbfofjaaVclQIv
namespace Go.Proofs.Ytcckpjflbfofjaa.QIv
open Go.RowKit Go.Proofs.YtcckpjflbfofjaaW.PrintWords Go.Proofs.YtcckpjflbfofjaaW.PrintLast Go.Proofs.YtcckpjflbfofjaaW.PrintMore
section
variable {α : Type} {d : Kd α} {e lo hi lo2 hi2 g n cap : Nat} {v : Value} {xs : List α} {W W1 : World}
theorem OS.own (h:OS d e lo hi (.slice (some ⟨g,0,none⟩) n cap) xs W):lo≤g∧g < hi:=⟨Kd.R_base (Kd.S_R h) g (by simp [Value.ownBlock]),(Kd.S_R h).1 g (by simp [Value.ownBlock])⟩
theorem OS.blk (h:OS d e lo hi (.slice (some ⟨g,0,none⟩) n cap) xs W):∃ cur,W.heap[g]?=some (.cells cur e (0,0)):=by
 obtain⟨_,_,ho,_⟩:=Kd.S_R h
 rcases ho.2 with⟨hv,_⟩|⟨g',cap',cur,hv,_,hb,_⟩
 ·cases hv
 ·injection hv with e1 _ _
  injection e1 with e1
  injection e1 with e1 _ _
  subst e1
  exact⟨cur,hb⟩
theorem OS.frozen (h:OS d e lo hi (.slice (some ⟨g,0,none⟩) n cap) xs W) (o:Nat):W.frozen? ⟨g,o,none⟩=false:=by
 obtain⟨cur,hb⟩:=h.blk
 exact y11 hb o
/-- One cell of element i is written. -/
theorem OS.put (h:OS d e lo hi (.slice (some ⟨g,0,none⟩) n cap) xs W) (z:α) {i:Int} (h0:0≤i) (h1:i < n) {j:Nat} {u:Value} {x':α} (hj:j + 1≤d.sz) (hu:u.oneCell'=true)
  (hM:∀(w:World) (base:Nat) (ok:Nat→Prop) (c:List Value),d.M w base ok (xs.getD i.toNat z) c→d.M w base ok x' (c.take j ++ [u] ++ c.drop (j + 1))) :
  OS d e lo hi (.slice (some ⟨g,0,none⟩) n cap) (xs.set i.toNat x') (W.setCell ⟨g,i.toNat * d.sz + j,none⟩ u):=by
 obtain⟨oki,c,hcl,hMc,hcc,hoki,hH⟩:=Kd.S_lend h z i h0 h1
 obtain⟨h2,h3⟩:=Kd.H_seg hH h0 h1 (seg:=[u]) (j:=j) hj (by intro q hq;rw [List.mem_singleton.1 hq];exact hu)
 refine Kd.H_back h2 (Kd.M_step (hM _ _ _ _ hMc) (fun k hk hlt=>h3.block k hlt (fun he=>?_))) (fun k hk=>hk)
 injection he with he
 exact(hoki k hk).2 he
theorem KI.put {p:Addr} {u:Value} (h:KI lo hi W W1) (hg:lo≤p.block∧p.block < hi):KI lo hi W (W1.setCell p u) :=
 ⟨by rw [show(W1.setCell p u).heap.size=W1.heap.size by simp [World.setCell]];exact h.1,fun k hk hn=>(Below.heap_setCell W1 _ u k (by rintro rfl;exact hn hg)).trans (h.2 k hk hn)⟩
/-- The inner row of element i, lent to a call that writes it. -/
theorem OS.lent {β:Type} {dk:Kd β} {ek:Nat} {w0:World} (hE:dk.E=[]) (hmb:∀(w:World) (ok:Nat→Prop) (x:β) (c:List Value),dk.M w w0.heap.size ok x c→dk.M w lo ok x c) (h:OS d e lo hi (.slice (some ⟨g,0,none⟩) n cap) xs W) (hlo:w0.heap.size≤lo) (z:α) {i:Int} (h0:0≤i) (h1:i < n) (inn:α→List β) (mk:α→List β→α) (cs:α→Value→List Value)
  (hop:∀ {w:World} {base:Nat} {ok:Nat→Prop} {x:α} {c:List Value},d.M w base ok x c→∃ u,c=cs x u∧dk.R ek w base ok u (inn x)) (hmk:∀(w:World) (base:Nat) (ok:Nat→Prop) (x:α) (ys:List β) (u:Value),dk.R ek w base ok u ys→d.M w base ok (mk x ys) (cs x u)) :
  ∃(P:Nat→Prop) (u:Value),dk.R ek W w0.heap.size P u (inn (xs.getD i.toNat z))∧(∀ j q,(cs (xs.getD i.toNat z) u)[j]?=some q→W.cell? ⟨g,i.toNat * d.sz + j,none⟩=some q) ∧
   ∀(w5:World) (ys:List β),dk.R ek w5 w0.heap.size (fun k_=>P k_∨W.heap.size≤k_) u ys→Kept W w5 P→OS d e lo hi (.slice (some ⟨g,0,none⟩) n cap) (xs.set i.toNat (mk (xs.getD i.toNat z) ys)) w5∧KI lo hi W w5:=by
 obtain⟨oki,c,hcl,hM,hcc,hoki,hH⟩:=Kd.S_lend h z i h0 h1
 obtain⟨u,rfl,hR⟩:=hop hM
 refine⟨fun k=>oki k∧lo≤k,u,Kd.R_lower (Kd.R_mono (Kd.R_bound hR) (ok':=fun k=>oki k∧lo≤k) (fun k hk=>⟨hk.1,hk.2.1⟩)) hlo,hcc,fun w5 ys hy hk=>⟨?_,hk.mono (fun k h2=>⟨h2.2,(hoki k h2.1).1⟩)⟩⟩
 have hu:∀ k,u.ownBlock=some k→oki k:=fun k hk=>hR.1 k hk
 refine Kd.H_back (Kd.H_step hH (fun k ho hn hlt=>hk.2 k hlt (fun h2=>hn h2.1))) (okp:=fun k=>some k=u.ownBlock) (hmk _ _ _ _ _ _ (Kd.R_raise (d:=dk) (b:=w0.heap.size) (b':=lo) hmb (Kd.R_tight hE hy) (Kd.R_base hR))) (fun k hk=>hu k hk.symm)
end
theorem OR.len {α:Type} {d:Kd α} {e lo hi:Nat} {xs:List α} {W:World} {A:Option Addr} {n c:Nat} (h:OR d e lo hi (.slice A n c) xs W):n=xs.length∧n≤c:=⟨(Kd.R_reads' h).1,(Kd.R_reads' h).2.1⟩
theorem step_u {i:Nat} (h:i≤1152921504606846976):wrap64 ((i:Int) + 1)=((i + 1:Nat):Int):=by
 unfold wrap64
 omega
end Go.Proofs.Ytcckpjflbfofjaa.QIv
