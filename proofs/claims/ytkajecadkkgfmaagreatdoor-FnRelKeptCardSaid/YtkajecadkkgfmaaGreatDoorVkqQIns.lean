-- Cut by prune.py, a program of this session, out of the texts of this claim: Lean checks it.
import Derived.Test.YtkajecadkkgfmaaGreatDoorVkqQIv
import Derived.Test.YtkajecadkkgfmaaGreatDoorVkqWWords
import Derived.Test.YtkajecadkkgfmaaGreatDoorProg
import Derived.Shelf.Spec.SlicesInsertGrow
set_option linter.unusedVariables false
set_option linter.unusedSimpArgs false
namespace Go.Proofs.YtkajecadkkgfmaaGreatDoor.QIns
open Go.RowKit Go.Shelf Go.Lib
theorem infoT:(Tryz.prog.info? 36).map (fun i=>(i.zero,i.size,i.bytes))=some (some (.agg #[(.slice none 0 0)]),1,24):=by kernel_rfl
theorem sizT (w:World):(Go.sizeOf 36).run Tryz.prog w=.ok 1 w:=by
 obtain⟨i,hi,_,h1,_⟩:=info_parts infoT
 simp [Go.sizeOf,typeInfo,hi,h1]
set_option maxHeartbeats 4000000 in
set_option maxRecDepth 100000 in
theorem insT_shift (b off n c i vb voff m vc:Nat) (cs vs:List Value) (w:World) (hi:i < n) (hm:0 < m) (hroom:n + m≤c) (hc63:c≤9223372036854775807) (hvb:vb≠b)
  (hcl:cs.length=n) (hvl:vs.length=m)
  (hcs:∀ j v,cs[j]?=some v→w.cell? ⟨b,off + j,none⟩=some v) (hsp:∀ j,j < n + m→(w.cell? ⟨b,off + j,none⟩).isSome=true) (hfz:∀ j,j < n + m→w.frozen? ⟨b,off + j,none⟩=false)
  (hvs:∀ j v,vs[j]?=some v→w.cell? ⟨vb,voff + j,none⟩=some v) (h1c:∀ v∈cs,v.oneCell'=true) (h1v:∀ v∈vs,v.oneCell'=true)
  (tA tB:TypeId) (kA kB:Nat) (hsa:w.shape? vb=some (tA,kA)) (hsb:w.shape? b=some (tB,kB)) (hkB:kB≠0) (hfa:w.frozen? ⟨vb,voff,none⟩=false) (hfe:w.frozen? ⟨vb,kA,none⟩=false) :
  Calls Tryz.prog 45 #[.slice (some ⟨b,off,none⟩) n c,.int .i64 i,.slice (some ⟨vb,voff,none⟩) m vc] w fun e w' =>
   e=.returned (.slice (some ⟨b,off,none⟩) (n + m) c)∧w'=(w.drew.setCells b (off + (i + m)) (cs.drop i)).setCells b (off + i) vs:=by
 have mixed:Tryz.prog.follows .mixedOrders=true:=by kernel_rfl
 have hz1:¬((m:Int)=0):=by omega
 have hz2:¬((i:Int)=(n:Int)):=by omega
 have hsz:(Tryz.prog.info? 36).map (·.size)=some 1:=by
  obtain⟨i0,hi0,h0,h1,h2⟩:=info_parts infoT
  rw [hi0];simp [h1]
 have hov:∀ lb cb,(callFunc 75 #[.slice (some ⟨vb,voff,none⟩) m vc,.slice (some ⟨b,off + (i + m),none⟩) lb cb]).run Tryz.prog w=.ok (.value (.bool false)) w:=fun lb cb=>by
  rw [run_callFunc_extern Tryz.func75 (by kernel_rfl) (by kernel_rfl) (by kernel_rfl) (e:=Extern.SlicesOverlaps.overlaps #[30,30] #[4]) (by kernel_rfl),
   Lib.run_overlaps_apart w 30 4 36 Tryz.underlying30 1 sizT ⟨vb,voff,none⟩ ⟨b,off + (i + m),none⟩ m vc lb cb hvb tA tB kA kB hsa hsb hkB hfa hfe]
  rfl
 have hdl:(cs.drop i).length=n - i:=by rw [List.length_drop,hcl]
 have hw1:IntKind.i64.wrap ((i:Int) + (m:Int))=(i:Int) + (m:Int):=by rw [IntKind.wrap_i64];omega
 have hb1:(0:Int)≤(i:Int) + (m:Int):=by omega
 have hin:i≤n:=by omega
 have htn:((i:Int) + (m:Int)).toNat=i + m:=by omega
 have hb2:¬(c=i + m):=by omega
 have hb3:(i:Int)≤(n:Int) + (m:Int):=by omega
 have hb4:¬(c=i):=by omega
 have hcp1:∀ ty dc sc,(Builtin.copy_ #[30,30] ty #[.slice (some ⟨b,off + (i + m),none⟩) (n + m - (i + m)) dc,.slice (some ⟨b,off + i,none⟩) (n + m - i) sc]).run Tryz.prog w.drew=.ok (goInt (cs.drop i).length) (w.drew.setCells b (off + (i + m)) (cs.drop i)):=fun ty dc sc =>
  run_copy_cells w.drew _ _ ty 36 b (off + (i + m)) (n + m - (i + m)) dc ⟨b,off + i,none⟩ (n + m - i) sc (cs.drop i) Tryz.underlying30 hsz (by rw [hdl];simp only [Nat.min_def];split <;> omega)
   (fun j v hj=>by rw [Addr.add_lit,Nat.add_assoc];exact hcs (i + j) v (by rwa [List.getElem?_drop]at hj))
   (fun j hj=>by rw [Nat.add_assoc];exact hsp _ (by omega)) (fun j hj=>by rw [Nat.add_assoc];exact hfz _ (by omega)) (fun v hv=>h1c v (List.mem_of_mem_drop hv))
 obtain⟨W1,hW1⟩:∃ W1,W1=w.drew.setCells b (off + (i + m)) (cs.drop i):=⟨_,rfl⟩
 have hsp1:∀ k,k < n + m→(W1.cell? ⟨b,off + k,none⟩).isSome=true:=fun k hk=>by
  rw [hW1]
  exact isSome_setCells b _ _ _ (fun j hj=>by rw [Nat.add_assoc];exact hsp _ (by omega)) _ (hsp k hk)
 have hcp2:∀(W:World),(∀ x,W.cell? x=W1.cell? x)→(∀ x,W.frozen? x=W1.frozen? x)→∀ ty dc,(Builtin.copy_ #[30,30] ty #[.slice (some ⟨b,off + i,none⟩) (n + m - i) dc,.slice (some ⟨vb,voff,none⟩) m vc]).run Tryz.prog W=.ok (goInt vs.length) (W.setCells b (off + i) vs):=fun W hWc hWf ty dc =>
  run_copy_cells W _ _ ty 36 b (off + i) (n + m - i) dc ⟨vb,voff,none⟩ m vc vs Tryz.underlying30 hsz (by rw [hvl];simp only [Nat.min_def];split <;> omega)
   (fun j v hj=>by
    rw [Addr.add_lit,hWc,hW1,World.cell?_setCells_out b _ _ _ _ (fun h _=>absurd h hvb)]
    exact hvs j v hj)
   (fun j hj=>by rw [hWc,Nat.add_assoc];exact hsp1 _ (by omega)) (fun j hj=>by rw [hWf,hW1,World.frozen?_setCells,Nat.add_assoc];exact hfz _ (by omega)) h1v
 rw [← hW1]at hcp1
 go_enter Tryz.func45,Tryz.ntmps45
 go_wp2_with (simp only [hov])
 go_region_law_o (refine step_copy_runI rfl _ _ 30 30 rfl _ _ (by simp [Act.eval,Act.put]) (by simp [Act.eval,Act.put]) (hcp1 _ _ _) ?_)
 go_wp2_with (at_builtin;refine wpList_copy_runI _ rfl _ _ 30 30 rfl _ _ rfl rfl (hcp2 _ (fun _=>rfl) (fun _=>rfl) _ _) ?_)
 go_ret
 first|exact⟨rfl,rfl⟩|exact⟨rfl,by rw [hW1]⟩
set_option maxHeartbeats 4000000 in
set_option maxRecDepth 100000 in
theorem insT_room (b off n c vb voff m vc:Nat) (vs:List Value) (w:World) (hm:0 < m) (hroom:n + m≤c) (hc63:c≤9223372036854775807)
  (hvl:vs.length=m) (hsp:∀ j,j < m→(w.cell? ⟨b,off + n + j,none⟩).isSome=true) (hfz:∀ j,j < m→w.frozen? ⟨b,off + n + j,none⟩=false)
  (hvs:∀ j v,vs[j]?=some v→w.cell? ⟨vb,voff + j,none⟩=some v) (h1v:∀ v∈vs,v.oneCell'=true) :
  Calls Tryz.prog 45 #[.slice (some ⟨b,off,none⟩) n c,.int .i64 n,.slice (some ⟨vb,voff,none⟩) m vc] w fun e w' =>
   e=.returned (.slice (some ⟨b,off,none⟩) (n + m) c)∧w'=w.setCells b (off + n) vs:=by
 have mixed:Tryz.prog.follows .mixedOrders=true:=by kernel_rfl
 have hz1:¬((m:Int)=0):=by omega
 have hsrc:Src Tryz.prog 1 30 (.slice (some ⟨vb,voff,none⟩) m vc) m vs w:=Src.ofSlice w Tryz.underlying30 ⟨vb,voff,none⟩ m vc vs (by omega) (fun j u hj=>by rw [Addr.add_lit];exact hvs j u hj) h1v
 go_enter Tryz.func45,Tryz.ntmps45
 go_wp2_with (at_builtin;refine wpList_append_room1 _ rfl _ _ 30 30 rfl 36 _ _ Tryz.underlying30 infoT b off n c rfl _ rfl m vs hsrc hroom (by rw [hvl];exact hsp) (by rw [hvl];exact hfz) ?_)
 go_ret
 exact⟨rfl,rfl⟩
set_option maxHeartbeats 4000000 in
set_option maxRecDepth 100000 in
theorem insT_grow0 (base:Option Addr) (n c vb voff m vc:Nat) (cs vs:List Value) (w:World) (hm:0 < m) (hnc:n≤c) (hroom:c < n + m) (hbig:(n + m) * 24≤140737488355328)
  (hcl:cs.length=n) (hvl:vs.length=m) (hnil:base=none→n=0)
  (hcs:∀ a,base=some a→∀ j v,cs[j]?=some v→w.cell? (a.add j)=some v)
  (hvs:∀ j v,vs[j]?=some v→w.cell? ⟨vb,voff + j,none⟩=some v) (h1v:∀ v∈vs,v.oneCell'=true) :
  Calls Tryz.prog 45 #[.slice base n c,.int .i64 n,.slice (some ⟨vb,voff,none⟩) m vc] w fun e w' =>
   e=.returned (.slice (some ⟨w.heap.size,0,none⟩) (n + m) (grownCap w (n + m) c 36)) ∧
   w'=w.drew.alloc (.cells ((cs ++ vs).toArray ++ Builtin.zeroCells (Value.agg #[.slice none 0 0]).cells (grownCap w (n + m) c 36 - (n + m))) 36):=by
 obtain⟨i0,hi0,hz0,hzs,hzb⟩:=info_parts infoT
 have mixed:Tryz.prog.follows .mixedOrders=true:=by kernel_rfl
 have hz1:¬((m:Int)=0):=by omega
 have hsrc:Src Tryz.prog i0.size 30 (.slice (some ⟨vb,voff,none⟩) m vc) m vs w:=by
  rw [hzs]
  exact Src.ofSlice w Tryz.underlying30 ⟨vb,voff,none⟩ m vc vs (by omega) (fun j u hj=>by rw [Addr.add_lit];exact hvs j u hj) h1v
 have hold:(Builtin.firstCells i0.size n (.slice base n c)).run Tryz.prog w.drew=.ok cs.toArray w.drew:=by
  rw [hzs]
  cases base with
  | none =>
   have h0:=hnil rfl
   subst h0
   rw [List.length_eq_zero_iff.1 hcl]
   exact run_firstCells_none w.drew 1 0 0 c
  | some a=>exact run_firstCells_some w.drew 1 n a n c cs (by omega) (fun j v hj=>hcs a rfl j v hj)
 have hrun:∀ ty,(Builtin.append_ #[30,30] ty #[.slice base n c,.slice (some ⟨vb,voff,none⟩) m vc]).run Tryz.prog w=_:=fun ty =>
  run_append_grow_src w 30 30 ty 36 i0 _ Tryz.underlying30 hi0 hz0 base n c cs hold _ m vs hsrc hroom (by omega) (by rw [hzb];exact growslice_fits hroom hbig)
 go_enter Tryz.func45,Tryz.ntmps45
 cases base with
 | none =>
  have h0:=hnil rfl
  subst h0
  go_wp2_with (at_builtin;refine Lib.wpList_append_run _ rfl _ _ _ _ rfl _ _ rfl rfl _ _ (hrun _) ?_)
  go_ret
  exact⟨rfl,rfl⟩
 | some a =>
  obtain⟨ab,ao,asp⟩:=a
  go_wp2_with (at_builtin;refine Lib.wpList_append_run _ rfl _ _ _ _ rfl _ _ rfl rfl _ _ (hrun _) ?_)
  all_goals (go_ret;exact⟨rfl,rfl⟩)
set_option maxHeartbeats 4000000 in
set_option maxRecDepth 100000 in
theorem insT_grow (b off n c i vb voff m vc:Nat) (cs vs:List Value) (w:World) (hi:i < n) (hm:0 < m) (hnc:n≤c) (hroom:c < n + m) (hbig:(n + m) * 24≤140737488355328)
  (hcl:cs.length=n) (hvl:vs.length=m)
  (hcs:∀ j v,cs[j]?=some v→w.cell? ⟨b,off + j,none⟩=some v)
  (hvs:∀ j v,vs[j]?=some v→w.cell? ⟨vb,voff + j,none⟩=some v) (h1c:∀ v∈cs,v.oneCell'=true) (h1v:∀ v∈vs,v.oneCell'=true) :
  Calls Tryz.prog 45 #[.slice (some ⟨b,off,none⟩) n c,.int .i64 i,.slice (some ⟨vb,voff,none⟩) m vc] w fun e w' =>
   e=.returned (.slice (some ⟨w.heap.size,0,none⟩) (n + m) (grownCap w (n + m) c 36)) ∧
   w'=(((w.alloc (.cells ((cs.take i).toArray ++ Builtin.zeroCells (Value.agg #[.slice none 0 0]).cells (n + m - i) ++ Builtin.zeroCells (Value.agg #[.slice none 0 0]).cells (grownCap w (n + m) c 36 - (n + m))) 36)).drew.setCells w.heap.size i vs).drew).setCells w.heap.size (i + m) (cs.drop i):=by
 obtain⟨i0,hi0,hz0,hzs,hzb⟩:=info_parts infoT
 have mixed:Tryz.prog.follows .mixedOrders=true:=by kernel_rfl
 have hz1:¬((m:Int)=0):=by omega
 have hz2:¬((i:Int)=(n:Int)):=by omega
 have hz3:(c:Int) < (n:Int) + (m:Int):=by omega
 have hsz:(Tryz.prog.info? 36).map (·.size)=some 1:=by rw [hi0];simp [hzs]
 have hbw:b < w.heap.size:=block_lt_of_cell (hcs 0 _ (List.getElem?_eq_getElem (by omega)))
 have hvw:vb < w.heap.size:=block_lt_of_cell (hvs 0 _ (List.getElem?_eq_getElem (by omega)))
 have hkk:(n:Int) + (m:Int) - (i:Int)=((n + m - i:Nat):Int):=by omega
 have hik:i + (n + m - i)=n + m:=by omega
 have hold:(Builtin.firstCells i0.size i (.slice (some ⟨b,off,none⟩) i c)).run Tryz.prog w.drew=.ok (cs.take i).toArray w.drew:=by
  rw [hzs]
  exact run_firstCells_some w.drew 1 i ⟨b,off,none⟩ i c (cs.take i) (by rw [List.length_take];omega) (fun j v hj=>by
   rw [Addr.add_lit]
   rw [List.getElem?_take]at hj
   split at hj
   ·exact hcs j v hj
   ·cases hj)
 have hrz:∀ ty,(Builtin.append_ #[30,3] ty #[.slice (some ⟨b,off,none⟩) i c,.int .i64 ((n:Int) + (m:Int) - (i:Int))]).run Tryz.prog w =
   .ok (.slice (some ⟨w.heap.size,0,none⟩) (n + m) (grownCap w (n + m) c 36)) (w.drew.alloc (.cells ((cs.take i).toArray ++ Builtin.zeroCells (Value.agg #[.slice none 0 0]).cells (n + m - i) ++ Builtin.zeroCells (Value.agg #[.slice none 0 0]).cells (grownCap w (n + m) c 36 - (n + m))) 36)):=fun ty=>by
  have h:=Lib.run_append_grow_zeros w 30 3 ty 36 i0 _ .i64 .i64 Tryz.underlying30 Tryz.underlying3 hi0 hz0 (some ⟨b,off,none⟩) i c (cs.take i) hold (n + m - i) (by omega) (by omega) (by omega) (by omega) (by rw [hzb];omega) (by rw [hzb,hik];exact growslice_fits hroom hbig)
  rw [hik]at h
  rw [hkk]
  exact h
 obtain⟨G,hG⟩:∃ G,G=grownCap w (n + m) c 36:=⟨_,rfl⟩
 obtain⟨ROW,hROW⟩:∃ ROW:Array Value,ROW=(cs.take i).toArray ++ Builtin.zeroCells (Value.agg #[.slice none 0 0]).cells (n + m - i) ++ Builtin.zeroCells (Value.agg #[.slice none 0 0]).cells (G - (n + m)):=⟨_,rfl⟩
 rw [← hG]at hrz ⊢
 rw [← hROW]at hrz ⊢
 have hRl:n + m≤ROW.size:=by
  rw [hROW]
  simp [Builtin.zeroCells,Value.cells]
  omega
 obtain⟨W1,hW1⟩:∃ W1,W1=w.drew.alloc (.cells ROW 36):=⟨_,rfl⟩
 rw [← hW1]at hrz
 have hN:∀ j,j < n + m→(W1.cell? ⟨w.heap.size,j,none⟩).isSome=true:=fun j hj=>by
  rw [hW1,World.cell?_alloc_at (w:=w.drew) ROW _ w.heap.size j rfl,Array.getElem?_eq_getElem (by omega)];rfl
 have hNf:∀ j,W1.frozen? ⟨w.heap.size,j,none⟩=false:=fun j=>by rw [hW1];exact World.frozen?_alloc_at (w:=w.drew) ROW _ w.heap.size j rfl
 have hOb:∀ j v,w.cell? ⟨b,j,none⟩=some v→W1.cell? ⟨b,j,none⟩=some v:=fun j v h=>by rw [hW1,World.cell?_alloc_past (w:=w.drew) _ b j hbw];exact h
 have hOv:∀ j v,w.cell? ⟨vb,j,none⟩=some v→W1.cell? ⟨vb,j,none⟩=some v:=fun j v h=>by rw [hW1,World.cell?_alloc_past (w:=w.drew) _ vb j hvw];exact h
 have hcpA:∀(W:World),(∀ x,W.cell? x=W1.cell? x)→(∀ x,W.frozen? x=W1.frozen? x)→∀ ty dc,(Builtin.copy_ #[30,30] ty #[.slice (some ⟨w.heap.size,i,none⟩) (n + m - i) dc,.slice (some ⟨vb,voff,none⟩) m vc]).run Tryz.prog W=.ok (goInt vs.length) (W.setCells w.heap.size i vs):=fun W hWc hWf ty dc =>
  run_copy_cells W _ _ ty 36 w.heap.size i (n + m - i) dc ⟨vb,voff,none⟩ m vc vs Tryz.underlying30 hsz (by rw [hvl];simp only [Nat.min_def];split <;> omega)
   (fun j v hj=>by rw [Addr.add_lit,hWc];exact hOv _ v (hvs j v hj))
   (fun j hj=>by rw [hWc];exact hN _ (by omega)) (fun j hj=>by rw [hWf];exact hNf _) h1v
 have hGn:n + m≤G:=by rw [hG];exact grownCap_ge w _ _ _
 have hG63:G≤9223372036854775807:=by
  have:=grownCap_le_maxLen w (n + m) c 36 (by unfold maxLen;omega)
  rw [← hG]at this
  unfold maxLen at this
  omega
 have hGi:¬(G=i):=by omega
 have hGim:¬(G=i + m):=by omega
 have hci:¬(c=i):=by omega
 have hbN:b≠w.heap.size:=by omega
 have hdl:(cs.drop i).length=n - i:=by rw [List.length_drop,hcl]
 have hcpB:∀(W:World),(∀ x,W.cell? x=(W1.setCells w.heap.size i vs).cell? x)→(∀ x,W.frozen? x=(W1.setCells w.heap.size i vs).frozen? x)→∀ ty dc sc,(Builtin.copy_ #[30,30] ty #[.slice (some ⟨w.heap.size,i + m,none⟩) (n + m - (i + m)) dc,.slice (some ⟨b,off + i,none⟩) (n - i) sc]).run Tryz.prog W=.ok (goInt (cs.drop i).length) (W.setCells w.heap.size (i + m) (cs.drop i)):=fun W hWc hWf ty dc sc =>
  run_copy_cells W _ _ ty 36 w.heap.size (i + m) (n + m - (i + m)) dc ⟨b,off + i,none⟩ (n - i) sc (cs.drop i) Tryz.underlying30 hsz (by rw [hdl];simp only [Nat.min_def];split <;> omega)
   (fun j v hj=>by
    rw [Addr.add_lit,hWc,World.cell?_setCells_out _ _ _ _ _ (fun h _=>absurd h hbN),Nat.add_assoc]
    exact hOb _ v (hcs (i + j) v (by rwa [List.getElem?_drop]at hj)))
   (fun j hj=>by rw [hWc];exact isSome_setCells _ _ _ _ (fun t ht=>hN _ (by omega)) _ (hN _ (by omega)))
   (fun j hj=>by rw [hWf,World.frozen?_setCells];exact hNf _) (fun v hv=>h1c v (List.mem_of_mem_drop hv))
 subst hW1
 have hE1:∀ x,((w.alloc (.cells ROW 36)).drew).cell? x=(w.drew.alloc (.cells ROW 36)).cell? x:=fun x=>rfl
 have hE2:∀ x,((w.alloc (.cells ROW 36)).drew).frozen? x=(w.drew.alloc (.cells ROW 36)).frozen? x:=fun x=>rfl
 have hF1:∀ x,(((w.alloc (.cells ROW 36)).drew.setCells w.heap.size i vs).drew).cell? x=((w.drew.alloc (.cells ROW 36)).setCells w.heap.size i vs).cell? x:=fun x=>rfl
 have hF2:∀ x,(((w.alloc (.cells ROW 36)).drew.setCells w.heap.size i vs).drew).frozen? x=((w.drew.alloc (.cells ROW 36)).setCells w.heap.size i vs).frozen? x:=fun x=>rfl
 have hw1:IntKind.i64.wrap ((i:Int) + (m:Int))=(i:Int) + (m:Int):=by rw [IntKind.wrap_i64];omega
 have hb1:(0:Int)≤(i:Int) + (m:Int):=by omega
 have hin:i≤n:=by omega
 have htn:((i:Int) + (m:Int)).toNat=i + m:=by omega
 have hb3:(i:Int)≤(n:Int):=by omega
 clear hkk hik hold hROW hG hRl
 go_enter Tryz.func45,Tryz.ntmps45
 go_wp2_with (first
  | (at_builtin;refine Lib.wpList_append_run _ rfl _ _ _ _ rfl _ _ rfl rfl _ _ (hrz _) ?_)
  | (at_builtin;refine wpList_copy_runI _ rfl _ _ 30 30 rfl _ _ rfl rfl (hcpA _ hE1 hE2 _ _) ?_)
  | (at_builtin;refine wpList_copy_runI _ rfl _ _ 30 30 rfl _ _ rfl rfl (hcpB _ (fun _=>rfl) (fun _=>rfl) _ _ _) ?_))
 go_region_law_o (refine step_copy_runI rfl _ _ 30 30 rfl (.slice (some ⟨w.heap.size,i + m,none⟩) (n + m - (i + m)) (G - (i + m))) (.slice (some ⟨b,off + i,none⟩) (n - i) (c - i)) (by simp [Act.eval,Act.put]) (by simp [Act.eval,Act.put]) (hcpB _ hF1 hF2 3 (G - (i + m)) (c - i)) ?_)
 go_wp2
 go_ret
 exact⟨rfl,rfl⟩
section
open Go.Proofs.YtkajecadkkgfmaaGreatDoorW.PrintWords Go.Proofs.YtkajecadkkgfmaaGreatDoorW.PrintLast Go.Proofs.YtkajecadkkgfmaaGreatDoorW.PrintMore
def putAll (cur:Array Value):Nat→List Value→Array Value
 | _,[]=>cur
 | o,v :: r=>putAll (cur.setIfInBounds o v) (o + 1) r
theorem putAll_size:∀(vs:List Value) (cur:Array Value) (o:Nat),(putAll cur o vs).size=cur.size
 | [],_,_=>rfl
 | v :: r,cur,o=>by
  rw [putAll,putAll_size r,Array.size_setIfInBounds]
theorem putAll_get:∀(vs:List Value) (cur:Array Value) (o j:Nat),o + vs.length≤cur.size→(putAll cur o vs)[j]?=if o≤j∧j < o + vs.length then vs[j - o]? else cur[j]?
 | [],cur,o,j,_=>by
  rw [putAll,if_neg (by rintro⟨h1,h2⟩;simp at h2;omega)]
 | v :: r,cur,o,j,h=>by
  simp only [List.length_cons]at h ⊢
  rw [putAll,putAll_get r _ _ _ (by rw [Array.size_setIfInBounds];omega)]
  by_cases h1:o + 1≤j∧j < o + 1 + r.length
  ·rw [if_pos h1,if_pos (by omega),show j - o=(j - (o + 1)) + 1 by omega,List.getElem?_cons_succ]
  ·rw [if_neg h1]
   by_cases h2:j=o
   ·subst h2
    rw [if_pos (by omega),Nat.sub_self,List.getElem?_cons_zero,Array.getElem?_setIfInBounds_self_of_lt (by omega)]
   ·rw [if_neg (by omega),Array.getElem?_setIfInBounds_ne (by omega)]
theorem blk_puts {g t:Nat}:∀(vs:List Value) (w:World) (cur:Array Value) (o:Nat),w.heap[g]?=some (.cells cur t (0,0))→(w.setCells g o vs).heap[g]?=some (.cells (putAll cur o vs) t (0,0))
 | [],_,_,_,h=>h
 | v :: r,w,cur,o,h=>blk_puts r _ _ _ (blk_set h o v)
theorem far_puts {g k:Nat} (hk:k≠g):∀(vs:List Value) (w:World) (o:Nat),(w.setCells g o vs).heap[k]?=w.heap[k]?
 | [],_,_=>rfl
 | v :: r,w,o=>(far_puts hk r _ _).trans (Below.heap_setCell w ⟨g,o,none⟩ v k hk)
theorem size_puts {g:Nat}:∀(vs:List Value) (w:World) (o:Nat),(w.setCells g o vs).heap.size=w.heap.size
 | [],_,_=>rfl
 | v :: r,w,o=>(size_puts r _ _).trans (by simp [World.setCell])
theorem drop_one {cs:List Value} {j:Nat} {u:Value} (h:cs[j]?=some u):(cs.drop (j * 1)).take 1=[u]:=by
 obtain⟨hl,rfl⟩:=List.getElem?_eq_some_iff.1 h
 rw [Nat.mul_one,List.drop_eq_getElem_cons hl,List.take_succ_cons,List.take_zero]
section
variable {α : Type} {R : α → List Value → Prop} {ps : List α} {cs : List Value} {p : α} {u : Value} {i : Nat}
theorem reps_at (h:Reps R 1 ps cs) {j:Nat} (hp:ps[j]?=some p):∃ u,cs[j]?=some u∧R p [u]:=by
 have hl:j < cs.length:=by
  have:=h.1
  have:=(List.getElem?_eq_some_iff.1 hp).1
  omega
 refine⟨cs[j],List.getElem?_eq_getElem hl, ?_⟩
 have:=h.2 j p hp
 rwa [drop_one (List.getElem?_eq_getElem hl)]at this
theorem reps_ins (h:Reps R 1 ps cs) (hi:i≤ps.length) (hp:R p [u]):Reps R 1 (ps.insertIdx i p) (cs.insertIdx i u):=by
 have hl:cs.length=ps.length:=by have:=h.1;omega
 refine⟨by rw [List.length_insertIdx_of_le_length (by omega),List.length_insertIdx_of_le_length hi];omega,fun j q hj=>?_⟩
 rw [List.getElem?_insertIdx]at hj
 by_cases h1:j < i
 ·rw [if_pos h1]at hj
  obtain⟨u',hu,hR⟩:=reps_at h hj
  rw [drop_one (u:=u') (by rw [List.getElem?_insertIdx,if_pos h1];exact hu)]
  exact hR
 ·rw [if_neg h1]at hj
  by_cases h2:j=i
  ·rw [if_pos h2,if_pos (by omega)]at hj
   injection hj with hj
   subst hj
   rw [drop_one (u:=u) (by rw [List.getElem?_insertIdx,if_neg h1,if_pos h2,if_pos (by omega)])]
   exact hp
  ·rw [if_neg h2]at hj
   obtain⟨u',hu,hR⟩:=reps_at h hj
   rw [drop_one (u:=u') (by rw [List.getElem?_insertIdx,if_neg h1,if_neg h2];exact hu)]
   exact hR
theorem Reps.map_ {β:Type} {R':β→List Value→Prop} {qs:List β} (h:Reps R 1 ps cs) (hl:qs.length=ps.length) (hR:∀(j:Nat) (p:α) (q:β) (c:List Value),ps[j]?=some p→qs[j]?=some q→R p c→R' q c):Reps R' 1 qs cs:=by
 refine⟨by rw [hl];exact h.1,fun j q hq=>?_⟩
 have hj:j < ps.length:=by
  have:=(List.getElem?_eq_some_iff.1 hq).1
  omega
 exact hR j _ q _ (List.getElem?_eq_getElem hj) hq (h.2 j _ (List.getElem?_eq_getElem hj))
end
theorem zeros_size (n:Nat):(Builtin.zeroCells (Value.agg #[.slice none 0 0]).cells n).size=n:=by simp [Builtin.zeroCells,Value.cells]
/-- The cells behind an insertion in place. -/
theorem take_shift {cur:Array Value} {cs:List Value} {n i:Nat} (u:Value) (hc:cur.toList.take n=cs) (hl:cs.length=n) (hi:i≤n) (hs:n + 1≤cur.size):(putAll (putAll cur (i + 1) (cs.drop i)) i [u]).toList.take (n + 1)=cs.insertIdx i u:=by
 have hdl:(cs.drop i).length=n - i:=by rw [List.length_drop,hl]
 apply List.ext_getElem?
 intro j
 rw [List.getElem?_take,Array.getElem?_toList,putAll_get [u] _ _ _ (by rw [putAll_size,List.length_singleton];omega),putAll_get (cs.drop i) _ _ _ (by omega),List.getElem?_insertIdx,hdl,List.length_singleton]
 have hcj:∀ k,k < n→cur[k]?=cs[k]?:=fun k hk=>by
  rw [← hc,List.getElem?_take,if_pos hk,Array.getElem?_toList]
 by_cases h1:j < i
 ·rw [if_pos (by omega),if_neg (by omega),if_neg (by omega),if_pos h1]
  exact hcj j (by omega)
 ·by_cases h2:j=i
  ·subst h2
   rw [if_pos (by omega),if_pos (by omega),if_neg h1,if_pos rfl,if_pos (by omega),Nat.sub_self]
   rfl
  ·rw [if_neg h1,if_neg h2]
   by_cases h3:j < n + 1
   ·rw [if_pos h3,if_neg (by omega),if_pos (by omega),List.getElem?_drop,show i + (j - (i + 1))=j - 1 by omega]
   ·rw [if_neg h3,List.getElem?_eq_none (by omega)]
/-- .. and behind one in a new row. -/
theorem take_grow {cs:List Value} {n i m:Nat} (u:Value) (Z Z2:Array Value) (hl:cs.length=n) (hi:i≤n) (hz:Z.size=n + 1 - i) (hm:((cs.take i).toArray ++ Z ++ Z2).size=m) (hs:n + 1≤m):(putAll (putAll ((cs.take i).toArray ++ Z ++ Z2) i [u]) (i + 1) (cs.drop i)).toList.take (n + 1)=cs.insertIdx i u:=by
 have hdl:(cs.drop i).length=n - i:=by rw [List.length_drop,hl]
 have htl:(cs.take i).length=i:=by rw [List.length_take];omega
 apply List.ext_getElem?
 intro j
 rw [List.getElem?_take,Array.getElem?_toList,putAll_get (cs.drop i) _ _ _ (by rw [putAll_size];omega),putAll_get [u] _ _ _ (by rw [List.length_singleton];omega),List.getElem?_insertIdx,hdl,List.length_singleton]
 by_cases h1:j < i
 ·rw [if_pos (by omega),if_neg (by omega),if_neg (by omega),if_pos h1,Array.getElem?_append_left (by simp [htl];omega),Array.getElem?_append_left (by simp [htl];omega),List.getElem?_toArray,List.getElem?_take,if_pos h1]
 ·by_cases h2:j=i
  ·subst h2
   rw [if_pos (by omega),if_neg (by omega),if_pos (by omega),if_neg h1,if_pos rfl,if_pos (by omega),Nat.sub_self]
   rfl
  ·rw [if_neg h1,if_neg h2]
   by_cases h3:j < n + 1
   ·rw [if_pos h3,if_pos (by omega),List.getElem?_drop,show i + (j - (i + 1))=j - 1 by omega]
   ·rw [if_neg h3,List.getElem?_eq_none (by omega)]
theorem shape_blk {w:World} {g t:Nat} {cs:Array Value} (h:w.heap[g]?=some (.cells cs t (0,0))):w.shape? g=some (t,cs.size):=by simp [World.shape?,h]
theorem ins_end {α:Type} (l:List α) (u:α):l.insertIdx l.length u=l ++ [u]:=by
 induction l with
 | nil=>rfl
 | cons a l ih=>rw [List.length_cons,List.insertIdx_succ_cons,ih];rfl
theorem ins_map {α β:Type} (f:α→β) (l:List α) (i:Nat) (p:α):(l.insertIdx i p).map f=(l.map f).insertIdx i (f p):=by
 apply List.ext_getElem?
 intro j
 rw [List.getElem?_map,List.getElem?_insertIdx,List.getElem?_insertIdx,List.length_map,List.getElem?_map,List.getElem?_map]
 split
 ·rfl
 ·split
  ·split <;> rfl
  ·rfl
theorem zip_fst0 {α:Type} (l:List α):∀ n,(l.zipIdx n).map Prod.fst=l:=by
 induction l with
 | nil=>intro n;rfl
 | cons x l ih =>
  intro n
  rw [List.zipIdx_cons,List.map_cons,ih]
set_option maxHeartbeats 4000000 in
/-- slices.Insert(s, i, x), s a row of one's own, x made behind it. -/
theorem insert_own {α:Type} (d:Kd α) (hd:d.sz=1) (lo hi lo2:Nat) (A0:Option Addr) (c0:Nat) (l0:List α) (i:Nat) (hin:i≤l0.length) (gv cv:Nat) (u:Value) (x:α) (okx:Nat→Prop) (w0 w:World) (hB:Below w0.heap.size w0 w) (hlo:w0.heap.size≤lo) (hle:lo≤lo2) (hbl:hi≤lo2)
  (ho:QIv.OS d 36 lo hi (.slice A0 l0.length c0) l0 w) (hv:w.heap[gv]?=some (.cells #[u] 36 (0,0))) (hgv:lo2≤gv) (hx:d.M w lo2 okx x [u]) (hlen:l0.length < 5864062014805) :
  Calls Tryz.prog 45 #[.slice A0 l0.length c0,.int .i64 (i:Int),.slice (some ⟨gv,0,none⟩) 1 cv] w fun e w'=>∃ v',e=.returned v'∧Kd.S d 36 w' lo (fun k=>k < hi∨lo2≤k) v' (l0.insertIdx i x)∧Below w0.heap.size w0 w'∧QIv.KI lo hi w w':=by
 obtain⟨ft,hR⟩:=ho
 obtain⟨h0,cs,hown,hr⟩:=hR
 have hzl:l0.zipIdx.length=l0.length:=List.length_zipIdx
 have hsz:(Kd.tag ft d).sz=1:=hd
 rw [hsz,hzl]at hown
 rw [hsz]at hr
 have hcl:cs.length=l0.length:=by have:=hr.1;rw [hzl]at this;omega
 have hu1:∀ v∈[u],v.oneCell'=true:=d.K_one (d.K_of_M hx)
 have hgw:gv < w.heap.size:=blk_lt hv
 have hvs:∀(j:Nat) (v:Value),[u][j]?=some v→w.cell? ⟨gv,0 + j,none⟩=some v:=fun j v hj=>by
  rw [Nat.zero_add,y11 hv]
  simpa using hj
 have hone:∀ v∈cs,v.oneCell'=true:=fun v hv=>by
  obtain⟨j,hj,rfl⟩:=List.mem_iff_getElem.1 hv
  have hjl:j < l0.zipIdx.length:=by omega
  obtain⟨u',hu',hM⟩:=reps_at hr (List.getElem?_eq_getElem hjl)
  rw [List.getElem?_eq_getElem hj]at hu'
  injection hu' with hu'
  rw [hu']
  exact d.K_one (d.K_of_M hM) u' (by simp)
 have fin:∀(w':World) (v':Value) (k:Nat),v'.ownBlock=some k→(k < hi∧lo≤k∧(Value.slice A0 l0.length c0).ownBlock=some k∨w.heap.size≤k)→w'.ownsRow lo 36 1 v' (l0.length + 1) (cs.insertIdx i u)→(∀ k',k'≠k→k' < w.heap.size→w'.heap[k']?=w.heap[k']?)→Kd.S d 36 w' lo (fun k=>k < hi∨lo2≤k) v' (l0.insertIdx i x):=by
  intro w' v' k hk hkk hown' hkeep
  have hok:∀ k',k' < hi→lo≤k'→some k'≠(Value.slice A0 l0.length c0).ownBlock→k' < w.heap.size→k'≠k:=by
   rintro k' h1 h2 h3 h4 rfl
   rcases hkk with⟨_,_,h⟩|h
   ·exact h3 h.symm
   ·omega
  have hzi:(l0.zipIdx.insertIdx i (x,l0.length)).map Prod.fst=l0.insertIdx i x:=by
   rw [ins_map]
   congr 1
   exact zip_fst0 l0 0
  rw [← hzi]
  refine QIv.S_sub (f:=fun k=>if k < hi then ft k else l0.length) ⟨fun k' hk'=>?_,cs.insertIdx i u, ?_, ?_⟩ ?_
  ·rw [hk]at hk'
   injection hk' with hk'
   subst hk'
   rcases hkk with⟨h,_⟩|h
   ·exact .inl h
   ·exact .inr (by omega)
  ·rw [List.length_insertIdx_of_le_length (by rw [hzl];exact hin),hzl]
   show w'.ownsRow lo _ d.sz _ _ _
   rw [hd]
   exact hown'
  ·show Reps _ d.sz _ _
   rw [hd]
   refine reps_ins (Reps.map_ (qs:=l0.zipIdx) hr rfl fun j p q c hp hq hM=>?_) (by rw [hzl];exact hin) ?_
   ·rw [hp]at hq
    injection hq with hq
    subst hq
    have h1:=d.M_bound hM
    refine d.M_mono (fun k' hk'=>⟨⟨.inl hk'.1.1.1, ?_⟩, ?_⟩) (d.M_move (w1:=w') (fun k' hk'=>hkeep k' (hok k' hk'.1.1.1 hk'.2.1 hk'.1.1.2 hk'.2.2.1) hk'.2.2.1) h1)
    ·rw [hk]
     intro he
     injection he with he
     exact hok k' hk'.1.1.1 hk'.2.1 hk'.1.1.2 hk'.2.2.1 he
    ·show(if k' < hi then ft k' else l0.length)=_
     rw [if_pos hk'.1.1.1]
     exact hk'.1.2
   ·have h1:=d.M_bound hx
    have hne:∀ k',lo2≤k'→k' < w.heap.size→k'≠k:=by
     rintro k' h1 h2 rfl
     rcases hkk with⟨h,_⟩|h <;> omega
    refine d.M_lower hle (d.M_mono (fun k' hk'=>⟨⟨.inr hk'.2.1, ?_⟩, ?_⟩) (d.M_move (w1:=w') (fun k' hk'=>hkeep k' (hne k' hk'.2.1 hk'.2.2.1) hk'.2.2.1) h1))
    ·rw [hk]
     intro he
     injection he with he
     exact hne k' hk'.2.1 hk'.2.2.1 he
    ·show(if k' < hi then ft k' else l0.length)=_
     rw [if_neg (by have:=hk'.2.1;omega)]
  ·refine List.pairwise_iff_getElem.2 fun a b ha hb hab=>?_
   rw [List.length_insertIdx_of_le_length (by rw [hzl];exact hin),hzl]at ha hb
   have hg:∀(j:Nat) (hj:j < (l0.zipIdx.insertIdx i (x,l0.length)).length),((l0.zipIdx.insertIdx i (x,l0.length))[j]).2=if j < i then j else if j=i then l0.length else j - 1:=by
    intro j hj
    rw [List.getElem_insertIdx]
    split
    ·rw [List.getElem_zipIdx]
     show 0 + j=j
     omega
    ·split
     ·rfl
     ·rw [List.getElem_zipIdx]
      show 0 + (j - 1)=j - 1
      omega
   rw [hg,hg]
   split <;> split <;> (try split) <;> (try split) <;> omega
 have hnew:∀(G:Nat) (ROW:Array Value) (w':World),l0.length + 1≤G→G≤maxLen→w'.heap[w.heap.size]?=some (.cells ROW 36 (0,0))→ROW.size=G→ROW.toList.take (l0.length + 1)=cs.insertIdx i u→(∀ k',k'≠w.heap.size→k' < w.heap.size→w'.heap[k']?=w.heap[k']?) →
   Kd.S d 36 w' lo (fun k=>k < hi∨lo2≤k) (.slice (some ⟨w.heap.size,0,none⟩) (l0.length + 1) G) (l0.insertIdx i x):=by
  intro G ROW w' h1 h2 h3 h4 h5 h6
  refine fin w' _ w.heap.size rfl (.inr (Nat.le_refl _)) ⟨by rw [List.length_insertIdx_of_le_length (by omega)];omega,Or.inr ⟨w.heap.size,G,ROW,rfl,by omega,h3,h1,h2,by rw [Nat.mul_one];exact h4,by rw [Nat.mul_one];exact h5⟩⟩ h6
 have hml:∀ c,grownCap w (l0.length + 1) c 36≤maxLen:=fun c=>grownCap_le_maxLen w _ _ _ (by simp only [maxLen];omega)
 have hmg:∀ c,l0.length + 1≤grownCap w (l0.length + 1) c 36:=fun c=>grownCap_ge w _ _ _
 have hiu:l0.length=i→cs.insertIdx i u=cs ++ [u]:=fun e=>by
  rw [← e,← hcl]
  exact ins_end cs u
 rcases hown.2 with⟨hnil,hn0⟩|⟨g,cap,cur,hsl,hbg,hh,hnc,hcm,hcs,htk⟩
 ·injection hnil with e1 e2 e3
  subst e1
  subst e3
  obtain rfl:i=0:=by omega
  have h:=insT_grow0 none l0.length 0 gv 0 1 cv cs [u] w (by omega) (by omega) (by omega) (by omega) hcl rfl (fun _=>hn0) (fun a ha=>by cases ha) hvs hu1
  rw [show((0:Nat):Int)=((l0.length:Nat):Int)by omega]
  refine h.mono ?_
  rintro e w' ⟨rfl,rfl⟩
  have hblk:=heap_alloc_new w.drew (.cells ((cs ++ [u]).toArray ++ Builtin.zeroCells (Value.agg #[.slice none 0 0]).cells (grownCap w (l0.length + 1) 0 36 - (l0.length + 1))) 36)
  have hold:∀ k',k' < w.heap.size→(w.drew.alloc (.cells ((cs ++ [u]).toArray ++ Builtin.zeroCells (Value.agg #[.slice none 0 0]).cells (grownCap w (l0.length + 1) 0 36 - (l0.length + 1))) 36)).heap[k']?=w.heap[k']?:=fun k' hk'=>heap_alloc_old w.drew _ hk'
  refine⟨_,rfl,hnew _ _ _ (hmg _) (hml _) hblk ?_ ?_ (fun k' _ hk'=>hold k' hk'),y4 (below_drew hB) _,⟨(y4 (below_drew (Below.refl w.heap.size w)) _).size,fun k' hk' _=>hold k' hk'⟩⟩
  ·have:=hmg 0
   rw [Array.size_append,zeros_size,List.size_toArray,List.length_append,List.length_singleton]
   omega
  ·rw [hiu hn0,Array.toList_append,List.take_append_of_le_length (by simp;omega),List.take_of_length_le (by simp;omega)]
 ·injection hsl with e1 e2 e3
  subst e1
  subst e3
  have hg:g < hi:=h0 g (by simp [Value.ownBlock])
  have hgg:gv≠g:=by omega
  rw [Nat.mul_one]at hcs htk
  have hcell:∀(j:Nat) (v:Value),cs[j]?=some v→w.cell? ⟨g,0 + j,none⟩=some v:=fun j v hj=>by
   rw [Nat.zero_add,y11 hh]
   rw [← htk,List.getElem?_take]at hj
   split at hj
   ·rwa [Array.getElem?_toList]at hj
   ·cases hj
  have hfr:∀ j,w.frozen? ⟨g,0 + j,none⟩=false:=fun j=>y15 hh _
  have hsp:∀ j,j < c0→(w.cell? ⟨g,0 + j,none⟩).isSome=true:=fun j hj=>by
   rw [y11 hh,Array.getElem?_eq_getElem (by omega)]
   rfl
  have hin2:∀(w':World) (cur':Array Value),w'.heap[g]?=some (.cells cur' 36 (0,0))→cur'.size=cur.size→cur'.toList.take (l0.length + 1)=cs.insertIdx i u→l0.length + 1≤c0→(∀ k',k'≠g→w'.heap[k']?=w.heap[k']?) →
    Kd.S d 36 w' lo (fun k=>k < hi∨lo2≤k) (.slice (some ⟨g,0,none⟩) (l0.length + 1) c0) (l0.insertIdx i x):=by
   intro w' cur' h1 h2 h3 h4 h5
   exact fin w' _ g rfl (.inl ⟨hg,hbg,rfl⟩) ⟨by rw [List.length_insertIdx_of_le_length (by omega)];omega,Or.inr ⟨g,c0,cur',rfl,hbg,h1,h4,hcm,by rw [h2,Nat.mul_one];exact hcs,by rw [Nat.mul_one];exact h3⟩⟩ (fun k' hk' _=>h5 k' hk')
  have hc63:c0≤9223372036854775807:=by simp only [maxLen]at hcm;omega
  by_cases hroom:l0.length + 1≤c0
  ·by_cases hil:i < l0.length
   ·refine(insT_shift g 0 l0.length c0 i gv 0 1 cv cs [u] w hil (by omega) hroom hc63 hgg hcl rfl hcell (fun j hj=>hsp j (by omega)) (fun j _=>hfr j) hvs hone hu1 _ _ _ _ (shape_blk hv) (shape_blk hh) (by omega) (y15 hv _) (y15 hv _)).mono ?_
    rintro e w' ⟨rfl,rfl⟩
    have hb1:=blk_puts [u] _ _ (0 + i) (blk_puts (cs.drop i) w.drew cur (0 + (i + 1)) hh)
    simp only [Nat.zero_add]at hb1 ⊢
    refine⟨_,rfl,hin2 _ _ hb1 (by rw [putAll_size,putAll_size]) (take_shift u htk hcl (by omega) (by omega)) hroom (fun k' hk'=>by rw [far_puts hk',far_puts hk'];rfl),QIv.below_sets _ (QIv.below_sets _ (below_drew hB) (by omega)) (by omega),QIv.ki_sets _ (QIv.ki_sets _ ⟨Nat.le_refl _,fun _ _ _=>rfl⟩ ⟨hbg,hg⟩) ⟨hbg,hg⟩⟩
   ·obtain rfl:i=l0.length:=by omega
    refine(insT_room g 0 l0.length c0 gv 0 1 cv [u] w (by omega) hroom hc63 rfl (fun j hj=>by rw [show 0 + l0.length + j=0 + (l0.length + j)by omega];exact hsp _ (by omega)) (fun j _=>by rw [show 0 + l0.length + j=0 + (l0.length + j)by omega];exact hfr _) hvs hu1).mono ?_
    rintro e w' ⟨rfl,rfl⟩
    have hb1:=blk_puts [u] w cur (0 + l0.length) hh
    simp only [Nat.zero_add]at hb1 ⊢
    refine⟨_,rfl,hin2 _ _ hb1 (by rw [putAll_size]) ?_ hroom (fun k' hk'=>far_puts hk' _ _ _),QIv.below_sets _ hB (by omega),QIv.ki_sets _ (QIv.ki_refl _ _ _) ⟨hbg,hg⟩⟩
    have h:=take_shift (i:=l0.length) u htk hcl (Nat.le_refl _) (by omega)
    rw [List.drop_of_length_le (by omega),putAll]at h
    exact h
  ·by_cases hil:i < l0.length
   ·have hGG:=hmg c0
    refine(insT_grow g 0 l0.length c0 i gv 0 1 cv cs [u] w hil (by omega) hnc (by omega) (by omega) hcl rfl hcell hvs hone hu1).mono ?_
    rintro e w' ⟨rfl,rfl⟩
    obtain⟨ROW,hROW⟩:∃ ROW:Array Value,ROW=(cs.take i).toArray ++ Builtin.zeroCells (Value.agg #[.slice none 0 0]).cells (l0.length + 1 - i) ++ Builtin.zeroCells (Value.agg #[.slice none 0 0]).cells (grownCap w (l0.length + 1) c0 36 - (l0.length + 1)):=⟨_,rfl⟩
    have hRs:ROW.size=grownCap w (l0.length + 1) c0 36:=by
     rw [hROW,Array.size_append,Array.size_append,zeros_size,zeros_size,List.size_toArray,List.length_take]
     omega
    have htg:=take_grow u (Builtin.zeroCells (Value.agg #[.slice none 0 0]).cells (l0.length + 1 - i)) (Builtin.zeroCells (Value.agg #[.slice none 0 0]).cells (grownCap w (l0.length + 1) c0 36 - (l0.length + 1))) hcl (Nat.le_of_lt hil) (zeros_size _) (by rw [← hROW];exact hRs) hGG
    rw [← hROW]at htg ⊢
    have hb0:=heap_alloc_new w (.cells ROW 36)
    have hb1:=blk_puts (cs.drop i) (((w.alloc (.cells ROW 36)).drew.setCells w.heap.size i [u]).drew) _ (i + 1) (blk_puts [u] ((w.alloc (.cells ROW 36)).drew) ROW i hb0)
    have hold:∀ k',k' < w.heap.size→((((w.alloc (.cells ROW 36)).drew.setCells w.heap.size i [u]).drew).setCells w.heap.size (i + 1) (cs.drop i)).heap[k']?=w.heap[k']?:=fun k' hk'=>by
     rw [far_puts (by omega)]
     show(((w.alloc (.cells ROW 36)).drew.setCells w.heap.size i [u])).heap[k']?=_
     rw [far_puts (by omega)]
     exact heap_alloc_old w _ hk'
    refine⟨_,rfl,hnew _ _ _ hGG (hml _) hb1 (by rw [putAll_size,putAll_size];exact hRs) htg (fun k' _ hk'=>hold k' hk'),QIv.below_sets _ (below_drew (QIv.below_sets _ (below_drew (y4 hB _)) hB.size)) hB.size,⟨?_,fun k' hk' _=>hold k' hk'⟩⟩
    rw [size_puts]
    show w.heap.size≤((w.alloc (.cells ROW 36)).drew.setCells w.heap.size i [u]).heap.size
    rw [size_puts]
    exact(y4 (Below.refl w.heap.size w) _).size
   ·obtain rfl:i=l0.length:=by omega
    refine(insT_grow0 (some ⟨g,0,none⟩) l0.length c0 gv 0 1 cv cs [u] w (by omega) hnc (by omega) (by omega) hcl rfl (fun e=>by cases e) (fun a ha j v hj=>by injection ha with ha;subst ha;have:=hcell j v hj;rw [Nat.zero_add]at this;rw [Addr.add_lit,Nat.zero_add];exact this) hvs hu1).mono ?_
    rintro e w' ⟨rfl,rfl⟩
    have hblk:=heap_alloc_new w.drew (.cells ((cs ++ [u]).toArray ++ Builtin.zeroCells (Value.agg #[.slice none 0 0]).cells (grownCap w (l0.length + 1) c0 36 - (l0.length + 1))) 36)
    have hold:∀ k',k' < w.heap.size→(w.drew.alloc (.cells ((cs ++ [u]).toArray ++ Builtin.zeroCells (Value.agg #[.slice none 0 0]).cells (grownCap w (l0.length + 1) c0 36 - (l0.length + 1))) 36)).heap[k']?=w.heap[k']?:=fun k' hk'=>heap_alloc_old w.drew _ hk'
    refine⟨_,rfl,hnew _ _ _ (hmg _) (hml _) hblk ?_ ?_ (fun k' _ hk'=>hold k' hk'),y4 (below_drew hB) _,⟨(y4 (below_drew (Below.refl w.heap.size w)) _).size,fun k' hk' _=>hold k' hk'⟩⟩
    ·have:=hmg c0
     rw [Array.size_append,zeros_size,List.size_toArray,List.length_append,List.length_singleton]
     omega
    ·rw [hiu rfl,Array.toList_append,List.take_append_of_le_length (by simp;omega),List.take_of_length_le (by simp;omega)]
/-- A store elsewhere. -/
theorem S_off {α:Type} {d:Kd α} {e g lo:Nat} {W:World} {ok:Nat→Prop} {v:Value} {xs:List α} (h:Kd.S d e W lo ok v xs) (hg:g < lo∨¬ ok g) (j:Nat) (u:Value):Kd.S d e (W.setCell ⟨g,j,none⟩ u) lo ok v xs:=by
 refine Kd.S_mono (Kd.S_step (Kd.S_bound h) (fun k hk _=>Below.heap_setCell W _ u k ?_)) (fun _ hk=>hk.1)
 show k≠g
 rintro rfl
 rcases hg with hg|hg
 ·have:=hk.2.1
  omega
 ·exact hg hk.1
end
end Go.Proofs.YtkajecadkkgfmaaGreatDoor.QIns
