-- Cut by prune.py, a program of this session, out of the texts of this claim: Lean checks it.
import Derived.Test.YtcckpjflbfofjaaVclPdx4
import Derived.Test.YtcckpjflbfofjaaVclQStr
namespace Go.Proofs.Ytcckpjflbfofjaa.QGraph
open Go.RowKit Go.Proofs.Ytcckpjflbfofjaa.Pd Go.Proofs.YtcckpjflbfofjaaW.PrintWords Go.Proofs.YtcckpjflbfofjaaW.PrintLast Go.Proofs.Ytcckpjflbfofjaa.QStr
abbrev A:=S53
theorem step_i {i:Nat} (h:i≤281474976710656):wrap64 ((i:Int) + 1)=((i + 1:Nat):Int):=by
 rw [wrapS (by omega) (by omega)]
 omega
theorem rd_get (xs:List A) (i:Nat) (h:i < xs.length):y15 xs (i:Int)=xs[i]:=by
 unfold y15
 rw [show((i:Int)).toNat=i from rfl,List.getD_eq_getElem?_getD,List.getElem?_eq_getElem h]
 rfl
/-- From a to b by way of x, then y. -/
def hit (a b:Int) (x y:A):Bool:=x.f0 == a && (x.f1 == y.f0 && y.f1 == b)
def fndY (a b:Int) (x:A) (ys:List A):Bool:=ys.any (hit a b x)
def strY (a b:Int) (x:A) (ys:List A):Bool:=ys.any fun y=>hit a b x y && (x.f2 || y.f2)
def fnd (a b:Int) (xs ys:List A):Bool:=xs.any fun x=>fndY a b x ys
def str (a b:Int) (xs ys:List A):Bool:=xs.any fun x=>strY a b x ys
/-- d whole numbers from b on. -/
def row (b:Nat):Nat→List Int
 | 0=>[]
 | d + 1=>(b:Int) :: row (b + 1) d
def arc1 (xs ys:List A) (a b:Int):Option A:=if fnd a b xs ys then some ⟨a,b,str a b xs ys⟩else none
/-- The graph of two, one behind the other. -/
def compF (xs ys:List A):List A:=(row 0 6).flatMap fun a=>(row 0 6).filterMap (arc1 xs ys a)
section
variable (n : Nat) (p0 p1 : Int) (xs : List A) (q0 q1 : Int) (ys : List A) (r0 r1 : Int)
theorem l3_ev (rs:List A) (a b:Int) (i:Nat) (hi:i < xs.length) (hx:xs.length≤281474976710656) (hy:ys.length≤281474976710656):∀(d j:Nat) (fo st:Bool),j + d=ys.length →
  z0_.l3 (n + (d + 1)) a b fo st (i:Int) (j:Int) p0 p1 xs q0 q1 ys r0 r1 rs=z0_.l2 n a b (fo || fndY a b xs[i] (ys.drop j)) (st || strY a b xs[i] (ys.drop j)) ((i + 1:Nat):Int) p0 p1 xs q0 q1 ys r0 r1 rs
 | 0,j,fo,st,hd=>by
  show z0_.l3 (n + 1) a b fo st (i:Int) (j:Int) p0 p1 xs q0 q1 ys r0 r1 rs=_
  rw [z0_.l3,if_neg (by omega),List.drop_of_length_le (by omega),step_i (by omega)]
  simp [fndY,strY]
 | d + 1,j,fo,st,hd=>by
  have hj:j < ys.length:=by omega
  have ih:=fun fo st=>l3_ev rs a b i hi hx hy d (j + 1) fo st (by omega)
  show z0_.l3 ((n + (d + 1)) + 1) a b fo st (i:Int) (j:Int) p0 p1 xs q0 q1 ys r0 r1 rs=_
  rw [z0_.l3,if_pos (by omega),if_pos (by omega),if_pos (by omega),rd_get xs i hi,rd_get ys j hj,step_i (by omega),List.drop_eq_getElem_cons hj,if_pos (show(0:Int)≤(j:Int)by omega)]
  generalize xs[i]=x at ih ⊢
  generalize ys[j]=y
  rw [ih,ih,ih]
  have e1:fndY a b x (y :: ys.drop (j + 1))=(hit a b x y || fndY a b x (ys.drop (j + 1))):=rfl
  have e2:strY a b x (y :: ys.drop (j + 1))=(hit a b x y && (x.f2 || y.f2) || strY a b x (ys.drop (j + 1))):=rfl
  rw [e1,e2]
  by_cases h0:x.f0=a
  ·by_cases h1:x.f1=y.f0
   ·by_cases h2:y.f1=b
    ·have hh:hit a b x y=true:=by simp [hit,h0,h1,h2]
     rw [if_pos h0,if_pos h1,if_pos h2,hh]
     cases st <;> cases x.f2 <;> cases y.f2 <;> simp
    ·have hh:hit a b x y=false:=by simp [hit,h2]
     rw [if_pos h0,if_pos h1,if_neg h2,hh]
     simp
   ·have hh:hit a b x y=false:=by simp [hit,h1]
    rw [if_pos h0,if_neg h1,hh]
    simp
  ·have hh:hit a b x y=false:=by simp [hit,h0]
   rw [if_neg h0,hh]
   simp
/-- How many steps the loop over the first graph takes. -/
def c2 (d m:Nat):Nat:=d * (m + 2) + 1
theorem c2_succ (d m:Nat):c2 (d + 1) m=c2 d m + (m + 1) + 1:=by
 unfold c2
 rw [Nat.succ_mul]
 omega
theorem l2_ev (rs:List A) (a b:Int) (hrs:rs.length < 5864062014805) (hx:xs.length≤281474976710656) (hy:ys.length≤281474976710656):∀(d i:Nat) (fo st:Bool),i + d=xs.length →
  z0_.l2 (n + c2 d ys.length) a b fo st (i:Int) p0 p1 xs q0 q1 ys r0 r1 rs =
   if(fo || (xs.drop i).any fun x=>fndY a b x ys)=true then z0_.l1 n a (wrap64 (b + 1)) p0 p1 xs q0 q1 ys r0 r1 (rs ++ [⟨a,b,st || (xs.drop i).any fun x=>strY a b x ys⟩])
   else z0_.l1 n a (wrap64 (b + 1)) p0 p1 xs q0 q1 ys r0 r1 rs
 | 0,i,fo,st,hd=>by
  rw [show n + c2 0 ys.length=n + 1 by unfold c2;omega,z0_.l2,if_neg (by omega),if_pos hrs,List.drop_of_length_le (by omega)]
  simp
 | d + 1,i,fo,st,hd=>by
  have hi:i < xs.length:=by omega
  rw [c2_succ,show n + (c2 d ys.length + (ys.length + 1) + 1)=((n + c2 d ys.length) + (ys.length + 1)) + 1 by omega,z0_.l2,if_pos (by omega)]
  have h3:z0_.l3 ((n + c2 d ys.length) + (ys.length + 1)) a b fo st (i:Int) 0 p0 p1 xs q0 q1 ys r0 r1 rs=z0_.l2 (n + c2 d ys.length) a b (fo || fndY a b xs[i] ys) (st || strY a b xs[i] ys) ((i + 1:Nat):Int) p0 p1 xs q0 q1 ys r0 r1 rs :=
   l3_ev (n + c2 d ys.length) p0 p1 xs q0 q1 ys r0 r1 rs a b i hi hx hy ys.length 0 fo st (by omega)
  rw [h3,l2_ev rs a b hrs hx hy d (i + 1) _ _ (by omega),List.drop_eq_getElem_cons hi,List.any_cons,List.any_cons,Bool.or_assoc,Bool.or_assoc]
theorem row_len:∀ d b,(row b d).length=d
 | 0,_=>rfl
 | d + 1,b=>congrArg (· + 1) (row_len d (b + 1))
theorem arcs_len (a:Int) (l:List Int):(l.filterMap (arc1 xs ys a)).length≤l.length:=List.length_filterMap_le _ _
theorem l1_ev (a:Int) (hx:xs.length≤281474976710656) (hy:ys.length≤281474976710656):∀(d b:Nat) (rs:List A),b + d=6→rs.length + d≤100 →
  z0_.l1 (n + d * (c2 xs.length ys.length + 1) + 1) a (b:Int) p0 p1 xs q0 q1 ys r0 r1 rs=z0_.l0 n (wrap64 (a + 1)) p0 p1 xs q0 q1 ys r0 r1 (rs ++ (row b d).filterMap (arc1 xs ys a))
 | 0,b,rs,hd,hr=>by
  rw [Nat.zero_mul,Nat.add_zero,z0_.l1,if_neg (by omega)]
  simp [row]
 | d + 1,b,rs,hd,hr=>by
  rw [Nat.succ_mul,show n + (d * (c2 xs.length ys.length + 1) + (c2 xs.length ys.length + 1)) + 1=((n + d * (c2 xs.length ys.length + 1) + 1) + c2 xs.length ys.length) + 1 by omega,z0_.l1,if_pos (by omega)]
  have h2:z0_.l2 ((n + d * (c2 xs.length ys.length + 1) + 1) + c2 xs.length ys.length) a (b:Int) false false 0 p0 p1 xs q0 q1 ys r0 r1 rs =
    if(false || xs.any fun x=>fndY a b x ys)=true then z0_.l1 (n + d * (c2 xs.length ys.length + 1) + 1) a (wrap64 ((b:Int) + 1)) p0 p1 xs q0 q1 ys r0 r1 (rs ++ [⟨a,b,false || xs.any fun x=>strY a b x ys⟩])
    else z0_.l1 (n + d * (c2 xs.length ys.length + 1) + 1) a (wrap64 ((b:Int) + 1)) p0 p1 xs q0 q1 ys r0 r1 rs :=
   l2_ev (n + d * (c2 xs.length ys.length + 1) + 1) p0 p1 xs q0 q1 ys r0 r1 rs a b (by omega) hx hy xs.length 0 false false (by omega)
  rw [h2,step_i (by omega),Bool.false_or,Bool.false_or]
  show(if fnd a b xs ys=true then z0_.l1 (n + d * (c2 xs.length ys.length + 1) + 1) a ((b + 1:Nat):Int) p0 p1 xs q0 q1 ys r0 r1 (rs ++ [⟨a,b,str a b xs ys⟩])else _)=_
  have hc:(row b (d + 1)).filterMap (arc1 xs ys a)=(if fnd a b xs ys=true then [(⟨a,b,str a b xs ys⟩:A)]else []) ++ (row (b + 1) d).filterMap (arc1 xs ys a):=by
   rw [row,List.filterMap_cons]
   by_cases h:fnd a b xs ys=true
   ·rw [if_pos h,arc1,if_pos h]
    rfl
   ·rw [if_neg h,arc1,if_neg h]
    rfl
  rw [hc]
  by_cases h:fnd a b xs ys=true
  ·rw [if_pos h,if_pos h,l1_ev a hx hy d (b + 1) _ (by omega) (by rw [List.length_append];simp only [List.length_cons,List.length_nil];omega),List.append_assoc]
  ·rw [if_neg h,if_neg h,l1_ev a hx hy d (b + 1) _ (by omega) (by omega),List.nil_append]
/-- How many steps one start takes. -/
def c1 (xs ys:List A):Nat:=6 * (c2 xs.length ys.length + 1) + 2
theorem l0_ev (hx:xs.length≤281474976710656) (hy:ys.length≤281474976710656):∀(d a:Nat) (rs:List A),a + d=6→rs.length + 6 * d≤94 →
  z0_.l0 (n + d * c1 xs ys + 1) (a:Int) p0 p1 xs q0 q1 ys r0 r1 rs=some (r0,r1,rs ++ (row a d).flatMap (fun a=>(row 0 6).filterMap (arc1 xs ys a)),true)
 | 0,a,rs,hd,hr=>by
  rw [Nat.zero_mul,Nat.add_zero,z0_.l0,if_neg (by omega)]
  simp [row]
 | d + 1,a,rs,hd,hr=>by
  rw [Nat.succ_mul,show n + (d * c1 xs ys + c1 xs ys) + 1=((n + d * c1 xs ys + 1) + 6 * (c2 xs.length ys.length + 1) + 1) + 1 by unfold c1;omega,z0_.l0,if_pos (by omega)]
  have h1:z0_.l1 ((n + d * c1 xs ys + 1) + 6 * (c2 xs.length ys.length + 1) + 1) (a:Int) 0 p0 p1 xs q0 q1 ys r0 r1 rs=z0_.l0 (n + d * c1 xs ys + 1) (wrap64 ((a:Int) + 1)) p0 p1 xs q0 q1 ys r0 r1 (rs ++ (row 0 6).filterMap (arc1 xs ys a)) :=
   l1_ev (n + d * c1 xs ys + 1) p0 p1 xs q0 q1 ys r0 r1 a hx hy 6 0 rs (by omega) (by omega)
  have hl:=arcs_len xs ys (a:Int) (row 0 6)
  rw [row_len]at hl
  rw [h1,step_i (by omega),l0_ev hx hy d (a + 1) _ (by omega) (by rw [List.length_append];omega),List.append_assoc]
  rfl
end
end Go.Proofs.Ytcckpjflbfofjaa.QGraph
