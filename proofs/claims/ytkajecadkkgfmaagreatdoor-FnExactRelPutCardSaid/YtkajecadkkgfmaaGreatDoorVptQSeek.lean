-- Cut by prune.py, a program of this session, out of the texts of this claim: Lean checks it.
import Derived.Test.YtkajecadkkgfmaaGreatDoorVptQRel
import Derived.Test.YtkajecadkkgfmaaGreatDoorVptQLaw3
import Derived.Test.YtkajecadkkgfmaaGreatDoorVptPex0
import Derived.Test.YtkajecadkkgfmaaGreatDoorVptPex17
import Derived.Test.YtkajecadkkgfmaaGreatDoorVptPex19
import Derived.Test.YtkajecadkkgfmaaGreatDoorVptPex9
namespace Go.Proofs.YtkajecadkkgfmaaGreatDoor.QSeek
open Go.RowKit Go.Proofs.YtkajecadkkgfmaaGreatDoor.Pe Go.Proofs.YtkajecadkkgfmaaGreatDoorW.PrintWords Go.Proofs.YtkajecadkkgfmaaGreatDoorW.PrintLast Go.Proofs.YtkajecadkkgfmaaGreatDoor.QStr Go.Proofs.YtkajecadkkgfmaaGreatDoor.QLaws Go.Proofs.YtkajecadkkgfmaaGreatDoor.QLaw2 Go.Proofs.YtkajecadkkgfmaaGreatDoor.QLaw3 Go.Proofs.YtkajecadkkgfmaaGreatDoor.QRel
abbrev TI := S36
theorem copy_f (l : List ByteArray) (h : l.length ≤ 1048576) : impl_copyTuple.f l = some l := by
 unfold impl_copyTuple.f
 rw [Option.bind_some,if_pos (by simp only [List.length_nil]; omega),List.nil_append]
theorem tuple_f (l : List ByteArray) (h : l.length ≤ 1048576) : spec_l02Tuple.f l = some l := by
 unfold spec_l02Tuple.f
 rw [Option.bind_some,if_pos (by simp only [List.length_nil]; omega),List.nil_append]
theorem mk_f0 (r : TI) : (⟨r.f0⟩ : TI) = r := rfl
theorem rel_rows {ar : Int} {rows : List TI} (h : relB ar rows = true) : 0 ≤ ar ∧ ar ≤ 6 ∧ rows.length ≤ 400 ∧ ∀ r ∈ rows,(r.f0.length : Int) = ar := by
 obtain ⟨⟨h0,h1⟩,rs,rfl,h3,h4,_⟩ := (relB_iff ar rows).1 h
 refine ⟨h0,h1,by unfold encR; rw [List.length_map]; exact h3,fun r hr => ?_⟩
 unfold encR at hr
 obtain ⟨ts,ht,rfl⟩ := List.mem_map.1 hr
 have := (h4 ts ht).1
 rw [show (⟨enc ts⟩ : TI).f0 = enc ts from rfl,enc_len]
 exact this
end Go.Proofs.YtkajecadkkgfmaaGreatDoor.QSeek
