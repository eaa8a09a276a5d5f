/- A letter is the same as itself. -/
import Derived.Test.YtelgpkbnahgdoaaLetSameT
import Derived.Test.YtelgpkbnahgdoaaFcorncribbookSameLetter
namespace Go.Proofs.Ytelgpkbnahgdoaa.LetSpec
open Go.RowKit Go.Proofs.Ytelgpkbnahgdoaa.Base Go.Proofs.Ytelgpkbnahgdoaa.Al Go.Proofs.YtelgpkbnahgdoaaW.PrintWords
theorem sameW_l0 (l : List S49) (hl : l.length ≤ 4611686018427387904) : ∀ (d i : Nat), i + d = l.length → Ev (fun k => corncribbook_SameWrites.l0 k l l (i : Int)) true
  | 0, i, h => Ev.step (f := fun _ => some true) (fun k => by simp only [corncribbook_SameWrites.l0]; rw [if_neg (by omega)]) (Ev.now _)
  | d + 1, i, h => by
    have ih := sameW_l0 l hl d (i + 1) (by omega)
    have e : wrap64 ((i : Int) + 1) = ((i + 1 : Nat) : Int) := by rw [wrap_id (by omega) (by omega)]; omega
    refine Ev.step (fun k => ?_) ih
    simp only [corncribbook_SameWrites.l0]
    rw [if_pos (by omega), if_pos (by omega), if_pos (by omega), if_neg (by simp), e]
theorem sameW_ev (l : List S49) (hl : l.length ≤ 4611686018427387904) : Ev (fun k => corncribbook_SameWrites.f k l l) true := by
  unfold corncribbook_SameWrites.f
  exact Ev.pos rfl (sameW_l0 l hl l.length 0 (by omega))
theorem sameL_ev (x0 x1 x2 x3 x4 x5 : Int) (x6 : ByteArray) (x7 : List ByteArray) (x8 : List S49) (h7 : x7.length ≤ 4611686018427387904) (h8 : x8.length ≤ 4611686018427387904) : Ev (fun k => corncribbook_SameLetter.f k x0 x1 x2 x3 x4 x5 x6 x7 x8 x0 x1 x2 x3 x4 x5 x6 x7 x8) true := by
  unfold corncribbook_SameLetter.f
  exact Ev.pos rfl (Ev.pos rfl (Ev.pos rfl (Ev.pos rfl (Ev.pos rfl (Ev.pos rfl (Ev.pos rfl (Ev.bind (sameT_ev x7 h7) (Ev.pos rfl (Ev.bind (sameW_ev x8 h8) (Ev.now _))))))))))
end Go.Proofs.Ytelgpkbnahgdoaa.LetSpec
