/- For every letter: which letters may be, and their bytes, are as the reference has them; the letter stays as it is. No condition. -/
import Derived.Test.YtelgpkbnahgdoaaPke
import Derived.Test.YtelgpkbnahgdoaaFcorncriblaw07LetterWrites
namespace Go.Proofs.Ytelgpkbnahgdoaa.Pure
open Go.RowKit Go.Proofs.Ytelgpkbnahgdoaa.Base Go.Proofs.Ytelgpkbnahgdoaa.LetSpec Go.Proofs.Ytelgpkbnahgdoaa.Al Go.Proofs.YtelgpkbnahgdoaaW.PrintWords
theorem LetterWritesCore (x0 x1 x2 x3 x4 x5 : Int) (x6 : ByteArray) (x7 : List ByteArray) (x8 : List S49) (h7 : x7.length * 16 ≤ 140737488351232) (h8 : x8.length * 40 ≤ 140737488351232) : ∃ k, corncriblaw07_LetterWrites.f k x0 x1 x2 x3 x4 x5 x6 x7 x8 = some true := by
  refine Ev.rounds (g := fun k => corncriblaw07_LetterWrites.f k x0 x1 x2 x3 x4 x5 x6 x7 x8) ?_
  unfold corncriblaw07_LetterWrites.f
  rw [copy_eq _ _ _ _ _ _ _ _ _ (by omega) (by omega)]
  have a7 : x7.length ≤ 8796093022000 := by omega
  have a8 : x8.length ≤ 8796093022000 := by omega
  refine Ev.some_bind (Ev.bind (encodeL_ev x0 x1 x2 x3 x4 x5 x6 x7 x8 a7 a8) (Ev.bind (rencodeL_ev x0 x1 x2 x3 x4 x5 x6 x7 x8 a7 a8) (Ev.some_bind (a := true) (Ev.pos rfl (Ev.pos rfl (Ev.pos rfl ?_))))))
  simp only [check_eq x0 x1 x2 x3 x4 x5 x6 x7 x8 a7 a8]
  exact Ev.some_bind (Ev.bind (rcheckL_ev x0 x1 x2 x3 x4 x5 x6 x7 x8 a7 a8) (Ev.pos rfl (Ev.bind (sameL_ev x0 x1 x2 x3 x4 x5 x6 x7 x8 (by omega) (by omega)) (Ev.pos rfl (Ev.bind worksL_ev (Ev.now _))))))
theorem LetterWrites {V L0 L1 L2 L3 L4 L5 L6 Q7 Q8 : Prop} (x0 x1 x2 x3 x4 x5 : Int) (x6 : ByteArray) (x7 : List ByteArray) (x8 : List S49) (_ : V) (h : L0 ∧ L1 ∧ L2 ∧ L3 ∧ L4 ∧ L5 ∧ L6 ∧ (x7.length * 16 ≤ 140737488351232 ∧ Q7) ∧ (x8.length * 40 ≤ 140737488351232 ∧ Q8)) : ∃ k, corncriblaw07_LetterWrites.f k x0 x1 x2 x3 x4 x5 x6 x7 x8 = some true := LetterWritesCore x0 x1 x2 x3 x4 x5 x6 x7 x8 h.2.2.2.2.2.2.2.1.1 h.2.2.2.2.2.2.2.2.1
end Go.Proofs.Ytelgpkbnahgdoaa.Pure
