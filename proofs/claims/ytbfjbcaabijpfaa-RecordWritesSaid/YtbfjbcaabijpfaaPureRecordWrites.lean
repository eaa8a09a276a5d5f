/- For every record: which records may be, and their bytes, are as the reference has them; the record stays as it is. No condition. -/
import Derived.Test.YtbfjbcaabijpfaaPvh
import Derived.Test.YtbfjbcaabijpfaaFcorncriblaw08RecordWrites
namespace Go.Proofs.Ytbfjbcaabijpfaa.Pure
open Go.RowKit Go.Proofs.Ytbfjbcaabijpfaa.Base Go.Proofs.Ytbfjbcaabijpfaa.LetSpec Go.Proofs.Ytbfjbcaabijpfaa.RecSpec Go.Proofs.Ytbfjbcaabijpfaa.Al Go.Proofs.YtbfjbcaabijpfaaW.PrintWords
theorem RecordWritesCore (x0 x1 x2 x3 : Int) (x4 x5 : ByteArray) (x6 : Bool) (x7 : List ByteArray) (x8 : List S50) (h7 : x7.length * 16 ≤ 140737488351232) (h8 : x8.length * 40 ≤ 140737488351232) : ∃ k, corncriblaw08_RecordWrites.f k x0 x1 x2 x3 x4 x5 x6 x7 x8 = some true := by
  refine Ev.rounds (g := fun k => corncriblaw08_RecordWrites.f k x0 x1 x2 x3 x4 x5 x6 x7 x8) ?_
  unfold corncriblaw08_RecordWrites.f
  rw [copy_eq _ _ _ _ _ _ _ _ _ (by omega) (by omega)]
  have a7 : x7.length ≤ 8796093022000 := by omega
  have a8 : x8.length ≤ 8796093022000 := by omega
  refine Ev.some_bind (Ev.bind (encodeR_ev x0 x1 x2 x3 x4 x5 x6 x7 x8 a7 a8) (Ev.bind (rencodeR_ev x0 x1 x2 x3 x4 x5 x6 x7 x8 a7 a8) (Ev.pos rfl (Ev.pos rfl ?_))))
  simp only [rcheck_eq x0 x1 x2 x3 x4 x5 x6 x7 x8 a7 a8]
  exact Ev.some_bind (Ev.bind (refcheck_ev x0 x1 x2 x3 x4 x5 x6 x7 x8 a7 a8) (Ev.pos rfl (Ev.bind (sameR_ev x0 x1 x2 x3 x4 x5 x6 x7 x8 (by omega) (by omega)) (Ev.pos rfl (Ev.bind worksR_ev (Ev.now _))))))
theorem RecordWrites {V L0 L1 L2 L3 L4 L5 L6 Q7 Q8 : Prop} (x0 x1 x2 x3 : Int) (x4 x5 : ByteArray) (x6 : Bool) (x7 : List ByteArray) (x8 : List S50) (_ : V) (h : L0 ∧ L1 ∧ L2 ∧ L3 ∧ L4 ∧ L5 ∧ L6 ∧ (x7.length * 16 ≤ 140737488351232 ∧ Q7) ∧ (x8.length * 40 ≤ 140737488351232 ∧ Q8)) : ∃ k, corncriblaw08_RecordWrites.f k x0 x1 x2 x3 x4 x5 x6 x7 x8 = some true := RecordWritesCore x0 x1 x2 x3 x4 x5 x6 x7 x8 h.2.2.2.2.2.2.2.1.1 h.2.2.2.2.2.2.2.2.1
end Go.Proofs.Ytbfjbcaabijpfaa.Pure
