/- For every pack and every number: which packs may be, and their bytes, are those of the reference; a pack stays as it is. No condition. -/
import Derived.Test.YtjjgpleaidledaaPackRef
import Derived.Test.YtjjgpleaidledaaPackWorks
import Derived.Test.YtjjgpleaidledaaFcorncriblaw06PackWrites
namespace Go.Proofs.Ytjjgpleaidledaa.Pure
open Go.RowKit Go.Proofs.Ytjjgpleaidledaa.Base Go.Proofs.Ytjjgpleaidledaa.PackMath Go.Proofs.Ytjjgpleaidledaa.PackFns Go.Proofs.Ytjjgpleaidledaa.Al Go.Proofs.YtjjgpleaidledaaW.PrintWords
theorem sameInts_l0 (l : List Int) (hl : l.length ≤ 4611686018427387904) : ∀ (d i : Nat), i + d = l.length → Ev (fun k => corncribbook_SameInts.l0 k l l (i : Int)) true
  | 0, i, h => Ev.step (f := fun _ => some true) (fun k => by simp only [corncribbook_SameInts.l0]; rw [if_neg (by omega)]) (Ev.now _)
  | d + 1, i, h => by
    have ih := sameInts_l0 l hl d (i + 1) (by omega)
    have e : wrap64 ((i : Int) + 1) = ((i + 1 : Nat) : Int) := by rw [wrap_id (by omega) (by omega)]; omega
    refine Ev.step (fun k => ?_) ih
    simp only [corncribbook_SameInts.l0]
    rw [if_pos (by omega), if_pos (by omega), if_pos (by omega), if_pos trivial, e]
theorem sameInts_ev (l : List Int) (hl : l.length ≤ 4611686018427387904) : Ev (fun k => corncribbook_SameInts.f k l l) true := by
  unfold corncribbook_SameInts.f
  exact Ev.pos rfl (sameInts_l0 l hl l.length 0 (by omega))
theorem sameTexts_l0 (l : List ByteArray) (hl : l.length ≤ 4611686018427387904) : ∀ (d i : Nat), i + d = l.length → Ev (fun k => corncribbook_SameTexts.l0 k l l (i : Int)) true
  | 0, i, h => Ev.step (f := fun _ => some true) (fun k => by simp only [corncribbook_SameTexts.l0]; rw [if_neg (by omega)]) (Ev.now _)
  | d + 1, i, h => by
    have ih := sameTexts_l0 l hl d (i + 1) (by omega)
    have e : wrap64 ((i : Int) + 1) = ((i + 1 : Nat) : Int) := by rw [wrap_id (by omega) (by omega)]; omega
    refine Ev.step (fun k => ?_) ih
    simp only [corncribbook_SameTexts.l0]
    rw [if_pos (by omega), if_pos (by omega), if_pos (by omega), if_pos trivial, e]
theorem sameTexts_ev (l : List ByteArray) (hl : l.length ≤ 4611686018427387904) : Ev (fun k => corncribbook_SameTexts.f k l l) true := by
  unfold corncribbook_SameTexts.f
  exact Ev.pos rfl (sameTexts_l0 l hl l.length 0 (by omega))
theorem lend_eq (l : List ByteArray) (h : l.length * 16 ≤ 140737488351232) : corncribbook_LendTexts.f l = some l := by
  unfold corncribbook_LendTexts.f
  simp only [Option.bind_some]
  rw [if_pos (by simp; omega), if_pos (by simp; omega), if_pos (by omega), if_pos (by simp; omega)]
  simp
def numB (n : Int) : ByteArray × Int := if okNum n = true then (strOfNums (signed n), 0) else (⟨#[]⟩, 1)
theorem numB_ev (n : Int) : Ev (fun k => pack_Number.f k n) (numB n) := by
  unfold pack_Number.f numB
  rw [may_eq]
  by_cases h : okNum n = true
  · rw [if_pos h]
    obtain ⟨h0, h1⟩ := okNum_iff.1 h
    exact Ev.some_bind (Ev.pos h (Ev.bind (signed_ev n [] h0 h1 (by simp)) (Ev.now _)))
  · rw [if_neg h]
    exact Ev.some_bind (Ev.neg h (Ev.now _))
theorem rnumB_ev (n : Int) : Ev (fun k => corncribref06_Number.f k n) (numB n) := by
  unfold corncribref06_Number.f numB
  rw [num_eq]
  by_cases h : okNum n = true
  · rw [if_pos h]
    obtain ⟨h0, h1⟩ := okNum_iff.1 h
    exact Ev.some_bind (Ev.pos h (Ev.bind (rsigned_ev n h0 h1) (Ev.now _)))
  · rw [if_neg h]
    exact Ev.some_bind (Ev.neg h (Ev.now _))
theorem PackWritesCore (nums : List Int) (texts : List ByteArray) (n : Int) (h1 : nums.length * 8 ≤ 140737488351232) (h2 : texts.length * 16 ≤ 140737488351232) : ∃ k, corncriblaw06_PackWrites.f k nums texts n = some true := by
  refine Ev.rounds (g := fun k => corncriblaw06_PackWrites.f k nums texts n) ?_
  have hsame : Ev (fun k => corncriblaw06_same.f k nums texts nums texts) true := by
    unfold corncriblaw06_same.f
    exact Ev.bind (sameInts_ev nums (by omega)) (Ev.pos rfl (Ev.bind (sameTexts_ev texts (by omega)) (Ev.now _)))
  unfold corncriblaw06_PackWrites.f
  rw [lend_eq texts h2]
  refine Ev.some_bind (Ev.pos (by simp; omega) (Ev.some_bind ?_))
  rw [List.nil_append]
  exact Ev.some_bind (Ev.bind (encode_ev nums texts) (Ev.bind (rencode_ev nums texts) (Ev.bind (numB_ev n) (Ev.bind (rnumB_ev n) (Ev.pos rfl (Ev.pos rfl (Ev.bind (check_ev nums texts) (Ev.bind (rcheck_ev nums texts) (Ev.pos rfl (Ev.pos rfl (Ev.pos rfl (Ev.bind hsame (Ev.pos rfl (Ev.bind (sameTexts_ev texts (by omega)) (Ev.pos rfl (Ev.bind packWorks_ev (Ev.now _)))))))))))))))))
theorem PackWrites (p1 : List Int) (p2 : List ByteArray) (n : Int) (_ : (∀ a ∈ p1, (Lit.int .i64 a).wf = true) ∧ ∀ a ∈ p2, a.size ≤ maxLen) (_ : (Lit.int .i64 n).wf = true)
    (h : (p1.length * 8 ≤ 140737488351232 ∧ ∀ a ∈ p1, True) ∧ p2.length * 16 ≤ 140737488351232 ∧ ∀ a ∈ p2, a.size ≤ 140737488351232) (_ : True) : ∃ k, corncriblaw06_PackWrites.f k p1 p2 n = some true := PackWritesCore p1 p2 n h.1.1 h.2.1
end Go.Proofs.Ytjjgpleaidledaa.Pure
