/- For every two numbers: numbers of a pack have unlike bytes, and greater ones, by their size, are no shorter. No condition. -/
import Derived.Test.YtjjgpleaidledaaPackWorks
import Derived.Test.YtjjgpleaidledaaFcorncriblaw06PackNumbers
namespace Go.Proofs.Ytjjgpleaidledaa.Pure
open Go.RowKit Go.Proofs.Ytjjgpleaidledaa.Base Go.Proofs.Ytjjgpleaidledaa.PackMath Go.Proofs.Ytjjgpleaidledaa.PackFns Go.Proofs.Ytjjgpleaidledaa.Al Go.Proofs.YtjjgpleaidledaaW.PrintWords
theorem number_ev (n : Int) (h0 : -4611686018427387904 ≤ n) (h1 : n ≤ 4611686018427387903) : Ev (fun k => pack_Number.f k n) (strOfNums (signed n), 0) := by
  unfold pack_Number.f
  rw [may_eq, okNum_iff.2 ⟨h0, h1⟩]
  exact Ev.some_bind (Ev.pos rfl (Ev.bind (signed_ev n [] h0 h1 (by simp)) (Ev.now _)))
theorem ofNat_inj {a b : Int} (ha : 0 ≤ a ∧ a ≤ 255) (hb : 0 ≤ b ∧ b ≤ 255) (h : UInt8.ofNat a.toNat = UInt8.ofNat b.toNat) : a = b := by
  have := congrArg UInt8.toNat h
  rw [UInt8.toNat_ofNat_of_lt' (by show _ < 256; omega), UInt8.toNat_ofNat_of_lt' (by show _ < 256; omega)] at this
  omega
theorem strOfNums_inj : ∀ {l m : List Int}, (∀ b ∈ l, 0 ≤ b ∧ b ≤ 255) → (∀ b ∈ m, 0 ≤ b ∧ b ≤ 255) → strOfNums l = strOfNums m → l = m := by
  intro l m hl hm h
  have h1 := congrArg B h
  rw [B_nums, B_nums] at h1
  induction l generalizing m with
  | nil => cases m with
    | nil => rfl
    | cons b m => simp at h1
  | cons a l ih => cases m with
    | nil => simp at h1
    | cons b m =>
      simp only [List.map_cons, List.cons.injEq] at h1
      rw [ofNat_inj (hl a (by simp)) (hm b (by simp)) h1.1, ih (fun x hx => hl x (by simp [hx])) (fun x hx => hm x (by simp [hx])) (B_inj (by rw [B_nums, B_nums]; exact h1.2)) h1.2]
theorem PackNumbers : corncriblaw06_PackNumbers.Pure := by
  intro a b ha hb
  have wa : -9223372036854775808 ≤ a ∧ a ≤ 9223372036854775807 := by simpa [Lit.wf, IntKind.min, IntKind.max, IntKind.signed, IntKind.bits] using ha
  have wb : -9223372036854775808 ≤ b ∧ b ≤ 9223372036854775807 := by simpa [Lit.wf, IntKind.min, IntKind.max, IntKind.signed, IntKind.bits] using hb
  refine Ev.rounds (g := fun k => corncriblaw06_PackNumbers.f k a b) ?_
  have h1 : -4611686018427387904 ≤ a / 2 ∧ a / 2 ≤ 4611686018427387903 := by omega
  have h2 : -4611686018427387904 ≤ b / 2 ∧ b / 2 ≤ 4611686018427387903 := by omega
  have s1 := strOfNums_size (signed (a / 2))
  have s2 := strOfNums_size (signed (b / 2))
  have l1 : (signed (a / 2)).length ≤ 9 := plain_len9 (zig_lt h1.1 h1.2)
  have p1 : 1 ≤ (signed (a / 2)).length := plain_pos _
  unfold corncriblaw06_PackNumbers.f
  generalize a / 2 = x at *
  generalize b / 2 = y at *
  refine Ev.bind packWorks_ev (Ev.pos rfl (Ev.bind (number_ev x h1.1 h1.2) (Ev.bind (number_ev y h2.1 h2.2) (Ev.pos rfl (Ev.pos rfl (Ev.neg (by show ¬ ((strOfNums (signed x)).size : Int) < 1; omega) (Ev.neg (by show ¬ ((strOfNums (signed x)).size : Int) > 9; omega) ?_)))))))
  have e : (((strOfNums (signed x)).toList == (strOfNums (signed y)).toList) != (x == y)) = false := by
    by_cases hxy : x = y
    · subst hxy; simp
    · have hne : (strOfNums (signed x)).toList ≠ (strOfNums (signed y)).toList := by
        intro h
        rw [toList_eq, toList_eq] at h
        exact hxy (signed_inj (strOfNums_inj (plain_range _) (plain_range _) (B_inj h)))
      rw [beq_eq_false_iff_ne.2 hne, beq_eq_false_iff_ne.2 hxy]
      rfl
  show Ev (fun k => corncriblaw06_PackNumbers.j0 k x y (strOfNums (signed x)) (strOfNums (signed y)) (((strOfNums (signed x)).toList == (strOfNums (signed y)).toList) != (x == y))) true
  rw [e]
  refine Ev.step (fun k => by simp only [corncriblaw06_PackNumbers.j0]; rw [if_neg (by simp)]) ?_
  by_cases hx : x ≥ 0
  · refine Ev.pos hx ?_
    by_cases hy : y ≥ x
    · refine Ev.pos hy ?_
      have hm : (signed x).length ≤ (signed y).length := plain_mono _ _ (by unfold zig; rw [if_neg (by omega), if_neg (by omega)]; omega)
      rw [decide_eq_true (by omega)]
      exact Ev.now _
    · exact Ev.neg hy (Ev.now _)
  · exact Ev.neg hx (Ev.now _)
end Go.Proofs.Ytjjgpleaidledaa.Pure
