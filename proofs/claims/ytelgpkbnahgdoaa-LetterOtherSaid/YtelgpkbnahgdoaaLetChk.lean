/- The check of letters in the reference's words: plain law. -/
import Derived.Test.YtelgpkbnahgdoaaLetSpec
namespace Go.Proofs.Ytelgpkbnahgdoaa.LetSpec
open Go.RowKit Go.Proofs.Ytelgpkbnahgdoaa.Base Go.Proofs.Ytelgpkbnahgdoaa.Al Go.Proofs.YtelgpkbnahgdoaaW.PrintWords
theorem Ev.to {α : Type} {g : Nat → Option α} {r r' : α} (h : Ev g r) (e : r = r') : Ev g r' := e ▸ h
/-- What the reference's switch gives. -/
def refV (code kind : Int) (one bare : Bool) (x6 : ByteArray) (x7 : List ByteArray) (x8 : List S49) : Int :=
  if kind = 1 then (if one = true ∧ x6.toList = [] ∧ code = 0 then 0 else 70)
  else if kind = 2 then (if one = true ∧ x6.size ≤ 2052 ∧ (x6.toList = [] ∨ code = 1) then 0 else 70)
  else if kind = 3 then (if x7.length ≤ 16 ∧ risB x7 = true ∧ wriB x8 = true ∧ x6.toList = [] ∧ code = 0 then 0 else 70)
  else if kind = 4 then (if bare = true ∧ code ≤ 1 then 0 else 70)
  else if kind = 5 ∨ kind = 6 ∨ kind = 7 then (if bare = true ∧ code = 0 then 0 else 70)
  else if kind = 8 then (if bare = true ∧ code ≤ 2 then 0 else 70)
  else 70
def oneB (x7 : List ByteArray) (x8 : List S49) : Bool := decide (x7.length = 1) && (keyB (rdOf ByteArray.empty x7 0) && decide (x8.length = 0))
def bareB (x6 : ByteArray) (x7 : List ByteArray) (x8 : List S49) : Bool := decide (x7.length = 0) && (decide (x8.length = 0) && x6.toList.isEmpty)
section
variable (x0 x1 x2 x3 x4 x5 : Int) (x6 : ByteArray) (x7 : List ByteArray) (x8 : List S49)
/-- The two checks are one. -/
theorem ref_chk : chkL x0 x1 x2 x3 x4 x5 x6 x7 x8 = if addrB x1 = true ∧ addrB x2 = true ∧ 1 ≤ x3 ∧ x3 ≤ 1125899906842623 ∧ 0 ≤ x4 ∧ x4 ≤ 1125899906842624 ∧ 0 ≤ x5 ∧ x5 ≤ 4 then refV x5 x0 (oneB x7 x8) (bareB x6 x7 x8) x6 x7 x8 else 70 := by
  unfold chkL
  by_cases h : addrB x1 = true ∧ addrB x2 = true ∧ 1 ≤ x3 ∧ x3 ≤ 1125899906842623 ∧ 0 ≤ x4 ∧ x4 ≤ 1125899906842624 ∧ 0 ≤ x5
  · rw [if_pos h]
    obtain ⟨g0, g1, g2, g3, g4, g5, g6⟩ := h
    have e7 : ((x7.length : Int) == 0) = decide (x7.length = 0) := by by_cases h : x7.length = 0 <;> simp [h]
    have e8 : ((x8.length : Int) == 0) = decide (x8.length = 0) := by by_cases h : x8.length = 0 <;> simp [h]
    by_cases h4 : x5 ≤ 4
    · rw [if_pos ⟨g0, g1, g2, g3, g4, g5, g6, h4⟩]
      unfold sw refV oneB bareB
      rw [e7, e8]
      by_cases n1 : x0 = 1
      · subst n1
        simp only [if_neg (show ¬ (1 : Int) = 2 by omega), if_true, fin4]
        apply ite_congr _ (fun _ => rfl) (fun _ => rfl)
        simp only [Bool.and_eq_true, decide_eq_true_eq, List.isEmpty_iff, eq_iff_iff]
        constructor
        · rintro ⟨a, ⟨b, c⟩, d, e⟩; exact ⟨⟨b, c, d⟩, e, by omega⟩
        · rintro ⟨⟨b, c, d⟩, e, f⟩; exact ⟨by omega, ⟨b, c⟩, d, e⟩
      by_cases n2 : x0 = 2
      · subst n2
        simp only [if_neg (show ¬ (2 : Int) = 1 by omega), if_true, fin4]
        apply ite_congr _ (fun _ => rfl) (fun _ => rfl)
        simp only [Bool.and_eq_true, Bool.or_eq_true, decide_eq_true_eq, List.isEmpty_iff, eq_iff_iff, beq_iff_eq]
        constructor
        · rintro ⟨a, ⟨b, c⟩, d, e, f⟩; exact ⟨⟨b, c, d⟩, e, f⟩
        · rintro ⟨⟨b, c, d⟩, e, f⟩; exact ⟨h4, ⟨b, c⟩, d, e, f⟩
      by_cases n3 : x0 = 3
      · subst n3
        simp only [if_neg (show ¬ (3 : Int) = 1 by omega), if_neg (show ¬ (3 : Int) = 2 by omega), if_true, fin4]
        apply ite_congr _ (fun _ => rfl) (fun _ => rfl)
        simp only [Bool.and_eq_true, decide_eq_true_eq, List.isEmpty_iff, eq_iff_iff]
        constructor
        · rintro ⟨a, ⟨b, c⟩, d, e⟩; exact ⟨b, c, d, e, by omega⟩
        · rintro ⟨b, c, d, e, f⟩; exact ⟨by omega, ⟨b, c⟩, d, e⟩
      by_cases n4 : x0 = 4
      · subst n4
        simp only [if_neg (show ¬ (4 : Int) = 1 by omega), if_neg (show ¬ (4 : Int) = 2 by omega), if_neg (show ¬ (4 : Int) = 3 by omega), if_neg (show ¬ (4 : Int) = 8 by omega), if_true, fin4]
        apply ite_congr _ (fun _ => rfl) (fun _ => rfl)
        simp only [Bool.and_eq_true, decide_eq_true_eq, List.isEmpty_iff, eq_iff_iff]
        constructor
        · rintro ⟨a, b, c, d⟩; exact ⟨⟨b, c, d⟩, a⟩
        · rintro ⟨⟨b, c, d⟩, a⟩; exact ⟨a, b, c, d⟩
      by_cases n8 : x0 = 8
      · subst n8
        simp only [if_neg (show ¬ (8 : Int) = 1 by omega), if_neg (show ¬ (8 : Int) = 2 by omega), if_neg (show ¬ (8 : Int) = 3 by omega), if_neg (show ¬ (8 : Int) = 4 by omega), if_neg (show ¬ ((8 : Int) = 5 ∨ (8 : Int) = 6 ∨ (8 : Int) = 7) by omega), if_true, fin4]
        apply ite_congr _ (fun _ => rfl) (fun _ => rfl)
        simp only [Bool.and_eq_true, decide_eq_true_eq, List.isEmpty_iff, eq_iff_iff]
        constructor
        · rintro ⟨a, b, c, d⟩; exact ⟨⟨b, c, d⟩, a⟩
        · rintro ⟨⟨b, c, d⟩, a⟩; exact ⟨a, b, c, d⟩
      by_cases n5 : x0 = 5 ∨ x0 = 6 ∨ x0 = 7
      · rw [if_neg n2, if_neg n1, if_neg n3, if_neg n8, if_neg n4, if_pos n5, if_neg n1, if_neg n2, if_neg n3, if_neg n4, if_pos n5]
        simp only [fin4]
        apply ite_congr _ (fun _ => rfl) (fun _ => rfl)
        simp only [Bool.and_eq_true, decide_eq_true_eq, List.isEmpty_iff, eq_iff_iff]
        constructor
        · rintro ⟨a, b, c, d⟩; exact ⟨⟨b, c, d⟩, by omega⟩
        · rintro ⟨⟨b, c, d⟩, a⟩; exact ⟨by omega, b, c, d⟩
      · rw [if_neg n2, if_neg n1, if_neg n3, if_neg n8, if_neg n4, if_neg n5, if_neg n1, if_neg n2, if_neg n3, if_neg n4, if_neg n5, if_neg n8]
        rfl
    · rw [if_neg (fun hc => h4 hc.2.2.2.2.2.2.2)]
      unfold sw
      split
      · exact if_neg (fun hc => by omega)
      split
      · exact if_neg (fun hc => by omega)
      split
      · exact if_neg (fun hc => by omega)
      split
      · exact if_neg (fun hc => by omega)
      split
      · exact if_neg (fun hc => by omega)
      split
      · exact if_neg (fun hc => by omega)
      · rfl
  · rw [if_neg h, if_neg (fun hc => h ⟨hc.1, hc.2.1, hc.2.2.1, hc.2.2.2.1, hc.2.2.2.2.1, hc.2.2.2.2.2.1, hc.2.2.2.2.2.2.1⟩)]
end
end Go.Proofs.Ytelgpkbnahgdoaa.LetSpec
