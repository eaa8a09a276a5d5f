/- The reference's keys and rising lists. -/
import Derived.Test.YtelgpkbnahgdoaaLetSpec
import Derived.Test.YtelgpkbnahgdoaaFcorncribref07Rising
namespace Go.Proofs.Ytelgpkbnahgdoaa.LetSpec
open Go.RowKit Go.Proofs.Ytelgpkbnahgdoaa.Base Go.Proofs.Ytelgpkbnahgdoaa.Al Go.Proofs.YtelgpkbnahgdoaaW.PrintWords
theorem rkey_eq (s : ByteArray) : corncribref07_Key.f s = some (keyB s) := by
  unfold corncribref07_Key.f keyB
  split
  · congr 1; apply decide_eq_decide.2; omega
  · rw [decide_eq_false (by omega)]
theorem rrising_l0 (l : List ByteArray) (hl : l.length ≤ 4611686018427387904) : ∀ (d i : Nat), i + d = l.length → Ev (fun k => corncribref07_Rising.l0 k l i) (risFrom (prevOf l i) (l.drop i))
  | 0, i, h => by
    refine Ev.succ ?_
    simp only [corncribref07_Rising.l0]
    rw [List.drop_of_length_le (by omega)]
    refine Ev.neg (by omega) ?_
    have : risFrom (prevOf l i) [] = true := by cases prevOf l i <;> rfl
    rw [this]
    exact Ev.now _
  | d + 1, i, h => by
    have hi : i < l.length := by omega
    have ih := rrising_l0 l hl d (i + 1) (by omega)
    have e : wrap64 ((i : Int) + 1) = ((i + 1 : Nat) : Int) := by rw [wrap_id (by omega) (by omega)]; omega
    have hp : prevOf l (i + 1) = some l[i] := by simp [prevOf, hi]
    rw [hp] at ih
    refine Ev.succ ?_
    simp only [corncribref07_Rising.l0]
    rw [e, rdOf_get hi, rkey_eq, List.drop_eq_getElem_cons hi]
    refine Ev.pos (by omega) (Ev.pos (by omega) (Ev.some_bind ?_))
    by_cases hk : keyB l[i] = true
    · refine Ev.pos hk ?_
      by_cases h0 : i = 0
      · subst h0
        refine Ev.neg (by omega) ?_
        have e2 : risFrom (prevOf l 0) (l[0] :: l.drop (0 + 1)) = risFrom (some l[0]) (l.drop (0 + 1)) := by
          show (keyB l[0] && risFrom (some l[0]) (l.drop 1)) = _
          rw [hk, Bool.true_and]
        rw [e2]
        exact ih
      · have h1 : i - 1 < l.length := by omega
        have e1 : wrap64 ((i : Int) - 1) = ((i - 1 : Nat) : Int) := by rw [wrap_id (by omega) (by omega)]; omega
        have hpr : prevOf l i = some l[i - 1] := by simp [prevOf, h0, h1]
        rw [e1, hpr, rdOf_get h1]
        have e2 : risFrom (some l[i - 1]) (l[i] :: l.drop (i + 1)) = (Op.bytesLess l[i - 1].toList l[i].toList && risFrom (some l[i]) (l.drop (i + 1))) := by
          show (keyB l[i] && _) = _
          rw [hk, Bool.true_and]
        rw [e2]
        refine Ev.pos (by omega) (Ev.pos (by omega) (Ev.pos (by omega) ?_))
        by_cases hb : Op.bytesLess l[i - 1].toList l[i].toList = true
        · rw [hb, Bool.true_and]
          exact Ev.pos rfl ih
        · have hb' : Op.bytesLess l[i - 1].toList l[i].toList = false := by simpa using hb
          rw [hb', Bool.false_and]
          exact Ev.neg (by simp) (Ev.now _)
    · have hk' : keyB l[i] = false := by simpa using hk
      rw [hk']
      have e2 : risFrom (prevOf l i) (l[i] :: l.drop (i + 1)) = false := by
        cases prevOf l i with
        | none => show (keyB l[i] && _) = _; rw [hk']; rfl
        | some p => show (keyB l[i] && _) = _; rw [hk']; rfl
      rw [e2]
      exact Ev.neg (by simp) (Ev.now _)
theorem rrising_ev (l : List ByteArray) (hl : l.length ≤ 4611686018427387904) : Ev (fun k => corncribref07_Rising.f k l) (risB l) := rrising_l0 l hl l.length 0 (by omega)
end Go.Proofs.Ytelgpkbnahgdoaa.LetSpec
