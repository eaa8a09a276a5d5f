/- What letter.Encode comes to: the check's number, or the pack's bytes. -/
import Derived.Test.YtelgpkbnahgdoaaLetChk
import Derived.Test.YtelgpkbnahgdoaaPackFns
import Derived.Test.YtelgpkbnahgdoaaFletterEncode
import Derived.Test.YtelgpkbnahgdoaaFcorncriblaw07works
namespace Go.Proofs.Ytelgpkbnahgdoaa.LetSpec
open Go.RowKit Go.Proofs.Ytelgpkbnahgdoaa.Base Go.Proofs.Ytelgpkbnahgdoaa.PackMath Go.Proofs.Ytelgpkbnahgdoaa.PackFns Go.Proofs.Ytelgpkbnahgdoaa.Al Go.Proofs.YtelgpkbnahgdoaaW.PrintWords
theorem key_size {s : ByteArray} (h : keyB s = true) : s.size ≤ 32 := by
  unfold keyB at h
  exact (of_decide_eq_true h).2
theorem risFrom_all : ∀ (l : List ByteArray) (p : Option ByteArray), risFrom p l = true → ∀ s ∈ l, keyB s = true
  | [], _, _, _, h => by cases h
  | x :: l, p, h, s, hs => by
    have h1 : keyB x = true ∧ risFrom (some x) l = true := by
      cases p with
      | none => simpa [risFrom] using h
      | some q =>
        have h2 : (keyB x && (Op.bytesLess q.toList x.toList && risFrom (some x) l)) = true := h
        simp only [Bool.and_eq_true] at h2
        exact ⟨h2.1, h2.2.2⟩
    rcases List.mem_cons.1 hs with rfl | hs
    · exact h1.1
    · exact risFrom_all l (some x) h1.2 s hs
theorem ris_all {l : List ByteArray} (h : risB l = true) : ∀ s ∈ l, s.size ≤ 32 := fun s hs => key_size (risFrom_all l none h s hs)
theorem wri_all {l : List S49} (h : wriB l = true) : l.length ≤ 16 ∧ ∀ x ∈ l, x.f0.size ≤ 32 ∧ x.f1.size ≤ 2052 := by
  unfold wriB at h
  simp only [Bool.and_eq_true, decide_eq_true_eq, List.all_eq_true] at h
  obtain ⟨h1, h2, h3⟩ := h
  refine ⟨h2, fun x hx => ⟨ris_all h3 _ (List.mem_map.2 ⟨x, hx, rfl⟩), ?_⟩⟩
  have := h1 x hx
  simp only [oneW, Bool.and_eq_true, decide_eq_true_eq] at this
  exact this.1
section
variable (x0 x1 x2 x3 x4 x5 : Int) (x6 : ByteArray) (x7 : List ByteArray) (x8 : List S49)
structure Bounds : Prop where
  b0 : 1 ≤ x0 ∧ x0 ≤ 8
  b1 : 0 ≤ x1 ∧ x1 ≤ 200
  b2 : 0 ≤ x2 ∧ x2 ≤ 200
  b3 : 0 ≤ x3 ∧ x3 ≤ 1125899906842623
  b4 : 0 ≤ x4 ∧ x4 ≤ 1125899906842624
  b5 : 0 ≤ x5 ∧ x5 ≤ 4
  b6 : x6.size ≤ 2052
  b7 : x7.length ≤ 16 ∧ ∀ s ∈ x7, s.size ≤ 32
  b8 : x8.length ≤ 16 ∧ ∀ x ∈ x8, x.f0.size ≤ 32 ∧ x.f1.size ≤ 2052
theorem empty_size {s : ByteArray} (h : s.toList = []) : s.size ≤ 2052 := by have := (empty_iff s).1 h; omega
theorem one_all {x7 : List ByteArray} {x8 : List S49} (h : oneB x7 x8 = true) : (x7.length ≤ 16 ∧ ∀ s ∈ x7, s.size ≤ 32) ∧ x8 = [] := by
  unfold oneB at h
  simp only [Bool.and_eq_true, decide_eq_true_eq] at h
  obtain ⟨h1, h2, h3⟩ := h
  obtain ⟨s, rfl⟩ := List.length_eq_one_iff.1 h1
  refine ⟨⟨by simp, fun t ht => ?_⟩, List.eq_nil_of_length_eq_zero h3⟩
  obtain rfl := List.mem_singleton.1 ht
  exact key_size h2
theorem bare_all {x6 : ByteArray} {x7 : List ByteArray} {x8 : List S49} (h : bareB x6 x7 x8 = true) : x7 = [] ∧ x8 = [] ∧ x6.toList = [] := by
  unfold bareB at h
  simp only [Bool.and_eq_true, decide_eq_true_eq, List.isEmpty_iff] at h
  exact ⟨List.eq_nil_of_length_eq_zero h.1, List.eq_nil_of_length_eq_zero h.2.1, h.2.2⟩
theorem if70 {c : Prop} [Decidable c] (h : (if c then (0 : Int) else 70) = 0) : c := by
  by_cases hc : c
  · exact hc
  · rw [if_neg hc] at h; cases h
theorem chk_zero (h : chkL x0 x1 x2 x3 x4 x5 x6 x7 x8 = 0) : Bounds x0 x1 x2 x3 x4 x5 x6 x7 x8 := by
  rw [ref_chk] at h
  by_cases hg : addrB x1 = true ∧ addrB x2 = true ∧ 1 ≤ x3 ∧ x3 ≤ 1125899906842623 ∧ 0 ≤ x4 ∧ x4 ≤ 1125899906842624 ∧ 0 ≤ x5 ∧ x5 ≤ 4
  case neg => rw [if_neg hg] at h; cases h
  rw [if_pos hg] at h
  obtain ⟨g0, g1, g2, g3, g4, g5, g6, g7⟩ := hg
  have a1 := of_decide_eq_true g0
  have a2 := of_decide_eq_true g1
  have nil7 : ∀ l : List ByteArray, l = [] → l.length ≤ 16 ∧ ∀ s ∈ l, s.size ≤ 32 := fun l h => by subst h; exact ⟨by simp, fun s hs => by cases hs⟩
  have nil8 : ∀ l : List S49, l = [] → l.length ≤ 16 ∧ ∀ x ∈ l, x.f0.size ≤ 32 ∧ x.f1.size ≤ 2052 := fun l h => by subst h; exact ⟨by simp, fun s hs => by cases hs⟩
  have mk : (1 ≤ x0 ∧ x0 ≤ 8) → x6.size ≤ 2052 → (x7.length ≤ 16 ∧ ∀ s ∈ x7, s.size ≤ 32) → (x8.length ≤ 16 ∧ ∀ x ∈ x8, x.f0.size ≤ 32 ∧ x.f1.size ≤ 2052) → Bounds x0 x1 x2 x3 x4 x5 x6 x7 x8 := fun h0 h6 h7 h8 => ⟨h0, by omega, by omega, by omega, by omega, by omega, h6, h7, h8⟩
  unfold refV at h
  by_cases n1 : x0 = 1
  · rw [if_pos n1] at h
    obtain ⟨h1, h2, _⟩ := if70 h
    exact mk (by omega) (empty_size h2) (one_all h1).1 (nil8 _ (one_all h1).2)
  rw [if_neg n1] at h
  by_cases n2 : x0 = 2
  · rw [if_pos n2] at h
    obtain ⟨h1, h2, _⟩ := if70 h
    exact mk (by omega) h2 (one_all h1).1 (nil8 _ (one_all h1).2)
  rw [if_neg n2] at h
  by_cases n3 : x0 = 3
  · rw [if_pos n3] at h
    obtain ⟨h1, h2, h3, h4, _⟩ := if70 h
    exact mk (by omega) (empty_size h4) ⟨h1, ris_all h2⟩ (wri_all h3)
  rw [if_neg n3] at h
  by_cases n4 : x0 = 4
  · rw [if_pos n4] at h
    obtain ⟨h1, _⟩ := if70 h
    obtain ⟨e7, e8, e6⟩ := bare_all h1
    exact mk (by omega) (empty_size e6) (nil7 _ e7) (nil8 _ e8)
  rw [if_neg n4] at h
  by_cases n5 : x0 = 5 ∨ x0 = 6 ∨ x0 = 7
  · rw [if_pos n5] at h
    obtain ⟨h1, _⟩ := if70 h
    obtain ⟨e7, e8, e6⟩ := bare_all h1
    exact mk (by omega) (empty_size e6) (nil7 _ e7) (nil8 _ e8)
  rw [if_neg n5] at h
  by_cases n8 : x0 = 8
  · rw [if_pos n8] at h
    obtain ⟨h1, _⟩ := if70 h
    obtain ⟨e7, e8, e6⟩ := bare_all h1
    exact mk (by omega) (empty_size e6) (nil7 _ e7) (nil8 _ e8)
  · rw [if_neg n8] at h; cases h
def letN : List Int := [x0, x1, x2, x3, x4, x5, (x7.length : Int)] ++ flagsOf x8
def letT : List ByteArray := [x6] ++ x7 ++ pairsOf x8
theorem flags_len (l : List S49) : (flagsOf l).length = l.length := by simp [flagsOf]
theorem let_chk (h : chkL x0 x1 x2 x3 x4 x5 x6 x7 x8 = 0) : chk (letN x0 x1 x2 x3 x4 x5 x7 x8) (letT x6 x7 x8) = 0 := by
  obtain ⟨b0, b1, b2, b3, b4, b5, b6, ⟨b7, c7⟩, ⟨b8, c8⟩⟩ := chk_zero _ _ _ _ _ _ _ _ _ h
  refine chk_of ?_ ?_ ?_ ?_
  · simp only [letN, List.length_append, flags_len, List.length_cons, List.length_nil]; omega
  · simp only [letT, List.length_append, pairs_len, List.length_cons, List.length_nil]; omega
  · intro n hn
    simp only [letN, List.mem_append, List.mem_cons, List.not_mem_nil, or_false, flagsOf, List.mem_map] at hn
    rcases hn with (rfl | rfl | rfl | rfl | rfl | rfl | rfl) | ⟨x, _, rfl⟩
    · omega
    · omega
    · omega
    · omega
    · omega
    · omega
    · omega
    · split <;> omega
  · intro s hs
    simp only [letT, List.mem_append, List.mem_singleton, pairsOf, List.mem_flatten, List.mem_map] at hs
    rcases hs with (rfl | hs) | ⟨l, ⟨x, hx, rfl⟩, hs⟩
    · omega
    · have := c7 s hs; omega
    · have h1 := c8 x hx
      simp only [List.mem_cons, List.not_mem_nil, or_false] at hs
      rcases hs with rfl | rfl <;> omega
/-- The bytes and the error of a letter. -/
def encL : ByteArray × Int := if chkL x0 x1 x2 x3 x4 x5 x6 x7 x8 = 0 then (strOfNums (enc (letN x0 x1 x2 x3 x4 x5 x7 x8) (letT x6 x7 x8)), 0) else (⟨#[]⟩, chkL x0 x1 x2 x3 x4 x5 x6 x7 x8)
variable (h7 : x7.length ≤ 8796093022000) (h8 : x8.length ≤ 8796093022000)
include h7 h8 in
theorem check_eq : letter_Check.f x0 x1 x2 x3 x4 x5 x6 x7 x8 = some (chkL x0 x1 x2 x3 x4 x5 x6 x7 x8) := if_pos ⟨h7, h8⟩
include h7 h8 in
theorem encodeL_ev : Ev (fun k => letter_Encode.f k x0 x1 x2 x3 x4 x5 x6 x7 x8) (encL x0 x1 x2 x3 x4 x5 x6 x7 x8) := by
  unfold letter_Encode.f encL
  rw [check_eq _ _ _ _ _ _ _ _ _ h7 h8]
  refine Ev.some_bind ?_
  by_cases h : chkL x0 x1 x2 x3 x4 x5 x6 x7 x8 = 0
  · rw [if_pos h]
    have hb := chk_zero _ _ _ _ _ _ _ _ _ h
    have he := encode_ev (letN x0 x1 x2 x3 x4 x5 x7 x8) (letT x6 x7 x8)
    unfold encB at he
    rw [if_pos (let_chk _ _ _ _ _ _ _ _ _ h)] at he
    exact Ev.pos h (Ev.pos ⟨by have := hb.b7.1; omega, by have := hb.b8.1; omega⟩ he)
  · rw [if_neg h]
    exact Ev.neg h (Ev.now _)
end
theorem works_encL : encL 7 1 2 5 0 0 (⟨#[]⟩ : ByteArray) [] [] = (⟨#[7, 14, 2, 4, 10, 0, 0, 0, 1, 0]⟩, 0) := by
  have h : chkL 7 1 2 5 0 0 (⟨#[]⟩ : ByteArray) [] [] = 0 := by simp [chkL, addrB, sw, fin4, toList_eq, B]
  have e7 : signed 7 = [14] := by unfold signed; rw [show zig 7 = 14 from by decide, plain_small (by omega)]; rfl
  have e1 : signed 1 = [2] := by unfold signed; rw [show zig 1 = 2 from by decide, plain_small (by omega)]; rfl
  have e2 : signed 2 = [4] := by unfold signed; rw [show zig 2 = 4 from by decide, plain_small (by omega)]; rfl
  have e5 : signed 5 = [10] := by unfold signed; rw [show zig 5 = 10 from by decide, plain_small (by omega)]; rfl
  have e0 : signed 0 = [0] := by unfold signed; rw [show zig 0 = 0 from by decide, plain_small (by omega)]; rfl
  have e : enc (letN 7 1 2 5 0 0 [] []) (letT (⟨#[]⟩ : ByteArray) [] []) = [7, 14, 2, 4, 10, 0, 0, 0, 1, 0] := by
    have en : letN 7 1 2 5 0 0 [] [] = [7, 1, 2, 5, 0, 0, 0] := rfl
    have et : letT (⟨#[]⟩ : ByteArray) [] [] = [(⟨#[]⟩ : ByteArray)] := rfl
    rw [en, et]
    simp only [enc, body, tails, List.map_cons, List.map_nil, e7, e1, e2, e5, e0]
    rw [plain_small (by decide), plain_small (by decide), plain_small (by decide)]
    rfl
  unfold encL
  rw [if_pos h, e]
  rfl
theorem worksL_ev : Ev (fun k => corncriblaw07_works.f k) true := by
  have h := encodeL_ev 7 1 2 5 0 0 (⟨#[]⟩ : ByteArray) [] [] (by simp) (by simp)
  rw [works_encL] at h
  have k1 : keyB (⟨#[107]⟩ : ByteArray) = true := by decide
  have k2 : keyB (⟨#[]⟩ : ByteArray) = false := by decide
  have r1 : risB [(⟨#[97]⟩ : ByteArray), (⟨#[98]⟩ : ByteArray)] = true := by simp only [risB, risFrom, toList_eq]; decide
  have r2 : risB [(⟨#[97]⟩ : ByteArray), (⟨#[97]⟩ : ByteArray)] = false := by simp only [risB, risFrom, toList_eq]; decide
  unfold corncriblaw07_works.f
  refine Ev.bind h (Ev.pos rfl (Ev.pos (by rw [toList_eq]; rfl) ?_))
  rw [key_eq, key_eq, k1, k2]
  have s1 := rising_ev [(⟨#[97]⟩ : ByteArray), (⟨#[98]⟩ : ByteArray)] (by simp)
  have s2 := rising_ev [(⟨#[97]⟩ : ByteArray), (⟨#[97]⟩ : ByteArray)] (by simp)
  rw [r1] at s1
  rw [r2] at s2
  exact Ev.some_bind (Ev.pos rfl (Ev.some_bind (Ev.neg (by simp) (Ev.bind s1 (Ev.pos rfl (Ev.bind s2 (Ev.now _)))))))
theorem Ev.now' {α : Type} {g : Nat → Option α} {r : α} (h : ∀ k, g k = some r) : Ev g r := Ev.step (f := fun _ => some r) (fun k => (h (k + 1)).trans rfl) (Ev.now _)
end Go.Proofs.Ytelgpkbnahgdoaa.LetSpec
