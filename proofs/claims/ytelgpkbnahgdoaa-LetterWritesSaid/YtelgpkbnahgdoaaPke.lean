/- What the laws stand on, in one text: functions of the program by their contracts, and the plain mathematics behind them (8 of them). -/
import Derived.Test.YtelgpkbnahgdoaaPkd
import Derived.Test.YtelgpkbnahgdoaaWWords
import Derived.Test.YtelgpkbnahgdoaaRows
import Derived.ChangeArms
import Derived.ChangeShapes
import Derived.SizedLaws

/- What letter.Encode comes to: the check's number, or the pack's bytes. -/
namespace Go.Proofs.Ytelgpkbnahgdoaa.LetSpec
open Go.RowKit Go.Proofs.Ytelgpkbnahgdoaa.Base Go.Proofs.Ytelgpkbnahgdoaa.PackMath Go.Proofs.Ytelgpkbnahgdoaa.PackFns Go.Proofs.Ytelgpkbnahgdoaa.Al Go.Proofs.YtelgpkbnahgdoaaW.PrintWords
theorem key_size {s : ByteArray} (h : keyB s = true) : s.size ≤ 32 := by
 unfold keyB at h
 exact (of_decide_eq_true h).2
theorem risFrom_all : ∀ (l : List ByteArray) (p : Option ByteArray), risFrom p l = true → ∀ s ∈ l, keyB s = true
 | [], _, _, _, h => by cases h
 | x :: l, p, h, s, hs => by
  have h1 : keyB x = true ∧ risFrom (some x) l = true := by
   cases p with
   | none => simpa [risFrom] using h
   | some q =>
    have h2 : (keyB x && (Op.bytesLess q.toList x.toList && risFrom (some x) l)) = true := h
    simp only [Bool.and_eq_true] at h2
    exact ⟨h2.1, h2.2.2⟩
  rcases List.mem_cons.1 hs with rfl | hs
  ·exact h1.1
  ·exact risFrom_all l (some x) h1.2 s hs
theorem ris_all {l : List ByteArray} (h : risB l = true) : ∀ s ∈ l, s.size ≤ 32 := fun s hs => key_size (risFrom_all l none h s hs)
theorem wri_all {l : List S49} (h : wriB l = true) : l.length ≤ 16 ∧ ∀ x ∈ l, x.f0.size ≤ 32 ∧ x.f1.size ≤ 2052 := by
 unfold wriB at h
 simp only [Bool.and_eq_true, decide_eq_true_eq, List.all_eq_true] at h
 obtain ⟨h1, h2, h3⟩ := h
 refine ⟨h2, fun x hx => ⟨ris_all h3 _ (List.mem_map.2 ⟨x, hx, rfl⟩), ?_⟩⟩
 have := h1 x hx
 simp only [oneW, Bool.and_eq_true, decide_eq_true_eq] at this
 exact this.1
section
variable (x0 x1 x2 x3 x4 x5 : Int) (x6 : ByteArray) (x7 : List ByteArray) (x8 : List S49)
structure Bounds : Prop where
 b0 : 1 ≤ x0 ∧ x0 ≤ 8
 b1 : 0 ≤ x1 ∧ x1 ≤ 200
 b2 : 0 ≤ x2 ∧ x2 ≤ 200
 b3 : 0 ≤ x3 ∧ x3 ≤ 1125899906842623
 b4 : 0 ≤ x4 ∧ x4 ≤ 1125899906842624
 b5 : 0 ≤ x5 ∧ x5 ≤ 4
 b6 : x6.size ≤ 2052
 b7 : x7.length ≤ 16 ∧ ∀ s ∈ x7, s.size ≤ 32
 b8 : x8.length ≤ 16 ∧ ∀ x ∈ x8, x.f0.size ≤ 32 ∧ x.f1.size ≤ 2052
theorem empty_size {s : ByteArray} (h : s.toList = []) : s.size ≤ 2052 := by have := (empty_iff s).1 h; omega
theorem one_all {x7 : List ByteArray} {x8 : List S49} (h : oneB x7 x8 = true) : (x7.length ≤ 16 ∧ ∀ s ∈ x7, s.size ≤ 32) ∧ x8 = [] := by
 unfold oneB at h
 simp only [Bool.and_eq_true, decide_eq_true_eq] at h
 obtain ⟨h1, h2, h3⟩ := h
 obtain ⟨s, rfl⟩ := List.length_eq_one_iff.1 h1
 refine ⟨⟨by simp, fun t ht => ?_⟩, List.eq_nil_of_length_eq_zero h3⟩
 obtain rfl := List.mem_singleton.1 ht
 exact key_size h2
theorem bare_all {x6 : ByteArray} {x7 : List ByteArray} {x8 : List S49} (h : bareB x6 x7 x8 = true) : x7 = [] ∧ x8 = [] ∧ x6.toList = [] := by
 unfold bareB at h
 simp only [Bool.and_eq_true, decide_eq_true_eq, List.isEmpty_iff] at h
 exact ⟨List.eq_nil_of_length_eq_zero h.1, List.eq_nil_of_length_eq_zero h.2.1, h.2.2⟩
theorem if70 {c : Prop} [Decidable c] (h : (if c then (0 : Int) else 70) = 0) : c := by
 by_cases hc : c
 ·exact hc
 ·rw [if_neg hc] at h; cases h
theorem chk_zero (h : chkL x0 x1 x2 x3 x4 x5 x6 x7 x8 = 0) : Bounds x0 x1 x2 x3 x4 x5 x6 x7 x8 := by
 rw [ref_chk] at h
 by_cases hg : addrB x1 = true ∧ addrB x2 = true ∧ 1 ≤ x3 ∧ x3 ≤ 1125899906842623 ∧ 0 ≤ x4 ∧ x4 ≤ 1125899906842624 ∧ 0 ≤ x5 ∧ x5 ≤ 4
 case neg => rw [if_neg hg] at h; cases h
 rw [if_pos hg] at h
 obtain ⟨g0, g1, g2, g3, g4, g5, g6, g7⟩ := hg
 have a1 := of_decide_eq_true g0
 have a2 := of_decide_eq_true g1
 have nil7 : ∀ l : List ByteArray, l = [] → l.length ≤ 16 ∧ ∀ s ∈ l, s.size ≤ 32 := fun l h => by subst h; exact ⟨by simp, fun s hs => by cases hs⟩
 have nil8 : ∀ l : List S49, l = [] → l.length ≤ 16 ∧ ∀ x ∈ l, x.f0.size ≤ 32 ∧ x.f1.size ≤ 2052 := fun l h => by subst h; exact ⟨by simp, fun s hs => by cases hs⟩
 have mk : (1 ≤ x0 ∧ x0 ≤ 8) → x6.size ≤ 2052 → (x7.length ≤ 16 ∧ ∀ s ∈ x7, s.size ≤ 32) → (x8.length ≤ 16 ∧ ∀ x ∈ x8, x.f0.size ≤ 32 ∧ x.f1.size ≤ 2052) → Bounds x0 x1 x2 x3 x4 x5 x6 x7 x8 := fun h0 h6 h7 h8 => ⟨h0, by omega, by omega, by omega, by omega, by omega, h6, h7, h8⟩
 unfold refV at h
 by_cases n1 : x0 = 1
 ·rw [if_pos n1] at h
  obtain ⟨h1, h2, _⟩ := if70 h
  exact mk (by omega) (empty_size h2) (one_all h1).1 (nil8 _ (one_all h1).2)
 rw [if_neg n1] at h
 by_cases n2 : x0 = 2
 ·rw [if_pos n2] at h
  obtain ⟨h1, h2, _⟩ := if70 h
  exact mk (by omega) h2 (one_all h1).1 (nil8 _ (one_all h1).2)
 rw [if_neg n2] at h
 by_cases n3 : x0 = 3
 ·rw [if_pos n3] at h
  obtain ⟨h1, h2, h3, h4, _⟩ := if70 h
  exact mk (by omega) (empty_size h4) ⟨h1, ris_all h2⟩ (wri_all h3)
 rw [if_neg n3] at h
 by_cases n4 : x0 = 4
 ·rw [if_pos n4] at h
  obtain ⟨h1, _⟩ := if70 h
  obtain ⟨e7, e8, e6⟩ := bare_all h1
  exact mk (by omega) (empty_size e6) (nil7 _ e7) (nil8 _ e8)
 rw [if_neg n4] at h
 by_cases n5 : x0 = 5 ∨ x0 = 6 ∨ x0 = 7
 ·rw [if_pos n5] at h
  obtain ⟨h1, _⟩ := if70 h
  obtain ⟨e7, e8, e6⟩ := bare_all h1
  exact mk (by omega) (empty_size e6) (nil7 _ e7) (nil8 _ e8)
 rw [if_neg n5] at h
 by_cases n8 : x0 = 8
 ·rw [if_pos n8] at h
  obtain ⟨h1, _⟩ := if70 h
  obtain ⟨e7, e8, e6⟩ := bare_all h1
  exact mk (by omega) (empty_size e6) (nil7 _ e7) (nil8 _ e8)
 ·rw [if_neg n8] at h; cases h
def letN : List Int := [x0, x1, x2, x3, x4, x5, (x7.length : Int)] ++ flagsOf x8
def letT : List ByteArray := [x6] ++ x7 ++ pairsOf x8
theorem flags_len (l : List S49) : (flagsOf l).length = l.length := by simp [flagsOf]
theorem let_chk (h : chkL x0 x1 x2 x3 x4 x5 x6 x7 x8 = 0) : chk (letN x0 x1 x2 x3 x4 x5 x7 x8) (letT x6 x7 x8) = 0 := by
 obtain ⟨b0, b1, b2, b3, b4, b5, b6, ⟨b7, c7⟩, ⟨b8, c8⟩⟩ := chk_zero _ _ _ _ _ _ _ _ _ h
 refine chk_of ?_ ?_ ?_ ?_
 ·simp only [letN, List.length_append, flags_len, List.length_cons, List.length_nil]; omega
 ·simp only [letT, List.length_append, pairs_len, List.length_cons, List.length_nil]; omega
 ·intro n hn
  simp only [letN, List.mem_append, List.mem_cons, List.not_mem_nil, or_false, flagsOf, List.mem_map] at hn
  rcases hn with (rfl | rfl | rfl | rfl | rfl | rfl | rfl) | ⟨x, _, rfl⟩
  ·omega
  ·omega
  ·omega
  ·omega
  ·omega
  ·omega
  ·omega
  ·split <;> omega
 ·intro s hs
  simp only [letT, List.mem_append, List.mem_singleton, pairsOf, List.mem_flatten, List.mem_map] at hs
  rcases hs with (rfl | hs) | ⟨l, ⟨x, hx, rfl⟩, hs⟩
  ·omega
  ·have := c7 s hs; omega
  ·have h1 := c8 x hx
   simp only [List.mem_cons, List.not_mem_nil, or_false] at hs
   rcases hs with rfl | rfl <;> omega
/-- The bytes and the error of a letter. -/
def encL : ByteArray × Int := if chkL x0 x1 x2 x3 x4 x5 x6 x7 x8 = 0 then (strOfNums (enc (letN x0 x1 x2 x3 x4 x5 x7 x8) (letT x6 x7 x8)), 0) else (⟨#[]⟩, chkL x0 x1 x2 x3 x4 x5 x6 x7 x8)
variable (h7 : x7.length ≤ 8796093022000) (h8 : x8.length ≤ 8796093022000)
include h7 h8 in
theorem check_eq : letter_Check.f x0 x1 x2 x3 x4 x5 x6 x7 x8 = some (chkL x0 x1 x2 x3 x4 x5 x6 x7 x8) := if_pos ⟨h7, h8⟩
include h7 h8 in
theorem encodeL_ev : Ev (fun k => letter_Encode.f k x0 x1 x2 x3 x4 x5 x6 x7 x8) (encL x0 x1 x2 x3 x4 x5 x6 x7 x8) := by
 unfold letter_Encode.f encL
 rw [check_eq _ _ _ _ _ _ _ _ _ h7 h8]
 refine Ev.some_bind ?_
 by_cases h : chkL x0 x1 x2 x3 x4 x5 x6 x7 x8 = 0
 ·rw [if_pos h]
  have hb := chk_zero _ _ _ _ _ _ _ _ _ h
  have he := encode_ev (letN x0 x1 x2 x3 x4 x5 x7 x8) (letT x6 x7 x8)
  unfold encB at he
  rw [if_pos (let_chk _ _ _ _ _ _ _ _ _ h)] at he
  exact Ev.pos h (Ev.pos ⟨by have := hb.b7.1; omega, by have := hb.b8.1; omega⟩ he)
 ·rw [if_neg h]
  exact Ev.neg h (Ev.now _)
end
theorem works_encL : encL 7 1 2 5 0 0 (⟨#[]⟩ : ByteArray) [] [] = (⟨#[7, 14, 2, 4, 10, 0, 0, 0, 1, 0]⟩, 0) := by
 have h : chkL 7 1 2 5 0 0 (⟨#[]⟩ : ByteArray) [] [] = 0 := by simp [chkL, addrB, sw, fin4, toList_eq, B]
 have e7 : signed 7 = [14] := by unfold signed; rw [show zig 7 = 14 from by decide, plain_small (by omega)]; rfl
 have e1 : signed 1 = [2] := by unfold signed; rw [show zig 1 = 2 from by decide, plain_small (by omega)]; rfl
 have e2 : signed 2 = [4] := by unfold signed; rw [show zig 2 = 4 from by decide, plain_small (by omega)]; rfl
 have e5 : signed 5 = [10] := by unfold signed; rw [show zig 5 = 10 from by decide, plain_small (by omega)]; rfl
 have e0 : signed 0 = [0] := by unfold signed; rw [show zig 0 = 0 from by decide, plain_small (by omega)]; rfl
 have e : enc (letN 7 1 2 5 0 0 [] []) (letT (⟨#[]⟩ : ByteArray) [] []) = [7, 14, 2, 4, 10, 0, 0, 0, 1, 0] := by
  have en : letN 7 1 2 5 0 0 [] [] = [7, 1, 2, 5, 0, 0, 0] := rfl
  have et : letT (⟨#[]⟩ : ByteArray) [] [] = [(⟨#[]⟩ : ByteArray)] := rfl
  rw [en, et]
  simp only [enc, body, tails, List.map_cons, List.map_nil, e7, e1, e2, e5, e0]
  rw [plain_small (by decide), plain_small (by decide), plain_small (by decide)]
  rfl
 unfold encL
 rw [if_pos h, e]
 rfl
theorem worksL_ev : Ev (fun k => corncriblaw07_works.f k) true := by
 have h := encodeL_ev 7 1 2 5 0 0 (⟨#[]⟩ : ByteArray) [] [] (by simp) (by simp)
 rw [works_encL] at h
 have k1 : keyB (⟨#[107]⟩ : ByteArray) = true := by decide
 have k2 : keyB (⟨#[]⟩ : ByteArray) = false := by decide
 have r1 : risB [(⟨#[97]⟩ : ByteArray), (⟨#[98]⟩ : ByteArray)] = true := by simp only [risB, risFrom, toList_eq]; decide
 have r2 : risB [(⟨#[97]⟩ : ByteArray), (⟨#[97]⟩ : ByteArray)] = false := by simp only [risB, risFrom, toList_eq]; decide
 unfold corncriblaw07_works.f
 refine Ev.bind h (Ev.pos rfl (Ev.pos (by rw [toList_eq]; rfl) ?_))
 rw [key_eq, key_eq, k1, k2]
 have s1 := rising_ev [(⟨#[97]⟩ : ByteArray), (⟨#[98]⟩ : ByteArray)] (by simp)
 have s2 := rising_ev [(⟨#[97]⟩ : ByteArray), (⟨#[97]⟩ : ByteArray)] (by simp)
 rw [r1] at s1
 rw [r2] at s2
 exact Ev.some_bind (Ev.pos rfl (Ev.some_bind (Ev.neg (by simp) (Ev.bind s1 (Ev.pos rfl (Ev.bind s2 (Ev.now _)))))))
theorem Ev.now' {α : Type} {g : Nat → Option α} {r : α} (h : ∀ k, g k = some r) : Ev g r := Ev.step (f := fun _ => some r) (fun k => (h (k + 1)).trans rfl) (Ev.now _)
end Go.Proofs.Ytelgpkbnahgdoaa.LetSpec

/- The reference's keys and rising lists. -/
namespace Go.Proofs.Ytelgpkbnahgdoaa.LetSpec
open Go.RowKit Go.Proofs.Ytelgpkbnahgdoaa.Base Go.Proofs.Ytelgpkbnahgdoaa.Al Go.Proofs.YtelgpkbnahgdoaaW.PrintWords
theorem rkey_eq (s : ByteArray) : corncribref07_Key.f s = some (keyB s) := by
 unfold corncribref07_Key.f keyB
 split
 ·congr 1; apply decide_eq_decide.2; omega
 ·rw [decide_eq_false (by omega)]
theorem rrising_l0 (l : List ByteArray) (hl : l.length ≤ 4611686018427387904) : ∀ (d i : Nat), i + d = l.length → Ev (fun k => corncribref07_Rising.l0 k l i) (risFrom (prevOf l i) (l.drop i))
 | 0, i, h => by
  refine Ev.succ ?_
  simp only [corncribref07_Rising.l0]
  rw [List.drop_of_length_le (by omega)]
  refine Ev.neg (by omega) ?_
  have : risFrom (prevOf l i) [] = true := by cases prevOf l i <;> rfl
  rw [this]
  exact Ev.now _
 | d + 1, i, h => by
  have hi : i < l.length := by omega
  have ih := rrising_l0 l hl d (i + 1) (by omega)
  have e : wrap64 ((i : Int) + 1) = ((i + 1 : Nat) : Int) := by rw [wrap_id (by omega) (by omega)]; omega
  have hp : prevOf l (i + 1) = some l[i] := by simp [prevOf, hi]
  rw [hp] at ih
  refine Ev.succ ?_
  simp only [corncribref07_Rising.l0]
  rw [e, rdOf_get hi, rkey_eq, List.drop_eq_getElem_cons hi]
  refine Ev.pos (by omega) (Ev.pos (by omega) (Ev.some_bind ?_))
  by_cases hk : keyB l[i] = true
  ·refine Ev.pos hk ?_
   by_cases h0 : i = 0
   ·subst h0
    refine Ev.neg (by omega) ?_
    have e2 : risFrom (prevOf l 0) (l[0] :: l.drop (0 + 1)) = risFrom (some l[0]) (l.drop (0 + 1)) := by
     show (keyB l[0] && risFrom (some l[0]) (l.drop 1)) = _
     rw [hk, Bool.true_and]
    rw [e2]
    exact ih
   ·have h1 : i - 1 < l.length := by omega
    have e1 : wrap64 ((i : Int) - 1) = ((i - 1 : Nat) : Int) := by rw [wrap_id (by omega) (by omega)]; omega
    have hpr : prevOf l i = some l[i - 1] := by simp [prevOf, h0, h1]
    rw [e1, hpr, rdOf_get h1]
    have e2 : risFrom (some l[i - 1]) (l[i] :: l.drop (i + 1)) = (Op.bytesLess l[i - 1].toList l[i].toList && risFrom (some l[i]) (l.drop (i + 1))) := by
     show (keyB l[i] && _) = _
     rw [hk, Bool.true_and]
    rw [e2]
    refine Ev.pos (by omega) (Ev.pos (by omega) (Ev.pos (by omega) ?_))
    by_cases hb : Op.bytesLess l[i - 1].toList l[i].toList = true
    ·rw [hb, Bool.true_and]
     exact Ev.pos rfl ih
    ·have hb' : Op.bytesLess l[i - 1].toList l[i].toList = false := by simpa using hb
     rw [hb', Bool.false_and]
     exact Ev.neg (by simp) (Ev.now _)
  ·have hk' : keyB l[i] = false := by simpa using hk
   rw [hk']
   have e2 : risFrom (prevOf l i) (l[i] :: l.drop (i + 1)) = false := by
    cases prevOf l i with
    | none => show (keyB l[i] && _) = _; rw [hk']; rfl
    | some p => show (keyB l[i] && _) = _; rw [hk']; rfl
   rw [e2]
   exact Ev.neg (by simp) (Ev.now _)
theorem rrising_ev (l : List ByteArray) (hl : l.length ≤ 4611686018427387904) : Ev (fun k => corncribref07_Rising.f k l) (risB l) := rrising_l0 l hl l.length 0 (by omega)
end Go.Proofs.Ytelgpkbnahgdoaa.LetSpec

/- What the reference's small functions of letters come to. -/
namespace Go.Proofs.Ytelgpkbnahgdoaa.LetSpec
open Go.RowKit Go.Proofs.Ytelgpkbnahgdoaa.Base Go.Proofs.Ytelgpkbnahgdoaa.Al Go.Proofs.YtelgpkbnahgdoaaW.PrintWords
theorem raddr_eq (n : Int) : corncribref07_Address.f n = some (addrB n) := by
 unfold corncribref07_Address.f addrB
 split
 ·split
  ·rw [decide_eq_true (by omega)]
  ·split
   ·congr 1; apply decide_eq_decide.2; omega
   ·rw [decide_eq_false (by omega)]
 ·split
  ·congr 1; apply decide_eq_decide.2; omega
  ·rw [decide_eq_false (by omega)]
theorem rwrites_l0 (l : List S49) (hl : l.length ≤ 8796093022000) : ∀ (d i : Nat), i + d = l.length → (l.take i).all oneW = true → Ev (fun k => corncribref07_Writes.l0 k l ((l.take i).map fun x => x.f0) i) (wriB l)
 | 0, i, h, ha => by
  have hi : l.take i = l := List.take_of_length_le (by omega)
  rw [hi] at ha ⊢
  have hw : wriB l = (decide (l.length ≤ 16) && risB (l.map fun x => x.f0)) := by unfold wriB; rw [ha, Bool.true_and]
  rw [hw]
  refine Ev.succ ?_
  simp only [corncribref07_Writes.l0]
  refine Ev.neg (by omega) ?_
  by_cases h16 : l.length ≤ 16
  ·rw [decide_eq_true h16, Bool.true_and]
   exact Ev.pos (by omega) (Ev.bind (rrising_ev _ (by simp; omega)) (Ev.now _))
  ·rw [decide_eq_false h16, Bool.false_and]
   exact Ev.neg (by omega) (Ev.now _)
 | d + 1, i, h, ha => by
  have hi : i < l.length := by omega
  have e : wrap64 ((i : Int) + 1) = ((i + 1 : Nat) : Int) := by rw [wrap_id (by omega) (by omega)]; omega
  have hlen : ((l.take i).map fun x => x.f0).length = i := by simp; omega
  have htk : l.take (i + 1) = l.take i ++ [l[i]] := by rw [List.take_succ_eq_append_getElem hi]
  have bad : oneW l[i] = false → wriB l = false := fun hf => by
   unfold wriB
   have : l.all oneW = false := List.all_eq_false.2 ⟨l[i], List.getElem_mem hi, by simp [hf]⟩
   rw [this, Bool.false_and]
  refine Ev.succ ?_
  simp only [corncribref07_Writes.l0]
  rw [e, rdT_get hi, hlen]
  refine Ev.pos (by omega) (Ev.pos (by omega) (Ev.pos (by omega) (Ev.some_bind ?_)))
  by_cases hs : l[i].f1.size ≤ 2052
  ·refine Ev.neg (by omega) ?_
   have good : oneW l[i] = true → Ev (fun k => corncribref07_Writes.l0 k l ((l.take i).map (fun x => x.f0) ++ [l[i].f0]) ((i + 1 : Nat) : Int)) (wriB l) := fun ho => by
    have ih := rwrites_l0 l hl d (i + 1) (by omega) (by rw [htk, List.all_append, ha]; simp [ho])
    rw [htk, List.map_append] at ih
    exact ih
   by_cases hd : l[i].f2 = true
   ·refine Ev.pos hd ?_
    by_cases he : l[i].f1.toList = []
    ·exact Ev.pos he (good (by simp [oneW, hs, he]))
    ·rw [bad (by simp [oneW, hd, he])]
     exact Ev.neg he (Ev.now _)
   ·have hd' : l[i].f2 = false := by simpa using hd
    exact Ev.neg hd (good (by simp [oneW, hs, hd']))
  ·rw [bad (by simp [oneW, hs])]
   exact Ev.pos (by omega) (Ev.now _)
theorem rwrites_ev (l : List S49) (hl : l.length ≤ 8796093022000) : Ev (fun k => corncribref07_Writes.f k l) (wriB l) := rwrites_l0 l hl l.length 0 (by omega) rfl
section
variable (x0 x1 x2 x3 x4 x5 : Int) (x6 : ByteArray) (x7 : List ByteArray) (x8 : List S49) (h7 : x7.length ≤ 8796093022000) (h8 : x8.length ≤ 8796093022000)
theorem j3_ev (bare : Bool) (b : Bool) (hb : b = true ↔ (x0 = 5 ∨ x0 = 6 ∨ x0 = 7)) (hn : x0 ≠ 1 ∧ x0 ≠ 2 ∧ x0 ≠ 3 ∧ x0 ≠ 4) (one : Bool) : Ev (fun k => corncribref07_Check.j3 k bare x0 b x0 x1 x2 x3 x4 x5 x6 x7 x8) (refV x5 x0 one bare x6 x7 x8) := by
 obtain ⟨n1, n2, n3, n4⟩ := hn
 refine Ev.succ ?_
 simp only [corncribref07_Check.j3]
 unfold refV
 rw [if_neg n1, if_neg n2, if_neg n3, if_neg n4]
 by_cases h : x0 = 5 ∨ x0 = 6 ∨ x0 = 7
 ·rw [if_pos h]
  refine Ev.pos (hb.2 h) ?_
  by_cases h1 : bare = true
  ·by_cases h2 : x5 = 0
   ·exact Ev.to (Ev.pos h1 (Ev.pos h2 (Ev.now _))) (if_pos ⟨h1, h2⟩).symm
   ·exact Ev.to (Ev.pos h1 (Ev.neg h2 (Ev.now _))) (if_neg (fun hc => h2 hc.2)).symm
  ·exact Ev.to (Ev.neg h1 (Ev.now _)) (if_neg (fun hc => h1 hc.1)).symm
 ·rw [if_neg h]
  refine Ev.neg (fun hc => h (hb.1 hc)) ?_
  by_cases h8 : x0 = 8
  ·rw [if_pos h8, if_pos h8]
   by_cases h1 : bare = true
   ·by_cases h2 : x5 ≤ 2
    ·exact Ev.to (Ev.pos h1 (Ev.pos h2 (Ev.now _))) (if_pos ⟨h1, h2⟩).symm
    ·exact Ev.to (Ev.pos h1 (Ev.neg h2 (Ev.now _))) (if_neg (fun hc => h2 hc.2)).symm
   ·exact Ev.to (Ev.neg h1 (Ev.now _)) (if_neg (fun hc => h1 hc.1)).symm
  ·rw [if_neg h8, if_neg h8]
   exact Ev.now _
include h7 h8 in
theorem j2_ev (one bare : Bool) : Ev (fun k => corncribref07_Check.j2 k one bare x0 x1 x2 x3 x4 x5 x6 x7 x8) (refV x5 x0 one bare x6 x7 x8) := by
 refine Ev.succ ?_
 simp only [corncribref07_Check.j2]
 by_cases n1 : x0 = 1
 ·refine Ev.pos n1 ?_
  unfold refV; rw [if_pos n1]
  by_cases h1 : one = true
  ·by_cases h2 : x6.toList = []
   ·by_cases h3 : x5 = 0
    ·exact Ev.to (Ev.pos h1 (Ev.pos h2 (Ev.pos h3 (Ev.now _)))) (if_pos ⟨h1, h2, h3⟩).symm
    ·exact Ev.to (Ev.pos h1 (Ev.pos h2 (Ev.neg h3 (Ev.now _)))) (if_neg (fun hc => h3 hc.2.2)).symm
   ·exact Ev.to (Ev.pos h1 (Ev.neg h2 (Ev.now _))) (if_neg (fun hc => h2 hc.2.1)).symm
  ·exact Ev.to (Ev.neg h1 (Ev.now _)) (if_neg (fun hc => h1 hc.1)).symm
 refine Ev.neg n1 ?_
 by_cases n2 : x0 = 2
 ·refine Ev.pos n2 ?_
  unfold refV; rw [if_neg n1, if_pos n2]
  by_cases h1 : one = true
  ·by_cases h2 : x6.size ≤ 2052
   ·by_cases h3 : x6.toList = []
    ·exact Ev.to (Ev.pos h1 (Ev.pos (by omega) (Ev.pos h3 (Ev.now _)))) (if_pos ⟨h1, h2, .inl h3⟩).symm
    ·by_cases h4 : x5 = 1
     ·exact Ev.to (Ev.pos h1 (Ev.pos (by omega) (Ev.neg h3 (Ev.pos h4 (Ev.now _))))) (if_pos ⟨h1, h2, .inr h4⟩).symm
     ·exact Ev.to (Ev.pos h1 (Ev.pos (by omega) (Ev.neg h3 (Ev.neg h4 (Ev.now _))))) (if_neg (fun hc => hc.2.2.elim h3 h4)).symm
   ·exact Ev.to (Ev.pos h1 (Ev.neg (by omega) (Ev.now _))) (if_neg (fun hc => h2 hc.2.1)).symm
  ·exact Ev.to (Ev.neg h1 (Ev.now _)) (if_neg (fun hc => h1 hc.1)).symm
 refine Ev.neg n2 ?_
 by_cases n3 : x0 = 3
 ·refine Ev.pos n3 ?_
  unfold refV; rw [if_neg n1, if_neg n2, if_pos n3]
  by_cases h1 : x7.length ≤ 16
  ·refine Ev.pos (by omega) (Ev.bind (rrising_ev x7 (by omega)) ?_)
   by_cases h2 : risB x7 = true
   ·refine Ev.pos h2 (Ev.bind (rwrites_ev x8 h8) ?_)
    by_cases h3 : wriB x8 = true
    ·by_cases h4 : x6.toList = []
     ·by_cases h5 : x5 = 0
      ·exact Ev.to (Ev.pos h3 (Ev.pos h4 (Ev.pos h5 (Ev.now _)))) (if_pos ⟨h1, h2, h3, h4, h5⟩).symm
      ·exact Ev.to (Ev.pos h3 (Ev.pos h4 (Ev.neg h5 (Ev.now _)))) (if_neg (fun hc => h5 hc.2.2.2.2)).symm
     ·exact Ev.to (Ev.pos h3 (Ev.neg h4 (Ev.now _))) (if_neg (fun hc => h4 hc.2.2.2.1)).symm
    ·exact Ev.to (Ev.neg h3 (Ev.now _)) (if_neg (fun hc => h3 hc.2.2.1)).symm
   ·exact Ev.to (Ev.neg h2 (Ev.now _)) (if_neg (fun hc => h2 hc.2.1)).symm
  ·exact Ev.to (Ev.neg (by omega) (Ev.now _)) (if_neg (fun hc => h1 hc.1)).symm
 refine Ev.neg n3 ?_
 by_cases n4 : x0 = 4
 ·refine Ev.pos n4 ?_
  unfold refV; rw [if_neg n1, if_neg n2, if_neg n3, if_pos n4]
  by_cases h1 : bare = true
  ·by_cases h2 : x5 ≤ 1
   ·exact Ev.to (Ev.pos h1 (Ev.pos h2 (Ev.now _))) (if_pos ⟨h1, h2⟩).symm
   ·exact Ev.to (Ev.pos h1 (Ev.neg h2 (Ev.now _))) (if_neg (fun hc => h2 hc.2)).symm
  ·exact Ev.to (Ev.neg h1 (Ev.now _)) (if_neg (fun hc => h1 hc.1)).symm
 refine Ev.neg n4 ?_
 by_cases n5 : x0 = 5
 ·exact Ev.pos n5 (j3_ev _ _ _ _ _ _ _ _ _ bare _ (by simp; omega) ⟨n1, n2, n3, n4⟩ one)
 refine Ev.neg n5 ?_
 by_cases n6 : x0 = 6
 ·exact Ev.pos n6 (j3_ev _ _ _ _ _ _ _ _ _ bare _ (by simp; omega) ⟨n1, n2, n3, n4⟩ one)
 ·exact Ev.neg n6 (j3_ev _ _ _ _ _ _ _ _ _ bare _ (by simp; omega) ⟨n1, n2, n3, n4⟩ one)
include h7 h8 in
theorem j1_ev (one : Bool) : Ev (fun k => corncribref07_Check.j1 k one x0 x1 x2 x3 x4 x5 x6 x7 x8) (refV x5 x0 one (bareB x6 x7 x8) x6 x7 x8) := by
 refine Ev.succ ?_
 simp only [corncribref07_Check.j1]
 by_cases h1 : x7.length = 0
 ·refine Ev.pos (by omega) ?_
  by_cases h2 : x8.length = 0
  ·refine Ev.pos (by omega) ?_
   have e : bareB x6 x7 x8 = (x6.toList == []) := by unfold bareB; rw [decide_eq_true h1, decide_eq_true h2]; simp
   rw [e]
   exact j2_ev _ _ _ _ _ _ _ _ _ h7 h8 _ _
  ·have e : bareB x6 x7 x8 = false := by unfold bareB; rw [decide_eq_false h2]; simp
   rw [e]
   exact Ev.neg (by omega) (j2_ev _ _ _ _ _ _ _ _ _ h7 h8 _ _)
 ·have e : bareB x6 x7 x8 = false := by unfold bareB; rw [decide_eq_false h1]; simp
  rw [e]
  exact Ev.neg (by omega) (j2_ev _ _ _ _ _ _ _ _ _ h7 h8 _ _)
include h7 h8 in
theorem j0_ev (b : Bool) : Ev (fun k => corncribref07_Check.j0 k b x0 x1 x2 x3 x4 x5 x6 x7 x8) (if b = true then 70 else refV x5 x0 (oneB x7 x8) (bareB x6 x7 x8) x6 x7 x8) := by
 refine Ev.succ ?_
 simp only [corncribref07_Check.j0]
 by_cases hb : b = true
 ·rw [if_pos hb]; exact Ev.pos hb (Ev.now _)
 rw [if_neg hb]
 refine Ev.neg hb ?_
 by_cases h1 : x7.length = 1
 ·refine Ev.pos (by omega) (Ev.pos (by omega) ?_)
  rw [rkey_eq]
  refine Ev.some_bind ?_
  by_cases hk : keyB (rdOf ByteArray.empty x7 0) = true
  ·have e : oneB x7 x8 = ((x8.length : Int) == 0) := by unfold oneB; rw [decide_eq_true h1, hk]; by_cases h : x8.length = 0 <;> simp [h]
   rw [e]
   exact Ev.pos hk (j1_ev _ _ _ _ _ _ _ _ _ h7 h8 _)
  ·have hk' : keyB (rdOf ByteArray.empty x7 0) = false := by simpa using hk
   have e : oneB x7 x8 = false := by unfold oneB; rw [hk']; simp
   rw [e]
   exact Ev.neg hk (j1_ev _ _ _ _ _ _ _ _ _ h7 h8 _)
 ·have e : oneB x7 x8 = false := by unfold oneB; rw [decide_eq_false h1]; simp
  rw [e]
  exact Ev.neg (by omega) (j1_ev _ _ _ _ _ _ _ _ _ h7 h8 _)
include h7 h8 in
theorem rcheckL_ev : Ev (fun k => corncribref07_Check.f k x0 x1 x2 x3 x4 x5 x6 x7 x8) (chkL x0 x1 x2 x3 x4 x5 x6 x7 x8) := by
 rw [ref_chk]
 unfold corncribref07_Check.f
 rw [raddr_eq, raddr_eq]
 have bad : Ev (fun k => corncribref07_Check.j0 k true x0 x1 x2 x3 x4 x5 x6 x7 x8) 70 := j0_ev _ _ _ _ _ _ _ _ _ h7 h8 true
 refine Ev.some_bind ?_
 by_cases g0 : addrB x1 = true
 case neg => exact Ev.to (Ev.neg g0 bad) (if_neg (fun hc => g0 hc.1)).symm
 refine Ev.pos g0 (Ev.some_bind ?_)
 by_cases g1 : addrB x2 = true
 case neg => exact Ev.to (Ev.neg g1 bad) (if_neg (fun hc => g1 hc.2.1)).symm
 refine Ev.pos g1 ?_
 have et : corncribref07_Txn.f x3 = some (decide (1 ≤ x3 ∧ x3 ≤ 1125899906842623)) := by
  unfold corncribref07_Txn.f
  split
  ·congr 1; apply decide_eq_decide.2; omega
  ·rw [decide_eq_false (by omega)]
 have es : corncribref07_Stamp.f x4 = some (decide (0 ≤ x4 ∧ x4 ≤ 1125899906842624)) := by
  unfold corncribref07_Stamp.f
  split
  ·congr 1; apply decide_eq_decide.2; omega
  ·rw [decide_eq_false (by omega)]
 rw [et, es]
 refine Ev.some_bind ?_
 by_cases g2 : 1 ≤ x3 ∧ x3 ≤ 1125899906842623
 case neg => exact Ev.to (Ev.neg (by simp only [decide_eq_true_eq]; exact g2) bad) (if_neg (fun hc => g2 ⟨hc.2.2.1, hc.2.2.2.1⟩)).symm
 refine Ev.pos (decide_eq_true g2) (Ev.some_bind ?_)
 by_cases g3 : 0 ≤ x4 ∧ x4 ≤ 1125899906842624
 case neg => exact Ev.to (Ev.neg (by simp only [decide_eq_true_eq]; exact g3) bad) (if_neg (fun hc => g3 ⟨hc.2.2.2.2.1, hc.2.2.2.2.2.1⟩)).symm
 refine Ev.pos (decide_eq_true g3) ?_
 by_cases g4 : 0 ≤ x5
 case neg => exact Ev.to (Ev.pos (by omega) bad) (if_neg (fun hc => g4 hc.2.2.2.2.2.2.1)).symm
 refine Ev.neg (by omega) ?_
 have h := j0_ev x0 x1 x2 x3 x4 x5 x6 x7 x8 h7 h8 (decide (x5 > 4))
 by_cases g5 : x5 ≤ 4
 ·rw [if_neg (by simp; omega)] at h
  rw [if_pos ⟨g0, g1, g2.1, g2.2, g3.1, g3.2, g4, g5⟩]
  exact h
 ·rw [if_pos (by simp; omega)] at h
  rw [if_neg (fun hc => g5 hc.2.2.2.2.2.2.2)]
  exact h
end
end Go.Proofs.Ytelgpkbnahgdoaa.LetSpec

/- The reference's functions come to the same bytes. -/
namespace Go.Proofs.Ytelgpkbnahgdoaa.PackFns
open Go.RowKit Go.Proofs.Ytelgpkbnahgdoaa.Base Go.Proofs.Ytelgpkbnahgdoaa.PackMath Go.Proofs.Ytelgpkbnahgdoaa.Al Go.Proofs.YtelgpkbnahgdoaaW.PrintWords

theorem rplain_l0 : ∀ (n : Nat) (xs : List Int), n < 9223372036854775808 → xs.length + (plain n).length ≤ 140737488355328 → Ev (fun k => corncribref06_Plain.l0 k (n : Int) xs) (strOfNums (xs ++ plain n)) := by
 intro n
 induction n using Nat.strongRecOn with
 | ind n ih =>
  intro xs hn hx
  by_cases h1 : n < 128
  ·rw [plain_small h1] at hx ⊢
   simp at hx
   refine Ev.step (fun k => by simp only [corncribref06_Plain.l0]; rw [if_neg (by omega), if_pos (by omega)]) ?_
   rw [show (n : Int) % 256 = n from by omega]
   exact Ev.now _
  ·rw [plain_big (by omega)] at hx ⊢
   simp at hx
   refine Ev.step (fun k => by simp only [corncribref06_Plain.l0]; rw [if_pos (by omega), if_pos (by omega)]) ?_
   have e : wrap64 ((Int.tmod (n : Int) 128) + 128) % 256 = ((n % 128 + 128 : Nat) : Int) := by
    rw [Int.tmod_eq_emod_of_nonneg (by omega), wrap_id (by omega) (by omega)]; omega
   rw [e, step_rest, wrap_id (by omega) (by omega)]
   have := ih (n / 128) (by omega) (xs ++ [((n % 128 + 128 : Nat) : Int)]) (by omega) (by simp; omega)
   simpa using this
theorem rplain_ev (n : Nat) (hn : n < 9223372036854775808) : Ev (fun k => corncribref06_Plain.f k (n : Int)) (strOfNums (plain n)) :=
 rplain_l0 n [] hn (by have := plain_len9 hn; simp; omega)
theorem rsigned_ev (n : Int) (h0 : -4611686018427387904 ≤ n) (h1 : n ≤ 4611686018427387903) : Ev (fun k => corncribref06_Signed.f k n) (strOfNums (signed n)) := by
 have hz := zig_lt h0 h1
 have hp := rplain_ev (zig n) hz
 unfold corncribref06_Signed.f
 by_cases hn : n < 0
 ·have e : wrap64 ((wrap64 ((-2) * (wrap64 (n + 1)))) + 1) = (zig n : Int) := by
   rw [wrap_id (n := n + 1) (by omega) (by omega), wrap_id (n := -2 * (n + 1)) (by omega) (by omega), wrap_id (by omega) (by omega)]
   unfold zig; rw [if_pos hn]; omega
  rw [e]
  exact Ev.pos hn (Ev.bind hp (Ev.now _))
 ·have e : wrap64 (2 * n) = (zig n : Int) := by
   rw [wrap_id (by omega) (by omega)]
   unfold zig; rw [if_neg hn]; omega
  rw [e]
  exact Ev.neg hn (Ev.bind hp (Ev.now _))
theorem strOfNums_append (a b : List Int) : strOfNums (a ++ b) = strOfNums a ++ strOfNums b := B_inj (by rw [B_append, B_nums, B_nums, B_nums, List.map_append])
theorem strOfNums_bytesOf (s : ByteArray) : strOfNums (bytesOf s) = s := by
 apply B_inj
 rw [B_nums]
 unfold bytesOf B
 rw [List.map_map]
 conv => rhs; rw [← List.map_id s.data.toList]
 apply List.map_congr_left
 intro b _
 simp
theorem renc_l1 (nums : List Int) (texts : List ByteArray) (ht : texts.length ≤ 1024) (hs : ∀ s ∈ texts, s.size ≤ 4096) : ∀ (d i : Nat) (acc : ByteArray), i + d = texts.length → acc.size + 4105 * d ≤ 100000000 →
  Ev (fun k => corncribref06_Bytes.l1 k acc (i : Int) nums texts) (acc ++ strOfNums (tails (texts.drop i)))
 | 0, i, acc, h, hx => by
  rw [List.drop_of_length_le (by omega)]
  refine Ev.step (fun k => by simp only [corncribref06_Bytes.l1]; rw [if_neg (by omega)]) ?_
  have : acc ++ strOfNums (tails []) = acc := B_inj (by rw [B_append, B_nums]; simp [tails])
  rw [this]
  exact Ev.now _
 | d + 1, i, acc, h, hx => by
  have hi : i < texts.length := by omega
  have e : wrap64 ((i : Int) + 1) = ((i + 1 : Nat) : Int) := by rw [wrap_id (by omega) (by omega)]; omega
  have hr : rdOf ByteArray.empty texts (i : Int) = texts[i] := by simp [rdOf, List.getD_eq_getElem?_getD, hi]
  have hz := hs _ (List.getElem_mem hi)
  have hp : (plain texts[i].size).length ≤ 9 := plain_len9 (by omega)
  have sz := strOfNums_size (plain texts[i].size)
  have sz2 : (strOfNums (plain texts[i].size) ++ texts[i]).size = (strOfNums (plain texts[i].size)).size + texts[i].size := ByteArray.size_append
  have ih := renc_l1 nums texts ht hs d (i + 1) (acc ++ (strOfNums (plain texts[i].size) ++ texts[i])) (by omega) (by rw [ByteArray.size_append]; omega)
  rw [List.drop_eq_getElem_cons hi]
  have et : tails (texts[i] :: texts.drop (i + 1)) = plain texts[i].size ++ bytesOf texts[i] ++ tails (texts.drop (i + 1)) := rfl
  have ee : acc ++ strOfNums (tails (texts[i] :: texts.drop (i + 1))) = acc ++ (strOfNums (plain texts[i].size) ++ texts[i]) ++ strOfNums (tails (texts.drop (i + 1))) := by
   rw [et, strOfNums_append, strOfNums_append, strOfNums_bytesOf]
   apply B_inj
   simp only [B_append, List.append_assoc]
  rw [ee]
  refine Ev.step (fun k => by simp only [corncribref06_Bytes.l1]; rw [if_pos (by omega), if_pos (by omega), hr, e]) ?_
  exact Ev.bind (rplain_ev texts[i].size (by omega)) (Ev.pos (by omega) (Ev.pos (by omega) ih))
theorem renc_l0 (nums : List Int) (texts : List ByteArray) (hn : nums.length ≤ 1024) (ht : texts.length ≤ 1024) (hm : ∀ n ∈ nums, -4611686018427387904 ≤ n ∧ n ≤ 4611686018427387903) (hs : ∀ s ∈ texts, s.size ≤ 4096) : ∀ (d i : Nat) (acc : ByteArray), i + d = nums.length → acc.size + 9 * d ≤ 10000000 →
  Ev (fun k => corncribref06_Bytes.l0 k acc (i : Int) nums texts) (acc ++ strOfNums (body (nums.drop i) ++ plain texts.length ++ tails texts))
 | 0, i, acc, h, hx => by
  rw [List.drop_of_length_le (by omega)]
  have hp : (plain texts.length).length ≤ 9 := plain_len9 (by omega)
  have sz := strOfNums_size (plain texts.length)
  refine Ev.step (fun k => by simp only [corncribref06_Bytes.l0]; rw [if_neg (by omega)]) ?_
  refine Ev.bind (rplain_ev texts.length (by omega)) (Ev.pos (by omega) ?_)
  have := renc_l1 nums texts ht hs texts.length 0 (acc ++ strOfNums (plain texts.length)) (by omega) (by rw [ByteArray.size_append]; omega)
  have ee : acc ++ strOfNums (body [] ++ plain texts.length ++ tails texts) = acc ++ strOfNums (plain texts.length) ++ strOfNums (tails (texts.drop 0)) := by
   rw [strOfNums_append, List.drop_zero]
   apply B_inj
   simp [B_append, body]
  rw [ee]
  exact this
 | d + 1, i, acc, h, hx => by
  have hi : i < nums.length := by omega
  have e : wrap64 ((i : Int) + 1) = ((i + 1 : Nat) : Int) := by rw [wrap_id (by omega) (by omega)]; omega
  have hr : rd nums (i : Int) = nums[i] := by simp [rd, List.getD_eq_getElem?_getD, hi]
  have hz := hm _ (List.getElem_mem hi)
  have hp : (signed nums[i]).length ≤ 9 := plain_len9 (zig_lt hz.1 hz.2)
  have sz := strOfNums_size (signed nums[i])
  have ih := renc_l0 nums texts hn ht hm hs d (i + 1) (acc ++ strOfNums (signed nums[i])) (by omega) (by rw [ByteArray.size_append]; omega)
  rw [List.drop_eq_getElem_cons hi]
  have et : body (nums[i] :: nums.drop (i + 1)) = signed nums[i] ++ body (nums.drop (i + 1)) := rfl
  have ee : acc ++ strOfNums (body (nums[i] :: nums.drop (i + 1)) ++ plain texts.length ++ tails texts) = acc ++ strOfNums (signed nums[i]) ++ strOfNums (body (nums.drop (i + 1)) ++ plain texts.length ++ tails texts) := by
   rw [et, List.append_assoc, List.append_assoc, strOfNums_append, List.append_assoc]
   apply B_inj
   simp only [B_append, List.append_assoc]
  rw [ee]
  refine Ev.step (fun k => by simp only [corncribref06_Bytes.l0]; rw [if_pos (by omega), if_pos (by omega), hr, e]) ?_
  exact Ev.bind (rsigned_ev nums[i] hz.1 hz.2) (Ev.pos (by omega) ih)
theorem rbytes_ev (nums : List Int) (texts : List ByteArray) (h : chk nums texts = 0) : Ev (fun k => corncribref06_Bytes.f k nums texts) (strOfNums (enc nums texts)) := by
 obtain ⟨h1, h2, h3, h4⟩ := chk_ok h
 have hp : (plain nums.length).length ≤ 9 := plain_len9 (by omega)
 have sz := strOfNums_size (plain nums.length)
 unfold corncribref06_Bytes.f
 refine Ev.bind (rplain_ev nums.length (by omega)) ?_
 have := renc_l0 nums texts h1 h2 h3 h4 nums.length 0 (strOfNums (plain nums.length)) (by omega) (by omega)
 rw [List.drop_zero, ← strOfNums_append] at this
 simpa [enc] using this
end Go.Proofs.Ytelgpkbnahgdoaa.PackFns

/- What the reference's Encode comes to. -/
namespace Go.Proofs.Ytelgpkbnahgdoaa.LetSpec
open Go.RowKit Go.Proofs.Ytelgpkbnahgdoaa.Base Go.Proofs.Ytelgpkbnahgdoaa.PackMath Go.Proofs.Ytelgpkbnahgdoaa.PackFns Go.Proofs.Ytelgpkbnahgdoaa.Al Go.Proofs.YtelgpkbnahgdoaaW.PrintWords
section
variable (x0 x1 x2 x3 x4 x5 : Int) (x6 : ByteArray) (x7 : List ByteArray) (x8 : List S49) (h7 : x7.length ≤ 8796093022000) (h8 : x8.length ≤ 8796093022000)
theorem rbytes_l0 (hc : chk (letN x0 x1 x2 x3 x4 x5 x7 x8) (letT x6 x7 x8) = 0) (h8 : x8.length ≤ 16) (h7 : x7.length ≤ 16) : ∀ (d i : Nat), i + d = x8.length →
  Ev (fun k => corncribref07_Bytes.l0 k (i : Int) x0 x1 x2 x3 x4 x5 x6 x7 x8 ([x0, x1, x2, x3, x4, x5, (x7.length : Int)] ++ flagsOf (x8.take i)) ([x6] ++ x7 ++ pairsOf (x8.take i))) (strOfNums (enc (letN x0 x1 x2 x3 x4 x5 x7 x8) (letT x6 x7 x8)))
 | 0, i, h => by
  refine Ev.succ ?_
  simp only [corncribref07_Bytes.l0]
  rw [List.take_of_length_le (by omega)]
  exact Ev.neg (by omega) (Ev.bind (rbytes_ev _ _ hc) (Ev.now _))
 | d + 1, i, h => by
  have hi : i < x8.length := by omega
  have ih := rbytes_l0 hc h8 h7 d (i + 1) (by omega)
  have e : wrap64 ((i : Int) + 1) = ((i + 1 : Nat) : Int) := by rw [wrap_id (by omega) (by omega)]; omega
  rw [flags_step hi, pairs_step hi] at ih
  refine Ev.succ ?_
  simp only [corncribref07_Bytes.l0]
  rw [e, rdT_get hi]
  have e1 : corncribref07_One.f x8[i].f2 = some (if x8[i].f2 = true then 1 else 0) := by unfold corncribref07_One.f; split <;> rfl
  rw [e1]
  refine Ev.pos (by omega) (Ev.pos (by omega) (Ev.some_bind (Ev.pos ?_ (Ev.pos ?_ (Ev.some_bind (Ev.pos ?_ ?_))))))
  ·simp only [List.length_append, flags_len, List.length_cons, List.length_nil, List.length_take]; omega
  ·simp only [List.length_append, pairs_len, List.length_cons, List.length_nil, List.length_take]; omega
  ·simp only [List.length_append, pairs_len, List.length_cons, List.length_nil, List.length_take]; omega
  ·simpa only [List.append_assoc, List.cons_append, List.nil_append] using ih
include h7 h8 in
theorem rencodeL_ev : Ev (fun k => corncribref07_Encode.f k x0 x1 x2 x3 x4 x5 x6 x7 x8) (encL x0 x1 x2 x3 x4 x5 x6 x7 x8) := by
 unfold corncribref07_Encode.f encL
 refine Ev.bind (rcheckL_ev _ _ _ _ _ _ _ _ _ h7 h8) ?_
 by_cases h : chkL x0 x1 x2 x3 x4 x5 x6 x7 x8 = 0
 ·rw [if_pos h]
  have hb := chk_zero _ _ _ _ _ _ _ _ _ h
  have h1 := hb.b7.1
  have hl := rbytes_l0 x0 x1 x2 x3 x4 x5 x6 x7 x8 (let_chk _ _ _ _ _ _ _ _ _ h) hb.b8.1 h1 x8.length 0 (by omega)
  refine Ev.pos h (Ev.bind ?_ (Ev.now _))
  unfold corncribref07_Bytes.f
  refine Ev.some_bind (Ev.pos (by simp only [List.length_cons, List.length_nil]; omega) ?_)
  simpa [flagsOf, pairsOf] using hl
 ·rw [if_neg h]
  exact Ev.neg h (Ev.now _)
end
theorem copy_eq (x0 x1 x2 x3 x4 x5 : Int) (x6 : ByteArray) (x7 : List ByteArray) (x8 : List S49) (h7 : x7.length < 8796093022208) (h8 : x8.length < 3518437208883) : corncribbook_CopyLetter.f x0 x1 x2 x3 x4 x5 x6 x7 x8 = some (x0, x1, x2, x3, x4, x5, x6, x7, x8) := by
 unfold corncribbook_CopyLetter.f
 simp only [Option.bind_some]
 rw [if_pos (by simpa using h7), if_pos (by simpa using h8)]
 simp
end Go.Proofs.Ytelgpkbnahgdoaa.LetSpec

/- A list of texts is the same as itself. -/
namespace Go.Proofs.Ytelgpkbnahgdoaa.LetSpec
open Go.RowKit Go.Proofs.Ytelgpkbnahgdoaa.Base Go.Proofs.Ytelgpkbnahgdoaa.Al Go.Proofs.YtelgpkbnahgdoaaW.PrintWords
theorem sameT_l0 (l : List ByteArray) (hl : l.length ≤ 4611686018427387904) : ∀ (d i : Nat), i + d = l.length → Ev (fun k => corncribbook_SameTexts.l0 k l l (i : Int)) true
 | 0, i, h => Ev.step (f := fun _ => some true) (fun k => by simp only [corncribbook_SameTexts.l0]; rw [if_neg (by omega)]) (Ev.now _)
 | d + 1, i, h => by
  have ih := sameT_l0 l hl d (i + 1) (by omega)
  have e : wrap64 ((i : Int) + 1) = ((i + 1 : Nat) : Int) := by rw [wrap_id (by omega) (by omega)]; omega
  refine Ev.step (fun k => ?_) ih
  simp only [corncribbook_SameTexts.l0]
  rw [if_pos (by omega), if_pos (by omega), if_pos (by omega), if_pos trivial, e]
theorem sameT_ev (l : List ByteArray) (hl : l.length ≤ 4611686018427387904) : Ev (fun k => corncribbook_SameTexts.f k l l) true := by
 unfold corncribbook_SameTexts.f
 exact Ev.pos rfl (sameT_l0 l hl l.length 0 (by omega))
end Go.Proofs.Ytelgpkbnahgdoaa.LetSpec

/- A letter is the same as itself. -/
namespace Go.Proofs.Ytelgpkbnahgdoaa.LetSpec
open Go.RowKit Go.Proofs.Ytelgpkbnahgdoaa.Base Go.Proofs.Ytelgpkbnahgdoaa.Al Go.Proofs.YtelgpkbnahgdoaaW.PrintWords
theorem sameW_l0 (l : List S49) (hl : l.length ≤ 4611686018427387904) : ∀ (d i : Nat), i + d = l.length → Ev (fun k => corncribbook_SameWrites.l0 k l l (i : Int)) true
 | 0, i, h => Ev.step (f := fun _ => some true) (fun k => by simp only [corncribbook_SameWrites.l0]; rw [if_neg (by omega)]) (Ev.now _)
 | d + 1, i, h => by
  have ih := sameW_l0 l hl d (i + 1) (by omega)
  have e : wrap64 ((i : Int) + 1) = ((i + 1 : Nat) : Int) := by rw [wrap_id (by omega) (by omega)]; omega
  refine Ev.step (fun k => ?_) ih
  simp only [corncribbook_SameWrites.l0]
  rw [if_pos (by omega), if_pos (by omega), if_pos (by omega), if_neg (by simp), e]
theorem sameW_ev (l : List S49) (hl : l.length ≤ 4611686018427387904) : Ev (fun k => corncribbook_SameWrites.f k l l) true := by
 unfold corncribbook_SameWrites.f
 exact Ev.pos rfl (sameW_l0 l hl l.length 0 (by omega))
theorem sameL_ev (x0 x1 x2 x3 x4 x5 : Int) (x6 : ByteArray) (x7 : List ByteArray) (x8 : List S49) (h7 : x7.length ≤ 4611686018427387904) (h8 : x8.length ≤ 4611686018427387904) : Ev (fun k => corncribbook_SameLetter.f k x0 x1 x2 x3 x4 x5 x6 x7 x8 x0 x1 x2 x3 x4 x5 x6 x7 x8) true := by
 unfold corncribbook_SameLetter.f
 exact Ev.pos rfl (Ev.pos rfl (Ev.pos rfl (Ev.pos rfl (Ev.pos rfl (Ev.pos rfl (Ev.pos rfl (Ev.bind (sameT_ev x7 h7) (Ev.pos rfl (Ev.bind (sameW_ev x8 h8) (Ev.now _))))))))))
end Go.Proofs.Ytelgpkbnahgdoaa.LetSpec

/- An argument of any shape that is read: what the walk's contracts ask of it, and its bounds by the row's own reach and by the second form's bulk. -/
namespace Go.Proofs.Ytelgpkbnahgdoaa.Open
open Go.RowKit Go.Proofs.YtelgpkbnahgdoaaW.PrintWords

/-- Whatever reads as data of type t is told by d: V always, L where each string and slice is within the reach, m is within the bulk. -/
structure Opens {α : Type} (P : Program) (t : TypeId) (d : Kd α) (V L : α → Prop) (m : α → Nat) : Prop where
 out : ∀ {H : Type} {enc : TypeId × Value → H} {w : World} {base : Nat} {spare : Nat → Bool} {held : Bool} {fuel : Nat} {cs : List Value} {x : DataW H × List MemPlace}, DataW.trod enc P w base spare held fuel t cs = some x →
  ∃ a : α, d.K w a cs ∧ V a ∧ ((DataW.weights P t x.1).all (· ≤ reachBytes) = true → L a) ∧ m a ≤ Rows.uptoBulk x.1

theorem opens_int {P : Program} {t : TypeId} {k : IntKind} (ht : P.underlying t = some (.int k)) : Opens P t (Kd.int k) (fun n => (Lit.int k n).wf = true) (fun _ => True) (fun _ => 1) where
 out h := by
  obtain ⟨n, rfl, rfl, hw⟩ := DataW.trod_int ht h
  exact ⟨n, rfl, hw, fun _ => trivial, Nat.le_refl _⟩
theorem opens_bool {P : Program} {t : TypeId} (ht : P.underlying t = some .bool) : Opens P t Kd.bool (fun _ => True) (fun _ => True) (fun _ => 1) where
 out h := by
  obtain ⟨n, rfl, rfl⟩ := DataW.trod_bool ht h
  exact ⟨n, rfl, trivial, fun _ => trivial, Nat.le_refl _⟩
theorem opens_string {P : Program} {t : TypeId} (ht : P.underlying t = some .string) : Opens P t Kd.string (fun s => s.size ≤ maxLen) (fun s => s.size ≤ 140737488351232) (fun s => s.size + 1) where
 out h := by
  obtain ⟨s, rfl, rfl, hw⟩ := DataW.trod_string ht h
  refine ⟨s, rfl, hw, fun hx => ?_, ?_⟩
  ·simp only [DataW.weights, List.all_cons, List.all_nil, Bool.and_true, decide_eq_true_eq, data_length] at hx
   exact hx
  ·simp [Rows.uptoBulk]

theorem add_add (a : Addr) (m j : Nat) : (a.add m).add j = a.add (m + j) := by
 unfold Addr.add
 by_cases hm : m = 0 <;> by_cases hj : j = 0 <;> simp [hm, hj, Nat.add_assoc]
theorem mapM_some {β γ : Type} {f : β → Option γ} : ∀ {l : List β} {r : List γ}, l.mapM f = some r → r.length = l.length ∧ ∀ i (h : i < l.length), f l[i] = r[i]?
 | [], r, h => by simp at h; subst h; simp
 | b :: l, r, h => by
  rw [List.mapM_cons] at h
  simp only [Option.bind_eq_bind, Option.bind_eq_some_iff, Option.pure_def, Option.some.injEq] at h
  obtain ⟨c, hc, q, hq, rfl⟩ := h
  obtain ⟨hl, hi⟩ := mapM_some hq
  refine ⟨by simp [hl], fun i h => ?_⟩
  cases i with
  | zero => simpa using hc
  | succ i => simpa using hi i (by simpa using h)
theorem cells_get {w : World} {base : Nat} {a : Addr} {n : Nat} {cs : List Value} (h : w.cells? base a n = some cs) : cs.length = n ∧ ∀ i u, cs[i]? = some u → w.cell? (a.add i) = some u := by
 unfold World.cells? at h
 split at h
 ·obtain ⟨hl, hi⟩ := mapM_some h
  simp at hl
  refine ⟨hl, fun i u hu => ?_⟩
  have hlt : i < cs.length := (List.getElem?_eq_some_iff.1 hu).1
  have := hi i (by simp; omega)
  simpa [hu] using this
 ·cases h

theorem list_of {α : Type} {Q : Nat → α → Prop} : ∀ n, (∀ i, i < n → ∃ a, Q i a) → ∃ l : List α, l.length = n ∧ ∀ i a, l[i]? = some a → Q i a
 | 0, _ => ⟨[], rfl, fun i a h => by simp at h⟩
 | n + 1, h => by
  obtain ⟨l, hl, hq⟩ := list_of n (fun i hi => h i (by omega))
  obtain ⟨a, ha⟩ := h n (by omega)
  refine ⟨l ++ [a], by simp [hl], fun i b hb => ?_⟩
  by_cases hi : i < n
  ·rw [List.getElem?_append_left (by omega)] at hb
   exact hq i b hb
  ·have hlt := (List.getElem?_eq_some_iff.1 hb).1
   simp at hlt
   obtain rfl : i = n := by omega
   rw [List.getElem?_append_right (by omega), hl] at hb
   simp at hb
   exact hb ▸ ha
theorem all_append {l r : List Nat} {p : Nat → Bool} : (l ++ r).all p = true ↔ l.all p = true ∧ r.all p = true := by rw [List.all_append, Bool.and_eq_true]
theorem weights_all {H : Type} {P : Program} {e : TypeId} {p : Nat → Bool} : ∀ {ds : List (DataW H)}, (DataW.weightsAll P e ds).all p = true → ∀ d ∈ ds, (DataW.weights P e d).all p = true
 | [], _, d, hd => by simp at hd
 | d0 :: ds, h, d, hd => by
  rw [DataW.weightsAll, all_append] at h
  rcases List.mem_cons.1 hd with rfl | hd
  ·exact h.1
  ·exact weights_all h.2 d hd
theorem bulk_all {H α : Type} {m : α → Nat} : ∀ {l : List α} {ds : List (DataW H)}, l.length = ds.length → (∀ (i : Nat) (a : α) (y : DataW H), l[i]? = some a → ds[i]? = some y → m a ≤ Rows.uptoBulk y) → (l.map m).sum ≤ Rows.uptoBulkAll ds
 | [], [], _, _ => by simp [Rows.uptoBulkAll]
 | a :: l, d :: ds, hl, h => by
  have ih := bulk_all (l := l) (ds := ds) (by simpa using hl) (fun i a y h1 h2 => h (i + 1) a y (by simpa using h1) (by simpa using h2))
  have h0 := h 0 a d rfl rfl
  simp only [List.map_cons, List.sum_cons, Rows.uptoBulkAll]
  omega
 | [], _ :: _, hl, _ => by simp at hl
 | _ :: _, [], hl, _ => by simp at hl

theorem opens_slice {α : Type} {P : Program} {t e : TypeId} {d : Kd α} {V L : α → Prop} {m : α → Nat} (q : Nat) (b : Nat) (ht : P.underlying t = some (.slice e)) (hsz : P.cellsOf e = d.sz) (hb : P.bytesOf e = b) (ho : Opens P e d V L m) :
  Opens P t (Kd.slice q d) (fun l => ∀ a ∈ l, V a) (fun l => l.length * b ≤ 140737488351232 ∧ ∀ a ∈ l, L a) (fun l => (l.map m).sum + 1) where
 out {H enc w base spare held fuel cs x} h := by
  rcases DataW.trod_slice ht h with ⟨rfl, rfl⟩ | ⟨ad, len, cap, elems, rest, n, rfl, rfl, rfl, hbase, hlc, hcm, hlen, hel, hsp, hns⟩
  ·exact ⟨[], ⟨none, 0, rfl, Nat.le_refl _, rfl, by simp, fun h => absurd h (by simp)⟩, by simp, fun _ => by simp, by simp [Rows.uptoBulk]⟩
  obtain ⟨l, hl, hq⟩ := list_of (Q := fun i a => (∃ c, c.length = d.sz ∧ d.K w a c ∧ (∀ j u, c[j]? = some u → w.cell? (ad.add (i * d.sz + j)) = some u)) ∧ V a ∧ (∀ y, elems[i]? = some y → ((DataW.weights P e y.1).all (· ≤ reachBytes) = true → L a) ∧ m a ≤ Rows.uptoBulk y.1)) len (by
   intro i hi
   have hy : elems[i]? = some (elems[i]'(by omega)) := List.getElem?_eq_getElem (by omega)
   have h1 := hel i hi
   rw [hy, Option.bind_eq_some_iff] at h1
   obtain ⟨c, hc, hx⟩ := h1
   obtain ⟨a, hK, hV, hL, hm⟩ := ho.out hx
   obtain ⟨hcl, hcc⟩ := cells_get hc
   rw [hsz] at hcl hcc
   refine ⟨a, ⟨c, hcl, hK, fun j u hu => by rw [← add_add]; exact hcc j u hu⟩, hV, fun y hy' => ?_⟩
   rw [hy] at hy'
   obtain rfl := Option.some.inj hy'
   exact ⟨hL, hm⟩)
  have hmax : len ≤ 9223372036854775807 := by unfold maxLen at hcm; omega
  have mem : ∀ a ∈ l, ∃ i, l[i]? = some a := fun a ha => List.mem_iff_getElem?.1 ha
  refine ⟨l, ⟨some ad, cap, by rw [hl], by omega, rfl, by omega, fun _ => ⟨ad, rfl, fun j p hp => ?_⟩⟩, ?_, ?_, ?_⟩
  ·obtain ⟨⟨c, hcl, hK, hcc⟩, _⟩ := hq j p hp
   exact ⟨c, hcl, hK, hcc⟩
  ·intro a ha
   obtain ⟨i, hi⟩ := mem a ha
   exact (hq i a hi).2.1
  ·intro hw
   simp only [DataW.weights, ht, List.all_cons, Bool.and_eq_true, decide_eq_true_eq, all_append, List.length_map, hb] at hw
   obtain ⟨hw1, hw2, _⟩ := hw
   have hw1' : (elems.length + rest.length) * b ≤ 140737488351232 := hw1
   refine ⟨?_, ?_⟩
   ·rw [hl, ← hlen]
    exact Nat.le_trans (Nat.mul_le_mul_right b (Nat.le_add_right _ _)) hw1'
   ·intro a ha
    obtain ⟨i, hi⟩ := mem a ha
    have hlt : i < elems.length := by have := (List.getElem?_eq_some_iff.1 hi).1; omega
    refine ((hq i a hi).2.2 _ (List.getElem?_eq_getElem hlt)).1 (weights_all hw2 _ ?_)
    exact List.mem_map.2 ⟨_, List.getElem_mem hlt, rfl⟩
  ·have hbk : (l.map m).sum ≤ Rows.uptoBulkAll (elems.map (·.1)) := bulk_all (by rw [hl, List.length_map, hlen]) (fun i a y h1 h2 => by
    rw [List.getElem?_map, Option.map_eq_some_iff] at h2
    obtain ⟨z, hz, rfl⟩ := h2
    exact ((hq i a h1).2.2 z hz).2)
   simp only [Rows.uptoBulk]
   omega

/-- The fields of a struct, one behind the other, from a place on. -/
structure OpensF {α : Type} (P : Program) (off : Nat) (fs : List Field) (d : Kd α) (V L : α → Prop) (m : α → Nat) : Prop where
 out : ∀ {H : Type} {enc : TypeId × Value → H} {w : World} {base : Nat} {spare : Nat → Bool} {held : Bool} {fuel : Nat} {cs : List Value} {xs : List (DataW H × List MemPlace)},
  fs.mapM (fun f => DataW.trod enc P w base spare held fuel f.type ((cs.drop f.offset).take (P.cellsOf f.type))) = some xs → cs.length = off + d.sz →
  ∃ a : α, d.K w a (cs.drop off) ∧ V a ∧ ((DataW.weightsEach P (fs.map (·.type)) (xs.map (·.1))).all (· ≤ reachBytes) = true → L a) ∧ m a ≤ Rows.uptoBulkAll (xs.map (·.1))
theorem opensF_one {α : Type} {P : Program} {off : Nat} {f : Field} {d : Kd α} {V L : α → Prop} {m : α → Nat} (ho : Opens P f.type d V L m) (hoff : f.offset = off) (hsz : P.cellsOf f.type = d.sz) : OpensF P off [f] d V L m where
 out {H enc w base spare held fuel cs xs} h hl := by
  obtain ⟨h1, h2⟩ := mapM_some h
  have e : xs = [xs[0]'(by rw [h1]; simp)] := by
   apply List.ext_getElem
   ·simpa using h1
   ·intro i hi _
    have : i = 0 := by rw [h1] at hi; simpa using hi
    subst this
    rfl
  have h3 := h2 0 (by simp)
  rw [List.getElem?_eq_getElem (by rw [h1]; simp)] at h3
  simp only [List.getElem_cons_zero] at h3
  rw [hoff, hsz, List.take_of_length_le (by rw [List.length_drop]; omega)] at h3
  obtain ⟨a, hK, hV, hL, hm⟩ := ho.out h3
  refine ⟨a, hK, hV, fun hw => hL ?_, ?_⟩
  ·rw [e] at hw
   simpa [DataW.weightsEach] using hw
  ·rw [e]
   simpa [Rows.uptoBulkAll] using hm
theorem opensF_cons {α β : Type} {P : Program} {off : Nat} {f : Field} {fs : List Field} {d : Kd α} {V L : α → Prop} {m : α → Nat} {d' : Kd β} {V' L' : β → Prop} {m' : β → Nat}
  (ho : Opens P f.type d V L m) (hoff : f.offset = off) (hsz : P.cellsOf f.type = d.sz) (hr : OpensF P (off + d.sz) fs d' V' L' m') :
  OpensF P off (f :: fs) (Kd.pair d d') (fun a => V a.1 ∧ V' a.2) (fun a => L a.1 ∧ L' a.2) (fun a => m a.1 + m' a.2) where
 out {H enc w base spare held fuel cs xs} h hl := by
  rw [List.mapM_cons] at h
  simp only [Option.bind_eq_bind, Option.bind_eq_some_iff, Option.pure_def, Option.some.injEq] at h
  obtain ⟨x, hx, xs', hxs, rfl⟩ := h
  rw [hoff, hsz] at hx
  have hl' : cs.length = off + (d.sz + d'.sz) := hl
  obtain ⟨a, hK, hV, hL, hm⟩ := ho.out hx
  obtain ⟨b, hK', hV', hL', hm'⟩ := hr.out hxs (by omega)
  refine ⟨(a, b), ⟨_, _, ?_, hK, hK'⟩, ⟨hV, hV'⟩, fun hw => ?_, ?_⟩
  ·rw [← List.drop_drop, List.take_append_drop]
  ·simp only [List.map_cons, DataW.weightsEach, all_append] at hw
   exact ⟨hL hw.1, hL' hw.2⟩
  ·simp only [List.map_cons, Rows.uptoBulkAll]
   omega
theorem opens_struct {α β : Type} {P : Program} {t : TypeId} {fs : Array Field} {d : Kd α} {V L : α → Prop} {m : α → Nat} (f : β → α) (g : α → β) (hfg : ∀ a, f (g a) = a) (ht : P.underlying t = some (.struct fs)) (hsz : P.cellsOf t = d.sz) (hf : OpensF P 0 fs.toList d V L m) :
  Opens P t (Kd.iso d f) (fun b => V (f b)) (fun b => L (f b)) (fun b => m (f b) + 1) where
 out {H enc w base spare held fuel cs x} h := by
  cases fuel with
  | zero => simp [DataW.trod] at h
  | succ n =>
   unfold DataW.trod at h
   rw [ht] at h
   simp only at h
   split at h
   ·rename_i hl
    rw [Option.map_eq_some_iff] at h
    obtain ⟨xs, hxs, rfl⟩ := h
    obtain ⟨a, hK, hV, hL, hm⟩ := hf.out hxs (by omega)
    refine ⟨g a, ?_, ?_, ?_, ?_⟩
    ·show d.K w (f (g a)) cs
     rw [hfg]
     simpa using hK
    ·show V (f (g a))
     rw [hfg]; exact hV
    ·intro hw
     show L (f (g a))
     rw [hfg]
     simp only [DataW.weights, ht] at hw
     exact hL hw
    ·rw [hfg]
     simp only [Rows.uptoBulk]
     omega
   ·cases h
end Go.Proofs.Ytelgpkbnahgdoaa.Open
