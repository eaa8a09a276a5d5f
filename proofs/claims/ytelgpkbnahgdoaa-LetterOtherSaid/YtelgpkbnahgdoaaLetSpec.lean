/- Keys, keys that rise, writes and letters that may be: plain functions, and what the program's small functions come to. -/
import Derived.Test.YtelgpkbnahgdoaaFletterRising
import Derived.Test.YtelgpkbnahgdoaaFletterwrites
import Derived.Test.YtelgpkbnahgdoaaFletteraddress
import Derived.Test.YtelgpkbnahgdoaaFletterKey
import Derived.Test.YtelgpkbnahgdoaaBase
namespace Go.Proofs.Ytelgpkbnahgdoaa.LetSpec
open Go.RowKit Go.Proofs.Ytelgpkbnahgdoaa.Base Go.Proofs.Ytelgpkbnahgdoaa.Al Go.Proofs.YtelgpkbnahgdoaaW.PrintWords
theorem Ev.succ {α : Type} {g : Nat → Option α} {r : α} (h : Ev (fun k => g (k + 1)) r) : Ev g r := Ev.step (fun _ => rfl) h
def keyB (s : ByteArray) : Bool := decide (1 ≤ s.size ∧ s.size ≤ 32)
def addrB (n : Int) : Bool := decide ((0 ≤ n ∧ n < 12) ∨ (100 ≤ n ∧ n < 116))
def risFrom : Option ByteArray → List ByteArray → Bool
  | _, [] => true
  | none, s :: l => keyB s && risFrom (some s) l
  | some p, s :: l => keyB s && (Op.bytesLess p.toList s.toList && risFrom (some s) l)
def risB (l : List ByteArray) : Bool := risFrom none l
def oneW (x : S49) : Bool := decide (x.f1.size ≤ 2052) && (!x.f2 || x.f1.toList.isEmpty)
def wriB (l : List S49) : Bool := l.all oneW && (decide (l.length ≤ 16) && risB (l.map fun x => x.f0))
theorem empty_iff (s : ByteArray) : s.toList = [] ↔ s.size = 0 := by
  rw [toList_eq, ← B_len]
  exact List.length_eq_zero_iff.symm
theorem key_eq (s : ByteArray) : letter_Key.f s = some (keyB s) := by
  unfold letter_Key.f keyB
  by_cases h : s.toList = []
  · rw [if_pos h, decide_eq_false (by have := (empty_iff s).1 h; omega)]
  · rw [if_neg h]
    congr 1
    have : s.size ≠ 0 := fun hc => h ((empty_iff s).2 hc)
    apply decide_eq_decide.2
    omega
theorem address_eq (n : Int) : letter_address.f n = some (addrB n) := by
  unfold letter_address.f addrB
  split
  · split
    · rw [decide_eq_true (by omega)]
    · split
      · congr 1; apply decide_eq_decide.2; omega
      · rw [decide_eq_false (by omega)]
  · split
    · congr 1; apply decide_eq_decide.2; omega
    · rw [decide_eq_false (by omega)]
theorem rdOf_get {l : List ByteArray} {i : Nat} (h : i < l.length) : rdOf ByteArray.empty l (i : Int) = l[i] := by simp [rdOf, List.getD_eq_getElem?_getD, h]
def prevOf (l : List ByteArray) (i : Nat) : Option ByteArray := if i = 0 then none else l[i - 1]?
theorem rising_l0 (l : List ByteArray) (hl : l.length ≤ 4611686018427387904) : ∀ (d i : Nat), i + d = l.length → Ev (fun k => letter_Rising.l0 k l l (l.length : Int) i) (risFrom (prevOf l i) (l.drop i))
  | 0, i, h => by
    refine Ev.succ ?_
    simp only [letter_Rising.l0]
    rw [List.drop_of_length_le (by omega)]
    refine Ev.neg (by omega) ?_
    have : risFrom (prevOf l i) [] = true := by cases prevOf l i <;> rfl
    rw [this]
    exact Ev.now _
  | d + 1, i, h => by
    have hi : i < l.length := by omega
    have ih := rising_l0 l hl d (i + 1) (by omega)
    have e : wrap64 ((i : Int) + 1) = ((i + 1 : Nat) : Int) := by rw [wrap_id (by omega) (by omega)]; omega
    have hp : prevOf l (i + 1) = some l[i] := by simp [prevOf, hi]
    rw [hp] at ih
    refine Ev.succ ?_
    simp only [letter_Rising.l0]
    rw [e, rdOf_get hi, key_eq, List.drop_eq_getElem_cons hi]
    refine Ev.pos (by omega) (Ev.pos (by omega) (Ev.pos (by omega) (Ev.some_bind ?_)))
    by_cases hk : keyB l[i] = true
    · refine Ev.pos hk ?_
      by_cases h0 : i = 0
      · subst h0
        refine Ev.neg (by omega) ?_
        have e2 : risFrom (prevOf l 0) (l[0] :: l.drop (0 + 1)) = risFrom (some l[0]) (l.drop (0 + 1)) := by
          show (keyB l[0] && risFrom (some l[0]) (l.drop 1)) = _
          rw [hk, Bool.true_and]
        rw [e2]
        exact ih
      · have h1 : i - 1 < l.length := by omega
        have e1 : wrap64 ((i : Int) - 1) = ((i - 1 : Nat) : Int) := by rw [wrap_id (by omega) (by omega)]; omega
        have hpr : prevOf l i = some l[i - 1] := by simp [prevOf, h0, h1]
        rw [e1, hpr, rdOf_get h1]
        have e2 : risFrom (some l[i - 1]) (l[i] :: l.drop (i + 1)) = (Op.bytesLess l[i - 1].toList l[i].toList && risFrom (some l[i]) (l.drop (i + 1))) := by
          show (keyB l[i] && _) = _
          rw [hk, Bool.true_and]
        rw [e2]
        refine Ev.pos (by omega) (Ev.pos (by omega) (Ev.pos (by omega) ?_))
        by_cases hb : Op.bytesLess l[i - 1].toList l[i].toList = true
        · rw [hb, Bool.true_and]
          refine Ev.pos rfl ?_
          exact ih
        · have hb' : Op.bytesLess l[i - 1].toList l[i].toList = false := by simpa using hb
          rw [hb', Bool.false_and]
          exact Ev.neg (by simp) (Ev.now _)
    · have hk' : keyB l[i] = false := by simpa using hk
      rw [hk']
      have e2 : risFrom (prevOf l i) (l[i] :: l.drop (i + 1)) = false := by
        cases prevOf l i with
        | none => show (keyB l[i] && _) = _; rw [hk']; rfl
        | some p => show (keyB l[i] && _) = _; rw [hk']; rfl
      rw [e2]
      exact Ev.neg (by simp) (Ev.now _)
theorem rising_ev (l : List ByteArray) (hl : l.length ≤ 4611686018427387904) : Ev (fun k => letter_Rising.f k l) (risB l) := rising_l0 l hl l.length 0 (by omega)
theorem rdT_get {l : List S49} {i : Nat} (h : i < l.length) : rd_T49 l (i : Int) = l[i] := by simp [rd_T49, List.getD_eq_getElem?_getD, h]
theorem writes_l0 (l : List S49) (hl : l.length ≤ 8796093022000) : ∀ (d i : Nat), i + d = l.length → (l.take i).all oneW = true → Ev (fun k => letter_writes.l0 k l ((l.take i).map fun x => x.f0) l (l.length : Int) i) (wriB l)
  | 0, i, h, ha => by
    have hi : l.take i = l := List.take_of_length_le (by omega)
    rw [hi] at ha ⊢
    have hw : wriB l = (decide (l.length ≤ 16) && risB (l.map fun x => x.f0)) := by unfold wriB; rw [ha, Bool.true_and]
    rw [hw]
    refine Ev.succ ?_
    simp only [letter_writes.l0]
    refine Ev.neg (by omega) ?_
    by_cases h16 : l.length ≤ 16
    · rw [decide_eq_true h16, Bool.true_and]
      exact Ev.pos (by omega) (Ev.bind (rising_ev _ (by simp; omega)) (Ev.now _))
    · rw [decide_eq_false h16, Bool.false_and]
      exact Ev.neg (by omega) (Ev.now _)
  | d + 1, i, h, ha => by
    have hi : i < l.length := by omega
    have e : wrap64 ((i : Int) + 1) = ((i + 1 : Nat) : Int) := by rw [wrap_id (by omega) (by omega)]; omega
    have hlen : ((l.take i).map fun x => x.f0).length = i := by simp; omega
    have htk : l.take (i + 1) = l.take i ++ [l[i]] := by rw [List.take_succ_eq_append_getElem hi]
    have bad : oneW l[i] = false → wriB l = false := fun hf => by
      unfold wriB
      have : l.all oneW = false := List.all_eq_false.2 ⟨l[i], List.getElem_mem hi, by simp [hf]⟩
      rw [this, Bool.false_and]
    refine Ev.succ ?_
    simp only [letter_writes.l0]
    rw [e, rdT_get hi, hlen]
    refine Ev.pos (by omega) (Ev.pos (by omega) (Ev.pos (by omega) ?_))
    by_cases hs : l[i].f1.size ≤ 2052
    · refine Ev.neg (by omega) ?_
      have good : oneW l[i] = true → Ev (fun k => letter_writes.l0 k l ((l.take i).map (fun x => x.f0) ++ [l[i].f0]) l (l.length : Int) ((i + 1 : Nat) : Int)) (wriB l) := fun ho => by
        have ih := writes_l0 l hl d (i + 1) (by omega) (by rw [htk, List.all_append, ha]; simp [ho])
        rw [htk, List.map_append] at ih
        exact ih
      by_cases hd : l[i].f2 = true
      · refine Ev.pos hd ?_
        by_cases he : l[i].f1.toList = []
        · exact Ev.pos he (Ev.pos (by omega) (good (by simp [oneW, hs, he])))
        · rw [bad (by simp [oneW, hd, he])]
          exact Ev.neg he (Ev.now _)
      · have hd' : l[i].f2 = false := by simpa using hd
        exact Ev.neg hd (Ev.pos (by omega) (good (by simp [oneW, hs, hd'])))
    · rw [bad (by simp [oneW, hs])]
      exact Ev.pos (by omega) (Ev.now _)
theorem writes_ev (l : List S49) (hl : l.length ≤ 8796093022000) : Ev (fun k => letter_writes.f k l) (wriB l) := writes_l0 l hl l.length 0 (by omega) rfl
/-- What the switch over the kinds leaves: the greatest code, whether keys, writes and text may be. -/
def sw (kind code : Int) (text : ByteArray) (l7 : List ByteArray) (l8 : List S49) : Option (Int × Bool × Bool × Bool) :=
  if kind = 2 then some (4, decide (l7.length = 1) && keyB (rdOf ByteArray.empty l7 0), (l8.length : Int) == 0, decide (text.size ≤ 2052) && (text.toList.isEmpty || code == 1))
  else if kind = 1 then some (0, decide (l7.length = 1) && keyB (rdOf ByteArray.empty l7 0), (l8.length : Int) == 0, text.toList.isEmpty)
  else if kind = 3 then some (0, decide (l7.length ≤ 16) && risB l7, wriB l8, text.toList.isEmpty)
  else if kind = 8 then some (2, (l7.length : Int) == 0, (l8.length : Int) == 0, text.toList.isEmpty)
  else if kind = 4 then some (1, (l7.length : Int) == 0, (l8.length : Int) == 0, text.toList.isEmpty)
  else if kind = 5 ∨ kind = 6 ∨ kind = 7 then some (0, (l7.length : Int) == 0, (l8.length : Int) == 0, text.toList.isEmpty)
  else none
def fin4 (code : Int) : Option (Int × Bool × Bool × Bool) → Int
  | none => 70
  | some (m, a, b, c) => if code ≤ m ∧ a = true ∧ b = true ∧ c = true then 0 else 70
/-- Which letters may be: 0, or 70. -/
def chkL (kind src dst txn ts code : Int) (text : ByteArray) (l7 : List ByteArray) (l8 : List S49) : Int :=
  if addrB src = true ∧ addrB dst = true ∧ 1 ≤ txn ∧ txn ≤ 1125899906842623 ∧ 0 ≤ ts ∧ ts ≤ 1125899906842624 ∧ 0 ≤ code then fin4 code (sw kind code text l7 l8) else 70
section
variable (w : World)
theorem key_calls (s : ByteArray) : Calls Try.prog 18 #[.string s] w fun e w' => e = .returned (.bool (keyB s)) ∧ Drawn0 w w' := letter_Key.calls s _ w (key_eq s)
theorem address_calls (n : Int) : Calls Try.prog 28 #[.int .i64 n] w fun e w' => e = .returned (.bool (addrB n)) ∧ Drawn0 w w' := letter_address.calls n _ w (address_eq n)
theorem rising_calls (A : Option Addr) (c : Nat) (l : List ByteArray) (hr : Kd.C Kd.string w A l.length l) (hc : l.length ≤ c) (hl : l.length ≤ 8796093022000) : Calls Try.prog 20 #[.slice A l.length c] w fun e w' => e = .returned (.bool (risB l)) ∧ Drawn0 w w' := by
  obtain ⟨k, hk⟩ := Ev.rounds (rising_ev l (by omega))
  exact letter_Rising.calls k A c l _ w hr hc hk
theorem writes_calls (A : Option Addr) (c : Nat) (l : List S49) (hr : Kd.C k49 w A l.length l) (hc : l.length ≤ c) (hl : l.length ≤ 8796093022000) : Calls Try.prog 29 #[.slice A l.length c] w fun e w' => e = .returned (.bool (wriB l)) ∧ Below w.heap.size w w' := by
  obtain ⟨k, hk⟩ := Ev.rounds (writes_ev l hl)
  exact letter_writes.calls k A c l _ w hr hc hk
end
end Go.Proofs.Ytelgpkbnahgdoaa.LetSpec
