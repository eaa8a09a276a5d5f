/- For every list of texts and every number: a rising list with one text out rises still, and turned round it rises just where it holds one text alone. No condition. -/
import Derived.Test.YtelgpkbnahgdoaaLetEnc2
import Derived.Test.YtelgpkbnahgdoaaLess
import Derived.Test.YtelgpkbnahgdoaaFcorncriblaw07LetterRising
namespace Go.Proofs.Ytelgpkbnahgdoaa.Pure
open Go.RowKit Go.Proofs.Ytelgpkbnahgdoaa.Base Go.Proofs.Ytelgpkbnahgdoaa.LetSpec Go.Proofs.Ytelgpkbnahgdoaa.Al Go.Proofs.YtelgpkbnahgdoaaW.PrintWords
theorem less_trans : ∀ a b c : List UInt8, Op.bytesLess a b = true → Op.bytesLess b c = true → Op.bytesLess a c = true
  | _, _, [], _, h => by simp [Op.bytesLess] at h
  | _, [], _ :: _, h, _ => by simp [Op.bytesLess] at h
  | [], _ :: _, _ :: _, _, _ => rfl
  | a :: x, b :: y, c :: z, h1, h2 => by
    have ih := less_trans x y z
    simp only [Op.bytesLess, Bool.or_eq_true, decide_eq_true_eq, Bool.and_eq_true, beq_iff_eq, UInt8.lt_iff_toNat_lt] at h1 h2 ⊢
    rcases h1 with h1 | ⟨rfl, h1⟩
    · rcases h2 with h2 | ⟨rfl, h2⟩
      · exact .inl (by omega)
      · exact .inl h1
    · rcases h2 with h2 | ⟨rfl, h2⟩
      · exact .inl h2
      · exact .inr ⟨rfl, ih h1 h2⟩
theorem less_asym {a b : List UInt8} (h : Op.bytesLess a b = true) : Op.bytesLess b a = false := by
  have := less_total a b
  rw [h, Bool.true_or] at this
  simpa using this.symm
def Lt (a b : ByteArray) : Prop := Op.bytesLess a.toList b.toList = true
theorem ris_some : ∀ (l : List ByteArray) (p : ByteArray), risFrom (some p) l = true ↔ (∀ s ∈ l, keyB s = true) ∧ (p :: l).Pairwise Lt
  | [], p => by simp [risFrom]
  | x :: l, p => by
    have ih := ris_some l x
    have e : risFrom (some p) (x :: l) = (keyB x && (Op.bytesLess p.toList x.toList && risFrom (some x) l)) := rfl
    rw [e, Bool.and_eq_true, Bool.and_eq_true, ih]
    constructor
    · rintro ⟨h1, h2, h3, h4⟩
      refine ⟨fun s hs => ?_, List.pairwise_cons.2 ⟨fun y hy => ?_, h4⟩⟩
      · rcases List.mem_cons.1 hs with rfl | hs
        · exact h1
        · exact h3 s hs
      · rcases List.mem_cons.1 hy with rfl | hy
        · exact h2
        · exact less_trans _ _ _ h2 ((List.pairwise_cons.1 h4).1 y hy)
    · rintro ⟨h1, h2⟩
      obtain ⟨h3, h4⟩ := List.pairwise_cons.1 h2
      exact ⟨h1 x List.mem_cons_self, h3 x List.mem_cons_self, fun s hs => h1 s (List.mem_cons_of_mem _ hs), h4⟩
theorem ris_iff (l : List ByteArray) : risB l = true ↔ (∀ s ∈ l, keyB s = true) ∧ l.Pairwise Lt := by
  cases l with
  | nil => simp [risB, risFrom]
  | cons x l =>
    have e : risB (x :: l) = (keyB x && risFrom (some x) l) := rfl
    rw [e, Bool.and_eq_true, ris_some]
    constructor
    · rintro ⟨h1, h2, h3⟩
      refine ⟨fun s hs => ?_, h3⟩
      rcases List.mem_cons.1 hs with rfl | hs
      · exact h1
      · exact h2 s hs
    · rintro ⟨h1, h2⟩
      exact ⟨h1 x List.mem_cons_self, fun s hs => h1 s (List.mem_cons_of_mem _ hs), h2⟩
theorem without_rises {l : List ByteArray} (h : risB l = true) (i : Nat) : risB (l.take i ++ l.drop (i + 1)) = true := by
  obtain ⟨h1, h2⟩ := (ris_iff l).1 h
  have hs : (l.take i ++ l.drop (i + 1)).Sublist l := by
    have e : l = l.take i ++ l.drop i := (List.take_append_drop i l).symm
    conv => rhs; rw [e]
    refine List.Sublist.append_left ?_ _
    have : l.drop (i + 1) = (l.drop i).drop 1 := by rw [List.drop_drop]
    rw [this]
    exact List.drop_sublist 1 _
  exact (ris_iff _).2 ⟨fun s hs' => h1 s (hs.subset hs'), h2.sublist hs⟩
theorem turned_rises {l : List ByteArray} (h : risB l = true) (h0 : l.length ≠ 0) : risB l.reverse = decide (l.length = 1) := by
  obtain ⟨h1, h2⟩ := (ris_iff l).1 h
  by_cases hl : l.length = 1
  · rw [decide_eq_true hl]
    obtain ⟨s, rfl⟩ := List.length_eq_one_iff.1 hl
    exact h
  · rw [decide_eq_false hl]
    apply Bool.eq_false_iff.2
    intro hr
    obtain ⟨_, h3⟩ := (ris_iff _).1 hr
    rw [List.pairwise_reverse] at h3
    match l, h0, hl, h2, h3 with
    | [], h0, _, _, _ => exact h0 rfl
    | [_], _, hl, _, _ => exact hl rfl
    | a :: b :: t, _, _, h2, h3 =>
      have e1 : Lt a b := (List.pairwise_cons.1 h2).1 b List.mem_cons_self
      have e2 : Lt b a := (List.pairwise_cons.1 h3).1 b List.mem_cons_self
      have := less_asym e1
      rw [show Op.bytesLess b.toList a.toList = true from e2] at this
      cases this
theorem turn_l0 (l wo : List ByteArray) (hl : l.length * 16 ≤ 140737488351232) (h0 : l.length ≠ 0) (hr : risB l = true) (hwl : wo.length ≤ 8796093022000) (hw : risB wo = true) : ∀ (d i : Nat), i + d = l.length → Ev (fun k => corncriblaw07_LetterRising.l0 k l wo (l.take i).reverse l (l.length : Int) (i : Int)) true
  | 0, i, h => by
    refine Ev.succ ?_
    simp only [corncriblaw07_LetterRising.l0]
    rw [List.take_of_length_le (by omega)]
    refine Ev.neg (by omega) (Ev.bind (rising_ev wo (by omega)) (Ev.pos hw (Ev.bind (rising_ev l.reverse (by simp; omega)) ?_)))
    rw [turned_rises hr h0]
    by_cases h1 : l.length = 1
    · rw [decide_eq_true h1, h1]
      exact Ev.now _
    · rw [decide_eq_false h1]
      refine Ev.now' (fun _ => ?_)
      have : ((l.length : Int) == 1) = false := beq_eq_false_iff_ne.2 (by omega)
      rw [this]
      rfl
  | d + 1, i, h => by
    have hi : i < l.length := by omega
    have ih := turn_l0 l wo hl h0 hr hwl hw d (i + 1) (by omega)
    have e : wrap64 ((i : Int) + 1) = ((i + 1 : Nat) : Int) := by rw [wrap_id (by omega) (by omega)]; omega
    have hk : keyB l[i] = true := ((ris_iff l).1 hr).1 _ (List.getElem_mem hi)
    rw [List.take_succ_eq_append_getElem hi, List.reverse_append] at ih
    refine Ev.succ ?_
    simp only [corncriblaw07_LetterRising.l0]
    rw [e, rdOf_get hi, key_eq, hk]
    exact Ev.pos (by omega) (Ev.pos (by omega) (Ev.pos (by omega) (Ev.some_bind (Ev.pos rfl (Ev.some_bind (Ev.pos (by simp; omega) ih))))))
theorem among_eq (a n : Int) (h0 : 0 < n) (hn : n ≤ 4611686018427387904) : corncribbook_Among.f a n = some (a % n) := by
  unfold corncribbook_Among.f
  rw [if_neg (by omega)]
  have h1 : -n < Int.tmod a n ∧ (Int.tmod a n) % n = a % n := by
    rcases Int.le_total 0 a with ha | ha
    · rw [Int.tmod_eq_emod_of_nonneg ha]
      have := Int.emod_nonneg a (by omega : n ≠ 0)
      exact ⟨by omega, Int.emod_emod_of_dvd _ (Int.dvd_refl _)⟩
    · obtain ⟨b, rfl⟩ : ∃ b, a = -b := ⟨-a, by omega⟩
      rw [Int.neg_tmod, Int.tmod_eq_emod_of_nonneg (by omega)]
      have := Int.emod_lt_of_pos b h0
      refine ⟨by omega, ?_⟩
      rw [Int.neg_emod_eq_sub_emod, Int.neg_emod_eq_sub_emod, Int.sub_emod_emod]
  have h2 : Int.tmod a n < n := Int.tmod_lt_of_pos a h0
  obtain ⟨h1, h3⟩ := h1
  rw [wrap_id (by omega) (by omega), Int.tmod_eq_emod_of_nonneg (by omega), Int.add_emod_right, h3]
theorem LetterRisingCore (l : List ByteArray) (n : Int) (hl : l.length * 16 ≤ 140737488351232) : ∃ k, corncriblaw07_LetterRising.f k l n = some true := by
  refine Ev.rounds (g := fun k => corncriblaw07_LetterRising.f k l n) ?_
  have nil : Ev (fun k => corncriblaw07_LetterRising.j0 k l n true) true := by
    refine Ev.succ ?_
    simp only [corncriblaw07_LetterRising.j0]
    exact Ev.pos trivial (Ev.bind (rising_ev [] (by simp)) (Ev.now _))
  unfold corncriblaw07_LetterRising.f
  refine Ev.bind worksL_ev (Ev.pos rfl ?_)
  by_cases h0 : l.length = 0
  · exact Ev.pos (by omega) nil
  refine Ev.neg (by omega) (Ev.bind (rising_ev l (by omega)) ?_)
  by_cases hr : risB l = true
  case neg =>
    have hr' : risB l = false := by simpa using hr
    rw [hr']
    exact nil
  rw [hr]
  refine Ev.succ ?_
  simp only [corncriblaw07_LetterRising.j0]
  refine Ev.neg (by simp) ?_
  rw [among_eq n (l.length : Int) (by omega) (by omega)]
  obtain ⟨i, hi⟩ : ∃ i : Nat, n % (l.length : Int) = (i : Int) := ⟨_, (Int.toNat_of_nonneg (Int.emod_nonneg n (by omega))).symm⟩
  have hlt : i < l.length := by
    have := Int.emod_lt_of_pos n (show (0 : Int) < (l.length : Int) by omega)
    omega
  rw [hi]
  have e : wrap64 ((i : Int) + 1) = ((i + 1 : Nat) : Int) := by rw [wrap_id (by omega) (by omega)]; omega
  refine Ev.some_bind (Ev.some_bind ?_)
  simp only [e, Int.toNat_natCast, List.nil_append]
  have t1 : (l.take i).length = i := by rw [List.length_take]; omega
  have t2 : (l.drop (i + 1)).length = l.length - (i + 1) := List.length_drop
  refine Ev.pos (by omega) (Ev.pos (by omega) (Ev.pos (by simp; omega) (Ev.some_bind (Ev.pos (by omega) (Ev.pos (by omega) (Ev.pos (by rw [t1, t2]; omega) ?_))))))
  exact turn_l0 l _ hl h0 hr (by rw [List.length_append, t1, t2]; omega) (without_rises hr i) l.length 0 (by omega)
theorem LetterRising {V0 V1 L1 Q : Prop} (l : List ByteArray) (n : Int) (_ : V0) (_ : V1) (h : l.length * 16 ≤ 140737488351232 ∧ Q) (_ : L1) : ∃ k, corncriblaw07_LetterRising.f k l n = some true := LetterRisingCore l n h.1
end Go.Proofs.Ytelgpkbnahgdoaa.Pure
