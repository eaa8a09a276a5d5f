/- For every letter: its bytes are those of the letter beside it just where the two letters are the same. No condition. -/
import Derived.Test.YtelgpkbnahgdoaaLetEnc2
import Derived.Test.YtelgpkbnahgdoaaLetSameL
import Derived.Test.YtelgpkbnahgdoaaPackTurn
import Derived.Test.YtelgpkbnahgdoaaFcorncriblaw07LetterOther
namespace Go.Proofs.Ytelgpkbnahgdoaa.Pure
open Go.RowKit Go.Proofs.Ytelgpkbnahgdoaa.Base Go.Proofs.Ytelgpkbnahgdoaa.PackMath Go.Proofs.Ytelgpkbnahgdoaa.PackDec Go.Proofs.Ytelgpkbnahgdoaa.LetSpec Go.Proofs.Ytelgpkbnahgdoaa.Al Go.Proofs.YtelgpkbnahgdoaaW.PrintWords
theorem bytesOf_range (t : ByteArray) : ∀ b ∈ bytesOf t, 0 ≤ b ∧ b ≤ 255 := fun b hb => rest_range t 0 b (by rw [rest_zero]; exact hb)
theorem enc_range (ns : List Int) (ts : List ByteArray) : ∀ b ∈ enc ns ts, 0 ≤ b ∧ b ≤ 255 := by
  intro b hb
  simp only [enc, List.mem_append] at hb
  rcases hb with ((hb | hb) | hb) | hb
  · exact plain_range _ b hb
  · simp only [body, List.mem_flatten, List.mem_map] at hb
    obtain ⟨l, ⟨n, _, rfl⟩, hb⟩ := hb
    exact plain_range _ b hb
  · exact plain_range _ b hb
  · simp only [tails, List.mem_flatten, List.mem_map] at hb
    obtain ⟨l, ⟨t, _, rfl⟩, hb⟩ := hb
    rcases List.mem_append.1 hb with hb | hb
    · exact plain_range _ b hb
    · exact bytesOf_range t b hb
theorem enc_inj {ns ms : List Int} {ts us : List ByteArray} (h1 : chk ns ts = 0) (h2 : chk ms us = 0) (h : strOfNums (enc ns ts) = strOfNums (enc ms us)) : ns = ms ∧ ts = us := by
  have d1 := dec_enc (s := strOfNums (enc ns ts)) (r := []) h1 (by rw [bytes_str (enc_range ns ts), List.append_nil])
  have d2 := dec_enc (s := strOfNums (enc ms us)) (r := []) h2 (by rw [bytes_str (enc_range ms us), List.append_nil])
  rw [if_pos rfl] at d1 d2
  rw [h, d2] at d1
  injection d1 with e1 d1
  injection d1 with e2 d1
  exact ⟨e1.symm, e2.symm⟩
/-- The same as the letter beside it. -/
def ctlB (x0 x5 : Int) (x6 : ByteArray) (x7 : List ByteArray) (x8 : List S49) : Bool := decide (x0 = 6) && (decide (x5 = 0) && (x6.toList.isEmpty && (decide (x7.length = 0) && decide (x8.length = 0))))
theorem ctl_ev (x0 x1 x2 x3 x4 x5 : Int) (x6 : ByteArray) (x7 : List ByteArray) (x8 : List S49) : Ev (fun k => corncribbook_SameLetter.f k x0 x1 x2 x3 x4 x5 x6 x7 x8 6 x1 x2 x3 x4 0 (⟨#[]⟩ : ByteArray) [] []) (ctlB x0 x5 x6 x7 x8) := by
  unfold corncribbook_SameLetter.f
  have e0 : (⟨#[]⟩ : ByteArray).toList = [] := by rw [toList_eq]; rfl
  rw [e0]
  by_cases g0 : x0 = 6
  case neg => rw [show ctlB x0 x5 x6 x7 x8 = false by simp [ctlB, g0]]; exact Ev.neg g0 (Ev.now _)
  refine Ev.pos g0 (Ev.pos rfl (Ev.pos rfl (Ev.pos rfl (Ev.pos rfl ?_))))
  by_cases g5 : x5 = 0
  case neg => rw [show ctlB x0 x5 x6 x7 x8 = false by simp [ctlB, g5]]; exact Ev.neg g5 (Ev.now _)
  refine Ev.pos g5 ?_
  by_cases g6 : x6.toList = []
  case neg => rw [show ctlB x0 x5 x6 x7 x8 = false by simp [ctlB, g6]]; exact Ev.neg g6 (Ev.now _)
  refine Ev.pos g6 ?_
  by_cases g7 : x7.length = 0
  case neg =>
    rw [show ctlB x0 x5 x6 x7 x8 = false by unfold ctlB; rw [decide_eq_false g7]; simp]
    refine Ev.bind (Ev.now' (r := false) ?_) (Ev.neg (by simp) (Ev.now _))
    intro k
    unfold corncribbook_SameTexts.f
    exact if_neg (by simp only [List.length_nil]; omega)
  obtain rfl := List.eq_nil_of_length_eq_zero g7
  refine Ev.bind (sameT_ev [] (by simp)) (Ev.pos rfl ?_)
  by_cases g8 : x8.length = 0
  case neg =>
    rw [show ctlB x0 x5 x6 [] x8 = false by unfold ctlB; rw [decide_eq_false g8]; simp]
    refine Ev.bind (Ev.now' (r := false) ?_) (Ev.now _)
    intro k
    unfold corncribbook_SameWrites.f
    exact if_neg (by simp only [List.length_nil]; omega)
  obtain rfl := List.eq_nil_of_length_eq_zero g8
  rw [show ctlB x0 x5 x6 [] [] = true by simp [ctlB, g0, g5, g6]]
  exact Ev.bind (sameW_ev [] (by simp)) (Ev.now _)
theorem ctl_ok {x0 x1 x2 x3 x4 x5 : Int} {x6 : ByteArray} {x7 : List ByteArray} {x8 : List S49} (c1 : chkL x0 x1 x2 x3 x4 x5 x6 x7 x8 = 0) : chkL 6 x1 x2 x3 x4 0 (⟨#[]⟩ : ByteArray) [] [] = 0 := by
  rw [ref_chk] at c1 ⊢
  by_cases hg : addrB x1 = true ∧ addrB x2 = true ∧ 1 ≤ x3 ∧ x3 ≤ 1125899906842623 ∧ 0 ≤ x4 ∧ x4 ≤ 1125899906842624 ∧ 0 ≤ x5 ∧ x5 ≤ 4
  case neg => rw [if_neg hg] at c1; cases c1
  obtain ⟨g0, g1, g2, g3, g4, g5, g6, g7⟩ := hg
  rw [if_pos ⟨g0, g1, g2, g3, g4, g5, by omega, by omega⟩]
  simp [refV, bareB, toList_eq, B]
theorem LetterOtherCore (x0 x1 x2 x3 x4 x5 : Int) (x6 : ByteArray) (x7 : List ByteArray) (x8 : List S49) (h7 : x7.length * 16 ≤ 140737488351232) (h8 : x8.length * 40 ≤ 140737488351232) : ∃ k, corncriblaw07_LetterOther.f k x0 x1 x2 x3 x4 x5 x6 x7 x8 = some true := by
  refine Ev.rounds (g := fun k => corncriblaw07_LetterOther.f k x0 x1 x2 x3 x4 x5 x6 x7 x8) ?_
  unfold corncriblaw07_LetterOther.f
  refine Ev.bind worksL_ev (Ev.pos rfl (Ev.bind (encodeL_ev x0 x1 x2 x3 x4 x5 x6 x7 x8 (by omega) (by omega)) ?_))
  by_cases c1 : chkL x0 x1 x2 x3 x4 x5 x6 x7 x8 = 0
  case neg => exact Ev.neg (by unfold encL; rw [if_neg c1]; exact c1) (Ev.now _)
  refine Ev.pos (by unfold encL; rw [if_pos c1]) (Ev.bind (encodeL_ev 6 x1 x2 x3 x4 0 (⟨#[]⟩ : ByteArray) [] [] (by simp) (by simp)) ?_)
  have c2 := ctl_ok c1
  refine Ev.pos (by unfold encL; rw [if_pos c2]) (Ev.bind (ctl_ev x0 x1 x2 x3 x4 x5 x6 x7 x8) ?_)
  have key : ((encL x0 x1 x2 x3 x4 x5 x6 x7 x8).1.toList == (encL 6 x1 x2 x3 x4 0 (⟨#[]⟩ : ByteArray) [] []).1.toList) = ctlB x0 x5 x6 x7 x8 := by
    unfold encL
    rw [if_pos c1, if_pos c2]
    by_cases hs : ctlB x0 x5 x6 x7 x8 = true
    · rw [hs]
      unfold ctlB at hs
      simp only [Bool.and_eq_true, decide_eq_true_eq, List.isEmpty_iff] at hs
      obtain ⟨rfl, rfl, e6, e7, e8⟩ := hs
      obtain rfl := List.eq_nil_of_length_eq_zero e7
      obtain rfl := List.eq_nil_of_length_eq_zero e8
      obtain rfl : x6 = (⟨#[]⟩ : ByteArray) := B_inj (by rw [← toList_eq, e6]; rfl)
      simp
    · have hs' : ctlB x0 x5 x6 x7 x8 = false := by simpa using hs
      rw [hs']
      refine beq_eq_false_iff_ne.2 (fun he => hs ?_)
      rw [toList_eq, toList_eq] at he
      obtain ⟨e1, e2⟩ := enc_inj (let_chk _ _ _ _ _ _ _ _ _ c1) (let_chk _ _ _ _ _ _ _ _ _ c2) (B_inj he)
      have f1 : [x0, x1, x2, x3, x4, x5, (x7.length : Int)] ++ flagsOf x8 = [6, x1, x2, x3, x4, 0, 0] := e1
      simp only [List.cons_append, List.nil_append, List.cons.injEq, true_and] at f1
      obtain ⟨g0, g5, g7, g8⟩ := f1
      have l8 : x8.length = 0 := by have := flags_len x8; rw [g8] at this; simpa using this.symm
      have l7 : x7.length = 0 := by omega
      obtain rfl := List.eq_nil_of_length_eq_zero l7
      obtain rfl := List.eq_nil_of_length_eq_zero l8
      have f2 : [x6] = [(⟨#[]⟩ : ByteArray)] := by simpa [letT, pairsOf] using e2
      injection f2 with g6
      subst g6 g0 g5
      simp [ctlB, toList_eq, B]
  refine Ev.now' (fun k => ?_)
  rw [key]
  simp
theorem LetterOther {V L0 L1 L2 L3 L4 L5 L6 Q7 Q8 : Prop} (x0 x1 x2 x3 x4 x5 : Int) (x6 : ByteArray) (x7 : List ByteArray) (x8 : List S49) (_ : V) (h : L0 ∧ L1 ∧ L2 ∧ L3 ∧ L4 ∧ L5 ∧ L6 ∧ (x7.length * 16 ≤ 140737488351232 ∧ Q7) ∧ (x8.length * 40 ≤ 140737488351232 ∧ Q8)) : ∃ k, corncriblaw07_LetterOther.f k x0 x1 x2 x3 x4 x5 x6 x7 x8 = some true := LetterOtherCore x0 x1 x2 x3 x4 x5 x6 x7 x8 h.2.2.2.2.2.2.2.1.1 h.2.2.2.2.2.2.2.2.1
end Go.Proofs.Ytelgpkbnahgdoaa.Pure
