/- For every number of nodes, transaction and letters: how votes stand, and who is missing, is as the reference has it, of each kind; the letters stay as they are. No condition. -/
import Derived.Test.YtdecpagcaondiaaPve
import Derived.Test.YtdecpagcaondiaaFcorncriblaw21TermVotes
namespace Go.Proofs.Ytdecpagcaondiaa.Pure
open Go.RowKit Go.Proofs.Ytdecpagcaondiaa.Base Go.Proofs.Ytdecpagcaondiaa.Al Go.Proofs.Ytdecpagcaondiaa.LetSpec Go.Proofs.Ytdecpagcaondiaa.TermSpec Go.Proofs.Ytdecpagcaondiaa.TermRef Go.Proofs.YtdecpagcaondiaaW.PrintWords
set_option linter.unusedVariables false
set_option linter.unusedSimpArgs false
theorem sameI_l0 (l : List Int) (hl : l.length ≤ 1000) : ∀ (d i : Nat), i + d = l.length → Ev (fun k => corncribbook_SameInts.l0 k l l i) true
  | 0, i, h => by
    refine Ev.succ ?_
    simp only [corncribbook_SameInts.l0]
    exact Ev.neg (by omega) (Ev.now _)
  | d + 1, i, h => by
    have e : wrap64 ((i : Int) + 1) = ((i + 1 : Nat) : Int) := by rw [wrap_id (by omega) (by omega)]; omega
    have ih := sameI_l0 l hl d (i + 1) (by omega)
    refine Ev.succ ?_
    simp only [corncribbook_SameInts.l0, e]
    exact Ev.pos (by omega) (Ev.pos (by omega) (Ev.pos (by omega) (Ev.pos (by trivial) ih)))
theorem sameI_ev (l : List Int) (hl : l.length ≤ 1000) : Ev (fun k => corncribbook_SameInts.f k l l) true := by
  unfold corncribbook_SameInts.f
  exact Ev.pos rfl (sameI_l0 l hl l.length 0 (by omega))
theorem miss_len (nodes txn kind : Int) (l : List S34) : (missL nodes txn kind l).1.length ≤ 1000 := by
  unfold missL
  split
  · rename_i h
    obtain ⟨h1, h2, _⟩ := wrong_zero h
    have h3 : ∀ (os : List (Option Nat)) (j : Nat), (mgo os j).length ≤ os.length := by
      intro os
      induction os with
      | nil => intro j; exact Nat.le_refl _
      | cons o r ih =>
        intro j
        cases o with
        | none => simp only [mgo, List.length_cons]; have := ih (j + 1); omega
        | some p => simp only [mgo, List.length_cons]; have := ih (j + 1); omega
    have := h3 (full nodes txn kind l) 0
    rw [full_len] at this
    show (mgo _ 0).length ≤ 1000
    omega
  · exact Nat.zero_le _
theorem votes_loop (nodes txn : Int) (l : List S34) (hl : l.length < 1256584717458) (hf : fits l) (hs : lenOk l = true) : ∀ (d i : Nat), i + d = 9 → Ev (fun k => corncriblaw21_TermVotes.l0 k nodes txn l l i) true
  | 0, i, h => by
    refine Ev.succ ?_
    simp only [corncriblaw21_TermVotes.l0]
    exact Ev.neg (by omega) (Ev.bind (sameLs_ev l hl hf) (Ev.now _))
  | d + 1, i, h => by
    have e : wrap64 ((i : Int) + 1) = ((i + 1 : Nat) : Int) := by rw [wrap_id (by omega) (by omega)]; omega
    have ih := votes_loop nodes txn l hl hf hs d (i + 1) (by omega)
    refine Ev.succ ?_
    simp only [corncriblaw21_TermVotes.l0, e]
    rw [show term_Missing.f nodes txn i l = some (missL nodes txn i l) from if_pos hs]
    exact Ev.pos (by omega) (Ev.some_bind (Ev.bind (rmissing_ev nodes txn i l hs) (Ev.bind (sameI_ev _ (miss_len nodes txn i l)) (Ev.pos rfl (Ev.pos rfl ih)))))
theorem TermVotesCore (nodes txn : Int) (l : List S34) (hl : l.length * 112 ≤ 140737488351232) (h : ∀ x ∈ l, x.f7.length * 16 ≤ 140737488351232 ∧ x.f8.length * 40 ≤ 140737488351232) : ∃ k, corncriblaw21_TermVotes.f k nodes txn l = some true := by
  have hf := fits_of h
  have hs := lenOk_of h
  have hl' : l.length < 1256584717458 := by omega
  refine Ev.rounds (g := fun k => corncriblaw21_TermVotes.f k nodes txn l) ?_
  unfold corncriblaw21_TermVotes.f
  refine Ev.bind (copied_ev l hl' hf) ?_
  rw [votes_eq hs, works21]
  refine Ev.some_bind (Ev.bind (rvotes_ev nodes txn l hs) (Ev.pos rfl (Ev.pos rfl (Ev.some_bind (Ev.succ ?_)))))
  simp only [corncriblaw21_TermVotes.j0]
  exact Ev.neg (by decide) (votes_loop nodes txn l hl' hf hs 9 0 rfl)
theorem TermVotes {V0 V1 V2 U0 U1 : Prop} {L0 L1 L2 L3 L4 L5 L6 Q7 Q8 : S34 → Prop} (nodes txn : Int) (l : List S34) (_ : V0) (_ : V1) (_ : V2) (_ : U0) (_ : U1) (h : l.length * 112 ≤ 140737488351232 ∧ ∀ x ∈ l, L0 x ∧ L1 x ∧ L2 x ∧ L3 x ∧ L4 x ∧ L5 x ∧ L6 x ∧ (x.f7.length * 16 ≤ 140737488351232 ∧ Q7 x) ∧ (x.f8.length * 40 ≤ 140737488351232 ∧ Q8 x)) : ∃ k, corncriblaw21_TermVotes.f k nodes txn l = some true :=
  TermVotesCore nodes txn l h.1 fun x hx => ⟨(h.2 x hx).2.2.2.2.2.2.2.1.1, (h.2 x hx).2.2.2.2.2.2.2.2.1⟩
end Go.Proofs.Ytdecpagcaondiaa.Pure
