/- For every letter and every text: what is encoded is decoded as the letter, and what is decoded is encoded as just those bytes. No condition. -/
import Derived.Test.YtelgpkbnahgdoaaPbd
import Derived.Test.YtelgpkbnahgdoaaFcorncriblaw07LetterBack
namespace Go.Proofs.Ytelgpkbnahgdoaa.Pure
open Go.RowKit Go.Proofs.Ytelgpkbnahgdoaa.Base Go.Proofs.Ytelgpkbnahgdoaa.PackMath Go.Proofs.Ytelgpkbnahgdoaa.PackDec Go.Proofs.Ytelgpkbnahgdoaa.PackFns Go.Proofs.Ytelgpkbnahgdoaa.LetSpec Go.Proofs.Ytelgpkbnahgdoaa.Al Go.Proofs.YtelgpkbnahgdoaaW.PrintWords
set_option linter.unusedVariables false
set_option linter.unusedSimpArgs false
open Go.Proofs.Ytelgpkbnahgdoaa.Al.LD (noLet)
theorem lback_j0 (s : ByteArray) (hs : s.size ≤ 140737488351232) : Ev (fun k => corncriblaw07_LetterBack.j0 k s) true := by
  refine LetSpec.Ev.succ ?_
  simp only [corncriblaw07_LetterBack.j0]
  refine Ev.bind (ldec_ev s (by omega)) ?_
  by_cases h : (ldV s).2.2.2.2.2.2.2.2.2 = 0
  · obtain ⟨ns, ts, hv, he, h1, h2⟩ := ldV_ok h
    rw [hv]
    have hk := keys_len ns ts
    have hw := wrs_len ns ts
    have hen := encodeL_ev (rd ns 0) (rd ns 1) (rd ns 2) (rd ns 3) (rd ns 4) (rd ns 5) (rdOf ByteArray.empty ts 0) (keysOf ns ts) (wrsOf ns ts) (by omega) (by omega)
    have he' : encL (rd ns 0) (rd ns 1) (rd ns 2) (rd ns 3) (rd ns 4) (rd ns 5) (rdOf ByteArray.empty ts 0) (keysOf ns ts) (wrsOf ns ts) = (s, 0) := he
    rw [he'] at hen
    refine Ev.pos rfl (Ev.bind hen (Ev.pos rfl ?_))
    simp only [beq_self_eq_true]
    exact Ev.now _
  · rw [ldV_no h]
    refine Ev.neg (by decide) (Ev.bind (sameL_ev 0 0 0 0 0 0 ⟨#[]⟩ [] [] (by decide) (by decide)) (Ev.now _))
theorem LetterBackCore (x0 x1 x2 x3 x4 x5 : Int) (x6 : ByteArray) (x7 : List ByteArray) (x8 : List S49) (s : ByteArray) (h7 : x7.length * 16 ≤ 140737488351232) (h8 : x8.length * 40 ≤ 140737488351232) (hs : s.size ≤ 140737488351232) : ∃ k, corncriblaw07_LetterBack.f k x0 x1 x2 x3 x4 x5 x6 x7 x8 s = some true := by
  refine Ev.rounds (g := fun k => corncriblaw07_LetterBack.f k x0 x1 x2 x3 x4 x5 x6 x7 x8 s) ?_
  unfold corncriblaw07_LetterBack.f
  refine Ev.bind worksL_ev (Ev.pos rfl (Ev.bind (encodeL_ev x0 x1 x2 x3 x4 x5 x6 x7 x8 (by omega) (by omega)) ?_))
  by_cases hc : chkL x0 x1 x2 x3 x4 x5 x6 x7 x8 = 0
  · have he : encL x0 x1 x2 x3 x4 x5 x6 x7 x8 = (strOfNums (enc (letN x0 x1 x2 x3 x4 x5 x7 x8) (letT x6 x7 x8)), 0) := if_pos hc
    have hsz : (encL x0 x1 x2 x3 x4 x5 x6 x7 x8).1.size ≤ 140737488355328 := by
      rw [he]
      have h1 := enc_len (let_chk _ _ _ _ _ _ _ _ _ hc)
      have h2 : (strOfNums (enc (letN x0 x1 x2 x3 x4 x5 x7 x8) (letT x6 x7 x8))).size = (enc (letN x0 x1 x2 x3 x4 x5 x7 x8) (letT x6 x7 x8)).length := by rw [← B_len, B_nums, List.length_map]
      show (strOfNums _).size ≤ _
      omega
    have hd := ldec_ev (encL x0 x1 x2 x3 x4 x5 x6 x7 x8).1 hsz
    rw [ldV_enc _ _ _ _ _ _ _ _ _ hc] at hd
    refine Ev.pos (by rw [he]) (Ev.bind hd (Ev.pos rfl (Ev.bind (sameL_ev x0 x1 x2 x3 x4 x5 x6 x7 x8 (by omega) (by omega)) (Ev.pos rfl (lback_j0 s hs)))))
  · have he : encL x0 x1 x2 x3 x4 x5 x6 x7 x8 = (⟨#[]⟩, chkL x0 x1 x2 x3 x4 x5 x6 x7 x8) := if_neg hc
    rw [he]
    have h70 : chkL x0 x1 x2 x3 x4 x5 x6 x7 x8 = 70 := (chk_two _ _ _ _ _ _ _ _ _).resolve_left hc
    exact Ev.neg hc (Ev.pos (by rw [toList_eq]; rfl) (Ev.pos h70 (lback_j0 s hs)))
theorem LetterBack {V V' L0 L1 L2 L3 L4 L5 L6 Q7 Q8 : Prop} (x0 x1 x2 x3 x4 x5 : Int) (x6 : ByteArray) (x7 : List ByteArray) (x8 : List S49) (s : ByteArray) (_ : V) (_ : V') (h : L0 ∧ L1 ∧ L2 ∧ L3 ∧ L4 ∧ L5 ∧ L6 ∧ (x7.length * 16 ≤ 140737488351232 ∧ Q7) ∧ (x8.length * 40 ≤ 140737488351232 ∧ Q8)) (hs : s.size ≤ 140737488351232) : ∃ k, corncriblaw07_LetterBack.f k x0 x1 x2 x3 x4 x5 x6 x7 x8 s = some true :=
  LetterBackCore x0 x1 x2 x3 x4 x5 x6 x7 x8 s h.2.2.2.2.2.2.2.1.1 h.2.2.2.2.2.2.2.2.1 hs
end Go.Proofs.Ytelgpkbnahgdoaa.Pure
