/- For every record and every text: what is encoded is decoded as the record, and what is decoded is encoded as just those bytes. No condition. -/
import Derived.Test.YtbfjbcaabijpfaaPye
import Derived.Test.YtbfjbcaabijpfaaFcorncriblaw08RecordBack
namespace Go.Proofs.Ytbfjbcaabijpfaa.Pure
open Go.RowKit Go.Proofs.Ytbfjbcaabijpfaa.Base Go.Proofs.Ytbfjbcaabijpfaa.PackMath Go.Proofs.Ytbfjbcaabijpfaa.PackDec Go.Proofs.Ytbfjbcaabijpfaa.PackFns Go.Proofs.Ytbfjbcaabijpfaa.LetSpec Go.Proofs.Ytbfjbcaabijpfaa.RecSpec Go.Proofs.Ytbfjbcaabijpfaa.Al Go.Proofs.YtbfjbcaabijpfaaW.PrintWords
set_option linter.unusedVariables false
set_option linter.unusedSimpArgs false
open Go.Proofs.Ytbfjbcaabijpfaa.Al.RD (noLet)
theorem rback_j0 (s : ByteArray) (hs : s.size ≤ 140737488351232) : Ev (fun k => corncriblaw08_RecordBack.j0 k s) true := by
  refine LetSpec.Ev.succ ?_
  simp only [corncriblaw08_RecordBack.j0]
  refine Ev.bind (ldec_ev s (by omega)) ?_
  by_cases h : (ldV s).2.2.2.2.2.2.2.2.2 = 0
  · obtain ⟨ns, ts, hv, he, h1, h2⟩ := ldV_ok h
    rw [hv]
    have hk := keys_len ns ts
    have hw := wrs_len ns ts
    have hen := encodeR_ev (rd ns 0) (rd ns 1) (rd ns 2) (rd ns 3) (rdOf ByteArray.empty ts 0) (rdOf ByteArray.empty ts 1) (rd ns 4 == 1) (keysOf ns ts) (wrsOf ns ts) (by omega) (by omega)
    have he' : encR (rd ns 0) (rd ns 1) (rd ns 2) (rd ns 3) (rdOf ByteArray.empty ts 0) (rdOf ByteArray.empty ts 1) (rd ns 4 == 1) (keysOf ns ts) (wrsOf ns ts) = (s, 0) := he
    rw [he'] at hen
    refine Ev.pos rfl (Ev.bind hen (Ev.pos rfl ?_))
    simp only [beq_self_eq_true]
    exact Ev.now _
  · rw [ldV_no h]
    refine Ev.neg (by decide) (Ev.bind (sameR_ev 0 0 0 0 ⟨#[]⟩ ⟨#[]⟩ false [] [] (by decide) (by decide)) (Ev.now _))
theorem RecordBackCore (x0 x1 x2 x3 : Int) (x4 x5 : ByteArray) (x6 : Bool) (x7 : List ByteArray) (x8 : List S50) (s : ByteArray) (h7 : x7.length * 16 ≤ 140737488351232) (h8 : x8.length * 40 ≤ 140737488351232) (hs : s.size ≤ 140737488351232) : ∃ k, corncriblaw08_RecordBack.f k x0 x1 x2 x3 x4 x5 x6 x7 x8 s = some true := by
  refine Ev.rounds (g := fun k => corncriblaw08_RecordBack.f k x0 x1 x2 x3 x4 x5 x6 x7 x8 s) ?_
  unfold corncriblaw08_RecordBack.f
  refine Ev.bind worksR_ev (Ev.pos rfl (Ev.bind (encodeR_ev x0 x1 x2 x3 x4 x5 x6 x7 x8 (by omega) (by omega)) ?_))
  by_cases hc : okR x0 x1 x2 x3 x4 x5 x6 x7 x8
  · have he : encR x0 x1 x2 x3 x4 x5 x6 x7 x8 = (strOfNums (enc (recN x0 x1 x2 x3 x6 x7 x8) (recT x4 x5 x7 x8)), 0) := if_pos hc
    have hsz : (encR x0 x1 x2 x3 x4 x5 x6 x7 x8).1.size ≤ 140737488355328 := by
      rw [he]
      have h1 := enc_len (rec_chk _ _ _ _ _ _ _ _ _ hc)
      have h2 : (strOfNums (enc (recN x0 x1 x2 x3 x6 x7 x8) (recT x4 x5 x7 x8))).size = (enc (recN x0 x1 x2 x3 x6 x7 x8) (recT x4 x5 x7 x8)).length := by rw [← B_len, B_nums, List.length_map]
      show (strOfNums _).size ≤ _
      omega
    have hd := ldec_ev (encR x0 x1 x2 x3 x4 x5 x6 x7 x8).1 hsz
    rw [ldV_enc _ _ _ _ _ _ _ _ _ hc] at hd
    refine Ev.pos (by rw [he]) (Ev.bind hd (Ev.pos rfl (Ev.bind (sameR_ev x0 x1 x2 x3 x4 x5 x6 x7 x8 (by omega) (by omega)) (Ev.pos rfl (rback_j0 s hs)))))
  · have he : encR x0 x1 x2 x3 x4 x5 x6 x7 x8 = (⟨#[]⟩, 80) := if_neg hc
    rw [he]
    exact Ev.neg (by decide) (Ev.pos (by rw [toList_eq]; rfl) (Ev.pos rfl (rback_j0 s hs)))
theorem RecordBack {V V' L0 L1 L2 L3 L4 L5 L6 Q7 Q8 : Prop} (x0 x1 x2 x3 : Int) (x4 x5 : ByteArray) (x6 : Bool) (x7 : List ByteArray) (x8 : List S50) (s : ByteArray) (_ : V) (_ : V') (h : L0 ∧ L1 ∧ L2 ∧ L3 ∧ L4 ∧ L5 ∧ L6 ∧ (x7.length * 16 ≤ 140737488351232 ∧ Q7) ∧ (x8.length * 40 ≤ 140737488351232 ∧ Q8)) (hs : s.size ≤ 140737488351232) : ∃ k, corncriblaw08_RecordBack.f k x0 x1 x2 x3 x4 x5 x6 x7 x8 s = some true :=
  RecordBackCore x0 x1 x2 x3 x4 x5 x6 x7 x8 s h.2.2.2.2.2.2.2.1.1 h.2.2.2.2.2.2.2.2.1 hs
end Go.Proofs.Ytbfjbcaabijpfaa.Pure
