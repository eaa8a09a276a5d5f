/- For every text: what it is as a record is as the reference has it. No condition. -/
import Derived.Test.YtbfjbcaabijpfaaPzh
import Derived.Test.YtbfjbcaabijpfaaFcorncriblaw08RecordReads
namespace Go.Proofs.Ytbfjbcaabijpfaa.Pure
open Go.RowKit Go.Proofs.Ytbfjbcaabijpfaa.Base Go.Proofs.Ytbfjbcaabijpfaa.PackMath Go.Proofs.Ytbfjbcaabijpfaa.PackDec Go.Proofs.Ytbfjbcaabijpfaa.PackFns Go.Proofs.Ytbfjbcaabijpfaa.LetSpec Go.Proofs.Ytbfjbcaabijpfaa.RecSpec Go.Proofs.Ytbfjbcaabijpfaa.Al Go.Proofs.YtbfjbcaabijpfaaW.PrintWords
set_option linter.unusedVariables false
set_option linter.unusedSimpArgs false
open Go.Proofs.Ytbfjbcaabijpfaa.Al.RD (wsOf ws_len ws_succ wOf)
theorem pairs_l0 (fl : List Int) (rs : List ByteArray) (hf : fl.length ≤ 1024) (hr : rs.length = 2 * fl.length) : ∀ (d i : Nat), i + d = fl.length → Ev (fun k => corncribref07_Pairs.l0 k fl rs (wsOf fl rs i) i) (wsOf fl rs fl.length, true)
  | 0, i, h => by
    obtain rfl : i = fl.length := by omega
    refine LetSpec.Ev.succ ?_
    simp only [corncribref07_Pairs.l0]
    exact Ev.neg (by omega) (Ev.now _)
  | d + 1, i, h => by
    have ih := pairs_l0 fl rs hf hr d (i + 1) (by omega)
    have e : wrap64 ((i : Int) + 1) = ((i + 1 : Nat) : Int) := by rw [wrap_id (by omega) (by omega)]; omega
    have e2 : wrap64 (2 * (i : Int)) = 2 * (i : Int) := wrap_id (by omega) (by omega)
    have e3 : wrap64 (2 * (i : Int) + 1) = 2 * (i : Int) + 1 := wrap_id (by omega) (by omega)
    rw [ws_succ] at ih
    have hl := ws_len fl rs i
    refine LetSpec.Ev.succ ?_
    simp only [corncribref07_Pairs.l0, e, e2, e3]
    exact Ev.pos (by omega) (Ev.pos (by omega) (Ev.pos (by omega) (Ev.pos (by omega) (Ev.pos (by omega) (Ev.pos (by omega) (Ev.pos (by omega) ih))))))
theorem pairs_ev (fl : List Int) (rs : List ByteArray) (hf : fl.length ≤ 1024) : Ev (fun k => corncribref07_Pairs.f k fl rs) (if rs.length = 2 * fl.length then (wsOf fl rs fl.length, true) else ([], false)) := by
  have e2 : wrap64 (2 * (fl.length : Int)) = 2 * (fl.length : Int) := wrap_id (by omega) (by omega)
  unfold corncribref07_Pairs.f
  rw [e2]
  by_cases h : rs.length = 2 * fl.length
  · rw [if_pos h]
    exact Ev.pos (by omega) (pairs_l0 fl rs hf h fl.length 0 (by omega))
  · rw [if_neg h]
    exact Ev.neg (by omega) (Ev.now _)
/-- The reference's bytes. -/
theorem rbytesR_ev {x0 x1 x2 x3 : Int} {x4 x5 : ByteArray} {x6 : Bool} {x7 : List ByteArray} {x8 : List S50} (h7 : x7.length ≤ 8796093022000) (h8 : x8.length ≤ 8796093022000) (h : okR x0 x1 x2 x3 x4 x5 x6 x7 x8) : Ev (fun k => corncribref08_Bytes.f k x0 x1 x2 x3 x4 x5 x6 x7 x8) (encR x0 x1 x2 x3 x4 x5 x6 x7 x8).1 := by
  obtain ⟨K1, h1⟩ := rencodeR_ev x0 x1 x2 x3 x4 x5 x6 x7 x8 h7 h8
  obtain ⟨K2, h2⟩ := refcheck_ev x0 x1 x2 x3 x4 x5 x6 x7 x8 h7 h8
  refine ⟨max K1 K2, fun k hk => ?_⟩
  have a1 := h1 k (by omega)
  have a2 := h2 k (by omega)
  simp only [corncribref08_Encode.f] at a1
  simp only at a2
  rw [a2, Option.bind_some, if_pos h, if_pos rfl] at a1
  obtain ⟨b, hb, hb2⟩ := Option.bind_eq_some_iff.mp a1
  have : (encR x0 x1 x2 x3 x4 x5 x6 x7 x8).1 = b := by rw [← Option.some.inj hb2]
  rw [this]
  exact hb
theorem rdec_ev (s : ByteArray) (hs : s.size ≤ 140737488355328) : Ev (fun k => corncribref08_Decode.f k s) (ldV s) := by
  obtain ⟨d1, d2⟩ := DecLen.dec_len s
  unfold corncribref08_Decode.f ldV
  rw [show corncribref06_Decode.f s = some ((dec s).1, (dec s).2.1, ((dec s).2.2.1 : Int), (dec s).2.2.2) from if_pos hs]
  refine Ev.some_bind ?_
  generalize (dec s).1 = ns at *
  generalize (dec s).2.1 = ts at *
  by_cases h : (dec s).2.2.2 = 0 ∧ 6 ≤ ns.length ∧ 2 ≤ ts.length
  · rw [if_pos h]
    refine Ev.pos h ?_
    obtain ⟨_, hn, ht⟩ := h
    unfold rrecOf
    have hk := keys_len ns ts
    have hw := wrs_len ns ts
    have hfl : (ns.drop 6).length = ns.length - 6 := List.length_drop
    have hrl : (ts.drop (2 + rd ns 5).toNat).length = ts.length - (2 + rd ns 5).toNat := List.length_drop
    by_cases hm : 0 ≤ rd ns 5 ∧ rd ns 5 ≤ (ts.length : Int) - 2
    · refine Ev.pos hm ?_
      refine Ev.bind (pairs_ev (ns.drop 6) (ts.drop (2 + rd ns 5).toNat) (by omega)) ?_
      by_cases hp : (ts.drop (2 + rd ns 5).toNat).length = 2 * (ns.drop 6).length
      · have hf : fitD ns ts := ⟨hm.1, by omega, by omega⟩
        rw [if_pos hp, if_pos hf, hfl]
        refine Ev.pos rfl (Ev.bind (refcheck_ev (rd ns 0) (rd ns 1) (rd ns 2) (rd ns 3) (rdOf ByteArray.empty ts 0) (rdOf ByteArray.empty ts 1) (rd ns 4 == 1) (keysOf ns ts) (wrsOf ns ts) (by omega) (by omega)) ?_)
        by_cases hc : okR (rd ns 0) (rd ns 1) (rd ns 2) (rd ns 3) (rdOf ByteArray.empty ts 0) (rdOf ByteArray.empty ts 1) (rd ns 4 == 1) (keysOf ns ts) (wrsOf ns ts)
        · have h2 : (encD ns ts).2 = 0 := by unfold encD encR; rw [if_pos hc]
          refine Ev.pos (if_pos hc) (Ev.bind (rbytesR_ev (x0 := rd ns 0) (x1 := rd ns 1) (x2 := rd ns 2) (x3 := rd ns 3) (x4 := rdOf ByteArray.empty ts 0) (x5 := rdOf ByteArray.empty ts 1) (x6 := rd ns 4 == 1) (x7 := keysOf ns ts) (x8 := wrsOf ns ts) (by omega) (by omega) hc) ?_)
          by_cases hb : (encD ns ts).1 = s
          · exact LetSpec.Ev.to (Ev.pos hb (Ev.now _)) (by rw [if_pos ⟨h2, hb⟩]; rfl)
          · exact LetSpec.Ev.to (Ev.neg hb (Ev.now _)) (by rw [if_neg (fun hx => hb hx.2)]; rfl)
        · have h2 : (encD ns ts).2 ≠ 0 := by unfold encD encR; rw [if_neg hc]; decide
          rw [if_neg (show ¬ ((encD ns ts).2 = 0 ∧ (encD ns ts).1 = s) from fun hx => h2 hx.1)]
          exact Ev.neg (by rw [if_neg hc]; decide) (Ev.now _)
      · have hf : ¬ fitD ns ts := fun hx => hp (by have := hx.2.2; omega)
        rw [if_neg hp, if_neg hf]
        exact Ev.neg (by decide) (Ev.now _)
    · have hf : ¬ fitD ns ts := fun hx => hm ⟨hx.1, by have := hx.2.1; omega⟩
      rw [if_neg hf]
      exact Ev.neg hm (Ev.now _)
  · rw [if_neg h]
    exact Ev.neg h (Ev.now _)
theorem RecordReadsCore (s : ByteArray) (hs : s.size ≤ 140737488351232) : ∃ k, corncriblaw08_RecordReads.f k s = some true := by
  refine Ev.rounds (g := fun k => corncriblaw08_RecordReads.f k s) ?_
  unfold corncriblaw08_RecordReads.f
  have hl : (ldV s).2.2.2.2.2.2.2.1.length ≤ 1024 ∧ (ldV s).2.2.2.2.2.2.2.2.1.length ≤ 1024 := by
    by_cases h : (ldV s).2.2.2.2.2.2.2.2.2 = 0
    · obtain ⟨ns, ts, hv, _, h1, h2⟩ := ldV_ok h
      have hk := keys_len ns ts
      have hw := wrs_len ns ts
      rw [hv]
      exact ⟨by show (keysOf ns ts).length ≤ _; omega, by show (wrsOf ns ts).length ≤ _; omega⟩
    · rw [ldV_no h]; exact ⟨by decide, by decide⟩
  refine Ev.bind (ldec_ev s (by omega)) (Ev.bind (rdec_ev s (by omega)) (Ev.bind (sameR_ev _ _ _ _ _ _ _ _ _ (by omega) (by omega)) (Ev.bind worksR_ev ?_)))
  exact Ev.pos ⟨rfl, rfl, rfl⟩ (Ev.now _)
theorem RecordReads {V : Prop} (s : ByteArray) (_ : V) (hs : s.size ≤ 140737488351232) : ∃ k, corncriblaw08_RecordReads.f k s = some true := RecordReadsCore s hs
end Go.Proofs.Ytbfjbcaabijpfaa.Pure
