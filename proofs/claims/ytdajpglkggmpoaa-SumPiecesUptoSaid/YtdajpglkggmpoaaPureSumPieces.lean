/- For every list of texts and every text: sums of any pieces, and frames, are those of the reference; what was lent is kept. -/
import Derived.Test.YtdajpglkggmpoaaSumAllFns
import Derived.Test.YtdajpglkggmpoaaFcorncriblaw05SumPieces
namespace Go.Proofs.Ytdajpglkggmpoaa.Pure
open Go.RowKit Go.Proofs.Ytdajpglkggmpoaa.Base Go.Proofs.Ytdajpglkggmpoaa.SumMath Go.Proofs.Ytdajpglkggmpoaa.SumFns Go.Proofs.Ytdajpglkggmpoaa.Al Go.Proofs.YtdajpglkggmpoaaW.PrintWords
theorem len_le_sum : ∀ (l : List ByteArray), l.length ≤ (l.map (fun s => s.size + 1)).sum ∧ (∀ s ∈ l, s.size ≤ (l.map (fun s => s.size + 1)).sum) ∧ (whole l).length ≤ (l.map (fun s => s.size + 1)).sum
  | [] => by simp [whole]
  | t :: l => by
    obtain ⟨h1, h2, h3⟩ := len_le_sum l
    refine ⟨by simp; omega, fun s hs => ?_, ?_⟩
    · rcases List.mem_cons.1 hs with rfl | hs
      · simp; omega
      · have := h2 s hs
        simp; omega
    · have e : whole (t :: l) = B t ++ whole l := rfl
      rw [e, List.length_append, B_len]
      simp; omega
theorem rof_l0 (l : List ByteArray) (n : Nat) (hn : n ≤ 1048576) (hl : l.length ≤ n) : ∀ (d i : Nat) (acc : ByteArray), i + d = l.length → acc.size + (whole (l.drop i)).length ≤ n → Ev (fun k => corncribref05_Of.l0 k l acc (i : Int)) (sumOf ⟨(B acc ++ whole (l.drop i)).toArray⟩)
  | 0, i, acc, h, hz => by
    rw [List.drop_of_length_le (by omega)]
    have e : (⟨(B acc ++ whole []).toArray⟩ : ByteArray) = acc := B_inj (by rw [B_mk]; simp [whole])
    rw [e]
    refine Ev.step (fun k => by simp only [corncribref05_Of.l0]; rw [if_neg (by omega)]) ?_
    exact Ev.bind (rsum_ev acc (by omega)) (Ev.now _)
  | d + 1, i, acc, h, hz => by
    have hi : i < l.length := by omega
    have hr : rdOf ByteArray.empty l (i : Int) = l[i] := rd_some (List.getElem?_eq_getElem hi)
    have e : wrap64 ((i : Int) + 1) = ((i + 1 : Nat) : Int) := by rw [wrap_id (by omega) (by omega)]; omega
    rw [List.drop_eq_getElem_cons hi] at hz ⊢
    have ew : whole (l[i] :: l.drop (i + 1)) = B l[i] ++ whole (l.drop (i + 1)) := rfl
    rw [ew] at hz ⊢
    rw [List.length_append, B_len] at hz
    have ih := rof_l0 l n hn hl d (i + 1) (acc ++ l[i]) (by omega) (by rw [ByteArray.size_append]; omega)
    rw [B_append, List.append_assoc] at ih
    refine Ev.step (fun k => by simp only [corncribref05_Of.l0]; rw [if_pos (by omega), if_pos (by omega), hr, if_pos (by omega), e]) ih
theorem rof_ev (l : List ByteArray) (h : (l.map (fun s => s.size + 1)).sum ≤ 1048576) : Ev (fun k => corncribref05_Of.f k l) ((crcSum (whole l)).toNat : Int) := by
  obtain ⟨h1, h2, h3⟩ := len_le_sum l
  have := rof_l0 l _ h h1 l.length 0 (⟨#[]⟩ : ByteArray) (by omega) (by show 0 + _ ≤ _; rw [List.drop_zero]; omega)
  rw [List.drop_zero, B_empty, List.nil_append] at this
  unfold sumOf at this
  rw [B_mk] at this
  exact this
theorem SumPieces (l : List ByteArray) (t : ByteArray) (_ : ∀ s ∈ l, s.size ≤ maxLen) (_ : t.size ≤ maxLen) (hb : (l.map (fun s => s.size + 1)).sum + 1 + (t.size + 1) ≤ 1048576) : ∃ k, corncriblaw05_SumPieces.f k l t = some true := by
  refine Ev.rounds (g := fun k => corncriblaw05_SumPieces.f k l t) ?_
  obtain ⟨h1, h2, h3⟩ := len_le_sum l
  have hlend : corncribbook_LendTexts.f l = some l := by
    unfold corncribbook_LendTexts.f
    simp only [Option.bind_some]
    rw [if_pos (by simp; omega), if_pos (by simp; omega), if_pos (by omega), if_pos (by simp; omega)]
    simp
  have hof := Of_ev l (by omega) (fun s hs => by have := h2 s hs; omega)
  unfold corncriblaw05_SumPieces.f
  rw [hlend]
  have hfr : Ev (fun k => sum_Frame.f k t) (if t.size ≤ 4096 then (frameB t, 0) else (⟨#[]⟩, 2)) := by
    unfold sum_Frame.f
    by_cases h : t.size ≤ 4096
    · rw [if_pos h]; exact Ev.neg (by omega) (Ev.bind (frame_ev t (by omega)) (Ev.now _))
    · rw [if_neg h]; exact Ev.pos (by omega) (Ev.now _)
  have hrf : Ev (fun k => corncribref05_Frame.f k t) (if t.size ≤ 4096 then (frameB t, 0) else (⟨#[]⟩, 2)) := by
    unfold corncribref05_Frame.f
    by_cases h : t.size ≤ 4096
    · rw [if_pos h]; exact Ev.neg (by omega) (Ev.bind (one_ev t (by omega)) (Ev.now _))
    · rw [if_neg h]; exact Ev.pos (by omega) (Ev.now _)
  exact Ev.some_bind (Ev.bind hfr (Ev.bind hrf (Ev.bind hof (Ev.bind (rof_ev l (by omega)) (Ev.pos rfl (Ev.bind (same_ev l (by omega)) (Ev.pos rfl (Ev.pos rfl (Ev.pos rfl (Ev.bind works_ev (Ev.now _)))))))))))
end Go.Proofs.Ytdajpglkggmpoaa.Pure
