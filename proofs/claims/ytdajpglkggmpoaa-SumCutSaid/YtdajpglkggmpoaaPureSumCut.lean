/- For every text and every number: a frame that is cut short is refused with ErrEnd. No condition. -/
import Derived.Test.YtdajpglkggmpoaaSumCutFns
import Derived.Test.YtdajpglkggmpoaaFcorncriblaw05SumCut
namespace Go.Proofs.Ytdajpglkggmpoaa.Pure
open Go.RowKit Go.Proofs.Ytdajpglkggmpoaa.Base Go.Proofs.Ytdajpglkggmpoaa.SumMath Go.Proofs.Ytdajpglkggmpoaa.SumFns Go.Proofs.Ytdajpglkggmpoaa.Al Go.Proofs.YtdajpglkggmpoaaW.PrintWords
theorem Frame_ev (t : ByteArray) (h : t.size ≤ 4096) : Ev (fun k => sum_Frame.f k t) (frameB t, 0) := by
  unfold sum_Frame.f
  exact Ev.neg (by omega) (Ev.bind (frame_ev t (by omega)) (Ev.now _))
theorem Frame_long (t : ByteArray) (h : 4096 < t.size) : Ev (fun k => sum_Frame.f k t) ((⟨#[]⟩ : ByteArray), 2) := by
  unfold sum_Frame.f
  exact Ev.pos (by omega) (Ev.now _)
theorem next_cut (t : ByteArray) (h : t.size ≤ 4096) (n : Nat) (hn : n < (frameB t).size) : nextB ((frameB t).extract 0 n) 0 = (⟨#[]⟩, 0, 50) := by
  have hz := frameB_size t
  have hs : ((frameB t).extract 0 n).size = n := by rw [ByteArray.size_extract]; omega
  have hr : restB ((frameB t).extract 0 n) 0 = (frameB t).extract 0 n := by
    apply B_inj
    unfold restB
    rw [B_extract, ← B_len, List.take_length]
    rfl
  unfold nextB
  rw [hr, if_neg (by omega), hs]
  by_cases h2 : n < 2
  · rw [if_pos h2]
  rw [if_neg h2]
  have hb : B ((frameB t).extract 0 n) = B (strOfNums (lo2 t.size)) ++ ((B t ++ B (strOfNums (lo4 (sumOf (headB t)))))).take (n - 2) := by
    rw [B_extract, B_frame, List.drop_zero, List.take_append]
    have : (B (strOfNums (lo2 t.size))).length = 2 := rfl
    rw [List.take_of_length_le (by omega), this]
  have hl := long_of_head _ (t.size : Int) (by omega) (by omega) _ hb
  rw [hl, if_neg (by omega), if_pos (by omega)]
theorem SumCut : corncriblaw05_SumCut.Pure := by
  intro t i ht _
  refine Ev.rounds (g := fun k => corncriblaw05_SumCut.f k t i) ?_
  unfold corncriblaw05_SumCut.f
  refine Ev.bind works_ev (Ev.pos rfl ?_)
  by_cases h : t.size ≤ 4096
  · have hz := frameB_size t
    refine Ev.bind (Frame_ev t h) (Ev.pos rfl ?_)
    simp only [among_eq i ((frameB t).size : Int) (by omega) (by omega)]
    have h0 := Int.emod_nonneg i (by omega : ((frameB t).size : Int) ≠ 0)
    have h1 := Int.emod_lt_of_pos i (by omega : 0 < ((frameB t).size : Int))
    generalize i % ((frameB t).size : Int) = m at h0 h1 ⊢
    refine Ev.some_bind (Ev.pos h0 (Ev.pos (by omega) ?_))
    have hn := next_ev ((frameB t).extract 0 m.toNat) (by rw [ByteArray.size_extract]; omega) 0
    rw [next_cut t h m.toNat (by omega)] at hn
    exact Ev.bind hn (Ev.pos rfl (Ev.pos (by rw [toList_eq]; rfl) (Ev.now _)))
  · refine Ev.bind (Frame_long t (by omega)) (Ev.neg (by simp) ?_)
    rw [decide_eq_true (by omega)]
    exact Ev.now _
end Go.Proofs.Ytdajpglkggmpoaa.Pure
