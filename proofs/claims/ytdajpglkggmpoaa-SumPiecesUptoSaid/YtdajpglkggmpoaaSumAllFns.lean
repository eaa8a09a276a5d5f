import Derived.Test.YtdajpglkggmpoaaSumCutFns
import Derived.Test.YtdajpglkggmpoaaFsumAll
import Derived.Test.YtdajpglkggmpoaaFcorncribref05All
import Derived.Test.YtdajpglkggmpoaaFcorncribbookSameTexts
/- All frames: the program's and the reference's loops come to the same; frames one behind the other are found. -/
namespace Go.Proofs.Ytdajpglkggmpoaa.SumFns
open Go.RowKit Go.Proofs.Ytdajpglkggmpoaa.Base Go.Proofs.Ytdajpglkggmpoaa.SumMath Go.Proofs.Ytdajpglkggmpoaa.Al Go.Proofs.YtdajpglkggmpoaaW.PrintWords Go.Proofs.YtdajpglkggmpoaaW.PrintMore

theorem rd_some {l : List ByteArray} {i : Nat} {s : ByteArray} (h : l[i]? = some s) : rdOf ByteArray.empty l (i : Int) = s := by
  simp [rdOf, List.getD_eq_getElem?_getD, h]
theorem same_l0 (l : List ByteArray) (hl : l.length ≤ 4611686018427387904) : ∀ (d i : Nat), i + d = l.length → Ev (fun k => corncribbook_SameTexts.l0 k l l (i : Int)) true
  | 0, i, h => Ev.step (f := fun _ => some true) (fun k => by simp only [corncribbook_SameTexts.l0]; rw [if_neg (by omega)]) (Ev.now _)
  | d + 1, i, h => by
    have ih := same_l0 l hl d (i + 1) (by omega)
    have e : wrap64 ((i : Int) + 1) = ((i + 1 : Nat) : Int) := by rw [wrap_id (by omega) (by omega)]; omega
    refine Ev.step (fun k => ?_) ih
    simp only [corncribbook_SameTexts.l0]
    rw [if_pos (by omega), if_pos (by omega), if_pos (by omega), if_pos trivial, e]
theorem same_ev (l : List ByteArray) (hl : l.length ≤ 4611686018427387904) : Ev (fun k => corncribbook_SameTexts.f k l l) true := by
  unfold corncribbook_SameTexts.f
  exact Ev.pos rfl (same_l0 l hl l.length 0 (by omega))

theorem next_ok {s : ByteArray} {i : Int} (h0 : 0 ≤ i) (h : (nextB s i).2.2 = 0) : i + 6 ≤ (nextB s i).2.1 ∧ (nextB s i).2.1 ≤ s.size := by
  have hl := long_range (restB s i)
  have hz := rest_size s i
  unfold nextB at h ⊢
  split at h
  · simp at h
  split at h
  · simp at h
  split at h
  · simp at h
  split at h
  · simp at h
  split at h
  · rename_i h1 h2 h3 h4 h5
    rw [if_neg h1, if_neg h2, if_neg h3, if_neg h4, if_pos h5]
    simp only
    omega
  · simp at h
theorem all_both (s : ByteArray) (hs : s.size ≤ 8796093022000) : ∀ (d : Nat) (l : List ByteArray) (i : Int), 0 ≤ i → i + d = s.size → (l.length : Int) ≤ i →
    ∃ r, Ev (fun k => sum_All.l0 k s l i) r ∧ Ev (fun k => corncribref05_All.l0 k s l i) r ∧ (r.1.length : Int) ≤ s.size := by
  intro d
  induction d using Nat.strongRecOn with
  | ind d ih =>
    intro l i h0 hd hl
    by_cases hlt : i < (s.size : Int)
    · by_cases hok : (nextB s i).2.2 = 0
      · obtain ⟨hn1, hn2⟩ := next_ok h0 hok
        obtain ⟨r, hr1, hr2, hr3⟩ := ih ((s.size : Int) - (nextB s i).2.1).toNat (by omega) (l ++ [(nextB s i).1]) (nextB s i).2.1 (by omega) (by omega) (by simp; omega)
        refine ⟨r, ?_, ?_, hr3⟩
        · refine Ev.step (fun k => by simp only [sum_All.l0]; rw [if_pos hlt]) ?_
          exact Ev.bind (next_ev s (by omega) i) (Ev.pos hok (Ev.pos (by omega) hr1))
        · refine Ev.step (fun k => by simp only [corncribref05_All.l0]; rw [if_pos hlt]) ?_
          exact Ev.bind (rnext_ev s (by omega) i) (Ev.pos hok (Ev.pos (by omega) hr2))
      · refine ⟨(l, i, (nextB s i).2.2), ?_, ?_, by show (l.length : Int) ≤ _; omega⟩
        · refine Ev.step (fun k => by simp only [sum_All.l0]; rw [if_pos hlt]) ?_
          exact Ev.bind (next_ev s (by omega) i) (Ev.neg hok (Ev.now _))
        · refine Ev.step (fun k => by simp only [corncribref05_All.l0]; rw [if_pos hlt]) ?_
          exact Ev.bind (rnext_ev s (by omega) i) (Ev.neg hok (Ev.now _))
    · refine ⟨(l, i, 0), ?_, ?_, by show (l.length : Int) ≤ _; omega⟩
      · refine Ev.step (fun k => by simp only [sum_All.l0]; rw [if_neg hlt]) ?_
        exact Ev.now _
      · refine Ev.step (fun k => by simp only [corncribref05_All.l0]; rw [if_neg hlt]) ?_
        exact Ev.now _

theorem B_frame_len (t : ByteArray) : (B (frameB t)).length = t.size + 6 := by rw [B_len, frameB_size]
theorem next_frame (s t : ByteArray) (p q : List UInt8) (hs : B s = p ++ (B (frameB t) ++ q)) (ht : t.size ≤ 4096) : nextB s (p.length : Int) = (t, (p.length : Int) + t.size + 6, 0) := by
  have hsz : s.size = p.length + (t.size + 6 + q.length) := by
    rw [← B_len, hs, List.length_append, List.length_append, B_frame_len]
  have hr : B (restB s (p.length : Int)) = B (frameB t) ++ q := by
    unfold restB
    rw [B_extract, ← B_len, List.take_length, hs, Int.toNat_natCast, List.drop_left]
  have hrz : (restB s (p.length : Int)).size = t.size + 6 + q.length := by rw [← B_len, hr, List.length_append, B_frame_len]
  have hl : longB (restB s (p.length : Int)) = t.size := by
    apply long_of_head _ _ (by omega) (by omega) ((B t ++ B (strOfNums (lo4 (sumOf (headB t))))) ++ q)
    rw [hr, B_frame, List.append_assoc]
  have e1 : (restB s (p.length : Int)).extract 2 (2 + (t.size : Int)).toNat = t := by
    apply B_inj
    have h2 : (B (strOfNums (lo2 t.size))).length = 2 := rfl
    rw [B_extract, hr, B_frame, show (2 + (t.size : Int)).toNat = 2 + t.size from by omega, List.append_assoc, List.take_append, h2, List.take_of_length_le (by omega), ← h2, List.drop_left, h2]
    rw [show 2 + t.size - 2 = t.size from by omega, List.append_assoc, ← B_len t, List.take_left]
  have e2 : (restB s (p.length : Int)).extract 0 ((t.size : Int) + 6).toNat = frameB t := by
    apply B_inj
    rw [B_extract, hr, show ((t.size : Int) + 6).toNat = t.size + 6 from by omega, ← B_frame_len, List.take_left, List.drop_zero]
  unfold nextB
  rw [hl, e1, e2, if_neg (by omega), if_neg (by omega), if_neg (by omega), if_neg (by omega), if_pos rfl]
/-- Frames, one behind the other. -/
def frames (l : List ByteArray) : List UInt8 := (l.map fun t => B (frameB t)).flatten
theorem all_frames (s : ByteArray) (hs : s.size ≤ 4611686018427387904) : ∀ (l out : List ByteArray) (p : List UInt8), B s = p ++ frames l → (∀ t ∈ l, t.size ≤ 4096) → out.length + l.length ≤ 8796093022207 →
    Ev (fun k => sum_All.l0 k s out (p.length : Int)) (out ++ l, (s.size : Int), 0)
  | [], out, p, h, _, _ => by
    have hz : s.size = p.length := by rw [← B_len, h]; simp [frames]
    refine Ev.step (f := fun _ => some _) (fun k => ?_) (Ev.now _)
    simp only [sum_All.l0]
    rw [if_neg (by omega), hz, List.append_nil]
  | t :: l, out, p, h, ht, hn => by
    have h' : B s = p ++ (B (frameB t) ++ frames l) := by rw [h]; rfl
    have ht0 := ht t (by simp)
    have hz : s.size = p.length + (t.size + 6 + (frames l).length) := by rw [← B_len, h', List.length_append, List.length_append, B_frame_len]
    have ih := all_frames s hs l (out ++ [t]) (p ++ B (frameB t)) (by rw [h', List.append_assoc]) (fun u hu => ht u (by simp [hu])) (by simp at hn ⊢; omega)
    have hx := next_ev s hs (p.length : Int)
    rw [next_frame s t p _ h' ht0] at hx
    have e : ((p ++ B (frameB t)).length : Int) = (p.length : Int) + t.size + 6 := by rw [List.length_append, B_frame_len]; omega
    rw [e] at ih
    refine Ev.step (fun k => by simp only [sum_All.l0]; rw [if_pos (by omega)]) ?_
    refine Ev.bind hx (Ev.pos rfl (Ev.pos (by simp at hn ⊢; omega) ?_))
    simpa using ih
end Go.Proofs.Ytdajpglkggmpoaa.SumFns
