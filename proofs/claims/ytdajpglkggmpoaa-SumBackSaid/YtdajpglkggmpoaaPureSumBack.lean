/- For every list of texts and every text: what is framed is found, wherever it stands, and many frames are found one behind the other. -/
import Derived.Test.YtdajpglkggmpoaaSumAllFns
import Derived.Test.YtdajpglkggmpoaaFcorncriblaw05SumBack
namespace Go.Proofs.Ytdajpglkggmpoaa.Pure
open Go.RowKit Go.Proofs.Ytdajpglkggmpoaa.Base Go.Proofs.Ytdajpglkggmpoaa.SumMath Go.Proofs.Ytdajpglkggmpoaa.SumFns Go.Proofs.Ytdajpglkggmpoaa.Al Go.Proofs.YtdajpglkggmpoaaW.PrintWords
theorem frameOk (t : ByteArray) (h : t.size ≤ 4096) : Ev (fun k => sum_Frame.f k t) (frameB t, 0) := by
  unfold sum_Frame.f
  exact Ev.neg (by omega) (Ev.bind (frame_ev t (by omega)) (Ev.now _))
theorem frameNo (t : ByteArray) (h : 4096 < t.size) : Ev (fun k => sum_Frame.f k t) ((⟨#[]⟩ : ByteArray), 2) := by
  unfold sum_Frame.f
  exact Ev.pos (by omega) (Ev.now _)
/-- Where the frames end. -/
def ends : Nat → List ByteArray → List Int
  | _, [] => []
  | p, t :: l => ((p + (t.size + 6) : Nat) : Int) :: ends (p + (t.size + 6)) l
theorem ends_length : ∀ (l : List ByteArray) (p : Nat), (ends p l).length = l.length
  | [], _ => rfl
  | t :: l, p => by simp [ends, ends_length l]
theorem ends_snoc : ∀ (l : List ByteArray) (p : Nat) (t : ByteArray), ends p (l ++ [t]) = ends p l ++ [((p + (frames l).length + (t.size + 6) : Nat) : Int)]
  | [], p, t => by simp [ends, frames]
  | u :: l, p, t => by
    have := ends_snoc l (p + (u.size + 6)) t
    simp only [List.cons_append, ends, this]
    congr 3
    have e : (frames (u :: l)).length = u.size + 6 + (frames l).length := by simp only [frames, List.map_cons, List.flatten_cons, List.length_append, B_frame_len]
    omega
theorem frames_snoc (l : List ByteArray) (t : ByteArray) : frames (l ++ [t]) = frames l ++ B (frameB t) := by simp [frames]
theorem frames_cons (l : List ByteArray) (t : ByteArray) : frames (t :: l) = B (frameB t) ++ frames l := rfl
theorem frames_len (l : List ByteArray) (h : ∀ t ∈ l, t.size ≤ 4096) : (frames l).length ≤ 4102 * l.length := by
  induction l with
  | nil => simp [frames]
  | cons t l ih =>
    have := ih (fun u hu => h u (by simp [hu]))
    have := h t (by simp)
    rw [frames_cons, List.length_append, B_frame_len, List.length_cons]
    omega
theorem rd_end : ∀ (l : List ByteArray) (p i : Nat), i < l.length → rd (ends p l) (i : Int) = ((p + (frames (l.take (i + 1))).length : Nat) : Int)
  | [], _, _, h => by simp at h
  | t :: l, p, 0, _ => by simp [ends, rd, frames, B_frame_len]
  | t :: l, p, i + 1, h => by
    have ih := rd_end l (p + (t.size + 6)) i (by simpa using h)
    have e : rd (ends p (t :: l)) ((i + 1 : Nat) : Int) = rd (ends (p + (t.size + 6)) l) (i : Int) := by simp [rd, ends]
    rw [e, ih, List.take_succ_cons, frames_cons, List.length_append, B_frame_len]
    omega
theorem frames_nil : frames [] = [] := rfl
theorem ends_nil (p : Nat) : ends p [] = [] := rfl
attribute [local irreducible] frames ends frameB
/-- The second loop: each frame is found where the one ahead of it ends. -/
theorem second (l0 : List ByteArray) (more all : ByteArray) (n : Nat) (hn : n ≤ 20) (hl : n ≤ l0.length) (hs : ∀ t ∈ l0.take n, t.size ≤ 4096) (hmore : more.size ≤ 140737488351232) (ha : B all = frames (l0.take n)) :
    ∀ (d i : Nat), i + d = n → Ev (fun k => corncriblaw05_SumBack.l1 k l0 more all (ends 0 (l0.take n)) ((frames (l0.take i)).length : Int) (ends 0 (l0.take n)) (n : Int) (i : Int)) true
  | 0, i, h => by
    have hlen : (l0.take n).length = n := by rw [List.length_take]; omega
    have hel : (ends 0 (l0.take n)).length = n := by rw [ends_length, hlen]
    have hz := frames_len _ hs
    have hasz : all.size ≤ 82040 := by rw [← B_len, ha]; omega
    refine Ev.step (fun k => by simp only [corncriblaw05_SumBack.l1]; rw [if_neg (by omega)]) ?_
    have hall := all_frames all (by omega) (l0.take n) [] [] (by rw [ha]; rfl) hs (by rw [hlen]; simp; omega)
    refine Ev.bind (show Ev (fun k => sum_All.f k all) _ from hall) (Ev.pos rfl (Ev.pos rfl (Ev.pos (by omega) (Ev.pos (by omega) ?_))))
    have e : l0.take ((ends 0 (l0.take n)).length : Int).toNat = l0.take n := by rw [hel, Int.toNat_natCast]
    rw [e]
    exact Ev.bind (same_ev (l0.take n) (by omega)) (Ev.now _)
  | d + 1, i, h => by
    have hlen : (l0.take n).length = n := by rw [List.length_take]; omega
    have hel : (ends 0 (l0.take n)).length = n := by rw [ends_length, hlen]
    have hz := frames_len _ hs
    have hasz : all.size ≤ 82040 := by rw [← B_len, ha]; omega
    have e : wrap64 ((i : Int) + 1) = ((i + 1 : Nat) : Int) := by rw [wrap_id (by omega) (by omega)]; omega
    have c1 : (i : Int) < (n : Int) := by omega
    have c2 : (0 : Int) ≤ (i : Int) := by omega
    have c3 : (i : Int) < ((ends 0 (l0.take n)).length : Int) := by omega
    have c4 : all.size + more.size ≤ 9223372036854775807 := by omega
    have hi : i < l0.length := by omega
    have c5 : (i : Int) < (l0.length : Int) := by omega
    have ih := second l0 more all n hn hl hs hmore ha d (i + 1) (by omega)
    have hget : l0[i]? = some l0[i] := List.getElem?_eq_getElem hi
    have ht : (l0.take n)[i]? = some l0[i] := by rw [List.getElem?_take_of_lt (by omega), hget]
    have hsz : l0[i].size ≤ 4096 := hs _ (List.mem_of_getElem? ht)
    have hsplit : l0.take n = l0.take i ++ (l0[i] :: (l0.take n).drop (i + 1)) := by
      have h1 := List.take_append_drop i (l0.take n)
      rw [List.take_take, Nat.min_eq_left (by omega), List.drop_eq_getElem_cons (by rw [hlen]; omega)] at h1
      rw [List.getElem_take] at h1
      exact h1.symm
    have hB : B (all ++ more) = frames (l0.take i) ++ (B (frameB l0[i]) ++ (frames ((l0.take n).drop (i + 1)) ++ B more)) := by
      rw [B_append, ha]
      conv => lhs; rw [hsplit]
      simp [frames]
    have hsz2 : (all ++ more).size = all.size + more.size := ByteArray.size_append
    have hx := next_ev (all ++ more) (by omega) ((frames (l0.take i)).length : Int)
    rw [next_frame _ _ _ _ hB hsz] at hx
    have hend : rd (ends 0 (l0.take n)) (i : Int) = ((frames (l0.take i)).length : Int) + l0[i].size + 6 := by
      rw [rd_end _ _ _ (by rw [hlen]; omega), List.take_take, Nat.min_eq_left (by omega), List.take_add_one, hget, Option.toList_some, frames_snoc, List.length_append, B_frame_len]
      omega
    have hnext : ((frames (l0.take (i + 1))).length : Int) = ((frames (l0.take i)).length : Int) + l0[i].size + 6 := by
      rw [List.take_add_one, hget, Option.toList_some, frames_snoc, List.length_append, B_frame_len]
      omega
    have hrd : rdOf ByteArray.empty l0 (i : Int) = l0[i] := rd_some hget
    generalize ends 0 (l0.take n) = E at hend c3 ih ⊢
    generalize ((frames (l0.take i)).length : Int) = P at hx hend hnext ⊢
    refine Ev.step (fun k => by simp only [corncriblaw05_SumBack.l1]; rw [if_pos c1, if_pos c2, if_pos c3, if_pos c4]) ?_
    refine Ev.bind hx (Ev.pos rfl (Ev.pos c5 ?_))
    simp only [hrd, hend, e]
    refine Ev.pos trivial (Ev.pos trivial ?_)
    rw [← hnext]
    exact ih
theorem SumBackCore (l0 : List ByteArray) (more : ByteArray) (hl : l0.length ≤ 8796093022208) (hz : ∀ t ∈ l0, t.size ≤ 140737488351232) (hm : more.size ≤ 140737488351232) : ∃ k, corncriblaw05_SumBack.f k l0 more = some true := by
  refine Ev.rounds (g := fun k => corncriblaw05_SumBack.f k l0 more) ?_
  have first : ∀ (d i : Nat) (all : ByteArray), i + d = 20 → i ≤ l0.length → (∀ t ∈ l0.take i, t.size ≤ 4096) → B all = frames (l0.take i) → Ev (fun k => corncriblaw05_SumBack.l0 k l0 more all (ends 0 (l0.take i)) (i : Int)) true := by
    intro d
    induction d with
    | zero =>
      intro i all hd hi hs ha
      have hstop : Ev (fun k => corncriblaw05_SumBack.j1 k l0 more all (ends 0 (l0.take i)) (i : Int) false) true := by
        refine Ev.step (fun k => by simp only [corncriblaw05_SumBack.j1]; rw [if_neg (by simp)]) ?_
        have := second l0 more all i (by omega) hi hs hm ha i 0 (by omega)
        rw [List.take_zero, frames_nil] at this
        rw [ends_length, List.length_take, Nat.min_eq_left hi]
        exact this
      by_cases hlt : (i : Int) < (l0.length : Int)
      · refine Ev.step (fun k => by simp only [corncriblaw05_SumBack.l0]; rw [if_pos hlt]) ?_
        rw [decide_eq_false (by omega)]
        exact hstop
      · refine Ev.step (fun k => by simp only [corncriblaw05_SumBack.l0]; rw [if_neg hlt]) ?_
        exact hstop
    | succ d ih =>
      intro i all hd hi hs ha
      by_cases hlt : (i : Int) < (l0.length : Int)
      · refine Ev.step (fun k => by simp only [corncriblaw05_SumBack.l0]; rw [if_pos hlt]) ?_
        rw [decide_eq_true (by omega)]
        have hi' : i < l0.length := by omega
        have hget : l0[i]? = some l0[i] := List.getElem?_eq_getElem hi'
        have hrd : rdOf ByteArray.empty l0 (i : Int) = l0[i] := rd_some hget
        refine Ev.step (fun k => by simp only [corncriblaw05_SumBack.j1]; rw [if_pos trivial, if_pos (by omega), if_pos hlt, hrd]) ?_
        have hzi := hz _ (List.getElem_mem hi')
        by_cases h4 : l0[i].size ≤ 4096
        · have hfz := frameB_size l0[i]
          have hfl := frames_len _ hs
          have hlen : (l0.take i).length = i := by rw [List.length_take]; omega
          have hasz : all.size ≤ 82040 := by rw [← B_len, ha]; omega
          refine Ev.bind (frameOk _ h4) (Ev.pos rfl (Ev.pos (by show ((frameB l0[i]).size : Int) = _; rw [wrap_id (by omega) (by omega)]; omega) (Ev.pos (by show all.size + (frameB l0[i]).size ≤ _; omega) (Ev.pos (by rw [ends_length, hlen]; omega) ?_))))
          have htake : l0.take (i + 1) = l0.take i ++ [l0[i]] := by rw [List.take_add_one, hget, Option.toList_some]
          have ha' : B (all ++ frameB l0[i]) = frames (l0.take (i + 1)) := by rw [B_append, ha, htake, frames_snoc]
          have he : ends 0 (l0.take i) ++ [((all ++ frameB l0[i]).size : Int)] = ends 0 (l0.take (i + 1)) := by
            rw [htake, ends_snoc, ByteArray.size_append, hfz, ← B_len all, ha, Nat.zero_add]
          have e : wrap64 ((i : Int) + 1) = ((i + 1 : Nat) : Int) := by rw [wrap_id (by omega) (by omega)]; omega
          rw [he, e]
          refine ih (i + 1) _ (by omega) (by omega) ?_ ha'
          intro t ht
          rw [htake] at ht
          rcases List.mem_append.1 ht with ht | ht
          · exact hs t ht
          · obtain rfl := List.mem_singleton.1 ht
            exact h4
        · refine Ev.bind (frameNo _ (by omega)) (Ev.neg (by simp) (Ev.pos rfl ?_))
          rw [decide_eq_true (by omega)]
          exact Ev.now _
      · refine Ev.step (fun k => by simp only [corncriblaw05_SumBack.l0]; rw [if_neg hlt]) ?_
        refine Ev.step (fun k => by simp only [corncriblaw05_SumBack.j1]; rw [if_neg (by simp)]) ?_
        have := second l0 more all i (by omega) hi hs hm ha i 0 (by omega)
        rw [List.take_zero, frames_nil] at this
        rw [ends_length, List.length_take, Nat.min_eq_left hi]
        exact this
  unfold corncriblaw05_SumBack.f
  refine Ev.bind works_ev (Ev.pos rfl ?_)
  have := first 20 0 (⟨#[]⟩ : ByteArray) rfl (by omega) (by simp) (by rw [List.take_zero, frames_nil]; rfl)
  rw [List.take_zero, ends_nil] at this
  exact this
theorem SumBack (l0 : List ByteArray) (more : ByteArray) (_ : ∀ t ∈ l0, t.size ≤ maxLen) (_ : more.size ≤ maxLen) (hl : l0.length * 16 ≤ 140737488351232 ∧ ∀ t ∈ l0, t.size ≤ 140737488351232) (hm : more.size ≤ 140737488351232) : ∃ k, corncriblaw05_SumBack.f k l0 more = some true :=
  SumBackCore l0 more (by have := hl.1; omega) hl.2 hm
end Go.Proofs.Ytdajpglkggmpoaa.Pure
