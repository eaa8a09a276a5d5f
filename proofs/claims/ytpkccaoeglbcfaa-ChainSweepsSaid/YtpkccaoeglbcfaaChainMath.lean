/- Chains of versions in plain lists: which may be, how many are not above a time, what a sweep leaves. -/
import Derived.Test.YtpkccaoeglbcfaaFchainuntil
import Derived.Test.YtpkccaoeglbcfaaBase
namespace Go.Proofs.Ytpkccaoeglbcfaa.ChainMath
open Go.RowKit Go.Proofs.Ytpkccaoeglbcfaa.Base Go.Proofs.Ytpkccaoeglbcfaa.Al Go.Proofs.YtpkccaoeglbcfaaW.PrintWords
def bad (v : S25) : Int := if v.f0 < 1 ∨ v.f0 > 1125899906842624 then 1 else if (v.f1.size : Int) > 2052 then 2 else if v.f2 = true ∧ v.f1.toList ≠ [] then 4 else 0
def chk : List S25 → Int → Int → Int × Int
  | [], _, _ => (0, 0)
  | v :: l, i, a => if bad v ≠ 0 then (i, bad v) else if v.f0 ≤ a then (i, 110) else chk l (i + 1) v.f0
def check (l : List S25) : Int × Int := if (l.length : Int) > 1024 then (-1, 2) else chk l 0 0
def good : List S25 → Int → Prop
  | [], _ => True
  | v :: l, a => bad v = 0 ∧ a < v.f0 ∧ good l v.f0
theorem chk_ok : ∀ (l : List S25) (i a : Int), (chk l i a).2 = 0 ↔ good l a
  | [], _, _ => by simp [chk, good]
  | v :: l, i, a => by
    unfold chk good
    by_cases h : bad v = 0
    · rw [if_neg (by simpa using h)]
      by_cases h2 : v.f0 ≤ a
      · rw [if_pos h2]; simp; omega
      · rw [if_neg h2, chk_ok l]; simp [h]; omega
    · rw [if_pos h]; simp [h]
theorem check_ok (l : List S25) : (check l).2 = 0 ↔ l.length ≤ 1024 ∧ good l 0 := by
  unfold check
  by_cases h : (l.length : Int) > 1024
  · rw [if_pos h]; simp; omega
  · rw [if_neg h, chk_ok]; simp; omega
theorem bad_zero {v : S25} (h : bad v = 0) : 1 ≤ v.f0 ∧ v.f0 ≤ 1125899906842624 ∧ (v.f2 = true → v.f1 = ⟨#[]⟩) := by
  unfold bad at h
  split at h
  · simp at h
  split at h
  · simp at h
  split at h
  · simp at h
  rename_i h1 h2 h3
  refine ⟨by omega, by omega, fun h4 => ?_⟩
  have : v.f1.toList = [] := Classical.byContradiction fun hc => h3 ⟨h4, hc⟩
  rw [toList_eq] at this
  exact B_inj this
theorem good_weak : ∀ {l : List S25} {a b : Int}, good l a → b ≤ a → good l b
  | [], _, _, _, _ => trivial
  | v :: l, a, b, h, hb => ⟨h.1, by have := h.2.1; omega, h.2.2⟩
theorem good_drop : ∀ (m : Nat) {l : List S25} {a : Int}, 0 ≤ a → good l a → good (l.drop m) 0
  | 0, l, a, ha, h => good_weak h ha
  | m + 1, [], a, ha, h => trivial
  | m + 1, v :: l, a, ha, h => good_drop m (by have := h.2.1; omega) h.2.2
theorem good_rises : ∀ {l : List S25} {a : Int}, good l a → rises l = true
  | [], _, _ => rfl
  | [v], _, _ => rfl
  | v :: u :: l, a, h => by
    simp only [rises, Bool.and_eq_true, decide_eq_true_eq]
    exact ⟨h.2.2.2.1, good_rises h.2.2⟩
theorem good_mem : ∀ {l : List S25} {a : Int}, good l a → ∀ v ∈ l, bad v = 0
  | [], _, _, v, hv => by simp at hv
  | u :: l, a, h, v, hv => by
    rcases List.mem_cons.1 hv with rfl | hv
    · exact h.1
    · exact good_mem h.2.2 v hv
def lastTs (l : List S25) (a : Int) : Int := match l.getLast? with | some v => v.f0 | none => a
theorem lastTs_nil (a : Int) : lastTs [] a = a := rfl
theorem lastTs_cons (v : S25) (l : List S25) (a : Int) : lastTs (v :: l) a = lastTs l v.f0 := by
  unfold lastTs
  cases l with
  | nil => rfl
  | cons u l =>
    rw [List.getLast?_cons_cons]
    cases h : (u :: l).getLast? with
    | none => simp at h
    | some x => rfl
theorem good_snoc : ∀ {l : List S25} {a : Int} {v : S25}, good (l ++ [v]) a ↔ good l a ∧ bad v = 0 ∧ lastTs l a < v.f0
  | [], a, v => by simp [good, lastTs_nil]
  | u :: l, a, v => by
    rw [lastTs_cons, List.cons_append]
    show (bad u = 0 ∧ a < u.f0 ∧ good (l ++ [v]) u.f0) ↔ (bad u = 0 ∧ a < u.f0 ∧ good l u.f0) ∧ _
    rw [good_snoc]
    simp only [and_assoc]
theorem lastTs_ge : ∀ {l : List S25} {a : Int}, good l a → a ≤ lastTs l a ∧ (l ≠ [] → a < lastTs l a)
  | [], a, _ => by simp [lastTs_nil]
  | v :: l, a, h => by
    rw [lastTs_cons]
    have := (lastTs_ge h.2.2).1
    have := h.2.1
    exact ⟨by omega, fun _ => by omega⟩
theorem upto_nil (t : Int) : upto [] t = 0 := rfl
theorem upto_cons (v : S25) (l : List S25) (t : Int) : upto (v :: l) t = if v.f0 ≤ t then upto l t + 1 else 0 := by
  unfold upto
  rw [List.takeWhile_cons]
  by_cases h : v.f0 ≤ t <;> simp [h]
theorem upto_le : ∀ (l : List S25) (t : Int), upto l t ≤ l.length
  | [], t => by simp [upto_nil]
  | v :: l, t => by
    rw [upto_cons]
    have := upto_le l t
    split <;> simp <;> omega
theorem upto_low : ∀ {l : List S25} {a : Int} (t : Int), good l a → t ≤ a → upto l t = 0
  | [], _, _, _, _ => rfl
  | v :: l, a, t, h, ht => by rw [upto_cons, if_neg (by have := h.2.1; omega)]
theorem upto_drop : ∀ (m : Nat) {l : List S25} {a : Int} (t : Int), good l a → upto (l.drop m) t = upto l t - m
  | 0, l, a, t, h => by simp
  | m + 1, [], a, t, h => by simp [upto_nil]
  | m + 1, v :: l, a, t, h => by
    rw [List.drop_succ_cons, upto_drop m t h.2.2, upto_cons]
    by_cases hv : v.f0 ≤ t
    · rw [if_pos hv]; omega
    · rw [if_neg hv, upto_low t h.2.2 (by omega)]; omega
theorem upto_mono : ∀ (l : List S25) {s t : Int}, s ≤ t → upto l s ≤ upto l t
  | [], s, t, _ => Nat.le_refl _
  | v :: l, s, t, h => by
    rw [upto_cons, upto_cons]
    have := upto_mono l h
    by_cases hv : v.f0 ≤ s
    · rw [if_pos hv, if_pos (by omega)]; omega
    · rw [if_neg hv]; omega
theorem upto_snoc : ∀ (l : List S25) (v : S25) (t : Int), upto (l ++ [v]) t = if upto l t = l.length then l.length + (if v.f0 ≤ t then 1 else 0) else upto l t
  | [], v, t => by simp [upto_cons, upto_nil]
  | u :: l, v, t => by
    rw [List.cons_append, upto_cons, upto_cons, upto_snoc l v t]
    have := upto_le l t
    by_cases hu : u.f0 ≤ t
    · rw [if_pos hu, if_pos hu]
      by_cases h : upto l t = l.length
      · rw [if_pos h, if_pos (show upto l t + 1 = (u :: l).length by rw [List.length_cons, h]), List.length_cons]; split <;> omega
      · rw [if_neg h, if_neg (show ¬ (upto l t + 1 = (u :: l).length) by rw [List.length_cons]; omega)]
    · rw [if_neg hu, if_neg hu, if_neg (show ¬ (0 = (u :: l).length) by simp)]
theorem upto_all : ∀ {l : List S25} {a : Int} (t : Int), good l a → a ≤ lastTs l a → lastTs l a ≤ t → upto l t = l.length
  | [], _, _, _, _, _ => rfl
  | v :: l, a, t, h, _, ht => by
    rw [lastTs_cons] at ht
    have h1 := (lastTs_ge h.2.2).1
    rw [upto_cons, if_pos (by omega), upto_all t h.2.2 h1 ht]
    simp
theorem upto_own : ∀ {l : List S25} {a : Int} (i : Nat) (v : S25), good l a → l[i]? = some v → upto l v.f0 = i + 1
  | [], a, i, v, h, hv => by simp at hv
  | u :: l, a, 0, v, h, hv => by
    simp at hv
    subst hv
    rw [upto_cons, if_pos (Int.le_refl _), upto_low _ h.2.2 (Int.le_refl _)]
  | u :: l, a, i + 1, v, h, hv => by
    have hv' : l[i]? = some v := by simpa using hv
    have := upto_own i v h.2.2 hv'
    have hr := rises_head l u (good_rises h) v (List.mem_of_getElem? hv')
    rw [upto_cons, if_pos (by omega), this]
/-- What counts of a time. -/
def at? (l : List S25) (t : Int) : Option S25 := if upto l t = 0 then none else l[upto l t - 1]?
theorem at_some {l : List S25} {t : Int} (h : upto l t ≠ 0) : ∃ v, l[upto l t - 1]? = some v ∧ at? l t = some v := by
  have := upto_le l t
  refine ⟨l[upto l t - 1]'(by omega), List.getElem?_eq_getElem _, ?_⟩
  unfold at?
  rw [if_neg h, List.getElem?_eq_getElem]
/-- How many versions a sweep takes. -/
def cut (l : List S25) (t : Int) : Nat := if upto l t = 0 then 0 else if (rd_T25 l ((upto l t - 1 : Nat) : Int)).f2 = true then upto l t else upto l t - 1
def sweep (l : List S25) (t : Int) : List S25 := l.drop (cut l t)
theorem cut_le (l : List S25) (t : Int) : cut l t ≤ upto l t := by unfold cut; split <;> (try split) <;> omega
theorem rdD (l : List S25) (m i : Nat) : rd_T25 (l.drop m) (i : Int) = rd_T25 l ((m + i : Nat) : Int) := by
  unfold rd_T25
  rw [Int.toNat_natCast, Int.toNat_natCast]
  simp [List.getD_eq_getElem?_getD, List.getElem?_drop]
theorem cut_full {l : List S25} {t : Int} (h : cut l t = upto l t) (h0 : upto l t ≠ 0) : (rd_T25 l ((upto l t - 1 : Nat) : Int)).f2 = true := by
  unfold cut at h
  rw [if_neg h0] at h
  split at h
  · assumption
  · omega
theorem cut_drop {l : List S25} {a : Int} {m : Nat} {t : Int} (hg : good l a) (hm : m ≤ upto l t) (hd : m = upto l t → m ≠ 0 → (rd_T25 l ((m - 1 : Nat) : Int)).f2 = true) : m + cut (l.drop m) t = cut l t := by
  unfold cut
  rw [upto_drop m t hg]
  by_cases h0 : upto l t = 0
  · rw [if_pos (by omega), if_pos h0]; omega
  · rw [if_neg h0]
    by_cases h1 : upto l t - m = 0
    · have e : m = upto l t := by omega
      rw [if_pos h1, if_pos (by rw [← e]; exact hd e (by omega))]
      omega
    · rw [if_neg h1, rdD, show m + (upto l t - m - 1) = upto l t - 1 from by omega]
      split <;> omega
theorem sweep_drop {l : List S25} {a : Int} {m : Nat} {t : Int} (hg : good l a) (hm : m ≤ upto l t) (hd : m = upto l t → m ≠ 0 → (rd_T25 l ((m - 1 : Nat) : Int)).f2 = true) : sweep (l.drop m) t = sweep l t := by
  unfold sweep
  rw [List.drop_drop, cut_drop hg hm hd]
theorem cut_dead {l : List S25} {s t : Int} (hst : s ≤ t) : cut l s = upto l t → cut l s ≠ 0 → (rd_T25 l ((cut l s - 1 : Nat) : Int)).f2 = true := by
  intro h h0
  have h1 := cut_le l s
  have h2 := upto_mono l hst
  have e : cut l s = upto l s := by omega
  rw [e] at h0 ⊢
  exact cut_full e h0
theorem sweep_sweep {l : List S25} {a s t : Int} (hg : good l a) (hst : s ≤ t) : sweep (sweep l s) t = sweep l t :=
  sweep_drop hg (Nat.le_trans (cut_le l s) (upto_mono l hst)) (cut_dead hst)
theorem rd_append (l r : List S25) (i : Nat) (h : i < l.length) : rd_T25 (l ++ r) (i : Int) = rd_T25 l (i : Int) := by
  simp [rd_T25, List.getD_eq_getElem?_getD, List.getElem?_append_left h]
theorem sweep_added {l : List S25} {v : S25} {s t : Int} (hg : good (l ++ [v]) 0) (hst : s ≤ t) : sweep (sweep l s ++ [v]) t = sweep (l ++ [v]) t := by
  have hc := cut_le l s
  have hu := upto_le l s
  have hm := upto_mono l hst
  have e : sweep l s ++ [v] = (l ++ [v]).drop (cut l s) := by
    unfold sweep
    rw [List.drop_append_of_le_length (by omega)]
  have hut := upto_le l t
  have h1 : upto l t ≤ upto (l ++ [v]) t := by
    rw [upto_snoc]
    split <;> omega
  rw [e]
  refine sweep_drop hg (by omega) ?_
  intro h h0
  have h2 : cut l s = upto l t := by omega
  rw [rd_append l [v] _ (by omega)]
  exact cut_dead hst h2 h0
/-- What is read of a time: the shard, and whether there is one. -/
def there (l : List S25) (t : Int) : ByteArray × Bool := match at? l t with | none => (⟨#[]⟩, false) | some v => (v.f1, !v.f2)
theorem rd_some {l : List S25} {i : Nat} (h : i < l.length) : l[i]? = some (rd_T25 l (i : Int)) := by
  simp [rd_T25, List.getD_eq_getElem?_getD, List.getElem?_eq_getElem h]
theorem there_zero {l : List S25} {t : Int} (h : upto l t = 0) : there l t = (⟨#[]⟩, false) := by unfold there at?; rw [if_pos h]
theorem there_pos {l : List S25} {t : Int} (h : upto l t ≠ 0) : there l t = ((rd_T25 l ((upto l t - 1 : Nat) : Int)).f1, !(rd_T25 l ((upto l t - 1 : Nat) : Int)).f2) := by
  unfold there at?
  rw [if_neg h, rd_some (by have := upto_le l t; omega)]
theorem rd_mem {l : List S25} {i : Nat} (h : i < l.length) : rd_T25 l (i : Int) ∈ l := List.mem_of_getElem? (rd_some h)
theorem there_sweep {l : List S25} {s t : Int} (hg : good l 0) (hst : s ≤ t) : there (sweep l s) t = there l t := by
  have h1 := cut_le l s
  have h2 := upto_mono l hst
  have hu : upto (sweep l s) t = upto l t - cut l s := upto_drop _ _ hg
  by_cases h0 : upto l t = 0
  · rw [there_zero h0, there_zero (by omega)]
  · by_cases h3 : upto l t - cut l s = 0
    · have e : cut l s = upto l t := by omega
      have hd := cut_dead hst e (by omega)
      rw [there_zero (by omega), there_pos h0, ← e]
      have hle := upto_le l t
      have hb := (bad_zero (good_mem hg _ (rd_mem (l := l) (i := cut l s - 1) (by omega)))).2.2 hd
      rw [hd, hb]
      rfl
    · rw [there_pos h0, there_pos (by omega), hu]
      unfold sweep
      rw [rdD, show cut l s + (upto l t - cut l s - 1) = upto l t - 1 from by omega]
theorem there_added {l : List S25} {v : S25} {t : Int} (h : t < v.f0) : there (l ++ [v]) t = there l t := by
  have e : upto (l ++ [v]) t = upto l t := by rw [upto_snoc]; have := upto_le l t; split <;> (try rw [if_neg (by omega)]) <;> omega
  have hle := upto_le l t
  by_cases h0 : upto l t = 0
  · rw [there_zero h0, there_zero (by omega)]
  · rw [there_pos h0, there_pos (by omega), e, rd_append l [v] _ (by omega)]
end Go.Proofs.Ytpkccaoeglbcfaa.ChainMath
