/- For every slice of versions, every version and every two times: what is read of a time stays behind a version added above it and behind a sweep not above it. No condition. -/
import Derived.Test.YtpkccaoeglbcfaaChainFns
import Derived.Test.YtpkccaoeglbcfaaFcorncriblaw11ChainStays
namespace Go.Proofs.Ytpkccaoeglbcfaa.Pure
open Go.RowKit Go.Proofs.Ytpkccaoeglbcfaa.Base Go.Proofs.Ytpkccaoeglbcfaa.ChainMath Go.Proofs.Ytpkccaoeglbcfaa.ChainFns Go.Proofs.Ytpkccaoeglbcfaa.Al Go.Proofs.YtpkccaoeglbcfaaW.PrintWords Go.Proofs.YtpkccaoeglbcfaaW.PrintLast Go.Proofs.YtpkccaoeglbcfaaW.PrintMore
theorem check_good {l : List S25} (h1 : l.length ≤ 1024) (h2 : good l 0) : (check l).2 = 0 := (check_ok l).2 ⟨h1, h2⟩
theorem sweep_good {l : List S25} (t : Int) (h1 : l.length ≤ 1024) (h2 : good l 0) : (sweep l t).length ≤ l.length ∧ good (sweep l t) 0 := by
  unfold sweep
  exact ⟨by rw [List.length_drop]; omega, good_drop _ (Int.le_refl _) h2⟩
theorem sweepR_ok {l : List S25} (t : Int) (h1 : l.length ≤ 1024) (h2 : good l 0) : sweepR l t = (sweep l t, 0) := by unfold sweepR; rw [if_pos (check_good h1 h2)]
theorem thereR_ok {l : List S25} (t : Int) (h1 : l.length ≤ 1024) (h2 : good l 0) : thereR l t = there l t := by unfold thereR; rw [if_pos (check_good h1 h2)]
theorem ChainStaysCore (l : List S25) (v : S25) (t low : Int) : ∃ k, corncriblaw11_ChainStays.f k l v.f0 v.f1 v.f2 t low = some true := by
  refine Ev.rounds (g := fun k => corncriblaw11_ChainStays.f k l v.f0 v.f1 v.f2 t low) ?_
  unfold corncriblaw11_ChainStays.f
  refine Ev.bind works_ev (Ev.pos rfl (Ev.bind (check_ev l) ?_))
  by_cases h : (check l).2 = 0
  case neg => exact Ev.neg h (Ev.now _)
  refine Ev.pos h (Ev.bind (there_ev l t) (Ev.bind (add_ev l v) ?_))
  obtain ⟨h1, h2⟩ := (check_ok l).1 h
  rw [thereR_ok t h1 h2]
  have hs : mn low t ≤ t := by unfold mn; split <;> omega
  have s1 := sweep_good (mn low t) h1 h2
  have j2 : Ev (fun k => corncriblaw11_ChainStays.j2 k t (mn low t) (there l t).1 (there l t).2 (sweep l (mn low t)) false) true := by
    refine Ev.succ ?_
    simp only [corncriblaw11_ChainStays.j2]
    refine Ev.neg (by simp) (Ev.bind (there_ev _ t) (Ev.bind (sweep_ev _ _) (Ev.bind (check_ev _) ?_)))
    rw [thereR_ok t (by omega) s1.2, there_sweep h2 hs, sweepR_ok _ (by omega) s1.2, sweep_sweep h2 (Int.le_refl _)]
    exact Ev.pos rfl (Ev.pos (by simp) (Ev.pos rfl (Ev.pos (check_good (by omega) s1.2) (Ev.bind (sameV_ev (sweep l (mn low t)) (by omega)) (Ev.now _)))))
  have j1 : Ev (fun k => corncriblaw11_ChainStays.j1 k l t low (there l t).1 (there l t).2) true := by
    refine Ev.succ ?_
    simp only [corncriblaw11_ChainStays.j1]
    refine Ev.bind (sweep_ev l (mn low t)) ?_
    rw [sweepR_ok _ h1 h2]
    refine Ev.pos rfl ?_
    rw [show decide (((sweep l (mn low t), (0 : Int)).1.length : Int) > (l.length : Int)) = false from decide_eq_false (by simp only; omega)]
    exact j2
  by_cases ha : (addR l v).2 = 0
  · refine Ev.pos ha ?_
    obtain ⟨e, g1, g2, g3⟩ := add_ok ha
    rw [e]
    refine Ev.succ ?_
    simp only [corncriblaw11_ChainStays.j0]
    by_cases hv : v.f0 > t
    · refine Ev.pos (decide_eq_true hv) (Ev.bind (there_ev _ t) ?_)
      rw [thereR_ok t g2 g1, there_added hv]
      refine Ev.pos rfl (Ev.neg (by simp) (Ev.pos ?_ j1))
      rw [next_i (i := l.length) (n := l.length + 1) (by omega) (by omega), List.length_append]
      rfl
    · exact Ev.neg (by simpa using hv) j1
  · refine Ev.neg ha (Ev.succ ?_)
    simp only [corncriblaw11_ChainStays.j0]
    exact Ev.neg (by simp) j1
theorem ChainStays {V1 V2 V3 L1 L2 L3 : Prop} (l : List S25) (x : Int) (y : ByteArray) (z : Bool) (t low : Int) (_ : V1) (_ : V2) (_ : V3) (_ : L1) (_ : L2) (_ : L3) : ∃ k, corncriblaw11_ChainStays.f k l x y z t low = some true := ChainStaysCore l ⟨x, y, z⟩ t low
end Go.Proofs.Ytpkccaoeglbcfaa.Pure
