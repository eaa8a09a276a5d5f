/- For every slice of versions, every version and every two times: two sweeps are the sweep of the later time, with a version added between, too. No condition. -/
import Derived.Test.YtpkccaoeglbcfaaChainFns
import Derived.Test.YtpkccaoeglbcfaaFcorncriblaw11ChainSweeps
namespace Go.Proofs.Ytpkccaoeglbcfaa.Pure
open Go.RowKit Go.Proofs.Ytpkccaoeglbcfaa.Base Go.Proofs.Ytpkccaoeglbcfaa.ChainMath Go.Proofs.Ytpkccaoeglbcfaa.ChainFns Go.Proofs.Ytpkccaoeglbcfaa.Al Go.Proofs.YtpkccaoeglbcfaaW.PrintWords Go.Proofs.YtpkccaoeglbcfaaW.PrintLast Go.Proofs.YtpkccaoeglbcfaaW.PrintMore
theorem check_good {l : List S25} (h1 : l.length ≤ 1024) (h2 : good l 0) : (check l).2 = 0 := (check_ok l).2 ⟨h1, h2⟩
theorem sweep_good {l : List S25} (t : Int) (h1 : l.length ≤ 1024) (h2 : good l 0) : (sweep l t).length ≤ l.length ∧ good (sweep l t) 0 := by
  unfold sweep
  exact ⟨by rw [List.length_drop]; omega, good_drop _ (Int.le_refl _) h2⟩
theorem sweepR_ok {l : List S25} (t : Int) (h1 : l.length ≤ 1024) (h2 : good l 0) : sweepR l t = (sweep l t, 0) := by unfold sweepR; rw [if_pos (check_good h1 h2)]
theorem thereR_ok {l : List S25} (t : Int) (h1 : l.length ≤ 1024) (h2 : good l 0) : thereR l t = there l t := by unfold thereR; rw [if_pos (check_good h1 h2)]
theorem ChainSweepsCore (l : List S25) (v : S25) (t low : Int) : ∃ k, corncriblaw11_ChainSweeps.f k l v.f0 v.f1 v.f2 t low = some true := by
  refine Ev.rounds (g := fun k => corncriblaw11_ChainSweeps.f k l v.f0 v.f1 v.f2 t low) ?_
  unfold corncriblaw11_ChainSweeps.f
  refine Ev.bind works_ev (Ev.pos rfl (Ev.bind (sweep_ev l _) ?_))
  have hs : mn t low ≤ mx t low := by unfold mn mx; split <;> split <;> omega
  generalize mn t low = s at hs ⊢
  generalize mx t low = u at hs ⊢
  by_cases h : (check l).2 = 0
  case neg =>
    unfold sweepR
    simp only [if_neg h]
    exact Ev.now _
  obtain ⟨h1, h2⟩ := (check_ok l).1 h
  have s1 := sweep_good s h1 h2
  rw [sweepR_ok s h1 h2]
  refine Ev.pos rfl (Ev.bind (sweep_ev _ u) (Ev.bind (sweep_ev l u) ?_))
  rw [sweepR_ok u h1 h2, sweepR_ok (l := sweep l s) u (by omega) s1.2]
  simp only
  rw [sweep_sweep h2 hs]
  have s2 := sweep_good u h1 h2
  refine Ev.pos trivial (Ev.pos trivial (Ev.bind (sameV_ev _ (by omega)) (Ev.succ ?_)))
  simp only [corncriblaw11_ChainSweeps.j0]
  refine Ev.neg (by simp) (Ev.bind (last_ev l) ?_)
  have hl : (lastR l).1 = lastTs l 0 := by unfold lastR; rw [if_pos h]
  rw [hl]
  by_cases hv : v.f0 ≤ lastTs l 0
  · exact Ev.pos hv (Ev.now _)
  refine Ev.neg hv (Ev.bind (add_ev _ v) (Ev.bind (add_ev l v) ?_))
  have j1t : ∀ x y : List S25, Ev (fun k => corncriblaw11_ChainSweeps.j1 k u x y true) true := by
    intro x y
    refine Ev.succ ?_
    simp only [corncriblaw11_ChainSweeps.j1]
    exact Ev.pos trivial (Ev.now _)
  by_cases ha : (addR (sweep l s) v).2 = 0
  case neg => exact Ev.neg ha (j1t _ _)
  refine Ev.pos ha ?_
  by_cases hb : (addR l v).2 = 0
  case neg =>
    rw [show ((addR l v).2 != 0) = true from by simpa using hb]
    exact j1t _ _
  rw [hb]
  obtain ⟨e1, g1, g2, _⟩ := add_ok ha
  obtain ⟨e2, g3, g4, _⟩ := add_ok hb
  rw [e1, e2]
  refine Ev.succ ?_
  simp only [corncriblaw11_ChainSweeps.j1]
  refine Ev.neg (by simp) (Ev.bind (sweep_ev _ u) (Ev.bind (sweep_ev _ u) ?_))
  rw [sweepR_ok u g2 g1, sweepR_ok u g4 g3, sweep_added g3 hs]
  have s3 := sweep_good u g4 g3
  exact Ev.pos rfl (Ev.pos rfl (Ev.bind (sameV_ev (sweep (l ++ [v]) u) (by omega)) (Ev.now _)))
theorem ChainSweeps {V1 V2 V3 L1 L2 L3 : Prop} (l : List S25) (x : Int) (y : ByteArray) (z : Bool) (t low : Int) (_ : V1) (_ : V2) (_ : V3) (_ : L1) (_ : L2) (_ : L3) : ∃ k, corncriblaw11_ChainSweeps.f k l x y z t low = some true := ChainSweepsCore l ⟨x, y, z⟩ t low
end Go.Proofs.Ytpkccaoeglbcfaa.Pure
