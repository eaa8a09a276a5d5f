/- For every slice of versions: those that may be added one by one are a chain, each counts of its own time, and the last one of every later time. No condition. -/
import Derived.Test.YtpkccaoeglbcfaaChainFns
import Derived.Test.YtpkccaoeglbcfaaFcorncriblaw11ChainOrder
namespace Go.Proofs.Ytpkccaoeglbcfaa.Pure
open Go.RowKit Go.Proofs.Ytpkccaoeglbcfaa.Base Go.Proofs.Ytpkccaoeglbcfaa.ChainMath Go.Proofs.Ytpkccaoeglbcfaa.ChainFns Go.Proofs.Ytpkccaoeglbcfaa.Al Go.Proofs.YtpkccaoeglbcfaaW.PrintWords Go.Proofs.YtpkccaoeglbcfaaW.PrintLast Go.Proofs.YtpkccaoeglbcfaaW.PrintMore
theorem check_good {l : List S25} (h1 : l.length ≤ 1024) (h2 : good l 0) : (check l).2 = 0 := (check_ok l).2 ⟨h1, h2⟩
theorem atR_own {l : List S25} {i : Nat} {t : Int} (h1 : l.length ≤ 1024) (h2 : good l 0) (hu : upto l t = i + 1) : atR l t = ((rd_T25 l (i : Int)).f0, (rd_T25 l (i : Int)).f1, (rd_T25 l (i : Int)).f2, true, 0) := by
  unfold atR
  rw [if_pos (check_good h1 h2), if_neg (by omega), show ((upto l t - 1 : Nat) : Int) = (i : Int) from by omega]
theorem atR_none {l : List S25} {t : Int} (h1 : l.length ≤ 1024) (h2 : good l 0) (hu : upto l t = 0) : atR l t = (0, (⟨#[]⟩ : ByteArray), false, false, 0) := by
  unfold atR
  rw [if_pos (check_good h1 h2), if_pos hu]
theorem order_l1 (l : List S25) (h1 : l.length ≤ 1024) (h2 : good l 0) : ∀ d i : Nat, i + d = l.length → Ev (fun k => corncriblaw11_ChainOrder.l1 k l l l.length i) true
  | 0, i, h => by
    refine Ev.succ ?_
    simp only [corncriblaw11_ChainOrder.l1]
    refine Ev.neg (by omega) (Ev.bind (at_ev l 0) ?_)
    rw [atR_none h1 h2 (upto_low 0 h2 (Int.le_refl _))]
    exact Ev.pos rfl (Ev.now _)
  | d + 1, i, h => by
    have hi : i < l.length := by omega
    have ih := order_l1 l h1 h2 d (i + 1) (by omega)
    refine Ev.succ ?_
    simp only [corncriblaw11_ChainOrder.l1]
    rw [next_i hi (by omega)]
    refine Ev.pos (by omega) (Ev.pos (by omega) (Ev.pos (by omega) (Ev.bind (at_ev l _) ?_)))
    rw [atR_own h1 h2 (upto_own i _ h2 (rd_some hi))]
    exact Ev.pos rfl (Ev.pos rfl (Ev.neg (by simp) ih))
theorem order_l0 (l : List S25) : ∀ (d i : Nat) (have_ : List S25), i + d = 60 → have_.length ≤ i → good have_ 0 → Ev (fun k => corncriblaw11_ChainOrder.l0 k l have_ i) true := by
  have fin : ∀ (i : Nat) (hv : List S25), hv.length ≤ 1024 → good hv 0 → Ev (fun k => corncriblaw11_ChainOrder.j1 k l hv i false) true := by
    intro i hv h1 h2
    refine Ev.succ ?_
    simp only [corncriblaw11_ChainOrder.j1]
    exact Ev.neg (by simp) (order_l1 hv h1 h2 hv.length 0 (by omega))
  intro d
  induction d with
  | zero =>
    intro i hv hi hlen hg
    refine Ev.succ ?_
    simp only [corncriblaw11_ChainOrder.l0]
    by_cases hc : (i : Int) < l.length
    · refine Ev.pos hc ?_
      rw [show decide ((i : Int) < 60) = false from decide_eq_false (by omega)]
      exact fin i hv (by omega) hg
    · exact Ev.neg hc (fin i hv (by omega) hg)
  | succ d ihd =>
    intro i hv hi hlen hg
    refine Ev.succ ?_
    simp only [corncriblaw11_ChainOrder.l0]
    by_cases hc : (i : Int) < l.length
    case neg => exact Ev.neg hc (fin i hv (by omega) hg)
    refine Ev.pos hc ?_
    rw [show decide ((i : Int) < 60) = true from decide_eq_true (by omega)]
    obtain ⟨v, ev⟩ : ∃ v, rd_T25 l (i : Int) = v := ⟨_, rfl⟩
    refine Ev.succ ?_
    simp only [corncriblaw11_ChainOrder.j1]
    rw [ev]
    refine Ev.pos trivial (Ev.pos (by omega) (Ev.pos hc (Ev.bind (add_ev hv v) (Ev.bind (last_ev hv) ?_))))
    have hl : lastR hv = (lastTs hv 0, 0) := by unfold lastR; rw [if_pos (check_good (by omega) hg)]
    rw [hl]
    refine Ev.pos rfl ?_
    have nx : wrap64 ((i : Int) + 1) = ((i + 1 : Nat) : Int) := next_i (n := 100) (by omega) (by omega)
    by_cases ha : (addR hv v).2 = 0
    · refine Ev.pos ha ?_
      obtain ⟨e1, g1, g2, g3⟩ := add_ok ha
      rw [e1, show decide (v.f0 ≤ (lastTs hv 0, (0 : Int)).1) = false from decide_eq_false (by simp only; omega)]
      have hn : (hv ++ [v]).length = hv.length + 1 := by simp
      have hat : (hv ++ [v])[hv.length]? = some v := by simp
      have hr : rd_T25 (hv ++ [v]) (hv.length : Int) = v := rdT hat
      have hbad := bad_zero (good_snoc.1 g1).2.1
      have u1 := upto_own hv.length v g1 hat
      have u2 : upto (hv ++ [v]) 4611686018427387904 = hv.length + 1 := by
        rw [upto_all _ g1 (lastTs_ge g1).1 (by rw [lastTs_snoc]; omega), hn]
      refine Ev.succ ?_
      simp only [corncriblaw11_ChainOrder.j2]
      rw [ev, nx]
      refine Ev.neg (by simp) (Ev.pos ha (Ev.pos (by omega) (Ev.pos hc (Ev.bind (at_ev _ v.f0) (Ev.bind (at_ev _ 4611686018427387904) ?_)))))
      rw [atR_own g2 g1 u1, atR_own g2 g1 u2, hr]
      exact Ev.pos rfl (Ev.pos rfl (Ev.pos rfl (Ev.pos rfl (Ev.neg (by simp) (Ev.neg (by simp) (ihd (i + 1) _ (by omega) (by omega) g1))))))
    · refine Ev.neg ha (Ev.succ ?_)
      simp only [corncriblaw11_ChainOrder.j2]
      rw [nx]
      exact Ev.neg (by simp) (Ev.neg ha (ihd (i + 1) hv (by omega) (by omega) hg))
theorem ChainOrder {V1 L1 : Prop} (l : List S25) (_ : V1) (_ : L1) : ∃ k, corncriblaw11_ChainOrder.f k l = some true := by
  refine Ev.rounds (g := fun k => corncriblaw11_ChainOrder.f k l) ?_
  unfold corncriblaw11_ChainOrder.f
  exact Ev.bind works_ev (Ev.pos rfl (order_l0 l 60 0 [] (by omega) (by simp) trivial))
end Go.Proofs.Ytpkccaoeglbcfaa.Pure
