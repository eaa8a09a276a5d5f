/- What the functions of chain, of the document's answer and of the helpers come to, from enough rounds on. -/
import Derived.Test.YtpkccaoeglbcfaaChainMath
import Derived.Test.YtpkccaoeglbcfaaFchainAdd
import Derived.Test.YtpkccaoeglbcfaaFcorncribref11Add
import Derived.Test.YtpkccaoeglbcfaaFchainAt
import Derived.Test.YtpkccaoeglbcfaaFcorncribref11At
import Derived.Test.YtpkccaoeglbcfaaFchainSweep
import Derived.Test.YtpkccaoeglbcfaaFcorncribref11Sweep
import Derived.Test.YtpkccaoeglbcfaaFchainLast
import Derived.Test.YtpkccaoeglbcfaaFcorncribref11Last
import Derived.Test.YtpkccaoeglbcfaaFcorncribbookSpoilVersions
import Derived.Test.YtpkccaoeglbcfaaFcorncribbookKeptVersions
import Derived.Test.YtpkccaoeglbcfaaFcorncribbookLendVersions
import Derived.Test.YtpkccaoeglbcfaaFcorncriblaw11works
import Derived.Test.YtpkccaoeglbcfaaFcorncriblaw11there
namespace Go.Proofs.Ytpkccaoeglbcfaa.ChainFns
open Go.RowKit Go.Proofs.Ytpkccaoeglbcfaa.Base Go.Proofs.Ytpkccaoeglbcfaa.Al Go.Proofs.Ytpkccaoeglbcfaa.ChainMath Go.Proofs.YtpkccaoeglbcfaaW.PrintWords Go.Proofs.YtpkccaoeglbcfaaW.PrintLast Go.Proofs.YtpkccaoeglbcfaaW.PrintMore
theorem Ev.succ {α : Type} {g : Nat → Option α} {r : α} (h : Ev (fun k => g (k + 1)) r) : Ev g r := Ev.step (fun _ => rfl) h
theorem next_i {i n : Nat} (h : i < n) (hn : n ≤ 4611686018427387904) : wrap64 ((i : Int) + 1) = ((i + 1 : Nat) : Int) := by rw [wrap_id (by omega) (by omega)]; omega
theorem prev_i {n : Nat} (h : 0 < n) (hn : n ≤ 4611686018427387904) : wrap64 ((n : Int) - 1) = ((n - 1 : Nat) : Int) := by rw [wrap_id (by omega) (by omega)]; omega
theorem drop_rd {l : List S25} {i : Nat} (h : i < l.length) : l.drop i = rd_T25 l (i : Int) :: l.drop (i + 1) := by
  rw [List.drop_eq_getElem_cons h]
  simp [rd_T25, List.getD_eq_getElem?_getD, List.getElem?_eq_getElem h]
theorem bad_range {v : S25} (h : v.f0 < 1 ∨ v.f0 > 1125899906842624) : bad v = 1 := by unfold bad; rw [if_pos h]
theorem bad_long {v : S25} (h : ¬ (v.f0 < 1 ∨ v.f0 > 1125899906842624)) (h2 : (v.f1.size : Int) > 2052) : bad v = 2 := by unfold bad; rw [if_neg h, if_pos h2]
theorem bad_shape {v : S25} (h : ¬ (v.f0 < 1 ∨ v.f0 > 1125899906842624)) (h2 : ¬ (v.f1.size : Int) > 2052) (h3 : v.f2 = true ∧ v.f1.toList ≠ []) : bad v = 4 := by unfold bad; rw [if_neg h, if_neg h2, if_pos h3]
theorem bad_none {v : S25} (h : ¬ (v.f0 < 1 ∨ v.f0 > 1125899906842624)) (h2 : ¬ (v.f1.size : Int) > 2052) (h3 : ¬ (v.f2 = true ∧ v.f1.toList ≠ [])) : bad v = 0 := by unfold bad; rw [if_neg h, if_neg h2, if_neg h3]
theorem check_l0 (l : List S25) (hl : l.length ≤ 1024) : ∀ (d i : Nat) (a : Int), i + d = l.length → Ev (fun k => chain_Check.l0 k a l l.length i) (chk (l.drop i) i a)
  | 0, i, a, h => by
    rw [List.drop_of_length_le (by omega)]
    refine Ev.succ ?_
    simp only [chain_Check.l0]
    exact Ev.neg (by omega) (Ev.now _)
  | d + 1, i, a, h => by
    have hi : i < l.length := by omega
    rw [drop_rd hi]
    have ih := check_l0 l hl d (i + 1) (rd_T25 l (i : Int)).f0 (by omega)
    obtain ⟨v, ev⟩ : ∃ v, rd_T25 l (i : Int) = v := ⟨_, rfl⟩
    rw [ev] at ih ⊢
    have j2 : bad v = 0 ∨ bad v = 4 → Ev (fun k => chain_Check.j2 k a i l l.length i (decide (bad v = 4)) v.f0 v.f1 v.f2) (chk (v :: l.drop (i + 1)) i a) := by
      intro hb
      refine Ev.succ ?_
      simp only [chain_Check.j2]
      rcases hb with hb | hb
      · refine Ev.neg (by simp [hb]) ?_
        unfold chk
        rw [if_neg (by simp [hb])]
        by_cases h2 : v.f0 ≤ a
        · rw [if_pos h2]; exact Ev.pos h2 (Ev.now _)
        · rw [if_neg h2]
          refine Ev.neg h2 ?_
          rw [next_i hi (by omega)]
          exact ih
      · refine Ev.pos (by simp [hb]) ?_
        unfold chk
        rw [if_pos (by simp [hb]), hb]
        exact Ev.now _
    have j1 : ∀ b : Bool, (b = true ↔ (v.f0 < 1 ∨ v.f0 > 1125899906842624)) → Ev (fun k => chain_Check.j1 k a i l l.length i b v.f0 v.f1 v.f2) (chk (v :: l.drop (i + 1)) i a) := by
      intro b hb
      refine Ev.succ ?_
      simp only [chain_Check.j1]
      by_cases hr : v.f0 < 1 ∨ v.f0 > 1125899906842624
      · refine Ev.pos (hb.2 hr) ?_
        have e := bad_range hr
        unfold chk
        rw [if_pos (by simp [e]), e]
        exact Ev.now _
      · refine Ev.neg (fun hc => hr (hb.1 hc)) ?_
        by_cases hs : (v.f1.size : Int) > 2052
        · refine Ev.pos hs ?_
          have e := bad_long hr hs
          unfold chk
          rw [if_pos (by simp [e]), e]
          exact Ev.now _
        · refine Ev.neg hs ?_
          by_cases hd : v.f2 = true
          · refine Ev.pos hd ?_
            by_cases hx : v.f1.toList = []
            · have e := bad_none hr hs (fun hc => hc.2 hx)
              have := j2 (Or.inl e)
              rw [e] at this
              rw [hx]
              exact this
            · have e := bad_shape hr hs ⟨hd, hx⟩
              have := j2 (Or.inr e)
              rw [e] at this
              rw [show (v.f1.toList != ([] : List UInt8)) = true from by simpa using hx]
              exact this
          · refine Ev.neg hd ?_
            have e := bad_none hr hs (fun hc => hd hc.1)
            have := j2 (Or.inl e)
            rw [e] at this
            exact this
    refine Ev.succ ?_
    simp only [chain_Check.l0]
    refine Ev.pos (by omega) (Ev.pos (by omega) (Ev.pos (by omega) ?_))
    rw [ev]
    by_cases h1 : v.f0 < 1
    · exact Ev.pos h1 (j1 true (by simp [h1]))
    · exact Ev.neg h1 (j1 _ (by simp [h1]))
theorem check_ev (l : List S25) : Ev (fun k => chain_Check.f k l) (check l) := by
  unfold chain_Check.f check
  by_cases h : (l.length : Int) > 1024
  · rw [if_pos h]; exact Ev.pos h (Ev.now _)
  · rw [if_neg h]
    refine Ev.neg h ?_
    exact check_l0 l (by omega) l.length 0 0 (by omega)
def before (l : List S25) (i : Nat) : Int := if i = 0 then 0 else (rd_T25 l ((i - 1 : Nat) : Int)).f0
theorem rcheck_l0 (l : List S25) (hl : l.length ≤ 1024) : ∀ (d i : Nat), i + d = l.length → Ev (fun k => corncribref11_Check.l0 k l i) (chk (l.drop i) i (before l i))
  | 0, i, h => by
    rw [List.drop_of_length_le (by omega)]
    refine Ev.succ ?_
    simp only [corncribref11_Check.l0]
    exact Ev.neg (by omega) (Ev.now _)
  | d + 1, i, h => by
    have hi : i < l.length := by omega
    rw [drop_rd hi]
    have ih := rcheck_l0 l hl d (i + 1) (by omega)
    have eb : before l (i + 1) = (rd_T25 l (i : Int)).f0 := by unfold before; rw [if_neg (by omega)]; rfl
    rw [eb] at ih
    obtain ⟨v, ev⟩ : ∃ v, rd_T25 l (i : Int) = v := ⟨_, rfl⟩
    rw [ev] at ih ⊢
    have j2 : 1 ≤ v.f0 → bad v = 0 ∨ bad v = 4 → Ev (fun k => corncribref11_Check.j2 k l i (decide (bad v = 4))) (chk (v :: l.drop (i + 1)) i (before l i)) := by
      intro hv1 hb
      refine Ev.succ ?_
      simp only [corncribref11_Check.j2]
      rcases hb with hb | hb
      · refine Ev.neg (by simp [hb]) ?_
        unfold chk
        rw [if_neg (by simp [hb]), next_i hi (by omega), ev]
        by_cases h0 : i = 0
        · refine Ev.neg (by omega) ?_
          unfold before
          rw [if_pos h0, if_neg (by omega)]
          exact ih
        · unfold before
          rw [if_neg h0, prev_i (by omega) (by omega)]
          refine Ev.pos (by omega) (Ev.pos (by omega) (Ev.pos (by omega) (Ev.pos (by omega) (Ev.pos (by omega) ?_))))
          by_cases h2 : v.f0 ≤ (rd_T25 l ((i - 1 : Nat) : Int)).f0
          · rw [if_pos h2]; exact Ev.pos h2 (Ev.now _)
          · rw [if_neg h2]
            refine Ev.neg h2 ?_
            exact ih
      · refine Ev.pos (by simp [hb]) ?_
        unfold chk
        rw [if_pos (by simp [hb]), hb]
        exact Ev.now _
    have j1 : ∀ b : Bool, (b = true ↔ (v.f0 < 1 ∨ v.f0 > 1125899906842624)) → Ev (fun k => corncribref11_Check.j1 k l i b) (chk (v :: l.drop (i + 1)) i (before l i)) := by
      intro b hb
      refine Ev.succ ?_
      simp only [corncribref11_Check.j1]
      rw [ev]
      by_cases hr : v.f0 < 1 ∨ v.f0 > 1125899906842624
      · refine Ev.pos (hb.2 hr) ?_
        have e := bad_range hr
        unfold chk
        rw [if_pos (by simp [e]), e]
        exact Ev.now _
      · refine Ev.neg (fun hc => hr (hb.1 hc)) (Ev.pos (by omega) (Ev.pos (by omega) ?_))
        by_cases hs : (v.f1.size : Int) > 2052
        · refine Ev.pos hs ?_
          have e := bad_long hr hs
          unfold chk
          rw [if_pos (by simp [e]), e]
          exact Ev.now _
        · refine Ev.neg hs ?_
          by_cases hd : v.f2 = true
          · refine Ev.pos hd ?_
            by_cases hx : v.f1.toList = []
            · have e := bad_none hr hs (fun hc => hc.2 hx)
              have := j2 (by omega) (Or.inl e)
              rw [e] at this
              rw [hx]
              exact this
            · have e := bad_shape hr hs ⟨hd, hx⟩
              have := j2 (by omega) (Or.inr e)
              rw [e] at this
              rw [show (v.f1.toList != ([] : List UInt8)) = true from by simpa using hx]
              exact this
          · refine Ev.neg hd ?_
            have e := bad_none hr hs (fun hc => hd hc.1)
            have := j2 (by omega) (Or.inl e)
            rw [e] at this
            exact this
    refine Ev.succ ?_
    simp only [corncribref11_Check.l0]
    refine Ev.pos (by omega) (Ev.pos (by omega) ?_)
    rw [ev]
    by_cases h1 : v.f0 < 1
    · exact Ev.pos h1 (j1 true (by simp [h1]))
    · exact Ev.neg h1 (j1 _ (by simp [h1]))
theorem rcheck_ev (l : List S25) : Ev (fun k => corncribref11_Check.f k l) (check l) := by
  unfold corncribref11_Check.f check
  by_cases h : (l.length : Int) > 1024
  · rw [if_pos h]; exact Ev.pos h (Ev.now _)
  · rw [if_neg h]
    refine Ev.neg h ?_
    exact rcheck_l0 l (by omega) l.length 0 (by omega)
theorem place_l0 (l : List S25) (t : Int) (hl : l.length ≤ 1024) : ∀ (d i : Nat), i + d = l.length → Ev (fun k => corncribref11_place.l0 k l t i) ((i + upto (l.drop i) t : Nat) : Int)
  | 0, i, h => by
    rw [List.drop_of_length_le (by omega), upto_nil]
    refine Ev.succ ?_
    simp only [corncribref11_place.l0]
    exact Ev.neg (by omega) (Ev.now _)
  | d + 1, i, h => by
    have hi : i < l.length := by omega
    have ih := place_l0 l t hl d (i + 1) (by omega)
    rw [drop_rd hi, upto_cons]
    refine Ev.succ ?_
    simp only [corncribref11_place.l0]
    refine Ev.pos (by omega) (Ev.pos (by omega) ?_)
    by_cases hv : (rd_T25 l (i : Int)).f0 ≤ t
    · refine Ev.pos hv ?_
      rw [if_pos hv, next_i hi (by omega), show i + (upto (l.drop (i + 1)) t + 1) = i + 1 + upto (l.drop (i + 1)) t from by omega]
      exact ih
    · rw [if_neg hv]
      exact Ev.neg hv (Ev.now _)
theorem place_ev (l : List S25) (t : Int) (hl : l.length ≤ 1024) : Ev (fun k => corncribref11_place.f k l t) (upto l t : Int) := by
  have := place_l0 l t hl l.length 0 (by omega)
  unfold corncribref11_place.f
  simpa using this
theorem until_eq {l : List S25} {a : Int} (t : Int) (hl : l.length ≤ 1024) (hg : good l a) : chain_until.f l t = some (upto l t : Int) := by
  unfold chain_until.f
  rw [if_pos ⟨by omega, good_rises hg⟩]
def atR (l : List S25) (t : Int) : Int × ByteArray × Bool × Bool × Int :=
  if (check l).2 = 0 then (if upto l t = 0 then (0, (⟨#[]⟩ : ByteArray), false, false, 0) else ((rd_T25 l ((upto l t - 1 : Nat) : Int)).f0, (rd_T25 l ((upto l t - 1 : Nat) : Int)).f1, (rd_T25 l ((upto l t - 1 : Nat) : Int)).f2, true, 0)) else (0, (⟨#[]⟩ : ByteArray), false, false, (check l).2)
theorem at_ev (l : List S25) (t : Int) : Ev (fun k => chain_At.f k l t) (atR l t) := by
  unfold chain_At.f atR
  refine Ev.bind (check_ev l) ?_
  by_cases h : (check l).2 = 0
  · obtain ⟨h1, h2⟩ := (check_ok l).1 h
    have hu := upto_le l t
    rw [until_eq t h1 h2]
    refine Ev.pos h (Ev.some_bind ?_)
    rw [if_pos h]
    by_cases h0 : upto l t = 0
    · rw [if_pos h0]; exact Ev.pos (by omega) (Ev.now _)
    · rw [if_neg h0, prev_i (by omega) (by omega)]
      exact Ev.neg (by omega) (Ev.pos (by omega) (Ev.pos (by omega) (Ev.now _)))
  · refine Ev.neg h ?_
    rw [if_neg h]; exact Ev.now _
theorem rat_ev (l : List S25) (t : Int) : Ev (fun k => corncribref11_At.f k l t) (atR l t) := by
  unfold corncribref11_At.f atR
  refine Ev.bind (rcheck_ev l) ?_
  by_cases h : (check l).2 = 0
  · obtain ⟨h1, h2⟩ := (check_ok l).1 h
    have hu := upto_le l t
    refine Ev.pos h (Ev.bind (place_ev l t h1) ?_)
    rw [if_pos h]
    by_cases h0 : upto l t = 0
    · rw [if_pos h0]; exact Ev.pos (by omega) (Ev.now _)
    · rw [if_neg h0, prev_i (by omega) (by omega)]
      exact Ev.neg (by omega) (Ev.pos (by omega) (Ev.pos (by omega) (Ev.now _)))
  · refine Ev.neg h ?_
    rw [if_neg h]; exact Ev.now _
def sweepR (l : List S25) (t : Int) : List S25 × Int := if (check l).2 = 0 then (sweep l t, 0) else ([], (check l).2)
theorem clone_eq {l : List S25} (h : l.length ≤ 1024) : api_Version_26.f l = some l := by unfold api_Version_26.f; rw [if_pos (by omega)]
theorem sweep_ev (l : List S25) (t : Int) : Ev (fun k => chain_Sweep.f k l t) (sweepR l t) := by
  unfold chain_Sweep.f sweepR
  refine Ev.bind (check_ev l) ?_
  by_cases h : (check l).2 = 0
  · obtain ⟨h1, h2⟩ := (check_ok l).1 h
    have hu := upto_le l t
    have hcl : ∀ m, api_Version_26.f (l.drop m) = some (l.drop m) := fun m => clone_eq (by rw [List.length_drop]; omega)
    rw [until_eq t h1 h2]
    refine Ev.pos h (Ev.some_bind ?_)
    rw [if_pos h]
    unfold sweep cut
    by_cases h0 : upto l t = 0
    · refine Ev.neg (by omega) (Ev.pos (by omega) (Ev.pos (by omega) ?_))
      rw [if_pos h0, h0, hcl]
      exact Ev.some_bind (Ev.now _)
    · rw [if_neg h0, prev_i (by omega) (by omega)]
      refine Ev.pos (by omega) (Ev.pos (by omega) (Ev.pos (by omega) ?_))
      by_cases hd : (rd_T25 l ((upto l t - 1 : Nat) : Int)).f2 = true
      · refine Ev.pos hd (Ev.pos (by omega) (Ev.pos (by omega) ?_))
        rw [if_pos hd, hcl]
        exact Ev.some_bind (Ev.now _)
      · refine Ev.neg hd (Ev.pos (by omega) ?_)
        rw [if_neg hd, hcl]
        exact Ev.some_bind (Ev.now _)
  · refine Ev.neg h ?_
    rw [if_neg h]; exact Ev.now _
theorem rsweep_ev (l : List S25) (t : Int) : Ev (fun k => corncribref11_Sweep.f k l t) (sweepR l t) := by
  unfold corncribref11_Sweep.f sweepR
  refine Ev.bind (rcheck_ev l) ?_
  by_cases h : (check l).2 = 0
  · obtain ⟨h1, h2⟩ := (check_ok l).1 h
    have hu := upto_le l t
    have hlen : ∀ m, (([] : List S25).length + (l.drop m).length < 4398046511104) := fun m => by rw [List.length_drop, List.length_nil]; omega
    refine Ev.pos h (Ev.bind (place_ev l t h1) ?_)
    rw [if_pos h]
    unfold sweep cut
    by_cases h0 : upto l t = 0
    · refine Ev.neg (by omega) (Ev.some_bind (Ev.pos (by omega) (Ev.pos (by omega) (Ev.some_bind (Ev.pos (hlen _) ?_)))))
      rw [if_pos h0, h0]
      exact Ev.now _
    · rw [if_neg h0, prev_i (by omega) (by omega)]
      refine Ev.pos (by omega) (Ev.pos (by omega) (Ev.pos (by omega) ?_))
      by_cases hd : (rd_T25 l ((upto l t - 1 : Nat) : Int)).f2 = true
      · refine Ev.pos hd (Ev.some_bind (Ev.pos (by omega) (Ev.pos (by omega) (Ev.some_bind (Ev.pos (hlen _) ?_)))))
        rw [if_pos hd]
        exact Ev.now _
      · refine Ev.neg hd (Ev.some_bind (Ev.pos (by omega) (Ev.some_bind (Ev.pos (hlen _) ?_))))
        rw [if_neg hd]
        exact Ev.now _
  · refine Ev.neg h ?_
    rw [if_neg h]; exact Ev.now _
theorem lastTs_rd {l : List S25} {a : Int} (h : 0 < l.length) : lastTs l a = (rd_T25 l ((l.length - 1 : Nat) : Int)).f0 := by
  unfold lastTs
  rw [List.getLast?_eq_getElem?, rd_some (by omega)]
def lastR (l : List S25) : Int × Int := if (check l).2 = 0 then (lastTs l 0, 0) else (0, (check l).2)
theorem last_ev (l : List S25) : Ev (fun k => chain_Last.f k l) (lastR l) := by
  unfold chain_Last.f lastR
  refine Ev.bind (check_ev l) ?_
  by_cases h : (check l).2 = 0
  · obtain ⟨h1, h2⟩ := (check_ok l).1 h
    refine Ev.pos h ?_
    rw [if_pos h]
    by_cases h0 : l.length = 0
    · refine Ev.pos (by omega) ?_
      rw [List.eq_nil_of_length_eq_zero h0]
      exact Ev.now _
    · rw [prev_i (by omega) (by omega), lastTs_rd (by omega)]
      exact Ev.neg (by omega) (Ev.pos (by omega) (Ev.pos (by omega) (Ev.now _)))
  · refine Ev.neg h ?_
    rw [if_neg h]; exact Ev.now _
theorem rlast_ev (l : List S25) : Ev (fun k => corncribref11_Last.f k l) (lastR l) := by
  unfold corncribref11_Last.f lastR
  refine Ev.bind (rcheck_ev l) ?_
  by_cases h : (check l).2 = 0
  · obtain ⟨h1, h2⟩ := (check_ok l).1 h
    refine Ev.pos h ?_
    rw [if_pos h]
    by_cases h0 : l.length = 0
    · refine Ev.pos (by omega) ?_
      rw [List.eq_nil_of_length_eq_zero h0]
      exact Ev.now _
    · rw [prev_i (by omega) (by omega), lastTs_rd (by omega)]
      exact Ev.neg (by omega) (Ev.pos (by omega) (Ev.pos (by omega) (Ev.now _)))
  · refine Ev.neg h ?_
    rw [if_neg h]; exact Ev.now _
theorem sameV_l0 (l : List S25) (hl : l.length ≤ 4611686018427387904) : ∀ (d i : Nat), i + d = l.length → Ev (fun k => corncribbook_SameVersions.l0 k l l (i : Int)) true
  | 0, i, h => by
    refine Ev.succ ?_
    simp only [corncribbook_SameVersions.l0]
    exact Ev.neg (by omega) (Ev.now _)
  | d + 1, i, h => by
    have ih := sameV_l0 l hl d (i + 1) (by omega)
    refine Ev.succ ?_
    simp only [corncribbook_SameVersions.l0]
    rw [next_i (show i < l.length by omega) hl]
    exact Ev.pos (by omega) (Ev.pos (by omega) (Ev.pos (by omega) (Ev.neg (by simp) ih)))
theorem sameV_ev (l : List S25) (hl : l.length ≤ 4611686018427387904) : Ev (fun k => corncribbook_SameVersions.f k l l) true := by
  unfold corncribbook_SameVersions.f
  exact Ev.pos rfl (sameV_l0 l hl l.length 0 (by omega))
theorem spoil_l0 (n : Nat) (hn : n ≤ 4611686018427387904) : ∀ (d i : Nat) (l : List S25), l.length = n → i + d = n → ∃ r, Ev (fun k => corncribbook_SpoilVersions.l0 k l (i : Int)) r
  | 0, i, l, hl, h => by
    refine ⟨l, Ev.succ ?_⟩
    simp only [corncribbook_SpoilVersions.l0]
    exact Ev.neg (by omega) (Ev.now _)
  | d + 1, i, l, hl, h => by
    obtain ⟨r, ih⟩ := spoil_l0 n hn d (i + 1) (l.set i (⟨(-99), (⟨#[]⟩ : ByteArray), false⟩ : S25)) (by simp [hl]) (by omega)
    refine ⟨r, Ev.succ ?_⟩
    simp only [corncribbook_SpoilVersions.l0]
    rw [next_i (show i < n by omega) hn, Int.toNat_natCast]
    exact Ev.pos (by omega) (Ev.pos (by omega) ih)
theorem spoil_ev (l : List S25) (hl : l.length ≤ 4611686018427387904) : ∃ r, Ev (fun k => corncribbook_SpoilVersions.f k l) r := spoil_l0 l.length hl l.length 0 l rfl (by omega)
theorem kept_ev (l : List S25) (hl : l.length ≤ 4611686018427387904) : Ev (fun k => corncribbook_KeptVersions.f k l l) true := sameV_ev l hl
theorem lend_eq (l : List S25) (h : l.length * 32 ≤ 140737488351232) : corncribbook_LendVersions.f l = some l := by
  unfold corncribbook_LendVersions.f
  simp only [Option.bind_some]
  rw [if_pos (by simp; omega), if_pos (by simp; omega), if_pos (by omega), if_pos (by simp; omega)]
  simp
theorem rdL0 (a b : List S25) : rd_L4 [a, b] 0 = a := rfl
theorem rdL1 (a b : List S25) : rd_L4 [a, b] 1 = b := rfl
theorem w1 : wrap64 (0 + 1) = 1 := wrap_id (by omega) (by omega)
theorem w2 : wrap64 (1 + 1) = 2 := wrap_id (by omega) (by omega)
theorem concat_ev (a b : List S25) (ha : a.length ≤ 1048576) (hb : b.length ≤ 1048576) : Ev (fun k => api_Version_27.f k [a, b]) (a ++ b) := by
  have e1 : wrap64 (0 + (a.length : Int)) = a.length := by rw [wrap_id (by omega) (by omega)]; omega
  have e2 : wrap64 ((a.length : Int) + (b.length : Int)) = ((a.length + b.length : Nat) : Int) := by rw [wrap_id (by omega) (by omega)]; omega
  unfold api_Version_27.f
  have hl : (([a, b] : List (List S25)).length : Int) = 2 := rfl
  have hg : api_Version_30.f ([] : List S25) ((a.length + b.length : Nat) : Int) = some [] := by unfold api_Version_30.f; rw [if_pos ⟨rfl, by omega, by omega⟩]
  rw [hl]
  have s3 : Ev (fun k => api_Version_27.l1 k (a ++ b) [a, b] 2 2) (a ++ b) := by
    refine Ev.succ ?_
    simp only [api_Version_27.l1]
    exact Ev.neg (by omega) (Ev.now _)
  have s2 : Ev (fun k => api_Version_27.l1 k a [a, b] 2 1) (a ++ b) := by
    refine Ev.succ ?_
    simp only [api_Version_27.l1]
    rw [hl, rdL1, w2]
    exact Ev.pos (by omega) (Ev.pos (by omega) (Ev.pos (by omega) (Ev.pos (by omega) s3)))
  have s1 : Ev (fun k => api_Version_27.l1 k [] [a, b] 2 0) (a ++ b) := by
    refine Ev.succ ?_
    simp only [api_Version_27.l1]
    rw [hl, rdL0, w1]
    exact Ev.pos (by omega) (Ev.pos (by omega) (Ev.pos (by omega) (Ev.pos (by simp; omega) s2)))
  have r3 : Ev (fun k => api_Version_27.l0 k [a, b] ((a.length + b.length : Nat) : Int) [a, b] 2 2) (a ++ b) := by
    refine Ev.succ ?_
    simp only [api_Version_27.l0]
    rw [hg, hl]
    exact Ev.neg (by omega) (Ev.some_bind s1)
  have r2 : Ev (fun k => api_Version_27.l0 k [a, b] (a.length : Int) [a, b] 2 1) (a ++ b) := by
    refine Ev.succ ?_
    simp only [api_Version_27.l0]
    rw [hl, rdL1, w2, e2]
    exact Ev.pos (by omega) (Ev.pos (by omega) (Ev.pos (by omega) (Ev.neg (by omega) r3)))
  refine Ev.succ ?_
  simp only [api_Version_27.l0]
  rw [hl, rdL0, w1, e1]
  exact Ev.pos (by omega) (Ev.pos (by omega) (Ev.pos (by omega) (Ev.neg (by omega) r2)))
def addR (l : List S25) (v : S25) : List S25 × Int :=
  if (check l).2 = 0 then (if (check [v]).2 = 0 then (if l ≠ [] ∧ v.f0 ≤ lastTs l 0 then ([], 110) else if l.length = 1024 then ([], 2) else (l ++ [v], 0)) else ([], (check [v]).2)) else ([], (check l).2)
theorem ne_len {l : List S25} : l ≠ [] ↔ 0 < l.length := by cases l <;> simp
theorem add_ev (l : List S25) (v : S25) : Ev (fun k => chain_Add.f k l v.f0 v.f1 v.f2) (addR l v) := by
  have hl : (([l, [v]] : List (List S25)).length : Int) = 2 := rfl
  unfold chain_Add.f
  refine Ev.some_bind ?_
  rw [hl]
  have j1 : l.length ≤ 1024 → ∀ b : Bool, (b = true ↔ l ≠ [] ∧ v.f0 ≤ lastTs l 0) → Ev (fun k => chain_Add.j1 k l b v.f0 v.f1 v.f2) (if l ≠ [] ∧ v.f0 ≤ lastTs l 0 then ([], 110) else if l.length = 1024 then ([], 2) else (l ++ [v], 0)) := by
    intro h1 b hb
    refine Ev.succ ?_
    simp only [chain_Add.j1]
    by_cases hc : l ≠ [] ∧ v.f0 ≤ lastTs l 0
    · rw [if_pos hc]; exact Ev.pos (hb.2 hc) (Ev.now _)
    · rw [if_neg hc]
      refine Ev.neg (fun hx => hc (hb.1 hx)) ?_
      by_cases hn : l.length = 1024
      · rw [if_pos hn]; exact Ev.pos (by omega) (Ev.now _)
      · rw [if_neg hn]
        exact Ev.neg (by omega) (Ev.bind (concat_ev l [v] (by omega) (by simp)) (Ev.now _))
  have s3 : l.length ≤ 1024 → Ev (fun k => chain_Add.l0 k l [l, [v]] 2 2 v.f0 v.f1 v.f2) (if l ≠ [] ∧ v.f0 ≤ lastTs l 0 then ([], 110) else if l.length = 1024 then ([], 2) else (l ++ [v], 0)) := by
    intro h1
    refine Ev.succ ?_
    simp only [chain_Add.l0]
    refine Ev.neg (by omega) ?_
    by_cases h0 : l.length = 0
    · refine Ev.neg (by omega) (j1 h1 false ?_)
      rw [ne_len]; simp; omega
    · rw [prev_i (by omega) (by omega)]
      refine Ev.pos (by omega) (Ev.pos (by omega) (Ev.pos (by omega) (j1 h1 _ ?_)))
      rw [ne_len, ← lastTs_rd (a := 0) (by omega)]; simp; omega
  have s2 : l.length ≤ 1024 → Ev (fun k => chain_Add.l0 k l [l, [v]] 2 1 v.f0 v.f1 v.f2) (if (check [v]).2 = 0 then (if l ≠ [] ∧ v.f0 ≤ lastTs l 0 then ([], 110) else if l.length = 1024 then ([], 2) else (l ++ [v], 0)) else ([], (check [v]).2)) := by
    intro h1
    refine Ev.succ ?_
    simp only [chain_Add.l0]
    rw [hl, rdL1, w2]
    refine Ev.pos (by omega) (Ev.pos (by omega) (Ev.pos (by omega) (Ev.bind (check_ev [v]) ?_)))
    by_cases h : (check [v]).2 = 0
    · rw [if_pos h]; exact Ev.pos h (s3 h1)
    · refine Ev.neg h ?_
      rw [if_neg h]; exact Ev.now _
  refine Ev.succ ?_
  simp only [chain_Add.l0]
  rw [hl, rdL0, w1]
  refine Ev.pos (by omega) (Ev.pos (by omega) (Ev.pos (by omega) (Ev.bind (check_ev l) ?_)))
  unfold addR
  by_cases h : (check l).2 = 0
  · refine Ev.pos h ?_
    rw [if_pos h]; exact s2 ((check_ok l).1 h).1
  · refine Ev.neg h ?_
    rw [if_neg h]; exact Ev.now _
theorem radd_ev (l : List S25) (v : S25) : Ev (fun k => corncribref11_Add.f k l v.f0 v.f1 v.f2) (addR l v) := by
  unfold corncribref11_Add.f addR
  refine Ev.bind (rcheck_ev l) ?_
  by_cases h : (check l).2 = 0
  · obtain ⟨h1, _⟩ := (check_ok l).1 h
    have j0 : ∀ b : Bool, (b = true ↔ l ≠ [] ∧ v.f0 ≤ lastTs l 0) → Ev (fun k => corncribref11_Add.j0 k l b v.f0 v.f1 v.f2) (if l ≠ [] ∧ v.f0 ≤ lastTs l 0 then ([], 110) else if l.length = 1024 then ([], 2) else (l ++ [v], 0)) := by
      intro b hb
      refine Ev.succ ?_
      simp only [corncribref11_Add.j0]
      by_cases hc : l ≠ [] ∧ v.f0 ≤ lastTs l 0
      · rw [if_pos hc]; exact Ev.pos (hb.2 hc) (Ev.now _)
      · rw [if_neg hc]
        refine Ev.neg (fun hx => hc (hb.1 hx)) ?_
        by_cases hn : l.length = 1024
        · rw [if_pos hn]; exact Ev.pos (by omega) (Ev.now _)
        · rw [if_neg hn]
          exact Ev.neg (by omega) (Ev.some_bind (Ev.pos (by simp; omega) (Ev.some_bind (Ev.some_bind (Ev.pos (by simp; omega) (Ev.now _))))))
    refine Ev.pos h (Ev.bind (rcheck_ev [v]) ?_)
    rw [if_pos h]
    by_cases hv : (check [v]).2 = 0
    · refine Ev.pos hv ?_
      rw [if_pos hv]
      by_cases h0 : l.length = 0
      · refine Ev.neg (by omega) (j0 false ?_)
        rw [ne_len]; simp; omega
      · rw [prev_i (by omega) (by omega)]
        refine Ev.pos (by omega) (Ev.pos (by omega) (Ev.pos (by omega) (j0 _ ?_)))
        rw [ne_len, ← lastTs_rd (a := 0) (by omega)]; simp; omega
    · refine Ev.neg hv ?_
      rw [if_neg hv]; exact Ev.now _
  · refine Ev.neg h ?_
    rw [if_neg h]; exact Ev.now _
theorem toList_B (s : ByteArray) : s.toList = B s := toList_eq s
def thereR (l : List S25) (t : Int) : ByteArray × Bool := if (check l).2 = 0 then there l t else (⟨#[]⟩, false)
theorem there_ev (l : List S25) (t : Int) : Ev (fun k => corncriblaw11_there.f k l t) (thereR l t) := by
  unfold corncriblaw11_there.f thereR
  refine Ev.bind (at_ev l t) ?_
  unfold atR
  by_cases h : (check l).2 = 0
  · simp only [if_pos h]
    by_cases h0 : upto l t = 0
    · simp only [if_pos h0, there_zero h0]
      exact Ev.now _
    · simp only [if_neg h0, there_pos h0]
      exact Ev.now _
  · simp only [if_neg h]
    exact Ev.now _
theorem add_ok {l : List S25} {v : S25} (h : (addR l v).2 = 0) : (addR l v).1 = l ++ [v] ∧ good (l ++ [v]) 0 ∧ (l ++ [v]).length ≤ 1024 ∧ lastTs l 0 < v.f0 := by
  unfold addR at h ⊢
  by_cases h1 : (check l).2 = 0
  · rw [if_pos h1] at h ⊢
    by_cases h2 : (check [v]).2 = 0
    · rw [if_pos h2] at h ⊢
      by_cases h3 : l ≠ [] ∧ v.f0 ≤ lastTs l 0
      · rw [if_pos h3] at h; simp at h
      · rw [if_neg h3] at h ⊢
        by_cases h4 : l.length = 1024
        · rw [if_pos h4] at h; simp at h
        · rw [if_neg h4]
          obtain ⟨a1, a2⟩ := (check_ok l).1 h1
          obtain ⟨_, b2⟩ := (check_ok [v]).1 h2
          have hb := (bad_zero b2.1).1
          have hl : lastTs l 0 < v.f0 := by
            by_cases h0 : l = []
            · rw [h0, lastTs_nil]; omega
            · exact Int.not_le.1 fun hc => h3 ⟨h0, hc⟩
          exact ⟨rfl, good_snoc.2 ⟨a2, b2.1, hl⟩, by rw [List.length_append]; simp; omega, hl⟩
    · rw [if_neg h2] at h; exact absurd h h2
  · rw [if_neg h1] at h; exact absurd h h1
theorem lastTs_snoc (l : List S25) (v : S25) (a : Int) : lastTs (l ++ [v]) a = v.f0 := by simp [lastTs]
theorem works_ev : Ev (fun k => corncriblaw11_works.f k) true := by
  unfold corncriblaw11_works.f
  refine Ev.some_bind (Ev.bind (at_ev _ 6) (Ev.bind (sweep_ev _ 6) (Ev.bind (sweep_ev _ 9) ?_)))
  rw [toList_B]
  refine Ev.pos (by decide +kernel) (Ev.pos (by decide +kernel) (Ev.pos (by decide +kernel) (Ev.pos (by decide +kernel) (Ev.pos (by decide +kernel) (Ev.pos (by decide +kernel) (Ev.pos (by decide +kernel) (Ev.pos (by decide +kernel) ?_)))))))
  exact Ev.congr (f := fun _ => some true) (fun k => congrArg some (by decide +kernel)) (Ev.now _)
end Go.Proofs.Ytpkccaoeglbcfaa.ChainFns
