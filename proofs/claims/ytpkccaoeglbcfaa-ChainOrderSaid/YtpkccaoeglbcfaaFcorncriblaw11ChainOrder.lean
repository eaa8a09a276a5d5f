/- One function of the program comes to what its plain twin says. This text began as the kit's own print (print.py, made by cprint.sh) and was turned by split.py: it is no printed file. -/
import Derived.Test.YtpkccaoeglbcfaaF0
import Derived.Test.YtpkccaoeglbcfaaFaux0
import Derived.Test.YtpkccaoeglbcfaaFchainAt
import Derived.Test.YtpkccaoeglbcfaaFchainLast
import Derived.Test.YtpkccaoeglbcfaaFcorncriblaw11works
import Derived.Test.YtpkccaoeglbcfaaFchainAdd
namespace Go.Proofs.Ytpkccaoeglbcfaa.Al
open Go.RowKit Go.Proofs.YtpkccaoeglbcfaaW.PrintWords Go.Proofs.YtpkccaoeglbcfaaW.PrintLast Go.Proofs.YtpkccaoeglbcfaaW.PrintMore
attribute [local go_sem] max2_int min2_int max_two min_two max_three min_three max_four min_four   -- for this text's walks alone
set_option linter.unusedVariables false
set_option linter.unusedSimpArgs false

attribute [local go_sem high] eqA25
/-! ### corncriblaw11_ChainOrder: function 6 -/
mutual
def corncriblaw11_ChainOrder.l0 : Nat → List (S25) → List (S25) → Int → Option (Bool)
  | 0, _, _, _ => none
  | k + 1, x0, x3, x4 => if x4 < (x0.length : Int) then (corncriblaw11_ChainOrder.j1 k x0 x3 x4 (decide (x4 < 60))) else (corncriblaw11_ChainOrder.j1 k x0 x3 x4 false)
def corncriblaw11_ChainOrder.j1 : Nat → List (S25) → List (S25) → Int → Bool → Option (Bool)
  | 0, _, _, _, _ => none
  | k + 1, x0, x3, x4, x32 => if x32 = true then (if 0 ≤ x4 then (if x4 < (x0.length : Int) then ((chain_Add.f k x3 ((rd_T25 x0 x4).f0) ((rd_T25 x0 x4).f1) ((rd_T25 x0 x4).f2)).bind fun bt368 => ((chain_Last.f k x3).bind fun bt372 => (if bt372.2 = 0 then (if bt368.2 = 0 then (corncriblaw11_ChainOrder.j2 k x0 x3 x4 bt368.1 bt368.2 (decide (((rd_T25 x0 x4).f0) ≤ bt372.1))) else (corncriblaw11_ChainOrder.j2 k x0 x3 x4 bt368.1 bt368.2 false)) else (corncriblaw11_ChainOrder.j2 k x0 x3 x4 bt368.1 bt368.2 true)))) else (none)) else (none)) else (corncriblaw11_ChainOrder.l1 k x3 x3 (x3.length : Int) 0)
def corncriblaw11_ChainOrder.j2 : Nat → List (S25) → List (S25) → Int → List (S25) → Int → Bool → Option (Bool)
  | 0, _, _, _, _, _, _ => none
  | k + 1, x0, x3, x4, x5, x6, x63 => if x63 = true then (some false) else (if x6 = 0 then (if 0 ≤ x4 then (if x4 < (x0.length : Int) then ((chain_At.f k x5 ((rd_T25 x0 x4).f0)).bind fun bt376 => ((chain_At.f k x5 4611686018427387904).bind fun bt382 => (if bt376.2.2.2.2 = 0 then (if bt382.2.2.2.2 = 0 then (if bt376.2.2.2.1 = true then (if bt382.2.2.2.1 = true then (if (!(bt376.1 == ((rd_T25 x0 x4).f0)) || (!(bt376.2.1.toList == (((rd_T25 x0 x4).f1).toList)) || (!(bt376.2.2.1 == ((rd_T25 x0 x4).f2))))) = true then (some false) else (if (!(bt382.1 == ((rd_T25 x0 x4).f0)) || (!(bt382.2.1.toList == (((rd_T25 x0 x4).f1).toList)) || (!(bt382.2.2.1 == ((rd_T25 x0 x4).f2))))) = true then (some false) else (corncriblaw11_ChainOrder.l0 k x0 x5 (wrap64 (x4 + 1))))) else (some false)) else (some false)) else (some false)) else (some false)))) else (none)) else (none)) else (corncriblaw11_ChainOrder.l0 k x0 x3 (wrap64 (x4 + 1))))
def corncriblaw11_ChainOrder.l1 : Nat → List (S25) → List (S25) → Int → Int → Option (Bool)
  | 0, _, _, _, _ => none
  | k + 1, x3, x114, x115, x116 => if x116 < x115 then (if 0 ≤ x116 then (if x116 < (x114.length : Int) then ((chain_At.f k x3 ((rd_T25 x114 x116).f0)).bind fun bt392 => (if bt392.2.2.2.2 = 0 then (if bt392.2.2.2.1 = true then (if (!(bt392.1 == ((rd_T25 x114 x116).f0)) || (!(bt392.2.1.toList == (((rd_T25 x114 x116).f1).toList)) || (!(bt392.2.2.1 == ((rd_T25 x114 x116).f2))))) = true then (some false) else (corncriblaw11_ChainOrder.l1 k x3 x114 x115 (wrap64 (x116 + 1)))) else (some false)) else (some false))) else (none)) else (none)) else ((chain_At.f k x3 0).bind fun bt398 => (if bt398.2.2.2.2 = 0 then (some (!bt398.2.2.2.1)) else (some false)))
end
def corncriblaw11_ChainOrder.f (k : Nat) (l0 : List (S25)) : Option (Bool) := (corncriblaw11_works.f k).bind fun t366 => (if t366 = true then (corncriblaw11_ChainOrder.l0 k l0 ([] : List (S25)) 0) else (some false))
theorem corncriblaw11_ChainOrder.mono_l : ∀ k, (∀ y0 y1 y2, LeO (corncriblaw11_ChainOrder.l0 k y0 y1 y2) (corncriblaw11_ChainOrder.l0 (k + 1) y0 y1 y2)) ∧ (∀ y0 y1 y2 y3, LeO (corncriblaw11_ChainOrder.j1 k y0 y1 y2 y3) (corncriblaw11_ChainOrder.j1 (k + 1) y0 y1 y2 y3)) ∧ (∀ y0 y1 y2 y3 y4 y5, LeO (corncriblaw11_ChainOrder.j2 k y0 y1 y2 y3 y4 y5) (corncriblaw11_ChainOrder.j2 (k + 1) y0 y1 y2 y3 y4 y5)) ∧ (∀ y0 y1 y2 y3, LeO (corncriblaw11_ChainOrder.l1 k y0 y1 y2 y3) (corncriblaw11_ChainOrder.l1 (k + 1) y0 y1 y2 y3))
  | 0 => ⟨fun _ _ _ r h => by simp [corncriblaw11_ChainOrder.l0] at h, fun _ _ _ _ r h => by simp [corncriblaw11_ChainOrder.j1] at h, fun _ _ _ _ _ _ r h => by simp [corncriblaw11_ChainOrder.j2] at h, fun _ _ _ _ r h => by simp [corncriblaw11_ChainOrder.l1] at h⟩
  | k + 1 => by
    obtain ⟨ih0, ih1, ih2, ih3⟩ := corncriblaw11_ChainOrder.mono_l k
    refine ⟨?_, ?_, ?_, ?_⟩
    · intro y0 y1 y2
      unfold corncriblaw11_ChainOrder.l0
      repeat' first
      | (with_reducible exact ih0 _ _ _)
      | (with_reducible exact ih1 _ _ _ _)
      | (with_reducible exact ih2 _ _ _ _ _ _)
      | (with_reducible exact ih3 _ _ _ _)
      | (with_reducible exact chain_Add.mono _ _ _ _ _)
      | (with_reducible exact chain_At.mono _ _ _)
      | (with_reducible exact chain_Last.mono _ _)
      | (with_reducible exact corncriblaw11_works.mono _)
      | (with_reducible exact LeO.refl _)
      | (with_reducible exact LeO.none _)
      | (with_reducible refine LeO.ite ?_ ?_)
      | (with_reducible refine LeO.bind ?_ (fun _ => ?_))
      | exact ih0 _ _ _
      | exact ih1 _ _ _ _
      | exact ih2 _ _ _ _ _ _
      | exact ih3 _ _ _ _
      | exact chain_Add.mono _ _ _ _ _
      | exact chain_At.mono _ _ _
      | exact chain_Last.mono _ _
      | exact corncriblaw11_works.mono _
      | exact LeO.none _
      | refine LeO.ite ?_ ?_
      | refine LeO.bind ?_ (fun _ => ?_)
    · intro y0 y1 y2 y3
      unfold corncriblaw11_ChainOrder.j1
      repeat' first
      | (with_reducible exact ih0 _ _ _)
      | (with_reducible exact ih1 _ _ _ _)
      | (with_reducible exact ih2 _ _ _ _ _ _)
      | (with_reducible exact ih3 _ _ _ _)
      | (with_reducible exact chain_Add.mono _ _ _ _ _)
      | (with_reducible exact chain_At.mono _ _ _)
      | (with_reducible exact chain_Last.mono _ _)
      | (with_reducible exact corncriblaw11_works.mono _)
      | (with_reducible exact LeO.refl _)
      | (with_reducible exact LeO.none _)
      | (with_reducible refine LeO.ite ?_ ?_)
      | (with_reducible refine LeO.bind ?_ (fun _ => ?_))
      | exact ih0 _ _ _
      | exact ih1 _ _ _ _
      | exact ih2 _ _ _ _ _ _
      | exact ih3 _ _ _ _
      | exact chain_Add.mono _ _ _ _ _
      | exact chain_At.mono _ _ _
      | exact chain_Last.mono _ _
      | exact corncriblaw11_works.mono _
      | exact LeO.none _
      | refine LeO.ite ?_ ?_
      | refine LeO.bind ?_ (fun _ => ?_)
    · intro y0 y1 y2 y3 y4 y5
      unfold corncriblaw11_ChainOrder.j2
      repeat' first
      | (with_reducible exact ih0 _ _ _)
      | (with_reducible exact ih1 _ _ _ _)
      | (with_reducible exact ih2 _ _ _ _ _ _)
      | (with_reducible exact ih3 _ _ _ _)
      | (with_reducible exact chain_Add.mono _ _ _ _ _)
      | (with_reducible exact chain_At.mono _ _ _)
      | (with_reducible exact chain_Last.mono _ _)
      | (with_reducible exact corncriblaw11_works.mono _)
      | (with_reducible exact LeO.refl _)
      | (with_reducible exact LeO.none _)
      | (with_reducible refine LeO.ite ?_ ?_)
      | (with_reducible refine LeO.bind ?_ (fun _ => ?_))
      | exact ih0 _ _ _
      | exact ih1 _ _ _ _
      | exact ih2 _ _ _ _ _ _
      | exact ih3 _ _ _ _
      | exact chain_Add.mono _ _ _ _ _
      | exact chain_At.mono _ _ _
      | exact chain_Last.mono _ _
      | exact corncriblaw11_works.mono _
      | exact LeO.none _
      | refine LeO.ite ?_ ?_
      | refine LeO.bind ?_ (fun _ => ?_)
    · intro y0 y1 y2 y3
      unfold corncriblaw11_ChainOrder.l1
      repeat' first
      | (with_reducible exact ih0 _ _ _)
      | (with_reducible exact ih1 _ _ _ _)
      | (with_reducible exact ih2 _ _ _ _ _ _)
      | (with_reducible exact ih3 _ _ _ _)
      | (with_reducible exact chain_Add.mono _ _ _ _ _)
      | (with_reducible exact chain_At.mono _ _ _)
      | (with_reducible exact chain_Last.mono _ _)
      | (with_reducible exact corncriblaw11_works.mono _)
      | (with_reducible exact LeO.refl _)
      | (with_reducible exact LeO.none _)
      | (with_reducible refine LeO.ite ?_ ?_)
      | (with_reducible refine LeO.bind ?_ (fun _ => ?_))
      | exact ih0 _ _ _
      | exact ih1 _ _ _ _
      | exact ih2 _ _ _ _ _ _
      | exact ih3 _ _ _ _
      | exact chain_Add.mono _ _ _ _ _
      | exact chain_At.mono _ _ _
      | exact chain_Last.mono _ _
      | exact corncriblaw11_works.mono _
      | exact LeO.none _
      | refine LeO.ite ?_ ?_
      | refine LeO.bind ?_ (fun _ => ?_)
theorem corncriblaw11_ChainOrder.mono : ∀ a0 k, LeO (corncriblaw11_ChainOrder.f k a0) (corncriblaw11_ChainOrder.f (k + 1) a0) := by
  intro a0 k
  obtain ⟨ih0, ih1, ih2, ih3⟩ := corncriblaw11_ChainOrder.mono_l k
  unfold corncriblaw11_ChainOrder.f
  repeat' first
      | (with_reducible exact ih0 _ _ _)
      | (with_reducible exact ih1 _ _ _ _)
      | (with_reducible exact ih2 _ _ _ _ _ _)
      | (with_reducible exact ih3 _ _ _ _)
      | (with_reducible exact chain_Add.mono _ _ _ _ _)
      | (with_reducible exact chain_At.mono _ _ _)
      | (with_reducible exact chain_Last.mono _ _)
      | (with_reducible exact corncriblaw11_works.mono _)
      | (with_reducible exact LeO.refl _)
      | (with_reducible exact LeO.none _)
      | (with_reducible refine LeO.ite ?_ ?_)
      | (with_reducible refine LeO.bind ?_ (fun _ => ?_))
      | exact ih0 _ _ _
      | exact ih1 _ _ _ _
      | exact ih2 _ _ _ _ _ _
      | exact ih3 _ _ _ _
      | exact chain_Add.mono _ _ _ _ _
      | exact chain_At.mono _ _ _
      | exact chain_Last.mono _ _
      | exact corncriblaw11_works.mono _
      | exact LeO.none _
      | refine LeO.ite ?_ ?_
      | refine LeO.bind ?_ (fun _ => ?_)
set_option maxHeartbeats 8000000 in
set_option maxRecDepth 100000 in
theorem corncriblaw11_ChainOrder.calls (k : Nat) (A0 : Option Addr) (c0 : Nat) (l0 : List (S25)) (r : Bool) (w : World) (hr0 : Kd.C k25 w A0 l0.length l0) (hc0 : l0.length ≤ c0) (h : corncriblaw11_ChainOrder.f k l0 = some r) (hr_ : r = true) :
    Calls Try.prog 6 #[.slice A0 l0.length c0] w fun e w' => e = .returned (.bool r) ∧ Below w.heap.size w w' := by
  have HRT := Aside0.mk hr_
  clear hr_
  have hu25 := Try.underlying25
  have HR0 := Aside0.mk hr0
  have HC0 := Aside0.mk hc0
  clear hr0 hc0
  have HB := Aside0.mk (Below.refl w.heap.size w)
  have H : ((corncriblaw11_works.f k).bind fun t366 => (if t366 = true then (corncriblaw11_ChainOrder.l0 k l0 ([] : List (S25)) 0) else (some false))) = some r := h
  clear h
  replace H := Option.bind_eq_some_iff.mp H
  obtain ⟨t366, A20, H⟩ := H
  replace H : (if t366 = true then (corncriblaw11_ChainOrder.l0 k l0 ([] : List (S25)) 0) else (some false)) = some r := H
  have A2 := Aside0.mk A20
  clear A20
  by_cases c3 : t366 = true
  · subst c3
    have H1 : (corncriblaw11_ChainOrder.l0 k l0 ([] : List (S25)) 0) = some r := by rw [if_pos rfl] at H; exact H
    clear H
    have H := H1
    clear H1
    have H' := Aside0.mk H
    clear H
    go_enter Try.func6, Try.ntmps6
    go_wp2_with (first | (go_at_call 18; (with_reducible refine (corncriblaw11_works.calls k  true _ A2.out).mono ?_); rintro e w4 ⟨rfl, hb⟩; have n0_ := Aside0.mk (below_step (by repeat (first | (with_reducible first | exact HB.out | apply below_alloc | apply pw_below_drewN | apply below_drew1) | exact HB.out)) hb); clear HB; have HB := n0_; clear n0_; (try clear hb); (try clear hb2); (try clear hk); (try clear hi)))
    repeat (go_quiet (first | (go_at_call 18; (with_reducible refine (corncriblaw11_works.calls k  true _ A2.out).mono ?_); rintro e w4 ⟨rfl, hb⟩; have n0_ := Aside0.mk (below_step (by repeat (first | (with_reducible first | exact HB.out | apply below_alloc | apply pw_below_drewN | apply below_drew1) | exact HB.out)) hb); clear HB; have HB := n0_; clear n0_; (try clear hb); (try clear hb2); (try clear hk); (try clear hi))); try go_wp2_with (first | (go_at_call 18; (with_reducible refine (corncriblaw11_works.calls k  true _ A2.out).mono ?_); rintro e w4 ⟨rfl, hb⟩; have n0_ := Aside0.mk (below_step (by repeat (first | (with_reducible first | exact HB.out | apply below_alloc | apply pw_below_drewN | apply below_drew1) | exact HB.out)) hb); clear HB; have HB := n0_; clear n0_; (try clear hb); (try clear hb2); (try clear hk); (try clear hi))))
    go_loopg [3, 4] k (fun kq v3 v4 w' => ∃ (x3_1 : List (S25)) (x4_1 : Int), v4 = .int .i64 x4_1 ∧ Aside0 (corncriblaw11_ChainOrder.l0 kq l0 x3_1 x4_1 = some r) ∧ Aside0 (kq ≤ k) ∧ Aside0 (Kd.R k25 25 w' w.heap.size (fun _ => True) v3 x3_1) ∧ Aside0 (Below w.heap.size w w'))
    case atStart => exact ⟨(([] : List (S25))), (0), (by first | rfl | (simp; done) | (simp [*]; done) | (simp [bne_nil_]; done)), H', ⟨Nat.le_refl _⟩, ⟨by first | exact Kd.R_nil _ _ _ _ _ | exact Kd.N_nil _ _ _ _ _ | exact Kd.V_nil _ _ _ _ _ | exact Kd.Q_nil _ _ _ _ _ | exact Kd.S_nil _ _ _ _ _⟩, ⟨by repeat (first | (with_reducible first | exact HB.out | apply below_alloc | apply pw_below_drewN | apply below_drew1) | exact HB.out)⟩⟩
    case round =>
      clear H'
      try clear p2
      try clear c3
      obtain ⟨x3_1, x4_1, rfl, HA, HK1, HO_3, HB⟩ := hrel
      cases gk with
      | zero => exact absurd HA.out (by simp [corncriblaw11_ChainOrder.l0])
      | succ k1 =>
        have H := HA.out
        clear HA
        simp only [corncriblaw11_ChainOrder.l0] at H
        have HC5 := Aside0.mk H
        clear H
        go_upto_region 5 with (fail)
        repeat (go_quiet (fail); go_upto_region 5 with (fail))
        go_cut [32] (fun v32 wc => ∃ (kq : Nat) (x32_4 : Bool), v32 = .bool x32_4 ∧ Aside0 (corncriblaw11_ChainOrder.j1 kq l0 x3_1 x4_1 x32_4 = some r) ∧ Aside0 (kq ≤ k1) ∧ Aside0 (Kd.R k25 25 wc w.heap.size (fun _ => True) u3 x3_1) ∧ Aside0 (Below w.heap.size w wc))
        case first =>
          have H := HC5.out
          clear HC5
          by_cases c6 : x4_1 < (l0.length : Int)
          · rw [if_pos c6] at H
            have c6b0 : decide (x4_1 < (l0.length : Int)) = true := decide_eq_true c6
            clear c6
            (first | rw [c6b0] | (simp only [i64_w, i32_w]; rw [c6b0]) | skip)
            have H' := Aside0.mk H
            clear H
            go_wp2
            repeat (go_quiet (fail); try go_wp2)
            go_meet
            case rel => exact ⟨_, (decide (x4_1 < 60)), (by first | rfl | (simp; done) | (simp [*]; done) | (simp [bne_nil_]; done)), H', ⟨by have := HK1.out; first | omega | exact Nat.le_refl _⟩, ⟨by (with_reducible repeat (first | apply Kd.R_alloc | apply Kd.R_drewN | apply Kd.R_drew)); exact HO_3.out⟩, ⟨by repeat (first | (with_reducible first | exact HB.out | apply below_alloc | apply pw_below_drewN | apply below_drew1) | exact HB.out)⟩⟩
          · rw [if_neg c6] at H
            have c6b0 : decide (x4_1 < (l0.length : Int)) = false := decide_eq_false c6
            clear c6
            (first | rw [c6b0] | (simp only [i64_w, i32_w]; rw [c6b0]) | skip)
            have H' := Aside0.mk H
            clear H
            go_wp2
            repeat (go_quiet (fail); try go_wp2)
            go_meet
            case rel => exact ⟨_, (false), (by first | rfl | (simp; done) | (simp [*]; done) | (simp [bne_nil_]; done)), H', ⟨by have := HK1.out; first | omega | exact Nat.le_refl _⟩, ⟨by (with_reducible repeat (first | apply Kd.R_alloc | apply Kd.R_drewN | apply Kd.R_drew)); exact HO_3.out⟩, ⟨by repeat (first | (with_reducible first | exact HB.out | apply below_alloc | apply pw_below_drewN | apply below_drew1) | exact HB.out)⟩⟩
        case rest =>
          clear HC5
          try clear p2
          try clear c3
          try clear c6
          try clear c6b0
          try clear p2
          obtain ⟨kq, x32_4, rfl, HA, HJ4, HO_3, HB⟩ := hcut
          cases kq with
          | zero => exact absurd HA.out (by simp [corncriblaw11_ChainOrder.j1])
          | succ kj4 =>
            have H := HA.out
            clear HA
            simp only [corncriblaw11_ChainOrder.j1] at H
            by_cases c7 : x32_4 = true
            · subst c7
              have H1 : (if 0 ≤ x4_1 then (if x4_1 < (l0.length : Int) then ((chain_Add.f kj4 x3_1 ((rd_T25 l0 x4_1).f0) ((rd_T25 l0 x4_1).f1) ((rd_T25 l0 x4_1).f2)).bind fun bt368 => ((chain_Last.f kj4 x3_1).bind fun bt372 => (if bt372.2 = 0 then (if bt368.2 = 0 then (corncriblaw11_ChainOrder.j2 kj4 l0 x3_1 x4_1 bt368.1 bt368.2 (decide (((rd_T25 l0 x4_1).f0) ≤ bt372.1))) else (corncriblaw11_ChainOrder.j2 kj4 l0 x3_1 x4_1 bt368.1 bt368.2 false)) else (corncriblaw11_ChainOrder.j2 kj4 l0 x3_1 x4_1 bt368.1 bt368.2 true)))) else (none)) else (none)) = some r := by rw [if_pos rfl] at H; exact H
              clear H
              have H := H1
              clear H1
              by_cases c8 : 0 ≤ x4_1
              · rw [if_pos c8] at H
                have c8b0 : decide (0 ≤ x4_1) = true := decide_eq_true c8
                clear c8
                by_cases c9 : x4_1 < (l0.length : Int)
                · rw [if_pos c9] at H
                  have c9b0 : decide (x4_1 < (l0.length : Int)) = true := decide_eq_true c9
                  clear c9
                  replace H := Option.bind_eq_some_iff.mp H
                  obtain ⟨⟨t368, t371⟩, A100, H⟩ := H
                  replace H : ((chain_Last.f kj4 x3_1).bind fun bt372 => (if bt372.2 = 0 then (if t371 = 0 then (corncriblaw11_ChainOrder.j2 kj4 l0 x3_1 x4_1 t368 t371 (decide (((rd_T25 l0 x4_1).f0) ≤ bt372.1))) else (corncriblaw11_ChainOrder.j2 kj4 l0 x3_1 x4_1 t368 t371 false)) else (corncriblaw11_ChainOrder.j2 kj4 l0 x3_1 x4_1 t368 t371 true))) = some r := H
                  have A10 := Aside0.mk A100
                  clear A100
                  replace H := Option.bind_eq_some_iff.mp H
                  obtain ⟨⟨t372, t373⟩, A110, H⟩ := H
                  replace H : (if t373 = 0 then (if t371 = 0 then (corncriblaw11_ChainOrder.j2 kj4 l0 x3_1 x4_1 t368 t371 (decide (((rd_T25 l0 x4_1).f0) ≤ t372))) else (corncriblaw11_ChainOrder.j2 kj4 l0 x3_1 x4_1 t368 t371 false)) else (corncriblaw11_ChainOrder.j2 kj4 l0 x3_1 x4_1 t368 t371 true)) = some r := H
                  have A11 := Aside0.mk A110
                  clear A110
                  have HC12 := Aside0.mk H
                  clear H
                  have p367 : 0 ≤ (x4_1 : Int) := of_decide_eq_true (by first | (with_reducible assumption) | assumption)
                  have q367 : x4_1 < (l0.length : Int) := of_decide_eq_true (by first | (with_reducible assumption) | assumption)
                  obtain ⟨ad367, e367, hx367_0, hx367_1, hx367_2⟩ := at_T25 HR0.out x4_1 p367 q367
                  cases e367
                  replace hx367_0 := (HB.out.cell (World.block_lt_of_cell? w _ hx367_0)).trans hx367_0
                  replace hx367_1 := (HB.out.cell (World.block_lt_of_cell? w _ hx367_1)).trans hx367_1
                  replace hx367_2 := (HB.out.cell (World.block_lt_of_cell? w _ hx367_2)).trans hx367_2
                  replace p367 := eq_true p367
                  replace q367 := eq_true q367
                  obtain ⟨Ao13, co13, eo13⟩ := Kd.R_slice HO_3.out
                  subst eo13
                  go_upto_region 9 with (first | (go_at_call 21; (with_reducible refine (chain_Add.calls kj4 (fun k_ => some k_ = (.slice Ao13 x3_1.length co13 : Value).ownBlock) _ _ x3_1 ((rd_T25 l0 x4_1).f0) ((rd_T25 l0 x4_1).f1) ((rd_T25 l0 x4_1).f2) t368 t371 _ ?side1 A10.out).mono ?_); (case side1 => exact Kd.R_V (Kd.R_tight rfl (HO_3.out))); rintro e w14 ⟨v369, rfl, ho0, hb⟩; have n0_ := Aside0.mk (Kd.R_elder' (by (with_reducible repeat (first | apply Kd.R_alloc | apply Kd.R_drewN | apply Kd.R_drew)); exact HO_3.out) (Kd.R_base ho0) hb); have n1_ := Aside0.mk (Kd.R_lower (Kd.R_new' (Kd.R_mono (ok' := fun k_ => True) ho0 (fun _ hk_ => trivial)) (Kd.R_lt (by (with_reducible repeat (first | apply Kd.R_alloc | apply Kd.R_drewN | apply Kd.R_drew)); exact HO_3.out))) (below_size (by repeat (first | (with_reducible first | exact HB.out | apply below_alloc | apply pw_below_drewN | apply below_drew1) | exact HB.out)))); have n2_ := Aside0.mk (below_step (by repeat (first | (with_reducible first | exact HB.out | apply below_alloc | apply pw_below_drewN | apply below_drew1) | exact HB.out)) hb); clear HO_3; clear HB; have HO_3 := n0_; have HO370 := n1_; have HB := n2_; clear n0_ n1_ n2_; (try clear hb); (try clear hb2); (try clear hk); (try clear hi); (try clear ho0)) | (go_at_call 13; (with_reducible refine (chain_Last.calls kj4 _ _ x3_1 t372 t373 _ ?side1 ?side2 A11.out).mono ?_); (case side1 => repeat (first | exact (Kd.R_reads' HO_3.out).2.2 | (with_reducible refine Kd.C_alloc ?_ _) | (with_reducible refine Kd.C_drewN ?_ _) | (with_reducible refine Kd.C_drew ?_))); (case side2 => exact (Kd.R_reads' HO_3.out).2.1); rintro e w15 ⟨rfl, hb⟩; have n0_ := Aside0.mk (Kd.R_below (by (with_reducible repeat (first | apply Kd.R_alloc | apply Kd.R_drewN | apply Kd.R_drew)); exact HO_3.out) hb); have n1_ := Aside0.mk (Kd.R_below (by (with_reducible repeat (first | apply Kd.R_alloc | apply Kd.R_drewN | apply Kd.R_drew)); exact HO370.out) hb); have n2_ := Aside0.mk (below_step (by repeat (first | (with_reducible first | exact HB.out | apply below_alloc | apply pw_below_drewN | apply below_drew1) | exact HB.out)) hb); clear HO_3; clear HO370; clear HB; have HO_3 := n0_; have HO370 := n1_; have HB := n2_; clear n0_ n1_ n2_; (try clear hb); (try clear hb2); (try clear hk); (try clear hi)))
                  repeat (go_quiet (first | (go_at_call 21; (with_reducible refine (chain_Add.calls kj4 (fun k_ => some k_ = (.slice Ao13 x3_1.length co13 : Value).ownBlock) _ _ x3_1 ((rd_T25 l0 x4_1).f0) ((rd_T25 l0 x4_1).f1) ((rd_T25 l0 x4_1).f2) t368 t371 _ ?side1 A10.out).mono ?_); (case side1 => exact Kd.R_V (Kd.R_tight rfl (HO_3.out))); rintro e w14 ⟨v369, rfl, ho0, hb⟩; have n0_ := Aside0.mk (Kd.R_elder' (by (with_reducible repeat (first | apply Kd.R_alloc | apply Kd.R_drewN | apply Kd.R_drew)); exact HO_3.out) (Kd.R_base ho0) hb); have n1_ := Aside0.mk (Kd.R_lower (Kd.R_new' (Kd.R_mono (ok' := fun k_ => True) ho0 (fun _ hk_ => trivial)) (Kd.R_lt (by (with_reducible repeat (first | apply Kd.R_alloc | apply Kd.R_drewN | apply Kd.R_drew)); exact HO_3.out))) (below_size (by repeat (first | (with_reducible first | exact HB.out | apply below_alloc | apply pw_below_drewN | apply below_drew1) | exact HB.out)))); have n2_ := Aside0.mk (below_step (by repeat (first | (with_reducible first | exact HB.out | apply below_alloc | apply pw_below_drewN | apply below_drew1) | exact HB.out)) hb); clear HO_3; clear HB; have HO_3 := n0_; have HO370 := n1_; have HB := n2_; clear n0_ n1_ n2_; (try clear hb); (try clear hb2); (try clear hk); (try clear hi); (try clear ho0)) | (go_at_call 13; (with_reducible refine (chain_Last.calls kj4 _ _ x3_1 t372 t373 _ ?side1 ?side2 A11.out).mono ?_); (case side1 => repeat (first | exact (Kd.R_reads' HO_3.out).2.2 | (with_reducible refine Kd.C_alloc ?_ _) | (with_reducible refine Kd.C_drewN ?_ _) | (with_reducible refine Kd.C_drew ?_))); (case side2 => exact (Kd.R_reads' HO_3.out).2.1); rintro e w15 ⟨rfl, hb⟩; have n0_ := Aside0.mk (Kd.R_below (by (with_reducible repeat (first | apply Kd.R_alloc | apply Kd.R_drewN | apply Kd.R_drew)); exact HO_3.out) hb); have n1_ := Aside0.mk (Kd.R_below (by (with_reducible repeat (first | apply Kd.R_alloc | apply Kd.R_drewN | apply Kd.R_drew)); exact HO370.out) hb); have n2_ := Aside0.mk (below_step (by repeat (first | (with_reducible first | exact HB.out | apply below_alloc | apply pw_below_drewN | apply below_drew1) | exact HB.out)) hb); clear HO_3; clear HO370; clear HB; have HO_3 := n0_; have HO370 := n1_; have HB := n2_; clear n0_ n1_ n2_; (try clear hb); (try clear hb2); (try clear hk); (try clear hi))); go_upto_region 9 with (first | (go_at_call 21; (with_reducible refine (chain_Add.calls kj4 (fun k_ => some k_ = (.slice Ao13 x3_1.length co13 : Value).ownBlock) _ _ x3_1 ((rd_T25 l0 x4_1).f0) ((rd_T25 l0 x4_1).f1) ((rd_T25 l0 x4_1).f2) t368 t371 _ ?side1 A10.out).mono ?_); (case side1 => exact Kd.R_V (Kd.R_tight rfl (HO_3.out))); rintro e w14 ⟨v369, rfl, ho0, hb⟩; have n0_ := Aside0.mk (Kd.R_elder' (by (with_reducible repeat (first | apply Kd.R_alloc | apply Kd.R_drewN | apply Kd.R_drew)); exact HO_3.out) (Kd.R_base ho0) hb); have n1_ := Aside0.mk (Kd.R_lower (Kd.R_new' (Kd.R_mono (ok' := fun k_ => True) ho0 (fun _ hk_ => trivial)) (Kd.R_lt (by (with_reducible repeat (first | apply Kd.R_alloc | apply Kd.R_drewN | apply Kd.R_drew)); exact HO_3.out))) (below_size (by repeat (first | (with_reducible first | exact HB.out | apply below_alloc | apply pw_below_drewN | apply below_drew1) | exact HB.out)))); have n2_ := Aside0.mk (below_step (by repeat (first | (with_reducible first | exact HB.out | apply below_alloc | apply pw_below_drewN | apply below_drew1) | exact HB.out)) hb); clear HO_3; clear HB; have HO_3 := n0_; have HO370 := n1_; have HB := n2_; clear n0_ n1_ n2_; (try clear hb); (try clear hb2); (try clear hk); (try clear hi); (try clear ho0)) | (go_at_call 13; (with_reducible refine (chain_Last.calls kj4 _ _ x3_1 t372 t373 _ ?side1 ?side2 A11.out).mono ?_); (case side1 => repeat (first | exact (Kd.R_reads' HO_3.out).2.2 | (with_reducible refine Kd.C_alloc ?_ _) | (with_reducible refine Kd.C_drewN ?_ _) | (with_reducible refine Kd.C_drew ?_))); (case side2 => exact (Kd.R_reads' HO_3.out).2.1); rintro e w15 ⟨rfl, hb⟩; have n0_ := Aside0.mk (Kd.R_below (by (with_reducible repeat (first | apply Kd.R_alloc | apply Kd.R_drewN | apply Kd.R_drew)); exact HO_3.out) hb); have n1_ := Aside0.mk (Kd.R_below (by (with_reducible repeat (first | apply Kd.R_alloc | apply Kd.R_drewN | apply Kd.R_drew)); exact HO370.out) hb); have n2_ := Aside0.mk (below_step (by repeat (first | (with_reducible first | exact HB.out | apply below_alloc | apply pw_below_drewN | apply below_drew1) | exact HB.out)) hb); clear HO_3; clear HO370; clear HB; have HO_3 := n0_; have HO370 := n1_; have HB := n2_; clear n0_ n1_ n2_; (try clear hb); (try clear hb2); (try clear hk); (try clear hi))))
                  (try simp only [Act.put, List.setIfInBounds_toArray, List.set_cons_zero, List.set_cons_succ])
                  go_cut [63] (fun v63 wc => ∃ (kq : Nat) (x63_11 : Bool), v63 = .bool x63_11 ∧ Aside0 (corncriblaw11_ChainOrder.j2 kq l0 x3_1 x4_1 t368 t371 x63_11 = some r) ∧ Aside0 (kq ≤ kj4) ∧ Aside0 (Kd.R k25 25 wc w.heap.size (fun k_ => some k_ ≠ (v369 : Value).ownBlock) (.slice Ao13 x3_1.length co13) x3_1) ∧ Aside0 (Kd.R k25 25 wc w.heap.size (fun k_ => some k_ ≠ ((.slice Ao13 x3_1.length co13) : Value).ownBlock) v369 t368) ∧ Aside0 (Below w.heap.size w wc))
                  case first =>
                    have H := HC12.out
                    clear HC12
                    by_cases c16 : t373 = 0
                    · rw [if_pos c16] at H
                      have c16b0 : (t373 == 0) = true := beq_iff_eq.mpr c16
                      have c16b1 : (t373 != 0) = false := bne_eq_false_iff_eq.mpr c16
                      clear c16
                      (first | rw [c16b0] | (simp only [i64_w, i32_w]; rw [c16b0]) | skip)
                      by_cases c17 : t371 = 0
                      · rw [if_pos c17] at H
                        have c17b0 : (t371 == 0) = true := beq_iff_eq.mpr c17
                        have c17b1 : (t371 != 0) = false := bne_eq_false_iff_eq.mpr c17
                        clear c17
                        have H' := Aside0.mk H
                        clear H
                        have p374 : 0 ≤ (x4_1 : Int) := of_decide_eq_true (by first | (with_reducible assumption) | assumption)
                        have q374 : x4_1 < (l0.length : Int) := of_decide_eq_true (by first | (with_reducible assumption) | assumption)
                        obtain ⟨ad374, e374, hx374_0, hx374_1, hx374_2⟩ := at_T25 HR0.out x4_1 p374 q374
                        obtain rfl : ad367 = ad374 := (by injection e374)
                        replace hx374_0 := (HB.out.cell (World.block_lt_of_cell? w _ hx374_0)).trans hx374_0
                        replace hx374_1 := (HB.out.cell (World.block_lt_of_cell? w _ hx374_1)).trans hx374_1
                        replace hx374_2 := (HB.out.cell (World.block_lt_of_cell? w _ hx374_2)).trans hx374_2
                        replace p374 := eq_true p374
                        replace q374 := eq_true q374
                        go_wp2
                        repeat (go_quiet (fail); try go_wp2)
                        go_meet
                        case rel => exact ⟨_, (decide (((rd_T25 l0 x4_1).f0) ≤ t372)), (by first | rfl | (simp; done) | (simp [*]; done) | (simp [bne_nil_]; done)), H', ⟨by have := HK1.out; have := HJ4.out; first | omega | exact Nat.le_refl _⟩, ⟨by (with_reducible repeat (first | apply Kd.R_alloc | apply Kd.R_drewN | apply Kd.R_drew)); exact Kd.R_mono HO_3.out (fun _ hk => hk.2)⟩, ⟨by (with_reducible repeat (first | apply Kd.R_alloc | apply Kd.R_drewN | apply Kd.R_drew)); exact Kd.R_mono HO370.out (fun _ hk => hk.2)⟩, ⟨by repeat (first | (with_reducible first | exact HB.out | apply below_alloc | apply pw_below_drewN | apply below_drew1) | exact HB.out)⟩⟩
                      · rw [if_neg c17] at H
                        have c17b0 : (t371 == 0) = false := beq_eq_false_iff_ne.mpr c17
                        have c17b1 : (t371 != 0) = true := bne_iff_ne.mpr c17
                        have H' := Aside0.mk H
                        clear H
                        go_wp2
                        repeat (go_quiet (fail); try go_wp2)
                        go_meet
                        case rel => exact ⟨_, (false), (by first | rfl | (simp; done) | (simp [*]; done) | (simp [bne_nil_]; done)), H', ⟨by have := HK1.out; have := HJ4.out; first | omega | exact Nat.le_refl _⟩, ⟨by (with_reducible repeat (first | apply Kd.R_alloc | apply Kd.R_drewN | apply Kd.R_drew)); exact Kd.R_mono HO_3.out (fun _ hk => hk.2)⟩, ⟨by (with_reducible repeat (first | apply Kd.R_alloc | apply Kd.R_drewN | apply Kd.R_drew)); exact Kd.R_mono HO370.out (fun _ hk => hk.2)⟩, ⟨by repeat (first | (with_reducible first | exact HB.out | apply below_alloc | apply pw_below_drewN | apply below_drew1) | exact HB.out)⟩⟩
                    · rw [if_neg c16] at H
                      have c16b0 : (t373 == 0) = false := beq_eq_false_iff_ne.mpr c16
                      have c16b1 : (t373 != 0) = true := bne_iff_ne.mpr c16
                      (first | rw [c16b0] | (simp only [i64_w, i32_w]; rw [c16b0]) | skip)
                      have H' := Aside0.mk H
                      clear H
                      go_wp2
                      repeat (go_quiet (fail); try go_wp2)
                      go_meet
                      case rel => exact ⟨_, (true), (by first | rfl | (simp; done) | (simp [*]; done) | (simp [bne_nil_]; done)), H', ⟨by have := HK1.out; have := HJ4.out; first | omega | exact Nat.le_refl _⟩, ⟨by (with_reducible repeat (first | apply Kd.R_alloc | apply Kd.R_drewN | apply Kd.R_drew)); exact Kd.R_mono HO_3.out (fun _ hk => hk.2)⟩, ⟨by (with_reducible repeat (first | apply Kd.R_alloc | apply Kd.R_drewN | apply Kd.R_drew)); exact Kd.R_mono HO370.out (fun _ hk => hk.2)⟩, ⟨by repeat (first | (with_reducible first | exact HB.out | apply below_alloc | apply pw_below_drewN | apply below_drew1) | exact HB.out)⟩⟩
                  case rest =>
                    clear HC12
                    try clear c1
                    try clear p2
                    try clear c3
                    try clear p3
                    try clear q3
                    try clear hx3
                    try clear c6
                    try clear c6b0
                    try clear c7
                    try clear c8
                    try clear c8b0
                    try clear c9
                    try clear c9b0
                    try clear c16
                    try clear c16b0
                    try clear c16b1
                    try clear c17
                    try clear c17b0
                    try clear c17b1
                    try clear hx367_0
                    try clear hx367_1
                    try clear hx367_2
                    try clear hx374_0
                    try clear hx374_1
                    try clear hx374_2
                    try clear p2
                    try clear p367
                    try clear p374
                    try clear q367
                    try clear q374
                    obtain ⟨kq, x63_11, rfl, HA, HJ11, HO_3, HO_5, HB⟩ := hcut
                    cases kq with
                    | zero => exact absurd HA.out (by simp [corncriblaw11_ChainOrder.j2])
                    | succ kj11 =>
                      have H := HA.out
                      clear HA
                      simp only [corncriblaw11_ChainOrder.j2] at H
                      by_cases c18 : x63_11 = true
                      · subst c18
                        have H1 : (some false) = some r := by rw [if_pos rfl] at H; exact H
                        clear H
                        have H := H1
                        clear H1
                        exact absurd (H.trans (congrArg some HRT.out)) (by simp)
                      · replace c18 := Bool.eq_false_iff.mpr c18
                        subst c18
                        have H1 : (if t371 = 0 then (if 0 ≤ x4_1 then (if x4_1 < (l0.length : Int) then ((chain_At.f kj11 t368 ((rd_T25 l0 x4_1).f0)).bind fun bt376 => ((chain_At.f kj11 t368 4611686018427387904).bind fun bt382 => (if bt376.2.2.2.2 = 0 then (if bt382.2.2.2.2 = 0 then (if bt376.2.2.2.1 = true then (if bt382.2.2.2.1 = true then (if (!(bt376.1 == ((rd_T25 l0 x4_1).f0)) || (!(bt376.2.1.toList == (((rd_T25 l0 x4_1).f1).toList)) || (!(bt376.2.2.1 == ((rd_T25 l0 x4_1).f2))))) = true then (some false) else (if (!(bt382.1 == ((rd_T25 l0 x4_1).f0)) || (!(bt382.2.1.toList == (((rd_T25 l0 x4_1).f1).toList)) || (!(bt382.2.2.1 == ((rd_T25 l0 x4_1).f2))))) = true then (some false) else (corncriblaw11_ChainOrder.l0 kj11 l0 t368 (wrap64 (x4_1 + 1))))) else (some false)) else (some false)) else (some false)) else (some false)))) else (none)) else (none)) else (corncriblaw11_ChainOrder.l0 kj11 l0 x3_1 (wrap64 (x4_1 + 1)))) = some r := by rw [if_neg (show ¬ (false = true) by decide)] at H; exact H
                        clear H
                        have H := H1
                        clear H1
                        by_cases c19 : t371 = 0
                        · rw [if_pos c19] at H
                          have c19b0 : (t371 == 0) = true := beq_iff_eq.mpr c19
                          have c19b1 : (t371 != 0) = false := bne_eq_false_iff_eq.mpr c19
                          clear c19
                          by_cases c20 : 0 ≤ x4_1
                          · rw [if_pos c20] at H
                            have c20b0 : decide (0 ≤ x4_1) = true := decide_eq_true c20
                            clear c20
                            by_cases c21 : x4_1 < (l0.length : Int)
                            · rw [if_pos c21] at H
                              have c21b0 : decide (x4_1 < (l0.length : Int)) = true := decide_eq_true c21
                              clear c21
                              replace H := Option.bind_eq_some_iff.mp H
                              obtain ⟨⟨t376, t377, t378, t379, t380⟩, A220, H⟩ := H
                              replace H : ((chain_At.f kj11 t368 4611686018427387904).bind fun bt382 => (if t380 = 0 then (if bt382.2.2.2.2 = 0 then (if t379 = true then (if bt382.2.2.2.1 = true then (if (!(t376 == ((rd_T25 l0 x4_1).f0)) || (!(t377.toList == (((rd_T25 l0 x4_1).f1).toList)) || (!(t378 == ((rd_T25 l0 x4_1).f2))))) = true then (some false) else (if (!(bt382.1 == ((rd_T25 l0 x4_1).f0)) || (!(bt382.2.1.toList == (((rd_T25 l0 x4_1).f1).toList)) || (!(bt382.2.2.1 == ((rd_T25 l0 x4_1).f2))))) = true then (some false) else (corncriblaw11_ChainOrder.l0 kj11 l0 t368 (wrap64 (x4_1 + 1))))) else (some false)) else (some false)) else (some false)) else (some false))) = some r := H
                              have A22 := Aside0.mk A220
                              clear A220
                              replace H := Option.bind_eq_some_iff.mp H
                              obtain ⟨⟨t382, t383, t384, t385, t386⟩, A230, H⟩ := H
                              replace H : (if t380 = 0 then (if t386 = 0 then (if t379 = true then (if t385 = true then (if (!(t376 == ((rd_T25 l0 x4_1).f0)) || (!(t377.toList == (((rd_T25 l0 x4_1).f1).toList)) || (!(t378 == ((rd_T25 l0 x4_1).f2))))) = true then (some false) else (if (!(t382 == ((rd_T25 l0 x4_1).f0)) || (!(t383.toList == (((rd_T25 l0 x4_1).f1).toList)) || (!(t384 == ((rd_T25 l0 x4_1).f2))))) = true then (some false) else (corncriblaw11_ChainOrder.l0 kj11 l0 t368 (wrap64 (x4_1 + 1))))) else (some false)) else (some false)) else (some false)) else (some false)) = some r := H
                              have A23 := Aside0.mk A230
                              clear A230
                              by_cases c24 : t380 = 0
                              · rw [if_pos c24] at H
                                have c24b0 : (t380 == 0) = true := beq_iff_eq.mpr c24
                                have c24b1 : (t380 != 0) = false := bne_eq_false_iff_eq.mpr c24
                                clear c24
                                by_cases c25 : t386 = 0
                                · rw [if_pos c25] at H
                                  have c25b0 : (t386 == 0) = true := beq_iff_eq.mpr c25
                                  have c25b1 : (t386 != 0) = false := bne_eq_false_iff_eq.mpr c25
                                  clear c25
                                  by_cases c26 : t379 = true
                                  · subst c26
                                    have H1 : (if t385 = true then (if (!(t376 == ((rd_T25 l0 x4_1).f0)) || (!(t377.toList == (((rd_T25 l0 x4_1).f1).toList)) || (!(t378 == ((rd_T25 l0 x4_1).f2))))) = true then (some false) else (if (!(t382 == ((rd_T25 l0 x4_1).f0)) || (!(t383.toList == (((rd_T25 l0 x4_1).f1).toList)) || (!(t384 == ((rd_T25 l0 x4_1).f2))))) = true then (some false) else (corncriblaw11_ChainOrder.l0 kj11 l0 t368 (wrap64 (x4_1 + 1))))) else (some false)) = some r := by rw [if_pos rfl] at H; exact H
                                    clear H
                                    have H := H1
                                    clear H1
                                    by_cases c27 : t385 = true
                                    · subst c27
                                      have H1 : (if (!(t376 == ((rd_T25 l0 x4_1).f0)) || (!(t377.toList == (((rd_T25 l0 x4_1).f1).toList)) || (!(t378 == ((rd_T25 l0 x4_1).f2))))) = true then (some false) else (if (!(t382 == ((rd_T25 l0 x4_1).f0)) || (!(t383.toList == (((rd_T25 l0 x4_1).f1).toList)) || (!(t384 == ((rd_T25 l0 x4_1).f2))))) = true then (some false) else (corncriblaw11_ChainOrder.l0 kj11 l0 t368 (wrap64 (x4_1 + 1))))) = some r := by rw [if_pos rfl] at H; exact H
                                      clear H
                                      have H := H1
                                      clear H1
                                      by_cases c28 : (!(t376 == ((rd_T25 l0 x4_1).f0)) || (!(t377.toList == (((rd_T25 l0 x4_1).f1).toList)) || (!(t378 == ((rd_T25 l0 x4_1).f2))))) = true
                                      · rw [if_pos c28] at H
                                        have c28b0 : (!(t376 == ((rd_T25 l0 x4_1).f0)) || (!(t377.toList == (((rd_T25 l0 x4_1).f1).toList)) || (!(t378 == ((rd_T25 l0 x4_1).f2))))) = true := c28
                                        clear c28
                                        exact absurd (H.trans (congrArg some HRT.out)) (by simp)
                                      · rw [if_neg c28] at H
                                        have c28b0 : (!(t376 == ((rd_T25 l0 x4_1).f0)) || (!(t377.toList == (((rd_T25 l0 x4_1).f1).toList)) || (!(t378 == ((rd_T25 l0 x4_1).f2))))) = false := by simpa using c28
                                        clear c28
                                        by_cases c38 : (!(t382 == ((rd_T25 l0 x4_1).f0)) || (!(t383.toList == (((rd_T25 l0 x4_1).f1).toList)) || (!(t384 == ((rd_T25 l0 x4_1).f2))))) = true
                                        · rw [if_pos c38] at H
                                          have c38b0 : (!(t382 == ((rd_T25 l0 x4_1).f0)) || (!(t383.toList == (((rd_T25 l0 x4_1).f1).toList)) || (!(t384 == ((rd_T25 l0 x4_1).f2))))) = true := c38
                                          clear c38
                                          exact absurd (H.trans (congrArg some HRT.out)) (by simp)
                                        · rw [if_neg c38] at H
                                          have c38b0 : (!(t382 == ((rd_T25 l0 x4_1).f0)) || (!(t383.toList == (((rd_T25 l0 x4_1).f1).toList)) || (!(t384 == ((rd_T25 l0 x4_1).f2))))) = false := by simpa using c38
                                          clear c38
                                          have H' := Aside0.mk H
                                          clear H
                                          have p375 : 0 ≤ (x4_1 : Int) := of_decide_eq_true (by first | (with_reducible assumption) | assumption)
                                          have q375 : x4_1 < (l0.length : Int) := of_decide_eq_true (by first | (with_reducible assumption) | assumption)
                                          obtain ⟨ad375, e375, hx375_0, hx375_1, hx375_2⟩ := at_T25 HR0.out x4_1 p375 q375
                                          obtain rfl : ad367 = ad375 := (by injection e375)
                                          replace hx375_0 := (HB.out.cell (World.block_lt_of_cell? w _ hx375_0)).trans hx375_0
                                          replace hx375_1 := (HB.out.cell (World.block_lt_of_cell? w _ hx375_1)).trans hx375_1
                                          replace hx375_2 := (HB.out.cell (World.block_lt_of_cell? w _ hx375_2)).trans hx375_2
                                          replace p375 := eq_true p375
                                          replace q375 := eq_true q375
                                          obtain ⟨Ao48, co48, eo48⟩ := Kd.R_slice HO_5.out
                                          subst eo48
                                          go_wp2_with (first | (go_at_call 9; (with_reducible refine (chain_At.calls kj11 _ _ t368 ((rd_T25 l0 x4_1).f0) t376 t377 t378 true t380 _ ?side1 ?side2 A22.out).mono ?_); (case side1 => repeat (first | exact (Kd.R_reads' HO_5.out).2.2 | (with_reducible refine Kd.C_alloc ?_ _) | (with_reducible refine Kd.C_drewN ?_ _) | (with_reducible refine Kd.C_drew ?_))); (case side2 => exact (Kd.R_reads' HO_5.out).2.1); rintro e w49 ⟨rfl, hb⟩; have n0_ := Aside0.mk (Kd.R_below (by (with_reducible repeat (first | apply Kd.R_alloc | apply Kd.R_drewN | apply Kd.R_drew)); exact HO_3.out) hb); have n1_ := Aside0.mk (Kd.R_below (by (with_reducible repeat (first | apply Kd.R_alloc | apply Kd.R_drewN | apply Kd.R_drew)); exact HO_5.out) hb); have n2_ := Aside0.mk (below_step (by repeat (first | (with_reducible first | exact HB.out | apply below_alloc | apply pw_below_drewN | apply below_drew1) | exact HB.out)) hb); clear HO_3; clear HO_5; clear HB; have HO_3 := n0_; have HO_5 := n1_; have HB := n2_; clear n0_ n1_ n2_; (try clear hb); (try clear hb2); (try clear hk); (try clear hi)) | ((with_reducible refine gate_dst (N := 9) rfl ?_); refine box_event ?hg (N := 9) ?hd (cs := #[.int .i64 0, .string (⟨#[]⟩ : ByteArray), .bool false]) (t := 25) ?hr ?_; (case hd => rfl); (case hg => rfl); (case hr => first | (go_simp; done) | (go_simp; rfl)); intro gb381 hg w50 hbox hb; have n0_ := Aside0.mk (Kd.R_below (Kd.R_elderB (by (with_reducible repeat (first | apply Kd.R_alloc | apply Kd.R_drewN | apply Kd.R_drew)); exact HO_3.out) gb381 (Nat.le_of_eq hg.symm)) hb); have n1_ := Aside0.mk (Kd.R_below (Kd.R_elderB (by (with_reducible repeat (first | apply Kd.R_alloc | apply Kd.R_drewN | apply Kd.R_drew)); exact HO_5.out) gb381 (Nat.le_of_eq hg.symm)) hb); have n2_ := Aside0.mk (below_step (by repeat (first | (with_reducible first | exact HB.out | apply below_alloc | apply pw_below_drewN | apply below_drew1) | exact HB.out)) hb); have n3_ := Aside0.mk (hbox); have n4_ := Aside0.mk ((by rw [hg]; exact (below_size (by repeat (first | (with_reducible first | exact HB.out | apply below_alloc | apply pw_below_drewN | apply below_drew1) | exact HB.out))) : w.heap.size ≤ gb381)); have n5_ := Aside0.mk ((by rw [hg]; exact (below_size (by repeat (first | (with_reducible first | exact HB.out | apply below_alloc | apply pw_below_drewN | apply below_drew1) | exact HB.out))) : w.heap.size ≤ gb381)); clear HO_3; clear HO_5; clear HB; have HO_3 := n0_; have HO_5 := n1_; have HB := n2_; have BK381 := n3_; have GW381 := n4_; have GE381 := n5_; clear n0_ n1_ n2_ n3_ n4_ n5_; clear hb hbox hg; have hcz51_0 : w50.cell? ⟨gb381, 0, none⟩ = some (.int .i64 0) := (blk_cell BK381.out 0).trans rfl; have hcz51_1 : w50.cell? ⟨gb381, 1, none⟩ = some (.string (⟨#[]⟩ : ByteArray)) := (blk_cell BK381.out 1).trans rfl; have hcz51_2 : w50.cell? ⟨gb381, 2, none⟩ = some (.bool false) := (blk_cell BK381.out 2).trans rfl; have hfz51_0 := blk_frozen BK381.out 0; have hfz51_1 := blk_frozen BK381.out 1; have hfz51_2 := blk_frozen BK381.out 2) | (go_at_call 9; (with_reducible refine (chain_At.calls kj11 _ _ t368 4611686018427387904 t382 t383 t384 true t386 _ ?side1 ?side2 A23.out).mono ?_); (case side1 => refine (Kd.R_reads' (e := 25) (base := w.heap.size) (ok := fun k_ => (some k_ ≠ (.slice Ao13 x3_1.length co13 : Value).ownBlock ∧ k_ ≠ gb381)) (n := t368.length) (c := co48) ?_).2.2; exact (by (with_reducible repeat (first | apply Kd.R_alloc | apply Kd.R_drewN | apply Kd.R_drew)); exact (Kd.R_mono (Kd.R_far (p := ⟨gb381, 2, none⟩) (Kd.R_far (p := ⟨gb381, 1, none⟩) (Kd.R_far (p := ⟨gb381, 0, none⟩) (Kd.R_mono HO_5.out (fun k_ hk => (⟨hk, hk.2⟩ : _ ∧ k_ ≠ gb381))) (fun _ hk => hk.2) (.int .i64 t376)) (fun _ hk => hk.2) (.string t377)) (fun _ hk => hk.2) (.bool t378)) (fun _ h_ => h_.1)))); (case side2 => exact (Kd.R_reads' HO_5.out).2.1); rintro e w52 ⟨rfl, hb⟩; have n0_ := Aside0.mk (Kd.R_below (by (with_reducible repeat (first | apply Kd.R_alloc | apply Kd.R_drewN | apply Kd.R_drew)); exact (Kd.R_mono (Kd.R_far (p := ⟨gb381, 2, none⟩) (Kd.R_far (p := ⟨gb381, 1, none⟩) (Kd.R_far (p := ⟨gb381, 0, none⟩) (Kd.R_mono HO_3.out (fun k_ hk => (⟨hk, hk.2⟩ : _ ∧ k_ ≠ gb381))) (fun _ hk => hk.2) (.int .i64 t376)) (fun _ hk => hk.2) (.string t377)) (fun _ hk => hk.2) (.bool t378)) (fun _ h_ => h_.1))) hb); have n1_ := Aside0.mk (Kd.R_below (by (with_reducible repeat (first | apply Kd.R_alloc | apply Kd.R_drewN | apply Kd.R_drew)); exact (Kd.R_mono (Kd.R_far (p := ⟨gb381, 2, none⟩) (Kd.R_far (p := ⟨gb381, 1, none⟩) (Kd.R_far (p := ⟨gb381, 0, none⟩) (Kd.R_mono HO_5.out (fun k_ hk => (⟨hk, hk.2⟩ : _ ∧ k_ ≠ gb381))) (fun _ hk => hk.2) (.int .i64 t376)) (fun _ hk => hk.2) (.string t377)) (fun _ hk => hk.2) (.bool t378)) (fun _ h_ => h_.1))) hb); have n2_ := Aside0.mk (blk_below (g := gb381) (o := .cells #[.int .i64 t376, .string t377, .bool t378] 25 (0, 0)) (by (with_reducible repeat (first | refine blk_drewN ?_ _ | refine blk_drew ?_ | refine blk_alloc ?_ _)); refine blk_put (cs := #[.int .i64 t376, .string t377, .bool false]) ?_ 2 _ rfl; (with_reducible repeat (first | refine blk_drewN ?_ _ | refine blk_drew ?_ | refine blk_alloc ?_ _)); refine blk_put (cs := #[.int .i64 t376, .string (⟨#[]⟩ : ByteArray), .bool false]) ?_ 1 _ rfl; (with_reducible repeat (first | refine blk_drewN ?_ _ | refine blk_drew ?_ | refine blk_alloc ?_ _)); refine blk_put (cs := #[.int .i64 0, .string (⟨#[]⟩ : ByteArray), .bool false]) ?_ 0 _ rfl; (with_reducible repeat (first | refine blk_drewN ?_ _ | refine blk_drew ?_ | refine blk_alloc ?_ _)); exact BK381.out) hb); have n3_ := Aside0.mk (below_step (by repeat (first | (with_reducible first | exact HB.out | apply below_alloc | apply pw_below_drewN | apply below_drew1 | refine below_set ?_ GE381.out) | exact HB.out)) hb); clear HO_3; clear HO_5; clear BK381; clear HB; have HO_3 := n0_; have HO_5 := n1_; have BK381 := n2_; have HB := n3_; clear n0_ n1_ n2_ n3_; (try clear hb); (try clear hb2); (try clear hk); (try clear hi)) | ((with_reducible refine gate_dst (N := 12) rfl ?_); refine box_event ?hg (N := 12) ?hd (cs := #[.int .i64 0, .string (⟨#[]⟩ : ByteArray), .bool false]) (t := 25) ?hr ?_; (case hd => rfl); (case hg => rfl); (case hr => first | (go_simp; done) | (go_simp; rfl)); intro gb387 hg w53 hbox hb; have n0_ := Aside0.mk (Kd.R_below (Kd.R_elderB (by (with_reducible repeat (first | apply Kd.R_alloc | apply Kd.R_drewN | apply Kd.R_drew)); exact HO_3.out) gb387 (Nat.le_of_eq hg.symm)) hb); have n1_ := Aside0.mk (Kd.R_below (Kd.R_elderB (by (with_reducible repeat (first | apply Kd.R_alloc | apply Kd.R_drewN | apply Kd.R_drew)); exact HO_5.out) gb387 (Nat.le_of_eq hg.symm)) hb); have n2_ := Aside0.mk (blk_below (g := gb381) (o := .cells #[.int .i64 t376, .string t377, .bool t378] 25 (0, 0)) (by (with_reducible repeat (first | refine blk_drewN ?_ _ | refine blk_drew ?_ | refine blk_alloc ?_ _)); exact BK381.out) hb); have n3_ := Aside0.mk (below_step (by repeat (first | (with_reducible first | exact HB.out | apply below_alloc | apply pw_below_drewN | apply below_drew1 | refine below_set ?_ GE381.out) | exact HB.out)) hb); have n4_ := Aside0.mk (hbox); have n5_ := Aside0.mk ((by rw [hg]; exact (below_size (by repeat (first | (with_reducible first | exact HB.out | apply below_alloc | apply pw_below_drewN | apply below_drew1 | refine below_set ?_ GE381.out) | exact HB.out))) : w.heap.size ≤ gb387)); have n6_ := Aside0.mk ((by rw [hg]; exact (below_size (by repeat (first | (with_reducible first | exact HB.out | apply below_alloc | apply pw_below_drewN | apply below_drew1 | refine below_set ?_ GE381.out) | exact HB.out))) : w.heap.size ≤ gb387)); have n7_ := Aside0.mk ((by rw [hg]; exact Nat.ne_of_lt (blk_lt (g := gb381) (o := .cells #[.int .i64 t376, .string t377, .bool t378] 25 (0, 0)) (by (with_reducible repeat (first | refine blk_drewN ?_ _ | refine blk_drew ?_ | refine blk_alloc ?_ _)); exact BK381.out)) : gb381 ≠ gb387)); have n8_ := Aside0.mk ((by rw [hg]; exact Nat.ne_of_gt (blk_lt (g := gb381) (o := .cells #[.int .i64 t376, .string t377, .bool t378] 25 (0, 0)) (by (with_reducible repeat (first | refine blk_drewN ?_ _ | refine blk_drew ?_ | refine blk_alloc ?_ _)); exact BK381.out)) : gb387 ≠ gb381)); clear HO_3; clear HO_5; clear BK381; clear HB; have HO_3 := n0_; have HO_5 := n1_; have BK381 := n2_; have HB := n3_; have BK387 := n4_; have GW387 := n5_; have GE387 := n6_; have NB381_387 := n7_; have NB387_381 := n8_; clear n0_ n1_ n2_ n3_ n4_ n5_ n6_ n7_ n8_; clear hb hbox hg; have hnb54 := NB387_381.out; have hnc54 := NB381_387.out; have hcz55_0 : w53.cell? ⟨gb387, 0, none⟩ = some (.int .i64 0) := (blk_cell BK387.out 0).trans rfl; have hcz55_1 : w53.cell? ⟨gb387, 1, none⟩ = some (.string (⟨#[]⟩ : ByteArray)) := (blk_cell BK387.out 1).trans rfl; have hcz55_2 : w53.cell? ⟨gb387, 2, none⟩ = some (.bool false) := (blk_cell BK387.out 2).trans rfl; have hfz55_0 := blk_frozen BK387.out 0; have hfz55_1 := blk_frozen BK387.out 1; have hfz55_2 := blk_frozen BK387.out 2; have hcz56_0 : w53.cell? ⟨gb381, 0, none⟩ = some (.int .i64 t376) := (blk_cell BK381.out 0).trans rfl; have hcz56_1 : w53.cell? ⟨gb381, 1, none⟩ = some (.string t377) := (blk_cell BK381.out 1).trans rfl; have hcz56_2 : w53.cell? ⟨gb381, 2, none⟩ = some (.bool t378) := (blk_cell BK381.out 2).trans rfl; have hfz56_0 := blk_frozen BK381.out 0; have hfz56_1 := blk_frozen BK381.out 1; have hfz56_2 := blk_frozen BK381.out 2; have p388 : 0 ≤ (x4_1 : Int) := of_decide_eq_true (by first | (with_reducible assumption) | assumption); have q388 : x4_1 < (l0.length : Int) := of_decide_eq_true (by first | (with_reducible assumption) | assumption); obtain ⟨ad388, e388, hx388_0, hx388_1, hx388_2⟩ := at_T25 HR0.out x4_1 p388 q388; obtain rfl : ad367 = ad388 := (by injection e388); have hn388_0 : ad367.block ≠ gb387 := Nat.ne_of_lt (Nat.lt_of_lt_of_le (by have := World.block_lt_of_cell? _ _ hx388_0; first | rwa [add_block] at this | exact this) GW387.out); have hn388_1 : ad367.block ≠ gb387 := Nat.ne_of_lt (Nat.lt_of_lt_of_le (by have := World.block_lt_of_cell? _ _ hx388_0; first | rwa [add_block] at this | exact this) GW387.out); have hn388_2 : ad367.block ≠ gb387 := Nat.ne_of_lt (Nat.lt_of_lt_of_le (by have := World.block_lt_of_cell? _ _ hx388_0; first | rwa [add_block] at this | exact this) GW387.out); replace hx388_0 := (HB.out.cell (World.block_lt_of_cell? w _ hx388_0)).trans hx388_0; replace hx388_1 := (HB.out.cell (World.block_lt_of_cell? w _ hx388_1)).trans hx388_1; replace hx388_2 := (HB.out.cell (World.block_lt_of_cell? w _ hx388_2)).trans hx388_2; replace hx388_0 := (cell_far (p := ⟨gb387, 0, none⟩) (by first | (rw [add_block]; exact hn388_0) | (show (Addr.add _ _).block ≠ _; rw [add_block]; exact hn388_0) | exact hn388_0) (.int .i64 t382)).trans hx388_0; replace hx388_1 := (cell_far (p := ⟨gb387, 0, none⟩) (by first | (rw [add_block]; exact hn388_0) | (show (Addr.add _ _).block ≠ _; rw [add_block]; exact hn388_0) | exact hn388_0) (.int .i64 t382)).trans hx388_1; replace hx388_2 := (cell_far (p := ⟨gb387, 0, none⟩) (by first | (rw [add_block]; exact hn388_0) | (show (Addr.add _ _).block ≠ _; rw [add_block]; exact hn388_0) | exact hn388_0) (.int .i64 t382)).trans hx388_2; replace hx388_0 := (cell_far (p := ⟨gb387, 1, none⟩) (by first | (rw [add_block]; exact hn388_1) | (show (Addr.add _ _).block ≠ _; rw [add_block]; exact hn388_1) | exact hn388_1) (.string t383)).trans hx388_0; replace hx388_1 := (cell_far (p := ⟨gb387, 1, none⟩) (by first | (rw [add_block]; exact hn388_1) | (show (Addr.add _ _).block ≠ _; rw [add_block]; exact hn388_1) | exact hn388_1) (.string t383)).trans hx388_1; replace hx388_2 := (cell_far (p := ⟨gb387, 1, none⟩) (by first | (rw [add_block]; exact hn388_1) | (show (Addr.add _ _).block ≠ _; rw [add_block]; exact hn388_1) | exact hn388_1) (.string t383)).trans hx388_2; replace hx388_0 := (cell_far (p := ⟨gb387, 2, none⟩) (by first | (rw [add_block]; exact hn388_2) | (show (Addr.add _ _).block ≠ _; rw [add_block]; exact hn388_2) | exact hn388_2) (.bool t384)).trans hx388_0; replace hx388_1 := (cell_far (p := ⟨gb387, 2, none⟩) (by first | (rw [add_block]; exact hn388_2) | (show (Addr.add _ _).block ≠ _; rw [add_block]; exact hn388_2) | exact hn388_2) (.bool t384)).trans hx388_1; replace hx388_2 := (cell_far (p := ⟨gb387, 2, none⟩) (by first | (rw [add_block]; exact hn388_2) | (show (Addr.add _ _).block ≠ _; rw [add_block]; exact hn388_2) | exact hn388_2) (.bool t384)).trans hx388_2; (try have hy388_0 := fun (n_ : Nat) => (show (((((w53.drewN n_).setCell ⟨gb387, 0, none⟩ (.int .i64 t382)).setCell ⟨gb387, 1, none⟩ (.string t383)).setCell ⟨gb387, 2, none⟩ (.bool t384))).cell? _ = some _ from hx388_0)); (try have hy388_1 := fun (n_ : Nat) => (show (((((w53.drewN n_).setCell ⟨gb387, 0, none⟩ (.int .i64 t382)).setCell ⟨gb387, 1, none⟩ (.string t383)).setCell ⟨gb387, 2, none⟩ (.bool t384))).cell? _ = some _ from hx388_1)); (try have hy388_2 := fun (n_ : Nat) => (show (((((w53.drewN n_).setCell ⟨gb387, 0, none⟩ (.int .i64 t382)).setCell ⟨gb387, 1, none⟩ (.string t383)).setCell ⟨gb387, 2, none⟩ (.bool t384))).cell? _ = some _ from hx388_2)); clear hn388_0; clear hn388_1; clear hn388_2; replace p388 := eq_true p388; replace q388 := eq_true q388; have p389 : 0 ≤ (x4_1 : Int) := of_decide_eq_true (by first | (with_reducible assumption) | assumption); have q389 : x4_1 < (l0.length : Int) := of_decide_eq_true (by first | (with_reducible assumption) | assumption); obtain ⟨ad389, e389, hx389_0, hx389_1, hx389_2⟩ := at_T25 HR0.out x4_1 p389 q389; obtain rfl : ad367 = ad389 := (by injection e389); have hn389_0 : ad367.block ≠ gb387 := Nat.ne_of_lt (Nat.lt_of_lt_of_le (by have := World.block_lt_of_cell? _ _ hx389_0; first | rwa [add_block] at this | exact this) GW387.out); have hn389_1 : ad367.block ≠ gb387 := Nat.ne_of_lt (Nat.lt_of_lt_of_le (by have := World.block_lt_of_cell? _ _ hx389_0; first | rwa [add_block] at this | exact this) GW387.out); have hn389_2 : ad367.block ≠ gb387 := Nat.ne_of_lt (Nat.lt_of_lt_of_le (by have := World.block_lt_of_cell? _ _ hx389_0; first | rwa [add_block] at this | exact this) GW387.out); replace hx389_0 := (HB.out.cell (World.block_lt_of_cell? w _ hx389_0)).trans hx389_0; replace hx389_1 := (HB.out.cell (World.block_lt_of_cell? w _ hx389_1)).trans hx389_1; replace hx389_2 := (HB.out.cell (World.block_lt_of_cell? w _ hx389_2)).trans hx389_2; replace hx389_0 := (cell_far (p := ⟨gb387, 0, none⟩) (by first | (rw [add_block]; exact hn389_0) | (show (Addr.add _ _).block ≠ _; rw [add_block]; exact hn389_0) | exact hn389_0) (.int .i64 t382)).trans hx389_0; replace hx389_1 := (cell_far (p := ⟨gb387, 0, none⟩) (by first | (rw [add_block]; exact hn389_0) | (show (Addr.add _ _).block ≠ _; rw [add_block]; exact hn389_0) | exact hn389_0) (.int .i64 t382)).trans hx389_1; replace hx389_2 := (cell_far (p := ⟨gb387, 0, none⟩) (by first | (rw [add_block]; exact hn389_0) | (show (Addr.add _ _).block ≠ _; rw [add_block]; exact hn389_0) | exact hn389_0) (.int .i64 t382)).trans hx389_2; replace hx389_0 := (cell_far (p := ⟨gb387, 1, none⟩) (by first | (rw [add_block]; exact hn389_1) | (show (Addr.add _ _).block ≠ _; rw [add_block]; exact hn389_1) | exact hn389_1) (.string t383)).trans hx389_0; replace hx389_1 := (cell_far (p := ⟨gb387, 1, none⟩) (by first | (rw [add_block]; exact hn389_1) | (show (Addr.add _ _).block ≠ _; rw [add_block]; exact hn389_1) | exact hn389_1) (.string t383)).trans hx389_1; replace hx389_2 := (cell_far (p := ⟨gb387, 1, none⟩) (by first | (rw [add_block]; exact hn389_1) | (show (Addr.add _ _).block ≠ _; rw [add_block]; exact hn389_1) | exact hn389_1) (.string t383)).trans hx389_2; replace hx389_0 := (cell_far (p := ⟨gb387, 2, none⟩) (by first | (rw [add_block]; exact hn389_2) | (show (Addr.add _ _).block ≠ _; rw [add_block]; exact hn389_2) | exact hn389_2) (.bool t384)).trans hx389_0; replace hx389_1 := (cell_far (p := ⟨gb387, 2, none⟩) (by first | (rw [add_block]; exact hn389_2) | (show (Addr.add _ _).block ≠ _; rw [add_block]; exact hn389_2) | exact hn389_2) (.bool t384)).trans hx389_1; replace hx389_2 := (cell_far (p := ⟨gb387, 2, none⟩) (by first | (rw [add_block]; exact hn389_2) | (show (Addr.add _ _).block ≠ _; rw [add_block]; exact hn389_2) | exact hn389_2) (.bool t384)).trans hx389_2; (try have hy389_0 := fun (n_ : Nat) => (show (((((w53.drewN n_).setCell ⟨gb387, 0, none⟩ (.int .i64 t382)).setCell ⟨gb387, 1, none⟩ (.string t383)).setCell ⟨gb387, 2, none⟩ (.bool t384))).cell? _ = some _ from hx389_0)); (try have hy389_1 := fun (n_ : Nat) => (show (((((w53.drewN n_).setCell ⟨gb387, 0, none⟩ (.int .i64 t382)).setCell ⟨gb387, 1, none⟩ (.string t383)).setCell ⟨gb387, 2, none⟩ (.bool t384))).cell? _ = some _ from hx389_1)); (try have hy389_2 := fun (n_ : Nat) => (show (((((w53.drewN n_).setCell ⟨gb387, 0, none⟩ (.int .i64 t382)).setCell ⟨gb387, 1, none⟩ (.string t383)).setCell ⟨gb387, 2, none⟩ (.bool t384))).cell? _ = some _ from hx389_2)); clear hn389_0; clear hn389_1; clear hn389_2; replace p389 := eq_true p389; replace q389 := eq_true q389))
                                          repeat (go_quiet (first | (go_at_call 9; (with_reducible refine (chain_At.calls kj11 _ _ t368 ((rd_T25 l0 x4_1).f0) t376 t377 t378 true t380 _ ?side1 ?side2 A22.out).mono ?_); (case side1 => repeat (first | exact (Kd.R_reads' HO_5.out).2.2 | (with_reducible refine Kd.C_alloc ?_ _) | (with_reducible refine Kd.C_drewN ?_ _) | (with_reducible refine Kd.C_drew ?_))); (case side2 => exact (Kd.R_reads' HO_5.out).2.1); rintro e w49 ⟨rfl, hb⟩; have n0_ := Aside0.mk (Kd.R_below (by (with_reducible repeat (first | apply Kd.R_alloc | apply Kd.R_drewN | apply Kd.R_drew)); exact HO_3.out) hb); have n1_ := Aside0.mk (Kd.R_below (by (with_reducible repeat (first | apply Kd.R_alloc | apply Kd.R_drewN | apply Kd.R_drew)); exact HO_5.out) hb); have n2_ := Aside0.mk (below_step (by repeat (first | (with_reducible first | exact HB.out | apply below_alloc | apply pw_below_drewN | apply below_drew1) | exact HB.out)) hb); clear HO_3; clear HO_5; clear HB; have HO_3 := n0_; have HO_5 := n1_; have HB := n2_; clear n0_ n1_ n2_; (try clear hb); (try clear hb2); (try clear hk); (try clear hi)) | ((with_reducible refine gate_dst (N := 9) rfl ?_); refine box_event ?hg (N := 9) ?hd (cs := #[.int .i64 0, .string (⟨#[]⟩ : ByteArray), .bool false]) (t := 25) ?hr ?_; (case hd => rfl); (case hg => rfl); (case hr => first | (go_simp; done) | (go_simp; rfl)); intro gb381 hg w50 hbox hb; have n0_ := Aside0.mk (Kd.R_below (Kd.R_elderB (by (with_reducible repeat (first | apply Kd.R_alloc | apply Kd.R_drewN | apply Kd.R_drew)); exact HO_3.out) gb381 (Nat.le_of_eq hg.symm)) hb); have n1_ := Aside0.mk (Kd.R_below (Kd.R_elderB (by (with_reducible repeat (first | apply Kd.R_alloc | apply Kd.R_drewN | apply Kd.R_drew)); exact HO_5.out) gb381 (Nat.le_of_eq hg.symm)) hb); have n2_ := Aside0.mk (below_step (by repeat (first | (with_reducible first | exact HB.out | apply below_alloc | apply pw_below_drewN | apply below_drew1) | exact HB.out)) hb); have n3_ := Aside0.mk (hbox); have n4_ := Aside0.mk ((by rw [hg]; exact (below_size (by repeat (first | (with_reducible first | exact HB.out | apply below_alloc | apply pw_below_drewN | apply below_drew1) | exact HB.out))) : w.heap.size ≤ gb381)); have n5_ := Aside0.mk ((by rw [hg]; exact (below_size (by repeat (first | (with_reducible first | exact HB.out | apply below_alloc | apply pw_below_drewN | apply below_drew1) | exact HB.out))) : w.heap.size ≤ gb381)); clear HO_3; clear HO_5; clear HB; have HO_3 := n0_; have HO_5 := n1_; have HB := n2_; have BK381 := n3_; have GW381 := n4_; have GE381 := n5_; clear n0_ n1_ n2_ n3_ n4_ n5_; clear hb hbox hg; have hcz51_0 : w50.cell? ⟨gb381, 0, none⟩ = some (.int .i64 0) := (blk_cell BK381.out 0).trans rfl; have hcz51_1 : w50.cell? ⟨gb381, 1, none⟩ = some (.string (⟨#[]⟩ : ByteArray)) := (blk_cell BK381.out 1).trans rfl; have hcz51_2 : w50.cell? ⟨gb381, 2, none⟩ = some (.bool false) := (blk_cell BK381.out 2).trans rfl; have hfz51_0 := blk_frozen BK381.out 0; have hfz51_1 := blk_frozen BK381.out 1; have hfz51_2 := blk_frozen BK381.out 2) | (go_at_call 9; (with_reducible refine (chain_At.calls kj11 _ _ t368 4611686018427387904 t382 t383 t384 true t386 _ ?side1 ?side2 A23.out).mono ?_); (case side1 => refine (Kd.R_reads' (e := 25) (base := w.heap.size) (ok := fun k_ => (some k_ ≠ (.slice Ao13 x3_1.length co13 : Value).ownBlock ∧ k_ ≠ gb381)) (n := t368.length) (c := co48) ?_).2.2; exact (by (with_reducible repeat (first | apply Kd.R_alloc | apply Kd.R_drewN | apply Kd.R_drew)); exact (Kd.R_mono (Kd.R_far (p := ⟨gb381, 2, none⟩) (Kd.R_far (p := ⟨gb381, 1, none⟩) (Kd.R_far (p := ⟨gb381, 0, none⟩) (Kd.R_mono HO_5.out (fun k_ hk => (⟨hk, hk.2⟩ : _ ∧ k_ ≠ gb381))) (fun _ hk => hk.2) (.int .i64 t376)) (fun _ hk => hk.2) (.string t377)) (fun _ hk => hk.2) (.bool t378)) (fun _ h_ => h_.1)))); (case side2 => exact (Kd.R_reads' HO_5.out).2.1); rintro e w52 ⟨rfl, hb⟩; have n0_ := Aside0.mk (Kd.R_below (by (with_reducible repeat (first | apply Kd.R_alloc | apply Kd.R_drewN | apply Kd.R_drew)); exact (Kd.R_mono (Kd.R_far (p := ⟨gb381, 2, none⟩) (Kd.R_far (p := ⟨gb381, 1, none⟩) (Kd.R_far (p := ⟨gb381, 0, none⟩) (Kd.R_mono HO_3.out (fun k_ hk => (⟨hk, hk.2⟩ : _ ∧ k_ ≠ gb381))) (fun _ hk => hk.2) (.int .i64 t376)) (fun _ hk => hk.2) (.string t377)) (fun _ hk => hk.2) (.bool t378)) (fun _ h_ => h_.1))) hb); have n1_ := Aside0.mk (Kd.R_below (by (with_reducible repeat (first | apply Kd.R_alloc | apply Kd.R_drewN | apply Kd.R_drew)); exact (Kd.R_mono (Kd.R_far (p := ⟨gb381, 2, none⟩) (Kd.R_far (p := ⟨gb381, 1, none⟩) (Kd.R_far (p := ⟨gb381, 0, none⟩) (Kd.R_mono HO_5.out (fun k_ hk => (⟨hk, hk.2⟩ : _ ∧ k_ ≠ gb381))) (fun _ hk => hk.2) (.int .i64 t376)) (fun _ hk => hk.2) (.string t377)) (fun _ hk => hk.2) (.bool t378)) (fun _ h_ => h_.1))) hb); have n2_ := Aside0.mk (blk_below (g := gb381) (o := .cells #[.int .i64 t376, .string t377, .bool t378] 25 (0, 0)) (by (with_reducible repeat (first | refine blk_drewN ?_ _ | refine blk_drew ?_ | refine blk_alloc ?_ _)); refine blk_put (cs := #[.int .i64 t376, .string t377, .bool false]) ?_ 2 _ rfl; (with_reducible repeat (first | refine blk_drewN ?_ _ | refine blk_drew ?_ | refine blk_alloc ?_ _)); refine blk_put (cs := #[.int .i64 t376, .string (⟨#[]⟩ : ByteArray), .bool false]) ?_ 1 _ rfl; (with_reducible repeat (first | refine blk_drewN ?_ _ | refine blk_drew ?_ | refine blk_alloc ?_ _)); refine blk_put (cs := #[.int .i64 0, .string (⟨#[]⟩ : ByteArray), .bool false]) ?_ 0 _ rfl; (with_reducible repeat (first | refine blk_drewN ?_ _ | refine blk_drew ?_ | refine blk_alloc ?_ _)); exact BK381.out) hb); have n3_ := Aside0.mk (below_step (by repeat (first | (with_reducible first | exact HB.out | apply below_alloc | apply pw_below_drewN | apply below_drew1 | refine below_set ?_ GE381.out) | exact HB.out)) hb); clear HO_3; clear HO_5; clear BK381; clear HB; have HO_3 := n0_; have HO_5 := n1_; have BK381 := n2_; have HB := n3_; clear n0_ n1_ n2_ n3_; (try clear hb); (try clear hb2); (try clear hk); (try clear hi)) | ((with_reducible refine gate_dst (N := 12) rfl ?_); refine box_event ?hg (N := 12) ?hd (cs := #[.int .i64 0, .string (⟨#[]⟩ : ByteArray), .bool false]) (t := 25) ?hr ?_; (case hd => rfl); (case hg => rfl); (case hr => first | (go_simp; done) | (go_simp; rfl)); intro gb387 hg w53 hbox hb; have n0_ := Aside0.mk (Kd.R_below (Kd.R_elderB (by (with_reducible repeat (first | apply Kd.R_alloc | apply Kd.R_drewN | apply Kd.R_drew)); exact HO_3.out) gb387 (Nat.le_of_eq hg.symm)) hb); have n1_ := Aside0.mk (Kd.R_below (Kd.R_elderB (by (with_reducible repeat (first | apply Kd.R_alloc | apply Kd.R_drewN | apply Kd.R_drew)); exact HO_5.out) gb387 (Nat.le_of_eq hg.symm)) hb); have n2_ := Aside0.mk (blk_below (g := gb381) (o := .cells #[.int .i64 t376, .string t377, .bool t378] 25 (0, 0)) (by (with_reducible repeat (first | refine blk_drewN ?_ _ | refine blk_drew ?_ | refine blk_alloc ?_ _)); exact BK381.out) hb); have n3_ := Aside0.mk (below_step (by repeat (first | (with_reducible first | exact HB.out | apply below_alloc | apply pw_below_drewN | apply below_drew1 | refine below_set ?_ GE381.out) | exact HB.out)) hb); have n4_ := Aside0.mk (hbox); have n5_ := Aside0.mk ((by rw [hg]; exact (below_size (by repeat (first | (with_reducible first | exact HB.out | apply below_alloc | apply pw_below_drewN | apply below_drew1 | refine below_set ?_ GE381.out) | exact HB.out))) : w.heap.size ≤ gb387)); have n6_ := Aside0.mk ((by rw [hg]; exact (below_size (by repeat (first | (with_reducible first | exact HB.out | apply below_alloc | apply pw_below_drewN | apply below_drew1 | refine below_set ?_ GE381.out) | exact HB.out))) : w.heap.size ≤ gb387)); have n7_ := Aside0.mk ((by rw [hg]; exact Nat.ne_of_lt (blk_lt (g := gb381) (o := .cells #[.int .i64 t376, .string t377, .bool t378] 25 (0, 0)) (by (with_reducible repeat (first | refine blk_drewN ?_ _ | refine blk_drew ?_ | refine blk_alloc ?_ _)); exact BK381.out)) : gb381 ≠ gb387)); have n8_ := Aside0.mk ((by rw [hg]; exact Nat.ne_of_gt (blk_lt (g := gb381) (o := .cells #[.int .i64 t376, .string t377, .bool t378] 25 (0, 0)) (by (with_reducible repeat (first | refine blk_drewN ?_ _ | refine blk_drew ?_ | refine blk_alloc ?_ _)); exact BK381.out)) : gb387 ≠ gb381)); clear HO_3; clear HO_5; clear BK381; clear HB; have HO_3 := n0_; have HO_5 := n1_; have BK381 := n2_; have HB := n3_; have BK387 := n4_; have GW387 := n5_; have GE387 := n6_; have NB381_387 := n7_; have NB387_381 := n8_; clear n0_ n1_ n2_ n3_ n4_ n5_ n6_ n7_ n8_; clear hb hbox hg; have hnb54 := NB387_381.out; have hnc54 := NB381_387.out; have hcz55_0 : w53.cell? ⟨gb387, 0, none⟩ = some (.int .i64 0) := (blk_cell BK387.out 0).trans rfl; have hcz55_1 : w53.cell? ⟨gb387, 1, none⟩ = some (.string (⟨#[]⟩ : ByteArray)) := (blk_cell BK387.out 1).trans rfl; have hcz55_2 : w53.cell? ⟨gb387, 2, none⟩ = some (.bool false) := (blk_cell BK387.out 2).trans rfl; have hfz55_0 := blk_frozen BK387.out 0; have hfz55_1 := blk_frozen BK387.out 1; have hfz55_2 := blk_frozen BK387.out 2; have hcz56_0 : w53.cell? ⟨gb381, 0, none⟩ = some (.int .i64 t376) := (blk_cell BK381.out 0).trans rfl; have hcz56_1 : w53.cell? ⟨gb381, 1, none⟩ = some (.string t377) := (blk_cell BK381.out 1).trans rfl; have hcz56_2 : w53.cell? ⟨gb381, 2, none⟩ = some (.bool t378) := (blk_cell BK381.out 2).trans rfl; have hfz56_0 := blk_frozen BK381.out 0; have hfz56_1 := blk_frozen BK381.out 1; have hfz56_2 := blk_frozen BK381.out 2; have p388 : 0 ≤ (x4_1 : Int) := of_decide_eq_true (by first | (with_reducible assumption) | assumption); have q388 : x4_1 < (l0.length : Int) := of_decide_eq_true (by first | (with_reducible assumption) | assumption); obtain ⟨ad388, e388, hx388_0, hx388_1, hx388_2⟩ := at_T25 HR0.out x4_1 p388 q388; obtain rfl : ad367 = ad388 := (by injection e388); have hn388_0 : ad367.block ≠ gb387 := Nat.ne_of_lt (Nat.lt_of_lt_of_le (by have := World.block_lt_of_cell? _ _ hx388_0; first | rwa [add_block] at this | exact this) GW387.out); have hn388_1 : ad367.block ≠ gb387 := Nat.ne_of_lt (Nat.lt_of_lt_of_le (by have := World.block_lt_of_cell? _ _ hx388_0; first | rwa [add_block] at this | exact this) GW387.out); have hn388_2 : ad367.block ≠ gb387 := Nat.ne_of_lt (Nat.lt_of_lt_of_le (by have := World.block_lt_of_cell? _ _ hx388_0; first | rwa [add_block] at this | exact this) GW387.out); replace hx388_0 := (HB.out.cell (World.block_lt_of_cell? w _ hx388_0)).trans hx388_0; replace hx388_1 := (HB.out.cell (World.block_lt_of_cell? w _ hx388_1)).trans hx388_1; replace hx388_2 := (HB.out.cell (World.block_lt_of_cell? w _ hx388_2)).trans hx388_2; replace hx388_0 := (cell_far (p := ⟨gb387, 0, none⟩) (by first | (rw [add_block]; exact hn388_0) | (show (Addr.add _ _).block ≠ _; rw [add_block]; exact hn388_0) | exact hn388_0) (.int .i64 t382)).trans hx388_0; replace hx388_1 := (cell_far (p := ⟨gb387, 0, none⟩) (by first | (rw [add_block]; exact hn388_0) | (show (Addr.add _ _).block ≠ _; rw [add_block]; exact hn388_0) | exact hn388_0) (.int .i64 t382)).trans hx388_1; replace hx388_2 := (cell_far (p := ⟨gb387, 0, none⟩) (by first | (rw [add_block]; exact hn388_0) | (show (Addr.add _ _).block ≠ _; rw [add_block]; exact hn388_0) | exact hn388_0) (.int .i64 t382)).trans hx388_2; replace hx388_0 := (cell_far (p := ⟨gb387, 1, none⟩) (by first | (rw [add_block]; exact hn388_1) | (show (Addr.add _ _).block ≠ _; rw [add_block]; exact hn388_1) | exact hn388_1) (.string t383)).trans hx388_0; replace hx388_1 := (cell_far (p := ⟨gb387, 1, none⟩) (by first | (rw [add_block]; exact hn388_1) | (show (Addr.add _ _).block ≠ _; rw [add_block]; exact hn388_1) | exact hn388_1) (.string t383)).trans hx388_1; replace hx388_2 := (cell_far (p := ⟨gb387, 1, none⟩) (by first | (rw [add_block]; exact hn388_1) | (show (Addr.add _ _).block ≠ _; rw [add_block]; exact hn388_1) | exact hn388_1) (.string t383)).trans hx388_2; replace hx388_0 := (cell_far (p := ⟨gb387, 2, none⟩) (by first | (rw [add_block]; exact hn388_2) | (show (Addr.add _ _).block ≠ _; rw [add_block]; exact hn388_2) | exact hn388_2) (.bool t384)).trans hx388_0; replace hx388_1 := (cell_far (p := ⟨gb387, 2, none⟩) (by first | (rw [add_block]; exact hn388_2) | (show (Addr.add _ _).block ≠ _; rw [add_block]; exact hn388_2) | exact hn388_2) (.bool t384)).trans hx388_1; replace hx388_2 := (cell_far (p := ⟨gb387, 2, none⟩) (by first | (rw [add_block]; exact hn388_2) | (show (Addr.add _ _).block ≠ _; rw [add_block]; exact hn388_2) | exact hn388_2) (.bool t384)).trans hx388_2; (try have hy388_0 := fun (n_ : Nat) => (show (((((w53.drewN n_).setCell ⟨gb387, 0, none⟩ (.int .i64 t382)).setCell ⟨gb387, 1, none⟩ (.string t383)).setCell ⟨gb387, 2, none⟩ (.bool t384))).cell? _ = some _ from hx388_0)); (try have hy388_1 := fun (n_ : Nat) => (show (((((w53.drewN n_).setCell ⟨gb387, 0, none⟩ (.int .i64 t382)).setCell ⟨gb387, 1, none⟩ (.string t383)).setCell ⟨gb387, 2, none⟩ (.bool t384))).cell? _ = some _ from hx388_1)); (try have hy388_2 := fun (n_ : Nat) => (show (((((w53.drewN n_).setCell ⟨gb387, 0, none⟩ (.int .i64 t382)).setCell ⟨gb387, 1, none⟩ (.string t383)).setCell ⟨gb387, 2, none⟩ (.bool t384))).cell? _ = some _ from hx388_2)); clear hn388_0; clear hn388_1; clear hn388_2; replace p388 := eq_true p388; replace q388 := eq_true q388; have p389 : 0 ≤ (x4_1 : Int) := of_decide_eq_true (by first | (with_reducible assumption) | assumption); have q389 : x4_1 < (l0.length : Int) := of_decide_eq_true (by first | (with_reducible assumption) | assumption); obtain ⟨ad389, e389, hx389_0, hx389_1, hx389_2⟩ := at_T25 HR0.out x4_1 p389 q389; obtain rfl : ad367 = ad389 := (by injection e389); have hn389_0 : ad367.block ≠ gb387 := Nat.ne_of_lt (Nat.lt_of_lt_of_le (by have := World.block_lt_of_cell? _ _ hx389_0; first | rwa [add_block] at this | exact this) GW387.out); have hn389_1 : ad367.block ≠ gb387 := Nat.ne_of_lt (Nat.lt_of_lt_of_le (by have := World.block_lt_of_cell? _ _ hx389_0; first | rwa [add_block] at this | exact this) GW387.out); have hn389_2 : ad367.block ≠ gb387 := Nat.ne_of_lt (Nat.lt_of_lt_of_le (by have := World.block_lt_of_cell? _ _ hx389_0; first | rwa [add_block] at this | exact this) GW387.out); replace hx389_0 := (HB.out.cell (World.block_lt_of_cell? w _ hx389_0)).trans hx389_0; replace hx389_1 := (HB.out.cell (World.block_lt_of_cell? w _ hx389_1)).trans hx389_1; replace hx389_2 := (HB.out.cell (World.block_lt_of_cell? w _ hx389_2)).trans hx389_2; replace hx389_0 := (cell_far (p := ⟨gb387, 0, none⟩) (by first | (rw [add_block]; exact hn389_0) | (show (Addr.add _ _).block ≠ _; rw [add_block]; exact hn389_0) | exact hn389_0) (.int .i64 t382)).trans hx389_0; replace hx389_1 := (cell_far (p := ⟨gb387, 0, none⟩) (by first | (rw [add_block]; exact hn389_0) | (show (Addr.add _ _).block ≠ _; rw [add_block]; exact hn389_0) | exact hn389_0) (.int .i64 t382)).trans hx389_1; replace hx389_2 := (cell_far (p := ⟨gb387, 0, none⟩) (by first | (rw [add_block]; exact hn389_0) | (show (Addr.add _ _).block ≠ _; rw [add_block]; exact hn389_0) | exact hn389_0) (.int .i64 t382)).trans hx389_2; replace hx389_0 := (cell_far (p := ⟨gb387, 1, none⟩) (by first | (rw [add_block]; exact hn389_1) | (show (Addr.add _ _).block ≠ _; rw [add_block]; exact hn389_1) | exact hn389_1) (.string t383)).trans hx389_0; replace hx389_1 := (cell_far (p := ⟨gb387, 1, none⟩) (by first | (rw [add_block]; exact hn389_1) | (show (Addr.add _ _).block ≠ _; rw [add_block]; exact hn389_1) | exact hn389_1) (.string t383)).trans hx389_1; replace hx389_2 := (cell_far (p := ⟨gb387, 1, none⟩) (by first | (rw [add_block]; exact hn389_1) | (show (Addr.add _ _).block ≠ _; rw [add_block]; exact hn389_1) | exact hn389_1) (.string t383)).trans hx389_2; replace hx389_0 := (cell_far (p := ⟨gb387, 2, none⟩) (by first | (rw [add_block]; exact hn389_2) | (show (Addr.add _ _).block ≠ _; rw [add_block]; exact hn389_2) | exact hn389_2) (.bool t384)).trans hx389_0; replace hx389_1 := (cell_far (p := ⟨gb387, 2, none⟩) (by first | (rw [add_block]; exact hn389_2) | (show (Addr.add _ _).block ≠ _; rw [add_block]; exact hn389_2) | exact hn389_2) (.bool t384)).trans hx389_1; replace hx389_2 := (cell_far (p := ⟨gb387, 2, none⟩) (by first | (rw [add_block]; exact hn389_2) | (show (Addr.add _ _).block ≠ _; rw [add_block]; exact hn389_2) | exact hn389_2) (.bool t384)).trans hx389_2; (try have hy389_0 := fun (n_ : Nat) => (show (((((w53.drewN n_).setCell ⟨gb387, 0, none⟩ (.int .i64 t382)).setCell ⟨gb387, 1, none⟩ (.string t383)).setCell ⟨gb387, 2, none⟩ (.bool t384))).cell? _ = some _ from hx389_0)); (try have hy389_1 := fun (n_ : Nat) => (show (((((w53.drewN n_).setCell ⟨gb387, 0, none⟩ (.int .i64 t382)).setCell ⟨gb387, 1, none⟩ (.string t383)).setCell ⟨gb387, 2, none⟩ (.bool t384))).cell? _ = some _ from hx389_1)); (try have hy389_2 := fun (n_ : Nat) => (show (((((w53.drewN n_).setCell ⟨gb387, 0, none⟩ (.int .i64 t382)).setCell ⟨gb387, 1, none⟩ (.string t383)).setCell ⟨gb387, 2, none⟩ (.bool t384))).cell? _ = some _ from hx389_2)); clear hn389_0; clear hn389_1; clear hn389_2; replace p389 := eq_true p389; replace q389 := eq_true q389)); try go_wp2_with (first | (go_at_call 9; (with_reducible refine (chain_At.calls kj11 _ _ t368 ((rd_T25 l0 x4_1).f0) t376 t377 t378 true t380 _ ?side1 ?side2 A22.out).mono ?_); (case side1 => repeat (first | exact (Kd.R_reads' HO_5.out).2.2 | (with_reducible refine Kd.C_alloc ?_ _) | (with_reducible refine Kd.C_drewN ?_ _) | (with_reducible refine Kd.C_drew ?_))); (case side2 => exact (Kd.R_reads' HO_5.out).2.1); rintro e w49 ⟨rfl, hb⟩; have n0_ := Aside0.mk (Kd.R_below (by (with_reducible repeat (first | apply Kd.R_alloc | apply Kd.R_drewN | apply Kd.R_drew)); exact HO_3.out) hb); have n1_ := Aside0.mk (Kd.R_below (by (with_reducible repeat (first | apply Kd.R_alloc | apply Kd.R_drewN | apply Kd.R_drew)); exact HO_5.out) hb); have n2_ := Aside0.mk (below_step (by repeat (first | (with_reducible first | exact HB.out | apply below_alloc | apply pw_below_drewN | apply below_drew1) | exact HB.out)) hb); clear HO_3; clear HO_5; clear HB; have HO_3 := n0_; have HO_5 := n1_; have HB := n2_; clear n0_ n1_ n2_; (try clear hb); (try clear hb2); (try clear hk); (try clear hi)) | ((with_reducible refine gate_dst (N := 9) rfl ?_); refine box_event ?hg (N := 9) ?hd (cs := #[.int .i64 0, .string (⟨#[]⟩ : ByteArray), .bool false]) (t := 25) ?hr ?_; (case hd => rfl); (case hg => rfl); (case hr => first | (go_simp; done) | (go_simp; rfl)); intro gb381 hg w50 hbox hb; have n0_ := Aside0.mk (Kd.R_below (Kd.R_elderB (by (with_reducible repeat (first | apply Kd.R_alloc | apply Kd.R_drewN | apply Kd.R_drew)); exact HO_3.out) gb381 (Nat.le_of_eq hg.symm)) hb); have n1_ := Aside0.mk (Kd.R_below (Kd.R_elderB (by (with_reducible repeat (first | apply Kd.R_alloc | apply Kd.R_drewN | apply Kd.R_drew)); exact HO_5.out) gb381 (Nat.le_of_eq hg.symm)) hb); have n2_ := Aside0.mk (below_step (by repeat (first | (with_reducible first | exact HB.out | apply below_alloc | apply pw_below_drewN | apply below_drew1) | exact HB.out)) hb); have n3_ := Aside0.mk (hbox); have n4_ := Aside0.mk ((by rw [hg]; exact (below_size (by repeat (first | (with_reducible first | exact HB.out | apply below_alloc | apply pw_below_drewN | apply below_drew1) | exact HB.out))) : w.heap.size ≤ gb381)); have n5_ := Aside0.mk ((by rw [hg]; exact (below_size (by repeat (first | (with_reducible first | exact HB.out | apply below_alloc | apply pw_below_drewN | apply below_drew1) | exact HB.out))) : w.heap.size ≤ gb381)); clear HO_3; clear HO_5; clear HB; have HO_3 := n0_; have HO_5 := n1_; have HB := n2_; have BK381 := n3_; have GW381 := n4_; have GE381 := n5_; clear n0_ n1_ n2_ n3_ n4_ n5_; clear hb hbox hg; have hcz51_0 : w50.cell? ⟨gb381, 0, none⟩ = some (.int .i64 0) := (blk_cell BK381.out 0).trans rfl; have hcz51_1 : w50.cell? ⟨gb381, 1, none⟩ = some (.string (⟨#[]⟩ : ByteArray)) := (blk_cell BK381.out 1).trans rfl; have hcz51_2 : w50.cell? ⟨gb381, 2, none⟩ = some (.bool false) := (blk_cell BK381.out 2).trans rfl; have hfz51_0 := blk_frozen BK381.out 0; have hfz51_1 := blk_frozen BK381.out 1; have hfz51_2 := blk_frozen BK381.out 2) | (go_at_call 9; (with_reducible refine (chain_At.calls kj11 _ _ t368 4611686018427387904 t382 t383 t384 true t386 _ ?side1 ?side2 A23.out).mono ?_); (case side1 => refine (Kd.R_reads' (e := 25) (base := w.heap.size) (ok := fun k_ => (some k_ ≠ (.slice Ao13 x3_1.length co13 : Value).ownBlock ∧ k_ ≠ gb381)) (n := t368.length) (c := co48) ?_).2.2; exact (by (with_reducible repeat (first | apply Kd.R_alloc | apply Kd.R_drewN | apply Kd.R_drew)); exact (Kd.R_mono (Kd.R_far (p := ⟨gb381, 2, none⟩) (Kd.R_far (p := ⟨gb381, 1, none⟩) (Kd.R_far (p := ⟨gb381, 0, none⟩) (Kd.R_mono HO_5.out (fun k_ hk => (⟨hk, hk.2⟩ : _ ∧ k_ ≠ gb381))) (fun _ hk => hk.2) (.int .i64 t376)) (fun _ hk => hk.2) (.string t377)) (fun _ hk => hk.2) (.bool t378)) (fun _ h_ => h_.1)))); (case side2 => exact (Kd.R_reads' HO_5.out).2.1); rintro e w52 ⟨rfl, hb⟩; have n0_ := Aside0.mk (Kd.R_below (by (with_reducible repeat (first | apply Kd.R_alloc | apply Kd.R_drewN | apply Kd.R_drew)); exact (Kd.R_mono (Kd.R_far (p := ⟨gb381, 2, none⟩) (Kd.R_far (p := ⟨gb381, 1, none⟩) (Kd.R_far (p := ⟨gb381, 0, none⟩) (Kd.R_mono HO_3.out (fun k_ hk => (⟨hk, hk.2⟩ : _ ∧ k_ ≠ gb381))) (fun _ hk => hk.2) (.int .i64 t376)) (fun _ hk => hk.2) (.string t377)) (fun _ hk => hk.2) (.bool t378)) (fun _ h_ => h_.1))) hb); have n1_ := Aside0.mk (Kd.R_below (by (with_reducible repeat (first | apply Kd.R_alloc | apply Kd.R_drewN | apply Kd.R_drew)); exact (Kd.R_mono (Kd.R_far (p := ⟨gb381, 2, none⟩) (Kd.R_far (p := ⟨gb381, 1, none⟩) (Kd.R_far (p := ⟨gb381, 0, none⟩) (Kd.R_mono HO_5.out (fun k_ hk => (⟨hk, hk.2⟩ : _ ∧ k_ ≠ gb381))) (fun _ hk => hk.2) (.int .i64 t376)) (fun _ hk => hk.2) (.string t377)) (fun _ hk => hk.2) (.bool t378)) (fun _ h_ => h_.1))) hb); have n2_ := Aside0.mk (blk_below (g := gb381) (o := .cells #[.int .i64 t376, .string t377, .bool t378] 25 (0, 0)) (by (with_reducible repeat (first | refine blk_drewN ?_ _ | refine blk_drew ?_ | refine blk_alloc ?_ _)); refine blk_put (cs := #[.int .i64 t376, .string t377, .bool false]) ?_ 2 _ rfl; (with_reducible repeat (first | refine blk_drewN ?_ _ | refine blk_drew ?_ | refine blk_alloc ?_ _)); refine blk_put (cs := #[.int .i64 t376, .string (⟨#[]⟩ : ByteArray), .bool false]) ?_ 1 _ rfl; (with_reducible repeat (first | refine blk_drewN ?_ _ | refine blk_drew ?_ | refine blk_alloc ?_ _)); refine blk_put (cs := #[.int .i64 0, .string (⟨#[]⟩ : ByteArray), .bool false]) ?_ 0 _ rfl; (with_reducible repeat (first | refine blk_drewN ?_ _ | refine blk_drew ?_ | refine blk_alloc ?_ _)); exact BK381.out) hb); have n3_ := Aside0.mk (below_step (by repeat (first | (with_reducible first | exact HB.out | apply below_alloc | apply pw_below_drewN | apply below_drew1 | refine below_set ?_ GE381.out) | exact HB.out)) hb); clear HO_3; clear HO_5; clear BK381; clear HB; have HO_3 := n0_; have HO_5 := n1_; have BK381 := n2_; have HB := n3_; clear n0_ n1_ n2_ n3_; (try clear hb); (try clear hb2); (try clear hk); (try clear hi)) | ((with_reducible refine gate_dst (N := 12) rfl ?_); refine box_event ?hg (N := 12) ?hd (cs := #[.int .i64 0, .string (⟨#[]⟩ : ByteArray), .bool false]) (t := 25) ?hr ?_; (case hd => rfl); (case hg => rfl); (case hr => first | (go_simp; done) | (go_simp; rfl)); intro gb387 hg w53 hbox hb; have n0_ := Aside0.mk (Kd.R_below (Kd.R_elderB (by (with_reducible repeat (first | apply Kd.R_alloc | apply Kd.R_drewN | apply Kd.R_drew)); exact HO_3.out) gb387 (Nat.le_of_eq hg.symm)) hb); have n1_ := Aside0.mk (Kd.R_below (Kd.R_elderB (by (with_reducible repeat (first | apply Kd.R_alloc | apply Kd.R_drewN | apply Kd.R_drew)); exact HO_5.out) gb387 (Nat.le_of_eq hg.symm)) hb); have n2_ := Aside0.mk (blk_below (g := gb381) (o := .cells #[.int .i64 t376, .string t377, .bool t378] 25 (0, 0)) (by (with_reducible repeat (first | refine blk_drewN ?_ _ | refine blk_drew ?_ | refine blk_alloc ?_ _)); exact BK381.out) hb); have n3_ := Aside0.mk (below_step (by repeat (first | (with_reducible first | exact HB.out | apply below_alloc | apply pw_below_drewN | apply below_drew1 | refine below_set ?_ GE381.out) | exact HB.out)) hb); have n4_ := Aside0.mk (hbox); have n5_ := Aside0.mk ((by rw [hg]; exact (below_size (by repeat (first | (with_reducible first | exact HB.out | apply below_alloc | apply pw_below_drewN | apply below_drew1 | refine below_set ?_ GE381.out) | exact HB.out))) : w.heap.size ≤ gb387)); have n6_ := Aside0.mk ((by rw [hg]; exact (below_size (by repeat (first | (with_reducible first | exact HB.out | apply below_alloc | apply pw_below_drewN | apply below_drew1 | refine below_set ?_ GE381.out) | exact HB.out))) : w.heap.size ≤ gb387)); have n7_ := Aside0.mk ((by rw [hg]; exact Nat.ne_of_lt (blk_lt (g := gb381) (o := .cells #[.int .i64 t376, .string t377, .bool t378] 25 (0, 0)) (by (with_reducible repeat (first | refine blk_drewN ?_ _ | refine blk_drew ?_ | refine blk_alloc ?_ _)); exact BK381.out)) : gb381 ≠ gb387)); have n8_ := Aside0.mk ((by rw [hg]; exact Nat.ne_of_gt (blk_lt (g := gb381) (o := .cells #[.int .i64 t376, .string t377, .bool t378] 25 (0, 0)) (by (with_reducible repeat (first | refine blk_drewN ?_ _ | refine blk_drew ?_ | refine blk_alloc ?_ _)); exact BK381.out)) : gb387 ≠ gb381)); clear HO_3; clear HO_5; clear BK381; clear HB; have HO_3 := n0_; have HO_5 := n1_; have BK381 := n2_; have HB := n3_; have BK387 := n4_; have GW387 := n5_; have GE387 := n6_; have NB381_387 := n7_; have NB387_381 := n8_; clear n0_ n1_ n2_ n3_ n4_ n5_ n6_ n7_ n8_; clear hb hbox hg; have hnb54 := NB387_381.out; have hnc54 := NB381_387.out; have hcz55_0 : w53.cell? ⟨gb387, 0, none⟩ = some (.int .i64 0) := (blk_cell BK387.out 0).trans rfl; have hcz55_1 : w53.cell? ⟨gb387, 1, none⟩ = some (.string (⟨#[]⟩ : ByteArray)) := (blk_cell BK387.out 1).trans rfl; have hcz55_2 : w53.cell? ⟨gb387, 2, none⟩ = some (.bool false) := (blk_cell BK387.out 2).trans rfl; have hfz55_0 := blk_frozen BK387.out 0; have hfz55_1 := blk_frozen BK387.out 1; have hfz55_2 := blk_frozen BK387.out 2; have hcz56_0 : w53.cell? ⟨gb381, 0, none⟩ = some (.int .i64 t376) := (blk_cell BK381.out 0).trans rfl; have hcz56_1 : w53.cell? ⟨gb381, 1, none⟩ = some (.string t377) := (blk_cell BK381.out 1).trans rfl; have hcz56_2 : w53.cell? ⟨gb381, 2, none⟩ = some (.bool t378) := (blk_cell BK381.out 2).trans rfl; have hfz56_0 := blk_frozen BK381.out 0; have hfz56_1 := blk_frozen BK381.out 1; have hfz56_2 := blk_frozen BK381.out 2; have p388 : 0 ≤ (x4_1 : Int) := of_decide_eq_true (by first | (with_reducible assumption) | assumption); have q388 : x4_1 < (l0.length : Int) := of_decide_eq_true (by first | (with_reducible assumption) | assumption); obtain ⟨ad388, e388, hx388_0, hx388_1, hx388_2⟩ := at_T25 HR0.out x4_1 p388 q388; obtain rfl : ad367 = ad388 := (by injection e388); have hn388_0 : ad367.block ≠ gb387 := Nat.ne_of_lt (Nat.lt_of_lt_of_le (by have := World.block_lt_of_cell? _ _ hx388_0; first | rwa [add_block] at this | exact this) GW387.out); have hn388_1 : ad367.block ≠ gb387 := Nat.ne_of_lt (Nat.lt_of_lt_of_le (by have := World.block_lt_of_cell? _ _ hx388_0; first | rwa [add_block] at this | exact this) GW387.out); have hn388_2 : ad367.block ≠ gb387 := Nat.ne_of_lt (Nat.lt_of_lt_of_le (by have := World.block_lt_of_cell? _ _ hx388_0; first | rwa [add_block] at this | exact this) GW387.out); replace hx388_0 := (HB.out.cell (World.block_lt_of_cell? w _ hx388_0)).trans hx388_0; replace hx388_1 := (HB.out.cell (World.block_lt_of_cell? w _ hx388_1)).trans hx388_1; replace hx388_2 := (HB.out.cell (World.block_lt_of_cell? w _ hx388_2)).trans hx388_2; replace hx388_0 := (cell_far (p := ⟨gb387, 0, none⟩) (by first | (rw [add_block]; exact hn388_0) | (show (Addr.add _ _).block ≠ _; rw [add_block]; exact hn388_0) | exact hn388_0) (.int .i64 t382)).trans hx388_0; replace hx388_1 := (cell_far (p := ⟨gb387, 0, none⟩) (by first | (rw [add_block]; exact hn388_0) | (show (Addr.add _ _).block ≠ _; rw [add_block]; exact hn388_0) | exact hn388_0) (.int .i64 t382)).trans hx388_1; replace hx388_2 := (cell_far (p := ⟨gb387, 0, none⟩) (by first | (rw [add_block]; exact hn388_0) | (show (Addr.add _ _).block ≠ _; rw [add_block]; exact hn388_0) | exact hn388_0) (.int .i64 t382)).trans hx388_2; replace hx388_0 := (cell_far (p := ⟨gb387, 1, none⟩) (by first | (rw [add_block]; exact hn388_1) | (show (Addr.add _ _).block ≠ _; rw [add_block]; exact hn388_1) | exact hn388_1) (.string t383)).trans hx388_0; replace hx388_1 := (cell_far (p := ⟨gb387, 1, none⟩) (by first | (rw [add_block]; exact hn388_1) | (show (Addr.add _ _).block ≠ _; rw [add_block]; exact hn388_1) | exact hn388_1) (.string t383)).trans hx388_1; replace hx388_2 := (cell_far (p := ⟨gb387, 1, none⟩) (by first | (rw [add_block]; exact hn388_1) | (show (Addr.add _ _).block ≠ _; rw [add_block]; exact hn388_1) | exact hn388_1) (.string t383)).trans hx388_2; replace hx388_0 := (cell_far (p := ⟨gb387, 2, none⟩) (by first | (rw [add_block]; exact hn388_2) | (show (Addr.add _ _).block ≠ _; rw [add_block]; exact hn388_2) | exact hn388_2) (.bool t384)).trans hx388_0; replace hx388_1 := (cell_far (p := ⟨gb387, 2, none⟩) (by first | (rw [add_block]; exact hn388_2) | (show (Addr.add _ _).block ≠ _; rw [add_block]; exact hn388_2) | exact hn388_2) (.bool t384)).trans hx388_1; replace hx388_2 := (cell_far (p := ⟨gb387, 2, none⟩) (by first | (rw [add_block]; exact hn388_2) | (show (Addr.add _ _).block ≠ _; rw [add_block]; exact hn388_2) | exact hn388_2) (.bool t384)).trans hx388_2; (try have hy388_0 := fun (n_ : Nat) => (show (((((w53.drewN n_).setCell ⟨gb387, 0, none⟩ (.int .i64 t382)).setCell ⟨gb387, 1, none⟩ (.string t383)).setCell ⟨gb387, 2, none⟩ (.bool t384))).cell? _ = some _ from hx388_0)); (try have hy388_1 := fun (n_ : Nat) => (show (((((w53.drewN n_).setCell ⟨gb387, 0, none⟩ (.int .i64 t382)).setCell ⟨gb387, 1, none⟩ (.string t383)).setCell ⟨gb387, 2, none⟩ (.bool t384))).cell? _ = some _ from hx388_1)); (try have hy388_2 := fun (n_ : Nat) => (show (((((w53.drewN n_).setCell ⟨gb387, 0, none⟩ (.int .i64 t382)).setCell ⟨gb387, 1, none⟩ (.string t383)).setCell ⟨gb387, 2, none⟩ (.bool t384))).cell? _ = some _ from hx388_2)); clear hn388_0; clear hn388_1; clear hn388_2; replace p388 := eq_true p388; replace q388 := eq_true q388; have p389 : 0 ≤ (x4_1 : Int) := of_decide_eq_true (by first | (with_reducible assumption) | assumption); have q389 : x4_1 < (l0.length : Int) := of_decide_eq_true (by first | (with_reducible assumption) | assumption); obtain ⟨ad389, e389, hx389_0, hx389_1, hx389_2⟩ := at_T25 HR0.out x4_1 p389 q389; obtain rfl : ad367 = ad389 := (by injection e389); have hn389_0 : ad367.block ≠ gb387 := Nat.ne_of_lt (Nat.lt_of_lt_of_le (by have := World.block_lt_of_cell? _ _ hx389_0; first | rwa [add_block] at this | exact this) GW387.out); have hn389_1 : ad367.block ≠ gb387 := Nat.ne_of_lt (Nat.lt_of_lt_of_le (by have := World.block_lt_of_cell? _ _ hx389_0; first | rwa [add_block] at this | exact this) GW387.out); have hn389_2 : ad367.block ≠ gb387 := Nat.ne_of_lt (Nat.lt_of_lt_of_le (by have := World.block_lt_of_cell? _ _ hx389_0; first | rwa [add_block] at this | exact this) GW387.out); replace hx389_0 := (HB.out.cell (World.block_lt_of_cell? w _ hx389_0)).trans hx389_0; replace hx389_1 := (HB.out.cell (World.block_lt_of_cell? w _ hx389_1)).trans hx389_1; replace hx389_2 := (HB.out.cell (World.block_lt_of_cell? w _ hx389_2)).trans hx389_2; replace hx389_0 := (cell_far (p := ⟨gb387, 0, none⟩) (by first | (rw [add_block]; exact hn389_0) | (show (Addr.add _ _).block ≠ _; rw [add_block]; exact hn389_0) | exact hn389_0) (.int .i64 t382)).trans hx389_0; replace hx389_1 := (cell_far (p := ⟨gb387, 0, none⟩) (by first | (rw [add_block]; exact hn389_0) | (show (Addr.add _ _).block ≠ _; rw [add_block]; exact hn389_0) | exact hn389_0) (.int .i64 t382)).trans hx389_1; replace hx389_2 := (cell_far (p := ⟨gb387, 0, none⟩) (by first | (rw [add_block]; exact hn389_0) | (show (Addr.add _ _).block ≠ _; rw [add_block]; exact hn389_0) | exact hn389_0) (.int .i64 t382)).trans hx389_2; replace hx389_0 := (cell_far (p := ⟨gb387, 1, none⟩) (by first | (rw [add_block]; exact hn389_1) | (show (Addr.add _ _).block ≠ _; rw [add_block]; exact hn389_1) | exact hn389_1) (.string t383)).trans hx389_0; replace hx389_1 := (cell_far (p := ⟨gb387, 1, none⟩) (by first | (rw [add_block]; exact hn389_1) | (show (Addr.add _ _).block ≠ _; rw [add_block]; exact hn389_1) | exact hn389_1) (.string t383)).trans hx389_1; replace hx389_2 := (cell_far (p := ⟨gb387, 1, none⟩) (by first | (rw [add_block]; exact hn389_1) | (show (Addr.add _ _).block ≠ _; rw [add_block]; exact hn389_1) | exact hn389_1) (.string t383)).trans hx389_2; replace hx389_0 := (cell_far (p := ⟨gb387, 2, none⟩) (by first | (rw [add_block]; exact hn389_2) | (show (Addr.add _ _).block ≠ _; rw [add_block]; exact hn389_2) | exact hn389_2) (.bool t384)).trans hx389_0; replace hx389_1 := (cell_far (p := ⟨gb387, 2, none⟩) (by first | (rw [add_block]; exact hn389_2) | (show (Addr.add _ _).block ≠ _; rw [add_block]; exact hn389_2) | exact hn389_2) (.bool t384)).trans hx389_1; replace hx389_2 := (cell_far (p := ⟨gb387, 2, none⟩) (by first | (rw [add_block]; exact hn389_2) | (show (Addr.add _ _).block ≠ _; rw [add_block]; exact hn389_2) | exact hn389_2) (.bool t384)).trans hx389_2; (try have hy389_0 := fun (n_ : Nat) => (show (((((w53.drewN n_).setCell ⟨gb387, 0, none⟩ (.int .i64 t382)).setCell ⟨gb387, 1, none⟩ (.string t383)).setCell ⟨gb387, 2, none⟩ (.bool t384))).cell? _ = some _ from hx389_0)); (try have hy389_1 := fun (n_ : Nat) => (show (((((w53.drewN n_).setCell ⟨gb387, 0, none⟩ (.int .i64 t382)).setCell ⟨gb387, 1, none⟩ (.string t383)).setCell ⟨gb387, 2, none⟩ (.bool t384))).cell? _ = some _ from hx389_1)); (try have hy389_2 := fun (n_ : Nat) => (show (((((w53.drewN n_).setCell ⟨gb387, 0, none⟩ (.int .i64 t382)).setCell ⟨gb387, 1, none⟩ (.string t383)).setCell ⟨gb387, 2, none⟩ (.bool t384))).cell? _ = some _ from hx389_2)); clear hn389_0; clear hn389_1; clear hn389_2; replace p389 := eq_true p389; replace q389 := eq_true q389)))
                                          go_roundg kj11
                                          case measure => have := HK1.out; have := HJ4.out; have := HJ11.out; omega
                                          case rel => exact ⟨(t368), (wrap64 (x4_1 + 1)), (by first | rfl | (simp; done) | (simp [*]; done) | (simp [bne_nil_]; done)), H', ⟨by have := HK1.out; have := HJ4.out; have := HJ11.out; omega⟩, ⟨by (with_reducible repeat (first | apply Kd.R_alloc | apply Kd.R_drewN | apply Kd.R_drew)); exact Kd.R_mono (Kd.R_far (p := ⟨gb387, 2, none⟩) (Kd.R_far (p := ⟨gb387, 1, none⟩) (Kd.R_far (p := ⟨gb387, 0, none⟩) (Kd.R_mono HO_5.out (fun k_ hk => (⟨hk, hk.2⟩ : _ ∧ k_ ≠ gb387))) (fun _ hk => hk.2) (.int .i64 t382)) (fun _ hk => hk.2) (.string t383)) (fun _ hk => hk.2) (.bool t384)) (fun _ hk => trivial)⟩, ⟨by repeat (first | (with_reducible first | exact HB.out | apply below_alloc | apply pw_below_drewN | apply below_drew1 | refine below_set ?_ GE381.out | refine below_set ?_ GE387.out) | exact HB.out)⟩⟩
                                    · replace c27 := Bool.eq_false_iff.mpr c27
                                      subst c27
                                      have H1 : (some false) = some r := by rw [if_neg (show ¬ (false = true) by decide)] at H; exact H
                                      clear H
                                      have H := H1
                                      clear H1
                                      exact absurd (H.trans (congrArg some HRT.out)) (by simp)
                                  · replace c26 := Bool.eq_false_iff.mpr c26
                                    subst c26
                                    have H1 : (some false) = some r := by rw [if_neg (show ¬ (false = true) by decide)] at H; exact H
                                    clear H
                                    have H := H1
                                    clear H1
                                    exact absurd (H.trans (congrArg some HRT.out)) (by simp)
                                · rw [if_neg c25] at H
                                  have c25b0 : (t386 == 0) = false := beq_eq_false_iff_ne.mpr c25
                                  have c25b1 : (t386 != 0) = true := bne_iff_ne.mpr c25
                                  exact absurd (H.trans (congrArg some HRT.out)) (by simp)
                              · rw [if_neg c24] at H
                                have c24b0 : (t380 == 0) = false := beq_eq_false_iff_ne.mpr c24
                                have c24b1 : (t380 != 0) = true := bne_iff_ne.mpr c24
                                exact absurd (H.trans (congrArg some HRT.out)) (by simp)
                            · rw [if_neg c21] at H
                              exact absurd H (by simp)
                          · rw [if_neg c20] at H
                            exact absurd H (by simp)
                        · rw [if_neg c19] at H
                          have c19b0 : (t371 == 0) = false := beq_eq_false_iff_ne.mpr c19
                          have c19b1 : (t371 != 0) = true := bne_iff_ne.mpr c19
                          have H' := Aside0.mk H
                          clear H
                          go_wp2
                          repeat (go_quiet (fail); try go_wp2)
                          go_roundg kj11
                          case measure => have := HK1.out; have := HJ4.out; have := HJ11.out; omega
                          case rel => exact ⟨(x3_1), (wrap64 (x4_1 + 1)), (by first | rfl | (simp; done) | (simp [*]; done) | (simp [bne_nil_]; done)), H', ⟨by have := HK1.out; have := HJ4.out; have := HJ11.out; omega⟩, ⟨by (with_reducible repeat (first | apply Kd.R_alloc | apply Kd.R_drewN | apply Kd.R_drew)); exact Kd.R_mono HO_3.out (fun _ hk => trivial)⟩, ⟨by repeat (first | (with_reducible first | exact HB.out | apply below_alloc | apply pw_below_drewN | apply below_drew1) | exact HB.out)⟩⟩
                · rw [if_neg c9] at H
                  exact absurd H (by simp)
              · rw [if_neg c8] at H
                exact absurd H (by simp)
            · replace c7 := Bool.eq_false_iff.mpr c7
              subst c7
              have H1 : (corncriblaw11_ChainOrder.l1 kj4 x3_1 x3_1 (x3_1.length : Int) 0) = some r := by rw [if_neg (show ¬ (false = true) by decide)] at H; exact H
              clear H
              have H := H1
              clear H1
              have H' := Aside0.mk H
              clear H
              obtain ⟨Ao89, co89, eo89⟩ := Kd.R_slice HO_3.out
              subst eo89
              go_wp2
              repeat (go_quiet (fail); try go_wp2)
              go_loopg [116] kj4 (fun kq v116 w' => ∃ (x116_3 : Int), v116 = .int .i64 x116_3 ∧ Aside0 (corncriblaw11_ChainOrder.l1 kq x3_1 x3_1 (x3_1.length : Int) x116_3 = some r) ∧ Aside0 (kq ≤ kj4) ∧ Aside0 (Kd.R k25 25 w' w.heap.size (fun _ => True) (.slice Ao89 x3_1.length co89) x3_1) ∧ Aside0 (Kd.R k25 25 w' w.heap.size (fun _ => True) (.slice Ao89 x3_1.length co89) x3_1) ∧ Aside0 (Below w.heap.size w w'))
              case atStart => exact ⟨(0), (by first | rfl | (simp; done) | (simp [*]; done) | (simp [bne_nil_]; done)), H', ⟨Nat.le_refl _⟩, ⟨by (with_reducible repeat (first | apply Kd.R_alloc | apply Kd.R_drewN | apply Kd.R_drew)); exact HO_3.out⟩, ⟨by (with_reducible repeat (first | apply Kd.R_alloc | apply Kd.R_drewN | apply Kd.R_drew)); exact HO_3.out⟩, ⟨by repeat (first | (with_reducible first | exact HB.out | apply below_alloc | apply pw_below_drewN | apply below_drew1) | exact HB.out)⟩⟩
              case round =>
                clear H'
                try clear c1
                try clear c2
                try clear p2
                try clear c3
                try clear p3
                try clear q3
                try clear hx3
                try clear c4
                try clear c5
                try clear c6
                try clear c6b0
                try clear p6
                try clear c7
                try clear c8
                try clear c8b0
                try clear c9
                try clear c9b0
                try clear c16
                try clear c16b0
                try clear c16b1
                try clear c17
                try clear c17b0
                try clear c17b1
                try clear c18
                try clear c19
                try clear c19b0
                try clear c19b1
                try clear c20
                try clear c20b0
                try clear c21
                try clear c21b0
                try clear c24
                try clear c24b0
                try clear c24b1
                try clear c25
                try clear c25b0
                try clear c25b1
                try clear c26
                try clear c27
                try clear c28
                try clear c28b0
                try clear c35
                try clear p36
                try clear q36
                try clear hx36
                try clear p37
                try clear q37
                try clear hx37
                try clear c38
                try clear c38b0
                try clear p38
                try clear q38
                try clear hx38
                try clear c45
                try clear c54
                try clear c63
                try clear p64
                try clear c71
                try clear c79
                try clear c87
                try clear hcz32_0
                try clear hcz32_1
                try clear hcz32_2
                try clear hcz36_0
                try clear hcz36_1
                try clear hcz36_2
                try clear hcz37_0
                try clear hcz37_1
                try clear hcz37_2
                try clear hcz42_0
                try clear hcz42_1
                try clear hcz42_2
                try clear hcz46_0
                try clear hcz46_1
                try clear hcz46_2
                try clear hcz47_0
                try clear hcz47_1
                try clear hcz47_2
                try clear hcz51_0
                try clear hcz51_1
                try clear hcz51_2
                try clear hcz55_0
                try clear hcz55_1
                try clear hcz55_2
                try clear hcz56_0
                try clear hcz56_1
                try clear hcz56_2
                try clear hcz60_0
                try clear hcz60_1
                try clear hcz60_2
                try clear hcz64_0
                try clear hcz64_1
                try clear hcz64_2
                try clear hcz68_0
                try clear hcz68_1
                try clear hcz68_2
                try clear hcz72_0
                try clear hcz72_1
                try clear hcz72_2
                try clear hcz76_0
                try clear hcz76_1
                try clear hcz76_2
                try clear hcz80_0
                try clear hcz80_1
                try clear hcz80_2
                try clear hcz84_0
                try clear hcz84_1
                try clear hcz84_2
                try clear hcz88_0
                try clear hcz88_1
                try clear hcz88_2
                try clear hfz32_0
                try clear hfz32_1
                try clear hfz32_2
                try clear hfz36_0
                try clear hfz36_1
                try clear hfz36_2
                try clear hfz37_0
                try clear hfz37_1
                try clear hfz37_2
                try clear hfz42_0
                try clear hfz42_1
                try clear hfz42_2
                try clear hfz46_0
                try clear hfz46_1
                try clear hfz46_2
                try clear hfz47_0
                try clear hfz47_1
                try clear hfz47_2
                try clear hfz51_0
                try clear hfz51_1
                try clear hfz51_2
                try clear hfz55_0
                try clear hfz55_1
                try clear hfz55_2
                try clear hfz56_0
                try clear hfz56_1
                try clear hfz56_2
                try clear hfz60_0
                try clear hfz60_1
                try clear hfz60_2
                try clear hfz64_0
                try clear hfz64_1
                try clear hfz64_2
                try clear hfz68_0
                try clear hfz68_1
                try clear hfz68_2
                try clear hfz72_0
                try clear hfz72_1
                try clear hfz72_2
                try clear hfz76_0
                try clear hfz76_1
                try clear hfz76_2
                try clear hfz80_0
                try clear hfz80_1
                try clear hfz80_2
                try clear hfz84_0
                try clear hfz84_1
                try clear hfz84_2
                try clear hfz88_0
                try clear hfz88_1
                try clear hfz88_2
                try clear hx367_0
                try clear hx367_1
                try clear hx367_2
                try clear hx374_0
                try clear hx374_1
                try clear hx374_2
                try clear hx375_0
                try clear hx375_1
                try clear hx375_2
                try clear hx388_0
                try clear hx388_1
                try clear hx388_2
                try clear hx389_0
                try clear hx389_1
                try clear hx389_2
                try clear p2
                try clear p3
                try clear p367
                try clear p374
                try clear p375
                try clear p388
                try clear p389
                try clear q3
                try clear q367
                try clear q374
                try clear q375
                try clear q388
                try clear q389
                obtain ⟨x116_3, rfl, HA, HK3, HO_3, HO_114, HB⟩ := hrel
                cases gk with
                | zero => exact absurd HA.out (by simp [corncriblaw11_ChainOrder.l1])
                | succ k3 =>
                  have H := HA.out
                  clear HA
                  simp only [corncriblaw11_ChainOrder.l1] at H
                  by_cases c90 : x116_3 < (x3_1.length : Int)
                  · rw [if_pos c90] at H
                    have c90b0 : decide (x116_3 < (x3_1.length : Int)) = true := decide_eq_true c90
                    clear c90
                    by_cases c91 : 0 ≤ x116_3
                    · rw [if_pos c91] at H
                      have c91b0 : decide (0 ≤ x116_3) = true := decide_eq_true c91
                      clear c91
                      by_cases c92 : x116_3 < (x3_1.length : Int)
                      · rw [if_pos c92] at H
                        have c92b0 : decide (x116_3 < (x3_1.length : Int)) = true := decide_eq_true c92
                        clear c92
                        replace H := Option.bind_eq_some_iff.mp H
                        obtain ⟨⟨t392, t393, t394, t395, t396⟩, A930, H⟩ := H
                        replace H : (if t396 = 0 then (if t395 = true then (if (!(t392 == ((rd_T25 x3_1 x116_3).f0)) || (!(t393.toList == (((rd_T25 x3_1 x116_3).f1).toList)) || (!(t394 == ((rd_T25 x3_1 x116_3).f2))))) = true then (some false) else (corncriblaw11_ChainOrder.l1 k3 x3_1 x3_1 (x3_1.length : Int) (wrap64 (x116_3 + 1)))) else (some false)) else (some false)) = some r := H
                        have A93 := Aside0.mk A930
                        clear A930
                        by_cases c94 : t396 = 0
                        · rw [if_pos c94] at H
                          have c94b0 : (t396 == 0) = true := beq_iff_eq.mpr c94
                          have c94b1 : (t396 != 0) = false := bne_eq_false_iff_eq.mpr c94
                          clear c94
                          by_cases c95 : t395 = true
                          · subst c95
                            have H1 : (if (!(t392 == ((rd_T25 x3_1 x116_3).f0)) || (!(t393.toList == (((rd_T25 x3_1 x116_3).f1).toList)) || (!(t394 == ((rd_T25 x3_1 x116_3).f2))))) = true then (some false) else (corncriblaw11_ChainOrder.l1 k3 x3_1 x3_1 (x3_1.length : Int) (wrap64 (x116_3 + 1)))) = some r := by rw [if_pos rfl] at H; exact H
                            clear H
                            have H := H1
                            clear H1
                            by_cases c96 : (!(t392 == ((rd_T25 x3_1 x116_3).f0)) || (!(t393.toList == (((rd_T25 x3_1 x116_3).f1).toList)) || (!(t394 == ((rd_T25 x3_1 x116_3).f2))))) = true
                            · rw [if_pos c96] at H
                              have c96b0 : (!(t392 == ((rd_T25 x3_1 x116_3).f0)) || (!(t393.toList == (((rd_T25 x3_1 x116_3).f1).toList)) || (!(t394 == ((rd_T25 x3_1 x116_3).f2))))) = true := c96
                              clear c96
                              exact absurd (H.trans (congrArg some HRT.out)) (by simp)
                            · rw [if_neg c96] at H
                              have c96b0 : (!(t392 == ((rd_T25 x3_1 x116_3).f0)) || (!(t393.toList == (((rd_T25 x3_1 x116_3).f1).toList)) || (!(t394 == ((rd_T25 x3_1 x116_3).f2))))) = false := by simpa using c96
                              clear c96
                              have H' := Aside0.mk H
                              clear H
                              have p390 : 0 ≤ (x116_3 : Int) := of_decide_eq_true (by first | (with_reducible assumption) | assumption)
                              have q390 : x116_3 < (x3_1.length : Int) := of_decide_eq_true (by first | (with_reducible assumption) | assumption)
                              obtain ⟨ad390, e390, hx390_0, hx390_1, hx390_2⟩ := at_T25 (Kd.R_reads' HO_114.out).2.2 x116_3 p390 q390
                              cases e390
                              replace p390 := eq_true p390
                              replace q390 := eq_true q390
                              go_wp2_with (first | ((with_reducible refine gate_dst (N := 16) rfl ?_); refine box_event ?hg (N := 16) ?hd (cs := #[.int .i64 0, .string (⟨#[]⟩ : ByteArray), .bool false]) (t := 25) ?hr ?_; (case hd => rfl); (case hg => rfl); (case hr => first | (go_simp; done) | (go_simp; rfl)); intro gb391 hg w104 hbox hb; have n0_ := Aside0.mk (Kd.R_below (Kd.R_elderB (by (with_reducible repeat (first | apply Kd.R_alloc | apply Kd.R_drewN | apply Kd.R_drew)); exact HO_3.out) gb391 (Nat.le_of_eq hg.symm)) hb); have n1_ := Aside0.mk (Kd.R_below (Kd.R_elderB (by (with_reducible repeat (first | apply Kd.R_alloc | apply Kd.R_drewN | apply Kd.R_drew)); exact HO_114.out) gb391 (Nat.le_of_eq hg.symm)) hb); have n2_ := Aside0.mk (below_step (by repeat (first | (with_reducible first | exact HB.out | apply below_alloc | apply pw_below_drewN | apply below_drew1) | exact HB.out)) hb); have n3_ := Aside0.mk (hbox); have n4_ := Aside0.mk ((by rw [hg]; exact (below_size (by repeat (first | (with_reducible first | exact HB.out | apply below_alloc | apply pw_below_drewN | apply below_drew1) | exact HB.out))) : w.heap.size ≤ gb391)); have n5_ := Aside0.mk ((by rw [hg]; exact (below_size (by repeat (first | (with_reducible first | exact HB.out | apply below_alloc | apply pw_below_drewN | apply below_drew1) | exact HB.out))) : w.heap.size ≤ gb391)); clear HO_3; clear HO_114; clear HB; have HO_3 := n0_; have HO_114 := n1_; have HB := n2_; have BK391 := n3_; have GW391 := n4_; have GE391 := n5_; clear n0_ n1_ n2_ n3_ n4_ n5_; clear hb hbox hg; have hcz105_0 : w104.cell? ⟨gb391, 0, none⟩ = some (.int .i64 0) := (blk_cell BK391.out 0).trans rfl; have hcz105_1 : w104.cell? ⟨gb391, 1, none⟩ = some (.string (⟨#[]⟩ : ByteArray)) := (blk_cell BK391.out 1).trans rfl; have hcz105_2 : w104.cell? ⟨gb391, 2, none⟩ = some (.bool false) := (blk_cell BK391.out 2).trans rfl; have hfz105_0 := blk_frozen BK391.out 0; have hfz105_1 := blk_frozen BK391.out 1; have hfz105_2 := blk_frozen BK391.out 2) | (go_at_call 9; (with_reducible refine (chain_At.calls k3 _ _ x3_1 ((rd_T25 x3_1 x116_3).f0) t392 t393 t394 true t396 _ ?side1 ?side2 A93.out).mono ?_); (case side1 => refine (Kd.R_reads' (e := 25) (base := w.heap.size) (ok := fun k_ => (True ∧ k_ ≠ gb391)) (n := x3_1.length) (c := co89) ?_).2.2; exact (by (with_reducible repeat (first | apply Kd.R_alloc | apply Kd.R_drewN | apply Kd.R_drew)); exact (Kd.R_mono (Kd.R_far (p := ⟨gb391, 2, none⟩) (Kd.R_far (p := ⟨gb391, 1, none⟩) (Kd.R_far (p := ⟨gb391, 0, none⟩) (Kd.R_mono HO_3.out (fun k_ hk => (⟨hk, hk.2⟩ : _ ∧ k_ ≠ gb391))) (fun _ hk => hk.2) (.int .i64 ((rd_T25 x3_1 x116_3).f0))) (fun _ hk => hk.2) (.string ((rd_T25 x3_1 x116_3).f1))) (fun _ hk => hk.2) (.bool ((rd_T25 x3_1 x116_3).f2))) (fun _ h_ => h_.1)))); (case side2 => exact (Kd.R_reads' HO_3.out).2.1); rintro e w106 ⟨rfl, hb⟩; have n0_ := Aside0.mk (Kd.R_below (by (with_reducible repeat (first | apply Kd.R_alloc | apply Kd.R_drewN | apply Kd.R_drew)); exact (Kd.R_mono (Kd.R_far (p := ⟨gb391, 2, none⟩) (Kd.R_far (p := ⟨gb391, 1, none⟩) (Kd.R_far (p := ⟨gb391, 0, none⟩) (Kd.R_mono HO_3.out (fun k_ hk => (⟨hk, hk.2⟩ : _ ∧ k_ ≠ gb391))) (fun _ hk => hk.2) (.int .i64 ((rd_T25 x3_1 x116_3).f0))) (fun _ hk => hk.2) (.string ((rd_T25 x3_1 x116_3).f1))) (fun _ hk => hk.2) (.bool ((rd_T25 x3_1 x116_3).f2))) (fun _ h_ => h_.1))) hb); have n1_ := Aside0.mk (Kd.R_below (by (with_reducible repeat (first | apply Kd.R_alloc | apply Kd.R_drewN | apply Kd.R_drew)); exact (Kd.R_mono (Kd.R_far (p := ⟨gb391, 2, none⟩) (Kd.R_far (p := ⟨gb391, 1, none⟩) (Kd.R_far (p := ⟨gb391, 0, none⟩) (Kd.R_mono HO_114.out (fun k_ hk => (⟨hk, hk.2⟩ : _ ∧ k_ ≠ gb391))) (fun _ hk => hk.2) (.int .i64 ((rd_T25 x3_1 x116_3).f0))) (fun _ hk => hk.2) (.string ((rd_T25 x3_1 x116_3).f1))) (fun _ hk => hk.2) (.bool ((rd_T25 x3_1 x116_3).f2))) (fun _ h_ => h_.1))) hb); have n2_ := Aside0.mk (blk_below (g := gb391) (o := .cells #[.int .i64 ((rd_T25 x3_1 x116_3).f0), .string ((rd_T25 x3_1 x116_3).f1), .bool ((rd_T25 x3_1 x116_3).f2)] 25 (0, 0)) (by (with_reducible repeat (first | refine blk_drewN ?_ _ | refine blk_drew ?_ | refine blk_alloc ?_ _)); refine blk_put (cs := #[.int .i64 ((rd_T25 x3_1 x116_3).f0), .string ((rd_T25 x3_1 x116_3).f1), .bool false]) ?_ 2 _ rfl; (with_reducible repeat (first | refine blk_drewN ?_ _ | refine blk_drew ?_ | refine blk_alloc ?_ _)); refine blk_put (cs := #[.int .i64 ((rd_T25 x3_1 x116_3).f0), .string (⟨#[]⟩ : ByteArray), .bool false]) ?_ 1 _ rfl; (with_reducible repeat (first | refine blk_drewN ?_ _ | refine blk_drew ?_ | refine blk_alloc ?_ _)); refine blk_put (cs := #[.int .i64 0, .string (⟨#[]⟩ : ByteArray), .bool false]) ?_ 0 _ rfl; (with_reducible repeat (first | refine blk_drewN ?_ _ | refine blk_drew ?_ | refine blk_alloc ?_ _)); exact BK391.out) hb); have n3_ := Aside0.mk (below_step (by repeat (first | (with_reducible first | exact HB.out | apply below_alloc | apply pw_below_drewN | apply below_drew1 | refine below_set ?_ GE391.out) | exact HB.out)) hb); clear HO_3; clear HO_114; clear BK391; clear HB; have HO_3 := n0_; have HO_114 := n1_; have BK391 := n2_; have HB := n3_; clear n0_ n1_ n2_ n3_; (try clear hb); (try clear hb2); (try clear hk); (try clear hi)) | ((with_reducible refine gate_dst (N := 17) rfl ?_); refine box_event ?hg (N := 17) ?hd (cs := #[.int .i64 0, .string (⟨#[]⟩ : ByteArray), .bool false]) (t := 25) ?hr ?_; (case hd => rfl); (case hg => rfl); (case hr => first | (go_simp; done) | (go_simp; rfl)); intro gb397 hg w107 hbox hb; have n0_ := Aside0.mk (Kd.R_below (Kd.R_elderB (by (with_reducible repeat (first | apply Kd.R_alloc | apply Kd.R_drewN | apply Kd.R_drew)); exact HO_3.out) gb397 (Nat.le_of_eq hg.symm)) hb); have n1_ := Aside0.mk (Kd.R_below (Kd.R_elderB (by (with_reducible repeat (first | apply Kd.R_alloc | apply Kd.R_drewN | apply Kd.R_drew)); exact HO_114.out) gb397 (Nat.le_of_eq hg.symm)) hb); have n2_ := Aside0.mk (blk_below (g := gb391) (o := .cells #[.int .i64 ((rd_T25 x3_1 x116_3).f0), .string ((rd_T25 x3_1 x116_3).f1), .bool ((rd_T25 x3_1 x116_3).f2)] 25 (0, 0)) (by (with_reducible repeat (first | refine blk_drewN ?_ _ | refine blk_drew ?_ | refine blk_alloc ?_ _)); exact BK391.out) hb); have n3_ := Aside0.mk (below_step (by repeat (first | (with_reducible first | exact HB.out | apply below_alloc | apply pw_below_drewN | apply below_drew1 | refine below_set ?_ GE391.out) | exact HB.out)) hb); have n4_ := Aside0.mk (hbox); have n5_ := Aside0.mk ((by rw [hg]; exact (below_size (by repeat (first | (with_reducible first | exact HB.out | apply below_alloc | apply pw_below_drewN | apply below_drew1 | refine below_set ?_ GE391.out) | exact HB.out))) : w.heap.size ≤ gb397)); have n6_ := Aside0.mk ((by rw [hg]; exact (below_size (by repeat (first | (with_reducible first | exact HB.out | apply below_alloc | apply pw_below_drewN | apply below_drew1 | refine below_set ?_ GE391.out) | exact HB.out))) : w.heap.size ≤ gb397)); have n7_ := Aside0.mk ((by rw [hg]; exact Nat.ne_of_lt (blk_lt (g := gb391) (o := .cells #[.int .i64 ((rd_T25 x3_1 x116_3).f0), .string ((rd_T25 x3_1 x116_3).f1), .bool ((rd_T25 x3_1 x116_3).f2)] 25 (0, 0)) (by (with_reducible repeat (first | refine blk_drewN ?_ _ | refine blk_drew ?_ | refine blk_alloc ?_ _)); exact BK391.out)) : gb391 ≠ gb397)); have n8_ := Aside0.mk ((by rw [hg]; exact Nat.ne_of_gt (blk_lt (g := gb391) (o := .cells #[.int .i64 ((rd_T25 x3_1 x116_3).f0), .string ((rd_T25 x3_1 x116_3).f1), .bool ((rd_T25 x3_1 x116_3).f2)] 25 (0, 0)) (by (with_reducible repeat (first | refine blk_drewN ?_ _ | refine blk_drew ?_ | refine blk_alloc ?_ _)); exact BK391.out)) : gb397 ≠ gb391)); clear HO_3; clear HO_114; clear BK391; clear HB; have HO_3 := n0_; have HO_114 := n1_; have BK391 := n2_; have HB := n3_; have BK397 := n4_; have GW397 := n5_; have GE397 := n6_; have NB391_397 := n7_; have NB397_391 := n8_; clear n0_ n1_ n2_ n3_ n4_ n5_ n6_ n7_ n8_; clear hb hbox hg; have hnb108 := NB397_391.out; have hnc108 := NB391_397.out; have hcz109_0 : w107.cell? ⟨gb397, 0, none⟩ = some (.int .i64 0) := (blk_cell BK397.out 0).trans rfl; have hcz109_1 : w107.cell? ⟨gb397, 1, none⟩ = some (.string (⟨#[]⟩ : ByteArray)) := (blk_cell BK397.out 1).trans rfl; have hcz109_2 : w107.cell? ⟨gb397, 2, none⟩ = some (.bool false) := (blk_cell BK397.out 2).trans rfl; have hfz109_0 := blk_frozen BK397.out 0; have hfz109_1 := blk_frozen BK397.out 1; have hfz109_2 := blk_frozen BK397.out 2; have hcz110_0 : w107.cell? ⟨gb391, 0, none⟩ = some (.int .i64 ((rd_T25 x3_1 x116_3).f0)) := (blk_cell BK391.out 0).trans rfl; have hcz110_1 : w107.cell? ⟨gb391, 1, none⟩ = some (.string ((rd_T25 x3_1 x116_3).f1)) := (blk_cell BK391.out 1).trans rfl; have hcz110_2 : w107.cell? ⟨gb391, 2, none⟩ = some (.bool ((rd_T25 x3_1 x116_3).f2)) := (blk_cell BK391.out 2).trans rfl; have hfz110_0 := blk_frozen BK391.out 0; have hfz110_1 := blk_frozen BK391.out 1; have hfz110_2 := blk_frozen BK391.out 2))
                              repeat (go_quiet (first | ((with_reducible refine gate_dst (N := 16) rfl ?_); refine box_event ?hg (N := 16) ?hd (cs := #[.int .i64 0, .string (⟨#[]⟩ : ByteArray), .bool false]) (t := 25) ?hr ?_; (case hd => rfl); (case hg => rfl); (case hr => first | (go_simp; done) | (go_simp; rfl)); intro gb391 hg w104 hbox hb; have n0_ := Aside0.mk (Kd.R_below (Kd.R_elderB (by (with_reducible repeat (first | apply Kd.R_alloc | apply Kd.R_drewN | apply Kd.R_drew)); exact HO_3.out) gb391 (Nat.le_of_eq hg.symm)) hb); have n1_ := Aside0.mk (Kd.R_below (Kd.R_elderB (by (with_reducible repeat (first | apply Kd.R_alloc | apply Kd.R_drewN | apply Kd.R_drew)); exact HO_114.out) gb391 (Nat.le_of_eq hg.symm)) hb); have n2_ := Aside0.mk (below_step (by repeat (first | (with_reducible first | exact HB.out | apply below_alloc | apply pw_below_drewN | apply below_drew1) | exact HB.out)) hb); have n3_ := Aside0.mk (hbox); have n4_ := Aside0.mk ((by rw [hg]; exact (below_size (by repeat (first | (with_reducible first | exact HB.out | apply below_alloc | apply pw_below_drewN | apply below_drew1) | exact HB.out))) : w.heap.size ≤ gb391)); have n5_ := Aside0.mk ((by rw [hg]; exact (below_size (by repeat (first | (with_reducible first | exact HB.out | apply below_alloc | apply pw_below_drewN | apply below_drew1) | exact HB.out))) : w.heap.size ≤ gb391)); clear HO_3; clear HO_114; clear HB; have HO_3 := n0_; have HO_114 := n1_; have HB := n2_; have BK391 := n3_; have GW391 := n4_; have GE391 := n5_; clear n0_ n1_ n2_ n3_ n4_ n5_; clear hb hbox hg; have hcz105_0 : w104.cell? ⟨gb391, 0, none⟩ = some (.int .i64 0) := (blk_cell BK391.out 0).trans rfl; have hcz105_1 : w104.cell? ⟨gb391, 1, none⟩ = some (.string (⟨#[]⟩ : ByteArray)) := (blk_cell BK391.out 1).trans rfl; have hcz105_2 : w104.cell? ⟨gb391, 2, none⟩ = some (.bool false) := (blk_cell BK391.out 2).trans rfl; have hfz105_0 := blk_frozen BK391.out 0; have hfz105_1 := blk_frozen BK391.out 1; have hfz105_2 := blk_frozen BK391.out 2) | (go_at_call 9; (with_reducible refine (chain_At.calls k3 _ _ x3_1 ((rd_T25 x3_1 x116_3).f0) t392 t393 t394 true t396 _ ?side1 ?side2 A93.out).mono ?_); (case side1 => refine (Kd.R_reads' (e := 25) (base := w.heap.size) (ok := fun k_ => (True ∧ k_ ≠ gb391)) (n := x3_1.length) (c := co89) ?_).2.2; exact (by (with_reducible repeat (first | apply Kd.R_alloc | apply Kd.R_drewN | apply Kd.R_drew)); exact (Kd.R_mono (Kd.R_far (p := ⟨gb391, 2, none⟩) (Kd.R_far (p := ⟨gb391, 1, none⟩) (Kd.R_far (p := ⟨gb391, 0, none⟩) (Kd.R_mono HO_3.out (fun k_ hk => (⟨hk, hk.2⟩ : _ ∧ k_ ≠ gb391))) (fun _ hk => hk.2) (.int .i64 ((rd_T25 x3_1 x116_3).f0))) (fun _ hk => hk.2) (.string ((rd_T25 x3_1 x116_3).f1))) (fun _ hk => hk.2) (.bool ((rd_T25 x3_1 x116_3).f2))) (fun _ h_ => h_.1)))); (case side2 => exact (Kd.R_reads' HO_3.out).2.1); rintro e w106 ⟨rfl, hb⟩; have n0_ := Aside0.mk (Kd.R_below (by (with_reducible repeat (first | apply Kd.R_alloc | apply Kd.R_drewN | apply Kd.R_drew)); exact (Kd.R_mono (Kd.R_far (p := ⟨gb391, 2, none⟩) (Kd.R_far (p := ⟨gb391, 1, none⟩) (Kd.R_far (p := ⟨gb391, 0, none⟩) (Kd.R_mono HO_3.out (fun k_ hk => (⟨hk, hk.2⟩ : _ ∧ k_ ≠ gb391))) (fun _ hk => hk.2) (.int .i64 ((rd_T25 x3_1 x116_3).f0))) (fun _ hk => hk.2) (.string ((rd_T25 x3_1 x116_3).f1))) (fun _ hk => hk.2) (.bool ((rd_T25 x3_1 x116_3).f2))) (fun _ h_ => h_.1))) hb); have n1_ := Aside0.mk (Kd.R_below (by (with_reducible repeat (first | apply Kd.R_alloc | apply Kd.R_drewN | apply Kd.R_drew)); exact (Kd.R_mono (Kd.R_far (p := ⟨gb391, 2, none⟩) (Kd.R_far (p := ⟨gb391, 1, none⟩) (Kd.R_far (p := ⟨gb391, 0, none⟩) (Kd.R_mono HO_114.out (fun k_ hk => (⟨hk, hk.2⟩ : _ ∧ k_ ≠ gb391))) (fun _ hk => hk.2) (.int .i64 ((rd_T25 x3_1 x116_3).f0))) (fun _ hk => hk.2) (.string ((rd_T25 x3_1 x116_3).f1))) (fun _ hk => hk.2) (.bool ((rd_T25 x3_1 x116_3).f2))) (fun _ h_ => h_.1))) hb); have n2_ := Aside0.mk (blk_below (g := gb391) (o := .cells #[.int .i64 ((rd_T25 x3_1 x116_3).f0), .string ((rd_T25 x3_1 x116_3).f1), .bool ((rd_T25 x3_1 x116_3).f2)] 25 (0, 0)) (by (with_reducible repeat (first | refine blk_drewN ?_ _ | refine blk_drew ?_ | refine blk_alloc ?_ _)); refine blk_put (cs := #[.int .i64 ((rd_T25 x3_1 x116_3).f0), .string ((rd_T25 x3_1 x116_3).f1), .bool false]) ?_ 2 _ rfl; (with_reducible repeat (first | refine blk_drewN ?_ _ | refine blk_drew ?_ | refine blk_alloc ?_ _)); refine blk_put (cs := #[.int .i64 ((rd_T25 x3_1 x116_3).f0), .string (⟨#[]⟩ : ByteArray), .bool false]) ?_ 1 _ rfl; (with_reducible repeat (first | refine blk_drewN ?_ _ | refine blk_drew ?_ | refine blk_alloc ?_ _)); refine blk_put (cs := #[.int .i64 0, .string (⟨#[]⟩ : ByteArray), .bool false]) ?_ 0 _ rfl; (with_reducible repeat (first | refine blk_drewN ?_ _ | refine blk_drew ?_ | refine blk_alloc ?_ _)); exact BK391.out) hb); have n3_ := Aside0.mk (below_step (by repeat (first | (with_reducible first | exact HB.out | apply below_alloc | apply pw_below_drewN | apply below_drew1 | refine below_set ?_ GE391.out) | exact HB.out)) hb); clear HO_3; clear HO_114; clear BK391; clear HB; have HO_3 := n0_; have HO_114 := n1_; have BK391 := n2_; have HB := n3_; clear n0_ n1_ n2_ n3_; (try clear hb); (try clear hb2); (try clear hk); (try clear hi)) | ((with_reducible refine gate_dst (N := 17) rfl ?_); refine box_event ?hg (N := 17) ?hd (cs := #[.int .i64 0, .string (⟨#[]⟩ : ByteArray), .bool false]) (t := 25) ?hr ?_; (case hd => rfl); (case hg => rfl); (case hr => first | (go_simp; done) | (go_simp; rfl)); intro gb397 hg w107 hbox hb; have n0_ := Aside0.mk (Kd.R_below (Kd.R_elderB (by (with_reducible repeat (first | apply Kd.R_alloc | apply Kd.R_drewN | apply Kd.R_drew)); exact HO_3.out) gb397 (Nat.le_of_eq hg.symm)) hb); have n1_ := Aside0.mk (Kd.R_below (Kd.R_elderB (by (with_reducible repeat (first | apply Kd.R_alloc | apply Kd.R_drewN | apply Kd.R_drew)); exact HO_114.out) gb397 (Nat.le_of_eq hg.symm)) hb); have n2_ := Aside0.mk (blk_below (g := gb391) (o := .cells #[.int .i64 ((rd_T25 x3_1 x116_3).f0), .string ((rd_T25 x3_1 x116_3).f1), .bool ((rd_T25 x3_1 x116_3).f2)] 25 (0, 0)) (by (with_reducible repeat (first | refine blk_drewN ?_ _ | refine blk_drew ?_ | refine blk_alloc ?_ _)); exact BK391.out) hb); have n3_ := Aside0.mk (below_step (by repeat (first | (with_reducible first | exact HB.out | apply below_alloc | apply pw_below_drewN | apply below_drew1 | refine below_set ?_ GE391.out) | exact HB.out)) hb); have n4_ := Aside0.mk (hbox); have n5_ := Aside0.mk ((by rw [hg]; exact (below_size (by repeat (first | (with_reducible first | exact HB.out | apply below_alloc | apply pw_below_drewN | apply below_drew1 | refine below_set ?_ GE391.out) | exact HB.out))) : w.heap.size ≤ gb397)); have n6_ := Aside0.mk ((by rw [hg]; exact (below_size (by repeat (first | (with_reducible first | exact HB.out | apply below_alloc | apply pw_below_drewN | apply below_drew1 | refine below_set ?_ GE391.out) | exact HB.out))) : w.heap.size ≤ gb397)); have n7_ := Aside0.mk ((by rw [hg]; exact Nat.ne_of_lt (blk_lt (g := gb391) (o := .cells #[.int .i64 ((rd_T25 x3_1 x116_3).f0), .string ((rd_T25 x3_1 x116_3).f1), .bool ((rd_T25 x3_1 x116_3).f2)] 25 (0, 0)) (by (with_reducible repeat (first | refine blk_drewN ?_ _ | refine blk_drew ?_ | refine blk_alloc ?_ _)); exact BK391.out)) : gb391 ≠ gb397)); have n8_ := Aside0.mk ((by rw [hg]; exact Nat.ne_of_gt (blk_lt (g := gb391) (o := .cells #[.int .i64 ((rd_T25 x3_1 x116_3).f0), .string ((rd_T25 x3_1 x116_3).f1), .bool ((rd_T25 x3_1 x116_3).f2)] 25 (0, 0)) (by (with_reducible repeat (first | refine blk_drewN ?_ _ | refine blk_drew ?_ | refine blk_alloc ?_ _)); exact BK391.out)) : gb397 ≠ gb391)); clear HO_3; clear HO_114; clear BK391; clear HB; have HO_3 := n0_; have HO_114 := n1_; have BK391 := n2_; have HB := n3_; have BK397 := n4_; have GW397 := n5_; have GE397 := n6_; have NB391_397 := n7_; have NB397_391 := n8_; clear n0_ n1_ n2_ n3_ n4_ n5_ n6_ n7_ n8_; clear hb hbox hg; have hnb108 := NB397_391.out; have hnc108 := NB391_397.out; have hcz109_0 : w107.cell? ⟨gb397, 0, none⟩ = some (.int .i64 0) := (blk_cell BK397.out 0).trans rfl; have hcz109_1 : w107.cell? ⟨gb397, 1, none⟩ = some (.string (⟨#[]⟩ : ByteArray)) := (blk_cell BK397.out 1).trans rfl; have hcz109_2 : w107.cell? ⟨gb397, 2, none⟩ = some (.bool false) := (blk_cell BK397.out 2).trans rfl; have hfz109_0 := blk_frozen BK397.out 0; have hfz109_1 := blk_frozen BK397.out 1; have hfz109_2 := blk_frozen BK397.out 2; have hcz110_0 : w107.cell? ⟨gb391, 0, none⟩ = some (.int .i64 ((rd_T25 x3_1 x116_3).f0)) := (blk_cell BK391.out 0).trans rfl; have hcz110_1 : w107.cell? ⟨gb391, 1, none⟩ = some (.string ((rd_T25 x3_1 x116_3).f1)) := (blk_cell BK391.out 1).trans rfl; have hcz110_2 : w107.cell? ⟨gb391, 2, none⟩ = some (.bool ((rd_T25 x3_1 x116_3).f2)) := (blk_cell BK391.out 2).trans rfl; have hfz110_0 := blk_frozen BK391.out 0; have hfz110_1 := blk_frozen BK391.out 1; have hfz110_2 := blk_frozen BK391.out 2)); try go_wp2_with (first | ((with_reducible refine gate_dst (N := 16) rfl ?_); refine box_event ?hg (N := 16) ?hd (cs := #[.int .i64 0, .string (⟨#[]⟩ : ByteArray), .bool false]) (t := 25) ?hr ?_; (case hd => rfl); (case hg => rfl); (case hr => first | (go_simp; done) | (go_simp; rfl)); intro gb391 hg w104 hbox hb; have n0_ := Aside0.mk (Kd.R_below (Kd.R_elderB (by (with_reducible repeat (first | apply Kd.R_alloc | apply Kd.R_drewN | apply Kd.R_drew)); exact HO_3.out) gb391 (Nat.le_of_eq hg.symm)) hb); have n1_ := Aside0.mk (Kd.R_below (Kd.R_elderB (by (with_reducible repeat (first | apply Kd.R_alloc | apply Kd.R_drewN | apply Kd.R_drew)); exact HO_114.out) gb391 (Nat.le_of_eq hg.symm)) hb); have n2_ := Aside0.mk (below_step (by repeat (first | (with_reducible first | exact HB.out | apply below_alloc | apply pw_below_drewN | apply below_drew1) | exact HB.out)) hb); have n3_ := Aside0.mk (hbox); have n4_ := Aside0.mk ((by rw [hg]; exact (below_size (by repeat (first | (with_reducible first | exact HB.out | apply below_alloc | apply pw_below_drewN | apply below_drew1) | exact HB.out))) : w.heap.size ≤ gb391)); have n5_ := Aside0.mk ((by rw [hg]; exact (below_size (by repeat (first | (with_reducible first | exact HB.out | apply below_alloc | apply pw_below_drewN | apply below_drew1) | exact HB.out))) : w.heap.size ≤ gb391)); clear HO_3; clear HO_114; clear HB; have HO_3 := n0_; have HO_114 := n1_; have HB := n2_; have BK391 := n3_; have GW391 := n4_; have GE391 := n5_; clear n0_ n1_ n2_ n3_ n4_ n5_; clear hb hbox hg; have hcz105_0 : w104.cell? ⟨gb391, 0, none⟩ = some (.int .i64 0) := (blk_cell BK391.out 0).trans rfl; have hcz105_1 : w104.cell? ⟨gb391, 1, none⟩ = some (.string (⟨#[]⟩ : ByteArray)) := (blk_cell BK391.out 1).trans rfl; have hcz105_2 : w104.cell? ⟨gb391, 2, none⟩ = some (.bool false) := (blk_cell BK391.out 2).trans rfl; have hfz105_0 := blk_frozen BK391.out 0; have hfz105_1 := blk_frozen BK391.out 1; have hfz105_2 := blk_frozen BK391.out 2) | (go_at_call 9; (with_reducible refine (chain_At.calls k3 _ _ x3_1 ((rd_T25 x3_1 x116_3).f0) t392 t393 t394 true t396 _ ?side1 ?side2 A93.out).mono ?_); (case side1 => refine (Kd.R_reads' (e := 25) (base := w.heap.size) (ok := fun k_ => (True ∧ k_ ≠ gb391)) (n := x3_1.length) (c := co89) ?_).2.2; exact (by (with_reducible repeat (first | apply Kd.R_alloc | apply Kd.R_drewN | apply Kd.R_drew)); exact (Kd.R_mono (Kd.R_far (p := ⟨gb391, 2, none⟩) (Kd.R_far (p := ⟨gb391, 1, none⟩) (Kd.R_far (p := ⟨gb391, 0, none⟩) (Kd.R_mono HO_3.out (fun k_ hk => (⟨hk, hk.2⟩ : _ ∧ k_ ≠ gb391))) (fun _ hk => hk.2) (.int .i64 ((rd_T25 x3_1 x116_3).f0))) (fun _ hk => hk.2) (.string ((rd_T25 x3_1 x116_3).f1))) (fun _ hk => hk.2) (.bool ((rd_T25 x3_1 x116_3).f2))) (fun _ h_ => h_.1)))); (case side2 => exact (Kd.R_reads' HO_3.out).2.1); rintro e w106 ⟨rfl, hb⟩; have n0_ := Aside0.mk (Kd.R_below (by (with_reducible repeat (first | apply Kd.R_alloc | apply Kd.R_drewN | apply Kd.R_drew)); exact (Kd.R_mono (Kd.R_far (p := ⟨gb391, 2, none⟩) (Kd.R_far (p := ⟨gb391, 1, none⟩) (Kd.R_far (p := ⟨gb391, 0, none⟩) (Kd.R_mono HO_3.out (fun k_ hk => (⟨hk, hk.2⟩ : _ ∧ k_ ≠ gb391))) (fun _ hk => hk.2) (.int .i64 ((rd_T25 x3_1 x116_3).f0))) (fun _ hk => hk.2) (.string ((rd_T25 x3_1 x116_3).f1))) (fun _ hk => hk.2) (.bool ((rd_T25 x3_1 x116_3).f2))) (fun _ h_ => h_.1))) hb); have n1_ := Aside0.mk (Kd.R_below (by (with_reducible repeat (first | apply Kd.R_alloc | apply Kd.R_drewN | apply Kd.R_drew)); exact (Kd.R_mono (Kd.R_far (p := ⟨gb391, 2, none⟩) (Kd.R_far (p := ⟨gb391, 1, none⟩) (Kd.R_far (p := ⟨gb391, 0, none⟩) (Kd.R_mono HO_114.out (fun k_ hk => (⟨hk, hk.2⟩ : _ ∧ k_ ≠ gb391))) (fun _ hk => hk.2) (.int .i64 ((rd_T25 x3_1 x116_3).f0))) (fun _ hk => hk.2) (.string ((rd_T25 x3_1 x116_3).f1))) (fun _ hk => hk.2) (.bool ((rd_T25 x3_1 x116_3).f2))) (fun _ h_ => h_.1))) hb); have n2_ := Aside0.mk (blk_below (g := gb391) (o := .cells #[.int .i64 ((rd_T25 x3_1 x116_3).f0), .string ((rd_T25 x3_1 x116_3).f1), .bool ((rd_T25 x3_1 x116_3).f2)] 25 (0, 0)) (by (with_reducible repeat (first | refine blk_drewN ?_ _ | refine blk_drew ?_ | refine blk_alloc ?_ _)); refine blk_put (cs := #[.int .i64 ((rd_T25 x3_1 x116_3).f0), .string ((rd_T25 x3_1 x116_3).f1), .bool false]) ?_ 2 _ rfl; (with_reducible repeat (first | refine blk_drewN ?_ _ | refine blk_drew ?_ | refine blk_alloc ?_ _)); refine blk_put (cs := #[.int .i64 ((rd_T25 x3_1 x116_3).f0), .string (⟨#[]⟩ : ByteArray), .bool false]) ?_ 1 _ rfl; (with_reducible repeat (first | refine blk_drewN ?_ _ | refine blk_drew ?_ | refine blk_alloc ?_ _)); refine blk_put (cs := #[.int .i64 0, .string (⟨#[]⟩ : ByteArray), .bool false]) ?_ 0 _ rfl; (with_reducible repeat (first | refine blk_drewN ?_ _ | refine blk_drew ?_ | refine blk_alloc ?_ _)); exact BK391.out) hb); have n3_ := Aside0.mk (below_step (by repeat (first | (with_reducible first | exact HB.out | apply below_alloc | apply pw_below_drewN | apply below_drew1 | refine below_set ?_ GE391.out) | exact HB.out)) hb); clear HO_3; clear HO_114; clear BK391; clear HB; have HO_3 := n0_; have HO_114 := n1_; have BK391 := n2_; have HB := n3_; clear n0_ n1_ n2_ n3_; (try clear hb); (try clear hb2); (try clear hk); (try clear hi)) | ((with_reducible refine gate_dst (N := 17) rfl ?_); refine box_event ?hg (N := 17) ?hd (cs := #[.int .i64 0, .string (⟨#[]⟩ : ByteArray), .bool false]) (t := 25) ?hr ?_; (case hd => rfl); (case hg => rfl); (case hr => first | (go_simp; done) | (go_simp; rfl)); intro gb397 hg w107 hbox hb; have n0_ := Aside0.mk (Kd.R_below (Kd.R_elderB (by (with_reducible repeat (first | apply Kd.R_alloc | apply Kd.R_drewN | apply Kd.R_drew)); exact HO_3.out) gb397 (Nat.le_of_eq hg.symm)) hb); have n1_ := Aside0.mk (Kd.R_below (Kd.R_elderB (by (with_reducible repeat (first | apply Kd.R_alloc | apply Kd.R_drewN | apply Kd.R_drew)); exact HO_114.out) gb397 (Nat.le_of_eq hg.symm)) hb); have n2_ := Aside0.mk (blk_below (g := gb391) (o := .cells #[.int .i64 ((rd_T25 x3_1 x116_3).f0), .string ((rd_T25 x3_1 x116_3).f1), .bool ((rd_T25 x3_1 x116_3).f2)] 25 (0, 0)) (by (with_reducible repeat (first | refine blk_drewN ?_ _ | refine blk_drew ?_ | refine blk_alloc ?_ _)); exact BK391.out) hb); have n3_ := Aside0.mk (below_step (by repeat (first | (with_reducible first | exact HB.out | apply below_alloc | apply pw_below_drewN | apply below_drew1 | refine below_set ?_ GE391.out) | exact HB.out)) hb); have n4_ := Aside0.mk (hbox); have n5_ := Aside0.mk ((by rw [hg]; exact (below_size (by repeat (first | (with_reducible first | exact HB.out | apply below_alloc | apply pw_below_drewN | apply below_drew1 | refine below_set ?_ GE391.out) | exact HB.out))) : w.heap.size ≤ gb397)); have n6_ := Aside0.mk ((by rw [hg]; exact (below_size (by repeat (first | (with_reducible first | exact HB.out | apply below_alloc | apply pw_below_drewN | apply below_drew1 | refine below_set ?_ GE391.out) | exact HB.out))) : w.heap.size ≤ gb397)); have n7_ := Aside0.mk ((by rw [hg]; exact Nat.ne_of_lt (blk_lt (g := gb391) (o := .cells #[.int .i64 ((rd_T25 x3_1 x116_3).f0), .string ((rd_T25 x3_1 x116_3).f1), .bool ((rd_T25 x3_1 x116_3).f2)] 25 (0, 0)) (by (with_reducible repeat (first | refine blk_drewN ?_ _ | refine blk_drew ?_ | refine blk_alloc ?_ _)); exact BK391.out)) : gb391 ≠ gb397)); have n8_ := Aside0.mk ((by rw [hg]; exact Nat.ne_of_gt (blk_lt (g := gb391) (o := .cells #[.int .i64 ((rd_T25 x3_1 x116_3).f0), .string ((rd_T25 x3_1 x116_3).f1), .bool ((rd_T25 x3_1 x116_3).f2)] 25 (0, 0)) (by (with_reducible repeat (first | refine blk_drewN ?_ _ | refine blk_drew ?_ | refine blk_alloc ?_ _)); exact BK391.out)) : gb397 ≠ gb391)); clear HO_3; clear HO_114; clear BK391; clear HB; have HO_3 := n0_; have HO_114 := n1_; have BK391 := n2_; have HB := n3_; have BK397 := n4_; have GW397 := n5_; have GE397 := n6_; have NB391_397 := n7_; have NB397_391 := n8_; clear n0_ n1_ n2_ n3_ n4_ n5_ n6_ n7_ n8_; clear hb hbox hg; have hnb108 := NB397_391.out; have hnc108 := NB391_397.out; have hcz109_0 : w107.cell? ⟨gb397, 0, none⟩ = some (.int .i64 0) := (blk_cell BK397.out 0).trans rfl; have hcz109_1 : w107.cell? ⟨gb397, 1, none⟩ = some (.string (⟨#[]⟩ : ByteArray)) := (blk_cell BK397.out 1).trans rfl; have hcz109_2 : w107.cell? ⟨gb397, 2, none⟩ = some (.bool false) := (blk_cell BK397.out 2).trans rfl; have hfz109_0 := blk_frozen BK397.out 0; have hfz109_1 := blk_frozen BK397.out 1; have hfz109_2 := blk_frozen BK397.out 2; have hcz110_0 : w107.cell? ⟨gb391, 0, none⟩ = some (.int .i64 ((rd_T25 x3_1 x116_3).f0)) := (blk_cell BK391.out 0).trans rfl; have hcz110_1 : w107.cell? ⟨gb391, 1, none⟩ = some (.string ((rd_T25 x3_1 x116_3).f1)) := (blk_cell BK391.out 1).trans rfl; have hcz110_2 : w107.cell? ⟨gb391, 2, none⟩ = some (.bool ((rd_T25 x3_1 x116_3).f2)) := (blk_cell BK391.out 2).trans rfl; have hfz110_0 := blk_frozen BK391.out 0; have hfz110_1 := blk_frozen BK391.out 1; have hfz110_2 := blk_frozen BK391.out 2)))
                              go_roundg k3
                              case measure => have := HK1.out; have := HJ4.out; have := HK3.out; omega
                              case rel => exact ⟨(wrap64 (x116_3 + 1)), (by first | rfl | (simp; done) | (simp [*]; done) | (simp [bne_nil_]; done)), H', ⟨by have := HK1.out; have := HJ4.out; have := HK3.out; omega⟩, ⟨by (with_reducible repeat (first | apply Kd.R_alloc | apply Kd.R_drewN | apply Kd.R_drew)); exact Kd.R_mono (Kd.R_far (p := ⟨gb397, 2, none⟩) (Kd.R_far (p := ⟨gb397, 1, none⟩) (Kd.R_far (p := ⟨gb397, 0, none⟩) (Kd.R_mono HO_3.out (fun k_ hk => (⟨hk, hk.2⟩ : _ ∧ k_ ≠ gb397))) (fun _ hk => hk.2) (.int .i64 t392)) (fun _ hk => hk.2) (.string t393)) (fun _ hk => hk.2) (.bool t394)) (fun _ hk => trivial)⟩, ⟨by (with_reducible repeat (first | apply Kd.R_alloc | apply Kd.R_drewN | apply Kd.R_drew)); exact Kd.R_mono (Kd.R_far (p := ⟨gb397, 2, none⟩) (Kd.R_far (p := ⟨gb397, 1, none⟩) (Kd.R_far (p := ⟨gb397, 0, none⟩) (Kd.R_mono HO_114.out (fun k_ hk => (⟨hk, hk.2⟩ : _ ∧ k_ ≠ gb397))) (fun _ hk => hk.2) (.int .i64 t392)) (fun _ hk => hk.2) (.string t393)) (fun _ hk => hk.2) (.bool t394)) (fun _ hk => trivial)⟩, ⟨by repeat (first | (with_reducible first | exact HB.out | apply below_alloc | apply pw_below_drewN | apply below_drew1 | refine below_set ?_ GE391.out | refine below_set ?_ GE397.out) | exact HB.out)⟩⟩
                          · replace c95 := Bool.eq_false_iff.mpr c95
                            subst c95
                            have H1 : (some false) = some r := by rw [if_neg (show ¬ (false = true) by decide)] at H; exact H
                            clear H
                            have H := H1
                            clear H1
                            exact absurd (H.trans (congrArg some HRT.out)) (by simp)
                        · rw [if_neg c94] at H
                          have c94b0 : (t396 == 0) = false := beq_eq_false_iff_ne.mpr c94
                          have c94b1 : (t396 != 0) = true := bne_iff_ne.mpr c94
                          exact absurd (H.trans (congrArg some HRT.out)) (by simp)
                      · rw [if_neg c92] at H
                        exact absurd H (by simp)
                    · rw [if_neg c91] at H
                      exact absurd H (by simp)
                  · rw [if_neg c90] at H
                    have c90b0 : decide (x116_3 < (x3_1.length : Int)) = false := decide_eq_false c90
                    clear c90
                    replace H := Option.bind_eq_some_iff.mp H
                    obtain ⟨⟨t398, t399, t400, t401, t402⟩, A1230, H⟩ := H
                    replace H : (if t402 = 0 then (some (!t401)) else (some false)) = some r := H
                    have A123 := Aside0.mk A1230
                    clear A1230
                    by_cases c124 : t402 = 0
                    · rw [if_pos c124] at H
                      have c124b0 : (t402 == 0) = true := beq_iff_eq.mpr c124
                      have c124b1 : (t402 != 0) = false := bne_eq_false_iff_eq.mpr c124
                      clear c124
                      obtain rfl := Option.some.inj H
                      go_wp2_with (first | (go_at_call 9; (with_reducible refine (chain_At.calls k3 _ _ x3_1 0 t398 t399 t400 t401 t402 _ ?side1 ?side2 A123.out).mono ?_); (case side1 => repeat (first | exact (Kd.R_reads' HO_3.out).2.2 | (with_reducible refine Kd.C_alloc ?_ _) | (with_reducible refine Kd.C_drewN ?_ _) | (with_reducible refine Kd.C_drew ?_))); (case side2 => exact (Kd.R_reads' HO_3.out).2.1); rintro e w125 ⟨rfl, hb⟩; have n0_ := Aside0.mk (Kd.R_below (by (with_reducible repeat (first | apply Kd.R_alloc | apply Kd.R_drewN | apply Kd.R_drew)); exact HO_3.out) hb); have n1_ := Aside0.mk (Kd.R_below (by (with_reducible repeat (first | apply Kd.R_alloc | apply Kd.R_drewN | apply Kd.R_drew)); exact HO_114.out) hb); have n2_ := Aside0.mk (below_step (by repeat (first | (with_reducible first | exact HB.out | apply below_alloc | apply pw_below_drewN | apply below_drew1) | exact HB.out)) hb); clear HO_3; clear HO_114; clear HB; have HO_3 := n0_; have HO_114 := n1_; have HB := n2_; clear n0_ n1_ n2_; (try clear hb); (try clear hb2); (try clear hk); (try clear hi)) | ((with_reducible refine gate_dst (N := 20) rfl ?_); refine box_event ?hg (N := 20) ?hd (cs := #[.int .i64 0, .string (⟨#[]⟩ : ByteArray), .bool false]) (t := 25) ?hr ?_; (case hd => rfl); (case hg => rfl); (case hr => first | (go_simp; done) | (go_simp; rfl)); intro gb403 hg w126 hbox hb; have n0_ := Aside0.mk (Kd.R_below (Kd.R_elderB (by (with_reducible repeat (first | apply Kd.R_alloc | apply Kd.R_drewN | apply Kd.R_drew)); exact HO_3.out) gb403 (Nat.le_of_eq hg.symm)) hb); have n1_ := Aside0.mk (Kd.R_below (Kd.R_elderB (by (with_reducible repeat (first | apply Kd.R_alloc | apply Kd.R_drewN | apply Kd.R_drew)); exact HO_114.out) gb403 (Nat.le_of_eq hg.symm)) hb); have n2_ := Aside0.mk (below_step (by repeat (first | (with_reducible first | exact HB.out | apply below_alloc | apply pw_below_drewN | apply below_drew1) | exact HB.out)) hb); have n3_ := Aside0.mk (hbox); have n4_ := Aside0.mk ((by rw [hg]; exact (below_size (by repeat (first | (with_reducible first | exact HB.out | apply below_alloc | apply pw_below_drewN | apply below_drew1) | exact HB.out))) : w.heap.size ≤ gb403)); have n5_ := Aside0.mk ((by rw [hg]; exact (below_size (by repeat (first | (with_reducible first | exact HB.out | apply below_alloc | apply pw_below_drewN | apply below_drew1) | exact HB.out))) : w.heap.size ≤ gb403)); clear HO_3; clear HO_114; clear HB; have HO_3 := n0_; have HO_114 := n1_; have HB := n2_; have BK403 := n3_; have GW403 := n4_; have GE403 := n5_; clear n0_ n1_ n2_ n3_ n4_ n5_; clear hb hbox hg; have hcz127_0 : w126.cell? ⟨gb403, 0, none⟩ = some (.int .i64 0) := (blk_cell BK403.out 0).trans rfl; have hcz127_1 : w126.cell? ⟨gb403, 1, none⟩ = some (.string (⟨#[]⟩ : ByteArray)) := (blk_cell BK403.out 1).trans rfl; have hcz127_2 : w126.cell? ⟨gb403, 2, none⟩ = some (.bool false) := (blk_cell BK403.out 2).trans rfl; have hfz127_0 := blk_frozen BK403.out 0; have hfz127_1 := blk_frozen BK403.out 1; have hfz127_2 := blk_frozen BK403.out 2))
                      repeat (go_quiet (first | (go_at_call 9; (with_reducible refine (chain_At.calls k3 _ _ x3_1 0 t398 t399 t400 t401 t402 _ ?side1 ?side2 A123.out).mono ?_); (case side1 => repeat (first | exact (Kd.R_reads' HO_3.out).2.2 | (with_reducible refine Kd.C_alloc ?_ _) | (with_reducible refine Kd.C_drewN ?_ _) | (with_reducible refine Kd.C_drew ?_))); (case side2 => exact (Kd.R_reads' HO_3.out).2.1); rintro e w125 ⟨rfl, hb⟩; have n0_ := Aside0.mk (Kd.R_below (by (with_reducible repeat (first | apply Kd.R_alloc | apply Kd.R_drewN | apply Kd.R_drew)); exact HO_3.out) hb); have n1_ := Aside0.mk (Kd.R_below (by (with_reducible repeat (first | apply Kd.R_alloc | apply Kd.R_drewN | apply Kd.R_drew)); exact HO_114.out) hb); have n2_ := Aside0.mk (below_step (by repeat (first | (with_reducible first | exact HB.out | apply below_alloc | apply pw_below_drewN | apply below_drew1) | exact HB.out)) hb); clear HO_3; clear HO_114; clear HB; have HO_3 := n0_; have HO_114 := n1_; have HB := n2_; clear n0_ n1_ n2_; (try clear hb); (try clear hb2); (try clear hk); (try clear hi)) | ((with_reducible refine gate_dst (N := 20) rfl ?_); refine box_event ?hg (N := 20) ?hd (cs := #[.int .i64 0, .string (⟨#[]⟩ : ByteArray), .bool false]) (t := 25) ?hr ?_; (case hd => rfl); (case hg => rfl); (case hr => first | (go_simp; done) | (go_simp; rfl)); intro gb403 hg w126 hbox hb; have n0_ := Aside0.mk (Kd.R_below (Kd.R_elderB (by (with_reducible repeat (first | apply Kd.R_alloc | apply Kd.R_drewN | apply Kd.R_drew)); exact HO_3.out) gb403 (Nat.le_of_eq hg.symm)) hb); have n1_ := Aside0.mk (Kd.R_below (Kd.R_elderB (by (with_reducible repeat (first | apply Kd.R_alloc | apply Kd.R_drewN | apply Kd.R_drew)); exact HO_114.out) gb403 (Nat.le_of_eq hg.symm)) hb); have n2_ := Aside0.mk (below_step (by repeat (first | (with_reducible first | exact HB.out | apply below_alloc | apply pw_below_drewN | apply below_drew1) | exact HB.out)) hb); have n3_ := Aside0.mk (hbox); have n4_ := Aside0.mk ((by rw [hg]; exact (below_size (by repeat (first | (with_reducible first | exact HB.out | apply below_alloc | apply pw_below_drewN | apply below_drew1) | exact HB.out))) : w.heap.size ≤ gb403)); have n5_ := Aside0.mk ((by rw [hg]; exact (below_size (by repeat (first | (with_reducible first | exact HB.out | apply below_alloc | apply pw_below_drewN | apply below_drew1) | exact HB.out))) : w.heap.size ≤ gb403)); clear HO_3; clear HO_114; clear HB; have HO_3 := n0_; have HO_114 := n1_; have HB := n2_; have BK403 := n3_; have GW403 := n4_; have GE403 := n5_; clear n0_ n1_ n2_ n3_ n4_ n5_; clear hb hbox hg; have hcz127_0 : w126.cell? ⟨gb403, 0, none⟩ = some (.int .i64 0) := (blk_cell BK403.out 0).trans rfl; have hcz127_1 : w126.cell? ⟨gb403, 1, none⟩ = some (.string (⟨#[]⟩ : ByteArray)) := (blk_cell BK403.out 1).trans rfl; have hcz127_2 : w126.cell? ⟨gb403, 2, none⟩ = some (.bool false) := (blk_cell BK403.out 2).trans rfl; have hfz127_0 := blk_frozen BK403.out 0; have hfz127_1 := blk_frozen BK403.out 1; have hfz127_2 := blk_frozen BK403.out 2)); try go_wp2_with (first | (go_at_call 9; (with_reducible refine (chain_At.calls k3 _ _ x3_1 0 t398 t399 t400 t401 t402 _ ?side1 ?side2 A123.out).mono ?_); (case side1 => repeat (first | exact (Kd.R_reads' HO_3.out).2.2 | (with_reducible refine Kd.C_alloc ?_ _) | (with_reducible refine Kd.C_drewN ?_ _) | (with_reducible refine Kd.C_drew ?_))); (case side2 => exact (Kd.R_reads' HO_3.out).2.1); rintro e w125 ⟨rfl, hb⟩; have n0_ := Aside0.mk (Kd.R_below (by (with_reducible repeat (first | apply Kd.R_alloc | apply Kd.R_drewN | apply Kd.R_drew)); exact HO_3.out) hb); have n1_ := Aside0.mk (Kd.R_below (by (with_reducible repeat (first | apply Kd.R_alloc | apply Kd.R_drewN | apply Kd.R_drew)); exact HO_114.out) hb); have n2_ := Aside0.mk (below_step (by repeat (first | (with_reducible first | exact HB.out | apply below_alloc | apply pw_below_drewN | apply below_drew1) | exact HB.out)) hb); clear HO_3; clear HO_114; clear HB; have HO_3 := n0_; have HO_114 := n1_; have HB := n2_; clear n0_ n1_ n2_; (try clear hb); (try clear hb2); (try clear hk); (try clear hi)) | ((with_reducible refine gate_dst (N := 20) rfl ?_); refine box_event ?hg (N := 20) ?hd (cs := #[.int .i64 0, .string (⟨#[]⟩ : ByteArray), .bool false]) (t := 25) ?hr ?_; (case hd => rfl); (case hg => rfl); (case hr => first | (go_simp; done) | (go_simp; rfl)); intro gb403 hg w126 hbox hb; have n0_ := Aside0.mk (Kd.R_below (Kd.R_elderB (by (with_reducible repeat (first | apply Kd.R_alloc | apply Kd.R_drewN | apply Kd.R_drew)); exact HO_3.out) gb403 (Nat.le_of_eq hg.symm)) hb); have n1_ := Aside0.mk (Kd.R_below (Kd.R_elderB (by (with_reducible repeat (first | apply Kd.R_alloc | apply Kd.R_drewN | apply Kd.R_drew)); exact HO_114.out) gb403 (Nat.le_of_eq hg.symm)) hb); have n2_ := Aside0.mk (below_step (by repeat (first | (with_reducible first | exact HB.out | apply below_alloc | apply pw_below_drewN | apply below_drew1) | exact HB.out)) hb); have n3_ := Aside0.mk (hbox); have n4_ := Aside0.mk ((by rw [hg]; exact (below_size (by repeat (first | (with_reducible first | exact HB.out | apply below_alloc | apply pw_below_drewN | apply below_drew1) | exact HB.out))) : w.heap.size ≤ gb403)); have n5_ := Aside0.mk ((by rw [hg]; exact (below_size (by repeat (first | (with_reducible first | exact HB.out | apply below_alloc | apply pw_below_drewN | apply below_drew1) | exact HB.out))) : w.heap.size ≤ gb403)); clear HO_3; clear HO_114; clear HB; have HO_3 := n0_; have HO_114 := n1_; have HB := n2_; have BK403 := n3_; have GW403 := n4_; have GE403 := n5_; clear n0_ n1_ n2_ n3_ n4_ n5_; clear hb hbox hg; have hcz127_0 : w126.cell? ⟨gb403, 0, none⟩ = some (.int .i64 0) := (blk_cell BK403.out 0).trans rfl; have hcz127_1 : w126.cell? ⟨gb403, 1, none⟩ = some (.string (⟨#[]⟩ : ByteArray)) := (blk_cell BK403.out 1).trans rfl; have hcz127_2 : w126.cell? ⟨gb403, 2, none⟩ = some (.bool false) := (blk_cell BK403.out 2).trans rfl; have hfz127_0 := blk_frozen BK403.out 0; have hfz127_1 := blk_frozen BK403.out 1; have hfz127_2 := blk_frozen BK403.out 2)))
                      go_ret
                      exact ⟨by first | rfl | (simp [errW_none, errW_some] <;> rfl) | (simp [*, errW_none, errW_some] <;> rfl), by repeat (first | (with_reducible first | exact HB.out | apply below_alloc | apply pw_below_drewN | apply below_drew1 | refine below_set ?_ GE403.out) | exact HB.out)⟩
                    · rw [if_neg c124] at H
                      have c124b0 : (t402 == 0) = false := beq_eq_false_iff_ne.mpr c124
                      have c124b1 : (t402 != 0) = true := bne_iff_ne.mpr c124
                      exact absurd (H.trans (congrArg some HRT.out)) (by simp)
  · replace c3 := Bool.eq_false_iff.mpr c3
    subst c3
    have H1 : (some false) = some r := by rw [if_neg (show ¬ (false = true) by decide)] at H; exact H
    clear H
    have H := H1
    clear H1
    exact absurd (H.trans (congrArg some HRT.out)) (by simp)

end Go.Proofs.Ytpkccaoeglbcfaa.Al
