/- What the laws stand on, in one text: functions of the program by their contracts, and the plain mathematics behind them (20 of them). -/
import Derived.Test.YtjjgpleaidledaaPka
import Derived.Deep.RegionHeld3
import Derived.Deep.RegionLaw
import Derived.Test.YtjjgpleaidledaaWWords
import Derived.Test.YtjjgpleaidledaaRows
import Derived.ChangeArms
import Derived.ChangeShapes
import Derived.SizedLaws

/- One function of the program comes to what its plain twin says. This text began as the kit's own print (print.py, made by cprint.sh) and was turned by split.py: it is no printed file. -/
namespace Go.Proofs.Ytjjgpleaidledaa.Al
open Go.RowKit Go.Proofs.YtjjgpleaidledaaW.PrintWords Go.Proofs.YtjjgpleaidledaaW.PrintLast Go.Proofs.YtjjgpleaidledaaW.PrintMore
attribute [local go_sem] max2_int min2_int max_two min_two max_three min_three max_four min_four   -- for this text's walks alone
set_option linter.unusedVariables false
set_option linter.unusedSimpArgs false

/-! ### corncribref06_read: function 34 -/
def corncribref06_read.l0 : Nat → ByteArray → Int → Int → Int → Option (Int × Int × Int)
  | 0, _, _, _, _ => none
  | k + 1, x0, x1, x7, x8 => if x8 < 9 then (if (wrap64 (x1 + x8)) ≥ (x0.size : Int) then (some (0, (x0.size : Int), 50)) else (if 0 ≤ (wrap64 (x1 + x8)) then (if (wrap64 (x1 + x8)) < (x0.size : Int) then (if 0 ≤ (wrap64 (7 * x8)) then (if (wrap64 (bt x0 (wrap64 (x1 + x8)))) < 128 then (if (wrap64 (bt x0 (wrap64 (x1 + x8)))) = 0 then (if x8 > 0 then (some (0, x1, 3)) else (some (wrap64 (x7 + (shl .i64 (Int.tmod (wrap64 (bt x0 (wrap64 (x1 + x8)))) 128) (wrap64 (7 * x8)))), wrap64 ((wrap64 (x1 + x8)) + 1), 0))) else (some (wrap64 (x7 + (shl .i64 (Int.tmod (wrap64 (bt x0 (wrap64 (x1 + x8)))) 128) (wrap64 (7 * x8)))), wrap64 ((wrap64 (x1 + x8)) + 1), 0))) else (corncribref06_read.l0 k x0 x1 (wrap64 (x7 + (shl .i64 (Int.tmod (wrap64 (bt x0 (wrap64 (x1 + x8)))) 128) (wrap64 (7 * x8))))) (wrap64 (x8 + 1)))) else (none)) else (none)) else (none))) else (some (0, x1, 3))
def corncribref06_read.f (k : Nat) (a0 : ByteArray) (a1 : Int) : Option (Int × Int × Int) := corncribref06_read.l0 k a0 a1 0 0
theorem corncribref06_read.mono_l : ∀ k, (∀ y0 y1 y2 y3, LeO (corncribref06_read.l0 k y0 y1 y2 y3) (corncribref06_read.l0 (k + 1) y0 y1 y2 y3))
  | 0 => fun _ _ _ _ r h => by simp [corncribref06_read.l0] at h
  | k + 1 => by
    have ih0 := corncribref06_read.mono_l k
    · intro y0 y1 y2 y3
      unfold corncribref06_read.l0
      repeat' first
      | (with_reducible exact ih0 _ _ _ _)
      | (with_reducible exact LeO.refl _)
      | (with_reducible exact LeO.none _)
      | (with_reducible refine LeO.ite ?_ ?_)
      | (with_reducible refine LeO.bind ?_ (fun _ => ?_))
      | exact ih0 _ _ _ _
      | exact LeO.none _
      | refine LeO.ite ?_ ?_
      | refine LeO.bind ?_ (fun _ => ?_)
theorem corncribref06_read.mono : ∀ a0 a1 k, LeO (corncribref06_read.f k a0 a1) (corncribref06_read.f (k + 1) a0 a1) := by
  intro a0 a1 k
  have ih0 := corncribref06_read.mono_l k
  unfold corncribref06_read.f
  repeat' first
      | (with_reducible exact ih0 _ _ _ _)
      | (with_reducible exact LeO.refl _)
      | (with_reducible exact LeO.none _)
      | (with_reducible refine LeO.ite ?_ ?_)
      | (with_reducible refine LeO.bind ?_ (fun _ => ?_))
      | exact ih0 _ _ _ _
      | exact LeO.none _
      | refine LeO.ite ?_ ?_
      | refine LeO.bind ?_ (fun _ => ?_)
set_option maxHeartbeats 8000000 in
set_option maxRecDepth 100000 in
theorem corncribref06_read.calls (k : Nat) (a0 : ByteArray) (a1 : Int) (r1 : Int) (r2 : Int) (r3 : Int) (w : World) (h : corncribref06_read.f k a0 a1 = some (r1, r2, r3)) :
    Calls Try.prog 34 #[.string a0, .int .i64 a1] w fun e w' => e = .returned (.tuple #[.int .i64 r1, .int .i64 r2, .int .i64 r3]) ∧ Drawn0 w w' := by
  have H : (corncribref06_read.l0 k a0 a1 0 0) = some (r1, r2, r3) := h
  clear h
  have H' := Aside0.mk H
  clear H
  go_enter Try.func34, Try.ntmps34
  go_wp2
  go_loopg [7, 8] k (fun kq v7 v8 w' => ∃ (x7_1 : Int) (x8_1 : Int), v7 = .int .i64 x7_1 ∧ v8 = .int .i64 x8_1 ∧ Aside0 (corncribref06_read.l0 kq a0 a1 x7_1 x8_1 = some (r1, r2, r3)) ∧ Aside0 (kq ≤ k) ∧ Drawn0 w w')
  case atStart => exact ⟨(0), (0), (by first | rfl | (simp; done) | (simp [*]; done)), (by first | rfl | (simp; done) | (simp [*]; done)), H', ⟨Nat.le_refl _⟩, by repeat (first | exact Drawn0.refl _ | apply Drawn0.step)⟩
  case round =>
    clear H'
    try clear p2
    obtain ⟨x7_1, x8_1, rfl, rfl, HA, HK1, ⟨m1, rfl⟩⟩ := hrel
    cases gk with
    | zero => exact absurd HA.out (by simp [corncribref06_read.l0])
    | succ k1 =>
      have H := HA.out
      clear HA
      simp only [corncribref06_read.l0] at H
      by_cases c3 : x8_1 < 9
      · rw [if_pos c3] at H
        have c3b0 : decide (x8_1 < 9) = true := decide_eq_true c3
        clear c3
        by_cases c4 : (wrap64 (a1 + x8_1)) ≥ (a0.size : Int)
        · rw [if_pos c4] at H
          have c4b0 : decide ((a0.size : Int) ≤ (wrap64 (a1 + x8_1))) = true := decide_eq_true c4
          clear c4
          simp only [Option.some.injEq, Prod.mk.injEq] at H
          obtain ⟨rfl, rfl, rfl⟩ := H
          go_wp2
          go_ret3
          exact ⟨by first | rfl | (simp; done) | (simp [*]; done), by repeat (first | exact Drawn0.refl _ | apply Drawn0.step)⟩
        · rw [if_neg c4] at H
          have c4b0 : decide ((a0.size : Int) ≤ (wrap64 (a1 + x8_1))) = false := decide_eq_false c4
          clear c4
          obtain ⟨ji5, hji5⟩ : ∃ j_ : Int, (wrap64 (a1 + x8_1)) = j_ := ⟨_, rfl⟩
          replace H : (if 0 ≤ (ji5) then (if (ji5) < (a0.size : Int) then (if 0 ≤ (wrap64 (7 * x8_1)) then (if (wrap64 (bt a0 (ji5))) < 128 then (if (wrap64 (bt a0 (ji5))) = 0 then (if x8_1 > 0 then (some (0, a1, 3)) else (some (wrap64 (x7_1 + (shl .i64 (Int.tmod (wrap64 (bt a0 (ji5))) 128) (wrap64 (7 * x8_1)))), wrap64 ((ji5) + 1), 0))) else (some (wrap64 (x7_1 + (shl .i64 (Int.tmod (wrap64 (bt a0 (ji5))) 128) (wrap64 (7 * x8_1)))), wrap64 ((ji5) + 1), 0))) else (corncribref06_read.l0 k1 a0 a1 (wrap64 (x7_1 + (shl .i64 (Int.tmod (wrap64 (bt a0 (ji5))) 128) (wrap64 (7 * x8_1))))) (wrap64 (x8_1 + 1)))) else (none)) else (none)) else (none)) = some (r1, r2, r3) := by first | (rw [hji5] at H; exact H) | (simp only [hji5] at H ⊢; exact H)
          (try rw [hji5] at c4b0)
          have hji5w : (IntKind.i64.wrap (a1 + x8_1)) = ji5 := (i64_w _).trans hji5
          by_cases c6 : 0 ≤ (ji5)
          · rw [if_pos c6] at H
            have c6b0 : decide (0 ≤ (ji5)) = true := decide_eq_true c6
            clear c6
            by_cases c7 : (ji5) < (a0.size : Int)
            · rw [if_pos c7] at H
              have c7b0 : decide ((ji5) < (a0.size : Int)) = true := decide_eq_true c7
              clear c7
              obtain ⟨ji9, hji9⟩ : ∃ j_ : Int, (wrap64 (7 * x8_1)) = j_ := ⟨_, rfl⟩
              replace H : (if 0 ≤ (ji9) then (if (wrap64 (bt a0 (ji5))) < 128 then (if (wrap64 (bt a0 (ji5))) = 0 then (if x8_1 > 0 then (some (0, a1, 3)) else (some (wrap64 (x7_1 + (shl .i64 (Int.tmod (wrap64 (bt a0 (ji5))) 128) (ji9))), wrap64 ((ji5) + 1), 0))) else (some (wrap64 (x7_1 + (shl .i64 (Int.tmod (wrap64 (bt a0 (ji5))) 128) (ji9))), wrap64 ((ji5) + 1), 0))) else (corncribref06_read.l0 k1 a0 a1 (wrap64 (x7_1 + (shl .i64 (Int.tmod (wrap64 (bt a0 (ji5))) 128) (ji9)))) (wrap64 (x8_1 + 1)))) else (none)) = some (r1, r2, r3) := by first | (rw [hji9] at H; exact H) | (simp only [hji9] at H ⊢; exact H)
              have hji9w : (IntKind.i64.wrap (7 * x8_1)) = ji9 := (i64_w _).trans hji9
              by_cases c10 : 0 ≤ (ji9)
              · rw [if_pos c10] at H
                have c10b0 := eq_true c10
                have c10b1 : decide (0 ≤ (ji9)) = true := decide_eq_true c10
                clear c10
                obtain ⟨ji11, hji11⟩ : ∃ j_ : Int, (shl .i64 (Int.tmod (wrap64 (bt a0 (ji5))) 128) (ji9)) = j_ := ⟨_, rfl⟩
                replace H : (if (wrap64 (bt a0 (ji5))) < 128 then (if (wrap64 (bt a0 (ji5))) = 0 then (if x8_1 > 0 then (some (0, a1, 3)) else (some (wrap64 (x7_1 + (ji11)), wrap64 ((ji5) + 1), 0))) else (some (wrap64 (x7_1 + (ji11)), wrap64 ((ji5) + 1), 0))) else (corncribref06_read.l0 k1 a0 a1 (wrap64 (x7_1 + (ji11))) (wrap64 (x8_1 + 1)))) = some (r1, r2, r3) := by first | (rw [hji11] at H; exact H) | (simp only [hji11] at H ⊢; exact H)
                have hji11_ : (IntKind.i64.wrap ((Int.tmod (wrap64 (bt a0 (ji5))) 128) * 2 ^ min (ji9).toNat 64)) = ji11 := hji11
                have hji11z : (ji9) ≤ 64 → (IntKind.i64.wrap ((Int.tmod (wrap64 (bt a0 (ji5))) 128) * 2 ^ (ji9).toNat)) = ji11 := shl_small hji11
                have hji11y : (wrap64 ((Int.tmod (wrap64 (bt a0 (ji5))) 128) * 2 ^ min (ji9).toNat 64)) = ji11 := (i64_w _).symm.trans hji11_
                have hji11x : (ji9) ≤ 64 → (wrap64 ((Int.tmod (wrap64 (bt a0 (ji5))) 128) * 2 ^ (ji9).toNat)) = ji11 := fun h_ => (i64_w _).symm.trans (hji11z h_)
                by_cases c12 : (wrap64 (bt a0 (ji5))) < 128
                · rw [if_pos c12] at H
                  have c12b0 : decide ((wrap64 (bt a0 (ji5))) < 128) = true := decide_eq_true c12
                  clear c12
                  by_cases c13 : (wrap64 (bt a0 (ji5))) = 0
                  · rw [if_pos c13] at H
                    have c13b0 : ((wrap64 (bt a0 (ji5))) == 0) = true := beq_iff_eq.mpr c13
                    have c13b1 : ((wrap64 (bt a0 (ji5))) != 0) = false := bne_eq_false_iff_eq.mpr c13
                    clear c13
                    by_cases c14 : x8_1 > 0
                    · rw [if_pos c14] at H
                      have c14b0 : decide (0 < x8_1) = true := decide_eq_true c14
                      clear c14
                      simp only [Option.some.injEq, Prod.mk.injEq] at H
                      obtain ⟨rfl, rfl, rfl⟩ := H
                      have p8 : 0 ≤ ((ji5) : Int) := of_decide_eq_true (by first | (with_reducible assumption) | assumption)
                      have q8 : (ji5) < (a0.size : Int) := of_decide_eq_true (by first | (with_reducible assumption) | assumption)
                      have hx8 := bt_at a0 (ji5)
                      replace p8 := eq_true p8
                      replace q8 := eq_true q8
                      go_wp2
                      go_ret3
                      exact ⟨by first | rfl | (simp; done) | (simp only [← hji5, ← hji9, ← hji11] <;> (first | rfl | simp)) | (simp [*]; done), by repeat (first | exact Drawn0.refl _ | apply Drawn0.step)⟩
                    · rw [if_neg c14] at H
                      have c14b0 : decide (0 < x8_1) = false := decide_eq_false c14
                      clear c14
                      simp only [Option.some.injEq, Prod.mk.injEq] at H
                      obtain ⟨rfl, rfl, rfl⟩ := H
                      have p8 : 0 ≤ ((ji5) : Int) := of_decide_eq_true (by first | (with_reducible assumption) | assumption)
                      have q8 : (ji5) < (a0.size : Int) := of_decide_eq_true (by first | (with_reducible assumption) | assumption)
                      have hx8 := bt_at a0 (ji5)
                      replace p8 := eq_true p8
                      replace q8 := eq_true q8
                      go_wp2
                      go_ret3
                      exact ⟨by first | rfl | (simp; done) | (simp only [← hji5, ← hji9, ← hji11] <;> (first | rfl | simp)) | (simp [*]; done), by repeat (first | exact Drawn0.refl _ | apply Drawn0.step)⟩
                  · rw [if_neg c13] at H
                    have c13b0 : ((wrap64 (bt a0 (ji5))) == 0) = false := beq_eq_false_iff_ne.mpr c13
                    have c13b1 : ((wrap64 (bt a0 (ji5))) != 0) = true := bne_iff_ne.mpr c13
                    simp only [Option.some.injEq, Prod.mk.injEq] at H
                    obtain ⟨rfl, rfl, rfl⟩ := H
                    have p8 : 0 ≤ ((ji5) : Int) := of_decide_eq_true (by first | (with_reducible assumption) | assumption)
                    have q8 : (ji5) < (a0.size : Int) := of_decide_eq_true (by first | (with_reducible assumption) | assumption)
                    have hx8 := bt_at a0 (ji5)
                    replace p8 := eq_true p8
                    replace q8 := eq_true q8
                    go_wp2
                    go_ret3
                    exact ⟨by first | rfl | (simp; done) | (simp only [← hji5, ← hji9, ← hji11] <;> (first | rfl | simp)) | (simp [*]; done), by repeat (first | exact Drawn0.refl _ | apply Drawn0.step)⟩
                · rw [if_neg c12] at H
                  have c12b0 : decide ((wrap64 (bt a0 (ji5))) < 128) = false := decide_eq_false c12
                  clear c12
                  have H' := Aside0.mk H
                  clear H
                  have p8 : 0 ≤ ((ji5) : Int) := of_decide_eq_true (by first | (with_reducible assumption) | assumption)
                  have q8 : (ji5) < (a0.size : Int) := of_decide_eq_true (by first | (with_reducible assumption) | assumption)
                  have hx8 := bt_at a0 (ji5)
                  replace p8 := eq_true p8
                  replace q8 := eq_true q8
                  go_wp2
                  go_roundg k1
                  case measure => have := HK1.out; omega
                  case rel => exact ⟨(wrap64 (x7_1 + (ji11))), (wrap64 (x8_1 + 1)), (by first | rfl | (simp; done) | (simp only [← hji11] <;> (first | rfl | simp)) | (simp [*]; done)), (by first | rfl | (simp; done) | (simp [*]; done)), H', ⟨by have := HK1.out; omega⟩, by repeat (first | exact Drawn0.refl _ | apply Drawn0.step)⟩
              · rw [if_neg c10] at H
                exact absurd H (by simp)
            · rw [if_neg c7] at H
              exact absurd H (by simp)
          · rw [if_neg c6] at H
            exact absurd H (by simp)
      · rw [if_neg c3] at H
        have c3b0 : decide (x8_1 < 9) = false := decide_eq_false c3
        clear c3
        simp only [Option.some.injEq, Prod.mk.injEq] at H
        obtain ⟨rfl, rfl, rfl⟩ := H
        go_wp2
        go_ret3
        exact ⟨by first | rfl | (simp; done) | (simp [*]; done), by repeat (first | exact Drawn0.refl _ | apply Drawn0.step)⟩

end Go.Proofs.Ytjjgpleaidledaa.Al

/- One function of the program comes to what its plain twin says. This text began as the kit's own print (print.py, made by cprint.sh) and was turned by split.py: it is no printed file. -/
namespace Go.Proofs.Ytjjgpleaidledaa.Al
open Go.RowKit Go.Proofs.YtjjgpleaidledaaW.PrintWords Go.Proofs.YtjjgpleaidledaaW.PrintLast Go.Proofs.YtjjgpleaidledaaW.PrintMore
attribute [local go_sem] max2_int min2_int max_two min_two max_three min_three max_four min_four   -- for this text's walks alone
set_option linter.unusedVariables false
set_option linter.unusedSimpArgs false

/-! ### corncribref06_count: function 33 -/
def corncribref06_count.f (k : Nat) (a0 : ByteArray) (a1 : Int) (a2 : Int) : Option (Int × Int × Int) := (corncribref06_read.f k a0 a1).bind fun bt271 => (if bt271.2.2 = 0 then (if bt271.1 > a2 then (some (0, a1, 2)) else (some (bt271.1, bt271.2.1, bt271.2.2))) else (some (bt271.1, bt271.2.1, bt271.2.2)))
theorem corncribref06_count.mono : ∀ a0 a1 a2 k, LeO (corncribref06_count.f k a0 a1 a2) (corncribref06_count.f (k + 1) a0 a1 a2) := by
  intro a0 a1 a2 k
  unfold corncribref06_count.f
  repeat' first
      | (with_reducible exact corncribref06_read.mono _ _ _)
      | (with_reducible exact LeO.refl _)
      | (with_reducible exact LeO.none _)
      | (with_reducible refine LeO.ite ?_ ?_)
      | (with_reducible refine LeO.bind ?_ (fun _ => ?_))
      | exact corncribref06_read.mono _ _ _
      | exact LeO.none _
      | refine LeO.ite ?_ ?_
      | refine LeO.bind ?_ (fun _ => ?_)
set_option maxHeartbeats 8000000 in
set_option maxRecDepth 100000 in
theorem corncribref06_count.calls (k : Nat) (a0 : ByteArray) (a1 : Int) (a2 : Int) (r1 : Int) (r2 : Int) (r3 : Int) (w : World) (h : corncribref06_count.f k a0 a1 a2 = some (r1, r2, r3)) :
    Calls Try.prog 33 #[.string a0, .int .i64 a1, .int .i64 a2] w fun e w' => e = .returned (.tuple #[.int .i64 r1, .int .i64 r2, .int .i64 r3]) ∧ Drawn0 w w' := by
  have H : ((corncribref06_read.f k a0 a1).bind fun bt271 => (if bt271.2.2 = 0 then (if bt271.1 > a2 then (some (0, a1, 2)) else (some (bt271.1, bt271.2.1, bt271.2.2))) else (some (bt271.1, bt271.2.1, bt271.2.2)))) = some (r1, r2, r3) := h
  clear h
  replace H := Option.bind_eq_some_iff.mp H
  obtain ⟨⟨t271, t272, t273⟩, A40, H⟩ := H
  replace H : (if t273 = 0 then (if t271 > a2 then (some (0, a1, 2)) else (some (t271, t272, t273))) else (some (t271, t272, t273))) = some (r1, r2, r3) := H
  have A4 := Aside0.mk A40
  clear A40
  by_cases c5 : t273 = 0
  · rw [if_pos c5] at H
    have c5b0 : (t273 == 0) = true := beq_iff_eq.mpr c5
    have c5b1 : (t273 != 0) = false := bne_eq_false_iff_eq.mpr c5
    clear c5
    by_cases c6 : t271 > a2
    · rw [if_pos c6] at H
      have c6b0 : decide (a2 < t271) = true := decide_eq_true c6
      clear c6
      simp only [Option.some.injEq, Prod.mk.injEq] at H
      obtain ⟨rfl, rfl, rfl⟩ := H
      go_enter Try.func33, Try.ntmps33
      go_wp2_with (first | ((with_reducible refine gate_callee (f := 34) rfl ?_); refine goesL_ (some 15) rfl rfl Try.func34 (by kernel_rfl) rfl #[.string a0, .int .i64 a1] rfl (by (try simp only [List.map_toArray, List.map_cons, List.map_nil]); first | done | rfl | (simp only [List.length_drop, List.length_take]; rfl)) ?_; (with_reducible refine (corncribref06_read.calls k a0 a1 t271 t272 t273 _ A4.out).mono ?_); rintro e w' ⟨rfl, ⟨nd, rfl⟩⟩; refine ⟨_, rfl, ?_⟩))
      go_ret3
      exact ⟨by first | rfl | (simp; done) | (simp [*]; done), by repeat (first | exact Drawn0.refl _ | apply Drawn0.step)⟩
    · rw [if_neg c6] at H
      have c6b0 : decide (a2 < t271) = false := decide_eq_false c6
      clear c6
      simp only [Option.some.injEq, Prod.mk.injEq] at H
      obtain ⟨rfl, rfl, rfl⟩ := H
      go_enter Try.func33, Try.ntmps33
      go_wp2_with (first | ((with_reducible refine gate_callee (f := 34) rfl ?_); refine goesL_ (some 15) rfl rfl Try.func34 (by kernel_rfl) rfl #[.string a0, .int .i64 a1] rfl (by (try simp only [List.map_toArray, List.map_cons, List.map_nil]); first | done | rfl | (simp only [List.length_drop, List.length_take]; rfl)) ?_; (with_reducible refine (corncribref06_read.calls k a0 a1 t271 t272 t273 _ A4.out).mono ?_); rintro e w' ⟨rfl, ⟨nd, rfl⟩⟩; refine ⟨_, rfl, ?_⟩))
      go_ret3
      exact ⟨by first | rfl | (simp; done) | (simp [*]; done), by repeat (first | exact Drawn0.refl _ | apply Drawn0.step)⟩
  · rw [if_neg c5] at H
    have c5b0 : (t273 == 0) = false := beq_eq_false_iff_ne.mpr c5
    have c5b1 : (t273 != 0) = true := bne_iff_ne.mpr c5
    simp only [Option.some.injEq, Prod.mk.injEq] at H
    obtain ⟨rfl, rfl, rfl⟩ := H
    go_enter Try.func33, Try.ntmps33
    go_wp2_with (first | ((with_reducible refine gate_callee (f := 34) rfl ?_); refine goesL_ (some 15) rfl rfl Try.func34 (by kernel_rfl) rfl #[.string a0, .int .i64 a1] rfl (by (try simp only [List.map_toArray, List.map_cons, List.map_nil]); first | done | rfl | (simp only [List.length_drop, List.length_take]; rfl)) ?_; (with_reducible refine (corncribref06_read.calls k a0 a1 t271 t272 t273 _ A4.out).mono ?_); rintro e w' ⟨rfl, ⟨nd, rfl⟩⟩; refine ⟨_, rfl, ?_⟩))
    go_ret3
    exact ⟨by first | rfl | (simp; done) | (simp [*]; done), by repeat (first | exact Drawn0.refl _ | apply Drawn0.step)⟩

end Go.Proofs.Ytjjgpleaidledaa.Al

/- What reader.number, reader.text, the reference's read and count compute: the numbers and texts of PackDec. -/
namespace Go.Proofs.Ytjjgpleaidledaa.PackDec
open Go.RowKit Go.Proofs.Ytjjgpleaidledaa.Base Go.Proofs.Ytjjgpleaidledaa.PackMath Go.Proofs.Ytjjgpleaidledaa.Al Go.Proofs.YtjjgpleaidledaaW.PrintWords Go.Proofs.YtjjgpleaidledaaW.PrintLast Go.Proofs.YtjjgpleaidledaaW.PrintMore
theorem Ev.succ {α : Type} {g : Nat → Option α} {r : α} (h : Ev (fun k => g (k + 1)) r) : Ev g r := Ev.step (fun _ => rfl) h
theorem rest_end {s : ByteArray} {p : Nat} (h : s.size ≤ p) : rest s p = [] := List.drop_of_length_le (by rw [bytesOf_length]; exact h)
theorem rest_at {s : ByteArray} {p : Nat} (h : p < s.size) : rest s p = bt s p :: rest s (p + 1) := by
  unfold rest
  have hl : p < (bytesOf s).length := by rw [bytesOf_length]; exact h
  rw [List.drop_eq_getElem_cons hl]
  congr 1
  rw [← rd_bytesOf]
  simp [rd, List.getD_eq_getElem?_getD, hl]
theorem ofInt_u64 (a : Nat) (ha : a < 18446744073709551616) : (BitVec.ofInt 64 (a : Int)).toNat = a := by
  rw [BitVec.ofInt_natCast, BitVec.toNat_ofNat]; exact Nat.mod_eq_of_lt (by omega)
theorem or_u64_nat (a b : Nat) (ha : a < 9223372036854775808) (hb : b < 9223372036854775808) : Go.bits .or .u64 (a : Int) (b : Int) = ((a ||| b : Nat) : Int) := by
  have hx : a ||| b < 2 ^ 63 := Nat.or_lt_two_pow (by omega) (by omega)
  show IntKind.u64.wrap ((BitVec.ofInt 64 (a : Int) ||| BitVec.ofInt 64 (b : Int)).toNat : Int) = _
  rw [BitVec.toNat_or, ofInt_u64 a (by omega), ofInt_u64 b (by omega), IntKind.wrap_u64]
  omega
theorem pow7 : ∀ i : Nat, i < 9 → 2 ^ (7 * i) ≤ 72057594037927936 := by
  intro i hi
  have : 2 ^ (7 * i) ≤ 2 ^ 56 := Nat.pow_le_pow_right (by omega) (by omega)
  omega
/-- Seven bits more, as the program lays them. -/
theorem lay_u64 (n x i : Nat) (hi : i < 9) (hn : n < 2 ^ (7 * i)) (hx : x < 128) : Go.bits .or .u64 (n : Int) (shl .u64 (IntKind.u64.wrap (x : Int)) (wrap64 (7 * (i : Int)))) = ((n + x * 2 ^ (7 * i) : Nat) : Int) := by
  have hp := pow7 i hi
  have h0 : 0 < 2 ^ (7 * i) := Nat.two_pow_pos _
  have e1 : IntKind.u64.wrap (x : Int) = (x : Int) := by rw [IntKind.wrap_u64]; omega
  have e2 : wrap64 (7 * (i : Int)) = ((7 * i : Nat) : Int) := by rw [wrap_id (by omega) (by omega)]; omega
  have hb : x * 2 ^ (7 * i) < 9223372036854775808 := by
    have : x * 2 ^ (7 * i) ≤ 127 * 2 ^ (7 * i) := Nat.mul_le_mul_right _ (by omega)
    omega
  have e3 : shl .u64 (x : Int) ((7 * i : Nat) : Int) = ((x * 2 ^ (7 * i) : Nat) : Int) := by
    unfold shl
    rw [Int.toNat_natCast, show min (7 * i) IntKind.u64.bits = 7 * i from Nat.min_eq_left (by show 7 * i ≤ 64; omega), IntKind.wrap_u64]
    have : ((x : Int) * 2 ^ (7 * i)) = ((x * 2 ^ (7 * i) : Nat) : Int) := by simp
    rw [this]
    omega
  rw [e1, e2, e3, or_u64_nat _ _ (by omega) hb]
  congr 1
  rw [Nat.or_comm, Nat.mul_comm, ← Nat.two_pow_add_eq_or_of_lt hn, Nat.add_comm]
theorem lay_i64 (n x i : Nat) (hi : i < 9) (hn : n < 2 ^ (7 * i)) (hx : x < 128) : wrap64 ((n : Int) + (shl .i64 (x : Int) (wrap64 (7 * (i : Int))))) = ((n + x * 2 ^ (7 * i) : Nat) : Int) := by
  have hp := pow7 i hi
  have e2 : wrap64 (7 * (i : Int)) = ((7 * i : Nat) : Int) := by rw [wrap_id (by omega) (by omega)]; omega
  have hb : x * 2 ^ (7 * i) ≤ 127 * 2 ^ (7 * i) := Nat.mul_le_mul_right _ (by omega)
  have e3 : shl .i64 (x : Int) ((7 * i : Nat) : Int) = ((x * 2 ^ (7 * i) : Nat) : Int) := by
    unfold shl
    rw [Int.toNat_natCast, show min (7 * i) IntKind.i64.bits = 7 * i from Nat.min_eq_left (by show 7 * i ≤ 64; omega), IntKind.wrap_i64]
    have : ((x : Int) * 2 ^ (7 * i)) = ((x * 2 ^ (7 * i) : Nat) : Int) := by simp
    rw [this]
    omega
  rw [e2, e3, wrap_id (by omega) (by omega)]
  omega
theorem next_small (n x i : Nat) (hn : n < 2 ^ (7 * i)) (hx : x < 128) : n + x * 2 ^ (7 * i) < 2 ^ (7 * (i + 1)) := by
  rw [pow_next]
  have : x * 2 ^ (7 * i) ≤ 127 * 2 ^ (7 * i) := Nat.mul_le_mul_right _ (by omega)
  omega
/-- What number hands back of what was read. -/
def fin (s : ByteArray) (p : Nat) (most : Int) (r : Nat × Nat × Int) : Int × ByteArray × Int × Int :=
  if r.2.2 = 0 then (if (r.1 : Int) > most then (0, s, p, 2) else (r.1, s, ((p + r.2.1 : Nat) : Int), 0)) else if r.2.2 = 50 then (0, s, s.size, 50) else (0, s, p, 3)
theorem num_l0 (s : ByteArray) (p : Nat) (most : Int) (hs : s.size ≤ 140737488355328) : ∀ (d i n : Nat), i + d = 9 → n < 2 ^ (7 * i) → p + i ≤ s.size → Ev (fun k => pack_reader_number.l0 k most p n i s p 0) (fin s p most (pn d i n (rest s (p + i))))
  | 0, i, n, h, hn, hp => by
    refine Ev.succ ?_
    simp only [pack_reader_number.l0]
    refine Ev.neg (by omega) ?_
    simp only [pack_reader_fail.f, Option.bind_some, pn, fin]
    exact Ev.now _
  | d + 1, i, n, h, hn, hp => by
    have e0 : wrap64 ((p : Int) + (i : Int)) = ((p + i : Nat) : Int) := by rw [wrap_id (by omega) (by omega)]; omega
    refine Ev.succ ?_
    simp only [pack_reader_number.l0]
    rw [e0]
    refine Ev.pos (by omega) (Ev.pos trivial ?_)
    by_cases hend : p + i = s.size
    · refine Ev.pos (by omega) ?_
      rw [rest_end (by omega)]
      simp only [pack_reader_fail.f, Option.bind_some, pn, fin]
      exact Ev.now _
    · refine Ev.neg (by omega) (Ev.pos (by omega) (Ev.pos (by omega) (Ev.pos (by rw [wrap_id (by omega) (by omega)]; omega) ?_)))
      rw [rest_at (by omega)]
      have hbr := bt_range s ((p + i : Nat) : Int)
      generalize bt s ((p + i : Nat) : Int) = b at hbr ⊢
      have em : Int.tmod b 128 = (((b % 128).toNat : Nat) : Int) := by rw [Int.tmod_eq_emod_of_nonneg (by omega)]; omega
      have hx : (b % 128).toNat < 128 := by omega
      rw [em, lay_u64 n _ i (by omega) hn hx]
      have hsm := next_small n _ i hn hx
      have hbd : n + (b % 128).toNat * 2 ^ (7 * i) < 9223372036854775808 := by
        have : 2 ^ (7 * (i + 1)) ≤ 2 ^ 63 := Nat.pow_le_pow_right (by omega) (by omega)
        omega
      by_cases hb : b < 128
      · have epn : pn (d + 1) i n (b :: rest s (p + i + 1)) = if b = 0 ∧ 0 < i then (0, 0, 3) else (n + (b % 128).toNat * 2 ^ (7 * i), i + 1, 0) := by
          show (if b < 128 then _ else _) = _
          rw [if_pos hb]
        rw [epn]
        refine Ev.neg (by omega) ?_
        have last : ∀ c : Bool, c = decide (b = 0 ∧ 0 < i) → Ev (fun k => pack_reader_number.j1 k most p ((n + (b % 128).toNat * 2 ^ (7 * i) : Nat) : Int) i c s p 0) (fin s p most (if b = 0 ∧ 0 < i then (0, 0, 3) else (n + (b % 128).toNat * 2 ^ (7 * i), i + 1, 0))) := by
          intro c hc
          refine Ev.succ ?_
          simp only [pack_reader_number.j1]
          by_cases hz : b = 0 ∧ 0 < i
          · rw [if_pos hz]
            refine Ev.pos (by rw [hc]; simpa using hz) ?_
            simp only [pack_reader_fail.f, Option.bind_some, fin]
            exact Ev.now _
          · rw [if_neg hz]
            refine Ev.neg (by rw [hc]; simpa using hz) ?_
            have efin : fin s p most (n + (b % 128).toNat * 2 ^ (7 * i), i + 1, 0) = if ((n + (b % 128).toNat * 2 ^ (7 * i) : Nat) : Int) > most then (0, s, (p : Int), 2) else (((n + (b % 128).toNat * 2 ^ (7 * i) : Nat) : Int), s, ((p + (i + 1) : Nat) : Int), 0) := by
              unfold fin
              rw [if_pos rfl]
            by_cases hm : ((n + (b % 128).toNat * 2 ^ (7 * i) : Nat) : Int) > most
            · refine Ev.pos hm ?_
              rw [efin, if_pos hm]
              simp only [pack_reader_fail.f, Option.bind_some]
              exact Ev.now _
            · refine Ev.neg hm ?_
              rw [efin, if_neg hm]
              rw [e0, wrap_id (by omega) (by omega), show ((p + i : Nat) : Int) + 1 = ((p + (i + 1) : Nat) : Int) from by omega]
              exact Ev.now _
        by_cases hb0 : b = 0
        · refine Ev.pos hb0 (last _ ?_)
          simp [hb0]
        · refine Ev.neg hb0 (last _ ?_)
          simp [hb0]
      · have epn : pn (d + 1) i n (b :: rest s (p + i + 1)) = pn d (i + 1) (n + (b % 128).toNat * 2 ^ (7 * i)) (rest s (p + (i + 1))) := by
          show (if b < 128 then _ else _) = _
          rw [if_neg hb]
          rfl
        rw [epn]
        refine Ev.pos (by omega) ?_
        rw [show wrap64 ((i : Int) + 1) = ((i + 1 : Nat) : Int) from by rw [wrap_id (by omega) (by omega)]; omega]
        exact num_l0 s p most hs d (i + 1) _ (by omega) hsm (by omega)
theorem pn_errs : ∀ (d i n : Nat) (l : List Int), (pn d i n l).2.2 = 0 ∨ ((pn d i n l).2.2 = 50 ∧ (pn d i n l).1 = 0) ∨ ((pn d i n l).2.2 = 3 ∧ (pn d i n l).1 = 0)
  | 0, i, n, l => by simp [pn]
  | d + 1, i, n, [] => by simp [pn]
  | d + 1, i, n, b :: l => by
    have ih := pn_errs d (i + 1) (n + (b % 128).toNat * 2 ^ (7 * i)) l
    have e : pn (d + 1) i n (b :: l) = if b < 128 then (if b = 0 ∧ 0 < i then (0, 0, 3) else (n + (b % 128).toNat * 2 ^ (7 * i), i + 1, 0)) else pn d (i + 1) (n + (b % 128).toNat * 2 ^ (7 * i)) l := rfl
    rw [e]
    by_cases hb : b < 128
    · rw [if_pos hb]
      by_cases hz : b = 0 ∧ 0 < i
      · rw [if_pos hz]; simp
      · rw [if_neg hz]; simp
    · rw [if_neg hb]; exact ih
theorem fin_cnt (s : ByteArray) (p most : Nat) : fin s p most (pn 9 0 0 (rest s p)) = (((cnt s p most).1 : Int), s, ((cnt s p most).2.1 : Int), (cnt s p most).2.2) := by
  have he := pn_errs 9 0 0 (rest s p)
  unfold fin cnt rdn
  generalize pn 9 0 0 (rest s p) = r at he ⊢
  obtain ⟨v, k, e⟩ := r
  simp only at he ⊢
  rcases he with rfl | ⟨rfl, rfl⟩ | ⟨rfl, rfl⟩
  · simp only [if_true]
    by_cases hm : most < v
    · rw [if_pos (by omega), if_pos ⟨trivial, hm⟩]; rfl
    · rw [if_neg (by omega), if_neg (by simp [hm])]
  · simp
  · simp
theorem number_ev (s : ByteArray) (p most : Nat) (hs : s.size ≤ 140737488355328) (hp : p ≤ s.size) : Ev (fun k => pack_reader_number.f k s p 0 most) (((cnt s p most).1 : Int), s, ((cnt s p most).2.1 : Int), (cnt s p most).2.2) := by
  have h := num_l0 s p (most : Int) hs 9 0 0 rfl (by simp) hp
  rw [Nat.add_zero, fin_cnt] at h
  exact h
theorem cnt_all (s : ByteArray) (p : Nat) : cnt s p 9223372036854775807 = rdn s p := by
  unfold cnt
  by_cases h : (rdn s p).2.2 = 0
  · have := (rdn_ok h).1
    rw [if_neg (by omega)]
  · rw [if_neg (by simp [h])]
theorem number_bad (s : ByteArray) (p e most : Int) (he : e ≠ 0) : Ev (fun k => pack_reader_number.f k s p e most) (0, s, p, e) := by
  unfold pack_reader_number.f
  refine Ev.succ ?_
  simp only [pack_reader_number.l0]
  exact Ev.pos (by omega) (Ev.neg he (Ev.now _))
theorem cnt_zero {s : ByteArray} {p most : Nat} (h : (cnt s p most).2.2 ≠ 0) : (cnt s p most).1 = 0 := by
  have he := pn_errs 9 0 0 (rest s p)
  unfold cnt at h ⊢
  split
  · rfl
  · rename_i hc
    rw [if_neg hc] at h
    unfold rdn at h ⊢
    simp only at h ⊢
    rcases he with h0 | ⟨_, h1⟩ | ⟨_, h1⟩
    · exact absurd h0 h
    · exact h1
    · exact h1
theorem text_ev (s : ByteArray) (p : Nat) (hs : s.size ≤ 140737488355328) (hp : p ≤ s.size) : Ev (fun k => pack_reader_text.f k s p 0) ((txt s p).1, s, ((txt s p).2.1 : Int), (txt s p).2.2) := by
  have hn := number_ev s p 4096 hs hp
  have hle := cnt_le (most := 4096) hp
  have hz := cnt_zero (s := s) (p := p) (most := 4096)
  have hok := cnt_ok (s := s) (p := p) (most := 4096)
  unfold pack_reader_text.f txt
  refine Ev.bind hn ?_
  generalize cnt s p 4096 = c at hle hz hok ⊢
  obtain ⟨v, q, e⟩ := c
  simp only at hle hz hok ⊢
  by_cases he : e = 0
  · subst he
    have hv : v ≤ 4096 := by
      obtain ⟨e1, e2, e3⟩ := hok rfl
      rw [← e1] at e3
      exact e3
    rw [if_pos rfl]
    refine Ev.pos rfl (Ev.succ ?_)
    rw [wrap_id (n := (v : Int)) (by omega) (by omega), wrap_id (n := (s.size : Int) - (q : Int)) (by omega) (by omega)]
    simp only [pack_reader_text.j0]
    by_cases hl : s.size - q < v
    · rw [if_pos hl]
      refine Ev.pos (by simp; omega) ?_
      simp only [pack_reader_fail.f, Option.bind_some]
      exact Ev.neg (by omega) (Ev.now _)
    · rw [if_neg hl]
      refine Ev.neg (by simp; omega) ?_
      rw [wrap_id (n := (q : Int) + (v : Int)) (by omega) (by omega), wrap_id (n := (q : Int) + (v : Int) - (v : Int)) (by omega) (by omega)]
      refine Ev.pos trivial (Ev.pos (by omega) (Ev.pos (by omega) (Ev.pos (by omega) ?_)))
      rw [show ((q : Int) + (v : Int) - (v : Int)).toNat = q from by omega, show ((q : Int) + (v : Int)).toNat = q + v from by omega, show (q : Int) + (v : Int) = ((q + v : Nat) : Int) from by omega]
      exact Ev.now _
  · rw [if_neg he]
    refine Ev.neg he (Ev.succ ?_)
    simp only [pack_reader_text.j0]
    exact Ev.neg (by simp) (Ev.neg he (Ev.now _))
end Go.Proofs.Ytjjgpleaidledaa.PackDec

/- The stages of a pack's reading, and what the calls of number and text do to a reader and to what was read so far. -/
namespace Go.Proofs.Ytjjgpleaidledaa.PackDec
open Go.RowKit Go.Proofs.Ytjjgpleaidledaa.Base Go.Proofs.Ytjjgpleaidledaa.PackMath Go.Proofs.Ytjjgpleaidledaa.Al Go.Proofs.YtjjgpleaidledaaW.PrintWords Go.Proofs.YtjjgpleaidledaaW.PrintLast Go.Proofs.YtjjgpleaidledaaW.PrintMore
def st1 (s : ByteArray) : Nat × Nat × Int := cnt s 0 1024
def st2 (s : ByteArray) : List Int × Nat × Int := if (st1 s).2.2 = 0 then decN s (st1 s).1 (st1 s).2.1 [] else ([], (st1 s).2)
def st3 (s : ByteArray) : Nat × Nat × Int := if (st2 s).2.2 = 0 then cnt s (st2 s).2.1 1024 else (0, (st2 s).2)
def st4 (s : ByteArray) : List ByteArray × Nat × Int := if (st3 s).2.2 = 0 then decT s (st3 s).1 (st3 s).2.1 [] else ([], (st3 s).2)
theorem dec_st (s : ByteArray) : dec s = if (st4 s).2.2 = 0 then (if (st4 s).2.1 < s.size then ([], [], (st4 s).2.1, 3) else ((st2 s).1, (st4 s).1, 0, 0)) else ([], [], (st4 s).2) := by
  unfold dec st4 st3 st2 st1
  by_cases h1 : (cnt s 0 1024).2.2 = 0
  · simp only [if_pos h1]
    by_cases h2 : (decN s (cnt s 0 1024).1 (cnt s 0 1024).2.1 []).2.2 = 0
    · simp only [if_pos h2]
      by_cases h3 : (cnt s (decN s (cnt s 0 1024).1 (cnt s 0 1024).2.1 []).2.1 1024).2.2 = 0
      · simp only [if_pos h3]
      · simp only [if_neg h3]
    · simp only [if_neg h2]
  · simp only [if_neg h1]
theorem cnt_most {s : ByteArray} {p most : Nat} : (cnt s p most).1 ≤ most := by
  by_cases h : (cnt s p most).2.2 = 0
  · obtain ⟨e1, _, e3⟩ := cnt_ok h
    rw [e1]; exact e3
  · rw [cnt_zero h]; exact Nat.zero_le _
theorem st1_le (s : ByteArray) : (st1 s).2.1 ≤ s.size := cnt_le (Nat.zero_le _)
theorem st2_le (s : ByteArray) : (st2 s).2.1 ≤ s.size := by
  unfold st2
  split
  · exact decN_le _ _ _ (st1_le s)
  · exact st1_le s
theorem st3_le (s : ByteArray) : (st3 s).2.1 ≤ s.size := by
  unfold st3
  split
  · exact cnt_le (st2_le s)
  · exact st2_le s
theorem st3_most (s : ByteArray) : (st3 s).1 ≤ 1024 := by
  unfold st3
  split
  · exact cnt_most
  · exact Nat.zero_le _
theorem st4_le (s : ByteArray) : (st4 s).2.1 ≤ s.size := by
  unfold st4
  split
  · exact decT_le _ _ _ (st3_le s)
  · exact st3_le s
/-- number, whatever the reader's state is. -/
def cntE (s : ByteArray) (p : Nat) (e : Int) (most : Nat) : Nat × Nat × Int := if e = 0 then cnt s p most else (0, p, e)
theorem number_calls (s : ByteArray) (p most : Nat) (mi pi e : Int) (hmi : mi = (most : Int)) (hpi : pi = (p : Int)) (hs : s.size ≤ 140737488355328) (hp : p ≤ s.size) (g : Nat) (w0 w : World) (hI : IsS51 w0 w g s pi e) (hB : Below w0.heap.size w0 w) :
    Calls Try.prog 30 #[.pointer (some ⟨g, 0, none⟩), .int .u64 mi] w fun x w' => x = .returned (.int .u64 ((cntE s p e most).1 : Int)) ∧ IsS51 w0 w' g s ((cntE s p e most).2.1 : Int) (cntE s p e most).2.2 ∧ Below w0.heap.size w0 w' ∧ KeepBut w w' g none := by
  subst hmi hpi
  unfold cntE
  by_cases he : e = 0
  · subst he
    rw [if_pos rfl]
    obtain ⟨k, hk⟩ := Ev.rounds (number_ev s p most hs hp)
    exact pack_reader_number.calls k g s p 0 most _ _ _ _ w0 w hI hB hk
  · rw [if_neg he]
    obtain ⟨k, hk⟩ := Ev.rounds (number_bad s p e most he)
    exact pack_reader_number.calls k g s p e most _ _ _ _ w0 w hI hB hk
theorem text_calls (s : ByteArray) (p : Nat) (pi : Int) (hpi : pi = (p : Int)) (hs : s.size ≤ 140737488355328) (hp : p ≤ s.size) (g : Nat) (w0 w : World) (hI : IsS51 w0 w g s pi 0) (hB : Below w0.heap.size w0 w) :
    Calls Try.prog 31 #[.pointer (some ⟨g, 0, none⟩)] w fun x w' => x = .returned (.string (txt s p).1) ∧ IsS51 w0 w' g s ((txt s p).2.1 : Int) (txt s p).2.2 ∧ Below w0.heap.size w0 w' ∧ KeepBut w w' g none := by
  subst hpi
  obtain ⟨k, hk⟩ := Ev.rounds (text_ev s p hs hp)
  exact pack_reader_text.calls k g s p 0 _ _ _ _ w0 w hI hB hk
/-- A reader at block gr, a pack under way at block gp: its slices vN, vT hold xs and ts. -/
structure PS (w0 W : World) (gp gr : Nat) (s : ByteArray) (p : Nat) (e : Int) (xs : List Int) (ts : List ByteArray) (vN vT : Value) : Prop where
  bp : W.heap[gp]? = some (.cells #[vN, vT] 25 (0, 0))
  gep : w0.heap.size ≤ gp
  rd : IsS51 w0 W gr s p e
  ns : (Kd.int .i64).R 3 W w0.heap.size (fun _ => True) vN xs
  ts : Kd.string.R 9 W w0.heap.size (fun _ => True) vT ts
  bel : Below w0.heap.size w0 W
section
variable {w0 W : World} {gp gr : Nat} {s : ByteArray} {p : Nat} {e : Int} {xs : List Int} {ts : List ByteArray} {vN vT : Value}
theorem PS.ne (h : PS w0 W gp gr s p e xs ts vN vT) : gp ≠ gr := fun hc => (h.rd.ne_blk h.bp (by decide)) hc.symm
theorem PS.neN (h : PS w0 W gp gr s p e xs ts vN vT) : some gp ≠ vN.ownBlock := Kd.R_ne h.ns h.bp (by decide)
theorem PS.neT (h : PS w0 W gp gr s p e xs ts vN vT) : some gp ≠ vT.ownBlock := Kd.R_ne h.ts h.bp (by decide)
theorem PS.keep {W1 : World} {p' : Nat} {e' : Int} (h : PS w0 W gp gr s p e xs ts vN vT) (hr : IsS51 w0 W1 gr s p' e') (hb : Below w0.heap.size w0 W1) (hk : KeepBut W W1 gr none) : PS w0 W1 gp gr s p' e' xs ts vN vT where
  bp := (hk.2 gp (blk_lt h.bp) h.ne (by simp)).trans h.bp
  gep := h.gep
  rd := hr
  ns := Kd.R_mono (Kd.R_keep (h.rd.apart h.ns (by decide)) hk (fun _ hk => hk.2)) (fun _ _ => trivial)
  ts := Kd.R_mono (Kd.R_keep (h.rd.apart h.ts (by decide)) hk (fun _ hk => hk.2)) (fun _ _ => trivial)
  bel := hb
theorem PS.below {W1 : World} (h : PS w0 W gp gr s p e xs ts vN vT) (hb : Below W.heap.size W W1) : PS w0 W1 gp gr s p e xs ts vN vT where
  bp := blk_below h.bp hb
  gep := h.gep
  rd := h.rd.below hb
  ns := Kd.R_below h.ns hb
  ts := Kd.R_below h.ts hb
  bel := below_step h.bel hb
theorem PS.alloc (h : PS w0 W gp gr s p e xs ts vN vT) (o : Obj) : PS w0 (W.alloc o) gp gr s p e xs ts vN vT := h.below (below_alloc (Below.refl _ _) o)
theorem PS.drewN (h : PS w0 W gp gr s p e xs ts vN vT) (m : Nat) : PS w0 (W.drewN m) gp gr s p e xs ts vN vT := h.below (pw_below_drewN (Below.refl _ _) m)
theorem PS.drew (h : PS w0 W gp gr s p e xs ts vN vT) : PS w0 W.drew gp gr s p e xs ts vN vT := h.below (below_drew (Below.refl _ _))
theorem PS.pushN {v1 : Value} {w1 : World} {ys : List Int} (h : PS w0 W gp gr s p e xs ts vN vT) (ho : (Kd.int .i64).R 3 w1 w0.heap.size (fun _ => True) v1 ys) (hb : Below w0.heap.size w0 w1) (hg : W.grownBy w1 vN.ownBlock) :
    w1.heap[gp]? = some (.cells #[vN, vT] 25 (0, 0)) ∧ PS w0 (w1.setCell ⟨gp, 0, none⟩ v1) gp gr s p e ys ts v1 vT := by
  have b1 := blk_grown h.bp hg h.neN
  have r1 := h.rd.grown hg (Kd.R_ne h.ns h.rd.1 (by decide))
  have t1 := Kd.R_over h.ts h.ns (by decide) hg
  exact ⟨b1, by simpa using blk_set b1 0 v1, h.gep, r1.far (p := ⟨gp, 0, none⟩) (Ne.symm h.ne) v1, Kd.R_set ho b1 (by decide) 0 v1, Kd.R_set t1 b1 (by decide) 0 v1, below_set hb h.gep⟩
theorem PS.pushT {v1 : Value} {w1 : World} {ys : List ByteArray} (h : PS w0 W gp gr s p e xs ts vN vT) (ho : Kd.string.R 9 w1 w0.heap.size (fun _ => True) v1 ys) (hb : Below w0.heap.size w0 w1) (hg : W.grownBy w1 vT.ownBlock) :
    w1.heap[gp]? = some (.cells #[vN, vT] 25 (0, 0)) ∧ PS w0 (w1.setCell ⟨gp, 1, none⟩ v1) gp gr s p e xs ys vN v1 := by
  have b1 := blk_grown h.bp hg h.neT
  have r1 := h.rd.grown hg (Kd.R_ne h.ts h.rd.1 (by decide))
  have t1 := Kd.R_over h.ns h.ts (by decide) hg
  exact ⟨b1, by simpa using blk_set b1 1 v1, h.gep, r1.far (p := ⟨gp, 1, none⟩) (Ne.symm h.ne) v1, Kd.R_set t1 b1 (by decide) 1 v1, Kd.R_set ho b1 (by decide) 1 v1, below_set hb h.gep⟩
end
end Go.Proofs.Ytjjgpleaidledaa.PackDec

/- A signed number's bits, as the program turns them back. -/
namespace Go.Proofs.Ytjjgpleaidledaa.PackDec
open Go.RowKit Go.Proofs.Ytjjgpleaidledaa.Base Go.Proofs.Ytjjgpleaidledaa.PackMath Go.Proofs.YtjjgpleaidledaaW.PrintWords
theorem and_u64_one (n : Nat) (hn : n < 9223372036854775808) : Go.bits .and .u64 (n : Int) 1 = ((n % 2 : Nat) : Int) := by
  show IntKind.u64.wrap ((BitVec.ofInt 64 (n : Int) &&& BitVec.ofInt 64 ((1 : Nat) : Int)).toNat : Int) = _
  rw [BitVec.toNat_and, ofInt_u64 n (by omega), ofInt_u64 1 (by omega), IntKind.wrap_u64, Nat.and_one_is_mod]
  omega
theorem xor_all (x : Nat) (hx : x < 9223372036854775808) : Go.bits .xor .i64 (x : Int) (-1) = -(x : Int) - 1 := by
  show IntKind.i64.wrap ((BitVec.ofInt 64 (x : Int) ^^^ BitVec.ofInt 64 (-1)).toNat : Int) = _
  have e : BitVec.ofInt 64 (-1) = BitVec.allOnes 64 := by decide
  rw [e, BitVec.xor_allOnes, BitVec.toNat_not, ofInt_u64 x (by omega), IntKind.wrap_i64]
  omega
theorem zag_go (n : Nat) (hn : n < 9223372036854775808) : Go.bits .xor .i64 (wrap64 ((n : Int) / 2)) (wrap64 (-(wrap64 (Go.bits .and .u64 (n : Int) 1)))) = zag n := by
  rw [and_u64_one n hn, wrap_id (n := (n : Int) / 2) (by omega) (by omega), wrap_id (n := ((n % 2 : Nat) : Int)) (by omega) (by omega), wrap_id (n := -((n % 2 : Nat) : Int)) (by omega) (by omega)]
  rw [show (n : Int) / 2 = ((n / 2 : Nat) : Int) from by omega]
  unfold zag
  by_cases h : n % 2 = 1
  · rw [if_pos h, h, show (-((1 : Nat) : Int)) = -1 from rfl, xor_all _ (by omega)]
    omega
  · rw [if_neg h, show n % 2 = 0 from by omega, show (-((0 : Nat) : Int)) = ((0 : Nat) : Int) from rfl, xor_i64_nat _ _ (by omega) (by omega), Nat.xor_zero]
    omega
theorem rdn_lt (s : ByteArray) (p : Nat) : (rdn s p).1 < 9223372036854775808 := by
  by_cases h : (rdn s p).2.2 = 0
  · exact (rdn_ok h).1
  · rw [← cnt_all] at h ⊢
    rw [cnt_zero h]
    omega
end Go.Proofs.Ytjjgpleaidledaa.PackDec

/- pack.Decode by its contract: what it reads is PackDec.dec. An own text in the printer's form. -/
namespace Go.Proofs.Ytjjgpleaidledaa.Al
open Go.RowKit Go.Proofs.Ytjjgpleaidledaa.Base Go.Proofs.Ytjjgpleaidledaa.PackMath Go.Proofs.Ytjjgpleaidledaa.PackDec Go.Proofs.YtjjgpleaidledaaW.PrintWords Go.Proofs.YtjjgpleaidledaaW.PrintLast Go.Proofs.YtjjgpleaidledaaW.PrintMore
set_option linter.unusedVariables false
set_option linter.unusedSimpArgs false
def pack_Decode.f (a0 : ByteArray) : Option (List Int × List ByteArray × Int × Int) := if a0.size ≤ 140737488355328 then some ((dec a0).1, (dec a0).2.1, ((dec a0).2.2.1 : Int), (dec a0).2.2.2) else none
def RelN (s : ByteArray) (m p : Nat) (e : Int) (xs : List Int) : Prop := p ≤ s.size ∧ (e = 0 → decN s m p xs = st2 s) ∧ (e ≠ 0 → (st2 s).2 = (p, e))
def RelT (s : ByteArray) (m p : Nat) (e : Int) (xs : List ByteArray) : Prop := p ≤ s.size ∧ (e = 0 → decT s m p xs = st4 s) ∧ (e ≠ 0 → (st4 s).2 = (p, e))
theorem relN_start (s : ByteArray) : RelN s (st1 s).1 (st1 s).2.1 (st1 s).2.2 [] := ⟨st1_le s, fun h => by unfold st2; rw [if_pos h], fun h => by unfold st2; rw [if_neg h]⟩
theorem relN_step {s : ByteArray} {m p : Nat} {xs : List Int} (h : RelN s (m + 1) p 0 xs) : RelN s m (rdn s p).2.1 (rdn s p).2.2 (xs ++ [zag (rdn s p).1]) := by
  obtain ⟨h1, h2, _⟩ := h
  have h3 := h2 rfl
  have e : decN s (m + 1) p xs = if (rdn s p).2.2 = 0 then decN s m (rdn s p).2.1 (xs ++ [zag (rdn s p).1]) else (xs, (rdn s p).2.1, (rdn s p).2.2) := rfl
  rw [e] at h3
  exact ⟨rdn_le h1, fun he => by rw [if_pos he] at h3; exact h3, fun he => by rw [if_neg he] at h3; rw [← h3]⟩
theorem relN_exit {s : ByteArray} {m p : Nat} {e : Int} {xs : List Int} (h : RelN s m p e xs) (hx : m = 0 ∨ e ≠ 0) : (st2 s).2 = (p, e) ∧ (e = 0 → (st2 s).1 = xs) ∧ p ≤ s.size := by
  obtain ⟨h1, h2, h3⟩ := h
  by_cases he : e = 0
  · obtain rfl : m = 0 := by rcases hx with h | h; exact h; exact absurd he h
    have := h2 he
    simp only [decN] at this
    subst he
    rw [← this]
    exact ⟨rfl, fun _ => rfl, h1⟩
  · exact ⟨h3 he, fun hc => absurd hc he, h1⟩
theorem relT_start (s : ByteArray) : RelT s (st3 s).1 (st3 s).2.1 (st3 s).2.2 [] := ⟨st3_le s, fun h => by unfold st4; rw [if_pos h], fun h => by unfold st4; rw [if_neg h]⟩
theorem relT_step {s : ByteArray} {m p : Nat} {xs : List ByteArray} (h : RelT s (m + 1) p 0 xs) : RelT s m (txt s p).2.1 (txt s p).2.2 (xs ++ [(txt s p).1]) := by
  obtain ⟨h1, h2, _⟩ := h
  have h3 := h2 rfl
  have e : decT s (m + 1) p xs = if (txt s p).2.2 = 0 then decT s m (txt s p).2.1 (xs ++ [(txt s p).1]) else (xs, (txt s p).2.1, (txt s p).2.2) := rfl
  rw [e] at h3
  exact ⟨txt_le h1, fun he => by rw [if_pos he] at h3; exact h3, fun he => by rw [if_neg he] at h3; rw [← h3]⟩
theorem relT_exit {s : ByteArray} {m p : Nat} {e : Int} {xs : List ByteArray} (h : RelT s m p e xs) (hx : m = 0 ∨ e ≠ 0) : (st4 s).2 = (p, e) ∧ (e = 0 → (st4 s).1 = xs) ∧ p ≤ s.size := by
  obtain ⟨h1, h2, h3⟩ := h
  by_cases he : e = 0
  · obtain rfl : m = 0 := by rcases hx with h | h; exact h; exact absurd he h
    have := h2 he
    simp only [decT] at this
    subst he
    rw [← this]
    exact ⟨rfl, fun _ => rfl, h1⟩
  · exact ⟨h3 he, fun hc => absurd hc he, h1⟩
theorem st3_of {s : ByteArray} {p : Nat} {e : Int} (h : (st2 s).2 = (p, e)) : cntE s p e 1024 = st3 s := by
  unfold cntE st3
  rw [h]
theorem st_back {s : ByteArray} (h : (st4 s).2.2 = 0) : (st2 s).2.2 = 0 := by
  have h3 : (st3 s).2.2 = 0 := by
    unfold st4 at h
    by_cases hc : (st3 s).2.2 = 0
    · exact hc
    · rw [if_neg hc] at h; exact absurd h hc
  unfold st3 at h3
  by_cases hc : (st2 s).2.2 = 0
  · exact hc
  · rw [if_neg hc] at h3; exact absurd h3 hc
theorem cntE_all (s : ByteArray) (p : Nat) : cntE s p 0 9223372036854775807 = rdn s p := by unfold cntE; rw [if_pos rfl, cnt_all]
set_option maxHeartbeats 8000000 in
set_option maxRecDepth 100000 in
theorem pack_Decode.core (s : ByteArray) (hs : s.size ≤ 140737488355328) (w : World) :
    Calls Try.prog 19 #[.string s] w fun e w' => ∃ v0_ v1_ : Value, e = .returned (.tuple #[.agg #[v0_, v1_], .int .i64 ((dec s).2.2.1 : Int), .int .i64 (dec s).2.2.2]) ∧ Kd.R (Kd.int .i64) 3 w' w.heap.size (fun _ => True) v0_ (dec s).1 ∧ Kd.R Kd.string 9 w' w.heap.size (fun _ => True) v1_ (dec s).2.1 ∧ Below w.heap.size w w' := by
  have hu25 := Try.underlying25
  have hc1 := fun (g : Nat) (W : World) hI hB => number_calls s 0 1024 1024 0 0 rfl rfl hs (Nat.zero_le _) g w W hI hB
  have e1 : cntE s 0 0 1024 = st1 s := rfl
  simp only [e1] at hc1
  have HC1 := Aside0.mk hc1
  clear hc1 e1
  go_enter Try.func19, Try.ntmps19
  go_wp2_with (first | ((with_reducible refine gate_dst (N := 2) rfl ?_); (try (refine gate_guard (by rfl) ?_; dsimp only)); refine box_event ?hg (N := 2) ?hd (cs := #[.slice none 0 0, .slice none 0 0]) (t := 25) ?hr ?_; (case hd => rfl); (case hg => rfl); (case hr => first | (go_simp; done) | (go_simp; rfl)); intro gp hgg gpw hbox hb; have GP := Aside0.mk (Nat.le_of_eq hgg.symm); have BP := Aside0.mk hbox; have BA := Aside0.mk hb; clear hgg hbox hb) | ((with_reducible refine gate_dst (N := 11) rfl ?_); (try (refine gate_guard (by rfl) ?_; dsimp only)); refine box_event ?hg (N := 11) ?hd (cs := #[.string s, .int .i64 0, .int .i64 0]) (t := 51) ?hr ?_; (case hd => rfl); (case hg => rfl); (case hr => first | (go_simp; done) | (go_simp; rfl)); intro gr hgg grw hbox hb; have HP0 : Aside0 (PS w grw gp gr s 0 0 [] [] (.slice none 0 0) (.slice none 0 0)) := ⟨⟨blk_below BP.out hb, GP.out, ⟨hbox, by rw [hgg]; exact BA.out.size⟩, Kd.R_nil _ _ _ _ _, Kd.R_nil _ _ _ _ _, below_step BA.out hb⟩⟩; clear hgg hbox hb) | (go_at_call 30; refine (HC1.out gr _ HP0.out.rd HP0.out.bel).mono ?_; rintro x w' ⟨rfl, hI, hB, hK⟩; have HP1 := Aside0.mk (HP0.out.keep hI hB hK); clear hI hB hK))
  have hm1 : (st1 s).1 ≤ 1024 := cnt_most
  have HR1 := Aside0.mk (relN_start s)
  generalize (st1 s).1 = m0 at hm1 HR1 ⊢
  generalize (st1 s).2.1 = p0 at HP1 HR1 ⊢
  generalize (st1 s).2.2 = e0 at HP1 HR1 ⊢
  clear HC1 HP0 BP BA
  go_loopw [6] (fun v6 wr => ∃ (m p : Nat) (e : Int) (xs : List Int) (vN : Value), v6 = .int .u64 m ∧ m + xs.length ≤ 1024 ∧ Aside0 (RelN s m p e xs) ∧ Aside0 (PS w wr gp gr s p e xs [] vN (.slice none 0 0))) (fun v6 _ => (intOf v6).toNat)
  case atStart => exact ⟨m0, p0, e0, [], _, rfl, by simpa using hm1, HR1, HP1⟩
  case round =>
    obtain ⟨m, p, e, xs, vN, rfl, hm, HR, HP⟩ := hrel
    clear hm1 HR1 HP1
    by_cases hc : 0 < m ∧ e = 0
    · obtain ⟨h0, rfl⟩ := hc
      obtain ⟨m, rfl⟩ : ∃ k, m = k + 1 := ⟨m - 1, by omega⟩
      have hx2 := cellS51_2 HP.out.rd.1
      have c1 : decide ((0 : Int) < ((m + 1 : Nat) : Int)) = true := decide_eq_true (by omega)
      have c2 : decide (0 < m + 1) = true := decide_eq_true (by omega)
      have hcn := fun (W : World) hI hB => number_calls s p 9223372036854775807 9223372036854775807 p 0 rfl rfl hs HR.out.1 gr w W hI hB
      simp only [cntE_all] at hcn
      have HCN := Aside0.mk hcn
      clear hcn
      go_wp2_with (first | (go_at_call 30; refine (HCN.out _ HP.out.rd HP.out.bel).mono ?_; rintro x w' ⟨rfl, hI, hB, hK⟩; have HP1 := Aside0.mk (HP.out.keep hI hB hK); clear hI hB hK; have hxN : w'.cell? ⟨gp, 0, none⟩ = some vN := (blk_cell HP1.out.bp 0).trans rfl) | ((with_reducible refine gate_builtin (b := .append) (xs := #[.tmp 28, .tmp 37]) rfl ?_); at_builtin; (refine Kd.R_append (Kd.int .i64) (w0 := w) w.heap.size rfl (.tmp 28) (.tmp 37) 22 3 (.int .i64 0) 8 rfl Try.underlying22 info3 rfl (by decide) (by omega) vN xs (Go.bits .xor .i64 (wrap64 (((rdn s p).1 : Int) / 2)) (wrap64 (-(wrap64 (Go.bits .and .u64 ((rdn s p).1 : Int) 1))))) [.int .i64 (Go.bits .xor .i64 (wrap64 (((rdn s p).1 : Int) / 2)) (wrap64 (-(wrap64 (Go.bits .and .u64 ((rdn s p).1 : Int) 1)))))] (fun _ => True) (fun _ => False) rfl rfl ?aP (fun _ hk => hk.elim) (fun _ _ => trivial) HP1.out.ns HP1.out.bel HP1.out.bel.size ?aL ?_; (case aP => exact rfl); (case aL => omega); intro v1 w1 ho hb hg hat; obtain ⟨A1, k1, e1⟩ := Kd.R_slice ho; subst e1; obtain ⟨b1, hp2⟩ := HP1.out.pushN ho hb hg; have HP2 := Aside0.mk hp2; have hs0 : w1.cell? ⟨gp, 0, none⟩ = some vN := (blk_cell b1 0).trans rfl; have hf0 := blk_frozen b1 0; clear ho hb hg hat hp2 b1)))
      have hz := zag_go (rdn s p).1 (rdn_lt s p)
      have HP3 := HP2.out
      rw [hz] at HP3
      exact ⟨⟨m, (rdn s p).2.1, (rdn s p).2.2, xs ++ [zag (rdn s p).1], _, rfl, by simp; omega, ⟨relN_step HR.out⟩, ⟨by simpa using HP3⟩⟩, by simp [intOf]⟩
    · obtain ⟨x1, x2, x3⟩ := relN_exit HR.out (by omega)
      have HX1 := Aside0.mk x1
      have HX2 := Aside0.mk x2
      have hc3 := fun (W : World) hI hB => number_calls s p 1024 1024 p e rfl rfl hs x3 gr w W hI hB
      simp only [st3_of x1] at hc3
      have HC3 := Aside0.mk hc3
      have hx2 := cellS51_2 HP.out.rd.1
      have hm3 := st3_most s
      have HM3 := Aside0.mk hm3
      have HR3 := Aside0.mk (relT_start s)
      clear x1 x2 x3 hc3 HR hm3
      by_cases h0 : 0 < m
      · have he : (e == 0) = false := by simp; omega
        have c1 : decide ((0 : Int) < (m : Int)) = true := decide_eq_true (by omega)
        have c2 : decide (0 < m) = true := decide_eq_true (by omega)
        clear hc h0
        go_wp2_with (first | (go_at_call 30; refine (HC3.out _ HP.out.rd HP.out.bel).mono ?_; rintro x w' ⟨rfl, hI, hB, hK⟩; have HP3 := Aside0.mk (HP.out.keep hI hB hK); clear hI hB hK))
        clear hx2
        have hm3 := HM3.out
        clear HM3
        generalize hg1 : (st3 s).1 = m1 at hm3 HR3 ⊢
        generalize hg2 : (st3 s).2.1 = p1 at HP3 HR3 ⊢
        generalize hg3 : (st3 s).2.2 = e1 at HP3 HR3 ⊢
        clear hg1 hg2 hg3 HC3 HP
        obtain ⟨wo, rfl⟩ : ∃ wo : World, wo = wr := ⟨_, rfl⟩
        go_loopw [8] (fun v8 wr => ∃ (m p : Nat) (e : Int) (ts : List ByteArray) (vT : Value), v8 = .int .u64 m ∧ m + ts.length ≤ 1024 ∧ Aside0 (RelT s m p e ts) ∧ Aside0 (PS w wr gp gr s p e xs ts vN vT)) (fun v8 _ => (intOf v8).toNat)
        case atStart => exact ⟨m1, p1, e1, [], _, rfl, by simpa using hm3, HR3, HP3⟩
        case round =>
          clear hm3 HR3 HP3
          obtain ⟨m, p, e, ts, vT, rfl, hm, HR, HP⟩ := hrel
          by_cases hc : 0 < m ∧ e = 0
          · obtain ⟨h0, rfl⟩ := hc
            obtain ⟨m, rfl⟩ : ∃ k, m = k + 1 := ⟨m - 1, by omega⟩
            have hx2 := cellS51_2 HP.out.rd.1
            have c1 : decide ((0 : Int) < ((m + 1 : Nat) : Int)) = true := decide_eq_true (by omega)
            have c2 : decide (0 < m + 1) = true := decide_eq_true (by omega)
            go_wp2_with fail
            clear hx2 c1 c2
            have hxT : wr.cell? ⟨gp, 1, none⟩ = some vT := (blk_cell HP.out.bp 1).trans rfl
            have HPd : Aside0 (PS w wr.drew gp gr s p 0 xs ts vN vT) := ⟨HP.out.drew⟩
            go_region_law (first | (go_simp; go_at_call 31; refine (text_calls s p p rfl hs HR.out.1 gr w _ HPd.out.rd HPd.out.bel).mono ?_; rintro x w' ⟨rfl, hI, hB, hK⟩; have HP1 := Aside0.mk (HPd.out.keep hI hB hK); have hxT1 : w'.cell? ⟨gp, 1, none⟩ = some vT := (blk_cell HP1.out.bp 1).trans rfl; have hxT2 : ∀ o : Obj, (w'.alloc o).cell? ⟨gp, 1, none⟩ = some vT := fun o => (blk_cell (HP1.out.alloc o).bp 1).trans rfl; clear hI hB hK) | (refine Kd.R_append_step Kd.string (w0 := w) w.heap.size (by rfl) (.tmp 54) (.tmp 57) 23 9 (.string ⟨#[]⟩) 16 (by rfl) Try.underlying23 info9 rfl (by decide) (by omega) vT ts ((txt s p).1) [.string (txt s p).1] (fun _ => True) (fun _ => False) (by rfl) (by rfl) rfl (fun _ hk => hk.elim) (fun _ _ => trivial) HP1.out.ts HP1.out.bel HP1.out.bel.size (by omega) ?_; intro v1 w1 ho hb hg hat; obtain ⟨A1, k1, e1⟩ := Kd.R_slice ho; subst e1; obtain ⟨b1, hp2⟩ := HP1.out.pushT ho hb hg; have HP2 := Aside0.mk hp2; have hs0 : w1.cell? ⟨gp, 1, none⟩ = some vT := (blk_cell b1 1).trans rfl; have hf0 := blk_frozen b1 1; clear ho hb hg hat hp2 b1))
            all_goals (go_wp2_with fail; (have HP3 := HP2.out; exact ⟨⟨m, (txt s p).2.1, (txt s p).2.2, ts ++ [(txt s p).1], _, rfl, by simp; omega, ⟨relT_step HR.out⟩, ⟨by simpa using HP3⟩⟩, by simp [intOf]⟩))
          · obtain ⟨y1, y2, y3⟩ := relT_exit HR.out (by omega)
            have hx2 := cellS51_2 HP.out.rd.1
            have hx1 := cellS51_1 HP.out.rd.1
            have hne : gp ≠ gr := HP.out.ne
            have hne2 : gr ≠ gp := Ne.symm hne
            obtain ⟨AN, kN, eN⟩ := Kd.R_slice HP.out.ns
            obtain ⟨AT, kT, eT⟩ := Kd.R_slice HP.out.ts
            subst eN eT
            have hp0 : wr.cell? ⟨gp, 0, none⟩ = some (.slice AN xs.length kN) := (blk_cell HP.out.bp 0).trans rfl
            have hp1 : wr.cell? ⟨gp, 1, none⟩ = some (.slice AT ts.length kT) := (blk_cell HP.out.bp 1).trans rfl
            have hf0 := blk_frozen HP.out.bp 0
            have hf1 := blk_frozen HP.out.bp 1
            by_cases he : e = 0
            · subst he
              obtain rfl : m = 0 := by omega
              by_cases hl : p < s.size
              · have hd : dec s = ([], [], p, 3) := by rw [dec_st, y1]; simp [hl]
                have HD := Aside0.mk hd
                have c3 : decide ((p : Int) < (s.size : Int)) = true := decide_eq_true (by omega)
                have c4 : decide (p < s.size) = true := decide_eq_true hl
                clear hd hc y1 y2 y3 hp0 hp1 hf0 hf1
                go_wp2_with (go_at_call 32; refine (pack_reader_fail.calls gr s p 0 p 3 _ _ _ _ w _ HP.out.rd HP.out.bel rfl).mono ?_; rintro x w' ⟨rfl, hI, hB, hK⟩; have HQ := Aside0.mk (HP.out.keep (p' := p) (e' := 3) hI hB hK); have hx2 := cellS51_2 HQ.out.rd.1; have hx1 := cellS51_1 HQ.out.rd.1; clear hI hB hK)
                have hp0 : w'.cell? ⟨gp, 0, none⟩ = some (.slice AN xs.length kN) := (blk_cell HQ.out.bp 0).trans rfl
                have hp1 : w'.cell? ⟨gp, 1, none⟩ = some (.slice AT ts.length kT) := (blk_cell HQ.out.bp 1).trans rfl
                have hf0 := blk_frozen HQ.out.bp 0
                have hf1 := blk_frozen HQ.out.bp 1
                go_region_held3 (fun W => W.cell? ⟨gr, 1, none⟩ = some (.int .i64 p) ∧ W.cell? ⟨gr, 2, none⟩ = some (.int .i64 3)) (go_keep) (fail)
                go_wp2
                have bk := blk_drew (blk_set (blk_set HQ.out.bp 0 (.slice none 0 0)) 1 (.slice none 0 0))
                refine bodyPost_ret (results_ctt rfl _ _ gp 25 #[.slice none 0 0, .slice none 0 0] (0, 0) _ rfl (by simpa using bk) Try.underlying25 rfl (by kernel_rfl)) rfl ?_
                rw [HD.out]
                exact ⟨_, _, rfl, Kd.R_nil _ _ _ _ _, Kd.R_nil _ _ _ _ _, below_drew (below_set (below_set HQ.out.bel HQ.out.gep) HQ.out.gep)⟩
              · have hd : dec s = (xs, ts, 0, 0) := by
                  rw [dec_st, y1]
                  simp only [if_true]
                  rw [if_neg hl, y2 rfl, HX2.out (by have := st_back (s := s) (by rw [y1]); rw [HX1.out] at this; exact this)]
                have HD := Aside0.mk hd
                have c3 : decide ((p : Int) < (s.size : Int)) = false := decide_eq_false (by omega)
                have c4 : decide (p < s.size) = false := decide_eq_false hl
                clear hd hc y1 y2 y3 hl
                go_wp2
                have bk := blk_set (blk_set HP.out.bp 0 (.slice AN xs.length kN)) 1 (.slice AT ts.length kT)
                refine bodyPost_ret (results_ctt rfl _ _ gp 25 #[.slice AN xs.length kN, .slice AT ts.length kT] (0, 0) _ rfl (by simpa using bk) Try.underlying25 rfl (by kernel_rfl)) rfl ?_
                rw [HD.out]
                exact ⟨_, _, rfl, Kd.R_set (Kd.R_set HP.out.ns HP.out.bp (by decide) 0 _) (blk_set HP.out.bp 0 _) (by decide) 1 _, Kd.R_set (Kd.R_set HP.out.ts HP.out.bp (by decide) 0 _) (blk_set HP.out.bp 0 _) (by decide) 1 _, below_set (below_set HP.out.bel HP.out.gep) HP.out.gep⟩
            · have hd : dec s = ([], [], p, e) := by rw [dec_st, y1]; simp [he]
              have HD := Aside0.mk hd
              have he1 : (e == 0) = false := by simpa using he
              have he2 : (e != 0) = true := by simpa using he
              clear hd y1 y2 y3
              by_cases h0 : 0 < m
              all_goals
                first
                | have c1 : decide ((0 : Int) < (m : Int)) = true := decide_eq_true (by omega)
                  have c2 : decide (0 < m) = true := decide_eq_true h0
                | obtain rfl : m = 0 := by omega
                clear hc h0 he
                go_wp2
                go_region_held3 (fun W => W.cell? ⟨gr, 1, none⟩ = some (.int .i64 p) ∧ W.cell? ⟨gr, 2, none⟩ = some (.int .i64 e)) (go_keep) (fail)
                go_wp2
                have bk := blk_drew (blk_set (blk_set HP.out.bp 0 (.slice none 0 0)) 1 (.slice none 0 0))
                refine bodyPost_ret (results_ctt rfl _ _ gp 25 #[.slice none 0 0, .slice none 0 0] (0, 0) _ rfl (by simpa using bk) Try.underlying25 rfl (by kernel_rfl)) rfl ?_
                rw [HD.out]
                exact ⟨_, _, rfl, Kd.R_nil _ _ _ _ _, Kd.R_nil _ _ _ _ _, below_drew (below_set (below_set HP.out.bel HP.out.gep) HP.out.gep)⟩
      · obtain rfl : m = 0 := by omega
        clear hc h0
        go_wp2_with (first | (go_at_call 30; refine (HC3.out _ HP.out.rd HP.out.bel).mono ?_; rintro x w' ⟨rfl, hI, hB, hK⟩; have HP3 := Aside0.mk (HP.out.keep hI hB hK); clear hI hB hK))
        clear hx2
        have hm3 := HM3.out
        clear HM3
        generalize hg1 : (st3 s).1 = m1 at hm3 HR3 ⊢
        generalize hg2 : (st3 s).2.1 = p1 at HP3 HR3 ⊢
        generalize hg3 : (st3 s).2.2 = e1 at HP3 HR3 ⊢
        clear hg1 hg2 hg3 HC3 HP
        obtain ⟨wo, rfl⟩ : ∃ wo : World, wo = wr := ⟨_, rfl⟩
        go_loopw [8] (fun v8 wr => ∃ (m p : Nat) (e : Int) (ts : List ByteArray) (vT : Value), v8 = .int .u64 m ∧ m + ts.length ≤ 1024 ∧ Aside0 (RelT s m p e ts) ∧ Aside0 (PS w wr gp gr s p e xs ts vN vT)) (fun v8 _ => (intOf v8).toNat)
        case atStart => exact ⟨m1, p1, e1, [], _, rfl, by simpa using hm3, HR3, HP3⟩
        case round =>
          clear hm3 HR3 HP3
          obtain ⟨m, p, e, ts, vT, rfl, hm, HR, HP⟩ := hrel
          by_cases hc : 0 < m ∧ e = 0
          · obtain ⟨h0, rfl⟩ := hc
            obtain ⟨m, rfl⟩ : ∃ k, m = k + 1 := ⟨m - 1, by omega⟩
            have hx2 := cellS51_2 HP.out.rd.1
            have c1 : decide ((0 : Int) < ((m + 1 : Nat) : Int)) = true := decide_eq_true (by omega)
            have c2 : decide (0 < m + 1) = true := decide_eq_true (by omega)
            go_wp2_with fail
            clear hx2 c1 c2
            have hxT : wr.cell? ⟨gp, 1, none⟩ = some vT := (blk_cell HP.out.bp 1).trans rfl
            have HPd : Aside0 (PS w wr.drew gp gr s p 0 xs ts vN vT) := ⟨HP.out.drew⟩
            go_region_law (first | (go_simp; go_at_call 31; refine (text_calls s p p rfl hs HR.out.1 gr w _ HPd.out.rd HPd.out.bel).mono ?_; rintro x w' ⟨rfl, hI, hB, hK⟩; have HP1 := Aside0.mk (HPd.out.keep hI hB hK); have hxT1 : w'.cell? ⟨gp, 1, none⟩ = some vT := (blk_cell HP1.out.bp 1).trans rfl; have hxT2 : ∀ o : Obj, (w'.alloc o).cell? ⟨gp, 1, none⟩ = some vT := fun o => (blk_cell (HP1.out.alloc o).bp 1).trans rfl; clear hI hB hK) | (refine Kd.R_append_step Kd.string (w0 := w) w.heap.size (by rfl) (.tmp 54) (.tmp 57) 23 9 (.string ⟨#[]⟩) 16 (by rfl) Try.underlying23 info9 rfl (by decide) (by omega) vT ts ((txt s p).1) [.string (txt s p).1] (fun _ => True) (fun _ => False) (by rfl) (by rfl) rfl (fun _ hk => hk.elim) (fun _ _ => trivial) HP1.out.ts HP1.out.bel HP1.out.bel.size (by omega) ?_; intro v1 w1 ho hb hg hat; obtain ⟨A1, k1, e1⟩ := Kd.R_slice ho; subst e1; obtain ⟨b1, hp2⟩ := HP1.out.pushT ho hb hg; have HP2 := Aside0.mk hp2; have hs0 : w1.cell? ⟨gp, 1, none⟩ = some vT := (blk_cell b1 1).trans rfl; have hf0 := blk_frozen b1 1; clear ho hb hg hat hp2 b1))
            all_goals (go_wp2_with fail; (have HP3 := HP2.out; exact ⟨⟨m, (txt s p).2.1, (txt s p).2.2, ts ++ [(txt s p).1], _, rfl, by simp; omega, ⟨relT_step HR.out⟩, ⟨by simpa using HP3⟩⟩, by simp [intOf]⟩))
          · obtain ⟨y1, y2, y3⟩ := relT_exit HR.out (by omega)
            have hx2 := cellS51_2 HP.out.rd.1
            have hx1 := cellS51_1 HP.out.rd.1
            have hne : gp ≠ gr := HP.out.ne
            have hne2 : gr ≠ gp := Ne.symm hne
            obtain ⟨AN, kN, eN⟩ := Kd.R_slice HP.out.ns
            obtain ⟨AT, kT, eT⟩ := Kd.R_slice HP.out.ts
            subst eN eT
            have hp0 : wr.cell? ⟨gp, 0, none⟩ = some (.slice AN xs.length kN) := (blk_cell HP.out.bp 0).trans rfl
            have hp1 : wr.cell? ⟨gp, 1, none⟩ = some (.slice AT ts.length kT) := (blk_cell HP.out.bp 1).trans rfl
            have hf0 := blk_frozen HP.out.bp 0
            have hf1 := blk_frozen HP.out.bp 1
            by_cases he : e = 0
            · subst he
              obtain rfl : m = 0 := by omega
              by_cases hl : p < s.size
              · have hd : dec s = ([], [], p, 3) := by rw [dec_st, y1]; simp [hl]
                have HD := Aside0.mk hd
                have c3 : decide ((p : Int) < (s.size : Int)) = true := decide_eq_true (by omega)
                have c4 : decide (p < s.size) = true := decide_eq_true hl
                clear hd hc y1 y2 y3 hp0 hp1 hf0 hf1
                go_wp2_with (go_at_call 32; refine (pack_reader_fail.calls gr s p 0 p 3 _ _ _ _ w _ HP.out.rd HP.out.bel rfl).mono ?_; rintro x w' ⟨rfl, hI, hB, hK⟩; have HQ := Aside0.mk (HP.out.keep (p' := p) (e' := 3) hI hB hK); have hx2 := cellS51_2 HQ.out.rd.1; have hx1 := cellS51_1 HQ.out.rd.1; clear hI hB hK)
                have hp0 : w'.cell? ⟨gp, 0, none⟩ = some (.slice AN xs.length kN) := (blk_cell HQ.out.bp 0).trans rfl
                have hp1 : w'.cell? ⟨gp, 1, none⟩ = some (.slice AT ts.length kT) := (blk_cell HQ.out.bp 1).trans rfl
                have hf0 := blk_frozen HQ.out.bp 0
                have hf1 := blk_frozen HQ.out.bp 1
                go_region_held3 (fun W => W.cell? ⟨gr, 1, none⟩ = some (.int .i64 p) ∧ W.cell? ⟨gr, 2, none⟩ = some (.int .i64 3)) (go_keep) (fail)
                go_wp2
                have bk := blk_drew (blk_set (blk_set HQ.out.bp 0 (.slice none 0 0)) 1 (.slice none 0 0))
                refine bodyPost_ret (results_ctt rfl _ _ gp 25 #[.slice none 0 0, .slice none 0 0] (0, 0) _ rfl (by simpa using bk) Try.underlying25 rfl (by kernel_rfl)) rfl ?_
                rw [HD.out]
                exact ⟨_, _, rfl, Kd.R_nil _ _ _ _ _, Kd.R_nil _ _ _ _ _, below_drew (below_set (below_set HQ.out.bel HQ.out.gep) HQ.out.gep)⟩
              · have hd : dec s = (xs, ts, 0, 0) := by
                  rw [dec_st, y1]
                  simp only [if_true]
                  rw [if_neg hl, y2 rfl, HX2.out (by have := st_back (s := s) (by rw [y1]); rw [HX1.out] at this; exact this)]
                have HD := Aside0.mk hd
                have c3 : decide ((p : Int) < (s.size : Int)) = false := decide_eq_false (by omega)
                have c4 : decide (p < s.size) = false := decide_eq_false hl
                clear hd hc y1 y2 y3 hl
                go_wp2
                have bk := blk_set (blk_set HP.out.bp 0 (.slice AN xs.length kN)) 1 (.slice AT ts.length kT)
                refine bodyPost_ret (results_ctt rfl _ _ gp 25 #[.slice AN xs.length kN, .slice AT ts.length kT] (0, 0) _ rfl (by simpa using bk) Try.underlying25 rfl (by kernel_rfl)) rfl ?_
                rw [HD.out]
                exact ⟨_, _, rfl, Kd.R_set (Kd.R_set HP.out.ns HP.out.bp (by decide) 0 _) (blk_set HP.out.bp 0 _) (by decide) 1 _, Kd.R_set (Kd.R_set HP.out.ts HP.out.bp (by decide) 0 _) (blk_set HP.out.bp 0 _) (by decide) 1 _, below_set (below_set HP.out.bel HP.out.gep) HP.out.gep⟩
            · have hd : dec s = ([], [], p, e) := by rw [dec_st, y1]; simp [he]
              have HD := Aside0.mk hd
              have he1 : (e == 0) = false := by simpa using he
              have he2 : (e != 0) = true := by simpa using he
              clear hd y1 y2 y3
              by_cases h0 : 0 < m
              all_goals
                first
                | have c1 : decide ((0 : Int) < (m : Int)) = true := decide_eq_true (by omega)
                  have c2 : decide (0 < m) = true := decide_eq_true h0
                | obtain rfl : m = 0 := by omega
                clear hc h0 he
                go_wp2
                go_region_held3 (fun W => W.cell? ⟨gr, 1, none⟩ = some (.int .i64 p) ∧ W.cell? ⟨gr, 2, none⟩ = some (.int .i64 e)) (go_keep) (fail)
                go_wp2
                have bk := blk_drew (blk_set (blk_set HP.out.bp 0 (.slice none 0 0)) 1 (.slice none 0 0))
                refine bodyPost_ret (results_ctt rfl _ _ gp 25 #[.slice none 0 0, .slice none 0 0] (0, 0) _ rfl (by simpa using bk) Try.underlying25 rfl (by kernel_rfl)) rfl ?_
                rw [HD.out]
                exact ⟨_, _, rfl, Kd.R_nil _ _ _ _ _, Kd.R_nil _ _ _ _ _, below_drew (below_set (below_set HP.out.bel HP.out.gep) HP.out.gep)⟩
theorem pack_Decode.calls (a0 : ByteArray) (r1 : List Int) (r2 : List ByteArray) (r3 : Int) (r4 : Int) (w : World) (h : pack_Decode.f a0 = some (r1, r2, r3, r4)) :
    Calls Try.prog 19 #[.string a0] w fun e w' => ∃ v0_ v1_ : Value, e = .returned (.tuple #[.agg #[v0_, v1_], .int .i64 r3, .int .i64 r4]) ∧ Kd.R (Kd.int .i64) 3 w' w.heap.size (fun _ => True) v0_ r1 ∧ Kd.R Kd.string 9 w' w.heap.size (fun _ => True) v1_ r2 ∧ Below w.heap.size w w' := by
  unfold pack_Decode.f at h
  split at h
  case isFalse => cases h
  rename_i hs
  simp only [Option.some.injEq, Prod.mk.injEq] at h
  obtain ⟨rfl, rfl, rfl, rfl⟩ := h
  exact pack_Decode.core a0 hs w
end Go.Proofs.Ytjjgpleaidledaa.Al

/- What the reference's read and count compute: the numbers of PackDec. -/
namespace Go.Proofs.Ytjjgpleaidledaa.PackDec
open Go.RowKit Go.Proofs.Ytjjgpleaidledaa.Base Go.Proofs.Ytjjgpleaidledaa.PackMath Go.Proofs.Ytjjgpleaidledaa.Al Go.Proofs.YtjjgpleaidledaaW.PrintWords Go.Proofs.YtjjgpleaidledaaW.PrintLast Go.Proofs.YtjjgpleaidledaaW.PrintMore
def fin2 (s : ByteArray) (p : Nat) (r : Nat × Nat × Int) : Int × Int × Int :=
  if r.2.2 = 0 then (r.1, ((p + r.2.1 : Nat) : Int), 0) else if r.2.2 = 50 then (0, s.size, 50) else (0, p, 3)
theorem read_l0 (s : ByteArray) (p : Nat) (hs : s.size ≤ 140737488355328) : ∀ (d i n : Nat), i + d = 9 → n < 2 ^ (7 * i) → p + i ≤ s.size → Ev (fun k => corncribref06_read.l0 k s p n i) (fin2 s p (pn d i n (rest s (p + i))))
  | 0, i, n, h, hn, hp => by
    refine Ev.succ ?_
    simp only [corncribref06_read.l0]
    refine Ev.neg (by omega) ?_
    simp only [pn, fin2]
    exact Ev.now _
  | d + 1, i, n, h, hn, hp => by
    have e0 : wrap64 ((p : Int) + (i : Int)) = ((p + i : Nat) : Int) := by rw [wrap_id (by omega) (by omega)]; omega
    refine Ev.succ ?_
    simp only [corncribref06_read.l0]
    rw [e0]
    refine Ev.pos (by omega) ?_
    by_cases hend : p + i = s.size
    · refine Ev.pos (by omega) ?_
      rw [rest_end (by omega)]
      simp only [pn, fin2]
      exact Ev.now _
    · refine Ev.neg (by omega) (Ev.pos (by omega) (Ev.pos (by omega) (Ev.pos (by rw [wrap_id (by omega) (by omega)]; omega) ?_)))
      rw [rest_at (by omega)]
      have hbr := bt_range s ((p + i : Nat) : Int)
      generalize bt s ((p + i : Nat) : Int) = b at hbr ⊢
      rw [wrap_id (n := b) (by omega) (by omega)]
      have em : Int.tmod b 128 = (((b % 128).toNat : Nat) : Int) := by rw [Int.tmod_eq_emod_of_nonneg (by omega)]; omega
      have hx : (b % 128).toNat < 128 := by omega
      rw [em, lay_i64 n _ i (by omega) hn hx]
      have hsm := next_small n _ i hn hx
      by_cases hb : b < 128
      · have epn : pn (d + 1) i n (b :: rest s (p + i + 1)) = if b = 0 ∧ 0 < i then (0, 0, 3) else (n + (b % 128).toNat * 2 ^ (7 * i), i + 1, 0) := by
          show (if b < 128 then _ else _) = _
          rw [if_pos hb]
        rw [epn]
        have e4 : wrap64 (((p + i : Nat) : Int) + 1) = ((p + (i + 1) : Nat) : Int) := by rw [wrap_id (by omega) (by omega)]; omega
        rw [e4]
        clear hsm em epn hbr
        generalize n + (b % 128).toNat * 2 ^ (7 * i) = V
        refine Ev.pos hb ?_
        by_cases hb0 : b = 0
        · refine Ev.pos hb0 ?_
          by_cases hi : 0 < i
          · refine Ev.pos (by omega) ?_
            rw [if_pos ⟨hb0, hi⟩]
            simp only [fin2]
            exact Ev.now _
          · refine Ev.neg (by omega) ?_
            rw [if_neg (by omega)]
            simp only [fin2, if_true]
            exact Ev.now _
        · refine Ev.neg hb0 ?_
          rw [if_neg (by omega)]
          simp only [fin2, if_true]
          exact Ev.now _
      · have epn : pn (d + 1) i n (b :: rest s (p + i + 1)) = pn d (i + 1) (n + (b % 128).toNat * 2 ^ (7 * i)) (rest s (p + (i + 1))) := by
          show (if b < 128 then _ else _) = _
          rw [if_neg hb]
          rfl
        rw [epn]
        refine Ev.neg hb ?_
        rw [show wrap64 ((i : Int) + 1) = ((i + 1 : Nat) : Int) from by rw [wrap_id (by omega) (by omega)]; omega]
        exact read_l0 s p hs d (i + 1) _ (by omega) hsm (by omega)
theorem read_ev (s : ByteArray) (p : Nat) (hs : s.size ≤ 140737488355328) (hp : p ≤ s.size) : Ev (fun k => corncribref06_read.f k s p) (((rdn s p).1 : Int), ((rdn s p).2.1 : Int), (rdn s p).2.2) := by
  have h := read_l0 s p hs 9 0 0 rfl (by simp) hp
  rw [Nat.add_zero] at h
  have e : fin2 s p (pn 9 0 0 (rest s p)) = (((rdn s p).1 : Int), ((rdn s p).2.1 : Int), (rdn s p).2.2) := by
    have he := pn_errs 9 0 0 (rest s p)
    unfold fin2 rdn
    generalize pn 9 0 0 (rest s p) = r at he ⊢
    obtain ⟨v, k, e⟩ := r
    simp only at he ⊢
    rcases he with rfl | ⟨rfl, rfl⟩ | ⟨rfl, rfl⟩ <;> simp
  rw [e] at h
  exact h
theorem count_ev (s : ByteArray) (p most : Nat) (hs : s.size ≤ 140737488355328) (hp : p ≤ s.size) : Ev (fun k => corncribref06_count.f k s p most) (((cnt s p most).1 : Int), ((cnt s p most).2.1 : Int), (cnt s p most).2.2) := by
  unfold corncribref06_count.f cnt
  refine Ev.bind (read_ev s p hs hp) ?_
  generalize rdn s p = r
  obtain ⟨v, q, e⟩ := r
  simp only
  by_cases he : e = 0
  · refine Ev.pos he ?_
    by_cases hm : most < v
    · refine Ev.pos (by omega) ?_
      rw [if_pos ⟨he, hm⟩]
      exact Ev.now _
    · refine Ev.neg (by omega) ?_
      rw [if_neg (by omega)]
      exact Ev.now _
  · refine Ev.neg he ?_
    rw [if_neg (by simp [he])]
    exact Ev.now _
theorem read_calls (s : ByteArray) (p : Nat) (pi : Int) (hpi : pi = (p : Int)) (hs : s.size ≤ 140737488355328) (hp : p ≤ s.size) (w : World) :
    Calls Try.prog 34 #[.string s, .int .i64 pi] w fun x w' => x = .returned (.tuple #[.int .i64 ((rdn s p).1 : Int), .int .i64 ((rdn s p).2.1 : Int), .int .i64 (rdn s p).2.2]) ∧ Drawn0 w w' := by
  subst hpi
  obtain ⟨k, hk⟩ := Ev.rounds (read_ev s p hs hp)
  exact corncribref06_read.calls k s p _ _ _ w hk
theorem count_calls (s : ByteArray) (p most : Nat) (pi mi : Int) (hpi : pi = (p : Int)) (hmi : mi = (most : Int)) (hs : s.size ≤ 140737488355328) (hp : p ≤ s.size) (w : World) :
    Calls Try.prog 33 #[.string s, .int .i64 pi, .int .i64 mi] w fun x w' => x = .returned (.tuple #[.int .i64 ((cnt s p most).1 : Int), .int .i64 ((cnt s p most).2.1 : Int), .int .i64 (cnt s p most).2.2]) ∧ Drawn0 w w' := by
  subst hpi hmi
  obtain ⟨k, hk⟩ := Ev.rounds (count_ev s p most hs hp)
  exact corncribref06_count.calls k s p most _ _ _ w hk
end Go.Proofs.Ytjjgpleaidledaa.PackDec

/- The reference's Decode by its contract: what it reads is PackDec.dec. An own text in the printer's form. -/
namespace Go.Proofs.Ytjjgpleaidledaa.Al
open Go.RowKit Go.Proofs.Ytjjgpleaidledaa.Base Go.Proofs.Ytjjgpleaidledaa.PackMath Go.Proofs.Ytjjgpleaidledaa.PackDec Go.Proofs.YtjjgpleaidledaaW.PrintWords Go.Proofs.YtjjgpleaidledaaW.PrintLast Go.Proofs.YtjjgpleaidledaaW.PrintMore
set_option linter.unusedVariables false
set_option linter.unusedSimpArgs false
def corncribref06_Decode.f (a0 : ByteArray) : Option (List Int × List ByteArray × Int × Int) := if a0.size ≤ 140737488355328 then some ((dec a0).1, (dec a0).2.1, ((dec a0).2.2.1 : Int), (dec a0).2.2.2) else none
/-- A pack under way at block gp, the result's block gq still empty. -/
structure PR (w0 W : World) (gp gq : Nat) (xs : List Int) (ts : List ByteArray) (vN vT : Value) : Prop where
  bp : W.heap[gp]? = some (.cells #[vN, vT] 25 (0, 0))
  bq : W.heap[gq]? = some (.cells #[.slice none 0 0, .slice none 0 0] 25 (0, 0))
  gep : w0.heap.size ≤ gp
  geq : w0.heap.size ≤ gq
  ne : gp ≠ gq
  ns : (Kd.int .i64).R 3 W w0.heap.size (fun _ => True) vN xs
  ts : Kd.string.R 9 W w0.heap.size (fun _ => True) vT ts
  bel : Below w0.heap.size w0 W
section
variable {w0 W : World} {gp gq : Nat} {xs : List Int} {ts : List ByteArray} {vN vT : Value}
theorem PR.below {W1 : World} (h : PR w0 W gp gq xs ts vN vT) (hb : Below W.heap.size W W1) : PR w0 W1 gp gq xs ts vN vT where
  bp := blk_below h.bp hb
  bq := blk_below h.bq hb
  gep := h.gep
  geq := h.geq
  ne := h.ne
  ns := Kd.R_below h.ns hb
  ts := Kd.R_below h.ts hb
  bel := below_step h.bel hb
theorem PR.alloc (h : PR w0 W gp gq xs ts vN vT) (o : Obj) : PR w0 (W.alloc o) gp gq xs ts vN vT := h.below (below_alloc (Below.refl _ _) o)
theorem PR.drewN (h : PR w0 W gp gq xs ts vN vT) (m : Nat) : PR w0 (W.drewN m) gp gq xs ts vN vT := h.below (pw_below_drewN (Below.refl _ _) m)
theorem PR.drew (h : PR w0 W gp gq xs ts vN vT) : PR w0 W.drew gp gq xs ts vN vT := h.below (below_drew (Below.refl _ _))
theorem PR.pushN {v1 : Value} {w1 : World} {ys : List Int} (h : PR w0 W gp gq xs ts vN vT) (ho : (Kd.int .i64).R 3 w1 w0.heap.size (fun _ => True) v1 ys) (hb : Below w0.heap.size w0 w1) (hg : W.grownBy w1 vN.ownBlock) :
    w1.heap[gp]? = some (.cells #[vN, vT] 25 (0, 0)) ∧ PR w0 (w1.setCell ⟨gp, 0, none⟩ v1) gp gq ys ts v1 vT := by
  have b1 := blk_grown h.bp hg (Kd.R_ne h.ns h.bp (by decide))
  have q1 := blk_grown h.bq hg (Kd.R_ne h.ns h.bq (by decide))
  have t1 := Kd.R_over h.ts h.ns (by decide) hg
  exact ⟨b1, by simpa using blk_set b1 0 v1, blk_far q1 (p := ⟨gp, 0, none⟩) (Ne.symm h.ne) v1, h.gep, h.geq, h.ne, Kd.R_set ho b1 (by decide) 0 v1, Kd.R_set t1 b1 (by decide) 0 v1, below_set hb h.gep⟩
theorem PR.pushT {v1 : Value} {w1 : World} {ys : List ByteArray} (h : PR w0 W gp gq xs ts vN vT) (ho : Kd.string.R 9 w1 w0.heap.size (fun _ => True) v1 ys) (hb : Below w0.heap.size w0 w1) (hg : W.grownBy w1 vT.ownBlock) :
    w1.heap[gp]? = some (.cells #[vN, vT] 25 (0, 0)) ∧ PR w0 (w1.setCell ⟨gp, 1, none⟩ v1) gp gq xs ys vN v1 := by
  have b1 := blk_grown h.bp hg (Kd.R_ne h.ts h.bp (by decide))
  have q1 := blk_grown h.bq hg (Kd.R_ne h.ts h.bq (by decide))
  have t1 := Kd.R_over h.ns h.ts (by decide) hg
  exact ⟨b1, by simpa using blk_set b1 1 v1, blk_far q1 (p := ⟨gp, 1, none⟩) (Ne.symm h.ne) v1, h.gep, h.geq, h.ne, Kd.R_set t1 b1 (by decide) 1 v1, Kd.R_set ho b1 (by decide) 1 v1, below_set hb h.gep⟩
end
theorem relT_err {s : ByteArray} {m p : Nat} {e : Int} {xs ys : List ByteArray} (h : RelT s m p e xs) (he : e ≠ 0) : RelT s m p e ys := ⟨h.1, fun hc => absurd hc he, h.2.2⟩
theorem relT_skip (s : ByteArray) (h : (st3 s).2.2 ≠ 0) {p : Nat} {e : Int} (h2 : (st2 s).2 = (p, e)) (he : e ≠ 0) : (st4 s).2 = (p, e) := by
  have e3 : st3 s = (0, p, e) := by unfold st3; rw [h2, if_neg he]
  unfold st4
  rw [e3, if_neg he]
theorem st3_err {s : ByteArray} {p : Nat} {e : Int} (h2 : (st2 s).2 = (p, e)) (he : e ≠ 0) : st3 s = (0, p, e) := by unfold st3; rw [h2, if_neg he]
theorem st3_ok {s : ByteArray} {p : Nat} (h2 : (st2 s).2 = (p, 0)) : cnt s p 1024 = st3 s := by unfold st3; rw [h2, if_pos rfl]
theorem zag_odd {n : Nat} (h : n % 2 = 1) : zag n = -((n : Int) / 2) - 1 := by unfold zag; rw [if_pos h]
theorem zag_even {n : Nat} (h : ¬ n % 2 = 1) : zag n = (n : Int) / 2 := by unfold zag; rw [if_neg h]
set_option maxHeartbeats 8000000 in
set_option maxRecDepth 100000 in
theorem corncribref06_Decode.core (s : ByteArray) (hs : s.size ≤ 140737488355328) (w : World) :
    Calls Try.prog 20 #[.string s] w fun e w' => ∃ v0_ v1_ : Value, e = .returned (.tuple #[.agg #[v0_, v1_], .int .i64 ((dec s).2.2.1 : Int), .int .i64 (dec s).2.2.2]) ∧ Kd.R (Kd.int .i64) 3 w' w.heap.size (fun _ => True) v0_ (dec s).1 ∧ Kd.R Kd.string 9 w' w.heap.size (fun _ => True) v1_ (dec s).2.1 ∧ Below w.heap.size w w' := by
  have hu25 := Try.underlying25
  have hc1 := fun (W : World) => count_calls s 0 1024 0 1024 rfl rfl hs (Nat.zero_le _) W
  have e1 : cnt s 0 1024 = st1 s := rfl
  simp only [e1] at hc1
  have HC1 := Aside0.mk hc1
  clear hc1 e1
  go_enter Try.func20, Try.ntmps20
  go_wp2_with (first | ((with_reducible refine gate_dst (N := 2) rfl ?_); (try (refine gate_guard (by rfl) ?_; dsimp only)); refine box_event ?hg (N := 2) ?hd (cs := #[.slice none 0 0, .slice none 0 0]) (t := 25) ?hr ?_; (case hd => rfl); (case hg => rfl); (case hr => first | (go_simp; done) | (go_simp; rfl)); intro gq hgg gqw hbox hb; have GQ := Aside0.mk (Nat.le_of_eq hgg.symm); have BQ := Aside0.mk hbox; have BA := Aside0.mk hb; clear hgg hbox hb) | ((with_reducible refine gate_dst (N := 5) rfl ?_); (try (refine gate_guard (by rfl) ?_; dsimp only)); refine box_event ?hg (N := 5) ?hd (cs := #[.slice none 0 0, .slice none 0 0]) (t := 25) ?hr ?_; (case hd => rfl); (case hg => rfl); (case hr => first | (go_simp; done) | (go_simp; rfl)); intro gp hgg gpw hbox hb; have HP0 : Aside0 (PR w gpw gp gq [] [] (.slice none 0 0) (.slice none 0 0)) := ⟨⟨hbox, blk_below BQ.out hb, by rw [hgg]; exact BA.out.size, GQ.out, by rw [hgg]; exact Nat.ne_of_gt (blk_lt BQ.out), Kd.R_nil _ _ _ _ _, Kd.R_nil _ _ _ _ _, below_step BA.out hb⟩⟩; clear hgg hbox hb) | (go_at_call 33; refine (HC1.out _).mono ?_; rintro x w' ⟨rfl, nd, rfl⟩; have HP1 := Aside0.mk (HP0.out.drewN nd)))
  have hm1 : (st1 s).1 ≤ 1024 := cnt_most
  have HR1 := Aside0.mk (relN_start s)
  generalize (st1 s).1 = m0 at hm1 HR1 ⊢
  generalize (st1 s).2.1 = p0 at HR1 ⊢
  generalize (st1 s).2.2 = e0 at HR1 ⊢
  clear HC1 HP0 BQ BA
  go_loopw [7, 8, 9] (fun v7 v8 v9 wr => ∃ (m p i : Nat) (e : Int) (xs : List Int) (vN : Value), v7 = .int .i64 p ∧ v8 = .int .i64 e ∧ v9 = .int .i64 i ∧ i + m = m0 ∧ xs.length ≤ i ∧ Aside0 (RelN s m p e xs) ∧ Aside0 (PR w wr gp gq xs [] vN (.slice none 0 0))) (fun _ _ v9 _ => m0 - (intOf v9).toNat)
  case atStart => exact ⟨m0, p0, 0, e0, [], _, rfl, rfl, rfl, by omega, Nat.le_refl _, HR1, HP1⟩
  case round =>
    obtain ⟨m, p, i, e, xs, vN, rfl, rfl, rfl, hm, hxl, HR, HP⟩ := hrel
    clear HR1 HP1
    by_cases hc : 0 < m ∧ e = 0
    · obtain ⟨h0, rfl⟩ := hc
      obtain ⟨m, rfl⟩ : ∃ k, m = k + 1 := ⟨m - 1, by omega⟩
      have c1 : decide ((i : Int) < (m0 : Int)) = true := decide_eq_true (by omega)
      have c2 : decide (i < m0) = true := decide_eq_true (by omega)
      have hn0 := rdn_lt s p
      by_cases hodd : (rdn s p).1 % 2 = 1
      · have z := zag_odd hodd
        have HZ := Aside0.mk z
        have t1 : (((rdn s p).1 : Int) % 2 == 1) = true := by simp; omega
        have t2 : (Int.tmod ((rdn s p).1 : Int) 2 == 1) = true := by rw [Int.tmod_eq_emod_of_nonneg (by omega)]; exact t1
        clear z hodd hn0
        go_wp2_with (first | (go_at_call 34; refine (read_calls s p p rfl hs HR.out.1 _).mono ?_; rintro x w' ⟨rfl, nd, rfl⟩; have HP1 := Aside0.mk (HP.out.drewN nd); have hxN : (wr.drewN nd).cell? ⟨gp, 0, none⟩ = some vN := (blk_cell HP1.out.bp 0).trans rfl) | ((with_reducible refine gate_builtin (b := .append) (xs := #[.tmp 45, .tmp 47]) rfl ?_); at_builtin; refine Kd.R_append (Kd.int .i64) (w0 := w) w.heap.size rfl (.tmp 45) (.tmp 47) 22 3 (.int .i64 0) 8 rfl Try.underlying22 info3 rfl (by decide) (by omega) vN xs (wrap64 (wrap64 (-(wrap64 (((rdn s p).1 : Int) / 2))) - 1)) [.int .i64 (wrap64 (wrap64 (-(wrap64 (((rdn s p).1 : Int) / 2))) - 1))] (fun _ => True) (fun _ => False) rfl rfl ?aP (fun _ hk => hk.elim) (fun _ _ => trivial) HP1.out.ns HP1.out.bel HP1.out.bel.size ?aL ?_; (case aP => exact rfl); (case aL => omega); intro v1 w1 ho hb hg hat; obtain ⟨A1, k1, e1⟩ := Kd.R_slice ho; subst e1; obtain ⟨b1, hp2⟩ := HP1.out.pushN ho hb hg; have HP2 := Aside0.mk hp2; have hs0 : w1.cell? ⟨gp, 0, none⟩ = some vN := (blk_cell b1 0).trans rfl; have hf0 := blk_frozen b1 0; clear ho hb hg hat hp2 b1))
        have hz : wrap64 (wrap64 (-(wrap64 (((rdn s p).1 : Int) / 2))) - 1) = zag (rdn s p).1 := by
          have hl := rdn_lt s p
          rw [HZ.out]
          generalize (rdn s p).1 = n at hl
          rw [wrap_id (n := (n : Int) / 2) (by omega) (by omega), wrap_id (n := -((n : Int) / 2)) (by omega) (by omega), wrap_id (by omega) (by omega)]
        have HP3 := HP2.out
        rw [hz] at HP3
        exact ⟨⟨m, (rdn s p).2.1, i + 1, (rdn s p).2.2, xs ++ [zag (rdn s p).1], _, rfl, rfl, rfl, by omega, by simp; omega, ⟨relN_step HR.out⟩, ⟨by simpa using HP3⟩⟩, by simp [intOf]; omega⟩
      · have z := zag_even hodd
        have HZ := Aside0.mk z
        have t1 : (((rdn s p).1 : Int) % 2 == 1) = false := by simp; omega
        have t2 : (Int.tmod ((rdn s p).1 : Int) 2 == 1) = false := by rw [Int.tmod_eq_emod_of_nonneg (by omega)]; exact t1
        clear z hodd hn0
        go_wp2_with (first | (go_at_call 34; refine (read_calls s p p rfl hs HR.out.1 _).mono ?_; rintro x w' ⟨rfl, nd, rfl⟩; have HP1 := Aside0.mk (HP.out.drewN nd); have hxN : (wr.drewN nd).cell? ⟨gp, 0, none⟩ = some vN := (blk_cell HP1.out.bp 0).trans rfl) | ((with_reducible refine gate_builtin (b := .append) (xs := #[.tmp 45, .tmp 47]) rfl ?_); at_builtin; refine Kd.R_append (Kd.int .i64) (w0 := w) w.heap.size rfl (.tmp 45) (.tmp 47) 22 3 (.int .i64 0) 8 rfl Try.underlying22 info3 rfl (by decide) (by omega) vN xs (wrap64 (((rdn s p).1 : Int) / 2)) [.int .i64 (wrap64 (((rdn s p).1 : Int) / 2))] (fun _ => True) (fun _ => False) rfl rfl ?aP (fun _ hk => hk.elim) (fun _ _ => trivial) HP1.out.ns HP1.out.bel HP1.out.bel.size ?aL ?_; (case aP => exact rfl); (case aL => omega); intro v1 w1 ho hb hg hat; obtain ⟨A1, k1, e1⟩ := Kd.R_slice ho; subst e1; obtain ⟨b1, hp2⟩ := HP1.out.pushN ho hb hg; have HP2 := Aside0.mk hp2; have hs0 : w1.cell? ⟨gp, 0, none⟩ = some vN := (blk_cell b1 0).trans rfl; have hf0 := blk_frozen b1 0; clear ho hb hg hat hp2 b1))
        have hz : wrap64 (((rdn s p).1 : Int) / 2) = zag (rdn s p).1 := by
          have hl := rdn_lt s p
          rw [HZ.out]
          generalize (rdn s p).1 = n at hl
          rw [wrap_id (by omega) (by omega)]
        have HP3 := HP2.out
        rw [hz] at HP3
        exact ⟨⟨m, (rdn s p).2.1, i + 1, (rdn s p).2.2, xs ++ [zag (rdn s p).1], _, rfl, rfl, rfl, by omega, by simp; omega, ⟨relN_step HR.out⟩, ⟨by simpa using HP3⟩⟩, by simp [intOf]; omega⟩
    · obtain ⟨x1, x2, x3⟩ := relN_exit HR.out (by omega)
      have HX1 := Aside0.mk x1
      have HX2 := Aside0.mk x2
      by_cases he : e = 0
      · subst he
        obtain rfl : m = 0 := by omega
        have c1 : decide ((i : Int) < (m0 : Int)) = false := decide_eq_false (by omega)
        have c2 : decide (i < m0) = false := decide_eq_false (by omega)
        have hc3 := fun (W : World) => count_calls s p 1024 p 1024 rfl rfl hs x3 W
        simp only [st3_ok x1] at hc3
        have HC3 := Aside0.mk hc3
        have HM3 := Aside0.mk (st3_most s)
        have HR3 := Aside0.mk (relT_start s)
        clear x1 x2 x3 hc3 HR hc
        go_wp2_with (first | (go_at_call 33; refine (HC3.out _).mono ?_; rintro x w' ⟨rfl, nd, rfl⟩; have HP3 := Aside0.mk (HP.out.drewN nd)))
        have hm3 := HM3.out
        clear HM3
        generalize hg1 : (st3 s).1 = m1 at hm3 HR3 ⊢
        generalize hg2 : (st3 s).2.1 = p1 at HR3 ⊢
        generalize hg3 : (st3 s).2.2 = e1 at HR3 ⊢
        clear hg1 hg2 hg3 HC3 HP
        generalize wr.drewN nd = wo at HP3 ⊢
        go_loopw [7, 8, 12] (fun v7 v8 v12 wr => ∃ (m p i : Nat) (e : Int) (ts : List ByteArray) (vT : Value), v7 = .int .i64 p ∧ v8 = .int .i64 e ∧ v12 = .int .i64 i ∧ i + m = m1 ∧ ts.length ≤ i ∧ Aside0 (RelT s m p e ts) ∧ Aside0 (PR w wr gp gq xs ts vN vT)) (fun _ _ v12 _ => m1 - (intOf v12).toNat)
        case atStart => exact ⟨m1, p1, 0, e1, [], _, rfl, rfl, rfl, by omega, Nat.le_refl _, HR3, HP3⟩
        case round =>
          clear HR3 HP3
          obtain ⟨m, p, i, e, ts, vT, rfl, rfl, rfl, hm, htl, HR, HP⟩ := hrel
          by_cases hc : 0 < m ∧ e = 0
          · obtain ⟨h0, rfl⟩ := hc
            obtain ⟨m, rfl⟩ : ∃ k, m = k + 1 := ⟨m - 1, by omega⟩
            have c1 : decide ((i : Int) < (m1 : Int)) = true := decide_eq_true (by omega)
            have c2 : decide (i < m1) = true := decide_eq_true (by omega)
            have HS := Aside0.mk (relT_step HR.out)
            have htx : txt s p = if (cnt s p 4096).2.2 = 0 then (if s.size - (cnt s p 4096).2.1 < (cnt s p 4096).1 then (⟨#[]⟩, s.size, 50) else (s.extract (cnt s p 4096).2.1 ((cnt s p 4096).2.1 + (cnt s p 4096).1), (cnt s p 4096).2.1 + (cnt s p 4096).1, 0)) else (⟨#[]⟩, (cnt s p 4096).2.1, (cnt s p 4096).2.2) := rfl
            have hc4 := fun (W : World) => count_calls s p 4096 p 4096 rfl rfl hs HR.out.1 W
            have hle := cnt_le (most := 4096) HR.out.1
            have hmo := cnt_most (s := s) (p := p) (most := 4096)
            have HC4 := Aside0.mk hc4
            clear hc4
            generalize (cnt s p 4096).1 = n at htx hmo HC4
            generalize (cnt s p 4096).2.1 = q at htx hle HC4
            generalize (cnt s p 4096).2.2 = e' at htx HC4
            by_cases he' : e' = 0
            · subst he'
              rw [if_pos rfl] at htx
              by_cases hl : s.size - q < n
              · rw [if_pos hl] at htx
                rw [htx] at HS
                have c3 : decide ((s.size : Int) - (q : Int) < (n : Int)) = true := decide_eq_true (by omega)
                clear htx hl
                go_wp2_with (first | (go_at_call 33; refine (HC4.out _).mono ?_; rintro x w' ⟨rfl, nd, rfl⟩; have HP4 := Aside0.mk (HP.out.drewN nd)))
                exact ⟨⟨m, s.size, i + 1, 50, ts, _, rfl, rfl, rfl, by omega, by omega, ⟨relT_err HS.out (by decide)⟩, HP4⟩, by simp [intOf]; omega⟩
              · rw [if_neg hl] at htx
                rw [htx] at HS
                have c3 : decide ((s.size : Int) - (q : Int) < (n : Int)) = false := decide_eq_false (by omega)
                clear htx
                go_wp2_with (first | (go_at_call 33; refine (HC4.out _).mono ?_; rintro x w' ⟨rfl, nd, rfl⟩; have HP4 := Aside0.mk (HP.out.drewN nd)))
                have HPd := Aside0.mk HP4.out.drew
                have hxT : (wr.drewN nd).drew.cell? ⟨gp, 1, none⟩ = some vT := (blk_cell HPd.out.bp 1).trans rfl
                have hxT2 : ∀ o : Obj, ((wr.drewN nd).drew.alloc o).cell? ⟨gp, 1, none⟩ = some vT := fun o => (blk_cell (HPd.out.alloc o).bp 1).trans rfl
                have i1 : (0 : Int) ≤ (q : Int) := by omega
                have i2 : (q : Int) ≤ (q : Int) + (n : Int) := by omega
                have i3 : (q : Int) + (n : Int) ≤ (s.size : Int) := by omega
                have i4 : ((q : Int) + (n : Int)).toNat = q + n := by omega
                have i5 : q + n ≤ s.size := by omega
                have i6 : IntKind.i64.wrap ((q : Int) + (n : Int)) = (q : Int) + (n : Int) := by rw [IntKind.wrap_i64]; omega
                have i7 : wrap64 ((q : Int) + (n : Int)) = (q : Int) + (n : Int) := by rw [wrap_id (by omega) (by omega)]
                generalize hW : (wr.drewN nd).drew = wd at HPd hxT hxT2
                generalize hW2 : wr.drewN nd = we at *
                go_region_law (refine Kd.R_append_step Kd.string (w0 := w) w.heap.size (by rfl) (.tmp 90) (.tmp 97) 23 9 (.string ⟨#[]⟩) 16 (by rfl) Try.underlying23 info9 rfl (by decide) (by omega) vT ts (s.extract q (q + n)) [.string (s.extract q (q + n))] (fun _ => True) (fun _ => False) (by rfl) (by rfl) rfl (fun _ hk => hk.elim) (fun _ _ => trivial) HPd.out.ts HPd.out.bel HPd.out.bel.size (by omega) ?_; intro v1 w1 ho hb hg hat; obtain ⟨A1, k1, e1⟩ := Kd.R_slice ho; subst e1; obtain ⟨b1, hp2⟩ := HPd.out.pushT ho hb hg; have HP2 := Aside0.mk hp2; have hs0 : w1.cell? ⟨gp, 1, none⟩ = some vT := (blk_cell b1 1).trans rfl; have hf0 := blk_frozen b1 1; clear ho hb hg hat hp2 b1)
                all_goals (go_wp2_with fail; (have HP3 := HP2.out; exact ⟨⟨m, q + n, i + 1, 0, ts ++ [s.extract q (q + n)], _, by go_num, rfl, rfl, by omega, by simp; omega, HS, ⟨by simpa using HP3⟩⟩, by simp [intOf]; omega⟩))
            · rw [if_neg he'] at htx
              rw [htx] at HS
              have he2 : (e' == 0) = false := by simpa using he'
              clear htx
              go_wp2_with (first | (go_at_call 33; refine (HC4.out _).mono ?_; rintro x w' ⟨rfl, nd, rfl⟩; have HP4 := Aside0.mk (HP.out.drewN nd)))
              exact ⟨⟨m, q, i + 1, e', ts, _, rfl, rfl, rfl, by omega, by omega, ⟨relT_err HS.out he'⟩, HP4⟩, by simp [intOf]; omega⟩
          · obtain ⟨y1, y2, y3⟩ := relT_exit HR.out (by omega)
            have hq0 : wr.cell? ⟨gq, 0, none⟩ = some (.slice none 0 0) := (blk_cell HP.out.bq 0).trans rfl
            have hq1 : wr.cell? ⟨gq, 1, none⟩ = some (.slice none 0 0) := (blk_cell HP.out.bq 1).trans rfl
            have hf0 := blk_frozen HP.out.bq 0
            have hf1 := blk_frozen HP.out.bq 1
            have hne : gp ≠ gq := HP.out.ne
            have hne2 : gq ≠ gp := Ne.symm hne
            by_cases he : e = 0
            · subst he
              obtain rfl : m = 0 := by omega
              have c1 : decide ((i : Int) < (m1 : Int)) = false := decide_eq_false (by omega)
              have c2 : decide (i < m1) = false := decide_eq_false (by omega)
              by_cases hl : p < s.size
              · have hd : dec s = ([], [], p, 3) := by rw [dec_st, y1]; simp [hl]
                have HD := Aside0.mk hd
                have c3 : decide ((p : Int) < (s.size : Int)) = true := decide_eq_true (by omega)
                have c4 : decide (p < s.size) = true := decide_eq_true hl
                clear hd hc y1 y2 y3 hl
                go_wp2
                have bk := blk_set (blk_set HP.out.bq 0 (.slice none 0 0)) 1 (.slice none 0 0)
                refine bodyPost_ret (results_ctt rfl _ _ gq 25 #[.slice none 0 0, .slice none 0 0] (0, 0) _ rfl (by simpa using bk) Try.underlying25 rfl (by kernel_rfl)) rfl ?_
                rw [HD.out]
                exact ⟨_, _, rfl, Kd.R_nil _ _ _ _ _, Kd.R_nil _ _ _ _ _, below_set (below_set HP.out.bel HP.out.geq) HP.out.geq⟩
              · have hd : dec s = (xs, ts, 0, 0) := by
                  rw [dec_st, y1]
                  simp only [if_true]
                  rw [if_neg hl, y2 rfl, HX2.out trivial]
                have HD := Aside0.mk hd
                have c3 : decide ((p : Int) < (s.size : Int)) = false := decide_eq_false (by omega)
                have c4 : decide (p < s.size) = false := decide_eq_false hl
                obtain ⟨AN, kN, eN⟩ := Kd.R_slice HP.out.ns
                obtain ⟨AT, kT, eT⟩ := Kd.R_slice HP.out.ts
                subst eN eT
                have hp0 : wr.cell? ⟨gp, 0, none⟩ = some (.slice AN xs.length kN) := (blk_cell HP.out.bp 0).trans rfl
                have hp1 : wr.cell? ⟨gp, 1, none⟩ = some (.slice AT ts.length kT) := (blk_cell HP.out.bp 1).trans rfl
                clear hd hc y1 y2 y3 hl
                go_wp2
                have bk := blk_set (blk_set HP.out.bq 0 (.slice AN xs.length kN)) 1 (.slice AT ts.length kT)
                refine bodyPost_ret (results_ctt rfl _ _ gq 25 #[.slice AN xs.length kN, .slice AT ts.length kT] (0, 0) _ rfl (by simpa using bk) Try.underlying25 rfl (by kernel_rfl)) rfl ?_
                rw [HD.out]
                exact ⟨_, _, rfl, Kd.R_set (Kd.R_set HP.out.ns HP.out.bq (by decide) 0 _) (blk_set HP.out.bq 0 _) (by decide) 1 _, Kd.R_set (Kd.R_set HP.out.ts HP.out.bq (by decide) 0 _) (blk_set HP.out.bq 0 _) (by decide) 1 _, below_set (below_set HP.out.bel HP.out.geq) HP.out.geq⟩
            · have hd : dec s = ([], [], p, e) := by rw [dec_st, y1]; simp [he]
              have HD := Aside0.mk hd
              have he1 : (e == 0) = false := by simpa using he
              have he2 : (e != 0) = true := by simpa using he
              clear hd hc y1 y2 y3 he
              go_wp2
              have bk := blk_set (blk_set HP.out.bq 0 (.slice none 0 0)) 1 (.slice none 0 0)
              refine bodyPost_ret (results_ctt rfl _ _ gq 25 #[.slice none 0 0, .slice none 0 0] (0, 0) _ rfl (by simpa using bk) Try.underlying25 rfl (by kernel_rfl)) rfl ?_
              rw [HD.out]
              exact ⟨_, _, rfl, Kd.R_nil _ _ _ _ _, Kd.R_nil _ _ _ _ _, below_set (below_set HP.out.bel HP.out.geq) HP.out.geq⟩
      · have hd : dec s = ([], [], p, e) := by
          have e3 := st3_err x1 he
          have e4 : (st4 s).2 = (p, e) := relT_skip s (by rw [e3]; exact he) x1 he
          rw [dec_st, e4]; simp [he]
        have HD := Aside0.mk hd
        have he1 : (e == 0) = false := by simpa using he
        have he2 : (e != 0) = true := by simpa using he
        clear hd hc x1 x2 x3 he
        go_wp2_with fail
        obtain ⟨wo, rfl⟩ : ∃ wo : World, wo = wr := ⟨_, rfl⟩
        go_loopw [7, 8, 12] (fun v7 v8 v12 wr => v7 = .int .i64 p ∧ v8 = .int .i64 e ∧ v12 = .int .i64 0 ∧ Aside0 (PR w wr gp gq xs [] vN (.slice none 0 0))) (fun _ _ _ _ => 0)
        case atStart => exact ⟨rfl, rfl, rfl, HP⟩
        case round =>
          clear HP
          obtain ⟨rfl, rfl, rfl, HP⟩ := hrel
          have hq0 : wr.cell? ⟨gq, 0, none⟩ = some (.slice none 0 0) := (blk_cell HP.out.bq 0).trans rfl
          have hq1 : wr.cell? ⟨gq, 1, none⟩ = some (.slice none 0 0) := (blk_cell HP.out.bq 1).trans rfl
          have hf0 := blk_frozen HP.out.bq 0
          have hf1 := blk_frozen HP.out.bq 1
          have hne : gp ≠ gq := HP.out.ne
          have hne2 : gq ≠ gp := Ne.symm hne
          go_wp2
          have bk := blk_set (blk_set HP.out.bq 0 (.slice none 0 0)) 1 (.slice none 0 0)
          refine bodyPost_ret (results_ctt rfl _ _ gq 25 #[.slice none 0 0, .slice none 0 0] (0, 0) _ rfl (by simpa using bk) Try.underlying25 rfl (by kernel_rfl)) rfl ?_
          rw [HD.out]
          exact ⟨_, _, rfl, Kd.R_nil _ _ _ _ _, Kd.R_nil _ _ _ _ _, below_set (below_set HP.out.bel HP.out.geq) HP.out.geq⟩
theorem corncribref06_Decode.calls (a0 : ByteArray) (r1 : List Int) (r2 : List ByteArray) (r3 : Int) (r4 : Int) (w : World) (h : corncribref06_Decode.f a0 = some (r1, r2, r3, r4)) :
    Calls Try.prog 20 #[.string a0] w fun e w' => ∃ v0_ v1_ : Value, e = .returned (.tuple #[.agg #[v0_, v1_], .int .i64 r3, .int .i64 r4]) ∧ Kd.R (Kd.int .i64) 3 w' w.heap.size (fun _ => True) v0_ r1 ∧ Kd.R Kd.string 9 w' w.heap.size (fun _ => True) v1_ r2 ∧ Below w.heap.size w w' := by
  unfold corncribref06_Decode.f at h
  split at h
  case isFalse => cases h
  rename_i hs
  simp only [Option.some.injEq, Prod.mk.injEq] at h
  obtain ⟨rfl, rfl, rfl, rfl⟩ := h
  exact corncribref06_Decode.core a0 hs w
end Go.Proofs.Ytjjgpleaidledaa.Al

/- What the functions of the package pack compute: the bytes of PackMath. -/
namespace Go.Proofs.Ytjjgpleaidledaa.PackFns
open Go.RowKit Go.Proofs.Ytjjgpleaidledaa.Base Go.Proofs.Ytjjgpleaidledaa.PackMath Go.Proofs.Ytjjgpleaidledaa.Al Go.Proofs.YtjjgpleaidledaaW.PrintWords

theorem may_eq (n : Int) : pack_may.f n = some (okNum n) := by
  unfold pack_may.f okNum
  by_cases h : n ≥ -4611686018427387904
  · rw [if_pos h, decide_eq_true (show (-4611686018427387904 : Int) ≤ n from h)]; rfl
  · rw [if_neg h, decide_eq_false (show ¬ (-4611686018427387904 : Int) ≤ n from h)]; rfl
theorem step_byte (n : Nat) : (((Int.tmod (n : Int) 128) % 256) + 128) % 256 = ((n % 128 + 128 : Nat) : Int) := by
  rw [Int.tmod_eq_emod_of_nonneg (by omega)]; omega
theorem step_rest (n : Nat) : Int.tdiv (n : Int) 128 = ((n / 128 : Nat) : Int) := by
  rw [Int.tdiv_eq_ediv_of_nonneg (by omega)]; omega
theorem put_int_l0 : ∀ (n : Nat) (xs : List Int), n < 9223372036854775808 → xs.length + (plain n).length ≤ 140737488355328 → Ev (fun k => pack_put_int.l0 k xs (n : Int)) (xs ++ plain n) := by
  intro n
  induction n using Nat.strongRecOn with
  | ind n ih =>
    intro xs hn hx
    by_cases h1 : n < 128
    · rw [plain_small h1] at hx ⊢
      simp at hx
      refine Ev.step (fun k => by simp only [pack_put_int.l0]; rw [if_neg (by omega), if_pos (by omega)]) ?_
      rw [show (n : Int) % 256 = n from by omega]
      exact Ev.now _
    · rw [plain_big (by omega)] at hx ⊢
      simp at hx
      refine Ev.step (fun k => by simp only [pack_put_int.l0]; rw [if_pos (by omega), if_pos (by omega)]) ?_
      rw [step_byte, step_rest, wrap_id (by omega) (by omega)]
      have := ih (n / 128) (by omega) (xs ++ [((n % 128 + 128 : Nat) : Int)]) (by omega) (by simp; omega)
      simpa using this
theorem put_u64_l0 : ∀ (n : Nat) (xs : List Int), n < 18446744073709551616 → xs.length + (plain n).length ≤ 140737488355328 → Ev (fun k => pack_put_uint64.l0 k xs (n : Int)) (xs ++ plain n) := by
  intro n
  induction n using Nat.strongRecOn with
  | ind n ih =>
    intro xs hn hx
    by_cases h1 : n < 128
    · rw [plain_small h1] at hx ⊢
      simp at hx
      refine Ev.step (fun k => by simp only [pack_put_uint64.l0]; rw [if_neg (by omega), if_pos (by omega)]) ?_
      rw [show (n : Int) % 256 = n from by omega]
      exact Ev.now _
    · rw [plain_big (by omega)] at hx ⊢
      simp at hx
      refine Ev.step (fun k => by simp only [pack_put_uint64.l0]; rw [if_pos (by omega), if_pos (by omega)]) ?_
      rw [step_byte, step_rest, IntKind.wrap_u64, show (((n / 128 : Nat) : Int) % 18446744073709551616) = ((n / 128 : Nat) : Int) from by omega]
      have := ih (n / 128) (by omega) (xs ++ [((n % 128 + 128 : Nat) : Int)]) (by omega) (by simp; omega)
      simpa using this
theorem put_int_ev (n : Nat) (xs : List Int) (hn : n < 9223372036854775808) (hx : xs.length ≤ 140737488355300) : Ev (fun k => pack_put_int.f k xs (n : Int)) (xs ++ plain n) :=
  put_int_l0 n xs hn (by have := plain_len9 hn; omega)
/-- The bits of a signed number, as the program turns them. -/
theorem zig_go (n : Int) (h0 : -4611686018427387904 ≤ n) (h1 : n ≤ 4611686018427387903) : Go.bits .xor .u64 (IntKind.u64.wrap ((IntKind.u64.wrap n) * 2)) (IntKind.u64.wrap (n / 9223372036854775808)) = (zig n : Int) := by
  rw [IntKind.wrap_u64, IntKind.wrap_u64, IntKind.wrap_u64]
  by_cases hn : n < 0
  · obtain ⟨m, hm⟩ : ∃ m : Nat, n = -(m : Int) - 1 := ⟨(-n - 1).toNat, by omega⟩
    have e1 : (n % 18446744073709551616 * 2) % 18446744073709551616 = ((18446744073709551616 - 2 * (m + 1) : Nat) : Int) := by omega
    have e2 : (n / 9223372036854775808) % 18446744073709551616 = ((18446744073709551615 : Nat) : Int) := by omega
    rw [e1, e2, bits_xor_u64_nat _ _ (by omega) (by omega)]
    have e3 : (18446744073709551616 - 2 * (m + 1)) ^^^ 18446744073709551615 = 2 * m + 1 := by
      have hb := BitVec.toNat_not (x := BitVec.ofNat 64 (18446744073709551616 - 2 * (m + 1)))
      rw [← BitVec.xor_allOnes, BitVec.toNat_xor, BitVec.toNat_ofNat, BitVec.toNat_allOnes, Nat.mod_eq_of_lt (by omega)] at hb
      rw [show (18446744073709551615 : Nat) = 2 ^ 64 - 1 from rfl, hb]
      omega
    rw [e3]
    unfold zig
    rw [if_pos hn]
    omega
  · have e1 : (n % 18446744073709551616 * 2) % 18446744073709551616 = (((2 * n).toNat : Nat) : Int) := by omega
    have e2 : (n / 9223372036854775808) % 18446744073709551616 = ((0 : Nat) : Int) := by omega
    rw [e1, e2, bits_xor_u64_nat _ _ (by omega) (by omega), Nat.xor_zero]
    unfold zig
    rw [if_neg hn]
theorem signed_ev (n : Int) (xs : List Int) (h0 : -4611686018427387904 ≤ n) (h1 : n ≤ 4611686018427387903) (hx : xs.length ≤ 140737488355300) : Ev (fun k => pack_signed.f k xs n) (xs ++ signed n) := by
  have hz := zig_lt h0 h1
  unfold pack_signed.f
  rw [zig_go n h0 h1]
  exact Ev.bind (put_u64_l0 (zig n) xs (by omega) (by have := plain_len9 hz; omega)) (Ev.now _)

/-- Check. -/
theorem check_l1 (texts : List ByteArray) (ht : texts.length ≤ 1024) : ∀ (d i : Nat), i + d = texts.length → Ev (fun k => pack_Check.l1 k texts (texts.length : Int) (i : Int)) (if (texts.drop i).all okText = false then 2 else 0)
  | 0, i, h => by
    rw [List.drop_of_length_le (by omega), if_neg (by simp)]
    exact Ev.step (fun k => by simp only [pack_Check.l1]; rw [if_neg (by omega)]) (Ev.now _)
  | d + 1, i, h => by
    have hi : i < texts.length := by omega
    have e : wrap64 ((i : Int) + 1) = ((i + 1 : Nat) : Int) := by rw [wrap_id (by omega) (by omega)]; omega
    have hr : rdOf ByteArray.empty texts (i : Int) = texts[i] := by simp [rdOf, List.getD_eq_getElem?_getD, hi]
    have ih := check_l1 texts ht d (i + 1) (by omega)
    rw [List.drop_eq_getElem_cons hi, List.all_cons]
    refine Ev.step (fun k => by simp only [pack_Check.l1]; rw [if_pos (by omega), if_pos (by omega), if_pos (by omega), hr, e]) ?_
    by_cases hs : texts[i].size ≤ 4096
    · rw [okText_iff.2 hs, Bool.true_and]
      exact Ev.neg (by omega) ih
    · rw [show okText texts[i] = false from by simpa [okText] using hs, Bool.false_and, if_pos rfl]
      exact Ev.pos (by omega) (Ev.now _)
theorem check_l0 (nums : List Int) (texts : List ByteArray) (hn : nums.length ≤ 1024) (ht : texts.length ≤ 1024) : ∀ (d i : Nat), i + d = nums.length →
    Ev (fun k => pack_Check.l0 k nums (nums.length : Int) (i : Int) nums texts) (if (nums.drop i).all okNum = false then 1 else if texts.all okText = false then 2 else 0)
  | 0, i, h => by
    rw [List.drop_of_length_le (by omega), if_neg (by simp)]
    refine Ev.step (fun k => by simp only [pack_Check.l0]; rw [if_neg (by omega)]) ?_
    simpa using check_l1 texts ht texts.length 0 (by omega)
  | d + 1, i, h => by
    have hi : i < nums.length := by omega
    have e : wrap64 ((i : Int) + 1) = ((i + 1 : Nat) : Int) := by rw [wrap_id (by omega) (by omega)]; omega
    have hr : rd nums (i : Int) = nums[i] := by simp [rd, List.getD_eq_getElem?_getD, hi]
    have ih := check_l0 nums texts hn ht d (i + 1) (by omega)
    rw [List.drop_eq_getElem_cons hi, List.all_cons]
    refine Ev.step (fun k => by simp only [pack_Check.l0]; rw [if_pos (by omega), if_pos (by omega), if_pos (by omega), hr, e, may_eq]) ?_
    cases ho : okNum nums[i] with
    | true => rw [Bool.true_and]; exact Ev.some_bind (Ev.pos rfl ih)
    | false => rw [Bool.false_and, if_pos rfl]; exact Ev.some_bind (Ev.neg (by simp) (Ev.now _))
theorem check_ev (nums : List Int) (texts : List ByteArray) : Ev (fun k => pack_Check.f k nums texts) (chk nums texts) := by
  unfold pack_Check.f chk
  by_cases h1 : 1024 < nums.length
  · rw [if_pos (Or.inl h1)]
    exact Ev.pos (by omega) (Ev.step (fun k => by simp only [pack_Check.j0, if_true]) (Ev.now _))
  refine Ev.neg (by omega) ?_
  by_cases h2 : 1024 < texts.length
  · rw [if_pos (Or.inr h2), decide_eq_true (by omega)]
    exact Ev.step (fun k => by simp only [pack_Check.j0, if_true]) (Ev.now _)
  rw [if_neg (by omega), decide_eq_false (by omega)]
  refine Ev.step (fun k => by simp only [pack_Check.j0]; rw [if_neg (by simp)]) ?_
  simpa using check_l0 nums texts (by omega) (by omega) nums.length 0 (by omega)

/-- Encode. -/
theorem enc_l1 (texts : List ByteArray) (ht : texts.length ≤ 1024) (hs : ∀ s ∈ texts, s.size ≤ 4096) : ∀ (d i : Nat) (xs : List Int), i + d = texts.length → xs.length + 4105 * d ≤ 100000000 →
    Ev (fun k => pack_Encode.l1 k xs texts (texts.length : Int) (i : Int)) (strOfNums (xs ++ tails (texts.drop i)), 0)
  | 0, i, xs, h, hx => by
    rw [List.drop_of_length_le (by omega)]
    refine Ev.step (fun k => by simp only [pack_Encode.l1]; rw [if_neg (by omega)]) ?_
    rw [show tails [] = [] from rfl, List.append_nil]
    exact Ev.now _
  | d + 1, i, xs, h, hx => by
    have hi : i < texts.length := by omega
    have e : wrap64 ((i : Int) + 1) = ((i + 1 : Nat) : Int) := by rw [wrap_id (by omega) (by omega)]; omega
    have hr : rdOf ByteArray.empty texts (i : Int) = texts[i] := by simp [rdOf, List.getD_eq_getElem?_getD, hi]
    have hz := hs _ (List.getElem_mem hi)
    have hp : (plain texts[i].size).length ≤ 9 := plain_len9 (by omega)
    have ih := enc_l1 texts ht hs d (i + 1) (xs ++ plain texts[i].size ++ bytesOf texts[i]) (by omega) (by simp only [List.length_append, bytesOf_length]; omega)
    rw [List.drop_eq_getElem_cons hi]
    have et : tails (texts[i] :: texts.drop (i + 1)) = plain texts[i].size ++ bytesOf texts[i] ++ tails (texts.drop (i + 1)) := rfl
    rw [et]
    refine Ev.step (fun k => by simp only [pack_Encode.l1]; rw [if_pos (by omega), if_pos (by omega), if_pos (by omega), hr, e]) ?_
    refine Ev.bind (put_int_ev texts[i].size xs (by omega) (by omega)) (Ev.pos (by rw [List.length_append]; omega) ?_)
    simpa using ih
theorem enc_l0 (nums : List Int) (texts : List ByteArray) (hn : nums.length ≤ 1024) (ht : texts.length ≤ 1024) (hm : ∀ n ∈ nums, -4611686018427387904 ≤ n ∧ n ≤ 4611686018427387903) (hs : ∀ s ∈ texts, s.size ≤ 4096) : ∀ (d i : Nat) (xs : List Int), i + d = nums.length → xs.length + 9 * d ≤ 10000000 →
    Ev (fun k => pack_Encode.l0 k xs nums (nums.length : Int) (i : Int) nums texts) (strOfNums (xs ++ body (nums.drop i) ++ plain texts.length ++ tails texts), 0)
  | 0, i, xs, h, hx => by
    rw [List.drop_of_length_le (by omega)]
    have hp : (plain texts.length).length ≤ 9 := plain_len9 (by omega)
    refine Ev.step (fun k => by simp only [pack_Encode.l0]; rw [if_neg (by omega)]) ?_
    refine Ev.bind (put_int_ev texts.length xs (by omega) (by omega)) ?_
    have := enc_l1 texts ht hs texts.length 0 (xs ++ plain texts.length) (by omega) (by rw [List.length_append]; omega)
    simpa [body] using this
  | d + 1, i, xs, h, hx => by
    have hi : i < nums.length := by omega
    have e : wrap64 ((i : Int) + 1) = ((i + 1 : Nat) : Int) := by rw [wrap_id (by omega) (by omega)]; omega
    have hr : rd nums (i : Int) = nums[i] := by simp [rd, List.getD_eq_getElem?_getD, hi]
    have hz := hm _ (List.getElem_mem hi)
    have hp : (signed nums[i]).length ≤ 9 := plain_len9 (zig_lt hz.1 hz.2)
    have ih := enc_l0 nums texts hn ht hm hs d (i + 1) (xs ++ signed nums[i]) (by omega) (by rw [List.length_append]; omega)
    rw [List.drop_eq_getElem_cons hi]
    have et : body (nums[i] :: nums.drop (i + 1)) = signed nums[i] ++ body (nums.drop (i + 1)) := rfl
    rw [et]
    refine Ev.step (fun k => by simp only [pack_Encode.l0]; rw [if_pos (by omega), if_pos (by omega), if_pos (by omega), hr, e]) ?_
    refine Ev.bind (signed_ev nums[i] xs hz.1 hz.2 (by omega)) ?_
    simpa using ih
/-- What Encode answers. -/
def encB (nums : List Int) (texts : List ByteArray) : ByteArray × Int := if chk nums texts = 0 then (strOfNums (enc nums texts), 0) else (⟨#[]⟩, chk nums texts)
theorem encode_ev (nums : List Int) (texts : List ByteArray) : Ev (fun k => pack_Encode.f k nums texts) (encB nums texts) := by
  unfold pack_Encode.f encB
  refine Ev.bind (check_ev nums texts) ?_
  by_cases h : chk nums texts = 0
  · obtain ⟨h1, h2, h3, h4⟩ := chk_ok h
    rw [if_pos h]
    have hp : (plain nums.length).length ≤ 9 := plain_len9 (by omega)
    refine Ev.pos h (Ev.bind (put_int_ev nums.length [] (by omega) (by simp)) ?_)
    have := enc_l0 nums texts h1 h2 h3 h4 nums.length 0 ([] ++ plain nums.length) (by omega) (by simp; omega)
    simpa [enc] using this
  · rw [if_neg h]
    exact Ev.neg h (Ev.now _)
end Go.Proofs.Ytjjgpleaidledaa.PackFns

/- One function of the program comes to what its plain twin says. This text began as the kit's own print (print.py, made by cprint.sh) and was turned by split.py: it is no printed file. -/
namespace Go.Proofs.Ytjjgpleaidledaa.Al
open Go.RowKit Go.Proofs.YtjjgpleaidledaaW.PrintWords Go.Proofs.YtjjgpleaidledaaW.PrintLast Go.Proofs.YtjjgpleaidledaaW.PrintMore
attribute [local go_sem] max2_int min2_int max_two min_two max_three min_three max_four min_four   -- for this text's walks alone
set_option linter.unusedVariables false
set_option linter.unusedSimpArgs false

/-! ### corncribref06_num: function 26 -/
def corncribref06_num.f (a0 : Int) : Option (Bool) := if a0 ≥ (-4611686018427387904) then (some (decide (a0 ≤ 4611686018427387903))) else (some false)
set_option maxHeartbeats 8000000 in
set_option maxRecDepth 100000 in
theorem corncribref06_num.calls (a0 : Int) (r : Bool) (w : World) (h : corncribref06_num.f a0 = some r) :
    Calls Try.prog 26 #[.int .i64 a0] w fun e w' => e = .returned (.bool r) ∧ Drawn0 w w' := by
  have H : (if a0 ≥ (-4611686018427387904) then (some (decide (a0 ≤ 4611686018427387903))) else (some false)) = some r := h
  clear h
  by_cases c2 : a0 ≥ (-4611686018427387904)
  · rw [if_pos c2] at H
    have c2b0 : decide ((-4611686018427387904) ≤ a0) = true := decide_eq_true c2
    clear c2
    obtain rfl := Option.some.inj H
    go_enter Try.func26, Try.ntmps26
    go_wp2
    go_ret
    exact ⟨by first | rfl | (simp; done) | (simp [*]; done), by repeat (first | exact Drawn0.refl _ | apply Drawn0.step)⟩
  · rw [if_neg c2] at H
    have c2b0 : decide ((-4611686018427387904) ≤ a0) = false := decide_eq_false c2
    clear c2
    obtain rfl := Option.some.inj H
    go_enter Try.func26, Try.ntmps26
    go_wp2
    go_ret
    exact ⟨by first | rfl | (simp; done) | (simp [*]; done), by repeat (first | exact Drawn0.refl _ | apply Drawn0.step)⟩

end Go.Proofs.Ytjjgpleaidledaa.Al

/- One function of the program comes to what its plain twin says. This text began as the kit's own print (print.py, made by cprint.sh) and was turned by split.py: it is no printed file. -/
namespace Go.Proofs.Ytjjgpleaidledaa.Al
open Go.RowKit Go.Proofs.YtjjgpleaidledaaW.PrintWords Go.Proofs.YtjjgpleaidledaaW.PrintLast Go.Proofs.YtjjgpleaidledaaW.PrintMore
attribute [local go_sem] max2_int min2_int max_two min_two max_three min_three max_four min_four   -- for this text's walks alone
set_option linter.unusedVariables false
set_option linter.unusedSimpArgs false

/-! ### corncribref06_Check: function 16 -/
mutual
def corncribref06_Check.j0 : Nat → Bool → List Int → List ByteArray → Option (Int)
  | 0, _, _, _ => none
  | k + 1, x14, x179000, x179001 => if x14 = true then (some 2) else (corncribref06_Check.l0 k 0 x179000 x179001)
def corncribref06_Check.l0 : Nat → Int → List Int → List ByteArray → Option (Int)
  | 0, _, _, _ => none
  | k + 1, x3, x179000, x179001 => if x3 < (x179000.length : Int) then (if 0 ≤ x3 then ((corncribref06_num.f (rd x179000 x3)).bind fun t180 => (if t180 = true then (corncribref06_Check.l0 k (wrap64 (x3 + 1)) x179000 x179001) else (some 1))) else (none)) else (corncribref06_Check.l1 k 0 x179000 x179001)
def corncribref06_Check.l1 : Nat → Int → List Int → List ByteArray → Option (Int)
  | 0, _, _, _ => none
  | k + 1, x4, x179000, x179001 => if x4 < (x179001.length : Int) then (if 0 ≤ x4 then (if ((rdOf ByteArray.empty x179001 x4).size : Int) > 4096 then (some 2) else (corncribref06_Check.l1 k (wrap64 (x4 + 1)) x179000 x179001)) else (none)) else (some 0)
end
def corncribref06_Check.f (k : Nat) (l0_0 : List Int) (l0_1 : List ByteArray) : Option (Int) := if (l0_0.length : Int) > 1024 then (corncribref06_Check.j0 k true l0_0 l0_1) else (corncribref06_Check.j0 k (decide ((l0_1.length : Int) > 1024)) l0_0 l0_1)
theorem corncribref06_Check.mono_l : ∀ k, (∀ y0 y1 y2, LeO (corncribref06_Check.j0 k y0 y1 y2) (corncribref06_Check.j0 (k + 1) y0 y1 y2)) ∧ (∀ y0 y1 y2, LeO (corncribref06_Check.l0 k y0 y1 y2) (corncribref06_Check.l0 (k + 1) y0 y1 y2)) ∧ (∀ y0 y1 y2, LeO (corncribref06_Check.l1 k y0 y1 y2) (corncribref06_Check.l1 (k + 1) y0 y1 y2))
  | 0 => ⟨fun _ _ _ r h => by simp [corncribref06_Check.j0] at h, fun _ _ _ r h => by simp [corncribref06_Check.l0] at h, fun _ _ _ r h => by simp [corncribref06_Check.l1] at h⟩
  | k + 1 => by
    obtain ⟨ih0, ih1, ih2⟩ := corncribref06_Check.mono_l k
    refine ⟨?_, ?_, ?_⟩
    · intro y0 y1 y2
      unfold corncribref06_Check.j0
      repeat' first
      | (with_reducible exact ih0 _ _ _)
      | (with_reducible exact ih1 _ _ _)
      | (with_reducible exact ih2 _ _ _)
      | (with_reducible exact LeO.refl _)
      | (with_reducible exact LeO.none _)
      | (with_reducible refine LeO.ite ?_ ?_)
      | (with_reducible refine LeO.bind ?_ (fun _ => ?_))
      | exact ih0 _ _ _
      | exact ih1 _ _ _
      | exact ih2 _ _ _
      | exact LeO.none _
      | refine LeO.ite ?_ ?_
      | refine LeO.bind ?_ (fun _ => ?_)
    · intro y0 y1 y2
      unfold corncribref06_Check.l0
      repeat' first
      | (with_reducible exact ih0 _ _ _)
      | (with_reducible exact ih1 _ _ _)
      | (with_reducible exact ih2 _ _ _)
      | (with_reducible exact LeO.refl _)
      | (with_reducible exact LeO.none _)
      | (with_reducible refine LeO.ite ?_ ?_)
      | (with_reducible refine LeO.bind ?_ (fun _ => ?_))
      | exact ih0 _ _ _
      | exact ih1 _ _ _
      | exact ih2 _ _ _
      | exact LeO.none _
      | refine LeO.ite ?_ ?_
      | refine LeO.bind ?_ (fun _ => ?_)
    · intro y0 y1 y2
      unfold corncribref06_Check.l1
      repeat' first
      | (with_reducible exact ih0 _ _ _)
      | (with_reducible exact ih1 _ _ _)
      | (with_reducible exact ih2 _ _ _)
      | (with_reducible exact LeO.refl _)
      | (with_reducible exact LeO.none _)
      | (with_reducible refine LeO.ite ?_ ?_)
      | (with_reducible refine LeO.bind ?_ (fun _ => ?_))
      | exact ih0 _ _ _
      | exact ih1 _ _ _
      | exact ih2 _ _ _
      | exact LeO.none _
      | refine LeO.ite ?_ ?_
      | refine LeO.bind ?_ (fun _ => ?_)
theorem corncribref06_Check.mono : ∀ a0 a1 k, LeO (corncribref06_Check.f k a0 a1) (corncribref06_Check.f (k + 1) a0 a1) := by
  intro a0 a1 k
  obtain ⟨ih0, ih1, ih2⟩ := corncribref06_Check.mono_l k
  unfold corncribref06_Check.f
  repeat' first
      | (with_reducible exact ih0 _ _ _)
      | (with_reducible exact ih1 _ _ _)
      | (with_reducible exact ih2 _ _ _)
      | (with_reducible exact LeO.refl _)
      | (with_reducible exact LeO.none _)
      | (with_reducible refine LeO.ite ?_ ?_)
      | (with_reducible refine LeO.bind ?_ (fun _ => ?_))
      | exact ih0 _ _ _
      | exact ih1 _ _ _
      | exact ih2 _ _ _
      | exact LeO.none _
      | refine LeO.ite ?_ ?_
      | refine LeO.bind ?_ (fun _ => ?_)
set_option maxHeartbeats 8000000 in
set_option maxRecDepth 100000 in
theorem corncribref06_Check.calls (k : Nat) (A0_0 : Option Addr) (c0_0 : Nat) (l0_0 : List Int) (A0_1 : Option Addr) (c0_1 : Nat) (l0_1 : List ByteArray) (r : Int) (w : World) (hr0_0 : Kd.C (Kd.int .i64) w A0_0 l0_0.length l0_0) (hc0_0 : l0_0.length ≤ c0_0) (hr0_1 : Kd.C Kd.string w A0_1 l0_1.length l0_1) (hc0_1 : l0_1.length ≤ c0_1) (h : corncribref06_Check.f k l0_0 l0_1 = some r) :
    Calls Try.prog 16 #[.agg #[.slice A0_0 l0_0.length c0_0, .slice A0_1 l0_1.length c0_1]] w fun e w' => e = .returned (.int .i64 r) ∧ Below w.heap.size w w' := by
  have hu25 := Try.underlying25
  have HR0_0 := Aside0.mk hr0_0
  have HC0_0 := Aside0.mk hc0_0
  clear hr0_0 hc0_0
  have HR0_1 := Aside0.mk hr0_1
  have HC0_1 := Aside0.mk hc0_1
  clear hr0_1 hc0_1
  have HB := Aside0.mk (Below.refl w.heap.size w)
  have H : (if (l0_0.length : Int) > 1024 then (corncribref06_Check.j0 k true l0_0 l0_1) else (corncribref06_Check.j0 k (decide ((l0_1.length : Int) > 1024)) l0_0 l0_1)) = some r := h
  clear h
  have HC2 := Aside0.mk H
  clear H
  go_enter Try.func16, Try.ntmps16
  go_upto_region 1 with (first | ((with_reducible refine gate_dst (N := 1) rfl ?_); (try (refine gate_guard (by rfl) ?_; dsimp only)); refine box_event ?hg (N := 1) ?hd (cs := #[.slice A0_0 l0_0.length c0_0, .slice A0_1 l0_1.length c0_1]) (t := 25) ?hr ?_; (case hd => rfl); (case hg => rfl); (case hr => first | (go_simp; done) | (go_simp; rfl)); intro gb178 hg w3 hbox hb; have n0_ := Aside0.mk (below_step (by repeat (first | (with_reducible first | exact HB.out | apply below_alloc | apply pw_below_drewN | apply below_drew1) | exact HB.out)) hb); have n1_ := Aside0.mk (hbox); have n2_ := Aside0.mk ((by rw [hg]; exact (below_size (by repeat (first | (with_reducible first | exact HB.out | apply below_alloc | apply pw_below_drewN | apply below_drew1) | exact HB.out))) : w.heap.size ≤ gb178)); have n3_ := Aside0.mk ((by rw [hg]; exact (below_size (by repeat (first | (with_reducible first | exact HB.out | apply below_alloc | apply pw_below_drewN | apply below_drew1) | exact HB.out))) : w.heap.size ≤ gb178)); clear HB; have HB := n0_; have BK178 := n1_; have GW178 := n2_; have GE178 := n3_; clear n0_ n1_ n2_ n3_; clear hb hbox hg))
  (try simp only [Act.put, List.setIfInBounds_toArray, List.set_cons_zero, List.set_cons_succ])
  go_cut [14] (fun v14 wc => ∃ (kq : Nat) (x14_1 : Bool), v14 = .bool x14_1 ∧ Aside0 (corncribref06_Check.j0 kq x14_1 l0_0 l0_1 = some r) ∧ Aside0 (kq ≤ k) ∧ Aside0 (wc.heap[gb178]? = some (.cells #[(.slice A0_0 l0_0.length c0_0), (.slice A0_1 l0_1.length c0_1)] 25 (0, 0))) ∧ Aside0 (Below w.heap.size w wc))
  case first =>
    have H := HC2.out
    clear HC2
    by_cases c4 : (l0_0.length : Int) > 1024
    · rw [if_pos c4] at H
      have c4b0 : decide (1024 < (l0_0.length : Int)) = true := decide_eq_true c4
      have c4b1 : decide (1024 < l0_0.length) = true := decide_eq_true (by omega)
      clear c4
      (first | rw [c4b0] | (simp only [i64_w, i32_w]; rw [c4b0]) | skip)
      have H' := Aside0.mk H
      clear H
      have hcz5_0 : w3.cell? ⟨gb178, 0, none⟩ = some (.slice A0_0 l0_0.length c0_0) := (blk_cell BK178.out 0).trans rfl
      have hcz5_1 : w3.cell? ⟨gb178, 1, none⟩ = some (.slice A0_1 l0_1.length c0_1) := (blk_cell BK178.out 1).trans rfl
      have hfz5_0 := blk_frozen BK178.out 0
      have hfz5_1 := blk_frozen BK178.out 1
      go_wp2
      go_meet
      case rel => exact ⟨_, (true), (by first | rfl | (simp; done) | (simp [*]; done)), H', ⟨by first | omega | exact Nat.le_refl _⟩, ⟨by (with_reducible repeat (first | refine blk_drewN ?_ _ | refine blk_drew ?_ | refine blk_alloc ?_ _)); exact BK178.out⟩, ⟨by repeat (first | (with_reducible first | exact HB.out | apply below_alloc | apply pw_below_drewN | apply below_drew1 | refine below_set ?_ GE178.out) | exact HB.out)⟩⟩
    · rw [if_neg c4] at H
      have c4b0 : decide (1024 < (l0_0.length : Int)) = false := decide_eq_false c4
      have c4b1 : decide (1024 < l0_0.length) = false := decide_eq_false (by omega)
      clear c4
      (first | rw [c4b0] | (simp only [i64_w, i32_w]; rw [c4b0]) | skip)
      have H' := Aside0.mk H
      clear H
      have hcz6_0 : w3.cell? ⟨gb178, 0, none⟩ = some (.slice A0_0 l0_0.length c0_0) := (blk_cell BK178.out 0).trans rfl
      have hcz6_1 : w3.cell? ⟨gb178, 1, none⟩ = some (.slice A0_1 l0_1.length c0_1) := (blk_cell BK178.out 1).trans rfl
      have hfz6_0 := blk_frozen BK178.out 0
      have hfz6_1 := blk_frozen BK178.out 1
      go_wp2
      go_meet
      case rel => exact ⟨_, (decide ((l0_1.length : Int) > 1024)), (by first | rfl | (simp; done) | (simp [*]; done)), H', ⟨by first | omega | exact Nat.le_refl _⟩, ⟨by (with_reducible repeat (first | refine blk_drewN ?_ _ | refine blk_drew ?_ | refine blk_alloc ?_ _)); exact BK178.out⟩, ⟨by repeat (first | (with_reducible first | exact HB.out | apply below_alloc | apply pw_below_drewN | apply below_drew1 | refine below_set ?_ GE178.out) | exact HB.out)⟩⟩
  case rest =>
    clear HC2
    try clear c1
    try clear p2
    try clear c4
    try clear c4b0
    try clear c4b1
    try clear hcz5_0
    try clear hcz5_1
    try clear hcz6_0
    try clear hcz6_1
    try clear hfz5_0
    try clear hfz5_1
    try clear hfz6_0
    try clear hfz6_1
    obtain ⟨kq, x14_1, rfl, HA, HJ1, BK178, HB⟩ := hcut
    cases kq with
    | zero => exact absurd HA.out (by simp [corncribref06_Check.j0])
    | succ kj1 =>
      have H := HA.out
      clear HA
      simp only [corncribref06_Check.j0] at H
      by_cases c7 : x14_1 = true
      · subst c7
        have H1 : (some 2) = some r := by rw [if_pos rfl] at H; exact H
        clear H
        have H := H1
        clear H1
        obtain rfl := Option.some.inj H
        go_wp2
        go_ret
        exact ⟨by first | rfl | (simp [errW_none, errW_some] <;> rfl) | (simp [*, errW_none, errW_some] <;> rfl), by repeat (first | (with_reducible first | exact HB.out | apply below_alloc | apply pw_below_drewN | apply below_drew1 | refine below_set ?_ GE178.out) | exact HB.out)⟩
      · replace c7 := Bool.eq_false_iff.mpr c7
        subst c7
        have H1 : (corncribref06_Check.l0 kj1 0 l0_0 l0_1) = some r := by rw [if_neg (show ¬ (false = true) by decide)] at H; exact H
        clear H
        have H := H1
        clear H1
        have H' := Aside0.mk H
        clear H
        go_wp2
        go_loopg [3] kj1 (fun kq v3 w' => ∃ (x3_2 : Int), v3 = .int .i64 x3_2 ∧ Aside0 (corncribref06_Check.l0 kq x3_2 l0_0 l0_1 = some r) ∧ Aside0 (kq ≤ kj1) ∧ Aside0 (w'.heap[gb178]? = some (.cells #[(.slice A0_0 l0_0.length c0_0), (.slice A0_1 l0_1.length c0_1)] 25 (0, 0))) ∧ Aside0 (Below w.heap.size w w'))
        case atStart => exact ⟨(0), (by first | rfl | (simp; done) | (simp [*]; done)), H', ⟨Nat.le_refl _⟩, ⟨by (with_reducible repeat (first | refine blk_drewN ?_ _ | refine blk_drew ?_ | refine blk_alloc ?_ _)); exact BK178.out⟩, ⟨by repeat (first | (with_reducible first | exact HB.out | apply below_alloc | apply pw_below_drewN | apply below_drew1 | refine below_set ?_ GE178.out) | exact HB.out)⟩⟩
        case round =>
          clear H'
          try clear c1
          try clear p2
          try clear c4
          try clear c4b0
          try clear c4b1
          try clear c7
          try clear hcz5_0
          try clear hcz5_1
          try clear hcz6_0
          try clear hcz6_1
          try clear hfz5_0
          try clear hfz5_1
          try clear hfz6_0
          try clear hfz6_1
          try clear p2
          obtain ⟨x3_2, rfl, HA, HK2, BK178, HB⟩ := hrel
          cases gk with
          | zero => exact absurd HA.out (by simp [corncribref06_Check.l0])
          | succ k2 =>
            have H := HA.out
            clear HA
            simp only [corncribref06_Check.l0] at H
            by_cases c8 : x3_2 < (l0_0.length : Int)
            · rw [if_pos c8] at H
              have c8b0 : decide (x3_2 < (l0_0.length : Int)) = true := decide_eq_true c8
              clear c8
              by_cases c9 : 0 ≤ x3_2
              · rw [if_pos c9] at H
                have c9b0 : decide (0 ≤ x3_2) = true := decide_eq_true c9
                clear c9
                replace H := Option.bind_eq_some_iff.mp H
                obtain ⟨t180, A100, H⟩ := H
                replace H : (if t180 = true then (corncribref06_Check.l0 k2 (wrap64 (x3_2 + 1)) l0_0 l0_1) else (some 1)) = some r := H
                have A10 := Aside0.mk A100
                clear A100
                by_cases c11 : t180 = true
                · subst c11
                  have H1 : (corncribref06_Check.l0 k2 (wrap64 (x3_2 + 1)) l0_0 l0_1) = some r := by rw [if_pos rfl] at H; exact H
                  clear H
                  have H := H1
                  clear H1
                  have H' := Aside0.mk H
                  clear H
                  have hcz12_0 : wr.cell? ⟨gb178, 0, none⟩ = some (.slice A0_0 l0_0.length c0_0) := (blk_cell BK178.out 0).trans rfl
                  have hcz12_1 : wr.cell? ⟨gb178, 1, none⟩ = some (.slice A0_1 l0_1.length c0_1) := (blk_cell BK178.out 1).trans rfl
                  have hfz12_0 := blk_frozen BK178.out 0
                  have hfz12_1 := blk_frozen BK178.out 1
                  have p179 : 0 ≤ (x3_2 : Int) := of_decide_eq_true (by first | (with_reducible assumption) | assumption)
                  have q179 : x3_2 < (l0_0.length : Int) := of_decide_eq_true (by first | (with_reducible assumption) | assumption)
                  obtain ⟨ad179, e179, hx179_0⟩ := Kd.at_int HR0_0.out x3_2 p179 q179
                  cases e179
                  replace hx179_0 := (HB.out.cell (World.block_lt_of_cell? w _ hx179_0)).trans hx179_0
                  replace p179 := eq_true p179
                  replace q179 := eq_true q179
                  go_wp2_with (first | ((with_reducible refine gate_callee (f := 26) rfl ?_); refine goesL_ (some 27) rfl rfl Try.func26 (by kernel_rfl) rfl #[.int .i64 (rd l0_0 x3_2)] rfl (by (try simp only [List.map_toArray, List.map_cons, List.map_nil]); first | done | rfl | (simp only [List.length_drop, List.length_take]; rfl)) ?_; (with_reducible refine (corncribref06_num.calls (rd l0_0 x3_2) true _ A10.out).mono ?_); rintro e w' ⟨rfl, ⟨nd, rfl⟩⟩; refine ⟨_, rfl, ?_⟩))
                  go_roundg k2
                  case measure => have := HJ1.out; have := HK2.out; omega
                  case rel => exact ⟨(wrap64 (x3_2 + 1)), (by first | rfl | (simp; done) | (simp [*]; done)), H', ⟨by have := HJ1.out; have := HK2.out; omega⟩, ⟨by (with_reducible repeat (first | refine blk_drewN ?_ _ | refine blk_drew ?_ | refine blk_alloc ?_ _)); exact BK178.out⟩, ⟨by repeat (first | (with_reducible first | exact HB.out | apply below_alloc | apply pw_below_drewN | apply below_drew1 | refine below_set ?_ GE178.out) | exact HB.out)⟩⟩
                · replace c11 := Bool.eq_false_iff.mpr c11
                  subst c11
                  have H1 : (some 1) = some r := by rw [if_neg (show ¬ (false = true) by decide)] at H; exact H
                  clear H
                  have H := H1
                  clear H1
                  obtain rfl := Option.some.inj H
                  have hcz13_0 : wr.cell? ⟨gb178, 0, none⟩ = some (.slice A0_0 l0_0.length c0_0) := (blk_cell BK178.out 0).trans rfl
                  have hcz13_1 : wr.cell? ⟨gb178, 1, none⟩ = some (.slice A0_1 l0_1.length c0_1) := (blk_cell BK178.out 1).trans rfl
                  have hfz13_0 := blk_frozen BK178.out 0
                  have hfz13_1 := blk_frozen BK178.out 1
                  have p179 : 0 ≤ (x3_2 : Int) := of_decide_eq_true (by first | (with_reducible assumption) | assumption)
                  have q179 : x3_2 < (l0_0.length : Int) := of_decide_eq_true (by first | (with_reducible assumption) | assumption)
                  obtain ⟨ad179, e179, hx179_0⟩ := Kd.at_int HR0_0.out x3_2 p179 q179
                  cases e179
                  replace hx179_0 := (HB.out.cell (World.block_lt_of_cell? w _ hx179_0)).trans hx179_0
                  replace p179 := eq_true p179
                  replace q179 := eq_true q179
                  go_wp2_with (first | ((with_reducible refine gate_callee (f := 26) rfl ?_); refine goesL_ (some 27) rfl rfl Try.func26 (by kernel_rfl) rfl #[.int .i64 (rd l0_0 x3_2)] rfl (by (try simp only [List.map_toArray, List.map_cons, List.map_nil]); first | done | rfl | (simp only [List.length_drop, List.length_take]; rfl)) ?_; (with_reducible refine (corncribref06_num.calls (rd l0_0 x3_2) false _ A10.out).mono ?_); rintro e w' ⟨rfl, ⟨nd, rfl⟩⟩; refine ⟨_, rfl, ?_⟩))
                  go_ret
                  exact ⟨by first | rfl | (simp [errW_none, errW_some] <;> rfl) | (simp [*, errW_none, errW_some] <;> rfl), by repeat (first | (with_reducible first | exact HB.out | apply below_alloc | apply pw_below_drewN | apply below_drew1 | refine below_set ?_ GE178.out) | exact HB.out)⟩
              · rw [if_neg c9] at H
                exact absurd H (by simp)
            · rw [if_neg c8] at H
              have c8b0 : decide (x3_2 < (l0_0.length : Int)) = false := decide_eq_false c8
              clear c8
              have H' := Aside0.mk H
              clear H
              have hcz14_0 : wr.cell? ⟨gb178, 0, none⟩ = some (.slice A0_0 l0_0.length c0_0) := (blk_cell BK178.out 0).trans rfl
              have hcz14_1 : wr.cell? ⟨gb178, 1, none⟩ = some (.slice A0_1 l0_1.length c0_1) := (blk_cell BK178.out 1).trans rfl
              have hfz14_0 := blk_frozen BK178.out 0
              have hfz14_1 := blk_frozen BK178.out 1
              go_wp2
              go_loopg [4] k2 (fun kq v4 w' => ∃ (x4_3 : Int), v4 = .int .i64 x4_3 ∧ Aside0 (corncribref06_Check.l1 kq x4_3 l0_0 l0_1 = some r) ∧ Aside0 (kq ≤ k2) ∧ Aside0 (w'.heap[gb178]? = some (.cells #[(.slice A0_0 l0_0.length c0_0), (.slice A0_1 l0_1.length c0_1)] 25 (0, 0))) ∧ Aside0 (Below w.heap.size w w'))
              case atStart => exact ⟨(0), (by first | rfl | (simp; done) | (simp [*]; done)), H', ⟨Nat.le_refl _⟩, ⟨by (with_reducible repeat (first | refine blk_drewN ?_ _ | refine blk_drew ?_ | refine blk_alloc ?_ _)); exact BK178.out⟩, ⟨by repeat (first | (with_reducible first | exact HB.out | apply below_alloc | apply pw_below_drewN | apply below_drew1 | refine below_set ?_ GE178.out) | exact HB.out)⟩⟩
              case round =>
                clear H'
                try clear c1
                try clear p1
                try clear q1
                try clear hx1
                try clear c2
                try clear p2
                try clear c4
                try clear c4b0
                try clear c4b1
                try clear p6
                try clear c7
                try clear c8
                try clear c8b0
                try clear c9
                try clear c9b0
                try clear c11
                try clear hcz12_0
                try clear hcz12_1
                try clear hcz13_0
                try clear hcz13_1
                try clear hcz14_0
                try clear hcz14_1
                try clear hcz5_0
                try clear hcz5_1
                try clear hcz6_0
                try clear hcz6_1
                try clear hfz12_0
                try clear hfz12_1
                try clear hfz13_0
                try clear hfz13_1
                try clear hfz14_0
                try clear hfz14_1
                try clear hfz5_0
                try clear hfz5_1
                try clear hfz6_0
                try clear hfz6_1
                try clear hx179_0
                try clear p179
                try clear p2
                try clear q179
                obtain ⟨x4_3, rfl, HA, HK3, BK178, HB⟩ := hrel
                cases gk with
                | zero => exact absurd HA.out (by simp [corncribref06_Check.l1])
                | succ k3 =>
                  have H := HA.out
                  clear HA
                  simp only [corncribref06_Check.l1] at H
                  by_cases c15 : x4_3 < (l0_1.length : Int)
                  · rw [if_pos c15] at H
                    have c15b0 : decide (x4_3 < (l0_1.length : Int)) = true := decide_eq_true c15
                    clear c15
                    by_cases c16 : 0 ≤ x4_3
                    · rw [if_pos c16] at H
                      have c16b0 : decide (0 ≤ x4_3) = true := decide_eq_true c16
                      clear c16
                      by_cases c17 : ((rdOf ByteArray.empty l0_1 x4_3).size : Int) > 4096
                      · rw [if_pos c17] at H
                        have c17b0 : decide (4096 < ((rdOf ByteArray.empty l0_1 x4_3).size : Int)) = true := decide_eq_true c17
                        have c17b1 : decide (4096 < (rdOf ByteArray.empty l0_1 x4_3).size) = true := decide_eq_true (by omega)
                        clear c17
                        obtain rfl := Option.some.inj H
                        have hcz18_0 : wr.cell? ⟨gb178, 0, none⟩ = some (.slice A0_0 l0_0.length c0_0) := (blk_cell BK178.out 0).trans rfl
                        have hcz18_1 : wr.cell? ⟨gb178, 1, none⟩ = some (.slice A0_1 l0_1.length c0_1) := (blk_cell BK178.out 1).trans rfl
                        have hfz18_0 := blk_frozen BK178.out 0
                        have hfz18_1 := blk_frozen BK178.out 1
                        have p181 : 0 ≤ (x4_3 : Int) := of_decide_eq_true (by first | (with_reducible assumption) | assumption)
                        have q181 : x4_3 < (l0_1.length : Int) := of_decide_eq_true (by first | (with_reducible assumption) | assumption)
                        obtain ⟨ad181, e181, hx181_0⟩ := Kd.at_string HR0_1.out x4_3 p181 q181
                        cases e181
                        replace hx181_0 := (HB.out.cell (World.block_lt_of_cell? w _ hx181_0)).trans hx181_0
                        replace p181 := eq_true p181
                        replace q181 := eq_true q181
                        go_wp2
                        go_ret
                        exact ⟨by first | rfl | (simp [errW_none, errW_some] <;> rfl) | (simp [*, errW_none, errW_some] <;> rfl), by repeat (first | (with_reducible first | exact HB.out | apply below_alloc | apply pw_below_drewN | apply below_drew1 | refine below_set ?_ GE178.out) | exact HB.out)⟩
                      · rw [if_neg c17] at H
                        have c17b0 : decide (4096 < ((rdOf ByteArray.empty l0_1 x4_3).size : Int)) = false := decide_eq_false c17
                        have c17b1 : decide (4096 < (rdOf ByteArray.empty l0_1 x4_3).size) = false := decide_eq_false (by omega)
                        clear c17
                        have H' := Aside0.mk H
                        clear H
                        have hcz19_0 : wr.cell? ⟨gb178, 0, none⟩ = some (.slice A0_0 l0_0.length c0_0) := (blk_cell BK178.out 0).trans rfl
                        have hcz19_1 : wr.cell? ⟨gb178, 1, none⟩ = some (.slice A0_1 l0_1.length c0_1) := (blk_cell BK178.out 1).trans rfl
                        have hfz19_0 := blk_frozen BK178.out 0
                        have hfz19_1 := blk_frozen BK178.out 1
                        have p181 : 0 ≤ (x4_3 : Int) := of_decide_eq_true (by first | (with_reducible assumption) | assumption)
                        have q181 : x4_3 < (l0_1.length : Int) := of_decide_eq_true (by first | (with_reducible assumption) | assumption)
                        obtain ⟨ad181, e181, hx181_0⟩ := Kd.at_string HR0_1.out x4_3 p181 q181
                        cases e181
                        replace hx181_0 := (HB.out.cell (World.block_lt_of_cell? w _ hx181_0)).trans hx181_0
                        replace p181 := eq_true p181
                        replace q181 := eq_true q181
                        go_wp2
                        go_roundg k3
                        case measure => have := HJ1.out; have := HK2.out; have := HK3.out; omega
                        case rel => exact ⟨(wrap64 (x4_3 + 1)), (by first | rfl | (simp; done) | (simp [*]; done)), H', ⟨by have := HJ1.out; have := HK2.out; have := HK3.out; omega⟩, ⟨by (with_reducible repeat (first | refine blk_drewN ?_ _ | refine blk_drew ?_ | refine blk_alloc ?_ _)); exact BK178.out⟩, ⟨by repeat (first | (with_reducible first | exact HB.out | apply below_alloc | apply pw_below_drewN | apply below_drew1 | refine below_set ?_ GE178.out) | exact HB.out)⟩⟩
                    · rw [if_neg c16] at H
                      exact absurd H (by simp)
                  · rw [if_neg c15] at H
                    have c15b0 : decide (x4_3 < (l0_1.length : Int)) = false := decide_eq_false c15
                    clear c15
                    obtain rfl := Option.some.inj H
                    have hcz20_0 : wr.cell? ⟨gb178, 0, none⟩ = some (.slice A0_0 l0_0.length c0_0) := (blk_cell BK178.out 0).trans rfl
                    have hcz20_1 : wr.cell? ⟨gb178, 1, none⟩ = some (.slice A0_1 l0_1.length c0_1) := (blk_cell BK178.out 1).trans rfl
                    have hfz20_0 := blk_frozen BK178.out 0
                    have hfz20_1 := blk_frozen BK178.out 1
                    go_wp2
                    go_ret
                    exact ⟨by first | rfl | (simp [errW_none, errW_some] <;> rfl) | (simp [*, errW_none, errW_some] <;> rfl), by repeat (first | (with_reducible first | exact HB.out | apply below_alloc | apply pw_below_drewN | apply below_drew1 | refine below_set ?_ GE178.out) | exact HB.out)⟩

end Go.Proofs.Ytjjgpleaidledaa.Al

/- One function of the program comes to what its plain twin says. This text began as the kit's own print (print.py, made by cprint.sh) and was turned by split.py: it is no printed file. -/
namespace Go.Proofs.Ytjjgpleaidledaa.Al
open Go.RowKit Go.Proofs.YtjjgpleaidledaaW.PrintWords Go.Proofs.YtjjgpleaidledaaW.PrintLast Go.Proofs.YtjjgpleaidledaaW.PrintMore
attribute [local go_sem] max2_int min2_int max_two min_two max_three min_three max_four min_four   -- for this text's walks alone
set_option linter.unusedVariables false
set_option linter.unusedSimpArgs false

/-! ### corncribref06_Plain: function 36 -/
def corncribref06_Plain.l0 : Nat → Int → List Int → Option (ByteArray)
  | 0, _, _ => none
  | k + 1, x0, x3 => if x0 ≥ 128 then (if x3.length < 140737488355328 then (corncribref06_Plain.l0 k (wrap64 (Int.tdiv x0 128)) (x3 ++ [(wrap64 ((Int.tmod x0 128) + 128)) % 256])) else (none)) else (if x3.length < 140737488355328 then (some (strOfNums (x3 ++ [(x0) % 256]))) else (none))
def corncribref06_Plain.f (k : Nat) (a0 : Int) : Option (ByteArray) := corncribref06_Plain.l0 k a0 ([] : List Int)
theorem corncribref06_Plain.mono_l : ∀ k, (∀ y0 y1, LeO (corncribref06_Plain.l0 k y0 y1) (corncribref06_Plain.l0 (k + 1) y0 y1))
  | 0 => fun _ _ r h => by simp [corncribref06_Plain.l0] at h
  | k + 1 => by
    have ih0 := corncribref06_Plain.mono_l k
    · intro y0 y1
      unfold corncribref06_Plain.l0
      repeat' first
      | (with_reducible exact ih0 _ _)
      | (with_reducible exact LeO.refl _)
      | (with_reducible exact LeO.none _)
      | (with_reducible refine LeO.ite ?_ ?_)
      | (with_reducible refine LeO.bind ?_ (fun _ => ?_))
      | exact ih0 _ _
      | exact LeO.none _
      | refine LeO.ite ?_ ?_
      | refine LeO.bind ?_ (fun _ => ?_)
theorem corncribref06_Plain.mono : ∀ a0 k, LeO (corncribref06_Plain.f k a0) (corncribref06_Plain.f (k + 1) a0) := by
  intro a0 k
  have ih0 := corncribref06_Plain.mono_l k
  unfold corncribref06_Plain.f
  repeat' first
      | (with_reducible exact ih0 _ _)
      | (with_reducible exact LeO.refl _)
      | (with_reducible exact LeO.none _)
      | (with_reducible refine LeO.ite ?_ ?_)
      | (with_reducible refine LeO.bind ?_ (fun _ => ?_))
      | exact ih0 _ _
      | exact LeO.none _
      | refine LeO.ite ?_ ?_
      | refine LeO.bind ?_ (fun _ => ?_)
set_option maxHeartbeats 8000000 in
set_option maxRecDepth 100000 in
theorem corncribref06_Plain.calls (k : Nat) (a0 : Int) (r : ByteArray) (w : World) (h : corncribref06_Plain.f k a0 = some r) :
    Calls Try.prog 36 #[.int .i64 a0] w fun e w' => e = .returned (.string r) ∧ Below w.heap.size w w' := by
  have HB := Aside0.mk (Below.refl w.heap.size w)
  have H : (corncribref06_Plain.l0 k a0 ([] : List Int)) = some r := h
  clear h
  have H' := Aside0.mk H
  clear H
  go_enter Try.func36, Try.ntmps36
  go_wp2
  go_loopg [0, 3] k (fun kq v0 v3 w' => ∃ (x0_1 : Int) (x3_1 : List Int), v0 = .int .i64 x0_1 ∧ Aside0 (corncribref06_Plain.l0 kq x0_1 x3_1 = some r) ∧ Aside0 (kq ≤ k) ∧ Aside0 (Kd.R (Kd.int .u8) 5 w' w.heap.size (fun _ => True) v3 x3_1) ∧ Aside0 (Below w.heap.size w w'))
  case atStart => exact ⟨(a0), (([] : List Int)), (by first | rfl | (simp; done) | (simp [*]; done)), H', ⟨Nat.le_refl _⟩, ⟨by first | exact Kd.R_nil _ _ _ _ _ | exact Kd.N_nil _ _ _ _ _ | exact Kd.V_nil _ _ _ _ _ | exact Kd.Q_nil _ _ _ _ _ | exact Kd.S_nil _ _ _ _ _⟩, ⟨by repeat (first | (with_reducible first | exact HB.out | apply below_alloc | apply pw_below_drewN | apply below_drew1) | exact HB.out)⟩⟩
  case round =>
    clear H'
    obtain ⟨x0_1, x3_1, rfl, HA, HK1, HO_3, HB⟩ := hrel
    cases gk with
    | zero => exact absurd HA.out (by simp [corncribref06_Plain.l0])
    | succ k1 =>
      have H := HA.out
      clear HA
      simp only [corncribref06_Plain.l0] at H
      by_cases c2 : x0_1 ≥ 128
      · rw [if_pos c2] at H
        have c2b0 : decide (128 ≤ x0_1) = true := decide_eq_true c2
        clear c2
        by_cases c3 : x3_1.length < 140737488355328
        · rw [if_pos c3] at H
          have LMc3 := Aside0.mk c3
          clear c3
          obtain ⟨y182, hy182⟩ : ∃ y_ : List Int, y_ = (x3_1 ++ [(wrap64 ((Int.tmod x0_1 128) + 128)) % 256]) := ⟨_, rfl⟩
          replace H : (corncribref06_Plain.l0 k1 (wrap64 (Int.tdiv x0_1 128)) y182) = some r := by first | (rw [hy182]; with_reducible exact H) | (have H2_ := (Option.bind_some _ _).symm.trans H; rw [hy182]; with_reducible exact H2_) | (have H2_ := (Option.bind_some _ _).symm.trans H; with_reducible exact H2_) | with_reducible exact H | (rw [hy182]; exact H) | exact H
          have Ny182 := Aside0.mk hy182
          clear hy182
          have H' := Aside0.mk H
          clear H
          go_wp2_with (first | ((with_reducible refine gate_builtin (b := .append) (xs := #[.tmp 6, .tmp 11]) rfl ?_); at_builtin; refine Kd.R_append (Kd.int .u8) (w0 := w) w.heap.size rfl (.tmp 6) (.tmp 11) 43 5 (.int .u8 0) 1 rfl Try.underlying43 info5 rfl (by decide) (by omega) u3 x3_1 ((wrap64 ((Int.tmod x0_1 128) + 128)) % 256) [.int .u8 ((wrap64 ((Int.tmod x0_1 128) + 128)) % 256)] (fun _ => True) (fun _ => False) rfl rfl ?aP (fun _ hk => hk.elim) ?aF ?aO ?aB ?aS ?aL ?_; (case aP => exact rfl); (case aB => exact (by repeat (first | (with_reducible first | exact HB.out | apply below_alloc | apply pw_below_drewN | apply below_drew1) | exact HB.out))); (case aF => exact (fun _ _ => trivial)); (case aO => exact (by (with_reducible repeat (first | apply Kd.R_alloc | apply Kd.R_drewN | apply Kd.R_drew)); exact HO_3.out)); (case aS => exact (below_size (by repeat (first | (with_reducible first | exact HB.out | apply below_alloc | apply pw_below_drewN | apply below_drew1) | exact HB.out)))); (case aL => have := LMc3.out; omega); intro v183 w4 ho hb hg hat; rw [← Ny182.out] at ho; have n0_ := Aside0.mk (hb); have n1_ := Aside0.mk (ho); clear HB; clear HO_3; have HB := n0_; have HO184 := n1_; clear n0_ n1_; clear ho hb hg hat))
          go_roundg k1
          case measure => have := HK1.out; omega
          case rel => exact ⟨(wrap64 (Int.tdiv x0_1 128)), (y182), (by first | rfl | (simp; done) | (simp [*]; done)), H', ⟨by have := HK1.out; omega⟩, ⟨by (with_reducible repeat (first | apply Kd.R_alloc | apply Kd.R_drewN | apply Kd.R_drew)); exact HO184.out⟩, ⟨by repeat (first | (with_reducible first | exact HB.out | apply below_alloc | apply pw_below_drewN | apply below_drew1) | exact HB.out)⟩⟩
        · rw [if_neg c3] at H
          exact absurd H (by simp)
      · rw [if_neg c2] at H
        have c2b0 : decide (128 ≤ x0_1) = false := decide_eq_false c2
        clear c2
        by_cases c5 : x3_1.length < 140737488355328
        · rw [if_pos c5] at H
          have LMc5 := Aside0.mk c5
          clear c5
          obtain ⟨y185, hy185⟩ : ∃ y_ : List Int, y_ = (x3_1 ++ [(x0_1) % 256]) := ⟨_, rfl⟩
          replace H : (some (strOfNums y185)) = some r := by first | (rw [hy185]; with_reducible exact H) | (have H2_ := (Option.bind_some _ _).symm.trans H; rw [hy185]; with_reducible exact H2_) | (have H2_ := (Option.bind_some _ _).symm.trans H; with_reducible exact H2_) | with_reducible exact H | (rw [hy185]; exact H) | exact H
          have Ny185 := Aside0.mk hy185
          clear hy185
          obtain rfl := Option.some.inj H
          go_wp2_with (first | ((with_reducible refine gate_builtin (b := .append) (xs := #[.tmp 15, .tmp 18]) rfl ?_); at_builtin; refine Kd.R_append (Kd.int .u8) (w0 := w) w.heap.size rfl (.tmp 15) (.tmp 18) 43 5 (.int .u8 0) 1 rfl Try.underlying43 info5 rfl (by decide) (by omega) u3 x3_1 ((x0_1) % 256) [.int .u8 ((x0_1) % 256)] (fun _ => True) (fun _ => False) rfl rfl ?aP (fun _ hk => hk.elim) ?aF ?aO ?aB ?aS ?aL ?_; (case aP => exact rfl); (case aB => exact (by repeat (first | (with_reducible first | exact HB.out | apply below_alloc | apply pw_below_drewN | apply below_drew1) | exact HB.out))); (case aF => exact (fun _ _ => trivial)); (case aO => exact (by (with_reducible repeat (first | apply Kd.R_alloc | apply Kd.R_drewN | apply Kd.R_drew)); exact HO_3.out)); (case aS => exact (below_size (by repeat (first | (with_reducible first | exact HB.out | apply below_alloc | apply pw_below_drewN | apply below_drew1) | exact HB.out)))); (case aL => have := LMc5.out; omega); intro v186 w6 ho hb hg hat; rw [← Ny185.out] at ho; have n0_ := Aside0.mk (hb); have n1_ := Aside0.mk (ho); clear HB; clear HO_3; have HB := n0_; have HO187 := n1_; clear n0_ n1_; clear ho hb hg hat; have hcv7 := own_string (P := Try.prog) Try.underlying43 Try.underlying5 Try.underlying9 (Kd.own_of_R HO187.out)))
          go_ret
          exact ⟨by first | rfl | (simp [errW_none, errW_some] <;> rfl) | (simp [*, errW_none, errW_some] <;> rfl), by repeat (first | (with_reducible first | exact HB.out | apply below_alloc | apply pw_below_drewN | apply below_drew1) | exact HB.out)⟩
        · rw [if_neg c5] at H
          exact absurd H (by simp)

end Go.Proofs.Ytjjgpleaidledaa.Al

/- One function of the program comes to what its plain twin says. This text began as the kit's own print (print.py, made by cprint.sh) and was turned by split.py: it is no printed file. -/
namespace Go.Proofs.Ytjjgpleaidledaa.Al
open Go.RowKit Go.Proofs.YtjjgpleaidledaaW.PrintWords Go.Proofs.YtjjgpleaidledaaW.PrintLast Go.Proofs.YtjjgpleaidledaaW.PrintMore
attribute [local go_sem] max2_int min2_int max_two min_two max_three min_three max_four min_four   -- for this text's walks alone
set_option linter.unusedVariables false
set_option linter.unusedSimpArgs false

/-! ### corncribref06_Signed: function 27 -/
def corncribref06_Signed.f (k : Nat) (a0 : Int) : Option (ByteArray) := if a0 < 0 then ((corncribref06_Plain.f k (wrap64 ((wrap64 ((-2) * (wrap64 (a0 + 1)))) + 1))).bind fun t188 => (some t188)) else ((corncribref06_Plain.f k (wrap64 (2 * a0))).bind fun t189 => (some t189))
theorem corncribref06_Signed.mono : ∀ a0 k, LeO (corncribref06_Signed.f k a0) (corncribref06_Signed.f (k + 1) a0) := by
  intro a0 k
  unfold corncribref06_Signed.f
  repeat' first
      | (with_reducible exact corncribref06_Plain.mono _ _)
      | (with_reducible exact LeO.refl _)
      | (with_reducible exact LeO.none _)
      | (with_reducible refine LeO.ite ?_ ?_)
      | (with_reducible refine LeO.bind ?_ (fun _ => ?_))
      | exact corncribref06_Plain.mono _ _
      | exact LeO.none _
      | refine LeO.ite ?_ ?_
      | refine LeO.bind ?_ (fun _ => ?_)
set_option maxHeartbeats 8000000 in
set_option maxRecDepth 100000 in
theorem corncribref06_Signed.calls (k : Nat) (a0 : Int) (r : ByteArray) (w : World) (h : corncribref06_Signed.f k a0 = some r) :
    Calls Try.prog 27 #[.int .i64 a0] w fun e w' => e = .returned (.string r) ∧ Below w.heap.size w w' := by
  have HB := Aside0.mk (Below.refl w.heap.size w)
  have H : (if a0 < 0 then ((corncribref06_Plain.f k (wrap64 ((wrap64 ((-2) * (wrap64 (a0 + 1)))) + 1))).bind fun t188 => (some t188)) else ((corncribref06_Plain.f k (wrap64 (2 * a0))).bind fun t189 => (some t189))) = some r := h
  clear h
  by_cases c2 : a0 < 0
  · rw [if_pos c2] at H
    have c2b0 : decide (a0 < 0) = true := decide_eq_true c2
    clear c2
    replace H := Option.bind_eq_some_iff.mp H
    obtain ⟨t188, A30, H⟩ := H
    replace H : (some t188) = some r := H
    have A3 := Aside0.mk A30
    clear A30
    obtain rfl := Option.some.inj H
    go_enter Try.func27, Try.ntmps27
    go_wp2_with (first | ((with_reducible refine gate_callee (f := 36) rfl ?_); refine goesL_ (some 9) rfl rfl Try.func36 (by kernel_rfl) rfl #[.int .i64 (wrap64 ((wrap64 ((-2) * (wrap64 (a0 + 1)))) + 1))] rfl (by (try simp only [List.map_toArray, List.map_cons, List.map_nil]); first | done | rfl | (simp only [List.length_drop, List.length_take]; rfl)) ?_; (with_reducible refine (corncribref06_Plain.calls k (wrap64 ((wrap64 ((-2) * (wrap64 (a0 + 1)))) + 1)) t188 _ A3.out).mono ?_); rintro e w4 ⟨rfl, hb⟩; refine ⟨_, rfl, ?_⟩; have n0_ := Aside0.mk (below_step (by repeat (first | (with_reducible first | exact HB.out | apply below_alloc | apply pw_below_drewN | apply below_drew1) | exact HB.out)) hb); clear HB; have HB := n0_; clear n0_; (try clear hb); (try clear hb2); (try clear hk); (try clear hi)))
    go_ret
    exact ⟨by first | rfl | (simp [errW_none, errW_some] <;> rfl) | (simp [*, errW_none, errW_some] <;> rfl), by repeat (first | (with_reducible first | exact HB.out | apply below_alloc | apply pw_below_drewN | apply below_drew1) | exact HB.out)⟩
  · rw [if_neg c2] at H
    have c2b0 : decide (a0 < 0) = false := decide_eq_false c2
    clear c2
    replace H := Option.bind_eq_some_iff.mp H
    obtain ⟨t189, A50, H⟩ := H
    replace H : (some t189) = some r := H
    have A5 := Aside0.mk A50
    clear A50
    obtain rfl := Option.some.inj H
    go_enter Try.func27, Try.ntmps27
    go_wp2_with (first | ((with_reducible refine gate_callee (f := 36) rfl ?_); refine goesL_ (some 12) rfl rfl Try.func36 (by kernel_rfl) rfl #[.int .i64 (wrap64 (2 * a0))] rfl (by (try simp only [List.map_toArray, List.map_cons, List.map_nil]); first | done | rfl | (simp only [List.length_drop, List.length_take]; rfl)) ?_; (with_reducible refine (corncribref06_Plain.calls k (wrap64 (2 * a0)) t189 _ A5.out).mono ?_); rintro e w6 ⟨rfl, hb⟩; refine ⟨_, rfl, ?_⟩; have n0_ := Aside0.mk (below_step (by repeat (first | (with_reducible first | exact HB.out | apply below_alloc | apply pw_below_drewN | apply below_drew1) | exact HB.out)) hb); clear HB; have HB := n0_; clear n0_; (try clear hb); (try clear hb2); (try clear hk); (try clear hi)))
    go_ret
    exact ⟨by first | rfl | (simp [errW_none, errW_some] <;> rfl) | (simp [*, errW_none, errW_some] <;> rfl), by repeat (first | (with_reducible first | exact HB.out | apply below_alloc | apply pw_below_drewN | apply below_drew1) | exact HB.out)⟩

end Go.Proofs.Ytjjgpleaidledaa.Al

/- One function of the program comes to what its plain twin says. This text began as the kit's own print (print.py, made by cprint.sh) and was turned by split.py: it is no printed file. -/
namespace Go.Proofs.Ytjjgpleaidledaa.Al
open Go.RowKit Go.Proofs.YtjjgpleaidledaaW.PrintWords Go.Proofs.YtjjgpleaidledaaW.PrintLast Go.Proofs.YtjjgpleaidledaaW.PrintMore
attribute [local go_sem] max2_int min2_int max_two min_two max_three min_three max_four min_four   -- for this text's walks alone
set_option linter.unusedVariables false
set_option linter.unusedSimpArgs false

/-! ### corncribref06_Bytes: function 24 -/
mutual
def corncribref06_Bytes.l0 : Nat → ByteArray → Int → List Int → List ByteArray → Option (ByteArray)
  | 0, _, _, _, _ => none
  | k + 1, x3, x4, x191000, x191001 => if x4 < (x191000.length : Int) then (if 0 ≤ x4 then ((corncribref06_Signed.f k (rd x191000 x4)).bind fun t193 => (if x3.size + t193.size ≤ 9223372036854775807 then (corncribref06_Bytes.l0 k (x3 ++ t193) (wrap64 (x4 + 1)) x191000 x191001) else (none))) else (none)) else ((corncribref06_Plain.f k (x191001.length : Int)).bind fun t194 => (if x3.size + t194.size ≤ 9223372036854775807 then (corncribref06_Bytes.l1 k (x3 ++ t194) 0 x191000 x191001) else (none)))
def corncribref06_Bytes.l1 : Nat → ByteArray → Int → List Int → List ByteArray → Option (ByteArray)
  | 0, _, _, _, _ => none
  | k + 1, x3, x5, x191000, x191001 => if x5 < (x191001.length : Int) then (if 0 ≤ x5 then ((corncribref06_Plain.f k ((rdOf ByteArray.empty x191001 x5).size : Int)).bind fun t196 => (if t196.size + (rdOf ByteArray.empty x191001 x5).size ≤ 9223372036854775807 then (if x3.size + (t196 ++ (rdOf ByteArray.empty x191001 x5)).size ≤ 9223372036854775807 then (corncribref06_Bytes.l1 k (x3 ++ (t196 ++ (rdOf ByteArray.empty x191001 x5))) (wrap64 (x5 + 1)) x191000 x191001) else (none)) else (none))) else (none)) else (some x3)
end
def corncribref06_Bytes.f (k : Nat) (l0_0 : List Int) (l0_1 : List ByteArray) : Option (ByteArray) := (corncribref06_Plain.f k (l0_0.length : Int)).bind fun t191 => (corncribref06_Bytes.l0 k t191 0 l0_0 l0_1)
theorem corncribref06_Bytes.mono_l : ∀ k, (∀ y0 y1 y2 y3, LeO (corncribref06_Bytes.l0 k y0 y1 y2 y3) (corncribref06_Bytes.l0 (k + 1) y0 y1 y2 y3)) ∧ (∀ y0 y1 y2 y3, LeO (corncribref06_Bytes.l1 k y0 y1 y2 y3) (corncribref06_Bytes.l1 (k + 1) y0 y1 y2 y3))
  | 0 => ⟨fun _ _ _ _ r h => by simp [corncribref06_Bytes.l0] at h, fun _ _ _ _ r h => by simp [corncribref06_Bytes.l1] at h⟩
  | k + 1 => by
    obtain ⟨ih0, ih1⟩ := corncribref06_Bytes.mono_l k
    refine ⟨?_, ?_⟩
    · intro y0 y1 y2 y3
      unfold corncribref06_Bytes.l0
      repeat' first
      | (with_reducible exact ih0 _ _ _ _)
      | (with_reducible exact ih1 _ _ _ _)
      | (with_reducible exact corncribref06_Plain.mono _ _)
      | (with_reducible exact corncribref06_Signed.mono _ _)
      | (with_reducible exact LeO.refl _)
      | (with_reducible exact LeO.none _)
      | (with_reducible refine LeO.ite ?_ ?_)
      | (with_reducible refine LeO.bind ?_ (fun _ => ?_))
      | exact ih0 _ _ _ _
      | exact ih1 _ _ _ _
      | exact corncribref06_Plain.mono _ _
      | exact corncribref06_Signed.mono _ _
      | exact LeO.none _
      | refine LeO.ite ?_ ?_
      | refine LeO.bind ?_ (fun _ => ?_)
    · intro y0 y1 y2 y3
      unfold corncribref06_Bytes.l1
      repeat' first
      | (with_reducible exact ih0 _ _ _ _)
      | (with_reducible exact ih1 _ _ _ _)
      | (with_reducible exact corncribref06_Plain.mono _ _)
      | (with_reducible exact corncribref06_Signed.mono _ _)
      | (with_reducible exact LeO.refl _)
      | (with_reducible exact LeO.none _)
      | (with_reducible refine LeO.ite ?_ ?_)
      | (with_reducible refine LeO.bind ?_ (fun _ => ?_))
      | exact ih0 _ _ _ _
      | exact ih1 _ _ _ _
      | exact corncribref06_Plain.mono _ _
      | exact corncribref06_Signed.mono _ _
      | exact LeO.none _
      | refine LeO.ite ?_ ?_
      | refine LeO.bind ?_ (fun _ => ?_)
theorem corncribref06_Bytes.mono : ∀ a0 a1 k, LeO (corncribref06_Bytes.f k a0 a1) (corncribref06_Bytes.f (k + 1) a0 a1) := by
  intro a0 a1 k
  obtain ⟨ih0, ih1⟩ := corncribref06_Bytes.mono_l k
  unfold corncribref06_Bytes.f
  repeat' first
      | (with_reducible exact ih0 _ _ _ _)
      | (with_reducible exact ih1 _ _ _ _)
      | (with_reducible exact corncribref06_Plain.mono _ _)
      | (with_reducible exact corncribref06_Signed.mono _ _)
      | (with_reducible exact LeO.refl _)
      | (with_reducible exact LeO.none _)
      | (with_reducible refine LeO.ite ?_ ?_)
      | (with_reducible refine LeO.bind ?_ (fun _ => ?_))
      | exact ih0 _ _ _ _
      | exact ih1 _ _ _ _
      | exact corncribref06_Plain.mono _ _
      | exact corncribref06_Signed.mono _ _
      | exact LeO.none _
      | refine LeO.ite ?_ ?_
      | refine LeO.bind ?_ (fun _ => ?_)
def corncribref06_Bytes.T10 : Bool × List (List Nat × List Nat) := (true, [([], []), ([], []), ([1], [1]), ([], []), ([2, 3], [2, 3]), ([4], [4]), ([5], [5]), ([6], [6]), ([], []), ([8], [8]), ([], []), ([9, 10], [9, 10]), ([11], [11]), ([7, 12], [7, 12]), ([0, 13], [0, 13]), ([14, 7, 0, 1, 2, 3, 4, 5, 6, 7, 8, 9, 10, 11, 12, 13, 14], [0, 14])])
def corncribref06_Bytes.B10 : List Nat := [0, 0, 2, 0, 14, 30, 62, 126, 0, 256, 0, 1792, 3840, 8190, 16383, 32767]
theorem corncribref06_Bytes.tab10 : rtab .any (opsOf Try.f24 10) = corncribref06_Bytes.T10 := by kernel_rfl
theorem corncribref06_Bytes.bits10 : waitsOk corncribref06_Bytes.T10.2 corncribref06_Bytes.B10 = true := by kernel_rfl
set_option maxHeartbeats 8000000 in
set_option maxRecDepth 100000 in
theorem corncribref06_Bytes.calls (k : Nat) (A0_0 : Option Addr) (c0_0 : Nat) (l0_0 : List Int) (A0_1 : Option Addr) (c0_1 : Nat) (l0_1 : List ByteArray) (r : ByteArray) (w : World) (hr0_0 : Kd.C (Kd.int .i64) w A0_0 l0_0.length l0_0) (hc0_0 : l0_0.length ≤ c0_0) (hr0_1 : Kd.C Kd.string w A0_1 l0_1.length l0_1) (hc0_1 : l0_1.length ≤ c0_1) (h : corncribref06_Bytes.f k l0_0 l0_1 = some r) :
    Calls Try.prog 24 #[.agg #[.slice A0_0 l0_0.length c0_0, .slice A0_1 l0_1.length c0_1]] w fun e w' => e = .returned (.string r) ∧ Below w.heap.size w w' := by
  have hu25 := Try.underlying25
  have HR0_0 := Aside0.mk hr0_0
  have HC0_0 := Aside0.mk hc0_0
  clear hr0_0 hc0_0
  have HR0_1 := Aside0.mk hr0_1
  have HC0_1 := Aside0.mk hc0_1
  clear hr0_1 hc0_1
  have HB := Aside0.mk (Below.refl w.heap.size w)
  have H : ((corncribref06_Plain.f k (l0_0.length : Int)).bind fun t191 => (corncribref06_Bytes.l0 k t191 0 l0_0 l0_1)) = some r := h
  clear h
  replace H := Option.bind_eq_some_iff.mp H
  obtain ⟨t191, A20, H⟩ := H
  replace H : (corncribref06_Bytes.l0 k t191 0 l0_0 l0_1) = some r := H
  have A2 := Aside0.mk A20
  clear A20
  have H' := Aside0.mk H
  clear H
  go_enter Try.func24, Try.ntmps24
  go_wp2_with (first | ((with_reducible refine gate_dst (N := 1) rfl ?_); refine box_event ?hg (N := 1) ?hd (cs := #[.slice A0_0 l0_0.length c0_0, .slice A0_1 l0_1.length c0_1]) (t := 25) ?hr ?_; (case hd => rfl); (case hg => rfl); (case hr => first | (go_simp; done) | (go_simp; rfl)); intro gb190 hg w3 hbox hb; have n0_ := Aside0.mk (below_step (by repeat (first | (with_reducible first | exact HB.out | apply below_alloc | apply pw_below_drewN | apply below_drew1) | exact HB.out)) hb); have n1_ := Aside0.mk (hbox); have n2_ := Aside0.mk ((by rw [hg]; exact (below_size (by repeat (first | (with_reducible first | exact HB.out | apply below_alloc | apply pw_below_drewN | apply below_drew1) | exact HB.out))) : w.heap.size ≤ gb190)); have n3_ := Aside0.mk ((by rw [hg]; exact (below_size (by repeat (first | (with_reducible first | exact HB.out | apply below_alloc | apply pw_below_drewN | apply below_drew1) | exact HB.out))) : w.heap.size ≤ gb190)); clear HB; have HB := n0_; have BK190 := n1_; have GW190 := n2_; have GE190 := n3_; clear n0_ n1_ n2_ n3_; clear hb hbox hg; have hcz4_0 : w3.cell? ⟨gb190, 0, none⟩ = some (.slice A0_0 l0_0.length c0_0) := (blk_cell BK190.out 0).trans rfl; have hcz4_1 : w3.cell? ⟨gb190, 1, none⟩ = some (.slice A0_1 l0_1.length c0_1) := (blk_cell BK190.out 1).trans rfl; have hfz4_0 := blk_frozen BK190.out 0; have hfz4_1 := blk_frozen BK190.out 1) | ((with_reducible refine gate_callee (f := 36) rfl ?_); refine goesL_ (some 9) rfl rfl Try.func36 (by kernel_rfl) rfl #[.int .i64 (l0_0.length : Int)] rfl (by (try simp only [List.map_toArray, List.map_cons, List.map_nil]); first | done | rfl | (simp only [List.length_drop, List.length_take]; rfl)) ?_; (with_reducible refine (corncribref06_Plain.calls k (l0_0.length : Int) t191 _ A2.out).mono ?_); rintro e w5 ⟨rfl, hb⟩; refine ⟨_, rfl, ?_⟩; have n0_ := Aside0.mk (blk_below (g := gb190) (o := .cells #[.slice A0_0 l0_0.length c0_0, .slice A0_1 l0_1.length c0_1] 25 (0, 0)) (by (with_reducible repeat (first | refine blk_drewN ?_ _ | refine blk_drew ?_ | refine blk_alloc ?_ _)); exact BK190.out) hb); have n1_ := Aside0.mk (below_step (by repeat (first | (with_reducible first | exact HB.out | apply below_alloc | apply pw_below_drewN | apply below_drew1 | refine below_set ?_ GE190.out) | exact HB.out)) hb); clear BK190; clear HB; have BK190 := n0_; have HB := n1_; clear n0_ n1_; (try clear hb); (try clear hb2); (try clear hk); (try clear hi)))
  go_loopg [3, 4] k (fun kq v3 v4 w' => ∃ (x3_1 : ByteArray) (x4_1 : Int), v3 = .string x3_1 ∧ v4 = .int .i64 x4_1 ∧ Aside0 (corncribref06_Bytes.l0 kq x3_1 x4_1 l0_0 l0_1 = some r) ∧ Aside0 (kq ≤ k) ∧ Aside0 (w'.heap[gb190]? = some (.cells #[(.slice A0_0 l0_0.length c0_0), (.slice A0_1 l0_1.length c0_1)] 25 (0, 0))) ∧ Aside0 (Below w.heap.size w w'))
  case atStart => exact ⟨(t191), (0), (by first | rfl | (simp; done) | (simp [*]; done)), (by first | rfl | (simp; done) | (simp [*]; done)), H', ⟨Nat.le_refl _⟩, ⟨by (with_reducible repeat (first | refine blk_drewN ?_ _ | refine blk_drew ?_ | refine blk_alloc ?_ _)); exact BK190.out⟩, ⟨by repeat (first | (with_reducible first | exact HB.out | apply below_alloc | apply pw_below_drewN | apply below_drew1 | refine below_set ?_ GE190.out) | exact HB.out)⟩⟩
  case round =>
    clear H'
    try clear c2
    try clear p2
    try clear c3
    try clear hcz4_0
    try clear hcz4_1
    try clear hfz4_0
    try clear hfz4_1
    obtain ⟨x3_1, x4_1, rfl, rfl, HA, HK1, BK190, HB⟩ := hrel
    cases gk with
    | zero => exact absurd HA.out (by simp [corncribref06_Bytes.l0])
    | succ k1 =>
      have H := HA.out
      clear HA
      simp only [corncribref06_Bytes.l0] at H
      by_cases c6 : x4_1 < (l0_0.length : Int)
      · rw [if_pos c6] at H
        have c6b0 : decide (x4_1 < (l0_0.length : Int)) = true := decide_eq_true c6
        clear c6
        by_cases c7 : 0 ≤ x4_1
        · rw [if_pos c7] at H
          have c7b0 : decide (0 ≤ x4_1) = true := decide_eq_true c7
          clear c7
          replace H := Option.bind_eq_some_iff.mp H
          obtain ⟨t193, A80, H⟩ := H
          replace H : (if x3_1.size + t193.size ≤ 9223372036854775807 then (corncribref06_Bytes.l0 k1 (x3_1 ++ t193) (wrap64 (x4_1 + 1)) l0_0 l0_1) else (none)) = some r := H
          have A8 := Aside0.mk A80
          clear A80
          by_cases c9 : x3_1.size + t193.size ≤ 9223372036854775807
          · rw [if_pos c9] at H
            have c9b0 := eq_true c9
            have c9b1 : decide (x3_1.size + t193.size ≤ 9223372036854775807) = true := decide_eq_true c9
            try have c9b2 : (9223372036854775807 < x3_1.size + t193.size) = False := eq_false (Nat.not_lt.2 c9)
            have H' := Aside0.mk H
            clear H
            have hcz10_0 : wr.cell? ⟨gb190, 0, none⟩ = some (.slice A0_0 l0_0.length c0_0) := (blk_cell BK190.out 0).trans rfl
            have hcz10_1 : wr.cell? ⟨gb190, 1, none⟩ = some (.slice A0_1 l0_1.length c0_1) := (blk_cell BK190.out 1).trans rfl
            have hfz10_0 := blk_frozen BK190.out 0
            have hfz10_1 := blk_frozen BK190.out 1
            have p192 : 0 ≤ (x4_1 : Int) := of_decide_eq_true (by first | (with_reducible assumption) | assumption)
            have q192 : x4_1 < (l0_0.length : Int) := of_decide_eq_true (by first | (with_reducible assumption) | assumption)
            obtain ⟨ad192, e192, hx192_0⟩ := Kd.at_int HR0_0.out x4_1 p192 q192
            cases e192
            replace hx192_0 := (HB.out.cell (World.block_lt_of_cell? w _ hx192_0)).trans hx192_0
            replace p192 := eq_true p192
            replace q192 := eq_true q192
            go_wp2_with (first | ((with_reducible refine gate_callee (f := 27) rfl ?_); refine goesL_ (some 23) rfl rfl Try.func27 (by kernel_rfl) rfl #[.int .i64 (rd l0_0 x4_1)] rfl (by (try simp only [List.map_toArray, List.map_cons, List.map_nil]); first | done | rfl | (simp only [List.length_drop, List.length_take]; rfl)) ?_; (with_reducible refine (corncribref06_Signed.calls k1 (rd l0_0 x4_1) t193 _ A8.out).mono ?_); rintro e w11 ⟨rfl, hb⟩; refine ⟨_, rfl, ?_⟩; have n0_ := Aside0.mk (blk_below (g := gb190) (o := .cells #[.slice (some ad192) l0_0.length c0_0, .slice A0_1 l0_1.length c0_1] 25 (0, 0)) (by (with_reducible repeat (first | refine blk_drewN ?_ _ | refine blk_drew ?_ | refine blk_alloc ?_ _)); exact BK190.out) hb); have n1_ := Aside0.mk (below_step (by repeat (first | (with_reducible first | exact HB.out | apply below_alloc | apply pw_below_drewN | apply below_drew1 | refine below_set ?_ GE190.out) | exact HB.out)) hb); clear BK190; clear HB; have BK190 := n0_; have HB := n1_; clear n0_ n1_; (try clear hb); (try clear hb2); (try clear hk); (try clear hi)))
            go_roundg k1
            case measure => have := HK1.out; omega
            case rel => exact ⟨(x3_1 ++ t193), (wrap64 (x4_1 + 1)), (by first | rfl | (simp; done) | (simp [*]; done)), (by first | rfl | (simp; done) | (simp [*]; done)), H', ⟨by have := HK1.out; omega⟩, ⟨by (with_reducible repeat (first | refine blk_drewN ?_ _ | refine blk_drew ?_ | refine blk_alloc ?_ _)); exact BK190.out⟩, ⟨by repeat (first | (with_reducible first | exact HB.out | apply below_alloc | apply pw_below_drewN | apply below_drew1 | refine below_set ?_ GE190.out) | exact HB.out)⟩⟩
          · rw [if_neg c9] at H
            exact absurd H (by simp)
        · rw [if_neg c7] at H
          exact absurd H (by simp)
      · rw [if_neg c6] at H
        have c6b0 : decide (x4_1 < (l0_0.length : Int)) = false := decide_eq_false c6
        clear c6
        replace H := Option.bind_eq_some_iff.mp H
        obtain ⟨t194, A120, H⟩ := H
        replace H : (if x3_1.size + t194.size ≤ 9223372036854775807 then (corncribref06_Bytes.l1 k1 (x3_1 ++ t194) 0 l0_0 l0_1) else (none)) = some r := H
        have A12 := Aside0.mk A120
        clear A120
        by_cases c13 : x3_1.size + t194.size ≤ 9223372036854775807
        · rw [if_pos c13] at H
          have c13b0 := eq_true c13
          have c13b1 : decide (x3_1.size + t194.size ≤ 9223372036854775807) = true := decide_eq_true c13
          try have c13b2 : (9223372036854775807 < x3_1.size + t194.size) = False := eq_false (Nat.not_lt.2 c13)
          have H' := Aside0.mk H
          clear H
          have hcz14_0 : wr.cell? ⟨gb190, 0, none⟩ = some (.slice A0_0 l0_0.length c0_0) := (blk_cell BK190.out 0).trans rfl
          have hcz14_1 : wr.cell? ⟨gb190, 1, none⟩ = some (.slice A0_1 l0_1.length c0_1) := (blk_cell BK190.out 1).trans rfl
          have hfz14_0 := blk_frozen BK190.out 0
          have hfz14_1 := blk_frozen BK190.out 1
          go_wp2_with (first | ((with_reducible refine gate_callee (f := 36) rfl ?_); refine goesL_ (some 29) rfl rfl Try.func36 (by kernel_rfl) rfl #[.int .i64 (l0_1.length : Int)] rfl (by (try simp only [List.map_toArray, List.map_cons, List.map_nil]); first | done | rfl | (simp only [List.length_drop, List.length_take]; rfl)) ?_; (with_reducible refine (corncribref06_Plain.calls k1 (l0_1.length : Int) t194 _ A12.out).mono ?_); rintro e w15 ⟨rfl, hb⟩; refine ⟨_, rfl, ?_⟩; have n0_ := Aside0.mk (blk_below (g := gb190) (o := .cells #[.slice A0_0 l0_0.length c0_0, .slice A0_1 l0_1.length c0_1] 25 (0, 0)) (by (with_reducible repeat (first | refine blk_drewN ?_ _ | refine blk_drew ?_ | refine blk_alloc ?_ _)); exact BK190.out) hb); have n1_ := Aside0.mk (below_step (by repeat (first | (with_reducible first | exact HB.out | apply below_alloc | apply pw_below_drewN | apply below_drew1 | refine below_set ?_ GE190.out) | exact HB.out)) hb); clear BK190; clear HB; have BK190 := n0_; have HB := n1_; clear n0_ n1_; (try clear hb); (try clear hb2); (try clear hk); (try clear hi)))
          go_loopg [3, 5] k1 (fun kq v3 v5 w' => ∃ (x3_2 : ByteArray) (x5_2 : Int), v3 = .string x3_2 ∧ v5 = .int .i64 x5_2 ∧ Aside0 (corncribref06_Bytes.l1 kq x3_2 x5_2 l0_0 l0_1 = some r) ∧ Aside0 (kq ≤ k1) ∧ Aside0 (w'.heap[gb190]? = some (.cells #[(.slice A0_0 l0_0.length c0_0), (.slice A0_1 l0_1.length c0_1)] 25 (0, 0))) ∧ Aside0 (Below w.heap.size w w'))
          case atStart => exact ⟨(x3_1 ++ t194), (0), (by first | rfl | (simp; done) | (simp [*]; done)), (by first | rfl | (simp; done) | (simp [*]; done)), H', ⟨Nat.le_refl _⟩, ⟨by (with_reducible repeat (first | refine blk_drewN ?_ _ | refine blk_drew ?_ | refine blk_alloc ?_ _)); exact BK190.out⟩, ⟨by repeat (first | (with_reducible first | exact HB.out | apply below_alloc | apply pw_below_drewN | apply below_drew1 | refine below_set ?_ GE190.out) | exact HB.out)⟩⟩
          case round =>
            clear H'
            try clear c1
            try clear p1
            try clear q1
            try clear hx1
            try clear c2
            try clear p2
            try clear c3
            try clear c6
            try clear c6b0
            try clear p6
            try clear c7
            try clear c7b0
            try clear c9
            try clear c9b0
            try clear c9b1
            try clear c9b2
            try clear c13
            try clear c13b0
            try clear c13b1
            try clear c13b2
            try clear hcz10_0
            try clear hcz10_1
            try clear hcz14_0
            try clear hcz14_1
            try clear hcz4_0
            try clear hcz4_1
            try clear hfz10_0
            try clear hfz10_1
            try clear hfz14_0
            try clear hfz14_1
            try clear hfz4_0
            try clear hfz4_1
            try clear hx192_0
            try clear p192
            try clear p2
            try clear q192
            obtain ⟨x3_2, x5_2, rfl, rfl, HA, HK2, BK190, HB⟩ := hrel
            cases gk with
            | zero => exact absurd HA.out (by simp [corncribref06_Bytes.l1])
            | succ k2 =>
              have H := HA.out
              clear HA
              simp only [corncribref06_Bytes.l1] at H
              by_cases c16 : x5_2 < (l0_1.length : Int)
              · rw [if_pos c16] at H
                have c16b0 : decide (x5_2 < (l0_1.length : Int)) = true := decide_eq_true c16
                clear c16
                by_cases c17 : 0 ≤ x5_2
                · rw [if_pos c17] at H
                  have c17b0 : decide (0 ≤ x5_2) = true := decide_eq_true c17
                  clear c17
                  replace H := Option.bind_eq_some_iff.mp H
                  obtain ⟨t196, A180, H⟩ := H
                  replace H : (if t196.size + (rdOf ByteArray.empty l0_1 x5_2).size ≤ 9223372036854775807 then (if x3_2.size + (t196 ++ (rdOf ByteArray.empty l0_1 x5_2)).size ≤ 9223372036854775807 then (corncribref06_Bytes.l1 k2 (x3_2 ++ (t196 ++ (rdOf ByteArray.empty l0_1 x5_2))) (wrap64 (x5_2 + 1)) l0_0 l0_1) else (none)) else (none)) = some r := H
                  have A18 := Aside0.mk A180
                  clear A180
                  by_cases c19 : t196.size + (rdOf ByteArray.empty l0_1 x5_2).size ≤ 9223372036854775807
                  · rw [if_pos c19] at H
                    have c19b0 := eq_true c19
                    have c19b1 : decide (t196.size + (rdOf ByteArray.empty l0_1 x5_2).size ≤ 9223372036854775807) = true := decide_eq_true c19
                    try have c19b2 : (9223372036854775807 < t196.size + (rdOf ByteArray.empty l0_1 x5_2).size) = False := eq_false (Nat.not_lt.2 c19)
                    by_cases c20 : x3_2.size + (t196 ++ (rdOf ByteArray.empty l0_1 x5_2)).size ≤ 9223372036854775807
                    · rw [if_pos c20] at H
                      have c20b0 := eq_true c20
                      try have c20b0z : (x3_2.size + (t196.size + (rdOf ByteArray.empty l0_1 x5_2).size : Nat) ≤ 9223372036854775807) = True := eq_true (by simpa only [ByteArray.size_extract, ByteArray.size_append, Nat.min_self] using of_eq_true c20b0)
                      have c20b1 : decide (x3_2.size + (t196 ++ (rdOf ByteArray.empty l0_1 x5_2)).size ≤ 9223372036854775807) = true := decide_eq_true c20
                      try have c20b1z : decide (x3_2.size + (t196.size + (rdOf ByteArray.empty l0_1 x5_2).size : Nat) ≤ 9223372036854775807) = true := by simpa only [ByteArray.size_extract, ByteArray.size_append, Nat.min_self] using c20b1
                      try have c20b2 : (9223372036854775807 < x3_2.size + (t196 ++ (rdOf ByteArray.empty l0_1 x5_2)).size) = False := eq_false (Nat.not_lt.2 c20)
                      try have c20b2z : (9223372036854775807 < x3_2.size + (t196.size + (rdOf ByteArray.empty l0_1 x5_2).size : Nat)) = False := by simpa only [ByteArray.size_extract, ByteArray.size_append, Nat.min_self] using c20b2
                      have H' := Aside0.mk H
                      clear H
                      have hcz21_0 : wr.cell? ⟨gb190, 0, none⟩ = some (.slice A0_0 l0_0.length c0_0) := (blk_cell BK190.out 0).trans rfl
                      have hcz21_1 : wr.cell? ⟨gb190, 1, none⟩ = some (.slice A0_1 l0_1.length c0_1) := (blk_cell BK190.out 1).trans rfl
                      have hfz21_0 := blk_frozen BK190.out 0
                      have hfz21_1 := blk_frozen BK190.out 1
                      try go_wp2
                      have n0_ := Aside0.mk (blk_drew BK190.out)
                      have n1_ := Aside0.mk (below_drew1 HB.out)
                      clear BK190
                      clear HB
                      have BK190 := n0_
                      have HB := n1_
                      clear n0_ n1_
                      have p195 : 0 ≤ (x5_2 : Int) := of_decide_eq_true (by first | (with_reducible assumption) | assumption)
                      have q195 : x5_2 < (l0_1.length : Int) := of_decide_eq_true (by first | (with_reducible assumption) | assumption)
                      obtain ⟨ad195, e195, hx195_0⟩ := Kd.at_string HR0_1.out x5_2 p195 q195
                      have hw195_0 := hx195_0
                      cases e195
                      replace hx195_0 := (HB.out.cell (World.block_lt_of_cell? w _ hx195_0)).trans hx195_0
                      replace p195 := eq_true p195
                      replace q195 := eq_true q195
                      have p197 : 0 ≤ (x5_2 : Int) := of_decide_eq_true (by first | (with_reducible assumption) | assumption)
                      have q197 : x5_2 < (l0_1.length : Int) := of_decide_eq_true (by first | (with_reducible assumption) | assumption)
                      obtain ⟨ad197, e197, hx197_0⟩ := Kd.at_string HR0_1.out x5_2 p197 q197
                      have hw197_0 := hx197_0
                      obtain rfl : ad195 = ad197 := (by injection e197)
                      replace hx197_0 := (HB.out.cell (World.block_lt_of_cell? w _ hx197_0)).trans hx197_0
                      replace p197 := eq_true p197
                      replace q197 := eq_true q197
                      refine start_ (n := 16) (S := fun w' => w'.cell? ⟨gb190, 0, none⟩ = some (.slice A0_0 l0_0.length c0_0) ∧ w'.cell? ⟨gb190, 1, none⟩ = some (.slice (some ad195) l0_1.length c0_1) ∧ w'.cell? (ad195.add (x5_2).toNat) = some (.string (rdOf ByteArray.empty l0_1 x5_2)) ∧ w'.cell? (ad195.add (x5_2).toNat) = some (.string (rdOf ByteArray.empty l0_1 x5_2))) (ds := []) #[false, false, false, false, false, false, false, false, false, false, false, false, false, false, false, false] (by kernel_rfl) rfl rfl ⟨(blk_cell BK190.out 0).trans rfl, (blk_cell BK190.out 1).trans rfl, ((HB.out.cell (World.block_lt_of_cell? w _ hw195_0)).trans hw195_0), ((HB.out.cell (World.block_lt_of_cell? w _ hw197_0)).trans hw197_0)⟩ (fun hHeld => ?_); refine with_tabW corncribref06_Bytes.tab10 corncribref06_Bytes.bits10 (fun HT_ HW_ => ?_)
                      generalize wr.drew = w22 at BK190 HB hx195_0 hx197_0 hHeld ⊢
                      refine pure_ (i := 0) (N := some 38) (v := ?_) (a' := ?_) #[true, false, false, false, false, false, false, false, false, false, false, false, false, false, false, false] rfl rfl (any_of HT_.out (by kernel_rfl)) (fun _ _ _ h => h) (Or.inl ⟨by rfl, ?_⟩) ?_ ?_
                      rotate_left
                      · intro w'
                        go_simp
                        with_reducible rfl
                      rotate_left
                      · simp only [Act.put, List.setIfInBounds_toArray, List.set_cons_zero, List.set_cons_succ, i64_w, i32_w]
                        rfl
                      refine pure_ (i := 1) (N := some 39) (v := ?_) (a' := ?_) #[true, true, false, false, false, false, false, false, false, false, false, false, false, false, false, false] rfl rfl (any_of HT_.out (by kernel_rfl)) (fun _ _ _ h => h) (Or.inl ⟨by rfl, ?_⟩) ?_ ?_
                      rotate_left
                      · intro w'
                        go_simp
                        with_reducible rfl
                      rotate_left
                      · simp only [Act.put, List.setIfInBounds_toArray, List.set_cons_zero, List.set_cons_succ, i64_w, i32_w]
                        rfl
                      refine pure_ (i := 3) (N := some 41) (v := ?_) (a' := ?_) #[true, true, false, true, false, false, false, false, false, false, false, false, false, false, false, false] rfl rfl (any_of HT_.out (by kernel_rfl)) (fun _ _ _ h => h) (Or.inl ⟨by rfl, ?_⟩) ?_ ?_
                      rotate_left
                      · intro w'
                        go_simp
                        with_reducible rfl
                      rotate_left
                      · simp only [Act.put, List.setIfInBounds_toArray, List.set_cons_zero, List.set_cons_succ, i64_w, i32_w]
                        rfl
                      refine pure_ (i := 8) (N := some 46) (v := ?_) (a' := ?_) #[true, true, false, true, false, false, false, false, true, false, false, false, false, false, false, false] rfl rfl (any_of HT_.out (by kernel_rfl)) (fun _ _ _ h => h) (Or.inl ⟨by rfl, ?_⟩) ?_ ?_
                      rotate_left
                      · intro w'
                        go_simp
                        with_reducible rfl
                      rotate_left
                      · simp only [Act.put, List.setIfInBounds_toArray, List.set_cons_zero, List.set_cons_succ, i64_w, i32_w]
                        rfl
                      refine pure_ (i := 10) (N := some 48) (v := ?_) (a' := ?_) #[true, true, false, true, false, false, false, false, true, false, true, false, false, false, false, false] rfl rfl (any_of HT_.out (by kernel_rfl)) (fun _ _ _ h => h) (Or.inl ⟨by rfl, ?_⟩) ?_ ?_
                      rotate_left
                      · intro w'
                        go_simp
                        with_reducible rfl
                      rotate_left
                      · simp only [Act.put, List.setIfInBounds_toArray, List.set_cons_zero, List.set_cons_succ, i64_w, i32_w]
                        rfl
                      refine take_ (i := 2) (N := some 40) (v := ?_) (a' := ?_) #[true, true, true, true, false, false, false, false, true, false, true, false, false, false, false, false] rfl rfl (take_ofW HT_.out HW_.out (by kernel_rfl)) (fun _ _ _ h => h) (Or.inl ⟨by rfl, ?_⟩) hHeld ?_ ?_
                      rotate_left
                      · rintro w' ⟨s0, s1, s2, s3⟩
                        go_simp
                        with_reducible rfl
                      rotate_left
                      · simp only [Act.put, List.setIfInBounds_toArray, List.set_cons_zero, List.set_cons_succ, i64_w, i32_w]
                        rfl
                      refine pure_ (i := 4) (N := some 42) (v := ?_) (a' := ?_) #[true, true, true, true, true, false, false, false, true, false, true, false, false, false, false, false] rfl rfl (any_of HT_.out (by kernel_rfl)) (fun _ _ _ h => h) (Or.inl ⟨by rfl, ?_⟩) ?_ ?_
                      rotate_left
                      · intro w'
                        go_simp
                        with_reducible rfl
                      rotate_left
                      · simp only [Act.put, List.setIfInBounds_toArray, List.set_cons_zero, List.set_cons_succ, i64_w, i32_w]
                        rfl
                      refine take_ (i := 5) (N := some 43) (v := ?_) (a' := ?_) #[true, true, true, true, true, true, false, false, true, false, true, false, false, false, false, false] rfl rfl (take_ofW HT_.out HW_.out (by kernel_rfl)) (fun _ _ _ h => h) (Or.inl ⟨by rfl, ?_⟩) hHeld ?_ ?_
                      rotate_left
                      · rintro w' ⟨s0, s1, s2, s3⟩
                        go_simp
                        with_reducible rfl
                      rotate_left
                      · simp only [Act.put, List.setIfInBounds_toArray, List.set_cons_zero, List.set_cons_succ, i64_w, i32_w]
                        rfl
                      refine pure_ (i := 6) (N := some 44) (v := ?_) (a' := ?_) #[true, true, true, true, true, true, true, false, true, false, true, false, false, false, false, false] rfl rfl (any_of HT_.out (by kernel_rfl)) (fun _ _ _ h => h) (Or.inl ⟨by rfl, ?_⟩) ?_ ?_
                      rotate_left
                      · intro w'
                        go_simp
                        with_reducible rfl
                      rotate_left
                      · simp only [Act.put, List.setIfInBounds_toArray, List.set_cons_zero, List.set_cons_succ, i64_w, i32_w]
                        rfl
                      refine take_ (i := 9) (N := some 47) (v := ?_) (a' := ?_) #[true, true, true, true, true, true, true, false, true, true, true, false, false, false, false, false] rfl rfl (take_ofW HT_.out HW_.out (by kernel_rfl)) (fun _ _ _ h => h) (Or.inl ⟨by rfl, ?_⟩) hHeld ?_ ?_
                      rotate_left
                      · rintro w' ⟨s0, s1, s2, s3⟩
                        go_simp
                        with_reducible rfl
                      rotate_left
                      · simp only [Act.put, List.setIfInBounds_toArray, List.set_cons_zero, List.set_cons_succ, i64_w, i32_w]
                        rfl
                      refine pure_ (i := 11) (N := some 49) (v := ?_) (a' := ?_) #[true, true, true, true, true, true, true, false, true, true, true, true, false, false, false, false] rfl rfl (any_of HT_.out (by kernel_rfl)) (fun _ _ _ h => h) (Or.inl ⟨by rfl, ?_⟩) ?_ ?_
                      rotate_left
                      · intro w'
                        go_simp
                        with_reducible rfl
                      rotate_left
                      · simp only [Act.put, List.setIfInBounds_toArray, List.set_cons_zero, List.set_cons_succ, i64_w, i32_w]
                        rfl
                      refine take_ (i := 12) (N := some 50) (v := ?_) (a' := ?_) #[true, true, true, true, true, true, true, false, true, true, true, true, true, false, false, false] rfl rfl (take_ofW HT_.out HW_.out (by kernel_rfl)) (fun _ _ _ h => h) (Or.inl ⟨by rfl, ?_⟩) hHeld ?_ ?_
                      rotate_left
                      · rintro w' ⟨s0, s1, s2, s3⟩
                        go_simp
                        with_reducible rfl
                      rotate_left
                      · simp only [Act.put, List.setIfInBounds_toArray, List.set_cons_zero, List.set_cons_succ, i64_w, i32_w]
                        rfl
                      refine one_ (i := 7) (N := some 45) #[true, true, true, true, true, true, true, true, true, true, true, true, true, false, false, false] rfl rfl (one_of HT_.out (by kernel_rfl)) (by decide) (fun K hK => ?_)
                      refine goes_ Try.func36 (by kernel_rfl) rfl #[.int .i64 ((rdOf ByteArray.empty l0_1 x5_2).size : Int)] (by rfl) rfl rfl (by (try simp only [List.map_toArray, List.map_cons, List.map_nil]); first | done | rfl | (simp only [List.length_drop, List.length_take]; rfl)) ?_
                      with_reducible refine (corncribref06_Plain.calls k2 ((rdOf ByteArray.empty l0_1 x5_2).size : Int) t196 _ A18.out).mono ?_
                      rintro e w23 ⟨rfl, hb⟩
                      refine ⟨_, rfl, ?_⟩
                      have n0_ := Aside0.mk (blk_below (g := gb190) (o := .cells #[.slice A0_0 l0_0.length c0_0, .slice (some ad195) l0_1.length c0_1] 25 (0, 0)) (by (with_reducible repeat (first | refine blk_drewN ?_ _ | refine blk_drew ?_ | refine blk_alloc ?_ _)); exact BK190.out) hb)
                      have n1_ := Aside0.mk (below_step (by repeat (first | (with_reducible first | exact HB.out | apply below_alloc | apply pw_below_drewN | apply below_drew1 | refine below_set ?_ GE190.out) | exact HB.out)) hb)
                      clear BK190
                      clear HB
                      have BK190 := n0_
                      have HB := n1_
                      clear n0_ n1_
                      (try clear hb)
                      (try clear hb2)
                      (try clear hk)
                      (try clear hi)
                      refine hK.out _ _ ⟨(blk_cell BK190.out 0).trans rfl, (blk_cell BK190.out 1).trans rfl, ((HB.out.cell (World.block_lt_of_cell? w _ hw195_0)).trans hw195_0), ((HB.out.cell (World.block_lt_of_cell? w _ hw197_0)).trans hw197_0)⟩ (fun hHeld => ?_)
                      clear hK K
                      refine norm_ (a' := ?_) ?_ ?_
                      rotate_left
                      · show Act.put _ (some 45) _ = _
                        simp only [Act.put, List.setIfInBounds_toArray, List.set_cons_zero, List.set_cons_succ, i64_w, i32_w]
                        rfl
                      refine pure_ (i := 13) (N := some 51) (v := ?_) (a' := ?_) #[true, true, true, true, true, true, true, true, true, true, true, true, true, true, false, false] rfl rfl (any_of HT_.out (by kernel_rfl)) (fun _ _ _ h => h) (Or.inl ⟨by rfl, ?_⟩) ?_ ?_
                      rotate_left
                      · intro w'
                        go_simp
                        with_reducible rfl
                      rotate_left
                      · simp only [Act.put, List.setIfInBounds_toArray, List.set_cons_zero, List.set_cons_succ, i64_w, i32_w]
                        rfl
                      refine pure_ (i := 14) (N := some 52) (v := ?_) (a' := ?_) #[true, true, true, true, true, true, true, true, true, true, true, true, true, true, true, false] rfl rfl (any_of HT_.out (by kernel_rfl)) (fun _ _ _ h => h) (Or.inl ⟨by rfl, ?_⟩) ?_ ?_
                      rotate_left
                      · intro w'
                        go_simp
                        with_reducible rfl
                      rotate_left
                      · simp only [Act.put, List.setIfInBounds_toArray, List.set_cons_zero, List.set_cons_succ, i64_w, i32_w]
                        rfl
                      refine pure_ (i := 15) (N := some 3) (v := ?_) (a' := ?_) #[true, true, true, true, true, true, true, true, true, true, true, true, true, true, true, true] rfl rfl (any_of HT_.out (by kernel_rfl)) (fun _ _ _ h => h) (Or.inl ⟨by rfl, ?_⟩) ?_ ?_
                      rotate_left
                      · intro w'
                        go_simp
                        with_reducible rfl
                      rotate_left
                      · simp only [Act.put, List.setIfInBounds_toArray, List.set_cons_zero, List.set_cons_succ, i64_w, i32_w]
                        rfl
                      refine done_ (done_of HT_.out (by kernel_rfl)) ?_
                      try go_wp2
                      go_roundg k2
                      case measure => have := HK1.out; have := HK2.out; omega
                      case rel => exact ⟨(x3_2 ++ (t196 ++ (rdOf ByteArray.empty l0_1 x5_2))), (wrap64 (x5_2 + 1)), (by first | rfl | (simp; done) | (simp [*]; done)), (by first | rfl | (simp; done) | (simp [*]; done)), H', ⟨by have := HK1.out; have := HK2.out; omega⟩, ⟨by (with_reducible repeat (first | refine blk_drewN ?_ _ | refine blk_drew ?_ | refine blk_alloc ?_ _)); exact BK190.out⟩, ⟨by repeat (first | (with_reducible first | exact HB.out | apply below_alloc | apply pw_below_drewN | apply below_drew1 | refine below_set ?_ GE190.out) | exact HB.out)⟩⟩
                    · rw [if_neg c20] at H
                      exact absurd H (by simp)
                  · rw [if_neg c19] at H
                    exact absurd H (by simp)
                · rw [if_neg c17] at H
                  exact absurd H (by simp)
              · rw [if_neg c16] at H
                have c16b0 : decide (x5_2 < (l0_1.length : Int)) = false := decide_eq_false c16
                clear c16
                obtain rfl := Option.some.inj H
                have hcz24_0 : wr.cell? ⟨gb190, 0, none⟩ = some (.slice A0_0 l0_0.length c0_0) := (blk_cell BK190.out 0).trans rfl
                have hcz24_1 : wr.cell? ⟨gb190, 1, none⟩ = some (.slice A0_1 l0_1.length c0_1) := (blk_cell BK190.out 1).trans rfl
                have hfz24_0 := blk_frozen BK190.out 0
                have hfz24_1 := blk_frozen BK190.out 1
                go_wp2
                go_ret
                exact ⟨by first | rfl | (simp [errW_none, errW_some] <;> rfl) | (simp [*, errW_none, errW_some] <;> rfl), by repeat (first | (with_reducible first | exact HB.out | apply below_alloc | apply pw_below_drewN | apply below_drew1 | refine below_set ?_ GE190.out) | exact HB.out)⟩
        · rw [if_neg c13] at H
          exact absurd H (by simp)

end Go.Proofs.Ytjjgpleaidledaa.Al

/- One function of the program comes to what its plain twin says. This text began as the kit's own print (print.py, made by cprint.sh) and was turned by split.py: it is no printed file. -/
namespace Go.Proofs.Ytjjgpleaidledaa.Al
open Go.RowKit Go.Proofs.YtjjgpleaidledaaW.PrintWords Go.Proofs.YtjjgpleaidledaaW.PrintLast Go.Proofs.YtjjgpleaidledaaW.PrintMore
attribute [local go_sem] max2_int min2_int max_two min_two max_three min_three max_four min_four   -- for this text's walks alone
set_option linter.unusedVariables false
set_option linter.unusedSimpArgs false

/-! ### corncribref06_Encode: function 12 -/
def corncribref06_Encode.f (k : Nat) (l0_0 : List Int) (l0_1 : List ByteArray) : Option (ByteArray × Int) := (corncribref06_Check.f k l0_0 l0_1).bind fun t199 => (if t199 = 0 then ((corncribref06_Bytes.f k l0_0 l0_1).bind fun t200 => (some (t200, 0))) else (some ((⟨#[]⟩ : ByteArray), t199)))
theorem corncribref06_Encode.mono : ∀ a0 a1 k, LeO (corncribref06_Encode.f k a0 a1) (corncribref06_Encode.f (k + 1) a0 a1) := by
  intro a0 a1 k
  unfold corncribref06_Encode.f
  repeat' first
      | (with_reducible exact corncribref06_Bytes.mono _ _ _)
      | (with_reducible exact corncribref06_Check.mono _ _ _)
      | (with_reducible exact LeO.refl _)
      | (with_reducible exact LeO.none _)
      | (with_reducible refine LeO.ite ?_ ?_)
      | (with_reducible refine LeO.bind ?_ (fun _ => ?_))
      | exact corncribref06_Bytes.mono _ _ _
      | exact corncribref06_Check.mono _ _ _
      | exact LeO.none _
      | refine LeO.ite ?_ ?_
      | refine LeO.bind ?_ (fun _ => ?_)
set_option maxHeartbeats 8000000 in
set_option maxRecDepth 100000 in
theorem corncribref06_Encode.calls (k : Nat) (A0_0 : Option Addr) (c0_0 : Nat) (l0_0 : List Int) (A0_1 : Option Addr) (c0_1 : Nat) (l0_1 : List ByteArray) (r1 : ByteArray) (r2 : Int) (w : World) (hr0_0 : Kd.C (Kd.int .i64) w A0_0 l0_0.length l0_0) (hc0_0 : l0_0.length ≤ c0_0) (hr0_1 : Kd.C Kd.string w A0_1 l0_1.length l0_1) (hc0_1 : l0_1.length ≤ c0_1) (h : corncribref06_Encode.f k l0_0 l0_1 = some (r1, r2)) :
    Calls Try.prog 12 #[.agg #[.slice A0_0 l0_0.length c0_0, .slice A0_1 l0_1.length c0_1]] w fun e w' => e = .returned (.tuple #[.string r1, .int .i64 r2]) ∧ Below w.heap.size w w' := by
  have hu25 := Try.underlying25
  have HR0_0 := Aside0.mk hr0_0
  have HC0_0 := Aside0.mk hc0_0
  clear hr0_0 hc0_0
  have HR0_1 := Aside0.mk hr0_1
  have HC0_1 := Aside0.mk hc0_1
  clear hr0_1 hc0_1
  have HB := Aside0.mk (Below.refl w.heap.size w)
  have H : ((corncribref06_Check.f k l0_0 l0_1).bind fun t199 => (if t199 = 0 then ((corncribref06_Bytes.f k l0_0 l0_1).bind fun t200 => (some (t200, 0))) else (some ((⟨#[]⟩ : ByteArray), t199)))) = some (r1, r2) := h
  clear h
  replace H := Option.bind_eq_some_iff.mp H
  obtain ⟨t199, A20, H⟩ := H
  replace H : (if t199 = 0 then ((corncribref06_Bytes.f k l0_0 l0_1).bind fun t200 => (some (t200, 0))) else (some ((⟨#[]⟩ : ByteArray), t199))) = some (r1, r2) := H
  have A2 := Aside0.mk A20
  clear A20
  by_cases c3 : t199 = 0
  · rw [if_pos c3] at H
    have c3b0 : (t199 == 0) = true := beq_iff_eq.mpr c3
    have c3b1 : (t199 != 0) = false := bne_eq_false_iff_eq.mpr c3
    clear c3
    replace H := Option.bind_eq_some_iff.mp H
    obtain ⟨t200, A40, H⟩ := H
    replace H : (some (t200, 0)) = some (r1, r2) := H
    have A4 := Aside0.mk A40
    clear A40
    simp only [Option.some.injEq, Prod.mk.injEq] at H
    obtain ⟨rfl, rfl⟩ := H
    go_enter Try.func12, Try.ntmps12
    go_wp2_with (first | ((with_reducible refine gate_dst (N := 1) rfl ?_); refine box_event ?hg (N := 1) ?hd (cs := #[.slice A0_0 l0_0.length c0_0, .slice A0_1 l0_1.length c0_1]) (t := 25) ?hr ?_; (case hd => rfl); (case hg => rfl); (case hr => first | (go_simp; done) | (go_simp; rfl)); intro gb198 hg w5 hbox hb; have n0_ := Aside0.mk (below_step (by repeat (first | (with_reducible first | exact HB.out | apply below_alloc | apply pw_below_drewN | apply below_drew1) | exact HB.out)) hb); have n1_ := Aside0.mk (hbox); have n2_ := Aside0.mk ((by rw [hg]; exact (below_size (by repeat (first | (with_reducible first | exact HB.out | apply below_alloc | apply pw_below_drewN | apply below_drew1) | exact HB.out))) : w.heap.size ≤ gb198)); have n3_ := Aside0.mk ((by rw [hg]; exact (below_size (by repeat (first | (with_reducible first | exact HB.out | apply below_alloc | apply pw_below_drewN | apply below_drew1) | exact HB.out))) : w.heap.size ≤ gb198)); clear HB; have HB := n0_; have BK198 := n1_; have GW198 := n2_; have GE198 := n3_; clear n0_ n1_ n2_ n3_; clear hb hbox hg; have hcz6_0 : w5.cell? ⟨gb198, 0, none⟩ = some (.slice A0_0 l0_0.length c0_0) := (blk_cell BK198.out 0).trans rfl; have hcz6_1 : w5.cell? ⟨gb198, 1, none⟩ = some (.slice A0_1 l0_1.length c0_1) := (blk_cell BK198.out 1).trans rfl; have hfz6_0 := blk_frozen BK198.out 0; have hfz6_1 := blk_frozen BK198.out 1) | ((with_reducible refine gate_callee (f := 16) rfl ?_); refine goesL_ (some 6) rfl rfl Try.func16 (by kernel_rfl) rfl #[.agg #[.slice A0_0 l0_0.length c0_0, .slice A0_1 l0_1.length c0_1]] rfl (by (try simp only [List.map_toArray, List.map_cons, List.map_nil]); first | done | rfl | (simp only [List.length_drop, List.length_take]; rfl)) ?_; (with_reducible refine (corncribref06_Check.calls k _ _ l0_0 _ _ l0_1 t199 _ ?side1 ?side2 ?side3 ?side4 A2.out).mono ?_); (case side1 => repeat (first | exact (Kd.C_below HR0_0.out HB.out) | (with_reducible refine Kd.C_alloc ?_ _) | (with_reducible refine Kd.C_drewN ?_ _) | (with_reducible refine Kd.C_drew ?_))); (case side2 => exact HC0_0.out); (case side3 => repeat (first | exact (Kd.C_below HR0_1.out HB.out) | (with_reducible refine Kd.C_alloc ?_ _) | (with_reducible refine Kd.C_drewN ?_ _) | (with_reducible refine Kd.C_drew ?_))); (case side4 => exact HC0_1.out); rintro e w7 ⟨rfl, hb⟩; refine ⟨_, rfl, ?_⟩; have n0_ := Aside0.mk (blk_below (g := gb198) (o := .cells #[.slice A0_0 l0_0.length c0_0, .slice A0_1 l0_1.length c0_1] 25 (0, 0)) (by (with_reducible repeat (first | refine blk_drewN ?_ _ | refine blk_drew ?_ | refine blk_alloc ?_ _)); exact BK198.out) hb); have n1_ := Aside0.mk (below_step (by repeat (first | (with_reducible first | exact HB.out | apply below_alloc | apply pw_below_drewN | apply below_drew1 | refine below_set ?_ GE198.out) | exact HB.out)) hb); clear BK198; clear HB; have BK198 := n0_; have HB := n1_; clear n0_ n1_; (try clear hb); (try clear hb2); (try clear hk); (try clear hi); have hcz8_0 : w7.cell? ⟨gb198, 0, none⟩ = some (.slice A0_0 l0_0.length c0_0) := (blk_cell BK198.out 0).trans rfl; have hcz8_1 : w7.cell? ⟨gb198, 1, none⟩ = some (.slice A0_1 l0_1.length c0_1) := (blk_cell BK198.out 1).trans rfl; have hfz8_0 := blk_frozen BK198.out 0; have hfz8_1 := blk_frozen BK198.out 1) | ((with_reducible refine gate_callee (f := 24) rfl ?_); refine goesL_ (some 11) rfl rfl Try.func24 (by kernel_rfl) rfl #[.agg #[.slice A0_0 l0_0.length c0_0, .slice A0_1 l0_1.length c0_1]] rfl (by (try simp only [List.map_toArray, List.map_cons, List.map_nil]); first | done | rfl | (simp only [List.length_drop, List.length_take]; rfl)) ?_; (with_reducible refine (corncribref06_Bytes.calls k _ _ l0_0 _ _ l0_1 t200 _ ?side1 ?side2 ?side3 ?side4 A4.out).mono ?_); (case side1 => repeat (first | exact (Kd.C_below HR0_0.out HB.out) | (with_reducible refine Kd.C_alloc ?_ _) | (with_reducible refine Kd.C_drewN ?_ _) | (with_reducible refine Kd.C_drew ?_))); (case side2 => exact HC0_0.out); (case side3 => repeat (first | exact (Kd.C_below HR0_1.out HB.out) | (with_reducible refine Kd.C_alloc ?_ _) | (with_reducible refine Kd.C_drewN ?_ _) | (with_reducible refine Kd.C_drew ?_))); (case side4 => exact HC0_1.out); rintro e w9 ⟨rfl, hb⟩; refine ⟨_, rfl, ?_⟩; have n0_ := Aside0.mk (blk_below (g := gb198) (o := .cells #[.slice A0_0 l0_0.length c0_0, .slice A0_1 l0_1.length c0_1] 25 (0, 0)) (by (with_reducible repeat (first | refine blk_drewN ?_ _ | refine blk_drew ?_ | refine blk_alloc ?_ _)); exact BK198.out) hb); have n1_ := Aside0.mk (below_step (by repeat (first | (with_reducible first | exact HB.out | apply below_alloc | apply pw_below_drewN | apply below_drew1 | refine below_set ?_ GE198.out) | exact HB.out)) hb); clear BK198; clear HB; have BK198 := n0_; have HB := n1_; clear n0_ n1_; (try clear hb); (try clear hb2); (try clear hk); (try clear hi)))
    go_ret2
    exact ⟨by first | rfl | (simp [errW_none, errW_some] <;> rfl) | (simp [*, errW_none, errW_some] <;> rfl), by repeat (first | (with_reducible first | exact HB.out | apply below_alloc | apply pw_below_drewN | apply below_drew1 | refine below_set ?_ GE198.out) | exact HB.out)⟩
  · rw [if_neg c3] at H
    have c3b0 : (t199 == 0) = false := beq_eq_false_iff_ne.mpr c3
    have c3b1 : (t199 != 0) = true := bne_iff_ne.mpr c3
    simp only [Option.some.injEq, Prod.mk.injEq] at H
    obtain ⟨rfl, rfl⟩ := H
    go_enter Try.func12, Try.ntmps12
    go_wp2_with (first | ((with_reducible refine gate_dst (N := 1) rfl ?_); refine box_event ?hg (N := 1) ?hd (cs := #[.slice A0_0 l0_0.length c0_0, .slice A0_1 l0_1.length c0_1]) (t := 25) ?hr ?_; (case hd => rfl); (case hg => rfl); (case hr => first | (go_simp; done) | (go_simp; rfl)); intro gb198 hg w10 hbox hb; have n0_ := Aside0.mk (below_step (by repeat (first | (with_reducible first | exact HB.out | apply below_alloc | apply pw_below_drewN | apply below_drew1) | exact HB.out)) hb); have n1_ := Aside0.mk (hbox); have n2_ := Aside0.mk ((by rw [hg]; exact (below_size (by repeat (first | (with_reducible first | exact HB.out | apply below_alloc | apply pw_below_drewN | apply below_drew1) | exact HB.out))) : w.heap.size ≤ gb198)); have n3_ := Aside0.mk ((by rw [hg]; exact (below_size (by repeat (first | (with_reducible first | exact HB.out | apply below_alloc | apply pw_below_drewN | apply below_drew1) | exact HB.out))) : w.heap.size ≤ gb198)); clear HB; have HB := n0_; have BK198 := n1_; have GW198 := n2_; have GE198 := n3_; clear n0_ n1_ n2_ n3_; clear hb hbox hg; have hcz11_0 : w10.cell? ⟨gb198, 0, none⟩ = some (.slice A0_0 l0_0.length c0_0) := (blk_cell BK198.out 0).trans rfl; have hcz11_1 : w10.cell? ⟨gb198, 1, none⟩ = some (.slice A0_1 l0_1.length c0_1) := (blk_cell BK198.out 1).trans rfl; have hfz11_0 := blk_frozen BK198.out 0; have hfz11_1 := blk_frozen BK198.out 1) | ((with_reducible refine gate_callee (f := 16) rfl ?_); refine goesL_ (some 6) rfl rfl Try.func16 (by kernel_rfl) rfl #[.agg #[.slice A0_0 l0_0.length c0_0, .slice A0_1 l0_1.length c0_1]] rfl (by (try simp only [List.map_toArray, List.map_cons, List.map_nil]); first | done | rfl | (simp only [List.length_drop, List.length_take]; rfl)) ?_; (with_reducible refine (corncribref06_Check.calls k _ _ l0_0 _ _ l0_1 t199 _ ?side1 ?side2 ?side3 ?side4 A2.out).mono ?_); (case side1 => repeat (first | exact (Kd.C_below HR0_0.out HB.out) | (with_reducible refine Kd.C_alloc ?_ _) | (with_reducible refine Kd.C_drewN ?_ _) | (with_reducible refine Kd.C_drew ?_))); (case side2 => exact HC0_0.out); (case side3 => repeat (first | exact (Kd.C_below HR0_1.out HB.out) | (with_reducible refine Kd.C_alloc ?_ _) | (with_reducible refine Kd.C_drewN ?_ _) | (with_reducible refine Kd.C_drew ?_))); (case side4 => exact HC0_1.out); rintro e w12 ⟨rfl, hb⟩; refine ⟨_, rfl, ?_⟩; have n0_ := Aside0.mk (blk_below (g := gb198) (o := .cells #[.slice A0_0 l0_0.length c0_0, .slice A0_1 l0_1.length c0_1] 25 (0, 0)) (by (with_reducible repeat (first | refine blk_drewN ?_ _ | refine blk_drew ?_ | refine blk_alloc ?_ _)); exact BK198.out) hb); have n1_ := Aside0.mk (below_step (by repeat (first | (with_reducible first | exact HB.out | apply below_alloc | apply pw_below_drewN | apply below_drew1 | refine below_set ?_ GE198.out) | exact HB.out)) hb); clear BK198; clear HB; have BK198 := n0_; have HB := n1_; clear n0_ n1_; (try clear hb); (try clear hb2); (try clear hk); (try clear hi)))
    go_ret2
    exact ⟨by first | rfl | (simp [errW_none, errW_some] <;> rfl) | (simp [*, errW_none, errW_some] <;> rfl), by repeat (first | (with_reducible first | exact HB.out | apply below_alloc | apply pw_below_drewN | apply below_drew1 | refine below_set ?_ GE198.out) | exact HB.out)⟩

end Go.Proofs.Ytjjgpleaidledaa.Al

/- The reference's functions come to the same bytes. -/
namespace Go.Proofs.Ytjjgpleaidledaa.PackFns
open Go.RowKit Go.Proofs.Ytjjgpleaidledaa.Base Go.Proofs.Ytjjgpleaidledaa.PackMath Go.Proofs.Ytjjgpleaidledaa.Al Go.Proofs.YtjjgpleaidledaaW.PrintWords

theorem num_eq (n : Int) : corncribref06_num.f n = some (okNum n) := by
  unfold corncribref06_num.f okNum
  by_cases h : n ≥ -4611686018427387904
  · rw [if_pos h, decide_eq_true (show (-4611686018427387904 : Int) ≤ n from h)]; rfl
  · rw [if_neg h, decide_eq_false (show ¬ (-4611686018427387904 : Int) ≤ n from h)]; rfl
theorem rplain_l0 : ∀ (n : Nat) (xs : List Int), n < 9223372036854775808 → xs.length + (plain n).length ≤ 140737488355328 → Ev (fun k => corncribref06_Plain.l0 k (n : Int) xs) (strOfNums (xs ++ plain n)) := by
  intro n
  induction n using Nat.strongRecOn with
  | ind n ih =>
    intro xs hn hx
    by_cases h1 : n < 128
    · rw [plain_small h1] at hx ⊢
      simp at hx
      refine Ev.step (fun k => by simp only [corncribref06_Plain.l0]; rw [if_neg (by omega), if_pos (by omega)]) ?_
      rw [show (n : Int) % 256 = n from by omega]
      exact Ev.now _
    · rw [plain_big (by omega)] at hx ⊢
      simp at hx
      refine Ev.step (fun k => by simp only [corncribref06_Plain.l0]; rw [if_pos (by omega), if_pos (by omega)]) ?_
      have e : wrap64 ((Int.tmod (n : Int) 128) + 128) % 256 = ((n % 128 + 128 : Nat) : Int) := by
        rw [Int.tmod_eq_emod_of_nonneg (by omega), wrap_id (by omega) (by omega)]; omega
      rw [e, step_rest, wrap_id (by omega) (by omega)]
      have := ih (n / 128) (by omega) (xs ++ [((n % 128 + 128 : Nat) : Int)]) (by omega) (by simp; omega)
      simpa using this
theorem rplain_ev (n : Nat) (hn : n < 9223372036854775808) : Ev (fun k => corncribref06_Plain.f k (n : Int)) (strOfNums (plain n)) :=
  rplain_l0 n [] hn (by have := plain_len9 hn; simp; omega)
theorem rsigned_ev (n : Int) (h0 : -4611686018427387904 ≤ n) (h1 : n ≤ 4611686018427387903) : Ev (fun k => corncribref06_Signed.f k n) (strOfNums (signed n)) := by
  have hz := zig_lt h0 h1
  have hp := rplain_ev (zig n) hz
  unfold corncribref06_Signed.f
  by_cases hn : n < 0
  · have e : wrap64 ((wrap64 ((-2) * (wrap64 (n + 1)))) + 1) = (zig n : Int) := by
      rw [wrap_id (n := n + 1) (by omega) (by omega), wrap_id (n := -2 * (n + 1)) (by omega) (by omega), wrap_id (by omega) (by omega)]
      unfold zig; rw [if_pos hn]; omega
    rw [e]
    exact Ev.pos hn (Ev.bind hp (Ev.now _))
  · have e : wrap64 (2 * n) = (zig n : Int) := by
      rw [wrap_id (by omega) (by omega)]
      unfold zig; rw [if_neg hn]; omega
    rw [e]
    exact Ev.neg hn (Ev.bind hp (Ev.now _))
theorem rcheck_l1 (nums : List Int) (texts : List ByteArray) (ht : texts.length ≤ 1024) : ∀ (d i : Nat), i + d = texts.length → Ev (fun k => corncribref06_Check.l1 k (i : Int) nums texts) (if (texts.drop i).all okText = false then 2 else 0)
  | 0, i, h => by
    rw [List.drop_of_length_le (by omega), if_neg (by simp)]
    exact Ev.step (fun k => by simp only [corncribref06_Check.l1]; rw [if_neg (by omega)]) (Ev.now _)
  | d + 1, i, h => by
    have hi : i < texts.length := by omega
    have e : wrap64 ((i : Int) + 1) = ((i + 1 : Nat) : Int) := by rw [wrap_id (by omega) (by omega)]; omega
    have hr : rdOf ByteArray.empty texts (i : Int) = texts[i] := by simp [rdOf, List.getD_eq_getElem?_getD, hi]
    have ih := rcheck_l1 nums texts ht d (i + 1) (by omega)
    rw [List.drop_eq_getElem_cons hi, List.all_cons]
    refine Ev.step (fun k => by simp only [corncribref06_Check.l1]; rw [if_pos (by omega), if_pos (by omega), hr, e]) ?_
    by_cases hs : texts[i].size ≤ 4096
    · rw [okText_iff.2 hs, Bool.true_and]
      exact Ev.neg (by omega) ih
    · rw [show okText texts[i] = false from by simpa [okText] using hs, Bool.false_and, if_pos rfl]
      exact Ev.pos (by omega) (Ev.now _)
theorem rcheck_l0 (nums : List Int) (texts : List ByteArray) (hn : nums.length ≤ 1024) (ht : texts.length ≤ 1024) : ∀ (d i : Nat), i + d = nums.length →
    Ev (fun k => corncribref06_Check.l0 k (i : Int) nums texts) (if (nums.drop i).all okNum = false then 1 else if texts.all okText = false then 2 else 0)
  | 0, i, h => by
    rw [List.drop_of_length_le (by omega), if_neg (by simp)]
    refine Ev.step (fun k => by simp only [corncribref06_Check.l0]; rw [if_neg (by omega)]) ?_
    simpa using rcheck_l1 nums texts ht texts.length 0 (by omega)
  | d + 1, i, h => by
    have hi : i < nums.length := by omega
    have e : wrap64 ((i : Int) + 1) = ((i + 1 : Nat) : Int) := by rw [wrap_id (by omega) (by omega)]; omega
    have hr : rd nums (i : Int) = nums[i] := by simp [rd, List.getD_eq_getElem?_getD, hi]
    have ih := rcheck_l0 nums texts hn ht d (i + 1) (by omega)
    rw [List.drop_eq_getElem_cons hi, List.all_cons]
    refine Ev.step (fun k => by simp only [corncribref06_Check.l0]; rw [if_pos (by omega), if_pos (by omega), hr, e, num_eq]) ?_
    cases ho : okNum nums[i] with
    | true => rw [Bool.true_and]; exact Ev.some_bind (Ev.pos rfl ih)
    | false => rw [Bool.false_and, if_pos rfl]; exact Ev.some_bind (Ev.neg (by simp) (Ev.now _))
theorem rcheck_ev (nums : List Int) (texts : List ByteArray) : Ev (fun k => corncribref06_Check.f k nums texts) (chk nums texts) := by
  unfold corncribref06_Check.f chk
  by_cases h1 : 1024 < nums.length
  · rw [if_pos (Or.inl h1)]
    exact Ev.pos (by omega) (Ev.step (fun k => by simp only [corncribref06_Check.j0, if_true]) (Ev.now _))
  refine Ev.neg (by omega) ?_
  by_cases h2 : 1024 < texts.length
  · rw [if_pos (Or.inr h2), decide_eq_true (by omega)]
    exact Ev.step (fun k => by simp only [corncribref06_Check.j0, if_true]) (Ev.now _)
  rw [if_neg (by omega), decide_eq_false (by omega)]
  refine Ev.step (fun k => by simp only [corncribref06_Check.j0]; rw [if_neg (by simp)]) ?_
  simpa using rcheck_l0 nums texts (by omega) (by omega) nums.length 0 (by omega)
theorem strOfNums_append (a b : List Int) : strOfNums (a ++ b) = strOfNums a ++ strOfNums b := B_inj (by rw [B_append, B_nums, B_nums, B_nums, List.map_append])
theorem strOfNums_bytesOf (s : ByteArray) : strOfNums (bytesOf s) = s := by
  apply B_inj
  rw [B_nums]
  unfold bytesOf B
  rw [List.map_map]
  conv => rhs; rw [← List.map_id s.data.toList]
  apply List.map_congr_left
  intro b _
  simp
theorem renc_l1 (nums : List Int) (texts : List ByteArray) (ht : texts.length ≤ 1024) (hs : ∀ s ∈ texts, s.size ≤ 4096) : ∀ (d i : Nat) (acc : ByteArray), i + d = texts.length → acc.size + 4105 * d ≤ 100000000 →
    Ev (fun k => corncribref06_Bytes.l1 k acc (i : Int) nums texts) (acc ++ strOfNums (tails (texts.drop i)))
  | 0, i, acc, h, hx => by
    rw [List.drop_of_length_le (by omega)]
    refine Ev.step (fun k => by simp only [corncribref06_Bytes.l1]; rw [if_neg (by omega)]) ?_
    have : acc ++ strOfNums (tails []) = acc := B_inj (by rw [B_append, B_nums]; simp [tails])
    rw [this]
    exact Ev.now _
  | d + 1, i, acc, h, hx => by
    have hi : i < texts.length := by omega
    have e : wrap64 ((i : Int) + 1) = ((i + 1 : Nat) : Int) := by rw [wrap_id (by omega) (by omega)]; omega
    have hr : rdOf ByteArray.empty texts (i : Int) = texts[i] := by simp [rdOf, List.getD_eq_getElem?_getD, hi]
    have hz := hs _ (List.getElem_mem hi)
    have hp : (plain texts[i].size).length ≤ 9 := plain_len9 (by omega)
    have sz := strOfNums_size (plain texts[i].size)
    have sz2 : (strOfNums (plain texts[i].size) ++ texts[i]).size = (strOfNums (plain texts[i].size)).size + texts[i].size := ByteArray.size_append
    have ih := renc_l1 nums texts ht hs d (i + 1) (acc ++ (strOfNums (plain texts[i].size) ++ texts[i])) (by omega) (by rw [ByteArray.size_append]; omega)
    rw [List.drop_eq_getElem_cons hi]
    have et : tails (texts[i] :: texts.drop (i + 1)) = plain texts[i].size ++ bytesOf texts[i] ++ tails (texts.drop (i + 1)) := rfl
    have ee : acc ++ strOfNums (tails (texts[i] :: texts.drop (i + 1))) = acc ++ (strOfNums (plain texts[i].size) ++ texts[i]) ++ strOfNums (tails (texts.drop (i + 1))) := by
      rw [et, strOfNums_append, strOfNums_append, strOfNums_bytesOf]
      apply B_inj
      simp only [B_append, List.append_assoc]
    rw [ee]
    refine Ev.step (fun k => by simp only [corncribref06_Bytes.l1]; rw [if_pos (by omega), if_pos (by omega), hr, e]) ?_
    exact Ev.bind (rplain_ev texts[i].size (by omega)) (Ev.pos (by omega) (Ev.pos (by omega) ih))
theorem renc_l0 (nums : List Int) (texts : List ByteArray) (hn : nums.length ≤ 1024) (ht : texts.length ≤ 1024) (hm : ∀ n ∈ nums, -4611686018427387904 ≤ n ∧ n ≤ 4611686018427387903) (hs : ∀ s ∈ texts, s.size ≤ 4096) : ∀ (d i : Nat) (acc : ByteArray), i + d = nums.length → acc.size + 9 * d ≤ 10000000 →
    Ev (fun k => corncribref06_Bytes.l0 k acc (i : Int) nums texts) (acc ++ strOfNums (body (nums.drop i) ++ plain texts.length ++ tails texts))
  | 0, i, acc, h, hx => by
    rw [List.drop_of_length_le (by omega)]
    have hp : (plain texts.length).length ≤ 9 := plain_len9 (by omega)
    have sz := strOfNums_size (plain texts.length)
    refine Ev.step (fun k => by simp only [corncribref06_Bytes.l0]; rw [if_neg (by omega)]) ?_
    refine Ev.bind (rplain_ev texts.length (by omega)) (Ev.pos (by omega) ?_)
    have := renc_l1 nums texts ht hs texts.length 0 (acc ++ strOfNums (plain texts.length)) (by omega) (by rw [ByteArray.size_append]; omega)
    have ee : acc ++ strOfNums (body [] ++ plain texts.length ++ tails texts) = acc ++ strOfNums (plain texts.length) ++ strOfNums (tails (texts.drop 0)) := by
      rw [strOfNums_append, List.drop_zero]
      apply B_inj
      simp [B_append, body]
    rw [ee]
    exact this
  | d + 1, i, acc, h, hx => by
    have hi : i < nums.length := by omega
    have e : wrap64 ((i : Int) + 1) = ((i + 1 : Nat) : Int) := by rw [wrap_id (by omega) (by omega)]; omega
    have hr : rd nums (i : Int) = nums[i] := by simp [rd, List.getD_eq_getElem?_getD, hi]
    have hz := hm _ (List.getElem_mem hi)
    have hp : (signed nums[i]).length ≤ 9 := plain_len9 (zig_lt hz.1 hz.2)
    have sz := strOfNums_size (signed nums[i])
    have ih := renc_l0 nums texts hn ht hm hs d (i + 1) (acc ++ strOfNums (signed nums[i])) (by omega) (by rw [ByteArray.size_append]; omega)
    rw [List.drop_eq_getElem_cons hi]
    have et : body (nums[i] :: nums.drop (i + 1)) = signed nums[i] ++ body (nums.drop (i + 1)) := rfl
    have ee : acc ++ strOfNums (body (nums[i] :: nums.drop (i + 1)) ++ plain texts.length ++ tails texts) = acc ++ strOfNums (signed nums[i]) ++ strOfNums (body (nums.drop (i + 1)) ++ plain texts.length ++ tails texts) := by
      rw [et, List.append_assoc, List.append_assoc, strOfNums_append, List.append_assoc]
      apply B_inj
      simp only [B_append, List.append_assoc]
    rw [ee]
    refine Ev.step (fun k => by simp only [corncribref06_Bytes.l0]; rw [if_pos (by omega), if_pos (by omega), hr, e]) ?_
    exact Ev.bind (rsigned_ev nums[i] hz.1 hz.2) (Ev.pos (by omega) ih)
theorem rencode_ev (nums : List Int) (texts : List ByteArray) : Ev (fun k => corncribref06_Encode.f k nums texts) (encB nums texts) := by
  unfold corncribref06_Encode.f encB
  refine Ev.bind (rcheck_ev nums texts) ?_
  by_cases h : chk nums texts = 0
  · obtain ⟨h1, h2, h3, h4⟩ := chk_ok h
    rw [if_pos h]
    have hp : (plain nums.length).length ≤ 9 := plain_len9 (by omega)
    have sz := strOfNums_size (plain nums.length)
    have hb : Ev (fun k => corncribref06_Bytes.f k nums texts) (strOfNums (enc nums texts)) := by
      unfold corncribref06_Bytes.f
      refine Ev.bind (rplain_ev nums.length (by omega)) ?_
      have := renc_l0 nums texts h1 h2 h3 h4 nums.length 0 (strOfNums (plain nums.length)) (by omega) (by omega)
      rw [List.drop_zero, ← strOfNums_append] at this
      simpa [enc] using this
    exact Ev.pos h (Ev.bind hb (Ev.now _))
  · rw [if_neg h]
    exact Ev.neg h (Ev.now _)
end Go.Proofs.Ytjjgpleaidledaa.PackFns

namespace Go.Proofs.Ytjjgpleaidledaa.PackFns
open Go.RowKit Go.Proofs.Ytjjgpleaidledaa.Base Go.Proofs.Ytjjgpleaidledaa.PackMath Go.Proofs.Ytjjgpleaidledaa.Al Go.Proofs.YtjjgpleaidledaaW.PrintWords
theorem plain_600 : plain 600 = [216, 4] := by rw [plain_big (by omega), plain_small (by omega)]; rfl
theorem works_enc : encB [1, -1, 300] [(⟨#[97, 98]⟩ : ByteArray)] = (⟨#[3, 2, 1, 216, 4, 1, 2, 97, 98]⟩, 0) := by
  have h : chk [1, -1, 300] [(⟨#[97, 98]⟩ : ByteArray)] = 0 := by decide +kernel
  have e1 : signed 1 = [2] := by unfold signed; rw [show zig 1 = 2 from by decide, plain_small (by omega)]; rfl
  have e2 : signed (-1) = [1] := by unfold signed; rw [show zig (-1) = 1 from by decide, plain_small (by omega)]; rfl
  have e3 : signed 300 = [216, 4] := by unfold signed; rw [show zig 300 = 600 from by decide]; exact plain_600
  have e : enc [1, -1, 300] [(⟨#[97, 98]⟩ : ByteArray)] = [3, 2, 1, 216, 4, 1, 2, 97, 98] := by
    simp only [enc, body, tails, List.map_cons, List.map_nil, e1, e2, e3]
    rw [plain_small (by decide), plain_small (by decide), plain_small (by decide)]
    rfl
  unfold encB
  rw [if_pos h, e]
  rfl
theorem packWorks_ev : Ev (fun k => corncriblaw06_works.f k) true := by
  have h := encode_ev [1, -1, 300] [(⟨#[97, 98]⟩ : ByteArray)]
  rw [works_enc] at h
  unfold corncriblaw06_works.f
  refine Ev.bind h (Ev.pos rfl ?_)
  rw [toList_eq]
  exact Ev.now _
end Go.Proofs.Ytjjgpleaidledaa.PackFns

/- The same lists of numbers and of texts, and what both decoders hand back. -/
namespace Go.Proofs.Ytjjgpleaidledaa.PackFns
open Go.RowKit Go.Proofs.Ytjjgpleaidledaa.Base Go.Proofs.Ytjjgpleaidledaa.PackMath Go.Proofs.Ytjjgpleaidledaa.PackDec Go.Proofs.Ytjjgpleaidledaa.Al Go.Proofs.YtjjgpleaidledaaW.PrintWords
theorem sameInts_l0 (l : List Int) (hl : l.length ≤ 4611686018427387904) : ∀ (d i : Nat), i + d = l.length → Ev (fun k => corncribbook_SameInts.l0 k l l (i : Int)) true
  | 0, i, h => Ev.step (f := fun _ => some true) (fun k => by simp only [corncribbook_SameInts.l0]; rw [if_neg (by omega)]) (Ev.now _)
  | d + 1, i, h => by
    have ih := sameInts_l0 l hl d (i + 1) (by omega)
    have e : wrap64 ((i : Int) + 1) = ((i + 1 : Nat) : Int) := by rw [wrap_id (by omega) (by omega)]; omega
    refine Ev.step (fun k => ?_) ih
    simp only [corncribbook_SameInts.l0]
    rw [if_pos (by omega), if_pos (by omega), if_pos (by omega), if_pos trivial, e]
theorem sameInts_ev (l : List Int) (hl : l.length ≤ 4611686018427387904) : Ev (fun k => corncribbook_SameInts.f k l l) true := by
  unfold corncribbook_SameInts.f
  exact Ev.pos rfl (sameInts_l0 l hl l.length 0 (by omega))
theorem sameTexts_l0 (l : List ByteArray) (hl : l.length ≤ 4611686018427387904) : ∀ (d i : Nat), i + d = l.length → Ev (fun k => corncribbook_SameTexts.l0 k l l (i : Int)) true
  | 0, i, h => Ev.step (f := fun _ => some true) (fun k => by simp only [corncribbook_SameTexts.l0]; rw [if_neg (by omega)]) (Ev.now _)
  | d + 1, i, h => by
    have ih := sameTexts_l0 l hl d (i + 1) (by omega)
    have e : wrap64 ((i : Int) + 1) = ((i + 1 : Nat) : Int) := by rw [wrap_id (by omega) (by omega)]; omega
    refine Ev.step (fun k => ?_) ih
    simp only [corncribbook_SameTexts.l0]
    rw [if_pos (by omega), if_pos (by omega), if_pos (by omega), if_pos trivial, e]
theorem sameTexts_ev (l : List ByteArray) (hl : l.length ≤ 4611686018427387904) : Ev (fun k => corncribbook_SameTexts.f k l l) true := by
  unfold corncribbook_SameTexts.f
  exact Ev.pos rfl (sameTexts_l0 l hl l.length 0 (by omega))
theorem same_ev (ns : List Int) (ts : List ByteArray) (h1 : ns.length ≤ 4611686018427387904) (h2 : ts.length ≤ 4611686018427387904) : Ev (fun k => corncriblaw06_same.f k ns ts ns ts) true := by
  unfold corncriblaw06_same.f
  exact Ev.bind (sameInts_ev ns h1) (Ev.pos rfl (Ev.bind (sameTexts_ev ts h2) (Ev.now _)))
theorem dec_len (s : ByteArray) : (dec s).1.length ≤ 1024 ∧ (dec s).2.1.length ≤ 1024 := by
  by_cases h : (dec s).2.2.2 = 0
  · obtain ⟨ns, ts, h1, h2, _⟩ := enc_dec h
    rw [h1]
    exact ⟨(chk_ok h2).1, (chk_ok h2).2.1⟩
  · obtain ⟨h1, h2⟩ := dec_no h
    rw [h1, h2]
    simp
theorem decode_eq (s : ByteArray) (hs : s.size ≤ 140737488355328) : pack_Decode.f s = some ((dec s).1, (dec s).2.1, ((dec s).2.2.1 : Int), (dec s).2.2.2) := if_pos hs
theorem rdecode_eq (s : ByteArray) (hs : s.size ≤ 140737488355328) : corncribref06_Decode.f s = some ((dec s).1, (dec s).2.1, ((dec s).2.2.1 : Int), (dec s).2.2.2) := if_pos hs
theorem enc_range (ns : List Int) (ts : List ByteArray) : ∀ b ∈ enc ns ts, 0 ≤ b ∧ b ≤ 255 := by
  intro b hb
  simp only [enc, List.mem_append] at hb
  rcases hb with ((hb | hb) | hb) | hb
  · exact plain_range _ b hb
  · simp only [body, List.mem_flatten, List.mem_map] at hb
    obtain ⟨l, ⟨n, _, rfl⟩, hb⟩ := hb
    exact plain_range _ b hb
  · exact plain_range _ b hb
  · simp only [tails, List.mem_flatten, List.mem_map] at hb
    obtain ⟨l, ⟨t, _, rfl⟩, hb⟩ := hb
    rcases List.mem_append.1 hb with hb | hb
    · exact plain_range _ b hb
    · have := rest_range t 0 b (by rw [rest_zero]; exact hb)
      exact this
theorem str_size (l : List Int) : (strOfNums l).size = l.length := by rw [← B_len, B_nums, List.length_map]
theorem encB_ok {ns : List Int} {ts : List ByteArray} (h : chk ns ts = 0) : encB ns ts = (strOfNums (enc ns ts), 0) := if_pos h
theorem encB_no {ns : List Int} {ts : List ByteArray} (h : chk ns ts ≠ 0) : encB ns ts = (⟨#[]⟩, chk ns ts) := if_neg h
theorem dec_of_enc {ns : List Int} {ts : List ByteArray} (h : chk ns ts = 0) : dec (strOfNums (enc ns ts)) = (ns, ts, 0, 0) := by
  have := dec_enc (s := strOfNums (enc ns ts)) (r := []) h (by rw [bytes_str (enc_range ns ts), List.append_nil])
  rwa [if_pos rfl] at this
end Go.Proofs.Ytjjgpleaidledaa.PackFns

/- An argument of any shape that is read: what the walk's contracts ask of it, and its bounds by the row's own reach and by the second form's bulk. -/
namespace Go.Proofs.Ytjjgpleaidledaa.Open
open Go.RowKit Go.Proofs.YtjjgpleaidledaaW.PrintWords

/-- Whatever reads as data of type t is told by d: V always, L where each string and slice is within the reach, m is within the bulk. -/
structure Opens {α : Type} (P : Program) (t : TypeId) (d : Kd α) (V L : α → Prop) (m : α → Nat) : Prop where
  out : ∀ {H : Type} {enc : TypeId × Value → H} {w : World} {base : Nat} {spare : Nat → Bool} {held : Bool} {fuel : Nat} {cs : List Value} {x : DataW H × List MemPlace}, DataW.trod enc P w base spare held fuel t cs = some x →
    ∃ a : α, d.K w a cs ∧ V a ∧ ((DataW.weights P t x.1).all (· ≤ reachBytes) = true → L a) ∧ m a ≤ Rows.uptoBulk x.1

theorem opens_int {P : Program} {t : TypeId} {k : IntKind} (ht : P.underlying t = some (.int k)) : Opens P t (Kd.int k) (fun n => (Lit.int k n).wf = true) (fun _ => True) (fun _ => 1) where
  out h := by
    obtain ⟨n, rfl, rfl, hw⟩ := DataW.trod_int ht h
    exact ⟨n, rfl, hw, fun _ => trivial, Nat.le_refl _⟩
theorem opens_bool {P : Program} {t : TypeId} (ht : P.underlying t = some .bool) : Opens P t Kd.bool (fun _ => True) (fun _ => True) (fun _ => 1) where
  out h := by
    obtain ⟨n, rfl, rfl⟩ := DataW.trod_bool ht h
    exact ⟨n, rfl, trivial, fun _ => trivial, Nat.le_refl _⟩
theorem opens_string {P : Program} {t : TypeId} (ht : P.underlying t = some .string) : Opens P t Kd.string (fun s => s.size ≤ maxLen) (fun s => s.size ≤ 140737488351232) (fun s => s.size + 1) where
  out h := by
    obtain ⟨s, rfl, rfl, hw⟩ := DataW.trod_string ht h
    refine ⟨s, rfl, hw, fun hx => ?_, ?_⟩
    · simp only [DataW.weights, List.all_cons, List.all_nil, Bool.and_true, decide_eq_true_eq, data_length] at hx
      exact hx
    · simp [Rows.uptoBulk]

theorem add_add (a : Addr) (m j : Nat) : (a.add m).add j = a.add (m + j) := by
  unfold Addr.add
  by_cases hm : m = 0 <;> by_cases hj : j = 0 <;> simp [hm, hj, Nat.add_assoc]
theorem mapM_some {β γ : Type} {f : β → Option γ} : ∀ {l : List β} {r : List γ}, l.mapM f = some r → r.length = l.length ∧ ∀ i (h : i < l.length), f l[i] = r[i]?
  | [], r, h => by simp at h; subst h; simp
  | b :: l, r, h => by
    rw [List.mapM_cons] at h
    simp only [Option.bind_eq_bind, Option.bind_eq_some_iff, Option.pure_def, Option.some.injEq] at h
    obtain ⟨c, hc, q, hq, rfl⟩ := h
    obtain ⟨hl, hi⟩ := mapM_some hq
    refine ⟨by simp [hl], fun i h => ?_⟩
    cases i with
    | zero => simpa using hc
    | succ i => simpa using hi i (by simpa using h)
theorem cells_get {w : World} {base : Nat} {a : Addr} {n : Nat} {cs : List Value} (h : w.cells? base a n = some cs) : cs.length = n ∧ ∀ i u, cs[i]? = some u → w.cell? (a.add i) = some u := by
  unfold World.cells? at h
  split at h
  · obtain ⟨hl, hi⟩ := mapM_some h
    simp at hl
    refine ⟨hl, fun i u hu => ?_⟩
    have hlt : i < cs.length := (List.getElem?_eq_some_iff.1 hu).1
    have := hi i (by simp; omega)
    simpa [hu] using this
  · cases h

theorem list_of {α : Type} {Q : Nat → α → Prop} : ∀ n, (∀ i, i < n → ∃ a, Q i a) → ∃ l : List α, l.length = n ∧ ∀ i a, l[i]? = some a → Q i a
  | 0, _ => ⟨[], rfl, fun i a h => by simp at h⟩
  | n + 1, h => by
    obtain ⟨l, hl, hq⟩ := list_of n (fun i hi => h i (by omega))
    obtain ⟨a, ha⟩ := h n (by omega)
    refine ⟨l ++ [a], by simp [hl], fun i b hb => ?_⟩
    by_cases hi : i < n
    · rw [List.getElem?_append_left (by omega)] at hb
      exact hq i b hb
    · have hlt := (List.getElem?_eq_some_iff.1 hb).1
      simp at hlt
      obtain rfl : i = n := by omega
      rw [List.getElem?_append_right (by omega), hl] at hb
      simp at hb
      exact hb ▸ ha
theorem all_append {l r : List Nat} {p : Nat → Bool} : (l ++ r).all p = true ↔ l.all p = true ∧ r.all p = true := by rw [List.all_append, Bool.and_eq_true]
theorem weights_all {H : Type} {P : Program} {e : TypeId} {p : Nat → Bool} : ∀ {ds : List (DataW H)}, (DataW.weightsAll P e ds).all p = true → ∀ d ∈ ds, (DataW.weights P e d).all p = true
  | [], _, d, hd => by simp at hd
  | d0 :: ds, h, d, hd => by
    rw [DataW.weightsAll, all_append] at h
    rcases List.mem_cons.1 hd with rfl | hd
    · exact h.1
    · exact weights_all h.2 d hd
theorem bulk_all {H α : Type} {m : α → Nat} : ∀ {l : List α} {ds : List (DataW H)}, l.length = ds.length → (∀ (i : Nat) (a : α) (y : DataW H), l[i]? = some a → ds[i]? = some y → m a ≤ Rows.uptoBulk y) → (l.map m).sum ≤ Rows.uptoBulkAll ds
  | [], [], _, _ => by simp [Rows.uptoBulkAll]
  | a :: l, d :: ds, hl, h => by
    have ih := bulk_all (l := l) (ds := ds) (by simpa using hl) (fun i a y h1 h2 => h (i + 1) a y (by simpa using h1) (by simpa using h2))
    have h0 := h 0 a d rfl rfl
    simp only [List.map_cons, List.sum_cons, Rows.uptoBulkAll]
    omega
  | [], _ :: _, hl, _ => by simp at hl
  | _ :: _, [], hl, _ => by simp at hl

theorem opens_slice {α : Type} {P : Program} {t e : TypeId} {d : Kd α} {V L : α → Prop} {m : α → Nat} (q : Nat) (b : Nat) (ht : P.underlying t = some (.slice e)) (hsz : P.cellsOf e = d.sz) (hb : P.bytesOf e = b) (ho : Opens P e d V L m) :
    Opens P t (Kd.slice q d) (fun l => ∀ a ∈ l, V a) (fun l => l.length * b ≤ 140737488351232 ∧ ∀ a ∈ l, L a) (fun l => (l.map m).sum + 1) where
  out {H enc w base spare held fuel cs x} h := by
    rcases DataW.trod_slice ht h with ⟨rfl, rfl⟩ | ⟨ad, len, cap, elems, rest, n, rfl, rfl, rfl, hbase, hlc, hcm, hlen, hel, hsp, hns⟩
    · exact ⟨[], ⟨none, 0, rfl, Nat.le_refl _, rfl, by simp, fun h => absurd h (by simp)⟩, by simp, fun _ => by simp, by simp [Rows.uptoBulk]⟩
    obtain ⟨l, hl, hq⟩ := list_of (Q := fun i a => (∃ c, c.length = d.sz ∧ d.K w a c ∧ (∀ j u, c[j]? = some u → w.cell? (ad.add (i * d.sz + j)) = some u)) ∧ V a ∧ (∀ y, elems[i]? = some y → ((DataW.weights P e y.1).all (· ≤ reachBytes) = true → L a) ∧ m a ≤ Rows.uptoBulk y.1)) len (by
      intro i hi
      have hy : elems[i]? = some (elems[i]'(by omega)) := List.getElem?_eq_getElem (by omega)
      have h1 := hel i hi
      rw [hy, Option.bind_eq_some_iff] at h1
      obtain ⟨c, hc, hx⟩ := h1
      obtain ⟨a, hK, hV, hL, hm⟩ := ho.out hx
      obtain ⟨hcl, hcc⟩ := cells_get hc
      rw [hsz] at hcl hcc
      refine ⟨a, ⟨c, hcl, hK, fun j u hu => by rw [← add_add]; exact hcc j u hu⟩, hV, fun y hy' => ?_⟩
      rw [hy] at hy'
      obtain rfl := Option.some.inj hy'
      exact ⟨hL, hm⟩)
    have hmax : len ≤ 9223372036854775807 := by unfold maxLen at hcm; omega
    have mem : ∀ a ∈ l, ∃ i, l[i]? = some a := fun a ha => List.mem_iff_getElem?.1 ha
    refine ⟨l, ⟨some ad, cap, by rw [hl], by omega, rfl, by omega, fun _ => ⟨ad, rfl, fun j p hp => ?_⟩⟩, ?_, ?_, ?_⟩
    · obtain ⟨⟨c, hcl, hK, hcc⟩, _⟩ := hq j p hp
      exact ⟨c, hcl, hK, hcc⟩
    · intro a ha
      obtain ⟨i, hi⟩ := mem a ha
      exact (hq i a hi).2.1
    · intro hw
      simp only [DataW.weights, ht, List.all_cons, Bool.and_eq_true, decide_eq_true_eq, all_append, List.length_map, hb] at hw
      obtain ⟨hw1, hw2, _⟩ := hw
      have hw1' : (elems.length + rest.length) * b ≤ 140737488351232 := hw1
      refine ⟨?_, ?_⟩
      · rw [hl, ← hlen]
        exact Nat.le_trans (Nat.mul_le_mul_right b (Nat.le_add_right _ _)) hw1'
      · intro a ha
        obtain ⟨i, hi⟩ := mem a ha
        have hlt : i < elems.length := by have := (List.getElem?_eq_some_iff.1 hi).1; omega
        refine ((hq i a hi).2.2 _ (List.getElem?_eq_getElem hlt)).1 (weights_all hw2 _ ?_)
        exact List.mem_map.2 ⟨_, List.getElem_mem hlt, rfl⟩
    · have hbk : (l.map m).sum ≤ Rows.uptoBulkAll (elems.map (·.1)) := bulk_all (by rw [hl, List.length_map, hlen]) (fun i a y h1 h2 => by
        rw [List.getElem?_map, Option.map_eq_some_iff] at h2
        obtain ⟨z, hz, rfl⟩ := h2
        exact ((hq i a h1).2.2 z hz).2)
      simp only [Rows.uptoBulk]
      omega

/-- The fields of a struct, one behind the other, from a place on. -/
structure OpensF {α : Type} (P : Program) (off : Nat) (fs : List Field) (d : Kd α) (V L : α → Prop) (m : α → Nat) : Prop where
  out : ∀ {H : Type} {enc : TypeId × Value → H} {w : World} {base : Nat} {spare : Nat → Bool} {held : Bool} {fuel : Nat} {cs : List Value} {xs : List (DataW H × List MemPlace)},
    fs.mapM (fun f => DataW.trod enc P w base spare held fuel f.type ((cs.drop f.offset).take (P.cellsOf f.type))) = some xs → cs.length = off + d.sz →
    ∃ a : α, d.K w a (cs.drop off) ∧ V a ∧ ((DataW.weightsEach P (fs.map (·.type)) (xs.map (·.1))).all (· ≤ reachBytes) = true → L a) ∧ m a ≤ Rows.uptoBulkAll (xs.map (·.1))
theorem opensF_one {α : Type} {P : Program} {off : Nat} {f : Field} {d : Kd α} {V L : α → Prop} {m : α → Nat} (ho : Opens P f.type d V L m) (hoff : f.offset = off) (hsz : P.cellsOf f.type = d.sz) : OpensF P off [f] d V L m where
  out {H enc w base spare held fuel cs xs} h hl := by
    obtain ⟨h1, h2⟩ := mapM_some h
    have e : xs = [xs[0]'(by rw [h1]; simp)] := by
      apply List.ext_getElem
      · simpa using h1
      · intro i hi _
        have : i = 0 := by rw [h1] at hi; simpa using hi
        subst this
        rfl
    have h3 := h2 0 (by simp)
    rw [List.getElem?_eq_getElem (by rw [h1]; simp)] at h3
    simp only [List.getElem_cons_zero] at h3
    rw [hoff, hsz, List.take_of_length_le (by rw [List.length_drop]; omega)] at h3
    obtain ⟨a, hK, hV, hL, hm⟩ := ho.out h3
    refine ⟨a, hK, hV, fun hw => hL ?_, ?_⟩
    · rw [e] at hw
      simpa [DataW.weightsEach] using hw
    · rw [e]
      simpa [Rows.uptoBulkAll] using hm
theorem opensF_cons {α β : Type} {P : Program} {off : Nat} {f : Field} {fs : List Field} {d : Kd α} {V L : α → Prop} {m : α → Nat} {d' : Kd β} {V' L' : β → Prop} {m' : β → Nat}
    (ho : Opens P f.type d V L m) (hoff : f.offset = off) (hsz : P.cellsOf f.type = d.sz) (hr : OpensF P (off + d.sz) fs d' V' L' m') :
    OpensF P off (f :: fs) (Kd.pair d d') (fun a => V a.1 ∧ V' a.2) (fun a => L a.1 ∧ L' a.2) (fun a => m a.1 + m' a.2) where
  out {H enc w base spare held fuel cs xs} h hl := by
    rw [List.mapM_cons] at h
    simp only [Option.bind_eq_bind, Option.bind_eq_some_iff, Option.pure_def, Option.some.injEq] at h
    obtain ⟨x, hx, xs', hxs, rfl⟩ := h
    rw [hoff, hsz] at hx
    have hl' : cs.length = off + (d.sz + d'.sz) := hl
    obtain ⟨a, hK, hV, hL, hm⟩ := ho.out hx
    obtain ⟨b, hK', hV', hL', hm'⟩ := hr.out hxs (by omega)
    refine ⟨(a, b), ⟨_, _, ?_, hK, hK'⟩, ⟨hV, hV'⟩, fun hw => ?_, ?_⟩
    · rw [← List.drop_drop, List.take_append_drop]
    · simp only [List.map_cons, DataW.weightsEach, all_append] at hw
      exact ⟨hL hw.1, hL' hw.2⟩
    · simp only [List.map_cons, Rows.uptoBulkAll]
      omega
theorem opens_struct {α β : Type} {P : Program} {t : TypeId} {fs : Array Field} {d : Kd α} {V L : α → Prop} {m : α → Nat} (f : β → α) (g : α → β) (hfg : ∀ a, f (g a) = a) (ht : P.underlying t = some (.struct fs)) (hsz : P.cellsOf t = d.sz) (hf : OpensF P 0 fs.toList d V L m) :
    Opens P t (Kd.iso d f) (fun b => V (f b)) (fun b => L (f b)) (fun b => m (f b) + 1) where
  out {H enc w base spare held fuel cs x} h := by
    cases fuel with
    | zero => simp [DataW.trod] at h
    | succ n =>
      unfold DataW.trod at h
      rw [ht] at h
      simp only at h
      split at h
      · rename_i hl
        rw [Option.map_eq_some_iff] at h
        obtain ⟨xs, hxs, rfl⟩ := h
        obtain ⟨a, hK, hV, hL, hm⟩ := hf.out hxs (by omega)
        refine ⟨g a, ?_, ?_, ?_, ?_⟩
        · show d.K w (f (g a)) cs
          rw [hfg]
          simpa using hK
        · show V (f (g a))
          rw [hfg]; exact hV
        · intro hw
          show L (f (g a))
          rw [hfg]
          simp only [DataW.weights, ht] at hw
          exact hL hw
        · rw [hfg]
          simp only [Rows.uptoBulk]
          omega
      · cases h
end Go.Proofs.Ytjjgpleaidledaa.Open

/- One function of the program comes to what its plain twin says. This text began as the kit's own print (print.py, made by cprint.sh) and was turned by split.py: it is no printed file. -/
namespace Go.Proofs.Ytjjgpleaidledaa.Al
open Go.RowKit Go.Proofs.YtjjgpleaidledaaW.PrintWords Go.Proofs.YtjjgpleaidledaaW.PrintLast Go.Proofs.YtjjgpleaidledaaW.PrintMore
attribute [local go_sem] max2_int min2_int max_two min_two max_three min_three max_four min_four   -- for this text's walks alone
set_option linter.unusedVariables false
set_option linter.unusedSimpArgs false

/-! ### corncribbook_Among: function 21 -/
def corncribbook_Among.f (a0 : Int) (a1 : Int) : Option (Int) := if a1 = 0 then (none) else (some (Int.tmod (wrap64 ((Int.tmod a0 a1) + a1)) a1))
set_option maxHeartbeats 8000000 in
set_option maxRecDepth 100000 in
theorem corncribbook_Among.calls (a0 : Int) (a1 : Int) (r : Int) (w : World) (h : corncribbook_Among.f a0 a1 = some r) :
    Calls Try.prog 21 #[.int .i64 a0, .int .i64 a1] w fun e w' => e = .returned (.int .i64 r) ∧ Drawn0 w w' := by
  have H : (if a1 = 0 then (none) else (some (Int.tmod (wrap64 ((Int.tmod a0 a1) + a1)) a1))) = some r := h
  clear h
  by_cases c3 : a1 = 0
  · rw [if_pos c3] at H
    exact absurd H (by simp)
  · rw [if_neg c3] at H
    have c3b0 : (a1 == 0) = false := beq_eq_false_iff_ne.mpr c3
    have c3b1 : (a1 != 0) = true := bne_iff_ne.mpr c3
    obtain rfl := Option.some.inj H
    go_enter Try.func21, Try.ntmps21
    go_wp2
    go_ret
    exact ⟨by first | rfl | (simp; done) | (simp [*]; done), by repeat (first | exact Drawn0.refl _ | apply Drawn0.step)⟩

end Go.Proofs.Ytjjgpleaidledaa.Al
