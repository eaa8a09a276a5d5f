/- What the laws stand on, in one text: functions of the program by their contracts, the plain mathematics behind them, and such of the printed words as these use. It began as the kit's print and own texts; put together by a program (trim.py). -/
import Derived.Test.YtelgpkbnahgdoaaPra
import Derived.Deep.RegionHeld3
import Derived.Deep.RegionLaw
import Derived.Lib.SliceRun
namespace Go.Proofs.Ytelgpkbnahgdoaa.Al
open Go.RowKit Go.Proofs.YtelgpkbnahgdoaaW.PrintWords
theorem cfz2 {w : World} {g t : Nat} {c0 c1 : Value} (h : w.heap[g]? = some (.cells #[c0, c1] t (0, 0))) : w.cell? ⟨g, 0, none⟩ = some c0 ∧ w.frozen? ⟨g, 0, none⟩ = false ∧ w.cell? ⟨g, 1, none⟩ = some c1 ∧ w.frozen? ⟨g, 1, none⟩ = false := ⟨(blk_cell h 0).trans rfl, blk_frozen h 0, (blk_cell h 1).trans rfl, blk_frozen h 1⟩
end Go.Proofs.Ytelgpkbnahgdoaa.Al

namespace Go.Proofs.Ytelgpkbnahgdoaa.Al
open Go.RowKit Go.Proofs.YtelgpkbnahgdoaaW.PrintWords Go.Proofs.YtelgpkbnahgdoaaW.PrintLast Go.Proofs.YtelgpkbnahgdoaaW.PrintMore
attribute [local go_sem] max2_int min2_int max_two min_two max_three min_three max_four min_four   -- for this text's walks alone
set_option linter.unusedVariables false
set_option linter.unusedSimpArgs false
def corncribref06_read.l0 : Nat → ByteArray → Int → Int → Int → Option (Int × Int × Int)
 |0, _, _, _, _ => none
 |k + 1, x0, x1, x7, x8 => if x8 < 9 then (if (wrap64 (x1 + x8)) ≥ (x0.size : Int) then (some (0, (x0.size : Int), 50)) else (if 0 ≤ (wrap64 (x1 + x8)) then (if (wrap64 (x1 + x8)) < (x0.size : Int) then (if 0 ≤ (wrap64 (7 * x8)) then (if (wrap64 (bt x0 (wrap64 (x1 + x8)))) < 128 then (if (wrap64 (bt x0 (wrap64 (x1 + x8)))) = 0 then (if x8 > 0 then (some (0, x1, 3)) else (some (wrap64 (x7 + (shl .i64 (Int.tmod (wrap64 (bt x0 (wrap64 (x1 + x8)))) 128) (wrap64 (7 * x8)))), wrap64 ((wrap64 (x1 + x8)) + 1), 0))) else (some (wrap64 (x7 + (shl .i64 (Int.tmod (wrap64 (bt x0 (wrap64 (x1 + x8)))) 128) (wrap64 (7 * x8)))), wrap64 ((wrap64 (x1 + x8)) + 1), 0))) else (corncribref06_read.l0 k x0 x1 (wrap64 (x7 + (shl .i64 (Int.tmod (wrap64 (bt x0 (wrap64 (x1 + x8)))) 128) (wrap64 (7 * x8))))) (wrap64 (x8 + 1)))) else (none)) else (none)) else (none))) else (some (0, x1, 3))
def corncribref06_read.f (k : Nat) (a0 : ByteArray) (a1 : Int) : Option (Int × Int × Int) := corncribref06_read.l0 k a0 a1 0 0
theorem corncribref06_read.mono_l : ∀ k, (∀ y0 y1 y2 y3, LeO (corncribref06_read.l0 k y0 y1 y2 y3) (corncribref06_read.l0 (k + 1) y0 y1 y2 y3))
 |0 => fun _ _ _ _ r h => by simp [corncribref06_read.l0] at h
 |k + 1 => by
  have ih0 := corncribref06_read.mono_l k
  ·intro y0 y1 y2 y3
   unfold corncribref06_read.l0
   repeat' first
   |(with_reducible exact ih0 _ _ _ _)
   |(with_reducible exact LeO.refl _)
   |(with_reducible exact LeO.none _)
   |(with_reducible refine LeO.ite ?_ ?_)
   |(with_reducible refine LeO.bind ?_ (fun _ => ?_))
   |exact ih0 _ _ _ _
   |exact LeO.none _
   |refine LeO.ite ?_ ?_
   |refine LeO.bind ?_ (fun _ => ?_)
theorem corncribref06_read.mono : ∀ a0 a1 k, LeO (corncribref06_read.f k a0 a1) (corncribref06_read.f (k + 1) a0 a1) := by
 intro a0 a1 k
 have ih0 := corncribref06_read.mono_l k
 unfold corncribref06_read.f
 repeat' first
   |(with_reducible exact ih0 _ _ _ _)
   |(with_reducible exact LeO.refl _)
   |(with_reducible exact LeO.none _)
   |(with_reducible refine LeO.ite ?_ ?_)
   |(with_reducible refine LeO.bind ?_ (fun _ => ?_))
   |exact ih0 _ _ _ _
   |exact LeO.none _
   |refine LeO.ite ?_ ?_
   |refine LeO.bind ?_ (fun _ => ?_)
set_option maxHeartbeats 8000000 in
set_option maxRecDepth 100000 in
theorem corncribref06_read.calls (k : Nat) (a0 : ByteArray) (a1 : Int) (r1 : Int) (r2 : Int) (r3 : Int) (w : World) (h : corncribref06_read.f k a0 a1 = some (r1, r2, r3)) :
  Calls Try.prog 49 #[.string a0, .int .i64 a1] w fun e w' => e = .returned (.tuple #[.int .i64 r1, .int .i64 r2, .int .i64 r3]) ∧ Drawn0 w w' := by
 have H : (corncribref06_read.l0 k a0 a1 0 0) = some (r1, r2, r3) := h
 clear h
 have H' := Aside0.mk H
 clear H
 go_enter Try.func49, Try.ntmps49
 go_wp2
 go_loopg [7, 8] k (fun kq v7 v8 w' => ∃ (x7_1 : Int) (x8_1 : Int), v7 = .int .i64 x7_1 ∧ v8 = .int .i64 x8_1 ∧ Aside0 (corncribref06_read.l0 kq a0 a1 x7_1 x8_1 = some (r1, r2, r3)) ∧ Aside0 (kq ≤ k) ∧ Drawn0 w w')
 case atStart => exact ⟨(0), (0), (by first | rfl | (simp; done) | (simp [*]; done)), (by first | rfl | (simp; done) | (simp [*]; done)), H', ⟨Nat.le_refl _⟩, by repeat (first | exact Drawn0.refl _ | apply Drawn0.step)⟩
 case round =>
  clear H'
  try clear p2
  obtain ⟨x7_1, x8_1, rfl, rfl, HA, HK1, ⟨m1, rfl⟩⟩ := hrel
  cases gk with
  |zero => exact absurd HA.out (by simp [corncribref06_read.l0])
  |succ k1 =>
   have H := HA.out
   clear HA
   simp only [corncribref06_read.l0] at H
   by_cases c3 : x8_1 < 9
   ·rw [if_pos c3] at H
    have c3b0 : decide (x8_1 < 9) = true := decide_eq_true c3
    clear c3
    by_cases c4 : (wrap64 (a1 + x8_1)) ≥ (a0.size : Int)
    ·rw [if_pos c4] at H
     have c4b0 : decide ((a0.size : Int) ≤ (wrap64 (a1 + x8_1))) = true := decide_eq_true c4
     clear c4
     simp only [Option.some.injEq, Prod.mk.injEq] at H
     obtain ⟨rfl, rfl, rfl⟩ := H
     go_wp2
     go_ret3
     exact ⟨by first | rfl | (simp; done) | (simp [*]; done), by repeat (first | exact Drawn0.refl _ | apply Drawn0.step)⟩
    ·rw [if_neg c4] at H
     have c4b0 : decide ((a0.size : Int) ≤ (wrap64 (a1 + x8_1))) = false := decide_eq_false c4
     clear c4
     obtain ⟨ji5, hji5⟩ : ∃ j_ : Int, (wrap64 (a1 + x8_1)) = j_ := ⟨_, rfl⟩
     replace H : (if 0 ≤ (ji5) then (if (ji5) < (a0.size : Int) then (if 0 ≤ (wrap64 (7 * x8_1)) then (if (wrap64 (bt a0 (ji5))) < 128 then (if (wrap64 (bt a0 (ji5))) = 0 then (if x8_1 > 0 then (some (0, a1, 3)) else (some (wrap64 (x7_1 + (shl .i64 (Int.tmod (wrap64 (bt a0 (ji5))) 128) (wrap64 (7 * x8_1)))), wrap64 ((ji5) + 1), 0))) else (some (wrap64 (x7_1 + (shl .i64 (Int.tmod (wrap64 (bt a0 (ji5))) 128) (wrap64 (7 * x8_1)))), wrap64 ((ji5) + 1), 0))) else (corncribref06_read.l0 k1 a0 a1 (wrap64 (x7_1 + (shl .i64 (Int.tmod (wrap64 (bt a0 (ji5))) 128) (wrap64 (7 * x8_1))))) (wrap64 (x8_1 + 1)))) else (none)) else (none)) else (none)) = some (r1, r2, r3) := by first | (rw [hji5] at H; exact H) | (simp only [hji5] at H ⊢; exact H)
     (try rw [hji5] at c4b0)
     have hji5w : (IntKind.i64.wrap (a1 + x8_1)) = ji5 := (i64_w _).trans hji5
     by_cases c6 : 0 ≤ (ji5)
     ·rw [if_pos c6] at H
      have c6b0 : decide (0 ≤ (ji5)) = true := decide_eq_true c6
      clear c6
      by_cases c7 : (ji5) < (a0.size : Int)
      ·rw [if_pos c7] at H
       have c7b0 : decide ((ji5) < (a0.size : Int)) = true := decide_eq_true c7
       clear c7
       obtain ⟨ji9, hji9⟩ : ∃ j_ : Int, (wrap64 (7 * x8_1)) = j_ := ⟨_, rfl⟩
       replace H : (if 0 ≤ (ji9) then (if (wrap64 (bt a0 (ji5))) < 128 then (if (wrap64 (bt a0 (ji5))) = 0 then (if x8_1 > 0 then (some (0, a1, 3)) else (some (wrap64 (x7_1 + (shl .i64 (Int.tmod (wrap64 (bt a0 (ji5))) 128) (ji9))), wrap64 ((ji5) + 1), 0))) else (some (wrap64 (x7_1 + (shl .i64 (Int.tmod (wrap64 (bt a0 (ji5))) 128) (ji9))), wrap64 ((ji5) + 1), 0))) else (corncribref06_read.l0 k1 a0 a1 (wrap64 (x7_1 + (shl .i64 (Int.tmod (wrap64 (bt a0 (ji5))) 128) (ji9)))) (wrap64 (x8_1 + 1)))) else (none)) = some (r1, r2, r3) := by first | (rw [hji9] at H; exact H) | (simp only [hji9] at H ⊢; exact H)
       have hji9w : (IntKind.i64.wrap (7 * x8_1)) = ji9 := (i64_w _).trans hji9
       by_cases c10 : 0 ≤ (ji9)
       ·rw [if_pos c10] at H
        have c10b0 := eq_true c10
        have c10b1 : decide (0 ≤ (ji9)) = true := decide_eq_true c10
        clear c10
        obtain ⟨ji11, hji11⟩ : ∃ j_ : Int, (shl .i64 (Int.tmod (wrap64 (bt a0 (ji5))) 128) (ji9)) = j_ := ⟨_, rfl⟩
        replace H : (if (wrap64 (bt a0 (ji5))) < 128 then (if (wrap64 (bt a0 (ji5))) = 0 then (if x8_1 > 0 then (some (0, a1, 3)) else (some (wrap64 (x7_1 + (ji11)), wrap64 ((ji5) + 1), 0))) else (some (wrap64 (x7_1 + (ji11)), wrap64 ((ji5) + 1), 0))) else (corncribref06_read.l0 k1 a0 a1 (wrap64 (x7_1 + (ji11))) (wrap64 (x8_1 + 1)))) = some (r1, r2, r3) := by first | (rw [hji11] at H; exact H) | (simp only [hji11] at H ⊢; exact H)
        have hji11_ : (IntKind.i64.wrap ((Int.tmod (wrap64 (bt a0 (ji5))) 128) * 2 ^ min (ji9).toNat 64)) = ji11 := hji11
        have hji11z : (ji9) ≤ 64 → (IntKind.i64.wrap ((Int.tmod (wrap64 (bt a0 (ji5))) 128) * 2 ^ (ji9).toNat)) = ji11 := shl_small hji11
        have hji11y : (wrap64 ((Int.tmod (wrap64 (bt a0 (ji5))) 128) * 2 ^ min (ji9).toNat 64)) = ji11 := (i64_w _).symm.trans hji11_
        have hji11x : (ji9) ≤ 64 → (wrap64 ((Int.tmod (wrap64 (bt a0 (ji5))) 128) * 2 ^ (ji9).toNat)) = ji11 := fun h_ => (i64_w _).symm.trans (hji11z h_)
        by_cases c12 : (wrap64 (bt a0 (ji5))) < 128
        ·rw [if_pos c12] at H
         have c12b0 : decide ((wrap64 (bt a0 (ji5))) < 128) = true := decide_eq_true c12
         clear c12
         by_cases c13 : (wrap64 (bt a0 (ji5))) = 0
         ·rw [if_pos c13] at H
          have c13b0 : ((wrap64 (bt a0 (ji5))) == 0) = true := beq_iff_eq.mpr c13
          have c13b1 : ((wrap64 (bt a0 (ji5))) != 0) = false := bne_eq_false_iff_eq.mpr c13
          clear c13
          by_cases c14 : x8_1 > 0
          ·rw [if_pos c14] at H
           have c14b0 : decide (0 < x8_1) = true := decide_eq_true c14
           clear c14
           simp only [Option.some.injEq, Prod.mk.injEq] at H
           obtain ⟨rfl, rfl, rfl⟩ := H
           have p8 : 0 ≤ ((ji5) : Int) := of_decide_eq_true (by first | (with_reducible assumption) | assumption)
           have q8 : (ji5) < (a0.size : Int) := of_decide_eq_true (by first | (with_reducible assumption) | assumption)
           have hx8 := bt_at a0 (ji5)
           replace p8 := eq_true p8
           replace q8 := eq_true q8
           go_wp2
           go_ret3
           exact ⟨by first | rfl | (simp; done) | (simp only [← hji5, ← hji9, ← hji11] <;> (first | rfl | simp)) | (simp [*]; done), by repeat (first | exact Drawn0.refl _ | apply Drawn0.step)⟩
          ·rw [if_neg c14] at H
           have c14b0 : decide (0 < x8_1) = false := decide_eq_false c14
           clear c14
           simp only [Option.some.injEq, Prod.mk.injEq] at H
           obtain ⟨rfl, rfl, rfl⟩ := H
           have p8 : 0 ≤ ((ji5) : Int) := of_decide_eq_true (by first | (with_reducible assumption) | assumption)
           have q8 : (ji5) < (a0.size : Int) := of_decide_eq_true (by first | (with_reducible assumption) | assumption)
           have hx8 := bt_at a0 (ji5)
           replace p8 := eq_true p8
           replace q8 := eq_true q8
           go_wp2
           go_ret3
           exact ⟨by first | rfl | (simp; done) | (simp only [← hji5, ← hji9, ← hji11] <;> (first | rfl | simp)) | (simp [*]; done), by repeat (first | exact Drawn0.refl _ | apply Drawn0.step)⟩
         ·rw [if_neg c13] at H
          have c13b0 : ((wrap64 (bt a0 (ji5))) == 0) = false := beq_eq_false_iff_ne.mpr c13
          have c13b1 : ((wrap64 (bt a0 (ji5))) != 0) = true := bne_iff_ne.mpr c13
          simp only [Option.some.injEq, Prod.mk.injEq] at H
          obtain ⟨rfl, rfl, rfl⟩ := H
          have p8 : 0 ≤ ((ji5) : Int) := of_decide_eq_true (by first | (with_reducible assumption) | assumption)
          have q8 : (ji5) < (a0.size : Int) := of_decide_eq_true (by first | (with_reducible assumption) | assumption)
          have hx8 := bt_at a0 (ji5)
          replace p8 := eq_true p8
          replace q8 := eq_true q8
          go_wp2
          go_ret3
          exact ⟨by first | rfl | (simp; done) | (simp only [← hji5, ← hji9, ← hji11] <;> (first | rfl | simp)) | (simp [*]; done), by repeat (first | exact Drawn0.refl _ | apply Drawn0.step)⟩
        ·rw [if_neg c12] at H
         have c12b0 : decide ((wrap64 (bt a0 (ji5))) < 128) = false := decide_eq_false c12
         clear c12
         have H' := Aside0.mk H
         clear H
         have p8 : 0 ≤ ((ji5) : Int) := of_decide_eq_true (by first | (with_reducible assumption) | assumption)
         have q8 : (ji5) < (a0.size : Int) := of_decide_eq_true (by first | (with_reducible assumption) | assumption)
         have hx8 := bt_at a0 (ji5)
         replace p8 := eq_true p8
         replace q8 := eq_true q8
         go_wp2
         go_roundg k1
         case measure => have := HK1.out; omega
         case rel => exact ⟨(wrap64 (x7_1 + (ji11))), (wrap64 (x8_1 + 1)), (by first | rfl | (simp; done) | (simp only [← hji11] <;> (first | rfl | simp)) | (simp [*]; done)), (by first | rfl | (simp; done) | (simp [*]; done)), H', ⟨by have := HK1.out; omega⟩, by repeat (first | exact Drawn0.refl _ | apply Drawn0.step)⟩
       ·rw [if_neg c10] at H
        exact absurd H (by simp)
      ·rw [if_neg c7] at H
       exact absurd H (by simp)
     ·rw [if_neg c6] at H
      exact absurd H (by simp)
   ·rw [if_neg c3] at H
    have c3b0 : decide (x8_1 < 9) = false := decide_eq_false c3
    clear c3
    simp only [Option.some.injEq, Prod.mk.injEq] at H
    obtain ⟨rfl, rfl, rfl⟩ := H
    go_wp2
    go_ret3
    exact ⟨by first | rfl | (simp; done) | (simp [*]; done), by repeat (first | exact Drawn0.refl _ | apply Drawn0.step)⟩
end Go.Proofs.Ytelgpkbnahgdoaa.Al

namespace Go.Proofs.Ytelgpkbnahgdoaa.Al
open Go.RowKit Go.Proofs.YtelgpkbnahgdoaaW.PrintWords Go.Proofs.YtelgpkbnahgdoaaW.PrintLast Go.Proofs.YtelgpkbnahgdoaaW.PrintMore
attribute [local go_sem] max2_int min2_int max_two min_two max_three min_three max_four min_four   -- for this text's walks alone
set_option linter.unusedVariables false
set_option linter.unusedSimpArgs false
def corncribref06_count.f (k : Nat) (a0 : ByteArray) (a1 : Int) (a2 : Int) : Option (Int × Int × Int) := (corncribref06_read.f k a0 a1).bind fun bt355 => (if bt355.2.2 = 0 then (if bt355.1 > a2 then (some (0, a1, 2)) else (some (bt355.1, bt355.2.1, bt355.2.2))) else (some (bt355.1, bt355.2.1, bt355.2.2)))
theorem corncribref06_count.mono : ∀ a0 a1 a2 k, LeO (corncribref06_count.f k a0 a1 a2) (corncribref06_count.f (k + 1) a0 a1 a2) := by
 intro a0 a1 a2 k
 unfold corncribref06_count.f
 repeat' first
   |(with_reducible exact corncribref06_read.mono _ _ _)
   |(with_reducible exact LeO.refl _)
   |(with_reducible exact LeO.none _)
   |(with_reducible refine LeO.ite ?_ ?_)
   |(with_reducible refine LeO.bind ?_ (fun _ => ?_))
   |exact corncribref06_read.mono _ _ _
   |exact LeO.none _
   |refine LeO.ite ?_ ?_
   |refine LeO.bind ?_ (fun _ => ?_)
set_option maxHeartbeats 8000000 in
set_option maxRecDepth 100000 in
theorem corncribref06_count.calls (k : Nat) (a0 : ByteArray) (a1 : Int) (a2 : Int) (r1 : Int) (r2 : Int) (r3 : Int) (w : World) (h : corncribref06_count.f k a0 a1 a2 = some (r1, r2, r3)) :
  Calls Try.prog 48 #[.string a0, .int .i64 a1, .int .i64 a2] w fun e w' => e = .returned (.tuple #[.int .i64 r1, .int .i64 r2, .int .i64 r3]) ∧ Drawn0 w w' := by
 have H : ((corncribref06_read.f k a0 a1).bind fun bt355 => (if bt355.2.2 = 0 then (if bt355.1 > a2 then (some (0, a1, 2)) else (some (bt355.1, bt355.2.1, bt355.2.2))) else (some (bt355.1, bt355.2.1, bt355.2.2)))) = some (r1, r2, r3) := h
 clear h
 replace H := Option.bind_eq_some_iff.mp H
 obtain ⟨⟨t355, t356, t357⟩, A40, H⟩ := H
 replace H : (if t357 = 0 then (if t355 > a2 then (some (0, a1, 2)) else (some (t355, t356, t357))) else (some (t355, t356, t357))) = some (r1, r2, r3) := H
 have A4 := Aside0.mk A40
 clear A40
 by_cases c5 : t357 = 0
 ·rw [if_pos c5] at H
  have c5b0 : (t357 == 0) = true := beq_iff_eq.mpr c5
  have c5b1 : (t357 != 0) = false := bne_eq_false_iff_eq.mpr c5
  clear c5
  by_cases c6 : t355 > a2
  ·rw [if_pos c6] at H
   have c6b0 : decide (a2 < t355) = true := decide_eq_true c6
   clear c6
   simp only [Option.some.injEq, Prod.mk.injEq] at H
   obtain ⟨rfl, rfl, rfl⟩ := H
   go_enter Try.func48, Try.ntmps48
   go_wp2_with (first | ((with_reducible refine gate_callee (f := 49) rfl ?_); refine goesL_ (some 15) rfl rfl Try.func49 (by kernel_rfl) rfl #[.string a0, .int .i64 a1] rfl (by (try simp only [List.map_toArray, List.map_cons, List.map_nil]); first | done | rfl | (simp only [List.length_drop, List.length_take]; rfl)) ?_; (with_reducible refine (corncribref06_read.calls k a0 a1 t355 t356 t357 _ A4.out).mono ?_); rintro e w' ⟨rfl, ⟨nd, rfl⟩⟩; refine ⟨_, rfl, ?_⟩))
   go_ret3
   exact ⟨by first | rfl | (simp; done) | (simp [*]; done), by repeat (first | exact Drawn0.refl _ | apply Drawn0.step)⟩
  ·rw [if_neg c6] at H
   have c6b0 : decide (a2 < t355) = false := decide_eq_false c6
   clear c6
   simp only [Option.some.injEq, Prod.mk.injEq] at H
   obtain ⟨rfl, rfl, rfl⟩ := H
   go_enter Try.func48, Try.ntmps48
   go_wp2_with (first | ((with_reducible refine gate_callee (f := 49) rfl ?_); refine goesL_ (some 15) rfl rfl Try.func49 (by kernel_rfl) rfl #[.string a0, .int .i64 a1] rfl (by (try simp only [List.map_toArray, List.map_cons, List.map_nil]); first | done | rfl | (simp only [List.length_drop, List.length_take]; rfl)) ?_; (with_reducible refine (corncribref06_read.calls k a0 a1 t355 t356 t357 _ A4.out).mono ?_); rintro e w' ⟨rfl, ⟨nd, rfl⟩⟩; refine ⟨_, rfl, ?_⟩))
   go_ret3
   exact ⟨by first | rfl | (simp; done) | (simp [*]; done), by repeat (first | exact Drawn0.refl _ | apply Drawn0.step)⟩
 ·rw [if_neg c5] at H
  have c5b0 : (t357 == 0) = false := beq_eq_false_iff_ne.mpr c5
  have c5b1 : (t357 != 0) = true := bne_iff_ne.mpr c5
  simp only [Option.some.injEq, Prod.mk.injEq] at H
  obtain ⟨rfl, rfl, rfl⟩ := H
  go_enter Try.func48, Try.ntmps48
  go_wp2_with (first | ((with_reducible refine gate_callee (f := 49) rfl ?_); refine goesL_ (some 15) rfl rfl Try.func49 (by kernel_rfl) rfl #[.string a0, .int .i64 a1] rfl (by (try simp only [List.map_toArray, List.map_cons, List.map_nil]); first | done | rfl | (simp only [List.length_drop, List.length_take]; rfl)) ?_; (with_reducible refine (corncribref06_read.calls k a0 a1 t355 t356 t357 _ A4.out).mono ?_); rintro e w' ⟨rfl, ⟨nd, rfl⟩⟩; refine ⟨_, rfl, ?_⟩))
  go_ret3
  exact ⟨by first | rfl | (simp; done) | (simp [*]; done), by repeat (first | exact Drawn0.refl _ | apply Drawn0.step)⟩
end Go.Proofs.Ytelgpkbnahgdoaa.Al

namespace Go.Proofs.Ytelgpkbnahgdoaa.PackDec
open Go.RowKit Go.Proofs.Ytelgpkbnahgdoaa.Base Go.Proofs.Ytelgpkbnahgdoaa.PackMath Go.Proofs.Ytelgpkbnahgdoaa.Al Go.Proofs.YtelgpkbnahgdoaaW.PrintWords Go.Proofs.YtelgpkbnahgdoaaW.PrintLast Go.Proofs.YtelgpkbnahgdoaaW.PrintMore
theorem Ev.succ {α : Type} {g : Nat → Option α} {r : α} (h : Ev (fun k => g (k + 1)) r) : Ev g r := Ev.step (fun _ => rfl) h
theorem rest_end {s : ByteArray} {p : Nat} (h : s.size ≤ p) : rest s p = [] := List.drop_of_length_le (by rw [bytesOf_length]; exact h)
theorem rest_at {s : ByteArray} {p : Nat} (h : p < s.size) : rest s p = bt s p :: rest s (p + 1) := by
 unfold rest
 have hl : p < (bytesOf s).length := by rw [bytesOf_length]; exact h
 rw [List.drop_eq_getElem_cons hl]
 congr 1
 rw [← rd_bytesOf]
 simp [rd, List.getD_eq_getElem?_getD, hl]
theorem ofInt_u64 (a : Nat) (ha : a < 18446744073709551616) : (BitVec.ofInt 64 (a : Int)).toNat = a := by
 rw [BitVec.ofInt_natCast, BitVec.toNat_ofNat]; exact Nat.mod_eq_of_lt (by omega)
theorem or_u64_nat (a b : Nat) (ha : a < 9223372036854775808) (hb : b < 9223372036854775808) : Go.bits .or .u64 (a : Int) (b : Int) = ((a ||| b : Nat) : Int) := by
 have hx : a ||| b < 2 ^ 63 := Nat.or_lt_two_pow (by omega) (by omega)
 show IntKind.u64.wrap ((BitVec.ofInt 64 (a : Int) ||| BitVec.ofInt 64 (b : Int)).toNat : Int) = _
 rw [BitVec.toNat_or, ofInt_u64 a (by omega), ofInt_u64 b (by omega), IntKind.wrap_u64]
 omega
theorem pow7 : ∀ i : Nat, i < 9 → 2 ^ (7 * i) ≤ 72057594037927936 := by
 intro i hi
 have : 2 ^ (7 * i) ≤ 2 ^ 56 := Nat.pow_le_pow_right (by omega) (by omega)
 omega
/-- Seven bits more, as the program lays them. -/
theorem lay_u64 (n x i : Nat) (hi : i < 9) (hn : n < 2 ^ (7 * i)) (hx : x < 128) : Go.bits .or .u64 (n : Int) (shl .u64 (IntKind.u64.wrap (x : Int)) (wrap64 (7 * (i : Int)))) = ((n + x * 2 ^ (7 * i) : Nat) : Int) := by
 have hp := pow7 i hi
 have h0 : 0 < 2 ^ (7 * i) := Nat.two_pow_pos _
 have e1 : IntKind.u64.wrap (x : Int) = (x : Int) := by rw [IntKind.wrap_u64]; omega
 have e2 : wrap64 (7 * (i : Int)) = ((7 * i : Nat) : Int) := by rw [wrap_id (by omega) (by omega)]; omega
 have hb : x * 2 ^ (7 * i) < 9223372036854775808 := by
  have : x * 2 ^ (7 * i) ≤ 127 * 2 ^ (7 * i) := Nat.mul_le_mul_right _ (by omega)
  omega
 have e3 : shl .u64 (x : Int) ((7 * i : Nat) : Int) = ((x * 2 ^ (7 * i) : Nat) : Int) := by
  unfold shl
  rw [Int.toNat_natCast, show min (7 * i) IntKind.u64.bits = 7 * i from Nat.min_eq_left (by show 7 * i ≤ 64; omega), IntKind.wrap_u64]
  have : ((x : Int) * 2 ^ (7 * i)) = ((x * 2 ^ (7 * i) : Nat) : Int) := by simp
  rw [this]
  omega
 rw [e1, e2, e3, or_u64_nat _ _ (by omega) hb]
 congr 1
 rw [Nat.or_comm, Nat.mul_comm, ← Nat.two_pow_add_eq_or_of_lt hn, Nat.add_comm]
theorem lay_i64 (n x i : Nat) (hi : i < 9) (hn : n < 2 ^ (7 * i)) (hx : x < 128) : wrap64 ((n : Int) + (shl .i64 (x : Int) (wrap64 (7 * (i : Int))))) = ((n + x * 2 ^ (7 * i) : Nat) : Int) := by
 have hp := pow7 i hi
 have e2 : wrap64 (7 * (i : Int)) = ((7 * i : Nat) : Int) := by rw [wrap_id (by omega) (by omega)]; omega
 have hb : x * 2 ^ (7 * i) ≤ 127 * 2 ^ (7 * i) := Nat.mul_le_mul_right _ (by omega)
 have e3 : shl .i64 (x : Int) ((7 * i : Nat) : Int) = ((x * 2 ^ (7 * i) : Nat) : Int) := by
  unfold shl
  rw [Int.toNat_natCast, show min (7 * i) IntKind.i64.bits = 7 * i from Nat.min_eq_left (by show 7 * i ≤ 64; omega), IntKind.wrap_i64]
  have : ((x : Int) * 2 ^ (7 * i)) = ((x * 2 ^ (7 * i) : Nat) : Int) := by simp
  rw [this]
  omega
 rw [e2, e3, wrap_id (by omega) (by omega)]
 omega
theorem next_small (n x i : Nat) (hn : n < 2 ^ (7 * i)) (hx : x < 128) : n + x * 2 ^ (7 * i) < 2 ^ (7 * (i + 1)) := by
 rw [pow_next]
 have : x * 2 ^ (7 * i) ≤ 127 * 2 ^ (7 * i) := Nat.mul_le_mul_right _ (by omega)
 omega
/-- What number hands back of what was read. -/
def fin (s : ByteArray) (p : Nat) (most : Int) (r : Nat × Nat × Int) : Int × ByteArray × Int × Int :=
 if r.2.2 = 0 then (if (r.1 : Int) > most then (0, s, p, 2) else (r.1, s, ((p + r.2.1 : Nat) : Int), 0)) else if r.2.2 = 50 then (0, s, s.size, 50) else (0, s, p, 3)
theorem num_l0 (s : ByteArray) (p : Nat) (most : Int) (hs : s.size ≤ 140737488355328) : ∀ (d i n : Nat), i + d = 9 → n < 2 ^ (7 * i) → p + i ≤ s.size → Ev (fun k => pack_reader_number.l0 k most p n i s p 0) (fin s p most (pn d i n (rest s (p + i))))
 |0, i, n, h, hn, hp => by
  refine Ev.succ ?_
  simp only [pack_reader_number.l0]
  refine Ev.neg (by omega) ?_
  simp only [pack_reader_fail.f, Option.bind_some, pn, fin]
  exact Ev.now _
 |d + 1, i, n, h, hn, hp => by
  have e0 : wrap64 ((p : Int) + (i : Int)) = ((p + i : Nat) : Int) := by rw [wrap_id (by omega) (by omega)]; omega
  refine Ev.succ ?_
  simp only [pack_reader_number.l0]
  rw [e0]
  refine Ev.pos (by omega) (Ev.pos trivial ?_)
  by_cases hend : p + i = s.size
  ·refine Ev.pos (by omega) ?_
   rw [rest_end (by omega)]
   simp only [pack_reader_fail.f, Option.bind_some, pn, fin]
   exact Ev.now _
  ·refine Ev.neg (by omega) (Ev.pos (by omega) (Ev.pos (by omega) (Ev.pos (by rw [wrap_id (by omega) (by omega)]; omega) ?_)))
   rw [rest_at (by omega)]
   have hbr := bt_range s ((p + i : Nat) : Int)
   generalize bt s ((p + i : Nat) : Int) = b at hbr ⊢
   have em : Int.tmod b 128 = (((b % 128).toNat : Nat) : Int) := by rw [Int.tmod_eq_emod_of_nonneg (by omega)]; omega
   have hx : (b % 128).toNat < 128 := by omega
   rw [em, lay_u64 n _ i (by omega) hn hx]
   have hsm := next_small n _ i hn hx
   have hbd : n + (b % 128).toNat * 2 ^ (7 * i) < 9223372036854775808 := by
    have : 2 ^ (7 * (i + 1)) ≤ 2 ^ 63 := Nat.pow_le_pow_right (by omega) (by omega)
    omega
   by_cases hb : b < 128
   ·have epn : pn (d + 1) i n (b :: rest s (p + i + 1)) = if b = 0 ∧ 0 < i then (0, 0, 3) else (n + (b % 128).toNat * 2 ^ (7 * i), i + 1, 0) := by
     show (if b < 128 then _ else _) = _
     rw [if_pos hb]
    rw [epn]
    refine Ev.neg (by omega) ?_
    have last : ∀ c : Bool, c = decide (b = 0 ∧ 0 < i) → Ev (fun k => pack_reader_number.j1 k most p ((n + (b % 128).toNat * 2 ^ (7 * i) : Nat) : Int) i c s p 0) (fin s p most (if b = 0 ∧ 0 < i then (0, 0, 3) else (n + (b % 128).toNat * 2 ^ (7 * i), i + 1, 0))) := by
     intro c hc
     refine Ev.succ ?_
     simp only [pack_reader_number.j1]
     by_cases hz : b = 0 ∧ 0 < i
     ·rw [if_pos hz]
      refine Ev.pos (by rw [hc]; simpa using hz) ?_
      simp only [pack_reader_fail.f, Option.bind_some, fin]
      exact Ev.now _
     ·rw [if_neg hz]
      refine Ev.neg (by rw [hc]; simpa using hz) ?_
      have efin : fin s p most (n + (b % 128).toNat * 2 ^ (7 * i), i + 1, 0) = if ((n + (b % 128).toNat * 2 ^ (7 * i) : Nat) : Int) > most then (0, s, (p : Int), 2) else (((n + (b % 128).toNat * 2 ^ (7 * i) : Nat) : Int), s, ((p + (i + 1) : Nat) : Int), 0) := by
       unfold fin
       rw [if_pos rfl]
      by_cases hm : ((n + (b % 128).toNat * 2 ^ (7 * i) : Nat) : Int) > most
      ·refine Ev.pos hm ?_
       rw [efin, if_pos hm]
       simp only [pack_reader_fail.f, Option.bind_some]
       exact Ev.now _
      ·refine Ev.neg hm ?_
       rw [efin, if_neg hm]
       rw [e0, wrap_id (by omega) (by omega), show ((p + i : Nat) : Int) + 1 = ((p + (i + 1) : Nat) : Int) from by omega]
       exact Ev.now _
    by_cases hb0 : b = 0
    ·refine Ev.pos hb0 (last _ ?_)
     simp [hb0]
    ·refine Ev.neg hb0 (last _ ?_)
     simp [hb0]
   ·have epn : pn (d + 1) i n (b :: rest s (p + i + 1)) = pn d (i + 1) (n + (b % 128).toNat * 2 ^ (7 * i)) (rest s (p + (i + 1))) := by
     show (if b < 128 then _ else _) = _
     rw [if_neg hb]
     rfl
    rw [epn]
    refine Ev.pos (by omega) ?_
    rw [show wrap64 ((i : Int) + 1) = ((i + 1 : Nat) : Int) from by rw [wrap_id (by omega) (by omega)]; omega]
    exact num_l0 s p most hs d (i + 1) _ (by omega) hsm (by omega)
theorem pn_errs : ∀ (d i n : Nat) (l : List Int), (pn d i n l).2.2 = 0 ∨ ((pn d i n l).2.2 = 50 ∧ (pn d i n l).1 = 0) ∨ ((pn d i n l).2.2 = 3 ∧ (pn d i n l).1 = 0)
 |0, i, n, l => by simp [pn]
 |d + 1, i, n, [] => by simp [pn]
 |d + 1, i, n, b :: l => by
  have ih := pn_errs d (i + 1) (n + (b % 128).toNat * 2 ^ (7 * i)) l
  have e : pn (d + 1) i n (b :: l) = if b < 128 then (if b = 0 ∧ 0 < i then (0, 0, 3) else (n + (b % 128).toNat * 2 ^ (7 * i), i + 1, 0)) else pn d (i + 1) (n + (b % 128).toNat * 2 ^ (7 * i)) l := rfl
  rw [e]
  by_cases hb : b < 128
  ·rw [if_pos hb]
   by_cases hz : b = 0 ∧ 0 < i
   ·rw [if_pos hz]; simp
   ·rw [if_neg hz]; simp
  ·rw [if_neg hb]; exact ih
theorem fin_cnt (s : ByteArray) (p most : Nat) : fin s p most (pn 9 0 0 (rest s p)) = (((cnt s p most).1 : Int), s, ((cnt s p most).2.1 : Int), (cnt s p most).2.2) := by
 have he := pn_errs 9 0 0 (rest s p)
 unfold fin cnt rdn
 generalize pn 9 0 0 (rest s p) = r at he ⊢
 obtain ⟨v, k, e⟩ := r
 simp only at he ⊢
 rcases he with rfl | ⟨rfl, rfl⟩ | ⟨rfl, rfl⟩
 ·simp only [if_true]
  by_cases hm : most < v
  ·rw [if_pos (by omega), if_pos ⟨trivial, hm⟩]; rfl
  ·rw [if_neg (by omega), if_neg (by simp [hm])]
 ·simp
 ·simp
theorem number_ev (s : ByteArray) (p most : Nat) (hs : s.size ≤ 140737488355328) (hp : p ≤ s.size) : Ev (fun k => pack_reader_number.f k s p 0 most) (((cnt s p most).1 : Int), s, ((cnt s p most).2.1 : Int), (cnt s p most).2.2) := by
 have h := num_l0 s p (most : Int) hs 9 0 0 rfl (by simp) hp
 rw [Nat.add_zero, fin_cnt] at h
 exact h
theorem cnt_all (s : ByteArray) (p : Nat) : cnt s p 9223372036854775807 = rdn s p := by
 unfold cnt
 by_cases h : (rdn s p).2.2 = 0
 ·have := (rdn_ok h).1
  rw [if_neg (by omega)]
 ·rw [if_neg (by simp [h])]
theorem number_bad (s : ByteArray) (p e most : Int) (he : e ≠ 0) : Ev (fun k => pack_reader_number.f k s p e most) (0, s, p, e) := by
 unfold pack_reader_number.f
 refine Ev.succ ?_
 simp only [pack_reader_number.l0]
 exact Ev.pos (by omega) (Ev.neg he (Ev.now _))
theorem cnt_zero {s : ByteArray} {p most : Nat} (h : (cnt s p most).2.2 ≠ 0) : (cnt s p most).1 = 0 := by
 have he := pn_errs 9 0 0 (rest s p)
 unfold cnt at h ⊢
 split
 ·rfl
 ·rename_i hc
  rw [if_neg hc] at h
  unfold rdn at h ⊢
  simp only at h ⊢
  rcases he with h0 | ⟨_, h1⟩ | ⟨_, h1⟩
  ·exact absurd h0 h
  ·exact h1
  ·exact h1
theorem text_ev (s : ByteArray) (p : Nat) (hs : s.size ≤ 140737488355328) (hp : p ≤ s.size) : Ev (fun k => pack_reader_text.f k s p 0) ((txt s p).1, s, ((txt s p).2.1 : Int), (txt s p).2.2) := by
 have hn := number_ev s p 4096 hs hp
 have hle := cnt_le (most := 4096) hp
 have hz := cnt_zero (s := s) (p := p) (most := 4096)
 have hok := cnt_ok (s := s) (p := p) (most := 4096)
 unfold pack_reader_text.f txt
 refine Ev.bind hn ?_
 generalize cnt s p 4096 = c at hle hz hok ⊢
 obtain ⟨v, q, e⟩ := c
 simp only at hle hz hok ⊢
 by_cases he : e = 0
 ·subst he
  have hv : v ≤ 4096 := by
   obtain ⟨e1, e2, e3⟩ := hok rfl
   rw [← e1] at e3
   exact e3
  rw [if_pos rfl]
  refine Ev.pos rfl (Ev.succ ?_)
  rw [wrap_id (n := (v : Int)) (by omega) (by omega), wrap_id (n := (s.size : Int) - (q : Int)) (by omega) (by omega)]
  simp only [pack_reader_text.j0]
  by_cases hl : s.size - q < v
  ·rw [if_pos hl]
   refine Ev.pos (by simp; omega) ?_
   simp only [pack_reader_fail.f, Option.bind_some]
   exact Ev.neg (by omega) (Ev.now _)
  ·rw [if_neg hl]
   refine Ev.neg (by simp; omega) ?_
   rw [wrap_id (n := (q : Int) + (v : Int)) (by omega) (by omega), wrap_id (n := (q : Int) + (v : Int) - (v : Int)) (by omega) (by omega)]
   refine Ev.pos trivial (Ev.pos (by omega) (Ev.pos (by omega) (Ev.pos (by omega) ?_)))
   rw [show ((q : Int) + (v : Int) - (v : Int)).toNat = q from by omega, show ((q : Int) + (v : Int)).toNat = q + v from by omega, show (q : Int) + (v : Int) = ((q + v : Nat) : Int) from by omega]
   exact Ev.now _
 ·rw [if_neg he]
  refine Ev.neg he (Ev.succ ?_)
  simp only [pack_reader_text.j0]
  exact Ev.neg (by simp) (Ev.neg he (Ev.now _))
end Go.Proofs.Ytelgpkbnahgdoaa.PackDec

namespace Go.Proofs.Ytelgpkbnahgdoaa.PackDec
open Go.RowKit Go.Proofs.Ytelgpkbnahgdoaa.Base Go.Proofs.Ytelgpkbnahgdoaa.PackMath Go.Proofs.Ytelgpkbnahgdoaa.Al Go.Proofs.YtelgpkbnahgdoaaW.PrintWords Go.Proofs.YtelgpkbnahgdoaaW.PrintLast Go.Proofs.YtelgpkbnahgdoaaW.PrintMore
def st1 (s : ByteArray) : Nat × Nat × Int := cnt s 0 1024
def st2 (s : ByteArray) : List Int × Nat × Int := if (st1 s).2.2 = 0 then decN s (st1 s).1 (st1 s).2.1 [] else ([], (st1 s).2)
def st3 (s : ByteArray) : Nat × Nat × Int := if (st2 s).2.2 = 0 then cnt s (st2 s).2.1 1024 else (0, (st2 s).2)
def st4 (s : ByteArray) : List ByteArray × Nat × Int := if (st3 s).2.2 = 0 then decT s (st3 s).1 (st3 s).2.1 [] else ([], (st3 s).2)
theorem dec_st (s : ByteArray) : dec s = if (st4 s).2.2 = 0 then (if (st4 s).2.1 < s.size then ([], [], (st4 s).2.1, 3) else ((st2 s).1, (st4 s).1, 0, 0)) else ([], [], (st4 s).2) := by
 unfold dec st4 st3 st2 st1
 by_cases h1 : (cnt s 0 1024).2.2 = 0
 ·simp only [if_pos h1]
  by_cases h2 : (decN s (cnt s 0 1024).1 (cnt s 0 1024).2.1 []).2.2 = 0
  ·simp only [if_pos h2]
   by_cases h3 : (cnt s (decN s (cnt s 0 1024).1 (cnt s 0 1024).2.1 []).2.1 1024).2.2 = 0
   ·simp only [if_pos h3]
   ·simp only [if_neg h3]
  ·simp only [if_neg h2]
 ·simp only [if_neg h1]
theorem cnt_most {s : ByteArray} {p most : Nat} : (cnt s p most).1 ≤ most := by
 by_cases h : (cnt s p most).2.2 = 0
 ·obtain ⟨e1, _, e3⟩ := cnt_ok h
  rw [e1]; exact e3
 ·rw [cnt_zero h]; exact Nat.zero_le _
theorem st1_le (s : ByteArray) : (st1 s).2.1 ≤ s.size := cnt_le (Nat.zero_le _)
theorem st2_le (s : ByteArray) : (st2 s).2.1 ≤ s.size := by
 unfold st2
 split
 ·exact decN_le _ _ _ (st1_le s)
 ·exact st1_le s
theorem st3_le (s : ByteArray) : (st3 s).2.1 ≤ s.size := by
 unfold st3
 split
 ·exact cnt_le (st2_le s)
 ·exact st2_le s
theorem st3_most (s : ByteArray) : (st3 s).1 ≤ 1024 := by
 unfold st3
 split
 ·exact cnt_most
 ·exact Nat.zero_le _
/-- number, whatever the reader's state is. -/
def cntE (s : ByteArray) (p : Nat) (e : Int) (most : Nat) : Nat × Nat × Int := if e = 0 then cnt s p most else (0, p, e)
theorem number_calls (s : ByteArray) (p most : Nat) (mi pi e : Int) (hmi : mi = (most : Int)) (hpi : pi = (p : Int)) (hs : s.size ≤ 140737488355328) (hp : p ≤ s.size) (g : Nat) (w0 w : World) (hI : IsS66 w0 w g s pi e) (hB : Below w0.heap.size w0 w) :
  Calls Try.prog 45 #[.pointer (some ⟨g, 0, none⟩), .int .u64 mi] w fun x w' => x = .returned (.int .u64 ((cntE s p e most).1 : Int)) ∧ IsS66 w0 w' g s ((cntE s p e most).2.1 : Int) (cntE s p e most).2.2 ∧ Below w0.heap.size w0 w' ∧ KeepBut w w' g none := by
 subst hmi hpi
 unfold cntE
 by_cases he : e = 0
 ·subst he
  rw [if_pos rfl]
  obtain ⟨k, hk⟩ := Ev.rounds (number_ev s p most hs hp)
  exact pack_reader_number.calls k g s p 0 most _ _ _ _ w0 w hI hB hk
 ·rw [if_neg he]
  obtain ⟨k, hk⟩ := Ev.rounds (number_bad s p e most he)
  exact pack_reader_number.calls k g s p e most _ _ _ _ w0 w hI hB hk
theorem text_calls (s : ByteArray) (p : Nat) (pi : Int) (hpi : pi = (p : Int)) (hs : s.size ≤ 140737488355328) (hp : p ≤ s.size) (g : Nat) (w0 w : World) (hI : IsS66 w0 w g s pi 0) (hB : Below w0.heap.size w0 w) :
  Calls Try.prog 46 #[.pointer (some ⟨g, 0, none⟩)] w fun x w' => x = .returned (.string (txt s p).1) ∧ IsS66 w0 w' g s ((txt s p).2.1 : Int) (txt s p).2.2 ∧ Below w0.heap.size w0 w' ∧ KeepBut w w' g none := by
 subst hpi
 obtain ⟨k, hk⟩ := Ev.rounds (text_ev s p hs hp)
 exact pack_reader_text.calls k g s p 0 _ _ _ _ w0 w hI hB hk
/-- A reader at block gr, a pack under way at block gp: its slices vN, vT hold xs and ts. -/
structure PS (w0 W : World) (gp gr : Nat) (s : ByteArray) (p : Nat) (e : Int) (xs : List Int) (ts : List ByteArray) (vN vT : Value) : Prop where
 bp : W.heap[gp]? = some (.cells #[vN, vT] 47 (0, 0))
 gep : w0.heap.size ≤ gp
 rd : IsS66 w0 W gr s p e
 ns : (Kd.int .i64).R 3 W w0.heap.size (fun _ => True) vN xs
 ts : Kd.string.R 9 W w0.heap.size (fun _ => True) vT ts
 bel : Below w0.heap.size w0 W
section
variable {w0 W : World} {gp gr : Nat} {s : ByteArray} {p : Nat} {e : Int} {xs : List Int} {ts : List ByteArray} {vN vT : Value}
theorem PS.ne (h : PS w0 W gp gr s p e xs ts vN vT) : gp ≠ gr := fun hc => (h.rd.ne_blk h.bp (by decide)) hc.symm
theorem PS.neN (h : PS w0 W gp gr s p e xs ts vN vT) : some gp ≠ vN.ownBlock := Kd.R_ne h.ns h.bp (by decide)
theorem PS.neT (h : PS w0 W gp gr s p e xs ts vN vT) : some gp ≠ vT.ownBlock := Kd.R_ne h.ts h.bp (by decide)
theorem PS.keep {W1 : World} {p' : Nat} {e' : Int} (h : PS w0 W gp gr s p e xs ts vN vT) (hr : IsS66 w0 W1 gr s p' e') (hb : Below w0.heap.size w0 W1) (hk : KeepBut W W1 gr none) : PS w0 W1 gp gr s p' e' xs ts vN vT where
 bp := (hk.2 gp (blk_lt h.bp) h.ne (by simp)).trans h.bp
 gep := h.gep
 rd := hr
 ns := Kd.R_mono (Kd.R_keep (h.rd.apart h.ns (by decide)) hk (fun _ hk => hk.2)) (fun _ _ => trivial)
 ts := Kd.R_mono (Kd.R_keep (h.rd.apart h.ts (by decide)) hk (fun _ hk => hk.2)) (fun _ _ => trivial)
 bel := hb
theorem PS.below {W1 : World} (h : PS w0 W gp gr s p e xs ts vN vT) (hb : Below W.heap.size W W1) : PS w0 W1 gp gr s p e xs ts vN vT where
 bp := blk_below h.bp hb
 gep := h.gep
 rd := h.rd.below hb
 ns := Kd.R_below h.ns hb
 ts := Kd.R_below h.ts hb
 bel := below_step h.bel hb
theorem PS.alloc (h : PS w0 W gp gr s p e xs ts vN vT) (o : Obj) : PS w0 (W.alloc o) gp gr s p e xs ts vN vT := h.below (below_alloc (Below.refl _ _) o)
theorem PS.drewN (h : PS w0 W gp gr s p e xs ts vN vT) (m : Nat) : PS w0 (W.drewN m) gp gr s p e xs ts vN vT := h.below (pw_below_drewN (Below.refl _ _) m)
theorem PS.drew (h : PS w0 W gp gr s p e xs ts vN vT) : PS w0 W.drew gp gr s p e xs ts vN vT := h.below (below_drew (Below.refl _ _))
theorem PS.pushN {v1 : Value} {w1 : World} {ys : List Int} (h : PS w0 W gp gr s p e xs ts vN vT) (ho : (Kd.int .i64).R 3 w1 w0.heap.size (fun _ => True) v1 ys) (hb : Below w0.heap.size w0 w1) (hg : W.grownBy w1 vN.ownBlock) :
  w1.heap[gp]? = some (.cells #[vN, vT] 47 (0, 0)) ∧ PS w0 (w1.setCell ⟨gp, 0, none⟩ v1) gp gr s p e ys ts v1 vT := by
 have b1 := blk_grown h.bp hg h.neN
 have r1 := h.rd.grown hg (Kd.R_ne h.ns h.rd.1 (by decide))
 have t1 := Kd.R_over h.ts h.ns (by decide) hg
 exact ⟨b1, by simpa using blk_set b1 0 v1, h.gep, r1.far (p := ⟨gp, 0, none⟩) (Ne.symm h.ne) v1, Kd.R_set ho b1 (by decide) 0 v1, Kd.R_set t1 b1 (by decide) 0 v1, below_set hb h.gep⟩
theorem PS.pushT {v1 : Value} {w1 : World} {ys : List ByteArray} (h : PS w0 W gp gr s p e xs ts vN vT) (ho : Kd.string.R 9 w1 w0.heap.size (fun _ => True) v1 ys) (hb : Below w0.heap.size w0 w1) (hg : W.grownBy w1 vT.ownBlock) :
  w1.heap[gp]? = some (.cells #[vN, vT] 47 (0, 0)) ∧ PS w0 (w1.setCell ⟨gp, 1, none⟩ v1) gp gr s p e xs ys vN v1 := by
 have b1 := blk_grown h.bp hg h.neT
 have r1 := h.rd.grown hg (Kd.R_ne h.ts h.rd.1 (by decide))
 have t1 := Kd.R_over h.ns h.ts (by decide) hg
 exact ⟨b1, by simpa using blk_set b1 1 v1, h.gep, r1.far (p := ⟨gp, 1, none⟩) (Ne.symm h.ne) v1, Kd.R_set t1 b1 (by decide) 1 v1, Kd.R_set ho b1 (by decide) 1 v1, below_set hb h.gep⟩
end
end Go.Proofs.Ytelgpkbnahgdoaa.PackDec

namespace Go.Proofs.Ytelgpkbnahgdoaa.PackDec
open Go.RowKit Go.Proofs.Ytelgpkbnahgdoaa.Base Go.Proofs.Ytelgpkbnahgdoaa.PackMath Go.Proofs.YtelgpkbnahgdoaaW.PrintWords
theorem and_u64_one (n : Nat) (hn : n < 9223372036854775808) : Go.bits .and .u64 (n : Int) 1 = ((n % 2 : Nat) : Int) := by
 show IntKind.u64.wrap ((BitVec.ofInt 64 (n : Int) &&& BitVec.ofInt 64 ((1 : Nat) : Int)).toNat : Int) = _
 rw [BitVec.toNat_and, ofInt_u64 n (by omega), ofInt_u64 1 (by omega), IntKind.wrap_u64, Nat.and_one_is_mod]
 omega
theorem xor_all (x : Nat) (hx : x < 9223372036854775808) : Go.bits .xor .i64 (x : Int) (-1) = -(x : Int) - 1 := by
 show IntKind.i64.wrap ((BitVec.ofInt 64 (x : Int) ^^^ BitVec.ofInt 64 (-1)).toNat : Int) = _
 have e : BitVec.ofInt 64 (-1) = BitVec.allOnes 64 := by decide
 rw [e, BitVec.xor_allOnes, BitVec.toNat_not, ofInt_u64 x (by omega), IntKind.wrap_i64]
 omega
theorem zag_go (n : Nat) (hn : n < 9223372036854775808) : Go.bits .xor .i64 (wrap64 ((n : Int) / 2)) (wrap64 (-(wrap64 (Go.bits .and .u64 (n : Int) 1)))) = zag n := by
 rw [and_u64_one n hn, wrap_id (n := (n : Int) / 2) (by omega) (by omega), wrap_id (n := ((n % 2 : Nat) : Int)) (by omega) (by omega), wrap_id (n := -((n % 2 : Nat) : Int)) (by omega) (by omega)]
 rw [show (n : Int) / 2 = ((n / 2 : Nat) : Int) from by omega]
 unfold zag
 by_cases h : n % 2 = 1
 ·rw [if_pos h, h, show (-((1 : Nat) : Int)) = -1 from rfl, xor_all _ (by omega)]
  omega
 ·rw [if_neg h, show n % 2 = 0 from by omega, show (-((0 : Nat) : Int)) = ((0 : Nat) : Int) from rfl, xor_i64_nat _ _ (by omega) (by omega), Nat.xor_zero]
  omega
theorem rdn_lt (s : ByteArray) (p : Nat) : (rdn s p).1 < 9223372036854775808 := by
 by_cases h : (rdn s p).2.2 = 0
 ·exact (rdn_ok h).1
 ·rw [← cnt_all] at h ⊢
  rw [cnt_zero h]
  omega
end Go.Proofs.Ytelgpkbnahgdoaa.PackDec

namespace Go.Proofs.Ytelgpkbnahgdoaa.Al
open Go.RowKit Go.Proofs.Ytelgpkbnahgdoaa.Base Go.Proofs.Ytelgpkbnahgdoaa.PackMath Go.Proofs.Ytelgpkbnahgdoaa.PackDec Go.Proofs.YtelgpkbnahgdoaaW.PrintWords Go.Proofs.YtelgpkbnahgdoaaW.PrintLast Go.Proofs.YtelgpkbnahgdoaaW.PrintMore
set_option linter.unusedVariables false
set_option linter.unusedSimpArgs false
def pack_Decode.f (a0 : ByteArray) : Option (List Int × List ByteArray × Int × Int) := if a0.size ≤ 140737488355328 then some ((dec a0).1, (dec a0).2.1, ((dec a0).2.2.1 : Int), (dec a0).2.2.2) else none
def RelN (s : ByteArray) (m p : Nat) (e : Int) (xs : List Int) : Prop := p ≤ s.size ∧ (e = 0 → decN s m p xs = st2 s) ∧ (e ≠ 0 → (st2 s).2 = (p, e))
def RelT (s : ByteArray) (m p : Nat) (e : Int) (xs : List ByteArray) : Prop := p ≤ s.size ∧ (e = 0 → decT s m p xs = st4 s) ∧ (e ≠ 0 → (st4 s).2 = (p, e))
theorem relN_start (s : ByteArray) : RelN s (st1 s).1 (st1 s).2.1 (st1 s).2.2 [] := ⟨st1_le s, fun h => by unfold st2; rw [if_pos h], fun h => by unfold st2; rw [if_neg h]⟩
theorem relN_step {s : ByteArray} {m p : Nat} {xs : List Int} (h : RelN s (m + 1) p 0 xs) : RelN s m (rdn s p).2.1 (rdn s p).2.2 (xs ++ [zag (rdn s p).1]) := by
 obtain ⟨h1, h2, _⟩ := h
 have h3 := h2 rfl
 have e : decN s (m + 1) p xs = if (rdn s p).2.2 = 0 then decN s m (rdn s p).2.1 (xs ++ [zag (rdn s p).1]) else (xs, (rdn s p).2.1, (rdn s p).2.2) := rfl
 rw [e] at h3
 exact ⟨rdn_le h1, fun he => by rw [if_pos he] at h3; exact h3, fun he => by rw [if_neg he] at h3; rw [← h3]⟩
theorem relN_exit {s : ByteArray} {m p : Nat} {e : Int} {xs : List Int} (h : RelN s m p e xs) (hx : m = 0 ∨ e ≠ 0) : (st2 s).2 = (p, e) ∧ (e = 0 → (st2 s).1 = xs) ∧ p ≤ s.size := by
 obtain ⟨h1, h2, h3⟩ := h
 by_cases he : e = 0
 ·obtain rfl : m = 0 := by rcases hx with h | h; exact h; exact absurd he h
  have := h2 he
  simp only [decN] at this
  subst he
  rw [← this]
  exact ⟨rfl, fun _ => rfl, h1⟩
 ·exact ⟨h3 he, fun hc => absurd hc he, h1⟩
theorem relT_start (s : ByteArray) : RelT s (st3 s).1 (st3 s).2.1 (st3 s).2.2 [] := ⟨st3_le s, fun h => by unfold st4; rw [if_pos h], fun h => by unfold st4; rw [if_neg h]⟩
theorem relT_step {s : ByteArray} {m p : Nat} {xs : List ByteArray} (h : RelT s (m + 1) p 0 xs) : RelT s m (txt s p).2.1 (txt s p).2.2 (xs ++ [(txt s p).1]) := by
 obtain ⟨h1, h2, _⟩ := h
 have h3 := h2 rfl
 have e : decT s (m + 1) p xs = if (txt s p).2.2 = 0 then decT s m (txt s p).2.1 (xs ++ [(txt s p).1]) else (xs, (txt s p).2.1, (txt s p).2.2) := rfl
 rw [e] at h3
 exact ⟨txt_le h1, fun he => by rw [if_pos he] at h3; exact h3, fun he => by rw [if_neg he] at h3; rw [← h3]⟩
theorem relT_exit {s : ByteArray} {m p : Nat} {e : Int} {xs : List ByteArray} (h : RelT s m p e xs) (hx : m = 0 ∨ e ≠ 0) : (st4 s).2 = (p, e) ∧ (e = 0 → (st4 s).1 = xs) ∧ p ≤ s.size := by
 obtain ⟨h1, h2, h3⟩ := h
 by_cases he : e = 0
 ·obtain rfl : m = 0 := by rcases hx with h | h; exact h; exact absurd he h
  have := h2 he
  simp only [decT] at this
  subst he
  rw [← this]
  exact ⟨rfl, fun _ => rfl, h1⟩
 ·exact ⟨h3 he, fun hc => absurd hc he, h1⟩
theorem st3_of {s : ByteArray} {p : Nat} {e : Int} (h : (st2 s).2 = (p, e)) : cntE s p e 1024 = st3 s := by
 unfold cntE st3
 rw [h]
theorem st_back {s : ByteArray} (h : (st4 s).2.2 = 0) : (st2 s).2.2 = 0 := by
 have h3 : (st3 s).2.2 = 0 := by
  unfold st4 at h
  by_cases hc : (st3 s).2.2 = 0
  ·exact hc
  ·rw [if_neg hc] at h; exact absurd h hc
 unfold st3 at h3
 by_cases hc : (st2 s).2.2 = 0
 ·exact hc
 ·rw [if_neg hc] at h3; exact absurd h3 hc
theorem cntE_all (s : ByteArray) (p : Nat) : cntE s p 0 9223372036854775807 = rdn s p := by unfold cntE; rw [if_pos rfl, cnt_all]
set_option maxHeartbeats 8000000 in
set_option maxRecDepth 100000 in
theorem pack_Decode.core (s : ByteArray) (hs : s.size ≤ 140737488355328) (w : World) :
  Calls Try.prog 36 #[.string s] w fun e w' => ∃ v0_ v1_ : Value, e = .returned (.tuple #[.agg #[v0_, v1_], .int .i64 ((dec s).2.2.1 : Int), .int .i64 (dec s).2.2.2]) ∧ Kd.R (Kd.int .i64) 3 w' w.heap.size (fun _ => True) v0_ (dec s).1 ∧ Kd.R Kd.string 9 w' w.heap.size (fun _ => True) v1_ (dec s).2.1 ∧ Below w.heap.size w w' := by
 have hu47 := Try.underlying47
 have hc1 := fun (g : Nat) (W : World) hI hB => number_calls s 0 1024 1024 0 0 rfl rfl hs (Nat.zero_le _) g w W hI hB
 have e1 : cntE s 0 0 1024 = st1 s := rfl
 simp only [e1] at hc1
 have HC1 := Aside0.mk hc1
 clear hc1 e1
 go_enter Try.func36, Try.ntmps36
 go_wp2_with (first | ((with_reducible refine gate_dst (N := 2) rfl ?_); (try (refine gate_guard (by rfl) ?_; dsimp only)); refine box_event ?hg (N := 2) ?hd (cs := #[.slice none 0 0, .slice none 0 0]) (t := 47) ?hr ?_; (case hd => rfl); (case hg => rfl); (case hr => first | (go_simp; done) | (go_simp; rfl)); intro gp hgg gpw hbox hb; have GP := Aside0.mk (Nat.le_of_eq hgg.symm); have BP := Aside0.mk hbox; have BA := Aside0.mk hb; clear hgg hbox hb) | ((with_reducible refine gate_dst (N := 11) rfl ?_); (try (refine gate_guard (by rfl) ?_; dsimp only)); refine box_event ?hg (N := 11) ?hd (cs := #[.string s, .int .i64 0, .int .i64 0]) (t := 66) ?hr ?_; (case hd => rfl); (case hg => rfl); (case hr => first | (go_simp; done) | (go_simp; rfl)); intro gr hgg grw hbox hb; have HP0 : Aside0 (PS w grw gp gr s 0 0 [] [] (.slice none 0 0) (.slice none 0 0)) := ⟨⟨blk_below BP.out hb, GP.out, ⟨hbox, by rw [hgg]; exact BA.out.size⟩, Kd.R_nil _ _ _ _ _, Kd.R_nil _ _ _ _ _, below_step BA.out hb⟩⟩; clear hgg hbox hb) | (go_at_call 45; refine (HC1.out gr _ HP0.out.rd HP0.out.bel).mono ?_; rintro x w' ⟨rfl, hI, hB, hK⟩; have HP1 := Aside0.mk (HP0.out.keep hI hB hK); clear hI hB hK))
 have hm1 : (st1 s).1 ≤ 1024 := cnt_most
 have HR1 := Aside0.mk (relN_start s)
 generalize (st1 s).1 = m0 at hm1 HR1 ⊢
 generalize (st1 s).2.1 = p0 at HP1 HR1 ⊢
 generalize (st1 s).2.2 = e0 at HP1 HR1 ⊢
 clear HC1 HP0 BP BA
 go_loopw [6] (fun v6 wr => ∃ (m p : Nat) (e : Int) (xs : List Int) (vN : Value), v6 = .int .u64 m ∧ m + xs.length ≤ 1024 ∧ Aside0 (RelN s m p e xs) ∧ Aside0 (PS w wr gp gr s p e xs [] vN (.slice none 0 0))) (fun v6 _ => (intOf v6).toNat)
 case atStart => exact ⟨m0, p0, e0, [], _, rfl, by simpa using hm1, HR1, HP1⟩
 case round =>
  obtain ⟨m, p, e, xs, vN, rfl, hm, HR, HP⟩ := hrel
  clear hm1 HR1 HP1
  by_cases hc : 0 < m ∧ e = 0
  ·obtain ⟨h0, rfl⟩ := hc
   obtain ⟨m, rfl⟩ : ∃ k, m = k + 1 := ⟨m - 1, by omega⟩
   have hx2 := cellS66_2 HP.out.rd.1
   have c1 : decide ((0 : Int) < ((m + 1 : Nat) : Int)) = true := decide_eq_true (by omega)
   have c2 : decide (0 < m + 1) = true := decide_eq_true (by omega)
   have hcn := fun (W : World) hI hB => number_calls s p 9223372036854775807 9223372036854775807 p 0 rfl rfl hs HR.out.1 gr w W hI hB
   simp only [cntE_all] at hcn
   have HCN := Aside0.mk hcn
   clear hcn
   go_wp2_with (first | (go_at_call 45; refine (HCN.out _ HP.out.rd HP.out.bel).mono ?_; rintro x w' ⟨rfl, hI, hB, hK⟩; have HP1 := Aside0.mk (HP.out.keep hI hB hK); clear hI hB hK; have hxN : w'.cell? ⟨gp, 0, none⟩ = some vN := (blk_cell HP1.out.bp 0).trans rfl) | ((with_reducible refine gate_builtin (b := .append) (xs := #[.tmp 28, .tmp 37]) rfl ?_); at_builtin; (refine Kd.R_append (Kd.int .i64) (w0 := w) w.heap.size rfl (.tmp 28) (.tmp 37) 45 3 (.int .i64 0) 8 rfl Try.underlying45 info3 rfl (by decide) (by omega) vN xs (Go.bits .xor .i64 (wrap64 (((rdn s p).1 : Int) / 2)) (wrap64 (-(wrap64 (Go.bits .and .u64 ((rdn s p).1 : Int) 1))))) [.int .i64 (Go.bits .xor .i64 (wrap64 (((rdn s p).1 : Int) / 2)) (wrap64 (-(wrap64 (Go.bits .and .u64 ((rdn s p).1 : Int) 1)))))] (fun _ => True) (fun _ => False) rfl rfl ?aP (fun _ hk => hk.elim) (fun _ _ => trivial) HP1.out.ns HP1.out.bel HP1.out.bel.size ?aL ?_; (case aP => exact rfl); (case aL => omega); intro v1 w1 ho hb hg hat; obtain ⟨A1, k1, e1⟩ := Kd.R_slice ho; subst e1; obtain ⟨b1, hp2⟩ := HP1.out.pushN ho hb hg; have HP2 := Aside0.mk hp2; have hs0 : w1.cell? ⟨gp, 0, none⟩ = some vN := (blk_cell b1 0).trans rfl; have hf0 := blk_frozen b1 0; clear ho hb hg hat hp2 b1)))
   have hz := zag_go (rdn s p).1 (rdn_lt s p)
   have HP3 := HP2.out
   rw [hz] at HP3
   exact ⟨⟨m, (rdn s p).2.1, (rdn s p).2.2, xs ++ [zag (rdn s p).1], _, rfl, by simp; omega, ⟨relN_step HR.out⟩, ⟨by simpa using HP3⟩⟩, by simp [intOf]⟩
  ·obtain ⟨x1, x2, x3⟩ := relN_exit HR.out (by omega)
   have HX1 := Aside0.mk x1
   have HX2 := Aside0.mk x2
   have hc3 := fun (W : World) hI hB => number_calls s p 1024 1024 p e rfl rfl hs x3 gr w W hI hB
   simp only [st3_of x1] at hc3
   have HC3 := Aside0.mk hc3
   have hx2 := cellS66_2 HP.out.rd.1
   have hm3 := st3_most s
   have HM3 := Aside0.mk hm3
   have HR3 := Aside0.mk (relT_start s)
   clear x1 x2 x3 hc3 HR hm3
   by_cases h0 : 0 < m
   ·have he : (e == 0) = false := by simp; omega
    have c1 : decide ((0 : Int) < (m : Int)) = true := decide_eq_true (by omega)
    have c2 : decide (0 < m) = true := decide_eq_true (by omega)
    clear hc h0
    go_wp2_with (first | (go_at_call 45; refine (HC3.out _ HP.out.rd HP.out.bel).mono ?_; rintro x w' ⟨rfl, hI, hB, hK⟩; have HP3 := Aside0.mk (HP.out.keep hI hB hK); clear hI hB hK))
    clear hx2
    have hm3 := HM3.out
    clear HM3
    generalize hg1 : (st3 s).1 = m1 at hm3 HR3 ⊢
    generalize hg2 : (st3 s).2.1 = p1 at HP3 HR3 ⊢
    generalize hg3 : (st3 s).2.2 = e1 at HP3 HR3 ⊢
    clear hg1 hg2 hg3 HC3 HP
    obtain ⟨wo, rfl⟩ : ∃ wo : World, wo = wr := ⟨_, rfl⟩
    go_loopw [8] (fun v8 wr => ∃ (m p : Nat) (e : Int) (ts : List ByteArray) (vT : Value), v8 = .int .u64 m ∧ m + ts.length ≤ 1024 ∧ Aside0 (RelT s m p e ts) ∧ Aside0 (PS w wr gp gr s p e xs ts vN vT)) (fun v8 _ => (intOf v8).toNat)
    case atStart => exact ⟨m1, p1, e1, [], _, rfl, by simpa using hm3, HR3, HP3⟩
    case round =>
     clear hm3 HR3 HP3
     obtain ⟨m, p, e, ts, vT, rfl, hm, HR, HP⟩ := hrel
     by_cases hc : 0 < m ∧ e = 0
     ·obtain ⟨h0, rfl⟩ := hc
      obtain ⟨m, rfl⟩ : ∃ k, m = k + 1 := ⟨m - 1, by omega⟩
      have hx2 := cellS66_2 HP.out.rd.1
      have c1 : decide ((0 : Int) < ((m + 1 : Nat) : Int)) = true := decide_eq_true (by omega)
      have c2 : decide (0 < m + 1) = true := decide_eq_true (by omega)
      go_wp2_with fail
      clear hx2 c1 c2
      have hxT : wr.cell? ⟨gp, 1, none⟩ = some vT := (blk_cell HP.out.bp 1).trans rfl
      have HPd : Aside0 (PS w wr.drew gp gr s p 0 xs ts vN vT) := ⟨HP.out.drew⟩
      go_region_law (first | (go_simp; go_at_call 46; refine (text_calls s p p rfl hs HR.out.1 gr w _ HPd.out.rd HPd.out.bel).mono ?_; rintro x w' ⟨rfl, hI, hB, hK⟩; have HP1 := Aside0.mk (HPd.out.keep hI hB hK); have hxT1 : w'.cell? ⟨gp, 1, none⟩ = some vT := (blk_cell HP1.out.bp 1).trans rfl; have hxT2 : ∀ o : Obj, (w'.alloc o).cell? ⟨gp, 1, none⟩ = some vT := fun o => (blk_cell (HP1.out.alloc o).bp 1).trans rfl; clear hI hB hK) | (refine Kd.R_append_step Kd.string (w0 := w) w.heap.size (by rfl) (.tmp 54) (.tmp 57) 22 9 (.string ⟨#[]⟩) 16 (by rfl) Try.underlying22 info9 rfl (by decide) (by omega) vT ts ((txt s p).1) [.string (txt s p).1] (fun _ => True) (fun _ => False) (by rfl) (by rfl) rfl (fun _ hk => hk.elim) (fun _ _ => trivial) HP1.out.ts HP1.out.bel HP1.out.bel.size (by omega) ?_; intro v1 w1 ho hb hg hat; obtain ⟨A1, k1, e1⟩ := Kd.R_slice ho; subst e1; obtain ⟨b1, hp2⟩ := HP1.out.pushT ho hb hg; have HP2 := Aside0.mk hp2; have hs0 : w1.cell? ⟨gp, 1, none⟩ = some vT := (blk_cell b1 1).trans rfl; have hf0 := blk_frozen b1 1; clear ho hb hg hat hp2 b1))
      all_goals (go_wp2_with fail; (have HP3 := HP2.out; exact ⟨⟨m, (txt s p).2.1, (txt s p).2.2, ts ++ [(txt s p).1], _, rfl, by simp; omega, ⟨relT_step HR.out⟩, ⟨by simpa using HP3⟩⟩, by simp [intOf]⟩))
     ·obtain ⟨y1, y2, y3⟩ := relT_exit HR.out (by omega)
      have hx2 := cellS66_2 HP.out.rd.1
      have hx1 := cellS66_1 HP.out.rd.1
      have hne : gp ≠ gr := HP.out.ne
      have hne2 : gr ≠ gp := Ne.symm hne
      obtain ⟨AN, kN, eN⟩ := Kd.R_slice HP.out.ns
      obtain ⟨AT, kT, eT⟩ := Kd.R_slice HP.out.ts
      subst eN eT
      have hp0 : wr.cell? ⟨gp, 0, none⟩ = some (.slice AN xs.length kN) := (blk_cell HP.out.bp 0).trans rfl
      have hp1 : wr.cell? ⟨gp, 1, none⟩ = some (.slice AT ts.length kT) := (blk_cell HP.out.bp 1).trans rfl
      have hf0 := blk_frozen HP.out.bp 0
      have hf1 := blk_frozen HP.out.bp 1
      by_cases he : e = 0
      ·subst he
       obtain rfl : m = 0 := by omega
       by_cases hl : p < s.size
       ·have hd : dec s = ([], [], p, 3) := by rw [dec_st, y1]; simp [hl]
        have HD := Aside0.mk hd
        have c3 : decide ((p : Int) < (s.size : Int)) = true := decide_eq_true (by omega)
        have c4 : decide (p < s.size) = true := decide_eq_true hl
        clear hd hc y1 y2 y3 hp0 hp1 hf0 hf1
        go_wp2_with (go_at_call 47; refine (pack_reader_fail.calls gr s p 0 p 3 _ _ _ _ w _ HP.out.rd HP.out.bel rfl).mono ?_; rintro x w' ⟨rfl, hI, hB, hK⟩; have HQ := Aside0.mk (HP.out.keep (p' := p) (e' := 3) hI hB hK); have hx2 := cellS66_2 HQ.out.rd.1; have hx1 := cellS66_1 HQ.out.rd.1; clear hI hB hK)
        have hp0 : w'.cell? ⟨gp, 0, none⟩ = some (.slice AN xs.length kN) := (blk_cell HQ.out.bp 0).trans rfl
        have hp1 : w'.cell? ⟨gp, 1, none⟩ = some (.slice AT ts.length kT) := (blk_cell HQ.out.bp 1).trans rfl
        have hf0 := blk_frozen HQ.out.bp 0
        have hf1 := blk_frozen HQ.out.bp 1
        go_region_held3 (fun W => W.cell? ⟨gr, 1, none⟩ = some (.int .i64 p) ∧ W.cell? ⟨gr, 2, none⟩ = some (.int .i64 3)) (go_keep) (fail)
        go_wp2
        have bk := blk_drew (blk_set (blk_set HQ.out.bp 0 (.slice none 0 0)) 1 (.slice none 0 0))
        refine bodyPost_ret (results_ctt rfl _ _ gp 47 #[.slice none 0 0, .slice none 0 0] (0, 0) _ rfl (by simpa using bk) Try.underlying47 rfl (by kernel_rfl)) rfl ?_
        rw [HD.out]
        exact ⟨_, _, rfl, Kd.R_nil _ _ _ _ _, Kd.R_nil _ _ _ _ _, below_drew (below_set (below_set HQ.out.bel HQ.out.gep) HQ.out.gep)⟩
       ·have hd : dec s = (xs, ts, 0, 0) := by
         rw [dec_st, y1]
         simp only [if_true]
         rw [if_neg hl, y2 rfl, HX2.out (by have := st_back (s := s) (by rw [y1]); rw [HX1.out] at this; exact this)]
        have HD := Aside0.mk hd
        have c3 : decide ((p : Int) < (s.size : Int)) = false := decide_eq_false (by omega)
        have c4 : decide (p < s.size) = false := decide_eq_false hl
        clear hd hc y1 y2 y3 hl
        go_wp2
        have bk := blk_set (blk_set HP.out.bp 0 (.slice AN xs.length kN)) 1 (.slice AT ts.length kT)
        refine bodyPost_ret (results_ctt rfl _ _ gp 47 #[.slice AN xs.length kN, .slice AT ts.length kT] (0, 0) _ rfl (by simpa using bk) Try.underlying47 rfl (by kernel_rfl)) rfl ?_
        rw [HD.out]
        exact ⟨_, _, rfl, Kd.R_set (Kd.R_set HP.out.ns HP.out.bp (by decide) 0 _) (blk_set HP.out.bp 0 _) (by decide) 1 _, Kd.R_set (Kd.R_set HP.out.ts HP.out.bp (by decide) 0 _) (blk_set HP.out.bp 0 _) (by decide) 1 _, below_set (below_set HP.out.bel HP.out.gep) HP.out.gep⟩
      ·have hd : dec s = ([], [], p, e) := by rw [dec_st, y1]; simp [he]
       have HD := Aside0.mk hd
       have he1 : (e == 0) = false := by simpa using he
       have he2 : (e != 0) = true := by simpa using he
       clear hd y1 y2 y3
       by_cases h0 : 0 < m
       all_goals
        first
        |have c1 : decide ((0 : Int) < (m : Int)) = true := decide_eq_true (by omega)
         have c2 : decide (0 < m) = true := decide_eq_true h0
        |obtain rfl : m = 0 := by omega
        clear hc h0 he
        go_wp2
        go_region_held3 (fun W => W.cell? ⟨gr, 1, none⟩ = some (.int .i64 p) ∧ W.cell? ⟨gr, 2, none⟩ = some (.int .i64 e)) (go_keep) (fail)
        go_wp2
        have bk := blk_drew (blk_set (blk_set HP.out.bp 0 (.slice none 0 0)) 1 (.slice none 0 0))
        refine bodyPost_ret (results_ctt rfl _ _ gp 47 #[.slice none 0 0, .slice none 0 0] (0, 0) _ rfl (by simpa using bk) Try.underlying47 rfl (by kernel_rfl)) rfl ?_
        rw [HD.out]
        exact ⟨_, _, rfl, Kd.R_nil _ _ _ _ _, Kd.R_nil _ _ _ _ _, below_drew (below_set (below_set HP.out.bel HP.out.gep) HP.out.gep)⟩
   ·obtain rfl : m = 0 := by omega
    clear hc h0
    go_wp2_with (first | (go_at_call 45; refine (HC3.out _ HP.out.rd HP.out.bel).mono ?_; rintro x w' ⟨rfl, hI, hB, hK⟩; have HP3 := Aside0.mk (HP.out.keep hI hB hK); clear hI hB hK))
    clear hx2
    have hm3 := HM3.out
    clear HM3
    generalize hg1 : (st3 s).1 = m1 at hm3 HR3 ⊢
    generalize hg2 : (st3 s).2.1 = p1 at HP3 HR3 ⊢
    generalize hg3 : (st3 s).2.2 = e1 at HP3 HR3 ⊢
    clear hg1 hg2 hg3 HC3 HP
    obtain ⟨wo, rfl⟩ : ∃ wo : World, wo = wr := ⟨_, rfl⟩
    go_loopw [8] (fun v8 wr => ∃ (m p : Nat) (e : Int) (ts : List ByteArray) (vT : Value), v8 = .int .u64 m ∧ m + ts.length ≤ 1024 ∧ Aside0 (RelT s m p e ts) ∧ Aside0 (PS w wr gp gr s p e xs ts vN vT)) (fun v8 _ => (intOf v8).toNat)
    case atStart => exact ⟨m1, p1, e1, [], _, rfl, by simpa using hm3, HR3, HP3⟩
    case round =>
     clear hm3 HR3 HP3
     obtain ⟨m, p, e, ts, vT, rfl, hm, HR, HP⟩ := hrel
     by_cases hc : 0 < m ∧ e = 0
     ·obtain ⟨h0, rfl⟩ := hc
      obtain ⟨m, rfl⟩ : ∃ k, m = k + 1 := ⟨m - 1, by omega⟩
      have hx2 := cellS66_2 HP.out.rd.1
      have c1 : decide ((0 : Int) < ((m + 1 : Nat) : Int)) = true := decide_eq_true (by omega)
      have c2 : decide (0 < m + 1) = true := decide_eq_true (by omega)
      go_wp2_with fail
      clear hx2 c1 c2
      have hxT : wr.cell? ⟨gp, 1, none⟩ = some vT := (blk_cell HP.out.bp 1).trans rfl
      have HPd : Aside0 (PS w wr.drew gp gr s p 0 xs ts vN vT) := ⟨HP.out.drew⟩
      go_region_law (first | (go_simp; go_at_call 46; refine (text_calls s p p rfl hs HR.out.1 gr w _ HPd.out.rd HPd.out.bel).mono ?_; rintro x w' ⟨rfl, hI, hB, hK⟩; have HP1 := Aside0.mk (HPd.out.keep hI hB hK); have hxT1 : w'.cell? ⟨gp, 1, none⟩ = some vT := (blk_cell HP1.out.bp 1).trans rfl; have hxT2 : ∀ o : Obj, (w'.alloc o).cell? ⟨gp, 1, none⟩ = some vT := fun o => (blk_cell (HP1.out.alloc o).bp 1).trans rfl; clear hI hB hK) | (refine Kd.R_append_step Kd.string (w0 := w) w.heap.size (by rfl) (.tmp 54) (.tmp 57) 22 9 (.string ⟨#[]⟩) 16 (by rfl) Try.underlying22 info9 rfl (by decide) (by omega) vT ts ((txt s p).1) [.string (txt s p).1] (fun _ => True) (fun _ => False) (by rfl) (by rfl) rfl (fun _ hk => hk.elim) (fun _ _ => trivial) HP1.out.ts HP1.out.bel HP1.out.bel.size (by omega) ?_; intro v1 w1 ho hb hg hat; obtain ⟨A1, k1, e1⟩ := Kd.R_slice ho; subst e1; obtain ⟨b1, hp2⟩ := HP1.out.pushT ho hb hg; have HP2 := Aside0.mk hp2; have hs0 : w1.cell? ⟨gp, 1, none⟩ = some vT := (blk_cell b1 1).trans rfl; have hf0 := blk_frozen b1 1; clear ho hb hg hat hp2 b1))
      all_goals (go_wp2_with fail; (have HP3 := HP2.out; exact ⟨⟨m, (txt s p).2.1, (txt s p).2.2, ts ++ [(txt s p).1], _, rfl, by simp; omega, ⟨relT_step HR.out⟩, ⟨by simpa using HP3⟩⟩, by simp [intOf]⟩))
     ·obtain ⟨y1, y2, y3⟩ := relT_exit HR.out (by omega)
      have hx2 := cellS66_2 HP.out.rd.1
      have hx1 := cellS66_1 HP.out.rd.1
      have hne : gp ≠ gr := HP.out.ne
      have hne2 : gr ≠ gp := Ne.symm hne
      obtain ⟨AN, kN, eN⟩ := Kd.R_slice HP.out.ns
      obtain ⟨AT, kT, eT⟩ := Kd.R_slice HP.out.ts
      subst eN eT
      have hp0 : wr.cell? ⟨gp, 0, none⟩ = some (.slice AN xs.length kN) := (blk_cell HP.out.bp 0).trans rfl
      have hp1 : wr.cell? ⟨gp, 1, none⟩ = some (.slice AT ts.length kT) := (blk_cell HP.out.bp 1).trans rfl
      have hf0 := blk_frozen HP.out.bp 0
      have hf1 := blk_frozen HP.out.bp 1
      by_cases he : e = 0
      ·subst he
       obtain rfl : m = 0 := by omega
       by_cases hl : p < s.size
       ·have hd : dec s = ([], [], p, 3) := by rw [dec_st, y1]; simp [hl]
        have HD := Aside0.mk hd
        have c3 : decide ((p : Int) < (s.size : Int)) = true := decide_eq_true (by omega)
        have c4 : decide (p < s.size) = true := decide_eq_true hl
        clear hd hc y1 y2 y3 hp0 hp1 hf0 hf1
        go_wp2_with (go_at_call 47; refine (pack_reader_fail.calls gr s p 0 p 3 _ _ _ _ w _ HP.out.rd HP.out.bel rfl).mono ?_; rintro x w' ⟨rfl, hI, hB, hK⟩; have HQ := Aside0.mk (HP.out.keep (p' := p) (e' := 3) hI hB hK); have hx2 := cellS66_2 HQ.out.rd.1; have hx1 := cellS66_1 HQ.out.rd.1; clear hI hB hK)
        have hp0 : w'.cell? ⟨gp, 0, none⟩ = some (.slice AN xs.length kN) := (blk_cell HQ.out.bp 0).trans rfl
        have hp1 : w'.cell? ⟨gp, 1, none⟩ = some (.slice AT ts.length kT) := (blk_cell HQ.out.bp 1).trans rfl
        have hf0 := blk_frozen HQ.out.bp 0
        have hf1 := blk_frozen HQ.out.bp 1
        go_region_held3 (fun W => W.cell? ⟨gr, 1, none⟩ = some (.int .i64 p) ∧ W.cell? ⟨gr, 2, none⟩ = some (.int .i64 3)) (go_keep) (fail)
        go_wp2
        have bk := blk_drew (blk_set (blk_set HQ.out.bp 0 (.slice none 0 0)) 1 (.slice none 0 0))
        refine bodyPost_ret (results_ctt rfl _ _ gp 47 #[.slice none 0 0, .slice none 0 0] (0, 0) _ rfl (by simpa using bk) Try.underlying47 rfl (by kernel_rfl)) rfl ?_
        rw [HD.out]
        exact ⟨_, _, rfl, Kd.R_nil _ _ _ _ _, Kd.R_nil _ _ _ _ _, below_drew (below_set (below_set HQ.out.bel HQ.out.gep) HQ.out.gep)⟩
       ·have hd : dec s = (xs, ts, 0, 0) := by
         rw [dec_st, y1]
         simp only [if_true]
         rw [if_neg hl, y2 rfl, HX2.out (by have := st_back (s := s) (by rw [y1]); rw [HX1.out] at this; exact this)]
        have HD := Aside0.mk hd
        have c3 : decide ((p : Int) < (s.size : Int)) = false := decide_eq_false (by omega)
        have c4 : decide (p < s.size) = false := decide_eq_false hl
        clear hd hc y1 y2 y3 hl
        go_wp2
        have bk := blk_set (blk_set HP.out.bp 0 (.slice AN xs.length kN)) 1 (.slice AT ts.length kT)
        refine bodyPost_ret (results_ctt rfl _ _ gp 47 #[.slice AN xs.length kN, .slice AT ts.length kT] (0, 0) _ rfl (by simpa using bk) Try.underlying47 rfl (by kernel_rfl)) rfl ?_
        rw [HD.out]
        exact ⟨_, _, rfl, Kd.R_set (Kd.R_set HP.out.ns HP.out.bp (by decide) 0 _) (blk_set HP.out.bp 0 _) (by decide) 1 _, Kd.R_set (Kd.R_set HP.out.ts HP.out.bp (by decide) 0 _) (blk_set HP.out.bp 0 _) (by decide) 1 _, below_set (below_set HP.out.bel HP.out.gep) HP.out.gep⟩
      ·have hd : dec s = ([], [], p, e) := by rw [dec_st, y1]; simp [he]
       have HD := Aside0.mk hd
       have he1 : (e == 0) = false := by simpa using he
       have he2 : (e != 0) = true := by simpa using he
       clear hd y1 y2 y3
       by_cases h0 : 0 < m
       all_goals
        first
        |have c1 : decide ((0 : Int) < (m : Int)) = true := decide_eq_true (by omega)
         have c2 : decide (0 < m) = true := decide_eq_true h0
        |obtain rfl : m = 0 := by omega
        clear hc h0 he
        go_wp2
        go_region_held3 (fun W => W.cell? ⟨gr, 1, none⟩ = some (.int .i64 p) ∧ W.cell? ⟨gr, 2, none⟩ = some (.int .i64 e)) (go_keep) (fail)
        go_wp2
        have bk := blk_drew (blk_set (blk_set HP.out.bp 0 (.slice none 0 0)) 1 (.slice none 0 0))
        refine bodyPost_ret (results_ctt rfl _ _ gp 47 #[.slice none 0 0, .slice none 0 0] (0, 0) _ rfl (by simpa using bk) Try.underlying47 rfl (by kernel_rfl)) rfl ?_
        rw [HD.out]
        exact ⟨_, _, rfl, Kd.R_nil _ _ _ _ _, Kd.R_nil _ _ _ _ _, below_drew (below_set (below_set HP.out.bel HP.out.gep) HP.out.gep)⟩
theorem pack_Decode.calls (a0 : ByteArray) (r1 : List Int) (r2 : List ByteArray) (r3 : Int) (r4 : Int) (w : World) (h : pack_Decode.f a0 = some (r1, r2, r3, r4)) :
  Calls Try.prog 36 #[.string a0] w fun e w' => ∃ v0_ v1_ : Value, e = .returned (.tuple #[.agg #[v0_, v1_], .int .i64 r3, .int .i64 r4]) ∧ Kd.R (Kd.int .i64) 3 w' w.heap.size (fun _ => True) v0_ r1 ∧ Kd.R Kd.string 9 w' w.heap.size (fun _ => True) v1_ r2 ∧ Below w.heap.size w w' := by
 unfold pack_Decode.f at h
 split at h
 case isFalse => cases h
 rename_i hs
 simp only [Option.some.injEq, Prod.mk.injEq] at h
 obtain ⟨rfl, rfl, rfl, rfl⟩ := h
 exact pack_Decode.core a0 hs w
end Go.Proofs.Ytelgpkbnahgdoaa.Al

namespace Go.Proofs.Ytelgpkbnahgdoaa.DecLen
open Go.RowKit Go.Proofs.Ytelgpkbnahgdoaa.Base Go.Proofs.Ytelgpkbnahgdoaa.PackMath Go.Proofs.Ytelgpkbnahgdoaa.PackDec Go.Proofs.YtelgpkbnahgdoaaW.PrintWords
set_option linter.unusedVariables false
set_option linter.unusedSimpArgs false
theorem dec_len (s : ByteArray) : (dec s).1.length ≤ 1024 ∧ (dec s).2.1.length ≤ 1024 := by
 by_cases h : (dec s).2.2.2 = 0
 ·obtain ⟨ns, ts, h1, h2, _⟩ := enc_dec h
  rw [h1]
  exact ⟨(chk_ok h2).1, (chk_ok h2).2.1⟩
 ·obtain ⟨h1, h2⟩ := dec_no h
  rw [h1, h2]
  simp
end Go.Proofs.Ytelgpkbnahgdoaa.DecLen

namespace Go.Proofs.Ytelgpkbnahgdoaa.Al
open Go.RowKit Go.Proofs.YtelgpkbnahgdoaaW.PrintWords Go.Proofs.YtelgpkbnahgdoaaW.PrintLast Go.Proofs.YtelgpkbnahgdoaaW.PrintMore
set_option linter.unusedVariables false
set_option linter.unusedSimpArgs false
def slices_CloneT.f (l0 : List ByteArray) : Option (List ByteArray) := if l0.length < 8796093022208 then some l0 else none
set_option maxHeartbeats 8000000 in
set_option maxRecDepth 100000 in
theorem slices_CloneT.calls (A0 : Option Addr) (c0 : Nat) (l0 : List ByteArray) (r : List ByteArray) (w : World) (hr0 : Kd.C Kd.string w A0 l0.length l0) (hc0 : l0.length ≤ c0) (h : slices_CloneT.f l0 = some r) :
  Calls Try.prog 37 #[.slice A0 l0.length c0] w fun e w' => ∃ v0_ : Value, e = .returned (v0_) ∧ Kd.R Kd.string 9 w' w.heap.size (fun _ => True) v0_ r ∧ Below w.heap.size w w' := by
 unfold slices_CloneT.f at h
 split at h
 case isFalse => cases h
 rename_i hlim
 obtain rfl := Option.some.inj h
 clear h
 have HR0 := Aside0.mk hr0
 have HC0 := Aside0.mk hc0
 have HL := Aside0.mk hlim
 have HB := Aside0.mk (Below.refl w.heap.size w)
 rcases A0 with _ | a
 ·have hl : l0 = [] := by
   cases l0 with
   |nil => rfl
   |cons x l => obtain ⟨ad, e, _⟩ := hr0.2.2 (by simp); cases e
  subst hl
  clear hr0 hc0 hlim
  have hnil := fun (W : World) => Lib.run_eql_slice_nil W 22 9 (none : Option Addr) 0 c0 0 0 Try.underlying22
  go_enter Try.func37, Try.ntmps37
  go_wp2
  go_ret
  exact ⟨_, rfl, Kd.R_nil _ _ _ _ _, by repeat (first | (with_reducible first | exact HB.out | apply below_alloc | apply pw_below_drewN | apply below_drew1) | exact HB.out)⟩
 ·have hnil := fun (W : World) => Lib.run_eql_slice_nil W 22 9 (some a) l0.length c0 0 0 Try.underlying22
  clear hr0 hc0 hlim
  go_enter Try.func37, Try.ntmps37
  go_wp2_with (first | ((with_reducible refine gate_dst (N := 5) rfl ?_); refine Kd.R_lit Kd.string _ 9 ?hg (N := 5) ?hd (xs := ([] : List ByteArray)) (inner := []) (ok := fun _ => True) (okp := fun _ => True) ?hr ?hp (fun _ hk => hk) trivial (Below.refl _ _) (Nat.le_refl _) (by simp) ?_; (case hd => rfl); (case hg => rfl); (case hr => first | (go_simp; done) | (go_simp; rfl)); (case hp => exact (Reps.none _ _)); intro v130 w6 ho7 hb hg_ hnew_; clear hg_ hnew_; have n0_ := Aside0.mk (Kd.R_lower ho7 (below_size (by repeat (first | (with_reducible first | exact HB.out | apply below_alloc | apply pw_below_drewN | apply below_drew1) | exact HB.out)))); have n1_ := Aside0.mk (below_step (by repeat (first | (with_reducible first | exact HB.out | apply below_alloc | apply pw_below_drewN | apply below_drew1) | exact HB.out)) hb); clear HB; have HO131 := n0_; have HB := n1_; clear n0_ n1_; clear hb ho7) | ((with_reducible refine gate_builtin (b := .append) (xs := #[.tmp 5, .tmp 6]) rfl ?_); at_builtin; refine Kd.R_append_rows Kd.string (w0 := w) w.heap.size rfl (.tmp 5) (.tmp 6) 22 9 (.string ⟨#[]⟩) 16 rfl Try.underlying22 info9 rfl (by decide) (by omega) v130 [] l0 _ _ _ (fun _ => True) (fun _ => False) rfl rfl ?aO ?aR (fun _ _ h => h) (fun _ h => h.elim) ?aF ?aB ?aS ?aL ?_; (case aR => repeat (first | exact (Kd.C_below HR0.out HB.out) | (with_reducible refine Kd.C_alloc ?_ _) | (with_reducible refine Kd.C_drewN ?_ _) | (with_reducible refine Kd.C_drew ?_))); (case aB => exact (by repeat (first | (with_reducible first | exact HB.out | apply below_alloc | apply pw_below_drewN | apply below_drew1) | exact HB.out))); (case aF => exact (fun _ _ => trivial)); (case aO => exact (by (with_reducible repeat (first | apply Kd.R_alloc | apply Kd.R_drewN | apply Kd.R_drew)); exact HO131.out)); (case aS => exact (below_size (by repeat (first | (with_reducible first | exact HB.out | apply below_alloc | apply pw_below_drewN | apply below_drew1) | exact HB.out)))); (case aL => have := HL.out; simp only [List.length_nil]; omega); intro v133 w8 ho hb hg hat; rw [List.nil_append] at ho; have n0_ := Aside0.mk (hb); have n1_ := Aside0.mk (ho); clear HB; clear HO131; have HB := n0_; have HO134 := n1_; clear n0_ n1_; clear ho hb hg hat))
  go_ret
  exact ⟨_, rfl, by (with_reducible repeat (first | apply Kd.R_alloc | apply Kd.R_drewN | apply Kd.R_drew)); exact HO134.out, by repeat (first | (with_reducible first | exact HB.out | apply below_alloc | apply pw_below_drewN | apply below_drew1) | exact HB.out)⟩
end Go.Proofs.Ytelgpkbnahgdoaa.Al

namespace Go.Proofs.Ytelgpkbnahgdoaa.Al
open Go.RowKit
theorem less_total : ∀ a b : List UInt8, (Op.bytesLess a b || a == b) = !Op.bytesLess b a
 |[], [] => rfl
 |[], _ :: _ => rfl
 |_ :: _, [] => rfl
 |a :: x, b :: y => by
  have ih := less_total x y
  show ((decide (a < b) || (a == b && Op.bytesLess x y)) || (a :: x == b :: y)) = !(decide (b < a) || (b == a && Op.bytesLess y x))
  by_cases hab : a = b
  ·subst hab
   have h1 : decide (a < a) = false := decide_eq_false (UInt8.lt_irrefl a)
   simp only [h1, Bool.false_or, beq_self_eq_true, Bool.true_and, List.cons_beq_cons]
   exact ih
  ·have h2 : (a == b) = false := by simpa using hab
   have h3 : (b == a) = false := by simpa using fun h => hab h.symm
   simp only [h2, h3, Bool.false_and, Bool.or_false, List.cons_beq_cons]
   by_cases hlt : a < b
   ·have : ¬ b < a := fun h => by have h1 := UInt8.lt_iff_toNat_lt.1 hlt; have h2 := UInt8.lt_iff_toNat_lt.1 h; omega
    simp [hlt, this]
   ·have : b < a := by
     apply UInt8.lt_iff_toNat_lt.2
     have h1 : ¬ a.toNat < b.toNat := fun h => hlt (UInt8.lt_iff_toNat_lt.2 h)
     have h2 : a.toNat ≠ b.toNat := fun h => hab (UInt8.toNat_inj.1 h)
     omega
    simp [hlt, this]
theorem leq_not (t : TypeId) (a b : ByteArray) : binOp .leq t (.string a) (.string b) = pure (.bool (!Op.bytesLess b.toList a.toList)) := by
 have e : binOp .leq t (.string a) (.string b) = pure (.bool (Op.bytesLess a.toList b.toList || a.toList == b.toList)) := by simp [binOp, Op.stringOp]
 rw [e, less_total]
end Go.Proofs.Ytelgpkbnahgdoaa.Al

namespace Go.Proofs.Ytelgpkbnahgdoaa.Al
open Go.RowKit Go.Proofs.YtelgpkbnahgdoaaW.PrintWords Go.Proofs.YtelgpkbnahgdoaaW.PrintLast Go.Proofs.YtelgpkbnahgdoaaW.PrintMore
attribute [local go_sem] max2_int min2_int max_two min_two max_three min_three max_four min_four   -- for this text's walks alone
set_option linter.unusedVariables false
set_option linter.unusedSimpArgs false
def letter_Key.f (a0 : ByteArray) : Option (Bool) := if a0.toList = ([] : List UInt8) then (some false) else (some (decide ((a0.size : Int) ≤ 32)))
set_option maxHeartbeats 8000000 in
set_option maxRecDepth 100000 in
theorem letter_Key.calls (a0 : ByteArray) (r : Bool) (w : World) (h : letter_Key.f a0 = some r) :
  Calls Try.prog 18 #[.string a0] w fun e w' => e = .returned (.bool r) ∧ Drawn0 w w' := by
 have H : (if a0.toList = ([] : List UInt8) then (some false) else (some (decide ((a0.size : Int) ≤ 32)))) = some r := h
 clear h
 by_cases c2 : a0.toList = ([] : List UInt8)
 ·rw [if_pos c2] at H
  have c2b0 : (a0.toList == ([] : List UInt8)) = true := beq_iff_eq.mpr c2
  have c2b1 : (a0.toList != ([] : List UInt8)) = false := bne_eq_false_iff_eq.mpr c2
  clear c2
  obtain rfl := Option.some.inj H
  go_enter Try.func18, Try.ntmps18
  go_wp2
  go_ret
  exact ⟨by first | rfl | (simp; done) | (simp [*]; done) | (simp [bne_nil_]; done), by repeat (first | exact Drawn0.refl _ | apply Drawn0.step)⟩
 ·rw [if_neg c2] at H
  have c2b0 : (a0.toList == ([] : List UInt8)) = false := beq_eq_false_iff_ne.mpr c2
  have c2b1 : (a0.toList != ([] : List UInt8)) = true := bne_iff_ne.mpr c2
  obtain rfl := Option.some.inj H
  go_enter Try.func18, Try.ntmps18
  go_wp2
  go_ret
  exact ⟨by first | rfl | (simp; done) | (simp [*]; done) | (simp [bne_nil_]; done), by repeat (first | exact Drawn0.refl _ | apply Drawn0.step)⟩
end Go.Proofs.Ytelgpkbnahgdoaa.Al

namespace Go.Proofs.Ytelgpkbnahgdoaa.Al
open Go.RowKit Go.Proofs.YtelgpkbnahgdoaaW.PrintWords Go.Proofs.YtelgpkbnahgdoaaW.PrintLast Go.Proofs.YtelgpkbnahgdoaaW.PrintMore
attribute [local go_sem] max2_int min2_int max_two min_two max_three min_three max_four min_four   -- for this text's walks alone
set_option linter.unusedVariables false
set_option linter.unusedSimpArgs false
attribute [local go_sem] leq_not
def letter_Rising.l0 : Nat → List ByteArray → List ByteArray → Int → Int → Option (Bool)
 |0, _, _, _, _ => none
 |k + 1, x0, x5, x6, x7 => if x7 < x6 then (if 0 ≤ x7 then (if x7 < (x5.length : Int) then ((letter_Key.f (rdOf ByteArray.empty x5 x7)).bind fun t116 => (if t116 = true then (if x7 > 0 then (if 0 ≤ (wrap64 (x7 - 1)) then (if (wrap64 (x7 - 1)) < (x0.length : Int) then (if ((Op.bytesLess ((rdOf ByteArray.empty x0 (wrap64 (x7 - 1))).toList) ((rdOf ByteArray.empty x5 x7).toList)) = true) then (letter_Rising.l0 k x0 x5 x6 (wrap64 (x7 + 1))) else (some false)) else (none)) else (none)) else (letter_Rising.l0 k x0 x5 x6 (wrap64 (x7 + 1)))) else (some false))) else (none)) else (none)) else (some true)
def letter_Rising.f (k : Nat) (l0 : List ByteArray) : Option (Bool) := letter_Rising.l0 k l0 l0 (l0.length : Int) 0
theorem letter_Rising.mono_l : ∀ k, (∀ y0 y1 y2 y3, LeO (letter_Rising.l0 k y0 y1 y2 y3) (letter_Rising.l0 (k + 1) y0 y1 y2 y3))
 |0 => fun _ _ _ _ r h => by simp [letter_Rising.l0] at h
 |k + 1 => by
  have ih0 := letter_Rising.mono_l k
  ·intro y0 y1 y2 y3
   unfold letter_Rising.l0
   repeat' first
   |(with_reducible exact ih0 _ _ _ _)
   |(with_reducible exact LeO.refl _)
   |(with_reducible exact LeO.none _)
   |(with_reducible refine LeO.ite ?_ ?_)
   |(with_reducible refine LeO.bind ?_ (fun _ => ?_))
   |exact ih0 _ _ _ _
   |exact LeO.none _
   |refine LeO.ite ?_ ?_
   |refine LeO.bind ?_ (fun _ => ?_)
theorem letter_Rising.mono : ∀ a0 k, LeO (letter_Rising.f k a0) (letter_Rising.f (k + 1) a0) := by
 intro a0 k
 have ih0 := letter_Rising.mono_l k
 unfold letter_Rising.f
 repeat' first
   |(with_reducible exact ih0 _ _ _ _)
   |(with_reducible exact LeO.refl _)
   |(with_reducible exact LeO.none _)
   |(with_reducible refine LeO.ite ?_ ?_)
   |(with_reducible refine LeO.bind ?_ (fun _ => ?_))
   |exact ih0 _ _ _ _
   |exact LeO.none _
   |refine LeO.ite ?_ ?_
   |refine LeO.bind ?_ (fun _ => ?_)
set_option maxHeartbeats 8000000 in
set_option maxRecDepth 100000 in
theorem letter_Rising.calls (k : Nat) (A0 : Option Addr) (c0 : Nat) (l0 : List ByteArray) (r : Bool) (w : World) (hr0 : Kd.C Kd.string w A0 l0.length l0) (hc0 : l0.length ≤ c0) (h : letter_Rising.f k l0 = some r) :
  Calls Try.prog 20 #[.slice A0 l0.length c0] w fun e w' => e = .returned (.bool r) ∧ Drawn0 w w' := by
 have HR0 := Aside0.mk hr0
 have HC0 := Aside0.mk hc0
 clear hr0 hc0
 have H : (letter_Rising.l0 k l0 l0 (l0.length : Int) 0) = some r := h
 clear h
 have H' := Aside0.mk H
 clear H
 go_enter Try.func20, Try.ntmps20
 go_wp2
 go_loopg [7] k (fun kq v7 w' => ∃ (x7_1 : Int), v7 = .int .i64 x7_1 ∧ Aside0 (letter_Rising.l0 kq l0 l0 (l0.length : Int) x7_1 = some r) ∧ Aside0 (kq ≤ k) ∧ Drawn0 w w')
 case atStart => exact ⟨(0), (by first | rfl | (simp; done) | (simp [*]; done) | (simp [bne_nil_]; done)), H', ⟨Nat.le_refl _⟩, by repeat (first | exact Drawn0.refl _ | apply Drawn0.step)⟩
 case round =>
  clear H'
  obtain ⟨x7_1, rfl, HA, HK1, ⟨m1, rfl⟩⟩ := hrel
  cases gk with
  |zero => exact absurd HA.out (by simp [letter_Rising.l0])
  |succ k1 =>
   have H := HA.out
   clear HA
   simp only [letter_Rising.l0] at H
   by_cases c2 : x7_1 < (l0.length : Int)
   ·rw [if_pos c2] at H
    have c2b0 : decide (x7_1 < (l0.length : Int)) = true := decide_eq_true c2
    clear c2
    by_cases c3 : 0 ≤ x7_1
    ·rw [if_pos c3] at H
     have c3b0 : decide (0 ≤ x7_1) = true := decide_eq_true c3
     clear c3
     by_cases c4 : x7_1 < (l0.length : Int)
     ·rw [if_pos c4] at H
      have c4b0 : decide (x7_1 < (l0.length : Int)) = true := decide_eq_true c4
      clear c4
      replace H := Option.bind_eq_some_iff.mp H
      obtain ⟨t116, A50, H⟩ := H
      replace H : (if t116 = true then (if x7_1 > 0 then (if 0 ≤ (wrap64 (x7_1 - 1)) then (if (wrap64 (x7_1 - 1)) < (l0.length : Int) then (if ((Op.bytesLess ((rdOf ByteArray.empty l0 (wrap64 (x7_1 - 1))).toList) ((rdOf ByteArray.empty l0 x7_1).toList)) = true) then (letter_Rising.l0 k1 l0 l0 (l0.length : Int) (wrap64 (x7_1 + 1))) else (some false)) else (none)) else (none)) else (letter_Rising.l0 k1 l0 l0 (l0.length : Int) (wrap64 (x7_1 + 1)))) else (some false)) = some r := H
      have A5 := Aside0.mk A50
      clear A50
      by_cases c6 : t116 = true
      ·subst c6
       have H1 : (if x7_1 > 0 then (if 0 ≤ (wrap64 (x7_1 - 1)) then (if (wrap64 (x7_1 - 1)) < (l0.length : Int) then (if ((Op.bytesLess ((rdOf ByteArray.empty l0 (wrap64 (x7_1 - 1))).toList) ((rdOf ByteArray.empty l0 x7_1).toList)) = true) then (letter_Rising.l0 k1 l0 l0 (l0.length : Int) (wrap64 (x7_1 + 1))) else (some false)) else (none)) else (none)) else (letter_Rising.l0 k1 l0 l0 (l0.length : Int) (wrap64 (x7_1 + 1)))) = some r := by rw [if_pos rfl] at H; exact H
       clear H
       have H := H1
       clear H1
       by_cases c7 : x7_1 > 0
       ·rw [if_pos c7] at H
        have c7b0 : decide (0 < x7_1) = true := decide_eq_true c7
        clear c7
        obtain ⟨ji8, hji8⟩ : ∃ j_ : Int, (wrap64 (x7_1 - 1)) = j_ := ⟨_, rfl⟩
        replace H : (if 0 ≤ (ji8) then (if (ji8) < (l0.length : Int) then (if ((Op.bytesLess ((rdOf ByteArray.empty l0 (ji8)).toList) ((rdOf ByteArray.empty l0 x7_1).toList)) = true) then (letter_Rising.l0 k1 l0 l0 (l0.length : Int) (wrap64 (x7_1 + 1))) else (some false)) else (none)) else (none)) = some r := by first | (rw [hji8] at H; exact H) | (simp only [hji8] at H ⊢; exact H)
        (try rw [hji8] at A5)
        have hji8w : (IntKind.i64.wrap (x7_1 - 1)) = ji8 := (i64_w _).trans hji8
        by_cases c9 : 0 ≤ (ji8)
        ·rw [if_pos c9] at H
         have c9b0 : decide (0 ≤ (ji8)) = true := decide_eq_true c9
         clear c9
         by_cases c10 : (ji8) < (l0.length : Int)
         ·rw [if_pos c10] at H
          have c10b0 : decide ((ji8) < (l0.length : Int)) = true := decide_eq_true c10
          clear c10
          by_cases c11 : ((Op.bytesLess ((rdOf ByteArray.empty l0 (ji8)).toList) ((rdOf ByteArray.empty l0 x7_1).toList)) = true)
          ·rw [if_pos c11] at H
           have c11b0 : (Op.bytesLess ((rdOf ByteArray.empty l0 (ji8)).toList) ((rdOf ByteArray.empty l0 x7_1).toList)) = true := c11
           clear c11
           have H' := Aside0.mk H
           clear H
           have p115 : 0 ≤ (x7_1 : Int) := of_decide_eq_true (by first | (with_reducible assumption) | assumption)
           have q115 : x7_1 < (l0.length : Int) := of_decide_eq_true (by first | (with_reducible assumption) | assumption)
           obtain ⟨ad115, e115, hx115_0⟩ := Kd.at_string HR0.out x7_1 p115 q115
           cases e115
           replace p115 := eq_true p115
           replace q115 := eq_true q115
           go_wp2_with (first | ((with_reducible refine gate_callee (f := 18) rfl ?_); refine goesL_ (some 13) rfl rfl Try.func18 (by kernel_rfl) rfl #[.string (rdOf ByteArray.empty l0 x7_1)] rfl (by (try simp only [List.map_toArray, List.map_cons, List.map_nil]); first | done | rfl | (simp only [List.length_drop, List.length_take]; rfl)) ?_; (with_reducible refine (letter_Key.calls (rdOf ByteArray.empty l0 x7_1) true _ A5.out).mono ?_); rintro e w' ⟨rfl, ⟨nd, rfl⟩⟩; refine ⟨_, rfl, ?_⟩; have p117 : 0 ≤ ((ji8) : Int) := of_decide_eq_true (by first | (with_reducible assumption) | assumption); have q117 : (ji8) < (l0.length : Int) := of_decide_eq_true (by first | (with_reducible assumption) | assumption); obtain ⟨ad117, e117, hx117_0⟩ := Kd.at_string HR0.out (ji8) p117 q117; obtain rfl : ad115 = ad117 := (by injection e117); replace p117 := eq_true p117; replace q117 := eq_true q117))
           go_roundg k1
           case measure => have := HK1.out; omega
           case rel => exact ⟨(wrap64 (x7_1 + 1)), (by first | rfl | (simp; done) | (simp [*]; done) | (simp [bne_nil_]; done)), H', ⟨by have := HK1.out; omega⟩, by repeat (first | exact Drawn0.refl _ | apply Drawn0.step)⟩
          ·rw [if_neg c11] at H
           have c11b0 : (Op.bytesLess ((rdOf ByteArray.empty l0 (ji8)).toList) ((rdOf ByteArray.empty l0 x7_1).toList)) = false := by simpa using c11
           clear c11
           obtain rfl := Option.some.inj H
           have p115 : 0 ≤ (x7_1 : Int) := of_decide_eq_true (by first | (with_reducible assumption) | assumption)
           have q115 : x7_1 < (l0.length : Int) := of_decide_eq_true (by first | (with_reducible assumption) | assumption)
           obtain ⟨ad115, e115, hx115_0⟩ := Kd.at_string HR0.out x7_1 p115 q115
           cases e115
           replace p115 := eq_true p115
           replace q115 := eq_true q115
           go_wp2_with (first | ((with_reducible refine gate_callee (f := 18) rfl ?_); refine goesL_ (some 13) rfl rfl Try.func18 (by kernel_rfl) rfl #[.string (rdOf ByteArray.empty l0 x7_1)] rfl (by (try simp only [List.map_toArray, List.map_cons, List.map_nil]); first | done | rfl | (simp only [List.length_drop, List.length_take]; rfl)) ?_; (with_reducible refine (letter_Key.calls (rdOf ByteArray.empty l0 x7_1) true _ A5.out).mono ?_); rintro e w' ⟨rfl, ⟨nd, rfl⟩⟩; refine ⟨_, rfl, ?_⟩; have p117 : 0 ≤ ((ji8) : Int) := of_decide_eq_true (by first | (with_reducible assumption) | assumption); have q117 : (ji8) < (l0.length : Int) := of_decide_eq_true (by first | (with_reducible assumption) | assumption); obtain ⟨ad117, e117, hx117_0⟩ := Kd.at_string HR0.out (ji8) p117 q117; obtain rfl : ad115 = ad117 := (by injection e117); replace p117 := eq_true p117; replace q117 := eq_true q117))
           go_ret
           exact ⟨by first | rfl | (simp; done) | (simp only [← hji8] <;> (first | rfl | simp)) | (simp [*]; done), by repeat (first | exact Drawn0.refl _ | apply Drawn0.step)⟩
         ·rw [if_neg c10] at H
          exact absurd H (by simp)
        ·rw [if_neg c9] at H
         exact absurd H (by simp)
       ·rw [if_neg c7] at H
        have c7b0 : decide (0 < x7_1) = false := decide_eq_false c7
        clear c7
        have H' := Aside0.mk H
        clear H
        have p115 : 0 ≤ (x7_1 : Int) := of_decide_eq_true (by first | (with_reducible assumption) | assumption)
        have q115 : x7_1 < (l0.length : Int) := of_decide_eq_true (by first | (with_reducible assumption) | assumption)
        obtain ⟨ad115, e115, hx115_0⟩ := Kd.at_string HR0.out x7_1 p115 q115
        cases e115
        replace p115 := eq_true p115
        replace q115 := eq_true q115
        go_wp2_with (first | ((with_reducible refine gate_callee (f := 18) rfl ?_); refine goesL_ (some 13) rfl rfl Try.func18 (by kernel_rfl) rfl #[.string (rdOf ByteArray.empty l0 x7_1)] rfl (by (try simp only [List.map_toArray, List.map_cons, List.map_nil]); first | done | rfl | (simp only [List.length_drop, List.length_take]; rfl)) ?_; (with_reducible refine (letter_Key.calls (rdOf ByteArray.empty l0 x7_1) true _ A5.out).mono ?_); rintro e w' ⟨rfl, ⟨nd, rfl⟩⟩; refine ⟨_, rfl, ?_⟩))
        go_roundg k1
        case measure => have := HK1.out; omega
        case rel => exact ⟨(wrap64 (x7_1 + 1)), (by first | rfl | (simp; done) | (simp [*]; done) | (simp [bne_nil_]; done)), H', ⟨by have := HK1.out; omega⟩, by repeat (first | exact Drawn0.refl _ | apply Drawn0.step)⟩
      ·replace c6 := Bool.eq_false_iff.mpr c6
       subst c6
       have H1 : (some false) = some r := by rw [if_neg (show ¬ (false = true) by decide)] at H; exact H
       clear H
       have H := H1
       clear H1
       obtain rfl := Option.some.inj H
       have p115 : 0 ≤ (x7_1 : Int) := of_decide_eq_true (by first | (with_reducible assumption) | assumption)
       have q115 : x7_1 < (l0.length : Int) := of_decide_eq_true (by first | (with_reducible assumption) | assumption)
       obtain ⟨ad115, e115, hx115_0⟩ := Kd.at_string HR0.out x7_1 p115 q115
       cases e115
       replace p115 := eq_true p115
       replace q115 := eq_true q115
       go_wp2_with (first | ((with_reducible refine gate_callee (f := 18) rfl ?_); refine goesL_ (some 13) rfl rfl Try.func18 (by kernel_rfl) rfl #[.string (rdOf ByteArray.empty l0 x7_1)] rfl (by (try simp only [List.map_toArray, List.map_cons, List.map_nil]); first | done | rfl | (simp only [List.length_drop, List.length_take]; rfl)) ?_; (with_reducible refine (letter_Key.calls (rdOf ByteArray.empty l0 x7_1) false _ A5.out).mono ?_); rintro e w' ⟨rfl, ⟨nd, rfl⟩⟩; refine ⟨_, rfl, ?_⟩))
       go_ret
       exact ⟨by first | rfl | (simp; done) | (simp [*]; done) | (simp [bne_nil_]; done), by repeat (first | exact Drawn0.refl _ | apply Drawn0.step)⟩
     ·rw [if_neg c4] at H
      exact absurd H (by simp)
    ·rw [if_neg c3] at H
     exact absurd H (by simp)
   ·rw [if_neg c2] at H
    have c2b0 : decide (x7_1 < (l0.length : Int)) = false := decide_eq_false c2
    clear c2
    obtain rfl := Option.some.inj H
    go_wp2
    go_ret
    exact ⟨by first | rfl | (simp; done) | (simp [*]; done) | (simp [bne_nil_]; done), by repeat (first | exact Drawn0.refl _ | apply Drawn0.step)⟩
end Go.Proofs.Ytelgpkbnahgdoaa.Al

namespace Go.Proofs.Ytelgpkbnahgdoaa.Al
open Go.RowKit Go.Proofs.YtelgpkbnahgdoaaW.PrintWords Go.Proofs.YtelgpkbnahgdoaaW.PrintLast Go.Proofs.YtelgpkbnahgdoaaW.PrintMore
attribute [local go_sem] max2_int min2_int max_two min_two max_three min_three max_four min_four   -- for this text's walks alone
set_option linter.unusedVariables false
set_option linter.unusedSimpArgs false
def letter_writes.l0 : Nat → List (S49) → List ByteArray → List (S49) → Int → Int → Option (Bool)
 |0, _, _, _, _, _ => none
 |k + 1, x0, x3, x6, x7, x8 => if x8 < x7 then (if 0 ≤ x8 then (if x8 < (x6.length : Int) then (if (((rd_T49 x6 x8).f1).size : Int) > 2052 then (some false) else (if (rd_T49 x6 x8).f2 = true then (if ((rd_T49 x6 x8).f1).toList = ([] : List UInt8) then (if x3.length < 8796093022208 then (letter_writes.l0 k x0 (x3 ++ [(rd_T49 x6 x8).f0]) x6 x7 (wrap64 (x8 + 1))) else (none)) else (some false)) else (if x3.length < 8796093022208 then (letter_writes.l0 k x0 (x3 ++ [(rd_T49 x6 x8).f0]) x6 x7 (wrap64 (x8 + 1))) else (none)))) else (none)) else (none)) else (if (x0.length : Int) ≤ 16 then ((letter_Rising.f k x3).bind fun t126 => (some t126)) else (some false))
def letter_writes.f (k : Nat) (l0 : List (S49)) : Option (Bool) := letter_writes.l0 k l0 ([] : List ByteArray) l0 (l0.length : Int) 0
theorem letter_writes.mono_l : ∀ k, (∀ y0 y1 y2 y3 y4, LeO (letter_writes.l0 k y0 y1 y2 y3 y4) (letter_writes.l0 (k + 1) y0 y1 y2 y3 y4))
 |0 => fun _ _ _ _ _ r h => by simp [letter_writes.l0] at h
 |k + 1 => by
  have ih0 := letter_writes.mono_l k
  ·intro y0 y1 y2 y3 y4
   unfold letter_writes.l0
   repeat' first
   |(with_reducible exact ih0 _ _ _ _ _)
   |(with_reducible exact letter_Rising.mono _ _)
   |(with_reducible exact LeO.refl _)
   |(with_reducible exact LeO.none _)
   |(with_reducible refine LeO.ite ?_ ?_)
   |(with_reducible refine LeO.bind ?_ (fun _ => ?_))
   |exact ih0 _ _ _ _ _
   |exact letter_Rising.mono _ _
   |exact LeO.none _
   |refine LeO.ite ?_ ?_
   |refine LeO.bind ?_ (fun _ => ?_)
theorem letter_writes.mono : ∀ a0 k, LeO (letter_writes.f k a0) (letter_writes.f (k + 1) a0) := by
 intro a0 k
 have ih0 := letter_writes.mono_l k
 unfold letter_writes.f
 repeat' first
   |(with_reducible exact ih0 _ _ _ _ _)
   |(with_reducible exact letter_Rising.mono _ _)
   |(with_reducible exact LeO.refl _)
   |(with_reducible exact LeO.none _)
   |(with_reducible refine LeO.ite ?_ ?_)
   |(with_reducible refine LeO.bind ?_ (fun _ => ?_))
   |exact ih0 _ _ _ _ _
   |exact letter_Rising.mono _ _
   |exact LeO.none _
   |refine LeO.ite ?_ ?_
   |refine LeO.bind ?_ (fun _ => ?_)
set_option maxHeartbeats 8000000 in
set_option maxRecDepth 100000 in
theorem letter_writes.calls (k : Nat) (A0 : Option Addr) (c0 : Nat) (l0 : List (S49)) (r : Bool) (w : World) (hr0 : Kd.C k49 w A0 l0.length l0) (hc0 : l0.length ≤ c0) (h : letter_writes.f k l0 = some r) :
  Calls Try.prog 29 #[.slice A0 l0.length c0] w fun e w' => e = .returned (.bool r) ∧ Below w.heap.size w w' := by
 have hu49 := Try.underlying49
 have HR0 := Aside0.mk hr0
 have HC0 := Aside0.mk hc0
 clear hr0 hc0
 have HB := Aside0.mk (Below.refl w.heap.size w)
 have H : (letter_writes.l0 k l0 ([] : List ByteArray) l0 (l0.length : Int) 0) = some r := h
 clear h
 have H' := Aside0.mk H
 clear H
 go_enter Try.func29, Try.ntmps29
 go_wp2
 go_loopg [3, 8] k (fun kq v3 v8 w' => ∃ (x3_1 : List ByteArray) (x8_1 : Int), v8 = .int .i64 x8_1 ∧ Aside0 (letter_writes.l0 kq l0 x3_1 l0 (l0.length : Int) x8_1 = some r) ∧ Aside0 (kq ≤ k) ∧ Aside0 (Kd.R Kd.string 9 w' w.heap.size (fun _ => True) v3 x3_1) ∧ Aside0 (Below w.heap.size w w'))
 case atStart => exact ⟨(([] : List ByteArray)), (0), (by first | rfl | (simp; done) | (simp [*]; done) | (simp [bne_nil_]; done)), H', ⟨Nat.le_refl _⟩, ⟨by first | exact Kd.R_nil _ _ _ _ _ | exact Kd.N_nil _ _ _ _ _ | exact Kd.V_nil _ _ _ _ _ | exact Kd.Q_nil _ _ _ _ _ | exact Kd.S_nil _ _ _ _ _⟩, ⟨by repeat (first | (with_reducible first | exact HB.out | apply below_alloc | apply pw_below_drewN | apply below_drew1) | exact HB.out)⟩⟩
 case round =>
  clear H'
  obtain ⟨x3_1, x8_1, rfl, HA, HK1, HO_3, HB⟩ := hrel
  cases gk with
  |zero => exact absurd HA.out (by simp [letter_writes.l0])
  |succ k1 =>
   have H := HA.out
   clear HA
   simp only [letter_writes.l0] at H
   by_cases c2 : x8_1 < (l0.length : Int)
   ·rw [if_pos c2] at H
    have c2b0 : decide (x8_1 < (l0.length : Int)) = true := decide_eq_true c2
    clear c2
    by_cases c3 : 0 ≤ x8_1
    ·rw [if_pos c3] at H
     have c3b0 : decide (0 ≤ x8_1) = true := decide_eq_true c3
     clear c3
     by_cases c4 : x8_1 < (l0.length : Int)
     ·rw [if_pos c4] at H
      have c4b0 : decide (x8_1 < (l0.length : Int)) = true := decide_eq_true c4
      clear c4
      by_cases c5 : (((rd_T49 l0 x8_1).f1).size : Int) > 2052
      ·rw [if_pos c5] at H
       have c5b0 : decide (2052 < (((rd_T49 l0 x8_1).f1).size : Int)) = true := decide_eq_true c5
       have c5b1 : decide (2052 < ((rd_T49 l0 x8_1).f1).size) = true := decide_eq_true (by omega)
       clear c5
       obtain rfl := Option.some.inj H
       have p118 : 0 ≤ (x8_1 : Int) := of_decide_eq_true (by first | (with_reducible assumption) | assumption)
       have q118 : x8_1 < (l0.length : Int) := of_decide_eq_true (by first | (with_reducible assumption) | assumption)
       obtain ⟨ad118, e118, hx118_0, hx118_1, hx118_2⟩ := at_T49 HR0.out x8_1 p118 q118
       cases e118
       replace hx118_0 := (HB.out.cell (World.block_lt_of_cell? w _ hx118_0)).trans hx118_0
       replace hx118_1 := (HB.out.cell (World.block_lt_of_cell? w _ hx118_1)).trans hx118_1
       replace hx118_2 := (HB.out.cell (World.block_lt_of_cell? w _ hx118_2)).trans hx118_2
       replace p118 := eq_true p118
       replace q118 := eq_true q118
       go_wp2_with (first | ((with_reducible refine gate_dst (N := 5) rfl ?_); refine box_event ?hg (N := 5) ?hd (cs := #[.string (⟨#[]⟩ : ByteArray), .string (⟨#[]⟩ : ByteArray), .bool false]) (t := 49) ?hr ?_; (case hd => rfl); (case hg => rfl); (case hr => first | (go_simp; done) | (go_simp; rfl)); intro gb119 hg w6 hbox hb; have n0_ := Aside0.mk (Kd.R_below (by (with_reducible repeat (first | apply Kd.R_alloc | apply Kd.R_drewN | apply Kd.R_drew)); exact HO_3.out) hb); have n1_ := Aside0.mk (below_step (by repeat (first | (with_reducible first | exact HB.out | apply below_alloc | apply pw_below_drewN | apply below_drew1) | exact HB.out)) hb); have n2_ := Aside0.mk (hbox); have n3_ := Aside0.mk ((by rw [hg]; exact (below_size (by repeat (first | (with_reducible first | exact HB.out | apply below_alloc | apply pw_below_drewN | apply below_drew1) | exact HB.out))) : w.heap.size ≤ gb119)); have n4_ := Aside0.mk ((by rw [hg]; exact (below_size (by repeat (first | (with_reducible first | exact HB.out | apply below_alloc | apply pw_below_drewN | apply below_drew1) | exact HB.out))) : w.heap.size ≤ gb119)); clear HO_3; clear HB; have HO_3 := n0_; have HB := n1_; have BK119 := n2_; have GW119 := n3_; have GE119 := n4_; clear n0_ n1_ n2_ n3_ n4_; clear hb hbox hg; have hcz7_0 : w6.cell? ⟨gb119, 0, none⟩ = some (.string (⟨#[]⟩ : ByteArray)) := (blk_cell BK119.out 0).trans rfl; have hcz7_1 : w6.cell? ⟨gb119, 1, none⟩ = some (.string (⟨#[]⟩ : ByteArray)) := (blk_cell BK119.out 1).trans rfl; have hcz7_2 : w6.cell? ⟨gb119, 2, none⟩ = some (.bool false) := (blk_cell BK119.out 2).trans rfl; have hfz7_0 := blk_frozen BK119.out 0; have hfz7_1 := blk_frozen BK119.out 1; have hfz7_2 := blk_frozen BK119.out 2))
       go_ret
       exact ⟨by first | rfl | (simp [errW_none, errW_some] <;> rfl) | (simp [*, errW_none, errW_some] <;> rfl), by repeat (first | (with_reducible first | exact HB.out | apply below_alloc | apply pw_below_drewN | apply below_drew1 | refine below_set ?_ GE119.out) | exact HB.out)⟩
      ·rw [if_neg c5] at H
       have c5b0 : decide (2052 < (((rd_T49 l0 x8_1).f1).size : Int)) = false := decide_eq_false c5
       have c5b1 : decide (2052 < ((rd_T49 l0 x8_1).f1).size) = false := decide_eq_false (by omega)
       clear c5
       obtain ⟨bq8, hbq8⟩ : ∃ b_ : Bool, b_ = ((rd_T49 l0 x8_1).f2) := ⟨_, rfl⟩
       replace H : (if bq8 = true then (if ((rd_T49 l0 x8_1).f1).toList = ([] : List UInt8) then (if x3_1.length < 8796093022208 then (letter_writes.l0 k1 l0 (x3_1 ++ [(rd_T49 l0 x8_1).f0]) l0 (l0.length : Int) (wrap64 (x8_1 + 1))) else (none)) else (some false)) else (if x3_1.length < 8796093022208 then (letter_writes.l0 k1 l0 (x3_1 ++ [(rd_T49 l0 x8_1).f0]) l0 (l0.length : Int) (wrap64 (x8_1 + 1))) else (none))) = some r := by rw [← hbq8] at H; exact H
       have Nbq8 := Aside0.mk hbq8
       clear hbq8
       by_cases c9 : bq8 = true
       ·subst c9
        have H1 : (if ((rd_T49 l0 x8_1).f1).toList = ([] : List UInt8) then (if x3_1.length < 8796093022208 then (letter_writes.l0 k1 l0 (x3_1 ++ [(rd_T49 l0 x8_1).f0]) l0 (l0.length : Int) (wrap64 (x8_1 + 1))) else (none)) else (some false)) = some r := by rw [if_pos rfl] at H; exact H
        clear H
        have H := H1
        clear H1
        by_cases c10 : ((rd_T49 l0 x8_1).f1).toList = ([] : List UInt8)
        ·rw [if_pos c10] at H
         have c10b0 : (((rd_T49 l0 x8_1).f1).toList == ([] : List UInt8)) = true := beq_iff_eq.mpr c10
         have c10b1 : (((rd_T49 l0 x8_1).f1).toList != ([] : List UInt8)) = false := bne_eq_false_iff_eq.mpr c10
         clear c10
         by_cases c11 : x3_1.length < 8796093022208
         ·rw [if_pos c11] at H
          have LMc11 := Aside0.mk c11
          clear c11
          obtain ⟨y120, hy120⟩ : ∃ y_ : List ByteArray, y_ = (x3_1 ++ [(rd_T49 l0 x8_1).f0]) := ⟨_, rfl⟩
          replace H : (letter_writes.l0 k1 l0 y120 l0 (l0.length : Int) (wrap64 (x8_1 + 1))) = some r := by first | (rw [hy120]; with_reducible exact H) | (have H2_ := (Option.bind_some _ _).symm.trans H; rw [hy120]; with_reducible exact H2_) | (have H2_ := (Option.bind_some _ _).symm.trans H; with_reducible exact H2_) | with_reducible exact H | (rw [hy120]; exact H) | exact H
          have Ny120 := Aside0.mk hy120
          clear hy120
          have H' := Aside0.mk H
          clear H
          have p118 : 0 ≤ (x8_1 : Int) := of_decide_eq_true (by first | (with_reducible assumption) | assumption)
          have q118 : x8_1 < (l0.length : Int) := of_decide_eq_true (by first | (with_reducible assumption) | assumption)
          obtain ⟨ad118, e118, hx118_0, hx118_1, hx118_2⟩ := at_T49 HR0.out x8_1 p118 q118
          (try rw [← Nbq8.out] at hx118_2)
          cases e118
          replace hx118_0 := (HB.out.cell (World.block_lt_of_cell? w _ hx118_0)).trans hx118_0
          replace hx118_1 := (HB.out.cell (World.block_lt_of_cell? w _ hx118_1)).trans hx118_1
          replace hx118_2 := (HB.out.cell (World.block_lt_of_cell? w _ hx118_2)).trans hx118_2
          replace p118 := eq_true p118
          replace q118 := eq_true q118
          go_wp2_with (first | ((with_reducible refine gate_dst (N := 5) rfl ?_); refine box_event ?hg (N := 5) ?hd (cs := #[.string (⟨#[]⟩ : ByteArray), .string (⟨#[]⟩ : ByteArray), .bool false]) (t := 49) ?hr ?_; (case hd => rfl); (case hg => rfl); (case hr => first | (go_simp; done) | (go_simp; rfl)); intro gb119 hg w12 hbox hb; have n0_ := Aside0.mk (Kd.R_below (by (with_reducible repeat (first | apply Kd.R_alloc | apply Kd.R_drewN | apply Kd.R_drew)); exact HO_3.out) hb); have n1_ := Aside0.mk (below_step (by repeat (first | (with_reducible first | exact HB.out | apply below_alloc | apply pw_below_drewN | apply below_drew1) | exact HB.out)) hb); have n2_ := Aside0.mk (hbox); have n3_ := Aside0.mk ((by rw [hg]; exact (below_size (by repeat (first | (with_reducible first | exact HB.out | apply below_alloc | apply pw_below_drewN | apply below_drew1) | exact HB.out))) : w.heap.size ≤ gb119)); have n4_ := Aside0.mk ((by rw [hg]; exact (below_size (by repeat (first | (with_reducible first | exact HB.out | apply below_alloc | apply pw_below_drewN | apply below_drew1) | exact HB.out))) : w.heap.size ≤ gb119)); clear HO_3; clear HB; have HO_3 := n0_; have HB := n1_; have BK119 := n2_; have GW119 := n3_; have GE119 := n4_; clear n0_ n1_ n2_ n3_ n4_; clear hb hbox hg; have hcz13_0 : w12.cell? ⟨gb119, 0, none⟩ = some (.string (⟨#[]⟩ : ByteArray)) := (blk_cell BK119.out 0).trans rfl; have hcz13_1 : w12.cell? ⟨gb119, 1, none⟩ = some (.string (⟨#[]⟩ : ByteArray)) := (blk_cell BK119.out 1).trans rfl; have hcz13_2 : w12.cell? ⟨gb119, 2, none⟩ = some (.bool false) := (blk_cell BK119.out 2).trans rfl; have hfz13_0 := blk_frozen BK119.out 0; have hfz13_1 := blk_frozen BK119.out 1; have hfz13_2 := blk_frozen BK119.out 2) | ((with_reducible refine gate_builtin (b := .append) (xs := #[.tmp 25, .tmp 28]) rfl ?_); at_builtin; refine Kd.R_append Kd.string (w0 := w) w.heap.size rfl (.tmp 25) (.tmp 28) 22 9 (.string ⟨#[]⟩) 16 rfl Try.underlying22 info9 rfl (by decide) (by omega) u3 x3_1 ((rd_T49 l0 x8_1).f0) [.string ((rd_T49 l0 x8_1).f0)] (fun _ => True) (fun _ => False) rfl (by first | (go_simp; done) | (go_simp; rfl)) ?aP (fun _ hk => hk.elim) ?aF ?aO ?aB ?aS ?aL ?_; (case aP => exact rfl); (case aB => exact (by repeat (first | (with_reducible first | exact HB.out | apply below_alloc | apply pw_below_drewN | apply below_drew1 | refine below_set ?_ GE119.out) | exact HB.out))); (case aF => exact (fun _ _ => trivial)); (case aO => exact (by (with_reducible repeat (first | apply Kd.R_alloc | apply Kd.R_drewN | apply Kd.R_drew)); exact Kd.R_mono (Kd.R_far (p := ⟨gb119, 2, none⟩) (Kd.R_far (p := ⟨gb119, 1, none⟩) (Kd.R_far (p := ⟨gb119, 0, none⟩) (Kd.R_types HO_3.out BK119.out (by decide)) (fun _ hk => hk.2) (.string ((rd_T49 l0 x8_1).f0))) (fun _ hk => hk.2) (.string ((rd_T49 l0 x8_1).f1))) (fun _ hk => hk.2) (.bool true)) (fun _ hk => trivial))); (case aS => exact (below_size (by repeat (first | (with_reducible first | exact HB.out | apply below_alloc | apply pw_below_drewN | apply below_drew1 | refine below_set ?_ GE119.out) | exact HB.out)))); (case aL => have := LMc11.out; omega); intro v121 w14 ho hb hg hat; rw [← Ny120.out] at ho; have n0_ := Aside0.mk (blk_grown (g := gb119) (o := .cells #[.string ((rd_T49 l0 x8_1).f0), .string ((rd_T49 l0 x8_1).f1), .bool true] 49 (0, 0)) (by (with_reducible repeat (first | refine blk_drewN ?_ _ | refine blk_drew ?_ | refine blk_alloc ?_ _)); refine blk_put (cs := #[.string ((rd_T49 l0 x8_1).f0), .string ((rd_T49 l0 x8_1).f1), .bool false]) ?_ 2 _ rfl; (with_reducible repeat (first | refine blk_drewN ?_ _ | refine blk_drew ?_ | refine blk_alloc ?_ _)); refine blk_put (cs := #[.string ((rd_T49 l0 x8_1).f0), .string (⟨#[]⟩ : ByteArray), .bool false]) ?_ 1 _ rfl; (with_reducible repeat (first | refine blk_drewN ?_ _ | refine blk_drew ?_ | refine blk_alloc ?_ _)); refine blk_put (cs := #[.string (⟨#[]⟩ : ByteArray), .string (⟨#[]⟩ : ByteArray), .bool false]) ?_ 0 _ rfl; (with_reducible repeat (first | refine blk_drewN ?_ _ | refine blk_drew ?_ | refine blk_alloc ?_ _)); exact BK119.out) hg (Kd.R_ne HO_3.out BK119.out (by decide))); have n1_ := Aside0.mk (hb); have n2_ := Aside0.mk (ho); clear BK119; clear HB; clear HO_3; have BK119 := n0_; have HB := n1_; have HO122 := n2_; clear n0_ n1_ n2_; clear ho hb hg hat))
          go_roundg k1
          case measure => have := HK1.out; omega
          case rel => exact ⟨(y120), (wrap64 (x8_1 + 1)), (by first | rfl | (simp; done) | (simp [*]; done) | (simp [bne_nil_]; done)), H', ⟨by have := HK1.out; omega⟩, ⟨by (with_reducible repeat (first | apply Kd.R_alloc | apply Kd.R_drewN | apply Kd.R_drew)); exact HO122.out⟩, ⟨by repeat (first | (with_reducible first | exact HB.out | apply below_alloc | apply pw_below_drewN | apply below_drew1 | refine below_set ?_ GE119.out) | exact HB.out)⟩⟩
         ·rw [if_neg c11] at H
          exact absurd H (by simp)
        ·rw [if_neg c10] at H
         have c10b0 : (((rd_T49 l0 x8_1).f1).toList == ([] : List UInt8)) = false := beq_eq_false_iff_ne.mpr c10
         have c10b1 : (((rd_T49 l0 x8_1).f1).toList != ([] : List UInt8)) = true := bne_iff_ne.mpr c10
         obtain rfl := Option.some.inj H
         have p118 : 0 ≤ (x8_1 : Int) := of_decide_eq_true (by first | (with_reducible assumption) | assumption)
         have q118 : x8_1 < (l0.length : Int) := of_decide_eq_true (by first | (with_reducible assumption) | assumption)
         obtain ⟨ad118, e118, hx118_0, hx118_1, hx118_2⟩ := at_T49 HR0.out x8_1 p118 q118
         (try rw [← Nbq8.out] at hx118_2)
         cases e118
         replace hx118_0 := (HB.out.cell (World.block_lt_of_cell? w _ hx118_0)).trans hx118_0
         replace hx118_1 := (HB.out.cell (World.block_lt_of_cell? w _ hx118_1)).trans hx118_1
         replace hx118_2 := (HB.out.cell (World.block_lt_of_cell? w _ hx118_2)).trans hx118_2
         replace p118 := eq_true p118
         replace q118 := eq_true q118
         go_wp2_with (first | ((with_reducible refine gate_dst (N := 5) rfl ?_); refine box_event ?hg (N := 5) ?hd (cs := #[.string (⟨#[]⟩ : ByteArray), .string (⟨#[]⟩ : ByteArray), .bool false]) (t := 49) ?hr ?_; (case hd => rfl); (case hg => rfl); (case hr => first | (go_simp; done) | (go_simp; rfl)); intro gb119 hg w15 hbox hb; have n0_ := Aside0.mk (Kd.R_below (by (with_reducible repeat (first | apply Kd.R_alloc | apply Kd.R_drewN | apply Kd.R_drew)); exact HO_3.out) hb); have n1_ := Aside0.mk (below_step (by repeat (first | (with_reducible first | exact HB.out | apply below_alloc | apply pw_below_drewN | apply below_drew1) | exact HB.out)) hb); have n2_ := Aside0.mk (hbox); have n3_ := Aside0.mk ((by rw [hg]; exact (below_size (by repeat (first | (with_reducible first | exact HB.out | apply below_alloc | apply pw_below_drewN | apply below_drew1) | exact HB.out))) : w.heap.size ≤ gb119)); have n4_ := Aside0.mk ((by rw [hg]; exact (below_size (by repeat (first | (with_reducible first | exact HB.out | apply below_alloc | apply pw_below_drewN | apply below_drew1) | exact HB.out))) : w.heap.size ≤ gb119)); clear HO_3; clear HB; have HO_3 := n0_; have HB := n1_; have BK119 := n2_; have GW119 := n3_; have GE119 := n4_; clear n0_ n1_ n2_ n3_ n4_; clear hb hbox hg; have hcz16_0 : w15.cell? ⟨gb119, 0, none⟩ = some (.string (⟨#[]⟩ : ByteArray)) := (blk_cell BK119.out 0).trans rfl; have hcz16_1 : w15.cell? ⟨gb119, 1, none⟩ = some (.string (⟨#[]⟩ : ByteArray)) := (blk_cell BK119.out 1).trans rfl; have hcz16_2 : w15.cell? ⟨gb119, 2, none⟩ = some (.bool false) := (blk_cell BK119.out 2).trans rfl; have hfz16_0 := blk_frozen BK119.out 0; have hfz16_1 := blk_frozen BK119.out 1; have hfz16_2 := blk_frozen BK119.out 2))
         go_ret
         exact ⟨by first | rfl | (simp [errW_none, errW_some] <;> rfl) | (simp [*, errW_none, errW_some] <;> rfl), by repeat (first | (with_reducible first | exact HB.out | apply below_alloc | apply pw_below_drewN | apply below_drew1 | refine below_set ?_ GE119.out) | exact HB.out)⟩
       ·replace c9 := Bool.eq_false_iff.mpr c9
        subst c9
        have H1 : (if x3_1.length < 8796093022208 then (letter_writes.l0 k1 l0 (x3_1 ++ [(rd_T49 l0 x8_1).f0]) l0 (l0.length : Int) (wrap64 (x8_1 + 1))) else (none)) = some r := by rw [if_neg (show ¬ (false = true) by decide)] at H; exact H
        clear H
        have H := H1
        clear H1
        by_cases c17 : x3_1.length < 8796093022208
        ·rw [if_pos c17] at H
         have LMc17 := Aside0.mk c17
         clear c17
         obtain ⟨y123, hy123⟩ : ∃ y_ : List ByteArray, y_ = (x3_1 ++ [(rd_T49 l0 x8_1).f0]) := ⟨_, rfl⟩
         replace H : (letter_writes.l0 k1 l0 y123 l0 (l0.length : Int) (wrap64 (x8_1 + 1))) = some r := by first | (rw [hy123]; with_reducible exact H) | (have H2_ := (Option.bind_some _ _).symm.trans H; rw [hy123]; with_reducible exact H2_) | (have H2_ := (Option.bind_some _ _).symm.trans H; with_reducible exact H2_) | with_reducible exact H | (rw [hy123]; exact H) | exact H
         have Ny123 := Aside0.mk hy123
         clear hy123
         have H' := Aside0.mk H
         clear H
         have p118 : 0 ≤ (x8_1 : Int) := of_decide_eq_true (by first | (with_reducible assumption) | assumption)
         have q118 : x8_1 < (l0.length : Int) := of_decide_eq_true (by first | (with_reducible assumption) | assumption)
         obtain ⟨ad118, e118, hx118_0, hx118_1, hx118_2⟩ := at_T49 HR0.out x8_1 p118 q118
         (try rw [← Nbq8.out] at hx118_2)
         cases e118
         replace hx118_0 := (HB.out.cell (World.block_lt_of_cell? w _ hx118_0)).trans hx118_0
         replace hx118_1 := (HB.out.cell (World.block_lt_of_cell? w _ hx118_1)).trans hx118_1
         replace hx118_2 := (HB.out.cell (World.block_lt_of_cell? w _ hx118_2)).trans hx118_2
         replace p118 := eq_true p118
         replace q118 := eq_true q118
         go_wp2_with (first | ((with_reducible refine gate_dst (N := 5) rfl ?_); refine box_event ?hg (N := 5) ?hd (cs := #[.string (⟨#[]⟩ : ByteArray), .string (⟨#[]⟩ : ByteArray), .bool false]) (t := 49) ?hr ?_; (case hd => rfl); (case hg => rfl); (case hr => first | (go_simp; done) | (go_simp; rfl)); intro gb119 hg w18 hbox hb; have n0_ := Aside0.mk (Kd.R_below (by (with_reducible repeat (first | apply Kd.R_alloc | apply Kd.R_drewN | apply Kd.R_drew)); exact HO_3.out) hb); have n1_ := Aside0.mk (below_step (by repeat (first | (with_reducible first | exact HB.out | apply below_alloc | apply pw_below_drewN | apply below_drew1) | exact HB.out)) hb); have n2_ := Aside0.mk (hbox); have n3_ := Aside0.mk ((by rw [hg]; exact (below_size (by repeat (first | (with_reducible first | exact HB.out | apply below_alloc | apply pw_below_drewN | apply below_drew1) | exact HB.out))) : w.heap.size ≤ gb119)); have n4_ := Aside0.mk ((by rw [hg]; exact (below_size (by repeat (first | (with_reducible first | exact HB.out | apply below_alloc | apply pw_below_drewN | apply below_drew1) | exact HB.out))) : w.heap.size ≤ gb119)); clear HO_3; clear HB; have HO_3 := n0_; have HB := n1_; have BK119 := n2_; have GW119 := n3_; have GE119 := n4_; clear n0_ n1_ n2_ n3_ n4_; clear hb hbox hg; have hcz19_0 : w18.cell? ⟨gb119, 0, none⟩ = some (.string (⟨#[]⟩ : ByteArray)) := (blk_cell BK119.out 0).trans rfl; have hcz19_1 : w18.cell? ⟨gb119, 1, none⟩ = some (.string (⟨#[]⟩ : ByteArray)) := (blk_cell BK119.out 1).trans rfl; have hcz19_2 : w18.cell? ⟨gb119, 2, none⟩ = some (.bool false) := (blk_cell BK119.out 2).trans rfl; have hfz19_0 := blk_frozen BK119.out 0; have hfz19_1 := blk_frozen BK119.out 1; have hfz19_2 := blk_frozen BK119.out 2) | ((with_reducible refine gate_builtin (b := .append) (xs := #[.tmp 25, .tmp 28]) rfl ?_); at_builtin; refine Kd.R_append Kd.string (w0 := w) w.heap.size rfl (.tmp 25) (.tmp 28) 22 9 (.string ⟨#[]⟩) 16 rfl Try.underlying22 info9 rfl (by decide) (by omega) u3 x3_1 ((rd_T49 l0 x8_1).f0) [.string ((rd_T49 l0 x8_1).f0)] (fun _ => True) (fun _ => False) rfl (by first | (go_simp; done) | (go_simp; rfl)) ?aP (fun _ hk => hk.elim) ?aF ?aO ?aB ?aS ?aL ?_; (case aP => exact rfl); (case aB => exact (by repeat (first | (with_reducible first | exact HB.out | apply below_alloc | apply pw_below_drewN | apply below_drew1 | refine below_set ?_ GE119.out) | exact HB.out))); (case aF => exact (fun _ _ => trivial)); (case aO => exact (by (with_reducible repeat (first | apply Kd.R_alloc | apply Kd.R_drewN | apply Kd.R_drew)); exact Kd.R_mono (Kd.R_far (p := ⟨gb119, 2, none⟩) (Kd.R_far (p := ⟨gb119, 1, none⟩) (Kd.R_far (p := ⟨gb119, 0, none⟩) (Kd.R_types HO_3.out BK119.out (by decide)) (fun _ hk => hk.2) (.string ((rd_T49 l0 x8_1).f0))) (fun _ hk => hk.2) (.string ((rd_T49 l0 x8_1).f1))) (fun _ hk => hk.2) (.bool false)) (fun _ hk => trivial))); (case aS => exact (below_size (by repeat (first | (with_reducible first | exact HB.out | apply below_alloc | apply pw_below_drewN | apply below_drew1 | refine below_set ?_ GE119.out) | exact HB.out)))); (case aL => have := LMc17.out; omega); intro v124 w20 ho hb hg hat; rw [← Ny123.out] at ho; have n0_ := Aside0.mk (blk_grown (g := gb119) (o := .cells #[.string ((rd_T49 l0 x8_1).f0), .string ((rd_T49 l0 x8_1).f1), .bool false] 49 (0, 0)) (by (with_reducible repeat (first | refine blk_drewN ?_ _ | refine blk_drew ?_ | refine blk_alloc ?_ _)); refine blk_put (cs := #[.string ((rd_T49 l0 x8_1).f0), .string ((rd_T49 l0 x8_1).f1), .bool false]) ?_ 2 _ rfl; (with_reducible repeat (first | refine blk_drewN ?_ _ | refine blk_drew ?_ | refine blk_alloc ?_ _)); refine blk_put (cs := #[.string ((rd_T49 l0 x8_1).f0), .string (⟨#[]⟩ : ByteArray), .bool false]) ?_ 1 _ rfl; (with_reducible repeat (first | refine blk_drewN ?_ _ | refine blk_drew ?_ | refine blk_alloc ?_ _)); refine blk_put (cs := #[.string (⟨#[]⟩ : ByteArray), .string (⟨#[]⟩ : ByteArray), .bool false]) ?_ 0 _ rfl; (with_reducible repeat (first | refine blk_drewN ?_ _ | refine blk_drew ?_ | refine blk_alloc ?_ _)); exact BK119.out) hg (Kd.R_ne HO_3.out BK119.out (by decide))); have n1_ := Aside0.mk (hb); have n2_ := Aside0.mk (ho); clear BK119; clear HB; clear HO_3; have BK119 := n0_; have HB := n1_; have HO125 := n2_; clear n0_ n1_ n2_; clear ho hb hg hat))
         go_roundg k1
         case measure => have := HK1.out; omega
         case rel => exact ⟨(y123), (wrap64 (x8_1 + 1)), (by first | rfl | (simp; done) | (simp [*]; done) | (simp [bne_nil_]; done)), H', ⟨by have := HK1.out; omega⟩, ⟨by (with_reducible repeat (first | apply Kd.R_alloc | apply Kd.R_drewN | apply Kd.R_drew)); exact HO125.out⟩, ⟨by repeat (first | (with_reducible first | exact HB.out | apply below_alloc | apply pw_below_drewN | apply below_drew1 | refine below_set ?_ GE119.out) | exact HB.out)⟩⟩
        ·rw [if_neg c17] at H
         exact absurd H (by simp)
     ·rw [if_neg c4] at H
      exact absurd H (by simp)
    ·rw [if_neg c3] at H
     exact absurd H (by simp)
   ·rw [if_neg c2] at H
    have c2b0 : decide (x8_1 < (l0.length : Int)) = false := decide_eq_false c2
    clear c2
    by_cases c21 : (l0.length : Int) ≤ 16
    ·rw [if_pos c21] at H
     have c21b0 : decide ((l0.length : Int) ≤ 16) = true := decide_eq_true c21
     have c21b1 : decide (l0.length ≤ 16) = true := decide_eq_true (by omega)
     clear c21
     replace H := Option.bind_eq_some_iff.mp H
     obtain ⟨t126, A220, H⟩ := H
     replace H : (some t126) = some r := H
     have A22 := Aside0.mk A220
     clear A220
     obtain rfl := Option.some.inj H
     obtain ⟨Ao23, co23, eo23⟩ := Kd.R_slice HO_3.out
     subst eo23
     go_wp2_with (first | (go_at_call 20; (with_reducible refine (letter_Rising.calls k1 _ _ x3_1 t126 _ ?side1 ?side2 A22.out).mono ?_); (case side1 => repeat (first | exact (Kd.R_reads' HO_3.out).2.2 | (with_reducible refine Kd.C_alloc ?_ _) | (with_reducible refine Kd.C_drewN ?_ _) | (with_reducible refine Kd.C_drew ?_))); (case side2 => exact (Kd.R_reads' HO_3.out).2.1); rintro e w' ⟨rfl, ⟨nd, rfl⟩⟩))
     go_ret
     exact ⟨by first | rfl | (simp [errW_none, errW_some] <;> rfl) | (simp [*, errW_none, errW_some] <;> rfl), by repeat (first | (with_reducible first | exact HB.out | apply below_alloc | apply pw_below_drewN | apply below_drew1) | exact HB.out)⟩
    ·rw [if_neg c21] at H
     have c21b0 : decide ((l0.length : Int) ≤ 16) = false := decide_eq_false c21
     have c21b1 : decide (l0.length ≤ 16) = false := decide_eq_false (by omega)
     clear c21
     obtain rfl := Option.some.inj H
     go_wp2
     go_ret
     exact ⟨by first | rfl | (simp [errW_none, errW_some] <;> rfl) | (simp [*, errW_none, errW_some] <;> rfl), by repeat (first | (with_reducible first | exact HB.out | apply below_alloc | apply pw_below_drewN | apply below_drew1) | exact HB.out)⟩
end Go.Proofs.Ytelgpkbnahgdoaa.Al

namespace Go.Proofs.Ytelgpkbnahgdoaa.Al
open Go.RowKit Go.Proofs.YtelgpkbnahgdoaaW.PrintWords Go.Proofs.YtelgpkbnahgdoaaW.PrintLast Go.Proofs.YtelgpkbnahgdoaaW.PrintMore
attribute [local go_sem] max2_int min2_int max_two min_two max_three min_three max_four min_four   -- for this text's walks alone
set_option linter.unusedVariables false
set_option linter.unusedSimpArgs false
def letter_address.f (a0 : Int) : Option (Bool) := if a0 ≥ 0 then (if a0 < 12 then (some true) else (if a0 ≥ 100 then (some (decide (a0 < 116))) else (some false))) else (if a0 ≥ 100 then (some (decide (a0 < 116))) else (some false))
set_option maxHeartbeats 8000000 in
set_option maxRecDepth 100000 in
theorem letter_address.calls (a0 : Int) (r : Bool) (w : World) (h : letter_address.f a0 = some r) :
  Calls Try.prog 28 #[.int .i64 a0] w fun e w' => e = .returned (.bool r) ∧ Drawn0 w w' := by
 have H : (if a0 ≥ 0 then (if a0 < 12 then (some true) else (if a0 ≥ 100 then (some (decide (a0 < 116))) else (some false))) else (if a0 ≥ 100 then (some (decide (a0 < 116))) else (some false))) = some r := h
 clear h
 by_cases c2 : a0 ≥ 0
 ·rw [if_pos c2] at H
  have c2b0 : decide (0 ≤ a0) = true := decide_eq_true c2
  clear c2
  by_cases c3 : a0 < 12
  ·rw [if_pos c3] at H
   have c3b0 : decide (a0 < 12) = true := decide_eq_true c3
   clear c3
   obtain rfl := Option.some.inj H
   go_enter Try.func28, Try.ntmps28
   go_wp2
   go_ret
   exact ⟨by first | rfl | (simp; done) | (simp [*]; done), by repeat (first | exact Drawn0.refl _ | apply Drawn0.step)⟩
  ·rw [if_neg c3] at H
   have c3b0 : decide (a0 < 12) = false := decide_eq_false c3
   clear c3
   by_cases c4 : a0 ≥ 100
   ·rw [if_pos c4] at H
    have c4b0 : decide (100 ≤ a0) = true := decide_eq_true c4
    clear c4
    obtain rfl := Option.some.inj H
    go_enter Try.func28, Try.ntmps28
    go_wp2
    go_ret
    exact ⟨by first | rfl | (simp; done) | (simp [*]; done), by repeat (first | exact Drawn0.refl _ | apply Drawn0.step)⟩
   ·rw [if_neg c4] at H
    have c4b0 : decide (100 ≤ a0) = false := decide_eq_false c4
    clear c4
    obtain rfl := Option.some.inj H
    go_enter Try.func28, Try.ntmps28
    go_wp2
    go_ret
    exact ⟨by first | rfl | (simp; done) | (simp [*]; done), by repeat (first | exact Drawn0.refl _ | apply Drawn0.step)⟩
 ·rw [if_neg c2] at H
  have c2b0 : decide (0 ≤ a0) = false := decide_eq_false c2
  clear c2
  by_cases c5 : a0 ≥ 100
  ·rw [if_pos c5] at H
   have c5b0 : decide (100 ≤ a0) = true := decide_eq_true c5
   clear c5
   obtain rfl := Option.some.inj H
   go_enter Try.func28, Try.ntmps28
   go_wp2
   go_ret
   exact ⟨by first | rfl | (simp; done) | (simp [*]; done), by repeat (first | exact Drawn0.refl _ | apply Drawn0.step)⟩
  ·rw [if_neg c5] at H
   have c5b0 : decide (100 ≤ a0) = false := decide_eq_false c5
   clear c5
   obtain rfl := Option.some.inj H
   go_enter Try.func28, Try.ntmps28
   go_wp2
   go_ret
   exact ⟨by first | rfl | (simp; done) | (simp [*]; done), by repeat (first | exact Drawn0.refl _ | apply Drawn0.step)⟩
end Go.Proofs.Ytelgpkbnahgdoaa.Al

namespace Go.Proofs.Ytelgpkbnahgdoaa.LetSpec
open Go.RowKit Go.Proofs.Ytelgpkbnahgdoaa.Base Go.Proofs.Ytelgpkbnahgdoaa.Al Go.Proofs.YtelgpkbnahgdoaaW.PrintWords
theorem Ev.succ {α : Type} {g : Nat → Option α} {r : α} (h : Ev (fun k => g (k + 1)) r) : Ev g r := Ev.step (fun _ => rfl) h
def keyB (s : ByteArray) : Bool := decide (1 ≤ s.size ∧ s.size ≤ 32)
def addrB (n : Int) : Bool := decide ((0 ≤ n ∧ n < 12) ∨ (100 ≤ n ∧ n < 116))
def risFrom : Option ByteArray → List ByteArray → Bool
 |_, [] => true
 |none, s :: l => keyB s && risFrom (some s) l
 |some p, s :: l => keyB s && (Op.bytesLess p.toList s.toList && risFrom (some s) l)
def risB (l : List ByteArray) : Bool := risFrom none l
def oneW (x : S49) : Bool := decide (x.f1.size ≤ 2052) && (!x.f2 || x.f1.toList.isEmpty)
def wriB (l : List S49) : Bool := l.all oneW && (decide (l.length ≤ 16) && risB (l.map fun x => x.f0))
theorem empty_iff (s : ByteArray) : s.toList = [] ↔ s.size = 0 := by
 rw [toList_eq, ← B_len]
 exact List.length_eq_zero_iff.symm
theorem key_eq (s : ByteArray) : letter_Key.f s = some (keyB s) := by
 unfold letter_Key.f keyB
 by_cases h : s.toList = []
 ·rw [if_pos h, decide_eq_false (by have := (empty_iff s).1 h; omega)]
 ·rw [if_neg h]
  congr 1
  have : s.size ≠ 0 := fun hc => h ((empty_iff s).2 hc)
  apply decide_eq_decide.2
  omega
theorem address_eq (n : Int) : letter_address.f n = some (addrB n) := by
 unfold letter_address.f addrB
 split
 ·split
  ·rw [decide_eq_true (by omega)]
  ·split
   ·congr 1; apply decide_eq_decide.2; omega
   ·rw [decide_eq_false (by omega)]
 ·split
  ·congr 1; apply decide_eq_decide.2; omega
  ·rw [decide_eq_false (by omega)]
theorem rdOf_get {l : List ByteArray} {i : Nat} (h : i < l.length) : rdOf ByteArray.empty l (i : Int) = l[i] := by simp [rdOf, List.getD_eq_getElem?_getD, h]
def prevOf (l : List ByteArray) (i : Nat) : Option ByteArray := if i = 0 then none else l[i - 1]?
theorem rising_l0 (l : List ByteArray) (hl : l.length ≤ 4611686018427387904) : ∀ (d i : Nat), i + d = l.length → Ev (fun k => letter_Rising.l0 k l l (l.length : Int) i) (risFrom (prevOf l i) (l.drop i))
 |0, i, h => by
  refine Ev.succ ?_
  simp only [letter_Rising.l0]
  rw [List.drop_of_length_le (by omega)]
  refine Ev.neg (by omega) ?_
  have : risFrom (prevOf l i) [] = true := by cases prevOf l i <;> rfl
  rw [this]
  exact Ev.now _
 |d + 1, i, h => by
  have hi : i < l.length := by omega
  have ih := rising_l0 l hl d (i + 1) (by omega)
  have e : wrap64 ((i : Int) + 1) = ((i + 1 : Nat) : Int) := by rw [wrap_id (by omega) (by omega)]; omega
  have hp : prevOf l (i + 1) = some l[i] := by simp [prevOf, hi]
  rw [hp] at ih
  refine Ev.succ ?_
  simp only [letter_Rising.l0]
  rw [e, rdOf_get hi, key_eq, List.drop_eq_getElem_cons hi]
  refine Ev.pos (by omega) (Ev.pos (by omega) (Ev.pos (by omega) (Ev.some_bind ?_)))
  by_cases hk : keyB l[i] = true
  ·refine Ev.pos hk ?_
   by_cases h0 : i = 0
   ·subst h0
    refine Ev.neg (by omega) ?_
    have e2 : risFrom (prevOf l 0) (l[0] :: l.drop (0 + 1)) = risFrom (some l[0]) (l.drop (0 + 1)) := by
     show (keyB l[0] && risFrom (some l[0]) (l.drop 1)) = _
     rw [hk, Bool.true_and]
    rw [e2]
    exact ih
   ·have h1 : i - 1 < l.length := by omega
    have e1 : wrap64 ((i : Int) - 1) = ((i - 1 : Nat) : Int) := by rw [wrap_id (by omega) (by omega)]; omega
    have hpr : prevOf l i = some l[i - 1] := by simp [prevOf, h0, h1]
    rw [e1, hpr, rdOf_get h1]
    have e2 : risFrom (some l[i - 1]) (l[i] :: l.drop (i + 1)) = (Op.bytesLess l[i - 1].toList l[i].toList && risFrom (some l[i]) (l.drop (i + 1))) := by
     show (keyB l[i] && _) = _
     rw [hk, Bool.true_and]
    rw [e2]
    refine Ev.pos (by omega) (Ev.pos (by omega) (Ev.pos (by omega) ?_))
    by_cases hb : Op.bytesLess l[i - 1].toList l[i].toList = true
    ·rw [hb, Bool.true_and]
     refine Ev.pos rfl ?_
     exact ih
    ·have hb' : Op.bytesLess l[i - 1].toList l[i].toList = false := by simpa using hb
     rw [hb', Bool.false_and]
     exact Ev.neg (by simp) (Ev.now _)
  ·have hk' : keyB l[i] = false := by simpa using hk
   rw [hk']
   have e2 : risFrom (prevOf l i) (l[i] :: l.drop (i + 1)) = false := by
    cases prevOf l i with
    |none => show (keyB l[i] && _) = _; rw [hk']; rfl
    |some p => show (keyB l[i] && _) = _; rw [hk']; rfl
   rw [e2]
   exact Ev.neg (by simp) (Ev.now _)
theorem rising_ev (l : List ByteArray) (hl : l.length ≤ 4611686018427387904) : Ev (fun k => letter_Rising.f k l) (risB l) := rising_l0 l hl l.length 0 (by omega)
theorem rdT_get {l : List S49} {i : Nat} (h : i < l.length) : rd_T49 l (i : Int) = l[i] := by simp [rd_T49, List.getD_eq_getElem?_getD, h]
theorem writes_l0 (l : List S49) (hl : l.length ≤ 8796093022000) : ∀ (d i : Nat), i + d = l.length → (l.take i).all oneW = true → Ev (fun k => letter_writes.l0 k l ((l.take i).map fun x => x.f0) l (l.length : Int) i) (wriB l)
 |0, i, h, ha => by
  have hi : l.take i = l := List.take_of_length_le (by omega)
  rw [hi] at ha ⊢
  have hw : wriB l = (decide (l.length ≤ 16) && risB (l.map fun x => x.f0)) := by unfold wriB; rw [ha, Bool.true_and]
  rw [hw]
  refine Ev.succ ?_
  simp only [letter_writes.l0]
  refine Ev.neg (by omega) ?_
  by_cases h16 : l.length ≤ 16
  ·rw [decide_eq_true h16, Bool.true_and]
   exact Ev.pos (by omega) (Ev.bind (rising_ev _ (by simp; omega)) (Ev.now _))
  ·rw [decide_eq_false h16, Bool.false_and]
   exact Ev.neg (by omega) (Ev.now _)
 |d + 1, i, h, ha => by
  have hi : i < l.length := by omega
  have e : wrap64 ((i : Int) + 1) = ((i + 1 : Nat) : Int) := by rw [wrap_id (by omega) (by omega)]; omega
  have hlen : ((l.take i).map fun x => x.f0).length = i := by simp; omega
  have htk : l.take (i + 1) = l.take i ++ [l[i]] := by rw [List.take_succ_eq_append_getElem hi]
  have bad : oneW l[i] = false → wriB l = false := fun hf => by
   unfold wriB
   have : l.all oneW = false := List.all_eq_false.2 ⟨l[i], List.getElem_mem hi, by simp [hf]⟩
   rw [this, Bool.false_and]
  refine Ev.succ ?_
  simp only [letter_writes.l0]
  rw [e, rdT_get hi, hlen]
  refine Ev.pos (by omega) (Ev.pos (by omega) (Ev.pos (by omega) ?_))
  by_cases hs : l[i].f1.size ≤ 2052
  ·refine Ev.neg (by omega) ?_
   have good : oneW l[i] = true → Ev (fun k => letter_writes.l0 k l ((l.take i).map (fun x => x.f0) ++ [l[i].f0]) l (l.length : Int) ((i + 1 : Nat) : Int)) (wriB l) := fun ho => by
    have ih := writes_l0 l hl d (i + 1) (by omega) (by rw [htk, List.all_append, ha]; simp [ho])
    rw [htk, List.map_append] at ih
    exact ih
   by_cases hd : l[i].f2 = true
   ·refine Ev.pos hd ?_
    by_cases he : l[i].f1.toList = []
    ·exact Ev.pos he (Ev.pos (by omega) (good (by simp [oneW, hs, he])))
    ·rw [bad (by simp [oneW, hd, he])]
     exact Ev.neg he (Ev.now _)
   ·have hd' : l[i].f2 = false := by simpa using hd
    exact Ev.neg hd (Ev.pos (by omega) (good (by simp [oneW, hs, hd'])))
  ·rw [bad (by simp [oneW, hs])]
   exact Ev.pos (by omega) (Ev.now _)
theorem writes_ev (l : List S49) (hl : l.length ≤ 8796093022000) : Ev (fun k => letter_writes.f k l) (wriB l) := writes_l0 l hl l.length 0 (by omega) rfl
/-- What the switch over the kinds leaves: the greatest code, whether keys, writes and text may be. -/
def sw (kind code : Int) (text : ByteArray) (l7 : List ByteArray) (l8 : List S49) : Option (Int × Bool × Bool × Bool) :=
 if kind = 2 then some (4, decide (l7.length = 1) && keyB (rdOf ByteArray.empty l7 0), (l8.length : Int) == 0, decide (text.size ≤ 2052) && (text.toList.isEmpty || code == 1))
 else if kind = 1 then some (0, decide (l7.length = 1) && keyB (rdOf ByteArray.empty l7 0), (l8.length : Int) == 0, text.toList.isEmpty)
 else if kind = 3 then some (0, decide (l7.length ≤ 16) && risB l7, wriB l8, text.toList.isEmpty)
 else if kind = 8 then some (2, (l7.length : Int) == 0, (l8.length : Int) == 0, text.toList.isEmpty)
 else if kind = 4 then some (1, (l7.length : Int) == 0, (l8.length : Int) == 0, text.toList.isEmpty)
 else if kind = 5 ∨ kind = 6 ∨ kind = 7 then some (0, (l7.length : Int) == 0, (l8.length : Int) == 0, text.toList.isEmpty)
 else none
def fin4 (code : Int) : Option (Int × Bool × Bool × Bool) → Int
 |none => 70
 |some (m, a, b, c) => if code ≤ m ∧ a = true ∧ b = true ∧ c = true then 0 else 70
/-- Which letters may be: 0, or 70. -/
def chkL (kind src dst txn ts code : Int) (text : ByteArray) (l7 : List ByteArray) (l8 : List S49) : Int :=
 if addrB src = true ∧ addrB dst = true ∧ 1 ≤ txn ∧ txn ≤ 1125899906842623 ∧ 0 ≤ ts ∧ ts ≤ 1125899906842624 ∧ 0 ≤ code then fin4 code (sw kind code text l7 l8) else 70
section
variable (w : World)
theorem key_calls (s : ByteArray) : Calls Try.prog 18 #[.string s] w fun e w' => e = .returned (.bool (keyB s)) ∧ Drawn0 w w' := letter_Key.calls s _ w (key_eq s)
theorem address_calls (n : Int) : Calls Try.prog 28 #[.int .i64 n] w fun e w' => e = .returned (.bool (addrB n)) ∧ Drawn0 w w' := letter_address.calls n _ w (address_eq n)
theorem rising_calls (A : Option Addr) (c : Nat) (l : List ByteArray) (hr : Kd.C Kd.string w A l.length l) (hc : l.length ≤ c) (hl : l.length ≤ 8796093022000) : Calls Try.prog 20 #[.slice A l.length c] w fun e w' => e = .returned (.bool (risB l)) ∧ Drawn0 w w' := by
 obtain ⟨k, hk⟩ := Ev.rounds (rising_ev l (by omega))
 exact letter_Rising.calls k A c l _ w hr hc hk
theorem writes_calls (A : Option Addr) (c : Nat) (l : List S49) (hr : Kd.C k49 w A l.length l) (hc : l.length ≤ c) (hl : l.length ≤ 8796093022000) : Calls Try.prog 29 #[.slice A l.length c] w fun e w' => e = .returned (.bool (wriB l)) ∧ Below w.heap.size w w' := by
 obtain ⟨k, hk⟩ := Ev.rounds (writes_ev l hl)
 exact letter_writes.calls k A c l _ w hr hc hk
end
end Go.Proofs.Ytelgpkbnahgdoaa.LetSpec

namespace Go.Proofs.Ytelgpkbnahgdoaa.Al
open Go.RowKit Go.Proofs.Ytelgpkbnahgdoaa.Base Go.Proofs.Ytelgpkbnahgdoaa.LetSpec Go.Proofs.YtelgpkbnahgdoaaW.PrintWords Go.Proofs.YtelgpkbnahgdoaaW.PrintLast Go.Proofs.YtelgpkbnahgdoaaW.PrintMore
set_option linter.unusedVariables false
set_option linter.unusedSimpArgs false
def letter_Check.f (a0_0 : Int) (a0_1 : Int) (a0_2 : Int) (a0_3 : Int) (a0_4 : Int) (a0_5 : Int) (a0_6 : ByteArray) (l0_7 : List ByteArray) (l0_8 : List (S49)) : Option Int := if l0_7.length ≤ 8796093022000 ∧ l0_8.length ≤ 8796093022000 then some (chkL a0_0 a0_1 a0_2 a0_3 a0_4 a0_5 a0_6 l0_7 l0_8) else none
theorem add_zero_ (a : Addr) : a.add 0 = a := by unfold Addr.add; simp
section
variable (a0_0 : Int) (a0_1 : Int) (a0_2 : Int) (a0_3 : Int) (a0_4 : Int) (a0_5 : Int) (a0_6 : ByteArray) (A0_7 : Option Addr) (c0_7 : Nat) (l0_7 : List ByteArray) (A0_8 : Option Addr) (c0_8 : Nat) (l0_8 : List (S49)) (w : World)
set_option maxHeartbeats 8000000 in
set_option maxRecDepth 100000 in
theorem check_bad0  (g0 : ¬ (addrB a0_1 = true)) :
  Calls Try.prog 13 #[.agg #[.int .i64 a0_0, .int .i64 a0_1, .int .i64 a0_2, .int .i64 a0_3, .int .i64 a0_4, .int .i64 a0_5, .string a0_6, .slice A0_7 l0_7.length c0_7, .slice A0_8 l0_8.length c0_8]] w fun e w' => e = .returned (.int .i64 70) ∧ Below w.heap.size w w' := by
 have hu25 := Try.underlying25
 have d0 : addrB a0_1 = false := by simpa using g0
 clear g0
 go_enter Try.func13, Try.ntmps13
 go_wp2_with (first | ((with_reducible refine gate_dst (N := 1) rfl ?_); refine box_event ?hg (N := 1) ?hd (cs := #[.int .i64 a0_0, .int .i64 a0_1, .int .i64 a0_2, .int .i64 a0_3, .int .i64 a0_4, .int .i64 a0_5, .string a0_6, .slice A0_7 l0_7.length c0_7, .slice A0_8 l0_8.length c0_8]) (t := 25) ?hr ?_; (case hd => rfl); (case hg => rfl); (case hr => first | (go_simp; done) | (go_simp; rfl)); intro gl hgl w1 hbox hb; have HB := Aside0.mk hb; have BL := Aside0.mk hbox; clear hgl hb hbox; have hcz_0 : w1.cell? ⟨gl, 0, none⟩ = some (.int .i64 a0_0) := (blk_cell BL.out 0).trans rfl; have hcz_1 : w1.cell? ⟨gl, 1, none⟩ = some (.int .i64 a0_1) := (blk_cell BL.out 1).trans rfl; have hcz_2 : w1.cell? ⟨gl, 2, none⟩ = some (.int .i64 a0_2) := (blk_cell BL.out 2).trans rfl; have hcz_3 : w1.cell? ⟨gl, 3, none⟩ = some (.int .i64 a0_3) := (blk_cell BL.out 3).trans rfl; have hcz_4 : w1.cell? ⟨gl, 4, none⟩ = some (.int .i64 a0_4) := (blk_cell BL.out 4).trans rfl; have hcz_5 : w1.cell? ⟨gl, 5, none⟩ = some (.int .i64 a0_5) := (blk_cell BL.out 5).trans rfl; have hcz_6 : w1.cell? ⟨gl, 6, none⟩ = some (.string a0_6) := (blk_cell BL.out 6).trans rfl; have hcz_7 : w1.cell? ⟨gl, 7, none⟩ = some (.slice A0_7 l0_7.length c0_7) := (blk_cell BL.out 7).trans rfl; have hcz_8 : w1.cell? ⟨gl, 8, none⟩ = some (.slice A0_8 l0_8.length c0_8) := (blk_cell BL.out 8).trans rfl) | (go_at_call 28; refine (address_calls _ _).mono ?_; rintro e w' ⟨rfl, nd, rfl⟩; (try first | exact ⟨rfl, _, World.drewN_drewN _ _ _⟩)))
 go_ret
 exact ⟨rfl, by repeat (first | exact HB.out | refine pw_below_drewN ?_ _)⟩
set_option maxHeartbeats 8000000 in
set_option maxRecDepth 100000 in
theorem check_bad1 (g0 : addrB a0_1 = true) (g1 : ¬ (addrB a0_2 = true)) :
  Calls Try.prog 13 #[.agg #[.int .i64 a0_0, .int .i64 a0_1, .int .i64 a0_2, .int .i64 a0_3, .int .i64 a0_4, .int .i64 a0_5, .string a0_6, .slice A0_7 l0_7.length c0_7, .slice A0_8 l0_8.length c0_8]] w fun e w' => e = .returned (.int .i64 70) ∧ Below w.heap.size w w' := by
 have hu25 := Try.underlying25
 have d0 : addrB a0_1 = true := g0
 have d1 : addrB a0_2 = false := by simpa using g1
 clear g0 g1
 go_enter Try.func13, Try.ntmps13
 go_wp2_with (first | ((with_reducible refine gate_dst (N := 1) rfl ?_); refine box_event ?hg (N := 1) ?hd (cs := #[.int .i64 a0_0, .int .i64 a0_1, .int .i64 a0_2, .int .i64 a0_3, .int .i64 a0_4, .int .i64 a0_5, .string a0_6, .slice A0_7 l0_7.length c0_7, .slice A0_8 l0_8.length c0_8]) (t := 25) ?hr ?_; (case hd => rfl); (case hg => rfl); (case hr => first | (go_simp; done) | (go_simp; rfl)); intro gl hgl w1 hbox hb; have HB := Aside0.mk hb; have BL := Aside0.mk hbox; clear hgl hb hbox; have hcz_0 : w1.cell? ⟨gl, 0, none⟩ = some (.int .i64 a0_0) := (blk_cell BL.out 0).trans rfl; have hcz_1 : w1.cell? ⟨gl, 1, none⟩ = some (.int .i64 a0_1) := (blk_cell BL.out 1).trans rfl; have hcz_2 : w1.cell? ⟨gl, 2, none⟩ = some (.int .i64 a0_2) := (blk_cell BL.out 2).trans rfl; have hcz_3 : w1.cell? ⟨gl, 3, none⟩ = some (.int .i64 a0_3) := (blk_cell BL.out 3).trans rfl; have hcz_4 : w1.cell? ⟨gl, 4, none⟩ = some (.int .i64 a0_4) := (blk_cell BL.out 4).trans rfl; have hcz_5 : w1.cell? ⟨gl, 5, none⟩ = some (.int .i64 a0_5) := (blk_cell BL.out 5).trans rfl; have hcz_6 : w1.cell? ⟨gl, 6, none⟩ = some (.string a0_6) := (blk_cell BL.out 6).trans rfl; have hcz_7 : w1.cell? ⟨gl, 7, none⟩ = some (.slice A0_7 l0_7.length c0_7) := (blk_cell BL.out 7).trans rfl; have hcz_8 : w1.cell? ⟨gl, 8, none⟩ = some (.slice A0_8 l0_8.length c0_8) := (blk_cell BL.out 8).trans rfl) | (go_at_call 28; refine (address_calls _ _).mono ?_; rintro e w' ⟨rfl, nd, rfl⟩; (try first | exact ⟨rfl, _, World.drewN_drewN _ _ _⟩)))
 go_ret
 exact ⟨rfl, by repeat (first | exact HB.out | refine pw_below_drewN ?_ _)⟩
set_option maxHeartbeats 8000000 in
set_option maxRecDepth 100000 in
theorem check_bad2 (g0 : addrB a0_1 = true) (g1 : addrB a0_2 = true) (g2 : ¬ (1 ≤ a0_3)) :
  Calls Try.prog 13 #[.agg #[.int .i64 a0_0, .int .i64 a0_1, .int .i64 a0_2, .int .i64 a0_3, .int .i64 a0_4, .int .i64 a0_5, .string a0_6, .slice A0_7 l0_7.length c0_7, .slice A0_8 l0_8.length c0_8]] w fun e w' => e = .returned (.int .i64 70) ∧ Below w.heap.size w w' := by
 have hu25 := Try.underlying25
 have d0 : addrB a0_1 = true := g0
 have d1 : addrB a0_2 = true := g1
 have d2 : decide (a0_3 < 1) = true := decide_eq_true (by omega)
 clear g0 g1 g2
 go_enter Try.func13, Try.ntmps13
 go_wp2_with (first | ((with_reducible refine gate_dst (N := 1) rfl ?_); refine box_event ?hg (N := 1) ?hd (cs := #[.int .i64 a0_0, .int .i64 a0_1, .int .i64 a0_2, .int .i64 a0_3, .int .i64 a0_4, .int .i64 a0_5, .string a0_6, .slice A0_7 l0_7.length c0_7, .slice A0_8 l0_8.length c0_8]) (t := 25) ?hr ?_; (case hd => rfl); (case hg => rfl); (case hr => first | (go_simp; done) | (go_simp; rfl)); intro gl hgl w1 hbox hb; have HB := Aside0.mk hb; have BL := Aside0.mk hbox; clear hgl hb hbox; have hcz_0 : w1.cell? ⟨gl, 0, none⟩ = some (.int .i64 a0_0) := (blk_cell BL.out 0).trans rfl; have hcz_1 : w1.cell? ⟨gl, 1, none⟩ = some (.int .i64 a0_1) := (blk_cell BL.out 1).trans rfl; have hcz_2 : w1.cell? ⟨gl, 2, none⟩ = some (.int .i64 a0_2) := (blk_cell BL.out 2).trans rfl; have hcz_3 : w1.cell? ⟨gl, 3, none⟩ = some (.int .i64 a0_3) := (blk_cell BL.out 3).trans rfl; have hcz_4 : w1.cell? ⟨gl, 4, none⟩ = some (.int .i64 a0_4) := (blk_cell BL.out 4).trans rfl; have hcz_5 : w1.cell? ⟨gl, 5, none⟩ = some (.int .i64 a0_5) := (blk_cell BL.out 5).trans rfl; have hcz_6 : w1.cell? ⟨gl, 6, none⟩ = some (.string a0_6) := (blk_cell BL.out 6).trans rfl; have hcz_7 : w1.cell? ⟨gl, 7, none⟩ = some (.slice A0_7 l0_7.length c0_7) := (blk_cell BL.out 7).trans rfl; have hcz_8 : w1.cell? ⟨gl, 8, none⟩ = some (.slice A0_8 l0_8.length c0_8) := (blk_cell BL.out 8).trans rfl) | (go_at_call 28; refine (address_calls _ _).mono ?_; rintro e w' ⟨rfl, nd, rfl⟩; (try first | exact ⟨rfl, _, World.drewN_drewN _ _ _⟩)))
 go_ret
 exact ⟨rfl, by repeat (first | exact HB.out | refine pw_below_drewN ?_ _)⟩
set_option maxHeartbeats 8000000 in
set_option maxRecDepth 100000 in
theorem check_bad3 (g0 : addrB a0_1 = true) (g1 : addrB a0_2 = true) (g2 : 1 ≤ a0_3) (g3 : ¬ (a0_3 ≤ 1125899906842623)) :
  Calls Try.prog 13 #[.agg #[.int .i64 a0_0, .int .i64 a0_1, .int .i64 a0_2, .int .i64 a0_3, .int .i64 a0_4, .int .i64 a0_5, .string a0_6, .slice A0_7 l0_7.length c0_7, .slice A0_8 l0_8.length c0_8]] w fun e w' => e = .returned (.int .i64 70) ∧ Below w.heap.size w w' := by
 have hu25 := Try.underlying25
 have d0 : addrB a0_1 = true := g0
 have d1 : addrB a0_2 = true := g1
 have d2 : decide (a0_3 < 1) = false := decide_eq_false (by omega)
 have d3 : decide (1125899906842623 < a0_3) = true := decide_eq_true (by omega)
 clear g0 g1 g2 g3
 go_enter Try.func13, Try.ntmps13
 go_wp2_with (first | ((with_reducible refine gate_dst (N := 1) rfl ?_); refine box_event ?hg (N := 1) ?hd (cs := #[.int .i64 a0_0, .int .i64 a0_1, .int .i64 a0_2, .int .i64 a0_3, .int .i64 a0_4, .int .i64 a0_5, .string a0_6, .slice A0_7 l0_7.length c0_7, .slice A0_8 l0_8.length c0_8]) (t := 25) ?hr ?_; (case hd => rfl); (case hg => rfl); (case hr => first | (go_simp; done) | (go_simp; rfl)); intro gl hgl w1 hbox hb; have HB := Aside0.mk hb; have BL := Aside0.mk hbox; clear hgl hb hbox; have hcz_0 : w1.cell? ⟨gl, 0, none⟩ = some (.int .i64 a0_0) := (blk_cell BL.out 0).trans rfl; have hcz_1 : w1.cell? ⟨gl, 1, none⟩ = some (.int .i64 a0_1) := (blk_cell BL.out 1).trans rfl; have hcz_2 : w1.cell? ⟨gl, 2, none⟩ = some (.int .i64 a0_2) := (blk_cell BL.out 2).trans rfl; have hcz_3 : w1.cell? ⟨gl, 3, none⟩ = some (.int .i64 a0_3) := (blk_cell BL.out 3).trans rfl; have hcz_4 : w1.cell? ⟨gl, 4, none⟩ = some (.int .i64 a0_4) := (blk_cell BL.out 4).trans rfl; have hcz_5 : w1.cell? ⟨gl, 5, none⟩ = some (.int .i64 a0_5) := (blk_cell BL.out 5).trans rfl; have hcz_6 : w1.cell? ⟨gl, 6, none⟩ = some (.string a0_6) := (blk_cell BL.out 6).trans rfl; have hcz_7 : w1.cell? ⟨gl, 7, none⟩ = some (.slice A0_7 l0_7.length c0_7) := (blk_cell BL.out 7).trans rfl; have hcz_8 : w1.cell? ⟨gl, 8, none⟩ = some (.slice A0_8 l0_8.length c0_8) := (blk_cell BL.out 8).trans rfl) | (go_at_call 28; refine (address_calls _ _).mono ?_; rintro e w' ⟨rfl, nd, rfl⟩; (try first | exact ⟨rfl, _, World.drewN_drewN _ _ _⟩)))
 go_ret
 exact ⟨rfl, by repeat (first | exact HB.out | refine pw_below_drewN ?_ _)⟩
set_option maxHeartbeats 8000000 in
set_option maxRecDepth 100000 in
theorem check_bad4 (g0 : addrB a0_1 = true) (g1 : addrB a0_2 = true) (g2 : 1 ≤ a0_3) (g3 : a0_3 ≤ 1125899906842623) (g4 : ¬ (0 ≤ a0_4)) :
  Calls Try.prog 13 #[.agg #[.int .i64 a0_0, .int .i64 a0_1, .int .i64 a0_2, .int .i64 a0_3, .int .i64 a0_4, .int .i64 a0_5, .string a0_6, .slice A0_7 l0_7.length c0_7, .slice A0_8 l0_8.length c0_8]] w fun e w' => e = .returned (.int .i64 70) ∧ Below w.heap.size w w' := by
 have hu25 := Try.underlying25
 have d0 : addrB a0_1 = true := g0
 have d1 : addrB a0_2 = true := g1
 have d2 : decide (a0_3 < 1) = false := decide_eq_false (by omega)
 have d3 : decide (1125899906842623 < a0_3) = false := decide_eq_false (by omega)
 have d4 : decide (a0_4 < 0) = true := decide_eq_true (by omega)
 clear g0 g1 g2 g3 g4
 go_enter Try.func13, Try.ntmps13
 go_wp2_with (first | ((with_reducible refine gate_dst (N := 1) rfl ?_); refine box_event ?hg (N := 1) ?hd (cs := #[.int .i64 a0_0, .int .i64 a0_1, .int .i64 a0_2, .int .i64 a0_3, .int .i64 a0_4, .int .i64 a0_5, .string a0_6, .slice A0_7 l0_7.length c0_7, .slice A0_8 l0_8.length c0_8]) (t := 25) ?hr ?_; (case hd => rfl); (case hg => rfl); (case hr => first | (go_simp; done) | (go_simp; rfl)); intro gl hgl w1 hbox hb; have HB := Aside0.mk hb; have BL := Aside0.mk hbox; clear hgl hb hbox; have hcz_0 : w1.cell? ⟨gl, 0, none⟩ = some (.int .i64 a0_0) := (blk_cell BL.out 0).trans rfl; have hcz_1 : w1.cell? ⟨gl, 1, none⟩ = some (.int .i64 a0_1) := (blk_cell BL.out 1).trans rfl; have hcz_2 : w1.cell? ⟨gl, 2, none⟩ = some (.int .i64 a0_2) := (blk_cell BL.out 2).trans rfl; have hcz_3 : w1.cell? ⟨gl, 3, none⟩ = some (.int .i64 a0_3) := (blk_cell BL.out 3).trans rfl; have hcz_4 : w1.cell? ⟨gl, 4, none⟩ = some (.int .i64 a0_4) := (blk_cell BL.out 4).trans rfl; have hcz_5 : w1.cell? ⟨gl, 5, none⟩ = some (.int .i64 a0_5) := (blk_cell BL.out 5).trans rfl; have hcz_6 : w1.cell? ⟨gl, 6, none⟩ = some (.string a0_6) := (blk_cell BL.out 6).trans rfl; have hcz_7 : w1.cell? ⟨gl, 7, none⟩ = some (.slice A0_7 l0_7.length c0_7) := (blk_cell BL.out 7).trans rfl; have hcz_8 : w1.cell? ⟨gl, 8, none⟩ = some (.slice A0_8 l0_8.length c0_8) := (blk_cell BL.out 8).trans rfl) | (go_at_call 28; refine (address_calls _ _).mono ?_; rintro e w' ⟨rfl, nd, rfl⟩; (try first | exact ⟨rfl, _, World.drewN_drewN _ _ _⟩)))
 go_ret
 exact ⟨rfl, by repeat (first | exact HB.out | refine pw_below_drewN ?_ _)⟩
set_option maxHeartbeats 8000000 in
set_option maxRecDepth 100000 in
theorem check_bad5 (g0 : addrB a0_1 = true) (g1 : addrB a0_2 = true) (g2 : 1 ≤ a0_3) (g3 : a0_3 ≤ 1125899906842623) (g4 : 0 ≤ a0_4) (g5 : ¬ (a0_4 ≤ 1125899906842624)) :
  Calls Try.prog 13 #[.agg #[.int .i64 a0_0, .int .i64 a0_1, .int .i64 a0_2, .int .i64 a0_3, .int .i64 a0_4, .int .i64 a0_5, .string a0_6, .slice A0_7 l0_7.length c0_7, .slice A0_8 l0_8.length c0_8]] w fun e w' => e = .returned (.int .i64 70) ∧ Below w.heap.size w w' := by
 have hu25 := Try.underlying25
 have d0 : addrB a0_1 = true := g0
 have d1 : addrB a0_2 = true := g1
 have d2 : decide (a0_3 < 1) = false := decide_eq_false (by omega)
 have d3 : decide (1125899906842623 < a0_3) = false := decide_eq_false (by omega)
 have d4 : decide (a0_4 < 0) = false := decide_eq_false (by omega)
 have d5 : decide (1125899906842624 < a0_4) = true := decide_eq_true (by omega)
 clear g0 g1 g2 g3 g4 g5
 go_enter Try.func13, Try.ntmps13
 go_wp2_with (first | ((with_reducible refine gate_dst (N := 1) rfl ?_); refine box_event ?hg (N := 1) ?hd (cs := #[.int .i64 a0_0, .int .i64 a0_1, .int .i64 a0_2, .int .i64 a0_3, .int .i64 a0_4, .int .i64 a0_5, .string a0_6, .slice A0_7 l0_7.length c0_7, .slice A0_8 l0_8.length c0_8]) (t := 25) ?hr ?_; (case hd => rfl); (case hg => rfl); (case hr => first | (go_simp; done) | (go_simp; rfl)); intro gl hgl w1 hbox hb; have HB := Aside0.mk hb; have BL := Aside0.mk hbox; clear hgl hb hbox; have hcz_0 : w1.cell? ⟨gl, 0, none⟩ = some (.int .i64 a0_0) := (blk_cell BL.out 0).trans rfl; have hcz_1 : w1.cell? ⟨gl, 1, none⟩ = some (.int .i64 a0_1) := (blk_cell BL.out 1).trans rfl; have hcz_2 : w1.cell? ⟨gl, 2, none⟩ = some (.int .i64 a0_2) := (blk_cell BL.out 2).trans rfl; have hcz_3 : w1.cell? ⟨gl, 3, none⟩ = some (.int .i64 a0_3) := (blk_cell BL.out 3).trans rfl; have hcz_4 : w1.cell? ⟨gl, 4, none⟩ = some (.int .i64 a0_4) := (blk_cell BL.out 4).trans rfl; have hcz_5 : w1.cell? ⟨gl, 5, none⟩ = some (.int .i64 a0_5) := (blk_cell BL.out 5).trans rfl; have hcz_6 : w1.cell? ⟨gl, 6, none⟩ = some (.string a0_6) := (blk_cell BL.out 6).trans rfl; have hcz_7 : w1.cell? ⟨gl, 7, none⟩ = some (.slice A0_7 l0_7.length c0_7) := (blk_cell BL.out 7).trans rfl; have hcz_8 : w1.cell? ⟨gl, 8, none⟩ = some (.slice A0_8 l0_8.length c0_8) := (blk_cell BL.out 8).trans rfl) | (go_at_call 28; refine (address_calls _ _).mono ?_; rintro e w' ⟨rfl, nd, rfl⟩; (try first | exact ⟨rfl, _, World.drewN_drewN _ _ _⟩)))
 go_ret
 exact ⟨rfl, by repeat (first | exact HB.out | refine pw_below_drewN ?_ _)⟩
set_option maxHeartbeats 8000000 in
set_option maxRecDepth 100000 in
theorem check_bad6 (g0 : addrB a0_1 = true) (g1 : addrB a0_2 = true) (g2 : 1 ≤ a0_3) (g3 : a0_3 ≤ 1125899906842623) (g4 : 0 ≤ a0_4) (g5 : a0_4 ≤ 1125899906842624) (g6 : ¬ (0 ≤ a0_5)) :
  Calls Try.prog 13 #[.agg #[.int .i64 a0_0, .int .i64 a0_1, .int .i64 a0_2, .int .i64 a0_3, .int .i64 a0_4, .int .i64 a0_5, .string a0_6, .slice A0_7 l0_7.length c0_7, .slice A0_8 l0_8.length c0_8]] w fun e w' => e = .returned (.int .i64 70) ∧ Below w.heap.size w w' := by
 have hu25 := Try.underlying25
 have d0 : addrB a0_1 = true := g0
 have d1 : addrB a0_2 = true := g1
 have d2 : decide (a0_3 < 1) = false := decide_eq_false (by omega)
 have d3 : decide (1125899906842623 < a0_3) = false := decide_eq_false (by omega)
 have d4 : decide (a0_4 < 0) = false := decide_eq_false (by omega)
 have d5 : decide (1125899906842624 < a0_4) = false := decide_eq_false (by omega)
 have d6 : decide (a0_5 < 0) = true := decide_eq_true (by omega)
 clear g0 g1 g2 g3 g4 g5 g6
 go_enter Try.func13, Try.ntmps13
 go_wp2_with (first | ((with_reducible refine gate_dst (N := 1) rfl ?_); refine box_event ?hg (N := 1) ?hd (cs := #[.int .i64 a0_0, .int .i64 a0_1, .int .i64 a0_2, .int .i64 a0_3, .int .i64 a0_4, .int .i64 a0_5, .string a0_6, .slice A0_7 l0_7.length c0_7, .slice A0_8 l0_8.length c0_8]) (t := 25) ?hr ?_; (case hd => rfl); (case hg => rfl); (case hr => first | (go_simp; done) | (go_simp; rfl)); intro gl hgl w1 hbox hb; have HB := Aside0.mk hb; have BL := Aside0.mk hbox; clear hgl hb hbox; have hcz_0 : w1.cell? ⟨gl, 0, none⟩ = some (.int .i64 a0_0) := (blk_cell BL.out 0).trans rfl; have hcz_1 : w1.cell? ⟨gl, 1, none⟩ = some (.int .i64 a0_1) := (blk_cell BL.out 1).trans rfl; have hcz_2 : w1.cell? ⟨gl, 2, none⟩ = some (.int .i64 a0_2) := (blk_cell BL.out 2).trans rfl; have hcz_3 : w1.cell? ⟨gl, 3, none⟩ = some (.int .i64 a0_3) := (blk_cell BL.out 3).trans rfl; have hcz_4 : w1.cell? ⟨gl, 4, none⟩ = some (.int .i64 a0_4) := (blk_cell BL.out 4).trans rfl; have hcz_5 : w1.cell? ⟨gl, 5, none⟩ = some (.int .i64 a0_5) := (blk_cell BL.out 5).trans rfl; have hcz_6 : w1.cell? ⟨gl, 6, none⟩ = some (.string a0_6) := (blk_cell BL.out 6).trans rfl; have hcz_7 : w1.cell? ⟨gl, 7, none⟩ = some (.slice A0_7 l0_7.length c0_7) := (blk_cell BL.out 7).trans rfl; have hcz_8 : w1.cell? ⟨gl, 8, none⟩ = some (.slice A0_8 l0_8.length c0_8) := (blk_cell BL.out 8).trans rfl) | (go_at_call 28; refine (address_calls _ _).mono ?_; rintro e w' ⟨rfl, nd, rfl⟩; (try first | exact ⟨rfl, _, World.drewN_drewN _ _ _⟩)))
 go_ret
 exact ⟨rfl, by repeat (first | exact HB.out | refine pw_below_drewN ?_ _)⟩
set_option maxHeartbeats 8000000 in
set_option maxRecDepth 100000 in
theorem check_good (hr0_7 : Kd.C Kd.string w A0_7 l0_7.length l0_7) (hc0_7 : l0_7.length ≤ c0_7) (hr0_8 : Kd.C k49 w A0_8 l0_8.length l0_8) (hc0_8 : l0_8.length ≤ c0_8) (hl7 : l0_7.length ≤ 8796093022000) (hl8 : l0_8.length ≤ 8796093022000) (g0 : addrB a0_1 = true) (g1 : addrB a0_2 = true) (g2 : 1 ≤ a0_3) (g3 : a0_3 ≤ 1125899906842623) (g4 : 0 ≤ a0_4) (g5 : a0_4 ≤ 1125899906842624) (g6 : 0 ≤ a0_5) :
  Calls Try.prog 13 #[.agg #[.int .i64 a0_0, .int .i64 a0_1, .int .i64 a0_2, .int .i64 a0_3, .int .i64 a0_4, .int .i64 a0_5, .string a0_6, .slice A0_7 l0_7.length c0_7, .slice A0_8 l0_8.length c0_8]] w fun e w' => e = .returned (.int .i64 (fin4 a0_5 (sw a0_0 a0_5 a0_6 l0_7 l0_8))) ∧ Below w.heap.size w w' := by
 have hu25 := Try.underlying25
 have HR7 := Aside0.mk hr0_7
 have HR8 := Aside0.mk hr0_8
 have d0 : addrB a0_1 = true := g0
 have d1 : addrB a0_2 = true := g1
 have d2 : decide (a0_3 < 1) = false := decide_eq_false (by omega)
 have d3 : decide (1125899906842623 < a0_3) = false := decide_eq_false (by omega)
 have d4 : decide (a0_4 < 0) = false := decide_eq_false (by omega)
 have d5 : decide (1125899906842624 < a0_4) = false := decide_eq_false (by omega)
 have d6 : decide (a0_5 < 0) = false := decide_eq_false (by omega)
 clear hr0_7 hr0_8 g0 g1 g2 g3 g4 g5 g6
 go_enter Try.func13, Try.ntmps13
 go_wp2_with (first | ((with_reducible refine gate_dst (N := 1) rfl ?_); refine box_event ?hg (N := 1) ?hd (cs := #[.int .i64 a0_0, .int .i64 a0_1, .int .i64 a0_2, .int .i64 a0_3, .int .i64 a0_4, .int .i64 a0_5, .string a0_6, .slice A0_7 l0_7.length c0_7, .slice A0_8 l0_8.length c0_8]) (t := 25) ?hr ?_; (case hd => rfl); (case hg => rfl); (case hr => first | (go_simp; done) | (go_simp; rfl)); intro gl hgl w1 hbox hb; have HB := Aside0.mk hb; have BL := Aside0.mk hbox; clear hgl hb hbox; have hcz_0 : w1.cell? ⟨gl, 0, none⟩ = some (.int .i64 a0_0) := (blk_cell BL.out 0).trans rfl; have hcz_1 : w1.cell? ⟨gl, 1, none⟩ = some (.int .i64 a0_1) := (blk_cell BL.out 1).trans rfl; have hcz_2 : w1.cell? ⟨gl, 2, none⟩ = some (.int .i64 a0_2) := (blk_cell BL.out 2).trans rfl; have hcz_3 : w1.cell? ⟨gl, 3, none⟩ = some (.int .i64 a0_3) := (blk_cell BL.out 3).trans rfl; have hcz_4 : w1.cell? ⟨gl, 4, none⟩ = some (.int .i64 a0_4) := (blk_cell BL.out 4).trans rfl; have hcz_5 : w1.cell? ⟨gl, 5, none⟩ = some (.int .i64 a0_5) := (blk_cell BL.out 5).trans rfl; have hcz_6 : w1.cell? ⟨gl, 6, none⟩ = some (.string a0_6) := (blk_cell BL.out 6).trans rfl; have hcz_7 : w1.cell? ⟨gl, 7, none⟩ = some (.slice A0_7 l0_7.length c0_7) := (blk_cell BL.out 7).trans rfl; have hcz_8 : w1.cell? ⟨gl, 8, none⟩ = some (.slice A0_8 l0_8.length c0_8) := (blk_cell BL.out 8).trans rfl) | (go_at_call 28; refine (address_calls _ _).mono ?_; rintro e w' ⟨rfl, nd, rfl⟩; (try first | exact ⟨rfl, _, World.drewN_drewN _ _ _⟩)))
 go_quiet (fail)
 generalize eW : World.drewN w1 _ = W
 have HBq : Aside0 (Below w.heap.size w W) := ⟨by rw [← eW]; exact pw_below_drewN HB.out _⟩
 have BLq : Aside0 (W.heap[gl]? = some (.cells #[.int .i64 a0_0, .int .i64 a0_1, .int .i64 a0_2, .int .i64 a0_3, .int .i64 a0_4, .int .i64 a0_5, .string a0_6, .slice A0_7 l0_7.length c0_7, .slice A0_8 l0_8.length c0_8] 25 (0, 0))) := ⟨by rw [← eW]; exact blk_drewN BL.out _⟩
 clear eW HB BL hcz_0 hcz_1 hcz_2 hcz_3 hcz_4 hcz_5 hcz_6 hcz_7 hcz_8
 have hcz_0 : W.cell? ⟨gl, 0, none⟩ = some (.int .i64 a0_0) := (blk_cell BLq.out 0).trans rfl
 have hcz_1 : W.cell? ⟨gl, 1, none⟩ = some (.int .i64 a0_1) := (blk_cell BLq.out 1).trans rfl
 have hcz_2 : W.cell? ⟨gl, 2, none⟩ = some (.int .i64 a0_2) := (blk_cell BLq.out 2).trans rfl
 have hcz_3 : W.cell? ⟨gl, 3, none⟩ = some (.int .i64 a0_3) := (blk_cell BLq.out 3).trans rfl
 have hcz_4 : W.cell? ⟨gl, 4, none⟩ = some (.int .i64 a0_4) := (blk_cell BLq.out 4).trans rfl
 have hcz_5 : W.cell? ⟨gl, 5, none⟩ = some (.int .i64 a0_5) := (blk_cell BLq.out 5).trans rfl
 have hcz_6 : W.cell? ⟨gl, 6, none⟩ = some (.string a0_6) := (blk_cell BLq.out 6).trans rfl
 have hcz_7 : W.cell? ⟨gl, 7, none⟩ = some (.slice A0_7 l0_7.length c0_7) := (blk_cell BLq.out 7).trans rfl
 have hcz_8 : W.cell? ⟨gl, 8, none⟩ = some (.slice A0_8 l0_8.length c0_8) := (blk_cell BLq.out 8).trans rfl
 go_upto_block 0 with (fail)
 go_cut [3, 4, 5, 6] (fun v3 v4 v5 v6 wc => ∃ (m : Int) (kB wB tB : Bool), v3 = .int .i64 m ∧ v4 = .bool kB ∧ v5 = .bool wB ∧ v6 = .bool tB ∧ Aside0 (sw a0_0 a0_5 a0_6 l0_7 l0_8 = some (m, kB, wB, tB)) ∧ Aside0 (Below w.heap.size w wc) ∧ Aside0 (wc.heap[gl]? = some (.cells #[.int .i64 a0_0, .int .i64 a0_1, .int .i64 a0_2, .int .i64 a0_3, .int .i64 a0_4, .int .i64 a0_5, .string a0_6, .slice A0_7 l0_7.length c0_7, .slice A0_8 l0_8.length c0_8] 25 (0, 0))))
 case first =>
  by_cases q2 : a0_0 = 2
  ·subst q2
   by_cases hsz : a0_6.size ≤ 2052
   ·have s1 : decide ((a0_6.size : Int) ≤ 2052) = true := decide_eq_true (by omega)
    have s2 : decide (a0_6.size ≤ 2052) = true := decide_eq_true hsz
    have HS := Aside0.mk s2
    clear hsz
    by_cases he : a0_6.toList.isEmpty = true
    ·have HE := Aside0.mk he
     by_cases hk1 : l0_7.length = 1
     ·obtain ⟨ad, rfl, hx0⟩ := Kd.at_string (Kd.C_below HR7.out HBq.out) 0 (by omega) (by omega)
      have hx : W.cell? (ad.add 0) = some (.string (rdOf ByteArray.empty l0_7 0)) := hx0
      have hx1 : W.cell? ad = some (.string (rdOf ByteArray.empty l0_7 0)) := by rw [add_zero_] at hx; exact hx
      have k1 : ((l0_7.length : Int) == 1) = true := by simp; omega
      have k2 : (l0_7.length == 1) = true := by simp; omega
      have k3 : decide (0 < l0_7.length) = true := decide_eq_true (by omega)
      have k4 : decide ((0 : Int) < (l0_7.length : Int)) = true := decide_eq_true (by omega)
      have k5 : 0 < l0_7.length := by omega
      have HK1 := Aside0.mk hk1
      clear hk1 hx0
      go_wp2_with ((go_at_call 18; refine (key_calls _ _).mono ?_; rintro e w' ⟨rfl, nd, rfl⟩))
      go_meet
      case rel => exact ⟨4, (keyB (rdOf ByteArray.empty l0_7 0)), ((l0_8.length : Int) == 0), true, rfl, rfl, rfl, rfl, ⟨by simp [sw, HK1.out, HS.out, HE.out]⟩, ⟨by repeat (first | exact HBq.out | refine pw_below_drewN ?_ _)⟩, ⟨by (with_reducible repeat (first | refine blk_drewN ?_ _ | refine blk_drew ?_)); exact BLq.out⟩⟩
     ·have k1 : ((l0_7.length : Int) == 1) = false := by simp; omega
      have k2 : (l0_7.length == 1) = false := by simp; omega
      have HK1 := Aside0.mk hk1
      clear hk1
      go_wp2
      go_meet
      case rel => exact ⟨4, false, ((l0_8.length : Int) == 0), true, rfl, rfl, rfl, rfl, ⟨by simp [sw, HK1.out, HS.out, HE.out]⟩, ⟨by repeat (first | exact HBq.out | refine pw_below_drewN ?_ _)⟩, ⟨by (with_reducible repeat (first | refine blk_drewN ?_ _ | refine blk_drew ?_)); exact BLq.out⟩⟩
    ·have he2 : a0_6.toList.isEmpty = false := by simpa using he
     have HE := Aside0.mk he2
     clear he
     by_cases hc1 : a0_5 = 1
     ·have e1 : (a0_5 == 1) = true := by simpa using hc1
      have HC1 := Aside0.mk e1
      clear hc1
      by_cases hk1 : l0_7.length = 1
      ·obtain ⟨ad, rfl, hx0⟩ := Kd.at_string (Kd.C_below HR7.out HBq.out) 0 (by omega) (by omega)
       have hx : W.cell? (ad.add 0) = some (.string (rdOf ByteArray.empty l0_7 0)) := hx0
       have hx1 : W.cell? ad = some (.string (rdOf ByteArray.empty l0_7 0)) := by rw [add_zero_] at hx; exact hx
       have k1 : ((l0_7.length : Int) == 1) = true := by simp; omega
       have k2 : (l0_7.length == 1) = true := by simp; omega
       have k3 : decide (0 < l0_7.length) = true := decide_eq_true (by omega)
       have k4 : decide ((0 : Int) < (l0_7.length : Int)) = true := decide_eq_true (by omega)
       have k5 : 0 < l0_7.length := by omega
       have HK1 := Aside0.mk hk1
       clear hk1 hx0
       go_wp2_with ((go_at_call 18; refine (key_calls _ _).mono ?_; rintro e w' ⟨rfl, nd, rfl⟩))
       go_meet
       case rel => exact ⟨4, (keyB (rdOf ByteArray.empty l0_7 0)), ((l0_8.length : Int) == 0), true, rfl, rfl, rfl, rfl, ⟨by simp [sw, HK1.out, HS.out, HE.out, HC1.out]⟩, ⟨by repeat (first | exact HBq.out | refine pw_below_drewN ?_ _)⟩, ⟨by (with_reducible repeat (first | refine blk_drewN ?_ _ | refine blk_drew ?_)); exact BLq.out⟩⟩
      ·have k1 : ((l0_7.length : Int) == 1) = false := by simp; omega
       have k2 : (l0_7.length == 1) = false := by simp; omega
       have HK1 := Aside0.mk hk1
       clear hk1
       go_wp2
       go_meet
       case rel => exact ⟨4, false, ((l0_8.length : Int) == 0), true, rfl, rfl, rfl, rfl, ⟨by simp [sw, HK1.out, HS.out, HE.out, HC1.out]⟩, ⟨by repeat (first | exact HBq.out | refine pw_below_drewN ?_ _)⟩, ⟨by (with_reducible repeat (first | refine blk_drewN ?_ _ | refine blk_drew ?_)); exact BLq.out⟩⟩
     ·have e1 : (a0_5 == 1) = false := by simpa using hc1
      have HC1 := Aside0.mk e1
      clear hc1
      by_cases hk1 : l0_7.length = 1
      ·obtain ⟨ad, rfl, hx0⟩ := Kd.at_string (Kd.C_below HR7.out HBq.out) 0 (by omega) (by omega)
       have hx : W.cell? (ad.add 0) = some (.string (rdOf ByteArray.empty l0_7 0)) := hx0
       have hx1 : W.cell? ad = some (.string (rdOf ByteArray.empty l0_7 0)) := by rw [add_zero_] at hx; exact hx
       have k1 : ((l0_7.length : Int) == 1) = true := by simp; omega
       have k2 : (l0_7.length == 1) = true := by simp; omega
       have k3 : decide (0 < l0_7.length) = true := decide_eq_true (by omega)
       have k4 : decide ((0 : Int) < (l0_7.length : Int)) = true := decide_eq_true (by omega)
       have k5 : 0 < l0_7.length := by omega
       have HK1 := Aside0.mk hk1
       clear hk1 hx0
       go_wp2_with ((go_at_call 18; refine (key_calls _ _).mono ?_; rintro e w' ⟨rfl, nd, rfl⟩))
       go_meet
       case rel => exact ⟨4, (keyB (rdOf ByteArray.empty l0_7 0)), ((l0_8.length : Int) == 0), false, rfl, rfl, rfl, rfl, ⟨by simp [sw, HK1.out, HS.out, HE.out, HC1.out]⟩, ⟨by repeat (first | exact HBq.out | refine pw_below_drewN ?_ _)⟩, ⟨by (with_reducible repeat (first | refine blk_drewN ?_ _ | refine blk_drew ?_)); exact BLq.out⟩⟩
      ·have k1 : ((l0_7.length : Int) == 1) = false := by simp; omega
       have k2 : (l0_7.length == 1) = false := by simp; omega
       have HK1 := Aside0.mk hk1
       clear hk1
       go_wp2
       go_meet
       case rel => exact ⟨4, false, ((l0_8.length : Int) == 0), false, rfl, rfl, rfl, rfl, ⟨by simp [sw, HK1.out, HS.out, HE.out, HC1.out]⟩, ⟨by repeat (first | exact HBq.out | refine pw_below_drewN ?_ _)⟩, ⟨by (with_reducible repeat (first | refine blk_drewN ?_ _ | refine blk_drew ?_)); exact BLq.out⟩⟩
   ·have s1 : decide ((a0_6.size : Int) ≤ 2052) = false := decide_eq_false (by omega)
    have s2 : decide (a0_6.size ≤ 2052) = false := decide_eq_false hsz
    have HS := Aside0.mk s2
    clear hsz
    by_cases hk1 : l0_7.length = 1
    ·obtain ⟨ad, rfl, hx0⟩ := Kd.at_string (Kd.C_below HR7.out HBq.out) 0 (by omega) (by omega)
     have hx : W.cell? (ad.add 0) = some (.string (rdOf ByteArray.empty l0_7 0)) := hx0
     have hx1 : W.cell? ad = some (.string (rdOf ByteArray.empty l0_7 0)) := by rw [add_zero_] at hx; exact hx
     have k1 : ((l0_7.length : Int) == 1) = true := by simp; omega
     have k2 : (l0_7.length == 1) = true := by simp; omega
     have k3 : decide (0 < l0_7.length) = true := decide_eq_true (by omega)
     have k4 : decide ((0 : Int) < (l0_7.length : Int)) = true := decide_eq_true (by omega)
     have k5 : 0 < l0_7.length := by omega
     have HK1 := Aside0.mk hk1
     clear hk1 hx0
     go_wp2_with ((go_at_call 18; refine (key_calls _ _).mono ?_; rintro e w' ⟨rfl, nd, rfl⟩))
     go_meet
     case rel => exact ⟨4, (keyB (rdOf ByteArray.empty l0_7 0)), ((l0_8.length : Int) == 0), false, rfl, rfl, rfl, rfl, ⟨by simp [sw, HK1.out, HS.out]⟩, ⟨by repeat (first | exact HBq.out | refine pw_below_drewN ?_ _)⟩, ⟨by (with_reducible repeat (first | refine blk_drewN ?_ _ | refine blk_drew ?_)); exact BLq.out⟩⟩
    ·have k1 : ((l0_7.length : Int) == 1) = false := by simp; omega
     have k2 : (l0_7.length == 1) = false := by simp; omega
     have HK1 := Aside0.mk hk1
     clear hk1
     go_wp2
     go_meet
     case rel => exact ⟨4, false, ((l0_8.length : Int) == 0), false, rfl, rfl, rfl, rfl, ⟨by simp [sw, HK1.out, HS.out]⟩, ⟨by repeat (first | exact HBq.out | refine pw_below_drewN ?_ _)⟩, ⟨by (with_reducible repeat (first | refine blk_drewN ?_ _ | refine blk_drew ?_)); exact BLq.out⟩⟩
  ·by_cases q1 : a0_0 = 1
   ·subst q1
    clear q2
    by_cases hk1 : l0_7.length = 1
    ·obtain ⟨ad, rfl, hx0⟩ := Kd.at_string (Kd.C_below HR7.out HBq.out) 0 (by omega) (by omega)
     have hx : W.cell? (ad.add 0) = some (.string (rdOf ByteArray.empty l0_7 0)) := hx0
     have hx1 : W.cell? ad = some (.string (rdOf ByteArray.empty l0_7 0)) := by rw [add_zero_] at hx; exact hx
     have k1 : ((l0_7.length : Int) == 1) = true := by simp; omega
     have k2 : (l0_7.length == 1) = true := by simp; omega
     have k3 : decide (0 < l0_7.length) = true := decide_eq_true (by omega)
     have k4 : decide ((0 : Int) < (l0_7.length : Int)) = true := decide_eq_true (by omega)
     have k5 : 0 < l0_7.length := by omega
     have HK1 := Aside0.mk hk1
     clear hk1 hx0
     go_wp2_with ((go_at_call 18; refine (key_calls _ _).mono ?_; rintro e w' ⟨rfl, nd, rfl⟩))
     go_meet
     case rel => exact ⟨0, (keyB (rdOf ByteArray.empty l0_7 0)), ((l0_8.length : Int) == 0), a0_6.toList.isEmpty, rfl, rfl, rfl, rfl, ⟨by simp [sw, HK1.out]⟩, ⟨by repeat (first | exact HBq.out | refine pw_below_drewN ?_ _)⟩, ⟨by (with_reducible repeat (first | refine blk_drewN ?_ _ | refine blk_drew ?_)); exact BLq.out⟩⟩
    ·have k1 : ((l0_7.length : Int) == 1) = false := by simp; omega
     have k2 : (l0_7.length == 1) = false := by simp; omega
     have HK1 := Aside0.mk hk1
     clear hk1
     go_wp2
     go_meet
     case rel => exact ⟨0, false, ((l0_8.length : Int) == 0), a0_6.toList.isEmpty, rfl, rfl, rfl, rfl, ⟨by simp [sw, HK1.out]⟩, ⟨by repeat (first | exact HBq.out | refine pw_below_drewN ?_ _)⟩, ⟨by (with_reducible repeat (first | refine blk_drewN ?_ _ | refine blk_drew ?_)); exact BLq.out⟩⟩
   ·by_cases q3 : a0_0 = 3
    ·subst q3
     clear q2 q1
     by_cases h16 : l0_7.length ≤ 16
     ·have k1 : decide ((l0_7.length : Int) ≤ 16) = true := decide_eq_true (by omega)
      have k2 : decide (l0_7.length ≤ 16) = true := decide_eq_true h16
      have HK := Aside0.mk k2
      clear h16
      go_wp2_with (first | (go_at_call 20; refine (rising_calls _ A0_7 c0_7 l0_7 (Kd.C_below HR7.out (show Below w.heap.size w _ from by repeat (first | exact HBq.out | refine pw_below_drewN ?_ _))) hc0_7 hl7).mono ?_; rintro e w' ⟨rfl, nd, rfl⟩) | (go_at_call 29; refine (writes_calls _ A0_8 c0_8 l0_8 (Kd.C_below HR8.out (show Below w.heap.size w _ from by repeat (first | exact HBq.out | refine pw_below_drewN ?_ _))) hc0_8 hl8).mono ?_; rintro e w9 ⟨rfl, hb⟩; have HB9 := Aside0.mk (below_step (show Below w.heap.size w _ from by repeat (first | exact HBq.out | refine pw_below_drewN ?_ _)) hb); have BL9 := Aside0.mk (blk_below (show _ = some (Obj.cells #[.int .i64 3, .int .i64 a0_1, .int .i64 a0_2, .int .i64 a0_3, .int .i64 a0_4, .int .i64 a0_5, .string a0_6, .slice A0_7 l0_7.length c0_7, .slice A0_8 l0_8.length c0_8] 25 (0, 0)) from by (with_reducible repeat (first | refine blk_drewN ?_ _ | refine blk_drew ?_)); exact BLq.out) hb); clear hb))
      go_meet
      case rel => exact ⟨0, risB l0_7, wriB l0_8, a0_6.toList.isEmpty, rfl, rfl, rfl, rfl, ⟨by simp [sw, HK.out]⟩, ⟨HB9.out⟩, ⟨BL9.out⟩⟩
     ·have k1 : decide ((l0_7.length : Int) ≤ 16) = false := decide_eq_false (by omega)
      have k2 : decide (l0_7.length ≤ 16) = false := decide_eq_false h16
      have HK := Aside0.mk k2
      clear h16
      go_wp2_with ((go_at_call 29; refine (writes_calls _ A0_8 c0_8 l0_8 (Kd.C_below HR8.out (show Below w.heap.size w _ from by repeat (first | exact HBq.out | refine pw_below_drewN ?_ _))) hc0_8 hl8).mono ?_; rintro e w9 ⟨rfl, hb⟩; have HB9 := Aside0.mk (below_step (show Below w.heap.size w _ from by repeat (first | exact HBq.out | refine pw_below_drewN ?_ _)) hb); have BL9 := Aside0.mk (blk_below (show _ = some (Obj.cells #[.int .i64 3, .int .i64 a0_1, .int .i64 a0_2, .int .i64 a0_3, .int .i64 a0_4, .int .i64 a0_5, .string a0_6, .slice A0_7 l0_7.length c0_7, .slice A0_8 l0_8.length c0_8] 25 (0, 0)) from by (with_reducible repeat (first | refine blk_drewN ?_ _ | refine blk_drew ?_)); exact BLq.out) hb); clear hb))
      go_meet
      case rel => exact ⟨0, false, wriB l0_8, a0_6.toList.isEmpty, rfl, rfl, rfl, rfl, ⟨by simp [sw, HK.out]⟩, ⟨HB9.out⟩, ⟨BL9.out⟩⟩
    ·by_cases q8 : a0_0 = 8
     ·subst q8
      clear q2 q1 q3
      go_wp2
      go_meet
      case rel => exact ⟨2, ((l0_7.length : Int) == 0), ((l0_8.length : Int) == 0), a0_6.toList.isEmpty, rfl, rfl, rfl, rfl, ⟨by simp [sw]⟩, ⟨by repeat (first | exact HBq.out | refine pw_below_drewN ?_ _)⟩, ⟨by (with_reducible repeat (first | refine blk_drewN ?_ _ | refine blk_drew ?_)); exact BLq.out⟩⟩
     ·by_cases q4 : a0_0 = 4
      ·subst q4
       clear q2 q1 q3 q8
       go_wp2
       go_meet
       case rel => exact ⟨1, ((l0_7.length : Int) == 0), ((l0_8.length : Int) == 0), a0_6.toList.isEmpty, rfl, rfl, rfl, rfl, ⟨by simp [sw]⟩, ⟨by repeat (first | exact HBq.out | refine pw_below_drewN ?_ _)⟩, ⟨by (with_reducible repeat (first | refine blk_drewN ?_ _ | refine blk_drew ?_)); exact BLq.out⟩⟩
      ·by_cases q5 : a0_0 = 5
       ·subst q5
        clear q2 q1 q3 q8 q4
        go_wp2
        go_meet
        case rel => exact ⟨0, ((l0_7.length : Int) == 0), ((l0_8.length : Int) == 0), a0_6.toList.isEmpty, rfl, rfl, rfl, rfl, ⟨by simp [sw]⟩, ⟨by repeat (first | exact HBq.out | refine pw_below_drewN ?_ _)⟩, ⟨by (with_reducible repeat (first | refine blk_drewN ?_ _ | refine blk_drew ?_)); exact BLq.out⟩⟩
       ·by_cases q6 : a0_0 = 6
        ·subst q6
         clear q2 q1 q3 q8 q4 q5
         go_wp2
         go_meet
         case rel => exact ⟨0, ((l0_7.length : Int) == 0), ((l0_8.length : Int) == 0), a0_6.toList.isEmpty, rfl, rfl, rfl, rfl, ⟨by simp [sw]⟩, ⟨by repeat (first | exact HBq.out | refine pw_below_drewN ?_ _)⟩, ⟨by (with_reducible repeat (first | refine blk_drewN ?_ _ | refine blk_drew ?_)); exact BLq.out⟩⟩
        ·by_cases q7 : a0_0 = 7
         ·subst q7
          clear q2 q1 q3 q8 q4 q5 q6
          go_wp2
          go_meet
          case rel => exact ⟨0, ((l0_7.length : Int) == 0), ((l0_8.length : Int) == 0), a0_6.toList.isEmpty, rfl, rfl, rfl, rfl, ⟨by simp [sw]⟩, ⟨by repeat (first | exact HBq.out | refine pw_below_drewN ?_ _)⟩, ⟨by (with_reducible repeat (first | refine blk_drewN ?_ _ | refine blk_drew ?_)); exact BLq.out⟩⟩
         ·have hsw : sw a0_0 a0_5 a0_6 l0_7 l0_8 = none := by unfold sw; rw [if_neg q2, if_neg q1, if_neg q3, if_neg q8, if_neg q4, if_neg (by omega)]
          have e2 : (a0_0 == 2) = false := by simpa using q2
          have e1 : (a0_0 == 1) = false := by simpa using q1
          have e3 : (a0_0 == 3) = false := by simpa using q3
          have e8 : (a0_0 == 8) = false := by simpa using q8
          have e4 : (a0_0 == 4) = false := by simpa using q4
          have e5 : (a0_0 == 5) = false := by simpa using q5
          have e6 : (a0_0 == 6) = false := by simpa using q6
          have e7 : (a0_0 == 7) = false := by simpa using q7
          have HSW := Aside0.mk hsw
          clear hsw q2 q1 q3 q8 q4 q5 q6 q7
          go_wp2
          go_ret
          exact ⟨by rw [HSW.out]; rfl, by repeat (first | exact HBq.out | refine pw_below_drewN ?_ _)⟩
 case rest =>
  obtain ⟨m, kB, wB, tB, rfl, rfl, rfl, rfl, HS, HB, BL⟩ := hcut
  have hv := HS.out
  by_cases h1 : a0_5 ≤ m
  ·have c1 : decide (m < a0_5) = false := decide_eq_false (by omega)
   cases kB with
   |false =>
    have HV := Aside0.mk (show fin4 a0_5 (sw a0_0 a0_5 a0_6 l0_7 l0_8) = 70 from by rw [hv]; simp [fin4])
    clear h1 hv HS
    have hcz_5 : wc.cell? ⟨gl, 5, none⟩ = some (.int .i64 a0_5) := (blk_cell BL.out 5).trans rfl
    go_wp2
    go_ret
    exact ⟨by rw [HV.out]; rfl, HB.out⟩
   |true =>
    cases wB with
    |false =>
     have HV := Aside0.mk (show fin4 a0_5 (sw a0_0 a0_5 a0_6 l0_7 l0_8) = 70 from by rw [hv]; simp [fin4])
     clear h1 hv HS
     have hcz_5 : wc.cell? ⟨gl, 5, none⟩ = some (.int .i64 a0_5) := (blk_cell BL.out 5).trans rfl
     go_wp2
     go_ret
     exact ⟨by rw [HV.out]; rfl, HB.out⟩
    |true =>
     cases tB with
     |false =>
      have HV := Aside0.mk (show fin4 a0_5 (sw a0_0 a0_5 a0_6 l0_7 l0_8) = 70 from by rw [hv]; simp [fin4])
      clear h1 hv HS
      have hcz_5 : wc.cell? ⟨gl, 5, none⟩ = some (.int .i64 a0_5) := (blk_cell BL.out 5).trans rfl
      go_wp2
      go_ret
      exact ⟨by rw [HV.out]; rfl, HB.out⟩
     |true =>
      have HV := Aside0.mk (show fin4 a0_5 (sw a0_0 a0_5 a0_6 l0_7 l0_8) = 0 from by rw [hv]; simp [fin4, h1])
      clear h1 hv HS
      have hcz_5 : wc.cell? ⟨gl, 5, none⟩ = some (.int .i64 a0_5) := (blk_cell BL.out 5).trans rfl
      go_wp2
      go_ret
      exact ⟨by rw [HV.out]; rfl, HB.out⟩
  ·have c1 : decide (m < a0_5) = true := decide_eq_true (by omega)
   have HV := Aside0.mk (show fin4 a0_5 (sw a0_0 a0_5 a0_6 l0_7 l0_8) = 70 from by rw [hv]; simp [fin4]; omega)
   clear h1 hv HS
   have hcz_5 : wc.cell? ⟨gl, 5, none⟩ = some (.int .i64 a0_5) := (blk_cell BL.out 5).trans rfl
   go_wp2
   go_ret
   exact ⟨by rw [HV.out]; rfl, HB.out⟩
end
theorem letter_Check.calls (a0_0 : Int) (a0_1 : Int) (a0_2 : Int) (a0_3 : Int) (a0_4 : Int) (a0_5 : Int) (a0_6 : ByteArray) (A0_7 : Option Addr) (c0_7 : Nat) (l0_7 : List ByteArray) (A0_8 : Option Addr) (c0_8 : Nat) (l0_8 : List (S49)) (r : Int) (w : World) (hr0_7 : Kd.C Kd.string w A0_7 l0_7.length l0_7) (hc0_7 : l0_7.length ≤ c0_7) (hr0_8 : Kd.C k49 w A0_8 l0_8.length l0_8) (hc0_8 : l0_8.length ≤ c0_8) (h : letter_Check.f a0_0 a0_1 a0_2 a0_3 a0_4 a0_5 a0_6 l0_7 l0_8 = some r) :
  Calls Try.prog 13 #[.agg #[.int .i64 a0_0, .int .i64 a0_1, .int .i64 a0_2, .int .i64 a0_3, .int .i64 a0_4, .int .i64 a0_5, .string a0_6, .slice A0_7 l0_7.length c0_7, .slice A0_8 l0_8.length c0_8]] w fun e w' => e = .returned (.int .i64 r) ∧ Below w.heap.size w w' := by
 unfold letter_Check.f at h
 split at h
 case isFalse => cases h
 rename_i hl
 obtain rfl := Option.some.inj h
 obtain ⟨hl7, hl8⟩ := hl
 unfold chkL
 by_cases g0 : addrB a0_1 = true
 case neg => rw [if_neg (fun hc => g0 hc.1)]; exact check_bad0 _ _ _ _ _ _ _ _ _ _ _ _ _ _ g0
 by_cases g1 : addrB a0_2 = true
 case neg => rw [if_neg (fun hc => g1 hc.2.1)]; exact check_bad1 _ _ _ _ _ _ _ _ _ _ _ _ _ _ g0 g1
 by_cases g2 : 1 ≤ a0_3
 case neg => rw [if_neg (fun hc => g2 hc.2.2.1)]; exact check_bad2 _ _ _ _ _ _ _ _ _ _ _ _ _ _ g0 g1 g2
 by_cases g3 : a0_3 ≤ 1125899906842623
 case neg => rw [if_neg (fun hc => g3 hc.2.2.2.1)]; exact check_bad3 _ _ _ _ _ _ _ _ _ _ _ _ _ _ g0 g1 g2 g3
 by_cases g4 : 0 ≤ a0_4
 case neg => rw [if_neg (fun hc => g4 hc.2.2.2.2.1)]; exact check_bad4 _ _ _ _ _ _ _ _ _ _ _ _ _ _ g0 g1 g2 g3 g4
 by_cases g5 : a0_4 ≤ 1125899906842624
 case neg => rw [if_neg (fun hc => g5 hc.2.2.2.2.2.1)]; exact check_bad5 _ _ _ _ _ _ _ _ _ _ _ _ _ _ g0 g1 g2 g3 g4 g5
 by_cases g6 : 0 ≤ a0_5
 case neg => rw [if_neg (fun hc => g6 hc.2.2.2.2.2.2)]; exact check_bad6 _ _ _ _ _ _ _ _ _ _ _ _ _ _ g0 g1 g2 g3 g4 g5 g6
 rw [if_pos ⟨g0, g1, g2, g3, g4, g5, g6⟩]
 exact check_good _ _ _ _ _ _ _ _ _ _ _ _ _ _ hr0_7 hc0_7 hr0_8 hc0_8 hl7 hl8 g0 g1 g2 g3 g4 g5 g6
end Go.Proofs.Ytelgpkbnahgdoaa.Al

namespace Go.Proofs.Ytelgpkbnahgdoaa.Al
open Go.RowKit Go.Proofs.YtelgpkbnahgdoaaW.PrintWords Go.Proofs.YtelgpkbnahgdoaaW.PrintLast Go.Proofs.YtelgpkbnahgdoaaW.PrintMore
attribute [local go_sem] max2_int min2_int max_two min_two max_three min_three max_four min_four   -- for this text's walks alone
set_option linter.unusedVariables false
set_option linter.unusedSimpArgs false
def pack_may.f (a0 : Int) : Option (Bool) := if a0 ≥ (-4611686018427387904) then (some (decide (a0 ≤ 4611686018427387903))) else (some false)
set_option maxHeartbeats 8000000 in
set_option maxRecDepth 100000 in
theorem pack_may.calls (a0 : Int) (r : Bool) (w : World) (h : pack_may.f a0 = some r) :
  Calls Try.prog 50 #[.int .i64 a0] w fun e w' => e = .returned (.bool r) ∧ Drawn0 w w' := by
 have H : (if a0 ≥ (-4611686018427387904) then (some (decide (a0 ≤ 4611686018427387903))) else (some false)) = some r := h
 clear h
 by_cases c2 : a0 ≥ (-4611686018427387904)
 ·rw [if_pos c2] at H
  have c2b0 : decide ((-4611686018427387904) ≤ a0) = true := decide_eq_true c2
  clear c2
  obtain rfl := Option.some.inj H
  go_enter Try.func50, Try.ntmps50
  go_wp2
  go_ret
  exact ⟨by first | rfl | (simp; done) | (simp [*]; done), by repeat (first | exact Drawn0.refl _ | apply Drawn0.step)⟩
 ·rw [if_neg c2] at H
  have c2b0 : decide ((-4611686018427387904) ≤ a0) = false := decide_eq_false c2
  clear c2
  obtain rfl := Option.some.inj H
  go_enter Try.func50, Try.ntmps50
  go_wp2
  go_ret
  exact ⟨by first | rfl | (simp; done) | (simp [*]; done), by repeat (first | exact Drawn0.refl _ | apply Drawn0.step)⟩
end Go.Proofs.Ytelgpkbnahgdoaa.Al

namespace Go.Proofs.Ytelgpkbnahgdoaa.Al
open Go.RowKit Go.Proofs.YtelgpkbnahgdoaaW.PrintWords Go.Proofs.YtelgpkbnahgdoaaW.PrintLast Go.Proofs.YtelgpkbnahgdoaaW.PrintMore
attribute [local go_sem] max2_int min2_int max_two min_two max_three min_three max_four min_four   -- for this text's walks alone
set_option linter.unusedVariables false
set_option linter.unusedSimpArgs false
mutual
def pack_Check.j0 : Nat → Bool → List Int → List ByteArray → Option (Int)
 |0, _, _, _ => none
 |k + 1, x16, x128000, x128001 => if x16 = true then (some 2) else (pack_Check.l0 k x128000 (x128000.length : Int) 0 x128000 x128001)
def pack_Check.l0 : Nat → List Int → Int → Int → List Int → List ByteArray → Option (Int)
 |0, _, _, _, _, _ => none
 |k + 1, x18, x19, x20, x128000, x128001 => if x20 < x19 then (if 0 ≤ x20 then (if x20 < (x18.length : Int) then ((pack_may.f (rd x18 x20)).bind fun t129 => (if t129 = true then (pack_Check.l0 k x18 x19 (wrap64 (x20 + 1)) x128000 x128001) else (some 1))) else (none)) else (none)) else (pack_Check.l1 k x128001 (x128001.length : Int) 0)
def pack_Check.l1 : Nat → List ByteArray → Int → Int → Option (Int)
 |0, _, _, _ => none
 |k + 1, x29, x30, x31 => if x31 < x30 then (if 0 ≤ x31 then (if x31 < (x29.length : Int) then (if ((rdOf ByteArray.empty x29 x31).size : Int) > 4096 then (some 2) else (pack_Check.l1 k x29 x30 (wrap64 (x31 + 1)))) else (none)) else (none)) else (some 0)
end
def pack_Check.f (k : Nat) (l0_0 : List Int) (l0_1 : List ByteArray) : Option (Int) := if (l0_0.length : Int) > 1024 then (pack_Check.j0 k true l0_0 l0_1) else (pack_Check.j0 k (decide ((l0_1.length : Int) > 1024)) l0_0 l0_1)
theorem pack_Check.mono_l : ∀ k, (∀ y0 y1 y2, LeO (pack_Check.j0 k y0 y1 y2) (pack_Check.j0 (k + 1) y0 y1 y2)) ∧ (∀ y0 y1 y2 y3 y4, LeO (pack_Check.l0 k y0 y1 y2 y3 y4) (pack_Check.l0 (k + 1) y0 y1 y2 y3 y4)) ∧ (∀ y0 y1 y2, LeO (pack_Check.l1 k y0 y1 y2) (pack_Check.l1 (k + 1) y0 y1 y2))
 |0 => ⟨fun _ _ _ r h => by simp [pack_Check.j0] at h, fun _ _ _ _ _ r h => by simp [pack_Check.l0] at h, fun _ _ _ r h => by simp [pack_Check.l1] at h⟩
 |k + 1 => by
  obtain ⟨ih0, ih1, ih2⟩ := pack_Check.mono_l k
  refine ⟨?_, ?_, ?_⟩
  ·intro y0 y1 y2
   unfold pack_Check.j0
   repeat' first
   |(with_reducible exact ih0 _ _ _)
   |(with_reducible exact ih1 _ _ _ _ _)
   |(with_reducible exact ih2 _ _ _)
   |(with_reducible exact LeO.refl _)
   |(with_reducible exact LeO.none _)
   |(with_reducible refine LeO.ite ?_ ?_)
   |(with_reducible refine LeO.bind ?_ (fun _ => ?_))
   |exact ih0 _ _ _
   |exact ih1 _ _ _ _ _
   |exact ih2 _ _ _
   |exact LeO.none _
   |refine LeO.ite ?_ ?_
   |refine LeO.bind ?_ (fun _ => ?_)
  ·intro y0 y1 y2 y3 y4
   unfold pack_Check.l0
   repeat' first
   |(with_reducible exact ih0 _ _ _)
   |(with_reducible exact ih1 _ _ _ _ _)
   |(with_reducible exact ih2 _ _ _)
   |(with_reducible exact LeO.refl _)
   |(with_reducible exact LeO.none _)
   |(with_reducible refine LeO.ite ?_ ?_)
   |(with_reducible refine LeO.bind ?_ (fun _ => ?_))
   |exact ih0 _ _ _
   |exact ih1 _ _ _ _ _
   |exact ih2 _ _ _
   |exact LeO.none _
   |refine LeO.ite ?_ ?_
   |refine LeO.bind ?_ (fun _ => ?_)
  ·intro y0 y1 y2
   unfold pack_Check.l1
   repeat' first
   |(with_reducible exact ih0 _ _ _)
   |(with_reducible exact ih1 _ _ _ _ _)
   |(with_reducible exact ih2 _ _ _)
   |(with_reducible exact LeO.refl _)
   |(with_reducible exact LeO.none _)
   |(with_reducible refine LeO.ite ?_ ?_)
   |(with_reducible refine LeO.bind ?_ (fun _ => ?_))
   |exact ih0 _ _ _
   |exact ih1 _ _ _ _ _
   |exact ih2 _ _ _
   |exact LeO.none _
   |refine LeO.ite ?_ ?_
   |refine LeO.bind ?_ (fun _ => ?_)
theorem pack_Check.mono : ∀ a0 a1 k, LeO (pack_Check.f k a0 a1) (pack_Check.f (k + 1) a0 a1) := by
 intro a0 a1 k
 obtain ⟨ih0, ih1, ih2⟩ := pack_Check.mono_l k
 unfold pack_Check.f
 repeat' first
   |(with_reducible exact ih0 _ _ _)
   |(with_reducible exact ih1 _ _ _ _ _)
   |(with_reducible exact ih2 _ _ _)
   |(with_reducible exact LeO.refl _)
   |(with_reducible exact LeO.none _)
   |(with_reducible refine LeO.ite ?_ ?_)
   |(with_reducible refine LeO.bind ?_ (fun _ => ?_))
   |exact ih0 _ _ _
   |exact ih1 _ _ _ _ _
   |exact ih2 _ _ _
   |exact LeO.none _
   |refine LeO.ite ?_ ?_
   |refine LeO.bind ?_ (fun _ => ?_)
set_option maxHeartbeats 8000000 in
set_option maxRecDepth 100000 in
theorem pack_Check.calls (k : Nat) (A0_0 : Option Addr) (c0_0 : Nat) (l0_0 : List Int) (A0_1 : Option Addr) (c0_1 : Nat) (l0_1 : List ByteArray) (r : Int) (w : World) (hr0_0 : Kd.C (Kd.int .i64) w A0_0 l0_0.length l0_0) (hc0_0 : l0_0.length ≤ c0_0) (hr0_1 : Kd.C Kd.string w A0_1 l0_1.length l0_1) (hc0_1 : l0_1.length ≤ c0_1) (h : pack_Check.f k l0_0 l0_1 = some r) :
  Calls Try.prog 40 #[.agg #[.slice A0_0 l0_0.length c0_0, .slice A0_1 l0_1.length c0_1]] w fun e w' => e = .returned (.int .i64 r) ∧ Below w.heap.size w w' := by
 have hu47 := Try.underlying47
 have HR0_0 := Aside0.mk hr0_0
 have HC0_0 := Aside0.mk hc0_0
 clear hr0_0 hc0_0
 have HR0_1 := Aside0.mk hr0_1
 have HC0_1 := Aside0.mk hc0_1
 clear hr0_1 hc0_1
 have HB := Aside0.mk (Below.refl w.heap.size w)
 have H : (if (l0_0.length : Int) > 1024 then (pack_Check.j0 k true l0_0 l0_1) else (pack_Check.j0 k (decide ((l0_1.length : Int) > 1024)) l0_0 l0_1)) = some r := h
 clear h
 have HC2 := Aside0.mk H
 clear H
 go_enter Try.func40, Try.ntmps40
 go_upto_region 1 with (first | ((with_reducible refine gate_dst (N := 1) rfl ?_); (try (refine gate_guard (by rfl) ?_; dsimp only)); refine box_event ?hg (N := 1) ?hd (cs := #[.slice A0_0 l0_0.length c0_0, .slice A0_1 l0_1.length c0_1]) (t := 47) ?hr ?_; (case hd => rfl); (case hg => rfl); (case hr => first | (go_simp; done) | (go_simp; rfl)); intro gb127 hg w3 hbox hb; have n0_ := Aside0.mk (below_step (by repeat (first | (with_reducible first | exact HB.out | apply below_alloc | apply pw_below_drewN | apply below_drew1) | exact HB.out)) hb); have n1_ := Aside0.mk (hbox); have n2_ := Aside0.mk ((by rw [hg]; exact (below_size (by repeat (first | (with_reducible first | exact HB.out | apply below_alloc | apply pw_below_drewN | apply below_drew1) | exact HB.out))) : w.heap.size ≤ gb127)); have n3_ := Aside0.mk ((by rw [hg]; exact (below_size (by repeat (first | (with_reducible first | exact HB.out | apply below_alloc | apply pw_below_drewN | apply below_drew1) | exact HB.out))) : w.heap.size ≤ gb127)); clear HB; have HB := n0_; have BK127 := n1_; have GW127 := n2_; have GE127 := n3_; clear n0_ n1_ n2_ n3_; clear hb hbox hg))
 (try simp only [Act.put, List.setIfInBounds_toArray, List.set_cons_zero, List.set_cons_succ])
 go_cut [16] (fun v16 wc => ∃ (kq : Nat) (x16_1 : Bool), v16 = .bool x16_1 ∧ Aside0 (pack_Check.j0 kq x16_1 l0_0 l0_1 = some r) ∧ Aside0 (kq ≤ k) ∧ Aside0 (wc.heap[gb127]? = some (.cells #[(.slice A0_0 l0_0.length c0_0), (.slice A0_1 l0_1.length c0_1)] 47 (0, 0))) ∧ Aside0 (Below w.heap.size w wc))
 case first =>
  have H := HC2.out
  clear HC2
  by_cases c4 : (l0_0.length : Int) > 1024
  ·rw [if_pos c4] at H
   have c4b0 : decide (1024 < (l0_0.length : Int)) = true := decide_eq_true c4
   have c4b1 : decide (1024 < l0_0.length) = true := decide_eq_true (by omega)
   clear c4
   (first | rw [c4b0] | (simp only [i64_w, i32_w]; rw [c4b0]) | skip)
   have H' := Aside0.mk H
   clear H
   obtain ⟨hcz5_0, hfz5_0, hcz5_1, hfz5_1⟩ := cfz2 BK127.out
   go_wp2
   go_meet
   case rel => exact ⟨_, (true), (by first | rfl | (simp; done) | (simp [*]; done)), H', ⟨by first | omega | exact Nat.le_refl _⟩, ⟨by (with_reducible repeat (first | refine blk_drewN ?_ _ | refine blk_drew ?_ | refine blk_alloc ?_ _)); exact BK127.out⟩, ⟨by repeat (first | (with_reducible first | exact HB.out | apply below_alloc | apply pw_below_drewN | apply below_drew1 | refine below_set ?_ GE127.out) | exact HB.out)⟩⟩
  ·rw [if_neg c4] at H
   have c4b0 : decide (1024 < (l0_0.length : Int)) = false := decide_eq_false c4
   have c4b1 : decide (1024 < l0_0.length) = false := decide_eq_false (by omega)
   clear c4
   (first | rw [c4b0] | (simp only [i64_w, i32_w]; rw [c4b0]) | skip)
   have H' := Aside0.mk H
   clear H
   obtain ⟨hcz6_0, hfz6_0, hcz6_1, hfz6_1⟩ := cfz2 BK127.out
   go_wp2
   go_meet
   case rel => exact ⟨_, (decide ((l0_1.length : Int) > 1024)), (by first | rfl | (simp; done) | (simp [*]; done)), H', ⟨by first | omega | exact Nat.le_refl _⟩, ⟨by (with_reducible repeat (first | refine blk_drewN ?_ _ | refine blk_drew ?_ | refine blk_alloc ?_ _)); exact BK127.out⟩, ⟨by repeat (first | (with_reducible first | exact HB.out | apply below_alloc | apply pw_below_drewN | apply below_drew1 | refine below_set ?_ GE127.out) | exact HB.out)⟩⟩
 case rest =>
  clear HC2
  (try clear p2); (try clear c4); (try clear c4b0); (try clear c4b1); (try clear hcz5_0); (try clear hcz5_1); (try clear hcz6_0); (try clear hcz6_1); (try clear hfz5_0); (try clear hfz5_1); (try clear hfz6_0); (try clear hfz6_1)
  obtain ⟨kq, x16_1, rfl, HA, HJ1, BK127, HB⟩ := hcut
  cases kq with
  |zero => exact absurd HA.out (by simp [pack_Check.j0])
  |succ kj1 =>
   have H := HA.out
   clear HA
   simp only [pack_Check.j0] at H
   by_cases c7 : x16_1 = true
   ·subst c7
    have H1 : (some 2) = some r := by rw [if_pos rfl] at H; exact H
    clear H
    have H := H1
    clear H1
    obtain rfl := Option.some.inj H
    go_wp2
    go_ret
    exact ⟨by first | rfl | (simp [errW_none, errW_some] <;> rfl) | (simp [*, errW_none, errW_some] <;> rfl), by repeat (first | (with_reducible first | exact HB.out | apply below_alloc | apply pw_below_drewN | apply below_drew1 | refine below_set ?_ GE127.out) | exact HB.out)⟩
   ·replace c7 := Bool.eq_false_iff.mpr c7
    subst c7
    have H1 : (pack_Check.l0 kj1 l0_0 (l0_0.length : Int) 0 l0_0 l0_1) = some r := by rw [if_neg (show ¬ (false = true) by decide)] at H; exact H
    clear H
    have H := H1
    clear H1
    have H' := Aside0.mk H
    clear H
    obtain ⟨hcz8_0, hfz8_0, hcz8_1, hfz8_1⟩ := cfz2 BK127.out
    go_wp2
    go_loopg [20] kj1 (fun kq v20 w' => ∃ (x20_2 : Int), v20 = .int .i64 x20_2 ∧ Aside0 (pack_Check.l0 kq l0_0 (l0_0.length : Int) x20_2 l0_0 l0_1 = some r) ∧ Aside0 (kq ≤ kj1) ∧ Aside0 (w'.heap[gb127]? = some (.cells #[(.slice A0_0 l0_0.length c0_0), (.slice A0_1 l0_1.length c0_1)] 47 (0, 0))) ∧ Aside0 (Below w.heap.size w w'))
    case atStart => exact ⟨(0), (by first | rfl | (simp; done) | (simp [*]; done)), H', ⟨Nat.le_refl _⟩, ⟨by (with_reducible repeat (first | refine blk_drewN ?_ _ | refine blk_drew ?_ | refine blk_alloc ?_ _)); exact BK127.out⟩, ⟨by repeat (first | (with_reducible first | exact HB.out | apply below_alloc | apply pw_below_drewN | apply below_drew1 | refine below_set ?_ GE127.out) | exact HB.out)⟩⟩
    case round =>
     clear H'
     (try clear p2); (try clear c4); (try clear c4b0); (try clear c4b1); (try clear c7); (try clear hcz5_0); (try clear hcz5_1); (try clear hcz6_0); (try clear hcz6_1); (try clear hcz8_0); (try clear hcz8_1); (try clear hfz5_0); (try clear hfz5_1); (try clear hfz6_0); (try clear hfz6_1); (try clear hfz8_0); (try clear hfz8_1); (try clear p2)
     obtain ⟨x20_2, rfl, HA, HK2, BK127, HB⟩ := hrel
     cases gk with
     |zero => exact absurd HA.out (by simp [pack_Check.l0])
     |succ k2 =>
      have H := HA.out
      clear HA
      simp only [pack_Check.l0] at H
      by_cases c9 : x20_2 < (l0_0.length : Int)
      ·rw [if_pos c9] at H
       have c9b0 : decide (x20_2 < (l0_0.length : Int)) = true := decide_eq_true c9
       clear c9
       by_cases c10 : 0 ≤ x20_2
       ·rw [if_pos c10] at H
        have c10b0 : decide (0 ≤ x20_2) = true := decide_eq_true c10
        clear c10
        by_cases c11 : x20_2 < (l0_0.length : Int)
        ·rw [if_pos c11] at H
         have c11b0 : decide (x20_2 < (l0_0.length : Int)) = true := decide_eq_true c11
         clear c11
         replace H := Option.bind_eq_some_iff.mp H
         obtain ⟨t129, A120, H⟩ := H
         replace H : (if t129 = true then (pack_Check.l0 k2 l0_0 (l0_0.length : Int) (wrap64 (x20_2 + 1)) l0_0 l0_1) else (some 1)) = some r := H
         have A12 := Aside0.mk A120
         clear A120
         by_cases c13 : t129 = true
         ·subst c13
          have H1 : (pack_Check.l0 k2 l0_0 (l0_0.length : Int) (wrap64 (x20_2 + 1)) l0_0 l0_1) = some r := by rw [if_pos rfl] at H; exact H
          clear H
          have H := H1
          clear H1
          have H' := Aside0.mk H
          clear H
          have p128 : 0 ≤ (x20_2 : Int) := of_decide_eq_true (by first | (with_reducible assumption) | assumption)
          have q128 : x20_2 < (l0_0.length : Int) := of_decide_eq_true (by first | (with_reducible assumption) | assumption)
          obtain ⟨ad128, e128, hx128_0⟩ := Kd.at_int HR0_0.out x20_2 p128 q128
          cases e128
          replace hx128_0 := (HB.out.cell (World.block_lt_of_cell? w _ hx128_0)).trans hx128_0
          replace p128 := eq_true p128
          replace q128 := eq_true q128
          go_wp2_with (first | ((with_reducible refine gate_callee (f := 50) rfl ?_); refine goesL_ (some 25) rfl rfl Try.func50 (by kernel_rfl) rfl #[.int .i64 (rd l0_0 x20_2)] rfl (by (try simp only [List.map_toArray, List.map_cons, List.map_nil]); first | done | rfl | (simp only [List.length_drop, List.length_take]; rfl)) ?_; (with_reducible refine (pack_may.calls (rd l0_0 x20_2) true _ A12.out).mono ?_); rintro e w' ⟨rfl, ⟨nd, rfl⟩⟩; refine ⟨_, rfl, ?_⟩))
          go_roundg k2
          case measure => have := HJ1.out; have := HK2.out; omega
          case rel => exact ⟨(wrap64 (x20_2 + 1)), (by first | rfl | (simp; done) | (simp [*]; done)), H', ⟨by have := HJ1.out; have := HK2.out; omega⟩, ⟨by (with_reducible repeat (first | refine blk_drewN ?_ _ | refine blk_drew ?_ | refine blk_alloc ?_ _)); exact BK127.out⟩, ⟨by repeat (first | (with_reducible first | exact HB.out | apply below_alloc | apply pw_below_drewN | apply below_drew1 | refine below_set ?_ GE127.out) | exact HB.out)⟩⟩
         ·replace c13 := Bool.eq_false_iff.mpr c13
          subst c13
          have H1 : (some 1) = some r := by rw [if_neg (show ¬ (false = true) by decide)] at H; exact H
          clear H
          have H := H1
          clear H1
          obtain rfl := Option.some.inj H
          have p128 : 0 ≤ (x20_2 : Int) := of_decide_eq_true (by first | (with_reducible assumption) | assumption)
          have q128 : x20_2 < (l0_0.length : Int) := of_decide_eq_true (by first | (with_reducible assumption) | assumption)
          obtain ⟨ad128, e128, hx128_0⟩ := Kd.at_int HR0_0.out x20_2 p128 q128
          cases e128
          replace hx128_0 := (HB.out.cell (World.block_lt_of_cell? w _ hx128_0)).trans hx128_0
          replace p128 := eq_true p128
          replace q128 := eq_true q128
          go_wp2_with (first | ((with_reducible refine gate_callee (f := 50) rfl ?_); refine goesL_ (some 25) rfl rfl Try.func50 (by kernel_rfl) rfl #[.int .i64 (rd l0_0 x20_2)] rfl (by (try simp only [List.map_toArray, List.map_cons, List.map_nil]); first | done | rfl | (simp only [List.length_drop, List.length_take]; rfl)) ?_; (with_reducible refine (pack_may.calls (rd l0_0 x20_2) false _ A12.out).mono ?_); rintro e w' ⟨rfl, ⟨nd, rfl⟩⟩; refine ⟨_, rfl, ?_⟩))
          go_ret
          exact ⟨by first | rfl | (simp [errW_none, errW_some] <;> rfl) | (simp [*, errW_none, errW_some] <;> rfl), by repeat (first | (with_reducible first | exact HB.out | apply below_alloc | apply pw_below_drewN | apply below_drew1 | refine below_set ?_ GE127.out) | exact HB.out)⟩
        ·rw [if_neg c11] at H
         exact absurd H (by simp)
       ·rw [if_neg c10] at H
        exact absurd H (by simp)
      ·rw [if_neg c9] at H
       have c9b0 : decide (x20_2 < (l0_0.length : Int)) = false := decide_eq_false c9
       clear c9
       have H' := Aside0.mk H
       clear H
       obtain ⟨hcz14_0, hfz14_0, hcz14_1, hfz14_1⟩ := cfz2 BK127.out
       go_wp2
       go_loopg [31] k2 (fun kq v31 w' => ∃ (x31_3 : Int), v31 = .int .i64 x31_3 ∧ Aside0 (pack_Check.l1 kq l0_1 (l0_1.length : Int) x31_3 = some r) ∧ Aside0 (kq ≤ k2) ∧ Aside0 (w'.heap[gb127]? = some (.cells #[(.slice A0_0 l0_0.length c0_0), (.slice A0_1 l0_1.length c0_1)] 47 (0, 0))) ∧ Aside0 (Below w.heap.size w w'))
       case atStart => exact ⟨(0), (by first | rfl | (simp; done) | (simp [*]; done)), H', ⟨Nat.le_refl _⟩, ⟨by (with_reducible repeat (first | refine blk_drewN ?_ _ | refine blk_drew ?_ | refine blk_alloc ?_ _)); exact BK127.out⟩, ⟨by repeat (first | (with_reducible first | exact HB.out | apply below_alloc | apply pw_below_drewN | apply below_drew1 | refine below_set ?_ GE127.out) | exact HB.out)⟩⟩
       case round =>
        clear H'
        (try clear c1); (try clear p1); (try clear q1); (try clear hx1); (try clear p2); (try clear c4); (try clear c4b0); (try clear c4b1); (try clear c5); (try clear p6); (try clear c7); (try clear c9); (try clear c9b0); (try clear c10); (try clear c10b0); (try clear c11); (try clear c11b0); (try clear p12); (try clear q12); (try clear hx12); (try clear c13); (try clear hcz14_0); (try clear hcz14_1); (try clear hcz5_0); (try clear hcz5_1); (try clear hcz6_0); (try clear hcz6_1); (try clear hcz8_0); (try clear hcz8_1); (try clear hfz14_0); (try clear hfz14_1); (try clear hfz5_0); (try clear hfz5_1); (try clear hfz6_0); (try clear hfz6_1); (try clear hfz8_0); (try clear hfz8_1); (try clear hx128_0); (try clear p128); (try clear p2); (try clear q128)
        obtain ⟨x31_3, rfl, HA, HK3, BK127, HB⟩ := hrel
        cases gk with
        |zero => exact absurd HA.out (by simp [pack_Check.l1])
        |succ k3 =>
         have H := HA.out
         clear HA
         simp only [pack_Check.l1] at H
         by_cases c15 : x31_3 < (l0_1.length : Int)
         ·rw [if_pos c15] at H
          have c15b0 : decide (x31_3 < (l0_1.length : Int)) = true := decide_eq_true c15
          clear c15
          by_cases c16 : 0 ≤ x31_3
          ·rw [if_pos c16] at H
           have c16b0 : decide (0 ≤ x31_3) = true := decide_eq_true c16
           clear c16
           by_cases c17 : x31_3 < (l0_1.length : Int)
           ·rw [if_pos c17] at H
            have c17b0 : decide (x31_3 < (l0_1.length : Int)) = true := decide_eq_true c17
            clear c17
            by_cases c18 : ((rdOf ByteArray.empty l0_1 x31_3).size : Int) > 4096
            ·rw [if_pos c18] at H
             have c18b0 : decide (4096 < ((rdOf ByteArray.empty l0_1 x31_3).size : Int)) = true := decide_eq_true c18
             have c18b1 : decide (4096 < (rdOf ByteArray.empty l0_1 x31_3).size) = true := decide_eq_true (by omega)
             clear c18
             obtain rfl := Option.some.inj H
             have p130 : 0 ≤ (x31_3 : Int) := of_decide_eq_true (by first | (with_reducible assumption) | assumption)
             have q130 : x31_3 < (l0_1.length : Int) := of_decide_eq_true (by first | (with_reducible assumption) | assumption)
             obtain ⟨ad130, e130, hx130_0⟩ := Kd.at_string HR0_1.out x31_3 p130 q130
             cases e130
             replace hx130_0 := (HB.out.cell (World.block_lt_of_cell? w _ hx130_0)).trans hx130_0
             replace p130 := eq_true p130
             replace q130 := eq_true q130
             go_wp2
             go_ret
             exact ⟨by first | rfl | (simp [errW_none, errW_some] <;> rfl) | (simp [*, errW_none, errW_some] <;> rfl), by repeat (first | (with_reducible first | exact HB.out | apply below_alloc | apply pw_below_drewN | apply below_drew1 | refine below_set ?_ GE127.out) | exact HB.out)⟩
            ·rw [if_neg c18] at H
             have c18b0 : decide (4096 < ((rdOf ByteArray.empty l0_1 x31_3).size : Int)) = false := decide_eq_false c18
             have c18b1 : decide (4096 < (rdOf ByteArray.empty l0_1 x31_3).size) = false := decide_eq_false (by omega)
             clear c18
             have H' := Aside0.mk H
             clear H
             have p130 : 0 ≤ (x31_3 : Int) := of_decide_eq_true (by first | (with_reducible assumption) | assumption)
             have q130 : x31_3 < (l0_1.length : Int) := of_decide_eq_true (by first | (with_reducible assumption) | assumption)
             obtain ⟨ad130, e130, hx130_0⟩ := Kd.at_string HR0_1.out x31_3 p130 q130
             cases e130
             replace hx130_0 := (HB.out.cell (World.block_lt_of_cell? w _ hx130_0)).trans hx130_0
             replace p130 := eq_true p130
             replace q130 := eq_true q130
             go_wp2
             go_roundg k3
             case measure => have := HJ1.out; have := HK2.out; have := HK3.out; omega
             case rel => exact ⟨(wrap64 (x31_3 + 1)), (by first | rfl | (simp; done) | (simp [*]; done)), H', ⟨by have := HJ1.out; have := HK2.out; have := HK3.out; omega⟩, ⟨by (with_reducible repeat (first | refine blk_drewN ?_ _ | refine blk_drew ?_ | refine blk_alloc ?_ _)); exact BK127.out⟩, ⟨by repeat (first | (with_reducible first | exact HB.out | apply below_alloc | apply pw_below_drewN | apply below_drew1 | refine below_set ?_ GE127.out) | exact HB.out)⟩⟩
           ·rw [if_neg c17] at H
            exact absurd H (by simp)
          ·rw [if_neg c16] at H
           exact absurd H (by simp)
         ·rw [if_neg c15] at H
          have c15b0 : decide (x31_3 < (l0_1.length : Int)) = false := decide_eq_false c15
          clear c15
          obtain rfl := Option.some.inj H
          go_wp2
          go_ret
          exact ⟨by first | rfl | (simp [errW_none, errW_some] <;> rfl) | (simp [*, errW_none, errW_some] <;> rfl), by repeat (first | (with_reducible first | exact HB.out | apply below_alloc | apply pw_below_drewN | apply below_drew1 | refine below_set ?_ GE127.out) | exact HB.out)⟩
end Go.Proofs.Ytelgpkbnahgdoaa.Al

namespace Go.Proofs.Ytelgpkbnahgdoaa.Al
open Go.RowKit Go.Proofs.YtelgpkbnahgdoaaW.PrintWords Go.Proofs.YtelgpkbnahgdoaaW.PrintLast Go.Proofs.YtelgpkbnahgdoaaW.PrintMore
attribute [local go_sem] max2_int min2_int max_two min_two max_three min_three max_four min_four   -- for this text's walks alone
set_option linter.unusedVariables false
set_option linter.unusedSimpArgs false
def pack_put_int.l0 : Nat → List Int → Int → Option (List Int)
 |0, _, _ => none
 |k + 1, x0, x1 => if x1 ≥ 128 then (if x0.length < 140737488355328 then (pack_put_int.l0 k (x0 ++ [(((Int.tmod x1 128) % 256) + 128) % 256]) (wrap64 (Int.tdiv x1 128))) else (none)) else (if x0.length < 140737488355328 then (some (x0 ++ [(x1) % 256])) else (none))
def pack_put_int.f (k : Nat) (l0 : List Int) (a1 : Int) : Option (List Int) := pack_put_int.l0 k l0 a1
theorem pack_put_int.mono_l : ∀ k, (∀ y0 y1, LeO (pack_put_int.l0 k y0 y1) (pack_put_int.l0 (k + 1) y0 y1))
 |0 => fun _ _ r h => by simp [pack_put_int.l0] at h
 |k + 1 => by
  have ih0 := pack_put_int.mono_l k
  ·intro y0 y1
   unfold pack_put_int.l0
   repeat' first
   |(with_reducible exact ih0 _ _)
   |(with_reducible exact LeO.refl _)
   |(with_reducible exact LeO.none _)
   |(with_reducible refine LeO.ite ?_ ?_)
   |(with_reducible refine LeO.bind ?_ (fun _ => ?_))
   |exact ih0 _ _
   |exact LeO.none _
   |refine LeO.ite ?_ ?_
   |refine LeO.bind ?_ (fun _ => ?_)
theorem pack_put_int.mono : ∀ a0 a1 k, LeO (pack_put_int.f k a0 a1) (pack_put_int.f (k + 1) a0 a1) := by
 intro a0 a1 k
 have ih0 := pack_put_int.mono_l k
 unfold pack_put_int.f
 repeat' first
   |(with_reducible exact ih0 _ _)
   |(with_reducible exact LeO.refl _)
   |(with_reducible exact LeO.none _)
   |(with_reducible refine LeO.ite ?_ ?_)
   |(with_reducible refine LeO.bind ?_ (fun _ => ?_))
   |exact ih0 _ _
   |exact LeO.none _
   |refine LeO.ite ?_ ?_
   |refine LeO.bind ?_ (fun _ => ?_)
set_option maxHeartbeats 8000000 in
set_option maxRecDepth 100000 in
theorem pack_put_int.calls (k : Nat) (P0_ : Nat → Prop) (u9000_ : Value) (l0 : List Int) (a1 : Int) (r : List Int) (w0 w : World) (hB : Below w0.heap.size w0 w) (ho0 : Kd.R (Kd.int .u8) 5 w w0.heap.size P0_ u9000_ l0) (h : pack_put_int.f k l0 a1 = some r) :
  Calls Try.prog 41 #[u9000_, .int .i64 a1] w fun e w' => ∃ v0_ : Value, e = .returned (v0_) ∧ Kd.R (Kd.int .u8) 5 w' w0.heap.size (fun k_ => (P0_ k_ ∨ w.heap.size ≤ k_)) v0_ r ∧ Below w0.heap.size w0 w' ∧ Kept w w' (fun k_ => P0_ k_) := by
 have HO0 := Aside0.mk (show Kd.R (Kd.int .u8) 5 w w0.heap.size (fun k_ => (P0_ k_ ∨ w.heap.size ≤ k_)) u9000_ l0 from Kd.R_mono ho0 (fun k_ hk => (.inl hk)))
 have HK := Aside0.mk (Kept.refl w (fun k_ => P0_ k_))
 have HW0 := Aside0.mk hB.size
 have HB := Aside0.mk hB
 clear hB
 have H : (pack_put_int.l0 k l0 a1) = some r := h
 clear h
 have H' := Aside0.mk H
 clear H
 go_enter Try.func41, Try.ntmps41
 go_wp2
 go_loopg [0, 1] k (fun kq v0 v1 w' => ∃ (x0_1 : List Int) (x1_1 : Int), v1 = .int .i64 x1_1 ∧ Aside0 (pack_put_int.l0 kq x0_1 x1_1 = some r) ∧ Aside0 (kq ≤ k) ∧ Aside0 (Kd.R (Kd.int .u8) 5 w' w0.heap.size (fun k_ => (P0_ k_ ∨ w.heap.size ≤ k_)) v0 x0_1) ∧ Aside0 (Kept w w' (fun k_ => P0_ k_)) ∧ Aside0 (Below w0.heap.size w0 w'))
 case atStart => exact ⟨(l0), (a1), (by first | rfl | (simp; done) | (simp [*]; done)), H', ⟨Nat.le_refl _⟩, ⟨by (with_reducible repeat (first | apply Kd.R_alloc | apply Kd.R_drewN | apply Kd.R_drew)); exact HO0.out⟩, ⟨by repeat (first | (with_reducible first | exact HK.out | apply Kept.alloc | apply Kept.drewN | apply Kept.drew) | exact HK.out)⟩, ⟨by repeat (first | (with_reducible first | exact HB.out | apply below_alloc | apply pw_below_drewN | apply below_drew1) | exact HB.out)⟩⟩
 case round =>
  clear H'
  try clear p2
  obtain ⟨x0_1, x1_1, rfl, HA, HK1, HO_0, HK, HB⟩ := hrel
  cases gk with
  |zero => exact absurd HA.out (by simp [pack_put_int.l0])
  |succ k1 =>
   have H := HA.out
   clear HA
   simp only [pack_put_int.l0] at H
   by_cases c3 : x1_1 ≥ 128
   ·rw [if_pos c3] at H
    have c3b0 : decide (128 ≤ x1_1) = true := decide_eq_true c3
    clear c3
    by_cases c4 : x0_1.length < 140737488355328
    ·rw [if_pos c4] at H
     have LMc4 := Aside0.mk c4
     clear c4
     obtain ⟨y131, hy131⟩ : ∃ y_ : List Int, y_ = (x0_1 ++ [(((Int.tmod x1_1 128) % 256) + 128) % 256]) := ⟨_, rfl⟩
     replace H : (pack_put_int.l0 k1 y131 (wrap64 (Int.tdiv x1_1 128))) = some r := by first | (rw [hy131]; with_reducible exact H) | (have H2_ := (Option.bind_some _ _).symm.trans H; rw [hy131]; with_reducible exact H2_) | (have H2_ := (Option.bind_some _ _).symm.trans H; with_reducible exact H2_) | with_reducible exact H | (rw [hy131]; exact H) | exact H
     have Ny131 := Aside0.mk (show y131 = (x0_1 ++ [((Int.tmod x1_1 128) + 128) % 256]) from by rw [hy131]; simp only [ByteArray.size_append, Int.natCast_add, Int.emod_add_emod])
     clear hy131
     have H' := Aside0.mk H
     clear H
     go_wp2_with (first | ((with_reducible refine gate_builtin (b := .append) (xs := #[.tmp 9, .tmp 14]) rfl ?_); at_builtin; refine Kd.R_append (Kd.int .u8) (w0 := w0) w0.heap.size rfl (.tmp 9) (.tmp 14) 60 5 (.int .u8 0) 1 rfl Try.underlying60 info5 rfl (by decide) (by omega) u0 x0_1 (((Int.tmod x1_1 128) + 128) % 256) [.int .u8 (((Int.tmod x1_1 128) + 128) % 256)] (fun k_ => (P0_ k_ ∨ w.heap.size ≤ k_)) (fun _ => False) rfl rfl ?aP (fun _ hk => hk.elim) ?aF ?aO ?aB ?aS ?aL ?_; (case aP => exact rfl); (case aB => exact (by repeat (first | (with_reducible first | exact HB.out | apply below_alloc | apply pw_below_drewN | apply below_drew1) | exact HB.out))); (case aF => exact (fun k_ hk => (.inr (Nat.le_trans (by first | exact HK.out.1 | exact (show Kept w _ (fun k_ => P0_ k_) from by repeat (first | (with_reducible first | exact HK.out | apply Kept.alloc | apply Kept.drewN | apply Kept.drew) | exact HK.out)).1) hk)))); (case aO => exact (by (with_reducible repeat (first | apply Kd.R_alloc | apply Kd.R_drewN | apply Kd.R_drew)); exact HO_0.out)); (case aS => exact (below_size (by repeat (first | (with_reducible first | exact HB.out | apply below_alloc | apply pw_below_drewN | apply below_drew1) | exact HB.out)))); (case aL => have := LMc4.out; omega); intro v132 w5 ho hb hg hat; rw [← Ny131.out] at ho; have n0_ := Aside0.mk (hb); have n1_ := Aside0.mk (Kept.of_grown (S := (fun k_ => P0_ k_)) hg (by repeat (first | (with_reducible first | exact HK.out | apply Kept.alloc | apply Kept.drewN | apply Kept.drew) | exact HK.out)) (fun k_ e_ => (HO_0.out.1 k_ e_))); have n2_ := Aside0.mk (ho); clear HB; clear HK; clear HO_0; have HB := n0_; have HK := n1_; have HO133 := n2_; clear n0_ n1_ n2_; clear ho hb hg hat))
     go_roundg k1
     case measure => have := HK1.out; omega
     case rel => exact ⟨(y131), (wrap64 (Int.tdiv x1_1 128)), (by first | rfl | (simp; done) | (simp [*]; done)), H', ⟨by have := HK1.out; omega⟩, ⟨by (with_reducible repeat (first | apply Kd.R_alloc | apply Kd.R_drewN | apply Kd.R_drew)); exact HO133.out⟩, ⟨by repeat (first | (with_reducible first | exact HK.out | apply Kept.alloc | apply Kept.drewN | apply Kept.drew) | exact HK.out)⟩, ⟨by repeat (first | (with_reducible first | exact HB.out | apply below_alloc | apply pw_below_drewN | apply below_drew1) | exact HB.out)⟩⟩
    ·rw [if_neg c4] at H
     exact absurd H (by simp)
   ·rw [if_neg c3] at H
    have c3b0 : decide (128 ≤ x1_1) = false := decide_eq_false c3
    clear c3
    by_cases c6 : x0_1.length < 140737488355328
    ·rw [if_pos c6] at H
     have LMc6 := Aside0.mk c6
     clear c6
     obtain ⟨y134, hy134⟩ : ∃ y_ : List Int, y_ = (x0_1 ++ [(x1_1) % 256]) := ⟨_, rfl⟩
     replace H : (some y134) = some r := by first | (rw [hy134]; with_reducible exact H) | (have H2_ := (Option.bind_some _ _).symm.trans H; rw [hy134]; with_reducible exact H2_) | (have H2_ := (Option.bind_some _ _).symm.trans H; with_reducible exact H2_) | with_reducible exact H | (rw [hy134]; exact H) | exact H
     have Ny134 := Aside0.mk hy134
     clear hy134
     obtain rfl := Option.some.inj H
     go_wp2_with (first | ((with_reducible refine gate_builtin (b := .append) (xs := #[.tmp 16, .tmp 19]) rfl ?_); at_builtin; refine Kd.R_append (Kd.int .u8) (w0 := w0) w0.heap.size rfl (.tmp 16) (.tmp 19) 60 5 (.int .u8 0) 1 rfl Try.underlying60 info5 rfl (by decide) (by omega) u0 x0_1 ((x1_1) % 256) [.int .u8 ((x1_1) % 256)] (fun k_ => (P0_ k_ ∨ w.heap.size ≤ k_)) (fun _ => False) rfl rfl ?aP (fun _ hk => hk.elim) ?aF ?aO ?aB ?aS ?aL ?_; (case aP => exact rfl); (case aB => exact (by repeat (first | (with_reducible first | exact HB.out | apply below_alloc | apply pw_below_drewN | apply below_drew1) | exact HB.out))); (case aF => exact (fun k_ hk => (.inr (Nat.le_trans (by first | exact HK.out.1 | exact (show Kept w _ (fun k_ => P0_ k_) from by repeat (first | (with_reducible first | exact HK.out | apply Kept.alloc | apply Kept.drewN | apply Kept.drew) | exact HK.out)).1) hk)))); (case aO => exact (by (with_reducible repeat (first | apply Kd.R_alloc | apply Kd.R_drewN | apply Kd.R_drew)); exact HO_0.out)); (case aS => exact (below_size (by repeat (first | (with_reducible first | exact HB.out | apply below_alloc | apply pw_below_drewN | apply below_drew1) | exact HB.out)))); (case aL => have := LMc6.out; omega); intro v135 w7 ho hb hg hat; rw [← Ny134.out] at ho; have n0_ := Aside0.mk (hb); have n1_ := Aside0.mk (Kept.of_grown (S := (fun k_ => P0_ k_)) hg (by repeat (first | (with_reducible first | exact HK.out | apply Kept.alloc | apply Kept.drewN | apply Kept.drew) | exact HK.out)) (fun k_ e_ => (HO_0.out.1 k_ e_))); have n2_ := Aside0.mk (ho); clear HB; clear HK; clear HO_0; have HB := n0_; have HK := n1_; have HO136 := n2_; clear n0_ n1_ n2_; clear ho hb hg hat))
     go_ret
     exact ⟨_, by first | rfl | (simp [errW_none, errW_some] <;> rfl) | (simp [*, errW_none, errW_some] <;> rfl), by (with_reducible repeat (first | apply Kd.R_alloc | apply Kd.R_drewN | apply Kd.R_drew)); exact HO136.out, by repeat (first | (with_reducible first | exact HB.out | apply below_alloc | apply pw_below_drewN | apply below_drew1) | exact HB.out), by repeat (first | (with_reducible first | exact HK.out | apply Kept.alloc | apply Kept.drewN | apply Kept.drew) | exact HK.out)⟩
    ·rw [if_neg c6] at H
     exact absurd H (by simp)
end Go.Proofs.Ytelgpkbnahgdoaa.Al

namespace Go.Proofs.Ytelgpkbnahgdoaa.Al
open Go.RowKit Go.Proofs.YtelgpkbnahgdoaaW.PrintWords Go.Proofs.YtelgpkbnahgdoaaW.PrintLast Go.Proofs.YtelgpkbnahgdoaaW.PrintMore
attribute [local go_sem] max2_int min2_int max_two min_two max_three min_three max_four min_four   -- for this text's walks alone
set_option linter.unusedVariables false
set_option linter.unusedSimpArgs false
def pack_put_uint64.l0 : Nat → List Int → Int → Option (List Int)
 |0, _, _ => none
 |k + 1, x0, x1 => if x1 ≥ 128 then (if x0.length < 140737488355328 then (pack_put_uint64.l0 k (x0 ++ [(((Int.tmod x1 128) % 256) + 128) % 256]) (IntKind.u64.wrap (Int.tdiv x1 128))) else (none)) else (if x0.length < 140737488355328 then (some (x0 ++ [(x1) % 256])) else (none))
def pack_put_uint64.f (k : Nat) (l0 : List Int) (a1 : Int) : Option (List Int) := pack_put_uint64.l0 k l0 a1
theorem pack_put_uint64.mono_l : ∀ k, (∀ y0 y1, LeO (pack_put_uint64.l0 k y0 y1) (pack_put_uint64.l0 (k + 1) y0 y1))
 |0 => fun _ _ r h => by simp [pack_put_uint64.l0] at h
 |k + 1 => by
  have ih0 := pack_put_uint64.mono_l k
  ·intro y0 y1
   unfold pack_put_uint64.l0
   repeat' first
   |(with_reducible exact ih0 _ _)
   |(with_reducible exact LeO.refl _)
   |(with_reducible exact LeO.none _)
   |(with_reducible refine LeO.ite ?_ ?_)
   |(with_reducible refine LeO.bind ?_ (fun _ => ?_))
   |exact ih0 _ _
   |exact LeO.none _
   |refine LeO.ite ?_ ?_
   |refine LeO.bind ?_ (fun _ => ?_)
theorem pack_put_uint64.mono : ∀ a0 a1 k, LeO (pack_put_uint64.f k a0 a1) (pack_put_uint64.f (k + 1) a0 a1) := by
 intro a0 a1 k
 have ih0 := pack_put_uint64.mono_l k
 unfold pack_put_uint64.f
 repeat' first
   |(with_reducible exact ih0 _ _)
   |(with_reducible exact LeO.refl _)
   |(with_reducible exact LeO.none _)
   |(with_reducible refine LeO.ite ?_ ?_)
   |(with_reducible refine LeO.bind ?_ (fun _ => ?_))
   |exact ih0 _ _
   |exact LeO.none _
   |refine LeO.ite ?_ ?_
   |refine LeO.bind ?_ (fun _ => ?_)
set_option maxHeartbeats 8000000 in
set_option maxRecDepth 100000 in
theorem pack_put_uint64.calls (k : Nat) (P0_ : Nat → Prop) (u9000_ : Value) (l0 : List Int) (a1 : Int) (r : List Int) (w0 w : World) (hB : Below w0.heap.size w0 w) (ho0 : Kd.R (Kd.int .u8) 5 w w0.heap.size P0_ u9000_ l0) (h : pack_put_uint64.f k l0 a1 = some r) :
  Calls Try.prog 51 #[u9000_, .int .u64 a1] w fun e w' => ∃ v0_ : Value, e = .returned (v0_) ∧ Kd.R (Kd.int .u8) 5 w' w0.heap.size (fun k_ => (P0_ k_ ∨ w.heap.size ≤ k_)) v0_ r ∧ Below w0.heap.size w0 w' ∧ Kept w w' (fun k_ => P0_ k_) := by
 have HO0 := Aside0.mk (show Kd.R (Kd.int .u8) 5 w w0.heap.size (fun k_ => (P0_ k_ ∨ w.heap.size ≤ k_)) u9000_ l0 from Kd.R_mono ho0 (fun k_ hk => (.inl hk)))
 have HK := Aside0.mk (Kept.refl w (fun k_ => P0_ k_))
 have HW0 := Aside0.mk hB.size
 have HB := Aside0.mk hB
 clear hB
 have H : (pack_put_uint64.l0 k l0 a1) = some r := h
 clear h
 have H' := Aside0.mk H
 clear H
 go_enter Try.func51, Try.ntmps51
 go_wp2
 go_loopg [0, 1] k (fun kq v0 v1 w' => ∃ (x0_1 : List Int) (x1_1 : Int), v1 = .int .u64 x1_1 ∧ Aside0 (pack_put_uint64.l0 kq x0_1 x1_1 = some r) ∧ Aside0 (kq ≤ k) ∧ Aside0 (Kd.R (Kd.int .u8) 5 w' w0.heap.size (fun k_ => (P0_ k_ ∨ w.heap.size ≤ k_)) v0 x0_1) ∧ Aside0 (Kept w w' (fun k_ => P0_ k_)) ∧ Aside0 (Below w0.heap.size w0 w'))
 case atStart => exact ⟨(l0), (a1), (by first | rfl | (simp; done) | (simp [*]; done)), H', ⟨Nat.le_refl _⟩, ⟨by (with_reducible repeat (first | apply Kd.R_alloc | apply Kd.R_drewN | apply Kd.R_drew)); exact HO0.out⟩, ⟨by repeat (first | (with_reducible first | exact HK.out | apply Kept.alloc | apply Kept.drewN | apply Kept.drew) | exact HK.out)⟩, ⟨by repeat (first | (with_reducible first | exact HB.out | apply below_alloc | apply pw_below_drewN | apply below_drew1) | exact HB.out)⟩⟩
 case round =>
  clear H'
  try clear p2
  obtain ⟨x0_1, x1_1, rfl, HA, HK1, HO_0, HK, HB⟩ := hrel
  cases gk with
  |zero => exact absurd HA.out (by simp [pack_put_uint64.l0])
  |succ k1 =>
   have H := HA.out
   clear HA
   simp only [pack_put_uint64.l0] at H
   by_cases c3 : x1_1 ≥ 128
   ·rw [if_pos c3] at H
    have c3b0 : decide (128 ≤ x1_1) = true := decide_eq_true c3
    clear c3
    by_cases c4 : x0_1.length < 140737488355328
    ·rw [if_pos c4] at H
     have LMc4 := Aside0.mk c4
     clear c4
     obtain ⟨y137, hy137⟩ : ∃ y_ : List Int, y_ = (x0_1 ++ [(((Int.tmod x1_1 128) % 256) + 128) % 256]) := ⟨_, rfl⟩
     replace H : (pack_put_uint64.l0 k1 y137 (IntKind.u64.wrap (Int.tdiv x1_1 128))) = some r := by first | (rw [hy137]; with_reducible exact H) | (have H2_ := (Option.bind_some _ _).symm.trans H; rw [hy137]; with_reducible exact H2_) | (have H2_ := (Option.bind_some _ _).symm.trans H; with_reducible exact H2_) | with_reducible exact H | (rw [hy137]; exact H) | exact H
     have Ny137 := Aside0.mk (show y137 = (x0_1 ++ [((Int.tmod x1_1 128) + 128) % 256]) from by rw [hy137]; simp only [ByteArray.size_append, Int.natCast_add, Int.emod_add_emod])
     clear hy137
     have H' := Aside0.mk H
     clear H
     go_wp2_with (first | ((with_reducible refine gate_builtin (b := .append) (xs := #[.tmp 9, .tmp 14]) rfl ?_); at_builtin; refine Kd.R_append (Kd.int .u8) (w0 := w0) w0.heap.size rfl (.tmp 9) (.tmp 14) 60 5 (.int .u8 0) 1 rfl Try.underlying60 info5 rfl (by decide) (by omega) u0 x0_1 (((Int.tmod x1_1 128) + 128) % 256) [.int .u8 (((Int.tmod x1_1 128) + 128) % 256)] (fun k_ => (P0_ k_ ∨ w.heap.size ≤ k_)) (fun _ => False) rfl rfl ?aP (fun _ hk => hk.elim) ?aF ?aO ?aB ?aS ?aL ?_; (case aP => exact rfl); (case aB => exact (by repeat (first | (with_reducible first | exact HB.out | apply below_alloc | apply pw_below_drewN | apply below_drew1) | exact HB.out))); (case aF => exact (fun k_ hk => (.inr (Nat.le_trans (by first | exact HK.out.1 | exact (show Kept w _ (fun k_ => P0_ k_) from by repeat (first | (with_reducible first | exact HK.out | apply Kept.alloc | apply Kept.drewN | apply Kept.drew) | exact HK.out)).1) hk)))); (case aO => exact (by (with_reducible repeat (first | apply Kd.R_alloc | apply Kd.R_drewN | apply Kd.R_drew)); exact HO_0.out)); (case aS => exact (below_size (by repeat (first | (with_reducible first | exact HB.out | apply below_alloc | apply pw_below_drewN | apply below_drew1) | exact HB.out)))); (case aL => have := LMc4.out; omega); intro v138 w5 ho hb hg hat; rw [← Ny137.out] at ho; have n0_ := Aside0.mk (hb); have n1_ := Aside0.mk (Kept.of_grown (S := (fun k_ => P0_ k_)) hg (by repeat (first | (with_reducible first | exact HK.out | apply Kept.alloc | apply Kept.drewN | apply Kept.drew) | exact HK.out)) (fun k_ e_ => (HO_0.out.1 k_ e_))); have n2_ := Aside0.mk (ho); clear HB; clear HK; clear HO_0; have HB := n0_; have HK := n1_; have HO139 := n2_; clear n0_ n1_ n2_; clear ho hb hg hat))
     go_roundg k1
     case measure => have := HK1.out; omega
     case rel => exact ⟨(y137), (IntKind.u64.wrap (Int.tdiv x1_1 128)), (by first | rfl | (simp; done) | (simp [*]; done)), H', ⟨by have := HK1.out; omega⟩, ⟨by (with_reducible repeat (first | apply Kd.R_alloc | apply Kd.R_drewN | apply Kd.R_drew)); exact HO139.out⟩, ⟨by repeat (first | (with_reducible first | exact HK.out | apply Kept.alloc | apply Kept.drewN | apply Kept.drew) | exact HK.out)⟩, ⟨by repeat (first | (with_reducible first | exact HB.out | apply below_alloc | apply pw_below_drewN | apply below_drew1) | exact HB.out)⟩⟩
    ·rw [if_neg c4] at H
     exact absurd H (by simp)
   ·rw [if_neg c3] at H
    have c3b0 : decide (128 ≤ x1_1) = false := decide_eq_false c3
    clear c3
    by_cases c6 : x0_1.length < 140737488355328
    ·rw [if_pos c6] at H
     have LMc6 := Aside0.mk c6
     clear c6
     obtain ⟨y140, hy140⟩ : ∃ y_ : List Int, y_ = (x0_1 ++ [(x1_1) % 256]) := ⟨_, rfl⟩
     replace H : (some y140) = some r := by first | (rw [hy140]; with_reducible exact H) | (have H2_ := (Option.bind_some _ _).symm.trans H; rw [hy140]; with_reducible exact H2_) | (have H2_ := (Option.bind_some _ _).symm.trans H; with_reducible exact H2_) | with_reducible exact H | (rw [hy140]; exact H) | exact H
     have Ny140 := Aside0.mk hy140
     clear hy140
     obtain rfl := Option.some.inj H
     go_wp2_with (first | ((with_reducible refine gate_builtin (b := .append) (xs := #[.tmp 16, .tmp 19]) rfl ?_); at_builtin; refine Kd.R_append (Kd.int .u8) (w0 := w0) w0.heap.size rfl (.tmp 16) (.tmp 19) 60 5 (.int .u8 0) 1 rfl Try.underlying60 info5 rfl (by decide) (by omega) u0 x0_1 ((x1_1) % 256) [.int .u8 ((x1_1) % 256)] (fun k_ => (P0_ k_ ∨ w.heap.size ≤ k_)) (fun _ => False) rfl rfl ?aP (fun _ hk => hk.elim) ?aF ?aO ?aB ?aS ?aL ?_; (case aP => exact rfl); (case aB => exact (by repeat (first | (with_reducible first | exact HB.out | apply below_alloc | apply pw_below_drewN | apply below_drew1) | exact HB.out))); (case aF => exact (fun k_ hk => (.inr (Nat.le_trans (by first | exact HK.out.1 | exact (show Kept w _ (fun k_ => P0_ k_) from by repeat (first | (with_reducible first | exact HK.out | apply Kept.alloc | apply Kept.drewN | apply Kept.drew) | exact HK.out)).1) hk)))); (case aO => exact (by (with_reducible repeat (first | apply Kd.R_alloc | apply Kd.R_drewN | apply Kd.R_drew)); exact HO_0.out)); (case aS => exact (below_size (by repeat (first | (with_reducible first | exact HB.out | apply below_alloc | apply pw_below_drewN | apply below_drew1) | exact HB.out)))); (case aL => have := LMc6.out; omega); intro v141 w7 ho hb hg hat; rw [← Ny140.out] at ho; have n0_ := Aside0.mk (hb); have n1_ := Aside0.mk (Kept.of_grown (S := (fun k_ => P0_ k_)) hg (by repeat (first | (with_reducible first | exact HK.out | apply Kept.alloc | apply Kept.drewN | apply Kept.drew) | exact HK.out)) (fun k_ e_ => (HO_0.out.1 k_ e_))); have n2_ := Aside0.mk (ho); clear HB; clear HK; clear HO_0; have HB := n0_; have HK := n1_; have HO142 := n2_; clear n0_ n1_ n2_; clear ho hb hg hat))
     go_ret
     exact ⟨_, by first | rfl | (simp [errW_none, errW_some] <;> rfl) | (simp [*, errW_none, errW_some] <;> rfl), by (with_reducible repeat (first | apply Kd.R_alloc | apply Kd.R_drewN | apply Kd.R_drew)); exact HO142.out, by repeat (first | (with_reducible first | exact HB.out | apply below_alloc | apply pw_below_drewN | apply below_drew1) | exact HB.out), by repeat (first | (with_reducible first | exact HK.out | apply Kept.alloc | apply Kept.drewN | apply Kept.drew) | exact HK.out)⟩
    ·rw [if_neg c6] at H
     exact absurd H (by simp)
end Go.Proofs.Ytelgpkbnahgdoaa.Al

namespace Go.Proofs.Ytelgpkbnahgdoaa.Al
open Go.RowKit Go.Proofs.YtelgpkbnahgdoaaW.PrintWords Go.Proofs.YtelgpkbnahgdoaaW.PrintLast Go.Proofs.YtelgpkbnahgdoaaW.PrintMore
attribute [local go_sem] max2_int min2_int max_two min_two max_three min_three max_four min_four   -- for this text's walks alone
set_option linter.unusedVariables false
set_option linter.unusedSimpArgs false
def pack_signed.f (k : Nat) (l0 : List Int) (a1 : Int) : Option (List Int) := (pack_put_uint64.f k l0 (Go.bits .xor .u64 (IntKind.u64.wrap ((IntKind.u64.wrap (a1)) * 2)) (IntKind.u64.wrap (a1 / 9223372036854775808)))).bind fun t143 => (some t143)
theorem pack_signed.mono : ∀ a0 a1 k, LeO (pack_signed.f k a0 a1) (pack_signed.f (k + 1) a0 a1) := by
 intro a0 a1 k
 unfold pack_signed.f
 repeat' first
   |(with_reducible exact pack_put_uint64.mono _ _ _)
   |(with_reducible exact LeO.refl _)
   |(with_reducible exact LeO.none _)
   |(with_reducible refine LeO.ite ?_ ?_)
   |(with_reducible refine LeO.bind ?_ (fun _ => ?_))
   |exact pack_put_uint64.mono _ _ _
   |exact LeO.none _
   |refine LeO.ite ?_ ?_
   |refine LeO.bind ?_ (fun _ => ?_)
set_option maxHeartbeats 8000000 in
set_option maxRecDepth 100000 in
theorem pack_signed.calls (k : Nat) (P0_ : Nat → Prop) (u9000_ : Value) (l0 : List Int) (a1 : Int) (r : List Int) (w0 w : World) (hB : Below w0.heap.size w0 w) (ho0 : Kd.R (Kd.int .u8) 5 w w0.heap.size P0_ u9000_ l0) (h : pack_signed.f k l0 a1 = some r) :
  Calls Try.prog 42 #[u9000_, .int .i64 a1] w fun e w' => ∃ v0_ : Value, e = .returned (v0_) ∧ Kd.R (Kd.int .u8) 5 w' w0.heap.size (fun k_ => (P0_ k_ ∨ w.heap.size ≤ k_)) v0_ r ∧ Below w0.heap.size w0 w' ∧ Kept w w' (fun k_ => P0_ k_) := by
 have HO0 := Aside0.mk (show Kd.R (Kd.int .u8) 5 w w0.heap.size (fun k_ => (P0_ k_ ∨ w.heap.size ≤ k_)) u9000_ l0 from Kd.R_mono ho0 (fun k_ hk => (.inl hk)))
 have HK := Aside0.mk (Kept.refl w (fun k_ => P0_ k_))
 have HW0 := Aside0.mk hB.size
 have HB := Aside0.mk hB
 clear hB
 have H : ((pack_put_uint64.f k l0 (Go.bits .xor .u64 (IntKind.u64.wrap ((IntKind.u64.wrap (a1)) * 2)) (IntKind.u64.wrap (a1 / 9223372036854775808)))).bind fun t143 => (some t143)) = some r := h
 clear h
 replace H := Option.bind_eq_some_iff.mp H
 obtain ⟨t143, A30, H⟩ := H
 replace H : (some t143) = some r := H
 have A3 := Aside0.mk A30
 clear A30
 obtain rfl := Option.some.inj H
 obtain ⟨Ao4, co4, eo4⟩ := Kd.R_slice HO0.out
 subst eo4
 go_enter Try.func42, Try.ntmps42
 go_wp2_with (first | ((with_reducible refine gate_callee (f := 51) rfl ?_); refine goesL_ (some 13) rfl rfl Try.func51 (by kernel_rfl) rfl #[.slice Ao4 l0.length co4, .int .u64 (Go.bits .xor .u64 (IntKind.u64.wrap ((IntKind.u64.wrap (a1)) * 2)) (IntKind.u64.wrap (a1 / 9223372036854775808)))] rfl (by (try simp only [List.map_toArray, List.map_cons, List.map_nil]); first | done | rfl | (simp only [List.length_drop, List.length_take]; rfl)) ?_; (with_reducible refine (pack_put_uint64.calls k (fun k_ => some k_ = (.slice Ao4 l0.length co4 : Value).ownBlock) (.slice Ao4 l0.length co4) l0 (Go.bits .xor .u64 (IntKind.u64.wrap ((IntKind.u64.wrap (a1)) * 2)) (IntKind.u64.wrap (a1 / 9223372036854775808))) t143 w0 _ ?side1 ?side2 A3.out).mono ?_); (case side1 => repeat (first | (with_reducible first | exact HB.out | apply below_alloc | apply pw_below_drewN | apply below_drew1) | exact HB.out)); (case side2 => exact Kd.R_tight rfl HO0.out); rintro e w5 ⟨v144, rfl, ho0, hb, hkp⟩; refine ⟨_, rfl, ?_⟩; have n0_ := Aside0.mk (Kd.R_mono (ok' := fun k_ => (P0_ k_ ∨ w.heap.size ≤ k_)) ho0 (fun k_ hk_ => Or.elim hk_ (fun hs_ => (HO0.out.1 k_ (hs_).symm)) (fun hn_ => (.inr (Nat.le_trans (by first | exact HK.out.1 | exact (show Kept w _ (fun k_ => P0_ k_) from by repeat (first | (with_reducible first | exact HK.out | apply Kept.alloc | apply Kept.drewN | apply Kept.drew) | exact HK.out)).1) hn_))))); have n1_ := Aside0.mk (Kept.then_ (S := (fun k_ => P0_ k_)) (by repeat (first | (with_reducible first | exact HK.out | apply Kept.alloc | apply Kept.drewN | apply Kept.drew) | exact HK.out)) hkp (fun k_ hs_ => (fun e_ => (HO0.out.1 k_ e_.symm)) hs_)); have n2_ := Aside0.mk (hb); clear HK; clear HB; clear HO0; have HO145 := n0_; have HK := n1_; have HB := n2_; clear n0_ n1_ n2_; (try clear hb); (try clear hkp); (try clear ho0)))
 go_ret
 exact ⟨_, by first | rfl | (simp [errW_none, errW_some] <;> rfl) | (simp [*, errW_none, errW_some] <;> rfl), by (with_reducible repeat (first | apply Kd.R_alloc | apply Kd.R_drewN | apply Kd.R_drew)); exact HO145.out, by repeat (first | (with_reducible first | exact HB.out | apply below_alloc | apply pw_below_drewN | apply below_drew1) | exact HB.out), by repeat (first | (with_reducible first | exact HK.out | apply Kept.alloc | apply Kept.drewN | apply Kept.drew) | exact HK.out)⟩
end Go.Proofs.Ytelgpkbnahgdoaa.Al

namespace Go.Proofs.Ytelgpkbnahgdoaa.Al
open Go.RowKit Go.Proofs.YtelgpkbnahgdoaaW.PrintWords Go.Proofs.YtelgpkbnahgdoaaW.PrintLast Go.Proofs.YtelgpkbnahgdoaaW.PrintMore
attribute [local go_sem] max2_int min2_int max_two min_two max_three min_three max_four min_four   -- for this text's walks alone
set_option linter.unusedVariables false
set_option linter.unusedSimpArgs false
mutual
def pack_Encode.l0 : Nat → List Int → List Int → Int → Int → List Int → List ByteArray → Option (ByteArray × Int)
 |0, _, _, _, _, _, _ => none
 |k + 1, x5, x20, x21, x22, x147000, x147001 => if x22 < x21 then (if 0 ≤ x22 then (if x22 < (x20.length : Int) then ((pack_signed.f k x5 (rd x20 x22)).bind fun t152 => (pack_Encode.l0 k t152 x20 x21 (wrap64 (x22 + 1)) x147000 x147001)) else (none)) else (none)) else ((pack_put_int.f k x5 (x147001.length : Int)).bind fun t155 => (pack_Encode.l1 k t155 x147001 (x147001.length : Int) 0))
def pack_Encode.l1 : Nat → List Int → List ByteArray → Int → Int → Option (ByteArray × Int)
 |0, _, _, _, _ => none
 |k + 1, x5, x36, x37, x38 => if x38 < x37 then (if 0 ≤ x38 then (if x38 < (x36.length : Int) then ((pack_put_int.f k x5 ((rdOf ByteArray.empty x36 x38).size : Int)).bind fun t159 => (if t159.length + (rdOf ByteArray.empty x36 x38).size < 140737488355328 then (pack_Encode.l1 k (t159 ++ bytesOf (rdOf ByteArray.empty x36 x38)) x36 x37 (wrap64 (x38 + 1))) else (none))) else (none)) else (none)) else (some (strOfNums x5, 0))
end
def pack_Encode.f (k : Nat) (l0_0 : List Int) (l0_1 : List ByteArray) : Option (ByteArray × Int) := (pack_Check.f k l0_0 l0_1).bind fun t147 => (if t147 = 0 then ((pack_put_int.f k ([] : List Int) (l0_0.length : Int)).bind fun t148 => (pack_Encode.l0 k t148 l0_0 (l0_0.length : Int) 0 l0_0 l0_1)) else (some ((⟨#[]⟩ : ByteArray), t147)))
theorem pack_Encode.mono_l : ∀ k, (∀ y0 y1 y2 y3 y4 y5, LeO (pack_Encode.l0 k y0 y1 y2 y3 y4 y5) (pack_Encode.l0 (k + 1) y0 y1 y2 y3 y4 y5)) ∧ (∀ y0 y1 y2 y3, LeO (pack_Encode.l1 k y0 y1 y2 y3) (pack_Encode.l1 (k + 1) y0 y1 y2 y3))
 |0 => ⟨fun _ _ _ _ _ _ r h => by simp [pack_Encode.l0] at h, fun _ _ _ _ r h => by simp [pack_Encode.l1] at h⟩
 |k + 1 => by
  obtain ⟨ih0, ih1⟩ := pack_Encode.mono_l k
  refine ⟨?_, ?_⟩
  ·intro y0 y1 y2 y3 y4 y5
   unfold pack_Encode.l0
   repeat' first
   |(with_reducible exact ih0 _ _ _ _ _ _)
   |(with_reducible exact ih1 _ _ _ _)
   |(with_reducible exact pack_Check.mono _ _ _)
   |(with_reducible exact pack_put_int.mono _ _ _)
   |(with_reducible exact pack_signed.mono _ _ _)
   |(with_reducible exact LeO.refl _)
   |(with_reducible exact LeO.none _)
   |(with_reducible refine LeO.ite ?_ ?_)
   |(with_reducible refine LeO.bind ?_ (fun _ => ?_))
   |exact ih0 _ _ _ _ _ _
   |exact ih1 _ _ _ _
   |exact pack_Check.mono _ _ _
   |exact pack_put_int.mono _ _ _
   |exact pack_signed.mono _ _ _
   |exact LeO.none _
   |refine LeO.ite ?_ ?_
   |refine LeO.bind ?_ (fun _ => ?_)
  ·intro y0 y1 y2 y3
   unfold pack_Encode.l1
   repeat' first
   |(with_reducible exact ih0 _ _ _ _ _ _)
   |(with_reducible exact ih1 _ _ _ _)
   |(with_reducible exact pack_Check.mono _ _ _)
   |(with_reducible exact pack_put_int.mono _ _ _)
   |(with_reducible exact pack_signed.mono _ _ _)
   |(with_reducible exact LeO.refl _)
   |(with_reducible exact LeO.none _)
   |(with_reducible refine LeO.ite ?_ ?_)
   |(with_reducible refine LeO.bind ?_ (fun _ => ?_))
   |exact ih0 _ _ _ _ _ _
   |exact ih1 _ _ _ _
   |exact pack_Check.mono _ _ _
   |exact pack_put_int.mono _ _ _
   |exact pack_signed.mono _ _ _
   |exact LeO.none _
   |refine LeO.ite ?_ ?_
   |refine LeO.bind ?_ (fun _ => ?_)
theorem pack_Encode.mono : ∀ a0 a1 k, LeO (pack_Encode.f k a0 a1) (pack_Encode.f (k + 1) a0 a1) := by
 intro a0 a1 k
 obtain ⟨ih0, ih1⟩ := pack_Encode.mono_l k
 unfold pack_Encode.f
 repeat' first
   |(with_reducible exact ih0 _ _ _ _ _ _)
   |(with_reducible exact ih1 _ _ _ _)
   |(with_reducible exact pack_Check.mono _ _ _)
   |(with_reducible exact pack_put_int.mono _ _ _)
   |(with_reducible exact pack_signed.mono _ _ _)
   |(with_reducible exact LeO.refl _)
   |(with_reducible exact LeO.none _)
   |(with_reducible refine LeO.ite ?_ ?_)
   |(with_reducible refine LeO.bind ?_ (fun _ => ?_))
   |exact ih0 _ _ _ _ _ _
   |exact ih1 _ _ _ _
   |exact pack_Check.mono _ _ _
   |exact pack_put_int.mono _ _ _
   |exact pack_signed.mono _ _ _
   |exact LeO.none _
   |refine LeO.ite ?_ ?_
   |refine LeO.bind ?_ (fun _ => ?_)
set_option maxHeartbeats 8000000 in
set_option maxRecDepth 100000 in
theorem pack_Encode.calls (k : Nat) (A0_0 : Option Addr) (c0_0 : Nat) (l0_0 : List Int) (A0_1 : Option Addr) (c0_1 : Nat) (l0_1 : List ByteArray) (r1 : ByteArray) (r2 : Int) (w : World) (hr0_0 : Kd.C (Kd.int .i64) w A0_0 l0_0.length l0_0) (hc0_0 : l0_0.length ≤ c0_0) (hr0_1 : Kd.C Kd.string w A0_1 l0_1.length l0_1) (hc0_1 : l0_1.length ≤ c0_1) (h : pack_Encode.f k l0_0 l0_1 = some (r1, r2)) :
  Calls Try.prog 26 #[.agg #[.slice A0_0 l0_0.length c0_0, .slice A0_1 l0_1.length c0_1]] w fun e w' => e = .returned (.tuple #[.string r1, .int .i64 r2]) ∧ Below w.heap.size w w' := by
 have hu47 := Try.underlying47
 have HR0_0 := Aside0.mk hr0_0
 have HC0_0 := Aside0.mk hc0_0
 clear hr0_0 hc0_0
 have HR0_1 := Aside0.mk hr0_1
 have HC0_1 := Aside0.mk hc0_1
 clear hr0_1 hc0_1
 have HB := Aside0.mk (Below.refl w.heap.size w)
 have H : ((pack_Check.f k l0_0 l0_1).bind fun t147 => (if t147 = 0 then ((pack_put_int.f k ([] : List Int) (l0_0.length : Int)).bind fun t148 => (pack_Encode.l0 k t148 l0_0 (l0_0.length : Int) 0 l0_0 l0_1)) else (some ((⟨#[]⟩ : ByteArray), t147)))) = some (r1, r2) := h
 clear h
 replace H := Option.bind_eq_some_iff.mp H
 obtain ⟨t147, A20, H⟩ := H
 replace H : (if t147 = 0 then ((pack_put_int.f k ([] : List Int) (l0_0.length : Int)).bind fun t148 => (pack_Encode.l0 k t148 l0_0 (l0_0.length : Int) 0 l0_0 l0_1)) else (some ((⟨#[]⟩ : ByteArray), t147))) = some (r1, r2) := H
 have A2 := Aside0.mk A20
 clear A20
 by_cases c3 : t147 = 0
 ·rw [if_pos c3] at H
  have c3b0 : (t147 == 0) = true := beq_iff_eq.mpr c3
  have c3b1 : (t147 != 0) = false := bne_eq_false_iff_eq.mpr c3
  clear c3
  replace H := Option.bind_eq_some_iff.mp H
  obtain ⟨t148, A40, H⟩ := H
  replace H : (pack_Encode.l0 k t148 l0_0 (l0_0.length : Int) 0 l0_0 l0_1) = some (r1, r2) := H
  have A4 := Aside0.mk A40
  clear A40
  have H' := Aside0.mk H
  clear H
  go_enter Try.func26, Try.ntmps26
  go_wp2_with (first | ((with_reducible refine gate_dst (N := 1) rfl ?_); refine box_event ?hg (N := 1) ?hd (cs := #[.slice A0_0 l0_0.length c0_0, .slice A0_1 l0_1.length c0_1]) (t := 47) ?hr ?_; (case hd => rfl); (case hg => rfl); (case hr => first | (go_simp; done) | (go_simp; rfl)); intro gb146 hg w5 hbox hb; have n0_ := Aside0.mk (below_step (by repeat (first | (with_reducible first | exact HB.out | apply below_alloc | apply pw_below_drewN | apply below_drew1) | exact HB.out)) hb); have n1_ := Aside0.mk (hbox); have n2_ := Aside0.mk ((by rw [hg]; exact (below_size (by repeat (first | (with_reducible first | exact HB.out | apply below_alloc | apply pw_below_drewN | apply below_drew1) | exact HB.out))) : w.heap.size ≤ gb146)); have n3_ := Aside0.mk ((by rw [hg]; exact (below_size (by repeat (first | (with_reducible first | exact HB.out | apply below_alloc | apply pw_below_drewN | apply below_drew1) | exact HB.out))) : w.heap.size ≤ gb146)); clear HB; have HB := n0_; have BK146 := n1_; have GW146 := n2_; have GE146 := n3_; clear n0_ n1_ n2_ n3_; clear hb hbox hg; have hcz6_0 : w5.cell? ⟨gb146, 0, none⟩ = some (.slice A0_0 l0_0.length c0_0) := (blk_cell BK146.out 0).trans rfl; have hcz6_1 : w5.cell? ⟨gb146, 1, none⟩ = some (.slice A0_1 l0_1.length c0_1) := (blk_cell BK146.out 1).trans rfl; have hfz6_0 := blk_frozen BK146.out 0; have hfz6_1 := blk_frozen BK146.out 1) | ((with_reducible refine gate_callee (f := 40) rfl ?_); refine goesL_ (some 11) rfl rfl Try.func40 (by kernel_rfl) rfl #[.agg #[.slice A0_0 l0_0.length c0_0, .slice A0_1 l0_1.length c0_1]] rfl (by (try simp only [List.map_toArray, List.map_cons, List.map_nil]); first | done | rfl | (simp only [List.length_drop, List.length_take]; rfl)) ?_; (with_reducible refine (pack_Check.calls k _ _ l0_0 _ _ l0_1 t147 _ ?side1 ?side2 ?side3 ?side4 A2.out).mono ?_); (case side1 => repeat (first | exact (Kd.C_below HR0_0.out HB.out) | (with_reducible refine Kd.C_alloc ?_ _) | (with_reducible refine Kd.C_drewN ?_ _) | (with_reducible refine Kd.C_drew ?_))); (case side2 => exact HC0_0.out); (case side3 => repeat (first | exact (Kd.C_below HR0_1.out HB.out) | (with_reducible refine Kd.C_alloc ?_ _) | (with_reducible refine Kd.C_drewN ?_ _) | (with_reducible refine Kd.C_drew ?_))); (case side4 => exact HC0_1.out); rintro e w7 ⟨rfl, hb⟩; refine ⟨_, rfl, ?_⟩; have n0_ := Aside0.mk (blk_below (g := gb146) (o := .cells #[.slice A0_0 l0_0.length c0_0, .slice A0_1 l0_1.length c0_1] 47 (0, 0)) (by (with_reducible repeat (first | refine blk_drewN ?_ _ | refine blk_drew ?_ | refine blk_alloc ?_ _)); exact BK146.out) hb); have n1_ := Aside0.mk (below_step (by repeat (first | (with_reducible first | exact HB.out | apply below_alloc | apply pw_below_drewN | apply below_drew1 | refine below_set ?_ GE146.out) | exact HB.out)) hb); clear BK146; clear HB; have BK146 := n0_; have HB := n1_; clear n0_ n1_; (try clear hb); (try clear hb2); (try clear hk); (try clear hi); have hcz8_0 : w7.cell? ⟨gb146, 0, none⟩ = some (.slice A0_0 l0_0.length c0_0) := (blk_cell BK146.out 0).trans rfl; have hcz8_1 : w7.cell? ⟨gb146, 1, none⟩ = some (.slice A0_1 l0_1.length c0_1) := (blk_cell BK146.out 1).trans rfl; have hfz8_0 := blk_frozen BK146.out 0; have hfz8_1 := blk_frozen BK146.out 1) | ((with_reducible refine gate_callee (f := 41) rfl ?_); refine goesL_ (some 18) rfl rfl Try.func41 (by kernel_rfl) rfl #[.slice none 0 0, .int .i64 (l0_0.length : Int)] rfl (by (try simp only [List.map_toArray, List.map_cons, List.map_nil]); first | done | rfl | (simp only [List.length_drop, List.length_take]; rfl)) ?_; (refine (pack_put_int.calls k (fun k_ => some k_ = (.slice none 0 0 : Value).ownBlock) (.slice none 0 0) ([] : List Int) (l0_0.length : Int) t148 w _ ?side1 ?side2 A4.out).mono ?_); (case side1 => repeat (first | (with_reducible first | exact HB.out | apply below_alloc | apply pw_below_drewN | apply below_drew1 | refine below_set ?_ GE146.out) | exact HB.out)); (case side2 => exact Kd.R_nil _ _ _ _ _); rintro e w9 ⟨v149, rfl, ho0, hb, hkp⟩; refine ⟨_, rfl, ?_⟩; have n0_ := Aside0.mk (blk_kept (by (with_reducible repeat (first | refine blk_drewN ?_ _ | refine blk_drew ?_ | refine blk_alloc ?_ _)); exact BK146.out) hkp (fun hs_ => (fun e_ => by simp [Value.ownBlock] at e_) hs_)); have n1_ := Aside0.mk (Kd.R_mono (ok' := fun k_ => True) ho0 (fun k_ hk_ => trivial)); have n2_ := Aside0.mk (hb); clear BK146; clear HB; have BK146 := n0_; have HO150 := n1_; have HB := n2_; clear n0_ n1_ n2_; (try clear hb); (try clear hkp); (try clear ho0); have hcz10_0 : w9.cell? ⟨gb146, 0, none⟩ = some (.slice A0_0 l0_0.length c0_0) := (blk_cell BK146.out 0).trans rfl; have hcz10_1 : w9.cell? ⟨gb146, 1, none⟩ = some (.slice A0_1 l0_1.length c0_1) := (blk_cell BK146.out 1).trans rfl; have hfz10_0 := blk_frozen BK146.out 0; have hfz10_1 := blk_frozen BK146.out 1))
  go_loopg [5, 22] k (fun kq v5 v22 w' => ∃ (x5_1 : List Int) (x22_1 : Int), v22 = .int .i64 x22_1 ∧ Aside0 (pack_Encode.l0 kq x5_1 l0_0 (l0_0.length : Int) x22_1 l0_0 l0_1 = some (r1, r2)) ∧ Aside0 (kq ≤ k) ∧ Aside0 (Kd.R (Kd.int .u8) 5 w' w.heap.size (fun _ => True) v5 x5_1) ∧ Aside0 (w'.heap[gb146]? = some (.cells #[(.slice A0_0 l0_0.length c0_0), (.slice A0_1 l0_1.length c0_1)] 47 (0, 0))) ∧ Aside0 (Below w.heap.size w w'))
  case atStart => exact ⟨(t148), (0), (by first | rfl | (simp; done) | (simp [*]; done)), H', ⟨Nat.le_refl _⟩, ⟨by (with_reducible repeat (first | apply Kd.R_alloc | apply Kd.R_drewN | apply Kd.R_drew)); exact HO150.out⟩, ⟨by (with_reducible repeat (first | refine blk_drewN ?_ _ | refine blk_drew ?_ | refine blk_alloc ?_ _)); exact BK146.out⟩, ⟨by repeat (first | (with_reducible first | exact HB.out | apply below_alloc | apply pw_below_drewN | apply below_drew1 | refine below_set ?_ GE146.out) | exact HB.out)⟩⟩
  case round =>
   clear H'
   (try clear c2); (try clear p2); (try clear c3); (try clear c3b0); (try clear c3b1); (try clear c4); (try clear hcz10_0); (try clear hcz10_1); (try clear hcz6_0); (try clear hcz6_1); (try clear hcz8_0); (try clear hcz8_1); (try clear hfz10_0); (try clear hfz10_1); (try clear hfz6_0); (try clear hfz6_1); (try clear hfz8_0); (try clear hfz8_1)
   obtain ⟨x5_1, x22_1, rfl, HA, HK1, HO_5, BK146, HB⟩ := hrel
   cases gk with
   |zero => exact absurd HA.out (by simp [pack_Encode.l0])
   |succ k1 =>
    have H := HA.out
    clear HA
    simp only [pack_Encode.l0] at H
    by_cases c11 : x22_1 < (l0_0.length : Int)
    ·rw [if_pos c11] at H
     have c11b0 : decide (x22_1 < (l0_0.length : Int)) = true := decide_eq_true c11
     clear c11
     by_cases c12 : 0 ≤ x22_1
     ·rw [if_pos c12] at H
      have c12b0 : decide (0 ≤ x22_1) = true := decide_eq_true c12
      clear c12
      by_cases c13 : x22_1 < (l0_0.length : Int)
      ·rw [if_pos c13] at H
       have c13b0 : decide (x22_1 < (l0_0.length : Int)) = true := decide_eq_true c13
       clear c13
       replace H := Option.bind_eq_some_iff.mp H
       obtain ⟨t152, A140, H⟩ := H
       replace H : (pack_Encode.l0 k1 t152 l0_0 (l0_0.length : Int) (wrap64 (x22_1 + 1)) l0_0 l0_1) = some (r1, r2) := H
       have A14 := Aside0.mk A140
       clear A140
       have H' := Aside0.mk H
       clear H
       have p151 : 0 ≤ (x22_1 : Int) := of_decide_eq_true (by first | (with_reducible assumption) | assumption)
       have q151 : x22_1 < (l0_0.length : Int) := of_decide_eq_true (by first | (with_reducible assumption) | assumption)
       obtain ⟨ad151, e151, hx151_0⟩ := Kd.at_int HR0_0.out x22_1 p151 q151
       cases e151
       replace hx151_0 := (HB.out.cell (World.block_lt_of_cell? w _ hx151_0)).trans hx151_0
       replace p151 := eq_true p151
       replace q151 := eq_true q151
       obtain ⟨Ao15, co15, eo15⟩ := Kd.R_slice HO_5.out
       subst eo15
       go_wp2_with (first | ((with_reducible refine gate_callee (f := 42) rfl ?_); refine goesL_ (some 28) rfl rfl Try.func42 (by kernel_rfl) rfl #[.slice Ao15 x5_1.length co15, .int .i64 (rd l0_0 x22_1)] rfl (by (try simp only [List.map_toArray, List.map_cons, List.map_nil]); first | done | rfl | (simp only [List.length_drop, List.length_take]; rfl)) ?_; (with_reducible refine (pack_signed.calls k1 (fun k_ => some k_ = (.slice Ao15 x5_1.length co15 : Value).ownBlock) (.slice Ao15 x5_1.length co15) x5_1 (rd l0_0 x22_1) t152 w _ ?side1 ?side2 A14.out).mono ?_); (case side1 => repeat (first | (with_reducible first | exact HB.out | apply below_alloc | apply pw_below_drewN | apply below_drew1 | refine below_set ?_ GE146.out) | exact HB.out)); (case side2 => exact Kd.R_tight rfl HO_5.out); rintro e w16 ⟨v153, rfl, ho0, hb, hkp⟩; refine ⟨_, rfl, ?_⟩; have n0_ := Aside0.mk (blk_kept (by (with_reducible repeat (first | refine blk_drewN ?_ _ | refine blk_drew ?_ | refine blk_alloc ?_ _)); exact BK146.out) hkp (fun hs_ => (fun e_ => (Kd.R_ne HO_5.out BK146.out (by decide)) e_) hs_)); have n1_ := Aside0.mk (Kd.R_mono (ok' := fun k_ => True) ho0 (fun k_ hk_ => trivial)); have n2_ := Aside0.mk (hb); clear BK146; clear HB; clear HO_5; have BK146 := n0_; have HO154 := n1_; have HB := n2_; clear n0_ n1_ n2_; (try clear hb); (try clear hkp); (try clear ho0)))
       go_roundg k1
       case measure => have := HK1.out; omega
       case rel => exact ⟨(t152), (wrap64 (x22_1 + 1)), (by first | rfl | (simp; done) | (simp [*]; done)), H', ⟨by have := HK1.out; omega⟩, ⟨by (with_reducible repeat (first | apply Kd.R_alloc | apply Kd.R_drewN | apply Kd.R_drew)); exact HO154.out⟩, ⟨by (with_reducible repeat (first | refine blk_drewN ?_ _ | refine blk_drew ?_ | refine blk_alloc ?_ _)); exact BK146.out⟩, ⟨by repeat (first | (with_reducible first | exact HB.out | apply below_alloc | apply pw_below_drewN | apply below_drew1 | refine below_set ?_ GE146.out) | exact HB.out)⟩⟩
      ·rw [if_neg c13] at H
       exact absurd H (by simp)
     ·rw [if_neg c12] at H
      exact absurd H (by simp)
    ·rw [if_neg c11] at H
     have c11b0 : decide (x22_1 < (l0_0.length : Int)) = false := decide_eq_false c11
     clear c11
     replace H := Option.bind_eq_some_iff.mp H
     obtain ⟨t155, A170, H⟩ := H
     replace H : (pack_Encode.l1 k1 t155 l0_1 (l0_1.length : Int) 0) = some (r1, r2) := H
     have A17 := Aside0.mk A170
     clear A170
     have H' := Aside0.mk H
     clear H
     obtain ⟨hcz18_0, hfz18_0, hcz18_1, hfz18_1⟩ := cfz2 BK146.out
     obtain ⟨Ao19, co19, eo19⟩ := Kd.R_slice HO_5.out
     subst eo19
     go_wp2_with (first | ((with_reducible refine gate_callee (f := 41) rfl ?_); refine goesL_ (some 34) rfl rfl Try.func41 (by kernel_rfl) rfl #[.slice Ao19 x5_1.length co19, .int .i64 (l0_1.length : Int)] rfl (by (try simp only [List.map_toArray, List.map_cons, List.map_nil]); first | done | rfl | (simp only [List.length_drop, List.length_take]; rfl)) ?_; (with_reducible refine (pack_put_int.calls k1 (fun k_ => some k_ = (.slice Ao19 x5_1.length co19 : Value).ownBlock) (.slice Ao19 x5_1.length co19) x5_1 (l0_1.length : Int) t155 w _ ?side1 ?side2 A17.out).mono ?_); (case side1 => repeat (first | (with_reducible first | exact HB.out | apply below_alloc | apply pw_below_drewN | apply below_drew1 | refine below_set ?_ GE146.out) | exact HB.out)); (case side2 => exact Kd.R_tight rfl HO_5.out); rintro e w20 ⟨v156, rfl, ho0, hb, hkp⟩; refine ⟨_, rfl, ?_⟩; have n0_ := Aside0.mk (blk_kept (by (with_reducible repeat (first | refine blk_drewN ?_ _ | refine blk_drew ?_ | refine blk_alloc ?_ _)); exact BK146.out) hkp (fun hs_ => (fun e_ => (Kd.R_ne HO_5.out BK146.out (by decide)) e_) hs_)); have n1_ := Aside0.mk (Kd.R_mono (ok' := fun k_ => True) ho0 (fun k_ hk_ => trivial)); have n2_ := Aside0.mk (hb); clear BK146; clear HB; clear HO_5; have BK146 := n0_; have HO157 := n1_; have HB := n2_; clear n0_ n1_ n2_; (try clear hb); (try clear hkp); (try clear ho0); have hcz21_0 : w20.cell? ⟨gb146, 0, none⟩ = some (.slice A0_0 l0_0.length c0_0) := (blk_cell BK146.out 0).trans rfl; have hcz21_1 : w20.cell? ⟨gb146, 1, none⟩ = some (.slice A0_1 l0_1.length c0_1) := (blk_cell BK146.out 1).trans rfl; have hfz21_0 := blk_frozen BK146.out 0; have hfz21_1 := blk_frozen BK146.out 1))
     go_loopg [5, 38] k1 (fun kq v5 v38 w' => ∃ (x5_2 : List Int) (x38_2 : Int), v38 = .int .i64 x38_2 ∧ Aside0 (pack_Encode.l1 kq x5_2 l0_1 (l0_1.length : Int) x38_2 = some (r1, r2)) ∧ Aside0 (kq ≤ k1) ∧ Aside0 (Kd.R (Kd.int .u8) 5 w' w.heap.size (fun _ => True) v5 x5_2) ∧ Aside0 (w'.heap[gb146]? = some (.cells #[(.slice A0_0 l0_0.length c0_0), (.slice A0_1 l0_1.length c0_1)] 47 (0, 0))) ∧ Aside0 (Below w.heap.size w w'))
     case atStart => exact ⟨(t155), (0), (by first | rfl | (simp; done) | (simp [*]; done)), H', ⟨Nat.le_refl _⟩, ⟨by (with_reducible repeat (first | apply Kd.R_alloc | apply Kd.R_drewN | apply Kd.R_drew)); exact HO157.out⟩, ⟨by (with_reducible repeat (first | refine blk_drewN ?_ _ | refine blk_drew ?_ | refine blk_alloc ?_ _)); exact BK146.out⟩, ⟨by repeat (first | (with_reducible first | exact HB.out | apply below_alloc | apply pw_below_drewN | apply below_drew1 | refine below_set ?_ GE146.out) | exact HB.out)⟩⟩
     case round =>
      clear H'
      (try clear c1); (try clear p1); (try clear q1); (try clear hx1); (try clear c2); (try clear p2); (try clear c3); (try clear c3b0); (try clear c3b1); (try clear c4); (try clear p6); (try clear c11); (try clear c11b0); (try clear c12); (try clear c12b0); (try clear c13); (try clear c13b0); (try clear p15); (try clear q15); (try clear hx15); (try clear hcz10_0); (try clear hcz10_1); (try clear hcz18_0); (try clear hcz18_1); (try clear hcz21_0); (try clear hcz21_1); (try clear hcz6_0); (try clear hcz6_1); (try clear hcz8_0); (try clear hcz8_1); (try clear hfz10_0); (try clear hfz10_1); (try clear hfz18_0); (try clear hfz18_1); (try clear hfz21_0); (try clear hfz21_1); (try clear hfz6_0); (try clear hfz6_1); (try clear hfz8_0); (try clear hfz8_1); (try clear hx151_0); (try clear p151); (try clear p2); (try clear q151)
      obtain ⟨x5_2, x38_2, rfl, HA, HK2, HO_5, BK146, HB⟩ := hrel
      cases gk with
      |zero => exact absurd HA.out (by simp [pack_Encode.l1])
      |succ k2 =>
       have H := HA.out
       clear HA
       simp only [pack_Encode.l1] at H
       by_cases c22 : x38_2 < (l0_1.length : Int)
       ·rw [if_pos c22] at H
        have c22b0 : decide (x38_2 < (l0_1.length : Int)) = true := decide_eq_true c22
        clear c22
        by_cases c23 : 0 ≤ x38_2
        ·rw [if_pos c23] at H
         have c23b0 : decide (0 ≤ x38_2) = true := decide_eq_true c23
         clear c23
         by_cases c24 : x38_2 < (l0_1.length : Int)
         ·rw [if_pos c24] at H
          have c24b0 : decide (x38_2 < (l0_1.length : Int)) = true := decide_eq_true c24
          clear c24
          replace H := Option.bind_eq_some_iff.mp H
          obtain ⟨t159, A250, H⟩ := H
          replace H : (if t159.length + (rdOf ByteArray.empty l0_1 x38_2).size < 140737488355328 then (pack_Encode.l1 k2 (t159 ++ bytesOf (rdOf ByteArray.empty l0_1 x38_2)) l0_1 (l0_1.length : Int) (wrap64 (x38_2 + 1))) else (none)) = some (r1, r2) := H
          have A25 := Aside0.mk A250
          clear A250
          by_cases c26 : t159.length + (rdOf ByteArray.empty l0_1 x38_2).size < 140737488355328
          ·rw [if_pos c26] at H
           have LMc26 := Aside0.mk c26
           clear c26
           obtain ⟨y162, hy162⟩ : ∃ y_ : List Int, y_ = (t159 ++ bytesOf (rdOf ByteArray.empty l0_1 x38_2)) := ⟨_, rfl⟩
           replace H : (pack_Encode.l1 k2 y162 l0_1 (l0_1.length : Int) (wrap64 (x38_2 + 1))) = some (r1, r2) := by first | (rw [hy162]; with_reducible exact H) | (have H2_ := (Option.bind_some _ _).symm.trans H; rw [hy162]; with_reducible exact H2_) | (have H2_ := (Option.bind_some _ _).symm.trans H; with_reducible exact H2_) | with_reducible exact H | (rw [hy162]; exact H) | exact H
           have Ny162 := Aside0.mk hy162
           clear hy162
           have H' := Aside0.mk H
           clear H
           have p158 : 0 ≤ (x38_2 : Int) := of_decide_eq_true (by first | (with_reducible assumption) | assumption)
           have q158 : x38_2 < (l0_1.length : Int) := of_decide_eq_true (by first | (with_reducible assumption) | assumption)
           obtain ⟨ad158, e158, hx158_0⟩ := Kd.at_string HR0_1.out x38_2 p158 q158
           cases e158
           replace hx158_0 := (HB.out.cell (World.block_lt_of_cell? w _ hx158_0)).trans hx158_0
           replace p158 := eq_true p158
           replace q158 := eq_true q158
           obtain ⟨Ao27, co27, eo27⟩ := Kd.R_slice HO_5.out
           subst eo27
           go_wp2_with (first | ((with_reducible refine gate_callee (f := 41) rfl ?_); refine goesL_ (some 45) rfl rfl Try.func41 (by kernel_rfl) rfl #[.slice Ao27 x5_2.length co27, .int .i64 ((rdOf ByteArray.empty l0_1 x38_2).size : Int)] rfl (by (try simp only [List.map_toArray, List.map_cons, List.map_nil]); first | done | rfl | (simp only [List.length_drop, List.length_take]; rfl)) ?_; (with_reducible refine (pack_put_int.calls k2 (fun k_ => some k_ = (.slice Ao27 x5_2.length co27 : Value).ownBlock) (.slice Ao27 x5_2.length co27) x5_2 ((rdOf ByteArray.empty l0_1 x38_2).size : Int) t159 w _ ?side1 ?side2 A25.out).mono ?_); (case side1 => repeat (first | (with_reducible first | exact HB.out | apply below_alloc | apply pw_below_drewN | apply below_drew1 | refine below_set ?_ GE146.out) | exact HB.out)); (case side2 => exact Kd.R_tight rfl HO_5.out); rintro e w28 ⟨v160, rfl, ho0, hb, hkp⟩; refine ⟨_, rfl, ?_⟩; have n0_ := Aside0.mk (blk_kept (by (with_reducible repeat (first | refine blk_drewN ?_ _ | refine blk_drew ?_ | refine blk_alloc ?_ _)); exact BK146.out) hkp (fun hs_ => (fun e_ => (Kd.R_ne HO_5.out BK146.out (by decide)) e_) hs_)); have n1_ := Aside0.mk (Kd.R_mono (ok' := fun k_ => True) ho0 (fun k_ hk_ => trivial)); have n2_ := Aside0.mk (hb); clear BK146; clear HB; clear HO_5; have BK146 := n0_; have HO161 := n1_; have HB := n2_; clear n0_ n1_ n2_; (try clear hb); (try clear hkp); (try clear ho0)) | (at_builtin; refine print_append_str (w0 := w) w.heap.size rfl (.tmp 45) _ 60 9 5 rfl Try.underlying60 Try.underlying9 info5 v160 t159 (rdOf ByteArray.empty l0_1 x38_2) rfl rfl ?aO ?aB ?aS ?aL ?_; (case aB => exact (by repeat (first | (with_reducible first | exact HB.out | apply below_alloc | apply pw_below_drewN | apply below_drew1 | refine below_set ?_ GE146.out) | exact HB.out))); (case aO => exact (Kd.own_of_R (by (with_reducible repeat (first | apply Kd.R_alloc | apply Kd.R_drewN | apply Kd.R_drew)); exact HO161.out))); (case aS => exact (below_size (by repeat (first | (with_reducible first | exact HB.out | apply below_alloc | apply pw_below_drewN | apply below_drew1 | refine below_set ?_ GE146.out) | exact HB.out)))); (case aL => have := LMc26.out; omega); intro v163 w29 ho0 hb hg; have ho := Kd.R_of_own (h1 := fun _ => rfl) (ok := fun _ => True) ho0 (fun _ _ => trivial); clear ho0; have hat := True.intro; rw [← Ny162.out] at ho; change Kd.R (Kd.int .u8) 5 w29 w.heap.size (fun _ => True) v163 y162 at ho; have n0_ := Aside0.mk (blk_grown (g := gb146) (o := .cells #[.slice A0_0 l0_0.length c0_0, .slice (some ad158) l0_1.length c0_1] 47 (0, 0)) (by (with_reducible repeat (first | refine blk_drewN ?_ _ | refine blk_drew ?_ | refine blk_alloc ?_ _)); exact BK146.out) hg (Kd.R_ne HO161.out BK146.out (by decide))); have n1_ := Aside0.mk (hb); have n2_ := Aside0.mk (ho); clear BK146; clear HB; clear HO161; have BK146 := n0_; have HB := n1_; have HO164 := n2_; clear n0_ n1_ n2_; clear ho hb hg hat))
           go_roundg k2
           case measure => have := HK1.out; have := HK2.out; omega
           case rel => exact ⟨(y162), (wrap64 (x38_2 + 1)), (by first | rfl | (simp; done) | (simp [*]; done)), H', ⟨by have := HK1.out; have := HK2.out; omega⟩, ⟨by (with_reducible repeat (first | apply Kd.R_alloc | apply Kd.R_drewN | apply Kd.R_drew)); exact HO164.out⟩, ⟨by (with_reducible repeat (first | refine blk_drewN ?_ _ | refine blk_drew ?_ | refine blk_alloc ?_ _)); exact BK146.out⟩, ⟨by repeat (first | (with_reducible first | exact HB.out | apply below_alloc | apply pw_below_drewN | apply below_drew1 | refine below_set ?_ GE146.out) | exact HB.out)⟩⟩
          ·rw [if_neg c26] at H
           exact absurd H (by simp)
         ·rw [if_neg c24] at H
          exact absurd H (by simp)
        ·rw [if_neg c23] at H
         exact absurd H (by simp)
       ·rw [if_neg c22] at H
        have c22b0 : decide (x38_2 < (l0_1.length : Int)) = false := decide_eq_false c22
        clear c22
        simp only [Option.some.injEq, Prod.mk.injEq] at H
        obtain ⟨rfl, rfl⟩ := H
        have hcv30 := own_string (P := Try.prog) Try.underlying60 Try.underlying5 Try.underlying9 (Kd.own_of_R HO_5.out)
        go_wp2
        go_ret2
        exact ⟨by first | rfl | (simp [errW_none, errW_some] <;> rfl) | (simp [*, errW_none, errW_some] <;> rfl), by repeat (first | (with_reducible first | exact HB.out | apply below_alloc | apply pw_below_drewN | apply below_drew1 | refine below_set ?_ GE146.out) | exact HB.out)⟩
 ·rw [if_neg c3] at H
  have c3b0 : (t147 == 0) = false := beq_eq_false_iff_ne.mpr c3
  have c3b1 : (t147 != 0) = true := bne_iff_ne.mpr c3
  simp only [Option.some.injEq, Prod.mk.injEq] at H
  obtain ⟨rfl, rfl⟩ := H
  go_enter Try.func26, Try.ntmps26
  go_wp2_with (first | ((with_reducible refine gate_dst (N := 1) rfl ?_); refine box_event ?hg (N := 1) ?hd (cs := #[.slice A0_0 l0_0.length c0_0, .slice A0_1 l0_1.length c0_1]) (t := 47) ?hr ?_; (case hd => rfl); (case hg => rfl); (case hr => first | (go_simp; done) | (go_simp; rfl)); intro gb146 hg w31 hbox hb; have n0_ := Aside0.mk (below_step (by repeat (first | (with_reducible first | exact HB.out | apply below_alloc | apply pw_below_drewN | apply below_drew1) | exact HB.out)) hb); have n1_ := Aside0.mk (hbox); have n2_ := Aside0.mk ((by rw [hg]; exact (below_size (by repeat (first | (with_reducible first | exact HB.out | apply below_alloc | apply pw_below_drewN | apply below_drew1) | exact HB.out))) : w.heap.size ≤ gb146)); have n3_ := Aside0.mk ((by rw [hg]; exact (below_size (by repeat (first | (with_reducible first | exact HB.out | apply below_alloc | apply pw_below_drewN | apply below_drew1) | exact HB.out))) : w.heap.size ≤ gb146)); clear HB; have HB := n0_; have BK146 := n1_; have GW146 := n2_; have GE146 := n3_; clear n0_ n1_ n2_ n3_; clear hb hbox hg; have hcz32_0 : w31.cell? ⟨gb146, 0, none⟩ = some (.slice A0_0 l0_0.length c0_0) := (blk_cell BK146.out 0).trans rfl; have hcz32_1 : w31.cell? ⟨gb146, 1, none⟩ = some (.slice A0_1 l0_1.length c0_1) := (blk_cell BK146.out 1).trans rfl; have hfz32_0 := blk_frozen BK146.out 0; have hfz32_1 := blk_frozen BK146.out 1) | ((with_reducible refine gate_callee (f := 40) rfl ?_); refine goesL_ (some 11) rfl rfl Try.func40 (by kernel_rfl) rfl #[.agg #[.slice A0_0 l0_0.length c0_0, .slice A0_1 l0_1.length c0_1]] rfl (by (try simp only [List.map_toArray, List.map_cons, List.map_nil]); first | done | rfl | (simp only [List.length_drop, List.length_take]; rfl)) ?_; (with_reducible refine (pack_Check.calls k _ _ l0_0 _ _ l0_1 t147 _ ?side1 ?side2 ?side3 ?side4 A2.out).mono ?_); (case side1 => repeat (first | exact (Kd.C_below HR0_0.out HB.out) | (with_reducible refine Kd.C_alloc ?_ _) | (with_reducible refine Kd.C_drewN ?_ _) | (with_reducible refine Kd.C_drew ?_))); (case side2 => exact HC0_0.out); (case side3 => repeat (first | exact (Kd.C_below HR0_1.out HB.out) | (with_reducible refine Kd.C_alloc ?_ _) | (with_reducible refine Kd.C_drewN ?_ _) | (with_reducible refine Kd.C_drew ?_))); (case side4 => exact HC0_1.out); rintro e w33 ⟨rfl, hb⟩; refine ⟨_, rfl, ?_⟩; have n0_ := Aside0.mk (blk_below (g := gb146) (o := .cells #[.slice A0_0 l0_0.length c0_0, .slice A0_1 l0_1.length c0_1] 47 (0, 0)) (by (with_reducible repeat (first | refine blk_drewN ?_ _ | refine blk_drew ?_ | refine blk_alloc ?_ _)); exact BK146.out) hb); have n1_ := Aside0.mk (below_step (by repeat (first | (with_reducible first | exact HB.out | apply below_alloc | apply pw_below_drewN | apply below_drew1 | refine below_set ?_ GE146.out) | exact HB.out)) hb); clear BK146; clear HB; have BK146 := n0_; have HB := n1_; clear n0_ n1_; (try clear hb); (try clear hb2); (try clear hk); (try clear hi)))
  go_ret2
  exact ⟨by first | rfl | (simp [errW_none, errW_some] <;> rfl) | (simp [*, errW_none, errW_some] <;> rfl), by repeat (first | (with_reducible first | exact HB.out | apply below_alloc | apply pw_below_drewN | apply below_drew1 | refine below_set ?_ GE146.out) | exact HB.out)⟩
end Go.Proofs.Ytelgpkbnahgdoaa.Al
