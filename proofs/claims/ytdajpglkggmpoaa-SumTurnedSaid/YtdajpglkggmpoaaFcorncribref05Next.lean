/- One function of the program comes to what its plain twin says. This text began as the kit's own print (print.py, made by cprint.sh) and was turned by split.py: it is no printed file. -/
import Derived.Test.YtdajpglkggmpoaaF0
import Derived.Test.YtdajpglkggmpoaaFcorncribref05One
namespace Go.Proofs.Ytdajpglkggmpoaa.Al
open Go.RowKit Go.Proofs.YtdajpglkggmpoaaW.PrintWords Go.Proofs.YtdajpglkggmpoaaW.PrintLast Go.Proofs.YtdajpglkggmpoaaW.PrintMore
attribute [local go_sem] max2_int min2_int max_two min_two max_three min_three max_four min_four   -- for this text's walks alone
set_option linter.unusedVariables false
set_option linter.unusedSimpArgs false

/-! ### corncribref05_Next: function 18 -/
def corncribref05_Next.j0 : Nat → ByteArray → Int → Bool → Option (ByteArray × Int × Int)
  | 0, _, _, _ => none
  | k + 1, x0, x1, x17 => if x17 = true then (some ((⟨#[]⟩ : ByteArray), 0, 1)) else (if 0 ≤ x1 then (if x1 ≤ (x0.size : Int) then (if ((x0.extract (x1 : Int).toNat x0.size).size : Int) < 2 then (some ((⟨#[]⟩ : ByteArray), 0, 50)) else (if 0 < ((x0.extract (x1 : Int).toNat x0.size).size : Int) then (if 1 < ((x0.extract (x1 : Int).toNat x0.size).size : Int) then (if (wrap64 ((wrap64 (bt (x0.extract (x1 : Int).toNat x0.size) 0)) + (wrap64 (256 * (wrap64 (bt (x0.extract (x1 : Int).toNat x0.size) 1)))))) > 4096 then (some ((⟨#[]⟩ : ByteArray), 0, 2)) else (if ((x0.extract (x1 : Int).toNat x0.size).size : Int) < (wrap64 ((wrap64 ((wrap64 (bt (x0.extract (x1 : Int).toNat x0.size) 0)) + (wrap64 (256 * (wrap64 (bt (x0.extract (x1 : Int).toNat x0.size) 1)))))) + 6)) then (some ((⟨#[]⟩ : ByteArray), 0, 50)) else (if 2 ≤ (wrap64 (2 + (wrap64 ((wrap64 (bt (x0.extract (x1 : Int).toNat x0.size) 0)) + (wrap64 (256 * (wrap64 (bt (x0.extract (x1 : Int).toNat x0.size) 1)))))))) then (if (wrap64 (2 + (wrap64 ((wrap64 (bt (x0.extract (x1 : Int).toNat x0.size) 0)) + (wrap64 (256 * (wrap64 (bt (x0.extract (x1 : Int).toNat x0.size) 1)))))))) ≤ ((x0.extract (x1 : Int).toNat x0.size).size : Int) then (if 0 ≤ (wrap64 ((wrap64 ((wrap64 (bt (x0.extract (x1 : Int).toNat x0.size) 0)) + (wrap64 (256 * (wrap64 (bt (x0.extract (x1 : Int).toNat x0.size) 1)))))) + 6)) then (if (wrap64 ((wrap64 ((wrap64 (bt (x0.extract (x1 : Int).toNat x0.size) 0)) + (wrap64 (256 * (wrap64 (bt (x0.extract (x1 : Int).toNat x0.size) 1)))))) + 6)) ≤ ((x0.extract (x1 : Int).toNat x0.size).size : Int) then ((corncribref05_One.f k ((x0.extract (x1 : Int).toNat x0.size).extract 2 ((wrap64 (2 + (wrap64 ((wrap64 (bt (x0.extract (x1 : Int).toNat x0.size) 0)) + (wrap64 (256 * (wrap64 (bt (x0.extract (x1 : Int).toNat x0.size) 1)))))))) : Int).toNat)).bind fun t178 => (if ((x0.extract (x1 : Int).toNat x0.size).extract 0 ((wrap64 ((wrap64 ((wrap64 (bt (x0.extract (x1 : Int).toNat x0.size) 0)) + (wrap64 (256 * (wrap64 (bt (x0.extract (x1 : Int).toNat x0.size) 1)))))) + 6)) : Int).toNat).toList = t178.toList then (some ((x0.extract (x1 : Int).toNat x0.size).extract 2 ((wrap64 (2 + (wrap64 ((wrap64 (bt (x0.extract (x1 : Int).toNat x0.size) 0)) + (wrap64 (256 * (wrap64 (bt (x0.extract (x1 : Int).toNat x0.size) 1)))))))) : Int).toNat, wrap64 ((wrap64 (x1 + (wrap64 ((wrap64 (bt (x0.extract (x1 : Int).toNat x0.size) 0)) + (wrap64 (256 * (wrap64 (bt (x0.extract (x1 : Int).toNat x0.size) 1)))))))) + 6), 0)) else (some ((⟨#[]⟩ : ByteArray), 0, 51)))) else (none)) else (none)) else (none)) else (none)))) else (none)) else (none))) else (none)) else (none))
def corncribref05_Next.f (k : Nat) (a0 : ByteArray) (a1 : Int) : Option (ByteArray × Int × Int) := if a1 < 0 then (corncribref05_Next.j0 k a0 a1 true) else (corncribref05_Next.j0 k a0 a1 (decide (a1 > (a0.size : Int))))
theorem corncribref05_Next.mono_l : ∀ k, (∀ y0 y1 y2, LeO (corncribref05_Next.j0 k y0 y1 y2) (corncribref05_Next.j0 (k + 1) y0 y1 y2))
  | 0 => fun _ _ _ r h => by simp [corncribref05_Next.j0] at h
  | k + 1 => by
    have ih0 := corncribref05_Next.mono_l k
    · intro y0 y1 y2
      unfold corncribref05_Next.j0
      repeat' first
      | (with_reducible exact ih0 _ _ _)
      | (with_reducible exact corncribref05_One.mono _ _)
      | (with_reducible exact LeO.refl _)
      | (with_reducible exact LeO.none _)
      | (with_reducible refine LeO.ite ?_ ?_)
      | (with_reducible refine LeO.bind ?_ (fun _ => ?_))
      | exact ih0 _ _ _
      | exact corncribref05_One.mono _ _
      | exact LeO.none _
      | refine LeO.ite ?_ ?_
      | refine LeO.bind ?_ (fun _ => ?_)
theorem corncribref05_Next.mono : ∀ a0 a1 k, LeO (corncribref05_Next.f k a0 a1) (corncribref05_Next.f (k + 1) a0 a1) := by
  intro a0 a1 k
  have ih0 := corncribref05_Next.mono_l k
  unfold corncribref05_Next.f
  repeat' first
      | (with_reducible exact ih0 _ _ _)
      | (with_reducible exact corncribref05_One.mono _ _)
      | (with_reducible exact LeO.refl _)
      | (with_reducible exact LeO.none _)
      | (with_reducible refine LeO.ite ?_ ?_)
      | (with_reducible refine LeO.bind ?_ (fun _ => ?_))
      | exact ih0 _ _ _
      | exact corncribref05_One.mono _ _
      | exact LeO.none _
      | refine LeO.ite ?_ ?_
      | refine LeO.bind ?_ (fun _ => ?_)
def corncribref05_Next.T6 : Bool × List (List Nat × List Nat) := (true, [([], []), ([0], [0]), ([1], [1]), ([], []), ([3], [3]), ([4], [4]), ([5], [5]), ([2, 6], [2, 6]), ([7, 0, 1, 2, 3, 4, 5, 6, 7], [7])])
def corncribref05_Next.B6 : List Nat := [0, 1, 3, 0, 8, 24, 56, 127, 255]
theorem corncribref05_Next.tab6 : rtab .any (opsOf Try.f18 6) = corncribref05_Next.T6 := by kernel_rfl
theorem corncribref05_Next.bits6 : waitsOk corncribref05_Next.T6.2 corncribref05_Next.B6 = true := by kernel_rfl
set_option maxHeartbeats 8000000 in
set_option maxRecDepth 100000 in
theorem corncribref05_Next.calls (k : Nat) (a0 : ByteArray) (a1 : Int) (r1 : ByteArray) (r2 : Int) (r3 : Int) (w : World) (h : corncribref05_Next.f k a0 a1 = some (r1, r2, r3)) :
    Calls Try.prog 18 #[.string a0, .int .i64 a1] w fun e w' => e = .returned (.tuple #[.string r1, .int .i64 r2, .int .i64 r3]) ∧ Below w.heap.size w w' := by
  have HB := Aside0.mk (Below.refl w.heap.size w)
  have H : (if a1 < 0 then (corncribref05_Next.j0 k a0 a1 true) else (corncribref05_Next.j0 k a0 a1 (decide (a1 > (a0.size : Int))))) = some (r1, r2, r3) := h
  clear h
  have HC3 := Aside0.mk H
  clear H
  go_enter Try.func18, Try.ntmps18
  go_upto_region 1 with (fail)
  go_cut [17] (fun v17 wc => ∃ (kq : Nat) (x17_2 : Bool), v17 = .bool x17_2 ∧ Aside0 (corncribref05_Next.j0 kq a0 a1 x17_2 = some (r1, r2, r3)) ∧ Aside0 (kq ≤ k) ∧ Aside0 (Below w.heap.size w wc))
  case first =>
    have H := HC3.out
    clear HC3
    by_cases c4 : a1 < 0
    · rw [if_pos c4] at H
      have c4b0 : decide (a1 < 0) = true := decide_eq_true c4
      clear c4
      (first | rw [c4b0] | (simp only [i64_w, i32_w]; rw [c4b0]) | skip)
      have H' := Aside0.mk H
      clear H
      go_wp2
      go_meet
      case rel => exact ⟨_, (true), (by first | rfl | (simp; done) | (simp [*]; done) | (simp [bne_nil_]; done)), H', ⟨by first | omega | exact Nat.le_refl _⟩, ⟨by repeat (first | (with_reducible first | exact HB.out | apply below_alloc | apply pw_below_drewN | apply below_drew1) | exact HB.out)⟩⟩
    · rw [if_neg c4] at H
      have c4b0 : decide (a1 < 0) = false := decide_eq_false c4
      clear c4
      (first | rw [c4b0] | (simp only [i64_w, i32_w]; rw [c4b0]) | skip)
      have H' := Aside0.mk H
      clear H
      go_wp2
      go_meet
      case rel => exact ⟨_, (decide (a1 > (a0.size : Int))), (by first | rfl | (simp; done) | (simp [*]; done) | (simp [bne_nil_]; done)), H', ⟨by first | omega | exact Nat.le_refl _⟩, ⟨by repeat (first | (with_reducible first | exact HB.out | apply below_alloc | apply pw_below_drewN | apply below_drew1) | exact HB.out)⟩⟩
  case rest =>
    clear HC3
    try clear c1
    try clear p2
    try clear c4
    try clear c4b0
    obtain ⟨kq, x17_2, rfl, HA, HJ2, HB⟩ := hcut
    cases kq with
    | zero => exact absurd HA.out (by simp [corncribref05_Next.j0])
    | succ kj2 =>
      have H := HA.out
      clear HA
      simp only [corncribref05_Next.j0] at H
      by_cases c5 : x17_2 = true
      · subst c5
        have H1 : (some ((⟨#[]⟩ : ByteArray), 0, 1)) = some (r1, r2, r3) := by rw [if_pos rfl] at H; exact H
        clear H
        have H := H1
        clear H1
        simp only [Option.some.injEq, Prod.mk.injEq] at H
        obtain ⟨rfl, rfl, rfl⟩ := H
        go_wp2
        go_ret3
        exact ⟨by first | rfl | (simp [errW_none, errW_some] <;> rfl) | (simp [*, errW_none, errW_some] <;> rfl), by repeat (first | (with_reducible first | exact HB.out | apply below_alloc | apply pw_below_drewN | apply below_drew1) | exact HB.out)⟩
      · replace c5 := Bool.eq_false_iff.mpr c5
        subst c5
        have H1 : (if 0 ≤ a1 then (if a1 ≤ (a0.size : Int) then (if ((a0.extract (a1 : Int).toNat a0.size).size : Int) < 2 then (some ((⟨#[]⟩ : ByteArray), 0, 50)) else (if 0 < ((a0.extract (a1 : Int).toNat a0.size).size : Int) then (if 1 < ((a0.extract (a1 : Int).toNat a0.size).size : Int) then (if (wrap64 ((wrap64 (bt (a0.extract (a1 : Int).toNat a0.size) 0)) + (wrap64 (256 * (wrap64 (bt (a0.extract (a1 : Int).toNat a0.size) 1)))))) > 4096 then (some ((⟨#[]⟩ : ByteArray), 0, 2)) else (if ((a0.extract (a1 : Int).toNat a0.size).size : Int) < (wrap64 ((wrap64 ((wrap64 (bt (a0.extract (a1 : Int).toNat a0.size) 0)) + (wrap64 (256 * (wrap64 (bt (a0.extract (a1 : Int).toNat a0.size) 1)))))) + 6)) then (some ((⟨#[]⟩ : ByteArray), 0, 50)) else (if 2 ≤ (wrap64 (2 + (wrap64 ((wrap64 (bt (a0.extract (a1 : Int).toNat a0.size) 0)) + (wrap64 (256 * (wrap64 (bt (a0.extract (a1 : Int).toNat a0.size) 1)))))))) then (if (wrap64 (2 + (wrap64 ((wrap64 (bt (a0.extract (a1 : Int).toNat a0.size) 0)) + (wrap64 (256 * (wrap64 (bt (a0.extract (a1 : Int).toNat a0.size) 1)))))))) ≤ ((a0.extract (a1 : Int).toNat a0.size).size : Int) then (if 0 ≤ (wrap64 ((wrap64 ((wrap64 (bt (a0.extract (a1 : Int).toNat a0.size) 0)) + (wrap64 (256 * (wrap64 (bt (a0.extract (a1 : Int).toNat a0.size) 1)))))) + 6)) then (if (wrap64 ((wrap64 ((wrap64 (bt (a0.extract (a1 : Int).toNat a0.size) 0)) + (wrap64 (256 * (wrap64 (bt (a0.extract (a1 : Int).toNat a0.size) 1)))))) + 6)) ≤ ((a0.extract (a1 : Int).toNat a0.size).size : Int) then ((corncribref05_One.f kj2 ((a0.extract (a1 : Int).toNat a0.size).extract 2 ((wrap64 (2 + (wrap64 ((wrap64 (bt (a0.extract (a1 : Int).toNat a0.size) 0)) + (wrap64 (256 * (wrap64 (bt (a0.extract (a1 : Int).toNat a0.size) 1)))))))) : Int).toNat)).bind fun t178 => (if ((a0.extract (a1 : Int).toNat a0.size).extract 0 ((wrap64 ((wrap64 ((wrap64 (bt (a0.extract (a1 : Int).toNat a0.size) 0)) + (wrap64 (256 * (wrap64 (bt (a0.extract (a1 : Int).toNat a0.size) 1)))))) + 6)) : Int).toNat).toList = t178.toList then (some ((a0.extract (a1 : Int).toNat a0.size).extract 2 ((wrap64 (2 + (wrap64 ((wrap64 (bt (a0.extract (a1 : Int).toNat a0.size) 0)) + (wrap64 (256 * (wrap64 (bt (a0.extract (a1 : Int).toNat a0.size) 1)))))))) : Int).toNat, wrap64 ((wrap64 (a1 + (wrap64 ((wrap64 (bt (a0.extract (a1 : Int).toNat a0.size) 0)) + (wrap64 (256 * (wrap64 (bt (a0.extract (a1 : Int).toNat a0.size) 1)))))))) + 6), 0)) else (some ((⟨#[]⟩ : ByteArray), 0, 51)))) else (none)) else (none)) else (none)) else (none)))) else (none)) else (none))) else (none)) else (none)) = some (r1, r2, r3) := by rw [if_neg (show ¬ (false = true) by decide)] at H; exact H
        clear H
        have H := H1
        clear H1
        by_cases c6 : 0 ≤ a1
        · rw [if_pos c6] at H
          have c6b0 := eq_true c6
          have c6b1 : decide (0 ≤ a1) = true := decide_eq_true c6
          clear c6
          by_cases c7 : a1 ≤ (a0.size : Int)
          · rw [if_pos c7] at H
            have c7b0 := eq_true c7
            have c7b1 : decide (a1 ≤ (a0.size : Int)) = true := decide_eq_true c7
            clear c7
            by_cases c8 : ((a0.extract (a1 : Int).toNat a0.size).size : Int) < 2
            · rw [if_pos c8] at H
              have c8b0 : decide (((a0.extract (a1 : Int).toNat a0.size).size : Int) < 2) = true := decide_eq_true c8
              try have c8b0z : decide (((a0.size - (a1 : Int).toNat : Nat) : Int) < 2) = true := by simpa only [ByteArray.size_extract, ByteArray.size_append, Nat.min_self] using c8b0
              have c8b1 : decide ((a0.extract (a1 : Int).toNat a0.size).size < 2) = true := decide_eq_true (by omega)
              try have c8b1z : decide ((a0.size - (a1 : Int).toNat : Nat) < 2) = true := by simpa only [ByteArray.size_extract, ByteArray.size_append, Nat.min_self] using c8b1
              clear c8
              simp only [Option.some.injEq, Prod.mk.injEq] at H
              obtain ⟨rfl, rfl, rfl⟩ := H
              go_wp2
              go_ret3
              exact ⟨by first | rfl | (simp [errW_none, errW_some] <;> rfl) | (simp [*, errW_none, errW_some] <;> rfl), by repeat (first | (with_reducible first | exact HB.out | apply below_alloc | apply pw_below_drewN | apply below_drew1) | exact HB.out)⟩
            · rw [if_neg c8] at H
              have c8b0 : decide (((a0.extract (a1 : Int).toNat a0.size).size : Int) < 2) = false := decide_eq_false c8
              try have c8b0z : decide (((a0.size - (a1 : Int).toNat : Nat) : Int) < 2) = false := by simpa only [ByteArray.size_extract, ByteArray.size_append, Nat.min_self] using c8b0
              have c8b1 : decide ((a0.extract (a1 : Int).toNat a0.size).size < 2) = false := decide_eq_false (by omega)
              try have c8b1z : decide ((a0.size - (a1 : Int).toNat : Nat) < 2) = false := by simpa only [ByteArray.size_extract, ByteArray.size_append, Nat.min_self] using c8b1
              clear c8
              by_cases c9 : 0 < ((a0.extract (a1 : Int).toNat a0.size).size : Int)
              · rw [if_pos c9] at H
                have c9b0 : decide (0 < ((a0.extract (a1 : Int).toNat a0.size).size : Int)) = true := decide_eq_true c9
                try have c9b0z : decide (0 < ((a0.size - (a1 : Int).toNat : Nat) : Int)) = true := by simpa only [ByteArray.size_extract, ByteArray.size_append, Nat.min_self] using c9b0
                have c9b1 : decide (0 < (a0.extract (a1 : Int).toNat a0.size).size) = true := decide_eq_true (by omega)
                try have c9b1z : decide (0 < (a0.size - (a1 : Int).toNat : Nat)) = true := by simpa only [ByteArray.size_extract, ByteArray.size_append, Nat.min_self] using c9b1
                clear c9
                by_cases c11 : 1 < ((a0.extract (a1 : Int).toNat a0.size).size : Int)
                · rw [if_pos c11] at H
                  have c11b0 : decide (1 < ((a0.extract (a1 : Int).toNat a0.size).size : Int)) = true := decide_eq_true c11
                  try have c11b0z : decide (1 < ((a0.size - (a1 : Int).toNat : Nat) : Int)) = true := by simpa only [ByteArray.size_extract, ByteArray.size_append, Nat.min_self] using c11b0
                  have c11b1 : decide (1 < (a0.extract (a1 : Int).toNat a0.size).size) = true := decide_eq_true (by omega)
                  try have c11b1z : decide (1 < (a0.size - (a1 : Int).toNat : Nat)) = true := by simpa only [ByteArray.size_extract, ByteArray.size_append, Nat.min_self] using c11b1
                  clear c11
                  by_cases c13 : (wrap64 ((wrap64 (bt (a0.extract (a1 : Int).toNat a0.size) 0)) + (wrap64 (256 * (wrap64 (bt (a0.extract (a1 : Int).toNat a0.size) 1)))))) > 4096
                  · rw [if_pos c13] at H
                    have c13b0 : decide (4096 < (wrap64 ((wrap64 (bt (a0.extract (a1 : Int).toNat a0.size) 0)) + (wrap64 (256 * (wrap64 (bt (a0.extract (a1 : Int).toNat a0.size) 1))))))) = true := decide_eq_true c13
                    clear c13
                    simp only [Option.some.injEq, Prod.mk.injEq] at H
                    obtain ⟨rfl, rfl, rfl⟩ := H
                    try go_wp2
                    have n0_ := Aside0.mk (below_drew1 HB.out)
                    clear HB
                    have HB := n0_
                    clear n0_
                    have p10 : 0 ≤ (0 : Int) := (by omega)
                    have q10 : 0 < (a0.extract (a1 : Int).toNat a0.size).size := (by have : (0 : Int) < ((a0.extract (a1 : Int).toNat a0.size).size : Int) := of_decide_eq_true (by first | (with_reducible assumption) | assumption); omega)
                    have hx10 : ∀ h : 0 < (a0.extract (a1 : Int).toNat a0.size).size, (((a0.extract (a1 : Int).toNat a0.size)[0]'h).toNat : Int) = bt (a0.extract (a1 : Int).toNat a0.size) 0 := bt_at (a0.extract (a1 : Int).toNat a0.size) 0
                    clear p10
                    have qi10 : (0 < ((a0.extract (a1 : Int).toNat a0.size).size : Int)) = True := eq_true (of_decide_eq_true (by first | (with_reducible assumption) | assumption))
                    try have qi10z : (0 < ((a0.size - (a1 : Int).toNat : Nat) : Int)) = True := eq_true (by simpa only [ByteArray.size_extract, ByteArray.size_append, Nat.min_self] using of_eq_true qi10)
                    replace q10 := eq_true q10
                    try have q10z : (0 < (a0.size - (a1 : Int).toNat : Nat)) = True := eq_true (by simpa only [ByteArray.size_extract, ByteArray.size_append, Nat.min_self] using of_eq_true q10)
                    have p12 : 0 ≤ (1 : Int) := (by omega)
                    have q12 : 1 < (a0.extract (a1 : Int).toNat a0.size).size := (by have : (1 : Int) < ((a0.extract (a1 : Int).toNat a0.size).size : Int) := of_decide_eq_true (by first | (with_reducible assumption) | assumption); omega)
                    have hx12 : ∀ h : 1 < (a0.extract (a1 : Int).toNat a0.size).size, (((a0.extract (a1 : Int).toNat a0.size)[1]'h).toNat : Int) = bt (a0.extract (a1 : Int).toNat a0.size) 1 := bt_at (a0.extract (a1 : Int).toNat a0.size) 1
                    clear p12
                    have qi12 : (1 < ((a0.extract (a1 : Int).toNat a0.size).size : Int)) = True := eq_true (of_decide_eq_true (by first | (with_reducible assumption) | assumption))
                    try have qi12z : (1 < ((a0.size - (a1 : Int).toNat : Nat) : Int)) = True := eq_true (by simpa only [ByteArray.size_extract, ByteArray.size_append, Nat.min_self] using of_eq_true qi12)
                    replace q12 := eq_true q12
                    try have q12z : (1 < (a0.size - (a1 : Int).toNat : Nat)) = True := eq_true (by simpa only [ByteArray.size_extract, ByteArray.size_append, Nat.min_self] using of_eq_true q12)
                    refine start_ (n := 9) (S := fun w' => True) (ds := []) #[false, false, false, false, false, false, false, false, false] (by kernel_rfl) rfl rfl trivial (fun hHeld => ?_); refine with_tabW corncribref05_Next.tab6 corncribref05_Next.bits6 (fun HT_ HW_ => ?_)
                    generalize wc.drew = w14 at HB hHeld ⊢
                    refine pure_ (i := 0) (N := some 24) (v := ?_) (a' := ?_) #[true, false, false, false, false, false, false, false, false] rfl rfl (any_of HT_.out (by kernel_rfl)) (fun _ _ _ h => h) (Or.inl ⟨by rfl, ?_⟩) ?_ ?_
                    rotate_left
                    · intro w'
                      go_simp
                      with_reducible rfl
                    rotate_left
                    · simp only [Act.put, List.setIfInBounds_toArray, List.set_cons_zero, List.set_cons_succ, i64_w, i32_w]
                      rfl
                    refine pure_ (i := 3) (N := some 27) (v := ?_) (a' := ?_) #[true, false, false, true, false, false, false, false, false] rfl rfl (any_of HT_.out (by kernel_rfl)) (fun _ _ _ h => h) (Or.inl ⟨by rfl, ?_⟩) ?_ ?_
                    rotate_left
                    · intro w'
                      go_simp
                      with_reducible rfl
                    rotate_left
                    · simp only [Act.put, List.setIfInBounds_toArray, List.set_cons_zero, List.set_cons_succ, i64_w, i32_w]
                      rfl
                    refine take_ (i := 1) (N := some 25) (v := ?_) (a' := ?_) #[true, true, false, true, false, false, false, false, false] rfl rfl (take_ofW HT_.out HW_.out (by kernel_rfl)) (fun _ _ _ h => h) (Or.inl ⟨by rfl, ?_⟩) hHeld ?_ ?_
                    rotate_left
                    · intro w' _
                      go_simp
                      with_reducible rfl
                    rotate_left
                    · simp only [Act.put, List.setIfInBounds_toArray, List.set_cons_zero, List.set_cons_succ, i64_w, i32_w]
                      rfl
                    refine pure_ (i := 2) (N := some 26) (v := ?_) (a' := ?_) #[true, true, true, true, false, false, false, false, false] rfl rfl (any_of HT_.out (by kernel_rfl)) (fun _ _ _ h => h) (Or.inl ⟨by rfl, ?_⟩) ?_ ?_
                    rotate_left
                    · intro w'
                      go_simp
                      with_reducible rfl
                    rotate_left
                    · simp only [Act.put, List.setIfInBounds_toArray, List.set_cons_zero, List.set_cons_succ, i64_w, i32_w]
                      rfl
                    refine take_ (i := 4) (N := some 28) (v := ?_) (a' := ?_) #[true, true, true, true, true, false, false, false, false] rfl rfl (take_ofW HT_.out HW_.out (by kernel_rfl)) (fun _ _ _ h => h) (Or.inl ⟨by rfl, ?_⟩) hHeld ?_ ?_
                    rotate_left
                    · intro w' _
                      go_simp
                      with_reducible rfl
                    rotate_left
                    · simp only [Act.put, List.setIfInBounds_toArray, List.set_cons_zero, List.set_cons_succ, i64_w, i32_w]
                      rfl
                    refine pure_ (i := 5) (N := some 29) (v := ?_) (a' := ?_) #[true, true, true, true, true, true, false, false, false] rfl rfl (any_of HT_.out (by kernel_rfl)) (fun _ _ _ h => h) (Or.inl ⟨by rfl, ?_⟩) ?_ ?_
                    rotate_left
                    · intro w'
                      go_simp
                      with_reducible rfl
                    rotate_left
                    · simp only [Act.put, List.setIfInBounds_toArray, List.set_cons_zero, List.set_cons_succ, i64_w, i32_w]
                      rfl
                    refine pure_ (i := 6) (N := some 30) (v := ?_) (a' := ?_) #[true, true, true, true, true, true, true, false, false] rfl rfl (any_of HT_.out (by kernel_rfl)) (fun _ _ _ h => h) (Or.inl ⟨by rfl, ?_⟩) ?_ ?_
                    rotate_left
                    · intro w'
                      go_simp
                      with_reducible rfl
                    rotate_left
                    · simp only [Act.put, List.setIfInBounds_toArray, List.set_cons_zero, List.set_cons_succ, i64_w, i32_w]
                      rfl
                    refine pure_ (i := 7) (N := some 31) (v := ?_) (a' := ?_) #[true, true, true, true, true, true, true, true, false] rfl rfl (any_of HT_.out (by kernel_rfl)) (fun _ _ _ h => h) (Or.inl ⟨by rfl, ?_⟩) ?_ ?_
                    rotate_left
                    · intro w'
                      go_simp
                      with_reducible rfl
                    rotate_left
                    · simp only [Act.put, List.setIfInBounds_toArray, List.set_cons_zero, List.set_cons_succ, i64_w, i32_w]
                      rfl
                    refine pure_ (i := 8) (N := some 8) (v := ?_) (a' := ?_) #[true, true, true, true, true, true, true, true, true] rfl rfl (any_of HT_.out (by kernel_rfl)) (fun _ _ _ h => h) (Or.inl ⟨by rfl, ?_⟩) ?_ ?_
                    rotate_left
                    · intro w'
                      go_simp
                      with_reducible rfl
                    rotate_left
                    · simp only [Act.put, List.setIfInBounds_toArray, List.set_cons_zero, List.set_cons_succ, i64_w, i32_w]
                      rfl
                    refine done_ (done_of HT_.out (by kernel_rfl)) ?_
                    try go_wp2
                    go_ret3
                    exact ⟨by first | rfl | (simp [errW_none, errW_some] <;> rfl) | (simp [*, errW_none, errW_some] <;> rfl), by repeat (first | (with_reducible first | exact HB.out | apply below_alloc | apply pw_below_drewN | apply below_drew1) | exact HB.out)⟩
                  · rw [if_neg c13] at H
                    have c13b0 : decide (4096 < (wrap64 ((wrap64 (bt (a0.extract (a1 : Int).toNat a0.size) 0)) + (wrap64 (256 * (wrap64 (bt (a0.extract (a1 : Int).toNat a0.size) 1))))))) = false := decide_eq_false c13
                    clear c13
                    by_cases c15 : ((a0.extract (a1 : Int).toNat a0.size).size : Int) < (wrap64 ((wrap64 ((wrap64 (bt (a0.extract (a1 : Int).toNat a0.size) 0)) + (wrap64 (256 * (wrap64 (bt (a0.extract (a1 : Int).toNat a0.size) 1)))))) + 6))
                    · rw [if_pos c15] at H
                      have c15b0 : decide (((a0.extract (a1 : Int).toNat a0.size).size : Int) < (wrap64 ((wrap64 ((wrap64 (bt (a0.extract (a1 : Int).toNat a0.size) 0)) + (wrap64 (256 * (wrap64 (bt (a0.extract (a1 : Int).toNat a0.size) 1)))))) + 6))) = true := decide_eq_true c15
                      try have c15b0z : decide (((a0.size - (a1 : Int).toNat : Nat) : Int) < (wrap64 ((wrap64 ((wrap64 (bt (a0.extract (a1 : Int).toNat a0.size) 0)) + (wrap64 (256 * (wrap64 (bt (a0.extract (a1 : Int).toNat a0.size) 1)))))) + 6))) = true := by simpa only [ByteArray.size_extract, ByteArray.size_append, Nat.min_self] using c15b0
                      clear c15
                      simp only [Option.some.injEq, Prod.mk.injEq] at H
                      obtain ⟨rfl, rfl, rfl⟩ := H
                      try go_wp2
                      have n0_ := Aside0.mk (below_drew1 HB.out)
                      clear HB
                      have HB := n0_
                      clear n0_
                      have p10 : 0 ≤ (0 : Int) := (by omega)
                      have q10 : 0 < (a0.extract (a1 : Int).toNat a0.size).size := (by have : (0 : Int) < ((a0.extract (a1 : Int).toNat a0.size).size : Int) := of_decide_eq_true (by first | (with_reducible assumption) | assumption); omega)
                      have hx10 : ∀ h : 0 < (a0.extract (a1 : Int).toNat a0.size).size, (((a0.extract (a1 : Int).toNat a0.size)[0]'h).toNat : Int) = bt (a0.extract (a1 : Int).toNat a0.size) 0 := bt_at (a0.extract (a1 : Int).toNat a0.size) 0
                      clear p10
                      have qi10 : (0 < ((a0.extract (a1 : Int).toNat a0.size).size : Int)) = True := eq_true (of_decide_eq_true (by first | (with_reducible assumption) | assumption))
                      try have qi10z : (0 < ((a0.size - (a1 : Int).toNat : Nat) : Int)) = True := eq_true (by simpa only [ByteArray.size_extract, ByteArray.size_append, Nat.min_self] using of_eq_true qi10)
                      replace q10 := eq_true q10
                      try have q10z : (0 < (a0.size - (a1 : Int).toNat : Nat)) = True := eq_true (by simpa only [ByteArray.size_extract, ByteArray.size_append, Nat.min_self] using of_eq_true q10)
                      have p12 : 0 ≤ (1 : Int) := (by omega)
                      have q12 : 1 < (a0.extract (a1 : Int).toNat a0.size).size := (by have : (1 : Int) < ((a0.extract (a1 : Int).toNat a0.size).size : Int) := of_decide_eq_true (by first | (with_reducible assumption) | assumption); omega)
                      have hx12 : ∀ h : 1 < (a0.extract (a1 : Int).toNat a0.size).size, (((a0.extract (a1 : Int).toNat a0.size)[1]'h).toNat : Int) = bt (a0.extract (a1 : Int).toNat a0.size) 1 := bt_at (a0.extract (a1 : Int).toNat a0.size) 1
                      clear p12
                      have qi12 : (1 < ((a0.extract (a1 : Int).toNat a0.size).size : Int)) = True := eq_true (of_decide_eq_true (by first | (with_reducible assumption) | assumption))
                      try have qi12z : (1 < ((a0.size - (a1 : Int).toNat : Nat) : Int)) = True := eq_true (by simpa only [ByteArray.size_extract, ByteArray.size_append, Nat.min_self] using of_eq_true qi12)
                      replace q12 := eq_true q12
                      try have q12z : (1 < (a0.size - (a1 : Int).toNat : Nat)) = True := eq_true (by simpa only [ByteArray.size_extract, ByteArray.size_append, Nat.min_self] using of_eq_true q12)
                      refine start_ (n := 9) (S := fun w' => True) (ds := []) #[false, false, false, false, false, false, false, false, false] (by kernel_rfl) rfl rfl trivial (fun hHeld => ?_); refine with_tabW corncribref05_Next.tab6 corncribref05_Next.bits6 (fun HT_ HW_ => ?_)
                      generalize wc.drew = w16 at HB hHeld ⊢
                      refine pure_ (i := 0) (N := some 24) (v := ?_) (a' := ?_) #[true, false, false, false, false, false, false, false, false] rfl rfl (any_of HT_.out (by kernel_rfl)) (fun _ _ _ h => h) (Or.inl ⟨by rfl, ?_⟩) ?_ ?_
                      rotate_left
                      · intro w'
                        go_simp
                        with_reducible rfl
                      rotate_left
                      · simp only [Act.put, List.setIfInBounds_toArray, List.set_cons_zero, List.set_cons_succ, i64_w, i32_w]
                        rfl
                      refine pure_ (i := 3) (N := some 27) (v := ?_) (a' := ?_) #[true, false, false, true, false, false, false, false, false] rfl rfl (any_of HT_.out (by kernel_rfl)) (fun _ _ _ h => h) (Or.inl ⟨by rfl, ?_⟩) ?_ ?_
                      rotate_left
                      · intro w'
                        go_simp
                        with_reducible rfl
                      rotate_left
                      · simp only [Act.put, List.setIfInBounds_toArray, List.set_cons_zero, List.set_cons_succ, i64_w, i32_w]
                        rfl
                      refine take_ (i := 1) (N := some 25) (v := ?_) (a' := ?_) #[true, true, false, true, false, false, false, false, false] rfl rfl (take_ofW HT_.out HW_.out (by kernel_rfl)) (fun _ _ _ h => h) (Or.inl ⟨by rfl, ?_⟩) hHeld ?_ ?_
                      rotate_left
                      · intro w' _
                        go_simp
                        with_reducible rfl
                      rotate_left
                      · simp only [Act.put, List.setIfInBounds_toArray, List.set_cons_zero, List.set_cons_succ, i64_w, i32_w]
                        rfl
                      refine pure_ (i := 2) (N := some 26) (v := ?_) (a' := ?_) #[true, true, true, true, false, false, false, false, false] rfl rfl (any_of HT_.out (by kernel_rfl)) (fun _ _ _ h => h) (Or.inl ⟨by rfl, ?_⟩) ?_ ?_
                      rotate_left
                      · intro w'
                        go_simp
                        with_reducible rfl
                      rotate_left
                      · simp only [Act.put, List.setIfInBounds_toArray, List.set_cons_zero, List.set_cons_succ, i64_w, i32_w]
                        rfl
                      refine take_ (i := 4) (N := some 28) (v := ?_) (a' := ?_) #[true, true, true, true, true, false, false, false, false] rfl rfl (take_ofW HT_.out HW_.out (by kernel_rfl)) (fun _ _ _ h => h) (Or.inl ⟨by rfl, ?_⟩) hHeld ?_ ?_
                      rotate_left
                      · intro w' _
                        go_simp
                        with_reducible rfl
                      rotate_left
                      · simp only [Act.put, List.setIfInBounds_toArray, List.set_cons_zero, List.set_cons_succ, i64_w, i32_w]
                        rfl
                      refine pure_ (i := 5) (N := some 29) (v := ?_) (a' := ?_) #[true, true, true, true, true, true, false, false, false] rfl rfl (any_of HT_.out (by kernel_rfl)) (fun _ _ _ h => h) (Or.inl ⟨by rfl, ?_⟩) ?_ ?_
                      rotate_left
                      · intro w'
                        go_simp
                        with_reducible rfl
                      rotate_left
                      · simp only [Act.put, List.setIfInBounds_toArray, List.set_cons_zero, List.set_cons_succ, i64_w, i32_w]
                        rfl
                      refine pure_ (i := 6) (N := some 30) (v := ?_) (a' := ?_) #[true, true, true, true, true, true, true, false, false] rfl rfl (any_of HT_.out (by kernel_rfl)) (fun _ _ _ h => h) (Or.inl ⟨by rfl, ?_⟩) ?_ ?_
                      rotate_left
                      · intro w'
                        go_simp
                        with_reducible rfl
                      rotate_left
                      · simp only [Act.put, List.setIfInBounds_toArray, List.set_cons_zero, List.set_cons_succ, i64_w, i32_w]
                        rfl
                      refine pure_ (i := 7) (N := some 31) (v := ?_) (a' := ?_) #[true, true, true, true, true, true, true, true, false] rfl rfl (any_of HT_.out (by kernel_rfl)) (fun _ _ _ h => h) (Or.inl ⟨by rfl, ?_⟩) ?_ ?_
                      rotate_left
                      · intro w'
                        go_simp
                        with_reducible rfl
                      rotate_left
                      · simp only [Act.put, List.setIfInBounds_toArray, List.set_cons_zero, List.set_cons_succ, i64_w, i32_w]
                        rfl
                      refine pure_ (i := 8) (N := some 8) (v := ?_) (a' := ?_) #[true, true, true, true, true, true, true, true, true] rfl rfl (any_of HT_.out (by kernel_rfl)) (fun _ _ _ h => h) (Or.inl ⟨by rfl, ?_⟩) ?_ ?_
                      rotate_left
                      · intro w'
                        go_simp
                        with_reducible rfl
                      rotate_left
                      · simp only [Act.put, List.setIfInBounds_toArray, List.set_cons_zero, List.set_cons_succ, i64_w, i32_w]
                        rfl
                      refine done_ (done_of HT_.out (by kernel_rfl)) ?_
                      try go_wp2
                      go_ret3
                      exact ⟨by first | rfl | (simp [errW_none, errW_some] <;> rfl) | (simp [*, errW_none, errW_some] <;> rfl), by repeat (first | (with_reducible first | exact HB.out | apply below_alloc | apply pw_below_drewN | apply below_drew1) | exact HB.out)⟩
                    · rw [if_neg c15] at H
                      have c15b0 : decide (((a0.extract (a1 : Int).toNat a0.size).size : Int) < (wrap64 ((wrap64 ((wrap64 (bt (a0.extract (a1 : Int).toNat a0.size) 0)) + (wrap64 (256 * (wrap64 (bt (a0.extract (a1 : Int).toNat a0.size) 1)))))) + 6))) = false := decide_eq_false c15
                      try have c15b0z : decide (((a0.size - (a1 : Int).toNat : Nat) : Int) < (wrap64 ((wrap64 ((wrap64 (bt (a0.extract (a1 : Int).toNat a0.size) 0)) + (wrap64 (256 * (wrap64 (bt (a0.extract (a1 : Int).toNat a0.size) 1)))))) + 6))) = false := by simpa only [ByteArray.size_extract, ByteArray.size_append, Nat.min_self] using c15b0
                      clear c15
                      by_cases c17 : 2 ≤ (wrap64 (2 + (wrap64 ((wrap64 (bt (a0.extract (a1 : Int).toNat a0.size) 0)) + (wrap64 (256 * (wrap64 (bt (a0.extract (a1 : Int).toNat a0.size) 1))))))))
                      · rw [if_pos c17] at H
                        have c17b0 := eq_true c17
                        have c17b1 : decide (2 ≤ (wrap64 (2 + (wrap64 ((wrap64 (bt (a0.extract (a1 : Int).toNat a0.size) 0)) + (wrap64 (256 * (wrap64 (bt (a0.extract (a1 : Int).toNat a0.size) 1))))))))) = true := decide_eq_true c17
                        by_cases c18 : (wrap64 (2 + (wrap64 ((wrap64 (bt (a0.extract (a1 : Int).toNat a0.size) 0)) + (wrap64 (256 * (wrap64 (bt (a0.extract (a1 : Int).toNat a0.size) 1)))))))) ≤ ((a0.extract (a1 : Int).toNat a0.size).size : Int)
                        · rw [if_pos c18] at H
                          have c18b0 := eq_true c18
                          try have c18b0z : ((wrap64 (2 + (wrap64 ((wrap64 (bt (a0.extract (a1 : Int).toNat a0.size) 0)) + (wrap64 (256 * (wrap64 (bt (a0.extract (a1 : Int).toNat a0.size) 1)))))))) ≤ ((a0.size - (a1 : Int).toNat : Nat) : Int)) = True := eq_true (by simpa only [ByteArray.size_extract, ByteArray.size_append, Nat.min_self] using of_eq_true c18b0)
                          have c18b1 : decide ((wrap64 (2 + (wrap64 ((wrap64 (bt (a0.extract (a1 : Int).toNat a0.size) 0)) + (wrap64 (256 * (wrap64 (bt (a0.extract (a1 : Int).toNat a0.size) 1)))))))) ≤ ((a0.extract (a1 : Int).toNat a0.size).size : Int)) = true := decide_eq_true c18
                          try have c18b1z : decide ((wrap64 (2 + (wrap64 ((wrap64 (bt (a0.extract (a1 : Int).toNat a0.size) 0)) + (wrap64 (256 * (wrap64 (bt (a0.extract (a1 : Int).toNat a0.size) 1)))))))) ≤ ((a0.size - (a1 : Int).toNat : Nat) : Int)) = true := by simpa only [ByteArray.size_extract, ByteArray.size_append, Nat.min_self] using c18b1
                          obtain ⟨ji19, hji19⟩ : ∃ j_ : Int, (wrap64 ((wrap64 ((wrap64 (bt (a0.extract (a1 : Int).toNat a0.size) 0)) + (wrap64 (256 * (wrap64 (bt (a0.extract (a1 : Int).toNat a0.size) 1)))))) + 6)) = j_ := ⟨_, rfl⟩
                          replace H : (if 0 ≤ (ji19) then (if (ji19) ≤ ((a0.extract (a1 : Int).toNat a0.size).size : Int) then ((corncribref05_One.f kj2 ((a0.extract (a1 : Int).toNat a0.size).extract 2 ((wrap64 (2 + (wrap64 ((wrap64 (bt (a0.extract (a1 : Int).toNat a0.size) 0)) + (wrap64 (256 * (wrap64 (bt (a0.extract (a1 : Int).toNat a0.size) 1)))))))) : Int).toNat)).bind fun t178 => (if ((a0.extract (a1 : Int).toNat a0.size).extract 0 ((ji19) : Int).toNat).toList = t178.toList then (some ((a0.extract (a1 : Int).toNat a0.size).extract 2 ((wrap64 (2 + (wrap64 ((wrap64 (bt (a0.extract (a1 : Int).toNat a0.size) 0)) + (wrap64 (256 * (wrap64 (bt (a0.extract (a1 : Int).toNat a0.size) 1)))))))) : Int).toNat, wrap64 ((wrap64 (a1 + (wrap64 ((wrap64 (bt (a0.extract (a1 : Int).toNat a0.size) 0)) + (wrap64 (256 * (wrap64 (bt (a0.extract (a1 : Int).toNat a0.size) 1)))))))) + 6), 0)) else (some ((⟨#[]⟩ : ByteArray), 0, 51)))) else (none)) else (none)) = some (r1, r2, r3) := by first | (rw [hji19] at H; exact H) | (simp only [hji19] at H ⊢; exact H)
                          (try rw [hji19] at c15b0)
                          (try rw [hji19] at c15b0z)
                          have hji19w : (IntKind.i64.wrap ((wrap64 ((wrap64 (bt (a0.extract (a1 : Int).toNat a0.size) 0)) + (wrap64 (256 * (wrap64 (bt (a0.extract (a1 : Int).toNat a0.size) 1)))))) + 6)) = ji19 := (i64_w _).trans hji19
                          by_cases c20 : 0 ≤ (ji19)
                          · rw [if_pos c20] at H
                            have c20b0 := eq_true c20
                            have c20b1 : decide (0 ≤ (ji19)) = true := decide_eq_true c20
                            clear c20
                            by_cases c21 : (ji19) ≤ ((a0.extract (a1 : Int).toNat a0.size).size : Int)
                            · rw [if_pos c21] at H
                              have c21b0 := eq_true c21
                              try have c21b0z : ((ji19) ≤ ((a0.size - (a1 : Int).toNat : Nat) : Int)) = True := eq_true (by simpa only [ByteArray.size_extract, ByteArray.size_append, Nat.min_self] using of_eq_true c21b0)
                              have c21b1 : decide ((ji19) ≤ ((a0.extract (a1 : Int).toNat a0.size).size : Int)) = true := decide_eq_true c21
                              try have c21b1z : decide ((ji19) ≤ ((a0.size - (a1 : Int).toNat : Nat) : Int)) = true := by simpa only [ByteArray.size_extract, ByteArray.size_append, Nat.min_self] using c21b1
                              clear c21
                              replace H := Option.bind_eq_some_iff.mp H
                              obtain ⟨t178, A220, H⟩ := H
                              replace H : (if ((a0.extract (a1 : Int).toNat a0.size).extract 0 ((ji19) : Int).toNat).toList = t178.toList then (some ((a0.extract (a1 : Int).toNat a0.size).extract 2 ((wrap64 (2 + (wrap64 ((wrap64 (bt (a0.extract (a1 : Int).toNat a0.size) 0)) + (wrap64 (256 * (wrap64 (bt (a0.extract (a1 : Int).toNat a0.size) 1)))))))) : Int).toNat, wrap64 ((wrap64 (a1 + (wrap64 ((wrap64 (bt (a0.extract (a1 : Int).toNat a0.size) 0)) + (wrap64 (256 * (wrap64 (bt (a0.extract (a1 : Int).toNat a0.size) 1)))))))) + 6), 0)) else (some ((⟨#[]⟩ : ByteArray), 0, 51))) = some (r1, r2, r3) := H
                              have A22 := Aside0.mk A220
                              clear A220
                              by_cases c23 : ((a0.extract (a1 : Int).toNat a0.size).extract 0 ((ji19) : Int).toNat).toList = t178.toList
                              · rw [if_pos c23] at H
                                have c23b0 : (((a0.extract (a1 : Int).toNat a0.size).extract 0 ((ji19) : Int).toNat).toList == t178.toList) = true := beq_iff_eq.mpr c23
                                have c23b1 : (((a0.extract (a1 : Int).toNat a0.size).extract 0 ((ji19) : Int).toNat).toList != t178.toList) = false := bne_eq_false_iff_eq.mpr c23
                                clear c23
                                simp only [Option.some.injEq, Prod.mk.injEq] at H
                                obtain ⟨rfl, rfl, rfl⟩ := H
                                try go_wp2
                                have n0_ := Aside0.mk (below_drew1 HB.out)
                                clear HB
                                have HB := n0_
                                clear n0_
                                have p10 : 0 ≤ (0 : Int) := (by omega)
                                have q10 : 0 < (a0.extract (a1 : Int).toNat a0.size).size := (by have : (0 : Int) < ((a0.extract (a1 : Int).toNat a0.size).size : Int) := of_decide_eq_true (by first | (with_reducible assumption) | assumption); omega)
                                have hx10 : ∀ h : 0 < (a0.extract (a1 : Int).toNat a0.size).size, (((a0.extract (a1 : Int).toNat a0.size)[0]'h).toNat : Int) = bt (a0.extract (a1 : Int).toNat a0.size) 0 := bt_at (a0.extract (a1 : Int).toNat a0.size) 0
                                clear p10
                                have qi10 : (0 < ((a0.extract (a1 : Int).toNat a0.size).size : Int)) = True := eq_true (of_decide_eq_true (by first | (with_reducible assumption) | assumption))
                                try have qi10z : (0 < ((a0.size - (a1 : Int).toNat : Nat) : Int)) = True := eq_true (by simpa only [ByteArray.size_extract, ByteArray.size_append, Nat.min_self] using of_eq_true qi10)
                                replace q10 := eq_true q10
                                try have q10z : (0 < (a0.size - (a1 : Int).toNat : Nat)) = True := eq_true (by simpa only [ByteArray.size_extract, ByteArray.size_append, Nat.min_self] using of_eq_true q10)
                                have p12 : 0 ≤ (1 : Int) := (by omega)
                                have q12 : 1 < (a0.extract (a1 : Int).toNat a0.size).size := (by have : (1 : Int) < ((a0.extract (a1 : Int).toNat a0.size).size : Int) := of_decide_eq_true (by first | (with_reducible assumption) | assumption); omega)
                                have hx12 : ∀ h : 1 < (a0.extract (a1 : Int).toNat a0.size).size, (((a0.extract (a1 : Int).toNat a0.size)[1]'h).toNat : Int) = bt (a0.extract (a1 : Int).toNat a0.size) 1 := bt_at (a0.extract (a1 : Int).toNat a0.size) 1
                                clear p12
                                have qi12 : (1 < ((a0.extract (a1 : Int).toNat a0.size).size : Int)) = True := eq_true (of_decide_eq_true (by first | (with_reducible assumption) | assumption))
                                try have qi12z : (1 < ((a0.size - (a1 : Int).toNat : Nat) : Int)) = True := eq_true (by simpa only [ByteArray.size_extract, ByteArray.size_append, Nat.min_self] using of_eq_true qi12)
                                replace q12 := eq_true q12
                                try have q12z : (1 < (a0.size - (a1 : Int).toNat : Nat)) = True := eq_true (by simpa only [ByteArray.size_extract, ByteArray.size_append, Nat.min_self] using of_eq_true q12)
                                refine start_ (n := 9) (S := fun w' => True) (ds := []) #[false, false, false, false, false, false, false, false, false] (by kernel_rfl) rfl rfl trivial (fun hHeld => ?_); refine with_tabW corncribref05_Next.tab6 corncribref05_Next.bits6 (fun HT_ HW_ => ?_)
                                generalize wc.drew = w24 at HB hHeld ⊢
                                refine pure_ (i := 0) (N := some 24) (v := ?_) (a' := ?_) #[true, false, false, false, false, false, false, false, false] rfl rfl (any_of HT_.out (by kernel_rfl)) (fun _ _ _ h => h) (Or.inl ⟨by rfl, ?_⟩) ?_ ?_
                                rotate_left
                                · intro w'
                                  go_simp
                                  with_reducible rfl
                                rotate_left
                                · simp only [Act.put, List.setIfInBounds_toArray, List.set_cons_zero, List.set_cons_succ, i64_w, i32_w]
                                  rfl
                                refine pure_ (i := 3) (N := some 27) (v := ?_) (a' := ?_) #[true, false, false, true, false, false, false, false, false] rfl rfl (any_of HT_.out (by kernel_rfl)) (fun _ _ _ h => h) (Or.inl ⟨by rfl, ?_⟩) ?_ ?_
                                rotate_left
                                · intro w'
                                  go_simp
                                  with_reducible rfl
                                rotate_left
                                · simp only [Act.put, List.setIfInBounds_toArray, List.set_cons_zero, List.set_cons_succ, i64_w, i32_w]
                                  rfl
                                refine take_ (i := 1) (N := some 25) (v := ?_) (a' := ?_) #[true, true, false, true, false, false, false, false, false] rfl rfl (take_ofW HT_.out HW_.out (by kernel_rfl)) (fun _ _ _ h => h) (Or.inl ⟨by rfl, ?_⟩) hHeld ?_ ?_
                                rotate_left
                                · intro w' _
                                  go_simp
                                  with_reducible rfl
                                rotate_left
                                · simp only [Act.put, List.setIfInBounds_toArray, List.set_cons_zero, List.set_cons_succ, i64_w, i32_w]
                                  rfl
                                refine pure_ (i := 2) (N := some 26) (v := ?_) (a' := ?_) #[true, true, true, true, false, false, false, false, false] rfl rfl (any_of HT_.out (by kernel_rfl)) (fun _ _ _ h => h) (Or.inl ⟨by rfl, ?_⟩) ?_ ?_
                                rotate_left
                                · intro w'
                                  go_simp
                                  with_reducible rfl
                                rotate_left
                                · simp only [Act.put, List.setIfInBounds_toArray, List.set_cons_zero, List.set_cons_succ, i64_w, i32_w]
                                  rfl
                                refine take_ (i := 4) (N := some 28) (v := ?_) (a' := ?_) #[true, true, true, true, true, false, false, false, false] rfl rfl (take_ofW HT_.out HW_.out (by kernel_rfl)) (fun _ _ _ h => h) (Or.inl ⟨by rfl, ?_⟩) hHeld ?_ ?_
                                rotate_left
                                · intro w' _
                                  go_simp
                                  with_reducible rfl
                                rotate_left
                                · simp only [Act.put, List.setIfInBounds_toArray, List.set_cons_zero, List.set_cons_succ, i64_w, i32_w]
                                  rfl
                                refine pure_ (i := 5) (N := some 29) (v := ?_) (a' := ?_) #[true, true, true, true, true, true, false, false, false] rfl rfl (any_of HT_.out (by kernel_rfl)) (fun _ _ _ h => h) (Or.inl ⟨by rfl, ?_⟩) ?_ ?_
                                rotate_left
                                · intro w'
                                  go_simp
                                  with_reducible rfl
                                rotate_left
                                · simp only [Act.put, List.setIfInBounds_toArray, List.set_cons_zero, List.set_cons_succ, i64_w, i32_w]
                                  rfl
                                refine pure_ (i := 6) (N := some 30) (v := ?_) (a' := ?_) #[true, true, true, true, true, true, true, false, false] rfl rfl (any_of HT_.out (by kernel_rfl)) (fun _ _ _ h => h) (Or.inl ⟨by rfl, ?_⟩) ?_ ?_
                                rotate_left
                                · intro w'
                                  go_simp
                                  with_reducible rfl
                                rotate_left
                                · simp only [Act.put, List.setIfInBounds_toArray, List.set_cons_zero, List.set_cons_succ, i64_w, i32_w]
                                  rfl
                                refine pure_ (i := 7) (N := some 31) (v := ?_) (a' := ?_) #[true, true, true, true, true, true, true, true, false] rfl rfl (any_of HT_.out (by kernel_rfl)) (fun _ _ _ h => h) (Or.inl ⟨by rfl, ?_⟩) ?_ ?_
                                rotate_left
                                · intro w'
                                  go_simp
                                  with_reducible rfl
                                rotate_left
                                · simp only [Act.put, List.setIfInBounds_toArray, List.set_cons_zero, List.set_cons_succ, i64_w, i32_w]
                                  rfl
                                refine pure_ (i := 8) (N := some 8) (v := ?_) (a' := ?_) #[true, true, true, true, true, true, true, true, true] rfl rfl (any_of HT_.out (by kernel_rfl)) (fun _ _ _ h => h) (Or.inl ⟨by rfl, ?_⟩) ?_ ?_
                                rotate_left
                                · intro w'
                                  go_simp
                                  with_reducible rfl
                                rotate_left
                                · simp only [Act.put, List.setIfInBounds_toArray, List.set_cons_zero, List.set_cons_succ, i64_w, i32_w]
                                  rfl
                                refine done_ (done_of HT_.out (by kernel_rfl)) ?_
                                try go_wp2
                                have n0_ := Aside0.mk (below_drew1 HB.out)
                                clear HB
                                have HB := n0_
                                clear n0_
                                refine start_ (n := 7) (S := fun w' => True) (ds := []) #[false, false, false, false, false, false, false] (by kernel_rfl) rfl rfl trivial (fun hHeld => ?_)
                                generalize w24.drew = w25 at HB hHeld ⊢
                                refine pure_ (i := 0) (N := some 43) (v := ?_) (a' := ?_) #[true, false, false, false, false, false, false] rfl rfl (by kernel_rfl) (fun _ _ _ h => h) (Or.inl ⟨by rfl, ?_⟩) ?_ ?_
                                rotate_left
                                · intro w'
                                  go_simp
                                  with_reducible rfl
                                rotate_left
                                · simp only [Act.put, List.setIfInBounds_toArray, List.set_cons_zero, List.set_cons_succ, i64_w, i32_w]
                                  rfl
                                refine pure_ (i := 1) (N := some 44) (v := ?_) (a' := ?_) #[true, true, false, false, false, false, false] rfl rfl (by kernel_rfl) (fun _ _ _ h => h) (Or.inl ⟨by rfl, ?_⟩) ?_ ?_
                                rotate_left
                                · intro w'
                                  go_simp
                                  with_reducible rfl
                                rotate_left
                                · simp only [Act.put, List.setIfInBounds_toArray, List.set_cons_zero, List.set_cons_succ, i64_w, i32_w]
                                  rfl
                                refine pure_ (i := 2) (N := some 45) (v := ?_) (a' := ?_) #[true, true, true, false, false, false, false] rfl rfl (by kernel_rfl) (fun _ _ _ h => h) (Or.inl ⟨by rfl, ?_⟩) ?_ ?_
                                rotate_left
                                · intro w'
                                  go_simp
                                  with_reducible rfl
                                rotate_left
                                · simp only [Act.put, List.setIfInBounds_toArray, List.set_cons_zero, List.set_cons_succ, i64_w, i32_w]
                                  rfl
                                refine pure_ (i := 3) (N := some 46) (v := ?_) (a' := ?_) #[true, true, true, true, false, false, false] rfl rfl (by kernel_rfl) (fun _ _ _ h => h) (Or.inl ⟨by rfl, ?_⟩) ?_ ?_
                                rotate_left
                                · intro w'
                                  go_simp
                                  with_reducible rfl
                                rotate_left
                                · simp only [Act.put, List.setIfInBounds_toArray, List.set_cons_zero, List.set_cons_succ, i64_w, i32_w]
                                  rfl
                                refine pure_ (i := 4) (N := some 47) (v := ?_) (a' := ?_) #[true, true, true, true, true, false, false] rfl rfl (by kernel_rfl) (fun _ _ _ h => h) (Or.inl ⟨by rfl, ?_⟩) ?_ ?_
                                rotate_left
                                · intro w'
                                  go_simp
                                  with_reducible rfl
                                rotate_left
                                · simp only [Act.put, List.setIfInBounds_toArray, List.set_cons_zero, List.set_cons_succ, i64_w, i32_w]
                                  rfl
                                refine one_ (i := 5) (N := some 48) #[true, true, true, true, true, true, false] rfl rfl (by kernel_rfl) (by decide) (fun K hK => ?_)
                                refine goes_ Try.func25 (by kernel_rfl) rfl #[.string ((a0.extract (a1 : Int).toNat a0.size).extract 2 ((wrap64 (2 + (wrap64 ((wrap64 (bt (a0.extract (a1 : Int).toNat a0.size) 0)) + (wrap64 (256 * (wrap64 (bt (a0.extract (a1 : Int).toNat a0.size) 1)))))))) : Int).toNat)] (by rfl) rfl rfl (by (try simp only [List.map_toArray, List.map_cons, List.map_nil]); first | done | rfl | (simp only [List.length_drop, List.length_take]; rfl)) ?_
                                with_reducible refine (corncribref05_One.calls kj2 ((a0.extract (a1 : Int).toNat a0.size).extract 2 ((wrap64 (2 + (wrap64 ((wrap64 (bt (a0.extract (a1 : Int).toNat a0.size) 0)) + (wrap64 (256 * (wrap64 (bt (a0.extract (a1 : Int).toNat a0.size) 1)))))))) : Int).toNat) t178 _ A22.out).mono ?_
                                rintro e w26 ⟨rfl, hb⟩
                                refine ⟨_, rfl, ?_⟩
                                have n0_ := Aside0.mk (below_step (by repeat (first | (with_reducible first | exact HB.out | apply below_alloc | apply pw_below_drewN | apply below_drew1) | exact HB.out)) hb)
                                clear HB
                                have HB := n0_
                                clear n0_
                                (try clear hb)
                                (try clear hb2)
                                (try clear hk)
                                (try clear hi)
                                refine hK.out _ _ trivial (fun hHeld => ?_)
                                clear hK K
                                refine norm_ (a' := ?_) ?_ ?_
                                rotate_left
                                · show Act.put _ (some 48) _ = _
                                  simp only [Act.put, List.setIfInBounds_toArray, List.set_cons_zero, List.set_cons_succ, i64_w, i32_w]
                                  rfl
                                refine pure_ (i := 6) (N := some 49) (v := ?_) (a' := ?_) #[true, true, true, true, true, true, true] rfl rfl (by kernel_rfl) (fun _ _ _ h => h) (Or.inl ⟨by rfl, ?_⟩) ?_ ?_
                                rotate_left
                                · intro w'
                                  go_simp
                                  with_reducible rfl
                                rotate_left
                                · simp only [Act.put, List.setIfInBounds_toArray, List.set_cons_zero, List.set_cons_succ, i64_w, i32_w]
                                  rfl
                                refine done_ (by kernel_rfl) ?_
                                try go_wp2
                                go_ret3
                                exact ⟨by first | rfl | (simp [errW_none, errW_some] <;> rfl) | (simp only [← hji19]; first | rfl | (simp [errW_none, errW_some] <;> rfl)) | (simp [*, errW_none, errW_some] <;> rfl), by repeat (first | (with_reducible first | exact HB.out | apply below_alloc | apply pw_below_drewN | apply below_drew1) | exact HB.out)⟩
                              · rw [if_neg c23] at H
                                have c23b0 : (((a0.extract (a1 : Int).toNat a0.size).extract 0 ((ji19) : Int).toNat).toList == t178.toList) = false := beq_eq_false_iff_ne.mpr c23
                                have c23b1 : (((a0.extract (a1 : Int).toNat a0.size).extract 0 ((ji19) : Int).toNat).toList != t178.toList) = true := bne_iff_ne.mpr c23
                                simp only [Option.some.injEq, Prod.mk.injEq] at H
                                obtain ⟨rfl, rfl, rfl⟩ := H
                                try go_wp2
                                have n0_ := Aside0.mk (below_drew1 HB.out)
                                clear HB
                                have HB := n0_
                                clear n0_
                                have p10 : 0 ≤ (0 : Int) := (by omega)
                                have q10 : 0 < (a0.extract (a1 : Int).toNat a0.size).size := (by have : (0 : Int) < ((a0.extract (a1 : Int).toNat a0.size).size : Int) := of_decide_eq_true (by first | (with_reducible assumption) | assumption); omega)
                                have hx10 : ∀ h : 0 < (a0.extract (a1 : Int).toNat a0.size).size, (((a0.extract (a1 : Int).toNat a0.size)[0]'h).toNat : Int) = bt (a0.extract (a1 : Int).toNat a0.size) 0 := bt_at (a0.extract (a1 : Int).toNat a0.size) 0
                                clear p10
                                have qi10 : (0 < ((a0.extract (a1 : Int).toNat a0.size).size : Int)) = True := eq_true (of_decide_eq_true (by first | (with_reducible assumption) | assumption))
                                try have qi10z : (0 < ((a0.size - (a1 : Int).toNat : Nat) : Int)) = True := eq_true (by simpa only [ByteArray.size_extract, ByteArray.size_append, Nat.min_self] using of_eq_true qi10)
                                replace q10 := eq_true q10
                                try have q10z : (0 < (a0.size - (a1 : Int).toNat : Nat)) = True := eq_true (by simpa only [ByteArray.size_extract, ByteArray.size_append, Nat.min_self] using of_eq_true q10)
                                have p12 : 0 ≤ (1 : Int) := (by omega)
                                have q12 : 1 < (a0.extract (a1 : Int).toNat a0.size).size := (by have : (1 : Int) < ((a0.extract (a1 : Int).toNat a0.size).size : Int) := of_decide_eq_true (by first | (with_reducible assumption) | assumption); omega)
                                have hx12 : ∀ h : 1 < (a0.extract (a1 : Int).toNat a0.size).size, (((a0.extract (a1 : Int).toNat a0.size)[1]'h).toNat : Int) = bt (a0.extract (a1 : Int).toNat a0.size) 1 := bt_at (a0.extract (a1 : Int).toNat a0.size) 1
                                clear p12
                                have qi12 : (1 < ((a0.extract (a1 : Int).toNat a0.size).size : Int)) = True := eq_true (of_decide_eq_true (by first | (with_reducible assumption) | assumption))
                                try have qi12z : (1 < ((a0.size - (a1 : Int).toNat : Nat) : Int)) = True := eq_true (by simpa only [ByteArray.size_extract, ByteArray.size_append, Nat.min_self] using of_eq_true qi12)
                                replace q12 := eq_true q12
                                try have q12z : (1 < (a0.size - (a1 : Int).toNat : Nat)) = True := eq_true (by simpa only [ByteArray.size_extract, ByteArray.size_append, Nat.min_self] using of_eq_true q12)
                                refine start_ (n := 9) (S := fun w' => True) (ds := []) #[false, false, false, false, false, false, false, false, false] (by kernel_rfl) rfl rfl trivial (fun hHeld => ?_); refine with_tabW corncribref05_Next.tab6 corncribref05_Next.bits6 (fun HT_ HW_ => ?_)
                                generalize wc.drew = w27 at HB hHeld ⊢
                                refine pure_ (i := 0) (N := some 24) (v := ?_) (a' := ?_) #[true, false, false, false, false, false, false, false, false] rfl rfl (any_of HT_.out (by kernel_rfl)) (fun _ _ _ h => h) (Or.inl ⟨by rfl, ?_⟩) ?_ ?_
                                rotate_left
                                · intro w'
                                  go_simp
                                  with_reducible rfl
                                rotate_left
                                · simp only [Act.put, List.setIfInBounds_toArray, List.set_cons_zero, List.set_cons_succ, i64_w, i32_w]
                                  rfl
                                refine pure_ (i := 3) (N := some 27) (v := ?_) (a' := ?_) #[true, false, false, true, false, false, false, false, false] rfl rfl (any_of HT_.out (by kernel_rfl)) (fun _ _ _ h => h) (Or.inl ⟨by rfl, ?_⟩) ?_ ?_
                                rotate_left
                                · intro w'
                                  go_simp
                                  with_reducible rfl
                                rotate_left
                                · simp only [Act.put, List.setIfInBounds_toArray, List.set_cons_zero, List.set_cons_succ, i64_w, i32_w]
                                  rfl
                                refine take_ (i := 1) (N := some 25) (v := ?_) (a' := ?_) #[true, true, false, true, false, false, false, false, false] rfl rfl (take_ofW HT_.out HW_.out (by kernel_rfl)) (fun _ _ _ h => h) (Or.inl ⟨by rfl, ?_⟩) hHeld ?_ ?_
                                rotate_left
                                · intro w' _
                                  go_simp
                                  with_reducible rfl
                                rotate_left
                                · simp only [Act.put, List.setIfInBounds_toArray, List.set_cons_zero, List.set_cons_succ, i64_w, i32_w]
                                  rfl
                                refine pure_ (i := 2) (N := some 26) (v := ?_) (a' := ?_) #[true, true, true, true, false, false, false, false, false] rfl rfl (any_of HT_.out (by kernel_rfl)) (fun _ _ _ h => h) (Or.inl ⟨by rfl, ?_⟩) ?_ ?_
                                rotate_left
                                · intro w'
                                  go_simp
                                  with_reducible rfl
                                rotate_left
                                · simp only [Act.put, List.setIfInBounds_toArray, List.set_cons_zero, List.set_cons_succ, i64_w, i32_w]
                                  rfl
                                refine take_ (i := 4) (N := some 28) (v := ?_) (a' := ?_) #[true, true, true, true, true, false, false, false, false] rfl rfl (take_ofW HT_.out HW_.out (by kernel_rfl)) (fun _ _ _ h => h) (Or.inl ⟨by rfl, ?_⟩) hHeld ?_ ?_
                                rotate_left
                                · intro w' _
                                  go_simp
                                  with_reducible rfl
                                rotate_left
                                · simp only [Act.put, List.setIfInBounds_toArray, List.set_cons_zero, List.set_cons_succ, i64_w, i32_w]
                                  rfl
                                refine pure_ (i := 5) (N := some 29) (v := ?_) (a' := ?_) #[true, true, true, true, true, true, false, false, false] rfl rfl (any_of HT_.out (by kernel_rfl)) (fun _ _ _ h => h) (Or.inl ⟨by rfl, ?_⟩) ?_ ?_
                                rotate_left
                                · intro w'
                                  go_simp
                                  with_reducible rfl
                                rotate_left
                                · simp only [Act.put, List.setIfInBounds_toArray, List.set_cons_zero, List.set_cons_succ, i64_w, i32_w]
                                  rfl
                                refine pure_ (i := 6) (N := some 30) (v := ?_) (a' := ?_) #[true, true, true, true, true, true, true, false, false] rfl rfl (any_of HT_.out (by kernel_rfl)) (fun _ _ _ h => h) (Or.inl ⟨by rfl, ?_⟩) ?_ ?_
                                rotate_left
                                · intro w'
                                  go_simp
                                  with_reducible rfl
                                rotate_left
                                · simp only [Act.put, List.setIfInBounds_toArray, List.set_cons_zero, List.set_cons_succ, i64_w, i32_w]
                                  rfl
                                refine pure_ (i := 7) (N := some 31) (v := ?_) (a' := ?_) #[true, true, true, true, true, true, true, true, false] rfl rfl (any_of HT_.out (by kernel_rfl)) (fun _ _ _ h => h) (Or.inl ⟨by rfl, ?_⟩) ?_ ?_
                                rotate_left
                                · intro w'
                                  go_simp
                                  with_reducible rfl
                                rotate_left
                                · simp only [Act.put, List.setIfInBounds_toArray, List.set_cons_zero, List.set_cons_succ, i64_w, i32_w]
                                  rfl
                                refine pure_ (i := 8) (N := some 8) (v := ?_) (a' := ?_) #[true, true, true, true, true, true, true, true, true] rfl rfl (any_of HT_.out (by kernel_rfl)) (fun _ _ _ h => h) (Or.inl ⟨by rfl, ?_⟩) ?_ ?_
                                rotate_left
                                · intro w'
                                  go_simp
                                  with_reducible rfl
                                rotate_left
                                · simp only [Act.put, List.setIfInBounds_toArray, List.set_cons_zero, List.set_cons_succ, i64_w, i32_w]
                                  rfl
                                refine done_ (done_of HT_.out (by kernel_rfl)) ?_
                                try go_wp2
                                have n0_ := Aside0.mk (below_drew1 HB.out)
                                clear HB
                                have HB := n0_
                                clear n0_
                                refine start_ (n := 7) (S := fun w' => True) (ds := []) #[false, false, false, false, false, false, false] (by kernel_rfl) rfl rfl trivial (fun hHeld => ?_)
                                generalize w27.drew = w28 at HB hHeld ⊢
                                refine pure_ (i := 0) (N := some 43) (v := ?_) (a' := ?_) #[true, false, false, false, false, false, false] rfl rfl (by kernel_rfl) (fun _ _ _ h => h) (Or.inl ⟨by rfl, ?_⟩) ?_ ?_
                                rotate_left
                                · intro w'
                                  go_simp
                                  with_reducible rfl
                                rotate_left
                                · simp only [Act.put, List.setIfInBounds_toArray, List.set_cons_zero, List.set_cons_succ, i64_w, i32_w]
                                  rfl
                                refine pure_ (i := 1) (N := some 44) (v := ?_) (a' := ?_) #[true, true, false, false, false, false, false] rfl rfl (by kernel_rfl) (fun _ _ _ h => h) (Or.inl ⟨by rfl, ?_⟩) ?_ ?_
                                rotate_left
                                · intro w'
                                  go_simp
                                  with_reducible rfl
                                rotate_left
                                · simp only [Act.put, List.setIfInBounds_toArray, List.set_cons_zero, List.set_cons_succ, i64_w, i32_w]
                                  rfl
                                refine pure_ (i := 2) (N := some 45) (v := ?_) (a' := ?_) #[true, true, true, false, false, false, false] rfl rfl (by kernel_rfl) (fun _ _ _ h => h) (Or.inl ⟨by rfl, ?_⟩) ?_ ?_
                                rotate_left
                                · intro w'
                                  go_simp
                                  with_reducible rfl
                                rotate_left
                                · simp only [Act.put, List.setIfInBounds_toArray, List.set_cons_zero, List.set_cons_succ, i64_w, i32_w]
                                  rfl
                                refine pure_ (i := 3) (N := some 46) (v := ?_) (a' := ?_) #[true, true, true, true, false, false, false] rfl rfl (by kernel_rfl) (fun _ _ _ h => h) (Or.inl ⟨by rfl, ?_⟩) ?_ ?_
                                rotate_left
                                · intro w'
                                  go_simp
                                  with_reducible rfl
                                rotate_left
                                · simp only [Act.put, List.setIfInBounds_toArray, List.set_cons_zero, List.set_cons_succ, i64_w, i32_w]
                                  rfl
                                refine pure_ (i := 4) (N := some 47) (v := ?_) (a' := ?_) #[true, true, true, true, true, false, false] rfl rfl (by kernel_rfl) (fun _ _ _ h => h) (Or.inl ⟨by rfl, ?_⟩) ?_ ?_
                                rotate_left
                                · intro w'
                                  go_simp
                                  with_reducible rfl
                                rotate_left
                                · simp only [Act.put, List.setIfInBounds_toArray, List.set_cons_zero, List.set_cons_succ, i64_w, i32_w]
                                  rfl
                                refine one_ (i := 5) (N := some 48) #[true, true, true, true, true, true, false] rfl rfl (by kernel_rfl) (by decide) (fun K hK => ?_)
                                refine goes_ Try.func25 (by kernel_rfl) rfl #[.string ((a0.extract (a1 : Int).toNat a0.size).extract 2 ((wrap64 (2 + (wrap64 ((wrap64 (bt (a0.extract (a1 : Int).toNat a0.size) 0)) + (wrap64 (256 * (wrap64 (bt (a0.extract (a1 : Int).toNat a0.size) 1)))))))) : Int).toNat)] (by rfl) rfl rfl (by (try simp only [List.map_toArray, List.map_cons, List.map_nil]); first | done | rfl | (simp only [List.length_drop, List.length_take]; rfl)) ?_
                                with_reducible refine (corncribref05_One.calls kj2 ((a0.extract (a1 : Int).toNat a0.size).extract 2 ((wrap64 (2 + (wrap64 ((wrap64 (bt (a0.extract (a1 : Int).toNat a0.size) 0)) + (wrap64 (256 * (wrap64 (bt (a0.extract (a1 : Int).toNat a0.size) 1)))))))) : Int).toNat) t178 _ A22.out).mono ?_
                                rintro e w29 ⟨rfl, hb⟩
                                refine ⟨_, rfl, ?_⟩
                                have n0_ := Aside0.mk (below_step (by repeat (first | (with_reducible first | exact HB.out | apply below_alloc | apply pw_below_drewN | apply below_drew1) | exact HB.out)) hb)
                                clear HB
                                have HB := n0_
                                clear n0_
                                (try clear hb)
                                (try clear hb2)
                                (try clear hk)
                                (try clear hi)
                                refine hK.out _ _ trivial (fun hHeld => ?_)
                                clear hK K
                                refine norm_ (a' := ?_) ?_ ?_
                                rotate_left
                                · show Act.put _ (some 48) _ = _
                                  simp only [Act.put, List.setIfInBounds_toArray, List.set_cons_zero, List.set_cons_succ, i64_w, i32_w]
                                  rfl
                                refine pure_ (i := 6) (N := some 49) (v := ?_) (a' := ?_) #[true, true, true, true, true, true, true] rfl rfl (by kernel_rfl) (fun _ _ _ h => h) (Or.inl ⟨by rfl, ?_⟩) ?_ ?_
                                rotate_left
                                · intro w'
                                  go_simp
                                  with_reducible rfl
                                rotate_left
                                · simp only [Act.put, List.setIfInBounds_toArray, List.set_cons_zero, List.set_cons_succ, i64_w, i32_w]
                                  rfl
                                refine done_ (by kernel_rfl) ?_
                                try go_wp2
                                go_ret3
                                exact ⟨by first | rfl | (simp [errW_none, errW_some] <;> rfl) | (simp only [← hji19]; first | rfl | (simp [errW_none, errW_some] <;> rfl)) | (simp [*, errW_none, errW_some] <;> rfl), by repeat (first | (with_reducible first | exact HB.out | apply below_alloc | apply pw_below_drewN | apply below_drew1) | exact HB.out)⟩
                            · rw [if_neg c21] at H
                              exact absurd H (by simp)
                          · rw [if_neg c20] at H
                            exact absurd H (by simp)
                        · rw [if_neg c18] at H
                          exact absurd H (by simp)
                      · rw [if_neg c17] at H
                        exact absurd H (by simp)
                · rw [if_neg c11] at H
                  exact absurd H (by simp)
              · rw [if_neg c9] at H
                exact absurd H (by simp)
          · rw [if_neg c7] at H
            exact absurd H (by simp)
        · rw [if_neg c6] at H
          exact absurd H (by simp)

end Go.Proofs.Ytdajpglkggmpoaa.Al
