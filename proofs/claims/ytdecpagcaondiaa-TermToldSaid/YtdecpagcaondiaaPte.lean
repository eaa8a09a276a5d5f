/- What the laws stand on, in one text: functions of the program by their contracts, and the plain mathematics behind them (11 of them). -/
import Derived.Test.YtdecpagcaondiaaPtd
import Derived.Test.YtdecpagcaondiaaWWords
import Derived.Test.YtdecpagcaondiaaRows
import Derived.ChangeArms
import Derived.ChangeShapes
import Derived.SizedLaws

/- One function of the program comes to what its plain twin says. This text began as the kit's own print (print.py, made by cprint.sh) and was turned by split.py: it is no printed file. -/
namespace Go.Proofs.Ytdecpagcaondiaa.Al
open Go.RowKit Go.Proofs.YtdecpagcaondiaaW.PrintWords Go.Proofs.YtdecpagcaondiaaW.PrintLast Go.Proofs.YtdecpagcaondiaaW.PrintMore
attribute [local go_sem] max2_int min2_int max_two min_two max_three min_three max_four min_four   -- for this text's walks alone
set_option linter.unusedVariables false
set_option linter.unusedSimpArgs false

/-! ### corncribref21_Told: function 19 -/
mutual
def corncribref21_Told.l0 : Nat → Int → Int → Int → List (S34) → Int → Bool → Int → Bool → Int → Option (Int × Int × Int)
 | 0, _, _, _, _, _, _, _, _, _ => none
 | k + 1, x0, x1, x2, x3, x12, x13, x14, x15, x16 => if x16 < x0 then ((corncribref21_first.f k x16 x2 8 x3).bind fun t385 => (if x16 = x1 then (corncribref21_Told.j1 k x0 x1 x2 x3 x12 x13 x14 x15 x16 t385 true) else (corncribref21_Told.j1 k x0 x1 x2 x3 x12 x13 x14 x15 x16 t385 (decide (t385 < 0))))) else (if x15 = true then (corncribref21_Told.j2 k x0 x12 x13 x14 true) else (if x12 > 0 then (corncribref21_Told.j2 k x0 x12 x13 x14 x13) else (corncribref21_Told.j2 k x0 x12 x13 x14 false)))
def corncribref21_Told.j1 : Nat → Int → Int → Int → List (S34) → Int → Bool → Int → Bool → Int → Int → Bool → Option (Int × Int × Int)
 | 0, _, _, _, _, _, _, _, _, _, _, _ => none
 | k + 1, x0, x1, x2, x3, x12, x13, x14, x15, x16, x17, x41 => if x41 = true then (corncribref21_Told.l0 k x0 x1 x2 x3 x12 x13 x14 x15 (wrap64 (x16 + 1))) else (if 0 ≤ x17 then (if x17 < (x3.length : Int) then (if ((rd_T34 x3 x17).f5) = 0 then (corncribref21_Told.l0 k x0 x1 x2 x3 x12 true x14 x15 (wrap64 (x16 + 1))) else (if ((rd_T34 x3 x17).f5) = 2 then (corncribref21_Told.l0 k x0 x1 x2 x3 x12 x13 (wrap64 (x14 + 1)) x15 (wrap64 (x16 + 1))) else (if x15 = true then (corncribref21_Told.l0 k x0 x1 x2 x3 (mx x12 ((rd_T34 x3 x17).f4)) x13 x14 true (wrap64 (x16 + 1))) else (if x12 > 0 then (if ((rd_T34 x3 x17).f4) > 0 then (corncribref21_Told.l0 k x0 x1 x2 x3 (mx x12 ((rd_T34 x3 x17).f4)) x13 x14 (((rd_T34 x3 x17).f4) != x12) (wrap64 (x16 + 1))) else (corncribref21_Told.l0 k x0 x1 x2 x3 (mx x12 ((rd_T34 x3 x17).f4)) x13 x14 false (wrap64 (x16 + 1)))) else (corncribref21_Told.l0 k x0 x1 x2 x3 (mx x12 ((rd_T34 x3 x17).f4)) x13 x14 false (wrap64 (x16 + 1))))))) else (none)) else (none))
def corncribref21_Told.j2 : Nat → Int → Int → Bool → Int → Bool → Option (Int × Int × Int)
 | 0, _, _, _, _, _ => none
 | k + 1, x0, x12, x13, x14, x89 => if x89 = true then (some (0, 0, 120)) else (if x12 > 0 then (some (1, x12, 0)) else (if x13 = true then (some (2, 0, 0)) else (if x14 = (wrap64 (x0 - 1)) then (some (3, 0, 0)) else (some (0, 0, 0)))))
end
def corncribref21_Told.f (k : Nat) (a0 : Int) (a1 : Int) (a2 : Int) (l3 : List (S34)) : Option (Int × Int × Int) := (corncribref21_may.f k a0 a1 a2 l3).bind fun t384 => (if t384 = 0 then (corncribref21_Told.l0 k a0 a1 a2 l3 0 false 0 false 0) else (some (0, 0, t384)))
theorem corncribref21_Told.mono_l : ∀ k, (∀ y0 y1 y2 y3 y4 y5 y6 y7 y8, LeO (corncribref21_Told.l0 k y0 y1 y2 y3 y4 y5 y6 y7 y8) (corncribref21_Told.l0 (k + 1) y0 y1 y2 y3 y4 y5 y6 y7 y8)) ∧ (∀ y0 y1 y2 y3 y4 y5 y6 y7 y8 y9 y10, LeO (corncribref21_Told.j1 k y0 y1 y2 y3 y4 y5 y6 y7 y8 y9 y10) (corncribref21_Told.j1 (k + 1) y0 y1 y2 y3 y4 y5 y6 y7 y8 y9 y10)) ∧ (∀ y0 y1 y2 y3 y4, LeO (corncribref21_Told.j2 k y0 y1 y2 y3 y4) (corncribref21_Told.j2 (k + 1) y0 y1 y2 y3 y4))
 | 0 => ⟨fun _ _ _ _ _ _ _ _ _ r h => by simp [corncribref21_Told.l0] at h, fun _ _ _ _ _ _ _ _ _ _ _ r h => by simp [corncribref21_Told.j1] at h, fun _ _ _ _ _ r h => by simp [corncribref21_Told.j2] at h⟩
 | k + 1 => by
  obtain ⟨ih0, ih1, ih2⟩ := corncribref21_Told.mono_l k
  refine ⟨?_, ?_, ?_⟩
  ·intro y0 y1 y2 y3 y4 y5 y6 y7 y8
   unfold corncribref21_Told.l0
   repeat' first
   | (with_reducible exact ih0 _ _ _ _ _ _ _ _ _)
   | (with_reducible exact ih1 _ _ _ _ _ _ _ _ _ _ _)
   | (with_reducible exact ih2 _ _ _ _ _)
   | (with_reducible exact corncribref21_first.mono _ _ _ _ _)
   | (with_reducible exact corncribref21_may.mono _ _ _ _ _)
   | (with_reducible exact LeO.refl _)
   | (with_reducible exact LeO.none _)
   | (with_reducible refine LeO.ite ?_ ?_)
   | (with_reducible refine LeO.bind ?_ (fun _ => ?_))
   | exact ih0 _ _ _ _ _ _ _ _ _
   | exact ih1 _ _ _ _ _ _ _ _ _ _ _
   | exact ih2 _ _ _ _ _
   | exact corncribref21_first.mono _ _ _ _ _
   | exact corncribref21_may.mono _ _ _ _ _
   | exact LeO.none _
   | refine LeO.ite ?_ ?_
   | refine LeO.bind ?_ (fun _ => ?_)
  ·intro y0 y1 y2 y3 y4 y5 y6 y7 y8 y9 y10
   unfold corncribref21_Told.j1
   repeat' first
   | (with_reducible exact ih0 _ _ _ _ _ _ _ _ _)
   | (with_reducible exact ih1 _ _ _ _ _ _ _ _ _ _ _)
   | (with_reducible exact ih2 _ _ _ _ _)
   | (with_reducible exact corncribref21_first.mono _ _ _ _ _)
   | (with_reducible exact corncribref21_may.mono _ _ _ _ _)
   | (with_reducible exact LeO.refl _)
   | (with_reducible exact LeO.none _)
   | (with_reducible refine LeO.ite ?_ ?_)
   | (with_reducible refine LeO.bind ?_ (fun _ => ?_))
   | exact ih0 _ _ _ _ _ _ _ _ _
   | exact ih1 _ _ _ _ _ _ _ _ _ _ _
   | exact ih2 _ _ _ _ _
   | exact corncribref21_first.mono _ _ _ _ _
   | exact corncribref21_may.mono _ _ _ _ _
   | exact LeO.none _
   | refine LeO.ite ?_ ?_
   | refine LeO.bind ?_ (fun _ => ?_)
  ·intro y0 y1 y2 y3 y4
   unfold corncribref21_Told.j2
   repeat' first
   | (with_reducible exact ih0 _ _ _ _ _ _ _ _ _)
   | (with_reducible exact ih1 _ _ _ _ _ _ _ _ _ _ _)
   | (with_reducible exact ih2 _ _ _ _ _)
   | (with_reducible exact corncribref21_first.mono _ _ _ _ _)
   | (with_reducible exact corncribref21_may.mono _ _ _ _ _)
   | (with_reducible exact LeO.refl _)
   | (with_reducible exact LeO.none _)
   | (with_reducible refine LeO.ite ?_ ?_)
   | (with_reducible refine LeO.bind ?_ (fun _ => ?_))
   | exact ih0 _ _ _ _ _ _ _ _ _
   | exact ih1 _ _ _ _ _ _ _ _ _ _ _
   | exact ih2 _ _ _ _ _
   | exact corncribref21_first.mono _ _ _ _ _
   | exact corncribref21_may.mono _ _ _ _ _
   | exact LeO.none _
   | refine LeO.ite ?_ ?_
   | refine LeO.bind ?_ (fun _ => ?_)
theorem corncribref21_Told.mono : ∀ a0 a1 a2 a3 k, LeO (corncribref21_Told.f k a0 a1 a2 a3) (corncribref21_Told.f (k + 1) a0 a1 a2 a3) := by
 intro a0 a1 a2 a3 k
 obtain ⟨ih0, ih1, ih2⟩ := corncribref21_Told.mono_l k
 unfold corncribref21_Told.f
 repeat' first
   | (with_reducible exact ih0 _ _ _ _ _ _ _ _ _)
   | (with_reducible exact ih1 _ _ _ _ _ _ _ _ _ _ _)
   | (with_reducible exact ih2 _ _ _ _ _)
   | (with_reducible exact corncribref21_first.mono _ _ _ _ _)
   | (with_reducible exact corncribref21_may.mono _ _ _ _ _)
   | (with_reducible exact LeO.refl _)
   | (with_reducible exact LeO.none _)
   | (with_reducible refine LeO.ite ?_ ?_)
   | (with_reducible refine LeO.bind ?_ (fun _ => ?_))
   | exact ih0 _ _ _ _ _ _ _ _ _
   | exact ih1 _ _ _ _ _ _ _ _ _ _ _
   | exact ih2 _ _ _ _ _
   | exact corncribref21_first.mono _ _ _ _ _
   | exact corncribref21_may.mono _ _ _ _ _
   | exact LeO.none _
   | refine LeO.ite ?_ ?_
   | refine LeO.bind ?_ (fun _ => ?_)
set_option maxHeartbeats 8000000 in
set_option maxRecDepth 100000 in
theorem corncribref21_Told.calls (k : Nat) (a0 : Int) (a1 : Int) (a2 : Int) (A3 : Option Addr) (c3 : Nat) (l3 : List (S34)) (r1 : Int) (r2 : Int) (r3 : Int) (w : World) (hr3 : Kd.C k34 w A3 l3.length l3) (hc3 : l3.length ≤ c3) (h : corncribref21_Told.f k a0 a1 a2 l3 = some (r1, r2, r3)) :
  Calls Try.prog 19 #[.int .i64 a0, .int .i64 a1, .int .i64 a2, .slice A3 l3.length c3] w fun e w' => e = .returned (.tuple #[.int .i64 r1, .int .i64 r2, .int .i64 r3]) ∧ Below w.heap.size w w' := by
 have HR3 := Aside0.mk hr3
 have HC3 := Aside0.mk hc3
 clear hr3 hc3
 have HB := Aside0.mk (Below.refl w.heap.size w)
 have H : ((corncribref21_may.f k a0 a1 a2 l3).bind fun t384 => (if t384 = 0 then (corncribref21_Told.l0 k a0 a1 a2 l3 0 false 0 false 0) else (some (0, 0, t384)))) = some (r1, r2, r3) := h
 clear h
 replace H := Option.bind_eq_some_iff.mp H
 obtain ⟨t384, A50, H⟩ := H
 replace H : (if t384 = 0 then (corncribref21_Told.l0 k a0 a1 a2 l3 0 false 0 false 0) else (some (0, 0, t384))) = some (r1, r2, r3) := H
 have A5 := Aside0.mk A50
 clear A50
 by_cases c6 : t384 = 0
 ·rw [if_pos c6] at H
  have c6b0 : (t384 == 0) = true := beq_iff_eq.mpr c6
  have c6b1 : (t384 != 0) = false := bne_eq_false_iff_eq.mpr c6
  clear c6
  have H' := Aside0.mk H
  clear H
  go_enter Try.func19, Try.ntmps19
  go_wp2_with (first | ((with_reducible refine gate_callee (f := 23) rfl ?_); refine goesL_ (some 22) rfl rfl Try.func23 (by kernel_rfl) rfl #[.int .i64 a0, .int .i64 a1, .int .i64 a2, .slice A3 l3.length c3] rfl (by (try simp only [List.map_toArray, List.map_cons, List.map_nil]); first | done | rfl | (simp only [List.length_drop, List.length_take]; rfl)) ?_; (with_reducible refine (corncribref21_may.calls k a0 a1 a2 _ _ l3 t384 _ ?side1 ?side2 A5.out).mono ?_); (case side1 => repeat (first | exact HR3.out | (with_reducible refine Kd.C_alloc ?_ _) | (with_reducible refine Kd.C_drewN ?_ _) | (with_reducible refine Kd.C_drew ?_))); (case side2 => exact HC3.out); rintro e w' ⟨rfl, ⟨nd, rfl⟩⟩; refine ⟨_, rfl, ?_⟩))
  go_loopg [12, 13, 14, 15, 16] k (fun kq v12 v13 v14 v15 v16 w' => ∃ (x12_1 : Int) (x13_1 : Bool) (x14_1 : Int) (x15_1 : Bool) (x16_1 : Int), v12 = .int .i64 x12_1 ∧ v13 = .bool x13_1 ∧ v14 = .int .i64 x14_1 ∧ v15 = .bool x15_1 ∧ v16 = .int .i64 x16_1 ∧ Aside0 (corncribref21_Told.l0 kq a0 a1 a2 l3 x12_1 x13_1 x14_1 x15_1 x16_1 = some (r1, r2, r3)) ∧ Aside0 (kq ≤ k) ∧ Aside0 (Below w.heap.size w w'))
  case atStart => exact ⟨(0), (false), (0), (false), (0), (by first | rfl | (simp; done) | (simp [*]; done)), (by first | rfl | (simp; done) | (simp [*]; done)), (by first | rfl | (simp; done) | (simp [*]; done)), (by first | rfl | (simp; done) | (simp [*]; done)), (by first | rfl | (simp; done) | (simp [*]; done)), H', ⟨Nat.le_refl _⟩, ⟨by repeat (first | (with_reducible first | exact HB.out | apply below_alloc | apply pw_below_drewN | apply below_drew1) | exact HB.out)⟩⟩
  case round =>
   clear H'
   (try clear c1); (try clear c2); (try clear p2); (try clear c3); (try clear c6); (try clear c6b0); (try clear c6b1)
   obtain ⟨x12_1, x13_1, x14_1, x15_1, x16_1, rfl, rfl, rfl, rfl, rfl, HA, HK1, HB⟩ := hrel
   cases gk with
   | zero => exact absurd HA.out (by simp [corncribref21_Told.l0])
   | succ k1 =>
    have H := HA.out
    clear HA
    simp only [corncribref21_Told.l0] at H
    by_cases c7 : x16_1 < a0
    ·rw [if_pos c7] at H
     have c7b0 : decide (x16_1 < a0) = true := decide_eq_true c7
     clear c7
     replace H := Option.bind_eq_some_iff.mp H
     obtain ⟨t385, A80, H⟩ := H
     replace H : (if x16_1 = a1 then (corncribref21_Told.j1 k1 a0 a1 a2 l3 x12_1 x13_1 x14_1 x15_1 x16_1 t385 true) else (corncribref21_Told.j1 k1 a0 a1 a2 l3 x12_1 x13_1 x14_1 x15_1 x16_1 t385 (decide (t385 < 0)))) = some (r1, r2, r3) := H
     have A8 := Aside0.mk A80
     clear A80
     have HC9 := Aside0.mk H
     clear H
     go_upto_region 10 with (first | ((with_reducible refine gate_callee (f := 24) rfl ?_); refine goesL_ (some 34) rfl rfl Try.func24 (by kernel_rfl) rfl #[.int .i64 x16_1, .int .i64 a2, .int .i64 8, .slice A3 l3.length c3] rfl (by (try simp only [List.map_toArray, List.map_cons, List.map_nil]); first | done | rfl | (simp only [List.length_drop, List.length_take]; rfl)) ?_; (with_reducible refine (corncribref21_first.calls k1 x16_1 a2 8 _ _ l3 t385 _ ?side1 ?side2 A8.out).mono ?_); (case side1 => repeat (first | exact (Kd.C_below HR3.out HB.out) | (with_reducible refine Kd.C_alloc ?_ _) | (with_reducible refine Kd.C_drewN ?_ _) | (with_reducible refine Kd.C_drew ?_))); (case side2 => exact HC3.out); rintro e w10 ⟨rfl, hb⟩; refine ⟨_, rfl, ?_⟩; have n0_ := Aside0.mk (below_step (by repeat (first | (with_reducible first | exact HB.out | apply below_alloc | apply pw_below_drewN | apply below_drew1) | exact HB.out)) hb); clear HB; have HB := n0_; clear n0_; (try clear hb); (try clear hb2); (try clear hk); (try clear hi)))
     (try simp only [Act.put, List.setIfInBounds_toArray, List.set_cons_zero, List.set_cons_succ])
     go_cut [41] (fun v41 wc => ∃ (kq : Nat) (x41_8 : Bool), v41 = .bool x41_8 ∧ Aside0 (corncribref21_Told.j1 kq a0 a1 a2 l3 x12_1 x13_1 x14_1 x15_1 x16_1 t385 x41_8 = some (r1, r2, r3)) ∧ Aside0 (kq ≤ k1) ∧ Aside0 (Below w.heap.size w wc))
     case first =>
      have H := HC9.out
      clear HC9
      by_cases c11 : x16_1 = a1
      ·rw [if_pos c11] at H
       have c11b0 : (x16_1 == a1) = true := beq_iff_eq.mpr c11
       have c11b1 : (x16_1 != a1) = false := bne_eq_false_iff_eq.mpr c11
       clear c11
       (first | rw [c11b0] | (simp only [i64_w, i32_w]; rw [c11b0]) | skip)
       have H' := Aside0.mk H
       clear H
       go_wp2
       go_meet
       case rel => exact ⟨_, (true), (by first | rfl | (simp; done) | (simp [*]; done)), H', ⟨by have := HK1.out; first | omega | exact Nat.le_refl _⟩, ⟨by repeat (first | (with_reducible first | exact HB.out | apply below_alloc | apply pw_below_drewN | apply below_drew1) | exact HB.out)⟩⟩
      ·rw [if_neg c11] at H
       have c11b0 : (x16_1 == a1) = false := beq_eq_false_iff_ne.mpr c11
       have c11b1 : (x16_1 != a1) = true := bne_iff_ne.mpr c11
       (first | rw [c11b0] | (simp only [i64_w, i32_w]; rw [c11b0]) | skip)
       have H' := Aside0.mk H
       clear H
       go_wp2
       go_meet
       case rel => exact ⟨_, (decide (t385 < 0)), (by first | rfl | (simp; done) | (simp [*]; done)), H', ⟨by have := HK1.out; first | omega | exact Nat.le_refl _⟩, ⟨by repeat (first | (with_reducible first | exact HB.out | apply below_alloc | apply pw_below_drewN | apply below_drew1) | exact HB.out)⟩⟩
     case rest =>
      clear HC9
      (try clear c1); (try clear c2); (try clear p2); (try clear c3); (try clear c6); (try clear c6b0); (try clear c6b1); (try clear c7); (try clear c7b0); (try clear c11); (try clear c11b0); (try clear c11b1); (try clear p2)
      obtain ⟨kq, x41_8, rfl, HA, HJ8, HB⟩ := hcut
      cases kq with
      | zero => exact absurd HA.out (by simp [corncribref21_Told.j1])
      | succ kj8 =>
       have H := HA.out
       clear HA
       simp only [corncribref21_Told.j1] at H
       by_cases c12 : x41_8 = true
       ·subst c12
        have H1 : (corncribref21_Told.l0 kj8 a0 a1 a2 l3 x12_1 x13_1 x14_1 x15_1 (wrap64 (x16_1 + 1))) = some (r1, r2, r3) := by rw [if_pos rfl] at H; exact H
        clear H
        have H := H1
        clear H1
        have H' := Aside0.mk H
        clear H
        go_wp2
        go_roundg kj8
        case measure => have := HK1.out; have := HJ8.out; omega
        case rel => exact ⟨(x12_1), (x13_1), (x14_1), (x15_1), (wrap64 (x16_1 + 1)), (by first | rfl | (simp; done) | (simp [*]; done)), (by first | rfl | (simp; done) | (simp [*]; done)), (by first | rfl | (simp; done) | (simp [*]; done)), (by first | rfl | (simp; done) | (simp [*]; done)), (by first | rfl | (simp; done) | (simp [*]; done)), H', ⟨by have := HK1.out; have := HJ8.out; omega⟩, ⟨by repeat (first | (with_reducible first | exact HB.out | apply below_alloc | apply pw_below_drewN | apply below_drew1) | exact HB.out)⟩⟩
       ·replace c12 := Bool.eq_false_iff.mpr c12
        subst c12
        have H1 : (if 0 ≤ t385 then (if t385 < (l3.length : Int) then (if ((rd_T34 l3 t385).f5) = 0 then (corncribref21_Told.l0 kj8 a0 a1 a2 l3 x12_1 true x14_1 x15_1 (wrap64 (x16_1 + 1))) else (if ((rd_T34 l3 t385).f5) = 2 then (corncribref21_Told.l0 kj8 a0 a1 a2 l3 x12_1 x13_1 (wrap64 (x14_1 + 1)) x15_1 (wrap64 (x16_1 + 1))) else (if x15_1 = true then (corncribref21_Told.l0 kj8 a0 a1 a2 l3 (mx x12_1 ((rd_T34 l3 t385).f4)) x13_1 x14_1 true (wrap64 (x16_1 + 1))) else (if x12_1 > 0 then (if ((rd_T34 l3 t385).f4) > 0 then (corncribref21_Told.l0 kj8 a0 a1 a2 l3 (mx x12_1 ((rd_T34 l3 t385).f4)) x13_1 x14_1 (((rd_T34 l3 t385).f4) != x12_1) (wrap64 (x16_1 + 1))) else (corncribref21_Told.l0 kj8 a0 a1 a2 l3 (mx x12_1 ((rd_T34 l3 t385).f4)) x13_1 x14_1 false (wrap64 (x16_1 + 1)))) else (corncribref21_Told.l0 kj8 a0 a1 a2 l3 (mx x12_1 ((rd_T34 l3 t385).f4)) x13_1 x14_1 false (wrap64 (x16_1 + 1))))))) else (none)) else (none)) = some (r1, r2, r3) := by rw [if_neg (show ¬ (false = true) by decide)] at H; exact H
        clear H
        have H := H1
        clear H1
        by_cases c13 : 0 ≤ t385
        ·rw [if_pos c13] at H
         have c13b0 : decide (0 ≤ t385) = true := decide_eq_true c13
         clear c13
         by_cases c14 : t385 < (l3.length : Int)
         ·rw [if_pos c14] at H
          have c14b0 : decide (t385 < (l3.length : Int)) = true := decide_eq_true c14
          clear c14
          by_cases c15 : ((rd_T34 l3 t385).f5) = 0
          ·rw [if_pos c15] at H
           have c15b0 : (((rd_T34 l3 t385).f5) == 0) = true := beq_iff_eq.mpr c15
           have c15b1 : (((rd_T34 l3 t385).f5) != 0) = false := bne_eq_false_iff_eq.mpr c15
           clear c15
           have H' := Aside0.mk H
           clear H
           have p386 : 0 ≤ (t385 : Int) := of_decide_eq_true (by first | (with_reducible assumption) | assumption)
           have q386 : t385 < (l3.length : Int) := of_decide_eq_true (by first | (with_reducible assumption) | assumption)
           obtain ⟨ad386, A386_7, c386_7, A386_8, c386_8, e386, hx386_0, hx386_1, hx386_2, hx386_3, hx386_4, hx386_5, hx386_6, hx386_7, hx386_8, hl386_7, hi386_7, hl386_8, hi386_8⟩ := at_T34 HR3.out t385 p386 q386
           cases e386
           replace hx386_0 := (HB.out.cell (World.block_lt_of_cell? w _ hx386_0)).trans hx386_0
           replace hx386_1 := (HB.out.cell (World.block_lt_of_cell? w _ hx386_1)).trans hx386_1
           replace hx386_2 := (HB.out.cell (World.block_lt_of_cell? w _ hx386_2)).trans hx386_2
           replace hx386_3 := (HB.out.cell (World.block_lt_of_cell? w _ hx386_3)).trans hx386_3
           replace hx386_4 := (HB.out.cell (World.block_lt_of_cell? w _ hx386_4)).trans hx386_4
           replace hx386_5 := (HB.out.cell (World.block_lt_of_cell? w _ hx386_5)).trans hx386_5
           replace hx386_6 := (HB.out.cell (World.block_lt_of_cell? w _ hx386_6)).trans hx386_6
           replace hx386_7 := (HB.out.cell (World.block_lt_of_cell? w _ hx386_7)).trans hx386_7
           replace hx386_8 := (HB.out.cell (World.block_lt_of_cell? w _ hx386_8)).trans hx386_8
           have HR386_7 := Aside0.mk hi386_7
           have HC386_7 := Aside0.mk hl386_7
           clear hi386_7 hl386_7
           have HR386_8 := Aside0.mk hi386_8
           have HC386_8 := Aside0.mk hl386_8
           clear hi386_8 hl386_8
           replace p386 := eq_true p386
           replace q386 := eq_true q386
           go_wp2
           go_roundg kj8
           case measure => have := HK1.out; have := HJ8.out; omega
           case rel => exact ⟨(x12_1), (true), (x14_1), (x15_1), (wrap64 (x16_1 + 1)), (by first | rfl | (simp; done) | (simp [*]; done)), (by first | rfl | (simp; done) | (simp [*]; done)), (by first | rfl | (simp; done) | (simp [*]; done)), (by first | rfl | (simp; done) | (simp [*]; done)), (by first | rfl | (simp; done) | (simp [*]; done)), H', ⟨by have := HK1.out; have := HJ8.out; omega⟩, ⟨by repeat (first | (with_reducible first | exact HB.out | apply below_alloc | apply pw_below_drewN | apply below_drew1) | exact HB.out)⟩⟩
          ·rw [if_neg c15] at H
           have c15b0 : (((rd_T34 l3 t385).f5) == 0) = false := beq_eq_false_iff_ne.mpr c15
           have c15b1 : (((rd_T34 l3 t385).f5) != 0) = true := bne_iff_ne.mpr c15
           by_cases c16 : ((rd_T34 l3 t385).f5) = 2
           ·rw [if_pos c16] at H
            have c16b0 : (((rd_T34 l3 t385).f5) == 2) = true := beq_iff_eq.mpr c16
            have c16b1 : (((rd_T34 l3 t385).f5) != 2) = false := bne_eq_false_iff_eq.mpr c16
            clear c16
            have H' := Aside0.mk H
            clear H
            have p386 : 0 ≤ (t385 : Int) := of_decide_eq_true (by first | (with_reducible assumption) | assumption)
            have q386 : t385 < (l3.length : Int) := of_decide_eq_true (by first | (with_reducible assumption) | assumption)
            obtain ⟨ad386, A386_7, c386_7, A386_8, c386_8, e386, hx386_0, hx386_1, hx386_2, hx386_3, hx386_4, hx386_5, hx386_6, hx386_7, hx386_8, hl386_7, hi386_7, hl386_8, hi386_8⟩ := at_T34 HR3.out t385 p386 q386
            cases e386
            replace hx386_0 := (HB.out.cell (World.block_lt_of_cell? w _ hx386_0)).trans hx386_0
            replace hx386_1 := (HB.out.cell (World.block_lt_of_cell? w _ hx386_1)).trans hx386_1
            replace hx386_2 := (HB.out.cell (World.block_lt_of_cell? w _ hx386_2)).trans hx386_2
            replace hx386_3 := (HB.out.cell (World.block_lt_of_cell? w _ hx386_3)).trans hx386_3
            replace hx386_4 := (HB.out.cell (World.block_lt_of_cell? w _ hx386_4)).trans hx386_4
            replace hx386_5 := (HB.out.cell (World.block_lt_of_cell? w _ hx386_5)).trans hx386_5
            replace hx386_6 := (HB.out.cell (World.block_lt_of_cell? w _ hx386_6)).trans hx386_6
            replace hx386_7 := (HB.out.cell (World.block_lt_of_cell? w _ hx386_7)).trans hx386_7
            replace hx386_8 := (HB.out.cell (World.block_lt_of_cell? w _ hx386_8)).trans hx386_8
            have HR386_7 := Aside0.mk hi386_7
            have HC386_7 := Aside0.mk hl386_7
            clear hi386_7 hl386_7
            have HR386_8 := Aside0.mk hi386_8
            have HC386_8 := Aside0.mk hl386_8
            clear hi386_8 hl386_8
            replace p386 := eq_true p386
            replace q386 := eq_true q386
            go_wp2
            go_roundg kj8
            case measure => have := HK1.out; have := HJ8.out; omega
            case rel => exact ⟨(x12_1), (x13_1), (wrap64 (x14_1 + 1)), (x15_1), (wrap64 (x16_1 + 1)), (by first | rfl | (simp; done) | (simp [*]; done)), (by first | rfl | (simp; done) | (simp [*]; done)), (by first | rfl | (simp; done) | (simp [*]; done)), (by first | rfl | (simp; done) | (simp [*]; done)), (by first | rfl | (simp; done) | (simp [*]; done)), H', ⟨by have := HK1.out; have := HJ8.out; omega⟩, ⟨by repeat (first | (with_reducible first | exact HB.out | apply below_alloc | apply pw_below_drewN | apply below_drew1) | exact HB.out)⟩⟩
           ·rw [if_neg c16] at H
            have c16b0 : (((rd_T34 l3 t385).f5) == 2) = false := beq_eq_false_iff_ne.mpr c16
            have c16b1 : (((rd_T34 l3 t385).f5) != 2) = true := bne_iff_ne.mpr c16
            by_cases c17 : x15_1 = true
            ·subst c17
             have H1 : (corncribref21_Told.l0 kj8 a0 a1 a2 l3 (mx x12_1 ((rd_T34 l3 t385).f4)) x13_1 x14_1 true (wrap64 (x16_1 + 1))) = some (r1, r2, r3) := by rw [if_pos rfl] at H; exact H
             clear H
             have H := H1
             clear H1
             obtain ⟨ji18, hji18⟩ : ∃ j_ : Int, (mx x12_1 ((rd_T34 l3 t385).f4)) = j_ := ⟨_, rfl⟩
             replace H : (corncribref21_Told.l0 kj8 a0 a1 a2 l3 ji18 x13_1 x14_1 true (wrap64 (x16_1 + 1))) = some (r1, r2, r3) := by first | (rw [hji18] at H; exact H) | (simp only [hji18] at H ⊢; exact H)
             have hji18_ : (if x12_1 < ((rd_T34 l3 t385).f4) then ((rd_T34 l3 t385).f4) else x12_1) = ji18 := hji18
             have H' := Aside0.mk H
             clear H
             have p386 : 0 ≤ (t385 : Int) := of_decide_eq_true (by first | (with_reducible assumption) | assumption)
             have q386 : t385 < (l3.length : Int) := of_decide_eq_true (by first | (with_reducible assumption) | assumption)
             obtain ⟨ad386, A386_7, c386_7, A386_8, c386_8, e386, hx386_0, hx386_1, hx386_2, hx386_3, hx386_4, hx386_5, hx386_6, hx386_7, hx386_8, hl386_7, hi386_7, hl386_8, hi386_8⟩ := at_T34 HR3.out t385 p386 q386
             cases e386
             replace hx386_0 := (HB.out.cell (World.block_lt_of_cell? w _ hx386_0)).trans hx386_0
             replace hx386_1 := (HB.out.cell (World.block_lt_of_cell? w _ hx386_1)).trans hx386_1
             replace hx386_2 := (HB.out.cell (World.block_lt_of_cell? w _ hx386_2)).trans hx386_2
             replace hx386_3 := (HB.out.cell (World.block_lt_of_cell? w _ hx386_3)).trans hx386_3
             replace hx386_4 := (HB.out.cell (World.block_lt_of_cell? w _ hx386_4)).trans hx386_4
             replace hx386_5 := (HB.out.cell (World.block_lt_of_cell? w _ hx386_5)).trans hx386_5
             replace hx386_6 := (HB.out.cell (World.block_lt_of_cell? w _ hx386_6)).trans hx386_6
             replace hx386_7 := (HB.out.cell (World.block_lt_of_cell? w _ hx386_7)).trans hx386_7
             replace hx386_8 := (HB.out.cell (World.block_lt_of_cell? w _ hx386_8)).trans hx386_8
             have HR386_7 := Aside0.mk hi386_7
             have HC386_7 := Aside0.mk hl386_7
             clear hi386_7 hl386_7
             have HR386_8 := Aside0.mk hi386_8
             have HC386_8 := Aside0.mk hl386_8
             clear hi386_8 hl386_8
             replace p386 := eq_true p386
             replace q386 := eq_true q386
             have p387 : 0 ≤ (t385 : Int) := of_decide_eq_true (by first | (with_reducible assumption) | assumption)
             have q387 : t385 < (l3.length : Int) := of_decide_eq_true (by first | (with_reducible assumption) | assumption)
             obtain ⟨ad387, A387_7, c387_7, A387_8, c387_8, e387, hx387_0, hx387_1, hx387_2, hx387_3, hx387_4, hx387_5, hx387_6, hx387_7, hx387_8, hl387_7, hi387_7, hl387_8, hi387_8⟩ := at_T34 HR3.out t385 p387 q387
             obtain rfl : ad386 = ad387 := (by injection e387)
             replace hx387_0 := (HB.out.cell (World.block_lt_of_cell? w _ hx387_0)).trans hx387_0
             replace hx387_1 := (HB.out.cell (World.block_lt_of_cell? w _ hx387_1)).trans hx387_1
             replace hx387_2 := (HB.out.cell (World.block_lt_of_cell? w _ hx387_2)).trans hx387_2
             replace hx387_3 := (HB.out.cell (World.block_lt_of_cell? w _ hx387_3)).trans hx387_3
             replace hx387_4 := (HB.out.cell (World.block_lt_of_cell? w _ hx387_4)).trans hx387_4
             replace hx387_5 := (HB.out.cell (World.block_lt_of_cell? w _ hx387_5)).trans hx387_5
             replace hx387_6 := (HB.out.cell (World.block_lt_of_cell? w _ hx387_6)).trans hx387_6
             replace hx387_7 := (HB.out.cell (World.block_lt_of_cell? w _ hx387_7)).trans hx387_7
             replace hx387_8 := (HB.out.cell (World.block_lt_of_cell? w _ hx387_8)).trans hx387_8
             have HR387_7 := Aside0.mk hi387_7
             have HC387_7 := Aside0.mk hl387_7
             clear hi387_7 hl387_7
             have HR387_8 := Aside0.mk hi387_8
             have HC387_8 := Aside0.mk hl387_8
             clear hi387_8 hl387_8
             replace p387 := eq_true p387
             replace q387 := eq_true q387
             have ea_ := Option.some.inj (hx386_7.symm.trans hx387_7)
             injection ea_ with ea_ en_ ec_
             subst ea_
             subst ec_
             clear en_
             have ea_ := Option.some.inj (hx386_8.symm.trans hx387_8)
             injection ea_ with ea_ en_ ec_
             subst ea_
             subst ec_
             clear en_
             go_wp2
             go_roundg kj8
             case measure => have := HK1.out; have := HJ8.out; omega
             case rel => exact ⟨(ji18), (x13_1), (x14_1), (true), (wrap64 (x16_1 + 1)), (by first | rfl | (simp; done) | (simp only [← hji18] <;> (first | rfl | simp)) | (simp [*]; done)), (by first | rfl | (simp; done) | (simp [*]; done)), (by first | rfl | (simp; done) | (simp [*]; done)), (by first | rfl | (simp; done) | (simp [*]; done)), (by first | rfl | (simp; done) | (simp [*]; done)), H', ⟨by have := HK1.out; have := HJ8.out; omega⟩, ⟨by repeat (first | (with_reducible first | exact HB.out | apply below_alloc | apply pw_below_drewN | apply below_drew1) | exact HB.out)⟩⟩
            ·replace c17 := Bool.eq_false_iff.mpr c17
             subst c17
             have H1 : (if x12_1 > 0 then (if ((rd_T34 l3 t385).f4) > 0 then (corncribref21_Told.l0 kj8 a0 a1 a2 l3 (mx x12_1 ((rd_T34 l3 t385).f4)) x13_1 x14_1 (((rd_T34 l3 t385).f4) != x12_1) (wrap64 (x16_1 + 1))) else (corncribref21_Told.l0 kj8 a0 a1 a2 l3 (mx x12_1 ((rd_T34 l3 t385).f4)) x13_1 x14_1 false (wrap64 (x16_1 + 1)))) else (corncribref21_Told.l0 kj8 a0 a1 a2 l3 (mx x12_1 ((rd_T34 l3 t385).f4)) x13_1 x14_1 false (wrap64 (x16_1 + 1)))) = some (r1, r2, r3) := by rw [if_neg (show ¬ (false = true) by decide)] at H; exact H
             clear H
             have H := H1
             clear H1
             by_cases c19 : x12_1 > 0
             ·rw [if_pos c19] at H
              have c19b0 : decide (0 < x12_1) = true := decide_eq_true c19
              clear c19
              by_cases c20 : ((rd_T34 l3 t385).f4) > 0
              ·rw [if_pos c20] at H
               have c20b0 : decide (0 < ((rd_T34 l3 t385).f4)) = true := decide_eq_true c20
               clear c20
               obtain ⟨ji21, hji21⟩ : ∃ j_ : Int, (mx x12_1 ((rd_T34 l3 t385).f4)) = j_ := ⟨_, rfl⟩
               replace H : (corncribref21_Told.l0 kj8 a0 a1 a2 l3 ji21 x13_1 x14_1 (((rd_T34 l3 t385).f4) != x12_1) (wrap64 (x16_1 + 1))) = some (r1, r2, r3) := by first | (rw [hji21] at H; exact H) | (simp only [hji21] at H ⊢; exact H)
               have hji21_ : (if x12_1 < ((rd_T34 l3 t385).f4) then ((rd_T34 l3 t385).f4) else x12_1) = ji21 := hji21
               have H' := Aside0.mk H
               clear H
               have p386 : 0 ≤ (t385 : Int) := of_decide_eq_true (by first | (with_reducible assumption) | assumption)
               have q386 : t385 < (l3.length : Int) := of_decide_eq_true (by first | (with_reducible assumption) | assumption)
               obtain ⟨ad386, A386_7, c386_7, A386_8, c386_8, e386, hx386_0, hx386_1, hx386_2, hx386_3, hx386_4, hx386_5, hx386_6, hx386_7, hx386_8, hl386_7, hi386_7, hl386_8, hi386_8⟩ := at_T34 HR3.out t385 p386 q386
               cases e386
               replace hx386_0 := (HB.out.cell (World.block_lt_of_cell? w _ hx386_0)).trans hx386_0
               replace hx386_1 := (HB.out.cell (World.block_lt_of_cell? w _ hx386_1)).trans hx386_1
               replace hx386_2 := (HB.out.cell (World.block_lt_of_cell? w _ hx386_2)).trans hx386_2
               replace hx386_3 := (HB.out.cell (World.block_lt_of_cell? w _ hx386_3)).trans hx386_3
               replace hx386_4 := (HB.out.cell (World.block_lt_of_cell? w _ hx386_4)).trans hx386_4
               replace hx386_5 := (HB.out.cell (World.block_lt_of_cell? w _ hx386_5)).trans hx386_5
               replace hx386_6 := (HB.out.cell (World.block_lt_of_cell? w _ hx386_6)).trans hx386_6
               replace hx386_7 := (HB.out.cell (World.block_lt_of_cell? w _ hx386_7)).trans hx386_7
               replace hx386_8 := (HB.out.cell (World.block_lt_of_cell? w _ hx386_8)).trans hx386_8
               have HR386_7 := Aside0.mk hi386_7
               have HC386_7 := Aside0.mk hl386_7
               clear hi386_7 hl386_7
               have HR386_8 := Aside0.mk hi386_8
               have HC386_8 := Aside0.mk hl386_8
               clear hi386_8 hl386_8
               replace p386 := eq_true p386
               replace q386 := eq_true q386
               have p388 : 0 ≤ (t385 : Int) := of_decide_eq_true (by first | (with_reducible assumption) | assumption)
               have q388 : t385 < (l3.length : Int) := of_decide_eq_true (by first | (with_reducible assumption) | assumption)
               obtain ⟨ad388, A388_7, c388_7, A388_8, c388_8, e388, hx388_0, hx388_1, hx388_2, hx388_3, hx388_4, hx388_5, hx388_6, hx388_7, hx388_8, hl388_7, hi388_7, hl388_8, hi388_8⟩ := at_T34 HR3.out t385 p388 q388
               obtain rfl : ad386 = ad388 := (by injection e388)
               replace hx388_0 := (HB.out.cell (World.block_lt_of_cell? w _ hx388_0)).trans hx388_0
               replace hx388_1 := (HB.out.cell (World.block_lt_of_cell? w _ hx388_1)).trans hx388_1
               replace hx388_2 := (HB.out.cell (World.block_lt_of_cell? w _ hx388_2)).trans hx388_2
               replace hx388_3 := (HB.out.cell (World.block_lt_of_cell? w _ hx388_3)).trans hx388_3
               replace hx388_4 := (HB.out.cell (World.block_lt_of_cell? w _ hx388_4)).trans hx388_4
               replace hx388_5 := (HB.out.cell (World.block_lt_of_cell? w _ hx388_5)).trans hx388_5
               replace hx388_6 := (HB.out.cell (World.block_lt_of_cell? w _ hx388_6)).trans hx388_6
               replace hx388_7 := (HB.out.cell (World.block_lt_of_cell? w _ hx388_7)).trans hx388_7
               replace hx388_8 := (HB.out.cell (World.block_lt_of_cell? w _ hx388_8)).trans hx388_8
               have HR388_7 := Aside0.mk hi388_7
               have HC388_7 := Aside0.mk hl388_7
               clear hi388_7 hl388_7
               have HR388_8 := Aside0.mk hi388_8
               have HC388_8 := Aside0.mk hl388_8
               clear hi388_8 hl388_8
               replace p388 := eq_true p388
               replace q388 := eq_true q388
               have ea_ := Option.some.inj (hx386_7.symm.trans hx388_7)
               injection ea_ with ea_ en_ ec_
               subst ea_
               subst ec_
               clear en_
               have ea_ := Option.some.inj (hx386_8.symm.trans hx388_8)
               injection ea_ with ea_ en_ ec_
               subst ea_
               subst ec_
               clear en_
               have p389 : 0 ≤ (t385 : Int) := of_decide_eq_true (by first | (with_reducible assumption) | assumption)
               have q389 : t385 < (l3.length : Int) := of_decide_eq_true (by first | (with_reducible assumption) | assumption)
               obtain ⟨ad389, A389_7, c389_7, A389_8, c389_8, e389, hx389_0, hx389_1, hx389_2, hx389_3, hx389_4, hx389_5, hx389_6, hx389_7, hx389_8, hl389_7, hi389_7, hl389_8, hi389_8⟩ := at_T34 HR3.out t385 p389 q389
               obtain rfl : ad386 = ad389 := (by injection e389)
               replace hx389_0 := (HB.out.cell (World.block_lt_of_cell? w _ hx389_0)).trans hx389_0
               replace hx389_1 := (HB.out.cell (World.block_lt_of_cell? w _ hx389_1)).trans hx389_1
               replace hx389_2 := (HB.out.cell (World.block_lt_of_cell? w _ hx389_2)).trans hx389_2
               replace hx389_3 := (HB.out.cell (World.block_lt_of_cell? w _ hx389_3)).trans hx389_3
               replace hx389_4 := (HB.out.cell (World.block_lt_of_cell? w _ hx389_4)).trans hx389_4
               replace hx389_5 := (HB.out.cell (World.block_lt_of_cell? w _ hx389_5)).trans hx389_5
               replace hx389_6 := (HB.out.cell (World.block_lt_of_cell? w _ hx389_6)).trans hx389_6
               replace hx389_7 := (HB.out.cell (World.block_lt_of_cell? w _ hx389_7)).trans hx389_7
               replace hx389_8 := (HB.out.cell (World.block_lt_of_cell? w _ hx389_8)).trans hx389_8
               have HR389_7 := Aside0.mk hi389_7
               have HC389_7 := Aside0.mk hl389_7
               clear hi389_7 hl389_7
               have HR389_8 := Aside0.mk hi389_8
               have HC389_8 := Aside0.mk hl389_8
               clear hi389_8 hl389_8
               replace p389 := eq_true p389
               replace q389 := eq_true q389
               have ea_ := Option.some.inj (hx386_7.symm.trans hx389_7)
               injection ea_ with ea_ en_ ec_
               subst ea_
               subst ec_
               clear en_
               have ea_ := Option.some.inj (hx386_8.symm.trans hx389_8)
               injection ea_ with ea_ en_ ec_
               subst ea_
               subst ec_
               clear en_
               have p390 : 0 ≤ (t385 : Int) := of_decide_eq_true (by first | (with_reducible assumption) | assumption)
               have q390 : t385 < (l3.length : Int) := of_decide_eq_true (by first | (with_reducible assumption) | assumption)
               obtain ⟨ad390, A390_7, c390_7, A390_8, c390_8, e390, hx390_0, hx390_1, hx390_2, hx390_3, hx390_4, hx390_5, hx390_6, hx390_7, hx390_8, hl390_7, hi390_7, hl390_8, hi390_8⟩ := at_T34 HR3.out t385 p390 q390
               obtain rfl : ad386 = ad390 := (by injection e390)
               replace hx390_0 := (HB.out.cell (World.block_lt_of_cell? w _ hx390_0)).trans hx390_0
               replace hx390_1 := (HB.out.cell (World.block_lt_of_cell? w _ hx390_1)).trans hx390_1
               replace hx390_2 := (HB.out.cell (World.block_lt_of_cell? w _ hx390_2)).trans hx390_2
               replace hx390_3 := (HB.out.cell (World.block_lt_of_cell? w _ hx390_3)).trans hx390_3
               replace hx390_4 := (HB.out.cell (World.block_lt_of_cell? w _ hx390_4)).trans hx390_4
               replace hx390_5 := (HB.out.cell (World.block_lt_of_cell? w _ hx390_5)).trans hx390_5
               replace hx390_6 := (HB.out.cell (World.block_lt_of_cell? w _ hx390_6)).trans hx390_6
               replace hx390_7 := (HB.out.cell (World.block_lt_of_cell? w _ hx390_7)).trans hx390_7
               replace hx390_8 := (HB.out.cell (World.block_lt_of_cell? w _ hx390_8)).trans hx390_8
               have HR390_7 := Aside0.mk hi390_7
               have HC390_7 := Aside0.mk hl390_7
               clear hi390_7 hl390_7
               have HR390_8 := Aside0.mk hi390_8
               have HC390_8 := Aside0.mk hl390_8
               clear hi390_8 hl390_8
               replace p390 := eq_true p390
               replace q390 := eq_true q390
               have ea_ := Option.some.inj (hx386_7.symm.trans hx390_7)
               injection ea_ with ea_ en_ ec_
               subst ea_
               subst ec_
               clear en_
               have ea_ := Option.some.inj (hx386_8.symm.trans hx390_8)
               injection ea_ with ea_ en_ ec_
               subst ea_
               subst ec_
               clear en_
               go_wp2
               go_roundg kj8
               case measure => have := HK1.out; have := HJ8.out; omega
               case rel => exact ⟨(ji21), (x13_1), (x14_1), ((((rd_T34 l3 t385).f4) != x12_1)), (wrap64 (x16_1 + 1)), (by first | rfl | (simp; done) | (simp only [← hji21] <;> (first | rfl | simp)) | (simp [*]; done)), (by first | rfl | (simp; done) | (simp [*]; done)), (by first | rfl | (simp; done) | (simp [*]; done)), (by first | rfl | (simp; done) | (simp [*]; done)), (by first | rfl | (simp; done) | (simp [*]; done)), H', ⟨by have := HK1.out; have := HJ8.out; omega⟩, ⟨by repeat (first | (with_reducible first | exact HB.out | apply below_alloc | apply pw_below_drewN | apply below_drew1) | exact HB.out)⟩⟩
              ·rw [if_neg c20] at H
               have c20b0 : decide (0 < ((rd_T34 l3 t385).f4)) = false := decide_eq_false c20
               clear c20
               obtain ⟨ji22, hji22⟩ : ∃ j_ : Int, (mx x12_1 ((rd_T34 l3 t385).f4)) = j_ := ⟨_, rfl⟩
               replace H : (corncribref21_Told.l0 kj8 a0 a1 a2 l3 ji22 x13_1 x14_1 false (wrap64 (x16_1 + 1))) = some (r1, r2, r3) := by first | (rw [hji22] at H; exact H) | (simp only [hji22] at H ⊢; exact H)
               have hji22_ : (if x12_1 < ((rd_T34 l3 t385).f4) then ((rd_T34 l3 t385).f4) else x12_1) = ji22 := hji22
               have H' := Aside0.mk H
               clear H
               have p386 : 0 ≤ (t385 : Int) := of_decide_eq_true (by first | (with_reducible assumption) | assumption)
               have q386 : t385 < (l3.length : Int) := of_decide_eq_true (by first | (with_reducible assumption) | assumption)
               obtain ⟨ad386, A386_7, c386_7, A386_8, c386_8, e386, hx386_0, hx386_1, hx386_2, hx386_3, hx386_4, hx386_5, hx386_6, hx386_7, hx386_8, hl386_7, hi386_7, hl386_8, hi386_8⟩ := at_T34 HR3.out t385 p386 q386
               cases e386
               replace hx386_0 := (HB.out.cell (World.block_lt_of_cell? w _ hx386_0)).trans hx386_0
               replace hx386_1 := (HB.out.cell (World.block_lt_of_cell? w _ hx386_1)).trans hx386_1
               replace hx386_2 := (HB.out.cell (World.block_lt_of_cell? w _ hx386_2)).trans hx386_2
               replace hx386_3 := (HB.out.cell (World.block_lt_of_cell? w _ hx386_3)).trans hx386_3
               replace hx386_4 := (HB.out.cell (World.block_lt_of_cell? w _ hx386_4)).trans hx386_4
               replace hx386_5 := (HB.out.cell (World.block_lt_of_cell? w _ hx386_5)).trans hx386_5
               replace hx386_6 := (HB.out.cell (World.block_lt_of_cell? w _ hx386_6)).trans hx386_6
               replace hx386_7 := (HB.out.cell (World.block_lt_of_cell? w _ hx386_7)).trans hx386_7
               replace hx386_8 := (HB.out.cell (World.block_lt_of_cell? w _ hx386_8)).trans hx386_8
               have HR386_7 := Aside0.mk hi386_7
               have HC386_7 := Aside0.mk hl386_7
               clear hi386_7 hl386_7
               have HR386_8 := Aside0.mk hi386_8
               have HC386_8 := Aside0.mk hl386_8
               clear hi386_8 hl386_8
               replace p386 := eq_true p386
               replace q386 := eq_true q386
               have p388 : 0 ≤ (t385 : Int) := of_decide_eq_true (by first | (with_reducible assumption) | assumption)
               have q388 : t385 < (l3.length : Int) := of_decide_eq_true (by first | (with_reducible assumption) | assumption)
               obtain ⟨ad388, A388_7, c388_7, A388_8, c388_8, e388, hx388_0, hx388_1, hx388_2, hx388_3, hx388_4, hx388_5, hx388_6, hx388_7, hx388_8, hl388_7, hi388_7, hl388_8, hi388_8⟩ := at_T34 HR3.out t385 p388 q388
               obtain rfl : ad386 = ad388 := (by injection e388)
               replace hx388_0 := (HB.out.cell (World.block_lt_of_cell? w _ hx388_0)).trans hx388_0
               replace hx388_1 := (HB.out.cell (World.block_lt_of_cell? w _ hx388_1)).trans hx388_1
               replace hx388_2 := (HB.out.cell (World.block_lt_of_cell? w _ hx388_2)).trans hx388_2
               replace hx388_3 := (HB.out.cell (World.block_lt_of_cell? w _ hx388_3)).trans hx388_3
               replace hx388_4 := (HB.out.cell (World.block_lt_of_cell? w _ hx388_4)).trans hx388_4
               replace hx388_5 := (HB.out.cell (World.block_lt_of_cell? w _ hx388_5)).trans hx388_5
               replace hx388_6 := (HB.out.cell (World.block_lt_of_cell? w _ hx388_6)).trans hx388_6
               replace hx388_7 := (HB.out.cell (World.block_lt_of_cell? w _ hx388_7)).trans hx388_7
               replace hx388_8 := (HB.out.cell (World.block_lt_of_cell? w _ hx388_8)).trans hx388_8
               have HR388_7 := Aside0.mk hi388_7
               have HC388_7 := Aside0.mk hl388_7
               clear hi388_7 hl388_7
               have HR388_8 := Aside0.mk hi388_8
               have HC388_8 := Aside0.mk hl388_8
               clear hi388_8 hl388_8
               replace p388 := eq_true p388
               replace q388 := eq_true q388
               have ea_ := Option.some.inj (hx386_7.symm.trans hx388_7)
               injection ea_ with ea_ en_ ec_
               subst ea_
               subst ec_
               clear en_
               have ea_ := Option.some.inj (hx386_8.symm.trans hx388_8)
               injection ea_ with ea_ en_ ec_
               subst ea_
               subst ec_
               clear en_
               have p391 : 0 ≤ (t385 : Int) := of_decide_eq_true (by first | (with_reducible assumption) | assumption)
               have q391 : t385 < (l3.length : Int) := of_decide_eq_true (by first | (with_reducible assumption) | assumption)
               obtain ⟨ad391, A391_7, c391_7, A391_8, c391_8, e391, hx391_0, hx391_1, hx391_2, hx391_3, hx391_4, hx391_5, hx391_6, hx391_7, hx391_8, hl391_7, hi391_7, hl391_8, hi391_8⟩ := at_T34 HR3.out t385 p391 q391
               obtain rfl : ad386 = ad391 := (by injection e391)
               replace hx391_0 := (HB.out.cell (World.block_lt_of_cell? w _ hx391_0)).trans hx391_0
               replace hx391_1 := (HB.out.cell (World.block_lt_of_cell? w _ hx391_1)).trans hx391_1
               replace hx391_2 := (HB.out.cell (World.block_lt_of_cell? w _ hx391_2)).trans hx391_2
               replace hx391_3 := (HB.out.cell (World.block_lt_of_cell? w _ hx391_3)).trans hx391_3
               replace hx391_4 := (HB.out.cell (World.block_lt_of_cell? w _ hx391_4)).trans hx391_4
               replace hx391_5 := (HB.out.cell (World.block_lt_of_cell? w _ hx391_5)).trans hx391_5
               replace hx391_6 := (HB.out.cell (World.block_lt_of_cell? w _ hx391_6)).trans hx391_6
               replace hx391_7 := (HB.out.cell (World.block_lt_of_cell? w _ hx391_7)).trans hx391_7
               replace hx391_8 := (HB.out.cell (World.block_lt_of_cell? w _ hx391_8)).trans hx391_8
               have HR391_7 := Aside0.mk hi391_7
               have HC391_7 := Aside0.mk hl391_7
               clear hi391_7 hl391_7
               have HR391_8 := Aside0.mk hi391_8
               have HC391_8 := Aside0.mk hl391_8
               clear hi391_8 hl391_8
               replace p391 := eq_true p391
               replace q391 := eq_true q391
               have ea_ := Option.some.inj (hx386_7.symm.trans hx391_7)
               injection ea_ with ea_ en_ ec_
               subst ea_
               subst ec_
               clear en_
               have ea_ := Option.some.inj (hx386_8.symm.trans hx391_8)
               injection ea_ with ea_ en_ ec_
               subst ea_
               subst ec_
               clear en_
               go_wp2
               go_roundg kj8
               case measure => have := HK1.out; have := HJ8.out; omega
               case rel => exact ⟨(ji22), (x13_1), (x14_1), (false), (wrap64 (x16_1 + 1)), (by first | rfl | (simp; done) | (simp only [← hji22] <;> (first | rfl | simp)) | (simp [*]; done)), (by first | rfl | (simp; done) | (simp [*]; done)), (by first | rfl | (simp; done) | (simp [*]; done)), (by first | rfl | (simp; done) | (simp [*]; done)), (by first | rfl | (simp; done) | (simp [*]; done)), H', ⟨by have := HK1.out; have := HJ8.out; omega⟩, ⟨by repeat (first | (with_reducible first | exact HB.out | apply below_alloc | apply pw_below_drewN | apply below_drew1) | exact HB.out)⟩⟩
             ·rw [if_neg c19] at H
              have c19b0 : decide (0 < x12_1) = false := decide_eq_false c19
              clear c19
              obtain ⟨ji23, hji23⟩ : ∃ j_ : Int, (mx x12_1 ((rd_T34 l3 t385).f4)) = j_ := ⟨_, rfl⟩
              replace H : (corncribref21_Told.l0 kj8 a0 a1 a2 l3 ji23 x13_1 x14_1 false (wrap64 (x16_1 + 1))) = some (r1, r2, r3) := by first | (rw [hji23] at H; exact H) | (simp only [hji23] at H ⊢; exact H)
              have hji23_ : (if x12_1 < ((rd_T34 l3 t385).f4) then ((rd_T34 l3 t385).f4) else x12_1) = ji23 := hji23
              have H' := Aside0.mk H
              clear H
              have p386 : 0 ≤ (t385 : Int) := of_decide_eq_true (by first | (with_reducible assumption) | assumption)
              have q386 : t385 < (l3.length : Int) := of_decide_eq_true (by first | (with_reducible assumption) | assumption)
              obtain ⟨ad386, A386_7, c386_7, A386_8, c386_8, e386, hx386_0, hx386_1, hx386_2, hx386_3, hx386_4, hx386_5, hx386_6, hx386_7, hx386_8, hl386_7, hi386_7, hl386_8, hi386_8⟩ := at_T34 HR3.out t385 p386 q386
              cases e386
              replace hx386_0 := (HB.out.cell (World.block_lt_of_cell? w _ hx386_0)).trans hx386_0
              replace hx386_1 := (HB.out.cell (World.block_lt_of_cell? w _ hx386_1)).trans hx386_1
              replace hx386_2 := (HB.out.cell (World.block_lt_of_cell? w _ hx386_2)).trans hx386_2
              replace hx386_3 := (HB.out.cell (World.block_lt_of_cell? w _ hx386_3)).trans hx386_3
              replace hx386_4 := (HB.out.cell (World.block_lt_of_cell? w _ hx386_4)).trans hx386_4
              replace hx386_5 := (HB.out.cell (World.block_lt_of_cell? w _ hx386_5)).trans hx386_5
              replace hx386_6 := (HB.out.cell (World.block_lt_of_cell? w _ hx386_6)).trans hx386_6
              replace hx386_7 := (HB.out.cell (World.block_lt_of_cell? w _ hx386_7)).trans hx386_7
              replace hx386_8 := (HB.out.cell (World.block_lt_of_cell? w _ hx386_8)).trans hx386_8
              have HR386_7 := Aside0.mk hi386_7
              have HC386_7 := Aside0.mk hl386_7
              clear hi386_7 hl386_7
              have HR386_8 := Aside0.mk hi386_8
              have HC386_8 := Aside0.mk hl386_8
              clear hi386_8 hl386_8
              replace p386 := eq_true p386
              replace q386 := eq_true q386
              have p392 : 0 ≤ (t385 : Int) := of_decide_eq_true (by first | (with_reducible assumption) | assumption)
              have q392 : t385 < (l3.length : Int) := of_decide_eq_true (by first | (with_reducible assumption) | assumption)
              obtain ⟨ad392, A392_7, c392_7, A392_8, c392_8, e392, hx392_0, hx392_1, hx392_2, hx392_3, hx392_4, hx392_5, hx392_6, hx392_7, hx392_8, hl392_7, hi392_7, hl392_8, hi392_8⟩ := at_T34 HR3.out t385 p392 q392
              obtain rfl : ad386 = ad392 := (by injection e392)
              replace hx392_0 := (HB.out.cell (World.block_lt_of_cell? w _ hx392_0)).trans hx392_0
              replace hx392_1 := (HB.out.cell (World.block_lt_of_cell? w _ hx392_1)).trans hx392_1
              replace hx392_2 := (HB.out.cell (World.block_lt_of_cell? w _ hx392_2)).trans hx392_2
              replace hx392_3 := (HB.out.cell (World.block_lt_of_cell? w _ hx392_3)).trans hx392_3
              replace hx392_4 := (HB.out.cell (World.block_lt_of_cell? w _ hx392_4)).trans hx392_4
              replace hx392_5 := (HB.out.cell (World.block_lt_of_cell? w _ hx392_5)).trans hx392_5
              replace hx392_6 := (HB.out.cell (World.block_lt_of_cell? w _ hx392_6)).trans hx392_6
              replace hx392_7 := (HB.out.cell (World.block_lt_of_cell? w _ hx392_7)).trans hx392_7
              replace hx392_8 := (HB.out.cell (World.block_lt_of_cell? w _ hx392_8)).trans hx392_8
              have HR392_7 := Aside0.mk hi392_7
              have HC392_7 := Aside0.mk hl392_7
              clear hi392_7 hl392_7
              have HR392_8 := Aside0.mk hi392_8
              have HC392_8 := Aside0.mk hl392_8
              clear hi392_8 hl392_8
              replace p392 := eq_true p392
              replace q392 := eq_true q392
              have ea_ := Option.some.inj (hx386_7.symm.trans hx392_7)
              injection ea_ with ea_ en_ ec_
              subst ea_
              subst ec_
              clear en_
              have ea_ := Option.some.inj (hx386_8.symm.trans hx392_8)
              injection ea_ with ea_ en_ ec_
              subst ea_
              subst ec_
              clear en_
              go_wp2
              go_roundg kj8
              case measure => have := HK1.out; have := HJ8.out; omega
              case rel => exact ⟨(ji23), (x13_1), (x14_1), (false), (wrap64 (x16_1 + 1)), (by first | rfl | (simp; done) | (simp only [← hji23] <;> (first | rfl | simp)) | (simp [*]; done)), (by first | rfl | (simp; done) | (simp [*]; done)), (by first | rfl | (simp; done) | (simp [*]; done)), (by first | rfl | (simp; done) | (simp [*]; done)), (by first | rfl | (simp; done) | (simp [*]; done)), H', ⟨by have := HK1.out; have := HJ8.out; omega⟩, ⟨by repeat (first | (with_reducible first | exact HB.out | apply below_alloc | apply pw_below_drewN | apply below_drew1) | exact HB.out)⟩⟩
         ·rw [if_neg c14] at H
          exact absurd H (by simp)
        ·rw [if_neg c13] at H
         exact absurd H (by simp)
    ·rw [if_neg c7] at H
     have c7b0 : decide (x16_1 < a0) = false := decide_eq_false c7
     clear c7
     have HC24 := Aside0.mk H
     clear H
     go_upto_region 18 with (fail)
     go_cut [89] (fun v89 wc => ∃ (kq : Nat) (x89_23 : Bool), v89 = .bool x89_23 ∧ Aside0 (corncribref21_Told.j2 kq a0 x12_1 x13_1 x14_1 x89_23 = some (r1, r2, r3)) ∧ Aside0 (kq ≤ k1) ∧ Aside0 (Below w.heap.size w wc))
     case first =>
      have H := HC24.out
      clear HC24
      by_cases c25 : x15_1 = true
      ·subst c25
       have H1 : (corncribref21_Told.j2 k1 a0 x12_1 x13_1 x14_1 true) = some (r1, r2, r3) := by rw [if_pos rfl] at H; exact H
       clear H
       have H := H1
       clear H1
       have H' := Aside0.mk H
       clear H
       go_wp2
       go_meet
       case rel => exact ⟨_, (true), (by first | rfl | (simp; done) | (simp [*]; done)), H', ⟨by have := HK1.out; first | omega | exact Nat.le_refl _⟩, ⟨by repeat (first | (with_reducible first | exact HB.out | apply below_alloc | apply pw_below_drewN | apply below_drew1) | exact HB.out)⟩⟩
      ·replace c25 := Bool.eq_false_iff.mpr c25
       subst c25
       have H1 : (if x12_1 > 0 then (corncribref21_Told.j2 k1 a0 x12_1 x13_1 x14_1 x13_1) else (corncribref21_Told.j2 k1 a0 x12_1 x13_1 x14_1 false)) = some (r1, r2, r3) := by rw [if_neg (show ¬ (false = true) by decide)] at H; exact H
       clear H
       have H := H1
       clear H1
       by_cases c26 : x12_1 > 0
       ·rw [if_pos c26] at H
        have c26b0 : decide (0 < x12_1) = true := decide_eq_true c26
        clear c26
        (first | rw [c26b0] | (simp only [i64_w, i32_w]; rw [c26b0]) | skip)
        have H' := Aside0.mk H
        clear H
        go_wp2
        go_meet
        case rel => exact ⟨_, (x13_1), (by first | rfl | (simp; done) | (simp [*]; done)), H', ⟨by have := HK1.out; first | omega | exact Nat.le_refl _⟩, ⟨by repeat (first | (with_reducible first | exact HB.out | apply below_alloc | apply pw_below_drewN | apply below_drew1) | exact HB.out)⟩⟩
       ·rw [if_neg c26] at H
        have c26b0 : decide (0 < x12_1) = false := decide_eq_false c26
        clear c26
        (first | rw [c26b0] | (simp only [i64_w, i32_w]; rw [c26b0]) | skip)
        have H' := Aside0.mk H
        clear H
        go_wp2
        go_meet
        case rel => exact ⟨_, (false), (by first | rfl | (simp; done) | (simp [*]; done)), H', ⟨by have := HK1.out; first | omega | exact Nat.le_refl _⟩, ⟨by repeat (first | (with_reducible first | exact HB.out | apply below_alloc | apply pw_below_drewN | apply below_drew1) | exact HB.out)⟩⟩
     case rest =>
      clear HC24
      (try clear c1); (try clear c2); (try clear p2); (try clear c3); (try clear p3); (try clear q3); (try clear hx3); (try clear c6); (try clear c6b0); (try clear c6b1); (try clear p6); (try clear c7); (try clear c7b0); (try clear c11); (try clear c11b0); (try clear c11b1); (try clear c12); (try clear c13); (try clear c13b0); (try clear c14); (try clear c14b0); (try clear c15); (try clear c15b0); (try clear c15b1); (try clear c16); (try clear c16b0); (try clear c16b1); (try clear c17); (try clear c19); (try clear c19b0); (try clear c20); (try clear c20b0); (try clear c23); (try clear c24); (try clear c25); (try clear c26); (try clear c26b0); (try clear hx386_0); (try clear hx386_1); (try clear hx386_2); (try clear hx386_3); (try clear hx386_4); (try clear hx386_5); (try clear hx386_6); (try clear hx386_7); (try clear hx386_8); (try clear hx387_0); (try clear hx387_1); (try clear hx387_2); (try clear hx387_3); (try clear hx387_4); (try clear hx387_5); (try clear hx387_6); (try clear hx387_7); (try clear hx387_8); (try clear hx388_0); (try clear hx388_1); (try clear hx388_2); (try clear hx388_3); (try clear hx388_4); (try clear hx388_5); (try clear hx388_6); (try clear hx388_7); (try clear hx388_8); (try clear hx389_0); (try clear hx389_1); (try clear hx389_2); (try clear hx389_3); (try clear hx389_4); (try clear hx389_5); (try clear hx389_6); (try clear hx389_7); (try clear hx389_8); (try clear hx390_0); (try clear hx390_1); (try clear hx390_2); (try clear hx390_3); (try clear hx390_4); (try clear hx390_5); (try clear hx390_6); (try clear hx390_7); (try clear hx390_8); (try clear hx391_0); (try clear hx391_1); (try clear hx391_2); (try clear hx391_3); (try clear hx391_4); (try clear hx391_5); (try clear hx391_6); (try clear hx391_7); (try clear hx391_8); (try clear hx392_0); (try clear hx392_1); (try clear hx392_2); (try clear hx392_3); (try clear hx392_4); (try clear hx392_5); (try clear hx392_6); (try clear hx392_7); (try clear hx392_8); (try clear p2); (try clear p386); (try clear p387); (try clear p388); (try clear p389); (try clear p390); (try clear p391); (try clear p392); (try clear q386); (try clear q387); (try clear q388); (try clear q389); (try clear q390); (try clear q391); (try clear q392)
      obtain ⟨kq, x89_23, rfl, HA, HJ23, HB⟩ := hcut
      cases kq with
      | zero => exact absurd HA.out (by simp [corncribref21_Told.j2])
      | succ kj23 =>
       have H := HA.out
       clear HA
       simp only [corncribref21_Told.j2] at H
       by_cases c27 : x89_23 = true
       ·subst c27
        have H1 : (some (0, 0, 120)) = some (r1, r2, r3) := by rw [if_pos rfl] at H; exact H
        clear H
        have H := H1
        clear H1
        simp only [Option.some.injEq, Prod.mk.injEq] at H
        obtain ⟨rfl, rfl, rfl⟩ := H
        go_wp2
        go_ret3
        exact ⟨by first | rfl | (simp [errW_none, errW_some] <;> rfl) | (simp [*, errW_none, errW_some] <;> rfl), by repeat (first | (with_reducible first | exact HB.out | apply below_alloc | apply pw_below_drewN | apply below_drew1) | exact HB.out)⟩
       ·replace c27 := Bool.eq_false_iff.mpr c27
        subst c27
        have H1 : (if x12_1 > 0 then (some (1, x12_1, 0)) else (if x13_1 = true then (some (2, 0, 0)) else (if x14_1 = (wrap64 (a0 - 1)) then (some (3, 0, 0)) else (some (0, 0, 0))))) = some (r1, r2, r3) := by rw [if_neg (show ¬ (false = true) by decide)] at H; exact H
        clear H
        have H := H1
        clear H1
        by_cases c28 : x12_1 > 0
        ·rw [if_pos c28] at H
         have c28b0 : decide (0 < x12_1) = true := decide_eq_true c28
         clear c28
         simp only [Option.some.injEq, Prod.mk.injEq] at H
         obtain ⟨rfl, rfl, rfl⟩ := H
         go_wp2
         go_ret3
         exact ⟨by first | rfl | (simp [errW_none, errW_some] <;> rfl) | (simp [*, errW_none, errW_some] <;> rfl), by repeat (first | (with_reducible first | exact HB.out | apply below_alloc | apply pw_below_drewN | apply below_drew1) | exact HB.out)⟩
        ·rw [if_neg c28] at H
         have c28b0 : decide (0 < x12_1) = false := decide_eq_false c28
         clear c28
         by_cases c29 : x13_1 = true
         ·subst c29
          have H1 : (some (2, 0, 0)) = some (r1, r2, r3) := by rw [if_pos rfl] at H; exact H
          clear H
          have H := H1
          clear H1
          simp only [Option.some.injEq, Prod.mk.injEq] at H
          obtain ⟨rfl, rfl, rfl⟩ := H
          go_wp2
          go_ret3
          exact ⟨by first | rfl | (simp [errW_none, errW_some] <;> rfl) | (simp [*, errW_none, errW_some] <;> rfl), by repeat (first | (with_reducible first | exact HB.out | apply below_alloc | apply pw_below_drewN | apply below_drew1) | exact HB.out)⟩
         ·replace c29 := Bool.eq_false_iff.mpr c29
          subst c29
          have H1 : (if x14_1 = (wrap64 (a0 - 1)) then (some (3, 0, 0)) else (some (0, 0, 0))) = some (r1, r2, r3) := by rw [if_neg (show ¬ (false = true) by decide)] at H; exact H
          clear H
          have H := H1
          clear H1
          by_cases c30 : x14_1 = (wrap64 (a0 - 1))
          ·rw [if_pos c30] at H
           have c30b0 : (x14_1 == (wrap64 (a0 - 1))) = true := beq_iff_eq.mpr c30
           have c30b1 : (x14_1 != (wrap64 (a0 - 1))) = false := bne_eq_false_iff_eq.mpr c30
           clear c30
           simp only [Option.some.injEq, Prod.mk.injEq] at H
           obtain ⟨rfl, rfl, rfl⟩ := H
           go_wp2
           go_ret3
           exact ⟨by first | rfl | (simp [errW_none, errW_some] <;> rfl) | (simp [*, errW_none, errW_some] <;> rfl), by repeat (first | (with_reducible first | exact HB.out | apply below_alloc | apply pw_below_drewN | apply below_drew1) | exact HB.out)⟩
          ·rw [if_neg c30] at H
           have c30b0 : (x14_1 == (wrap64 (a0 - 1))) = false := beq_eq_false_iff_ne.mpr c30
           have c30b1 : (x14_1 != (wrap64 (a0 - 1))) = true := bne_iff_ne.mpr c30
           simp only [Option.some.injEq, Prod.mk.injEq] at H
           obtain ⟨rfl, rfl, rfl⟩ := H
           go_wp2
           go_ret3
           exact ⟨by first | rfl | (simp [errW_none, errW_some] <;> rfl) | (simp [*, errW_none, errW_some] <;> rfl), by repeat (first | (with_reducible first | exact HB.out | apply below_alloc | apply pw_below_drewN | apply below_drew1) | exact HB.out)⟩
 ·rw [if_neg c6] at H
  have c6b0 : (t384 == 0) = false := beq_eq_false_iff_ne.mpr c6
  have c6b1 : (t384 != 0) = true := bne_iff_ne.mpr c6
  simp only [Option.some.injEq, Prod.mk.injEq] at H
  obtain ⟨rfl, rfl, rfl⟩ := H
  go_enter Try.func19, Try.ntmps19
  go_wp2_with (first | ((with_reducible refine gate_callee (f := 23) rfl ?_); refine goesL_ (some 22) rfl rfl Try.func23 (by kernel_rfl) rfl #[.int .i64 a0, .int .i64 a1, .int .i64 a2, .slice A3 l3.length c3] rfl (by (try simp only [List.map_toArray, List.map_cons, List.map_nil]); first | done | rfl | (simp only [List.length_drop, List.length_take]; rfl)) ?_; (with_reducible refine (corncribref21_may.calls k a0 a1 a2 _ _ l3 t384 _ ?side1 ?side2 A5.out).mono ?_); (case side1 => repeat (first | exact HR3.out | (with_reducible refine Kd.C_alloc ?_ _) | (with_reducible refine Kd.C_drewN ?_ _) | (with_reducible refine Kd.C_drew ?_))); (case side2 => exact HC3.out); rintro e w' ⟨rfl, ⟨nd, rfl⟩⟩; refine ⟨_, rfl, ?_⟩))
  go_ret3
  exact ⟨by first | rfl | (simp [errW_none, errW_some] <;> rfl) | (simp [*, errW_none, errW_some] <;> rfl), by repeat (first | (with_reducible first | exact HB.out | apply below_alloc | apply pw_below_drewN | apply below_drew1) | exact HB.out)⟩

end Go.Proofs.Ytdecpagcaondiaa.Al

/- The check of letters in the reference's words: plain law. -/
namespace Go.Proofs.Ytdecpagcaondiaa.LetSpec
open Go.RowKit Go.Proofs.Ytdecpagcaondiaa.Base Go.Proofs.Ytdecpagcaondiaa.Al Go.Proofs.YtdecpagcaondiaaW.PrintWords
theorem Ev.to {α : Type} {g : Nat → Option α} {r r' : α} (h : Ev g r) (e : r = r') : Ev g r' := e ▸ h
/-- What the reference's switch gives. -/
def refV (code kind : Int) (one bare : Bool) (x6 : ByteArray) (x7 : List ByteArray) (x8 : List S70) : Int :=
 if kind = 1 then (if one = true ∧ x6.toList = [] ∧ code = 0 then 0 else 70)
 else if kind = 2 then (if one = true ∧ x6.size ≤ 2052 ∧ (x6.toList = [] ∨ code = 1) then 0 else 70)
 else if kind = 3 then (if x7.length ≤ 16 ∧ risB x7 = true ∧ wriB x8 = true ∧ x6.toList = [] ∧ code = 0 then 0 else 70)
 else if kind = 4 then (if bare = true ∧ code ≤ 1 then 0 else 70)
 else if kind = 5 ∨ kind = 6 ∨ kind = 7 then (if bare = true ∧ code = 0 then 0 else 70)
 else if kind = 8 then (if bare = true ∧ code ≤ 2 then 0 else 70)
 else 70
def oneB (x7 : List ByteArray) (x8 : List S70) : Bool := decide (x7.length = 1) && (keyB (rdOf ByteArray.empty x7 0) && decide (x8.length = 0))
def bareB (x6 : ByteArray) (x7 : List ByteArray) (x8 : List S70) : Bool := decide (x7.length = 0) && (decide (x8.length = 0) && x6.toList.isEmpty)
section
variable (x0 x1 x2 x3 x4 x5 : Int) (x6 : ByteArray) (x7 : List ByteArray) (x8 : List S70)
/-- The two checks are one. -/
theorem ref_chk : chkL x0 x1 x2 x3 x4 x5 x6 x7 x8 = if addrB x1 = true ∧ addrB x2 = true ∧ 1 ≤ x3 ∧ x3 ≤ 1125899906842623 ∧ 0 ≤ x4 ∧ x4 ≤ 1125899906842624 ∧ 0 ≤ x5 ∧ x5 ≤ 4 then refV x5 x0 (oneB x7 x8) (bareB x6 x7 x8) x6 x7 x8 else 70 := by
 unfold chkL
 by_cases h : addrB x1 = true ∧ addrB x2 = true ∧ 1 ≤ x3 ∧ x3 ≤ 1125899906842623 ∧ 0 ≤ x4 ∧ x4 ≤ 1125899906842624 ∧ 0 ≤ x5
 ·rw [if_pos h]
  obtain ⟨g0, g1, g2, g3, g4, g5, g6⟩ := h
  have e7 : ((x7.length : Int) == 0) = decide (x7.length = 0) := by by_cases h : x7.length = 0 <;> simp [h]
  have e8 : ((x8.length : Int) == 0) = decide (x8.length = 0) := by by_cases h : x8.length = 0 <;> simp [h]
  by_cases h4 : x5 ≤ 4
  ·rw [if_pos ⟨g0, g1, g2, g3, g4, g5, g6, h4⟩]
   unfold sw refV oneB bareB
   rw [e7, e8]
   by_cases n1 : x0 = 1
   ·subst n1
    simp only [if_neg (show ¬ (1 : Int) = 2 by omega), if_true, fin4]
    apply ite_congr _ (fun _ => rfl) (fun _ => rfl)
    simp only [Bool.and_eq_true, decide_eq_true_eq, List.isEmpty_iff, eq_iff_iff]
    constructor
    ·rintro ⟨a, ⟨b, c⟩, d, e⟩; exact ⟨⟨b, c, d⟩, e, by omega⟩
    ·rintro ⟨⟨b, c, d⟩, e, f⟩; exact ⟨by omega, ⟨b, c⟩, d, e⟩
   by_cases n2 : x0 = 2
   ·subst n2
    simp only [if_neg (show ¬ (2 : Int) = 1 by omega), if_true, fin4]
    apply ite_congr _ (fun _ => rfl) (fun _ => rfl)
    simp only [Bool.and_eq_true, Bool.or_eq_true, decide_eq_true_eq, List.isEmpty_iff, eq_iff_iff, beq_iff_eq]
    constructor
    ·rintro ⟨a, ⟨b, c⟩, d, e, f⟩; exact ⟨⟨b, c, d⟩, e, f⟩
    ·rintro ⟨⟨b, c, d⟩, e, f⟩; exact ⟨h4, ⟨b, c⟩, d, e, f⟩
   by_cases n3 : x0 = 3
   ·subst n3
    simp only [if_neg (show ¬ (3 : Int) = 1 by omega), if_neg (show ¬ (3 : Int) = 2 by omega), if_true, fin4]
    apply ite_congr _ (fun _ => rfl) (fun _ => rfl)
    simp only [Bool.and_eq_true, decide_eq_true_eq, List.isEmpty_iff, eq_iff_iff]
    constructor
    ·rintro ⟨a, ⟨b, c⟩, d, e⟩; exact ⟨b, c, d, e, by omega⟩
    ·rintro ⟨b, c, d, e, f⟩; exact ⟨by omega, ⟨b, c⟩, d, e⟩
   by_cases n4 : x0 = 4
   ·subst n4
    simp only [if_neg (show ¬ (4 : Int) = 1 by omega), if_neg (show ¬ (4 : Int) = 2 by omega), if_neg (show ¬ (4 : Int) = 3 by omega), if_neg (show ¬ (4 : Int) = 8 by omega), if_true, fin4]
    apply ite_congr _ (fun _ => rfl) (fun _ => rfl)
    simp only [Bool.and_eq_true, decide_eq_true_eq, List.isEmpty_iff, eq_iff_iff]
    constructor
    ·rintro ⟨a, b, c, d⟩; exact ⟨⟨b, c, d⟩, a⟩
    ·rintro ⟨⟨b, c, d⟩, a⟩; exact ⟨a, b, c, d⟩
   by_cases n8 : x0 = 8
   ·subst n8
    simp only [if_neg (show ¬ (8 : Int) = 1 by omega), if_neg (show ¬ (8 : Int) = 2 by omega), if_neg (show ¬ (8 : Int) = 3 by omega), if_neg (show ¬ (8 : Int) = 4 by omega), if_neg (show ¬ ((8 : Int) = 5 ∨ (8 : Int) = 6 ∨ (8 : Int) = 7) by omega), if_true, fin4]
    apply ite_congr _ (fun _ => rfl) (fun _ => rfl)
    simp only [Bool.and_eq_true, decide_eq_true_eq, List.isEmpty_iff, eq_iff_iff]
    constructor
    ·rintro ⟨a, b, c, d⟩; exact ⟨⟨b, c, d⟩, a⟩
    ·rintro ⟨⟨b, c, d⟩, a⟩; exact ⟨a, b, c, d⟩
   by_cases n5 : x0 = 5 ∨ x0 = 6 ∨ x0 = 7
   ·rw [if_neg n2, if_neg n1, if_neg n3, if_neg n8, if_neg n4, if_pos n5, if_neg n1, if_neg n2, if_neg n3, if_neg n4, if_pos n5]
    simp only [fin4]
    apply ite_congr _ (fun _ => rfl) (fun _ => rfl)
    simp only [Bool.and_eq_true, decide_eq_true_eq, List.isEmpty_iff, eq_iff_iff]
    constructor
    ·rintro ⟨a, b, c, d⟩; exact ⟨⟨b, c, d⟩, by omega⟩
    ·rintro ⟨⟨b, c, d⟩, a⟩; exact ⟨by omega, b, c, d⟩
   ·rw [if_neg n2, if_neg n1, if_neg n3, if_neg n8, if_neg n4, if_neg n5, if_neg n1, if_neg n2, if_neg n3, if_neg n4, if_neg n5, if_neg n8]
    rfl
  ·rw [if_neg (fun hc => h4 hc.2.2.2.2.2.2.2)]
   unfold sw
   split
   ·exact if_neg (fun hc => by omega)
   split
   ·exact if_neg (fun hc => by omega)
   split
   ·exact if_neg (fun hc => by omega)
   split
   ·exact if_neg (fun hc => by omega)
   split
   ·exact if_neg (fun hc => by omega)
   split
   ·exact if_neg (fun hc => by omega)
   ·rfl
 ·rw [if_neg h, if_neg (fun hc => h ⟨hc.1, hc.2.1, hc.2.2.1, hc.2.2.2.1, hc.2.2.2.2.1, hc.2.2.2.2.2.1, hc.2.2.2.2.2.2.1⟩)]
end
end Go.Proofs.Ytdecpagcaondiaa.LetSpec

/- The reference's keys and rising lists. -/
namespace Go.Proofs.Ytdecpagcaondiaa.LetSpec
open Go.RowKit Go.Proofs.Ytdecpagcaondiaa.Base Go.Proofs.Ytdecpagcaondiaa.Al Go.Proofs.YtdecpagcaondiaaW.PrintWords
theorem rkey_eq (s : ByteArray) : corncribref07_Key.f s = some (keyB s) := by
 unfold corncribref07_Key.f keyB
 split
 ·congr 1; apply decide_eq_decide.2; omega
 ·rw [decide_eq_false (by omega)]
theorem rrising_l0 (l : List ByteArray) (hl : l.length ≤ 4611686018427387904) : ∀ (d i : Nat), i + d = l.length → Ev (fun k => corncribref07_Rising.l0 k l i) (risFrom (prevOf l i) (l.drop i))
 | 0, i, h => by
  refine Ev.succ ?_
  simp only [corncribref07_Rising.l0]
  rw [List.drop_of_length_le (by omega)]
  refine Ev.neg (by omega) ?_
  have : risFrom (prevOf l i) [] = true := by cases prevOf l i <;> rfl
  rw [this]
  exact Ev.now _
 | d + 1, i, h => by
  have hi : i < l.length := by omega
  have ih := rrising_l0 l hl d (i + 1) (by omega)
  have e : wrap64 ((i : Int) + 1) = ((i + 1 : Nat) : Int) := by rw [wrap_id (by omega) (by omega)]; omega
  have hp : prevOf l (i + 1) = some l[i] := by simp [prevOf, hi]
  rw [hp] at ih
  refine Ev.succ ?_
  simp only [corncribref07_Rising.l0]
  rw [e, rdOf_get hi, rkey_eq, List.drop_eq_getElem_cons hi]
  refine Ev.pos (by omega) (Ev.pos (by omega) (Ev.some_bind ?_))
  by_cases hk : keyB l[i] = true
  ·refine Ev.pos hk ?_
   by_cases h0 : i = 0
   ·subst h0
    refine Ev.neg (by omega) ?_
    have e2 : risFrom (prevOf l 0) (l[0] :: l.drop (0 + 1)) = risFrom (some l[0]) (l.drop (0 + 1)) := by
     show (keyB l[0] && risFrom (some l[0]) (l.drop 1)) = _
     rw [hk, Bool.true_and]
    rw [e2]
    exact ih
   ·have h1 : i - 1 < l.length := by omega
    have e1 : wrap64 ((i : Int) - 1) = ((i - 1 : Nat) : Int) := by rw [wrap_id (by omega) (by omega)]; omega
    have hpr : prevOf l i = some l[i - 1] := by simp [prevOf, h0, h1]
    rw [e1, hpr, rdOf_get h1]
    have e2 : risFrom (some l[i - 1]) (l[i] :: l.drop (i + 1)) = (Op.bytesLess l[i - 1].toList l[i].toList && risFrom (some l[i]) (l.drop (i + 1))) := by
     show (keyB l[i] && _) = _
     rw [hk, Bool.true_and]
    rw [e2]
    refine Ev.pos (by omega) (Ev.pos (by omega) (Ev.pos (by omega) ?_))
    by_cases hb : Op.bytesLess l[i - 1].toList l[i].toList = true
    ·rw [hb, Bool.true_and]
     exact Ev.pos rfl ih
    ·have hb' : Op.bytesLess l[i - 1].toList l[i].toList = false := by simpa using hb
     rw [hb', Bool.false_and]
     exact Ev.neg (by simp) (Ev.now _)
  ·have hk' : keyB l[i] = false := by simpa using hk
   rw [hk']
   have e2 : risFrom (prevOf l i) (l[i] :: l.drop (i + 1)) = false := by
    cases prevOf l i with
    | none => show (keyB l[i] && _) = _; rw [hk']; rfl
    | some p => show (keyB l[i] && _) = _; rw [hk']; rfl
   rw [e2]
   exact Ev.neg (by simp) (Ev.now _)
theorem rrising_ev (l : List ByteArray) (hl : l.length ≤ 4611686018427387904) : Ev (fun k => corncribref07_Rising.f k l) (risB l) := rrising_l0 l hl l.length 0 (by omega)
end Go.Proofs.Ytdecpagcaondiaa.LetSpec

/- What the reference's small functions of letters come to. -/
namespace Go.Proofs.Ytdecpagcaondiaa.LetSpec
open Go.RowKit Go.Proofs.Ytdecpagcaondiaa.Base Go.Proofs.Ytdecpagcaondiaa.Al Go.Proofs.YtdecpagcaondiaaW.PrintWords
theorem raddr_eq (n : Int) : corncribref07_Address.f n = some (addrB n) := by
 unfold corncribref07_Address.f addrB
 split
 ·split
  ·rw [decide_eq_true (by omega)]
  ·split
   ·congr 1; apply decide_eq_decide.2; omega
   ·rw [decide_eq_false (by omega)]
 ·split
  ·congr 1; apply decide_eq_decide.2; omega
  ·rw [decide_eq_false (by omega)]
theorem rwrites_l0 (l : List S70) (hl : l.length ≤ 8796093022000) : ∀ (d i : Nat), i + d = l.length → (l.take i).all oneW = true → Ev (fun k => corncribref07_Writes.l0 k l ((l.take i).map fun x => x.f0) i) (wriB l)
 | 0, i, h, ha => by
  have hi : l.take i = l := List.take_of_length_le (by omega)
  rw [hi] at ha ⊢
  have hw : wriB l = (decide (l.length ≤ 16) && risB (l.map fun x => x.f0)) := by unfold wriB; rw [ha, Bool.true_and]
  rw [hw]
  refine Ev.succ ?_
  simp only [corncribref07_Writes.l0]
  refine Ev.neg (by omega) ?_
  by_cases h16 : l.length ≤ 16
  ·rw [decide_eq_true h16, Bool.true_and]
   exact Ev.pos (by omega) (Ev.bind (rrising_ev _ (by simp; omega)) (Ev.now _))
  ·rw [decide_eq_false h16, Bool.false_and]
   exact Ev.neg (by omega) (Ev.now _)
 | d + 1, i, h, ha => by
  have hi : i < l.length := by omega
  have e : wrap64 ((i : Int) + 1) = ((i + 1 : Nat) : Int) := by rw [wrap_id (by omega) (by omega)]; omega
  have hlen : ((l.take i).map fun x => x.f0).length = i := by simp; omega
  have htk : l.take (i + 1) = l.take i ++ [l[i]] := by rw [List.take_succ_eq_append_getElem hi]
  have bad : oneW l[i] = false → wriB l = false := fun hf => by
   unfold wriB
   have : l.all oneW = false := List.all_eq_false.2 ⟨l[i], List.getElem_mem hi, by simp [hf]⟩
   rw [this, Bool.false_and]
  refine Ev.succ ?_
  simp only [corncribref07_Writes.l0]
  rw [e, rdT_get hi, hlen]
  refine Ev.pos (by omega) (Ev.pos (by omega) (Ev.pos (by omega) (Ev.some_bind ?_)))
  by_cases hs : l[i].f1.size ≤ 2052
  ·refine Ev.neg (by omega) ?_
   have good : oneW l[i] = true → Ev (fun k => corncribref07_Writes.l0 k l ((l.take i).map (fun x => x.f0) ++ [l[i].f0]) ((i + 1 : Nat) : Int)) (wriB l) := fun ho => by
    have ih := rwrites_l0 l hl d (i + 1) (by omega) (by rw [htk, List.all_append, ha]; simp [ho])
    rw [htk, List.map_append] at ih
    exact ih
   by_cases hd : l[i].f2 = true
   ·refine Ev.pos hd ?_
    by_cases he : l[i].f1.toList = []
    ·exact Ev.pos he (good (by simp [oneW, hs, he]))
    ·rw [bad (by simp [oneW, hd, he])]
     exact Ev.neg he (Ev.now _)
   ·have hd' : l[i].f2 = false := by simpa using hd
    exact Ev.neg hd (good (by simp [oneW, hs, hd']))
  ·rw [bad (by simp [oneW, hs])]
   exact Ev.pos (by omega) (Ev.now _)
theorem rwrites_ev (l : List S70) (hl : l.length ≤ 8796093022000) : Ev (fun k => corncribref07_Writes.f k l) (wriB l) := rwrites_l0 l hl l.length 0 (by omega) rfl
section
variable (x0 x1 x2 x3 x4 x5 : Int) (x6 : ByteArray) (x7 : List ByteArray) (x8 : List S70) (h7 : x7.length ≤ 8796093022000) (h8 : x8.length ≤ 8796093022000)
theorem j3_ev (bare : Bool) (b : Bool) (hb : b = true ↔ (x0 = 5 ∨ x0 = 6 ∨ x0 = 7)) (hn : x0 ≠ 1 ∧ x0 ≠ 2 ∧ x0 ≠ 3 ∧ x0 ≠ 4) (one : Bool) : Ev (fun k => corncribref07_Check.j3 k bare x0 b x0 x1 x2 x3 x4 x5 x6 x7 x8) (refV x5 x0 one bare x6 x7 x8) := by
 obtain ⟨n1, n2, n3, n4⟩ := hn
 refine Ev.succ ?_
 simp only [corncribref07_Check.j3]
 unfold refV
 rw [if_neg n1, if_neg n2, if_neg n3, if_neg n4]
 by_cases h : x0 = 5 ∨ x0 = 6 ∨ x0 = 7
 ·rw [if_pos h]
  refine Ev.pos (hb.2 h) ?_
  by_cases h1 : bare = true
  ·by_cases h2 : x5 = 0
   ·exact Ev.to (Ev.pos h1 (Ev.pos h2 (Ev.now _))) (if_pos ⟨h1, h2⟩).symm
   ·exact Ev.to (Ev.pos h1 (Ev.neg h2 (Ev.now _))) (if_neg (fun hc => h2 hc.2)).symm
  ·exact Ev.to (Ev.neg h1 (Ev.now _)) (if_neg (fun hc => h1 hc.1)).symm
 ·rw [if_neg h]
  refine Ev.neg (fun hc => h (hb.1 hc)) ?_
  by_cases h8 : x0 = 8
  ·rw [if_pos h8, if_pos h8]
   by_cases h1 : bare = true
   ·by_cases h2 : x5 ≤ 2
    ·exact Ev.to (Ev.pos h1 (Ev.pos h2 (Ev.now _))) (if_pos ⟨h1, h2⟩).symm
    ·exact Ev.to (Ev.pos h1 (Ev.neg h2 (Ev.now _))) (if_neg (fun hc => h2 hc.2)).symm
   ·exact Ev.to (Ev.neg h1 (Ev.now _)) (if_neg (fun hc => h1 hc.1)).symm
  ·rw [if_neg h8, if_neg h8]
   exact Ev.now _
include h7 h8 in
theorem j2_ev (one bare : Bool) : Ev (fun k => corncribref07_Check.j2 k one bare x0 x1 x2 x3 x4 x5 x6 x7 x8) (refV x5 x0 one bare x6 x7 x8) := by
 refine Ev.succ ?_
 simp only [corncribref07_Check.j2]
 by_cases n1 : x0 = 1
 ·refine Ev.pos n1 ?_
  unfold refV; rw [if_pos n1]
  by_cases h1 : one = true
  ·by_cases h2 : x6.toList = []
   ·by_cases h3 : x5 = 0
    ·exact Ev.to (Ev.pos h1 (Ev.pos h2 (Ev.pos h3 (Ev.now _)))) (if_pos ⟨h1, h2, h3⟩).symm
    ·exact Ev.to (Ev.pos h1 (Ev.pos h2 (Ev.neg h3 (Ev.now _)))) (if_neg (fun hc => h3 hc.2.2)).symm
   ·exact Ev.to (Ev.pos h1 (Ev.neg h2 (Ev.now _))) (if_neg (fun hc => h2 hc.2.1)).symm
  ·exact Ev.to (Ev.neg h1 (Ev.now _)) (if_neg (fun hc => h1 hc.1)).symm
 refine Ev.neg n1 ?_
 by_cases n2 : x0 = 2
 ·refine Ev.pos n2 ?_
  unfold refV; rw [if_neg n1, if_pos n2]
  by_cases h1 : one = true
  ·by_cases h2 : x6.size ≤ 2052
   ·by_cases h3 : x6.toList = []
    ·exact Ev.to (Ev.pos h1 (Ev.pos (by omega) (Ev.pos h3 (Ev.now _)))) (if_pos ⟨h1, h2, .inl h3⟩).symm
    ·by_cases h4 : x5 = 1
     ·exact Ev.to (Ev.pos h1 (Ev.pos (by omega) (Ev.neg h3 (Ev.pos h4 (Ev.now _))))) (if_pos ⟨h1, h2, .inr h4⟩).symm
     ·exact Ev.to (Ev.pos h1 (Ev.pos (by omega) (Ev.neg h3 (Ev.neg h4 (Ev.now _))))) (if_neg (fun hc => hc.2.2.elim h3 h4)).symm
   ·exact Ev.to (Ev.pos h1 (Ev.neg (by omega) (Ev.now _))) (if_neg (fun hc => h2 hc.2.1)).symm
  ·exact Ev.to (Ev.neg h1 (Ev.now _)) (if_neg (fun hc => h1 hc.1)).symm
 refine Ev.neg n2 ?_
 by_cases n3 : x0 = 3
 ·refine Ev.pos n3 ?_
  unfold refV; rw [if_neg n1, if_neg n2, if_pos n3]
  by_cases h1 : x7.length ≤ 16
  ·refine Ev.pos (by omega) (Ev.bind (rrising_ev x7 (by omega)) ?_)
   by_cases h2 : risB x7 = true
   ·refine Ev.pos h2 (Ev.bind (rwrites_ev x8 h8) ?_)
    by_cases h3 : wriB x8 = true
    ·by_cases h4 : x6.toList = []
     ·by_cases h5 : x5 = 0
      ·exact Ev.to (Ev.pos h3 (Ev.pos h4 (Ev.pos h5 (Ev.now _)))) (if_pos ⟨h1, h2, h3, h4, h5⟩).symm
      ·exact Ev.to (Ev.pos h3 (Ev.pos h4 (Ev.neg h5 (Ev.now _)))) (if_neg (fun hc => h5 hc.2.2.2.2)).symm
     ·exact Ev.to (Ev.pos h3 (Ev.neg h4 (Ev.now _))) (if_neg (fun hc => h4 hc.2.2.2.1)).symm
    ·exact Ev.to (Ev.neg h3 (Ev.now _)) (if_neg (fun hc => h3 hc.2.2.1)).symm
   ·exact Ev.to (Ev.neg h2 (Ev.now _)) (if_neg (fun hc => h2 hc.2.1)).symm
  ·exact Ev.to (Ev.neg (by omega) (Ev.now _)) (if_neg (fun hc => h1 hc.1)).symm
 refine Ev.neg n3 ?_
 by_cases n4 : x0 = 4
 ·refine Ev.pos n4 ?_
  unfold refV; rw [if_neg n1, if_neg n2, if_neg n3, if_pos n4]
  by_cases h1 : bare = true
  ·by_cases h2 : x5 ≤ 1
   ·exact Ev.to (Ev.pos h1 (Ev.pos h2 (Ev.now _))) (if_pos ⟨h1, h2⟩).symm
   ·exact Ev.to (Ev.pos h1 (Ev.neg h2 (Ev.now _))) (if_neg (fun hc => h2 hc.2)).symm
  ·exact Ev.to (Ev.neg h1 (Ev.now _)) (if_neg (fun hc => h1 hc.1)).symm
 refine Ev.neg n4 ?_
 by_cases n5 : x0 = 5
 ·exact Ev.pos n5 (j3_ev _ _ _ _ _ _ _ _ _ bare _ (by simp; omega) ⟨n1, n2, n3, n4⟩ one)
 refine Ev.neg n5 ?_
 by_cases n6 : x0 = 6
 ·exact Ev.pos n6 (j3_ev _ _ _ _ _ _ _ _ _ bare _ (by simp; omega) ⟨n1, n2, n3, n4⟩ one)
 ·exact Ev.neg n6 (j3_ev _ _ _ _ _ _ _ _ _ bare _ (by simp; omega) ⟨n1, n2, n3, n4⟩ one)
include h7 h8 in
theorem j1_ev (one : Bool) : Ev (fun k => corncribref07_Check.j1 k one x0 x1 x2 x3 x4 x5 x6 x7 x8) (refV x5 x0 one (bareB x6 x7 x8) x6 x7 x8) := by
 refine Ev.succ ?_
 simp only [corncribref07_Check.j1]
 by_cases h1 : x7.length = 0
 ·refine Ev.pos (by omega) ?_
  by_cases h2 : x8.length = 0
  ·refine Ev.pos (by omega) ?_
   have e : bareB x6 x7 x8 = (x6.toList == []) := by unfold bareB; rw [decide_eq_true h1, decide_eq_true h2]; simp
   rw [e]
   exact j2_ev _ _ _ _ _ _ _ _ _ h7 h8 _ _
  ·have e : bareB x6 x7 x8 = false := by unfold bareB; rw [decide_eq_false h2]; simp
   rw [e]
   exact Ev.neg (by omega) (j2_ev _ _ _ _ _ _ _ _ _ h7 h8 _ _)
 ·have e : bareB x6 x7 x8 = false := by unfold bareB; rw [decide_eq_false h1]; simp
  rw [e]
  exact Ev.neg (by omega) (j2_ev _ _ _ _ _ _ _ _ _ h7 h8 _ _)
include h7 h8 in
theorem j0_ev (b : Bool) : Ev (fun k => corncribref07_Check.j0 k b x0 x1 x2 x3 x4 x5 x6 x7 x8) (if b = true then 70 else refV x5 x0 (oneB x7 x8) (bareB x6 x7 x8) x6 x7 x8) := by
 refine Ev.succ ?_
 simp only [corncribref07_Check.j0]
 by_cases hb : b = true
 ·rw [if_pos hb]; exact Ev.pos hb (Ev.now _)
 rw [if_neg hb]
 refine Ev.neg hb ?_
 by_cases h1 : x7.length = 1
 ·refine Ev.pos (by omega) (Ev.pos (by omega) ?_)
  rw [rkey_eq]
  refine Ev.some_bind ?_
  by_cases hk : keyB (rdOf ByteArray.empty x7 0) = true
  ·have e : oneB x7 x8 = ((x8.length : Int) == 0) := by unfold oneB; rw [decide_eq_true h1, hk]; by_cases h : x8.length = 0 <;> simp [h]
   rw [e]
   exact Ev.pos hk (j1_ev _ _ _ _ _ _ _ _ _ h7 h8 _)
  ·have hk' : keyB (rdOf ByteArray.empty x7 0) = false := by simpa using hk
   have e : oneB x7 x8 = false := by unfold oneB; rw [hk']; simp
   rw [e]
   exact Ev.neg hk (j1_ev _ _ _ _ _ _ _ _ _ h7 h8 _)
 ·have e : oneB x7 x8 = false := by unfold oneB; rw [decide_eq_false h1]; simp
  rw [e]
  exact Ev.neg (by omega) (j1_ev _ _ _ _ _ _ _ _ _ h7 h8 _)
include h7 h8 in
theorem rcheckL_ev : Ev (fun k => corncribref07_Check.f k x0 x1 x2 x3 x4 x5 x6 x7 x8) (chkL x0 x1 x2 x3 x4 x5 x6 x7 x8) := by
 rw [ref_chk]
 unfold corncribref07_Check.f
 rw [raddr_eq, raddr_eq]
 have bad : Ev (fun k => corncribref07_Check.j0 k true x0 x1 x2 x3 x4 x5 x6 x7 x8) 70 := j0_ev _ _ _ _ _ _ _ _ _ h7 h8 true
 refine Ev.some_bind ?_
 by_cases g0 : addrB x1 = true
 case neg => exact Ev.to (Ev.neg g0 bad) (if_neg (fun hc => g0 hc.1)).symm
 refine Ev.pos g0 (Ev.some_bind ?_)
 by_cases g1 : addrB x2 = true
 case neg => exact Ev.to (Ev.neg g1 bad) (if_neg (fun hc => g1 hc.2.1)).symm
 refine Ev.pos g1 ?_
 have et : corncribref07_Txn.f x3 = some (decide (1 ≤ x3 ∧ x3 ≤ 1125899906842623)) := by
  unfold corncribref07_Txn.f
  split
  ·congr 1; apply decide_eq_decide.2; omega
  ·rw [decide_eq_false (by omega)]
 have es : corncribref07_Stamp.f x4 = some (decide (0 ≤ x4 ∧ x4 ≤ 1125899906842624)) := by
  unfold corncribref07_Stamp.f
  split
  ·congr 1; apply decide_eq_decide.2; omega
  ·rw [decide_eq_false (by omega)]
 rw [et, es]
 refine Ev.some_bind ?_
 by_cases g2 : 1 ≤ x3 ∧ x3 ≤ 1125899906842623
 case neg => exact Ev.to (Ev.neg (by simp only [decide_eq_true_eq]; exact g2) bad) (if_neg (fun hc => g2 ⟨hc.2.2.1, hc.2.2.2.1⟩)).symm
 refine Ev.pos (decide_eq_true g2) (Ev.some_bind ?_)
 by_cases g3 : 0 ≤ x4 ∧ x4 ≤ 1125899906842624
 case neg => exact Ev.to (Ev.neg (by simp only [decide_eq_true_eq]; exact g3) bad) (if_neg (fun hc => g3 ⟨hc.2.2.2.2.1, hc.2.2.2.2.2.1⟩)).symm
 refine Ev.pos (decide_eq_true g3) ?_
 by_cases g4 : 0 ≤ x5
 case neg => exact Ev.to (Ev.pos (by omega) bad) (if_neg (fun hc => g4 hc.2.2.2.2.2.2.1)).symm
 refine Ev.neg (by omega) ?_
 have h := j0_ev x0 x1 x2 x3 x4 x5 x6 x7 x8 h7 h8 (decide (x5 > 4))
 by_cases g5 : x5 ≤ 4
 ·rw [if_neg (by simp; omega)] at h
  rw [if_pos ⟨g0, g1, g2.1, g2.2, g3.1, g3.2, g4, g5⟩]
  exact h
 ·rw [if_pos (by simp; omega)] at h
  rw [if_neg (fun hc => g5 hc.2.2.2.2.2.2.2)]
  exact h
end
end Go.Proofs.Ytdecpagcaondiaa.LetSpec

/- One function of the program comes to what its plain twin says. This text began as the kit's own print (print.py, made by cprint.sh) and was turned by split.py: it is no printed file. -/
namespace Go.Proofs.Ytdecpagcaondiaa.Al
open Go.RowKit Go.Proofs.YtdecpagcaondiaaW.PrintWords Go.Proofs.YtdecpagcaondiaaW.PrintLast Go.Proofs.YtdecpagcaondiaaW.PrintMore
attribute [local go_sem] max2_int min2_int max_two min_two max_three min_three max_four min_four   -- for this text's walks alone
set_option linter.unusedVariables false
set_option linter.unusedSimpArgs false

/-! ### corncribref21_Votes: function 12 -/
mutual
def corncribref21_Votes.l0 : Nat → Int → Int → List (S34) → Int → Int → Option (Int × Int)
 | 0, _, _, _, _, _ => none
 | k + 1, x0, x1, x2, x9, x10 => if x10 < x0 then ((corncribref21_first.f k x10 x1 4 x2).bind fun t265 => (if t265 ≥ 0 then (if 0 ≤ t265 then (if t265 < (x2.length : Int) then (corncribref21_Votes.j1 k x0 x1 x2 x9 x10 t265 (((rd_T34 x2 t265).f5) == 0)) else (none)) else (none)) else (corncribref21_Votes.j1 k x0 x1 x2 x9 x10 t265 false))) else (if x9 = x0 then (some (1, 0)) else (some (0, 0)))
def corncribref21_Votes.j1 : Nat → Int → Int → List (S34) → Int → Int → Int → Bool → Option (Int × Int)
 | 0, _, _, _, _, _, _, _ => none
 | k + 1, x0, x1, x2, x9, x10, x11, x37 => if x37 = true then (some (2, 0)) else (if x11 ≥ 0 then (corncribref21_Votes.l0 k x0 x1 x2 (wrap64 (x9 + 1)) (wrap64 (x10 + 1))) else (corncribref21_Votes.l0 k x0 x1 x2 x9 (wrap64 (x10 + 1))))
end
def corncribref21_Votes.f (k : Nat) (a0 : Int) (a1 : Int) (l2 : List (S34)) : Option (Int × Int) := (corncribref21_may.f k a0 0 a1 l2).bind fun t264 => (if t264 = 0 then (corncribref21_Votes.l0 k a0 a1 l2 0 0) else (some (0, t264)))
theorem corncribref21_Votes.mono_l : ∀ k, (∀ y0 y1 y2 y3 y4, LeO (corncribref21_Votes.l0 k y0 y1 y2 y3 y4) (corncribref21_Votes.l0 (k + 1) y0 y1 y2 y3 y4)) ∧ (∀ y0 y1 y2 y3 y4 y5 y6, LeO (corncribref21_Votes.j1 k y0 y1 y2 y3 y4 y5 y6) (corncribref21_Votes.j1 (k + 1) y0 y1 y2 y3 y4 y5 y6))
 | 0 => ⟨fun _ _ _ _ _ r h => by simp [corncribref21_Votes.l0] at h, fun _ _ _ _ _ _ _ r h => by simp [corncribref21_Votes.j1] at h⟩
 | k + 1 => by
  obtain ⟨ih0, ih1⟩ := corncribref21_Votes.mono_l k
  refine ⟨?_, ?_⟩
  ·intro y0 y1 y2 y3 y4
   unfold corncribref21_Votes.l0
   repeat' first
   | (with_reducible exact ih0 _ _ _ _ _)
   | (with_reducible exact ih1 _ _ _ _ _ _ _)
   | (with_reducible exact corncribref21_first.mono _ _ _ _ _)
   | (with_reducible exact corncribref21_may.mono _ _ _ _ _)
   | (with_reducible exact LeO.refl _)
   | (with_reducible exact LeO.none _)
   | (with_reducible refine LeO.ite ?_ ?_)
   | (with_reducible refine LeO.bind ?_ (fun _ => ?_))
   | exact ih0 _ _ _ _ _
   | exact ih1 _ _ _ _ _ _ _
   | exact corncribref21_first.mono _ _ _ _ _
   | exact corncribref21_may.mono _ _ _ _ _
   | exact LeO.none _
   | refine LeO.ite ?_ ?_
   | refine LeO.bind ?_ (fun _ => ?_)
  ·intro y0 y1 y2 y3 y4 y5 y6
   unfold corncribref21_Votes.j1
   repeat' first
   | (with_reducible exact ih0 _ _ _ _ _)
   | (with_reducible exact ih1 _ _ _ _ _ _ _)
   | (with_reducible exact corncribref21_first.mono _ _ _ _ _)
   | (with_reducible exact corncribref21_may.mono _ _ _ _ _)
   | (with_reducible exact LeO.refl _)
   | (with_reducible exact LeO.none _)
   | (with_reducible refine LeO.ite ?_ ?_)
   | (with_reducible refine LeO.bind ?_ (fun _ => ?_))
   | exact ih0 _ _ _ _ _
   | exact ih1 _ _ _ _ _ _ _
   | exact corncribref21_first.mono _ _ _ _ _
   | exact corncribref21_may.mono _ _ _ _ _
   | exact LeO.none _
   | refine LeO.ite ?_ ?_
   | refine LeO.bind ?_ (fun _ => ?_)
theorem corncribref21_Votes.mono : ∀ a0 a1 a2 k, LeO (corncribref21_Votes.f k a0 a1 a2) (corncribref21_Votes.f (k + 1) a0 a1 a2) := by
 intro a0 a1 a2 k
 obtain ⟨ih0, ih1⟩ := corncribref21_Votes.mono_l k
 unfold corncribref21_Votes.f
 repeat' first
   | (with_reducible exact ih0 _ _ _ _ _)
   | (with_reducible exact ih1 _ _ _ _ _ _ _)
   | (with_reducible exact corncribref21_first.mono _ _ _ _ _)
   | (with_reducible exact corncribref21_may.mono _ _ _ _ _)
   | (with_reducible exact LeO.refl _)
   | (with_reducible exact LeO.none _)
   | (with_reducible refine LeO.ite ?_ ?_)
   | (with_reducible refine LeO.bind ?_ (fun _ => ?_))
   | exact ih0 _ _ _ _ _
   | exact ih1 _ _ _ _ _ _ _
   | exact corncribref21_first.mono _ _ _ _ _
   | exact corncribref21_may.mono _ _ _ _ _
   | exact LeO.none _
   | refine LeO.ite ?_ ?_
   | refine LeO.bind ?_ (fun _ => ?_)
set_option maxHeartbeats 8000000 in
set_option maxRecDepth 100000 in
theorem corncribref21_Votes.calls (k : Nat) (a0 : Int) (a1 : Int) (A2 : Option Addr) (c2 : Nat) (l2 : List (S34)) (r1 : Int) (r2 : Int) (w : World) (hr2 : Kd.C k34 w A2 l2.length l2) (hc2 : l2.length ≤ c2) (h : corncribref21_Votes.f k a0 a1 l2 = some (r1, r2)) :
  Calls Try.prog 12 #[.int .i64 a0, .int .i64 a1, .slice A2 l2.length c2] w fun e w' => e = .returned (.tuple #[.int .i64 r1, .int .i64 r2]) ∧ Below w.heap.size w w' := by
 have HR2 := Aside0.mk hr2
 have HC2 := Aside0.mk hc2
 clear hr2 hc2
 have HB := Aside0.mk (Below.refl w.heap.size w)
 have H : ((corncribref21_may.f k a0 0 a1 l2).bind fun t264 => (if t264 = 0 then (corncribref21_Votes.l0 k a0 a1 l2 0 0) else (some (0, t264)))) = some (r1, r2) := h
 clear h
 replace H := Option.bind_eq_some_iff.mp H
 obtain ⟨t264, A40, H⟩ := H
 replace H : (if t264 = 0 then (corncribref21_Votes.l0 k a0 a1 l2 0 0) else (some (0, t264))) = some (r1, r2) := H
 have A4 := Aside0.mk A40
 clear A40
 by_cases c5 : t264 = 0
 ·rw [if_pos c5] at H
  have c5b0 : (t264 == 0) = true := beq_iff_eq.mpr c5
  have c5b1 : (t264 != 0) = false := bne_eq_false_iff_eq.mpr c5
  clear c5
  have H' := Aside0.mk H
  clear H
  go_enter Try.func12, Try.ntmps12
  go_wp2_with (first | ((with_reducible refine gate_callee (f := 23) rfl ?_); refine goesL_ (some 15) rfl rfl Try.func23 (by kernel_rfl) rfl #[.int .i64 a0, .int .i64 0, .int .i64 a1, .slice A2 l2.length c2] rfl (by (try simp only [List.map_toArray, List.map_cons, List.map_nil]); first | done | rfl | (simp only [List.length_drop, List.length_take]; rfl)) ?_; (with_reducible refine (corncribref21_may.calls k a0 0 a1 _ _ l2 t264 _ ?side1 ?side2 A4.out).mono ?_); (case side1 => repeat (first | exact HR2.out | (with_reducible refine Kd.C_alloc ?_ _) | (with_reducible refine Kd.C_drewN ?_ _) | (with_reducible refine Kd.C_drew ?_))); (case side2 => exact HC2.out); rintro e w' ⟨rfl, ⟨nd, rfl⟩⟩; refine ⟨_, rfl, ?_⟩))
  go_loopg [9, 10] k (fun kq v9 v10 w' => ∃ (x9_1 : Int) (x10_1 : Int), v9 = .int .i64 x9_1 ∧ v10 = .int .i64 x10_1 ∧ Aside0 (corncribref21_Votes.l0 kq a0 a1 l2 x9_1 x10_1 = some (r1, r2)) ∧ Aside0 (kq ≤ k) ∧ Aside0 (Below w.heap.size w w'))
  case atStart => exact ⟨(0), (0), (by first | rfl | (simp; done) | (simp [*]; done)), (by first | rfl | (simp; done) | (simp [*]; done)), H', ⟨Nat.le_refl _⟩, ⟨by repeat (first | (with_reducible first | exact HB.out | apply below_alloc | apply pw_below_drewN | apply below_drew1) | exact HB.out)⟩⟩
  case round =>
   clear H'
   (try clear c1); (try clear c2); (try clear p2); (try clear c5); (try clear c5b0); (try clear c5b1)
   obtain ⟨x9_1, x10_1, rfl, rfl, HA, HK1, HB⟩ := hrel
   cases gk with
   | zero => exact absurd HA.out (by simp [corncribref21_Votes.l0])
   | succ k1 =>
    have H := HA.out
    clear HA
    simp only [corncribref21_Votes.l0] at H
    by_cases c6 : x10_1 < a0
    ·rw [if_pos c6] at H
     have c6b0 : decide (x10_1 < a0) = true := decide_eq_true c6
     clear c6
     replace H := Option.bind_eq_some_iff.mp H
     obtain ⟨t265, A70, H⟩ := H
     replace H : (if t265 ≥ 0 then (if 0 ≤ t265 then (if t265 < (l2.length : Int) then (corncribref21_Votes.j1 k1 a0 a1 l2 x9_1 x10_1 t265 (((rd_T34 l2 t265).f5) == 0)) else (none)) else (none)) else (corncribref21_Votes.j1 k1 a0 a1 l2 x9_1 x10_1 t265 false)) = some (r1, r2) := H
     have A7 := Aside0.mk A70
     clear A70
     have HC8 := Aside0.mk H
     clear H
     go_upto_region 9 with (first | ((with_reducible refine gate_callee (f := 24) rfl ?_); refine goesL_ (some 27) rfl rfl Try.func24 (by kernel_rfl) rfl #[.int .i64 x10_1, .int .i64 a1, .int .i64 4, .slice A2 l2.length c2] rfl (by (try simp only [List.map_toArray, List.map_cons, List.map_nil]); first | done | rfl | (simp only [List.length_drop, List.length_take]; rfl)) ?_; (with_reducible refine (corncribref21_first.calls k1 x10_1 a1 4 _ _ l2 t265 _ ?side1 ?side2 A7.out).mono ?_); (case side1 => repeat (first | exact (Kd.C_below HR2.out HB.out) | (with_reducible refine Kd.C_alloc ?_ _) | (with_reducible refine Kd.C_drewN ?_ _) | (with_reducible refine Kd.C_drew ?_))); (case side2 => exact HC2.out); rintro e w9 ⟨rfl, hb⟩; refine ⟨_, rfl, ?_⟩; have n0_ := Aside0.mk (below_step (by repeat (first | (with_reducible first | exact HB.out | apply below_alloc | apply pw_below_drewN | apply below_drew1) | exact HB.out)) hb); clear HB; have HB := n0_; clear n0_; (try clear hb); (try clear hb2); (try clear hk); (try clear hi)))
     (try simp only [Act.put, List.setIfInBounds_toArray, List.set_cons_zero, List.set_cons_succ])
     go_cut [37] (fun v37 wc => ∃ (kq : Nat) (x37_7 : Bool), v37 = .bool x37_7 ∧ Aside0 (corncribref21_Votes.j1 kq a0 a1 l2 x9_1 x10_1 t265 x37_7 = some (r1, r2)) ∧ Aside0 (kq ≤ k1) ∧ Aside0 (Below w.heap.size w wc))
     case first =>
      have H := HC8.out
      clear HC8
      by_cases c10 : t265 ≥ 0
      ·rw [if_pos c10] at H
       have c10b0 : decide (0 ≤ t265) = true := decide_eq_true c10
       clear c10
       (first | rw [c10b0] | (simp only [i64_w, i32_w]; rw [c10b0]) | skip)
       by_cases c11 : 0 ≤ t265
       ·rw [if_pos c11] at H
        have c11b0 : decide (0 ≤ t265) = true := decide_eq_true c11
        clear c11
        by_cases c12 : t265 < (l2.length : Int)
        ·rw [if_pos c12] at H
         have c12b0 : decide (t265 < (l2.length : Int)) = true := decide_eq_true c12
         clear c12
         have H' := Aside0.mk H
         clear H
         have p266 : 0 ≤ (t265 : Int) := of_decide_eq_true (by first | (with_reducible assumption) | assumption)
         have q266 : t265 < (l2.length : Int) := of_decide_eq_true (by first | (with_reducible assumption) | assumption)
         obtain ⟨ad266, A266_7, c266_7, A266_8, c266_8, e266, hx266_0, hx266_1, hx266_2, hx266_3, hx266_4, hx266_5, hx266_6, hx266_7, hx266_8, hl266_7, hi266_7, hl266_8, hi266_8⟩ := at_T34 HR2.out t265 p266 q266
         cases e266
         replace hx266_0 := (HB.out.cell (World.block_lt_of_cell? w _ hx266_0)).trans hx266_0
         replace hx266_1 := (HB.out.cell (World.block_lt_of_cell? w _ hx266_1)).trans hx266_1
         replace hx266_2 := (HB.out.cell (World.block_lt_of_cell? w _ hx266_2)).trans hx266_2
         replace hx266_3 := (HB.out.cell (World.block_lt_of_cell? w _ hx266_3)).trans hx266_3
         replace hx266_4 := (HB.out.cell (World.block_lt_of_cell? w _ hx266_4)).trans hx266_4
         replace hx266_5 := (HB.out.cell (World.block_lt_of_cell? w _ hx266_5)).trans hx266_5
         replace hx266_6 := (HB.out.cell (World.block_lt_of_cell? w _ hx266_6)).trans hx266_6
         replace hx266_7 := (HB.out.cell (World.block_lt_of_cell? w _ hx266_7)).trans hx266_7
         replace hx266_8 := (HB.out.cell (World.block_lt_of_cell? w _ hx266_8)).trans hx266_8
         have HR266_7 := Aside0.mk hi266_7
         have HC266_7 := Aside0.mk hl266_7
         clear hi266_7 hl266_7
         have HR266_8 := Aside0.mk hi266_8
         have HC266_8 := Aside0.mk hl266_8
         clear hi266_8 hl266_8
         replace p266 := eq_true p266
         replace q266 := eq_true q266
         go_wp2
         go_meet
         case rel => exact ⟨_, ((((rd_T34 l2 t265).f5) == 0)), (by first | rfl | (simp; done) | (simp [*]; done)), H', ⟨by have := HK1.out; first | omega | exact Nat.le_refl _⟩, ⟨by repeat (first | (with_reducible first | exact HB.out | apply below_alloc | apply pw_below_drewN | apply below_drew1) | exact HB.out)⟩⟩
        ·rw [if_neg c12] at H
         exact absurd H (by simp)
       ·rw [if_neg c11] at H
        exact absurd H (by simp)
      ·rw [if_neg c10] at H
       have c10b0 : decide (0 ≤ t265) = false := decide_eq_false c10
       clear c10
       (first | rw [c10b0] | (simp only [i64_w, i32_w]; rw [c10b0]) | skip)
       have H' := Aside0.mk H
       clear H
       go_wp2
       go_meet
       case rel => exact ⟨_, (false), (by first | rfl | (simp; done) | (simp [*]; done)), H', ⟨by have := HK1.out; first | omega | exact Nat.le_refl _⟩, ⟨by repeat (first | (with_reducible first | exact HB.out | apply below_alloc | apply pw_below_drewN | apply below_drew1) | exact HB.out)⟩⟩
     case rest =>
      clear HC8
      (try clear c1); (try clear c2); (try clear p2); (try clear q2); (try clear hx2); (try clear c5); (try clear c5b0); (try clear c5b1); (try clear c6); (try clear c6b0); (try clear c10); (try clear c10b0); (try clear c11); (try clear c11b0); (try clear c12); (try clear c12b0); (try clear hx266_0); (try clear hx266_1); (try clear hx266_2); (try clear hx266_3); (try clear hx266_4); (try clear hx266_5); (try clear hx266_6); (try clear hx266_7); (try clear hx266_8); (try clear p2); (try clear p266); (try clear q266)
      obtain ⟨kq, x37_7, rfl, HA, HJ7, HB⟩ := hcut
      cases kq with
      | zero => exact absurd HA.out (by simp [corncribref21_Votes.j1])
      | succ kj7 =>
       have H := HA.out
       clear HA
       simp only [corncribref21_Votes.j1] at H
       by_cases c13 : x37_7 = true
       ·subst c13
        have H1 : (some (2, 0)) = some (r1, r2) := by rw [if_pos rfl] at H; exact H
        clear H
        have H := H1
        clear H1
        simp only [Option.some.injEq, Prod.mk.injEq] at H
        obtain ⟨rfl, rfl⟩ := H
        go_wp2
        go_ret2
        exact ⟨by first | rfl | (simp [errW_none, errW_some] <;> rfl) | (simp [*, errW_none, errW_some] <;> rfl), by repeat (first | (with_reducible first | exact HB.out | apply below_alloc | apply pw_below_drewN | apply below_drew1) | exact HB.out)⟩
       ·replace c13 := Bool.eq_false_iff.mpr c13
        subst c13
        have H1 : (if t265 ≥ 0 then (corncribref21_Votes.l0 kj7 a0 a1 l2 (wrap64 (x9_1 + 1)) (wrap64 (x10_1 + 1))) else (corncribref21_Votes.l0 kj7 a0 a1 l2 x9_1 (wrap64 (x10_1 + 1)))) = some (r1, r2) := by rw [if_neg (show ¬ (false = true) by decide)] at H; exact H
        clear H
        have H := H1
        clear H1
        by_cases c14 : t265 ≥ 0
        ·rw [if_pos c14] at H
         have c14b0 : decide (0 ≤ t265) = true := decide_eq_true c14
         clear c14
         have H' := Aside0.mk H
         clear H
         go_wp2
         go_roundg kj7
         case measure => have := HK1.out; have := HJ7.out; omega
         case rel => exact ⟨(wrap64 (x9_1 + 1)), (wrap64 (x10_1 + 1)), (by first | rfl | (simp; done) | (simp [*]; done)), (by first | rfl | (simp; done) | (simp [*]; done)), H', ⟨by have := HK1.out; have := HJ7.out; omega⟩, ⟨by repeat (first | (with_reducible first | exact HB.out | apply below_alloc | apply pw_below_drewN | apply below_drew1) | exact HB.out)⟩⟩
        ·rw [if_neg c14] at H
         have c14b0 : decide (0 ≤ t265) = false := decide_eq_false c14
         clear c14
         have H' := Aside0.mk H
         clear H
         go_wp2
         go_roundg kj7
         case measure => have := HK1.out; have := HJ7.out; omega
         case rel => exact ⟨(x9_1), (wrap64 (x10_1 + 1)), (by first | rfl | (simp; done) | (simp [*]; done)), (by first | rfl | (simp; done) | (simp [*]; done)), H', ⟨by have := HK1.out; have := HJ7.out; omega⟩, ⟨by repeat (first | (with_reducible first | exact HB.out | apply below_alloc | apply pw_below_drewN | apply below_drew1) | exact HB.out)⟩⟩
    ·rw [if_neg c6] at H
     have c6b0 : decide (x10_1 < a0) = false := decide_eq_false c6
     clear c6
     by_cases c15 : x9_1 = a0
     ·rw [if_pos c15] at H
      have c15b0 : (x9_1 == a0) = true := beq_iff_eq.mpr c15
      have c15b1 : (x9_1 != a0) = false := bne_eq_false_iff_eq.mpr c15
      clear c15
      simp only [Option.some.injEq, Prod.mk.injEq] at H
      obtain ⟨rfl, rfl⟩ := H
      go_wp2
      go_ret2
      exact ⟨by first | rfl | (simp [errW_none, errW_some] <;> rfl) | (simp [*, errW_none, errW_some] <;> rfl), by repeat (first | (with_reducible first | exact HB.out | apply below_alloc | apply pw_below_drewN | apply below_drew1) | exact HB.out)⟩
     ·rw [if_neg c15] at H
      have c15b0 : (x9_1 == a0) = false := beq_eq_false_iff_ne.mpr c15
      have c15b1 : (x9_1 != a0) = true := bne_iff_ne.mpr c15
      simp only [Option.some.injEq, Prod.mk.injEq] at H
      obtain ⟨rfl, rfl⟩ := H
      go_wp2
      go_ret2
      exact ⟨by first | rfl | (simp [errW_none, errW_some] <;> rfl) | (simp [*, errW_none, errW_some] <;> rfl), by repeat (first | (with_reducible first | exact HB.out | apply below_alloc | apply pw_below_drewN | apply below_drew1) | exact HB.out)⟩
 ·rw [if_neg c5] at H
  have c5b0 : (t264 == 0) = false := beq_eq_false_iff_ne.mpr c5
  have c5b1 : (t264 != 0) = true := bne_iff_ne.mpr c5
  simp only [Option.some.injEq, Prod.mk.injEq] at H
  obtain ⟨rfl, rfl⟩ := H
  go_enter Try.func12, Try.ntmps12
  go_wp2_with (first | ((with_reducible refine gate_callee (f := 23) rfl ?_); refine goesL_ (some 15) rfl rfl Try.func23 (by kernel_rfl) rfl #[.int .i64 a0, .int .i64 0, .int .i64 a1, .slice A2 l2.length c2] rfl (by (try simp only [List.map_toArray, List.map_cons, List.map_nil]); first | done | rfl | (simp only [List.length_drop, List.length_take]; rfl)) ?_; (with_reducible refine (corncribref21_may.calls k a0 0 a1 _ _ l2 t264 _ ?side1 ?side2 A4.out).mono ?_); (case side1 => repeat (first | exact HR2.out | (with_reducible refine Kd.C_alloc ?_ _) | (with_reducible refine Kd.C_drewN ?_ _) | (with_reducible refine Kd.C_drew ?_))); (case side2 => exact HC2.out); rintro e w' ⟨rfl, ⟨nd, rfl⟩⟩; refine ⟨_, rfl, ?_⟩))
  go_ret2
  exact ⟨by first | rfl | (simp [errW_none, errW_some] <;> rfl) | (simp [*, errW_none, errW_some] <;> rfl), by repeat (first | (with_reducible first | exact HB.out | apply below_alloc | apply pw_below_drewN | apply below_drew1) | exact HB.out)⟩

end Go.Proofs.Ytdecpagcaondiaa.Al

/- One function of the program comes to what its plain twin says. This text began as the kit's own print (print.py, made by cprint.sh) and was turned by split.py: it is no printed file. -/
namespace Go.Proofs.Ytdecpagcaondiaa.Al
open Go.RowKit Go.Proofs.YtdecpagcaondiaaW.PrintWords Go.Proofs.YtdecpagcaondiaaW.PrintLast Go.Proofs.YtdecpagcaondiaaW.PrintMore
attribute [local go_sem] max2_int min2_int max_two min_two max_three min_three max_four min_four   -- for this text's walks alone
set_option linter.unusedVariables false
set_option linter.unusedSimpArgs false

attribute [local go_sem high] eqA70
/-! ### corncribref21_Missing: function 14 -/
def corncribref21_Missing.l0 : Nat → Int → Int → Int → List (S34) → List Int → Int → Option (List Int × Int)
 | 0, _, _, _, _, _, _ => none
 | k + 1, x0, x1, x2, x3, x11, x12 => if x12 < x0 then ((corncribref21_first.f k x12 x1 x2 x3).bind fun t268 => (if t268 < 0 then (if x11.length < 17592186044416 then (corncribref21_Missing.l0 k x0 x1 x2 x3 (x11 ++ [x12]) (wrap64 (x12 + 1))) else (none)) else (corncribref21_Missing.l0 k x0 x1 x2 x3 x11 (wrap64 (x12 + 1))))) else (some (x11, 0))
def corncribref21_Missing.f (k : Nat) (a0 : Int) (a1 : Int) (a2 : Int) (l3 : List (S34)) : Option (List Int × Int) := (corncribref21_may.f k a0 0 a1 l3).bind fun t267 => (if t267 = 0 then (corncribref21_Missing.l0 k a0 a1 a2 l3 ([] : List Int) 0) else (some (([] : List Int), t267)))
theorem corncribref21_Missing.mono_l : ∀ k, (∀ y0 y1 y2 y3 y4 y5, LeO (corncribref21_Missing.l0 k y0 y1 y2 y3 y4 y5) (corncribref21_Missing.l0 (k + 1) y0 y1 y2 y3 y4 y5))
 | 0 => fun _ _ _ _ _ _ r h => by simp [corncribref21_Missing.l0] at h
 | k + 1 => by
  have ih0 := corncribref21_Missing.mono_l k
  ·intro y0 y1 y2 y3 y4 y5
   unfold corncribref21_Missing.l0
   repeat' first
   | (with_reducible exact ih0 _ _ _ _ _ _)
   | (with_reducible exact corncribref21_first.mono _ _ _ _ _)
   | (with_reducible exact corncribref21_may.mono _ _ _ _ _)
   | (with_reducible exact LeO.refl _)
   | (with_reducible exact LeO.none _)
   | (with_reducible refine LeO.ite ?_ ?_)
   | (with_reducible refine LeO.bind ?_ (fun _ => ?_))
   | exact ih0 _ _ _ _ _ _
   | exact corncribref21_first.mono _ _ _ _ _
   | exact corncribref21_may.mono _ _ _ _ _
   | exact LeO.none _
   | refine LeO.ite ?_ ?_
   | refine LeO.bind ?_ (fun _ => ?_)
theorem corncribref21_Missing.mono : ∀ a0 a1 a2 a3 k, LeO (corncribref21_Missing.f k a0 a1 a2 a3) (corncribref21_Missing.f (k + 1) a0 a1 a2 a3) := by
 intro a0 a1 a2 a3 k
 have ih0 := corncribref21_Missing.mono_l k
 unfold corncribref21_Missing.f
 repeat' first
   | (with_reducible exact ih0 _ _ _ _ _ _)
   | (with_reducible exact corncribref21_first.mono _ _ _ _ _)
   | (with_reducible exact corncribref21_may.mono _ _ _ _ _)
   | (with_reducible exact LeO.refl _)
   | (with_reducible exact LeO.none _)
   | (with_reducible refine LeO.ite ?_ ?_)
   | (with_reducible refine LeO.bind ?_ (fun _ => ?_))
   | exact ih0 _ _ _ _ _ _
   | exact corncribref21_first.mono _ _ _ _ _
   | exact corncribref21_may.mono _ _ _ _ _
   | exact LeO.none _
   | refine LeO.ite ?_ ?_
   | refine LeO.bind ?_ (fun _ => ?_)
set_option maxHeartbeats 8000000 in
set_option maxRecDepth 100000 in
theorem corncribref21_Missing.calls (k : Nat) (a0 : Int) (a1 : Int) (a2 : Int) (A3 : Option Addr) (c3 : Nat) (l3 : List (S34)) (r1 : List Int) (r2 : Int) (w : World) (hr3 : Kd.C k34 w A3 l3.length l3) (hc3 : l3.length ≤ c3) (h : corncribref21_Missing.f k a0 a1 a2 l3 = some (r1, r2)) :
  Calls Try.prog 14 #[.int .i64 a0, .int .i64 a1, .int .i64 a2, .slice A3 l3.length c3] w fun e w' => ∃ v0_ : Value, e = .returned (.tuple #[v0_, .int .i64 r2]) ∧ Kd.R (Kd.int .i64) 3 w' w.heap.size (fun _ => True) v0_ r1 ∧ Below w.heap.size w w' := by
 have HR3 := Aside0.mk hr3
 have HC3 := Aside0.mk hc3
 clear hr3 hc3
 have HB := Aside0.mk (Below.refl w.heap.size w)
 have H : ((corncribref21_may.f k a0 0 a1 l3).bind fun t267 => (if t267 = 0 then (corncribref21_Missing.l0 k a0 a1 a2 l3 ([] : List Int) 0) else (some (([] : List Int), t267)))) = some (r1, r2) := h
 clear h
 replace H := Option.bind_eq_some_iff.mp H
 obtain ⟨t267, A50, H⟩ := H
 replace H : (if t267 = 0 then (corncribref21_Missing.l0 k a0 a1 a2 l3 ([] : List Int) 0) else (some (([] : List Int), t267))) = some (r1, r2) := H
 have A5 := Aside0.mk A50
 clear A50
 by_cases c6 : t267 = 0
 ·rw [if_pos c6] at H
  have c6b0 : (t267 == 0) = true := beq_iff_eq.mpr c6
  have c6b1 : (t267 != 0) = false := bne_eq_false_iff_eq.mpr c6
  clear c6
  have H' := Aside0.mk H
  clear H
  go_enter Try.func14, Try.ntmps14
  go_wp2_with (first | ((with_reducible refine gate_callee (f := 23) rfl ?_); refine goesL_ (some 16) rfl rfl Try.func23 (by kernel_rfl) rfl #[.int .i64 a0, .int .i64 0, .int .i64 a1, .slice A3 l3.length c3] rfl (by (try simp only [List.map_toArray, List.map_cons, List.map_nil]); first | done | rfl | (simp only [List.length_drop, List.length_take]; rfl)) ?_; (with_reducible refine (corncribref21_may.calls k a0 0 a1 _ _ l3 t267 _ ?side1 ?side2 A5.out).mono ?_); (case side1 => repeat (first | exact HR3.out | (with_reducible refine Kd.C_alloc ?_ _) | (with_reducible refine Kd.C_drewN ?_ _) | (with_reducible refine Kd.C_drew ?_))); (case side2 => exact HC3.out); rintro e w' ⟨rfl, ⟨nd, rfl⟩⟩; refine ⟨_, rfl, ?_⟩))
  go_loopg [11, 12] k (fun kq v11 v12 w' => ∃ (x11_1 : List Int) (x12_1 : Int), v12 = .int .i64 x12_1 ∧ Aside0 (corncribref21_Missing.l0 kq a0 a1 a2 l3 x11_1 x12_1 = some (r1, r2)) ∧ Aside0 (kq ≤ k) ∧ Aside0 (Kd.R (Kd.int .i64) 3 w' w.heap.size (fun _ => True) v11 x11_1) ∧ Aside0 (Below w.heap.size w w'))
  case atStart => exact ⟨(([] : List Int)), (0), (by first | rfl | (simp; done) | (simp [*]; done)), H', ⟨Nat.le_refl _⟩, ⟨by first | exact Kd.R_nil _ _ _ _ _ | exact Kd.N_nil _ _ _ _ _ | exact Kd.V_nil _ _ _ _ _ | exact Kd.Q_nil _ _ _ _ _ | exact Kd.S_nil _ _ _ _ _⟩, ⟨by repeat (first | (with_reducible first | exact HB.out | apply below_alloc | apply pw_below_drewN | apply below_drew1) | exact HB.out)⟩⟩
  case round =>
   clear H'
   (try clear c1); (try clear c2); (try clear p2); (try clear c3); (try clear c6); (try clear c6b0); (try clear c6b1)
   obtain ⟨x11_1, x12_1, rfl, HA, HK1, HO_11, HB⟩ := hrel
   cases gk with
   | zero => exact absurd HA.out (by simp [corncribref21_Missing.l0])
   | succ k1 =>
    have H := HA.out
    clear HA
    simp only [corncribref21_Missing.l0] at H
    by_cases c7 : x12_1 < a0
    ·rw [if_pos c7] at H
     have c7b0 : decide (x12_1 < a0) = true := decide_eq_true c7
     clear c7
     replace H := Option.bind_eq_some_iff.mp H
     obtain ⟨t268, A80, H⟩ := H
     replace H : (if t268 < 0 then (if x11_1.length < 17592186044416 then (corncribref21_Missing.l0 k1 a0 a1 a2 l3 (x11_1 ++ [x12_1]) (wrap64 (x12_1 + 1))) else (none)) else (corncribref21_Missing.l0 k1 a0 a1 a2 l3 x11_1 (wrap64 (x12_1 + 1)))) = some (r1, r2) := H
     have A8 := Aside0.mk A80
     clear A80
     by_cases c9 : t268 < 0
     ·rw [if_pos c9] at H
      have c9b0 : decide (t268 < 0) = true := decide_eq_true c9
      clear c9
      by_cases c10 : x11_1.length < 17592186044416
      ·rw [if_pos c10] at H
       have LMc10 := Aside0.mk c10
       clear c10
       obtain ⟨y269, hy269⟩ : ∃ y_ : List Int, y_ = (x11_1 ++ [x12_1]) := ⟨_, rfl⟩
       replace H : (corncribref21_Missing.l0 k1 a0 a1 a2 l3 y269 (wrap64 (x12_1 + 1))) = some (r1, r2) := by first | (rw [hy269]; with_reducible exact H) | (have H2_ := (Option.bind_some _ _).symm.trans H; rw [hy269]; with_reducible exact H2_) | (have H2_ := (Option.bind_some _ _).symm.trans H; with_reducible exact H2_) | with_reducible exact H | (rw [hy269]; exact H) | exact H
       have Ny269 := Aside0.mk hy269
       clear hy269
       have H' := Aside0.mk H
       clear H
       go_wp2_with (first | ((with_reducible refine gate_callee (f := 24) rfl ?_); refine goesL_ (some 29) rfl rfl Try.func24 (by kernel_rfl) rfl #[.int .i64 x12_1, .int .i64 a1, .int .i64 a2, .slice A3 l3.length c3] rfl (by (try simp only [List.map_toArray, List.map_cons, List.map_nil]); first | done | rfl | (simp only [List.length_drop, List.length_take]; rfl)) ?_; (with_reducible refine (corncribref21_first.calls k1 x12_1 a1 a2 _ _ l3 t268 _ ?side1 ?side2 A8.out).mono ?_); (case side1 => repeat (first | exact (Kd.C_below HR3.out HB.out) | (with_reducible refine Kd.C_alloc ?_ _) | (with_reducible refine Kd.C_drewN ?_ _) | (with_reducible refine Kd.C_drew ?_))); (case side2 => exact HC3.out); rintro e w11 ⟨rfl, hb⟩; refine ⟨_, rfl, ?_⟩; have n0_ := Aside0.mk (Kd.R_below (by (with_reducible repeat (first | apply Kd.R_alloc | apply Kd.R_drewN | apply Kd.R_drew)); exact HO_11.out) hb); have n1_ := Aside0.mk (below_step (by repeat (first | (with_reducible first | exact HB.out | apply below_alloc | apply pw_below_drewN | apply below_drew1) | exact HB.out)) hb); clear HO_11; clear HB; have HO_11 := n0_; have HB := n1_; clear n0_ n1_; (try clear hb); (try clear hb2); (try clear hk); (try clear hi)) | ((with_reducible refine gate_builtin (b := .append) (xs := #[.tmp 31, .tmp 33]) rfl ?_); at_builtin; refine Kd.R_append (Kd.int .i64) (w0 := w) w.heap.size rfl (.tmp 31) (.tmp 33) 39 3 (.int .i64 0) 8 rfl Try.underlying39 info3 rfl (by decide) (by omega) u11 x11_1 x12_1 [.int .i64 x12_1] (fun _ => True) (fun _ => False) rfl rfl ?aP (fun _ hk => hk.elim) ?aF ?aO ?aB ?aS ?aL ?_; (case aP => exact rfl); (case aB => exact (by repeat (first | (with_reducible first | exact HB.out | apply below_alloc | apply pw_below_drewN | apply below_drew1) | exact HB.out))); (case aF => exact (fun _ _ => trivial)); (case aO => exact (by (with_reducible repeat (first | apply Kd.R_alloc | apply Kd.R_drewN | apply Kd.R_drew)); exact HO_11.out)); (case aS => exact (below_size (by repeat (first | (with_reducible first | exact HB.out | apply below_alloc | apply pw_below_drewN | apply below_drew1) | exact HB.out)))); (case aL => have := LMc10.out; omega); intro v270 w12 ho hb hg hat; rw [← Ny269.out] at ho; have n0_ := Aside0.mk (hb); have n1_ := Aside0.mk (ho); clear HB; clear HO_11; have HB := n0_; have HO271 := n1_; clear n0_ n1_; clear ho hb hg hat))
       go_roundg k1
       case measure => have := HK1.out; omega
       case rel => exact ⟨(y269), (wrap64 (x12_1 + 1)), (by first | rfl | (simp; done) | (simp [*]; done)), H', ⟨by have := HK1.out; omega⟩, ⟨by (with_reducible repeat (first | apply Kd.R_alloc | apply Kd.R_drewN | apply Kd.R_drew)); exact HO271.out⟩, ⟨by repeat (first | (with_reducible first | exact HB.out | apply below_alloc | apply pw_below_drewN | apply below_drew1) | exact HB.out)⟩⟩
      ·rw [if_neg c10] at H
       exact absurd H (by simp)
     ·rw [if_neg c9] at H
      have c9b0 : decide (t268 < 0) = false := decide_eq_false c9
      clear c9
      have H' := Aside0.mk H
      clear H
      go_wp2_with (first | ((with_reducible refine gate_callee (f := 24) rfl ?_); refine goesL_ (some 29) rfl rfl Try.func24 (by kernel_rfl) rfl #[.int .i64 x12_1, .int .i64 a1, .int .i64 a2, .slice A3 l3.length c3] rfl (by (try simp only [List.map_toArray, List.map_cons, List.map_nil]); first | done | rfl | (simp only [List.length_drop, List.length_take]; rfl)) ?_; (with_reducible refine (corncribref21_first.calls k1 x12_1 a1 a2 _ _ l3 t268 _ ?side1 ?side2 A8.out).mono ?_); (case side1 => repeat (first | exact (Kd.C_below HR3.out HB.out) | (with_reducible refine Kd.C_alloc ?_ _) | (with_reducible refine Kd.C_drewN ?_ _) | (with_reducible refine Kd.C_drew ?_))); (case side2 => exact HC3.out); rintro e w13 ⟨rfl, hb⟩; refine ⟨_, rfl, ?_⟩; have n0_ := Aside0.mk (Kd.R_below (by (with_reducible repeat (first | apply Kd.R_alloc | apply Kd.R_drewN | apply Kd.R_drew)); exact HO_11.out) hb); have n1_ := Aside0.mk (below_step (by repeat (first | (with_reducible first | exact HB.out | apply below_alloc | apply pw_below_drewN | apply below_drew1) | exact HB.out)) hb); clear HO_11; clear HB; have HO_11 := n0_; have HB := n1_; clear n0_ n1_; (try clear hb); (try clear hb2); (try clear hk); (try clear hi)))
      go_roundg k1
      case measure => have := HK1.out; omega
      case rel => exact ⟨(x11_1), (wrap64 (x12_1 + 1)), (by first | rfl | (simp; done) | (simp [*]; done)), H', ⟨by have := HK1.out; omega⟩, ⟨by (with_reducible repeat (first | apply Kd.R_alloc | apply Kd.R_drewN | apply Kd.R_drew)); exact HO_11.out⟩, ⟨by repeat (first | (with_reducible first | exact HB.out | apply below_alloc | apply pw_below_drewN | apply below_drew1) | exact HB.out)⟩⟩
    ·rw [if_neg c7] at H
     have c7b0 : decide (x12_1 < a0) = false := decide_eq_false c7
     clear c7
     simp only [Option.some.injEq, Prod.mk.injEq] at H
     obtain ⟨rfl, rfl⟩ := H
     go_wp2
     go_ret2
     exact ⟨_, by first | rfl | (simp [errW_none, errW_some] <;> rfl) | (simp [*, errW_none, errW_some] <;> rfl), by (with_reducible repeat (first | apply Kd.R_alloc | apply Kd.R_drewN | apply Kd.R_drew)); exact HO_11.out, by repeat (first | (with_reducible first | exact HB.out | apply below_alloc | apply pw_below_drewN | apply below_drew1) | exact HB.out)⟩
 ·rw [if_neg c6] at H
  have c6b0 : (t267 == 0) = false := beq_eq_false_iff_ne.mpr c6
  have c6b1 : (t267 != 0) = true := bne_iff_ne.mpr c6
  simp only [Option.some.injEq, Prod.mk.injEq] at H
  obtain ⟨rfl, rfl⟩ := H
  go_enter Try.func14, Try.ntmps14
  go_wp2_with (first | ((with_reducible refine gate_callee (f := 23) rfl ?_); refine goesL_ (some 16) rfl rfl Try.func23 (by kernel_rfl) rfl #[.int .i64 a0, .int .i64 0, .int .i64 a1, .slice A3 l3.length c3] rfl (by (try simp only [List.map_toArray, List.map_cons, List.map_nil]); first | done | rfl | (simp only [List.length_drop, List.length_take]; rfl)) ?_; (with_reducible refine (corncribref21_may.calls k a0 0 a1 _ _ l3 t267 _ ?side1 ?side2 A5.out).mono ?_); (case side1 => repeat (first | exact HR3.out | (with_reducible refine Kd.C_alloc ?_ _) | (with_reducible refine Kd.C_drewN ?_ _) | (with_reducible refine Kd.C_drew ?_))); (case side2 => exact HC3.out); rintro e w' ⟨rfl, ⟨nd, rfl⟩⟩; refine ⟨_, rfl, ?_⟩))
  go_ret2
  exact ⟨_, by first | rfl | (simp [errW_none, errW_some] <;> rfl) | (simp [*, errW_none, errW_some] <;> rfl), by first | exact Kd.R_nil _ _ _ _ _ | exact Kd.N_nil _ _ _ _ _ | exact Kd.V_nil _ _ _ _ _ | exact Kd.Q_nil _ _ _ _ _ | exact Kd.S_nil _ _ _ _ _, by repeat (first | (with_reducible first | exact HB.out | apply below_alloc | apply pw_below_drewN | apply below_drew1) | exact HB.out)⟩

end Go.Proofs.Ytdecpagcaondiaa.Al

/- The reference's votes and tellings come to what the program's do: plain lists. -/
namespace Go.Proofs.Ytdecpagcaondiaa.TermRef
open Go.RowKit Go.Proofs.Ytdecpagcaondiaa.Base Go.Proofs.Ytdecpagcaondiaa.Al Go.Proofs.Ytdecpagcaondiaa.LetSpec Go.Proofs.Ytdecpagcaondiaa.TermSpec Go.Proofs.YtdecpagcaondiaaW.PrintWords
set_option linter.unusedVariables false
set_option linter.unusedSimpArgs false
/-- The place of the first letter that counts from a node, of the first i letters. -/
def plc (nodes txn kind : Int) (l : List S34) (j : Int) : Nat → Option Nat
 | 0 => none
 | i + 1 => if plc nodes txn kind l j i = none ∧ okB nodes txn kind (rd_T34 l i) = true ∧ (rd_T34 l i).f1 = j then some i else plc nodes txn kind l j i
theorem rdOf_set {os : List (Option Nat)} {a j : Nat} {v : Option Nat} (h : a < os.length) : rdOf none (os.set a v) (j : Int) = if a = j then v else rdOf none os (j : Int) := by
 simp only [rdOf, Int.toNat_natCast, List.getD_eq_getElem?_getD, List.getElem?_set]
 split
 ·subst_vars
  simp [h]
 ·rfl
theorem tab_plc (nodes txn kind : Int) (l : List S34) : ∀ (i : Nat) (j : Nat), j < nodes.toNat → rdOf none (tab nodes txn kind l i) (j : Int) = plc nodes txn kind l j i
 | 0, j, h => by simp [tab, plc, rdOf, List.getD_eq_getElem?_getD, List.getElem?_replicate, h]
 | i + 1, j, h => by
  have ih := tab_plc nodes txn kind l i
  unfold tab plc
  generalize rd_T34 l i = y
  by_cases hok : okB nodes txn kind y = true
  ·obtain ⟨_, _, h1, h2, _⟩ := of_decide_eq_true hok
   obtain ⟨m, hm⟩ : ∃ m : Nat, y.f1 = m := ⟨y.f1.toNat, by omega⟩
   have hml : m < nodes.toNat := by omega
   rw [hm, ih m hml]
   by_cases hp : plc nodes txn kind l m i = none
   ·rw [if_pos ⟨hok, hp⟩, Int.toNat_natCast, rdOf_set (by rw [tab_len]; exact hml)]
    by_cases hj : m = j
    ·subst hj
     rw [if_pos rfl, if_pos ⟨hp, hok, rfl⟩]
    ·rw [if_neg hj, if_neg (fun hc => hj (by have := hc.2.2; omega)), ih j h]
   ·rw [if_neg (fun hc => hp hc.2)]
    by_cases hj : m = j
    ·subst hj
     rw [if_neg (fun hc => hp hc.1), ih m hml]
    ·rw [if_neg (fun hc => hj (by have := hc.2.2; omega)), ih j h]
  ·rw [if_neg (fun hc => hok hc.1), if_neg (fun hc => hok hc.2.1), ih j h]
theorem plc_stay {nodes txn kind : Int} {l : List S34} {j : Int} {p : Nat} : ∀ (d i : Nat), plc nodes txn kind l j i = some p → plc nodes txn kind l j (i + d) = some p
 | 0, i, h => h
 | d + 1, i, h => by
  have h1 : plc nodes txn kind l j (i + 1) = some p := by
   rw [plc, if_neg (fun hc => by rw [h] at hc; cases hc.1)]; exact h
  have := plc_stay d (i + 1) h1
  rwa [Nat.add_right_comm] at this
def pl (o : Option Nat) : Int := match o with | none => -1 | some p => (p : Int)
theorem rfirst_l0 (nodes txn kind : Int) (l : List S34) (j : Int) (hj0 : 0 ≤ j) (hj1 : j < nodes) (hl : l.length ≤ 1024) (hs : lenOk l = true) : ∀ (d i : Nat), i + d = l.length → plc nodes txn kind l j i = none → Ev (fun k => corncribref21_first.l0 k j txn kind l i) (pl (plc nodes txn kind l j l.length))
 | 0, i, h, hp => by
  obtain rfl : i = l.length := by omega
  refine Ev.succ ?_
  simp only [corncribref21_first.l0]
  refine Ev.neg (by omega) ?_
  rw [hp]
  exact Ev.now _
 | d + 1, i, h, hp => by
  have hi : i < l.length := by omega
  have e : wrap64 ((i : Int) + 1) = ((i + 1 : Nat) : Int) := by rw [wrap_id (by omega) (by omega)]; omega
  have ih := rfirst_l0 nodes txn kind l j hj0 hj1 hl hs d (i + 1) (by omega)
  have hno : ¬ (okB nodes txn kind (rd_T34 l i) = true ∧ (rd_T34 l i).f1 = j) → Ev (fun k => corncribref21_first.l0 k j txn kind l ((i + 1 : Nat) : Int)) (pl (plc nodes txn kind l j l.length)) := fun hc => ih (by rw [plc, if_neg (fun h' => hc h'.2)]; exact hp)
  have hyes : okB nodes txn kind (rd_T34 l i) = true → (rd_T34 l i).f1 = j → plc nodes txn kind l j l.length = some i := fun h1 h2 => by
   have := plc_stay (nodes := nodes) (txn := txn) (kind := kind) (l := l) (j := j) (p := i) d (i + 1) (by rw [plc, if_pos ⟨hp, h1, h2⟩])
   rwa [show i + 1 + d = l.length by omega] at this
  obtain ⟨z7, z8⟩ := lenOk_at hs (i : Int)
  refine Ev.succ ?_
  simp only [corncribref21_first.l0, e]
  refine Ev.pos (by omega) (Ev.pos (by omega) ?_)
  generalize rd_T34 l (i : Int) = y at *
  by_cases k1 : y.f1 = j
  ·refine Ev.pos k1 ?_
   by_cases k2 : y.f3 = txn
   ·refine Ev.pos k2 ?_
    by_cases k3 : y.f0 = kind
    ·refine Ev.pos k3 (Ev.bind (rcheckL_ev y.f0 y.f1 y.f2 y.f3 y.f4 y.f5 y.f6 y.f7 y.f8 z7 z8) ?_)
     by_cases k4 : chkS y = 0
     ·refine Ev.pos k4 ?_
      rw [hyes (decide_eq_true ⟨k3, k2, by omega, by omega, k4⟩) k1]
      exact Ev.now _
     ·exact Ev.neg k4 (hno (fun hc => k4 (of_decide_eq_true hc.1).2.2.2.2))
    ·exact Ev.neg k3 (hno (fun hc => k3 (of_decide_eq_true hc.1).1))
   ·exact Ev.neg k2 (hno (fun hc => k2 (of_decide_eq_true hc.1).2.1))
  ·exact Ev.neg k1 (hno (fun hc => k1 hc.2))
theorem rfirst_ev (nodes txn kind : Int) (l : List S34) (j : Nat) (hj : j < nodes.toNat) (hl : l.length ≤ 1024) (hs : lenOk l = true) : Ev (fun k => corncribref21_first.f k j txn kind l) (pl (rdOf none (full nodes txn kind l) (j : Int))) := by
 rw [full, tab_plc _ _ _ _ _ _ hj]
 exact rfirst_l0 nodes txn kind l j (by omega) (by omega) hl hs l.length 0 (by omega) rfl
theorem may_ev (nodes me txn : Int) (l : List S34) : Ev (fun k => corncribref21_may.f k nodes me txn l) (wrongL nodes me txn l.length) := by
 have hj : ∀ b : Bool, Ev (fun k => corncribref21_may.j0 k l b) (if b = true then 1 else if (l.length : Int) > 1024 then 2 else 0) := fun b => by
  refine Ev.succ ?_
  by_cases hb : b = true
  ·simp only [corncribref21_may.j0, if_pos hb]; exact Ev.now _
  ·by_cases hl : (l.length : Int) > 1024
   ·simp only [corncribref21_may.j0, if_neg hb, if_pos hl]; exact Ev.now _
   ·simp only [corncribref21_may.j0, if_neg hb, if_neg hl]; exact Ev.now _
 have ht := hj true
 unfold corncribref21_may.f wrongL
 by_cases c1 : nodes < 1
 ·refine Ev.pos c1 ?_
  rw [if_pos (by omega)]; exact ht
 refine Ev.neg c1 ?_
 by_cases c2 : nodes > 12
 ·refine Ev.pos c2 ?_
  rw [if_pos (by omega)]; exact ht
 refine Ev.neg c2 ?_
 by_cases c3 : me < 0
 ·refine Ev.pos c3 ?_
  rw [if_pos (by omega)]; exact ht
 refine Ev.neg c3 ?_
 by_cases c4 : me ≥ nodes
 ·refine Ev.pos c4 ?_
  rw [if_pos (by omega)]; exact ht
 refine Ev.neg c4 ?_
 have htx : corncribref07_Txn.f txn = some (decide (1 ≤ txn ∧ txn ≤ 1125899906842623)) := by
  unfold corncribref07_Txn.f
  split
  ·congr 1; apply decide_eq_decide.2; omega
  ·rw [decide_eq_false (by omega)]
 rw [htx]
 refine Ev.some_bind ?_
 have h := hj (!decide (1 ≤ txn ∧ txn ≤ 1125899906842623))
 by_cases c6 : 1 ≤ txn ∧ txn ≤ 1125899906842623
 ·rw [if_neg (by simp [c6])] at h
  rw [if_neg (by omega)]
  by_cases hl : 1024 < l.length
  ·rw [if_pos (by omega)] at h
   rw [if_pos hl]; exact h
  ·rw [if_neg (by omega)] at h
   rw [if_neg hl]; exact h
 ·rw [if_pos (by simp only [decide_eq_false c6]; rfl)] at h
  rw [if_pos (by omega)]; exact h
theorem full_len (nodes txn kind : Int) (l : List S34) : (full nodes txn kind l).length = nodes.toNat := tab_len _ _ _ _ _
theorem full_lt {nodes txn kind : Int} {l : List S34} {j p : Nat} (h : rdOf none (full nodes txn kind l) (j : Int) = some p) : p < l.length := by
 have hg : (full nodes txn kind l)[j]? = some (some p) := by
  simp only [rdOf, List.getD_eq_getElem?_getD, Int.toNat_natCast] at h
  cases hc : (full nodes txn kind l)[j]? with
  | none => rw [hc] at h; cases h
  | some o => rw [hc] at h; simp at h; rw [h]
 exact tab_lt nodes txn kind l _ _ _ hg
theorem rvotes_l0 (nodes txn : Int) (l : List S34) (hn : nodes ≤ 12) (hl : l.length ≤ 1024) (hs : lenOk l = true) : ∀ (d j yes : Nat), j + d = nodes.toNat → yes ≤ j → 0 ≤ nodes → Ev (fun k => corncribref21_Votes.l0 k nodes txn l yes j) (vgo l ((full nodes txn 4 l).drop j) (if yes = j then 1 else 0), 0)
 | 0, j, yes, h, hy, h0 => by
  refine Ev.succ ?_
  simp only [corncribref21_Votes.l0]
  refine Ev.neg (by omega) ?_
  rw [List.drop_of_length_le (by rw [full_len]; omega), vgo]
  by_cases hc : yes = j
  ·rw [if_pos hc]; exact Ev.pos (by omega) (Ev.now _)
  ·rw [if_neg hc]; exact Ev.neg (by omega) (Ev.now _)
 | d + 1, j, yes, h, hy, h0 => by
  have hj : j < nodes.toNat := by omega
  have e1 : wrap64 ((j : Int) + 1) = ((j + 1 : Nat) : Int) := by rw [wrap_id (by omega) (by omega)]; omega
  have e2 : wrap64 ((yes : Int) + 1) = ((yes + 1 : Nat) : Int) := by rw [wrap_id (by omega) (by omega)]; omega
  refine Ev.succ ?_
  simp only [corncribref21_Votes.l0]
  refine Ev.pos (by omega) (Ev.bind (rfirst_ev nodes txn 4 l j hj hl hs) ?_)
  rw [drop_at (d := none) (by rw [full_len]; exact hj)]
  rcases hp : rdOf none (full nodes txn 4 l) (j : Int) with _ | p
  ·have ih := rvotes_l0 nodes txn l hn hl hs d (j + 1) yes (by omega) (by omega) h0
   rw [if_neg (by omega)] at ih
   refine Ev.neg (by simp [pl]) (Ev.succ ?_)
   simp only [corncribref21_Votes.j1, e1, e2, pl, vgo]
   refine Ev.neg (by decide) (Ev.neg (by decide) ih)
  ·have hlt := full_lt hp
   refine Ev.pos (by simp [pl]) (Ev.pos (by simp [pl]) (Ev.pos (by simp [pl]; omega) (Ev.succ ?_)))
   simp only [corncribref21_Votes.j1, e1, e2, pl, vgo]
   by_cases hz : (rd_T34 l (p : Int)).f5 = 0
   ·rw [if_pos hz]
    exact Ev.pos (by rw [hz]; rfl) (Ev.now _)
   ·rw [if_neg hz]
    have ih := rvotes_l0 nodes txn l hn hl hs d (j + 1) (yes + 1) (by omega) (by omega) h0
    refine Ev.neg (by simpa using hz) (Ev.pos (by omega) ?_)
    by_cases hc : yes = j
    ·rw [if_pos hc]; rw [if_pos (by omega)] at ih; exact ih
    ·rw [if_neg hc]; rw [if_neg (by omega)] at ih; exact ih
theorem rvotes_ev (nodes txn : Int) (l : List S34) (hs : lenOk l = true) : Ev (fun k => corncribref21_Votes.f k nodes txn l) (votesL nodes txn l) := by
 unfold corncribref21_Votes.f votesL
 refine Ev.bind (may_ev nodes 0 txn l) ?_
 by_cases hw : wrongL nodes 0 txn l.length = 0
 ·obtain ⟨h1, h2, _, _, h5⟩ := wrong_zero hw
  rw [if_pos hw]
  refine Ev.pos hw ?_
  have := rvotes_l0 nodes txn l h2 h5 hs nodes.toNat 0 0 (by omega) (Nat.le_refl _) (by omega)
  rwa [if_pos rfl, List.drop_zero] at this
 ·rw [if_neg hw]
  exact Ev.neg hw (Ev.now _)
theorem rmissing_l0 (nodes txn kind : Int) (l : List S34) (hn : nodes ≤ 12) (hl : l.length ≤ 1024) (hs : lenOk l = true) : ∀ (d j : Nat) (xs : List Int), j + d = nodes.toNat → xs.length ≤ j → 0 ≤ nodes → Ev (fun k => corncribref21_Missing.l0 k nodes txn kind l xs j) (xs ++ mgo ((full nodes txn kind l).drop j) j, 0)
 | 0, j, xs, h, hy, h0 => by
  refine Ev.succ ?_
  simp only [corncribref21_Missing.l0]
  refine Ev.neg (by omega) ?_
  rw [List.drop_of_length_le (by rw [full_len]; omega), mgo, List.append_nil]
  exact Ev.now _
 | d + 1, j, xs, h, hy, h0 => by
  have hj : j < nodes.toNat := by omega
  have e1 : wrap64 ((j : Int) + 1) = ((j + 1 : Nat) : Int) := by rw [wrap_id (by omega) (by omega)]; omega
  refine Ev.succ ?_
  simp only [corncribref21_Missing.l0, e1]
  refine Ev.pos (by omega) (Ev.bind (rfirst_ev nodes txn kind l j hj hl hs) ?_)
  rw [drop_at (d := none) (by rw [full_len]; exact hj)]
  rcases hp : rdOf none (full nodes txn kind l) (j : Int) with _ | p
  ·have ih := rmissing_l0 nodes txn kind l hn hl hs d (j + 1) (xs ++ [(j : Int)]) (by omega) (by simp; omega) h0
   refine Ev.pos (by simp [pl]) (Ev.pos (by omega) ?_)
   rw [mgo]
   rwa [List.append_assoc] at ih
  ·have ih := rmissing_l0 nodes txn kind l hn hl hs d (j + 1) xs (by omega) (by omega) h0
   refine Ev.neg (by simp [pl]) ?_
   rw [mgo]
   exact ih
theorem rmissing_ev (nodes txn kind : Int) (l : List S34) (hs : lenOk l = true) : Ev (fun k => corncribref21_Missing.f k nodes txn kind l) (missL nodes txn kind l) := by
 unfold corncribref21_Missing.f missL
 refine Ev.bind (may_ev nodes 0 txn l) ?_
 by_cases hw : wrongL nodes 0 txn l.length = 0
 ·obtain ⟨h1, h2, _, _, h5⟩ := wrong_zero hw
  rw [if_pos hw]
  refine Ev.pos hw ?_
  have := rmissing_l0 nodes txn kind l h2 h5 hs nodes.toNat 0 [] (by omega) (Nat.le_refl _) (by omega)
  rwa [List.nil_append, List.drop_zero] at this
 ·rw [if_neg hw]
  exact Ev.neg hw (Ev.now _)
/-- Behind a fault the reference goes on, and tells it at the end. -/
theorem rtold_bad (nodes me txn : Int) (l : List S34) (hn : nodes ≤ 12) (hl : l.length ≤ 1024) (hs : lenOk l = true) : ∀ (d j : Nat) (t dd : Int) (nb : Bool), j + d = nodes.toNat → 0 ≤ nodes → Ev (fun k => corncribref21_Told.l0 k nodes me txn l t nb dd true j) (0, 0, 120)
 | 0, j, t, dd, nb, h, h0 => by
  refine Ev.succ ?_
  simp only [corncribref21_Told.l0]
  refine Ev.neg (by omega) (Ev.pos (by trivial) (Ev.succ ?_))
  simp only [corncribref21_Told.j2]
  exact Ev.pos (by trivial) (Ev.now _)
 | d + 1, j, t, dd, nb, h, h0 => by
  have hj : j < nodes.toNat := by omega
  have e1 : wrap64 ((j : Int) + 1) = ((j + 1 : Nat) : Int) := by rw [wrap_id (by omega) (by omega)]; omega
  have ih := fun t dd nb => rtold_bad nodes me txn l hn hl hs d (j + 1) t dd nb (by omega) h0
  refine Ev.succ ?_
  simp only [corncribref21_Told.l0]
  refine Ev.pos (by omega) (Ev.bind (rfirst_ev nodes txn 8 l j hj hl hs) ?_)
  have hskip : Ev (fun k => corncribref21_Told.j1 k nodes me txn l t nb dd true j (pl (rdOf none (full nodes txn 8 l) (j : Int))) true) (0, 0, 120) := by
   refine Ev.succ ?_
   simp only [corncribref21_Told.j1, e1]
   exact Ev.pos (by trivial) (ih _ _ _)
  by_cases hm : (j : Int) = me
  ·exact Ev.pos hm hskip
  refine Ev.neg hm ?_
  rcases hp : rdOf none (full nodes txn 8 l) (j : Int) with _ | p
  ·rw [hp] at hskip
   exact hskip
  ·have hlt := full_lt hp
   rw [show decide (pl (some p) < 0) = false from decide_eq_false (by simp [pl])]
   refine Ev.succ ?_
   simp only [corncribref21_Told.j1, e1, pl]
   refine Ev.neg (by decide) (Ev.pos (by omega) (Ev.pos (by omega) ?_))
   by_cases c1 : (rd_T34 l (p : Int)).f5 = 0
   ·exact Ev.pos c1 (ih _ _ _)
   refine Ev.neg c1 ?_
   by_cases c2 : (rd_T34 l (p : Int)).f5 = 2
   ·exact Ev.pos c2 (ih _ _ _)
   exact Ev.neg c2 (Ev.pos (by trivial) (ih _ _ _))
theorem rtold_l0 (nodes me txn : Int) (l : List S34) (hn : nodes ≤ 12) (hl : l.length ≤ 1024) (hs : lenOk l = true) : ∀ (d j : Nat) (t n dd : Int) (nb : Bool), j + d = nodes.toNat → 0 ≤ nodes → 0 ≤ n → (nb = true ↔ 0 < n) → 0 ≤ dd → dd ≤ j → Ev (fun k => corncribref21_Told.l0 k nodes me txn l t nb dd false j) (tfin nodes (tgo l me ((full nodes txn 8 l).drop j) j n dd t))
 | 0, j, t, n, dd, nb, h, h0, hnn, hnb, hd0, hd1 => by
  refine Ev.succ ?_
  simp only [corncribref21_Told.l0]
  rw [List.drop_of_length_le (by rw [full_len]; omega), tgo]
  refine Ev.neg (by omega) (Ev.neg (by decide) ?_)
  have e3 : wrap64 (nodes - 1) = nodes - 1 := wrap_id (by omega) (by omega)
  have hj2 : ∀ b : Bool, (b = true ↔ 0 < t ∧ 0 < n) → Ev (fun k => corncribref21_Told.j2 k nodes t nb dd b) (tfin nodes (some (n, dd, t))) := fun b hb => by
   refine Ev.succ ?_
   simp only [corncribref21_Told.j2, e3]
   by_cases c1 : 0 < t ∧ 0 < n
   ·exact Ev.to (Ev.pos (hb.2 c1) (Ev.now _)) (by rw [tfin, if_pos c1])
   refine Ev.neg (fun hc => c1 (hb.1 hc)) ?_
   by_cases c2 : 0 < t
   ·exact Ev.to (Ev.pos c2 (Ev.now _)) (by rw [tfin, if_neg c1, if_pos c2])
   refine Ev.neg c2 ?_
   by_cases c3 : 0 < n
   ·exact Ev.to (Ev.pos (hnb.2 c3) (Ev.now _)) (by rw [tfin, if_neg c1, if_neg c2, if_pos c3])
   refine Ev.neg (fun hc => c3 (hnb.1 hc)) ?_
   by_cases c4 : dd = nodes - 1
   ·exact Ev.to (Ev.pos c4 (Ev.now _)) (by rw [tfin, if_neg c1, if_neg c2, if_neg c3, if_pos c4])
   ·exact Ev.to (Ev.neg c4 (Ev.now _)) (by rw [tfin, if_neg c1, if_neg c2, if_neg c3, if_neg c4])
  by_cases c : t > 0
  ·exact Ev.pos c (hj2 nb ⟨fun h => ⟨c, hnb.1 h⟩, fun h => hnb.2 h.2⟩)
  ·exact Ev.neg c (hj2 false ⟨(fun h => by cases h), fun h => absurd h.1 c⟩)
 | d + 1, j, t, n, dd, nb, h, h0, hnn, hnb, hd0, hd1 => by
  have hj : j < nodes.toNat := by omega
  have e1 : wrap64 ((j : Int) + 1) = ((j + 1 : Nat) : Int) := by rw [wrap_id (by omega) (by omega)]; omega
  have e2 : wrap64 (dd + 1) = dd + 1 := wrap_id (by omega) (by omega)
  have ih := fun t n dd nb => rtold_l0 nodes me txn l hn hl hs d (j + 1) t n dd nb (by omega) h0
  refine Ev.succ ?_
  simp only [corncribref21_Told.l0]
  refine Ev.pos (by omega) (Ev.bind (rfirst_ev nodes txn 8 l j hj hl hs) ?_)
  rw [drop_at (d := none) (by rw [full_len]; exact hj)]
  have hskip : ∀ v, Ev (fun k => corncribref21_Told.j1 k nodes me txn l t nb dd false j v true) (tfin nodes (tgo l me ((full nodes txn 8 l).drop (j + 1)) (j + 1) n dd t)) := fun v => by
   refine Ev.succ ?_
   simp only [corncribref21_Told.j1, e1]
   exact Ev.pos (by trivial) (ih t n dd nb hnn hnb hd0 (by omega))
  by_cases hm : (j : Int) = me
  ·refine Ev.pos hm ?_
   rcases hp : rdOf none (full nodes txn 8 l) (j : Int) with _ | p
   ·rw [tgo]; exact hskip _
   ·rw [tgo, if_pos hm]; exact hskip _
  refine Ev.neg hm ?_
  rcases hp : rdOf none (full nodes txn 8 l) (j : Int) with _ | p
  ·rw [tgo]; exact hskip _
  ·have hlt := full_lt hp
   rw [tgo, if_neg hm, show decide (pl (some p) < 0) = false from decide_eq_false (by simp [pl])]
   refine Ev.succ ?_
   simp only [corncribref21_Told.j1, e1, e2, pl]
   refine Ev.neg (by decide) (Ev.pos (by omega) (Ev.pos (by omega) ?_))
   by_cases c1 : (rd_T34 l (p : Int)).f5 = 0
   ·rw [if_pos c1]; exact Ev.pos c1 (ih t (n + 1) dd true (by omega) ⟨(fun _ => by omega), fun _ => rfl⟩ hd0 (by omega))
   rw [if_neg c1]
   refine Ev.neg c1 ?_
   by_cases c2 : (rd_T34 l (p : Int)).f5 = 2
   ·rw [if_pos c2]; exact Ev.pos c2 (ih t n (dd + 1) nb hnn hnb (by omega) (by omega))
   rw [if_neg c2]
   refine Ev.neg c2 (Ev.neg (by decide) ?_)
   generalize (rd_T34 l (p : Int)).f4 = ts
   have emx : mx t ts = max t ts := by unfold mx; omega
   rw [emx]
   by_cases c3 : t > 0
   ·refine Ev.pos c3 ?_
    by_cases c4 : ts > 0
    ·refine Ev.pos c4 ?_
     by_cases c5 : ts = t
     ·rw [if_neg (fun hc => hc.2.2 c5), show (ts != t) = false from bne_eq_false_iff_eq.2 c5]
      exact ih (max t ts) n dd nb hnn hnb hd0 (by omega)
     ·rw [if_pos ⟨c4, c3, c5⟩, show (ts != t) = true from bne_iff_ne.2 c5]
      exact rtold_bad nodes me txn l hn hl hs d (j + 1) _ _ _ (by omega) h0
    ·rw [if_neg (fun hc => c4 hc.1)]
     exact Ev.neg c4 (ih (max t ts) n dd nb hnn hnb hd0 (by omega))
   ·rw [if_neg (fun hc => c3 hc.2.1)]
    exact Ev.neg c3 (ih (max t ts) n dd nb hnn hnb hd0 (by omega))
theorem rtold_ev (nodes me txn : Int) (l : List S34) (hs : lenOk l = true) : Ev (fun k => corncribref21_Told.f k nodes me txn l) (toldL nodes me txn l) := by
 unfold corncribref21_Told.f toldL
 refine Ev.bind (may_ev nodes me txn l) ?_
 by_cases hw : wrongL nodes me txn l.length = 0
 ·obtain ⟨h1, h2, _, _, h5⟩ := wrong_zero hw
  rw [if_pos hw]
  refine Ev.pos hw ?_
  have := rtold_l0 nodes me txn l h2 h5 hs nodes.toNat 0 0 0 0 false (by omega) (by omega) (by omega) ⟨(fun h => by cases h), fun h => by omega⟩ (by omega) (by omega)
  rwa [List.drop_zero] at this
 ·rw [if_neg hw]
  exact Ev.neg hw (Ev.now _)
end Go.Proofs.Ytdecpagcaondiaa.TermRef

/- A list of texts is the same as itself. -/
namespace Go.Proofs.Ytdecpagcaondiaa.LetSpec
open Go.RowKit Go.Proofs.Ytdecpagcaondiaa.Base Go.Proofs.Ytdecpagcaondiaa.Al Go.Proofs.YtdecpagcaondiaaW.PrintWords
theorem sameT_l0 (l : List ByteArray) (hl : l.length ≤ 4611686018427387904) : ∀ (d i : Nat), i + d = l.length → Ev (fun k => corncribbook_SameTexts.l0 k l l (i : Int)) true
 | 0, i, h => Ev.step (f := fun _ => some true) (fun k => by simp only [corncribbook_SameTexts.l0]; rw [if_neg (by omega)]) (Ev.now _)
 | d + 1, i, h => by
  have ih := sameT_l0 l hl d (i + 1) (by omega)
  have e : wrap64 ((i : Int) + 1) = ((i + 1 : Nat) : Int) := by rw [wrap_id (by omega) (by omega)]; omega
  refine Ev.step (fun k => ?_) ih
  simp only [corncribbook_SameTexts.l0]
  rw [if_pos (by omega), if_pos (by omega), if_pos (by omega), if_pos trivial, e]
theorem sameT_ev (l : List ByteArray) (hl : l.length ≤ 4611686018427387904) : Ev (fun k => corncribbook_SameTexts.f k l l) true := by
 unfold corncribbook_SameTexts.f
 exact Ev.pos rfl (sameT_l0 l hl l.length 0 (by omega))
end Go.Proofs.Ytdecpagcaondiaa.LetSpec

/- A letter is the same as itself. -/
namespace Go.Proofs.Ytdecpagcaondiaa.LetSpec
open Go.RowKit Go.Proofs.Ytdecpagcaondiaa.Base Go.Proofs.Ytdecpagcaondiaa.Al Go.Proofs.YtdecpagcaondiaaW.PrintWords
theorem sameW_l0 (l : List S70) (hl : l.length ≤ 4611686018427387904) : ∀ (d i : Nat), i + d = l.length → Ev (fun k => corncribbook_SameWrites.l0 k l l (i : Int)) true
 | 0, i, h => Ev.step (f := fun _ => some true) (fun k => by simp only [corncribbook_SameWrites.l0]; rw [if_neg (by omega)]) (Ev.now _)
 | d + 1, i, h => by
  have ih := sameW_l0 l hl d (i + 1) (by omega)
  have e : wrap64 ((i : Int) + 1) = ((i + 1 : Nat) : Int) := by rw [wrap_id (by omega) (by omega)]; omega
  refine Ev.step (fun k => ?_) ih
  simp only [corncribbook_SameWrites.l0]
  rw [if_pos (by omega), if_pos (by omega), if_pos (by omega), if_neg (by simp), e]
theorem sameW_ev (l : List S70) (hl : l.length ≤ 4611686018427387904) : Ev (fun k => corncribbook_SameWrites.f k l l) true := by
 unfold corncribbook_SameWrites.f
 exact Ev.pos rfl (sameW_l0 l hl l.length 0 (by omega))
theorem sameL_ev (x0 x1 x2 x3 x4 x5 : Int) (x6 : ByteArray) (x7 : List ByteArray) (x8 : List S70) (h7 : x7.length ≤ 4611686018427387904) (h8 : x8.length ≤ 4611686018427387904) : Ev (fun k => corncribbook_SameLetter.f k x0 x1 x2 x3 x4 x5 x6 x7 x8 x0 x1 x2 x3 x4 x5 x6 x7 x8) true := by
 unfold corncribbook_SameLetter.f
 exact Ev.pos rfl (Ev.pos rfl (Ev.pos rfl (Ev.pos rfl (Ev.pos rfl (Ev.pos rfl (Ev.pos rfl (Ev.bind (sameT_ev x7 h7) (Ev.pos rfl (Ev.bind (sameW_ev x8 h8) (Ev.now _))))))))))
end Go.Proofs.Ytdecpagcaondiaa.LetSpec

/- Letters that are copied are the same; the chapter's example. -/
namespace Go.Proofs.Ytdecpagcaondiaa.TermRef
open Go.RowKit Go.Proofs.Ytdecpagcaondiaa.Base Go.Proofs.Ytdecpagcaondiaa.Al Go.Proofs.Ytdecpagcaondiaa.LetSpec Go.Proofs.Ytdecpagcaondiaa.TermSpec Go.Proofs.YtdecpagcaondiaaW.PrintWords
set_option linter.unusedVariables false
set_option linter.unusedSimpArgs false
theorem copyL_eq (x0 x1 x2 x3 x4 x5 : Int) (x6 : ByteArray) (x7 : List ByteArray) (x8 : List S70) (h7 : x7.length < 8796093022208) (h8 : x8.length < 3518437208883) : corncribbook_CopyLetter.f x0 x1 x2 x3 x4 x5 x6 x7 x8 = some (x0, x1, x2, x3, x4, x5, x6, x7, x8) := by
 unfold corncribbook_CopyLetter.f
 simp only [Option.bind_some, List.length_nil, Nat.zero_add, List.nil_append]
 rw [if_pos h7, if_pos h8]
/-- Letters whose own lists fit. -/
def fits (l : List S34) : Prop := ∀ i : Int, (rd_T34 l i).f7.length * 16 ≤ 140737488351232 ∧ (rd_T34 l i).f8.length * 40 ≤ 140737488351232
theorem fits_of {l : List S34} (h : ∀ x ∈ l, x.f7.length * 16 ≤ 140737488351232 ∧ x.f8.length * 40 ≤ 140737488351232) : fits l := fun i => by
 by_cases hi : i.toNat < l.length
 ·have e : rd_T34 l i = l[i.toNat] := by simp [rd_T34, List.getD_eq_getElem?_getD, hi]
  rw [e]; exact h _ (List.getElem_mem hi)
 ·have e : rd_T34 l i = z34 := by simp [rd_T34, List.getD_eq_getElem?_getD, Nat.not_lt.1 hi]
  rw [e]; simp [z34]
theorem lenOk_of {l : List S34} (h : ∀ x ∈ l, x.f7.length * 16 ≤ 140737488351232 ∧ x.f8.length * 40 ≤ 140737488351232) : lenOk l = true := List.all_eq_true.2 fun x hx => decide_eq_true (by have := h x hx; omega)
theorem rd_at {l : List S34} {i : Nat} (h : i < l.length) : rd_T34 l (i : Int) = l[i] := by simp [rd_T34, List.getD_eq_getElem?_getD, h]
theorem copied_l0 (l : List S34) (hl : l.length < 1256584717458) (hf : fits l) : ∀ (d i : Nat), i + d = l.length → Ev (fun k => corncriblaw21_copied.l0 k l (l.take i) i) l
 | 0, i, h => by
  refine Ev.succ ?_
  simp only [corncriblaw21_copied.l0]
  rw [List.take_of_length_le (by omega)]
  exact Ev.neg (by omega) (Ev.now _)
 | d + 1, i, h => by
  have hi : i < l.length := by omega
  have e : wrap64 ((i : Int) + 1) = ((i + 1 : Nat) : Int) := by rw [wrap_id (by omega) (by omega)]; omega
  have ih := copied_l0 l hl hf d (i + 1) (by omega)
  rw [List.take_succ_eq_append_getElem hi, ← rd_at hi] at ih
  have hz := hf i
  refine Ev.succ ?_
  simp only [corncriblaw21_copied.l0, e]
  rw [copyL_eq _ _ _ _ _ _ _ _ _ (by omega) (by omega)]
  refine Ev.pos (by omega) (Ev.pos (by omega) (Ev.some_bind (Ev.pos (by rw [List.length_take]; omega) ih)))
theorem copied_ev (l : List S34) (hl : l.length < 1256584717458) (hf : fits l) : Ev (fun k => corncriblaw21_copied.f k l) l := copied_l0 l hl hf l.length 0 (by omega)
theorem sameLs_l0 (l : List S34) (hl : l.length < 1256584717458) (hf : fits l) : ∀ (d i : Nat), i + d = l.length → Ev (fun k => corncribbook_SameLetters.l0 k l l i) true
 | 0, i, h => by
  refine Ev.succ ?_
  simp only [corncribbook_SameLetters.l0]
  exact Ev.neg (by omega) (Ev.now _)
 | d + 1, i, h => by
  have hi : i < l.length := by omega
  have e : wrap64 ((i : Int) + 1) = ((i + 1 : Nat) : Int) := by rw [wrap_id (by omega) (by omega)]; omega
  have ih := sameLs_l0 l hl hf d (i + 1) (by omega)
  have hz := hf i
  refine Ev.succ ?_
  simp only [corncribbook_SameLetters.l0, e]
  refine Ev.pos (by omega) (Ev.pos (by omega) (Ev.pos (by omega) (Ev.bind (sameL_ev _ _ _ _ _ _ _ _ _ (by omega) (by omega)) (Ev.pos rfl ih))))
theorem sameLs_ev (l : List S34) (hl : l.length < 1256584717458) (hf : fits l) : Ev (fun k => corncribbook_SameLetters.f k l l) true := by
 unfold corncribbook_SameLetters.f
 exact Ev.pos rfl (sameLs_l0 l hl hf l.length 0 (by omega))
theorem votes_eq {a0 a1 : Int} {l : List S34} (h : lenOk l = true) : term_Votes.f a0 a1 l = some (votesL a0 a1 l) := if_pos h
theorem works21 : corncriblaw21_works.f = some true := by kernel_rfl
end Go.Proofs.Ytdecpagcaondiaa.TermRef

/- An argument of any shape that is read: what the walk's contracts ask of it, and its bounds by the row's own reach and by the second form's bulk. -/
namespace Go.Proofs.Ytdecpagcaondiaa.Open
open Go.RowKit Go.Proofs.YtdecpagcaondiaaW.PrintWords

/-- Whatever reads as data of type t is told by d: V always, L where each string and slice is within the reach, m is within the bulk. -/
structure Opens {α : Type} (P : Program) (t : TypeId) (d : Kd α) (V L : α → Prop) (m : α → Nat) : Prop where
 out : ∀ {H : Type} {enc : TypeId × Value → H} {w : World} {base : Nat} {spare : Nat → Bool} {held : Bool} {fuel : Nat} {cs : List Value} {x : DataW H × List MemPlace}, DataW.trod enc P w base spare held fuel t cs = some x →
  ∃ a : α, d.K w a cs ∧ V a ∧ ((DataW.weights P t x.1).all (· ≤ reachBytes) = true → L a) ∧ m a ≤ Rows.uptoBulk x.1

theorem opens_int {P : Program} {t : TypeId} {k : IntKind} (ht : P.underlying t = some (.int k)) : Opens P t (Kd.int k) (fun n => (Lit.int k n).wf = true) (fun _ => True) (fun _ => 1) where
 out h := by
  obtain ⟨n, rfl, rfl, hw⟩ := DataW.trod_int ht h
  exact ⟨n, rfl, hw, fun _ => trivial, Nat.le_refl _⟩
theorem opens_bool {P : Program} {t : TypeId} (ht : P.underlying t = some .bool) : Opens P t Kd.bool (fun _ => True) (fun _ => True) (fun _ => 1) where
 out h := by
  obtain ⟨n, rfl, rfl⟩ := DataW.trod_bool ht h
  exact ⟨n, rfl, trivial, fun _ => trivial, Nat.le_refl _⟩
theorem opens_string {P : Program} {t : TypeId} (ht : P.underlying t = some .string) : Opens P t Kd.string (fun s => s.size ≤ maxLen) (fun s => s.size ≤ 140737488351232) (fun s => s.size + 1) where
 out h := by
  obtain ⟨s, rfl, rfl, hw⟩ := DataW.trod_string ht h
  refine ⟨s, rfl, hw, fun hx => ?_, ?_⟩
  ·simp only [DataW.weights, List.all_cons, List.all_nil, Bool.and_true, decide_eq_true_eq, data_length] at hx
   exact hx
  ·simp [Rows.uptoBulk]

theorem add_add (a : Addr) (m j : Nat) : (a.add m).add j = a.add (m + j) := by
 unfold Addr.add
 by_cases hm : m = 0 <;> by_cases hj : j = 0 <;> simp [hm, hj, Nat.add_assoc]
theorem mapM_some {β γ : Type} {f : β → Option γ} : ∀ {l : List β} {r : List γ}, l.mapM f = some r → r.length = l.length ∧ ∀ i (h : i < l.length), f l[i] = r[i]?
 | [], r, h => by simp at h; subst h; simp
 | b :: l, r, h => by
  rw [List.mapM_cons] at h
  simp only [Option.bind_eq_bind, Option.bind_eq_some_iff, Option.pure_def, Option.some.injEq] at h
  obtain ⟨c, hc, q, hq, rfl⟩ := h
  obtain ⟨hl, hi⟩ := mapM_some hq
  refine ⟨by simp [hl], fun i h => ?_⟩
  cases i with
  | zero => simpa using hc
  | succ i => simpa using hi i (by simpa using h)
theorem cells_get {w : World} {base : Nat} {a : Addr} {n : Nat} {cs : List Value} (h : w.cells? base a n = some cs) : cs.length = n ∧ ∀ i u, cs[i]? = some u → w.cell? (a.add i) = some u := by
 unfold World.cells? at h
 split at h
 ·obtain ⟨hl, hi⟩ := mapM_some h
  simp at hl
  refine ⟨hl, fun i u hu => ?_⟩
  have hlt : i < cs.length := (List.getElem?_eq_some_iff.1 hu).1
  have := hi i (by simp; omega)
  simpa [hu] using this
 ·cases h

theorem list_of {α : Type} {Q : Nat → α → Prop} : ∀ n, (∀ i, i < n → ∃ a, Q i a) → ∃ l : List α, l.length = n ∧ ∀ i a, l[i]? = some a → Q i a
 | 0, _ => ⟨[], rfl, fun i a h => by simp at h⟩
 | n + 1, h => by
  obtain ⟨l, hl, hq⟩ := list_of n (fun i hi => h i (by omega))
  obtain ⟨a, ha⟩ := h n (by omega)
  refine ⟨l ++ [a], by simp [hl], fun i b hb => ?_⟩
  by_cases hi : i < n
  ·rw [List.getElem?_append_left (by omega)] at hb
   exact hq i b hb
  ·have hlt := (List.getElem?_eq_some_iff.1 hb).1
   simp at hlt
   obtain rfl : i = n := by omega
   rw [List.getElem?_append_right (by omega), hl] at hb
   simp at hb
   exact hb ▸ ha
theorem all_append {l r : List Nat} {p : Nat → Bool} : (l ++ r).all p = true ↔ l.all p = true ∧ r.all p = true := by rw [List.all_append, Bool.and_eq_true]
theorem weights_all {H : Type} {P : Program} {e : TypeId} {p : Nat → Bool} : ∀ {ds : List (DataW H)}, (DataW.weightsAll P e ds).all p = true → ∀ d ∈ ds, (DataW.weights P e d).all p = true
 | [], _, d, hd => by simp at hd
 | d0 :: ds, h, d, hd => by
  rw [DataW.weightsAll, all_append] at h
  rcases List.mem_cons.1 hd with rfl | hd
  ·exact h.1
  ·exact weights_all h.2 d hd
theorem bulk_all {H α : Type} {m : α → Nat} : ∀ {l : List α} {ds : List (DataW H)}, l.length = ds.length → (∀ (i : Nat) (a : α) (y : DataW H), l[i]? = some a → ds[i]? = some y → m a ≤ Rows.uptoBulk y) → (l.map m).sum ≤ Rows.uptoBulkAll ds
 | [], [], _, _ => by simp [Rows.uptoBulkAll]
 | a :: l, d :: ds, hl, h => by
  have ih := bulk_all (l := l) (ds := ds) (by simpa using hl) (fun i a y h1 h2 => h (i + 1) a y (by simpa using h1) (by simpa using h2))
  have h0 := h 0 a d rfl rfl
  simp only [List.map_cons, List.sum_cons, Rows.uptoBulkAll]
  omega
 | [], _ :: _, hl, _ => by simp at hl
 | _ :: _, [], hl, _ => by simp at hl

theorem opens_slice {α : Type} {P : Program} {t e : TypeId} {d : Kd α} {V L : α → Prop} {m : α → Nat} (q : Nat) (b : Nat) (ht : P.underlying t = some (.slice e)) (hsz : P.cellsOf e = d.sz) (hb : P.bytesOf e = b) (ho : Opens P e d V L m) :
  Opens P t (Kd.slice q d) (fun l => ∀ a ∈ l, V a) (fun l => l.length * b ≤ 140737488351232 ∧ ∀ a ∈ l, L a) (fun l => (l.map m).sum + 1) where
 out {H enc w base spare held fuel cs x} h := by
  rcases DataW.trod_slice ht h with ⟨rfl, rfl⟩ | ⟨ad, len, cap, elems, rest, n, rfl, rfl, rfl, hbase, hlc, hcm, hlen, hel, hsp, hns⟩
  ·exact ⟨[], ⟨none, 0, rfl, Nat.le_refl _, rfl, by simp, fun h => absurd h (by simp)⟩, by simp, fun _ => by simp, by simp [Rows.uptoBulk]⟩
  obtain ⟨l, hl, hq⟩ := list_of (Q := fun i a => (∃ c, c.length = d.sz ∧ d.K w a c ∧ (∀ j u, c[j]? = some u → w.cell? (ad.add (i * d.sz + j)) = some u)) ∧ V a ∧ (∀ y, elems[i]? = some y → ((DataW.weights P e y.1).all (· ≤ reachBytes) = true → L a) ∧ m a ≤ Rows.uptoBulk y.1)) len (by
   intro i hi
   have hy : elems[i]? = some (elems[i]'(by omega)) := List.getElem?_eq_getElem (by omega)
   have h1 := hel i hi
   rw [hy, Option.bind_eq_some_iff] at h1
   obtain ⟨c, hc, hx⟩ := h1
   obtain ⟨a, hK, hV, hL, hm⟩ := ho.out hx
   obtain ⟨hcl, hcc⟩ := cells_get hc
   rw [hsz] at hcl hcc
   refine ⟨a, ⟨c, hcl, hK, fun j u hu => by rw [← add_add]; exact hcc j u hu⟩, hV, fun y hy' => ?_⟩
   rw [hy] at hy'
   obtain rfl := Option.some.inj hy'
   exact ⟨hL, hm⟩)
  have hmax : len ≤ 9223372036854775807 := by unfold maxLen at hcm; omega
  have mem : ∀ a ∈ l, ∃ i, l[i]? = some a := fun a ha => List.mem_iff_getElem?.1 ha
  refine ⟨l, ⟨some ad, cap, by rw [hl], by omega, rfl, by omega, fun _ => ⟨ad, rfl, fun j p hp => ?_⟩⟩, ?_, ?_, ?_⟩
  ·obtain ⟨⟨c, hcl, hK, hcc⟩, _⟩ := hq j p hp
   exact ⟨c, hcl, hK, hcc⟩
  ·intro a ha
   obtain ⟨i, hi⟩ := mem a ha
   exact (hq i a hi).2.1
  ·intro hw
   simp only [DataW.weights, ht, List.all_cons, Bool.and_eq_true, decide_eq_true_eq, all_append, List.length_map, hb] at hw
   obtain ⟨hw1, hw2, _⟩ := hw
   have hw1' : (elems.length + rest.length) * b ≤ 140737488351232 := hw1
   refine ⟨?_, ?_⟩
   ·rw [hl, ← hlen]
    exact Nat.le_trans (Nat.mul_le_mul_right b (Nat.le_add_right _ _)) hw1'
   ·intro a ha
    obtain ⟨i, hi⟩ := mem a ha
    have hlt : i < elems.length := by have := (List.getElem?_eq_some_iff.1 hi).1; omega
    refine ((hq i a hi).2.2 _ (List.getElem?_eq_getElem hlt)).1 (weights_all hw2 _ ?_)
    exact List.mem_map.2 ⟨_, List.getElem_mem hlt, rfl⟩
  ·have hbk : (l.map m).sum ≤ Rows.uptoBulkAll (elems.map (·.1)) := bulk_all (by rw [hl, List.length_map, hlen]) (fun i a y h1 h2 => by
    rw [List.getElem?_map, Option.map_eq_some_iff] at h2
    obtain ⟨z, hz, rfl⟩ := h2
    exact ((hq i a h1).2.2 z hz).2)
   simp only [Rows.uptoBulk]
   omega

/-- The fields of a struct, one behind the other, from a place on. -/
structure OpensF {α : Type} (P : Program) (off : Nat) (fs : List Field) (d : Kd α) (V L : α → Prop) (m : α → Nat) : Prop where
 out : ∀ {H : Type} {enc : TypeId × Value → H} {w : World} {base : Nat} {spare : Nat → Bool} {held : Bool} {fuel : Nat} {cs : List Value} {xs : List (DataW H × List MemPlace)},
  fs.mapM (fun f => DataW.trod enc P w base spare held fuel f.type ((cs.drop f.offset).take (P.cellsOf f.type))) = some xs → cs.length = off + d.sz →
  ∃ a : α, d.K w a (cs.drop off) ∧ V a ∧ ((DataW.weightsEach P (fs.map (·.type)) (xs.map (·.1))).all (· ≤ reachBytes) = true → L a) ∧ m a ≤ Rows.uptoBulkAll (xs.map (·.1))
theorem opensF_one {α : Type} {P : Program} {off : Nat} {f : Field} {d : Kd α} {V L : α → Prop} {m : α → Nat} (ho : Opens P f.type d V L m) (hoff : f.offset = off) (hsz : P.cellsOf f.type = d.sz) : OpensF P off [f] d V L m where
 out {H enc w base spare held fuel cs xs} h hl := by
  obtain ⟨h1, h2⟩ := mapM_some h
  have e : xs = [xs[0]'(by rw [h1]; simp)] := by
   apply List.ext_getElem
   ·simpa using h1
   ·intro i hi _
    have : i = 0 := by rw [h1] at hi; simpa using hi
    subst this
    rfl
  have h3 := h2 0 (by simp)
  rw [List.getElem?_eq_getElem (by rw [h1]; simp)] at h3
  simp only [List.getElem_cons_zero] at h3
  rw [hoff, hsz, List.take_of_length_le (by rw [List.length_drop]; omega)] at h3
  obtain ⟨a, hK, hV, hL, hm⟩ := ho.out h3
  refine ⟨a, hK, hV, fun hw => hL ?_, ?_⟩
  ·rw [e] at hw
   simpa [DataW.weightsEach] using hw
  ·rw [e]
   simpa [Rows.uptoBulkAll] using hm
theorem opensF_cons {α β : Type} {P : Program} {off : Nat} {f : Field} {fs : List Field} {d : Kd α} {V L : α → Prop} {m : α → Nat} {d' : Kd β} {V' L' : β → Prop} {m' : β → Nat}
  (ho : Opens P f.type d V L m) (hoff : f.offset = off) (hsz : P.cellsOf f.type = d.sz) (hr : OpensF P (off + d.sz) fs d' V' L' m') :
  OpensF P off (f :: fs) (Kd.pair d d') (fun a => V a.1 ∧ V' a.2) (fun a => L a.1 ∧ L' a.2) (fun a => m a.1 + m' a.2) where
 out {H enc w base spare held fuel cs xs} h hl := by
  rw [List.mapM_cons] at h
  simp only [Option.bind_eq_bind, Option.bind_eq_some_iff, Option.pure_def, Option.some.injEq] at h
  obtain ⟨x, hx, xs', hxs, rfl⟩ := h
  rw [hoff, hsz] at hx
  have hl' : cs.length = off + (d.sz + d'.sz) := hl
  obtain ⟨a, hK, hV, hL, hm⟩ := ho.out hx
  obtain ⟨b, hK', hV', hL', hm'⟩ := hr.out hxs (by omega)
  refine ⟨(a, b), ⟨_, _, ?_, hK, hK'⟩, ⟨hV, hV'⟩, fun hw => ?_, ?_⟩
  ·rw [← List.drop_drop, List.take_append_drop]
  ·simp only [List.map_cons, DataW.weightsEach, all_append] at hw
   exact ⟨hL hw.1, hL' hw.2⟩
  ·simp only [List.map_cons, Rows.uptoBulkAll]
   omega
theorem opens_struct {α β : Type} {P : Program} {t : TypeId} {fs : Array Field} {d : Kd α} {V L : α → Prop} {m : α → Nat} (f : β → α) (g : α → β) (hfg : ∀ a, f (g a) = a) (ht : P.underlying t = some (.struct fs)) (hsz : P.cellsOf t = d.sz) (hf : OpensF P 0 fs.toList d V L m) :
  Opens P t (Kd.iso d f) (fun b => V (f b)) (fun b => L (f b)) (fun b => m (f b) + 1) where
 out {H enc w base spare held fuel cs x} h := by
  cases fuel with
  | zero => simp [DataW.trod] at h
  | succ n =>
   unfold DataW.trod at h
   rw [ht] at h
   simp only at h
   split at h
   ·rename_i hl
    rw [Option.map_eq_some_iff] at h
    obtain ⟨xs, hxs, rfl⟩ := h
    obtain ⟨a, hK, hV, hL, hm⟩ := hf.out hxs (by omega)
    refine ⟨g a, ?_, ?_, ?_, ?_⟩
    ·show d.K w (f (g a)) cs
     rw [hfg]
     simpa using hK
    ·show V (f (g a))
     rw [hfg]; exact hV
    ·intro hw
     show L (f (g a))
     rw [hfg]
     simp only [DataW.weights, ht] at hw
     exact hL hw
    ·rw [hfg]
     simp only [Rows.uptoBulk]
     omega
   ·cases h
end Go.Proofs.Ytdecpagcaondiaa.Open
