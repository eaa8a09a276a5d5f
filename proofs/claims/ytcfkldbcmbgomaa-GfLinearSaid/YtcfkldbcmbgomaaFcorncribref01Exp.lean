/- One function of the program comes to what its plain twin says. This text began as the kit's own print (print.py, made by cprint.sh) and was turned by split.py: it is no printed file. -/
import Derived.Test.YtcfkldbcmbgomaaF0
import Derived.Test.YtcfkldbcmbgomaaFcorncribref01Mul
namespace Go.Proofs.Ytcfkldbcmbgomaa.Al
open Go.RowKit Go.Proofs.YtcfkldbcmbgomaaW.PrintWords Go.Proofs.YtcfkldbcmbgomaaW.PrintLast Go.Proofs.YtcfkldbcmbgomaaW.PrintMore
attribute [local go_sem] max2_int min2_int max_two min_two max_three min_three max_four min_four   -- for this text's walks alone
set_option linter.unusedVariables false
set_option linter.unusedSimpArgs false

/-! ### corncribref01_Exp: function 25 -/
def corncribref01_Exp.l0 : Nat → Int → Int → Int → Option (Int)
  | 0, _, _, _ => none
  | k + 1, x0, x3, x4 => if x4 < x0 then ((corncribref01_Mul.f k x3 2).bind fun t106 => (corncribref01_Exp.l0 k x0 t106 (wrap64 (x4 + 1)))) else (some x3)
def corncribref01_Exp.f (k : Nat) (a0 : Int) : Option (Int) := corncribref01_Exp.l0 k (Int.tmod (wrap64 ((Int.tmod a0 255) + 255)) 255) 1 0
theorem corncribref01_Exp.mono_l : ∀ k, (∀ y0 y1 y2, LeO (corncribref01_Exp.l0 k y0 y1 y2) (corncribref01_Exp.l0 (k + 1) y0 y1 y2))
  | 0 => fun _ _ _ r h => by simp [corncribref01_Exp.l0] at h
  | k + 1 => by
    have ih0 := corncribref01_Exp.mono_l k
    · intro y0 y1 y2
      unfold corncribref01_Exp.l0
      repeat' first
      | (with_reducible exact ih0 _ _ _)
      | (with_reducible exact corncribref01_Mul.mono _ _ _)
      | (with_reducible exact LeO.refl _)
      | (with_reducible exact LeO.none _)
      | (with_reducible refine LeO.ite ?_ ?_)
      | (with_reducible refine LeO.bind ?_ (fun _ => ?_))
      | exact ih0 _ _ _
      | exact corncribref01_Mul.mono _ _ _
      | exact LeO.none _
      | refine LeO.ite ?_ ?_
      | refine LeO.bind ?_ (fun _ => ?_)
theorem corncribref01_Exp.mono : ∀ a0 k, LeO (corncribref01_Exp.f k a0) (corncribref01_Exp.f (k + 1) a0) := by
  intro a0 k
  have ih0 := corncribref01_Exp.mono_l k
  unfold corncribref01_Exp.f
  repeat' first
      | (with_reducible exact ih0 _ _ _)
      | (with_reducible exact corncribref01_Mul.mono _ _ _)
      | (with_reducible exact LeO.refl _)
      | (with_reducible exact LeO.none _)
      | (with_reducible refine LeO.ite ?_ ?_)
      | (with_reducible refine LeO.bind ?_ (fun _ => ?_))
      | exact ih0 _ _ _
      | exact corncribref01_Mul.mono _ _ _
      | exact LeO.none _
      | refine LeO.ite ?_ ?_
      | refine LeO.bind ?_ (fun _ => ?_)
set_option maxHeartbeats 8000000 in
set_option maxRecDepth 100000 in
theorem corncribref01_Exp.calls (k : Nat) (a0 : Int) (r : Int) (w : World) (h : corncribref01_Exp.f k a0 = some r) :
    Calls Try.prog 25 #[.int .i64 a0] w fun e w' => e = .returned (.int .u8 r) ∧ Drawn0 w w' := by
  have H : (corncribref01_Exp.l0 k (Int.tmod (wrap64 ((Int.tmod a0 255) + 255)) 255) 1 0) = some r := h
  clear h
  have H' := Aside0.mk H
  clear H
  go_enter Try.func25, Try.ntmps25
  go_wp2
  go_loopg [3, 4] k (fun kq v3 v4 w' => ∃ (x3_1 : Int) (x4_1 : Int), v3 = .int .u8 x3_1 ∧ v4 = .int .i64 x4_1 ∧ Aside0 (corncribref01_Exp.l0 kq (Int.tmod (wrap64 ((Int.tmod a0 255) + 255)) 255) x3_1 x4_1 = some r) ∧ Aside0 (kq ≤ k) ∧ Drawn0 w w')
  case atStart => exact ⟨(1), (0), (by first | rfl | (simp; done) | (simp [*]; done)), (by first | rfl | (simp; done) | (simp [*]; done)), H', ⟨Nat.le_refl _⟩, by repeat (first | exact Drawn0.refl _ | apply Drawn0.step)⟩
  case round =>
    clear H'
    obtain ⟨x3_1, x4_1, rfl, rfl, HA, HK1, ⟨m1, rfl⟩⟩ := hrel
    cases gk with
    | zero => exact absurd HA.out (by simp [corncribref01_Exp.l0])
    | succ k1 =>
      have H := HA.out
      clear HA
      simp only [corncribref01_Exp.l0] at H
      by_cases c2 : x4_1 < (Int.tmod (wrap64 ((Int.tmod a0 255) + 255)) 255)
      · rw [if_pos c2] at H
        have c2b0 : decide (x4_1 < (Int.tmod (wrap64 ((Int.tmod a0 255) + 255)) 255)) = true := decide_eq_true c2
        clear c2
        replace H := Option.bind_eq_some_iff.mp H
        obtain ⟨t106, A30, H⟩ := H
        replace H : (corncribref01_Exp.l0 k1 (Int.tmod (wrap64 ((Int.tmod a0 255) + 255)) 255) t106 (wrap64 (x4_1 + 1))) = some r := H
        have A3 := Aside0.mk A30
        clear A30
        have H' := Aside0.mk H
        clear H
        go_wp2_with (first | ((with_reducible refine gate_callee (f := 15) rfl ?_); refine goesL_ (some 15) rfl rfl Try.func15 (by kernel_rfl) rfl #[.int .u8 x3_1, .int .u8 2] rfl (by (try simp only [List.map_toArray, List.map_cons, List.map_nil]); first | done | rfl | (simp only [List.length_drop, List.length_take]; rfl)) ?_; (with_reducible refine (corncribref01_Mul.calls k1 x3_1 2 t106 _ A3.out).mono ?_); rintro e w' ⟨rfl, ⟨nd, rfl⟩⟩; refine ⟨_, rfl, ?_⟩))
        go_roundg k1
        case measure => have := HK1.out; omega
        case rel => exact ⟨(t106), (wrap64 (x4_1 + 1)), (by first | rfl | (simp; done) | (simp [*]; done)), (by first | rfl | (simp; done) | (simp [*]; done)), H', ⟨by have := HK1.out; omega⟩, by repeat (first | exact Drawn0.refl _ | apply Drawn0.step)⟩
      · rw [if_neg c2] at H
        have c2b0 : decide (x4_1 < (Int.tmod (wrap64 ((Int.tmod a0 255) + 255)) 255)) = false := decide_eq_false c2
        clear c2
        obtain rfl := Option.some.inj H
        go_wp2
        go_ret
        exact ⟨by first | rfl | (simp; done) | (simp [*]; done), by repeat (first | exact Drawn0.refl _ | apply Drawn0.step)⟩

-- NOT PRINTED: function 5 (corncriblaw01_GfPowers)

-- NOT PRINTED: function 26 (gf_Field_Dot)

end Go.Proofs.Ytcfkldbcmbgomaa.Al
