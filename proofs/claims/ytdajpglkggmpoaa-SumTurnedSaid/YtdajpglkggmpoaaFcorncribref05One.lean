/- One function of the program comes to what its plain twin says. This text began as the kit's own print (print.py, made by cprint.sh) and was turned by split.py: it is no printed file. -/
import Derived.Test.YtdajpglkggmpoaaF0
import Derived.Test.YtdajpglkggmpoaaFcorncribref05Sum
import Derived.Test.YtdajpglkggmpoaaFcorncribref05bytes
namespace Go.Proofs.Ytdajpglkggmpoaa.Al
open Go.RowKit Go.Proofs.YtdajpglkggmpoaaW.PrintWords Go.Proofs.YtdajpglkggmpoaaW.PrintLast Go.Proofs.YtdajpglkggmpoaaW.PrintMore
attribute [local go_sem] max2_int min2_int max_two min_two max_three min_three max_four min_four   -- for this text's walks alone
set_option linter.unusedVariables false
set_option linter.unusedSimpArgs false

/-! ### corncribref05_One: function 25 -/
def corncribref05_One.f (k : Nat) (a0 : ByteArray) : Option (ByteArray) := (corncribref05_bytes.f k (a0.size : Int) 2).bind fun t155 => (if t155.size + a0.size ≤ 9223372036854775807 then ((corncribref05_Sum.f k (t155 ++ a0)).bind fun t156 => ((corncribref05_bytes.f k t156 4).bind fun t157 => (if (t155 ++ a0).size + t157.size ≤ 9223372036854775807 then (some ((t155 ++ a0) ++ t157)) else (none)))) else (none))
theorem corncribref05_One.mono : ∀ a0 k, LeO (corncribref05_One.f k a0) (corncribref05_One.f (k + 1) a0) := by
  intro a0 k
  unfold corncribref05_One.f
  repeat' first
      | (with_reducible exact corncribref05_Sum.mono _ _)
      | (with_reducible exact corncribref05_bytes.mono _ _ _)
      | (with_reducible exact LeO.refl _)
      | (with_reducible exact LeO.none _)
      | (with_reducible refine LeO.ite ?_ ?_)
      | (with_reducible refine LeO.bind ?_ (fun _ => ?_))
      | exact corncribref05_Sum.mono _ _
      | exact corncribref05_bytes.mono _ _ _
      | exact LeO.none _
      | refine LeO.ite ?_ ?_
      | refine LeO.bind ?_ (fun _ => ?_)
set_option maxHeartbeats 8000000 in
set_option maxRecDepth 100000 in
theorem corncribref05_One.calls (k : Nat) (a0 : ByteArray) (r : ByteArray) (w : World) (h : corncribref05_One.f k a0 = some r) :
    Calls Try.prog 25 #[.string a0] w fun e w' => e = .returned (.string r) ∧ Below w.heap.size w w' := by
  have HB := Aside0.mk (Below.refl w.heap.size w)
  have H : ((corncribref05_bytes.f k (a0.size : Int) 2).bind fun t155 => (if t155.size + a0.size ≤ 9223372036854775807 then ((corncribref05_Sum.f k (t155 ++ a0)).bind fun t156 => ((corncribref05_bytes.f k t156 4).bind fun t157 => (if (t155 ++ a0).size + t157.size ≤ 9223372036854775807 then (some ((t155 ++ a0) ++ t157)) else (none)))) else (none))) = some r := h
  clear h
  replace H := Option.bind_eq_some_iff.mp H
  obtain ⟨t155, A20, H⟩ := H
  replace H : (if t155.size + a0.size ≤ 9223372036854775807 then ((corncribref05_Sum.f k (t155 ++ a0)).bind fun t156 => ((corncribref05_bytes.f k t156 4).bind fun t157 => (if (t155 ++ a0).size + t157.size ≤ 9223372036854775807 then (some ((t155 ++ a0) ++ t157)) else (none)))) else (none)) = some r := H
  have A2 := Aside0.mk A20
  clear A20
  by_cases c3 : t155.size + a0.size ≤ 9223372036854775807
  · rw [if_pos c3] at H
    have c3b0 := eq_true c3
    have c3b1 : decide (t155.size + a0.size ≤ 9223372036854775807) = true := decide_eq_true c3
    try have c3b2 : (9223372036854775807 < t155.size + a0.size) = False := eq_false (Nat.not_lt.2 c3)
    replace H := Option.bind_eq_some_iff.mp H
    obtain ⟨t156, A40, H⟩ := H
    replace H : ((corncribref05_bytes.f k t156 4).bind fun t157 => (if (t155 ++ a0).size + t157.size ≤ 9223372036854775807 then (some ((t155 ++ a0) ++ t157)) else (none))) = some r := H
    have A4 := Aside0.mk A40
    clear A40
    replace H := Option.bind_eq_some_iff.mp H
    obtain ⟨t157, A50, H⟩ := H
    replace H : (if (t155 ++ a0).size + t157.size ≤ 9223372036854775807 then (some ((t155 ++ a0) ++ t157)) else (none)) = some r := H
    have A5 := Aside0.mk A50
    clear A50
    by_cases c6 : (t155 ++ a0).size + t157.size ≤ 9223372036854775807
    · rw [if_pos c6] at H
      have c6b0 := eq_true c6
      try have c6b0z : ((t155.size + a0.size : Nat) + t157.size ≤ 9223372036854775807) = True := eq_true (by simpa only [ByteArray.size_extract, ByteArray.size_append, Nat.min_self] using of_eq_true c6b0)
      have c6b1 : decide ((t155 ++ a0).size + t157.size ≤ 9223372036854775807) = true := decide_eq_true c6
      try have c6b1z : decide ((t155.size + a0.size : Nat) + t157.size ≤ 9223372036854775807) = true := by simpa only [ByteArray.size_extract, ByteArray.size_append, Nat.min_self] using c6b1
      try have c6b2 : (9223372036854775807 < (t155 ++ a0).size + t157.size) = False := eq_false (Nat.not_lt.2 c6)
      try have c6b2z : (9223372036854775807 < (t155.size + a0.size : Nat) + t157.size) = False := by simpa only [ByteArray.size_extract, ByteArray.size_append, Nat.min_self] using c6b2
      obtain rfl := Option.some.inj H
      go_enter Try.func25, Try.ntmps25
      go_wp2_with (first | ((with_reducible refine gate_callee (f := 28) rfl ?_); refine goesL_ (some 6) rfl rfl Try.func28 (by kernel_rfl) rfl #[.int .i64 (a0.size : Int), .int .i64 2] rfl (by (try simp only [List.map_toArray, List.map_cons, List.map_nil]); first | done | rfl | (simp only [List.length_drop, List.length_take]; rfl)) ?_; (with_reducible refine (corncribref05_bytes.calls k (a0.size : Int) 2 t155 _ A2.out).mono ?_); rintro e w7 ⟨rfl, hb⟩; refine ⟨_, rfl, ?_⟩; have n0_ := Aside0.mk (below_step (by repeat (first | (with_reducible first | exact HB.out | apply below_alloc | apply pw_below_drewN | apply below_drew1) | exact HB.out)) hb); clear HB; have HB := n0_; clear n0_; (try clear hb); (try clear hb2); (try clear hk); (try clear hi)) | ((with_reducible refine gate_callee (f := 26) rfl ?_); refine goesL_ (some 11) rfl rfl Try.func26 (by kernel_rfl) rfl #[.string (t155 ++ a0)] rfl (by (try simp only [List.map_toArray, List.map_cons, List.map_nil]); first | done | rfl | (simp only [List.length_drop, List.length_take]; rfl)) ?_; (with_reducible refine (corncribref05_Sum.calls k (t155 ++ a0) t156 _ A4.out).mono ?_); rintro e w' ⟨rfl, ⟨nd, rfl⟩⟩; refine ⟨_, rfl, ?_⟩) | ((with_reducible refine gate_callee (f := 28) rfl ?_); refine goesL_ (some 12) rfl rfl Try.func28 (by kernel_rfl) rfl #[.int .i64 t156, .int .i64 4] rfl (by (try simp only [List.map_toArray, List.map_cons, List.map_nil]); first | done | rfl | (simp only [List.length_drop, List.length_take]; rfl)) ?_; (with_reducible refine (corncribref05_bytes.calls k t156 4 t157 _ A5.out).mono ?_); rintro e w8 ⟨rfl, hb⟩; refine ⟨_, rfl, ?_⟩; have n0_ := Aside0.mk (below_step (by repeat (first | (with_reducible first | exact HB.out | apply below_alloc | apply pw_below_drewN | apply below_drew1) | exact HB.out)) hb); clear HB; have HB := n0_; clear n0_; (try clear hb); (try clear hb2); (try clear hk); (try clear hi)))
      go_ret
      exact ⟨by first | rfl | (simp [errW_none, errW_some] <;> rfl) | (simp [*, errW_none, errW_some] <;> rfl), by repeat (first | (with_reducible first | exact HB.out | apply below_alloc | apply pw_below_drewN | apply below_drew1) | exact HB.out)⟩
    · rw [if_neg c6] at H
      exact absurd H (by simp)
  · rw [if_neg c3] at H
    exact absurd H (by simp)

end Go.Proofs.Ytdajpglkggmpoaa.Al
