/- The walk of DueFull. -/
import Derived.Test.YtacceeefcelkhaaPab
namespace Go.Proofs.Ytacceeefcelkhaa.Al
open Go.RowKit Go.Proofs.Ytacceeefcelkhaa.DueHeap Go.Proofs.Ytacceeefcelkhaa.DueSpec Go.Proofs.YtacceeefcelkhaaW.PrintWords Go.Proofs.YtacceeefcelkhaaW.PrintLast Go.Proofs.YtacceeefcelkhaaW.PrintMore
set_option linter.unusedVariables false
set_option linter.unusedSimpArgs false
attribute [local irreducible] Lf
def corncriblaw14_DueFull.f (a0 : Int) (a1 : Bool) : Option Bool := some true
theorem drop_cast {w : World} {T : Value} {Q : Ending → World → Prop} {x y : Int} (h : Calls Try.prog 15 #[T, .int .i64 x] w Q) (e : x = y) : Calls Try.prog 15 #[T, .int .i64 y] w Q := by
  subst e
  exact h
set_option maxHeartbeats 8000000 in
set_option maxRecDepth 100000 in
theorem full_walk (a0 : Int) (a1 : Bool) (w : World) : Calls Try.prog 5 #[.int .i64 a0, .bool a1] w fun e w' => e = .returned (.bool true) ∧ Below w.heap.size w w' := by
  obtain ⟨A, hA⟩ : ∃ A, A = a0 % 9 := ⟨_, rfl⟩
  have h0 : 0 ≤ A := by omega
  have h1 : A < 9 := by omega
  obtain ⟨m, hm⟩ : ∃ m : Nat, (m : Int) = a0 % 1024 := ⟨(a0 % 1024).toNat, by omega⟩
  have hm2 : m < 1024 := by omega
  have HA := Aside0.mk hA
  have HM := Aside0.mk hm
  have HML := Aside0.mk hm2
  have hw : wrap64 (1 + (m : Int)) = 1 + (m : Int) := by unfold wrap64; omega
  have hw' : IntKind.i64.wrap (1 + (m : Int)) = 1 + (m : Int) := by rw [IntKind.wrap_i64]; omega
  clear hA hm hm2
  go_enter Try.func5, Try.ntmps5
  go_wp2_with (first | (go_at_call 7; refine (z_new w w (Below.refl _ _)).mono ?_; rintro e w1 ⟨gq, rfl, hq, hb⟩; have HQ1 := Aside0.mk hq; clear hq hb) | (go_at_call 8; refine (works_calls _).mono ?_; rintro e w2 ⟨rfl, hb⟩; have HQ2 := Aside0.mk (HQ1.out.below hb); clear hb))
  go_loopw [24] (fun v24 wr => ∃ i : Nat, v24 = .int .i64 i ∧ i ≤ 1024 ∧ Aside0 (QZ w wr gq i (qf A i))) (fun v24 _ => 1024 - (intOf v24).toNat)
  case atStart => exact ⟨0, rfl, Nat.zero_le _, ⟨by rw [qf_zero]; exact HQ2.out⟩⟩
  case round =>
    obtain ⟨i, rfl, hi, HQ⟩ := hrel
    clear HQ1 HQ2
    by_cases hlt : i < 1024
    · have b1 : decide ((i : Int) < 1024) = true := decide_eq_true (by omega)
      have HI := Aside0.mk hlt
      go_wp2_with (first | (go_at_call 9; refine (amongq_calls a0 9 (by decide) (by decide) _).mono ?_; rintro e w3 ⟨rfl, hb⟩; rw [← HA.out]; have HQ3 := Aside0.mk (HQ.out.below hb); clear hb) | (go_at_call 10; refine (z_put HQ3.out (by have := HI.out; omega) A i i).mono ?_; rintro e w4 ⟨rfl, hq⟩; rw [full_put h0 h1 HI.out] at hq ⊢; have HQ4 := Aside0.mk hq; clear hq))
      go_roundw
      case rel => exact ⟨i + 1, by go_num, HI.out, HQ4⟩
      case measure => have := HI.out; simp [intOf]; omega
    · obtain rfl : i = 1024 := by omega
      have b1 : decide (((1024 : Nat) : Int) < 1024) = false := by decide
      cases a1 with
      | true =>
        go_wp2_with (first | (go_at_call 10; (with_reducible refine (z_put HQ.out (by decide) 0 0 0).mono ?_); rintro e w3 ⟨rfl, hq⟩; rw [full_no h0 h1] at hq ⊢; have HQ3 := Aside0.mk hq; clear hq) | (go_at_call 9; refine (amongq_calls a0 1024 (by decide) (by decide) _).mono ?_; rintro e w4 ⟨rfl, hb⟩; rw [← HM.out]; have HQ4 := Aside0.mk (HQ3.out.below hb); clear hb) | (go_at_call 15; refine (drop_cast (z_drop HQ4.out ((m : Int) + 1)) (Int.add_comm _ _)).mono ?_; rintro e w5 ⟨rfl, hq⟩; rw [full_drop h0 h1 HQ4.out.ok HML.out] at hq ⊢; have HQ5 := Aside0.mk hq; clear hq) | (go_at_call 10; (with_reducible refine (z_put HQ5.out (by decide) 0 0 0).mono ?_); rintro e w6 ⟨rfl, hq⟩; rw [room_put (q := ⟨(Lf A 1024).erase (oneF A m), 0, 1024⟩) (full_len HML.out)] at hq ⊢; have HQ6 := Aside0.mk hq; clear hq) | (go_at_call 10; (with_reducible refine (z_put HQ6.out (by decide) 0 0 0).mono ?_); rintro e w7 ⟨rfl, hq⟩; rw [room_no (q := ⟨(Lf A 1024).erase (oneF A m), 0, 1024⟩) (full_len HML.out)] at hq ⊢; have HQ7 := Aside0.mk hq; clear hq))
        go_ret
        exact ⟨rfl, HQ7.out.bel⟩
      | false =>
        go_wp2_with (first | (go_at_call 10; (with_reducible refine (z_put HQ.out (by decide) 0 0 0).mono ?_); rintro e w3 ⟨rfl, hq⟩; rw [full_no h0 h1] at hq ⊢; have HQ3 := Aside0.mk hq; clear hq) | (go_at_call 12; refine (z_go HQ3.out 9).mono ?_; rintro e w4 ⟨rfl, hq⟩; rw [full_go h0 h1] at hq ⊢; have HQ4 := Aside0.mk hq; clear hq) | (go_at_call 13; refine (z_take HQ4.out).mono ?_; rintro e w5 ⟨rfl, hq⟩; rw [full_take h0 h1 HQ4.out.ok] at hq ⊢; have HQ5 := Aside0.mk hq; clear hq) | (go_at_call 10; (with_reducible refine (z_put HQ5.out (by decide) 0 0 0).mono ?_); rintro e w6 ⟨rfl, hq⟩; rw [room_put (q := ⟨(Lf A 1024).erase (oneF A 1023), 9, 1024⟩) (full_len (by decide))] at hq ⊢; have HQ6 := Aside0.mk hq; clear hq) | (go_at_call 10; (with_reducible refine (z_put HQ6.out (by decide) 0 0 0).mono ?_); rintro e w7 ⟨rfl, hq⟩; rw [room_no (q := ⟨(Lf A 1024).erase (oneF A 1023), 9, 1024⟩) (full_len (by decide))] at hq ⊢; have HQ7 := Aside0.mk hq; clear hq))
        go_ret
        exact ⟨rfl, HQ7.out.bel⟩
theorem corncriblaw14_DueFull.calls (a0 : Int) (a1 : Bool) (r : Bool) (w : World) (h : corncriblaw14_DueFull.f a0 a1 = some r) (hr_ : r = true) :
    Calls Try.prog 5 #[.int .i64 a0, .bool a1] w fun e w' => e = .returned (.bool r) ∧ Below w.heap.size w w' := by
  subst hr_
  exact full_walk a0 a1 w
end Go.Proofs.Ytacceeefcelkhaa.Al
