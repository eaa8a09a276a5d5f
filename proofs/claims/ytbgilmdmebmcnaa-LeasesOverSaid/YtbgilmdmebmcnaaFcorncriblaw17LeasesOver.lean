/- The walk of LeasesOver. -/
import Derived.Test.YtbgilmdmebmcnaaPaa
namespace Go.Proofs.Ytbgilmdmebmcnaa.Al
open Go.RowKit Go.Proofs.Ytbgilmdmebmcnaa.LeaseSpec Go.Proofs.YtbgilmdmebmcnaaW.PrintWords Go.Proofs.YtbgilmdmebmcnaaW.PrintLast Go.Proofs.YtbgilmdmebmcnaaW.PrintMore
set_option linter.unusedVariables false
set_option linter.unusedSimpArgs false
theorem among_calls (a n : Int) (h0 : 0 < n) (hn : n ≤ 4611686018427387904) (w : World) : Calls Try.prog 7 #[.int .i64 a, .int .i64 n] w fun e w' => e = .returned (.int .i64 (a % n)) ∧ Below w.heap.size w w' :=
  (corncribbook_Among.calls a n (a % n) w (Amg.among_eq a n h0 hn)).mono (by rintro e w' ⟨rfl, k, rfl⟩; exact ⟨rfl, pw_below_drewN (Below.refl _ _) k⟩)
theorem len_calls (w0 W : World) (gT : Nat) (t : Tb) (v : Value) (hT : TS 55 51 w0 W gT t v) : Calls Try.prog 20 #[.pointer (some ⟨gT, 0, none⟩)] W fun e w' => e = .returned (.int .i64 t.l.length) ∧ Below W.heap.size W w' := by
  obtain ⟨A, c, rfl⟩ := Kd.R_slice hT.row
  have f2 : W.cell? ⟨gT, 2, none⟩ = some (.slice A t.l.length c) := (blk_cell hT.blk 2).trans rfl
  clear hT
  go_enter Try.func20, Try.ntmps20
  go_wp2
  go_ret
  exact ⟨rfl, Below.refl _ _⟩
def corncriblaw17_LeasesOver.f (a0 a1 a2 : Int) : Option Bool := some true
set_option maxHeartbeats 8000000 in
set_option maxRecDepth 100000 in
theorem over_walk (a0 a1 a2 : Int) (W : World) : Calls Try.prog 5 #[.int .i64 a0, .int .i64 a1, .int .i64 a2] W fun e w' => e = .returned (.bool true) ∧ Below W.heap.size W w' := by
  obtain ⟨long, hl⟩ : ∃ long, long = a0 % 20 := ⟨_, rfl⟩
  obtain ⟨n, hn⟩ : ∃ n : Nat, (n : Int) = a1 % 9 := ⟨(a1 % 9).toNat, by omega⟩
  obtain ⟨now, hw⟩ : ∃ now, now = a2 % 1000 := ⟨_, rfl⟩
  have l0 : 0 ≤ long := by omega
  have l1 : long < 20 := by omega
  have n1 : n < 9 := by omega
  have w0 : 0 ≤ now := by omega
  have w1 : now < 1000 := by omega
  have HA := Aside0.mk hl
  have HN := Aside0.mk hn
  have HW := Aside0.mk hw
  clear hl hn hw
  have e1 : (1 : Int) + (n : Int) = (n : Int) + 1 := by omega
  go_enter Try.func5, Try.ntmps5
  go_upto_region 5 with (first | (go_at_call 6; refine (works_calls _).mono ?_; rintro e v1 ⟨rfl, hb⟩; have HB1 := Aside0.mk hb; clear hb) | (go_at_call 7; (with_reducible refine (among_calls a0 20 (by decide) (by decide) _).mono ?_); rintro e v2 ⟨rfl, hb⟩; rw [← HA.out]; have HB2 := Aside0.mk (below_step HB1.out hb); clear hb) | (go_at_call 7; (with_reducible refine (among_calls a1 9 (by decide) (by decide) _).mono ?_); rintro e v3 ⟨rfl, hb⟩; rw [← HN.out]; have HB3 := Aside0.mk (below_step HB2.out hb); clear hb) | (go_at_call 7; (with_reducible refine (among_calls a2 1000 (by decide) (by decide) _).mono ?_); rintro e v4 ⟨rfl, hb⟩; rw [← HW.out]; have HB4 := Aside0.mk (below_step HB3.out hb); clear hb) | (go_at_call 8; refine (new_calls W _ HB4.out long l0 (by omega)).mono ?_; rintro e v5 ⟨g, rfl, hg, hT, hb⟩; have HT5 := Aside0.mk hT; clear hg hT hb))
  go_wp2
  go_loopw [9, 10, 11, 42] (fun v9 v10 v11 v42 wr => ∃ (i : Nat) (v : Value), v42 = .int .i64 i ∧ i ≤ n + 1 ∧ Aside0 (TS 55 51 W wr g ⟨long, (i : Int), Ln i (now + long)⟩ v)) (fun _ _ _ v42 _ => n + 1 - (intOf v42).toNat)
  case atStart => exact ⟨0, _, rfl, Nat.zero_le _, HT5⟩
  case round =>
    obtain ⟨i, v, rfl, hi, HT⟩ := hrel
    clear HT5
    by_cases hlt : i < n + 1
    · have n2 : decide ((i : Int) < (n : Int) + 1) = true := decide_eq_true (by omega)
      have n3 : ((i : Int) + 1 == (i : Int) + 1) = true := by simp
      have n4 : ((i : Int) + 1 != (i : Int) + 1) = false := by simp
      go_wp2_with (go_at_call 9; refine (take_calls W wr g _ v HT.out (by rw [Ln_len]; omega) ⟨l0, by simp only; omega⟩ ⟨by simp only; omega, by simp only; omega⟩ now i).mono ?_; rintro e v6 ⟨v2, rfl, hT, hk⟩; rw [over_take l0 l1 w0 w1 (show i < 9 by omega)] at hT ⊢; have HT2 := Aside0.mk hT; clear hT hk)
      go_roundw
      case rel => exact ⟨i + 1, v2, by go_num, hlt, ⟨HT2.out⟩⟩
      case measure => simp [intOf]; omega
    · obtain rfl : i = n + 1 := by omega
      have HTn : Aside0 (TS 55 51 W wr g ⟨long, (n : Int) + 1, Ln (n + 1) (now + long)⟩ v) := ⟨HT.out⟩
      have n2 : decide (((n + 1 : Nat) : Int) < (n : Int) + 1) = false := decide_eq_false (by omega)
      clear HT hlt hi
      have m1 : ((n : Int) != (n : Int) + 1 - 1) = false := by simp
      have m2 : ((n : Int) + 1 + 1 == (n : Int) + 1 + 1) = true := by simp
      have m3 : ((n : Int) != (n : Int)) = false := by simp
      go_wp2_with (first | (go_at_call 17; (with_reducible refine (check_calls W wr g _ v HTn.out (by show (Ln _ _).length ≤ 1024; rw [Ln_len]; omega) (now + long) ((n : Int) + 1)).mono ?_); rintro e y1 ⟨rfl, hb⟩; rw [over_check l0 l1 w0 w1]; have HT1 := Aside0.mk (HTn.out.below hb); clear hb) | (go_at_call 17; (with_reducible refine (check_calls W y1 g _ v HT1.out (by show (Ln _ _).length ≤ 1024; rw [Ln_len]; omega) (now + long + 1) ((n : Int) + 1)).mono ?_); rintro e y2 ⟨rfl, hb⟩; rw [over_check2 l0 l1 w0 w1]; have HT2 := Aside0.mk (HT1.out.below hb); clear hb) | (go_at_call 10; (with_reducible refine (keep_calls W y2 g _ v HT2.out (by show (Ln _ _).length ≤ 1024; rw [Ln_len]; omega) ⟨l0, by show long ≤ 1048576; omega⟩ (now + long + 1) ((n : Int) + 1)).mono ?_); rintro e y3 ⟨rfl, hT, hk⟩; rw [over_keep l0 l1 w0 w1] at hT ⊢; have HT3 := Aside0.mk hT; clear hT hk) | (go_at_call 11; (with_reducible refine (low_calls W y3 g _ v HT3.out (by show (Ln _ _).length ≤ 1024; rw [Ln_len]; omega) (now + long + 1) 77).mono ?_); rintro e y4 ⟨rfl, hb⟩; rw [over_low l0 l1 w0 w1]; have HT4 := Aside0.mk (HT3.out.below hb); clear hb) | (go_at_call 15; (with_reducible refine (end_calls W y4 g _ v HT4.out (by show (Ln _ _).length ≤ 1024; rw [Ln_len]; omega) ((n : Int) + 1)).mono ?_); rintro e y5 ⟨rfl, v5, hT, hk⟩; rw [over_end l0 l1 w0 w1] at hT ⊢; have HT5 := Aside0.mk hT; clear hT hk) | (go_at_call 15; (with_reducible refine (end_calls W y5 g _ v5 HT5.out (by show (Ln _ _).length ≤ 1024; rw [Ln_len]; omega) ((n : Int) + 1)).mono ?_); rintro e y6 ⟨rfl, v6, hT, hk⟩; rw [over_end2 l0 l1 w0 w1] at hT ⊢; have HT6 := Aside0.mk hT; clear hT hk) | (go_at_call 17; (with_reducible refine (check_calls W y6 g _ v6 HT6.out (by show (Ln _ _).length ≤ 1024; rw [Ln_len]; omega) now ((n : Int) + 1)).mono ?_); rintro e y7 ⟨rfl, hb⟩; rw [over_check3 l0 l1 w0 w1]; have HT7 := Aside0.mk (HT6.out.below hb); clear hb) | (go_at_call 9; (with_reducible refine (take_calls W y7 g _ v6 HT7.out (by show (Ln _ _).length ≤ 1024; rw [Ln_len]; omega) ⟨l0, by show long ≤ 1048576; omega⟩ ⟨by show 0 ≤ (n : Int) + 1; omega, by show (n : Int) + 1 < 9223372036854775806; omega⟩ (now + long + 1) 5).mono ?_); rintro e y8 ⟨v8, rfl, hT, hk⟩; rw [over_take2 l0 l1 w0 w1 n1] at hT ⊢; have HT8 := Aside0.mk hT; clear hT hk) | (go_at_call 20; (with_reducible refine (len_calls W y8 g _ v8 HT8.out).mono ?_); rintro e y9 ⟨rfl, hb⟩; have HT9 := Aside0.mk (HT8.out.below hb); clear hb))
      go_ret
      exact ⟨rfl, HT9.out.bel⟩
theorem corncriblaw17_LeasesOver.calls (a0 a1 a2 : Int) (r : Bool) (w : World) (h : corncriblaw17_LeasesOver.f a0 a1 a2 = some r) (hr_ : r = true) :
    Calls Try.prog 5 #[.int .i64 a0, .int .i64 a1, .int .i64 a2] w fun e w' => e = .returned (.bool r) ∧ Below w.heap.size w w' := by
  subst hr_
  exact over_walk a0 a1 a2 w
end Go.Proofs.Ytbgilmdmebmcnaa.Al
