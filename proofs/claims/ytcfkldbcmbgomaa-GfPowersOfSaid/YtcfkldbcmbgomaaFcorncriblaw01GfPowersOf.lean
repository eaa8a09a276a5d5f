/- For every element and every number: an element times itself so many times is the power of 2 of its log, as many times; 255 times it is 1. The walk of the law over the contracts of the field's functions. -/
import Derived.Test.YtcfkldbcmbgomaaGfRef
import Derived.Test.YtcfkldbcmbgomaaFgfAdd
import Derived.Test.YtcfkldbcmbgomaaFcorncriblaw01names
import Derived.Test.YtcfkldbcmbgomaaGfField
import Derived.Test.YtcfkldbcmbgomaaGfLaws
import Derived.Test.YtcfkldbcmbgomaaGfPow
import Derived.Test.YtcfkldbcmbgomaaFcorncribbookAmong
namespace Go.Proofs.Ytcfkldbcmbgomaa.Al
open Go.RowKit Go.Proofs.Ytcfkldbcmbgomaa.GfMath Go.Proofs.Ytcfkldbcmbgomaa.GfRef Go.Proofs.Ytcfkldbcmbgomaa.Base Go.Proofs.YtcfkldbcmbgomaaW.PrintWords Go.Proofs.YtcfkldbcmbgomaaW.PrintLast Go.Proofs.YtcfkldbcmbgomaaW.PrintMore
set_option linter.unusedVariables false
set_option linter.unusedSimpArgs false
def corncriblaw01_GfPowersOf.f (a : Int) (n : Int) : Option Bool := if (0 ≤ a ∧ a < 256) ∧ (-9223372036854775808 ≤ n ∧ n < 9223372036854775808) then some true else none
set_option maxHeartbeats 8000000 in
set_option maxRecDepth 100000 in
theorem corncriblaw01_GfPowersOf.calls (a : Int) (n : Int) (r : Bool) (w : World) (h : corncriblaw01_GfPowersOf.f a n = some r) (hr_ : r = true) :
    Calls Try.prog 11 #[.int .u8 a, .int .i64 n] w fun e w' => e = .returned (.bool r) ∧ Below w.heap.size w w' := by
  subst hr_
  unfold corncriblaw01_GfPowersOf.f at h
  split at h
  case isFalse => cases h
  rename_i hh
  obtain ⟨h_a, h_n⟩ := hh
  clear h
  have by_a : Byte a := h_a
  clear h_a
  obtain ⟨m, hm, hm0, hm1⟩ : ∃ m, corncribbook_Among.f n 600 = some m ∧ 0 ≤ m ∧ m < 600 := among_ok n 600 (by omega) (by omega)
  have HM := Aside0.mk hm
  clear hm
  by_cases ha0 : a = 0
  · subst ha0
    obtain ⟨g1, g2⟩ := log_zero
    go_enter Try.func11, Try.ntmps11
    go_wp2_with (first | (go_at_call 30; refine (field.calls _).mono ?_; rintro e w1 ⟨g, rfl, hg, ht, hb⟩; have HT := Aside0.mk ht; have HG := Aside0.mk hg; have HB := Aside0.mk hb; clear hg ht hb) | (go_at_call 31; refine (corncribbook_Among.calls _ _ m _ HM.out).mono ?_; rintro e w' ⟨rfl, nd, rfl⟩; (try first | exact ⟨rfl, _, World.drewN_drewN _ _ _⟩ | exact ⟨rfl, _, Eq.trans (World.drewN_drewN _ _ _) (congrArg (World.drewN _) (Nat.add_assoc _ _ _))⟩)) | (go_at_call 22; refine (gLog _ _ _ (by repeat (first | exact HT.out | (with_reducible refine Tab.drewN ?_ _) | (with_reducible refine Tab.alloc ?_ _))) (by first | assumption | exact byte_mul _ _ | exact byte_div _ _ | exact byte_exp _ | exact ⟨by omega, by omega⟩)).mono ?_; rintro e w' ⟨rfl, nd, rfl⟩; (try first | exact ⟨rfl, _, World.drewN_drewN _ _ _⟩ | exact ⟨rfl, _, Eq.trans (World.drewN_drewN _ _ _) (congrArg (World.drewN _) (Nat.add_assoc _ _ _))⟩)))
    go_loopw [9, 26] (fun vx vi wr => ∃ k : Nat, vx = .int .u8 (pw 0 k) ∧ vi = .int .i64 k ∧ (k : Int) ≤ m ∧ Aside0 (∃ nd, wr = w1.drewN nd)) (fun _ i _ => (1000 - intOf i).toNat)
    case atStart => exact ⟨0, rfl, rfl, by omega, by first | exact ⟨⟨_, rfl⟩⟩ | exact ⟨⟨0, rfl⟩⟩⟩
    case round =>
      obtain ⟨k, rfl, rfl, hk, HW⟩ := hrel
      obtain ⟨nd1, rfl⟩ := HW.out
      clear HW
      have bk := byte_pw 0 k
      by_cases hlt : (k : Int) < m
      · go_wp2_with (first | (go_at_call 14; refine (gMul _ _ _ _ (by repeat (first | exact HT.out | (with_reducible refine Tab.drewN ?_ _) | (with_reducible refine Tab.alloc ?_ _))) (by first | assumption | exact byte_mul _ _ | exact byte_div _ _ | exact byte_exp _ | exact ⟨by omega, by omega⟩) (by first | assumption | exact byte_mul _ _ | exact byte_div _ _ | exact byte_exp _ | exact ⟨by omega, by omega⟩)).mono ?_; rintro e w' ⟨rfl, nd, rfl⟩; (try first | exact ⟨rfl, _, World.drewN_drewN _ _ _⟩ | exact ⟨rfl, _, Eq.trans (World.drewN_drewN _ _ _) (congrArg (World.drewN _) (Nat.add_assoc _ _ _))⟩)))
        go_roundw
        case rel => exact ⟨k + 1, rfl, by go_num, by omega, ⟨⟨_, rfl⟩⟩⟩
        case measure => simp [intOf]; omega
      · obtain ⟨km, rfl⟩ : ∃ q : Nat, q = k := ⟨k, rfl⟩
        have hd : decide ((km : Int) < m) = false := decide_eq_false hlt
        clear bk
        obtain rfl : m = (km : Int) := by omega
        clear hlt
        clear hk
        go_wp2_with (first | (go_at_call 14; refine (gMul _ _ _ _ (by repeat (first | exact HT.out | (with_reducible refine Tab.drewN ?_ _) | (with_reducible refine Tab.alloc ?_ _))) (by first | assumption | exact byte_mul _ _ | exact byte_div _ _ | exact byte_exp _ | exact ⟨by omega, by omega⟩) (by first | assumption | exact byte_mul _ _ | exact byte_div _ _ | exact byte_exp _ | exact ⟨by omega, by omega⟩)).mono ?_; rintro e w' ⟨rfl, nd, rfl⟩; (try first | exact ⟨rfl, _, World.drewN_drewN _ _ _⟩ | exact ⟨rfl, _, Eq.trans (World.drewN_drewN _ _ _) (congrArg (World.drewN _) (Nat.add_assoc _ _ _))⟩)))
        obtain ⟨w2, hw2⟩ : ∃ w2 : World, w2 = w1.drewN nd1 := ⟨_, rfl⟩
        rw [← hw2]
        have HT2 : Aside0 (Tab w2 g) := ⟨by rw [hw2]; exact HT.out.drewN _⟩
        have HB2 : Aside0 (Below w.heap.size w w2) := ⟨by rw [hw2]; exact pw_below_drewN HB.out _⟩
        clear hw2
        go_loopw [10, 33] (fun vx vi wr => ∃ k : Nat, vx = .int .u8 (pw 0 k) ∧ vi = .int .i64 k ∧ (k : Int) ≤ 255 ∧ Aside0 (∃ nd, wr = w2.drewN nd)) (fun _ i _ => (1000 - intOf i).toNat)
        case atStart => exact ⟨0, rfl, rfl, by omega, by first | exact ⟨⟨_, rfl⟩⟩ | exact ⟨⟨0, rfl⟩⟩⟩
        case round =>
          obtain ⟨k, rfl, rfl, hk, HW⟩ := hrel
          obtain ⟨nd2, rfl⟩ := HW.out
          clear HW
          have bk := byte_pw 0 k
          by_cases hlt : (k : Int) < 255
          · go_wp2_with (first | (go_at_call 14; refine (gMul _ _ _ _ (by repeat (first | exact HT2.out | (with_reducible refine Tab.drewN ?_ _) | (with_reducible refine Tab.alloc ?_ _))) (by first | assumption | exact byte_mul _ _ | exact byte_div _ _ | exact byte_exp _ | exact ⟨by omega, by omega⟩) (by first | assumption | exact byte_mul _ _ | exact byte_div _ _ | exact byte_exp _ | exact ⟨by omega, by omega⟩)).mono ?_; rintro e w' ⟨rfl, nd, rfl⟩; (try first | exact ⟨rfl, _, World.drewN_drewN _ _ _⟩ | exact ⟨rfl, _, Eq.trans (World.drewN_drewN _ _ _) (congrArg (World.drewN _) (Nat.add_assoc _ _ _))⟩)))
            go_roundw
            case rel => exact ⟨k + 1, rfl, by go_num, by omega, ⟨⟨_, rfl⟩⟩⟩
            case measure => simp [intOf]; omega
          · obtain rfl : k = 255 := by omega
            clear hlt hk bk
            have px := pw_zero
            go_wp2_with (first | (go_at_call 24; refine (gExp _ _ _ (by repeat (first | exact HT2.out | (with_reducible refine Tab.drewN ?_ _) | (with_reducible refine Tab.alloc ?_ _)))).mono ?_; rintro e w' ⟨rfl, nd, rfl⟩; (try first | exact ⟨rfl, _, World.drewN_drewN _ _ _⟩ | exact ⟨rfl, _, Eq.trans (World.drewN_drewN _ _ _) (congrArg (World.drewN _) (Nat.add_assoc _ _ _))⟩)))
            try go_quiet (fail)
            try go_wp2_with (first | (go_at_call 24; refine (gExp _ _ _ (by repeat (first | exact HT2.out | (with_reducible refine Tab.drewN ?_ _) | (with_reducible refine Tab.alloc ?_ _)))).mono ?_; rintro e w' ⟨rfl, nd, rfl⟩; (try first | exact ⟨rfl, _, World.drewN_drewN _ _ _⟩ | exact ⟨rfl, _, Eq.trans (World.drewN_drewN _ _ _) (congrArg (World.drewN _) (Nat.add_assoc _ _ _))⟩)))
            go_ret
            exact ⟨rfl, by repeat (first | exact HB2.out | refine pw_below_drewN ?_ _)⟩
  · obtain ⟨g1, g3, g4, -⟩ := log_ok by_a ha0
    go_enter Try.func11, Try.ntmps11
    go_wp2_with (first | (go_at_call 30; refine (field.calls _).mono ?_; rintro e w1 ⟨g, rfl, hg, ht, hb⟩; have HT := Aside0.mk ht; have HG := Aside0.mk hg; have HB := Aside0.mk hb; clear hg ht hb) | (go_at_call 31; refine (corncribbook_Among.calls _ _ m _ HM.out).mono ?_; rintro e w' ⟨rfl, nd, rfl⟩; (try first | exact ⟨rfl, _, World.drewN_drewN _ _ _⟩ | exact ⟨rfl, _, Eq.trans (World.drewN_drewN _ _ _) (congrArg (World.drewN _) (Nat.add_assoc _ _ _))⟩)) | (go_at_call 22; refine (gLog _ _ _ (by repeat (first | exact HT.out | (with_reducible refine Tab.drewN ?_ _) | (with_reducible refine Tab.alloc ?_ _))) (by first | assumption | exact byte_mul _ _ | exact byte_div _ _ | exact byte_exp _ | exact ⟨by omega, by omega⟩)).mono ?_; rintro e w' ⟨rfl, nd, rfl⟩; (try first | exact ⟨rfl, _, World.drewN_drewN _ _ _⟩ | exact ⟨rfl, _, Eq.trans (World.drewN_drewN _ _ _) (congrArg (World.drewN _) (Nat.add_assoc _ _ _))⟩)))
    go_loopw [9, 26] (fun vx vi wr => ∃ k : Nat, vx = .int .u8 (pw a k) ∧ vi = .int .i64 k ∧ (k : Int) ≤ m ∧ Aside0 (∃ nd, wr = w1.drewN nd)) (fun _ i _ => (1000 - intOf i).toNat)
    case atStart => exact ⟨0, rfl, rfl, by omega, by first | exact ⟨⟨_, rfl⟩⟩ | exact ⟨⟨0, rfl⟩⟩⟩
    case round =>
      obtain ⟨k, rfl, rfl, hk, HW⟩ := hrel
      obtain ⟨nd1, rfl⟩ := HW.out
      clear HW
      have bk := byte_pw a k
      by_cases hlt : (k : Int) < m
      · go_wp2_with (first | (go_at_call 14; refine (gMul _ _ _ _ (by repeat (first | exact HT.out | (with_reducible refine Tab.drewN ?_ _) | (with_reducible refine Tab.alloc ?_ _))) (by first | assumption | exact byte_mul _ _ | exact byte_div _ _ | exact byte_exp _ | exact ⟨by omega, by omega⟩) (by first | assumption | exact byte_mul _ _ | exact byte_div _ _ | exact byte_exp _ | exact ⟨by omega, by omega⟩)).mono ?_; rintro e w' ⟨rfl, nd, rfl⟩; (try first | exact ⟨rfl, _, World.drewN_drewN _ _ _⟩ | exact ⟨rfl, _, Eq.trans (World.drewN_drewN _ _ _) (congrArg (World.drewN _) (Nat.add_assoc _ _ _))⟩)))
        go_roundw
        case rel => exact ⟨k + 1, rfl, by go_num, by omega, ⟨⟨_, rfl⟩⟩⟩
        case measure => simp [intOf]; omega
      · obtain ⟨km, rfl⟩ : ∃ q : Nat, q = k := ⟨k, rfl⟩
        have hd : decide ((km : Int) < m) = false := decide_eq_false hlt
        clear bk
        obtain rfl : m = (km : Int) := by omega
        clear hlt
        clear hk
        go_wp2_with (first | (go_at_call 14; refine (gMul _ _ _ _ (by repeat (first | exact HT.out | (with_reducible refine Tab.drewN ?_ _) | (with_reducible refine Tab.alloc ?_ _))) (by first | assumption | exact byte_mul _ _ | exact byte_div _ _ | exact byte_exp _ | exact ⟨by omega, by omega⟩) (by first | assumption | exact byte_mul _ _ | exact byte_div _ _ | exact byte_exp _ | exact ⟨by omega, by omega⟩)).mono ?_; rintro e w' ⟨rfl, nd, rfl⟩; (try first | exact ⟨rfl, _, World.drewN_drewN _ _ _⟩ | exact ⟨rfl, _, Eq.trans (World.drewN_drewN _ _ _) (congrArg (World.drewN _) (Nat.add_assoc _ _ _))⟩)))
        obtain ⟨w2, hw2⟩ : ∃ w2 : World, w2 = w1.drewN nd1 := ⟨_, rfl⟩
        rw [← hw2]
        have HT2 : Aside0 (Tab w2 g) := ⟨by rw [hw2]; exact HT.out.drewN _⟩
        have HB2 : Aside0 (Below w.heap.size w w2) := ⟨by rw [hw2]; exact pw_below_drewN HB.out _⟩
        clear hw2
        go_loopw [10, 33] (fun vx vi wr => ∃ k : Nat, vx = .int .u8 (pw a k) ∧ vi = .int .i64 k ∧ (k : Int) ≤ 255 ∧ Aside0 (∃ nd, wr = w2.drewN nd)) (fun _ i _ => (1000 - intOf i).toNat)
        case atStart => exact ⟨0, rfl, rfl, by omega, by first | exact ⟨⟨_, rfl⟩⟩ | exact ⟨⟨0, rfl⟩⟩⟩
        case round =>
          obtain ⟨k, rfl, rfl, hk, HW⟩ := hrel
          obtain ⟨nd2, rfl⟩ := HW.out
          clear HW
          have bk := byte_pw a k
          by_cases hlt : (k : Int) < 255
          · go_wp2_with (first | (go_at_call 14; refine (gMul _ _ _ _ (by repeat (first | exact HT2.out | (with_reducible refine Tab.drewN ?_ _) | (with_reducible refine Tab.alloc ?_ _))) (by first | assumption | exact byte_mul _ _ | exact byte_div _ _ | exact byte_exp _ | exact ⟨by omega, by omega⟩) (by first | assumption | exact byte_mul _ _ | exact byte_div _ _ | exact byte_exp _ | exact ⟨by omega, by omega⟩)).mono ?_; rintro e w' ⟨rfl, nd, rfl⟩; (try first | exact ⟨rfl, _, World.drewN_drewN _ _ _⟩ | exact ⟨rfl, _, Eq.trans (World.drewN_drewN _ _ _) (congrArg (World.drewN _) (Nat.add_assoc _ _ _))⟩)))
            go_roundw
            case rel => exact ⟨k + 1, rfl, by go_num, by omega, ⟨⟨_, rfl⟩⟩⟩
            case measure => simp [intOf]; omega
          · obtain rfl : k = 255 := by omega
            clear hlt hk bk
            have px := pw_255 by_a ha0
            have py := pw_exp by_a ha0 km
            have hw4 : IntKind.i64.wrap (logI a * (km : Int)) = logI a * (km : Int) := by
              have h1 : 0 ≤ logI a * (km : Int) := Int.mul_nonneg g3 (by omega)
              have h2 : logI a * (km : Int) ≤ 255 * (km : Int) := Int.mul_le_mul_of_nonneg_right (by omega) (by omega)
              rw [IntKind.wrap_i64]; omega
            have c1 : (a == 0) = false := by simpa using ha0
            have c2 : (a != 0) = true := by simpa using ha0
            go_wp2_with (first | (go_at_call 24; refine (gExp _ _ _ (by repeat (first | exact HT2.out | (with_reducible refine Tab.drewN ?_ _) | (with_reducible refine Tab.alloc ?_ _)))).mono ?_; rintro e w' ⟨rfl, nd, rfl⟩; (try first | exact ⟨rfl, _, World.drewN_drewN _ _ _⟩ | exact ⟨rfl, _, Eq.trans (World.drewN_drewN _ _ _) (congrArg (World.drewN _) (Nat.add_assoc _ _ _))⟩)))
            try go_quiet (first | (go_at_call 24; refine (gExp _ _ _ (by repeat (first | exact HT2.out | (with_reducible refine Tab.drewN ?_ _) | (with_reducible refine Tab.alloc ?_ _)))).mono ?_; rintro e w' ⟨rfl, nd, rfl⟩; (try first | exact ⟨rfl, _, World.drewN_drewN _ _ _⟩ | exact ⟨rfl, _, Eq.trans (World.drewN_drewN _ _ _) (congrArg (World.drewN _) (Nat.add_assoc _ _ _))⟩)))
            try go_wp2_with (first | (go_at_call 24; refine (gExp _ _ _ (by repeat (first | exact HT2.out | (with_reducible refine Tab.drewN ?_ _) | (with_reducible refine Tab.alloc ?_ _)))).mono ?_; rintro e w' ⟨rfl, nd, rfl⟩; (try first | exact ⟨rfl, _, World.drewN_drewN _ _ _⟩ | exact ⟨rfl, _, Eq.trans (World.drewN_drewN _ _ _) (congrArg (World.drewN _) (Nat.add_assoc _ _ _))⟩)))
            go_ret
            exact ⟨rfl, by repeat (first | exact HB2.out | refine pw_below_drewN ?_ _)⟩
end Go.Proofs.Ytcfkldbcmbgomaa.Al
