/- For every two elements and every number: powers whose number is a power of 2 go over sums. The walk of the law over the contracts of the field's functions. -/
import Derived.Test.YtcfkldbcmbgomaaGfRef
import Derived.Test.YtcfkldbcmbgomaaFgfAdd
import Derived.Test.YtcfkldbcmbgomaaFcorncriblaw01names
import Derived.Test.YtcfkldbcmbgomaaGfField
import Derived.Test.YtcfkldbcmbgomaaGfLaws
import Derived.Test.YtcfkldbcmbgomaaFcorncribbookAmong
namespace Go.Proofs.Ytcfkldbcmbgomaa.Al
open Go.RowKit Go.Proofs.Ytcfkldbcmbgomaa.GfMath Go.Proofs.Ytcfkldbcmbgomaa.GfRef Go.Proofs.Ytcfkldbcmbgomaa.Base Go.Proofs.YtcfkldbcmbgomaaW.PrintWords Go.Proofs.YtcfkldbcmbgomaaW.PrintLast Go.Proofs.YtcfkldbcmbgomaaW.PrintMore
set_option linter.unusedVariables false
set_option linter.unusedSimpArgs false
def corncriblaw01_GfSquares.f (a : Int) (b : Int) (n : Int) : Option Bool := if (0 ≤ a ∧ a < 256) ∧ (0 ≤ b ∧ b < 256) ∧ (-9223372036854775808 ≤ n ∧ n < 9223372036854775808) then some true else none
set_option maxHeartbeats 8000000 in
set_option maxRecDepth 100000 in
theorem corncriblaw01_GfSquares.calls (a : Int) (b : Int) (n : Int) (r : Bool) (w : World) (h : corncriblaw01_GfSquares.f a b n = some r) (hr_ : r = true) :
    Calls Try.prog 8 #[.int .u8 a, .int .u8 b, .int .i64 n] w fun e w' => e = .returned (.bool r) ∧ Below w.heap.size w w' := by
  subst hr_
  unfold corncriblaw01_GfSquares.f at h
  split at h
  case isFalse => cases h
  rename_i hh
  obtain ⟨h_a, h_b, h_n⟩ := hh
  clear h
  have by_a : Byte a := h_a
  clear h_a
  have by_b : Byte b := h_b
  clear h_b
  obtain ⟨m, hm, hm0, hm1⟩ : ∃ m, corncribbook_Among.f n 8 = some m ∧ 0 ≤ m ∧ m < 8 := among_ok n 8 (by omega) (by omega)
  have HM := Aside0.mk hm
  clear hm
  have hx0 := (byte_xor by_a by_b).1
  go_enter Try.func8, Try.ntmps8
  go_wp2_with (first | (go_at_call 30; refine (field.calls _).mono ?_; rintro e w1 ⟨g, rfl, hg, ht, hb⟩; have HT := Aside0.mk ht; have HG := Aside0.mk hg; have HB := Aside0.mk hb; clear hg ht hb) | (go_at_call 31; refine (corncribbook_Among.calls _ _ m _ HM.out).mono ?_; rintro e w' ⟨rfl, nd, rfl⟩; (try first | exact ⟨rfl, _, World.drewN_drewN _ _ _⟩ | exact ⟨rfl, _, Eq.trans (World.drewN_drewN _ _ _) (congrArg (World.drewN _) (Nat.add_assoc _ _ _))⟩)))
  go_loopw [0, 1, 9, 22] (fun v0 v1 v9 v22 wr => ∃ (x y : Int) (k : Nat), v0 = .int .u8 x ∧ v1 = .int .u8 y ∧ v9 = .int .u8 (Go.bits .xor .u8 x y) ∧ v22 = .int .i64 k ∧ (k : Int) ≤ 1 + m ∧ Byte x ∧ Byte y ∧ Aside0 (∃ nd, wr = w1.drewN nd)) (fun _ _ _ i _ => (8 - intOf i).toNat)
  case atStart => exact ⟨a, b, 0, rfl, rfl, rfl, rfl, by omega, by_a, by_b, ⟨⟨_, rfl⟩⟩⟩
  case round =>
    obtain ⟨x, y, k, rfl, rfl, rfl, rfl, hk, bx, by_, HW⟩ := hrel
    obtain ⟨nd, rfl⟩ := HW.out
    clear HW
    have bxy := (byte_xor bx by_).1
    have sqx := square_xor bx by_
    by_cases hlt : (k : Int) < 1 + m
    · go_wp2_with (first | (go_at_call 14; refine (gMul _ _ _ _ (by repeat (first | exact HT.out | (with_reducible refine Tab.drewN ?_ _) | (with_reducible refine Tab.alloc ?_ _))) (by first | assumption | exact byte_mul _ _ | exact byte_div _ _ | exact byte_exp _ | exact ⟨by omega, by omega⟩) (by first | assumption | exact byte_mul _ _ | exact byte_div _ _ | exact byte_exp _ | exact ⟨by omega, by omega⟩)).mono ?_; rintro e w' ⟨rfl, nd, rfl⟩; (try first | exact ⟨rfl, _, World.drewN_drewN _ _ _⟩ | exact ⟨rfl, _, Eq.trans (World.drewN_drewN _ _ _) (congrArg (World.drewN _) (Nat.add_assoc _ _ _))⟩)))
      go_roundw
      case rel => exact ⟨mulI x x, mulI y y, k + 1, rfl, rfl, rfl, by go_num, by omega, byte_mul _ _, byte_mul _ _, ⟨⟨_, rfl⟩⟩⟩
      case measure => simp [intOf]; omega
    · have hd : decide ((k : Int) < 1 + m) = false := decide_eq_false hlt
      go_wp2_with (first | (go_at_call 14; refine (gMul _ _ _ _ (by repeat (first | exact HT.out | (with_reducible refine Tab.drewN ?_ _) | (with_reducible refine Tab.alloc ?_ _))) (by first | assumption | exact byte_mul _ _ | exact byte_div _ _ | exact byte_exp _ | exact ⟨by omega, by omega⟩) (by first | assumption | exact byte_mul _ _ | exact byte_div _ _ | exact byte_exp _ | exact ⟨by omega, by omega⟩)).mono ?_; rintro e w' ⟨rfl, nd, rfl⟩; (try first | exact ⟨rfl, _, World.drewN_drewN _ _ _⟩ | exact ⟨rfl, _, Eq.trans (World.drewN_drewN _ _ _) (congrArg (World.drewN _) (Nat.add_assoc _ _ _))⟩)))
      go_ret
      exact ⟨rfl, by repeat (first | exact HB.out | refine pw_below_drewN ?_ _)⟩
end Go.Proofs.Ytcfkldbcmbgomaa.Al
