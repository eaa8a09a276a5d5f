/- For every three elements: the laws of a field hold of sums and products. The walk of the law over the contracts of the field's functions. -/
import Derived.Test.YtcfkldbcmbgomaaGfRef
import Derived.Test.YtcfkldbcmbgomaaFgfAdd
import Derived.Test.YtcfkldbcmbgomaaFcorncriblaw01names
import Derived.Test.YtcfkldbcmbgomaaGfField
import Derived.Test.YtcfkldbcmbgomaaGfLaws
namespace Go.Proofs.Ytcfkldbcmbgomaa.Al
open Go.RowKit Go.Proofs.Ytcfkldbcmbgomaa.GfMath Go.Proofs.Ytcfkldbcmbgomaa.GfRef Go.Proofs.Ytcfkldbcmbgomaa.Base Go.Proofs.YtcfkldbcmbgomaaW.PrintWords Go.Proofs.YtcfkldbcmbgomaaW.PrintLast Go.Proofs.YtcfkldbcmbgomaaW.PrintMore
set_option linter.unusedVariables false
set_option linter.unusedSimpArgs false
def corncriblaw01_GfRing.f (a : Int) (b : Int) (c : Int) : Option Bool := if (0 ≤ a ∧ a < 256) ∧ (0 ≤ b ∧ b < 256) ∧ (0 ≤ c ∧ c < 256) then some true else none
set_option maxHeartbeats 8000000 in
set_option maxRecDepth 100000 in
theorem corncriblaw01_GfRing.calls (a : Int) (b : Int) (c : Int) (r : Bool) (w : World) (h : corncriblaw01_GfRing.f a b c = some r) (hr_ : r = true) :
    Calls Try.prog 9 #[.int .u8 a, .int .u8 b, .int .u8 c] w fun e w' => e = .returned (.bool r) ∧ Below w.heap.size w w' := by
  subst hr_
  unfold corncriblaw01_GfRing.f at h
  split at h
  case isFalse => cases h
  rename_i hh
  obtain ⟨h_a, h_b, h_c⟩ := hh
  clear h
  have by_a : Byte a := h_a
  clear h_a
  have by_b : Byte b := h_b
  clear h_b
  have by_c : Byte c := h_c
  clear h_c
  have x1 := byte_xor by_a by_b
  have x2 := byte_xor by_b by_c
  have f1 := (xorI_comm by_a by_b).symm
  have f2 := xorI_assoc by_a by_b by_c
  have f3 := xorI_zero by_a
  have f4 := xorI_self by_a
  have f5 := (mulI_comm a b).symm
  have f6 := mulI_assoc by_a by_b by_c
  have f7 := mulI_one by_a
  have f8 := mulI_zero a
  have f9 := mulI_xor by_a by_b by_c
  have z0 : Byte 0 := ⟨by omega, by omega⟩
  have z1 : Byte 1 := ⟨by omega, by omega⟩
  have X1 := x1.1
  have X2 := x2.1
  clear x1 x2
  go_enter Try.func9, Try.ntmps9
  go_wp2_with (first | (go_at_call 30; refine (field.calls _).mono ?_; rintro e w1 ⟨g, rfl, hg, ht, hb⟩; have HT := Aside0.mk ht; have HG := Aside0.mk hg; have HB := Aside0.mk hb; clear hg ht hb) | (go_at_call 14; refine (gMul _ _ _ _ (by repeat (first | exact HT.out | (with_reducible refine Tab.drewN ?_ _) | (with_reducible refine Tab.alloc ?_ _))) (by first | assumption | exact byte_mul _ _ | exact byte_div _ _ | exact byte_exp _ | exact ⟨by omega, by omega⟩) (by first | assumption | exact byte_mul _ _ | exact byte_div _ _ | exact byte_exp _ | exact ⟨by omega, by omega⟩)).mono ?_; rintro e w' ⟨rfl, nd, rfl⟩; (try first | exact ⟨rfl, _, World.drewN_drewN _ _ _⟩ | exact ⟨rfl, _, Eq.trans (World.drewN_drewN _ _ _) (congrArg (World.drewN _) (Nat.add_assoc _ _ _))⟩)) | (go_at_call 16; refine (gf_Add.calls _ _ _ _ rfl).mono ?_; rintro e w' ⟨rfl, nd, rfl⟩; (try first | exact ⟨rfl, _, World.drewN_drewN _ _ _⟩ | exact ⟨rfl, _, Eq.trans (World.drewN_drewN _ _ _) (congrArg (World.drewN _) (Nat.add_assoc _ _ _))⟩)))
  repeat (go_quiet (first | (go_at_call 14; refine (gMul _ _ _ _ (by repeat (first | exact HT.out | (with_reducible refine Tab.drewN ?_ _) | (with_reducible refine Tab.alloc ?_ _))) (by first | assumption | exact byte_mul _ _ | exact byte_div _ _ | exact byte_exp _ | exact ⟨by omega, by omega⟩) (by first | assumption | exact byte_mul _ _ | exact byte_div _ _ | exact byte_exp _ | exact ⟨by omega, by omega⟩)).mono ?_; rintro e w' ⟨rfl, nd, rfl⟩; (try first | exact ⟨rfl, _, World.drewN_drewN _ _ _⟩ | exact ⟨rfl, _, Eq.trans (World.drewN_drewN _ _ _) (congrArg (World.drewN _) (Nat.add_assoc _ _ _))⟩)) | (go_at_call 16; refine (gf_Add.calls _ _ _ _ rfl).mono ?_; rintro e w' ⟨rfl, nd, rfl⟩; (try first | exact ⟨rfl, _, World.drewN_drewN _ _ _⟩ | exact ⟨rfl, _, Eq.trans (World.drewN_drewN _ _ _) (congrArg (World.drewN _) (Nat.add_assoc _ _ _))⟩))); try go_wp2_with (first | (go_at_call 14; refine (gMul _ _ _ _ (by repeat (first | exact HT.out | (with_reducible refine Tab.drewN ?_ _) | (with_reducible refine Tab.alloc ?_ _))) (by first | assumption | exact byte_mul _ _ | exact byte_div _ _ | exact byte_exp _ | exact ⟨by omega, by omega⟩) (by first | assumption | exact byte_mul _ _ | exact byte_div _ _ | exact byte_exp _ | exact ⟨by omega, by omega⟩)).mono ?_; rintro e w' ⟨rfl, nd, rfl⟩; (try first | exact ⟨rfl, _, World.drewN_drewN _ _ _⟩ | exact ⟨rfl, _, Eq.trans (World.drewN_drewN _ _ _) (congrArg (World.drewN _) (Nat.add_assoc _ _ _))⟩)) | (go_at_call 16; refine (gf_Add.calls _ _ _ _ rfl).mono ?_; rintro e w' ⟨rfl, nd, rfl⟩; (try first | exact ⟨rfl, _, World.drewN_drewN _ _ _⟩ | exact ⟨rfl, _, Eq.trans (World.drewN_drewN _ _ _) (congrArg (World.drewN _) (Nat.add_assoc _ _ _))⟩))))
  go_ret
  exact ⟨rfl, by repeat (first | exact HB.out | refine pw_below_drewN ?_ _)⟩
end Go.Proofs.Ytcfkldbcmbgomaa.Al
