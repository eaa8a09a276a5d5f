/- For every element and every two texts: sums of products, and what is scaled, are those of the document. The walk of the law over the contracts of the field's functions. -/
import Derived.Test.YtcfkldbcmbgomaaGfRef
import Derived.Test.YtcfkldbcmbgomaaFgfAdd
import Derived.Test.YtcfkldbcmbgomaaFcorncriblaw01names
import Derived.Test.YtcfkldbcmbgomaaGfDot
namespace Go.Proofs.Ytcfkldbcmbgomaa.Al
open Go.RowKit Go.Proofs.Ytcfkldbcmbgomaa.GfMath Go.Proofs.Ytcfkldbcmbgomaa.GfRef Go.Proofs.Ytcfkldbcmbgomaa.Base Go.Proofs.YtcfkldbcmbgomaaW.PrintWords Go.Proofs.YtcfkldbcmbgomaaW.PrintLast Go.Proofs.YtcfkldbcmbgomaaW.PrintMore
set_option linter.unusedVariables false
set_option linter.unusedSimpArgs false
def corncriblaw01_GfTexts.f (a : Int) (s : ByteArray) (t : ByteArray) : Option Bool := if (0 ≤ a ∧ a < 256) ∧ (s.size ≤ 140737488351232) ∧ (t.size ≤ 140737488351232) then some true else none
set_option maxHeartbeats 8000000 in
set_option maxRecDepth 100000 in
theorem corncriblaw01_GfTexts.calls (a : Int) (s : ByteArray) (t : ByteArray) (r : Bool) (w : World) (h : corncriblaw01_GfTexts.f a s t = some r) (hr_ : r = true) :
    Calls Try.prog 6 #[.int .u8 a, .string s, .string t] w fun e w' => e = .returned (.bool r) ∧ Below w.heap.size w w' := by
  subst hr_
  unfold corncriblaw01_GfTexts.f at h
  split at h
  case isFalse => cases h
  rename_i hh
  obtain ⟨h_a, h_s, h_t⟩ := hh
  clear h
  have by_a : Byte a := h_a
  clear h_a
  go_enter Try.func6, Try.ntmps6
  go_wp2_with (first | (go_at_call 13; refine (gf_New.calls _).mono ?_; rintro e w1 ⟨g, rfl, hg, ht, hb⟩; have HT := Aside0.mk ht; have HG := Aside0.mk hg; have HB := Aside0.mk hb; clear hg ht hb) | (go_at_call 26; refine (gf_Dot.calls _ _ _ _ (by repeat (first | exact HT.out | (with_reducible refine Tab.drewN ?_ _) | (with_reducible refine Tab.alloc ?_ _))) (by omega)).mono ?_; rintro e w' ⟨rfl, nd, rfl⟩; (try first | exact ⟨rfl, _, World.drewN_drewN _ _ _⟩ | exact ⟨rfl, _, Eq.trans (World.drewN_drewN _ _ _) (congrArg (World.drewN _) (Nat.add_assoc _ _ _))⟩)) | (go_at_call 27; refine (rDot _ _ _ (by omega)).mono ?_; rintro e w' ⟨rfl, nd, rfl⟩; (try first | exact ⟨rfl, _, World.drewN_drewN _ _ _⟩ | exact ⟨rfl, _, Eq.trans (World.drewN_drewN _ _ _) (congrArg (World.drewN _) (Nat.add_assoc _ _ _))⟩)) | (go_at_call 28; refine (gf_Scale.calls _ _ _ _ (by repeat (first | exact HT.out | (with_reducible refine Tab.drewN ?_ _) | (with_reducible refine Tab.alloc ?_ _))) by_a (by omega)).mono ?_; rintro e w2 ⟨rfl, hb2⟩; have HB2 := Aside0.mk (below_step (w := w) (by repeat (first | exact HB.out | refine pw_below_drewN ?_ _)) hb2); clear hb2) | (go_at_call 29; refine (rScale _ _ by_a (by omega)).mono ?_; rintro e w3 ⟨rfl, hb3⟩; have HB3 := Aside0.mk (below_step (w := w) (by repeat (first | exact HB2.out | refine pw_below_drewN ?_ _)) hb3); clear hb3))
  go_ret
  exact ⟨rfl, by repeat (first | exact HB3.out | refine pw_below_drewN ?_ _)⟩
end Go.Proofs.Ytcfkldbcmbgomaa.Al
