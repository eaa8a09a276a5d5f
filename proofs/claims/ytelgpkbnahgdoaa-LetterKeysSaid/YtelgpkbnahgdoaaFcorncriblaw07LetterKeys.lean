/- One function of the program comes to what its plain twin says. This text began as the kit's own print (print.py, made by cprint.sh) and was turned by split.py: it is no printed file. -/
import Derived.Test.YtelgpkbnahgdoaaF0
import Derived.Test.YtelgpkbnahgdoaaLent
import Derived.Test.YtelgpkbnahgdoaaFaux0
import Derived.Test.YtelgpkbnahgdoaaFletterKey
import Derived.Test.YtelgpkbnahgdoaaFletterRising
import Derived.Test.YtelgpkbnahgdoaaFcorncribref07Key
import Derived.Test.YtelgpkbnahgdoaaFcorncribref07Rising
import Derived.Test.YtelgpkbnahgdoaaFcorncriblaw07works
import Derived.Test.YtelgpkbnahgdoaaFcorncribbookLendTexts
import Derived.Test.YtelgpkbnahgdoaaFcorncribbookKeptTexts
namespace Go.Proofs.Ytelgpkbnahgdoaa.Al
open Go.RowKit Go.Proofs.YtelgpkbnahgdoaaW.PrintWords Go.Proofs.YtelgpkbnahgdoaaW.PrintLast Go.Proofs.YtelgpkbnahgdoaaW.PrintMore
attribute [local go_sem] max2_int min2_int max_two min_two max_three min_three max_four min_four   -- for this text's walks alone
set_option linter.unusedVariables false
set_option linter.unusedSimpArgs false

/-! ### corncriblaw07_LetterKeys: function 4 -/
def corncriblaw07_LetterKeys.f (k : Nat) (a0 : ByteArray) (l1 : List ByteArray) : Option (Bool) := (corncribbook_LendTexts.f l1).bind fun t289 => ((letter_Key.f a0).bind fun t292 => ((corncribref07_Key.f a0).bind fun t293 => (if (t292 == t293) = true then ((letter_Rising.f k t289).bind fun t294 => ((corncribref07_Rising.f k l1).bind fun t295 => (if (t294 == t295) = true then ((corncribbook_KeptTexts.f k t289 l1).bind fun t296 => (if t296 = true then ((corncriblaw07_works.f k).bind fun t297 => (some t297)) else (some false))) else (some false)))) else (some false))))
theorem corncriblaw07_LetterKeys.mono : ∀ a0 a1 k, LeO (corncriblaw07_LetterKeys.f k a0 a1) (corncriblaw07_LetterKeys.f (k + 1) a0 a1) := by
  intro a0 a1 k
  unfold corncriblaw07_LetterKeys.f
  repeat' first
      | (with_reducible exact corncribbook_KeptTexts.mono _ _ _)
      | (with_reducible exact corncriblaw07_works.mono _)
      | (with_reducible exact corncribref07_Rising.mono _ _)
      | (with_reducible exact letter_Rising.mono _ _)
      | (with_reducible exact LeO.refl _)
      | (with_reducible exact LeO.none _)
      | (with_reducible refine LeO.ite ?_ ?_)
      | (with_reducible refine LeO.bind ?_ (fun _ => ?_))
      | exact corncribbook_KeptTexts.mono _ _ _
      | exact corncriblaw07_works.mono _
      | exact corncribref07_Rising.mono _ _
      | exact letter_Rising.mono _ _
      | exact LeO.none _
      | refine LeO.ite ?_ ?_
      | refine LeO.bind ?_ (fun _ => ?_)
set_option maxHeartbeats 8000000 in
set_option maxRecDepth 100000 in
theorem corncriblaw07_LetterKeys.calls (k : Nat) (a0 : ByteArray) (A1 : Option Addr) (c1 : Nat) (l1 : List ByteArray) (r : Bool) (w : World) (hr1 : Kd.C Kd.string w A1 l1.length l1) (hc1 : l1.length ≤ c1) (h : corncriblaw07_LetterKeys.f k a0 l1 = some r) (hr_ : r = true) :
    Calls Try.prog 4 #[.string a0, .slice A1 l1.length c1] w fun e w' => e = .returned (.bool r) ∧ Below w.heap.size w w' := by
  have HRT := Aside0.mk hr_
  clear hr_
  have HR1 := Aside0.mk hr1
  have HC1 := Aside0.mk hc1
  clear hr1 hc1
  have HB := Aside0.mk (Below.refl w.heap.size w)
  have H : ((corncribbook_LendTexts.f l1).bind fun t289 => ((letter_Key.f a0).bind fun t292 => ((corncribref07_Key.f a0).bind fun t293 => (if (t292 == t293) = true then ((letter_Rising.f k t289).bind fun t294 => ((corncribref07_Rising.f k l1).bind fun t295 => (if (t294 == t295) = true then ((corncribbook_KeptTexts.f k t289 l1).bind fun t296 => (if t296 = true then ((corncriblaw07_works.f k).bind fun t297 => (some t297)) else (some false))) else (some false)))) else (some false))))) = some r := h
  clear h
  replace H := Option.bind_eq_some_iff.mp H
  obtain ⟨t289, A30, H⟩ := H
  replace H : ((letter_Key.f a0).bind fun t292 => ((corncribref07_Key.f a0).bind fun t293 => (if (t292 == t293) = true then ((letter_Rising.f k t289).bind fun t294 => ((corncribref07_Rising.f k l1).bind fun t295 => (if (t294 == t295) = true then ((corncribbook_KeptTexts.f k t289 l1).bind fun t296 => (if t296 = true then ((corncriblaw07_works.f k).bind fun t297 => (some t297)) else (some false))) else (some false)))) else (some false)))) = some r := H
  have A3 := Aside0.mk A30
  clear A30
  replace H := Option.bind_eq_some_iff.mp H
  obtain ⟨t292, A40, H⟩ := H
  replace H : ((corncribref07_Key.f a0).bind fun t293 => (if (t292 == t293) = true then ((letter_Rising.f k t289).bind fun t294 => ((corncribref07_Rising.f k l1).bind fun t295 => (if (t294 == t295) = true then ((corncribbook_KeptTexts.f k t289 l1).bind fun t296 => (if t296 = true then ((corncriblaw07_works.f k).bind fun t297 => (some t297)) else (some false))) else (some false)))) else (some false))) = some r := H
  have A4 := Aside0.mk A40
  clear A40
  replace H := Option.bind_eq_some_iff.mp H
  obtain ⟨t293, A50, H⟩ := H
  replace H : (if (t292 == t293) = true then ((letter_Rising.f k t289).bind fun t294 => ((corncribref07_Rising.f k l1).bind fun t295 => (if (t294 == t295) = true then ((corncribbook_KeptTexts.f k t289 l1).bind fun t296 => (if t296 = true then ((corncriblaw07_works.f k).bind fun t297 => (some t297)) else (some false))) else (some false)))) else (some false)) = some r := H
  have A5 := Aside0.mk A50
  clear A50
  by_cases c6 : (t292 == t293) = true
  · rw [if_pos c6] at H
    have c6b0 : (t292 == t293) = true := c6
    (try (have c6b1 : decide (t292 = t293) = true := by simpa using c6))
    (try (have c6b2 : (t292 == t293) = true := by simpa using c6))
    clear c6
    replace H := Option.bind_eq_some_iff.mp H
    obtain ⟨t294, A70, H⟩ := H
    replace H : ((corncribref07_Rising.f k l1).bind fun t295 => (if (t294 == t295) = true then ((corncribbook_KeptTexts.f k t289 l1).bind fun t296 => (if t296 = true then ((corncriblaw07_works.f k).bind fun t297 => (some t297)) else (some false))) else (some false))) = some r := H
    have A7 := Aside0.mk A70
    clear A70
    replace H := Option.bind_eq_some_iff.mp H
    obtain ⟨t295, A80, H⟩ := H
    replace H : (if (t294 == t295) = true then ((corncribbook_KeptTexts.f k t289 l1).bind fun t296 => (if t296 = true then ((corncriblaw07_works.f k).bind fun t297 => (some t297)) else (some false))) else (some false)) = some r := H
    have A8 := Aside0.mk A80
    clear A80
    by_cases c9 : (t294 == t295) = true
    · rw [if_pos c9] at H
      have c9b0 : (t294 == t295) = true := c9
      (try (have c9b1 : decide (t294 = t295) = true := by simpa using c9))
      (try (have c9b2 : (t294 == t295) = true := by simpa using c9))
      clear c9
      replace H := Option.bind_eq_some_iff.mp H
      obtain ⟨t296, A100, H⟩ := H
      replace H : (if t296 = true then ((corncriblaw07_works.f k).bind fun t297 => (some t297)) else (some false)) = some r := H
      have A10 := Aside0.mk A100
      clear A100
      by_cases c11 : t296 = true
      · subst c11
        have H1 : ((corncriblaw07_works.f k).bind fun t297 => (some t297)) = some r := by rw [if_pos rfl] at H; exact H
        clear H
        have H := H1
        clear H1
        replace H := Option.bind_eq_some_iff.mp H
        obtain ⟨t297, A120, H⟩ := H
        replace H : (some t297) = some r := H
        have A12 := Aside0.mk A120
        clear A120
        obtain rfl := Option.some.inj H
        go_enter Try.func4, Try.ntmps4
        go_wp2_with (first | ((with_reducible refine gate_callee (f := 17) rfl ?_); refine goesL_ (some 7) rfl rfl Try.func17 (by kernel_rfl) rfl #[.slice A1 l1.length c1] rfl (by (try simp only [List.map_toArray, List.map_cons, List.map_nil]); first | done | rfl | (simp only [List.length_drop, List.length_take]; rfl)) ?_; (with_reducible refine (corncribbook_LendTexts.calls _ _ l1 t289 _ ?side1 ?side2 A3.out).mono ?_); (case side1 => repeat (first | exact HR1.out | (with_reducible refine Kd.C_alloc ?_ _) | (with_reducible refine Kd.C_drewN ?_ _) | (with_reducible refine Kd.C_drew ?_))); (case side2 => exact HC1.out); rintro e w13 ⟨v290, rfl, ho0, hb⟩; refine ⟨_, rfl, ?_⟩; have n0_ := Aside0.mk (RL_lower ho0 (below_size (by repeat (first | (with_reducible first | exact HB.out | apply below_alloc | apply pw_below_drewN | apply below_drew1) | exact HB.out)))); have n1_ := Aside0.mk (below_step (by repeat (first | (with_reducible first | exact HB.out | apply below_alloc | apply pw_below_drewN | apply below_drew1) | exact HB.out)) hb); clear HB; have HO291 := n0_; have HB := n1_; clear n0_ n1_; (try clear hb); (try clear hb2); (try clear hk); (try clear hi); (try clear ho0)) | ((with_reducible refine gate_callee (f := 18) rfl ?_); refine goesL_ (some 9) rfl rfl Try.func18 (by kernel_rfl) rfl #[.string a0] rfl (by (try simp only [List.map_toArray, List.map_cons, List.map_nil]); first | done | rfl | (simp only [List.length_drop, List.length_take]; rfl)) ?_; (with_reducible refine (letter_Key.calls a0 t292 _ A4.out).mono ?_); rintro e w' ⟨rfl, ⟨nd, rfl⟩⟩; refine ⟨_, rfl, ?_⟩) | ((with_reducible refine gate_callee (f := 19) rfl ?_); refine goesL_ (some 11) rfl rfl Try.func19 (by kernel_rfl) rfl #[.string a0] rfl (by (try simp only [List.map_toArray, List.map_cons, List.map_nil]); first | done | rfl | (simp only [List.length_drop, List.length_take]; rfl)) ?_; (with_reducible refine (corncribref07_Key.calls a0 t293 _ A5.out).mono ?_); rintro e w' ⟨rfl, ⟨nd, rfl⟩⟩; refine ⟨_, rfl, ?_⟩; obtain ⟨Ao14, co14, eo14⟩ := Kd.R_slice HO291.out.1; subst eo14) | (go_at_call 20; (with_reducible refine (letter_Rising.calls k _ _ t289 t294 _ ?side1 ?side2 A7.out).mono ?_); (case side1 => repeat (first | exact (Kd.R_reads' HO291.out.1).2.2 | (with_reducible refine Kd.C_alloc ?_ _) | (with_reducible refine Kd.C_drewN ?_ _) | (with_reducible refine Kd.C_drew ?_))); (case side2 => exact (Kd.R_reads' HO291.out.1).2.1); rintro e w' ⟨rfl, ⟨nd, rfl⟩⟩) | (go_at_call 21; (with_reducible refine (corncribref07_Rising.calls k _ _ l1 t295 _ ?side1 ?side2 A8.out).mono ?_); (case side1 => repeat (first | exact (Kd.C_below HR1.out (by repeat (first | (with_reducible first | exact HB.out | apply below_alloc | apply pw_below_drewN | apply below_drew1) | exact HB.out))) | (with_reducible refine Kd.C_alloc ?_ _) | (with_reducible refine Kd.C_drewN ?_ _) | (with_reducible refine Kd.C_drew ?_))); (case side2 => exact HC1.out); rintro e w' ⟨rfl, ⟨nd, rfl⟩⟩) | (go_at_call 22; (with_reducible refine (corncribbook_KeptTexts.calls k _ _ t289 _ _ l1 true _ ?side1 ?side2 ?side3 ?side4 A10.out).mono ?_); (case side1 => repeat (first | exact RL_C HO291.out | (with_reducible refine Kd.C_alloc ?_ _) | (with_reducible refine Kd.C_drewN ?_ _) | (with_reducible refine Kd.C_drew ?_))); (case side2 => exact RL_cap HO291.out); (case side3 => repeat (first | exact (Kd.C_below HR1.out (by repeat (first | (with_reducible first | exact HB.out | apply below_alloc | apply pw_below_drewN | apply below_drew1) | exact HB.out))) | (with_reducible refine Kd.C_alloc ?_ _) | (with_reducible refine Kd.C_drewN ?_ _) | (with_reducible refine Kd.C_drew ?_))); (case side4 => exact HC1.out); rintro e w' ⟨rfl, ⟨nd, rfl⟩⟩) | (go_at_call 16; (with_reducible refine (corncriblaw07_works.calls k  t297 _ A12.out).mono ?_); rintro e w15 ⟨rfl, hb⟩; have n0_ := Aside0.mk (RL_below (by (with_reducible repeat (first | apply RL_alloc | apply RL_drewN | apply RL_drew)); exact HO291.out) hb); have n1_ := Aside0.mk (below_step (by repeat (first | (with_reducible first | exact HB.out | apply below_alloc | apply pw_below_drewN | apply below_drew1) | exact HB.out)) hb); clear HO291; clear HB; have HO291 := n0_; have HB := n1_; clear n0_ n1_; (try clear hb); (try clear hb2); (try clear hk); (try clear hi)))
        go_ret
        exact ⟨by first | rfl | (simp [errW_none, errW_some] <;> rfl) | (simp [*, errW_none, errW_some] <;> rfl), by repeat (first | (with_reducible first | exact HB.out | apply below_alloc | apply pw_below_drewN | apply below_drew1) | exact HB.out)⟩
      · replace c11 := Bool.eq_false_iff.mpr c11
        subst c11
        have H1 : (some false) = some r := by rw [if_neg (show ¬ (false = true) by decide)] at H; exact H
        clear H
        have H := H1
        clear H1
        exact absurd (H.trans (congrArg some HRT.out)) (by simp)
    · rw [if_neg c9] at H
      have c9b0 : (t294 == t295) = false := by simpa using c9
      (try (have c9b1 : decide (t294 = t295) = false := by simpa using c9))
      (try (have c9b2 : (t294 == t295) = false := by simpa using c9))
      (try (have c9b3 : ¬ (t294 = t295) := by simpa using c9))
      clear c9
      exact absurd (H.trans (congrArg some HRT.out)) (by simp)
  · rw [if_neg c6] at H
    have c6b0 : (t292 == t293) = false := by simpa using c6
    (try (have c6b1 : decide (t292 = t293) = false := by simpa using c6))
    (try (have c6b2 : (t292 == t293) = false := by simpa using c6))
    (try (have c6b3 : ¬ (t292 = t293) := by simpa using c6))
    clear c6
    exact absurd (H.trans (congrArg some HRT.out)) (by simp)

end Go.Proofs.Ytelgpkbnahgdoaa.Al
