/- One function of the program comes to what its plain twin says. This text began as the kit's own print (print.py, made by cprint.sh) and was turned by split.py: it is no printed file. -/
import Derived.Test.YtdajpglkggmpoaaF0
import Derived.Test.YtdajpglkggmpoaaLent
import Derived.Test.YtdajpglkggmpoaaFsumOf
import Derived.Test.YtdajpglkggmpoaaFcorncriblaw05works
import Derived.Test.YtdajpglkggmpoaaFcorncribbookLendTexts
import Derived.Test.YtdajpglkggmpoaaFsumFrame
import Derived.Test.YtdajpglkggmpoaaFcorncribref05Frame
import Derived.Test.YtdajpglkggmpoaaFcorncribref05Of
import Derived.Test.YtdajpglkggmpoaaFcorncribbookKeptTexts
namespace Go.Proofs.Ytdajpglkggmpoaa.Al
open Go.RowKit Go.Proofs.YtdajpglkggmpoaaW.PrintWords Go.Proofs.YtdajpglkggmpoaaW.PrintLast Go.Proofs.YtdajpglkggmpoaaW.PrintMore
attribute [local go_sem] max2_int min2_int max_two min_two max_three min_three max_four min_four   -- for this text's walks alone
set_option linter.unusedVariables false
set_option linter.unusedSimpArgs false

/-! ### corncriblaw05_SumPieces: function 4 -/
def corncriblaw05_SumPieces.f (k : Nat) (l0 : List ByteArray) (a1 : ByteArray) : Option (Bool) := (corncribbook_LendTexts.f l0).bind fun t166 => ((sum_Frame.f k a1).bind fun bt169 => ((corncribref05_Frame.f k a1).bind fun bt171 => ((sum_Of.f k t166).bind fun t173 => ((corncribref05_Of.f k l0).bind fun t174 => (if t173 = t174 then ((corncribbook_KeptTexts.f k t166 l0).bind fun t175 => (if t175 = true then (if bt169.1.toList = bt171.1.toList then (if bt169.2 = bt171.2 then ((corncriblaw05_works.f k).bind fun t176 => (some t176)) else (some false)) else (some false)) else (some false))) else (some false))))))
theorem corncriblaw05_SumPieces.mono : ∀ a0 a1 k, LeO (corncriblaw05_SumPieces.f k a0 a1) (corncriblaw05_SumPieces.f (k + 1) a0 a1) := by
  intro a0 a1 k
  unfold corncriblaw05_SumPieces.f
  repeat' first
      | (with_reducible exact corncribbook_KeptTexts.mono _ _ _)
      | (with_reducible exact corncriblaw05_works.mono _)
      | (with_reducible exact corncribref05_Frame.mono _ _)
      | (with_reducible exact corncribref05_Of.mono _ _)
      | (with_reducible exact sum_Frame.mono _ _)
      | (with_reducible exact sum_Of.mono _ _)
      | (with_reducible exact LeO.refl _)
      | (with_reducible exact LeO.none _)
      | (with_reducible refine LeO.ite ?_ ?_)
      | (with_reducible refine LeO.bind ?_ (fun _ => ?_))
      | exact corncribbook_KeptTexts.mono _ _ _
      | exact corncriblaw05_works.mono _
      | exact corncribref05_Frame.mono _ _
      | exact corncribref05_Of.mono _ _
      | exact sum_Frame.mono _ _
      | exact sum_Of.mono _ _
      | exact LeO.none _
      | refine LeO.ite ?_ ?_
      | refine LeO.bind ?_ (fun _ => ?_)
set_option maxHeartbeats 8000000 in
set_option maxRecDepth 100000 in
theorem corncriblaw05_SumPieces.calls (k : Nat) (A0 : Option Addr) (c0 : Nat) (l0 : List ByteArray) (a1 : ByteArray) (r : Bool) (w : World) (hr0 : Kd.C Kd.string w A0 l0.length l0) (hc0 : l0.length ≤ c0) (h : corncriblaw05_SumPieces.f k l0 a1 = some r) (hr_ : r = true) :
    Calls Try.prog 4 #[.slice A0 l0.length c0, .string a1] w fun e w' => e = .returned (.bool r) ∧ Below w.heap.size w w' := by
  have HRT := Aside0.mk hr_
  clear hr_
  have HR0 := Aside0.mk hr0
  have HC0 := Aside0.mk hc0
  clear hr0 hc0
  have HB := Aside0.mk (Below.refl w.heap.size w)
  have H : ((corncribbook_LendTexts.f l0).bind fun t166 => ((sum_Frame.f k a1).bind fun bt169 => ((corncribref05_Frame.f k a1).bind fun bt171 => ((sum_Of.f k t166).bind fun t173 => ((corncribref05_Of.f k l0).bind fun t174 => (if t173 = t174 then ((corncribbook_KeptTexts.f k t166 l0).bind fun t175 => (if t175 = true then (if bt169.1.toList = bt171.1.toList then (if bt169.2 = bt171.2 then ((corncriblaw05_works.f k).bind fun t176 => (some t176)) else (some false)) else (some false)) else (some false))) else (some false))))))) = some r := h
  clear h
  replace H := Option.bind_eq_some_iff.mp H
  obtain ⟨t166, A30, H⟩ := H
  replace H : ((sum_Frame.f k a1).bind fun bt169 => ((corncribref05_Frame.f k a1).bind fun bt171 => ((sum_Of.f k t166).bind fun t173 => ((corncribref05_Of.f k l0).bind fun t174 => (if t173 = t174 then ((corncribbook_KeptTexts.f k t166 l0).bind fun t175 => (if t175 = true then (if bt169.1.toList = bt171.1.toList then (if bt169.2 = bt171.2 then ((corncriblaw05_works.f k).bind fun t176 => (some t176)) else (some false)) else (some false)) else (some false))) else (some false)))))) = some r := H
  have A3 := Aside0.mk A30
  clear A30
  replace H := Option.bind_eq_some_iff.mp H
  obtain ⟨⟨t169, t170⟩, A40, H⟩ := H
  replace H : ((corncribref05_Frame.f k a1).bind fun bt171 => ((sum_Of.f k t166).bind fun t173 => ((corncribref05_Of.f k l0).bind fun t174 => (if t173 = t174 then ((corncribbook_KeptTexts.f k t166 l0).bind fun t175 => (if t175 = true then (if t169.toList = bt171.1.toList then (if t170 = bt171.2 then ((corncriblaw05_works.f k).bind fun t176 => (some t176)) else (some false)) else (some false)) else (some false))) else (some false))))) = some r := H
  have A4 := Aside0.mk A40
  clear A40
  replace H := Option.bind_eq_some_iff.mp H
  obtain ⟨⟨t171, t172⟩, A50, H⟩ := H
  replace H : ((sum_Of.f k t166).bind fun t173 => ((corncribref05_Of.f k l0).bind fun t174 => (if t173 = t174 then ((corncribbook_KeptTexts.f k t166 l0).bind fun t175 => (if t175 = true then (if t169.toList = t171.toList then (if t170 = t172 then ((corncriblaw05_works.f k).bind fun t176 => (some t176)) else (some false)) else (some false)) else (some false))) else (some false)))) = some r := H
  have A5 := Aside0.mk A50
  clear A50
  replace H := Option.bind_eq_some_iff.mp H
  obtain ⟨t173, A60, H⟩ := H
  replace H : ((corncribref05_Of.f k l0).bind fun t174 => (if t173 = t174 then ((corncribbook_KeptTexts.f k t166 l0).bind fun t175 => (if t175 = true then (if t169.toList = t171.toList then (if t170 = t172 then ((corncriblaw05_works.f k).bind fun t176 => (some t176)) else (some false)) else (some false)) else (some false))) else (some false))) = some r := H
  have A6 := Aside0.mk A60
  clear A60
  replace H := Option.bind_eq_some_iff.mp H
  obtain ⟨t174, A70, H⟩ := H
  replace H : (if t173 = t174 then ((corncribbook_KeptTexts.f k t166 l0).bind fun t175 => (if t175 = true then (if t169.toList = t171.toList then (if t170 = t172 then ((corncriblaw05_works.f k).bind fun t176 => (some t176)) else (some false)) else (some false)) else (some false))) else (some false)) = some r := H
  have A7 := Aside0.mk A70
  clear A70
  by_cases c8 : t173 = t174
  · rw [if_pos c8] at H
    have c8b0 : (t173 == t174) = true := beq_iff_eq.mpr c8
    have c8b1 : (t173 != t174) = false := bne_eq_false_iff_eq.mpr c8
    clear c8
    replace H := Option.bind_eq_some_iff.mp H
    obtain ⟨t175, A90, H⟩ := H
    replace H : (if t175 = true then (if t169.toList = t171.toList then (if t170 = t172 then ((corncriblaw05_works.f k).bind fun t176 => (some t176)) else (some false)) else (some false)) else (some false)) = some r := H
    have A9 := Aside0.mk A90
    clear A90
    by_cases c10 : t175 = true
    · subst c10
      have H1 : (if t169.toList = t171.toList then (if t170 = t172 then ((corncriblaw05_works.f k).bind fun t176 => (some t176)) else (some false)) else (some false)) = some r := by rw [if_pos rfl] at H; exact H
      clear H
      have H := H1
      clear H1
      by_cases c11 : t169.toList = t171.toList
      · rw [if_pos c11] at H
        have c11b0 : (t169.toList == t171.toList) = true := beq_iff_eq.mpr c11
        have c11b1 : (t169.toList != t171.toList) = false := bne_eq_false_iff_eq.mpr c11
        clear c11
        by_cases c12 : t170 = t172
        · rw [if_pos c12] at H
          have c12b0 : (t170 == t172) = true := beq_iff_eq.mpr c12
          have c12b1 : (t170 != t172) = false := bne_eq_false_iff_eq.mpr c12
          clear c12
          replace H := Option.bind_eq_some_iff.mp H
          obtain ⟨t176, A130, H⟩ := H
          replace H : (some t176) = some r := H
          have A13 := Aside0.mk A130
          clear A130
          obtain rfl := Option.some.inj H
          go_enter Try.func4, Try.ntmps4
          go_wp2_with (first | ((with_reducible refine gate_callee (f := 12) rfl ?_); refine goesL_ (some 11) rfl rfl Try.func12 (by kernel_rfl) rfl #[.slice A0 l0.length c0] rfl (by (try simp only [List.map_toArray, List.map_cons, List.map_nil]); first | done | rfl | (simp only [List.length_drop, List.length_take]; rfl)) ?_; (with_reducible refine (corncribbook_LendTexts.calls _ _ l0 t166 _ ?side1 ?side2 A3.out).mono ?_); (case side1 => repeat (first | exact HR0.out | (with_reducible refine Kd.C_alloc ?_ _) | (with_reducible refine Kd.C_drewN ?_ _) | (with_reducible refine Kd.C_drew ?_))); (case side2 => exact HC0.out); rintro e w14 ⟨v167, rfl, ho0, hb⟩; refine ⟨_, rfl, ?_⟩; have n0_ := Aside0.mk (RL_lower ho0 (below_size (by repeat (first | (with_reducible first | exact HB.out | apply below_alloc | apply pw_below_drewN | apply below_drew1) | exact HB.out)))); have n1_ := Aside0.mk (below_step (by repeat (first | (with_reducible first | exact HB.out | apply below_alloc | apply pw_below_drewN | apply below_drew1) | exact HB.out)) hb); clear HB; have HO168 := n0_; have HB := n1_; clear n0_ n1_; (try clear hb); (try clear hb2); (try clear hk); (try clear hi); (try clear ho0)) | ((with_reducible refine gate_callee (f := 13) rfl ?_); refine goesL_ (some 14) rfl rfl Try.func13 (by kernel_rfl) rfl #[.string a1] rfl (by (try simp only [List.map_toArray, List.map_cons, List.map_nil]); first | done | rfl | (simp only [List.length_drop, List.length_take]; rfl)) ?_; (with_reducible refine (sum_Frame.calls k a1 t169 t170 _ A4.out).mono ?_); rintro e w15 ⟨rfl, hb⟩; refine ⟨_, rfl, ?_⟩; have n0_ := Aside0.mk (RL_below (by (with_reducible repeat (first | apply RL_alloc | apply RL_drewN | apply RL_drew)); exact HO168.out) hb); have n1_ := Aside0.mk (below_step (by repeat (first | (with_reducible first | exact HB.out | apply below_alloc | apply pw_below_drewN | apply below_drew1) | exact HB.out)) hb); clear HO168; clear HB; have HO168 := n0_; have HB := n1_; clear n0_ n1_; (try clear hb); (try clear hb2); (try clear hk); (try clear hi)) | ((with_reducible refine gate_callee (f := 14) rfl ?_); refine goesL_ (some 19) rfl rfl Try.func14 (by kernel_rfl) rfl #[.string a1] rfl (by (try simp only [List.map_toArray, List.map_cons, List.map_nil]); first | done | rfl | (simp only [List.length_drop, List.length_take]; rfl)) ?_; (with_reducible refine (corncribref05_Frame.calls k a1 t171 t172 _ A5.out).mono ?_); rintro e w16 ⟨rfl, hb⟩; refine ⟨_, rfl, ?_⟩; have n0_ := Aside0.mk (RL_below (by (with_reducible repeat (first | apply RL_alloc | apply RL_drewN | apply RL_drew)); exact HO168.out) hb); have n1_ := Aside0.mk (below_step (by repeat (first | (with_reducible first | exact HB.out | apply below_alloc | apply pw_below_drewN | apply below_drew1) | exact HB.out)) hb); clear HO168; clear HB; have HO168 := n0_; have HB := n1_; clear n0_ n1_; (try clear hb); (try clear hb2); (try clear hk); (try clear hi); obtain ⟨Ao17, co17, eo17⟩ := Kd.R_slice HO168.out.1; subst eo17) | (go_at_call 11; (with_reducible refine (sum_Of.calls k _ _ t166 t173 _ ?side1 ?side2 A6.out).mono ?_); (case side1 => repeat (first | exact (Kd.R_reads' HO168.out.1).2.2 | (with_reducible refine Kd.C_alloc ?_ _) | (with_reducible refine Kd.C_drewN ?_ _) | (with_reducible refine Kd.C_drew ?_))); (case side2 => exact (Kd.R_reads' HO168.out.1).2.1); rintro e w' ⟨rfl, ⟨nd, rfl⟩⟩) | (go_at_call 15; (with_reducible refine (corncribref05_Of.calls k _ _ l0 t174 _ ?side1 ?side2 A7.out).mono ?_); (case side1 => repeat (first | exact (Kd.C_below HR0.out (by repeat (first | (with_reducible first | exact HB.out | apply below_alloc | apply pw_below_drewN | apply below_drew1) | exact HB.out))) | (with_reducible refine Kd.C_alloc ?_ _) | (with_reducible refine Kd.C_drewN ?_ _) | (with_reducible refine Kd.C_drew ?_))); (case side2 => exact HC0.out); rintro e w' ⟨rfl, ⟨nd, rfl⟩⟩) | (go_at_call 16; (with_reducible refine (corncribbook_KeptTexts.calls k _ _ t166 _ _ l0 true _ ?side1 ?side2 ?side3 ?side4 A9.out).mono ?_); (case side1 => repeat (first | exact RL_C HO168.out | (with_reducible refine Kd.C_alloc ?_ _) | (with_reducible refine Kd.C_drewN ?_ _) | (with_reducible refine Kd.C_drew ?_))); (case side2 => exact RL_cap HO168.out); (case side3 => repeat (first | exact (Kd.C_below HR0.out (by repeat (first | (with_reducible first | exact HB.out | apply below_alloc | apply pw_below_drewN | apply below_drew1) | exact HB.out))) | (with_reducible refine Kd.C_alloc ?_ _) | (with_reducible refine Kd.C_drewN ?_ _) | (with_reducible refine Kd.C_drew ?_))); (case side4 => exact HC0.out); rintro e w' ⟨rfl, ⟨nd, rfl⟩⟩) | (go_at_call 10; (with_reducible refine (corncriblaw05_works.calls k  t176 _ A13.out).mono ?_); rintro e w18 ⟨rfl, hb⟩; have n0_ := Aside0.mk (RL_below (by (with_reducible repeat (first | apply RL_alloc | apply RL_drewN | apply RL_drew)); exact HO168.out) hb); have n1_ := Aside0.mk (below_step (by repeat (first | (with_reducible first | exact HB.out | apply below_alloc | apply pw_below_drewN | apply below_drew1) | exact HB.out)) hb); clear HO168; clear HB; have HO168 := n0_; have HB := n1_; clear n0_ n1_; (try clear hb); (try clear hb2); (try clear hk); (try clear hi)))
          go_ret
          exact ⟨by first | rfl | (simp [errW_none, errW_some] <;> rfl) | (simp [*, errW_none, errW_some] <;> rfl), by repeat (first | (with_reducible first | exact HB.out | apply below_alloc | apply pw_below_drewN | apply below_drew1) | exact HB.out)⟩
        · rw [if_neg c12] at H
          have c12b0 : (t170 == t172) = false := beq_eq_false_iff_ne.mpr c12
          have c12b1 : (t170 != t172) = true := bne_iff_ne.mpr c12
          exact absurd (H.trans (congrArg some HRT.out)) (by simp)
      · rw [if_neg c11] at H
        have c11b0 : (t169.toList == t171.toList) = false := beq_eq_false_iff_ne.mpr c11
        have c11b1 : (t169.toList != t171.toList) = true := bne_iff_ne.mpr c11
        exact absurd (H.trans (congrArg some HRT.out)) (by simp)
    · replace c10 := Bool.eq_false_iff.mpr c10
      subst c10
      have H1 : (some false) = some r := by rw [if_neg (show ¬ (false = true) by decide)] at H; exact H
      clear H
      have H := H1
      clear H1
      exact absurd (H.trans (congrArg some HRT.out)) (by simp)
  · rw [if_neg c8] at H
    have c8b0 : (t173 == t174) = false := beq_eq_false_iff_ne.mpr c8
    have c8b1 : (t173 != t174) = true := bne_iff_ne.mpr c8
    exact absurd (H.trans (congrArg some HRT.out)) (by simp)

end Go.Proofs.Ytdajpglkggmpoaa.Al
