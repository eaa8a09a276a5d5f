/- One function of the program comes to what its plain twin says. This text began as the kit's own print (print.py, made by cprint.sh) and was turned by split.py: it is no printed file. -/
import Derived.Test.YtdecpagcaondiaaPte
namespace Go.Proofs.Ytdecpagcaondiaa.Al
open Go.RowKit Go.Proofs.YtdecpagcaondiaaW.PrintWords Go.Proofs.YtdecpagcaondiaaW.PrintLast Go.Proofs.YtdecpagcaondiaaW.PrintMore
attribute [local go_sem] max2_int min2_int max_two min_two max_three min_three max_four min_four   -- for this text's walks alone
set_option linter.unusedVariables false
set_option linter.unusedSimpArgs false

/-! ### corncriblaw21_TermTold: function 6 -/
def corncriblaw21_TermTold.f (k : Nat) (a0_0 : Int) (a0_1 : Int) (a0_2 : Int) (l1 : List (S34)) : Option (Bool) := (corncriblaw21_copied.f k l1).bind fun t394 => ((term_Told.f a0_0 a0_1 a0_2 t394).bind fun bt397 => ((corncribref21_Told.f k a0_0 a0_1 a0_2 l1).bind fun bt400 => (if bt397.1 = bt400.1 then (if bt397.2.1 = bt400.2.1 then (if bt397.2.2 = bt400.2.2 then ((corncribbook_SameLetters.f k t394 l1).bind fun t403 => (if t403 = true then ((corncriblaw21_works.f).bind fun t404 => (some t404)) else (some false))) else (some false)) else (some false)) else (some false))))
theorem corncriblaw21_TermTold.mono : ∀ a0 a1 a2 a3 k, LeO (corncriblaw21_TermTold.f k a0 a1 a2 a3) (corncriblaw21_TermTold.f (k + 1) a0 a1 a2 a3) := by
  intro a0 a1 a2 a3 k
  unfold corncriblaw21_TermTold.f
  repeat' first
      | (with_reducible exact corncribbook_SameLetters.mono _ _ _)
      | (with_reducible exact corncriblaw21_copied.mono _ _)
      | (with_reducible exact corncribref21_Told.mono _ _ _ _ _)
      | (with_reducible exact LeO.refl _)
      | (with_reducible exact LeO.none _)
      | (with_reducible refine LeO.ite ?_ ?_)
      | (with_reducible refine LeO.bind ?_ (fun _ => ?_))
      | exact corncribbook_SameLetters.mono _ _ _
      | exact corncriblaw21_copied.mono _ _
      | exact corncribref21_Told.mono _ _ _ _ _
      | exact LeO.none _
      | refine LeO.ite ?_ ?_
      | refine LeO.bind ?_ (fun _ => ?_)
set_option maxHeartbeats 8000000 in
set_option maxRecDepth 100000 in
theorem corncriblaw21_TermTold.calls (k : Nat) (a0_0 : Int) (a0_1 : Int) (a0_2 : Int) (A1 : Option Addr) (c1 : Nat) (l1 : List (S34)) (r : Bool) (w : World) (hr1 : Kd.C k34 w A1 l1.length l1) (hc1 : l1.length ≤ c1) (h : corncriblaw21_TermTold.f k a0_0 a0_1 a0_2 l1 = some r) (hr_ : r = true) :
    Calls Try.prog 6 #[.agg #[.int .i64 a0_0, .int .i64 a0_1, .int .i64 a0_2], .slice A1 l1.length c1] w fun e w' => e = .returned (.bool r) ∧ Below w.heap.size w w' := by
  have HRT := Aside0.mk hr_
  clear hr_
  have hu23 := Try.underlying23
  have HR1 := Aside0.mk hr1
  have HC1 := Aside0.mk hc1
  clear hr1 hc1
  have HB := Aside0.mk (Below.refl w.heap.size w)
  have H : ((corncriblaw21_copied.f k l1).bind fun t394 => ((term_Told.f a0_0 a0_1 a0_2 t394).bind fun bt397 => ((corncribref21_Told.f k a0_0 a0_1 a0_2 l1).bind fun bt400 => (if bt397.1 = bt400.1 then (if bt397.2.1 = bt400.2.1 then (if bt397.2.2 = bt400.2.2 then ((corncribbook_SameLetters.f k t394 l1).bind fun t403 => (if t403 = true then ((corncriblaw21_works.f).bind fun t404 => (some t404)) else (some false))) else (some false)) else (some false)) else (some false))))) = some r := h
  clear h
  replace H := Option.bind_eq_some_iff.mp H
  obtain ⟨t394, A30, H⟩ := H
  replace H : ((term_Told.f a0_0 a0_1 a0_2 t394).bind fun bt397 => ((corncribref21_Told.f k a0_0 a0_1 a0_2 l1).bind fun bt400 => (if bt397.1 = bt400.1 then (if bt397.2.1 = bt400.2.1 then (if bt397.2.2 = bt400.2.2 then ((corncribbook_SameLetters.f k t394 l1).bind fun t403 => (if t403 = true then ((corncriblaw21_works.f).bind fun t404 => (some t404)) else (some false))) else (some false)) else (some false)) else (some false)))) = some r := H
  have A3 := Aside0.mk A30
  clear A30
  replace H := Option.bind_eq_some_iff.mp H
  obtain ⟨⟨t397, t398, t399⟩, A40, H⟩ := H
  replace H : ((corncribref21_Told.f k a0_0 a0_1 a0_2 l1).bind fun bt400 => (if t397 = bt400.1 then (if t398 = bt400.2.1 then (if t399 = bt400.2.2 then ((corncribbook_SameLetters.f k t394 l1).bind fun t403 => (if t403 = true then ((corncriblaw21_works.f).bind fun t404 => (some t404)) else (some false))) else (some false)) else (some false)) else (some false))) = some r := H
  have A4 := Aside0.mk A40
  clear A40
  replace H := Option.bind_eq_some_iff.mp H
  obtain ⟨⟨t400, t401, t402⟩, A50, H⟩ := H
  replace H : (if t397 = t400 then (if t398 = t401 then (if t399 = t402 then ((corncribbook_SameLetters.f k t394 l1).bind fun t403 => (if t403 = true then ((corncriblaw21_works.f).bind fun t404 => (some t404)) else (some false))) else (some false)) else (some false)) else (some false)) = some r := H
  have A5 := Aside0.mk A50
  clear A50
  by_cases c6 : t397 = t400
  · rw [if_pos c6] at H
    have c6b0 : (t397 == t400) = true := beq_iff_eq.mpr c6
    have c6b1 : (t397 != t400) = false := bne_eq_false_iff_eq.mpr c6
    clear c6
    by_cases c7 : t398 = t401
    · rw [if_pos c7] at H
      have c7b0 : (t398 == t401) = true := beq_iff_eq.mpr c7
      have c7b1 : (t398 != t401) = false := bne_eq_false_iff_eq.mpr c7
      clear c7
      by_cases c8 : t399 = t402
      · rw [if_pos c8] at H
        have c8b0 : (t399 == t402) = true := beq_iff_eq.mpr c8
        have c8b1 : (t399 != t402) = false := bne_eq_false_iff_eq.mpr c8
        clear c8
        replace H := Option.bind_eq_some_iff.mp H
        obtain ⟨t403, A90, H⟩ := H
        replace H : (if t403 = true then ((corncriblaw21_works.f).bind fun t404 => (some t404)) else (some false)) = some r := H
        have A9 := Aside0.mk A90
        clear A90
        by_cases c10 : t403 = true
        · subst c10
          have H1 : ((corncriblaw21_works.f).bind fun t404 => (some t404)) = some r := by rw [if_pos rfl] at H; exact H
          clear H
          have H := H1
          clear H1
          replace H := Option.bind_eq_some_iff.mp H
          obtain ⟨t404, A110, H⟩ := H
          replace H : (some t404) = some r := H
          have A11 := Aside0.mk A110
          clear A110
          obtain rfl := Option.some.inj H
          go_enter Try.func6, Try.ntmps6
          go_wp2_with (first | ((with_reducible refine gate_dst (N := 2) rfl ?_); refine box_event ?hg (N := 2) ?hd (cs := #[.int .i64 a0_0, .int .i64 a0_1, .int .i64 a0_2]) (t := 23) ?hr ?_; (case hd => rfl); (case hg => rfl); (case hr => first | (go_simp; done) | (go_simp; rfl)); intro gb393 hg w12 hbox hb; have n0_ := Aside0.mk (below_step (by repeat (first | (with_reducible first | exact HB.out | apply below_alloc | apply pw_below_drewN | apply below_drew1) | exact HB.out)) hb); have n1_ := Aside0.mk (hbox); have n2_ := Aside0.mk ((by rw [hg]; exact (below_size (by repeat (first | (with_reducible first | exact HB.out | apply below_alloc | apply pw_below_drewN | apply below_drew1) | exact HB.out))) : w.heap.size ≤ gb393)); have n3_ := Aside0.mk ((by rw [hg]; exact (below_size (by repeat (first | (with_reducible first | exact HB.out | apply below_alloc | apply pw_below_drewN | apply below_drew1) | exact HB.out))) : w.heap.size ≤ gb393)); clear HB; have HB := n0_; have BK393 := n1_; have GW393 := n2_; have GE393 := n3_; clear n0_ n1_ n2_ n3_; clear hb hbox hg) | ((with_reducible refine gate_callee (f := 11) rfl ?_); refine goesL_ (some 13) rfl rfl Try.func11 (by kernel_rfl) rfl #[.slice A1 l1.length c1] rfl (by (try simp only [List.map_toArray, List.map_cons, List.map_nil]); first | done | rfl | (simp only [List.length_drop, List.length_take]; rfl)) ?_; (with_reducible refine (corncriblaw21_copied.calls k _ _ l1 t394 _ ?side1 ?side2 A3.out).mono ?_); (case side1 => repeat (first | exact (Kd.C_below HR1.out HB.out) | (with_reducible refine Kd.C_alloc ?_ _) | (with_reducible refine Kd.C_drewN ?_ _) | (with_reducible refine Kd.C_drew ?_))); (case side2 => exact HC1.out); rintro e w13 ⟨v395, rfl, ho0, hb⟩; refine ⟨_, rfl, ?_⟩; have n0_ := Aside0.mk (Kd.S_lower ho0 (below_size (by repeat (first | (with_reducible first | exact HB.out | apply below_alloc | apply pw_below_drewN | apply below_drew1 | refine below_set ?_ GE393.out) | exact HB.out)))); have n1_ := Aside0.mk (blk_below (g := gb393) (o := .cells #[.int .i64 a0_0, .int .i64 a0_1, .int .i64 a0_2] 23 (0, 0)) (by (with_reducible repeat (first | refine blk_drewN ?_ _ | refine blk_drew ?_ | refine blk_alloc ?_ _)); exact BK393.out) hb); have n2_ := Aside0.mk (below_step (by repeat (first | (with_reducible first | exact HB.out | apply below_alloc | apply pw_below_drewN | apply below_drew1 | refine below_set ?_ GE393.out) | exact HB.out)) hb); clear BK393; clear HB; have HO396 := n0_; have BK393 := n1_; have HB := n2_; clear n0_ n1_ n2_; (try clear hb); (try clear hb2); (try clear hk); (try clear hi); (try clear ho0); have hcz14_0 : w13.cell? ⟨gb393, 0, none⟩ = some (.int .i64 a0_0) := (blk_cell BK393.out 0).trans rfl; have hcz14_1 : w13.cell? ⟨gb393, 1, none⟩ = some (.int .i64 a0_1) := (blk_cell BK393.out 1).trans rfl; have hcz14_2 : w13.cell? ⟨gb393, 2, none⟩ = some (.int .i64 a0_2) := (blk_cell BK393.out 2).trans rfl; have hfz14_0 := blk_frozen BK393.out 0; have hfz14_1 := blk_frozen BK393.out 1; have hfz14_2 := blk_frozen BK393.out 2; obtain ⟨Ao15, co15, eo15⟩ := Kd.S_slice HO396.out; subst eo15) | ((with_reducible refine gate_callee (f := 18) rfl ?_); refine goesL_ (some 22) rfl rfl Try.func18 (by kernel_rfl) rfl #[.int .i64 a0_0, .int .i64 a0_1, .int .i64 a0_2, .slice Ao15 t394.length co15] rfl (by (try simp only [List.map_toArray, List.map_cons, List.map_nil]); first | done | rfl | (simp only [List.length_drop, List.length_take]; rfl)) ?_; (with_reducible refine (term_Told.calls a0_0 a0_1 a0_2 _ _ t394 t397 t398 t399 _ ?side1 ?side2 A4.out).mono ?_); (case side1 => repeat (first | exact (Kd.S_reads' HO396.out).2.2 | (with_reducible refine Kd.C_alloc ?_ _) | (with_reducible refine Kd.C_drewN ?_ _) | (with_reducible refine Kd.C_drew ?_))); (case side2 => exact (Kd.S_reads' HO396.out).2.1); rintro e w16 ⟨rfl, hb⟩; refine ⟨_, rfl, ?_⟩; have n0_ := Aside0.mk (Kd.S_below (by (with_reducible repeat (first | apply Kd.S_alloc | apply Kd.S_drewN | apply Kd.S_drew)); exact HO396.out) hb); have n1_ := Aside0.mk (blk_below (g := gb393) (o := .cells #[.int .i64 a0_0, .int .i64 a0_1, .int .i64 a0_2] 23 (0, 0)) (by (with_reducible repeat (first | refine blk_drewN ?_ _ | refine blk_drew ?_ | refine blk_alloc ?_ _)); exact BK393.out) hb); have n2_ := Aside0.mk (below_step (by repeat (first | (with_reducible first | exact HB.out | apply below_alloc | apply pw_below_drewN | apply below_drew1 | refine below_set ?_ GE393.out) | exact HB.out)) hb); clear HO396; clear BK393; clear HB; have HO396 := n0_; have BK393 := n1_; have HB := n2_; clear n0_ n1_ n2_; (try clear hb); (try clear hb2); (try clear hk); (try clear hi); have hcz17_0 : w16.cell? ⟨gb393, 0, none⟩ = some (.int .i64 a0_0) := (blk_cell BK393.out 0).trans rfl; have hcz17_1 : w16.cell? ⟨gb393, 1, none⟩ = some (.int .i64 a0_1) := (blk_cell BK393.out 1).trans rfl; have hcz17_2 : w16.cell? ⟨gb393, 2, none⟩ = some (.int .i64 a0_2) := (blk_cell BK393.out 2).trans rfl; have hfz17_0 := blk_frozen BK393.out 0; have hfz17_1 := blk_frozen BK393.out 1; have hfz17_2 := blk_frozen BK393.out 2) | ((with_reducible refine gate_callee (f := 19) rfl ?_); refine goesL_ (some 34) rfl rfl Try.func19 (by kernel_rfl) rfl #[.int .i64 a0_0, .int .i64 a0_1, .int .i64 a0_2, .slice A1 l1.length c1] rfl (by (try simp only [List.map_toArray, List.map_cons, List.map_nil]); first | done | rfl | (simp only [List.length_drop, List.length_take]; rfl)) ?_; (with_reducible refine (corncribref21_Told.calls k a0_0 a0_1 a0_2 _ _ l1 t400 t401 t402 _ ?side1 ?side2 A5.out).mono ?_); (case side1 => repeat (first | exact (Kd.C_below HR1.out HB.out) | (with_reducible refine Kd.C_alloc ?_ _) | (with_reducible refine Kd.C_drewN ?_ _) | (with_reducible refine Kd.C_drew ?_))); (case side2 => exact HC1.out); rintro e w18 ⟨rfl, hb⟩; refine ⟨_, rfl, ?_⟩; have n0_ := Aside0.mk (Kd.S_below (by (with_reducible repeat (first | apply Kd.S_alloc | apply Kd.S_drewN | apply Kd.S_drew)); exact HO396.out) hb); have n1_ := Aside0.mk (blk_below (g := gb393) (o := .cells #[.int .i64 a0_0, .int .i64 a0_1, .int .i64 a0_2] 23 (0, 0)) (by (with_reducible repeat (first | refine blk_drewN ?_ _ | refine blk_drew ?_ | refine blk_alloc ?_ _)); exact BK393.out) hb); have n2_ := Aside0.mk (below_step (by repeat (first | (with_reducible first | exact HB.out | apply below_alloc | apply pw_below_drewN | apply below_drew1 | refine below_set ?_ GE393.out) | exact HB.out)) hb); clear HO396; clear BK393; clear HB; have HO396 := n0_; have BK393 := n1_; have HB := n2_; clear n0_ n1_ n2_; (try clear hb); (try clear hb2); (try clear hk); (try clear hi)) | (go_at_call 16; (with_reducible refine (corncribbook_SameLetters.calls k _ _ t394 _ _ l1 true _ ?side1 ?side2 ?side3 ?side4 A9.out).mono ?_); (case side1 => repeat (first | exact (Kd.S_reads' HO396.out).2.2 | (with_reducible refine Kd.C_alloc ?_ _) | (with_reducible refine Kd.C_drewN ?_ _) | (with_reducible refine Kd.C_drew ?_))); (case side2 => exact (Kd.S_reads' HO396.out).2.1); (case side3 => repeat (first | exact (Kd.C_below HR1.out HB.out) | (with_reducible refine Kd.C_alloc ?_ _) | (with_reducible refine Kd.C_drewN ?_ _) | (with_reducible refine Kd.C_drew ?_))); (case side4 => exact HC1.out); rintro e w19 ⟨rfl, hb⟩; have n0_ := Aside0.mk (Kd.S_below (by (with_reducible repeat (first | apply Kd.S_alloc | apply Kd.S_drewN | apply Kd.S_drew)); exact HO396.out) hb); have n1_ := Aside0.mk (blk_below (g := gb393) (o := .cells #[.int .i64 a0_0, .int .i64 a0_1, .int .i64 a0_2] 23 (0, 0)) (by (with_reducible repeat (first | refine blk_drewN ?_ _ | refine blk_drew ?_ | refine blk_alloc ?_ _)); exact BK393.out) hb); have n2_ := Aside0.mk (below_step (by repeat (first | (with_reducible first | exact HB.out | apply below_alloc | apply pw_below_drewN | apply below_drew1 | refine below_set ?_ GE393.out) | exact HB.out)) hb); clear HO396; clear BK393; clear HB; have HO396 := n0_; have BK393 := n1_; have HB := n2_; clear n0_ n1_ n2_; (try clear hb); (try clear hb2); (try clear hk); (try clear hi)) | (go_at_call 8; (with_reducible refine (corncriblaw21_works.calls  t404 _ A11.out).mono ?_); rintro e w20 ⟨rfl, hb⟩; have n0_ := Aside0.mk (Kd.S_below (by (with_reducible repeat (first | apply Kd.S_alloc | apply Kd.S_drewN | apply Kd.S_drew)); exact HO396.out) hb); have n1_ := Aside0.mk (blk_below (g := gb393) (o := .cells #[.int .i64 a0_0, .int .i64 a0_1, .int .i64 a0_2] 23 (0, 0)) (by (with_reducible repeat (first | refine blk_drewN ?_ _ | refine blk_drew ?_ | refine blk_alloc ?_ _)); exact BK393.out) hb); have n2_ := Aside0.mk (below_step (by repeat (first | (with_reducible first | exact HB.out | apply below_alloc | apply pw_below_drewN | apply below_drew1 | refine below_set ?_ GE393.out) | exact HB.out)) hb); clear HO396; clear BK393; clear HB; have HO396 := n0_; have BK393 := n1_; have HB := n2_; clear n0_ n1_ n2_; (try clear hb); (try clear hb2); (try clear hk); (try clear hi)))
          go_ret
          exact ⟨by first | rfl | (simp [errW_none, errW_some] <;> rfl) | (simp [*, errW_none, errW_some] <;> rfl), by repeat (first | (with_reducible first | exact HB.out | apply below_alloc | apply pw_below_drewN | apply below_drew1 | refine below_set ?_ GE393.out) | exact HB.out)⟩
        · replace c10 := Bool.eq_false_iff.mpr c10
          subst c10
          have H1 : (some false) = some r := by rw [if_neg (show ¬ (false = true) by decide)] at H; exact H
          clear H
          have H := H1
          clear H1
          exact absurd (H.trans (congrArg some HRT.out)) (by simp)
      · rw [if_neg c8] at H
        have c8b0 : (t399 == t402) = false := beq_eq_false_iff_ne.mpr c8
        have c8b1 : (t399 != t402) = true := bne_iff_ne.mpr c8
        exact absurd (H.trans (congrArg some HRT.out)) (by simp)
    · rw [if_neg c7] at H
      have c7b0 : (t398 == t401) = false := beq_eq_false_iff_ne.mpr c7
      have c7b1 : (t398 != t401) = true := bne_iff_ne.mpr c7
      exact absurd (H.trans (congrArg some HRT.out)) (by simp)
  · rw [if_neg c6] at H
    have c6b0 : (t397 == t400) = false := beq_eq_false_iff_ne.mpr c6
    have c6b1 : (t397 != t400) = true := bne_iff_ne.mpr c6
    exact absurd (H.trans (congrArg some HRT.out)) (by simp)

end Go.Proofs.Ytdecpagcaondiaa.Al
