/- What the laws stand on, in one text: functions of the program by their contracts, the plain mathematics behind them, and such of the printed words as these use. It began as the kit's print and own texts; put together by a program (trim.py). -/
import Derived.Test.YtelgpkbnahgdoaaPrf
import Derived.Test.YtelgpkbnahgdoaaRows
import Derived.ChangeArms
import Derived.ChangeShapes
import Derived.SizedLaws

namespace Go.Proofs.Ytelgpkbnahgdoaa.Al
open Go.RowKit Go.Proofs.YtelgpkbnahgdoaaW.PrintWords Go.Proofs.YtelgpkbnahgdoaaW.PrintLast Go.Proofs.YtelgpkbnahgdoaaW.PrintMore
attribute [local go_sem] max2_int min2_int max_two min_two max_three min_three max_four min_four   -- for this text's walks alone
set_option linter.unusedVariables false
set_option linter.unusedSimpArgs false
attribute [local go_sem high] eqA49
def corncribbook_SameLetter.f (k : Nat) (a0_0 : Int) (a0_1 : Int) (a0_2 : Int) (a0_3 : Int) (a0_4 : Int) (a0_5 : Int) (a0_6 : ByteArray) (l0_7 : List ByteArray) (l0_8 : List (S49)) (a1_0 : Int) (a1_1 : Int) (a1_2 : Int) (a1_3 : Int) (a1_4 : Int) (a1_5 : Int) (a1_6 : ByteArray) (l1_7 : List ByteArray) (l1_8 : List (S49)) : Option (Bool) := if a0_0 = a1_0 then (if a0_1 = a1_1 then (if a0_2 = a1_2 then (if a0_3 = a1_3 then (if a0_4 = a1_4 then (if a0_5 = a1_5 then (if a0_6.toList = a1_6.toList then ((corncribbook_SameTexts.f k l0_7 l1_7).bind fun t236 => (if t236 = true then ((corncribbook_SameWrites.f k l0_8 l1_8).bind fun t237 => (some t237)) else (some false))) else (some false)) else (some false)) else (some false)) else (some false)) else (some false)) else (some false)) else (some false)
theorem corncribbook_SameLetter.mono : ∀ a0 a1 a2 a3 a4 a5 a6 a7 a8 a9 a10 a11 a12 a13 a14 a15 a16 a17 k, LeO (corncribbook_SameLetter.f k a0 a1 a2 a3 a4 a5 a6 a7 a8 a9 a10 a11 a12 a13 a14 a15 a16 a17) (corncribbook_SameLetter.f (k + 1) a0 a1 a2 a3 a4 a5 a6 a7 a8 a9 a10 a11 a12 a13 a14 a15 a16 a17) := by
 intro a0 a1 a2 a3 a4 a5 a6 a7 a8 a9 a10 a11 a12 a13 a14 a15 a16 a17 k
 unfold corncribbook_SameLetter.f
 repeat' first
   |(with_reducible exact corncribbook_SameTexts.mono _ _ _)
   |(with_reducible exact corncribbook_SameWrites.mono _ _ _)
   |(with_reducible exact LeO.refl _)
   |(with_reducible exact LeO.none _)
   |(with_reducible refine LeO.ite ?_ ?_)
   |(with_reducible refine LeO.bind ?_ (fun _ => ?_))
   |exact corncribbook_SameTexts.mono _ _ _
   |exact corncribbook_SameWrites.mono _ _ _
   |exact LeO.none _
   |refine LeO.ite ?_ ?_
   |refine LeO.bind ?_ (fun _ => ?_)
set_option maxHeartbeats 8000000 in
set_option maxRecDepth 100000 in
theorem corncribbook_SameLetter.calls (k : Nat) (a0_0 : Int) (a0_1 : Int) (a0_2 : Int) (a0_3 : Int) (a0_4 : Int) (a0_5 : Int) (a0_6 : ByteArray) (A0_7 : Option Addr) (c0_7 : Nat) (l0_7 : List ByteArray) (A0_8 : Option Addr) (c0_8 : Nat) (l0_8 : List (S49)) (a1_0 : Int) (a1_1 : Int) (a1_2 : Int) (a1_3 : Int) (a1_4 : Int) (a1_5 : Int) (a1_6 : ByteArray) (A1_7 : Option Addr) (c1_7 : Nat) (l1_7 : List ByteArray) (A1_8 : Option Addr) (c1_8 : Nat) (l1_8 : List (S49)) (r : Bool) (w : World) (hr0_7 : Kd.C Kd.string w A0_7 l0_7.length l0_7) (hc0_7 : l0_7.length ≤ c0_7) (hr0_8 : Kd.C k49 w A0_8 l0_8.length l0_8) (hc0_8 : l0_8.length ≤ c0_8) (hr1_7 : Kd.C Kd.string w A1_7 l1_7.length l1_7) (hc1_7 : l1_7.length ≤ c1_7) (hr1_8 : Kd.C k49 w A1_8 l1_8.length l1_8) (hc1_8 : l1_8.length ≤ c1_8) (h : corncribbook_SameLetter.f k a0_0 a0_1 a0_2 a0_3 a0_4 a0_5 a0_6 l0_7 l0_8 a1_0 a1_1 a1_2 a1_3 a1_4 a1_5 a1_6 l1_7 l1_8 = some r) :
  Calls Try.prog 15 #[.agg #[.int .i64 a0_0, .int .i64 a0_1, .int .i64 a0_2, .int .i64 a0_3, .int .i64 a0_4, .int .i64 a0_5, .string a0_6, .slice A0_7 l0_7.length c0_7, .slice A0_8 l0_8.length c0_8], .agg #[.int .i64 a1_0, .int .i64 a1_1, .int .i64 a1_2, .int .i64 a1_3, .int .i64 a1_4, .int .i64 a1_5, .string a1_6, .slice A1_7 l1_7.length c1_7, .slice A1_8 l1_8.length c1_8]] w fun e w' => e = .returned (.bool r) ∧ Below w.heap.size w w' := by
 have hu25 := Try.underlying25
 have HR0_7 := Aside0.mk hr0_7
 have HC0_7 := Aside0.mk hc0_7
 clear hr0_7 hc0_7
 have HR0_8 := Aside0.mk hr0_8
 have HC0_8 := Aside0.mk hc0_8
 clear hr0_8 hc0_8
 have HR1_7 := Aside0.mk hr1_7
 have HC1_7 := Aside0.mk hc1_7
 clear hr1_7 hc1_7
 have HR1_8 := Aside0.mk hr1_8
 have HC1_8 := Aside0.mk hc1_8
 clear hr1_8 hc1_8
 have HB := Aside0.mk (Below.refl w.heap.size w)
 have H : (if a0_0 = a1_0 then (if a0_1 = a1_1 then (if a0_2 = a1_2 then (if a0_3 = a1_3 then (if a0_4 = a1_4 then (if a0_5 = a1_5 then (if a0_6.toList = a1_6.toList then ((corncribbook_SameTexts.f k l0_7 l1_7).bind fun t236 => (if t236 = true then ((corncribbook_SameWrites.f k l0_8 l1_8).bind fun t237 => (some t237)) else (some false))) else (some false)) else (some false)) else (some false)) else (some false)) else (some false)) else (some false)) else (some false)) = some r := h
 clear h
 by_cases c3 : a0_0 = a1_0
 ·rw [if_pos c3] at H
  have c3b0 : (a0_0 == a1_0) = true := beq_iff_eq.mpr c3
  have c3b1 : (a0_0 != a1_0) = false := bne_eq_false_iff_eq.mpr c3
  clear c3
  by_cases c4 : a0_1 = a1_1
  ·rw [if_pos c4] at H
   have c4b0 : (a0_1 == a1_1) = true := beq_iff_eq.mpr c4
   have c4b1 : (a0_1 != a1_1) = false := bne_eq_false_iff_eq.mpr c4
   clear c4
   by_cases c5 : a0_2 = a1_2
   ·rw [if_pos c5] at H
    have c5b0 : (a0_2 == a1_2) = true := beq_iff_eq.mpr c5
    have c5b1 : (a0_2 != a1_2) = false := bne_eq_false_iff_eq.mpr c5
    clear c5
    by_cases c6 : a0_3 = a1_3
    ·rw [if_pos c6] at H
     have c6b0 : (a0_3 == a1_3) = true := beq_iff_eq.mpr c6
     have c6b1 : (a0_3 != a1_3) = false := bne_eq_false_iff_eq.mpr c6
     clear c6
     by_cases c7 : a0_4 = a1_4
     ·rw [if_pos c7] at H
      have c7b0 : (a0_4 == a1_4) = true := beq_iff_eq.mpr c7
      have c7b1 : (a0_4 != a1_4) = false := bne_eq_false_iff_eq.mpr c7
      clear c7
      by_cases c8 : a0_5 = a1_5
      ·rw [if_pos c8] at H
       have c8b0 : (a0_5 == a1_5) = true := beq_iff_eq.mpr c8
       have c8b1 : (a0_5 != a1_5) = false := bne_eq_false_iff_eq.mpr c8
       clear c8
       by_cases c9 : a0_6.toList = a1_6.toList
       ·rw [if_pos c9] at H
        have c9b0 : (a0_6.toList == a1_6.toList) = true := beq_iff_eq.mpr c9
        have c9b1 : (a0_6.toList != a1_6.toList) = false := bne_eq_false_iff_eq.mpr c9
        clear c9
        replace H := Option.bind_eq_some_iff.mp H
        obtain ⟨t236, A100, H⟩ := H
        replace H : (if t236 = true then ((corncribbook_SameWrites.f k l0_8 l1_8).bind fun t237 => (some t237)) else (some false)) = some r := H
        have A10 := Aside0.mk A100
        clear A100
        by_cases c11 : t236 = true
        ·subst c11
         have H1 : ((corncribbook_SameWrites.f k l0_8 l1_8).bind fun t237 => (some t237)) = some r := by rw [if_pos rfl] at H; exact H
         clear H
         have H := H1
         clear H1
         replace H := Option.bind_eq_some_iff.mp H
         obtain ⟨t237, A120, H⟩ := H
         replace H : (some t237) = some r := H
         have A12 := Aside0.mk A120
         clear A120
         obtain rfl := Option.some.inj H
         go_enter Try.func15, Try.ntmps15
         go_wp2_with (first | ((with_reducible refine gate_dst (N := 2) rfl ?_); refine box_event ?hg (N := 2) ?hd (cs := #[.int .i64 a0_0, .int .i64 a0_1, .int .i64 a0_2, .int .i64 a0_3, .int .i64 a0_4, .int .i64 a0_5, .string a0_6, .slice A0_7 l0_7.length c0_7, .slice A0_8 l0_8.length c0_8]) (t := 25) ?hr ?_; (case hd => rfl); (case hg => rfl); (case hr => first | (go_simp; done) | (go_simp; rfl)); intro gb234 hg w13 hbox hb; have n0_ := Aside0.mk (below_step (by repeat (first | (with_reducible first | exact HB.out | apply below_alloc | apply pw_below_drewN | apply below_drew1) | exact HB.out)) hb); have n1_ := Aside0.mk (hbox); have n2_ := Aside0.mk ((by rw [hg]; exact (below_size (by repeat (first | (with_reducible first | exact HB.out | apply below_alloc | apply pw_below_drewN | apply below_drew1) | exact HB.out))) : w.heap.size ≤ gb234)); have n3_ := Aside0.mk ((by rw [hg]; exact (below_size (by repeat (first | (with_reducible first | exact HB.out | apply below_alloc | apply pw_below_drewN | apply below_drew1) | exact HB.out))) : w.heap.size ≤ gb234)); clear HB; have HB := n0_; have BK234 := n1_; have GW234 := n2_; have GE234 := n3_; clear n0_ n1_ n2_ n3_; clear hb hbox hg) | ((with_reducible refine gate_dst (N := 3) rfl ?_); refine box_event ?hg (N := 3) ?hd (cs := #[.int .i64 a1_0, .int .i64 a1_1, .int .i64 a1_2, .int .i64 a1_3, .int .i64 a1_4, .int .i64 a1_5, .string a1_6, .slice A1_7 l1_7.length c1_7, .slice A1_8 l1_8.length c1_8]) (t := 25) ?hr ?_; (case hd => rfl); (case hg => rfl); (case hr => first | (go_simp; done) | (go_simp; rfl)); intro gb235 hg w14 hbox hb; have n0_ := Aside0.mk (blk_below (g := gb234) (o := .cells #[.int .i64 a0_0, .int .i64 a0_1, .int .i64 a0_2, .int .i64 a0_3, .int .i64 a0_4, .int .i64 a0_5, .string a0_6, .slice A0_7 l0_7.length c0_7, .slice A0_8 l0_8.length c0_8] 25 (0, 0)) (by (with_reducible repeat (first | refine blk_drewN ?_ _ | refine blk_drew ?_ | refine blk_alloc ?_ _)); exact BK234.out) hb); have n1_ := Aside0.mk (below_step (by repeat (first | (with_reducible first | exact HB.out | apply below_alloc | apply pw_below_drewN | apply below_drew1 | refine below_set ?_ GE234.out) | exact HB.out)) hb); have n2_ := Aside0.mk (hbox); have n3_ := Aside0.mk ((by rw [hg]; exact (below_size (by repeat (first | (with_reducible first | exact HB.out | apply below_alloc | apply pw_below_drewN | apply below_drew1 | refine below_set ?_ GE234.out) | exact HB.out))) : w.heap.size ≤ gb235)); have n4_ := Aside0.mk ((by rw [hg]; exact (below_size (by repeat (first | (with_reducible first | exact HB.out | apply below_alloc | apply pw_below_drewN | apply below_drew1 | refine below_set ?_ GE234.out) | exact HB.out))) : w.heap.size ≤ gb235)); have n5_ := Aside0.mk ((by rw [hg]; exact Nat.ne_of_lt (blk_lt (g := gb234) (o := .cells #[.int .i64 a0_0, .int .i64 a0_1, .int .i64 a0_2, .int .i64 a0_3, .int .i64 a0_4, .int .i64 a0_5, .string a0_6, .slice A0_7 l0_7.length c0_7, .slice A0_8 l0_8.length c0_8] 25 (0, 0)) (by (with_reducible repeat (first | refine blk_drewN ?_ _ | refine blk_drew ?_ | refine blk_alloc ?_ _)); exact BK234.out)) : gb234 ≠ gb235)); have n6_ := Aside0.mk ((by rw [hg]; exact Nat.ne_of_gt (blk_lt (g := gb234) (o := .cells #[.int .i64 a0_0, .int .i64 a0_1, .int .i64 a0_2, .int .i64 a0_3, .int .i64 a0_4, .int .i64 a0_5, .string a0_6, .slice A0_7 l0_7.length c0_7, .slice A0_8 l0_8.length c0_8] 25 (0, 0)) (by (with_reducible repeat (first | refine blk_drewN ?_ _ | refine blk_drew ?_ | refine blk_alloc ?_ _)); exact BK234.out)) : gb235 ≠ gb234)); clear BK234; clear HB; have BK234 := n0_; have HB := n1_; have BK235 := n2_; have GW235 := n3_; have GE235 := n4_; have NB234_235 := n5_; have NB235_234 := n6_; clear n0_ n1_ n2_ n3_ n4_ n5_ n6_; clear hb hbox hg; have hnb15 := NB234_235.out; have hnc15 := NB235_234.out; have hcz16_0 : w14.cell? ⟨gb234, 0, none⟩ = some (.int .i64 a0_0) := (blk_cell BK234.out 0).trans rfl; have hcz16_1 : w14.cell? ⟨gb234, 1, none⟩ = some (.int .i64 a0_1) := (blk_cell BK234.out 1).trans rfl; have hcz16_2 : w14.cell? ⟨gb234, 2, none⟩ = some (.int .i64 a0_2) := (blk_cell BK234.out 2).trans rfl; have hcz16_3 : w14.cell? ⟨gb234, 3, none⟩ = some (.int .i64 a0_3) := (blk_cell BK234.out 3).trans rfl; have hcz16_4 : w14.cell? ⟨gb234, 4, none⟩ = some (.int .i64 a0_4) := (blk_cell BK234.out 4).trans rfl; have hcz16_5 : w14.cell? ⟨gb234, 5, none⟩ = some (.int .i64 a0_5) := (blk_cell BK234.out 5).trans rfl; have hcz16_6 : w14.cell? ⟨gb234, 6, none⟩ = some (.string a0_6) := (blk_cell BK234.out 6).trans rfl; have hcz16_7 : w14.cell? ⟨gb234, 7, none⟩ = some (.slice A0_7 l0_7.length c0_7) := (blk_cell BK234.out 7).trans rfl; have hcz16_8 : w14.cell? ⟨gb234, 8, none⟩ = some (.slice A0_8 l0_8.length c0_8) := (blk_cell BK234.out 8).trans rfl; have hfz16_0 := blk_frozen BK234.out 0; have hfz16_1 := blk_frozen BK234.out 1; have hfz16_2 := blk_frozen BK234.out 2; have hfz16_3 := blk_frozen BK234.out 3; have hfz16_4 := blk_frozen BK234.out 4; have hfz16_5 := blk_frozen BK234.out 5; have hfz16_6 := blk_frozen BK234.out 6; have hfz16_7 := blk_frozen BK234.out 7; have hfz16_8 := blk_frozen BK234.out 8; have hcz17_0 : w14.cell? ⟨gb235, 0, none⟩ = some (.int .i64 a1_0) := (blk_cell BK235.out 0).trans rfl; have hcz17_1 : w14.cell? ⟨gb235, 1, none⟩ = some (.int .i64 a1_1) := (blk_cell BK235.out 1).trans rfl; have hcz17_2 : w14.cell? ⟨gb235, 2, none⟩ = some (.int .i64 a1_2) := (blk_cell BK235.out 2).trans rfl; have hcz17_3 : w14.cell? ⟨gb235, 3, none⟩ = some (.int .i64 a1_3) := (blk_cell BK235.out 3).trans rfl; have hcz17_4 : w14.cell? ⟨gb235, 4, none⟩ = some (.int .i64 a1_4) := (blk_cell BK235.out 4).trans rfl; have hcz17_5 : w14.cell? ⟨gb235, 5, none⟩ = some (.int .i64 a1_5) := (blk_cell BK235.out 5).trans rfl; have hcz17_6 : w14.cell? ⟨gb235, 6, none⟩ = some (.string a1_6) := (blk_cell BK235.out 6).trans rfl; have hcz17_7 : w14.cell? ⟨gb235, 7, none⟩ = some (.slice A1_7 l1_7.length c1_7) := (blk_cell BK235.out 7).trans rfl; have hcz17_8 : w14.cell? ⟨gb235, 8, none⟩ = some (.slice A1_8 l1_8.length c1_8) := (blk_cell BK235.out 8).trans rfl; have hfz17_0 := blk_frozen BK235.out 0; have hfz17_1 := blk_frozen BK235.out 1; have hfz17_2 := blk_frozen BK235.out 2; have hfz17_3 := blk_frozen BK235.out 3; have hfz17_4 := blk_frozen BK235.out 4; have hfz17_5 := blk_frozen BK235.out 5; have hfz17_6 := blk_frozen BK235.out 6; have hfz17_7 := blk_frozen BK235.out 7; have hfz17_8 := blk_frozen BK235.out 8) | (go_at_call 34; (with_reducible refine (corncribbook_SameTexts.calls k _ _ l0_7 _ _ l1_7 true _ ?side1 ?side2 ?side3 ?side4 A10.out).mono ?_); (case side1 => repeat (first | exact (Kd.C_below HR0_7.out HB.out) | (with_reducible refine Kd.C_alloc ?_ _) | (with_reducible refine Kd.C_drewN ?_ _) | (with_reducible refine Kd.C_drew ?_))); (case side2 => exact HC0_7.out); (case side3 => repeat (first | exact (Kd.C_below HR1_7.out HB.out) | (with_reducible refine Kd.C_alloc ?_ _) | (with_reducible refine Kd.C_drewN ?_ _) | (with_reducible refine Kd.C_drew ?_))); (case side4 => exact HC1_7.out); rintro e w' ⟨rfl, ⟨nd, rfl⟩⟩) | (go_at_call 35; (with_reducible refine (corncribbook_SameWrites.calls k _ _ l0_8 _ _ l1_8 t237 _ ?side1 ?side2 ?side3 ?side4 A12.out).mono ?_); (case side1 => repeat (first | exact (Kd.C_below HR0_8.out (by repeat (first | (with_reducible first | exact HB.out | apply below_alloc | apply pw_below_drewN | apply below_drew1 | refine below_set ?_ GE234.out | refine below_set ?_ GE235.out) | exact HB.out))) | (with_reducible refine Kd.C_alloc ?_ _) | (with_reducible refine Kd.C_drewN ?_ _) | (with_reducible refine Kd.C_drew ?_))); (case side2 => exact HC0_8.out); (case side3 => repeat (first | exact (Kd.C_below HR1_8.out (by repeat (first | (with_reducible first | exact HB.out | apply below_alloc | apply pw_below_drewN | apply below_drew1 | refine below_set ?_ GE234.out | refine below_set ?_ GE235.out) | exact HB.out))) | (with_reducible refine Kd.C_alloc ?_ _) | (with_reducible refine Kd.C_drewN ?_ _) | (with_reducible refine Kd.C_drew ?_))); (case side4 => exact HC1_8.out); rintro e w' ⟨rfl, ⟨nd, rfl⟩⟩))
         go_ret
         exact ⟨by first | rfl | (simp [errW_none, errW_some] <;> rfl) | (simp [*, errW_none, errW_some] <;> rfl), by repeat (first | (with_reducible first | exact HB.out | apply below_alloc | apply pw_below_drewN | apply below_drew1 | refine below_set ?_ GE234.out | refine below_set ?_ GE235.out) | exact HB.out)⟩
        ·replace c11 := Bool.eq_false_iff.mpr c11
         subst c11
         have H1 : (some false) = some r := by rw [if_neg (show ¬ (false = true) by decide)] at H; exact H
         clear H
         have H := H1
         clear H1
         obtain rfl := Option.some.inj H
         go_enter Try.func15, Try.ntmps15
         go_wp2_with (first | ((with_reducible refine gate_dst (N := 2) rfl ?_); refine box_event ?hg (N := 2) ?hd (cs := #[.int .i64 a0_0, .int .i64 a0_1, .int .i64 a0_2, .int .i64 a0_3, .int .i64 a0_4, .int .i64 a0_5, .string a0_6, .slice A0_7 l0_7.length c0_7, .slice A0_8 l0_8.length c0_8]) (t := 25) ?hr ?_; (case hd => rfl); (case hg => rfl); (case hr => first | (go_simp; done) | (go_simp; rfl)); intro gb234 hg w18 hbox hb; have n0_ := Aside0.mk (below_step (by repeat (first | (with_reducible first | exact HB.out | apply below_alloc | apply pw_below_drewN | apply below_drew1) | exact HB.out)) hb); have n1_ := Aside0.mk (hbox); have n2_ := Aside0.mk ((by rw [hg]; exact (below_size (by repeat (first | (with_reducible first | exact HB.out | apply below_alloc | apply pw_below_drewN | apply below_drew1) | exact HB.out))) : w.heap.size ≤ gb234)); have n3_ := Aside0.mk ((by rw [hg]; exact (below_size (by repeat (first | (with_reducible first | exact HB.out | apply below_alloc | apply pw_below_drewN | apply below_drew1) | exact HB.out))) : w.heap.size ≤ gb234)); clear HB; have HB := n0_; have BK234 := n1_; have GW234 := n2_; have GE234 := n3_; clear n0_ n1_ n2_ n3_; clear hb hbox hg) | ((with_reducible refine gate_dst (N := 3) rfl ?_); refine box_event ?hg (N := 3) ?hd (cs := #[.int .i64 a1_0, .int .i64 a1_1, .int .i64 a1_2, .int .i64 a1_3, .int .i64 a1_4, .int .i64 a1_5, .string a1_6, .slice A1_7 l1_7.length c1_7, .slice A1_8 l1_8.length c1_8]) (t := 25) ?hr ?_; (case hd => rfl); (case hg => rfl); (case hr => first | (go_simp; done) | (go_simp; rfl)); intro gb235 hg w19 hbox hb; have n0_ := Aside0.mk (blk_below (g := gb234) (o := .cells #[.int .i64 a0_0, .int .i64 a0_1, .int .i64 a0_2, .int .i64 a0_3, .int .i64 a0_4, .int .i64 a0_5, .string a0_6, .slice A0_7 l0_7.length c0_7, .slice A0_8 l0_8.length c0_8] 25 (0, 0)) (by (with_reducible repeat (first | refine blk_drewN ?_ _ | refine blk_drew ?_ | refine blk_alloc ?_ _)); exact BK234.out) hb); have n1_ := Aside0.mk (below_step (by repeat (first | (with_reducible first | exact HB.out | apply below_alloc | apply pw_below_drewN | apply below_drew1 | refine below_set ?_ GE234.out) | exact HB.out)) hb); have n2_ := Aside0.mk (hbox); have n3_ := Aside0.mk ((by rw [hg]; exact (below_size (by repeat (first | (with_reducible first | exact HB.out | apply below_alloc | apply pw_below_drewN | apply below_drew1 | refine below_set ?_ GE234.out) | exact HB.out))) : w.heap.size ≤ gb235)); have n4_ := Aside0.mk ((by rw [hg]; exact (below_size (by repeat (first | (with_reducible first | exact HB.out | apply below_alloc | apply pw_below_drewN | apply below_drew1 | refine below_set ?_ GE234.out) | exact HB.out))) : w.heap.size ≤ gb235)); have n5_ := Aside0.mk ((by rw [hg]; exact Nat.ne_of_lt (blk_lt (g := gb234) (o := .cells #[.int .i64 a0_0, .int .i64 a0_1, .int .i64 a0_2, .int .i64 a0_3, .int .i64 a0_4, .int .i64 a0_5, .string a0_6, .slice A0_7 l0_7.length c0_7, .slice A0_8 l0_8.length c0_8] 25 (0, 0)) (by (with_reducible repeat (first | refine blk_drewN ?_ _ | refine blk_drew ?_ | refine blk_alloc ?_ _)); exact BK234.out)) : gb234 ≠ gb235)); have n6_ := Aside0.mk ((by rw [hg]; exact Nat.ne_of_gt (blk_lt (g := gb234) (o := .cells #[.int .i64 a0_0, .int .i64 a0_1, .int .i64 a0_2, .int .i64 a0_3, .int .i64 a0_4, .int .i64 a0_5, .string a0_6, .slice A0_7 l0_7.length c0_7, .slice A0_8 l0_8.length c0_8] 25 (0, 0)) (by (with_reducible repeat (first | refine blk_drewN ?_ _ | refine blk_drew ?_ | refine blk_alloc ?_ _)); exact BK234.out)) : gb235 ≠ gb234)); clear BK234; clear HB; have BK234 := n0_; have HB := n1_; have BK235 := n2_; have GW235 := n3_; have GE235 := n4_; have NB234_235 := n5_; have NB235_234 := n6_; clear n0_ n1_ n2_ n3_ n4_ n5_ n6_; clear hb hbox hg; have hnb20 := NB234_235.out; have hnc20 := NB235_234.out; have hcz21_0 : w19.cell? ⟨gb234, 0, none⟩ = some (.int .i64 a0_0) := (blk_cell BK234.out 0).trans rfl; have hcz21_1 : w19.cell? ⟨gb234, 1, none⟩ = some (.int .i64 a0_1) := (blk_cell BK234.out 1).trans rfl; have hcz21_2 : w19.cell? ⟨gb234, 2, none⟩ = some (.int .i64 a0_2) := (blk_cell BK234.out 2).trans rfl; have hcz21_3 : w19.cell? ⟨gb234, 3, none⟩ = some (.int .i64 a0_3) := (blk_cell BK234.out 3).trans rfl; have hcz21_4 : w19.cell? ⟨gb234, 4, none⟩ = some (.int .i64 a0_4) := (blk_cell BK234.out 4).trans rfl; have hcz21_5 : w19.cell? ⟨gb234, 5, none⟩ = some (.int .i64 a0_5) := (blk_cell BK234.out 5).trans rfl; have hcz21_6 : w19.cell? ⟨gb234, 6, none⟩ = some (.string a0_6) := (blk_cell BK234.out 6).trans rfl; have hcz21_7 : w19.cell? ⟨gb234, 7, none⟩ = some (.slice A0_7 l0_7.length c0_7) := (blk_cell BK234.out 7).trans rfl; have hcz21_8 : w19.cell? ⟨gb234, 8, none⟩ = some (.slice A0_8 l0_8.length c0_8) := (blk_cell BK234.out 8).trans rfl; have hfz21_0 := blk_frozen BK234.out 0; have hfz21_1 := blk_frozen BK234.out 1; have hfz21_2 := blk_frozen BK234.out 2; have hfz21_3 := blk_frozen BK234.out 3; have hfz21_4 := blk_frozen BK234.out 4; have hfz21_5 := blk_frozen BK234.out 5; have hfz21_6 := blk_frozen BK234.out 6; have hfz21_7 := blk_frozen BK234.out 7; have hfz21_8 := blk_frozen BK234.out 8; have hcz22_0 : w19.cell? ⟨gb235, 0, none⟩ = some (.int .i64 a1_0) := (blk_cell BK235.out 0).trans rfl; have hcz22_1 : w19.cell? ⟨gb235, 1, none⟩ = some (.int .i64 a1_1) := (blk_cell BK235.out 1).trans rfl; have hcz22_2 : w19.cell? ⟨gb235, 2, none⟩ = some (.int .i64 a1_2) := (blk_cell BK235.out 2).trans rfl; have hcz22_3 : w19.cell? ⟨gb235, 3, none⟩ = some (.int .i64 a1_3) := (blk_cell BK235.out 3).trans rfl; have hcz22_4 : w19.cell? ⟨gb235, 4, none⟩ = some (.int .i64 a1_4) := (blk_cell BK235.out 4).trans rfl; have hcz22_5 : w19.cell? ⟨gb235, 5, none⟩ = some (.int .i64 a1_5) := (blk_cell BK235.out 5).trans rfl; have hcz22_6 : w19.cell? ⟨gb235, 6, none⟩ = some (.string a1_6) := (blk_cell BK235.out 6).trans rfl; have hcz22_7 : w19.cell? ⟨gb235, 7, none⟩ = some (.slice A1_7 l1_7.length c1_7) := (blk_cell BK235.out 7).trans rfl; have hcz22_8 : w19.cell? ⟨gb235, 8, none⟩ = some (.slice A1_8 l1_8.length c1_8) := (blk_cell BK235.out 8).trans rfl; have hfz22_0 := blk_frozen BK235.out 0; have hfz22_1 := blk_frozen BK235.out 1; have hfz22_2 := blk_frozen BK235.out 2; have hfz22_3 := blk_frozen BK235.out 3; have hfz22_4 := blk_frozen BK235.out 4; have hfz22_5 := blk_frozen BK235.out 5; have hfz22_6 := blk_frozen BK235.out 6; have hfz22_7 := blk_frozen BK235.out 7; have hfz22_8 := blk_frozen BK235.out 8) | (go_at_call 34; (with_reducible refine (corncribbook_SameTexts.calls k _ _ l0_7 _ _ l1_7 false _ ?side1 ?side2 ?side3 ?side4 A10.out).mono ?_); (case side1 => repeat (first | exact (Kd.C_below HR0_7.out HB.out) | (with_reducible refine Kd.C_alloc ?_ _) | (with_reducible refine Kd.C_drewN ?_ _) | (with_reducible refine Kd.C_drew ?_))); (case side2 => exact HC0_7.out); (case side3 => repeat (first | exact (Kd.C_below HR1_7.out HB.out) | (with_reducible refine Kd.C_alloc ?_ _) | (with_reducible refine Kd.C_drewN ?_ _) | (with_reducible refine Kd.C_drew ?_))); (case side4 => exact HC1_7.out); rintro e w' ⟨rfl, ⟨nd, rfl⟩⟩))
         go_ret
         exact ⟨by first | rfl | (simp [errW_none, errW_some] <;> rfl) | (simp [*, errW_none, errW_some] <;> rfl), by repeat (first | (with_reducible first | exact HB.out | apply below_alloc | apply pw_below_drewN | apply below_drew1 | refine below_set ?_ GE234.out | refine below_set ?_ GE235.out) | exact HB.out)⟩
       ·rw [if_neg c9] at H
        have c9b0 : (a0_6.toList == a1_6.toList) = false := beq_eq_false_iff_ne.mpr c9
        have c9b1 : (a0_6.toList != a1_6.toList) = true := bne_iff_ne.mpr c9
        obtain rfl := Option.some.inj H
        go_enter Try.func15, Try.ntmps15
        go_wp2_with (first | ((with_reducible refine gate_dst (N := 2) rfl ?_); refine box_event ?hg (N := 2) ?hd (cs := #[.int .i64 a0_0, .int .i64 a0_1, .int .i64 a0_2, .int .i64 a0_3, .int .i64 a0_4, .int .i64 a0_5, .string a0_6, .slice A0_7 l0_7.length c0_7, .slice A0_8 l0_8.length c0_8]) (t := 25) ?hr ?_; (case hd => rfl); (case hg => rfl); (case hr => first | (go_simp; done) | (go_simp; rfl)); intro gb234 hg w23 hbox hb; have n0_ := Aside0.mk (below_step (by repeat (first | (with_reducible first | exact HB.out | apply below_alloc | apply pw_below_drewN | apply below_drew1) | exact HB.out)) hb); have n1_ := Aside0.mk (hbox); have n2_ := Aside0.mk ((by rw [hg]; exact (below_size (by repeat (first | (with_reducible first | exact HB.out | apply below_alloc | apply pw_below_drewN | apply below_drew1) | exact HB.out))) : w.heap.size ≤ gb234)); have n3_ := Aside0.mk ((by rw [hg]; exact (below_size (by repeat (first | (with_reducible first | exact HB.out | apply below_alloc | apply pw_below_drewN | apply below_drew1) | exact HB.out))) : w.heap.size ≤ gb234)); clear HB; have HB := n0_; have BK234 := n1_; have GW234 := n2_; have GE234 := n3_; clear n0_ n1_ n2_ n3_; clear hb hbox hg) | ((with_reducible refine gate_dst (N := 3) rfl ?_); refine box_event ?hg (N := 3) ?hd (cs := #[.int .i64 a1_0, .int .i64 a1_1, .int .i64 a1_2, .int .i64 a1_3, .int .i64 a1_4, .int .i64 a1_5, .string a1_6, .slice A1_7 l1_7.length c1_7, .slice A1_8 l1_8.length c1_8]) (t := 25) ?hr ?_; (case hd => rfl); (case hg => rfl); (case hr => first | (go_simp; done) | (go_simp; rfl)); intro gb235 hg w24 hbox hb; have n0_ := Aside0.mk (blk_below (g := gb234) (o := .cells #[.int .i64 a0_0, .int .i64 a0_1, .int .i64 a0_2, .int .i64 a0_3, .int .i64 a0_4, .int .i64 a0_5, .string a0_6, .slice A0_7 l0_7.length c0_7, .slice A0_8 l0_8.length c0_8] 25 (0, 0)) (by (with_reducible repeat (first | refine blk_drewN ?_ _ | refine blk_drew ?_ | refine blk_alloc ?_ _)); exact BK234.out) hb); have n1_ := Aside0.mk (below_step (by repeat (first | (with_reducible first | exact HB.out | apply below_alloc | apply pw_below_drewN | apply below_drew1 | refine below_set ?_ GE234.out) | exact HB.out)) hb); have n2_ := Aside0.mk (hbox); have n3_ := Aside0.mk ((by rw [hg]; exact (below_size (by repeat (first | (with_reducible first | exact HB.out | apply below_alloc | apply pw_below_drewN | apply below_drew1 | refine below_set ?_ GE234.out) | exact HB.out))) : w.heap.size ≤ gb235)); have n4_ := Aside0.mk ((by rw [hg]; exact (below_size (by repeat (first | (with_reducible first | exact HB.out | apply below_alloc | apply pw_below_drewN | apply below_drew1 | refine below_set ?_ GE234.out) | exact HB.out))) : w.heap.size ≤ gb235)); have n5_ := Aside0.mk ((by rw [hg]; exact Nat.ne_of_lt (blk_lt (g := gb234) (o := .cells #[.int .i64 a0_0, .int .i64 a0_1, .int .i64 a0_2, .int .i64 a0_3, .int .i64 a0_4, .int .i64 a0_5, .string a0_6, .slice A0_7 l0_7.length c0_7, .slice A0_8 l0_8.length c0_8] 25 (0, 0)) (by (with_reducible repeat (first | refine blk_drewN ?_ _ | refine blk_drew ?_ | refine blk_alloc ?_ _)); exact BK234.out)) : gb234 ≠ gb235)); have n6_ := Aside0.mk ((by rw [hg]; exact Nat.ne_of_gt (blk_lt (g := gb234) (o := .cells #[.int .i64 a0_0, .int .i64 a0_1, .int .i64 a0_2, .int .i64 a0_3, .int .i64 a0_4, .int .i64 a0_5, .string a0_6, .slice A0_7 l0_7.length c0_7, .slice A0_8 l0_8.length c0_8] 25 (0, 0)) (by (with_reducible repeat (first | refine blk_drewN ?_ _ | refine blk_drew ?_ | refine blk_alloc ?_ _)); exact BK234.out)) : gb235 ≠ gb234)); clear BK234; clear HB; have BK234 := n0_; have HB := n1_; have BK235 := n2_; have GW235 := n3_; have GE235 := n4_; have NB234_235 := n5_; have NB235_234 := n6_; clear n0_ n1_ n2_ n3_ n4_ n5_ n6_; clear hb hbox hg; have hnb25 := NB234_235.out; have hnc25 := NB235_234.out; have hcz26_0 : w24.cell? ⟨gb234, 0, none⟩ = some (.int .i64 a0_0) := (blk_cell BK234.out 0).trans rfl; have hcz26_1 : w24.cell? ⟨gb234, 1, none⟩ = some (.int .i64 a0_1) := (blk_cell BK234.out 1).trans rfl; have hcz26_2 : w24.cell? ⟨gb234, 2, none⟩ = some (.int .i64 a0_2) := (blk_cell BK234.out 2).trans rfl; have hcz26_3 : w24.cell? ⟨gb234, 3, none⟩ = some (.int .i64 a0_3) := (blk_cell BK234.out 3).trans rfl; have hcz26_4 : w24.cell? ⟨gb234, 4, none⟩ = some (.int .i64 a0_4) := (blk_cell BK234.out 4).trans rfl; have hcz26_5 : w24.cell? ⟨gb234, 5, none⟩ = some (.int .i64 a0_5) := (blk_cell BK234.out 5).trans rfl; have hcz26_6 : w24.cell? ⟨gb234, 6, none⟩ = some (.string a0_6) := (blk_cell BK234.out 6).trans rfl; have hcz26_7 : w24.cell? ⟨gb234, 7, none⟩ = some (.slice A0_7 l0_7.length c0_7) := (blk_cell BK234.out 7).trans rfl; have hcz26_8 : w24.cell? ⟨gb234, 8, none⟩ = some (.slice A0_8 l0_8.length c0_8) := (blk_cell BK234.out 8).trans rfl; have hfz26_0 := blk_frozen BK234.out 0; have hfz26_1 := blk_frozen BK234.out 1; have hfz26_2 := blk_frozen BK234.out 2; have hfz26_3 := blk_frozen BK234.out 3; have hfz26_4 := blk_frozen BK234.out 4; have hfz26_5 := blk_frozen BK234.out 5; have hfz26_6 := blk_frozen BK234.out 6; have hfz26_7 := blk_frozen BK234.out 7; have hfz26_8 := blk_frozen BK234.out 8; have hcz27_0 : w24.cell? ⟨gb235, 0, none⟩ = some (.int .i64 a1_0) := (blk_cell BK235.out 0).trans rfl; have hcz27_1 : w24.cell? ⟨gb235, 1, none⟩ = some (.int .i64 a1_1) := (blk_cell BK235.out 1).trans rfl; have hcz27_2 : w24.cell? ⟨gb235, 2, none⟩ = some (.int .i64 a1_2) := (blk_cell BK235.out 2).trans rfl; have hcz27_3 : w24.cell? ⟨gb235, 3, none⟩ = some (.int .i64 a1_3) := (blk_cell BK235.out 3).trans rfl; have hcz27_4 : w24.cell? ⟨gb235, 4, none⟩ = some (.int .i64 a1_4) := (blk_cell BK235.out 4).trans rfl; have hcz27_5 : w24.cell? ⟨gb235, 5, none⟩ = some (.int .i64 a1_5) := (blk_cell BK235.out 5).trans rfl; have hcz27_6 : w24.cell? ⟨gb235, 6, none⟩ = some (.string a1_6) := (blk_cell BK235.out 6).trans rfl; have hcz27_7 : w24.cell? ⟨gb235, 7, none⟩ = some (.slice A1_7 l1_7.length c1_7) := (blk_cell BK235.out 7).trans rfl; have hcz27_8 : w24.cell? ⟨gb235, 8, none⟩ = some (.slice A1_8 l1_8.length c1_8) := (blk_cell BK235.out 8).trans rfl; have hfz27_0 := blk_frozen BK235.out 0; have hfz27_1 := blk_frozen BK235.out 1; have hfz27_2 := blk_frozen BK235.out 2; have hfz27_3 := blk_frozen BK235.out 3; have hfz27_4 := blk_frozen BK235.out 4; have hfz27_5 := blk_frozen BK235.out 5; have hfz27_6 := blk_frozen BK235.out 6; have hfz27_7 := blk_frozen BK235.out 7; have hfz27_8 := blk_frozen BK235.out 8))
        go_ret
        exact ⟨by first | rfl | (simp [errW_none, errW_some] <;> rfl) | (simp [*, errW_none, errW_some] <;> rfl), by repeat (first | (with_reducible first | exact HB.out | apply below_alloc | apply pw_below_drewN | apply below_drew1 | refine below_set ?_ GE234.out | refine below_set ?_ GE235.out) | exact HB.out)⟩
      ·rw [if_neg c8] at H
       have c8b0 : (a0_5 == a1_5) = false := beq_eq_false_iff_ne.mpr c8
       have c8b1 : (a0_5 != a1_5) = true := bne_iff_ne.mpr c8
       obtain rfl := Option.some.inj H
       go_enter Try.func15, Try.ntmps15
       go_wp2_with (first | ((with_reducible refine gate_dst (N := 2) rfl ?_); refine box_event ?hg (N := 2) ?hd (cs := #[.int .i64 a0_0, .int .i64 a0_1, .int .i64 a0_2, .int .i64 a0_3, .int .i64 a0_4, .int .i64 a0_5, .string a0_6, .slice A0_7 l0_7.length c0_7, .slice A0_8 l0_8.length c0_8]) (t := 25) ?hr ?_; (case hd => rfl); (case hg => rfl); (case hr => first | (go_simp; done) | (go_simp; rfl)); intro gb234 hg w28 hbox hb; have n0_ := Aside0.mk (below_step (by repeat (first | (with_reducible first | exact HB.out | apply below_alloc | apply pw_below_drewN | apply below_drew1) | exact HB.out)) hb); have n1_ := Aside0.mk (hbox); have n2_ := Aside0.mk ((by rw [hg]; exact (below_size (by repeat (first | (with_reducible first | exact HB.out | apply below_alloc | apply pw_below_drewN | apply below_drew1) | exact HB.out))) : w.heap.size ≤ gb234)); have n3_ := Aside0.mk ((by rw [hg]; exact (below_size (by repeat (first | (with_reducible first | exact HB.out | apply below_alloc | apply pw_below_drewN | apply below_drew1) | exact HB.out))) : w.heap.size ≤ gb234)); clear HB; have HB := n0_; have BK234 := n1_; have GW234 := n2_; have GE234 := n3_; clear n0_ n1_ n2_ n3_; clear hb hbox hg) | ((with_reducible refine gate_dst (N := 3) rfl ?_); refine box_event ?hg (N := 3) ?hd (cs := #[.int .i64 a1_0, .int .i64 a1_1, .int .i64 a1_2, .int .i64 a1_3, .int .i64 a1_4, .int .i64 a1_5, .string a1_6, .slice A1_7 l1_7.length c1_7, .slice A1_8 l1_8.length c1_8]) (t := 25) ?hr ?_; (case hd => rfl); (case hg => rfl); (case hr => first | (go_simp; done) | (go_simp; rfl)); intro gb235 hg w29 hbox hb; have n0_ := Aside0.mk (blk_below (g := gb234) (o := .cells #[.int .i64 a0_0, .int .i64 a0_1, .int .i64 a0_2, .int .i64 a0_3, .int .i64 a0_4, .int .i64 a0_5, .string a0_6, .slice A0_7 l0_7.length c0_7, .slice A0_8 l0_8.length c0_8] 25 (0, 0)) (by (with_reducible repeat (first | refine blk_drewN ?_ _ | refine blk_drew ?_ | refine blk_alloc ?_ _)); exact BK234.out) hb); have n1_ := Aside0.mk (below_step (by repeat (first | (with_reducible first | exact HB.out | apply below_alloc | apply pw_below_drewN | apply below_drew1 | refine below_set ?_ GE234.out) | exact HB.out)) hb); have n2_ := Aside0.mk (hbox); have n3_ := Aside0.mk ((by rw [hg]; exact (below_size (by repeat (first | (with_reducible first | exact HB.out | apply below_alloc | apply pw_below_drewN | apply below_drew1 | refine below_set ?_ GE234.out) | exact HB.out))) : w.heap.size ≤ gb235)); have n4_ := Aside0.mk ((by rw [hg]; exact (below_size (by repeat (first | (with_reducible first | exact HB.out | apply below_alloc | apply pw_below_drewN | apply below_drew1 | refine below_set ?_ GE234.out) | exact HB.out))) : w.heap.size ≤ gb235)); have n5_ := Aside0.mk ((by rw [hg]; exact Nat.ne_of_lt (blk_lt (g := gb234) (o := .cells #[.int .i64 a0_0, .int .i64 a0_1, .int .i64 a0_2, .int .i64 a0_3, .int .i64 a0_4, .int .i64 a0_5, .string a0_6, .slice A0_7 l0_7.length c0_7, .slice A0_8 l0_8.length c0_8] 25 (0, 0)) (by (with_reducible repeat (first | refine blk_drewN ?_ _ | refine blk_drew ?_ | refine blk_alloc ?_ _)); exact BK234.out)) : gb234 ≠ gb235)); have n6_ := Aside0.mk ((by rw [hg]; exact Nat.ne_of_gt (blk_lt (g := gb234) (o := .cells #[.int .i64 a0_0, .int .i64 a0_1, .int .i64 a0_2, .int .i64 a0_3, .int .i64 a0_4, .int .i64 a0_5, .string a0_6, .slice A0_7 l0_7.length c0_7, .slice A0_8 l0_8.length c0_8] 25 (0, 0)) (by (with_reducible repeat (first | refine blk_drewN ?_ _ | refine blk_drew ?_ | refine blk_alloc ?_ _)); exact BK234.out)) : gb235 ≠ gb234)); clear BK234; clear HB; have BK234 := n0_; have HB := n1_; have BK235 := n2_; have GW235 := n3_; have GE235 := n4_; have NB234_235 := n5_; have NB235_234 := n6_; clear n0_ n1_ n2_ n3_ n4_ n5_ n6_; clear hb hbox hg; have hnb30 := NB234_235.out; have hnc30 := NB235_234.out; have hcz31_0 : w29.cell? ⟨gb234, 0, none⟩ = some (.int .i64 a0_0) := (blk_cell BK234.out 0).trans rfl; have hcz31_1 : w29.cell? ⟨gb234, 1, none⟩ = some (.int .i64 a0_1) := (blk_cell BK234.out 1).trans rfl; have hcz31_2 : w29.cell? ⟨gb234, 2, none⟩ = some (.int .i64 a0_2) := (blk_cell BK234.out 2).trans rfl; have hcz31_3 : w29.cell? ⟨gb234, 3, none⟩ = some (.int .i64 a0_3) := (blk_cell BK234.out 3).trans rfl; have hcz31_4 : w29.cell? ⟨gb234, 4, none⟩ = some (.int .i64 a0_4) := (blk_cell BK234.out 4).trans rfl; have hcz31_5 : w29.cell? ⟨gb234, 5, none⟩ = some (.int .i64 a0_5) := (blk_cell BK234.out 5).trans rfl; have hcz31_6 : w29.cell? ⟨gb234, 6, none⟩ = some (.string a0_6) := (blk_cell BK234.out 6).trans rfl; have hcz31_7 : w29.cell? ⟨gb234, 7, none⟩ = some (.slice A0_7 l0_7.length c0_7) := (blk_cell BK234.out 7).trans rfl; have hcz31_8 : w29.cell? ⟨gb234, 8, none⟩ = some (.slice A0_8 l0_8.length c0_8) := (blk_cell BK234.out 8).trans rfl; have hfz31_0 := blk_frozen BK234.out 0; have hfz31_1 := blk_frozen BK234.out 1; have hfz31_2 := blk_frozen BK234.out 2; have hfz31_3 := blk_frozen BK234.out 3; have hfz31_4 := blk_frozen BK234.out 4; have hfz31_5 := blk_frozen BK234.out 5; have hfz31_6 := blk_frozen BK234.out 6; have hfz31_7 := blk_frozen BK234.out 7; have hfz31_8 := blk_frozen BK234.out 8; have hcz32_0 : w29.cell? ⟨gb235, 0, none⟩ = some (.int .i64 a1_0) := (blk_cell BK235.out 0).trans rfl; have hcz32_1 : w29.cell? ⟨gb235, 1, none⟩ = some (.int .i64 a1_1) := (blk_cell BK235.out 1).trans rfl; have hcz32_2 : w29.cell? ⟨gb235, 2, none⟩ = some (.int .i64 a1_2) := (blk_cell BK235.out 2).trans rfl; have hcz32_3 : w29.cell? ⟨gb235, 3, none⟩ = some (.int .i64 a1_3) := (blk_cell BK235.out 3).trans rfl; have hcz32_4 : w29.cell? ⟨gb235, 4, none⟩ = some (.int .i64 a1_4) := (blk_cell BK235.out 4).trans rfl; have hcz32_5 : w29.cell? ⟨gb235, 5, none⟩ = some (.int .i64 a1_5) := (blk_cell BK235.out 5).trans rfl; have hcz32_6 : w29.cell? ⟨gb235, 6, none⟩ = some (.string a1_6) := (blk_cell BK235.out 6).trans rfl; have hcz32_7 : w29.cell? ⟨gb235, 7, none⟩ = some (.slice A1_7 l1_7.length c1_7) := (blk_cell BK235.out 7).trans rfl; have hcz32_8 : w29.cell? ⟨gb235, 8, none⟩ = some (.slice A1_8 l1_8.length c1_8) := (blk_cell BK235.out 8).trans rfl; have hfz32_0 := blk_frozen BK235.out 0; have hfz32_1 := blk_frozen BK235.out 1; have hfz32_2 := blk_frozen BK235.out 2; have hfz32_3 := blk_frozen BK235.out 3; have hfz32_4 := blk_frozen BK235.out 4; have hfz32_5 := blk_frozen BK235.out 5; have hfz32_6 := blk_frozen BK235.out 6; have hfz32_7 := blk_frozen BK235.out 7; have hfz32_8 := blk_frozen BK235.out 8))
       go_ret
       exact ⟨by first | rfl | (simp [errW_none, errW_some] <;> rfl) | (simp [*, errW_none, errW_some] <;> rfl), by repeat (first | (with_reducible first | exact HB.out | apply below_alloc | apply pw_below_drewN | apply below_drew1 | refine below_set ?_ GE234.out | refine below_set ?_ GE235.out) | exact HB.out)⟩
     ·rw [if_neg c7] at H
      have c7b0 : (a0_4 == a1_4) = false := beq_eq_false_iff_ne.mpr c7
      have c7b1 : (a0_4 != a1_4) = true := bne_iff_ne.mpr c7
      obtain rfl := Option.some.inj H
      go_enter Try.func15, Try.ntmps15
      go_wp2_with (first | ((with_reducible refine gate_dst (N := 2) rfl ?_); refine box_event ?hg (N := 2) ?hd (cs := #[.int .i64 a0_0, .int .i64 a0_1, .int .i64 a0_2, .int .i64 a0_3, .int .i64 a0_4, .int .i64 a0_5, .string a0_6, .slice A0_7 l0_7.length c0_7, .slice A0_8 l0_8.length c0_8]) (t := 25) ?hr ?_; (case hd => rfl); (case hg => rfl); (case hr => first | (go_simp; done) | (go_simp; rfl)); intro gb234 hg w33 hbox hb; have n0_ := Aside0.mk (below_step (by repeat (first | (with_reducible first | exact HB.out | apply below_alloc | apply pw_below_drewN | apply below_drew1) | exact HB.out)) hb); have n1_ := Aside0.mk (hbox); have n2_ := Aside0.mk ((by rw [hg]; exact (below_size (by repeat (first | (with_reducible first | exact HB.out | apply below_alloc | apply pw_below_drewN | apply below_drew1) | exact HB.out))) : w.heap.size ≤ gb234)); have n3_ := Aside0.mk ((by rw [hg]; exact (below_size (by repeat (first | (with_reducible first | exact HB.out | apply below_alloc | apply pw_below_drewN | apply below_drew1) | exact HB.out))) : w.heap.size ≤ gb234)); clear HB; have HB := n0_; have BK234 := n1_; have GW234 := n2_; have GE234 := n3_; clear n0_ n1_ n2_ n3_; clear hb hbox hg) | ((with_reducible refine gate_dst (N := 3) rfl ?_); refine box_event ?hg (N := 3) ?hd (cs := #[.int .i64 a1_0, .int .i64 a1_1, .int .i64 a1_2, .int .i64 a1_3, .int .i64 a1_4, .int .i64 a1_5, .string a1_6, .slice A1_7 l1_7.length c1_7, .slice A1_8 l1_8.length c1_8]) (t := 25) ?hr ?_; (case hd => rfl); (case hg => rfl); (case hr => first | (go_simp; done) | (go_simp; rfl)); intro gb235 hg w34 hbox hb; have n0_ := Aside0.mk (blk_below (g := gb234) (o := .cells #[.int .i64 a0_0, .int .i64 a0_1, .int .i64 a0_2, .int .i64 a0_3, .int .i64 a0_4, .int .i64 a0_5, .string a0_6, .slice A0_7 l0_7.length c0_7, .slice A0_8 l0_8.length c0_8] 25 (0, 0)) (by (with_reducible repeat (first | refine blk_drewN ?_ _ | refine blk_drew ?_ | refine blk_alloc ?_ _)); exact BK234.out) hb); have n1_ := Aside0.mk (below_step (by repeat (first | (with_reducible first | exact HB.out | apply below_alloc | apply pw_below_drewN | apply below_drew1 | refine below_set ?_ GE234.out) | exact HB.out)) hb); have n2_ := Aside0.mk (hbox); have n3_ := Aside0.mk ((by rw [hg]; exact (below_size (by repeat (first | (with_reducible first | exact HB.out | apply below_alloc | apply pw_below_drewN | apply below_drew1 | refine below_set ?_ GE234.out) | exact HB.out))) : w.heap.size ≤ gb235)); have n4_ := Aside0.mk ((by rw [hg]; exact (below_size (by repeat (first | (with_reducible first | exact HB.out | apply below_alloc | apply pw_below_drewN | apply below_drew1 | refine below_set ?_ GE234.out) | exact HB.out))) : w.heap.size ≤ gb235)); have n5_ := Aside0.mk ((by rw [hg]; exact Nat.ne_of_lt (blk_lt (g := gb234) (o := .cells #[.int .i64 a0_0, .int .i64 a0_1, .int .i64 a0_2, .int .i64 a0_3, .int .i64 a0_4, .int .i64 a0_5, .string a0_6, .slice A0_7 l0_7.length c0_7, .slice A0_8 l0_8.length c0_8] 25 (0, 0)) (by (with_reducible repeat (first | refine blk_drewN ?_ _ | refine blk_drew ?_ | refine blk_alloc ?_ _)); exact BK234.out)) : gb234 ≠ gb235)); have n6_ := Aside0.mk ((by rw [hg]; exact Nat.ne_of_gt (blk_lt (g := gb234) (o := .cells #[.int .i64 a0_0, .int .i64 a0_1, .int .i64 a0_2, .int .i64 a0_3, .int .i64 a0_4, .int .i64 a0_5, .string a0_6, .slice A0_7 l0_7.length c0_7, .slice A0_8 l0_8.length c0_8] 25 (0, 0)) (by (with_reducible repeat (first | refine blk_drewN ?_ _ | refine blk_drew ?_ | refine blk_alloc ?_ _)); exact BK234.out)) : gb235 ≠ gb234)); clear BK234; clear HB; have BK234 := n0_; have HB := n1_; have BK235 := n2_; have GW235 := n3_; have GE235 := n4_; have NB234_235 := n5_; have NB235_234 := n6_; clear n0_ n1_ n2_ n3_ n4_ n5_ n6_; clear hb hbox hg; have hnb35 := NB234_235.out; have hnc35 := NB235_234.out; have hcz36_0 : w34.cell? ⟨gb234, 0, none⟩ = some (.int .i64 a0_0) := (blk_cell BK234.out 0).trans rfl; have hcz36_1 : w34.cell? ⟨gb234, 1, none⟩ = some (.int .i64 a0_1) := (blk_cell BK234.out 1).trans rfl; have hcz36_2 : w34.cell? ⟨gb234, 2, none⟩ = some (.int .i64 a0_2) := (blk_cell BK234.out 2).trans rfl; have hcz36_3 : w34.cell? ⟨gb234, 3, none⟩ = some (.int .i64 a0_3) := (blk_cell BK234.out 3).trans rfl; have hcz36_4 : w34.cell? ⟨gb234, 4, none⟩ = some (.int .i64 a0_4) := (blk_cell BK234.out 4).trans rfl; have hcz36_5 : w34.cell? ⟨gb234, 5, none⟩ = some (.int .i64 a0_5) := (blk_cell BK234.out 5).trans rfl; have hcz36_6 : w34.cell? ⟨gb234, 6, none⟩ = some (.string a0_6) := (blk_cell BK234.out 6).trans rfl; have hcz36_7 : w34.cell? ⟨gb234, 7, none⟩ = some (.slice A0_7 l0_7.length c0_7) := (blk_cell BK234.out 7).trans rfl; have hcz36_8 : w34.cell? ⟨gb234, 8, none⟩ = some (.slice A0_8 l0_8.length c0_8) := (blk_cell BK234.out 8).trans rfl; have hfz36_0 := blk_frozen BK234.out 0; have hfz36_1 := blk_frozen BK234.out 1; have hfz36_2 := blk_frozen BK234.out 2; have hfz36_3 := blk_frozen BK234.out 3; have hfz36_4 := blk_frozen BK234.out 4; have hfz36_5 := blk_frozen BK234.out 5; have hfz36_6 := blk_frozen BK234.out 6; have hfz36_7 := blk_frozen BK234.out 7; have hfz36_8 := blk_frozen BK234.out 8; have hcz37_0 : w34.cell? ⟨gb235, 0, none⟩ = some (.int .i64 a1_0) := (blk_cell BK235.out 0).trans rfl; have hcz37_1 : w34.cell? ⟨gb235, 1, none⟩ = some (.int .i64 a1_1) := (blk_cell BK235.out 1).trans rfl; have hcz37_2 : w34.cell? ⟨gb235, 2, none⟩ = some (.int .i64 a1_2) := (blk_cell BK235.out 2).trans rfl; have hcz37_3 : w34.cell? ⟨gb235, 3, none⟩ = some (.int .i64 a1_3) := (blk_cell BK235.out 3).trans rfl; have hcz37_4 : w34.cell? ⟨gb235, 4, none⟩ = some (.int .i64 a1_4) := (blk_cell BK235.out 4).trans rfl; have hcz37_5 : w34.cell? ⟨gb235, 5, none⟩ = some (.int .i64 a1_5) := (blk_cell BK235.out 5).trans rfl; have hcz37_6 : w34.cell? ⟨gb235, 6, none⟩ = some (.string a1_6) := (blk_cell BK235.out 6).trans rfl; have hcz37_7 : w34.cell? ⟨gb235, 7, none⟩ = some (.slice A1_7 l1_7.length c1_7) := (blk_cell BK235.out 7).trans rfl; have hcz37_8 : w34.cell? ⟨gb235, 8, none⟩ = some (.slice A1_8 l1_8.length c1_8) := (blk_cell BK235.out 8).trans rfl; have hfz37_0 := blk_frozen BK235.out 0; have hfz37_1 := blk_frozen BK235.out 1; have hfz37_2 := blk_frozen BK235.out 2; have hfz37_3 := blk_frozen BK235.out 3; have hfz37_4 := blk_frozen BK235.out 4; have hfz37_5 := blk_frozen BK235.out 5; have hfz37_6 := blk_frozen BK235.out 6; have hfz37_7 := blk_frozen BK235.out 7; have hfz37_8 := blk_frozen BK235.out 8))
      go_ret
      exact ⟨by first | rfl | (simp [errW_none, errW_some] <;> rfl) | (simp [*, errW_none, errW_some] <;> rfl), by repeat (first | (with_reducible first | exact HB.out | apply below_alloc | apply pw_below_drewN | apply below_drew1 | refine below_set ?_ GE234.out | refine below_set ?_ GE235.out) | exact HB.out)⟩
    ·rw [if_neg c6] at H
     have c6b0 : (a0_3 == a1_3) = false := beq_eq_false_iff_ne.mpr c6
     have c6b1 : (a0_3 != a1_3) = true := bne_iff_ne.mpr c6
     obtain rfl := Option.some.inj H
     go_enter Try.func15, Try.ntmps15
     go_wp2_with (first | ((with_reducible refine gate_dst (N := 2) rfl ?_); refine box_event ?hg (N := 2) ?hd (cs := #[.int .i64 a0_0, .int .i64 a0_1, .int .i64 a0_2, .int .i64 a0_3, .int .i64 a0_4, .int .i64 a0_5, .string a0_6, .slice A0_7 l0_7.length c0_7, .slice A0_8 l0_8.length c0_8]) (t := 25) ?hr ?_; (case hd => rfl); (case hg => rfl); (case hr => first | (go_simp; done) | (go_simp; rfl)); intro gb234 hg w38 hbox hb; have n0_ := Aside0.mk (below_step (by repeat (first | (with_reducible first | exact HB.out | apply below_alloc | apply pw_below_drewN | apply below_drew1) | exact HB.out)) hb); have n1_ := Aside0.mk (hbox); have n2_ := Aside0.mk ((by rw [hg]; exact (below_size (by repeat (first | (with_reducible first | exact HB.out | apply below_alloc | apply pw_below_drewN | apply below_drew1) | exact HB.out))) : w.heap.size ≤ gb234)); have n3_ := Aside0.mk ((by rw [hg]; exact (below_size (by repeat (first | (with_reducible first | exact HB.out | apply below_alloc | apply pw_below_drewN | apply below_drew1) | exact HB.out))) : w.heap.size ≤ gb234)); clear HB; have HB := n0_; have BK234 := n1_; have GW234 := n2_; have GE234 := n3_; clear n0_ n1_ n2_ n3_; clear hb hbox hg) | ((with_reducible refine gate_dst (N := 3) rfl ?_); refine box_event ?hg (N := 3) ?hd (cs := #[.int .i64 a1_0, .int .i64 a1_1, .int .i64 a1_2, .int .i64 a1_3, .int .i64 a1_4, .int .i64 a1_5, .string a1_6, .slice A1_7 l1_7.length c1_7, .slice A1_8 l1_8.length c1_8]) (t := 25) ?hr ?_; (case hd => rfl); (case hg => rfl); (case hr => first | (go_simp; done) | (go_simp; rfl)); intro gb235 hg w39 hbox hb; have n0_ := Aside0.mk (blk_below (g := gb234) (o := .cells #[.int .i64 a0_0, .int .i64 a0_1, .int .i64 a0_2, .int .i64 a0_3, .int .i64 a0_4, .int .i64 a0_5, .string a0_6, .slice A0_7 l0_7.length c0_7, .slice A0_8 l0_8.length c0_8] 25 (0, 0)) (by (with_reducible repeat (first | refine blk_drewN ?_ _ | refine blk_drew ?_ | refine blk_alloc ?_ _)); exact BK234.out) hb); have n1_ := Aside0.mk (below_step (by repeat (first | (with_reducible first | exact HB.out | apply below_alloc | apply pw_below_drewN | apply below_drew1 | refine below_set ?_ GE234.out) | exact HB.out)) hb); have n2_ := Aside0.mk (hbox); have n3_ := Aside0.mk ((by rw [hg]; exact (below_size (by repeat (first | (with_reducible first | exact HB.out | apply below_alloc | apply pw_below_drewN | apply below_drew1 | refine below_set ?_ GE234.out) | exact HB.out))) : w.heap.size ≤ gb235)); have n4_ := Aside0.mk ((by rw [hg]; exact (below_size (by repeat (first | (with_reducible first | exact HB.out | apply below_alloc | apply pw_below_drewN | apply below_drew1 | refine below_set ?_ GE234.out) | exact HB.out))) : w.heap.size ≤ gb235)); have n5_ := Aside0.mk ((by rw [hg]; exact Nat.ne_of_lt (blk_lt (g := gb234) (o := .cells #[.int .i64 a0_0, .int .i64 a0_1, .int .i64 a0_2, .int .i64 a0_3, .int .i64 a0_4, .int .i64 a0_5, .string a0_6, .slice A0_7 l0_7.length c0_7, .slice A0_8 l0_8.length c0_8] 25 (0, 0)) (by (with_reducible repeat (first | refine blk_drewN ?_ _ | refine blk_drew ?_ | refine blk_alloc ?_ _)); exact BK234.out)) : gb234 ≠ gb235)); have n6_ := Aside0.mk ((by rw [hg]; exact Nat.ne_of_gt (blk_lt (g := gb234) (o := .cells #[.int .i64 a0_0, .int .i64 a0_1, .int .i64 a0_2, .int .i64 a0_3, .int .i64 a0_4, .int .i64 a0_5, .string a0_6, .slice A0_7 l0_7.length c0_7, .slice A0_8 l0_8.length c0_8] 25 (0, 0)) (by (with_reducible repeat (first | refine blk_drewN ?_ _ | refine blk_drew ?_ | refine blk_alloc ?_ _)); exact BK234.out)) : gb235 ≠ gb234)); clear BK234; clear HB; have BK234 := n0_; have HB := n1_; have BK235 := n2_; have GW235 := n3_; have GE235 := n4_; have NB234_235 := n5_; have NB235_234 := n6_; clear n0_ n1_ n2_ n3_ n4_ n5_ n6_; clear hb hbox hg; have hnb40 := NB234_235.out; have hnc40 := NB235_234.out; have hcz41_0 : w39.cell? ⟨gb234, 0, none⟩ = some (.int .i64 a0_0) := (blk_cell BK234.out 0).trans rfl; have hcz41_1 : w39.cell? ⟨gb234, 1, none⟩ = some (.int .i64 a0_1) := (blk_cell BK234.out 1).trans rfl; have hcz41_2 : w39.cell? ⟨gb234, 2, none⟩ = some (.int .i64 a0_2) := (blk_cell BK234.out 2).trans rfl; have hcz41_3 : w39.cell? ⟨gb234, 3, none⟩ = some (.int .i64 a0_3) := (blk_cell BK234.out 3).trans rfl; have hcz41_4 : w39.cell? ⟨gb234, 4, none⟩ = some (.int .i64 a0_4) := (blk_cell BK234.out 4).trans rfl; have hcz41_5 : w39.cell? ⟨gb234, 5, none⟩ = some (.int .i64 a0_5) := (blk_cell BK234.out 5).trans rfl; have hcz41_6 : w39.cell? ⟨gb234, 6, none⟩ = some (.string a0_6) := (blk_cell BK234.out 6).trans rfl; have hcz41_7 : w39.cell? ⟨gb234, 7, none⟩ = some (.slice A0_7 l0_7.length c0_7) := (blk_cell BK234.out 7).trans rfl; have hcz41_8 : w39.cell? ⟨gb234, 8, none⟩ = some (.slice A0_8 l0_8.length c0_8) := (blk_cell BK234.out 8).trans rfl; have hfz41_0 := blk_frozen BK234.out 0; have hfz41_1 := blk_frozen BK234.out 1; have hfz41_2 := blk_frozen BK234.out 2; have hfz41_3 := blk_frozen BK234.out 3; have hfz41_4 := blk_frozen BK234.out 4; have hfz41_5 := blk_frozen BK234.out 5; have hfz41_6 := blk_frozen BK234.out 6; have hfz41_7 := blk_frozen BK234.out 7; have hfz41_8 := blk_frozen BK234.out 8; have hcz42_0 : w39.cell? ⟨gb235, 0, none⟩ = some (.int .i64 a1_0) := (blk_cell BK235.out 0).trans rfl; have hcz42_1 : w39.cell? ⟨gb235, 1, none⟩ = some (.int .i64 a1_1) := (blk_cell BK235.out 1).trans rfl; have hcz42_2 : w39.cell? ⟨gb235, 2, none⟩ = some (.int .i64 a1_2) := (blk_cell BK235.out 2).trans rfl; have hcz42_3 : w39.cell? ⟨gb235, 3, none⟩ = some (.int .i64 a1_3) := (blk_cell BK235.out 3).trans rfl; have hcz42_4 : w39.cell? ⟨gb235, 4, none⟩ = some (.int .i64 a1_4) := (blk_cell BK235.out 4).trans rfl; have hcz42_5 : w39.cell? ⟨gb235, 5, none⟩ = some (.int .i64 a1_5) := (blk_cell BK235.out 5).trans rfl; have hcz42_6 : w39.cell? ⟨gb235, 6, none⟩ = some (.string a1_6) := (blk_cell BK235.out 6).trans rfl; have hcz42_7 : w39.cell? ⟨gb235, 7, none⟩ = some (.slice A1_7 l1_7.length c1_7) := (blk_cell BK235.out 7).trans rfl; have hcz42_8 : w39.cell? ⟨gb235, 8, none⟩ = some (.slice A1_8 l1_8.length c1_8) := (blk_cell BK235.out 8).trans rfl; have hfz42_0 := blk_frozen BK235.out 0; have hfz42_1 := blk_frozen BK235.out 1; have hfz42_2 := blk_frozen BK235.out 2; have hfz42_3 := blk_frozen BK235.out 3; have hfz42_4 := blk_frozen BK235.out 4; have hfz42_5 := blk_frozen BK235.out 5; have hfz42_6 := blk_frozen BK235.out 6; have hfz42_7 := blk_frozen BK235.out 7; have hfz42_8 := blk_frozen BK235.out 8))
     go_ret
     exact ⟨by first | rfl | (simp [errW_none, errW_some] <;> rfl) | (simp [*, errW_none, errW_some] <;> rfl), by repeat (first | (with_reducible first | exact HB.out | apply below_alloc | apply pw_below_drewN | apply below_drew1 | refine below_set ?_ GE234.out | refine below_set ?_ GE235.out) | exact HB.out)⟩
   ·rw [if_neg c5] at H
    have c5b0 : (a0_2 == a1_2) = false := beq_eq_false_iff_ne.mpr c5
    have c5b1 : (a0_2 != a1_2) = true := bne_iff_ne.mpr c5
    obtain rfl := Option.some.inj H
    go_enter Try.func15, Try.ntmps15
    go_wp2_with (first | ((with_reducible refine gate_dst (N := 2) rfl ?_); refine box_event ?hg (N := 2) ?hd (cs := #[.int .i64 a0_0, .int .i64 a0_1, .int .i64 a0_2, .int .i64 a0_3, .int .i64 a0_4, .int .i64 a0_5, .string a0_6, .slice A0_7 l0_7.length c0_7, .slice A0_8 l0_8.length c0_8]) (t := 25) ?hr ?_; (case hd => rfl); (case hg => rfl); (case hr => first | (go_simp; done) | (go_simp; rfl)); intro gb234 hg w43 hbox hb; have n0_ := Aside0.mk (below_step (by repeat (first | (with_reducible first | exact HB.out | apply below_alloc | apply pw_below_drewN | apply below_drew1) | exact HB.out)) hb); have n1_ := Aside0.mk (hbox); have n2_ := Aside0.mk ((by rw [hg]; exact (below_size (by repeat (first | (with_reducible first | exact HB.out | apply below_alloc | apply pw_below_drewN | apply below_drew1) | exact HB.out))) : w.heap.size ≤ gb234)); have n3_ := Aside0.mk ((by rw [hg]; exact (below_size (by repeat (first | (with_reducible first | exact HB.out | apply below_alloc | apply pw_below_drewN | apply below_drew1) | exact HB.out))) : w.heap.size ≤ gb234)); clear HB; have HB := n0_; have BK234 := n1_; have GW234 := n2_; have GE234 := n3_; clear n0_ n1_ n2_ n3_; clear hb hbox hg) | ((with_reducible refine gate_dst (N := 3) rfl ?_); refine box_event ?hg (N := 3) ?hd (cs := #[.int .i64 a1_0, .int .i64 a1_1, .int .i64 a1_2, .int .i64 a1_3, .int .i64 a1_4, .int .i64 a1_5, .string a1_6, .slice A1_7 l1_7.length c1_7, .slice A1_8 l1_8.length c1_8]) (t := 25) ?hr ?_; (case hd => rfl); (case hg => rfl); (case hr => first | (go_simp; done) | (go_simp; rfl)); intro gb235 hg w44 hbox hb; have n0_ := Aside0.mk (blk_below (g := gb234) (o := .cells #[.int .i64 a0_0, .int .i64 a0_1, .int .i64 a0_2, .int .i64 a0_3, .int .i64 a0_4, .int .i64 a0_5, .string a0_6, .slice A0_7 l0_7.length c0_7, .slice A0_8 l0_8.length c0_8] 25 (0, 0)) (by (with_reducible repeat (first | refine blk_drewN ?_ _ | refine blk_drew ?_ | refine blk_alloc ?_ _)); exact BK234.out) hb); have n1_ := Aside0.mk (below_step (by repeat (first | (with_reducible first | exact HB.out | apply below_alloc | apply pw_below_drewN | apply below_drew1 | refine below_set ?_ GE234.out) | exact HB.out)) hb); have n2_ := Aside0.mk (hbox); have n3_ := Aside0.mk ((by rw [hg]; exact (below_size (by repeat (first | (with_reducible first | exact HB.out | apply below_alloc | apply pw_below_drewN | apply below_drew1 | refine below_set ?_ GE234.out) | exact HB.out))) : w.heap.size ≤ gb235)); have n4_ := Aside0.mk ((by rw [hg]; exact (below_size (by repeat (first | (with_reducible first | exact HB.out | apply below_alloc | apply pw_below_drewN | apply below_drew1 | refine below_set ?_ GE234.out) | exact HB.out))) : w.heap.size ≤ gb235)); have n5_ := Aside0.mk ((by rw [hg]; exact Nat.ne_of_lt (blk_lt (g := gb234) (o := .cells #[.int .i64 a0_0, .int .i64 a0_1, .int .i64 a0_2, .int .i64 a0_3, .int .i64 a0_4, .int .i64 a0_5, .string a0_6, .slice A0_7 l0_7.length c0_7, .slice A0_8 l0_8.length c0_8] 25 (0, 0)) (by (with_reducible repeat (first | refine blk_drewN ?_ _ | refine blk_drew ?_ | refine blk_alloc ?_ _)); exact BK234.out)) : gb234 ≠ gb235)); have n6_ := Aside0.mk ((by rw [hg]; exact Nat.ne_of_gt (blk_lt (g := gb234) (o := .cells #[.int .i64 a0_0, .int .i64 a0_1, .int .i64 a0_2, .int .i64 a0_3, .int .i64 a0_4, .int .i64 a0_5, .string a0_6, .slice A0_7 l0_7.length c0_7, .slice A0_8 l0_8.length c0_8] 25 (0, 0)) (by (with_reducible repeat (first | refine blk_drewN ?_ _ | refine blk_drew ?_ | refine blk_alloc ?_ _)); exact BK234.out)) : gb235 ≠ gb234)); clear BK234; clear HB; have BK234 := n0_; have HB := n1_; have BK235 := n2_; have GW235 := n3_; have GE235 := n4_; have NB234_235 := n5_; have NB235_234 := n6_; clear n0_ n1_ n2_ n3_ n4_ n5_ n6_; clear hb hbox hg; have hnb45 := NB234_235.out; have hnc45 := NB235_234.out; have hcz46_0 : w44.cell? ⟨gb234, 0, none⟩ = some (.int .i64 a0_0) := (blk_cell BK234.out 0).trans rfl; have hcz46_1 : w44.cell? ⟨gb234, 1, none⟩ = some (.int .i64 a0_1) := (blk_cell BK234.out 1).trans rfl; have hcz46_2 : w44.cell? ⟨gb234, 2, none⟩ = some (.int .i64 a0_2) := (blk_cell BK234.out 2).trans rfl; have hcz46_3 : w44.cell? ⟨gb234, 3, none⟩ = some (.int .i64 a0_3) := (blk_cell BK234.out 3).trans rfl; have hcz46_4 : w44.cell? ⟨gb234, 4, none⟩ = some (.int .i64 a0_4) := (blk_cell BK234.out 4).trans rfl; have hcz46_5 : w44.cell? ⟨gb234, 5, none⟩ = some (.int .i64 a0_5) := (blk_cell BK234.out 5).trans rfl; have hcz46_6 : w44.cell? ⟨gb234, 6, none⟩ = some (.string a0_6) := (blk_cell BK234.out 6).trans rfl; have hcz46_7 : w44.cell? ⟨gb234, 7, none⟩ = some (.slice A0_7 l0_7.length c0_7) := (blk_cell BK234.out 7).trans rfl; have hcz46_8 : w44.cell? ⟨gb234, 8, none⟩ = some (.slice A0_8 l0_8.length c0_8) := (blk_cell BK234.out 8).trans rfl; have hfz46_0 := blk_frozen BK234.out 0; have hfz46_1 := blk_frozen BK234.out 1; have hfz46_2 := blk_frozen BK234.out 2; have hfz46_3 := blk_frozen BK234.out 3; have hfz46_4 := blk_frozen BK234.out 4; have hfz46_5 := blk_frozen BK234.out 5; have hfz46_6 := blk_frozen BK234.out 6; have hfz46_7 := blk_frozen BK234.out 7; have hfz46_8 := blk_frozen BK234.out 8; have hcz47_0 : w44.cell? ⟨gb235, 0, none⟩ = some (.int .i64 a1_0) := (blk_cell BK235.out 0).trans rfl; have hcz47_1 : w44.cell? ⟨gb235, 1, none⟩ = some (.int .i64 a1_1) := (blk_cell BK235.out 1).trans rfl; have hcz47_2 : w44.cell? ⟨gb235, 2, none⟩ = some (.int .i64 a1_2) := (blk_cell BK235.out 2).trans rfl; have hcz47_3 : w44.cell? ⟨gb235, 3, none⟩ = some (.int .i64 a1_3) := (blk_cell BK235.out 3).trans rfl; have hcz47_4 : w44.cell? ⟨gb235, 4, none⟩ = some (.int .i64 a1_4) := (blk_cell BK235.out 4).trans rfl; have hcz47_5 : w44.cell? ⟨gb235, 5, none⟩ = some (.int .i64 a1_5) := (blk_cell BK235.out 5).trans rfl; have hcz47_6 : w44.cell? ⟨gb235, 6, none⟩ = some (.string a1_6) := (blk_cell BK235.out 6).trans rfl; have hcz47_7 : w44.cell? ⟨gb235, 7, none⟩ = some (.slice A1_7 l1_7.length c1_7) := (blk_cell BK235.out 7).trans rfl; have hcz47_8 : w44.cell? ⟨gb235, 8, none⟩ = some (.slice A1_8 l1_8.length c1_8) := (blk_cell BK235.out 8).trans rfl; have hfz47_0 := blk_frozen BK235.out 0; have hfz47_1 := blk_frozen BK235.out 1; have hfz47_2 := blk_frozen BK235.out 2; have hfz47_3 := blk_frozen BK235.out 3; have hfz47_4 := blk_frozen BK235.out 4; have hfz47_5 := blk_frozen BK235.out 5; have hfz47_6 := blk_frozen BK235.out 6; have hfz47_7 := blk_frozen BK235.out 7; have hfz47_8 := blk_frozen BK235.out 8))
    go_ret
    exact ⟨by first | rfl | (simp [errW_none, errW_some] <;> rfl) | (simp [*, errW_none, errW_some] <;> rfl), by repeat (first | (with_reducible first | exact HB.out | apply below_alloc | apply pw_below_drewN | apply below_drew1 | refine below_set ?_ GE234.out | refine below_set ?_ GE235.out) | exact HB.out)⟩
  ·rw [if_neg c4] at H
   have c4b0 : (a0_1 == a1_1) = false := beq_eq_false_iff_ne.mpr c4
   have c4b1 : (a0_1 != a1_1) = true := bne_iff_ne.mpr c4
   obtain rfl := Option.some.inj H
   go_enter Try.func15, Try.ntmps15
   go_wp2_with (first | ((with_reducible refine gate_dst (N := 2) rfl ?_); refine box_event ?hg (N := 2) ?hd (cs := #[.int .i64 a0_0, .int .i64 a0_1, .int .i64 a0_2, .int .i64 a0_3, .int .i64 a0_4, .int .i64 a0_5, .string a0_6, .slice A0_7 l0_7.length c0_7, .slice A0_8 l0_8.length c0_8]) (t := 25) ?hr ?_; (case hd => rfl); (case hg => rfl); (case hr => first | (go_simp; done) | (go_simp; rfl)); intro gb234 hg w48 hbox hb; have n0_ := Aside0.mk (below_step (by repeat (first | (with_reducible first | exact HB.out | apply below_alloc | apply pw_below_drewN | apply below_drew1) | exact HB.out)) hb); have n1_ := Aside0.mk (hbox); have n2_ := Aside0.mk ((by rw [hg]; exact (below_size (by repeat (first | (with_reducible first | exact HB.out | apply below_alloc | apply pw_below_drewN | apply below_drew1) | exact HB.out))) : w.heap.size ≤ gb234)); have n3_ := Aside0.mk ((by rw [hg]; exact (below_size (by repeat (first | (with_reducible first | exact HB.out | apply below_alloc | apply pw_below_drewN | apply below_drew1) | exact HB.out))) : w.heap.size ≤ gb234)); clear HB; have HB := n0_; have BK234 := n1_; have GW234 := n2_; have GE234 := n3_; clear n0_ n1_ n2_ n3_; clear hb hbox hg) | ((with_reducible refine gate_dst (N := 3) rfl ?_); refine box_event ?hg (N := 3) ?hd (cs := #[.int .i64 a1_0, .int .i64 a1_1, .int .i64 a1_2, .int .i64 a1_3, .int .i64 a1_4, .int .i64 a1_5, .string a1_6, .slice A1_7 l1_7.length c1_7, .slice A1_8 l1_8.length c1_8]) (t := 25) ?hr ?_; (case hd => rfl); (case hg => rfl); (case hr => first | (go_simp; done) | (go_simp; rfl)); intro gb235 hg w49 hbox hb; have n0_ := Aside0.mk (blk_below (g := gb234) (o := .cells #[.int .i64 a0_0, .int .i64 a0_1, .int .i64 a0_2, .int .i64 a0_3, .int .i64 a0_4, .int .i64 a0_5, .string a0_6, .slice A0_7 l0_7.length c0_7, .slice A0_8 l0_8.length c0_8] 25 (0, 0)) (by (with_reducible repeat (first | refine blk_drewN ?_ _ | refine blk_drew ?_ | refine blk_alloc ?_ _)); exact BK234.out) hb); have n1_ := Aside0.mk (below_step (by repeat (first | (with_reducible first | exact HB.out | apply below_alloc | apply pw_below_drewN | apply below_drew1 | refine below_set ?_ GE234.out) | exact HB.out)) hb); have n2_ := Aside0.mk (hbox); have n3_ := Aside0.mk ((by rw [hg]; exact (below_size (by repeat (first | (with_reducible first | exact HB.out | apply below_alloc | apply pw_below_drewN | apply below_drew1 | refine below_set ?_ GE234.out) | exact HB.out))) : w.heap.size ≤ gb235)); have n4_ := Aside0.mk ((by rw [hg]; exact (below_size (by repeat (first | (with_reducible first | exact HB.out | apply below_alloc | apply pw_below_drewN | apply below_drew1 | refine below_set ?_ GE234.out) | exact HB.out))) : w.heap.size ≤ gb235)); have n5_ := Aside0.mk ((by rw [hg]; exact Nat.ne_of_lt (blk_lt (g := gb234) (o := .cells #[.int .i64 a0_0, .int .i64 a0_1, .int .i64 a0_2, .int .i64 a0_3, .int .i64 a0_4, .int .i64 a0_5, .string a0_6, .slice A0_7 l0_7.length c0_7, .slice A0_8 l0_8.length c0_8] 25 (0, 0)) (by (with_reducible repeat (first | refine blk_drewN ?_ _ | refine blk_drew ?_ | refine blk_alloc ?_ _)); exact BK234.out)) : gb234 ≠ gb235)); have n6_ := Aside0.mk ((by rw [hg]; exact Nat.ne_of_gt (blk_lt (g := gb234) (o := .cells #[.int .i64 a0_0, .int .i64 a0_1, .int .i64 a0_2, .int .i64 a0_3, .int .i64 a0_4, .int .i64 a0_5, .string a0_6, .slice A0_7 l0_7.length c0_7, .slice A0_8 l0_8.length c0_8] 25 (0, 0)) (by (with_reducible repeat (first | refine blk_drewN ?_ _ | refine blk_drew ?_ | refine blk_alloc ?_ _)); exact BK234.out)) : gb235 ≠ gb234)); clear BK234; clear HB; have BK234 := n0_; have HB := n1_; have BK235 := n2_; have GW235 := n3_; have GE235 := n4_; have NB234_235 := n5_; have NB235_234 := n6_; clear n0_ n1_ n2_ n3_ n4_ n5_ n6_; clear hb hbox hg; have hnb50 := NB234_235.out; have hnc50 := NB235_234.out; have hcz51_0 : w49.cell? ⟨gb234, 0, none⟩ = some (.int .i64 a0_0) := (blk_cell BK234.out 0).trans rfl; have hcz51_1 : w49.cell? ⟨gb234, 1, none⟩ = some (.int .i64 a0_1) := (blk_cell BK234.out 1).trans rfl; have hcz51_2 : w49.cell? ⟨gb234, 2, none⟩ = some (.int .i64 a0_2) := (blk_cell BK234.out 2).trans rfl; have hcz51_3 : w49.cell? ⟨gb234, 3, none⟩ = some (.int .i64 a0_3) := (blk_cell BK234.out 3).trans rfl; have hcz51_4 : w49.cell? ⟨gb234, 4, none⟩ = some (.int .i64 a0_4) := (blk_cell BK234.out 4).trans rfl; have hcz51_5 : w49.cell? ⟨gb234, 5, none⟩ = some (.int .i64 a0_5) := (blk_cell BK234.out 5).trans rfl; have hcz51_6 : w49.cell? ⟨gb234, 6, none⟩ = some (.string a0_6) := (blk_cell BK234.out 6).trans rfl; have hcz51_7 : w49.cell? ⟨gb234, 7, none⟩ = some (.slice A0_7 l0_7.length c0_7) := (blk_cell BK234.out 7).trans rfl; have hcz51_8 : w49.cell? ⟨gb234, 8, none⟩ = some (.slice A0_8 l0_8.length c0_8) := (blk_cell BK234.out 8).trans rfl; have hfz51_0 := blk_frozen BK234.out 0; have hfz51_1 := blk_frozen BK234.out 1; have hfz51_2 := blk_frozen BK234.out 2; have hfz51_3 := blk_frozen BK234.out 3; have hfz51_4 := blk_frozen BK234.out 4; have hfz51_5 := blk_frozen BK234.out 5; have hfz51_6 := blk_frozen BK234.out 6; have hfz51_7 := blk_frozen BK234.out 7; have hfz51_8 := blk_frozen BK234.out 8; have hcz52_0 : w49.cell? ⟨gb235, 0, none⟩ = some (.int .i64 a1_0) := (blk_cell BK235.out 0).trans rfl; have hcz52_1 : w49.cell? ⟨gb235, 1, none⟩ = some (.int .i64 a1_1) := (blk_cell BK235.out 1).trans rfl; have hcz52_2 : w49.cell? ⟨gb235, 2, none⟩ = some (.int .i64 a1_2) := (blk_cell BK235.out 2).trans rfl; have hcz52_3 : w49.cell? ⟨gb235, 3, none⟩ = some (.int .i64 a1_3) := (blk_cell BK235.out 3).trans rfl; have hcz52_4 : w49.cell? ⟨gb235, 4, none⟩ = some (.int .i64 a1_4) := (blk_cell BK235.out 4).trans rfl; have hcz52_5 : w49.cell? ⟨gb235, 5, none⟩ = some (.int .i64 a1_5) := (blk_cell BK235.out 5).trans rfl; have hcz52_6 : w49.cell? ⟨gb235, 6, none⟩ = some (.string a1_6) := (blk_cell BK235.out 6).trans rfl; have hcz52_7 : w49.cell? ⟨gb235, 7, none⟩ = some (.slice A1_7 l1_7.length c1_7) := (blk_cell BK235.out 7).trans rfl; have hcz52_8 : w49.cell? ⟨gb235, 8, none⟩ = some (.slice A1_8 l1_8.length c1_8) := (blk_cell BK235.out 8).trans rfl; have hfz52_0 := blk_frozen BK235.out 0; have hfz52_1 := blk_frozen BK235.out 1; have hfz52_2 := blk_frozen BK235.out 2; have hfz52_3 := blk_frozen BK235.out 3; have hfz52_4 := blk_frozen BK235.out 4; have hfz52_5 := blk_frozen BK235.out 5; have hfz52_6 := blk_frozen BK235.out 6; have hfz52_7 := blk_frozen BK235.out 7; have hfz52_8 := blk_frozen BK235.out 8))
   go_ret
   exact ⟨by first | rfl | (simp [errW_none, errW_some] <;> rfl) | (simp [*, errW_none, errW_some] <;> rfl), by repeat (first | (with_reducible first | exact HB.out | apply below_alloc | apply pw_below_drewN | apply below_drew1 | refine below_set ?_ GE234.out | refine below_set ?_ GE235.out) | exact HB.out)⟩
 ·rw [if_neg c3] at H
  have c3b0 : (a0_0 == a1_0) = false := beq_eq_false_iff_ne.mpr c3
  have c3b1 : (a0_0 != a1_0) = true := bne_iff_ne.mpr c3
  obtain rfl := Option.some.inj H
  go_enter Try.func15, Try.ntmps15
  go_wp2_with (first | ((with_reducible refine gate_dst (N := 2) rfl ?_); refine box_event ?hg (N := 2) ?hd (cs := #[.int .i64 a0_0, .int .i64 a0_1, .int .i64 a0_2, .int .i64 a0_3, .int .i64 a0_4, .int .i64 a0_5, .string a0_6, .slice A0_7 l0_7.length c0_7, .slice A0_8 l0_8.length c0_8]) (t := 25) ?hr ?_; (case hd => rfl); (case hg => rfl); (case hr => first | (go_simp; done) | (go_simp; rfl)); intro gb234 hg w53 hbox hb; have n0_ := Aside0.mk (below_step (by repeat (first | (with_reducible first | exact HB.out | apply below_alloc | apply pw_below_drewN | apply below_drew1) | exact HB.out)) hb); have n1_ := Aside0.mk (hbox); have n2_ := Aside0.mk ((by rw [hg]; exact (below_size (by repeat (first | (with_reducible first | exact HB.out | apply below_alloc | apply pw_below_drewN | apply below_drew1) | exact HB.out))) : w.heap.size ≤ gb234)); have n3_ := Aside0.mk ((by rw [hg]; exact (below_size (by repeat (first | (with_reducible first | exact HB.out | apply below_alloc | apply pw_below_drewN | apply below_drew1) | exact HB.out))) : w.heap.size ≤ gb234)); clear HB; have HB := n0_; have BK234 := n1_; have GW234 := n2_; have GE234 := n3_; clear n0_ n1_ n2_ n3_; clear hb hbox hg) | ((with_reducible refine gate_dst (N := 3) rfl ?_); refine box_event ?hg (N := 3) ?hd (cs := #[.int .i64 a1_0, .int .i64 a1_1, .int .i64 a1_2, .int .i64 a1_3, .int .i64 a1_4, .int .i64 a1_5, .string a1_6, .slice A1_7 l1_7.length c1_7, .slice A1_8 l1_8.length c1_8]) (t := 25) ?hr ?_; (case hd => rfl); (case hg => rfl); (case hr => first | (go_simp; done) | (go_simp; rfl)); intro gb235 hg w54 hbox hb; have n0_ := Aside0.mk (blk_below (g := gb234) (o := .cells #[.int .i64 a0_0, .int .i64 a0_1, .int .i64 a0_2, .int .i64 a0_3, .int .i64 a0_4, .int .i64 a0_5, .string a0_6, .slice A0_7 l0_7.length c0_7, .slice A0_8 l0_8.length c0_8] 25 (0, 0)) (by (with_reducible repeat (first | refine blk_drewN ?_ _ | refine blk_drew ?_ | refine blk_alloc ?_ _)); exact BK234.out) hb); have n1_ := Aside0.mk (below_step (by repeat (first | (with_reducible first | exact HB.out | apply below_alloc | apply pw_below_drewN | apply below_drew1 | refine below_set ?_ GE234.out) | exact HB.out)) hb); have n2_ := Aside0.mk (hbox); have n3_ := Aside0.mk ((by rw [hg]; exact (below_size (by repeat (first | (with_reducible first | exact HB.out | apply below_alloc | apply pw_below_drewN | apply below_drew1 | refine below_set ?_ GE234.out) | exact HB.out))) : w.heap.size ≤ gb235)); have n4_ := Aside0.mk ((by rw [hg]; exact (below_size (by repeat (first | (with_reducible first | exact HB.out | apply below_alloc | apply pw_below_drewN | apply below_drew1 | refine below_set ?_ GE234.out) | exact HB.out))) : w.heap.size ≤ gb235)); have n5_ := Aside0.mk ((by rw [hg]; exact Nat.ne_of_lt (blk_lt (g := gb234) (o := .cells #[.int .i64 a0_0, .int .i64 a0_1, .int .i64 a0_2, .int .i64 a0_3, .int .i64 a0_4, .int .i64 a0_5, .string a0_6, .slice A0_7 l0_7.length c0_7, .slice A0_8 l0_8.length c0_8] 25 (0, 0)) (by (with_reducible repeat (first | refine blk_drewN ?_ _ | refine blk_drew ?_ | refine blk_alloc ?_ _)); exact BK234.out)) : gb234 ≠ gb235)); have n6_ := Aside0.mk ((by rw [hg]; exact Nat.ne_of_gt (blk_lt (g := gb234) (o := .cells #[.int .i64 a0_0, .int .i64 a0_1, .int .i64 a0_2, .int .i64 a0_3, .int .i64 a0_4, .int .i64 a0_5, .string a0_6, .slice A0_7 l0_7.length c0_7, .slice A0_8 l0_8.length c0_8] 25 (0, 0)) (by (with_reducible repeat (first | refine blk_drewN ?_ _ | refine blk_drew ?_ | refine blk_alloc ?_ _)); exact BK234.out)) : gb235 ≠ gb234)); clear BK234; clear HB; have BK234 := n0_; have HB := n1_; have BK235 := n2_; have GW235 := n3_; have GE235 := n4_; have NB234_235 := n5_; have NB235_234 := n6_; clear n0_ n1_ n2_ n3_ n4_ n5_ n6_; clear hb hbox hg; have hnb55 := NB234_235.out; have hnc55 := NB235_234.out; have hcz56_0 : w54.cell? ⟨gb234, 0, none⟩ = some (.int .i64 a0_0) := (blk_cell BK234.out 0).trans rfl; have hcz56_1 : w54.cell? ⟨gb234, 1, none⟩ = some (.int .i64 a0_1) := (blk_cell BK234.out 1).trans rfl; have hcz56_2 : w54.cell? ⟨gb234, 2, none⟩ = some (.int .i64 a0_2) := (blk_cell BK234.out 2).trans rfl; have hcz56_3 : w54.cell? ⟨gb234, 3, none⟩ = some (.int .i64 a0_3) := (blk_cell BK234.out 3).trans rfl; have hcz56_4 : w54.cell? ⟨gb234, 4, none⟩ = some (.int .i64 a0_4) := (blk_cell BK234.out 4).trans rfl; have hcz56_5 : w54.cell? ⟨gb234, 5, none⟩ = some (.int .i64 a0_5) := (blk_cell BK234.out 5).trans rfl; have hcz56_6 : w54.cell? ⟨gb234, 6, none⟩ = some (.string a0_6) := (blk_cell BK234.out 6).trans rfl; have hcz56_7 : w54.cell? ⟨gb234, 7, none⟩ = some (.slice A0_7 l0_7.length c0_7) := (blk_cell BK234.out 7).trans rfl; have hcz56_8 : w54.cell? ⟨gb234, 8, none⟩ = some (.slice A0_8 l0_8.length c0_8) := (blk_cell BK234.out 8).trans rfl; have hfz56_0 := blk_frozen BK234.out 0; have hfz56_1 := blk_frozen BK234.out 1; have hfz56_2 := blk_frozen BK234.out 2; have hfz56_3 := blk_frozen BK234.out 3; have hfz56_4 := blk_frozen BK234.out 4; have hfz56_5 := blk_frozen BK234.out 5; have hfz56_6 := blk_frozen BK234.out 6; have hfz56_7 := blk_frozen BK234.out 7; have hfz56_8 := blk_frozen BK234.out 8; have hcz57_0 : w54.cell? ⟨gb235, 0, none⟩ = some (.int .i64 a1_0) := (blk_cell BK235.out 0).trans rfl; have hcz57_1 : w54.cell? ⟨gb235, 1, none⟩ = some (.int .i64 a1_1) := (blk_cell BK235.out 1).trans rfl; have hcz57_2 : w54.cell? ⟨gb235, 2, none⟩ = some (.int .i64 a1_2) := (blk_cell BK235.out 2).trans rfl; have hcz57_3 : w54.cell? ⟨gb235, 3, none⟩ = some (.int .i64 a1_3) := (blk_cell BK235.out 3).trans rfl; have hcz57_4 : w54.cell? ⟨gb235, 4, none⟩ = some (.int .i64 a1_4) := (blk_cell BK235.out 4).trans rfl; have hcz57_5 : w54.cell? ⟨gb235, 5, none⟩ = some (.int .i64 a1_5) := (blk_cell BK235.out 5).trans rfl; have hcz57_6 : w54.cell? ⟨gb235, 6, none⟩ = some (.string a1_6) := (blk_cell BK235.out 6).trans rfl; have hcz57_7 : w54.cell? ⟨gb235, 7, none⟩ = some (.slice A1_7 l1_7.length c1_7) := (blk_cell BK235.out 7).trans rfl; have hcz57_8 : w54.cell? ⟨gb235, 8, none⟩ = some (.slice A1_8 l1_8.length c1_8) := (blk_cell BK235.out 8).trans rfl; have hfz57_0 := blk_frozen BK235.out 0; have hfz57_1 := blk_frozen BK235.out 1; have hfz57_2 := blk_frozen BK235.out 2; have hfz57_3 := blk_frozen BK235.out 3; have hfz57_4 := blk_frozen BK235.out 4; have hfz57_5 := blk_frozen BK235.out 5; have hfz57_6 := blk_frozen BK235.out 6; have hfz57_7 := blk_frozen BK235.out 7; have hfz57_8 := blk_frozen BK235.out 8))
  go_ret
  exact ⟨by first | rfl | (simp [errW_none, errW_some] <;> rfl) | (simp [*, errW_none, errW_some] <;> rfl), by repeat (first | (with_reducible first | exact HB.out | apply below_alloc | apply pw_below_drewN | apply below_drew1 | refine below_set ?_ GE234.out | refine below_set ?_ GE235.out) | exact HB.out)⟩
end Go.Proofs.Ytelgpkbnahgdoaa.Al

namespace Go.Proofs.Ytelgpkbnahgdoaa.Al
open Go.RowKit Go.Proofs.YtelgpkbnahgdoaaW.PrintWords Go.Proofs.YtelgpkbnahgdoaaW.PrintLast Go.Proofs.YtelgpkbnahgdoaaW.PrintMore
attribute [local go_sem] max2_int min2_int max_two min_two max_three min_three max_four min_four   -- for this text's walks alone
set_option linter.unusedVariables false
set_option linter.unusedSimpArgs false
attribute [local go_sem high] eqA49
def corncriblaw07_works.f (k : Nat)  : Option (Bool) := (letter_Encode.f k 7 1 2 5 0 0 (⟨#[]⟩ : ByteArray) ([] : List ByteArray) ([] : List (S49))).bind fun bt238 => (if bt238.2 = 0 then (if bt238.1.toList = ([7, 14, 2, 4, 10, 0, 0, 0, 1, 0] : List UInt8) then ((letter_Key.f (⟨#[107]⟩ : ByteArray)).bind fun t240 => (if t240 = true then ((letter_Key.f (⟨#[]⟩ : ByteArray)).bind fun t241 => (if t241 = true then (some false) else ((letter_Rising.f k (([(⟨#[97]⟩ : ByteArray), (⟨#[98]⟩ : ByteArray)] : List ByteArray))).bind fun t245 => (if t245 = true then ((letter_Rising.f k (([(⟨#[97]⟩ : ByteArray), (⟨#[97]⟩ : ByteArray)] : List ByteArray))).bind fun t249 => (some (!t249))) else (some false))))) else (some false))) else (some false)) else (some false))
theorem corncriblaw07_works.mono : ∀ k, LeO (corncriblaw07_works.f k ) (corncriblaw07_works.f (k + 1) ) := by
 intro  k
 unfold corncriblaw07_works.f
 repeat' first
   |(with_reducible exact letter_Encode.mono _ _ _ _ _ _ _ _ _ _)
   |(with_reducible exact letter_Rising.mono _ _)
   |(with_reducible exact LeO.refl _)
   |(with_reducible exact LeO.none _)
   |(with_reducible refine LeO.ite ?_ ?_)
   |(with_reducible refine LeO.bind ?_ (fun _ => ?_))
   |exact letter_Encode.mono _ _ _ _ _ _ _ _ _ _
   |exact letter_Rising.mono _ _
   |exact LeO.none _
   |refine LeO.ite ?_ ?_
   |refine LeO.bind ?_ (fun _ => ?_)
set_option maxHeartbeats 8000000 in
set_option maxRecDepth 100000 in
theorem corncriblaw07_works.calls (k : Nat)  (r : Bool) (w : World) (h : corncriblaw07_works.f k  = some r) :
  Calls Try.prog 16 #[] w fun e w' => e = .returned (.bool r) ∧ Below w.heap.size w w' := by
 have hu25 := Try.underlying25
 have HB := Aside0.mk (Below.refl w.heap.size w)
 have H : ((letter_Encode.f k 7 1 2 5 0 0 (⟨#[]⟩ : ByteArray) ([] : List ByteArray) ([] : List (S49))).bind fun bt238 => (if bt238.2 = 0 then (if bt238.1.toList = ([7, 14, 2, 4, 10, 0, 0, 0, 1, 0] : List UInt8) then ((letter_Key.f (⟨#[107]⟩ : ByteArray)).bind fun t240 => (if t240 = true then ((letter_Key.f (⟨#[]⟩ : ByteArray)).bind fun t241 => (if t241 = true then (some false) else ((letter_Rising.f k (([(⟨#[97]⟩ : ByteArray), (⟨#[98]⟩ : ByteArray)] : List ByteArray))).bind fun t245 => (if t245 = true then ((letter_Rising.f k (([(⟨#[97]⟩ : ByteArray), (⟨#[97]⟩ : ByteArray)] : List ByteArray))).bind fun t249 => (some (!t249))) else (some false))))) else (some false))) else (some false)) else (some false))) = some r := h
 clear h
 replace H := Option.bind_eq_some_iff.mp H
 obtain ⟨⟨t238, t239⟩, A10, H⟩ := H
 replace H : (if t239 = 0 then (if t238.toList = ([7, 14, 2, 4, 10, 0, 0, 0, 1, 0] : List UInt8) then ((letter_Key.f (⟨#[107]⟩ : ByteArray)).bind fun t240 => (if t240 = true then ((letter_Key.f (⟨#[]⟩ : ByteArray)).bind fun t241 => (if t241 = true then (some false) else ((letter_Rising.f k (([(⟨#[97]⟩ : ByteArray), (⟨#[98]⟩ : ByteArray)] : List ByteArray))).bind fun t245 => (if t245 = true then ((letter_Rising.f k (([(⟨#[97]⟩ : ByteArray), (⟨#[97]⟩ : ByteArray)] : List ByteArray))).bind fun t249 => (some (!t249))) else (some false))))) else (some false))) else (some false)) else (some false)) = some r := H
 have A1 := Aside0.mk A10
 clear A10
 by_cases c2 : t239 = 0
 ·rw [if_pos c2] at H
  have c2b0 : (t239 == 0) = true := beq_iff_eq.mpr c2
  have c2b1 : (t239 != 0) = false := bne_eq_false_iff_eq.mpr c2
  clear c2
  by_cases c3 : t238.toList = ([7, 14, 2, 4, 10, 0, 0, 0, 1, 0] : List UInt8)
  ·rw [if_pos c3] at H
   have c3b0 : (t238.toList == ([7, 14, 2, 4, 10, 0, 0, 0, 1, 0] : List UInt8)) = true := beq_iff_eq.mpr c3
   have c3b1 : (t238.toList != ([7, 14, 2, 4, 10, 0, 0, 0, 1, 0] : List UInt8)) = false := bne_eq_false_iff_eq.mpr c3
   clear c3
   replace H := Option.bind_eq_some_iff.mp H
   obtain ⟨t240, A40, H⟩ := H
   replace H : (if t240 = true then ((letter_Key.f (⟨#[]⟩ : ByteArray)).bind fun t241 => (if t241 = true then (some false) else ((letter_Rising.f k (([(⟨#[97]⟩ : ByteArray), (⟨#[98]⟩ : ByteArray)] : List ByteArray))).bind fun t245 => (if t245 = true then ((letter_Rising.f k (([(⟨#[97]⟩ : ByteArray), (⟨#[97]⟩ : ByteArray)] : List ByteArray))).bind fun t249 => (some (!t249))) else (some false))))) else (some false)) = some r := H
   have A4 := Aside0.mk A40
   clear A40
   by_cases c5 : t240 = true
   ·subst c5
    have H1 : ((letter_Key.f (⟨#[]⟩ : ByteArray)).bind fun t241 => (if t241 = true then (some false) else ((letter_Rising.f k (([(⟨#[97]⟩ : ByteArray), (⟨#[98]⟩ : ByteArray)] : List ByteArray))).bind fun t245 => (if t245 = true then ((letter_Rising.f k (([(⟨#[97]⟩ : ByteArray), (⟨#[97]⟩ : ByteArray)] : List ByteArray))).bind fun t249 => (some (!t249))) else (some false))))) = some r := by rw [if_pos rfl] at H; exact H
    clear H
    have H := H1
    clear H1
    replace H := Option.bind_eq_some_iff.mp H
    obtain ⟨t241, A60, H⟩ := H
    replace H : (if t241 = true then (some false) else ((letter_Rising.f k (([(⟨#[97]⟩ : ByteArray), (⟨#[98]⟩ : ByteArray)] : List ByteArray))).bind fun t245 => (if t245 = true then ((letter_Rising.f k (([(⟨#[97]⟩ : ByteArray), (⟨#[97]⟩ : ByteArray)] : List ByteArray))).bind fun t249 => (some (!t249))) else (some false)))) = some r := H
    have A6 := Aside0.mk A60
    clear A60
    by_cases c7 : t241 = true
    ·subst c7
     have H1 : (some false) = some r := by rw [if_pos rfl] at H; exact H
     clear H
     have H := H1
     clear H1
     obtain rfl := Option.some.inj H
     go_enter Try.func16, Try.ntmps16
     go_wp2_with (first | ((with_reducible refine gate_callee (f := 10) rfl ?_); refine goesL_ (some 5) rfl rfl Try.func10 (by kernel_rfl) rfl #[.agg #[.int .i64 7, .int .i64 1, .int .i64 2, .int .i64 5, .int .i64 0, .int .i64 0, .string (⟨#[]⟩ : ByteArray), .slice none 0 0, .slice none 0 0]] rfl (by (try simp only [List.map_toArray, List.map_cons, List.map_nil]); first | done | rfl | (simp only [List.length_drop, List.length_take]; rfl)) ?_; (refine (letter_Encode.calls k 7 1 2 5 0 0 (⟨#[]⟩ : ByteArray) _ _ ([] : List ByteArray) _ _ ([] : List (S49)) t238 t239 _ ?side1 ?side2 ?side3 ?side4 A1.out).mono ?_); (case side1 => exact Kd.C_nil _ _); (case side2 => exact Nat.le_refl _); (case side3 => exact Kd.C_nil _ _); (case side4 => exact Nat.le_refl _); rintro e w8 ⟨rfl, hb⟩; refine ⟨_, rfl, ?_⟩; have n0_ := Aside0.mk (below_step (by repeat (first | (with_reducible first | exact HB.out | apply below_alloc | apply pw_below_drewN | apply below_drew1) | exact HB.out)) hb); clear HB; have HB := n0_; clear n0_; (try clear hb); (try clear hb2); (try clear hk); (try clear hi)) | (go_at_call 18; (with_reducible refine (letter_Key.calls (⟨#[107]⟩ : ByteArray) true _ A4.out).mono ?_); rintro e w' ⟨rfl, ⟨nd, rfl⟩⟩) | (go_at_call 18; (with_reducible refine (letter_Key.calls (⟨#[]⟩ : ByteArray) true _ A6.out).mono ?_); rintro e w' ⟨rfl, ⟨nd, rfl⟩⟩))
     go_ret
     exact ⟨by first | rfl | (simp [errW_none, errW_some] <;> rfl) | (simp [*, errW_none, errW_some] <;> rfl), by repeat (first | (with_reducible first | exact HB.out | apply below_alloc | apply pw_below_drewN | apply below_drew1) | exact HB.out)⟩
    ·replace c7 := Bool.eq_false_iff.mpr c7
     subst c7
     have H1 : ((letter_Rising.f k (([(⟨#[97]⟩ : ByteArray), (⟨#[98]⟩ : ByteArray)] : List ByteArray))).bind fun t245 => (if t245 = true then ((letter_Rising.f k (([(⟨#[97]⟩ : ByteArray), (⟨#[97]⟩ : ByteArray)] : List ByteArray))).bind fun t249 => (some (!t249))) else (some false))) = some r := by rw [if_neg (show ¬ (false = true) by decide)] at H; exact H
     clear H
     have H := H1
     clear H1
     obtain ⟨y242, hy242⟩ : ∃ y_ : List ByteArray, y_ = (([(⟨#[97]⟩ : ByteArray), (⟨#[98]⟩ : ByteArray)] : List ByteArray)) := ⟨_, rfl⟩
     replace H : ((letter_Rising.f k y242).bind fun t245 => (if t245 = true then ((letter_Rising.f k (([(⟨#[97]⟩ : ByteArray), (⟨#[97]⟩ : ByteArray)] : List ByteArray))).bind fun t249 => (some (!t249))) else (some false))) = some r := by first | (rw [hy242]; with_reducible exact H) | (have H2_ := (Option.bind_some _ _).symm.trans H; rw [hy242]; with_reducible exact H2_) | (have H2_ := (Option.bind_some _ _).symm.trans H; with_reducible exact H2_) | with_reducible exact H | (rw [hy242]; exact H) | exact H
     have Ny242 := Aside0.mk hy242
     clear hy242
     replace H := Option.bind_eq_some_iff.mp H
     obtain ⟨t245, A90, H⟩ := H
     replace H : (if t245 = true then ((letter_Rising.f k (([(⟨#[97]⟩ : ByteArray), (⟨#[97]⟩ : ByteArray)] : List ByteArray))).bind fun t249 => (some (!t249))) else (some false)) = some r := H
     have A9 := Aside0.mk A90
     clear A90
     by_cases c10 : t245 = true
     ·subst c10
      have H1 : ((letter_Rising.f k (([(⟨#[97]⟩ : ByteArray), (⟨#[97]⟩ : ByteArray)] : List ByteArray))).bind fun t249 => (some (!t249))) = some r := by rw [if_pos rfl] at H; exact H
      clear H
      have H := H1
      clear H1
      obtain ⟨y246, hy246⟩ : ∃ y_ : List ByteArray, y_ = (([(⟨#[97]⟩ : ByteArray), (⟨#[97]⟩ : ByteArray)] : List ByteArray)) := ⟨_, rfl⟩
      replace H : ((letter_Rising.f k y246).bind fun t249 => (some (!t249))) = some r := by first | (rw [hy246]; with_reducible exact H) | (have H2_ := (Option.bind_some _ _).symm.trans H; rw [hy246]; with_reducible exact H2_) | (have H2_ := (Option.bind_some _ _).symm.trans H; with_reducible exact H2_) | with_reducible exact H | (rw [hy246]; exact H) | exact H
      have Ny246 := Aside0.mk hy246
      clear hy246
      replace H := Option.bind_eq_some_iff.mp H
      obtain ⟨t249, A110, H⟩ := H
      replace H : (some (!t249)) = some r := H
      have A11 := Aside0.mk A110
      clear A110
      obtain rfl := Option.some.inj H
      go_enter Try.func16, Try.ntmps16
      go_wp2_with (first | ((with_reducible refine gate_callee (f := 10) rfl ?_); refine goesL_ (some 5) rfl rfl Try.func10 (by kernel_rfl) rfl #[.agg #[.int .i64 7, .int .i64 1, .int .i64 2, .int .i64 5, .int .i64 0, .int .i64 0, .string (⟨#[]⟩ : ByteArray), .slice none 0 0, .slice none 0 0]] rfl (by (try simp only [List.map_toArray, List.map_cons, List.map_nil]); first | done | rfl | (simp only [List.length_drop, List.length_take]; rfl)) ?_; (refine (letter_Encode.calls k 7 1 2 5 0 0 (⟨#[]⟩ : ByteArray) _ _ ([] : List ByteArray) _ _ ([] : List (S49)) t238 t239 _ ?side1 ?side2 ?side3 ?side4 A1.out).mono ?_); (case side1 => exact Kd.C_nil _ _); (case side2 => exact Nat.le_refl _); (case side3 => exact Kd.C_nil _ _); (case side4 => exact Nat.le_refl _); rintro e w12 ⟨rfl, hb⟩; refine ⟨_, rfl, ?_⟩; have n0_ := Aside0.mk (below_step (by repeat (first | (with_reducible first | exact HB.out | apply below_alloc | apply pw_below_drewN | apply below_drew1) | exact HB.out)) hb); clear HB; have HB := n0_; clear n0_; (try clear hb); (try clear hb2); (try clear hk); (try clear hi)) | (go_at_call 18; (with_reducible refine (letter_Key.calls (⟨#[107]⟩ : ByteArray) true _ A4.out).mono ?_); rintro e w' ⟨rfl, ⟨nd, rfl⟩⟩) | (go_at_call 18; (with_reducible refine (letter_Key.calls (⟨#[]⟩ : ByteArray) false _ A6.out).mono ?_); rintro e w' ⟨rfl, ⟨nd, rfl⟩⟩) | ((with_reducible refine gate_dst (N := 22) rfl ?_); (try (refine gate_guard (by rfl) ?_; dsimp only)); refine Kd.R_lit Kd.string _ 9 ?hg (N := 22) ?hd (xs := ([(⟨#[97]⟩ : ByteArray), (⟨#[98]⟩ : ByteArray)] : List ByteArray)) (inner := [.string (⟨#[97]⟩ : ByteArray), .string (⟨#[98]⟩ : ByteArray)]) (ok := fun _ => True) (okp := fun _ => True) ?hr ?hp (fun _ hk => hk) trivial (Below.refl _ _) (Nat.le_refl _) (by simp) ?_; (case hd => rfl); (case hg => rfl); (case hr => first | (go_simp; done) | (go_simp; rfl)); (case hp => exact (Reps.one (show Kd.M Kd.string _ _ _ (⟨#[97]⟩ : ByteArray) [.string (⟨#[97]⟩ : ByteArray)] from rfl) (Reps.one (show Kd.M Kd.string _ _ _ (⟨#[98]⟩ : ByteArray) [.string (⟨#[98]⟩ : ByteArray)] from rfl) (Reps.none _ _)))); intro v243 w13 ho14 hb hg_ hnew_; clear hg_ hnew_; (first | rw [← Ny242.out] at ho14 | (simp only [Int.reduceToNat] at ho14; rw [← Ny242.out] at ho14)); have n0_ := Aside0.mk (Kd.R_lower ho14 (below_size (by repeat (first | (with_reducible first | exact HB.out | apply below_alloc | apply pw_below_drewN | apply below_drew1) | exact HB.out)))); have n1_ := Aside0.mk (below_step (by repeat (first | (with_reducible first | exact HB.out | apply below_alloc | apply pw_below_drewN | apply below_drew1) | exact HB.out)) hb); clear HB; have HO244 := n0_; have HB := n1_; clear n0_ n1_; clear hb ho14; obtain ⟨Ao15, co15, eo15⟩ := Kd.R_slice HO244.out; subst eo15) | (go_at_call 20; (with_reducible refine (letter_Rising.calls k _ _ y242 true _ ?side1 ?side2 A9.out).mono ?_); (case side1 => repeat (first | exact (Kd.R_reads' HO244.out).2.2 | (with_reducible refine Kd.C_alloc ?_ _) | (with_reducible refine Kd.C_drewN ?_ _) | (with_reducible refine Kd.C_drew ?_))); (case side2 => exact (Kd.R_reads' HO244.out).2.1); rintro e w' ⟨rfl, ⟨nd, rfl⟩⟩) | ((with_reducible refine gate_dst (N := 26) rfl ?_); (try (refine gate_guard (by rfl) ?_; dsimp only)); refine Kd.R_lit Kd.string _ 9 ?hg (N := 26) ?hd (xs := ([(⟨#[97]⟩ : ByteArray), (⟨#[97]⟩ : ByteArray)] : List ByteArray)) (inner := [.string (⟨#[97]⟩ : ByteArray), .string (⟨#[97]⟩ : ByteArray)]) (ok := fun _ => True) (okp := fun _ => True) ?hr ?hp (fun _ hk => hk) trivial (Below.refl _ _) (Nat.le_refl _) (by simp) ?_; (case hd => rfl); (case hg => rfl); (case hr => first | (go_simp; done) | (go_simp; rfl)); (case hp => exact (Reps.one (show Kd.M Kd.string _ _ _ (⟨#[97]⟩ : ByteArray) [.string (⟨#[97]⟩ : ByteArray)] from rfl) (Reps.one (show Kd.M Kd.string _ _ _ (⟨#[97]⟩ : ByteArray) [.string (⟨#[97]⟩ : ByteArray)] from rfl) (Reps.none _ _)))); intro v247 w16 ho17 hb hg_ hnew_; clear hg_ hnew_; (first | rw [← Ny246.out] at ho17 | (simp only [Int.reduceToNat] at ho17; rw [← Ny246.out] at ho17)); have n0_ := Aside0.mk (Kd.R_elder' (by (with_reducible repeat (first | apply Kd.R_alloc | apply Kd.R_drewN | apply Kd.R_drew)); exact HO244.out) (Kd.R_base ho17) hb); have n1_ := Aside0.mk (Kd.R_lower (Kd.R_new' ho17 (Kd.R_lt (by (with_reducible repeat (first | apply Kd.R_alloc | apply Kd.R_drewN | apply Kd.R_drew)); exact HO244.out))) (below_size (by repeat (first | (with_reducible first | exact HB.out | apply below_alloc | apply pw_below_drewN | apply below_drew1) | exact HB.out)))); have n2_ := Aside0.mk (below_step (by repeat (first | (with_reducible first | exact HB.out | apply below_alloc | apply pw_below_drewN | apply below_drew1) | exact HB.out)) hb); clear HO244; clear HB; have HO244 := n0_; have HO248 := n1_; have HB := n2_; clear n0_ n1_ n2_; clear hb ho17; obtain ⟨Ao18, co18, eo18⟩ := Kd.R_slice HO248.out; subst eo18) | (go_at_call 20; (with_reducible refine (letter_Rising.calls k _ _ y246 t249 _ ?side1 ?side2 A11.out).mono ?_); (case side1 => repeat (first | exact (Kd.R_reads' HO248.out).2.2 | (with_reducible refine Kd.C_alloc ?_ _) | (with_reducible refine Kd.C_drewN ?_ _) | (with_reducible refine Kd.C_drew ?_))); (case side2 => exact (Kd.R_reads' HO248.out).2.1); rintro e w' ⟨rfl, ⟨nd, rfl⟩⟩))
      go_ret
      exact ⟨by first | rfl | (simp [errW_none, errW_some] <;> rfl) | (simp [*, errW_none, errW_some] <;> rfl), by repeat (first | (with_reducible first | exact HB.out | apply below_alloc | apply pw_below_drewN | apply below_drew1) | exact HB.out)⟩
     ·replace c10 := Bool.eq_false_iff.mpr c10
      subst c10
      have H1 : (some false) = some r := by rw [if_neg (show ¬ (false = true) by decide)] at H; exact H
      clear H
      have H := H1
      clear H1
      obtain rfl := Option.some.inj H
      go_enter Try.func16, Try.ntmps16
      go_wp2_with (first | ((with_reducible refine gate_callee (f := 10) rfl ?_); refine goesL_ (some 5) rfl rfl Try.func10 (by kernel_rfl) rfl #[.agg #[.int .i64 7, .int .i64 1, .int .i64 2, .int .i64 5, .int .i64 0, .int .i64 0, .string (⟨#[]⟩ : ByteArray), .slice none 0 0, .slice none 0 0]] rfl (by (try simp only [List.map_toArray, List.map_cons, List.map_nil]); first | done | rfl | (simp only [List.length_drop, List.length_take]; rfl)) ?_; (refine (letter_Encode.calls k 7 1 2 5 0 0 (⟨#[]⟩ : ByteArray) _ _ ([] : List ByteArray) _ _ ([] : List (S49)) t238 t239 _ ?side1 ?side2 ?side3 ?side4 A1.out).mono ?_); (case side1 => exact Kd.C_nil _ _); (case side2 => exact Nat.le_refl _); (case side3 => exact Kd.C_nil _ _); (case side4 => exact Nat.le_refl _); rintro e w19 ⟨rfl, hb⟩; refine ⟨_, rfl, ?_⟩; have n0_ := Aside0.mk (below_step (by repeat (first | (with_reducible first | exact HB.out | apply below_alloc | apply pw_below_drewN | apply below_drew1) | exact HB.out)) hb); clear HB; have HB := n0_; clear n0_; (try clear hb); (try clear hb2); (try clear hk); (try clear hi)) | (go_at_call 18; (with_reducible refine (letter_Key.calls (⟨#[107]⟩ : ByteArray) true _ A4.out).mono ?_); rintro e w' ⟨rfl, ⟨nd, rfl⟩⟩) | (go_at_call 18; (with_reducible refine (letter_Key.calls (⟨#[]⟩ : ByteArray) false _ A6.out).mono ?_); rintro e w' ⟨rfl, ⟨nd, rfl⟩⟩) | ((with_reducible refine gate_dst (N := 22) rfl ?_); (try (refine gate_guard (by rfl) ?_; dsimp only)); refine Kd.R_lit Kd.string _ 9 ?hg (N := 22) ?hd (xs := ([(⟨#[97]⟩ : ByteArray), (⟨#[98]⟩ : ByteArray)] : List ByteArray)) (inner := [.string (⟨#[97]⟩ : ByteArray), .string (⟨#[98]⟩ : ByteArray)]) (ok := fun _ => True) (okp := fun _ => True) ?hr ?hp (fun _ hk => hk) trivial (Below.refl _ _) (Nat.le_refl _) (by simp) ?_; (case hd => rfl); (case hg => rfl); (case hr => first | (go_simp; done) | (go_simp; rfl)); (case hp => exact (Reps.one (show Kd.M Kd.string _ _ _ (⟨#[97]⟩ : ByteArray) [.string (⟨#[97]⟩ : ByteArray)] from rfl) (Reps.one (show Kd.M Kd.string _ _ _ (⟨#[98]⟩ : ByteArray) [.string (⟨#[98]⟩ : ByteArray)] from rfl) (Reps.none _ _)))); intro v243 w20 ho21 hb hg_ hnew_; clear hg_ hnew_; (first | rw [← Ny242.out] at ho21 | (simp only [Int.reduceToNat] at ho21; rw [← Ny242.out] at ho21)); have n0_ := Aside0.mk (Kd.R_lower ho21 (below_size (by repeat (first | (with_reducible first | exact HB.out | apply below_alloc | apply pw_below_drewN | apply below_drew1) | exact HB.out)))); have n1_ := Aside0.mk (below_step (by repeat (first | (with_reducible first | exact HB.out | apply below_alloc | apply pw_below_drewN | apply below_drew1) | exact HB.out)) hb); clear HB; have HO244 := n0_; have HB := n1_; clear n0_ n1_; clear hb ho21; obtain ⟨Ao22, co22, eo22⟩ := Kd.R_slice HO244.out; subst eo22) | (go_at_call 20; (with_reducible refine (letter_Rising.calls k _ _ y242 false _ ?side1 ?side2 A9.out).mono ?_); (case side1 => repeat (first | exact (Kd.R_reads' HO244.out).2.2 | (with_reducible refine Kd.C_alloc ?_ _) | (with_reducible refine Kd.C_drewN ?_ _) | (with_reducible refine Kd.C_drew ?_))); (case side2 => exact (Kd.R_reads' HO244.out).2.1); rintro e w' ⟨rfl, ⟨nd, rfl⟩⟩))
      go_ret
      exact ⟨by first | rfl | (simp [errW_none, errW_some] <;> rfl) | (simp [*, errW_none, errW_some] <;> rfl), by repeat (first | (with_reducible first | exact HB.out | apply below_alloc | apply pw_below_drewN | apply below_drew1) | exact HB.out)⟩
   ·replace c5 := Bool.eq_false_iff.mpr c5
    subst c5
    have H1 : (some false) = some r := by rw [if_neg (show ¬ (false = true) by decide)] at H; exact H
    clear H
    have H := H1
    clear H1
    obtain rfl := Option.some.inj H
    go_enter Try.func16, Try.ntmps16
    go_wp2_with (first | ((with_reducible refine gate_callee (f := 10) rfl ?_); refine goesL_ (some 5) rfl rfl Try.func10 (by kernel_rfl) rfl #[.agg #[.int .i64 7, .int .i64 1, .int .i64 2, .int .i64 5, .int .i64 0, .int .i64 0, .string (⟨#[]⟩ : ByteArray), .slice none 0 0, .slice none 0 0]] rfl (by (try simp only [List.map_toArray, List.map_cons, List.map_nil]); first | done | rfl | (simp only [List.length_drop, List.length_take]; rfl)) ?_; (refine (letter_Encode.calls k 7 1 2 5 0 0 (⟨#[]⟩ : ByteArray) _ _ ([] : List ByteArray) _ _ ([] : List (S49)) t238 t239 _ ?side1 ?side2 ?side3 ?side4 A1.out).mono ?_); (case side1 => exact Kd.C_nil _ _); (case side2 => exact Nat.le_refl _); (case side3 => exact Kd.C_nil _ _); (case side4 => exact Nat.le_refl _); rintro e w23 ⟨rfl, hb⟩; refine ⟨_, rfl, ?_⟩; have n0_ := Aside0.mk (below_step (by repeat (first | (with_reducible first | exact HB.out | apply below_alloc | apply pw_below_drewN | apply below_drew1) | exact HB.out)) hb); clear HB; have HB := n0_; clear n0_; (try clear hb); (try clear hb2); (try clear hk); (try clear hi)) | (go_at_call 18; (with_reducible refine (letter_Key.calls (⟨#[107]⟩ : ByteArray) false _ A4.out).mono ?_); rintro e w' ⟨rfl, ⟨nd, rfl⟩⟩))
    go_ret
    exact ⟨by first | rfl | (simp [errW_none, errW_some] <;> rfl) | (simp [*, errW_none, errW_some] <;> rfl), by repeat (first | (with_reducible first | exact HB.out | apply below_alloc | apply pw_below_drewN | apply below_drew1) | exact HB.out)⟩
  ·rw [if_neg c3] at H
   have c3b0 : (t238.toList == ([7, 14, 2, 4, 10, 0, 0, 0, 1, 0] : List UInt8)) = false := beq_eq_false_iff_ne.mpr c3
   have c3b1 : (t238.toList != ([7, 14, 2, 4, 10, 0, 0, 0, 1, 0] : List UInt8)) = true := bne_iff_ne.mpr c3
   obtain rfl := Option.some.inj H
   go_enter Try.func16, Try.ntmps16
   go_wp2_with (first | ((with_reducible refine gate_callee (f := 10) rfl ?_); refine goesL_ (some 5) rfl rfl Try.func10 (by kernel_rfl) rfl #[.agg #[.int .i64 7, .int .i64 1, .int .i64 2, .int .i64 5, .int .i64 0, .int .i64 0, .string (⟨#[]⟩ : ByteArray), .slice none 0 0, .slice none 0 0]] rfl (by (try simp only [List.map_toArray, List.map_cons, List.map_nil]); first | done | rfl | (simp only [List.length_drop, List.length_take]; rfl)) ?_; (refine (letter_Encode.calls k 7 1 2 5 0 0 (⟨#[]⟩ : ByteArray) _ _ ([] : List ByteArray) _ _ ([] : List (S49)) t238 t239 _ ?side1 ?side2 ?side3 ?side4 A1.out).mono ?_); (case side1 => exact Kd.C_nil _ _); (case side2 => exact Nat.le_refl _); (case side3 => exact Kd.C_nil _ _); (case side4 => exact Nat.le_refl _); rintro e w24 ⟨rfl, hb⟩; refine ⟨_, rfl, ?_⟩; have n0_ := Aside0.mk (below_step (by repeat (first | (with_reducible first | exact HB.out | apply below_alloc | apply pw_below_drewN | apply below_drew1) | exact HB.out)) hb); clear HB; have HB := n0_; clear n0_; (try clear hb); (try clear hb2); (try clear hk); (try clear hi)))
   go_ret
   exact ⟨by first | rfl | (simp [errW_none, errW_some] <;> rfl) | (simp [*, errW_none, errW_some] <;> rfl), by repeat (first | (with_reducible first | exact HB.out | apply below_alloc | apply pw_below_drewN | apply below_drew1) | exact HB.out)⟩
 ·rw [if_neg c2] at H
  have c2b0 : (t239 == 0) = false := beq_eq_false_iff_ne.mpr c2
  have c2b1 : (t239 != 0) = true := bne_iff_ne.mpr c2
  obtain rfl := Option.some.inj H
  go_enter Try.func16, Try.ntmps16
  go_wp2_with (first | ((with_reducible refine gate_callee (f := 10) rfl ?_); refine goesL_ (some 5) rfl rfl Try.func10 (by kernel_rfl) rfl #[.agg #[.int .i64 7, .int .i64 1, .int .i64 2, .int .i64 5, .int .i64 0, .int .i64 0, .string (⟨#[]⟩ : ByteArray), .slice none 0 0, .slice none 0 0]] rfl (by (try simp only [List.map_toArray, List.map_cons, List.map_nil]); first | done | rfl | (simp only [List.length_drop, List.length_take]; rfl)) ?_; (refine (letter_Encode.calls k 7 1 2 5 0 0 (⟨#[]⟩ : ByteArray) _ _ ([] : List ByteArray) _ _ ([] : List (S49)) t238 t239 _ ?side1 ?side2 ?side3 ?side4 A1.out).mono ?_); (case side1 => exact Kd.C_nil _ _); (case side2 => exact Nat.le_refl _); (case side3 => exact Kd.C_nil _ _); (case side4 => exact Nat.le_refl _); rintro e w25 ⟨rfl, hb⟩; refine ⟨_, rfl, ?_⟩; have n0_ := Aside0.mk (below_step (by repeat (first | (with_reducible first | exact HB.out | apply below_alloc | apply pw_below_drewN | apply below_drew1) | exact HB.out)) hb); clear HB; have HB := n0_; clear n0_; (try clear hb); (try clear hb2); (try clear hk); (try clear hi)))
  go_ret
  exact ⟨by first | rfl | (simp [errW_none, errW_some] <;> rfl) | (simp [*, errW_none, errW_some] <;> rfl), by repeat (first | (with_reducible first | exact HB.out | apply below_alloc | apply pw_below_drewN | apply below_drew1) | exact HB.out)⟩
end Go.Proofs.Ytelgpkbnahgdoaa.Al

namespace Go.Proofs.Ytelgpkbnahgdoaa.LetSpec
open Go.RowKit Go.Proofs.Ytelgpkbnahgdoaa.Base Go.Proofs.Ytelgpkbnahgdoaa.Al Go.Proofs.YtelgpkbnahgdoaaW.PrintWords
theorem Ev.to {α : Type} {g : Nat → Option α} {r r' : α} (h : Ev g r) (e : r = r') : Ev g r' := e ▸ h
/-- What the reference's switch gives. -/
def refV (code kind : Int) (one bare : Bool) (x6 : ByteArray) (x7 : List ByteArray) (x8 : List S49) : Int :=
 if kind = 1 then (if one = true ∧ x6.toList = [] ∧ code = 0 then 0 else 70)
 else if kind = 2 then (if one = true ∧ x6.size ≤ 2052 ∧ (x6.toList = [] ∨ code = 1) then 0 else 70)
 else if kind = 3 then (if x7.length ≤ 16 ∧ risB x7 = true ∧ wriB x8 = true ∧ x6.toList = [] ∧ code = 0 then 0 else 70)
 else if kind = 4 then (if bare = true ∧ code ≤ 1 then 0 else 70)
 else if kind = 5 ∨ kind = 6 ∨ kind = 7 then (if bare = true ∧ code = 0 then 0 else 70)
 else if kind = 8 then (if bare = true ∧ code ≤ 2 then 0 else 70)
 else 70
def oneB (x7 : List ByteArray) (x8 : List S49) : Bool := decide (x7.length = 1) && (keyB (rdOf ByteArray.empty x7 0) && decide (x8.length = 0))
def bareB (x6 : ByteArray) (x7 : List ByteArray) (x8 : List S49) : Bool := decide (x7.length = 0) && (decide (x8.length = 0) && x6.toList.isEmpty)
section
variable (x0 x1 x2 x3 x4 x5 : Int) (x6 : ByteArray) (x7 : List ByteArray) (x8 : List S49)
/-- The two checks are one. -/
theorem ref_chk : chkL x0 x1 x2 x3 x4 x5 x6 x7 x8 = if addrB x1 = true ∧ addrB x2 = true ∧ 1 ≤ x3 ∧ x3 ≤ 1125899906842623 ∧ 0 ≤ x4 ∧ x4 ≤ 1125899906842624 ∧ 0 ≤ x5 ∧ x5 ≤ 4 then refV x5 x0 (oneB x7 x8) (bareB x6 x7 x8) x6 x7 x8 else 70 := by
 unfold chkL
 by_cases h : addrB x1 = true ∧ addrB x2 = true ∧ 1 ≤ x3 ∧ x3 ≤ 1125899906842623 ∧ 0 ≤ x4 ∧ x4 ≤ 1125899906842624 ∧ 0 ≤ x5
 ·rw [if_pos h]
  obtain ⟨g0, g1, g2, g3, g4, g5, g6⟩ := h
  have e7 : ((x7.length : Int) == 0) = decide (x7.length = 0) := by by_cases h : x7.length = 0 <;> simp [h]
  have e8 : ((x8.length : Int) == 0) = decide (x8.length = 0) := by by_cases h : x8.length = 0 <;> simp [h]
  by_cases h4 : x5 ≤ 4
  ·rw [if_pos ⟨g0, g1, g2, g3, g4, g5, g6, h4⟩]
   unfold sw refV oneB bareB
   rw [e7, e8]
   by_cases n1 : x0 = 1
   ·subst n1
    simp only [if_neg (show ¬ (1 : Int) = 2 by omega), if_true, fin4]
    apply ite_congr _ (fun _ => rfl) (fun _ => rfl)
    simp only [Bool.and_eq_true, decide_eq_true_eq, List.isEmpty_iff, eq_iff_iff]
    constructor
    ·rintro ⟨a, ⟨b, c⟩, d, e⟩; exact ⟨⟨b, c, d⟩, e, by omega⟩
    ·rintro ⟨⟨b, c, d⟩, e, f⟩; exact ⟨by omega, ⟨b, c⟩, d, e⟩
   by_cases n2 : x0 = 2
   ·subst n2
    simp only [if_neg (show ¬ (2 : Int) = 1 by omega), if_true, fin4]
    apply ite_congr _ (fun _ => rfl) (fun _ => rfl)
    simp only [Bool.and_eq_true, Bool.or_eq_true, decide_eq_true_eq, List.isEmpty_iff, eq_iff_iff, beq_iff_eq]
    constructor
    ·rintro ⟨a, ⟨b, c⟩, d, e, f⟩; exact ⟨⟨b, c, d⟩, e, f⟩
    ·rintro ⟨⟨b, c, d⟩, e, f⟩; exact ⟨h4, ⟨b, c⟩, d, e, f⟩
   by_cases n3 : x0 = 3
   ·subst n3
    simp only [if_neg (show ¬ (3 : Int) = 1 by omega), if_neg (show ¬ (3 : Int) = 2 by omega), if_true, fin4]
    apply ite_congr _ (fun _ => rfl) (fun _ => rfl)
    simp only [Bool.and_eq_true, decide_eq_true_eq, List.isEmpty_iff, eq_iff_iff]
    constructor
    ·rintro ⟨a, ⟨b, c⟩, d, e⟩; exact ⟨b, c, d, e, by omega⟩
    ·rintro ⟨b, c, d, e, f⟩; exact ⟨by omega, ⟨b, c⟩, d, e⟩
   by_cases n4 : x0 = 4
   ·subst n4
    simp only [if_neg (show ¬ (4 : Int) = 1 by omega), if_neg (show ¬ (4 : Int) = 2 by omega), if_neg (show ¬ (4 : Int) = 3 by omega), if_neg (show ¬ (4 : Int) = 8 by omega), if_true, fin4]
    apply ite_congr _ (fun _ => rfl) (fun _ => rfl)
    simp only [Bool.and_eq_true, decide_eq_true_eq, List.isEmpty_iff, eq_iff_iff]
    constructor
    ·rintro ⟨a, b, c, d⟩; exact ⟨⟨b, c, d⟩, a⟩
    ·rintro ⟨⟨b, c, d⟩, a⟩; exact ⟨a, b, c, d⟩
   by_cases n8 : x0 = 8
   ·subst n8
    simp only [if_neg (show ¬ (8 : Int) = 1 by omega), if_neg (show ¬ (8 : Int) = 2 by omega), if_neg (show ¬ (8 : Int) = 3 by omega), if_neg (show ¬ (8 : Int) = 4 by omega), if_neg (show ¬ ((8 : Int) = 5 ∨ (8 : Int) = 6 ∨ (8 : Int) = 7) by omega), if_true, fin4]
    apply ite_congr _ (fun _ => rfl) (fun _ => rfl)
    simp only [Bool.and_eq_true, decide_eq_true_eq, List.isEmpty_iff, eq_iff_iff]
    constructor
    ·rintro ⟨a, b, c, d⟩; exact ⟨⟨b, c, d⟩, a⟩
    ·rintro ⟨⟨b, c, d⟩, a⟩; exact ⟨a, b, c, d⟩
   by_cases n5 : x0 = 5 ∨ x0 = 6 ∨ x0 = 7
   ·rw [if_neg n2, if_neg n1, if_neg n3, if_neg n8, if_neg n4, if_pos n5, if_neg n1, if_neg n2, if_neg n3, if_neg n4, if_pos n5]
    simp only [fin4]
    apply ite_congr _ (fun _ => rfl) (fun _ => rfl)
    simp only [Bool.and_eq_true, decide_eq_true_eq, List.isEmpty_iff, eq_iff_iff]
    constructor
    ·rintro ⟨a, b, c, d⟩; exact ⟨⟨b, c, d⟩, by omega⟩
    ·rintro ⟨⟨b, c, d⟩, a⟩; exact ⟨by omega, b, c, d⟩
   ·rw [if_neg n2, if_neg n1, if_neg n3, if_neg n8, if_neg n4, if_neg n5, if_neg n1, if_neg n2, if_neg n3, if_neg n4, if_neg n5, if_neg n8]
    rfl
  ·rw [if_neg (fun hc => h4 hc.2.2.2.2.2.2.2)]
   unfold sw
   split
   ·exact if_neg (fun hc => by omega)
   split
   ·exact if_neg (fun hc => by omega)
   split
   ·exact if_neg (fun hc => by omega)
   split
   ·exact if_neg (fun hc => by omega)
   split
   ·exact if_neg (fun hc => by omega)
   split
   ·exact if_neg (fun hc => by omega)
   ·rfl
 ·rw [if_neg h, if_neg (fun hc => h ⟨hc.1, hc.2.1, hc.2.2.1, hc.2.2.2.1, hc.2.2.2.2.1, hc.2.2.2.2.2.1, hc.2.2.2.2.2.2.1⟩)]
end
end Go.Proofs.Ytelgpkbnahgdoaa.LetSpec

namespace Go.Proofs.Ytelgpkbnahgdoaa.PackFns
open Go.RowKit Go.Proofs.Ytelgpkbnahgdoaa.Base Go.Proofs.Ytelgpkbnahgdoaa.PackMath Go.Proofs.Ytelgpkbnahgdoaa.Al Go.Proofs.YtelgpkbnahgdoaaW.PrintWords
theorem may_eq (n : Int) : pack_may.f n = some (okNum n) := by
 unfold pack_may.f okNum
 by_cases h : n ≥ -4611686018427387904
 ·rw [if_pos h, decide_eq_true (show (-4611686018427387904 : Int) ≤ n from h)]; rfl
 ·rw [if_neg h, decide_eq_false (show ¬ (-4611686018427387904 : Int) ≤ n from h)]; rfl
theorem step_byte (n : Nat) : (((Int.tmod (n : Int) 128) % 256) + 128) % 256 = ((n % 128 + 128 : Nat) : Int) := by
 rw [Int.tmod_eq_emod_of_nonneg (by omega)]; omega
theorem step_rest (n : Nat) : Int.tdiv (n : Int) 128 = ((n / 128 : Nat) : Int) := by
 rw [Int.tdiv_eq_ediv_of_nonneg (by omega)]; omega
theorem put_int_l0 : ∀ (n : Nat) (xs : List Int), n < 9223372036854775808 → xs.length + (plain n).length ≤ 140737488355328 → Ev (fun k => pack_put_int.l0 k xs (n : Int)) (xs ++ plain n) := by
 intro n
 induction n using Nat.strongRecOn with
 |ind n ih =>
  intro xs hn hx
  by_cases h1 : n < 128
  ·rw [plain_small h1] at hx ⊢
   simp at hx
   refine Ev.step (fun k => by simp only [pack_put_int.l0]; rw [if_neg (by omega), if_pos (by omega)]) ?_
   rw [show (n : Int) % 256 = n from by omega]
   exact Ev.now _
  ·rw [plain_big (by omega)] at hx ⊢
   simp at hx
   refine Ev.step (fun k => by simp only [pack_put_int.l0]; rw [if_pos (by omega), if_pos (by omega)]) ?_
   rw [step_byte, step_rest, wrap_id (by omega) (by omega)]
   have := ih (n / 128) (by omega) (xs ++ [((n % 128 + 128 : Nat) : Int)]) (by omega) (by simp; omega)
   simpa using this
theorem put_u64_l0 : ∀ (n : Nat) (xs : List Int), n < 18446744073709551616 → xs.length + (plain n).length ≤ 140737488355328 → Ev (fun k => pack_put_uint64.l0 k xs (n : Int)) (xs ++ plain n) := by
 intro n
 induction n using Nat.strongRecOn with
 |ind n ih =>
  intro xs hn hx
  by_cases h1 : n < 128
  ·rw [plain_small h1] at hx ⊢
   simp at hx
   refine Ev.step (fun k => by simp only [pack_put_uint64.l0]; rw [if_neg (by omega), if_pos (by omega)]) ?_
   rw [show (n : Int) % 256 = n from by omega]
   exact Ev.now _
  ·rw [plain_big (by omega)] at hx ⊢
   simp at hx
   refine Ev.step (fun k => by simp only [pack_put_uint64.l0]; rw [if_pos (by omega), if_pos (by omega)]) ?_
   rw [step_byte, step_rest, IntKind.wrap_u64, show (((n / 128 : Nat) : Int) % 18446744073709551616) = ((n / 128 : Nat) : Int) from by omega]
   have := ih (n / 128) (by omega) (xs ++ [((n % 128 + 128 : Nat) : Int)]) (by omega) (by simp; omega)
   simpa using this
theorem put_int_ev (n : Nat) (xs : List Int) (hn : n < 9223372036854775808) (hx : xs.length ≤ 140737488355300) : Ev (fun k => pack_put_int.f k xs (n : Int)) (xs ++ plain n) :=
 put_int_l0 n xs hn (by have := plain_len9 hn; omega)
/-- The bits of a signed number, as the program turns them. -/
theorem zig_go (n : Int) (h0 : -4611686018427387904 ≤ n) (h1 : n ≤ 4611686018427387903) : Go.bits .xor .u64 (IntKind.u64.wrap ((IntKind.u64.wrap n) * 2)) (IntKind.u64.wrap (n / 9223372036854775808)) = (zig n : Int) := by
 rw [IntKind.wrap_u64, IntKind.wrap_u64, IntKind.wrap_u64]
 by_cases hn : n < 0
 ·obtain ⟨m, hm⟩ : ∃ m : Nat, n = -(m : Int) - 1 := ⟨(-n - 1).toNat, by omega⟩
  have e1 : (n % 18446744073709551616 * 2) % 18446744073709551616 = ((18446744073709551616 - 2 * (m + 1) : Nat) : Int) := by omega
  have e2 : (n / 9223372036854775808) % 18446744073709551616 = ((18446744073709551615 : Nat) : Int) := by omega
  rw [e1, e2, bits_xor_u64_nat _ _ (by omega) (by omega)]
  have e3 : (18446744073709551616 - 2 * (m + 1)) ^^^ 18446744073709551615 = 2 * m + 1 := by
   have hb := BitVec.toNat_not (x := BitVec.ofNat 64 (18446744073709551616 - 2 * (m + 1)))
   rw [← BitVec.xor_allOnes, BitVec.toNat_xor, BitVec.toNat_ofNat, BitVec.toNat_allOnes, Nat.mod_eq_of_lt (by omega)] at hb
   rw [show (18446744073709551615 : Nat) = 2 ^ 64 - 1 from rfl, hb]
   omega
  rw [e3]
  unfold zig
  rw [if_pos hn]
  omega
 ·have e1 : (n % 18446744073709551616 * 2) % 18446744073709551616 = (((2 * n).toNat : Nat) : Int) := by omega
  have e2 : (n / 9223372036854775808) % 18446744073709551616 = ((0 : Nat) : Int) := by omega
  rw [e1, e2, bits_xor_u64_nat _ _ (by omega) (by omega), Nat.xor_zero]
  unfold zig
  rw [if_neg hn]
theorem signed_ev (n : Int) (xs : List Int) (h0 : -4611686018427387904 ≤ n) (h1 : n ≤ 4611686018427387903) (hx : xs.length ≤ 140737488355300) : Ev (fun k => pack_signed.f k xs n) (xs ++ signed n) := by
 have hz := zig_lt h0 h1
 unfold pack_signed.f
 rw [zig_go n h0 h1]
 exact Ev.bind (put_u64_l0 (zig n) xs (by omega) (by have := plain_len9 hz; omega)) (Ev.now _)
/-- Check. -/
theorem check_l1 (texts : List ByteArray) (ht : texts.length ≤ 1024) : ∀ (d i : Nat), i + d = texts.length → Ev (fun k => pack_Check.l1 k texts (texts.length : Int) (i : Int)) (if (texts.drop i).all okText = false then 2 else 0)
 |0, i, h => by
  rw [List.drop_of_length_le (by omega), if_neg (by simp)]
  exact Ev.step (fun k => by simp only [pack_Check.l1]; rw [if_neg (by omega)]) (Ev.now _)
 |d + 1, i, h => by
  have hi : i < texts.length := by omega
  have e : wrap64 ((i : Int) + 1) = ((i + 1 : Nat) : Int) := by rw [wrap_id (by omega) (by omega)]; omega
  have hr : rdOf ByteArray.empty texts (i : Int) = texts[i] := by simp [rdOf, List.getD_eq_getElem?_getD, hi]
  have ih := check_l1 texts ht d (i + 1) (by omega)
  rw [List.drop_eq_getElem_cons hi, List.all_cons]
  refine Ev.step (fun k => by simp only [pack_Check.l1]; rw [if_pos (by omega), if_pos (by omega), if_pos (by omega), hr, e]) ?_
  by_cases hs : texts[i].size ≤ 4096
  ·rw [okText_iff.2 hs, Bool.true_and]
   exact Ev.neg (by omega) ih
  ·rw [show okText texts[i] = false from by simpa [okText] using hs, Bool.false_and, if_pos rfl]
   exact Ev.pos (by omega) (Ev.now _)
theorem check_l0 (nums : List Int) (texts : List ByteArray) (hn : nums.length ≤ 1024) (ht : texts.length ≤ 1024) : ∀ (d i : Nat), i + d = nums.length →
  Ev (fun k => pack_Check.l0 k nums (nums.length : Int) (i : Int) nums texts) (if (nums.drop i).all okNum = false then 1 else if texts.all okText = false then 2 else 0)
 |0, i, h => by
  rw [List.drop_of_length_le (by omega), if_neg (by simp)]
  refine Ev.step (fun k => by simp only [pack_Check.l0]; rw [if_neg (by omega)]) ?_
  simpa using check_l1 texts ht texts.length 0 (by omega)
 |d + 1, i, h => by
  have hi : i < nums.length := by omega
  have e : wrap64 ((i : Int) + 1) = ((i + 1 : Nat) : Int) := by rw [wrap_id (by omega) (by omega)]; omega
  have hr : rd nums (i : Int) = nums[i] := by simp [rd, List.getD_eq_getElem?_getD, hi]
  have ih := check_l0 nums texts hn ht d (i + 1) (by omega)
  rw [List.drop_eq_getElem_cons hi, List.all_cons]
  refine Ev.step (fun k => by simp only [pack_Check.l0]; rw [if_pos (by omega), if_pos (by omega), if_pos (by omega), hr, e, may_eq]) ?_
  cases ho : okNum nums[i] with
  |true => rw [Bool.true_and]; exact Ev.some_bind (Ev.pos rfl ih)
  |false => rw [Bool.false_and, if_pos rfl]; exact Ev.some_bind (Ev.neg (by simp) (Ev.now _))
theorem check_ev (nums : List Int) (texts : List ByteArray) : Ev (fun k => pack_Check.f k nums texts) (chk nums texts) := by
 unfold pack_Check.f chk
 by_cases h1 : 1024 < nums.length
 ·rw [if_pos (Or.inl h1)]
  exact Ev.pos (by omega) (Ev.step (fun k => by simp only [pack_Check.j0, if_true]) (Ev.now _))
 refine Ev.neg (by omega) ?_
 by_cases h2 : 1024 < texts.length
 ·rw [if_pos (Or.inr h2), decide_eq_true (by omega)]
  exact Ev.step (fun k => by simp only [pack_Check.j0, if_true]) (Ev.now _)
 rw [if_neg (by omega), decide_eq_false (by omega)]
 refine Ev.step (fun k => by simp only [pack_Check.j0]; rw [if_neg (by simp)]) ?_
 simpa using check_l0 nums texts (by omega) (by omega) nums.length 0 (by omega)
/-- Encode. -/
theorem enc_l1 (texts : List ByteArray) (ht : texts.length ≤ 1024) (hs : ∀ s ∈ texts, s.size ≤ 4096) : ∀ (d i : Nat) (xs : List Int), i + d = texts.length → xs.length + 4105 * d ≤ 100000000 →
  Ev (fun k => pack_Encode.l1 k xs texts (texts.length : Int) (i : Int)) (strOfNums (xs ++ tails (texts.drop i)), 0)
 |0, i, xs, h, hx => by
  rw [List.drop_of_length_le (by omega)]
  refine Ev.step (fun k => by simp only [pack_Encode.l1]; rw [if_neg (by omega)]) ?_
  rw [show tails [] = [] from rfl, List.append_nil]
  exact Ev.now _
 |d + 1, i, xs, h, hx => by
  have hi : i < texts.length := by omega
  have e : wrap64 ((i : Int) + 1) = ((i + 1 : Nat) : Int) := by rw [wrap_id (by omega) (by omega)]; omega
  have hr : rdOf ByteArray.empty texts (i : Int) = texts[i] := by simp [rdOf, List.getD_eq_getElem?_getD, hi]
  have hz := hs _ (List.getElem_mem hi)
  have hp : (plain texts[i].size).length ≤ 9 := plain_len9 (by omega)
  have ih := enc_l1 texts ht hs d (i + 1) (xs ++ plain texts[i].size ++ bytesOf texts[i]) (by omega) (by simp only [List.length_append, bytesOf_length]; omega)
  rw [List.drop_eq_getElem_cons hi]
  have et : tails (texts[i] :: texts.drop (i + 1)) = plain texts[i].size ++ bytesOf texts[i] ++ tails (texts.drop (i + 1)) := rfl
  rw [et]
  refine Ev.step (fun k => by simp only [pack_Encode.l1]; rw [if_pos (by omega), if_pos (by omega), if_pos (by omega), hr, e]) ?_
  refine Ev.bind (put_int_ev texts[i].size xs (by omega) (by omega)) (Ev.pos (by rw [List.length_append]; omega) ?_)
  simpa using ih
theorem enc_l0 (nums : List Int) (texts : List ByteArray) (hn : nums.length ≤ 1024) (ht : texts.length ≤ 1024) (hm : ∀ n ∈ nums, -4611686018427387904 ≤ n ∧ n ≤ 4611686018427387903) (hs : ∀ s ∈ texts, s.size ≤ 4096) : ∀ (d i : Nat) (xs : List Int), i + d = nums.length → xs.length + 9 * d ≤ 10000000 →
  Ev (fun k => pack_Encode.l0 k xs nums (nums.length : Int) (i : Int) nums texts) (strOfNums (xs ++ body (nums.drop i) ++ plain texts.length ++ tails texts), 0)
 |0, i, xs, h, hx => by
  rw [List.drop_of_length_le (by omega)]
  have hp : (plain texts.length).length ≤ 9 := plain_len9 (by omega)
  refine Ev.step (fun k => by simp only [pack_Encode.l0]; rw [if_neg (by omega)]) ?_
  refine Ev.bind (put_int_ev texts.length xs (by omega) (by omega)) ?_
  have := enc_l1 texts ht hs texts.length 0 (xs ++ plain texts.length) (by omega) (by rw [List.length_append]; omega)
  simpa [body] using this
 |d + 1, i, xs, h, hx => by
  have hi : i < nums.length := by omega
  have e : wrap64 ((i : Int) + 1) = ((i + 1 : Nat) : Int) := by rw [wrap_id (by omega) (by omega)]; omega
  have hr : rd nums (i : Int) = nums[i] := by simp [rd, List.getD_eq_getElem?_getD, hi]
  have hz := hm _ (List.getElem_mem hi)
  have hp : (signed nums[i]).length ≤ 9 := plain_len9 (zig_lt hz.1 hz.2)
  have ih := enc_l0 nums texts hn ht hm hs d (i + 1) (xs ++ signed nums[i]) (by omega) (by rw [List.length_append]; omega)
  rw [List.drop_eq_getElem_cons hi]
  have et : body (nums[i] :: nums.drop (i + 1)) = signed nums[i] ++ body (nums.drop (i + 1)) := rfl
  rw [et]
  refine Ev.step (fun k => by simp only [pack_Encode.l0]; rw [if_pos (by omega), if_pos (by omega), if_pos (by omega), hr, e]) ?_
  refine Ev.bind (signed_ev nums[i] xs hz.1 hz.2 (by omega)) ?_
  simpa using ih
/-- What Encode answers. -/
def encB (nums : List Int) (texts : List ByteArray) : ByteArray × Int := if chk nums texts = 0 then (strOfNums (enc nums texts), 0) else (⟨#[]⟩, chk nums texts)
theorem encode_ev (nums : List Int) (texts : List ByteArray) : Ev (fun k => pack_Encode.f k nums texts) (encB nums texts) := by
 unfold pack_Encode.f encB
 refine Ev.bind (check_ev nums texts) ?_
 by_cases h : chk nums texts = 0
 ·obtain ⟨h1, h2, h3, h4⟩ := chk_ok h
  rw [if_pos h]
  have hp : (plain nums.length).length ≤ 9 := plain_len9 (by omega)
  refine Ev.pos h (Ev.bind (put_int_ev nums.length [] (by omega) (by simp)) ?_)
  have := enc_l0 nums texts h1 h2 h3 h4 nums.length 0 ([] ++ plain nums.length) (by omega) (by simp; omega)
  simpa [enc] using this
 ·rw [if_neg h]
  exact Ev.neg h (Ev.now _)
end Go.Proofs.Ytelgpkbnahgdoaa.PackFns

namespace Go.Proofs.Ytelgpkbnahgdoaa.LetSpec
open Go.RowKit Go.Proofs.Ytelgpkbnahgdoaa.Base Go.Proofs.Ytelgpkbnahgdoaa.PackMath Go.Proofs.Ytelgpkbnahgdoaa.PackFns Go.Proofs.Ytelgpkbnahgdoaa.Al Go.Proofs.YtelgpkbnahgdoaaW.PrintWords
theorem key_size {s : ByteArray} (h : keyB s = true) : s.size ≤ 32 := by
 unfold keyB at h
 exact (of_decide_eq_true h).2
theorem risFrom_all : ∀ (l : List ByteArray) (p : Option ByteArray), risFrom p l = true → ∀ s ∈ l, keyB s = true
 |[], _, _, _, h => by cases h
 |x :: l, p, h, s, hs => by
  have h1 : keyB x = true ∧ risFrom (some x) l = true := by
   cases p with
   |none => simpa [risFrom] using h
   |some q =>
    have h2 : (keyB x && (Op.bytesLess q.toList x.toList && risFrom (some x) l)) = true := h
    simp only [Bool.and_eq_true] at h2
    exact ⟨h2.1, h2.2.2⟩
  rcases List.mem_cons.1 hs with rfl | hs
  ·exact h1.1
  ·exact risFrom_all l (some x) h1.2 s hs
theorem ris_all {l : List ByteArray} (h : risB l = true) : ∀ s ∈ l, s.size ≤ 32 := fun s hs => key_size (risFrom_all l none h s hs)
theorem wri_all {l : List S49} (h : wriB l = true) : l.length ≤ 16 ∧ ∀ x ∈ l, x.f0.size ≤ 32 ∧ x.f1.size ≤ 2052 := by
 unfold wriB at h
 simp only [Bool.and_eq_true, decide_eq_true_eq, List.all_eq_true] at h
 obtain ⟨h1, h2, h3⟩ := h
 refine ⟨h2, fun x hx => ⟨ris_all h3 _ (List.mem_map.2 ⟨x, hx, rfl⟩), ?_⟩⟩
 have := h1 x hx
 simp only [oneW, Bool.and_eq_true, decide_eq_true_eq] at this
 exact this.1
section
variable (x0 x1 x2 x3 x4 x5 : Int) (x6 : ByteArray) (x7 : List ByteArray) (x8 : List S49)
structure Bounds : Prop where
 b0 : 1 ≤ x0 ∧ x0 ≤ 8
 b1 : 0 ≤ x1 ∧ x1 ≤ 200
 b2 : 0 ≤ x2 ∧ x2 ≤ 200
 b3 : 0 ≤ x3 ∧ x3 ≤ 1125899906842623
 b4 : 0 ≤ x4 ∧ x4 ≤ 1125899906842624
 b5 : 0 ≤ x5 ∧ x5 ≤ 4
 b6 : x6.size ≤ 2052
 b7 : x7.length ≤ 16 ∧ ∀ s ∈ x7, s.size ≤ 32
 b8 : x8.length ≤ 16 ∧ ∀ x ∈ x8, x.f0.size ≤ 32 ∧ x.f1.size ≤ 2052
theorem empty_size {s : ByteArray} (h : s.toList = []) : s.size ≤ 2052 := by have := (empty_iff s).1 h; omega
theorem one_all {x7 : List ByteArray} {x8 : List S49} (h : oneB x7 x8 = true) : (x7.length ≤ 16 ∧ ∀ s ∈ x7, s.size ≤ 32) ∧ x8 = [] := by
 unfold oneB at h
 simp only [Bool.and_eq_true, decide_eq_true_eq] at h
 obtain ⟨h1, h2, h3⟩ := h
 obtain ⟨s, rfl⟩ := List.length_eq_one_iff.1 h1
 refine ⟨⟨by simp, fun t ht => ?_⟩, List.eq_nil_of_length_eq_zero h3⟩
 obtain rfl := List.mem_singleton.1 ht
 exact key_size h2
theorem bare_all {x6 : ByteArray} {x7 : List ByteArray} {x8 : List S49} (h : bareB x6 x7 x8 = true) : x7 = [] ∧ x8 = [] ∧ x6.toList = [] := by
 unfold bareB at h
 simp only [Bool.and_eq_true, decide_eq_true_eq, List.isEmpty_iff] at h
 exact ⟨List.eq_nil_of_length_eq_zero h.1, List.eq_nil_of_length_eq_zero h.2.1, h.2.2⟩
theorem if70 {c : Prop} [Decidable c] (h : (if c then (0 : Int) else 70) = 0) : c := by
 by_cases hc : c
 ·exact hc
 ·rw [if_neg hc] at h; cases h
theorem chk_zero (h : chkL x0 x1 x2 x3 x4 x5 x6 x7 x8 = 0) : Bounds x0 x1 x2 x3 x4 x5 x6 x7 x8 := by
 rw [ref_chk] at h
 by_cases hg : addrB x1 = true ∧ addrB x2 = true ∧ 1 ≤ x3 ∧ x3 ≤ 1125899906842623 ∧ 0 ≤ x4 ∧ x4 ≤ 1125899906842624 ∧ 0 ≤ x5 ∧ x5 ≤ 4
 case neg => rw [if_neg hg] at h; cases h
 rw [if_pos hg] at h
 obtain ⟨g0, g1, g2, g3, g4, g5, g6, g7⟩ := hg
 have a1 := of_decide_eq_true g0
 have a2 := of_decide_eq_true g1
 have nil7 : ∀ l : List ByteArray, l = [] → l.length ≤ 16 ∧ ∀ s ∈ l, s.size ≤ 32 := fun l h => by subst h; exact ⟨by simp, fun s hs => by cases hs⟩
 have nil8 : ∀ l : List S49, l = [] → l.length ≤ 16 ∧ ∀ x ∈ l, x.f0.size ≤ 32 ∧ x.f1.size ≤ 2052 := fun l h => by subst h; exact ⟨by simp, fun s hs => by cases hs⟩
 have mk : (1 ≤ x0 ∧ x0 ≤ 8) → x6.size ≤ 2052 → (x7.length ≤ 16 ∧ ∀ s ∈ x7, s.size ≤ 32) → (x8.length ≤ 16 ∧ ∀ x ∈ x8, x.f0.size ≤ 32 ∧ x.f1.size ≤ 2052) → Bounds x0 x1 x2 x3 x4 x5 x6 x7 x8 := fun h0 h6 h7 h8 => ⟨h0, by omega, by omega, by omega, by omega, by omega, h6, h7, h8⟩
 unfold refV at h
 by_cases n1 : x0 = 1
 ·rw [if_pos n1] at h
  obtain ⟨h1, h2, _⟩ := if70 h
  exact mk (by omega) (empty_size h2) (one_all h1).1 (nil8 _ (one_all h1).2)
 rw [if_neg n1] at h
 by_cases n2 : x0 = 2
 ·rw [if_pos n2] at h
  obtain ⟨h1, h2, _⟩ := if70 h
  exact mk (by omega) h2 (one_all h1).1 (nil8 _ (one_all h1).2)
 rw [if_neg n2] at h
 by_cases n3 : x0 = 3
 ·rw [if_pos n3] at h
  obtain ⟨h1, h2, h3, h4, _⟩ := if70 h
  exact mk (by omega) (empty_size h4) ⟨h1, ris_all h2⟩ (wri_all h3)
 rw [if_neg n3] at h
 by_cases n4 : x0 = 4
 ·rw [if_pos n4] at h
  obtain ⟨h1, _⟩ := if70 h
  obtain ⟨e7, e8, e6⟩ := bare_all h1
  exact mk (by omega) (empty_size e6) (nil7 _ e7) (nil8 _ e8)
 rw [if_neg n4] at h
 by_cases n5 : x0 = 5 ∨ x0 = 6 ∨ x0 = 7
 ·rw [if_pos n5] at h
  obtain ⟨h1, _⟩ := if70 h
  obtain ⟨e7, e8, e6⟩ := bare_all h1
  exact mk (by omega) (empty_size e6) (nil7 _ e7) (nil8 _ e8)
 rw [if_neg n5] at h
 by_cases n8 : x0 = 8
 ·rw [if_pos n8] at h
  obtain ⟨h1, _⟩ := if70 h
  obtain ⟨e7, e8, e6⟩ := bare_all h1
  exact mk (by omega) (empty_size e6) (nil7 _ e7) (nil8 _ e8)
 ·rw [if_neg n8] at h; cases h
def letN : List Int := [x0, x1, x2, x3, x4, x5, (x7.length : Int)] ++ flagsOf x8
def letT : List ByteArray := [x6] ++ x7 ++ pairsOf x8
theorem flags_len (l : List S49) : (flagsOf l).length = l.length := by simp [flagsOf]
theorem let_chk (h : chkL x0 x1 x2 x3 x4 x5 x6 x7 x8 = 0) : chk (letN x0 x1 x2 x3 x4 x5 x7 x8) (letT x6 x7 x8) = 0 := by
 obtain ⟨b0, b1, b2, b3, b4, b5, b6, ⟨b7, c7⟩, ⟨b8, c8⟩⟩ := chk_zero _ _ _ _ _ _ _ _ _ h
 refine chk_of ?_ ?_ ?_ ?_
 ·simp only [letN, List.length_append, flags_len, List.length_cons, List.length_nil]; omega
 ·simp only [letT, List.length_append, pairs_len, List.length_cons, List.length_nil]; omega
 ·intro n hn
  simp only [letN, List.mem_append, List.mem_cons, List.not_mem_nil, or_false, flagsOf, List.mem_map] at hn
  rcases hn with (rfl | rfl | rfl | rfl | rfl | rfl | rfl) | ⟨x, _, rfl⟩
  ·omega
  ·omega
  ·omega
  ·omega
  ·omega
  ·omega
  ·omega
  ·split <;> omega
 ·intro s hs
  simp only [letT, List.mem_append, List.mem_singleton, pairsOf, List.mem_flatten, List.mem_map] at hs
  rcases hs with (rfl | hs) | ⟨l, ⟨x, hx, rfl⟩, hs⟩
  ·omega
  ·have := c7 s hs; omega
  ·have h1 := c8 x hx
   simp only [List.mem_cons, List.not_mem_nil, or_false] at hs
   rcases hs with rfl | rfl <;> omega
/-- The bytes and the error of a letter. -/
def encL : ByteArray × Int := if chkL x0 x1 x2 x3 x4 x5 x6 x7 x8 = 0 then (strOfNums (enc (letN x0 x1 x2 x3 x4 x5 x7 x8) (letT x6 x7 x8)), 0) else (⟨#[]⟩, chkL x0 x1 x2 x3 x4 x5 x6 x7 x8)
variable (h7 : x7.length ≤ 8796093022000) (h8 : x8.length ≤ 8796093022000)
include h7 h8 in
theorem check_eq : letter_Check.f x0 x1 x2 x3 x4 x5 x6 x7 x8 = some (chkL x0 x1 x2 x3 x4 x5 x6 x7 x8) := if_pos ⟨h7, h8⟩
include h7 h8 in
theorem encodeL_ev : Ev (fun k => letter_Encode.f k x0 x1 x2 x3 x4 x5 x6 x7 x8) (encL x0 x1 x2 x3 x4 x5 x6 x7 x8) := by
 unfold letter_Encode.f encL
 rw [check_eq _ _ _ _ _ _ _ _ _ h7 h8]
 refine Ev.some_bind ?_
 by_cases h : chkL x0 x1 x2 x3 x4 x5 x6 x7 x8 = 0
 ·rw [if_pos h]
  have hb := chk_zero _ _ _ _ _ _ _ _ _ h
  have he := encode_ev (letN x0 x1 x2 x3 x4 x5 x7 x8) (letT x6 x7 x8)
  unfold encB at he
  rw [if_pos (let_chk _ _ _ _ _ _ _ _ _ h)] at he
  exact Ev.pos h (Ev.pos ⟨by have := hb.b7.1; omega, by have := hb.b8.1; omega⟩ he)
 ·rw [if_neg h]
  exact Ev.neg h (Ev.now _)
end
theorem works_encL : encL 7 1 2 5 0 0 (⟨#[]⟩ : ByteArray) [] [] = (⟨#[7, 14, 2, 4, 10, 0, 0, 0, 1, 0]⟩, 0) := by
 have h : chkL 7 1 2 5 0 0 (⟨#[]⟩ : ByteArray) [] [] = 0 := by simp [chkL, addrB, sw, fin4, toList_eq, B]
 have e7 : signed 7 = [14] := by unfold signed; rw [show zig 7 = 14 from by decide, plain_small (by omega)]; rfl
 have e1 : signed 1 = [2] := by unfold signed; rw [show zig 1 = 2 from by decide, plain_small (by omega)]; rfl
 have e2 : signed 2 = [4] := by unfold signed; rw [show zig 2 = 4 from by decide, plain_small (by omega)]; rfl
 have e5 : signed 5 = [10] := by unfold signed; rw [show zig 5 = 10 from by decide, plain_small (by omega)]; rfl
 have e0 : signed 0 = [0] := by unfold signed; rw [show zig 0 = 0 from by decide, plain_small (by omega)]; rfl
 have e : enc (letN 7 1 2 5 0 0 [] []) (letT (⟨#[]⟩ : ByteArray) [] []) = [7, 14, 2, 4, 10, 0, 0, 0, 1, 0] := by
  have en : letN 7 1 2 5 0 0 [] [] = [7, 1, 2, 5, 0, 0, 0] := rfl
  have et : letT (⟨#[]⟩ : ByteArray) [] [] = [(⟨#[]⟩ : ByteArray)] := rfl
  rw [en, et]
  simp only [enc, body, tails, List.map_cons, List.map_nil, e7, e1, e2, e5, e0]
  rw [plain_small (by decide), plain_small (by decide), plain_small (by decide)]
  rfl
 unfold encL
 rw [if_pos h, e]
 rfl
theorem worksL_ev : Ev (fun k => corncriblaw07_works.f k) true := by
 have h := encodeL_ev 7 1 2 5 0 0 (⟨#[]⟩ : ByteArray) [] [] (by simp) (by simp)
 rw [works_encL] at h
 have k1 : keyB (⟨#[107]⟩ : ByteArray) = true := by decide
 have k2 : keyB (⟨#[]⟩ : ByteArray) = false := by decide
 have r1 : risB [(⟨#[97]⟩ : ByteArray), (⟨#[98]⟩ : ByteArray)] = true := by simp only [risB, risFrom, toList_eq]; decide
 have r2 : risB [(⟨#[97]⟩ : ByteArray), (⟨#[97]⟩ : ByteArray)] = false := by simp only [risB, risFrom, toList_eq]; decide
 unfold corncriblaw07_works.f
 refine Ev.bind h (Ev.pos rfl (Ev.pos (by rw [toList_eq]; rfl) ?_))
 rw [key_eq, key_eq, k1, k2]
 have s1 := rising_ev [(⟨#[97]⟩ : ByteArray), (⟨#[98]⟩ : ByteArray)] (by simp)
 have s2 := rising_ev [(⟨#[97]⟩ : ByteArray), (⟨#[97]⟩ : ByteArray)] (by simp)
 rw [r1] at s1
 rw [r2] at s2
 exact Ev.some_bind (Ev.pos rfl (Ev.some_bind (Ev.neg (by simp) (Ev.bind s1 (Ev.pos rfl (Ev.bind s2 (Ev.now _)))))))
end Go.Proofs.Ytelgpkbnahgdoaa.LetSpec

namespace Go.Proofs.Ytelgpkbnahgdoaa.LetSpec
open Go.RowKit Go.Proofs.Ytelgpkbnahgdoaa.Base Go.Proofs.Ytelgpkbnahgdoaa.PackMath Go.Proofs.Ytelgpkbnahgdoaa.PackDec Go.Proofs.Ytelgpkbnahgdoaa.PackFns Go.Proofs.Ytelgpkbnahgdoaa.Al Go.Proofs.YtelgpkbnahgdoaaW.PrintWords
set_option linter.unusedVariables false
set_option linter.unusedSimpArgs false
open Go.Proofs.Ytelgpkbnahgdoaa.Al.LD (RLet noLet wsOf wOf ws_len)
/-- The keys, the writes. -/
def keysOf (ns : List Int) (ts : List ByteArray) : List ByteArray := (ts.take (1 + rd ns 6).toNat).drop 1
def wrsOf (ns : List Int) (ts : List ByteArray) : List S49 := wsOf (ns.drop 7) (ts.drop (1 + rd ns 6).toNat) (ns.length - 7)
def encD (ns : List Int) (ts : List ByteArray) : ByteArray × Int := encL (rd ns 0) (rd ns 1) (rd ns 2) (rd ns 3) (rd ns 4) (rd ns 5) (rdOf ByteArray.empty ts 0) (keysOf ns ts) (wrsOf ns ts)
def fitD (ns : List Int) (ts : List ByteArray) : Prop := 0 ≤ rd ns 6 ∧ rd ns 6 < (ts.length : Int) ∧ (ts.length : Int) = 1 + rd ns 6 + 2 * ((ns.length - 7 : Nat) : Int)
instance (ns : List Int) (ts : List ByteArray) : Decidable (fitD ns ts) := by unfold fitD; infer_instance
def letV (ns : List Int) (ts : List ByteArray) : RLet := (rd ns 0, rd ns 1, rd ns 2, rd ns 3, rd ns 4, rd ns 5, rdOf ByteArray.empty ts 0, keysOf ns ts, wrsOf ns ts, 0)
def ldV (s : ByteArray) : RLet :=
 if (dec s).2.2.2 = 0 ∧ 7 ≤ (dec s).1.length ∧ 1 ≤ (dec s).2.1.length then
  (if fitD (dec s).1 (dec s).2.1 then (if (encD (dec s).1 (dec s).2.1).2 = 0 ∧ (encD (dec s).1 (dec s).2.1).1 = s then letV (dec s).1 (dec s).2.1 else noLet) else noLet)
 else noLet
theorem keys_len (ns : List Int) (ts : List ByteArray) : (keysOf ns ts).length ≤ ts.length := by unfold keysOf; rw [List.length_drop, List.length_take]; omega
theorem wrs_len (ns : List Int) (ts : List ByteArray) : (wrsOf ns ts).length = ns.length - 7 := ws_len _ _ _
theorem ldec_ev (s : ByteArray) (hs : s.size ≤ 140737488355328) : Ev (fun k => letter_Decode.f k s) (ldV s) := by
 obtain ⟨d1, d2⟩ := DecLen.dec_len s
 unfold letter_Decode.f LD.decF ldV
 rw [show pack_Decode.f s = some ((dec s).1, (dec s).2.1, ((dec s).2.2.1 : Int), (dec s).2.2.2) from if_pos hs]
 refine Ev.some_bind ?_
 generalize (dec s).1 = ns at *
 generalize (dec s).2.1 = ts at *
 by_cases h : (dec s).2.2.2 = 0 ∧ 7 ≤ ns.length ∧ 1 ≤ ts.length
 ·rw [if_pos h]
  refine Ev.pos h ?_
  unfold LD.letOf
  by_cases hf : fitD ns ts
  ·rw [if_pos hf]
   refine Ev.pos hf ?_
   have hk := keys_len ns ts
   have hw := wrs_len ns ts
   refine Ev.bind (encodeL_ev (rd ns 0) (rd ns 1) (rd ns 2) (rd ns 3) (rd ns 4) (rd ns 5) (rdOf ByteArray.empty ts 0) (keysOf ns ts) (wrsOf ns ts) (by omega) (by omega)) ?_
   by_cases hx : (encD ns ts).2 = 0 ∧ (encD ns ts).1 = s
   ·rw [if_pos hx]
    exact Ev.pos hx (Ev.now _)
   ·rw [if_neg hx]
    exact Ev.neg hx (Ev.now _)
  ·rw [if_neg hf]
   exact Ev.neg hf (Ev.now _)
 ·rw [if_neg h]
  exact Ev.neg h (Ev.now _)
/-- What comes back with no fault is the letter of these bytes. -/
theorem ldV_ok {s : ByteArray} (h : (ldV s).2.2.2.2.2.2.2.2.2 = 0) : ∃ ns ts, ldV s = letV ns ts ∧ encD ns ts = (s, 0) ∧ ns.length ≤ 1024 ∧ ts.length ≤ 1024 := by
 obtain ⟨d1, d2⟩ := DecLen.dec_len s
 unfold ldV at h ⊢
 split
 ·rename_i c
  rw [if_pos c] at h
  split
  ·rename_i c2
   rw [if_pos c2] at h
   split
   ·rename_i c3
    exact ⟨_, _, rfl, Prod.ext c3.2 c3.1, d1, d2⟩
   ·rename_i c3
    rw [if_neg c3] at h
    cases h
  ·rename_i c2
   rw [if_neg c2] at h
   cases h
 ·rename_i c
  rw [if_neg c] at h
  cases h
theorem ldV_no {s : ByteArray} (h : (ldV s).2.2.2.2.2.2.2.2.2 ≠ 0) : ldV s = noLet := by
 unfold ldV at h ⊢
 split
 ·rename_i c
  rw [if_pos c] at h
  split
  ·rename_i c2
   rw [if_pos c2] at h
   split
   ·rename_i c3
    rw [if_pos c3] at h
    exact absurd rfl h
   ·rfl
  ·rfl
 ·rfl
section
variable (x0 x1 x2 x3 x4 x5 : Int) (x6 : ByteArray) (x7 : List ByteArray) (x8 : List S49)
end
end Go.Proofs.Ytelgpkbnahgdoaa.LetSpec

namespace Go.Proofs.Ytelgpkbnahgdoaa.LetSpec
open Go.RowKit Go.Proofs.Ytelgpkbnahgdoaa.Base Go.Proofs.Ytelgpkbnahgdoaa.Al Go.Proofs.YtelgpkbnahgdoaaW.PrintWords
theorem rkey_eq (s : ByteArray) : corncribref07_Key.f s = some (keyB s) := by
 unfold corncribref07_Key.f keyB
 split
 ·congr 1; apply decide_eq_decide.2; omega
 ·rw [decide_eq_false (by omega)]
theorem rrising_l0 (l : List ByteArray) (hl : l.length ≤ 4611686018427387904) : ∀ (d i : Nat), i + d = l.length → Ev (fun k => corncribref07_Rising.l0 k l i) (risFrom (prevOf l i) (l.drop i))
 |0, i, h => by
  refine Ev.succ ?_
  simp only [corncribref07_Rising.l0]
  rw [List.drop_of_length_le (by omega)]
  refine Ev.neg (by omega) ?_
  have : risFrom (prevOf l i) [] = true := by cases prevOf l i <;> rfl
  rw [this]
  exact Ev.now _
 |d + 1, i, h => by
  have hi : i < l.length := by omega
  have ih := rrising_l0 l hl d (i + 1) (by omega)
  have e : wrap64 ((i : Int) + 1) = ((i + 1 : Nat) : Int) := by rw [wrap_id (by omega) (by omega)]; omega
  have hp : prevOf l (i + 1) = some l[i] := by simp [prevOf, hi]
  rw [hp] at ih
  refine Ev.succ ?_
  simp only [corncribref07_Rising.l0]
  rw [e, rdOf_get hi, rkey_eq, List.drop_eq_getElem_cons hi]
  refine Ev.pos (by omega) (Ev.pos (by omega) (Ev.some_bind ?_))
  by_cases hk : keyB l[i] = true
  ·refine Ev.pos hk ?_
   by_cases h0 : i = 0
   ·subst h0
    refine Ev.neg (by omega) ?_
    have e2 : risFrom (prevOf l 0) (l[0] :: l.drop (0 + 1)) = risFrom (some l[0]) (l.drop (0 + 1)) := by
     show (keyB l[0] && risFrom (some l[0]) (l.drop 1)) = _
     rw [hk, Bool.true_and]
    rw [e2]
    exact ih
   ·have h1 : i - 1 < l.length := by omega
    have e1 : wrap64 ((i : Int) - 1) = ((i - 1 : Nat) : Int) := by rw [wrap_id (by omega) (by omega)]; omega
    have hpr : prevOf l i = some l[i - 1] := by simp [prevOf, h0, h1]
    rw [e1, hpr, rdOf_get h1]
    have e2 : risFrom (some l[i - 1]) (l[i] :: l.drop (i + 1)) = (Op.bytesLess l[i - 1].toList l[i].toList && risFrom (some l[i]) (l.drop (i + 1))) := by
     show (keyB l[i] && _) = _
     rw [hk, Bool.true_and]
    rw [e2]
    refine Ev.pos (by omega) (Ev.pos (by omega) (Ev.pos (by omega) ?_))
    by_cases hb : Op.bytesLess l[i - 1].toList l[i].toList = true
    ·rw [hb, Bool.true_and]
     exact Ev.pos rfl ih
    ·have hb' : Op.bytesLess l[i - 1].toList l[i].toList = false := by simpa using hb
     rw [hb', Bool.false_and]
     exact Ev.neg (by simp) (Ev.now _)
  ·have hk' : keyB l[i] = false := by simpa using hk
   rw [hk']
   have e2 : risFrom (prevOf l i) (l[i] :: l.drop (i + 1)) = false := by
    cases prevOf l i with
    |none => show (keyB l[i] && _) = _; rw [hk']; rfl
    |some p => show (keyB l[i] && _) = _; rw [hk']; rfl
   rw [e2]
   exact Ev.neg (by simp) (Ev.now _)
theorem rrising_ev (l : List ByteArray) (hl : l.length ≤ 4611686018427387904) : Ev (fun k => corncribref07_Rising.f k l) (risB l) := rrising_l0 l hl l.length 0 (by omega)
end Go.Proofs.Ytelgpkbnahgdoaa.LetSpec

namespace Go.Proofs.Ytelgpkbnahgdoaa.LetSpec
open Go.RowKit Go.Proofs.Ytelgpkbnahgdoaa.Base Go.Proofs.Ytelgpkbnahgdoaa.Al Go.Proofs.YtelgpkbnahgdoaaW.PrintWords
theorem raddr_eq (n : Int) : corncribref07_Address.f n = some (addrB n) := by
 unfold corncribref07_Address.f addrB
 split
 ·split
  ·rw [decide_eq_true (by omega)]
  ·split
   ·congr 1; apply decide_eq_decide.2; omega
   ·rw [decide_eq_false (by omega)]
 ·split
  ·congr 1; apply decide_eq_decide.2; omega
  ·rw [decide_eq_false (by omega)]
theorem rwrites_l0 (l : List S49) (hl : l.length ≤ 8796093022000) : ∀ (d i : Nat), i + d = l.length → (l.take i).all oneW = true → Ev (fun k => corncribref07_Writes.l0 k l ((l.take i).map fun x => x.f0) i) (wriB l)
 |0, i, h, ha => by
  have hi : l.take i = l := List.take_of_length_le (by omega)
  rw [hi] at ha ⊢
  have hw : wriB l = (decide (l.length ≤ 16) && risB (l.map fun x => x.f0)) := by unfold wriB; rw [ha, Bool.true_and]
  rw [hw]
  refine Ev.succ ?_
  simp only [corncribref07_Writes.l0]
  refine Ev.neg (by omega) ?_
  by_cases h16 : l.length ≤ 16
  ·rw [decide_eq_true h16, Bool.true_and]
   exact Ev.pos (by omega) (Ev.bind (rrising_ev _ (by simp; omega)) (Ev.now _))
  ·rw [decide_eq_false h16, Bool.false_and]
   exact Ev.neg (by omega) (Ev.now _)
 |d + 1, i, h, ha => by
  have hi : i < l.length := by omega
  have e : wrap64 ((i : Int) + 1) = ((i + 1 : Nat) : Int) := by rw [wrap_id (by omega) (by omega)]; omega
  have hlen : ((l.take i).map fun x => x.f0).length = i := by simp; omega
  have htk : l.take (i + 1) = l.take i ++ [l[i]] := by rw [List.take_succ_eq_append_getElem hi]
  have bad : oneW l[i] = false → wriB l = false := fun hf => by
   unfold wriB
   have : l.all oneW = false := List.all_eq_false.2 ⟨l[i], List.getElem_mem hi, by simp [hf]⟩
   rw [this, Bool.false_and]
  refine Ev.succ ?_
  simp only [corncribref07_Writes.l0]
  rw [e, rdT_get hi, hlen]
  refine Ev.pos (by omega) (Ev.pos (by omega) (Ev.pos (by omega) (Ev.some_bind ?_)))
  by_cases hs : l[i].f1.size ≤ 2052
  ·refine Ev.neg (by omega) ?_
   have good : oneW l[i] = true → Ev (fun k => corncribref07_Writes.l0 k l ((l.take i).map (fun x => x.f0) ++ [l[i].f0]) ((i + 1 : Nat) : Int)) (wriB l) := fun ho => by
    have ih := rwrites_l0 l hl d (i + 1) (by omega) (by rw [htk, List.all_append, ha]; simp [ho])
    rw [htk, List.map_append] at ih
    exact ih
   by_cases hd : l[i].f2 = true
   ·refine Ev.pos hd ?_
    by_cases he : l[i].f1.toList = []
    ·exact Ev.pos he (good (by simp [oneW, hs, he]))
    ·rw [bad (by simp [oneW, hd, he])]
     exact Ev.neg he (Ev.now _)
   ·have hd' : l[i].f2 = false := by simpa using hd
    exact Ev.neg hd (good (by simp [oneW, hs, hd']))
  ·rw [bad (by simp [oneW, hs])]
   exact Ev.pos (by omega) (Ev.now _)
theorem rwrites_ev (l : List S49) (hl : l.length ≤ 8796093022000) : Ev (fun k => corncribref07_Writes.f k l) (wriB l) := rwrites_l0 l hl l.length 0 (by omega) rfl
section
variable (x0 x1 x2 x3 x4 x5 : Int) (x6 : ByteArray) (x7 : List ByteArray) (x8 : List S49) (h7 : x7.length ≤ 8796093022000) (h8 : x8.length ≤ 8796093022000)
theorem j3_ev (bare : Bool) (b : Bool) (hb : b = true ↔ (x0 = 5 ∨ x0 = 6 ∨ x0 = 7)) (hn : x0 ≠ 1 ∧ x0 ≠ 2 ∧ x0 ≠ 3 ∧ x0 ≠ 4) (one : Bool) : Ev (fun k => corncribref07_Check.j3 k bare x0 b x0 x1 x2 x3 x4 x5 x6 x7 x8) (refV x5 x0 one bare x6 x7 x8) := by
 obtain ⟨n1, n2, n3, n4⟩ := hn
 refine Ev.succ ?_
 simp only [corncribref07_Check.j3]
 unfold refV
 rw [if_neg n1, if_neg n2, if_neg n3, if_neg n4]
 by_cases h : x0 = 5 ∨ x0 = 6 ∨ x0 = 7
 ·rw [if_pos h]
  refine Ev.pos (hb.2 h) ?_
  by_cases h1 : bare = true
  ·by_cases h2 : x5 = 0
   ·exact Ev.to (Ev.pos h1 (Ev.pos h2 (Ev.now _))) (if_pos ⟨h1, h2⟩).symm
   ·exact Ev.to (Ev.pos h1 (Ev.neg h2 (Ev.now _))) (if_neg (fun hc => h2 hc.2)).symm
  ·exact Ev.to (Ev.neg h1 (Ev.now _)) (if_neg (fun hc => h1 hc.1)).symm
 ·rw [if_neg h]
  refine Ev.neg (fun hc => h (hb.1 hc)) ?_
  by_cases h8 : x0 = 8
  ·rw [if_pos h8, if_pos h8]
   by_cases h1 : bare = true
   ·by_cases h2 : x5 ≤ 2
    ·exact Ev.to (Ev.pos h1 (Ev.pos h2 (Ev.now _))) (if_pos ⟨h1, h2⟩).symm
    ·exact Ev.to (Ev.pos h1 (Ev.neg h2 (Ev.now _))) (if_neg (fun hc => h2 hc.2)).symm
   ·exact Ev.to (Ev.neg h1 (Ev.now _)) (if_neg (fun hc => h1 hc.1)).symm
  ·rw [if_neg h8, if_neg h8]
   exact Ev.now _
include h7 h8 in
theorem j2_ev (one bare : Bool) : Ev (fun k => corncribref07_Check.j2 k one bare x0 x1 x2 x3 x4 x5 x6 x7 x8) (refV x5 x0 one bare x6 x7 x8) := by
 refine Ev.succ ?_
 simp only [corncribref07_Check.j2]
 by_cases n1 : x0 = 1
 ·refine Ev.pos n1 ?_
  unfold refV; rw [if_pos n1]
  by_cases h1 : one = true
  ·by_cases h2 : x6.toList = []
   ·by_cases h3 : x5 = 0
    ·exact Ev.to (Ev.pos h1 (Ev.pos h2 (Ev.pos h3 (Ev.now _)))) (if_pos ⟨h1, h2, h3⟩).symm
    ·exact Ev.to (Ev.pos h1 (Ev.pos h2 (Ev.neg h3 (Ev.now _)))) (if_neg (fun hc => h3 hc.2.2)).symm
   ·exact Ev.to (Ev.pos h1 (Ev.neg h2 (Ev.now _))) (if_neg (fun hc => h2 hc.2.1)).symm
  ·exact Ev.to (Ev.neg h1 (Ev.now _)) (if_neg (fun hc => h1 hc.1)).symm
 refine Ev.neg n1 ?_
 by_cases n2 : x0 = 2
 ·refine Ev.pos n2 ?_
  unfold refV; rw [if_neg n1, if_pos n2]
  by_cases h1 : one = true
  ·by_cases h2 : x6.size ≤ 2052
   ·by_cases h3 : x6.toList = []
    ·exact Ev.to (Ev.pos h1 (Ev.pos (by omega) (Ev.pos h3 (Ev.now _)))) (if_pos ⟨h1, h2, .inl h3⟩).symm
    ·by_cases h4 : x5 = 1
     ·exact Ev.to (Ev.pos h1 (Ev.pos (by omega) (Ev.neg h3 (Ev.pos h4 (Ev.now _))))) (if_pos ⟨h1, h2, .inr h4⟩).symm
     ·exact Ev.to (Ev.pos h1 (Ev.pos (by omega) (Ev.neg h3 (Ev.neg h4 (Ev.now _))))) (if_neg (fun hc => hc.2.2.elim h3 h4)).symm
   ·exact Ev.to (Ev.pos h1 (Ev.neg (by omega) (Ev.now _))) (if_neg (fun hc => h2 hc.2.1)).symm
  ·exact Ev.to (Ev.neg h1 (Ev.now _)) (if_neg (fun hc => h1 hc.1)).symm
 refine Ev.neg n2 ?_
 by_cases n3 : x0 = 3
 ·refine Ev.pos n3 ?_
  unfold refV; rw [if_neg n1, if_neg n2, if_pos n3]
  by_cases h1 : x7.length ≤ 16
  ·refine Ev.pos (by omega) (Ev.bind (rrising_ev x7 (by omega)) ?_)
   by_cases h2 : risB x7 = true
   ·refine Ev.pos h2 (Ev.bind (rwrites_ev x8 h8) ?_)
    by_cases h3 : wriB x8 = true
    ·by_cases h4 : x6.toList = []
     ·by_cases h5 : x5 = 0
      ·exact Ev.to (Ev.pos h3 (Ev.pos h4 (Ev.pos h5 (Ev.now _)))) (if_pos ⟨h1, h2, h3, h4, h5⟩).symm
      ·exact Ev.to (Ev.pos h3 (Ev.pos h4 (Ev.neg h5 (Ev.now _)))) (if_neg (fun hc => h5 hc.2.2.2.2)).symm
     ·exact Ev.to (Ev.pos h3 (Ev.neg h4 (Ev.now _))) (if_neg (fun hc => h4 hc.2.2.2.1)).symm
    ·exact Ev.to (Ev.neg h3 (Ev.now _)) (if_neg (fun hc => h3 hc.2.2.1)).symm
   ·exact Ev.to (Ev.neg h2 (Ev.now _)) (if_neg (fun hc => h2 hc.2.1)).symm
  ·exact Ev.to (Ev.neg (by omega) (Ev.now _)) (if_neg (fun hc => h1 hc.1)).symm
 refine Ev.neg n3 ?_
 by_cases n4 : x0 = 4
 ·refine Ev.pos n4 ?_
  unfold refV; rw [if_neg n1, if_neg n2, if_neg n3, if_pos n4]
  by_cases h1 : bare = true
  ·by_cases h2 : x5 ≤ 1
   ·exact Ev.to (Ev.pos h1 (Ev.pos h2 (Ev.now _))) (if_pos ⟨h1, h2⟩).symm
   ·exact Ev.to (Ev.pos h1 (Ev.neg h2 (Ev.now _))) (if_neg (fun hc => h2 hc.2)).symm
  ·exact Ev.to (Ev.neg h1 (Ev.now _)) (if_neg (fun hc => h1 hc.1)).symm
 refine Ev.neg n4 ?_
 by_cases n5 : x0 = 5
 ·exact Ev.pos n5 (j3_ev _ _ _ _ _ _ _ _ _ bare _ (by simp; omega) ⟨n1, n2, n3, n4⟩ one)
 refine Ev.neg n5 ?_
 by_cases n6 : x0 = 6
 ·exact Ev.pos n6 (j3_ev _ _ _ _ _ _ _ _ _ bare _ (by simp; omega) ⟨n1, n2, n3, n4⟩ one)
 ·exact Ev.neg n6 (j3_ev _ _ _ _ _ _ _ _ _ bare _ (by simp; omega) ⟨n1, n2, n3, n4⟩ one)
include h7 h8 in
theorem j1_ev (one : Bool) : Ev (fun k => corncribref07_Check.j1 k one x0 x1 x2 x3 x4 x5 x6 x7 x8) (refV x5 x0 one (bareB x6 x7 x8) x6 x7 x8) := by
 refine Ev.succ ?_
 simp only [corncribref07_Check.j1]
 by_cases h1 : x7.length = 0
 ·refine Ev.pos (by omega) ?_
  by_cases h2 : x8.length = 0
  ·refine Ev.pos (by omega) ?_
   have e : bareB x6 x7 x8 = (x6.toList == []) := by unfold bareB; rw [decide_eq_true h1, decide_eq_true h2]; simp
   rw [e]
   exact j2_ev _ _ _ _ _ _ _ _ _ h7 h8 _ _
  ·have e : bareB x6 x7 x8 = false := by unfold bareB; rw [decide_eq_false h2]; simp
   rw [e]
   exact Ev.neg (by omega) (j2_ev _ _ _ _ _ _ _ _ _ h7 h8 _ _)
 ·have e : bareB x6 x7 x8 = false := by unfold bareB; rw [decide_eq_false h1]; simp
  rw [e]
  exact Ev.neg (by omega) (j2_ev _ _ _ _ _ _ _ _ _ h7 h8 _ _)
include h7 h8 in
theorem j0_ev (b : Bool) : Ev (fun k => corncribref07_Check.j0 k b x0 x1 x2 x3 x4 x5 x6 x7 x8) (if b = true then 70 else refV x5 x0 (oneB x7 x8) (bareB x6 x7 x8) x6 x7 x8) := by
 refine Ev.succ ?_
 simp only [corncribref07_Check.j0]
 by_cases hb : b = true
 ·rw [if_pos hb]; exact Ev.pos hb (Ev.now _)
 rw [if_neg hb]
 refine Ev.neg hb ?_
 by_cases h1 : x7.length = 1
 ·refine Ev.pos (by omega) (Ev.pos (by omega) ?_)
  rw [rkey_eq]
  refine Ev.some_bind ?_
  by_cases hk : keyB (rdOf ByteArray.empty x7 0) = true
  ·have e : oneB x7 x8 = ((x8.length : Int) == 0) := by unfold oneB; rw [decide_eq_true h1, hk]; by_cases h : x8.length = 0 <;> simp [h]
   rw [e]
   exact Ev.pos hk (j1_ev _ _ _ _ _ _ _ _ _ h7 h8 _)
  ·have hk' : keyB (rdOf ByteArray.empty x7 0) = false := by simpa using hk
   have e : oneB x7 x8 = false := by unfold oneB; rw [hk']; simp
   rw [e]
   exact Ev.neg hk (j1_ev _ _ _ _ _ _ _ _ _ h7 h8 _)
 ·have e : oneB x7 x8 = false := by unfold oneB; rw [decide_eq_false h1]; simp
  rw [e]
  exact Ev.neg (by omega) (j1_ev _ _ _ _ _ _ _ _ _ h7 h8 _)
include h7 h8 in
theorem rcheckL_ev : Ev (fun k => corncribref07_Check.f k x0 x1 x2 x3 x4 x5 x6 x7 x8) (chkL x0 x1 x2 x3 x4 x5 x6 x7 x8) := by
 rw [ref_chk]
 unfold corncribref07_Check.f
 rw [raddr_eq, raddr_eq]
 have bad : Ev (fun k => corncribref07_Check.j0 k true x0 x1 x2 x3 x4 x5 x6 x7 x8) 70 := j0_ev _ _ _ _ _ _ _ _ _ h7 h8 true
 refine Ev.some_bind ?_
 by_cases g0 : addrB x1 = true
 case neg => exact Ev.to (Ev.neg g0 bad) (if_neg (fun hc => g0 hc.1)).symm
 refine Ev.pos g0 (Ev.some_bind ?_)
 by_cases g1 : addrB x2 = true
 case neg => exact Ev.to (Ev.neg g1 bad) (if_neg (fun hc => g1 hc.2.1)).symm
 refine Ev.pos g1 ?_
 have et : corncribref07_Txn.f x3 = some (decide (1 ≤ x3 ∧ x3 ≤ 1125899906842623)) := by
  unfold corncribref07_Txn.f
  split
  ·congr 1; apply decide_eq_decide.2; omega
  ·rw [decide_eq_false (by omega)]
 have es : corncribref07_Stamp.f x4 = some (decide (0 ≤ x4 ∧ x4 ≤ 1125899906842624)) := by
  unfold corncribref07_Stamp.f
  split
  ·congr 1; apply decide_eq_decide.2; omega
  ·rw [decide_eq_false (by omega)]
 rw [et, es]
 refine Ev.some_bind ?_
 by_cases g2 : 1 ≤ x3 ∧ x3 ≤ 1125899906842623
 case neg => exact Ev.to (Ev.neg (by simp only [decide_eq_true_eq]; exact g2) bad) (if_neg (fun hc => g2 ⟨hc.2.2.1, hc.2.2.2.1⟩)).symm
 refine Ev.pos (decide_eq_true g2) (Ev.some_bind ?_)
 by_cases g3 : 0 ≤ x4 ∧ x4 ≤ 1125899906842624
 case neg => exact Ev.to (Ev.neg (by simp only [decide_eq_true_eq]; exact g3) bad) (if_neg (fun hc => g3 ⟨hc.2.2.2.2.1, hc.2.2.2.2.2.1⟩)).symm
 refine Ev.pos (decide_eq_true g3) ?_
 by_cases g4 : 0 ≤ x5
 case neg => exact Ev.to (Ev.pos (by omega) bad) (if_neg (fun hc => g4 hc.2.2.2.2.2.2.1)).symm
 refine Ev.neg (by omega) ?_
 have h := j0_ev x0 x1 x2 x3 x4 x5 x6 x7 x8 h7 h8 (decide (x5 > 4))
 by_cases g5 : x5 ≤ 4
 ·rw [if_neg (by simp; omega)] at h
  rw [if_pos ⟨g0, g1, g2.1, g2.2, g3.1, g3.2, g4, g5⟩]
  exact h
 ·rw [if_pos (by simp; omega)] at h
  rw [if_neg (fun hc => g5 hc.2.2.2.2.2.2.2)]
  exact h
end
end Go.Proofs.Ytelgpkbnahgdoaa.LetSpec

namespace Go.Proofs.Ytelgpkbnahgdoaa.PackFns
open Go.RowKit Go.Proofs.Ytelgpkbnahgdoaa.Base Go.Proofs.Ytelgpkbnahgdoaa.PackMath Go.Proofs.Ytelgpkbnahgdoaa.Al Go.Proofs.YtelgpkbnahgdoaaW.PrintWords
theorem rplain_l0 : ∀ (n : Nat) (xs : List Int), n < 9223372036854775808 → xs.length + (plain n).length ≤ 140737488355328 → Ev (fun k => corncribref06_Plain.l0 k (n : Int) xs) (strOfNums (xs ++ plain n)) := by
 intro n
 induction n using Nat.strongRecOn with
 |ind n ih =>
  intro xs hn hx
  by_cases h1 : n < 128
  ·rw [plain_small h1] at hx ⊢
   simp at hx
   refine Ev.step (fun k => by simp only [corncribref06_Plain.l0]; rw [if_neg (by omega), if_pos (by omega)]) ?_
   rw [show (n : Int) % 256 = n from by omega]
   exact Ev.now _
  ·rw [plain_big (by omega)] at hx ⊢
   simp at hx
   refine Ev.step (fun k => by simp only [corncribref06_Plain.l0]; rw [if_pos (by omega), if_pos (by omega)]) ?_
   have e : wrap64 ((Int.tmod (n : Int) 128) + 128) % 256 = ((n % 128 + 128 : Nat) : Int) := by
    rw [Int.tmod_eq_emod_of_nonneg (by omega), wrap_id (by omega) (by omega)]; omega
   rw [e, step_rest, wrap_id (by omega) (by omega)]
   have := ih (n / 128) (by omega) (xs ++ [((n % 128 + 128 : Nat) : Int)]) (by omega) (by simp; omega)
   simpa using this
theorem rplain_ev (n : Nat) (hn : n < 9223372036854775808) : Ev (fun k => corncribref06_Plain.f k (n : Int)) (strOfNums (plain n)) :=
 rplain_l0 n [] hn (by have := plain_len9 hn; simp; omega)
theorem rsigned_ev (n : Int) (h0 : -4611686018427387904 ≤ n) (h1 : n ≤ 4611686018427387903) : Ev (fun k => corncribref06_Signed.f k n) (strOfNums (signed n)) := by
 have hz := zig_lt h0 h1
 have hp := rplain_ev (zig n) hz
 unfold corncribref06_Signed.f
 by_cases hn : n < 0
 ·have e : wrap64 ((wrap64 ((-2) * (wrap64 (n + 1)))) + 1) = (zig n : Int) := by
   rw [wrap_id (n := n + 1) (by omega) (by omega), wrap_id (n := -2 * (n + 1)) (by omega) (by omega), wrap_id (by omega) (by omega)]
   unfold zig; rw [if_pos hn]; omega
  rw [e]
  exact Ev.pos hn (Ev.bind hp (Ev.now _))
 ·have e : wrap64 (2 * n) = (zig n : Int) := by
   rw [wrap_id (by omega) (by omega)]
   unfold zig; rw [if_neg hn]; omega
  rw [e]
  exact Ev.neg hn (Ev.bind hp (Ev.now _))
theorem strOfNums_append (a b : List Int) : strOfNums (a ++ b) = strOfNums a ++ strOfNums b := B_inj (by rw [B_append, B_nums, B_nums, B_nums, List.map_append])
theorem strOfNums_bytesOf (s : ByteArray) : strOfNums (bytesOf s) = s := by
 apply B_inj
 rw [B_nums]
 unfold bytesOf B
 rw [List.map_map]
 conv => rhs; rw [← List.map_id s.data.toList]
 apply List.map_congr_left
 intro b _
 simp
theorem renc_l1 (nums : List Int) (texts : List ByteArray) (ht : texts.length ≤ 1024) (hs : ∀ s ∈ texts, s.size ≤ 4096) : ∀ (d i : Nat) (acc : ByteArray), i + d = texts.length → acc.size + 4105 * d ≤ 100000000 →
  Ev (fun k => corncribref06_Bytes.l1 k acc (i : Int) nums texts) (acc ++ strOfNums (tails (texts.drop i)))
 |0, i, acc, h, hx => by
  rw [List.drop_of_length_le (by omega)]
  refine Ev.step (fun k => by simp only [corncribref06_Bytes.l1]; rw [if_neg (by omega)]) ?_
  have : acc ++ strOfNums (tails []) = acc := B_inj (by rw [B_append, B_nums]; simp [tails])
  rw [this]
  exact Ev.now _
 |d + 1, i, acc, h, hx => by
  have hi : i < texts.length := by omega
  have e : wrap64 ((i : Int) + 1) = ((i + 1 : Nat) : Int) := by rw [wrap_id (by omega) (by omega)]; omega
  have hr : rdOf ByteArray.empty texts (i : Int) = texts[i] := by simp [rdOf, List.getD_eq_getElem?_getD, hi]
  have hz := hs _ (List.getElem_mem hi)
  have hp : (plain texts[i].size).length ≤ 9 := plain_len9 (by omega)
  have sz := strOfNums_size (plain texts[i].size)
  have sz2 : (strOfNums (plain texts[i].size) ++ texts[i]).size = (strOfNums (plain texts[i].size)).size + texts[i].size := ByteArray.size_append
  have ih := renc_l1 nums texts ht hs d (i + 1) (acc ++ (strOfNums (plain texts[i].size) ++ texts[i])) (by omega) (by rw [ByteArray.size_append]; omega)
  rw [List.drop_eq_getElem_cons hi]
  have et : tails (texts[i] :: texts.drop (i + 1)) = plain texts[i].size ++ bytesOf texts[i] ++ tails (texts.drop (i + 1)) := rfl
  have ee : acc ++ strOfNums (tails (texts[i] :: texts.drop (i + 1))) = acc ++ (strOfNums (plain texts[i].size) ++ texts[i]) ++ strOfNums (tails (texts.drop (i + 1))) := by
   rw [et, strOfNums_append, strOfNums_append, strOfNums_bytesOf]
   apply B_inj
   simp only [B_append, List.append_assoc]
  rw [ee]
  refine Ev.step (fun k => by simp only [corncribref06_Bytes.l1]; rw [if_pos (by omega), if_pos (by omega), hr, e]) ?_
  exact Ev.bind (rplain_ev texts[i].size (by omega)) (Ev.pos (by omega) (Ev.pos (by omega) ih))
theorem renc_l0 (nums : List Int) (texts : List ByteArray) (hn : nums.length ≤ 1024) (ht : texts.length ≤ 1024) (hm : ∀ n ∈ nums, -4611686018427387904 ≤ n ∧ n ≤ 4611686018427387903) (hs : ∀ s ∈ texts, s.size ≤ 4096) : ∀ (d i : Nat) (acc : ByteArray), i + d = nums.length → acc.size + 9 * d ≤ 10000000 →
  Ev (fun k => corncribref06_Bytes.l0 k acc (i : Int) nums texts) (acc ++ strOfNums (body (nums.drop i) ++ plain texts.length ++ tails texts))
 |0, i, acc, h, hx => by
  rw [List.drop_of_length_le (by omega)]
  have hp : (plain texts.length).length ≤ 9 := plain_len9 (by omega)
  have sz := strOfNums_size (plain texts.length)
  refine Ev.step (fun k => by simp only [corncribref06_Bytes.l0]; rw [if_neg (by omega)]) ?_
  refine Ev.bind (rplain_ev texts.length (by omega)) (Ev.pos (by omega) ?_)
  have := renc_l1 nums texts ht hs texts.length 0 (acc ++ strOfNums (plain texts.length)) (by omega) (by rw [ByteArray.size_append]; omega)
  have ee : acc ++ strOfNums (body [] ++ plain texts.length ++ tails texts) = acc ++ strOfNums (plain texts.length) ++ strOfNums (tails (texts.drop 0)) := by
   rw [strOfNums_append, List.drop_zero]
   apply B_inj
   simp [B_append, body]
  rw [ee]
  exact this
 |d + 1, i, acc, h, hx => by
  have hi : i < nums.length := by omega
  have e : wrap64 ((i : Int) + 1) = ((i + 1 : Nat) : Int) := by rw [wrap_id (by omega) (by omega)]; omega
  have hr : rd nums (i : Int) = nums[i] := by simp [rd, List.getD_eq_getElem?_getD, hi]
  have hz := hm _ (List.getElem_mem hi)
  have hp : (signed nums[i]).length ≤ 9 := plain_len9 (zig_lt hz.1 hz.2)
  have sz := strOfNums_size (signed nums[i])
  have ih := renc_l0 nums texts hn ht hm hs d (i + 1) (acc ++ strOfNums (signed nums[i])) (by omega) (by rw [ByteArray.size_append]; omega)
  rw [List.drop_eq_getElem_cons hi]
  have et : body (nums[i] :: nums.drop (i + 1)) = signed nums[i] ++ body (nums.drop (i + 1)) := rfl
  have ee : acc ++ strOfNums (body (nums[i] :: nums.drop (i + 1)) ++ plain texts.length ++ tails texts) = acc ++ strOfNums (signed nums[i]) ++ strOfNums (body (nums.drop (i + 1)) ++ plain texts.length ++ tails texts) := by
   rw [et, List.append_assoc, List.append_assoc, strOfNums_append, List.append_assoc]
   apply B_inj
   simp only [B_append, List.append_assoc]
  rw [ee]
  refine Ev.step (fun k => by simp only [corncribref06_Bytes.l0]; rw [if_pos (by omega), if_pos (by omega), hr, e]) ?_
  exact Ev.bind (rsigned_ev nums[i] hz.1 hz.2) (Ev.pos (by omega) ih)
theorem rbytes_ev (nums : List Int) (texts : List ByteArray) (h : chk nums texts = 0) : Ev (fun k => corncribref06_Bytes.f k nums texts) (strOfNums (enc nums texts)) := by
 obtain ⟨h1, h2, h3, h4⟩ := chk_ok h
 have hp : (plain nums.length).length ≤ 9 := plain_len9 (by omega)
 have sz := strOfNums_size (plain nums.length)
 unfold corncribref06_Bytes.f
 refine Ev.bind (rplain_ev nums.length (by omega)) ?_
 have := renc_l0 nums texts h1 h2 h3 h4 nums.length 0 (strOfNums (plain nums.length)) (by omega) (by omega)
 rw [List.drop_zero, ← strOfNums_append] at this
 simpa [enc] using this
end Go.Proofs.Ytelgpkbnahgdoaa.PackFns

namespace Go.Proofs.Ytelgpkbnahgdoaa.Al
open Go.RowKit Go.Proofs.YtelgpkbnahgdoaaW.PrintWords Go.Proofs.YtelgpkbnahgdoaaW.PrintLast Go.Proofs.YtelgpkbnahgdoaaW.PrintMore
attribute [local go_sem] max2_int min2_int max_two min_two max_three min_three max_four min_four   -- for this text's walks alone
set_option linter.unusedVariables false
set_option linter.unusedSimpArgs false
def corncribref07_Encode.f (k : Nat) (a0_0 : Int) (a0_1 : Int) (a0_2 : Int) (a0_3 : Int) (a0_4 : Int) (a0_5 : Int) (a0_6 : ByteArray) (l0_7 : List ByteArray) (l0_8 : List (S49)) : Option (ByteArray × Int) := (corncribref07_Check.f k a0_0 a0_1 a0_2 a0_3 a0_4 a0_5 a0_6 l0_7 l0_8).bind fun t228 => (if t228 = 0 then ((corncribref07_Bytes.f k a0_0 a0_1 a0_2 a0_3 a0_4 a0_5 a0_6 l0_7 l0_8).bind fun t229 => (some (t229, 0))) else (some ((⟨#[]⟩ : ByteArray), t228)))
theorem corncribref07_Encode.mono : ∀ a0 a1 a2 a3 a4 a5 a6 a7 a8 k, LeO (corncribref07_Encode.f k a0 a1 a2 a3 a4 a5 a6 a7 a8) (corncribref07_Encode.f (k + 1) a0 a1 a2 a3 a4 a5 a6 a7 a8) := by
 intro a0 a1 a2 a3 a4 a5 a6 a7 a8 k
 unfold corncribref07_Encode.f
 repeat' first
   |(with_reducible exact corncribref07_Bytes.mono _ _ _ _ _ _ _ _ _ _)
   |(with_reducible exact corncribref07_Check.mono _ _ _ _ _ _ _ _ _ _)
   |(with_reducible exact LeO.refl _)
   |(with_reducible exact LeO.none _)
   |(with_reducible refine LeO.ite ?_ ?_)
   |(with_reducible refine LeO.bind ?_ (fun _ => ?_))
   |exact corncribref07_Bytes.mono _ _ _ _ _ _ _ _ _ _
   |exact corncribref07_Check.mono _ _ _ _ _ _ _ _ _ _
   |exact LeO.none _
   |refine LeO.ite ?_ ?_
   |refine LeO.bind ?_ (fun _ => ?_)
set_option maxHeartbeats 8000000 in
set_option maxRecDepth 100000 in
theorem corncribref07_Encode.calls (k : Nat) (a0_0 : Int) (a0_1 : Int) (a0_2 : Int) (a0_3 : Int) (a0_4 : Int) (a0_5 : Int) (a0_6 : ByteArray) (A0_7 : Option Addr) (c0_7 : Nat) (l0_7 : List ByteArray) (A0_8 : Option Addr) (c0_8 : Nat) (l0_8 : List (S49)) (r1 : ByteArray) (r2 : Int) (w : World) (hr0_7 : Kd.C Kd.string w A0_7 l0_7.length l0_7) (hc0_7 : l0_7.length ≤ c0_7) (hr0_8 : Kd.C k49 w A0_8 l0_8.length l0_8) (hc0_8 : l0_8.length ≤ c0_8) (h : corncribref07_Encode.f k a0_0 a0_1 a0_2 a0_3 a0_4 a0_5 a0_6 l0_7 l0_8 = some (r1, r2)) :
  Calls Try.prog 11 #[.agg #[.int .i64 a0_0, .int .i64 a0_1, .int .i64 a0_2, .int .i64 a0_3, .int .i64 a0_4, .int .i64 a0_5, .string a0_6, .slice A0_7 l0_7.length c0_7, .slice A0_8 l0_8.length c0_8]] w fun e w' => e = .returned (.tuple #[.string r1, .int .i64 r2]) ∧ Below w.heap.size w w' := by
 have hu25 := Try.underlying25
 have HR0_7 := Aside0.mk hr0_7
 have HC0_7 := Aside0.mk hc0_7
 clear hr0_7 hc0_7
 have HR0_8 := Aside0.mk hr0_8
 have HC0_8 := Aside0.mk hc0_8
 clear hr0_8 hc0_8
 have HB := Aside0.mk (Below.refl w.heap.size w)
 have H : ((corncribref07_Check.f k a0_0 a0_1 a0_2 a0_3 a0_4 a0_5 a0_6 l0_7 l0_8).bind fun t228 => (if t228 = 0 then ((corncribref07_Bytes.f k a0_0 a0_1 a0_2 a0_3 a0_4 a0_5 a0_6 l0_7 l0_8).bind fun t229 => (some (t229, 0))) else (some ((⟨#[]⟩ : ByteArray), t228)))) = some (r1, r2) := h
 clear h
 replace H := Option.bind_eq_some_iff.mp H
 obtain ⟨t228, A20, H⟩ := H
 replace H : (if t228 = 0 then ((corncribref07_Bytes.f k a0_0 a0_1 a0_2 a0_3 a0_4 a0_5 a0_6 l0_7 l0_8).bind fun t229 => (some (t229, 0))) else (some ((⟨#[]⟩ : ByteArray), t228))) = some (r1, r2) := H
 have A2 := Aside0.mk A20
 clear A20
 by_cases c3 : t228 = 0
 ·rw [if_pos c3] at H
  have c3b0 : (t228 == 0) = true := beq_iff_eq.mpr c3
  have c3b1 : (t228 != 0) = false := bne_eq_false_iff_eq.mpr c3
  clear c3
  replace H := Option.bind_eq_some_iff.mp H
  obtain ⟨t229, A40, H⟩ := H
  replace H : (some (t229, 0)) = some (r1, r2) := H
  have A4 := Aside0.mk A40
  clear A40
  simp only [Option.some.injEq, Prod.mk.injEq] at H
  obtain ⟨rfl, rfl⟩ := H
  go_enter Try.func11, Try.ntmps11
  go_wp2_with (first | ((with_reducible refine gate_dst (N := 1) rfl ?_); refine box_event ?hg (N := 1) ?hd (cs := #[.int .i64 a0_0, .int .i64 a0_1, .int .i64 a0_2, .int .i64 a0_3, .int .i64 a0_4, .int .i64 a0_5, .string a0_6, .slice A0_7 l0_7.length c0_7, .slice A0_8 l0_8.length c0_8]) (t := 25) ?hr ?_; (case hd => rfl); (case hg => rfl); (case hr => first | (go_simp; done) | (go_simp; rfl)); intro gb227 hg w5 hbox hb; have n0_ := Aside0.mk (below_step (by repeat (first | (with_reducible first | exact HB.out | apply below_alloc | apply pw_below_drewN | apply below_drew1) | exact HB.out)) hb); have n1_ := Aside0.mk (hbox); have n2_ := Aside0.mk ((by rw [hg]; exact (below_size (by repeat (first | (with_reducible first | exact HB.out | apply below_alloc | apply pw_below_drewN | apply below_drew1) | exact HB.out))) : w.heap.size ≤ gb227)); have n3_ := Aside0.mk ((by rw [hg]; exact (below_size (by repeat (first | (with_reducible first | exact HB.out | apply below_alloc | apply pw_below_drewN | apply below_drew1) | exact HB.out))) : w.heap.size ≤ gb227)); clear HB; have HB := n0_; have BK227 := n1_; have GW227 := n2_; have GE227 := n3_; clear n0_ n1_ n2_ n3_; clear hb hbox hg; have hcz6_0 : w5.cell? ⟨gb227, 0, none⟩ = some (.int .i64 a0_0) := (blk_cell BK227.out 0).trans rfl; have hcz6_1 : w5.cell? ⟨gb227, 1, none⟩ = some (.int .i64 a0_1) := (blk_cell BK227.out 1).trans rfl; have hcz6_2 : w5.cell? ⟨gb227, 2, none⟩ = some (.int .i64 a0_2) := (blk_cell BK227.out 2).trans rfl; have hcz6_3 : w5.cell? ⟨gb227, 3, none⟩ = some (.int .i64 a0_3) := (blk_cell BK227.out 3).trans rfl; have hcz6_4 : w5.cell? ⟨gb227, 4, none⟩ = some (.int .i64 a0_4) := (blk_cell BK227.out 4).trans rfl; have hcz6_5 : w5.cell? ⟨gb227, 5, none⟩ = some (.int .i64 a0_5) := (blk_cell BK227.out 5).trans rfl; have hcz6_6 : w5.cell? ⟨gb227, 6, none⟩ = some (.string a0_6) := (blk_cell BK227.out 6).trans rfl; have hcz6_7 : w5.cell? ⟨gb227, 7, none⟩ = some (.slice A0_7 l0_7.length c0_7) := (blk_cell BK227.out 7).trans rfl; have hcz6_8 : w5.cell? ⟨gb227, 8, none⟩ = some (.slice A0_8 l0_8.length c0_8) := (blk_cell BK227.out 8).trans rfl; have hfz6_0 := blk_frozen BK227.out 0; have hfz6_1 := blk_frozen BK227.out 1; have hfz6_2 := blk_frozen BK227.out 2; have hfz6_3 := blk_frozen BK227.out 3; have hfz6_4 := blk_frozen BK227.out 4; have hfz6_5 := blk_frozen BK227.out 5; have hfz6_6 := blk_frozen BK227.out 6; have hfz6_7 := blk_frozen BK227.out 7; have hfz6_8 := blk_frozen BK227.out 8) | ((with_reducible refine gate_callee (f := 14) rfl ?_); refine goesL_ (some 6) rfl rfl Try.func14 (by kernel_rfl) rfl #[.agg #[.int .i64 a0_0, .int .i64 a0_1, .int .i64 a0_2, .int .i64 a0_3, .int .i64 a0_4, .int .i64 a0_5, .string a0_6, .slice A0_7 l0_7.length c0_7, .slice A0_8 l0_8.length c0_8]] rfl (by (try simp only [List.map_toArray, List.map_cons, List.map_nil]); first | done | rfl | (simp only [List.length_drop, List.length_take]; rfl)) ?_; (with_reducible refine (corncribref07_Check.calls k a0_0 a0_1 a0_2 a0_3 a0_4 a0_5 a0_6 _ _ l0_7 _ _ l0_8 t228 _ ?side1 ?side2 ?side3 ?side4 A2.out).mono ?_); (case side1 => repeat (first | exact (Kd.C_below HR0_7.out HB.out) | (with_reducible refine Kd.C_alloc ?_ _) | (with_reducible refine Kd.C_drewN ?_ _) | (with_reducible refine Kd.C_drew ?_))); (case side2 => exact HC0_7.out); (case side3 => repeat (first | exact (Kd.C_below HR0_8.out HB.out) | (with_reducible refine Kd.C_alloc ?_ _) | (with_reducible refine Kd.C_drewN ?_ _) | (with_reducible refine Kd.C_drew ?_))); (case side4 => exact HC0_8.out); rintro e w7 ⟨rfl, hb⟩; refine ⟨_, rfl, ?_⟩; have n0_ := Aside0.mk (blk_below (g := gb227) (o := .cells #[.int .i64 a0_0, .int .i64 a0_1, .int .i64 a0_2, .int .i64 a0_3, .int .i64 a0_4, .int .i64 a0_5, .string a0_6, .slice A0_7 l0_7.length c0_7, .slice A0_8 l0_8.length c0_8] 25 (0, 0)) (by (with_reducible repeat (first | refine blk_drewN ?_ _ | refine blk_drew ?_ | refine blk_alloc ?_ _)); exact BK227.out) hb); have n1_ := Aside0.mk (below_step (by repeat (first | (with_reducible first | exact HB.out | apply below_alloc | apply pw_below_drewN | apply below_drew1 | refine below_set ?_ GE227.out) | exact HB.out)) hb); clear BK227; clear HB; have BK227 := n0_; have HB := n1_; clear n0_ n1_; (try clear hb); (try clear hb2); (try clear hk); (try clear hi); have hcz8_0 : w7.cell? ⟨gb227, 0, none⟩ = some (.int .i64 a0_0) := (blk_cell BK227.out 0).trans rfl; have hcz8_1 : w7.cell? ⟨gb227, 1, none⟩ = some (.int .i64 a0_1) := (blk_cell BK227.out 1).trans rfl; have hcz8_2 : w7.cell? ⟨gb227, 2, none⟩ = some (.int .i64 a0_2) := (blk_cell BK227.out 2).trans rfl; have hcz8_3 : w7.cell? ⟨gb227, 3, none⟩ = some (.int .i64 a0_3) := (blk_cell BK227.out 3).trans rfl; have hcz8_4 : w7.cell? ⟨gb227, 4, none⟩ = some (.int .i64 a0_4) := (blk_cell BK227.out 4).trans rfl; have hcz8_5 : w7.cell? ⟨gb227, 5, none⟩ = some (.int .i64 a0_5) := (blk_cell BK227.out 5).trans rfl; have hcz8_6 : w7.cell? ⟨gb227, 6, none⟩ = some (.string a0_6) := (blk_cell BK227.out 6).trans rfl; have hcz8_7 : w7.cell? ⟨gb227, 7, none⟩ = some (.slice A0_7 l0_7.length c0_7) := (blk_cell BK227.out 7).trans rfl; have hcz8_8 : w7.cell? ⟨gb227, 8, none⟩ = some (.slice A0_8 l0_8.length c0_8) := (blk_cell BK227.out 8).trans rfl; have hfz8_0 := blk_frozen BK227.out 0; have hfz8_1 := blk_frozen BK227.out 1; have hfz8_2 := blk_frozen BK227.out 2; have hfz8_3 := blk_frozen BK227.out 3; have hfz8_4 := blk_frozen BK227.out 4; have hfz8_5 := blk_frozen BK227.out 5; have hfz8_6 := blk_frozen BK227.out 6; have hfz8_7 := blk_frozen BK227.out 7; have hfz8_8 := blk_frozen BK227.out 8) | ((with_reducible refine gate_callee (f := 27) rfl ?_); refine goesL_ (some 11) rfl rfl Try.func27 (by kernel_rfl) rfl #[.agg #[.int .i64 a0_0, .int .i64 a0_1, .int .i64 a0_2, .int .i64 a0_3, .int .i64 a0_4, .int .i64 a0_5, .string a0_6, .slice A0_7 l0_7.length c0_7, .slice A0_8 l0_8.length c0_8]] rfl (by (try simp only [List.map_toArray, List.map_cons, List.map_nil]); first | done | rfl | (simp only [List.length_drop, List.length_take]; rfl)) ?_; (with_reducible refine (corncribref07_Bytes.calls k a0_0 a0_1 a0_2 a0_3 a0_4 a0_5 a0_6 _ _ l0_7 _ _ l0_8 t229 _ ?side1 ?side2 ?side3 ?side4 A4.out).mono ?_); (case side1 => repeat (first | exact (Kd.C_below HR0_7.out HB.out) | (with_reducible refine Kd.C_alloc ?_ _) | (with_reducible refine Kd.C_drewN ?_ _) | (with_reducible refine Kd.C_drew ?_))); (case side2 => exact HC0_7.out); (case side3 => repeat (first | exact (Kd.C_below HR0_8.out HB.out) | (with_reducible refine Kd.C_alloc ?_ _) | (with_reducible refine Kd.C_drewN ?_ _) | (with_reducible refine Kd.C_drew ?_))); (case side4 => exact HC0_8.out); rintro e w9 ⟨rfl, hb⟩; refine ⟨_, rfl, ?_⟩; have n0_ := Aside0.mk (blk_below (g := gb227) (o := .cells #[.int .i64 a0_0, .int .i64 a0_1, .int .i64 a0_2, .int .i64 a0_3, .int .i64 a0_4, .int .i64 a0_5, .string a0_6, .slice A0_7 l0_7.length c0_7, .slice A0_8 l0_8.length c0_8] 25 (0, 0)) (by (with_reducible repeat (first | refine blk_drewN ?_ _ | refine blk_drew ?_ | refine blk_alloc ?_ _)); exact BK227.out) hb); have n1_ := Aside0.mk (below_step (by repeat (first | (with_reducible first | exact HB.out | apply below_alloc | apply pw_below_drewN | apply below_drew1 | refine below_set ?_ GE227.out) | exact HB.out)) hb); clear BK227; clear HB; have BK227 := n0_; have HB := n1_; clear n0_ n1_; (try clear hb); (try clear hb2); (try clear hk); (try clear hi)))
  go_ret2
  exact ⟨by first | rfl | (simp [errW_none, errW_some] <;> rfl) | (simp [*, errW_none, errW_some] <;> rfl), by repeat (first | (with_reducible first | exact HB.out | apply below_alloc | apply pw_below_drewN | apply below_drew1 | refine below_set ?_ GE227.out) | exact HB.out)⟩
 ·rw [if_neg c3] at H
  have c3b0 : (t228 == 0) = false := beq_eq_false_iff_ne.mpr c3
  have c3b1 : (t228 != 0) = true := bne_iff_ne.mpr c3
  simp only [Option.some.injEq, Prod.mk.injEq] at H
  obtain ⟨rfl, rfl⟩ := H
  go_enter Try.func11, Try.ntmps11
  go_wp2_with (first | ((with_reducible refine gate_dst (N := 1) rfl ?_); refine box_event ?hg (N := 1) ?hd (cs := #[.int .i64 a0_0, .int .i64 a0_1, .int .i64 a0_2, .int .i64 a0_3, .int .i64 a0_4, .int .i64 a0_5, .string a0_6, .slice A0_7 l0_7.length c0_7, .slice A0_8 l0_8.length c0_8]) (t := 25) ?hr ?_; (case hd => rfl); (case hg => rfl); (case hr => first | (go_simp; done) | (go_simp; rfl)); intro gb227 hg w10 hbox hb; have n0_ := Aside0.mk (below_step (by repeat (first | (with_reducible first | exact HB.out | apply below_alloc | apply pw_below_drewN | apply below_drew1) | exact HB.out)) hb); have n1_ := Aside0.mk (hbox); have n2_ := Aside0.mk ((by rw [hg]; exact (below_size (by repeat (first | (with_reducible first | exact HB.out | apply below_alloc | apply pw_below_drewN | apply below_drew1) | exact HB.out))) : w.heap.size ≤ gb227)); have n3_ := Aside0.mk ((by rw [hg]; exact (below_size (by repeat (first | (with_reducible first | exact HB.out | apply below_alloc | apply pw_below_drewN | apply below_drew1) | exact HB.out))) : w.heap.size ≤ gb227)); clear HB; have HB := n0_; have BK227 := n1_; have GW227 := n2_; have GE227 := n3_; clear n0_ n1_ n2_ n3_; clear hb hbox hg; have hcz11_0 : w10.cell? ⟨gb227, 0, none⟩ = some (.int .i64 a0_0) := (blk_cell BK227.out 0).trans rfl; have hcz11_1 : w10.cell? ⟨gb227, 1, none⟩ = some (.int .i64 a0_1) := (blk_cell BK227.out 1).trans rfl; have hcz11_2 : w10.cell? ⟨gb227, 2, none⟩ = some (.int .i64 a0_2) := (blk_cell BK227.out 2).trans rfl; have hcz11_3 : w10.cell? ⟨gb227, 3, none⟩ = some (.int .i64 a0_3) := (blk_cell BK227.out 3).trans rfl; have hcz11_4 : w10.cell? ⟨gb227, 4, none⟩ = some (.int .i64 a0_4) := (blk_cell BK227.out 4).trans rfl; have hcz11_5 : w10.cell? ⟨gb227, 5, none⟩ = some (.int .i64 a0_5) := (blk_cell BK227.out 5).trans rfl; have hcz11_6 : w10.cell? ⟨gb227, 6, none⟩ = some (.string a0_6) := (blk_cell BK227.out 6).trans rfl; have hcz11_7 : w10.cell? ⟨gb227, 7, none⟩ = some (.slice A0_7 l0_7.length c0_7) := (blk_cell BK227.out 7).trans rfl; have hcz11_8 : w10.cell? ⟨gb227, 8, none⟩ = some (.slice A0_8 l0_8.length c0_8) := (blk_cell BK227.out 8).trans rfl; have hfz11_0 := blk_frozen BK227.out 0; have hfz11_1 := blk_frozen BK227.out 1; have hfz11_2 := blk_frozen BK227.out 2; have hfz11_3 := blk_frozen BK227.out 3; have hfz11_4 := blk_frozen BK227.out 4; have hfz11_5 := blk_frozen BK227.out 5; have hfz11_6 := blk_frozen BK227.out 6; have hfz11_7 := blk_frozen BK227.out 7; have hfz11_8 := blk_frozen BK227.out 8) | ((with_reducible refine gate_callee (f := 14) rfl ?_); refine goesL_ (some 6) rfl rfl Try.func14 (by kernel_rfl) rfl #[.agg #[.int .i64 a0_0, .int .i64 a0_1, .int .i64 a0_2, .int .i64 a0_3, .int .i64 a0_4, .int .i64 a0_5, .string a0_6, .slice A0_7 l0_7.length c0_7, .slice A0_8 l0_8.length c0_8]] rfl (by (try simp only [List.map_toArray, List.map_cons, List.map_nil]); first | done | rfl | (simp only [List.length_drop, List.length_take]; rfl)) ?_; (with_reducible refine (corncribref07_Check.calls k a0_0 a0_1 a0_2 a0_3 a0_4 a0_5 a0_6 _ _ l0_7 _ _ l0_8 t228 _ ?side1 ?side2 ?side3 ?side4 A2.out).mono ?_); (case side1 => repeat (first | exact (Kd.C_below HR0_7.out HB.out) | (with_reducible refine Kd.C_alloc ?_ _) | (with_reducible refine Kd.C_drewN ?_ _) | (with_reducible refine Kd.C_drew ?_))); (case side2 => exact HC0_7.out); (case side3 => repeat (first | exact (Kd.C_below HR0_8.out HB.out) | (with_reducible refine Kd.C_alloc ?_ _) | (with_reducible refine Kd.C_drewN ?_ _) | (with_reducible refine Kd.C_drew ?_))); (case side4 => exact HC0_8.out); rintro e w12 ⟨rfl, hb⟩; refine ⟨_, rfl, ?_⟩; have n0_ := Aside0.mk (blk_below (g := gb227) (o := .cells #[.int .i64 a0_0, .int .i64 a0_1, .int .i64 a0_2, .int .i64 a0_3, .int .i64 a0_4, .int .i64 a0_5, .string a0_6, .slice A0_7 l0_7.length c0_7, .slice A0_8 l0_8.length c0_8] 25 (0, 0)) (by (with_reducible repeat (first | refine blk_drewN ?_ _ | refine blk_drew ?_ | refine blk_alloc ?_ _)); exact BK227.out) hb); have n1_ := Aside0.mk (below_step (by repeat (first | (with_reducible first | exact HB.out | apply below_alloc | apply pw_below_drewN | apply below_drew1 | refine below_set ?_ GE227.out) | exact HB.out)) hb); clear BK227; clear HB; have BK227 := n0_; have HB := n1_; clear n0_ n1_; (try clear hb); (try clear hb2); (try clear hk); (try clear hi)))
  go_ret2
  exact ⟨by first | rfl | (simp [errW_none, errW_some] <;> rfl) | (simp [*, errW_none, errW_some] <;> rfl), by repeat (first | (with_reducible first | exact HB.out | apply below_alloc | apply pw_below_drewN | apply below_drew1 | refine below_set ?_ GE227.out) | exact HB.out)⟩
end Go.Proofs.Ytelgpkbnahgdoaa.Al

namespace Go.Proofs.Ytelgpkbnahgdoaa.LetSpec
open Go.RowKit Go.Proofs.Ytelgpkbnahgdoaa.Base Go.Proofs.Ytelgpkbnahgdoaa.PackMath Go.Proofs.Ytelgpkbnahgdoaa.PackFns Go.Proofs.Ytelgpkbnahgdoaa.Al Go.Proofs.YtelgpkbnahgdoaaW.PrintWords
section
variable (x0 x1 x2 x3 x4 x5 : Int) (x6 : ByteArray) (x7 : List ByteArray) (x8 : List S49) (h7 : x7.length ≤ 8796093022000) (h8 : x8.length ≤ 8796093022000)
theorem rbytes_l0 (hc : chk (letN x0 x1 x2 x3 x4 x5 x7 x8) (letT x6 x7 x8) = 0) (h8 : x8.length ≤ 16) (h7 : x7.length ≤ 16) : ∀ (d i : Nat), i + d = x8.length →
  Ev (fun k => corncribref07_Bytes.l0 k (i : Int) x0 x1 x2 x3 x4 x5 x6 x7 x8 ([x0, x1, x2, x3, x4, x5, (x7.length : Int)] ++ flagsOf (x8.take i)) ([x6] ++ x7 ++ pairsOf (x8.take i))) (strOfNums (enc (letN x0 x1 x2 x3 x4 x5 x7 x8) (letT x6 x7 x8)))
 |0, i, h => by
  refine Ev.succ ?_
  simp only [corncribref07_Bytes.l0]
  rw [List.take_of_length_le (by omega)]
  exact Ev.neg (by omega) (Ev.bind (rbytes_ev _ _ hc) (Ev.now _))
 |d + 1, i, h => by
  have hi : i < x8.length := by omega
  have ih := rbytes_l0 hc h8 h7 d (i + 1) (by omega)
  have e : wrap64 ((i : Int) + 1) = ((i + 1 : Nat) : Int) := by rw [wrap_id (by omega) (by omega)]; omega
  rw [flags_step hi, pairs_step hi] at ih
  refine Ev.succ ?_
  simp only [corncribref07_Bytes.l0]
  rw [e, rdT_get hi]
  have e1 : corncribref07_One.f x8[i].f2 = some (if x8[i].f2 = true then 1 else 0) := by unfold corncribref07_One.f; split <;> rfl
  rw [e1]
  refine Ev.pos (by omega) (Ev.pos (by omega) (Ev.some_bind (Ev.pos ?_ (Ev.pos ?_ (Ev.some_bind (Ev.pos ?_ ?_))))))
  ·simp only [List.length_append, flags_len, List.length_cons, List.length_nil, List.length_take]; omega
  ·simp only [List.length_append, pairs_len, List.length_cons, List.length_nil, List.length_take]; omega
  ·simp only [List.length_append, pairs_len, List.length_cons, List.length_nil, List.length_take]; omega
  ·simpa only [List.append_assoc, List.cons_append, List.nil_append] using ih
include h7 h8 in
theorem rencodeL_ev : Ev (fun k => corncribref07_Encode.f k x0 x1 x2 x3 x4 x5 x6 x7 x8) (encL x0 x1 x2 x3 x4 x5 x6 x7 x8) := by
 unfold corncribref07_Encode.f encL
 refine Ev.bind (rcheckL_ev _ _ _ _ _ _ _ _ _ h7 h8) ?_
 by_cases h : chkL x0 x1 x2 x3 x4 x5 x6 x7 x8 = 0
 ·rw [if_pos h]
  have hb := chk_zero _ _ _ _ _ _ _ _ _ h
  have h1 := hb.b7.1
  have hl := rbytes_l0 x0 x1 x2 x3 x4 x5 x6 x7 x8 (let_chk _ _ _ _ _ _ _ _ _ h) hb.b8.1 h1 x8.length 0 (by omega)
  refine Ev.pos h (Ev.bind ?_ (Ev.now _))
  unfold corncribref07_Bytes.f
  refine Ev.some_bind (Ev.pos (by simp only [List.length_cons, List.length_nil]; omega) ?_)
  simpa [flagsOf, pairsOf] using hl
 ·rw [if_neg h]
  exact Ev.neg h (Ev.now _)
end
end Go.Proofs.Ytelgpkbnahgdoaa.LetSpec

namespace Go.Proofs.Ytelgpkbnahgdoaa.LetSpec
open Go.RowKit Go.Proofs.Ytelgpkbnahgdoaa.Base Go.Proofs.Ytelgpkbnahgdoaa.Al Go.Proofs.YtelgpkbnahgdoaaW.PrintWords
theorem sameT_l0 (l : List ByteArray) (hl : l.length ≤ 4611686018427387904) : ∀ (d i : Nat), i + d = l.length → Ev (fun k => corncribbook_SameTexts.l0 k l l (i : Int)) true
 |0, i, h => Ev.step (f := fun _ => some true) (fun k => by simp only [corncribbook_SameTexts.l0]; rw [if_neg (by omega)]) (Ev.now _)
 |d + 1, i, h => by
  have ih := sameT_l0 l hl d (i + 1) (by omega)
  have e : wrap64 ((i : Int) + 1) = ((i + 1 : Nat) : Int) := by rw [wrap_id (by omega) (by omega)]; omega
  refine Ev.step (fun k => ?_) ih
  simp only [corncribbook_SameTexts.l0]
  rw [if_pos (by omega), if_pos (by omega), if_pos (by omega), if_pos trivial, e]
theorem sameT_ev (l : List ByteArray) (hl : l.length ≤ 4611686018427387904) : Ev (fun k => corncribbook_SameTexts.f k l l) true := by
 unfold corncribbook_SameTexts.f
 exact Ev.pos rfl (sameT_l0 l hl l.length 0 (by omega))
end Go.Proofs.Ytelgpkbnahgdoaa.LetSpec

namespace Go.Proofs.Ytelgpkbnahgdoaa.LetSpec
open Go.RowKit Go.Proofs.Ytelgpkbnahgdoaa.Base Go.Proofs.Ytelgpkbnahgdoaa.Al Go.Proofs.YtelgpkbnahgdoaaW.PrintWords
theorem sameW_l0 (l : List S49) (hl : l.length ≤ 4611686018427387904) : ∀ (d i : Nat), i + d = l.length → Ev (fun k => corncribbook_SameWrites.l0 k l l (i : Int)) true
 |0, i, h => Ev.step (f := fun _ => some true) (fun k => by simp only [corncribbook_SameWrites.l0]; rw [if_neg (by omega)]) (Ev.now _)
 |d + 1, i, h => by
  have ih := sameW_l0 l hl d (i + 1) (by omega)
  have e : wrap64 ((i : Int) + 1) = ((i + 1 : Nat) : Int) := by rw [wrap_id (by omega) (by omega)]; omega
  refine Ev.step (fun k => ?_) ih
  simp only [corncribbook_SameWrites.l0]
  rw [if_pos (by omega), if_pos (by omega), if_pos (by omega), if_neg (by simp), e]
theorem sameW_ev (l : List S49) (hl : l.length ≤ 4611686018427387904) : Ev (fun k => corncribbook_SameWrites.f k l l) true := by
 unfold corncribbook_SameWrites.f
 exact Ev.pos rfl (sameW_l0 l hl l.length 0 (by omega))
theorem sameL_ev (x0 x1 x2 x3 x4 x5 : Int) (x6 : ByteArray) (x7 : List ByteArray) (x8 : List S49) (h7 : x7.length ≤ 4611686018427387904) (h8 : x8.length ≤ 4611686018427387904) : Ev (fun k => corncribbook_SameLetter.f k x0 x1 x2 x3 x4 x5 x6 x7 x8 x0 x1 x2 x3 x4 x5 x6 x7 x8) true := by
 unfold corncribbook_SameLetter.f
 exact Ev.pos rfl (Ev.pos rfl (Ev.pos rfl (Ev.pos rfl (Ev.pos rfl (Ev.pos rfl (Ev.pos rfl (Ev.bind (sameT_ev x7 h7) (Ev.pos rfl (Ev.bind (sameW_ev x8 h8) (Ev.now _))))))))))
end Go.Proofs.Ytelgpkbnahgdoaa.LetSpec

namespace Go.Proofs.Ytelgpkbnahgdoaa.Open
open Go.RowKit Go.Proofs.YtelgpkbnahgdoaaW.PrintWords
/-- Whatever reads as data of type t is told by d: V always, L where each string and slice is within the reach, m is within the bulk. -/
structure Opens {α : Type} (P : Program) (t : TypeId) (d : Kd α) (V L : α → Prop) (m : α → Nat) : Prop where
 out : ∀ {H : Type} {enc : TypeId × Value → H} {w : World} {base : Nat} {spare : Nat → Bool} {held : Bool} {fuel : Nat} {cs : List Value} {x : DataW H × List MemPlace}, DataW.trod enc P w base spare held fuel t cs = some x →
  ∃ a : α, d.K w a cs ∧ V a ∧ ((DataW.weights P t x.1).all (· ≤ reachBytes) = true → L a) ∧ m a ≤ Rows.uptoBulk x.1
theorem opens_string {P : Program} {t : TypeId} (ht : P.underlying t = some .string) : Opens P t Kd.string (fun s => s.size ≤ maxLen) (fun s => s.size ≤ 140737488351232) (fun s => s.size + 1) where
 out h := by
  obtain ⟨s, rfl, rfl, hw⟩ := DataW.trod_string ht h
  refine ⟨s, rfl, hw, fun hx => ?_, ?_⟩
  ·simp only [DataW.weights, List.all_cons, List.all_nil, Bool.and_true, decide_eq_true_eq, data_length] at hx
   exact hx
  ·simp [Rows.uptoBulk]
theorem add_add (a : Addr) (m j : Nat) : (a.add m).add j = a.add (m + j) := by
 unfold Addr.add
 by_cases hm : m = 0 <;> by_cases hj : j = 0 <;> simp [hm, hj, Nat.add_assoc]
theorem all_append {l r : List Nat} {p : Nat → Bool} : (l ++ r).all p = true ↔ l.all p = true ∧ r.all p = true := by rw [List.all_append, Bool.and_eq_true]
end Go.Proofs.Ytelgpkbnahgdoaa.Open
