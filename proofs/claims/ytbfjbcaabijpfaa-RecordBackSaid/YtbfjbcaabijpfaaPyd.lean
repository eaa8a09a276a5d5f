/- What the laws stand on, in one text: functions of the program by their contracts, the plain mathematics behind them, and such of the printed words as these use. It began as the kit's print and own texts; put together by a program (trim.py). -/
import Derived.Test.YtbfjbcaabijpfaaPyc
import Derived.Deep.RegionHeld3
import Derived.Deep.RegionLaw
import Derived.Lib.SliceRun

namespace Go.Proofs.Ytbfjbcaabijpfaa.Al
open Go.RowKit Go.Proofs.YtbfjbcaabijpfaaW.PrintWords Go.Proofs.YtbfjbcaabijpfaaW.PrintLast Go.Proofs.YtbfjbcaabijpfaaW.PrintMore
attribute [local go_sem] max2_int min2_int max_two min_two max_three min_three max_four min_four   -- for this text's walks alone
set_option linter.unusedVariables false
set_option linter.unusedSimpArgs false
attribute [local go_sem high] eqA50
def corncribbook_SameRecord.f (k : Nat) (a0_0 : Int) (a0_1 : Int) (a0_2 : Int) (a0_3 : Int) (a0_4 : ByteArray) (a0_5 : ByteArray) (a0_6 : Bool) (l0_7 : List ByteArray) (l0_8 : List (S50)) (a1_0 : Int) (a1_1 : Int) (a1_2 : Int) (a1_3 : Int) (a1_4 : ByteArray) (a1_5 : ByteArray) (a1_6 : Bool) (l1_7 : List ByteArray) (l1_8 : List (S50)) : Option (Bool) := if a0_0 = a1_0 then (if a0_1 = a1_1 then (if a0_2 = a1_2 then (if a0_3 = a1_3 then (if a0_4.toList = a1_4.toList then (if a0_5.toList = a1_5.toList then (if (a0_6 == a1_6) = true then ((corncribbook_SameTexts.f k l0_7 l1_7).bind fun t240 => (if t240 = true then ((corncribbook_SameWrites.f k l0_8 l1_8).bind fun t241 => (some t241)) else (some false))) else (some false)) else (some false)) else (some false)) else (some false)) else (some false)) else (some false)) else (some false)
theorem corncribbook_SameRecord.mono : ∀ a0 a1 a2 a3 a4 a5 a6 a7 a8 a9 a10 a11 a12 a13 a14 a15 a16 a17 k, LeO (corncribbook_SameRecord.f k a0 a1 a2 a3 a4 a5 a6 a7 a8 a9 a10 a11 a12 a13 a14 a15 a16 a17) (corncribbook_SameRecord.f (k + 1) a0 a1 a2 a3 a4 a5 a6 a7 a8 a9 a10 a11 a12 a13 a14 a15 a16 a17) := by
 intro a0 a1 a2 a3 a4 a5 a6 a7 a8 a9 a10 a11 a12 a13 a14 a15 a16 a17 k
 unfold corncribbook_SameRecord.f
 repeat' first
   |(with_reducible exact corncribbook_SameTexts.mono _ _ _)
   |(with_reducible exact corncribbook_SameWrites.mono _ _ _)
   |(with_reducible exact LeO.refl _)
   |(with_reducible exact LeO.none _)
   |(with_reducible refine LeO.ite ?_ ?_)
   |(with_reducible refine LeO.bind ?_ (fun _ => ?_))
   |exact corncribbook_SameTexts.mono _ _ _
   |exact corncribbook_SameWrites.mono _ _ _
   |exact LeO.none _
   |refine LeO.ite ?_ ?_
   |refine LeO.bind ?_ (fun _ => ?_)
set_option maxHeartbeats 8000000 in
set_option maxRecDepth 100000 in
theorem corncribbook_SameRecord.calls (k : Nat) (a0_0 : Int) (a0_1 : Int) (a0_2 : Int) (a0_3 : Int) (a0_4 : ByteArray) (a0_5 : ByteArray) (a0_6 : Bool) (A0_7 : Option Addr) (c0_7 : Nat) (l0_7 : List ByteArray) (A0_8 : Option Addr) (c0_8 : Nat) (l0_8 : List (S50)) (a1_0 : Int) (a1_1 : Int) (a1_2 : Int) (a1_3 : Int) (a1_4 : ByteArray) (a1_5 : ByteArray) (a1_6 : Bool) (A1_7 : Option Addr) (c1_7 : Nat) (l1_7 : List ByteArray) (A1_8 : Option Addr) (c1_8 : Nat) (l1_8 : List (S50)) (r : Bool) (w : World) (hr0_7 : Kd.C Kd.string w A0_7 l0_7.length l0_7) (hc0_7 : l0_7.length ≤ c0_7) (hr0_8 : Kd.C k50 w A0_8 l0_8.length l0_8) (hc0_8 : l0_8.length ≤ c0_8) (hr1_7 : Kd.C Kd.string w A1_7 l1_7.length l1_7) (hc1_7 : l1_7.length ≤ c1_7) (hr1_8 : Kd.C k50 w A1_8 l1_8.length l1_8) (hc1_8 : l1_8.length ≤ c1_8) (h : corncribbook_SameRecord.f k a0_0 a0_1 a0_2 a0_3 a0_4 a0_5 a0_6 l0_7 l0_8 a1_0 a1_1 a1_2 a1_3 a1_4 a1_5 a1_6 l1_7 l1_8 = some r) :
  Calls Try.prog 13 #[.agg #[.int .i64 a0_0, .int .i64 a0_1, .int .i64 a0_2, .int .i64 a0_3, .string a0_4, .string a0_5, .bool a0_6, .slice A0_7 l0_7.length c0_7, .slice A0_8 l0_8.length c0_8], .agg #[.int .i64 a1_0, .int .i64 a1_1, .int .i64 a1_2, .int .i64 a1_3, .string a1_4, .string a1_5, .bool a1_6, .slice A1_7 l1_7.length c1_7, .slice A1_8 l1_8.length c1_8]] w fun e w' => e = .returned (.bool r) ∧ Below w.heap.size w w' := by
 have hu25 := Try.underlying25
 have HR0_7 := Aside0.mk hr0_7
 have HC0_7 := Aside0.mk hc0_7
 clear hr0_7 hc0_7
 have HR0_8 := Aside0.mk hr0_8
 have HC0_8 := Aside0.mk hc0_8
 clear hr0_8 hc0_8
 have HR1_7 := Aside0.mk hr1_7
 have HC1_7 := Aside0.mk hc1_7
 clear hr1_7 hc1_7
 have HR1_8 := Aside0.mk hr1_8
 have HC1_8 := Aside0.mk hc1_8
 clear hr1_8 hc1_8
 have HB := Aside0.mk (Below.refl w.heap.size w)
 have H : (if a0_0 = a1_0 then (if a0_1 = a1_1 then (if a0_2 = a1_2 then (if a0_3 = a1_3 then (if a0_4.toList = a1_4.toList then (if a0_5.toList = a1_5.toList then (if (a0_6 == a1_6) = true then ((corncribbook_SameTexts.f k l0_7 l1_7).bind fun t240 => (if t240 = true then ((corncribbook_SameWrites.f k l0_8 l1_8).bind fun t241 => (some t241)) else (some false))) else (some false)) else (some false)) else (some false)) else (some false)) else (some false)) else (some false)) else (some false)) = some r := h
 clear h
 by_cases c3 : a0_0 = a1_0
 ·rw [if_pos c3] at H
  have c3b0 : (a0_0 == a1_0) = true := beq_iff_eq.mpr c3
  have c3b1 : (a0_0 != a1_0) = false := bne_eq_false_iff_eq.mpr c3
  clear c3
  by_cases c4 : a0_1 = a1_1
  ·rw [if_pos c4] at H
   have c4b0 : (a0_1 == a1_1) = true := beq_iff_eq.mpr c4
   have c4b1 : (a0_1 != a1_1) = false := bne_eq_false_iff_eq.mpr c4
   clear c4
   by_cases c5 : a0_2 = a1_2
   ·rw [if_pos c5] at H
    have c5b0 : (a0_2 == a1_2) = true := beq_iff_eq.mpr c5
    have c5b1 : (a0_2 != a1_2) = false := bne_eq_false_iff_eq.mpr c5
    clear c5
    by_cases c6 : a0_3 = a1_3
    ·rw [if_pos c6] at H
     have c6b0 : (a0_3 == a1_3) = true := beq_iff_eq.mpr c6
     have c6b1 : (a0_3 != a1_3) = false := bne_eq_false_iff_eq.mpr c6
     clear c6
     by_cases c7 : a0_4.toList = a1_4.toList
     ·rw [if_pos c7] at H
      have c7b0 : (a0_4.toList == a1_4.toList) = true := beq_iff_eq.mpr c7
      have c7b1 : (a0_4.toList != a1_4.toList) = false := bne_eq_false_iff_eq.mpr c7
      clear c7
      by_cases c8 : a0_5.toList = a1_5.toList
      ·rw [if_pos c8] at H
       have c8b0 : (a0_5.toList == a1_5.toList) = true := beq_iff_eq.mpr c8
       have c8b1 : (a0_5.toList != a1_5.toList) = false := bne_eq_false_iff_eq.mpr c8
       clear c8
       by_cases c9 : (a0_6 == a1_6) = true
       ·rw [if_pos c9] at H
        have c9b0 : (a0_6 == a1_6) = true := c9
        (try (have c9b1 : decide (a0_6 = a1_6) = true := by simpa using c9))
        (try (have c9b2 : (a0_6 == a1_6) = true := by simpa using c9))
        clear c9
        replace H := Option.bind_eq_some_iff.mp H
        obtain ⟨t240, A100, H⟩ := H
        replace H : (if t240 = true then ((corncribbook_SameWrites.f k l0_8 l1_8).bind fun t241 => (some t241)) else (some false)) = some r := H
        have A10 := Aside0.mk A100
        clear A100
        by_cases c11 : t240 = true
        ·subst c11
         have H1 : ((corncribbook_SameWrites.f k l0_8 l1_8).bind fun t241 => (some t241)) = some r := by rw [if_pos rfl] at H; exact H
         clear H
         have H := H1
         clear H1
         replace H := Option.bind_eq_some_iff.mp H
         obtain ⟨t241, A120, H⟩ := H
         replace H : (some t241) = some r := H
         have A12 := Aside0.mk A120
         clear A120
         obtain rfl := Option.some.inj H
         go_enter Try.func13, Try.ntmps13
         go_wp2_with (first | ((with_reducible refine gate_dst (N := 2) rfl ?_); refine box_event ?hg (N := 2) ?hd (cs := #[.int .i64 a0_0, .int .i64 a0_1, .int .i64 a0_2, .int .i64 a0_3, .string a0_4, .string a0_5, .bool a0_6, .slice A0_7 l0_7.length c0_7, .slice A0_8 l0_8.length c0_8]) (t := 25) ?hr ?_; (case hd => rfl); (case hg => rfl); (case hr => first | (go_simp; done) | (go_simp; rfl)); intro gb238 hg w13 hbox hb; have n0_ := Aside0.mk (below_step (by repeat (first | (with_reducible first | exact HB.out | apply below_alloc | apply pw_below_drewN | apply below_drew1) | exact HB.out)) hb); have n1_ := Aside0.mk (hbox); have n2_ := Aside0.mk ((by rw [hg]; exact (below_size (by repeat (first | (with_reducible first | exact HB.out | apply below_alloc | apply pw_below_drewN | apply below_drew1) | exact HB.out))) : w.heap.size ≤ gb238)); have n3_ := Aside0.mk ((by rw [hg]; exact (below_size (by repeat (first | (with_reducible first | exact HB.out | apply below_alloc | apply pw_below_drewN | apply below_drew1) | exact HB.out))) : w.heap.size ≤ gb238)); clear HB; have HB := n0_; have BK238 := n1_; have GW238 := n2_; have GE238 := n3_; clear n0_ n1_ n2_ n3_; clear hb hbox hg) | ((with_reducible refine gate_dst (N := 3) rfl ?_); refine box_event ?hg (N := 3) ?hd (cs := #[.int .i64 a1_0, .int .i64 a1_1, .int .i64 a1_2, .int .i64 a1_3, .string a1_4, .string a1_5, .bool a1_6, .slice A1_7 l1_7.length c1_7, .slice A1_8 l1_8.length c1_8]) (t := 25) ?hr ?_; (case hd => rfl); (case hg => rfl); (case hr => first | (go_simp; done) | (go_simp; rfl)); intro gb239 hg w14 hbox hb; have n0_ := Aside0.mk (blk_below (g := gb238) (o := .cells #[.int .i64 a0_0, .int .i64 a0_1, .int .i64 a0_2, .int .i64 a0_3, .string a0_4, .string a0_5, .bool a0_6, .slice A0_7 l0_7.length c0_7, .slice A0_8 l0_8.length c0_8] 25 (0, 0)) (by (with_reducible repeat (first | refine blk_drewN ?_ _ | refine blk_drew ?_ | refine blk_alloc ?_ _)); exact BK238.out) hb); have n1_ := Aside0.mk (below_step (by repeat (first | (with_reducible first | exact HB.out | apply below_alloc | apply pw_below_drewN | apply below_drew1 | refine below_set ?_ GE238.out) | exact HB.out)) hb); have n2_ := Aside0.mk (hbox); have n3_ := Aside0.mk ((by rw [hg]; exact (below_size (by repeat (first | (with_reducible first | exact HB.out | apply below_alloc | apply pw_below_drewN | apply below_drew1 | refine below_set ?_ GE238.out) | exact HB.out))) : w.heap.size ≤ gb239)); have n4_ := Aside0.mk ((by rw [hg]; exact (below_size (by repeat (first | (with_reducible first | exact HB.out | apply below_alloc | apply pw_below_drewN | apply below_drew1 | refine below_set ?_ GE238.out) | exact HB.out))) : w.heap.size ≤ gb239)); have n5_ := Aside0.mk ((by rw [hg]; exact Nat.ne_of_lt (blk_lt (g := gb238) (o := .cells #[.int .i64 a0_0, .int .i64 a0_1, .int .i64 a0_2, .int .i64 a0_3, .string a0_4, .string a0_5, .bool a0_6, .slice A0_7 l0_7.length c0_7, .slice A0_8 l0_8.length c0_8] 25 (0, 0)) (by (with_reducible repeat (first | refine blk_drewN ?_ _ | refine blk_drew ?_ | refine blk_alloc ?_ _)); exact BK238.out)) : gb238 ≠ gb239)); have n6_ := Aside0.mk ((by rw [hg]; exact Nat.ne_of_gt (blk_lt (g := gb238) (o := .cells #[.int .i64 a0_0, .int .i64 a0_1, .int .i64 a0_2, .int .i64 a0_3, .string a0_4, .string a0_5, .bool a0_6, .slice A0_7 l0_7.length c0_7, .slice A0_8 l0_8.length c0_8] 25 (0, 0)) (by (with_reducible repeat (first | refine blk_drewN ?_ _ | refine blk_drew ?_ | refine blk_alloc ?_ _)); exact BK238.out)) : gb239 ≠ gb238)); clear BK238; clear HB; have BK238 := n0_; have HB := n1_; have BK239 := n2_; have GW239 := n3_; have GE239 := n4_; have NB238_239 := n5_; have NB239_238 := n6_; clear n0_ n1_ n2_ n3_ n4_ n5_ n6_; clear hb hbox hg; have hnb15 := NB238_239.out; have hnc15 := NB239_238.out; have hcz16_0 : w14.cell? ⟨gb238, 0, none⟩ = some (.int .i64 a0_0) := (blk_cell BK238.out 0).trans rfl; have hcz16_1 : w14.cell? ⟨gb238, 1, none⟩ = some (.int .i64 a0_1) := (blk_cell BK238.out 1).trans rfl; have hcz16_2 : w14.cell? ⟨gb238, 2, none⟩ = some (.int .i64 a0_2) := (blk_cell BK238.out 2).trans rfl; have hcz16_3 : w14.cell? ⟨gb238, 3, none⟩ = some (.int .i64 a0_3) := (blk_cell BK238.out 3).trans rfl; have hcz16_4 : w14.cell? ⟨gb238, 4, none⟩ = some (.string a0_4) := (blk_cell BK238.out 4).trans rfl; have hcz16_5 : w14.cell? ⟨gb238, 5, none⟩ = some (.string a0_5) := (blk_cell BK238.out 5).trans rfl; have hcz16_6 : w14.cell? ⟨gb238, 6, none⟩ = some (.bool a0_6) := (blk_cell BK238.out 6).trans rfl; have hcz16_7 : w14.cell? ⟨gb238, 7, none⟩ = some (.slice A0_7 l0_7.length c0_7) := (blk_cell BK238.out 7).trans rfl; have hcz16_8 : w14.cell? ⟨gb238, 8, none⟩ = some (.slice A0_8 l0_8.length c0_8) := (blk_cell BK238.out 8).trans rfl; have hfz16_0 := blk_frozen BK238.out 0; have hfz16_1 := blk_frozen BK238.out 1; have hfz16_2 := blk_frozen BK238.out 2; have hfz16_3 := blk_frozen BK238.out 3; have hfz16_4 := blk_frozen BK238.out 4; have hfz16_5 := blk_frozen BK238.out 5; have hfz16_6 := blk_frozen BK238.out 6; have hfz16_7 := blk_frozen BK238.out 7; have hfz16_8 := blk_frozen BK238.out 8; have hcz17_0 : w14.cell? ⟨gb239, 0, none⟩ = some (.int .i64 a1_0) := (blk_cell BK239.out 0).trans rfl; have hcz17_1 : w14.cell? ⟨gb239, 1, none⟩ = some (.int .i64 a1_1) := (blk_cell BK239.out 1).trans rfl; have hcz17_2 : w14.cell? ⟨gb239, 2, none⟩ = some (.int .i64 a1_2) := (blk_cell BK239.out 2).trans rfl; have hcz17_3 : w14.cell? ⟨gb239, 3, none⟩ = some (.int .i64 a1_3) := (blk_cell BK239.out 3).trans rfl; have hcz17_4 : w14.cell? ⟨gb239, 4, none⟩ = some (.string a1_4) := (blk_cell BK239.out 4).trans rfl; have hcz17_5 : w14.cell? ⟨gb239, 5, none⟩ = some (.string a1_5) := (blk_cell BK239.out 5).trans rfl; have hcz17_6 : w14.cell? ⟨gb239, 6, none⟩ = some (.bool a1_6) := (blk_cell BK239.out 6).trans rfl; have hcz17_7 : w14.cell? ⟨gb239, 7, none⟩ = some (.slice A1_7 l1_7.length c1_7) := (blk_cell BK239.out 7).trans rfl; have hcz17_8 : w14.cell? ⟨gb239, 8, none⟩ = some (.slice A1_8 l1_8.length c1_8) := (blk_cell BK239.out 8).trans rfl; have hfz17_0 := blk_frozen BK239.out 0; have hfz17_1 := blk_frozen BK239.out 1; have hfz17_2 := blk_frozen BK239.out 2; have hfz17_3 := blk_frozen BK239.out 3; have hfz17_4 := blk_frozen BK239.out 4; have hfz17_5 := blk_frozen BK239.out 5; have hfz17_6 := blk_frozen BK239.out 6; have hfz17_7 := blk_frozen BK239.out 7; have hfz17_8 := blk_frozen BK239.out 8) | (go_at_call 31; (with_reducible refine (corncribbook_SameTexts.calls k _ _ l0_7 _ _ l1_7 true _ ?side1 ?side2 ?side3 ?side4 A10.out).mono ?_); (case side1 => repeat (first | exact (Kd.C_below HR0_7.out HB.out) | (with_reducible refine Kd.C_alloc ?_ _) | (with_reducible refine Kd.C_drewN ?_ _) | (with_reducible refine Kd.C_drew ?_))); (case side2 => exact HC0_7.out); (case side3 => repeat (first | exact (Kd.C_below HR1_7.out HB.out) | (with_reducible refine Kd.C_alloc ?_ _) | (with_reducible refine Kd.C_drewN ?_ _) | (with_reducible refine Kd.C_drew ?_))); (case side4 => exact HC1_7.out); rintro e w' ⟨rfl, ⟨nd, rfl⟩⟩) | (go_at_call 32; (with_reducible refine (corncribbook_SameWrites.calls k _ _ l0_8 _ _ l1_8 t241 _ ?side1 ?side2 ?side3 ?side4 A12.out).mono ?_); (case side1 => repeat (first | exact (Kd.C_below HR0_8.out (by repeat (first | (with_reducible first | exact HB.out | apply below_alloc | apply pw_below_drewN | apply below_drew1 | refine below_set ?_ GE238.out | refine below_set ?_ GE239.out) | exact HB.out))) | (with_reducible refine Kd.C_alloc ?_ _) | (with_reducible refine Kd.C_drewN ?_ _) | (with_reducible refine Kd.C_drew ?_))); (case side2 => exact HC0_8.out); (case side3 => repeat (first | exact (Kd.C_below HR1_8.out (by repeat (first | (with_reducible first | exact HB.out | apply below_alloc | apply pw_below_drewN | apply below_drew1 | refine below_set ?_ GE238.out | refine below_set ?_ GE239.out) | exact HB.out))) | (with_reducible refine Kd.C_alloc ?_ _) | (with_reducible refine Kd.C_drewN ?_ _) | (with_reducible refine Kd.C_drew ?_))); (case side4 => exact HC1_8.out); rintro e w' ⟨rfl, ⟨nd, rfl⟩⟩))
         go_ret
         exact ⟨by first | rfl | (simp [errW_none, errW_some] <;> rfl) | (simp [*, errW_none, errW_some] <;> rfl), by repeat (first | (with_reducible first | exact HB.out | apply below_alloc | apply pw_below_drewN | apply below_drew1 | refine below_set ?_ GE238.out | refine below_set ?_ GE239.out) | exact HB.out)⟩
        ·replace c11 := Bool.eq_false_iff.mpr c11
         subst c11
         have H1 : (some false) = some r := by rw [if_neg (show ¬ (false = true) by decide)] at H; exact H
         clear H
         have H := H1
         clear H1
         obtain rfl := Option.some.inj H
         go_enter Try.func13, Try.ntmps13
         go_wp2_with (first | ((with_reducible refine gate_dst (N := 2) rfl ?_); refine box_event ?hg (N := 2) ?hd (cs := #[.int .i64 a0_0, .int .i64 a0_1, .int .i64 a0_2, .int .i64 a0_3, .string a0_4, .string a0_5, .bool a0_6, .slice A0_7 l0_7.length c0_7, .slice A0_8 l0_8.length c0_8]) (t := 25) ?hr ?_; (case hd => rfl); (case hg => rfl); (case hr => first | (go_simp; done) | (go_simp; rfl)); intro gb238 hg w18 hbox hb; have n0_ := Aside0.mk (below_step (by repeat (first | (with_reducible first | exact HB.out | apply below_alloc | apply pw_below_drewN | apply below_drew1) | exact HB.out)) hb); have n1_ := Aside0.mk (hbox); have n2_ := Aside0.mk ((by rw [hg]; exact (below_size (by repeat (first | (with_reducible first | exact HB.out | apply below_alloc | apply pw_below_drewN | apply below_drew1) | exact HB.out))) : w.heap.size ≤ gb238)); have n3_ := Aside0.mk ((by rw [hg]; exact (below_size (by repeat (first | (with_reducible first | exact HB.out | apply below_alloc | apply pw_below_drewN | apply below_drew1) | exact HB.out))) : w.heap.size ≤ gb238)); clear HB; have HB := n0_; have BK238 := n1_; have GW238 := n2_; have GE238 := n3_; clear n0_ n1_ n2_ n3_; clear hb hbox hg) | ((with_reducible refine gate_dst (N := 3) rfl ?_); refine box_event ?hg (N := 3) ?hd (cs := #[.int .i64 a1_0, .int .i64 a1_1, .int .i64 a1_2, .int .i64 a1_3, .string a1_4, .string a1_5, .bool a1_6, .slice A1_7 l1_7.length c1_7, .slice A1_8 l1_8.length c1_8]) (t := 25) ?hr ?_; (case hd => rfl); (case hg => rfl); (case hr => first | (go_simp; done) | (go_simp; rfl)); intro gb239 hg w19 hbox hb; have n0_ := Aside0.mk (blk_below (g := gb238) (o := .cells #[.int .i64 a0_0, .int .i64 a0_1, .int .i64 a0_2, .int .i64 a0_3, .string a0_4, .string a0_5, .bool a0_6, .slice A0_7 l0_7.length c0_7, .slice A0_8 l0_8.length c0_8] 25 (0, 0)) (by (with_reducible repeat (first | refine blk_drewN ?_ _ | refine blk_drew ?_ | refine blk_alloc ?_ _)); exact BK238.out) hb); have n1_ := Aside0.mk (below_step (by repeat (first | (with_reducible first | exact HB.out | apply below_alloc | apply pw_below_drewN | apply below_drew1 | refine below_set ?_ GE238.out) | exact HB.out)) hb); have n2_ := Aside0.mk (hbox); have n3_ := Aside0.mk ((by rw [hg]; exact (below_size (by repeat (first | (with_reducible first | exact HB.out | apply below_alloc | apply pw_below_drewN | apply below_drew1 | refine below_set ?_ GE238.out) | exact HB.out))) : w.heap.size ≤ gb239)); have n4_ := Aside0.mk ((by rw [hg]; exact (below_size (by repeat (first | (with_reducible first | exact HB.out | apply below_alloc | apply pw_below_drewN | apply below_drew1 | refine below_set ?_ GE238.out) | exact HB.out))) : w.heap.size ≤ gb239)); have n5_ := Aside0.mk ((by rw [hg]; exact Nat.ne_of_lt (blk_lt (g := gb238) (o := .cells #[.int .i64 a0_0, .int .i64 a0_1, .int .i64 a0_2, .int .i64 a0_3, .string a0_4, .string a0_5, .bool a0_6, .slice A0_7 l0_7.length c0_7, .slice A0_8 l0_8.length c0_8] 25 (0, 0)) (by (with_reducible repeat (first | refine blk_drewN ?_ _ | refine blk_drew ?_ | refine blk_alloc ?_ _)); exact BK238.out)) : gb238 ≠ gb239)); have n6_ := Aside0.mk ((by rw [hg]; exact Nat.ne_of_gt (blk_lt (g := gb238) (o := .cells #[.int .i64 a0_0, .int .i64 a0_1, .int .i64 a0_2, .int .i64 a0_3, .string a0_4, .string a0_5, .bool a0_6, .slice A0_7 l0_7.length c0_7, .slice A0_8 l0_8.length c0_8] 25 (0, 0)) (by (with_reducible repeat (first | refine blk_drewN ?_ _ | refine blk_drew ?_ | refine blk_alloc ?_ _)); exact BK238.out)) : gb239 ≠ gb238)); clear BK238; clear HB; have BK238 := n0_; have HB := n1_; have BK239 := n2_; have GW239 := n3_; have GE239 := n4_; have NB238_239 := n5_; have NB239_238 := n6_; clear n0_ n1_ n2_ n3_ n4_ n5_ n6_; clear hb hbox hg; have hnb20 := NB238_239.out; have hnc20 := NB239_238.out; have hcz21_0 : w19.cell? ⟨gb238, 0, none⟩ = some (.int .i64 a0_0) := (blk_cell BK238.out 0).trans rfl; have hcz21_1 : w19.cell? ⟨gb238, 1, none⟩ = some (.int .i64 a0_1) := (blk_cell BK238.out 1).trans rfl; have hcz21_2 : w19.cell? ⟨gb238, 2, none⟩ = some (.int .i64 a0_2) := (blk_cell BK238.out 2).trans rfl; have hcz21_3 : w19.cell? ⟨gb238, 3, none⟩ = some (.int .i64 a0_3) := (blk_cell BK238.out 3).trans rfl; have hcz21_4 : w19.cell? ⟨gb238, 4, none⟩ = some (.string a0_4) := (blk_cell BK238.out 4).trans rfl; have hcz21_5 : w19.cell? ⟨gb238, 5, none⟩ = some (.string a0_5) := (blk_cell BK238.out 5).trans rfl; have hcz21_6 : w19.cell? ⟨gb238, 6, none⟩ = some (.bool a0_6) := (blk_cell BK238.out 6).trans rfl; have hcz21_7 : w19.cell? ⟨gb238, 7, none⟩ = some (.slice A0_7 l0_7.length c0_7) := (blk_cell BK238.out 7).trans rfl; have hcz21_8 : w19.cell? ⟨gb238, 8, none⟩ = some (.slice A0_8 l0_8.length c0_8) := (blk_cell BK238.out 8).trans rfl; have hfz21_0 := blk_frozen BK238.out 0; have hfz21_1 := blk_frozen BK238.out 1; have hfz21_2 := blk_frozen BK238.out 2; have hfz21_3 := blk_frozen BK238.out 3; have hfz21_4 := blk_frozen BK238.out 4; have hfz21_5 := blk_frozen BK238.out 5; have hfz21_6 := blk_frozen BK238.out 6; have hfz21_7 := blk_frozen BK238.out 7; have hfz21_8 := blk_frozen BK238.out 8; have hcz22_0 : w19.cell? ⟨gb239, 0, none⟩ = some (.int .i64 a1_0) := (blk_cell BK239.out 0).trans rfl; have hcz22_1 : w19.cell? ⟨gb239, 1, none⟩ = some (.int .i64 a1_1) := (blk_cell BK239.out 1).trans rfl; have hcz22_2 : w19.cell? ⟨gb239, 2, none⟩ = some (.int .i64 a1_2) := (blk_cell BK239.out 2).trans rfl; have hcz22_3 : w19.cell? ⟨gb239, 3, none⟩ = some (.int .i64 a1_3) := (blk_cell BK239.out 3).trans rfl; have hcz22_4 : w19.cell? ⟨gb239, 4, none⟩ = some (.string a1_4) := (blk_cell BK239.out 4).trans rfl; have hcz22_5 : w19.cell? ⟨gb239, 5, none⟩ = some (.string a1_5) := (blk_cell BK239.out 5).trans rfl; have hcz22_6 : w19.cell? ⟨gb239, 6, none⟩ = some (.bool a1_6) := (blk_cell BK239.out 6).trans rfl; have hcz22_7 : w19.cell? ⟨gb239, 7, none⟩ = some (.slice A1_7 l1_7.length c1_7) := (blk_cell BK239.out 7).trans rfl; have hcz22_8 : w19.cell? ⟨gb239, 8, none⟩ = some (.slice A1_8 l1_8.length c1_8) := (blk_cell BK239.out 8).trans rfl; have hfz22_0 := blk_frozen BK239.out 0; have hfz22_1 := blk_frozen BK239.out 1; have hfz22_2 := blk_frozen BK239.out 2; have hfz22_3 := blk_frozen BK239.out 3; have hfz22_4 := blk_frozen BK239.out 4; have hfz22_5 := blk_frozen BK239.out 5; have hfz22_6 := blk_frozen BK239.out 6; have hfz22_7 := blk_frozen BK239.out 7; have hfz22_8 := blk_frozen BK239.out 8) | (go_at_call 31; (with_reducible refine (corncribbook_SameTexts.calls k _ _ l0_7 _ _ l1_7 false _ ?side1 ?side2 ?side3 ?side4 A10.out).mono ?_); (case side1 => repeat (first | exact (Kd.C_below HR0_7.out HB.out) | (with_reducible refine Kd.C_alloc ?_ _) | (with_reducible refine Kd.C_drewN ?_ _) | (with_reducible refine Kd.C_drew ?_))); (case side2 => exact HC0_7.out); (case side3 => repeat (first | exact (Kd.C_below HR1_7.out HB.out) | (with_reducible refine Kd.C_alloc ?_ _) | (with_reducible refine Kd.C_drewN ?_ _) | (with_reducible refine Kd.C_drew ?_))); (case side4 => exact HC1_7.out); rintro e w' ⟨rfl, ⟨nd, rfl⟩⟩))
         go_ret
         exact ⟨by first | rfl | (simp [errW_none, errW_some] <;> rfl) | (simp [*, errW_none, errW_some] <;> rfl), by repeat (first | (with_reducible first | exact HB.out | apply below_alloc | apply pw_below_drewN | apply below_drew1 | refine below_set ?_ GE238.out | refine below_set ?_ GE239.out) | exact HB.out)⟩
       ·rw [if_neg c9] at H
        have c9b0 : (a0_6 == a1_6) = false := by simpa using c9
        (try (have c9b1 : decide (a0_6 = a1_6) = false := by simpa using c9))
        (try (have c9b2 : (a0_6 == a1_6) = false := by simpa using c9))
        (try (have c9b3 : ¬ (a0_6 = a1_6) := by simpa using c9))
        clear c9
        obtain rfl := Option.some.inj H
        go_enter Try.func13, Try.ntmps13
        go_wp2_with (first | ((with_reducible refine gate_dst (N := 2) rfl ?_); refine box_event ?hg (N := 2) ?hd (cs := #[.int .i64 a0_0, .int .i64 a0_1, .int .i64 a0_2, .int .i64 a0_3, .string a0_4, .string a0_5, .bool a0_6, .slice A0_7 l0_7.length c0_7, .slice A0_8 l0_8.length c0_8]) (t := 25) ?hr ?_; (case hd => rfl); (case hg => rfl); (case hr => first | (go_simp; done) | (go_simp; rfl)); intro gb238 hg w23 hbox hb; have n0_ := Aside0.mk (below_step (by repeat (first | (with_reducible first | exact HB.out | apply below_alloc | apply pw_below_drewN | apply below_drew1) | exact HB.out)) hb); have n1_ := Aside0.mk (hbox); have n2_ := Aside0.mk ((by rw [hg]; exact (below_size (by repeat (first | (with_reducible first | exact HB.out | apply below_alloc | apply pw_below_drewN | apply below_drew1) | exact HB.out))) : w.heap.size ≤ gb238)); have n3_ := Aside0.mk ((by rw [hg]; exact (below_size (by repeat (first | (with_reducible first | exact HB.out | apply below_alloc | apply pw_below_drewN | apply below_drew1) | exact HB.out))) : w.heap.size ≤ gb238)); clear HB; have HB := n0_; have BK238 := n1_; have GW238 := n2_; have GE238 := n3_; clear n0_ n1_ n2_ n3_; clear hb hbox hg) | ((with_reducible refine gate_dst (N := 3) rfl ?_); refine box_event ?hg (N := 3) ?hd (cs := #[.int .i64 a1_0, .int .i64 a1_1, .int .i64 a1_2, .int .i64 a1_3, .string a1_4, .string a1_5, .bool a1_6, .slice A1_7 l1_7.length c1_7, .slice A1_8 l1_8.length c1_8]) (t := 25) ?hr ?_; (case hd => rfl); (case hg => rfl); (case hr => first | (go_simp; done) | (go_simp; rfl)); intro gb239 hg w24 hbox hb; have n0_ := Aside0.mk (blk_below (g := gb238) (o := .cells #[.int .i64 a0_0, .int .i64 a0_1, .int .i64 a0_2, .int .i64 a0_3, .string a0_4, .string a0_5, .bool a0_6, .slice A0_7 l0_7.length c0_7, .slice A0_8 l0_8.length c0_8] 25 (0, 0)) (by (with_reducible repeat (first | refine blk_drewN ?_ _ | refine blk_drew ?_ | refine blk_alloc ?_ _)); exact BK238.out) hb); have n1_ := Aside0.mk (below_step (by repeat (first | (with_reducible first | exact HB.out | apply below_alloc | apply pw_below_drewN | apply below_drew1 | refine below_set ?_ GE238.out) | exact HB.out)) hb); have n2_ := Aside0.mk (hbox); have n3_ := Aside0.mk ((by rw [hg]; exact (below_size (by repeat (first | (with_reducible first | exact HB.out | apply below_alloc | apply pw_below_drewN | apply below_drew1 | refine below_set ?_ GE238.out) | exact HB.out))) : w.heap.size ≤ gb239)); have n4_ := Aside0.mk ((by rw [hg]; exact (below_size (by repeat (first | (with_reducible first | exact HB.out | apply below_alloc | apply pw_below_drewN | apply below_drew1 | refine below_set ?_ GE238.out) | exact HB.out))) : w.heap.size ≤ gb239)); have n5_ := Aside0.mk ((by rw [hg]; exact Nat.ne_of_lt (blk_lt (g := gb238) (o := .cells #[.int .i64 a0_0, .int .i64 a0_1, .int .i64 a0_2, .int .i64 a0_3, .string a0_4, .string a0_5, .bool a0_6, .slice A0_7 l0_7.length c0_7, .slice A0_8 l0_8.length c0_8] 25 (0, 0)) (by (with_reducible repeat (first | refine blk_drewN ?_ _ | refine blk_drew ?_ | refine blk_alloc ?_ _)); exact BK238.out)) : gb238 ≠ gb239)); have n6_ := Aside0.mk ((by rw [hg]; exact Nat.ne_of_gt (blk_lt (g := gb238) (o := .cells #[.int .i64 a0_0, .int .i64 a0_1, .int .i64 a0_2, .int .i64 a0_3, .string a0_4, .string a0_5, .bool a0_6, .slice A0_7 l0_7.length c0_7, .slice A0_8 l0_8.length c0_8] 25 (0, 0)) (by (with_reducible repeat (first | refine blk_drewN ?_ _ | refine blk_drew ?_ | refine blk_alloc ?_ _)); exact BK238.out)) : gb239 ≠ gb238)); clear BK238; clear HB; have BK238 := n0_; have HB := n1_; have BK239 := n2_; have GW239 := n3_; have GE239 := n4_; have NB238_239 := n5_; have NB239_238 := n6_; clear n0_ n1_ n2_ n3_ n4_ n5_ n6_; clear hb hbox hg; have hnb25 := NB238_239.out; have hnc25 := NB239_238.out; have hcz26_0 : w24.cell? ⟨gb238, 0, none⟩ = some (.int .i64 a0_0) := (blk_cell BK238.out 0).trans rfl; have hcz26_1 : w24.cell? ⟨gb238, 1, none⟩ = some (.int .i64 a0_1) := (blk_cell BK238.out 1).trans rfl; have hcz26_2 : w24.cell? ⟨gb238, 2, none⟩ = some (.int .i64 a0_2) := (blk_cell BK238.out 2).trans rfl; have hcz26_3 : w24.cell? ⟨gb238, 3, none⟩ = some (.int .i64 a0_3) := (blk_cell BK238.out 3).trans rfl; have hcz26_4 : w24.cell? ⟨gb238, 4, none⟩ = some (.string a0_4) := (blk_cell BK238.out 4).trans rfl; have hcz26_5 : w24.cell? ⟨gb238, 5, none⟩ = some (.string a0_5) := (blk_cell BK238.out 5).trans rfl; have hcz26_6 : w24.cell? ⟨gb238, 6, none⟩ = some (.bool a0_6) := (blk_cell BK238.out 6).trans rfl; have hcz26_7 : w24.cell? ⟨gb238, 7, none⟩ = some (.slice A0_7 l0_7.length c0_7) := (blk_cell BK238.out 7).trans rfl; have hcz26_8 : w24.cell? ⟨gb238, 8, none⟩ = some (.slice A0_8 l0_8.length c0_8) := (blk_cell BK238.out 8).trans rfl; have hfz26_0 := blk_frozen BK238.out 0; have hfz26_1 := blk_frozen BK238.out 1; have hfz26_2 := blk_frozen BK238.out 2; have hfz26_3 := blk_frozen BK238.out 3; have hfz26_4 := blk_frozen BK238.out 4; have hfz26_5 := blk_frozen BK238.out 5; have hfz26_6 := blk_frozen BK238.out 6; have hfz26_7 := blk_frozen BK238.out 7; have hfz26_8 := blk_frozen BK238.out 8; have hcz27_0 : w24.cell? ⟨gb239, 0, none⟩ = some (.int .i64 a1_0) := (blk_cell BK239.out 0).trans rfl; have hcz27_1 : w24.cell? ⟨gb239, 1, none⟩ = some (.int .i64 a1_1) := (blk_cell BK239.out 1).trans rfl; have hcz27_2 : w24.cell? ⟨gb239, 2, none⟩ = some (.int .i64 a1_2) := (blk_cell BK239.out 2).trans rfl; have hcz27_3 : w24.cell? ⟨gb239, 3, none⟩ = some (.int .i64 a1_3) := (blk_cell BK239.out 3).trans rfl; have hcz27_4 : w24.cell? ⟨gb239, 4, none⟩ = some (.string a1_4) := (blk_cell BK239.out 4).trans rfl; have hcz27_5 : w24.cell? ⟨gb239, 5, none⟩ = some (.string a1_5) := (blk_cell BK239.out 5).trans rfl; have hcz27_6 : w24.cell? ⟨gb239, 6, none⟩ = some (.bool a1_6) := (blk_cell BK239.out 6).trans rfl; have hcz27_7 : w24.cell? ⟨gb239, 7, none⟩ = some (.slice A1_7 l1_7.length c1_7) := (blk_cell BK239.out 7).trans rfl; have hcz27_8 : w24.cell? ⟨gb239, 8, none⟩ = some (.slice A1_8 l1_8.length c1_8) := (blk_cell BK239.out 8).trans rfl; have hfz27_0 := blk_frozen BK239.out 0; have hfz27_1 := blk_frozen BK239.out 1; have hfz27_2 := blk_frozen BK239.out 2; have hfz27_3 := blk_frozen BK239.out 3; have hfz27_4 := blk_frozen BK239.out 4; have hfz27_5 := blk_frozen BK239.out 5; have hfz27_6 := blk_frozen BK239.out 6; have hfz27_7 := blk_frozen BK239.out 7; have hfz27_8 := blk_frozen BK239.out 8))
        go_ret
        exact ⟨by first | rfl | (simp [errW_none, errW_some] <;> rfl) | (simp [*, errW_none, errW_some] <;> rfl), by repeat (first | (with_reducible first | exact HB.out | apply below_alloc | apply pw_below_drewN | apply below_drew1 | refine below_set ?_ GE238.out | refine below_set ?_ GE239.out) | exact HB.out)⟩
      ·rw [if_neg c8] at H
       have c8b0 : (a0_5.toList == a1_5.toList) = false := beq_eq_false_iff_ne.mpr c8
       have c8b1 : (a0_5.toList != a1_5.toList) = true := bne_iff_ne.mpr c8
       obtain rfl := Option.some.inj H
       go_enter Try.func13, Try.ntmps13
       go_wp2_with (first | ((with_reducible refine gate_dst (N := 2) rfl ?_); refine box_event ?hg (N := 2) ?hd (cs := #[.int .i64 a0_0, .int .i64 a0_1, .int .i64 a0_2, .int .i64 a0_3, .string a0_4, .string a0_5, .bool a0_6, .slice A0_7 l0_7.length c0_7, .slice A0_8 l0_8.length c0_8]) (t := 25) ?hr ?_; (case hd => rfl); (case hg => rfl); (case hr => first | (go_simp; done) | (go_simp; rfl)); intro gb238 hg w28 hbox hb; have n0_ := Aside0.mk (below_step (by repeat (first | (with_reducible first | exact HB.out | apply below_alloc | apply pw_below_drewN | apply below_drew1) | exact HB.out)) hb); have n1_ := Aside0.mk (hbox); have n2_ := Aside0.mk ((by rw [hg]; exact (below_size (by repeat (first | (with_reducible first | exact HB.out | apply below_alloc | apply pw_below_drewN | apply below_drew1) | exact HB.out))) : w.heap.size ≤ gb238)); have n3_ := Aside0.mk ((by rw [hg]; exact (below_size (by repeat (first | (with_reducible first | exact HB.out | apply below_alloc | apply pw_below_drewN | apply below_drew1) | exact HB.out))) : w.heap.size ≤ gb238)); clear HB; have HB := n0_; have BK238 := n1_; have GW238 := n2_; have GE238 := n3_; clear n0_ n1_ n2_ n3_; clear hb hbox hg) | ((with_reducible refine gate_dst (N := 3) rfl ?_); refine box_event ?hg (N := 3) ?hd (cs := #[.int .i64 a1_0, .int .i64 a1_1, .int .i64 a1_2, .int .i64 a1_3, .string a1_4, .string a1_5, .bool a1_6, .slice A1_7 l1_7.length c1_7, .slice A1_8 l1_8.length c1_8]) (t := 25) ?hr ?_; (case hd => rfl); (case hg => rfl); (case hr => first | (go_simp; done) | (go_simp; rfl)); intro gb239 hg w29 hbox hb; have n0_ := Aside0.mk (blk_below (g := gb238) (o := .cells #[.int .i64 a0_0, .int .i64 a0_1, .int .i64 a0_2, .int .i64 a0_3, .string a0_4, .string a0_5, .bool a0_6, .slice A0_7 l0_7.length c0_7, .slice A0_8 l0_8.length c0_8] 25 (0, 0)) (by (with_reducible repeat (first | refine blk_drewN ?_ _ | refine blk_drew ?_ | refine blk_alloc ?_ _)); exact BK238.out) hb); have n1_ := Aside0.mk (below_step (by repeat (first | (with_reducible first | exact HB.out | apply below_alloc | apply pw_below_drewN | apply below_drew1 | refine below_set ?_ GE238.out) | exact HB.out)) hb); have n2_ := Aside0.mk (hbox); have n3_ := Aside0.mk ((by rw [hg]; exact (below_size (by repeat (first | (with_reducible first | exact HB.out | apply below_alloc | apply pw_below_drewN | apply below_drew1 | refine below_set ?_ GE238.out) | exact HB.out))) : w.heap.size ≤ gb239)); have n4_ := Aside0.mk ((by rw [hg]; exact (below_size (by repeat (first | (with_reducible first | exact HB.out | apply below_alloc | apply pw_below_drewN | apply below_drew1 | refine below_set ?_ GE238.out) | exact HB.out))) : w.heap.size ≤ gb239)); have n5_ := Aside0.mk ((by rw [hg]; exact Nat.ne_of_lt (blk_lt (g := gb238) (o := .cells #[.int .i64 a0_0, .int .i64 a0_1, .int .i64 a0_2, .int .i64 a0_3, .string a0_4, .string a0_5, .bool a0_6, .slice A0_7 l0_7.length c0_7, .slice A0_8 l0_8.length c0_8] 25 (0, 0)) (by (with_reducible repeat (first | refine blk_drewN ?_ _ | refine blk_drew ?_ | refine blk_alloc ?_ _)); exact BK238.out)) : gb238 ≠ gb239)); have n6_ := Aside0.mk ((by rw [hg]; exact Nat.ne_of_gt (blk_lt (g := gb238) (o := .cells #[.int .i64 a0_0, .int .i64 a0_1, .int .i64 a0_2, .int .i64 a0_3, .string a0_4, .string a0_5, .bool a0_6, .slice A0_7 l0_7.length c0_7, .slice A0_8 l0_8.length c0_8] 25 (0, 0)) (by (with_reducible repeat (first | refine blk_drewN ?_ _ | refine blk_drew ?_ | refine blk_alloc ?_ _)); exact BK238.out)) : gb239 ≠ gb238)); clear BK238; clear HB; have BK238 := n0_; have HB := n1_; have BK239 := n2_; have GW239 := n3_; have GE239 := n4_; have NB238_239 := n5_; have NB239_238 := n6_; clear n0_ n1_ n2_ n3_ n4_ n5_ n6_; clear hb hbox hg; have hnb30 := NB238_239.out; have hnc30 := NB239_238.out; have hcz31_0 : w29.cell? ⟨gb238, 0, none⟩ = some (.int .i64 a0_0) := (blk_cell BK238.out 0).trans rfl; have hcz31_1 : w29.cell? ⟨gb238, 1, none⟩ = some (.int .i64 a0_1) := (blk_cell BK238.out 1).trans rfl; have hcz31_2 : w29.cell? ⟨gb238, 2, none⟩ = some (.int .i64 a0_2) := (blk_cell BK238.out 2).trans rfl; have hcz31_3 : w29.cell? ⟨gb238, 3, none⟩ = some (.int .i64 a0_3) := (blk_cell BK238.out 3).trans rfl; have hcz31_4 : w29.cell? ⟨gb238, 4, none⟩ = some (.string a0_4) := (blk_cell BK238.out 4).trans rfl; have hcz31_5 : w29.cell? ⟨gb238, 5, none⟩ = some (.string a0_5) := (blk_cell BK238.out 5).trans rfl; have hcz31_6 : w29.cell? ⟨gb238, 6, none⟩ = some (.bool a0_6) := (blk_cell BK238.out 6).trans rfl; have hcz31_7 : w29.cell? ⟨gb238, 7, none⟩ = some (.slice A0_7 l0_7.length c0_7) := (blk_cell BK238.out 7).trans rfl; have hcz31_8 : w29.cell? ⟨gb238, 8, none⟩ = some (.slice A0_8 l0_8.length c0_8) := (blk_cell BK238.out 8).trans rfl; have hfz31_0 := blk_frozen BK238.out 0; have hfz31_1 := blk_frozen BK238.out 1; have hfz31_2 := blk_frozen BK238.out 2; have hfz31_3 := blk_frozen BK238.out 3; have hfz31_4 := blk_frozen BK238.out 4; have hfz31_5 := blk_frozen BK238.out 5; have hfz31_6 := blk_frozen BK238.out 6; have hfz31_7 := blk_frozen BK238.out 7; have hfz31_8 := blk_frozen BK238.out 8; have hcz32_0 : w29.cell? ⟨gb239, 0, none⟩ = some (.int .i64 a1_0) := (blk_cell BK239.out 0).trans rfl; have hcz32_1 : w29.cell? ⟨gb239, 1, none⟩ = some (.int .i64 a1_1) := (blk_cell BK239.out 1).trans rfl; have hcz32_2 : w29.cell? ⟨gb239, 2, none⟩ = some (.int .i64 a1_2) := (blk_cell BK239.out 2).trans rfl; have hcz32_3 : w29.cell? ⟨gb239, 3, none⟩ = some (.int .i64 a1_3) := (blk_cell BK239.out 3).trans rfl; have hcz32_4 : w29.cell? ⟨gb239, 4, none⟩ = some (.string a1_4) := (blk_cell BK239.out 4).trans rfl; have hcz32_5 : w29.cell? ⟨gb239, 5, none⟩ = some (.string a1_5) := (blk_cell BK239.out 5).trans rfl; have hcz32_6 : w29.cell? ⟨gb239, 6, none⟩ = some (.bool a1_6) := (blk_cell BK239.out 6).trans rfl; have hcz32_7 : w29.cell? ⟨gb239, 7, none⟩ = some (.slice A1_7 l1_7.length c1_7) := (blk_cell BK239.out 7).trans rfl; have hcz32_8 : w29.cell? ⟨gb239, 8, none⟩ = some (.slice A1_8 l1_8.length c1_8) := (blk_cell BK239.out 8).trans rfl; have hfz32_0 := blk_frozen BK239.out 0; have hfz32_1 := blk_frozen BK239.out 1; have hfz32_2 := blk_frozen BK239.out 2; have hfz32_3 := blk_frozen BK239.out 3; have hfz32_4 := blk_frozen BK239.out 4; have hfz32_5 := blk_frozen BK239.out 5; have hfz32_6 := blk_frozen BK239.out 6; have hfz32_7 := blk_frozen BK239.out 7; have hfz32_8 := blk_frozen BK239.out 8))
       go_ret
       exact ⟨by first | rfl | (simp [errW_none, errW_some] <;> rfl) | (simp [*, errW_none, errW_some] <;> rfl), by repeat (first | (with_reducible first | exact HB.out | apply below_alloc | apply pw_below_drewN | apply below_drew1 | refine below_set ?_ GE238.out | refine below_set ?_ GE239.out) | exact HB.out)⟩
     ·rw [if_neg c7] at H
      have c7b0 : (a0_4.toList == a1_4.toList) = false := beq_eq_false_iff_ne.mpr c7
      have c7b1 : (a0_4.toList != a1_4.toList) = true := bne_iff_ne.mpr c7
      obtain rfl := Option.some.inj H
      go_enter Try.func13, Try.ntmps13
      go_wp2_with (first | ((with_reducible refine gate_dst (N := 2) rfl ?_); refine box_event ?hg (N := 2) ?hd (cs := #[.int .i64 a0_0, .int .i64 a0_1, .int .i64 a0_2, .int .i64 a0_3, .string a0_4, .string a0_5, .bool a0_6, .slice A0_7 l0_7.length c0_7, .slice A0_8 l0_8.length c0_8]) (t := 25) ?hr ?_; (case hd => rfl); (case hg => rfl); (case hr => first | (go_simp; done) | (go_simp; rfl)); intro gb238 hg w33 hbox hb; have n0_ := Aside0.mk (below_step (by repeat (first | (with_reducible first | exact HB.out | apply below_alloc | apply pw_below_drewN | apply below_drew1) | exact HB.out)) hb); have n1_ := Aside0.mk (hbox); have n2_ := Aside0.mk ((by rw [hg]; exact (below_size (by repeat (first | (with_reducible first | exact HB.out | apply below_alloc | apply pw_below_drewN | apply below_drew1) | exact HB.out))) : w.heap.size ≤ gb238)); have n3_ := Aside0.mk ((by rw [hg]; exact (below_size (by repeat (first | (with_reducible first | exact HB.out | apply below_alloc | apply pw_below_drewN | apply below_drew1) | exact HB.out))) : w.heap.size ≤ gb238)); clear HB; have HB := n0_; have BK238 := n1_; have GW238 := n2_; have GE238 := n3_; clear n0_ n1_ n2_ n3_; clear hb hbox hg) | ((with_reducible refine gate_dst (N := 3) rfl ?_); refine box_event ?hg (N := 3) ?hd (cs := #[.int .i64 a1_0, .int .i64 a1_1, .int .i64 a1_2, .int .i64 a1_3, .string a1_4, .string a1_5, .bool a1_6, .slice A1_7 l1_7.length c1_7, .slice A1_8 l1_8.length c1_8]) (t := 25) ?hr ?_; (case hd => rfl); (case hg => rfl); (case hr => first | (go_simp; done) | (go_simp; rfl)); intro gb239 hg w34 hbox hb; have n0_ := Aside0.mk (blk_below (g := gb238) (o := .cells #[.int .i64 a0_0, .int .i64 a0_1, .int .i64 a0_2, .int .i64 a0_3, .string a0_4, .string a0_5, .bool a0_6, .slice A0_7 l0_7.length c0_7, .slice A0_8 l0_8.length c0_8] 25 (0, 0)) (by (with_reducible repeat (first | refine blk_drewN ?_ _ | refine blk_drew ?_ | refine blk_alloc ?_ _)); exact BK238.out) hb); have n1_ := Aside0.mk (below_step (by repeat (first | (with_reducible first | exact HB.out | apply below_alloc | apply pw_below_drewN | apply below_drew1 | refine below_set ?_ GE238.out) | exact HB.out)) hb); have n2_ := Aside0.mk (hbox); have n3_ := Aside0.mk ((by rw [hg]; exact (below_size (by repeat (first | (with_reducible first | exact HB.out | apply below_alloc | apply pw_below_drewN | apply below_drew1 | refine below_set ?_ GE238.out) | exact HB.out))) : w.heap.size ≤ gb239)); have n4_ := Aside0.mk ((by rw [hg]; exact (below_size (by repeat (first | (with_reducible first | exact HB.out | apply below_alloc | apply pw_below_drewN | apply below_drew1 | refine below_set ?_ GE238.out) | exact HB.out))) : w.heap.size ≤ gb239)); have n5_ := Aside0.mk ((by rw [hg]; exact Nat.ne_of_lt (blk_lt (g := gb238) (o := .cells #[.int .i64 a0_0, .int .i64 a0_1, .int .i64 a0_2, .int .i64 a0_3, .string a0_4, .string a0_5, .bool a0_6, .slice A0_7 l0_7.length c0_7, .slice A0_8 l0_8.length c0_8] 25 (0, 0)) (by (with_reducible repeat (first | refine blk_drewN ?_ _ | refine blk_drew ?_ | refine blk_alloc ?_ _)); exact BK238.out)) : gb238 ≠ gb239)); have n6_ := Aside0.mk ((by rw [hg]; exact Nat.ne_of_gt (blk_lt (g := gb238) (o := .cells #[.int .i64 a0_0, .int .i64 a0_1, .int .i64 a0_2, .int .i64 a0_3, .string a0_4, .string a0_5, .bool a0_6, .slice A0_7 l0_7.length c0_7, .slice A0_8 l0_8.length c0_8] 25 (0, 0)) (by (with_reducible repeat (first | refine blk_drewN ?_ _ | refine blk_drew ?_ | refine blk_alloc ?_ _)); exact BK238.out)) : gb239 ≠ gb238)); clear BK238; clear HB; have BK238 := n0_; have HB := n1_; have BK239 := n2_; have GW239 := n3_; have GE239 := n4_; have NB238_239 := n5_; have NB239_238 := n6_; clear n0_ n1_ n2_ n3_ n4_ n5_ n6_; clear hb hbox hg; have hnb35 := NB238_239.out; have hnc35 := NB239_238.out; have hcz36_0 : w34.cell? ⟨gb238, 0, none⟩ = some (.int .i64 a0_0) := (blk_cell BK238.out 0).trans rfl; have hcz36_1 : w34.cell? ⟨gb238, 1, none⟩ = some (.int .i64 a0_1) := (blk_cell BK238.out 1).trans rfl; have hcz36_2 : w34.cell? ⟨gb238, 2, none⟩ = some (.int .i64 a0_2) := (blk_cell BK238.out 2).trans rfl; have hcz36_3 : w34.cell? ⟨gb238, 3, none⟩ = some (.int .i64 a0_3) := (blk_cell BK238.out 3).trans rfl; have hcz36_4 : w34.cell? ⟨gb238, 4, none⟩ = some (.string a0_4) := (blk_cell BK238.out 4).trans rfl; have hcz36_5 : w34.cell? ⟨gb238, 5, none⟩ = some (.string a0_5) := (blk_cell BK238.out 5).trans rfl; have hcz36_6 : w34.cell? ⟨gb238, 6, none⟩ = some (.bool a0_6) := (blk_cell BK238.out 6).trans rfl; have hcz36_7 : w34.cell? ⟨gb238, 7, none⟩ = some (.slice A0_7 l0_7.length c0_7) := (blk_cell BK238.out 7).trans rfl; have hcz36_8 : w34.cell? ⟨gb238, 8, none⟩ = some (.slice A0_8 l0_8.length c0_8) := (blk_cell BK238.out 8).trans rfl; have hfz36_0 := blk_frozen BK238.out 0; have hfz36_1 := blk_frozen BK238.out 1; have hfz36_2 := blk_frozen BK238.out 2; have hfz36_3 := blk_frozen BK238.out 3; have hfz36_4 := blk_frozen BK238.out 4; have hfz36_5 := blk_frozen BK238.out 5; have hfz36_6 := blk_frozen BK238.out 6; have hfz36_7 := blk_frozen BK238.out 7; have hfz36_8 := blk_frozen BK238.out 8; have hcz37_0 : w34.cell? ⟨gb239, 0, none⟩ = some (.int .i64 a1_0) := (blk_cell BK239.out 0).trans rfl; have hcz37_1 : w34.cell? ⟨gb239, 1, none⟩ = some (.int .i64 a1_1) := (blk_cell BK239.out 1).trans rfl; have hcz37_2 : w34.cell? ⟨gb239, 2, none⟩ = some (.int .i64 a1_2) := (blk_cell BK239.out 2).trans rfl; have hcz37_3 : w34.cell? ⟨gb239, 3, none⟩ = some (.int .i64 a1_3) := (blk_cell BK239.out 3).trans rfl; have hcz37_4 : w34.cell? ⟨gb239, 4, none⟩ = some (.string a1_4) := (blk_cell BK239.out 4).trans rfl; have hcz37_5 : w34.cell? ⟨gb239, 5, none⟩ = some (.string a1_5) := (blk_cell BK239.out 5).trans rfl; have hcz37_6 : w34.cell? ⟨gb239, 6, none⟩ = some (.bool a1_6) := (blk_cell BK239.out 6).trans rfl; have hcz37_7 : w34.cell? ⟨gb239, 7, none⟩ = some (.slice A1_7 l1_7.length c1_7) := (blk_cell BK239.out 7).trans rfl; have hcz37_8 : w34.cell? ⟨gb239, 8, none⟩ = some (.slice A1_8 l1_8.length c1_8) := (blk_cell BK239.out 8).trans rfl; have hfz37_0 := blk_frozen BK239.out 0; have hfz37_1 := blk_frozen BK239.out 1; have hfz37_2 := blk_frozen BK239.out 2; have hfz37_3 := blk_frozen BK239.out 3; have hfz37_4 := blk_frozen BK239.out 4; have hfz37_5 := blk_frozen BK239.out 5; have hfz37_6 := blk_frozen BK239.out 6; have hfz37_7 := blk_frozen BK239.out 7; have hfz37_8 := blk_frozen BK239.out 8))
      go_ret
      exact ⟨by first | rfl | (simp [errW_none, errW_some] <;> rfl) | (simp [*, errW_none, errW_some] <;> rfl), by repeat (first | (with_reducible first | exact HB.out | apply below_alloc | apply pw_below_drewN | apply below_drew1 | refine below_set ?_ GE238.out | refine below_set ?_ GE239.out) | exact HB.out)⟩
    ·rw [if_neg c6] at H
     have c6b0 : (a0_3 == a1_3) = false := beq_eq_false_iff_ne.mpr c6
     have c6b1 : (a0_3 != a1_3) = true := bne_iff_ne.mpr c6
     obtain rfl := Option.some.inj H
     go_enter Try.func13, Try.ntmps13
     go_wp2_with (first | ((with_reducible refine gate_dst (N := 2) rfl ?_); refine box_event ?hg (N := 2) ?hd (cs := #[.int .i64 a0_0, .int .i64 a0_1, .int .i64 a0_2, .int .i64 a0_3, .string a0_4, .string a0_5, .bool a0_6, .slice A0_7 l0_7.length c0_7, .slice A0_8 l0_8.length c0_8]) (t := 25) ?hr ?_; (case hd => rfl); (case hg => rfl); (case hr => first | (go_simp; done) | (go_simp; rfl)); intro gb238 hg w38 hbox hb; have n0_ := Aside0.mk (below_step (by repeat (first | (with_reducible first | exact HB.out | apply below_alloc | apply pw_below_drewN | apply below_drew1) | exact HB.out)) hb); have n1_ := Aside0.mk (hbox); have n2_ := Aside0.mk ((by rw [hg]; exact (below_size (by repeat (first | (with_reducible first | exact HB.out | apply below_alloc | apply pw_below_drewN | apply below_drew1) | exact HB.out))) : w.heap.size ≤ gb238)); have n3_ := Aside0.mk ((by rw [hg]; exact (below_size (by repeat (first | (with_reducible first | exact HB.out | apply below_alloc | apply pw_below_drewN | apply below_drew1) | exact HB.out))) : w.heap.size ≤ gb238)); clear HB; have HB := n0_; have BK238 := n1_; have GW238 := n2_; have GE238 := n3_; clear n0_ n1_ n2_ n3_; clear hb hbox hg) | ((with_reducible refine gate_dst (N := 3) rfl ?_); refine box_event ?hg (N := 3) ?hd (cs := #[.int .i64 a1_0, .int .i64 a1_1, .int .i64 a1_2, .int .i64 a1_3, .string a1_4, .string a1_5, .bool a1_6, .slice A1_7 l1_7.length c1_7, .slice A1_8 l1_8.length c1_8]) (t := 25) ?hr ?_; (case hd => rfl); (case hg => rfl); (case hr => first | (go_simp; done) | (go_simp; rfl)); intro gb239 hg w39 hbox hb; have n0_ := Aside0.mk (blk_below (g := gb238) (o := .cells #[.int .i64 a0_0, .int .i64 a0_1, .int .i64 a0_2, .int .i64 a0_3, .string a0_4, .string a0_5, .bool a0_6, .slice A0_7 l0_7.length c0_7, .slice A0_8 l0_8.length c0_8] 25 (0, 0)) (by (with_reducible repeat (first | refine blk_drewN ?_ _ | refine blk_drew ?_ | refine blk_alloc ?_ _)); exact BK238.out) hb); have n1_ := Aside0.mk (below_step (by repeat (first | (with_reducible first | exact HB.out | apply below_alloc | apply pw_below_drewN | apply below_drew1 | refine below_set ?_ GE238.out) | exact HB.out)) hb); have n2_ := Aside0.mk (hbox); have n3_ := Aside0.mk ((by rw [hg]; exact (below_size (by repeat (first | (with_reducible first | exact HB.out | apply below_alloc | apply pw_below_drewN | apply below_drew1 | refine below_set ?_ GE238.out) | exact HB.out))) : w.heap.size ≤ gb239)); have n4_ := Aside0.mk ((by rw [hg]; exact (below_size (by repeat (first | (with_reducible first | exact HB.out | apply below_alloc | apply pw_below_drewN | apply below_drew1 | refine below_set ?_ GE238.out) | exact HB.out))) : w.heap.size ≤ gb239)); have n5_ := Aside0.mk ((by rw [hg]; exact Nat.ne_of_lt (blk_lt (g := gb238) (o := .cells #[.int .i64 a0_0, .int .i64 a0_1, .int .i64 a0_2, .int .i64 a0_3, .string a0_4, .string a0_5, .bool a0_6, .slice A0_7 l0_7.length c0_7, .slice A0_8 l0_8.length c0_8] 25 (0, 0)) (by (with_reducible repeat (first | refine blk_drewN ?_ _ | refine blk_drew ?_ | refine blk_alloc ?_ _)); exact BK238.out)) : gb238 ≠ gb239)); have n6_ := Aside0.mk ((by rw [hg]; exact Nat.ne_of_gt (blk_lt (g := gb238) (o := .cells #[.int .i64 a0_0, .int .i64 a0_1, .int .i64 a0_2, .int .i64 a0_3, .string a0_4, .string a0_5, .bool a0_6, .slice A0_7 l0_7.length c0_7, .slice A0_8 l0_8.length c0_8] 25 (0, 0)) (by (with_reducible repeat (first | refine blk_drewN ?_ _ | refine blk_drew ?_ | refine blk_alloc ?_ _)); exact BK238.out)) : gb239 ≠ gb238)); clear BK238; clear HB; have BK238 := n0_; have HB := n1_; have BK239 := n2_; have GW239 := n3_; have GE239 := n4_; have NB238_239 := n5_; have NB239_238 := n6_; clear n0_ n1_ n2_ n3_ n4_ n5_ n6_; clear hb hbox hg; have hnb40 := NB238_239.out; have hnc40 := NB239_238.out; have hcz41_0 : w39.cell? ⟨gb238, 0, none⟩ = some (.int .i64 a0_0) := (blk_cell BK238.out 0).trans rfl; have hcz41_1 : w39.cell? ⟨gb238, 1, none⟩ = some (.int .i64 a0_1) := (blk_cell BK238.out 1).trans rfl; have hcz41_2 : w39.cell? ⟨gb238, 2, none⟩ = some (.int .i64 a0_2) := (blk_cell BK238.out 2).trans rfl; have hcz41_3 : w39.cell? ⟨gb238, 3, none⟩ = some (.int .i64 a0_3) := (blk_cell BK238.out 3).trans rfl; have hcz41_4 : w39.cell? ⟨gb238, 4, none⟩ = some (.string a0_4) := (blk_cell BK238.out 4).trans rfl; have hcz41_5 : w39.cell? ⟨gb238, 5, none⟩ = some (.string a0_5) := (blk_cell BK238.out 5).trans rfl; have hcz41_6 : w39.cell? ⟨gb238, 6, none⟩ = some (.bool a0_6) := (blk_cell BK238.out 6).trans rfl; have hcz41_7 : w39.cell? ⟨gb238, 7, none⟩ = some (.slice A0_7 l0_7.length c0_7) := (blk_cell BK238.out 7).trans rfl; have hcz41_8 : w39.cell? ⟨gb238, 8, none⟩ = some (.slice A0_8 l0_8.length c0_8) := (blk_cell BK238.out 8).trans rfl; have hfz41_0 := blk_frozen BK238.out 0; have hfz41_1 := blk_frozen BK238.out 1; have hfz41_2 := blk_frozen BK238.out 2; have hfz41_3 := blk_frozen BK238.out 3; have hfz41_4 := blk_frozen BK238.out 4; have hfz41_5 := blk_frozen BK238.out 5; have hfz41_6 := blk_frozen BK238.out 6; have hfz41_7 := blk_frozen BK238.out 7; have hfz41_8 := blk_frozen BK238.out 8; have hcz42_0 : w39.cell? ⟨gb239, 0, none⟩ = some (.int .i64 a1_0) := (blk_cell BK239.out 0).trans rfl; have hcz42_1 : w39.cell? ⟨gb239, 1, none⟩ = some (.int .i64 a1_1) := (blk_cell BK239.out 1).trans rfl; have hcz42_2 : w39.cell? ⟨gb239, 2, none⟩ = some (.int .i64 a1_2) := (blk_cell BK239.out 2).trans rfl; have hcz42_3 : w39.cell? ⟨gb239, 3, none⟩ = some (.int .i64 a1_3) := (blk_cell BK239.out 3).trans rfl; have hcz42_4 : w39.cell? ⟨gb239, 4, none⟩ = some (.string a1_4) := (blk_cell BK239.out 4).trans rfl; have hcz42_5 : w39.cell? ⟨gb239, 5, none⟩ = some (.string a1_5) := (blk_cell BK239.out 5).trans rfl; have hcz42_6 : w39.cell? ⟨gb239, 6, none⟩ = some (.bool a1_6) := (blk_cell BK239.out 6).trans rfl; have hcz42_7 : w39.cell? ⟨gb239, 7, none⟩ = some (.slice A1_7 l1_7.length c1_7) := (blk_cell BK239.out 7).trans rfl; have hcz42_8 : w39.cell? ⟨gb239, 8, none⟩ = some (.slice A1_8 l1_8.length c1_8) := (blk_cell BK239.out 8).trans rfl; have hfz42_0 := blk_frozen BK239.out 0; have hfz42_1 := blk_frozen BK239.out 1; have hfz42_2 := blk_frozen BK239.out 2; have hfz42_3 := blk_frozen BK239.out 3; have hfz42_4 := blk_frozen BK239.out 4; have hfz42_5 := blk_frozen BK239.out 5; have hfz42_6 := blk_frozen BK239.out 6; have hfz42_7 := blk_frozen BK239.out 7; have hfz42_8 := blk_frozen BK239.out 8))
     go_ret
     exact ⟨by first | rfl | (simp [errW_none, errW_some] <;> rfl) | (simp [*, errW_none, errW_some] <;> rfl), by repeat (first | (with_reducible first | exact HB.out | apply below_alloc | apply pw_below_drewN | apply below_drew1 | refine below_set ?_ GE238.out | refine below_set ?_ GE239.out) | exact HB.out)⟩
   ·rw [if_neg c5] at H
    have c5b0 : (a0_2 == a1_2) = false := beq_eq_false_iff_ne.mpr c5
    have c5b1 : (a0_2 != a1_2) = true := bne_iff_ne.mpr c5
    obtain rfl := Option.some.inj H
    go_enter Try.func13, Try.ntmps13
    go_wp2_with (first | ((with_reducible refine gate_dst (N := 2) rfl ?_); refine box_event ?hg (N := 2) ?hd (cs := #[.int .i64 a0_0, .int .i64 a0_1, .int .i64 a0_2, .int .i64 a0_3, .string a0_4, .string a0_5, .bool a0_6, .slice A0_7 l0_7.length c0_7, .slice A0_8 l0_8.length c0_8]) (t := 25) ?hr ?_; (case hd => rfl); (case hg => rfl); (case hr => first | (go_simp; done) | (go_simp; rfl)); intro gb238 hg w43 hbox hb; have n0_ := Aside0.mk (below_step (by repeat (first | (with_reducible first | exact HB.out | apply below_alloc | apply pw_below_drewN | apply below_drew1) | exact HB.out)) hb); have n1_ := Aside0.mk (hbox); have n2_ := Aside0.mk ((by rw [hg]; exact (below_size (by repeat (first | (with_reducible first | exact HB.out | apply below_alloc | apply pw_below_drewN | apply below_drew1) | exact HB.out))) : w.heap.size ≤ gb238)); have n3_ := Aside0.mk ((by rw [hg]; exact (below_size (by repeat (first | (with_reducible first | exact HB.out | apply below_alloc | apply pw_below_drewN | apply below_drew1) | exact HB.out))) : w.heap.size ≤ gb238)); clear HB; have HB := n0_; have BK238 := n1_; have GW238 := n2_; have GE238 := n3_; clear n0_ n1_ n2_ n3_; clear hb hbox hg) | ((with_reducible refine gate_dst (N := 3) rfl ?_); refine box_event ?hg (N := 3) ?hd (cs := #[.int .i64 a1_0, .int .i64 a1_1, .int .i64 a1_2, .int .i64 a1_3, .string a1_4, .string a1_5, .bool a1_6, .slice A1_7 l1_7.length c1_7, .slice A1_8 l1_8.length c1_8]) (t := 25) ?hr ?_; (case hd => rfl); (case hg => rfl); (case hr => first | (go_simp; done) | (go_simp; rfl)); intro gb239 hg w44 hbox hb; have n0_ := Aside0.mk (blk_below (g := gb238) (o := .cells #[.int .i64 a0_0, .int .i64 a0_1, .int .i64 a0_2, .int .i64 a0_3, .string a0_4, .string a0_5, .bool a0_6, .slice A0_7 l0_7.length c0_7, .slice A0_8 l0_8.length c0_8] 25 (0, 0)) (by (with_reducible repeat (first | refine blk_drewN ?_ _ | refine blk_drew ?_ | refine blk_alloc ?_ _)); exact BK238.out) hb); have n1_ := Aside0.mk (below_step (by repeat (first | (with_reducible first | exact HB.out | apply below_alloc | apply pw_below_drewN | apply below_drew1 | refine below_set ?_ GE238.out) | exact HB.out)) hb); have n2_ := Aside0.mk (hbox); have n3_ := Aside0.mk ((by rw [hg]; exact (below_size (by repeat (first | (with_reducible first | exact HB.out | apply below_alloc | apply pw_below_drewN | apply below_drew1 | refine below_set ?_ GE238.out) | exact HB.out))) : w.heap.size ≤ gb239)); have n4_ := Aside0.mk ((by rw [hg]; exact (below_size (by repeat (first | (with_reducible first | exact HB.out | apply below_alloc | apply pw_below_drewN | apply below_drew1 | refine below_set ?_ GE238.out) | exact HB.out))) : w.heap.size ≤ gb239)); have n5_ := Aside0.mk ((by rw [hg]; exact Nat.ne_of_lt (blk_lt (g := gb238) (o := .cells #[.int .i64 a0_0, .int .i64 a0_1, .int .i64 a0_2, .int .i64 a0_3, .string a0_4, .string a0_5, .bool a0_6, .slice A0_7 l0_7.length c0_7, .slice A0_8 l0_8.length c0_8] 25 (0, 0)) (by (with_reducible repeat (first | refine blk_drewN ?_ _ | refine blk_drew ?_ | refine blk_alloc ?_ _)); exact BK238.out)) : gb238 ≠ gb239)); have n6_ := Aside0.mk ((by rw [hg]; exact Nat.ne_of_gt (blk_lt (g := gb238) (o := .cells #[.int .i64 a0_0, .int .i64 a0_1, .int .i64 a0_2, .int .i64 a0_3, .string a0_4, .string a0_5, .bool a0_6, .slice A0_7 l0_7.length c0_7, .slice A0_8 l0_8.length c0_8] 25 (0, 0)) (by (with_reducible repeat (first | refine blk_drewN ?_ _ | refine blk_drew ?_ | refine blk_alloc ?_ _)); exact BK238.out)) : gb239 ≠ gb238)); clear BK238; clear HB; have BK238 := n0_; have HB := n1_; have BK239 := n2_; have GW239 := n3_; have GE239 := n4_; have NB238_239 := n5_; have NB239_238 := n6_; clear n0_ n1_ n2_ n3_ n4_ n5_ n6_; clear hb hbox hg; have hnb45 := NB238_239.out; have hnc45 := NB239_238.out; have hcz46_0 : w44.cell? ⟨gb238, 0, none⟩ = some (.int .i64 a0_0) := (blk_cell BK238.out 0).trans rfl; have hcz46_1 : w44.cell? ⟨gb238, 1, none⟩ = some (.int .i64 a0_1) := (blk_cell BK238.out 1).trans rfl; have hcz46_2 : w44.cell? ⟨gb238, 2, none⟩ = some (.int .i64 a0_2) := (blk_cell BK238.out 2).trans rfl; have hcz46_3 : w44.cell? ⟨gb238, 3, none⟩ = some (.int .i64 a0_3) := (blk_cell BK238.out 3).trans rfl; have hcz46_4 : w44.cell? ⟨gb238, 4, none⟩ = some (.string a0_4) := (blk_cell BK238.out 4).trans rfl; have hcz46_5 : w44.cell? ⟨gb238, 5, none⟩ = some (.string a0_5) := (blk_cell BK238.out 5).trans rfl; have hcz46_6 : w44.cell? ⟨gb238, 6, none⟩ = some (.bool a0_6) := (blk_cell BK238.out 6).trans rfl; have hcz46_7 : w44.cell? ⟨gb238, 7, none⟩ = some (.slice A0_7 l0_7.length c0_7) := (blk_cell BK238.out 7).trans rfl; have hcz46_8 : w44.cell? ⟨gb238, 8, none⟩ = some (.slice A0_8 l0_8.length c0_8) := (blk_cell BK238.out 8).trans rfl; have hfz46_0 := blk_frozen BK238.out 0; have hfz46_1 := blk_frozen BK238.out 1; have hfz46_2 := blk_frozen BK238.out 2; have hfz46_3 := blk_frozen BK238.out 3; have hfz46_4 := blk_frozen BK238.out 4; have hfz46_5 := blk_frozen BK238.out 5; have hfz46_6 := blk_frozen BK238.out 6; have hfz46_7 := blk_frozen BK238.out 7; have hfz46_8 := blk_frozen BK238.out 8; have hcz47_0 : w44.cell? ⟨gb239, 0, none⟩ = some (.int .i64 a1_0) := (blk_cell BK239.out 0).trans rfl; have hcz47_1 : w44.cell? ⟨gb239, 1, none⟩ = some (.int .i64 a1_1) := (blk_cell BK239.out 1).trans rfl; have hcz47_2 : w44.cell? ⟨gb239, 2, none⟩ = some (.int .i64 a1_2) := (blk_cell BK239.out 2).trans rfl; have hcz47_3 : w44.cell? ⟨gb239, 3, none⟩ = some (.int .i64 a1_3) := (blk_cell BK239.out 3).trans rfl; have hcz47_4 : w44.cell? ⟨gb239, 4, none⟩ = some (.string a1_4) := (blk_cell BK239.out 4).trans rfl; have hcz47_5 : w44.cell? ⟨gb239, 5, none⟩ = some (.string a1_5) := (blk_cell BK239.out 5).trans rfl; have hcz47_6 : w44.cell? ⟨gb239, 6, none⟩ = some (.bool a1_6) := (blk_cell BK239.out 6).trans rfl; have hcz47_7 : w44.cell? ⟨gb239, 7, none⟩ = some (.slice A1_7 l1_7.length c1_7) := (blk_cell BK239.out 7).trans rfl; have hcz47_8 : w44.cell? ⟨gb239, 8, none⟩ = some (.slice A1_8 l1_8.length c1_8) := (blk_cell BK239.out 8).trans rfl; have hfz47_0 := blk_frozen BK239.out 0; have hfz47_1 := blk_frozen BK239.out 1; have hfz47_2 := blk_frozen BK239.out 2; have hfz47_3 := blk_frozen BK239.out 3; have hfz47_4 := blk_frozen BK239.out 4; have hfz47_5 := blk_frozen BK239.out 5; have hfz47_6 := blk_frozen BK239.out 6; have hfz47_7 := blk_frozen BK239.out 7; have hfz47_8 := blk_frozen BK239.out 8))
    go_ret
    exact ⟨by first | rfl | (simp [errW_none, errW_some] <;> rfl) | (simp [*, errW_none, errW_some] <;> rfl), by repeat (first | (with_reducible first | exact HB.out | apply below_alloc | apply pw_below_drewN | apply below_drew1 | refine below_set ?_ GE238.out | refine below_set ?_ GE239.out) | exact HB.out)⟩
  ·rw [if_neg c4] at H
   have c4b0 : (a0_1 == a1_1) = false := beq_eq_false_iff_ne.mpr c4
   have c4b1 : (a0_1 != a1_1) = true := bne_iff_ne.mpr c4
   obtain rfl := Option.some.inj H
   go_enter Try.func13, Try.ntmps13
   go_wp2_with (first | ((with_reducible refine gate_dst (N := 2) rfl ?_); refine box_event ?hg (N := 2) ?hd (cs := #[.int .i64 a0_0, .int .i64 a0_1, .int .i64 a0_2, .int .i64 a0_3, .string a0_4, .string a0_5, .bool a0_6, .slice A0_7 l0_7.length c0_7, .slice A0_8 l0_8.length c0_8]) (t := 25) ?hr ?_; (case hd => rfl); (case hg => rfl); (case hr => first | (go_simp; done) | (go_simp; rfl)); intro gb238 hg w48 hbox hb; have n0_ := Aside0.mk (below_step (by repeat (first | (with_reducible first | exact HB.out | apply below_alloc | apply pw_below_drewN | apply below_drew1) | exact HB.out)) hb); have n1_ := Aside0.mk (hbox); have n2_ := Aside0.mk ((by rw [hg]; exact (below_size (by repeat (first | (with_reducible first | exact HB.out | apply below_alloc | apply pw_below_drewN | apply below_drew1) | exact HB.out))) : w.heap.size ≤ gb238)); have n3_ := Aside0.mk ((by rw [hg]; exact (below_size (by repeat (first | (with_reducible first | exact HB.out | apply below_alloc | apply pw_below_drewN | apply below_drew1) | exact HB.out))) : w.heap.size ≤ gb238)); clear HB; have HB := n0_; have BK238 := n1_; have GW238 := n2_; have GE238 := n3_; clear n0_ n1_ n2_ n3_; clear hb hbox hg) | ((with_reducible refine gate_dst (N := 3) rfl ?_); refine box_event ?hg (N := 3) ?hd (cs := #[.int .i64 a1_0, .int .i64 a1_1, .int .i64 a1_2, .int .i64 a1_3, .string a1_4, .string a1_5, .bool a1_6, .slice A1_7 l1_7.length c1_7, .slice A1_8 l1_8.length c1_8]) (t := 25) ?hr ?_; (case hd => rfl); (case hg => rfl); (case hr => first | (go_simp; done) | (go_simp; rfl)); intro gb239 hg w49 hbox hb; have n0_ := Aside0.mk (blk_below (g := gb238) (o := .cells #[.int .i64 a0_0, .int .i64 a0_1, .int .i64 a0_2, .int .i64 a0_3, .string a0_4, .string a0_5, .bool a0_6, .slice A0_7 l0_7.length c0_7, .slice A0_8 l0_8.length c0_8] 25 (0, 0)) (by (with_reducible repeat (first | refine blk_drewN ?_ _ | refine blk_drew ?_ | refine blk_alloc ?_ _)); exact BK238.out) hb); have n1_ := Aside0.mk (below_step (by repeat (first | (with_reducible first | exact HB.out | apply below_alloc | apply pw_below_drewN | apply below_drew1 | refine below_set ?_ GE238.out) | exact HB.out)) hb); have n2_ := Aside0.mk (hbox); have n3_ := Aside0.mk ((by rw [hg]; exact (below_size (by repeat (first | (with_reducible first | exact HB.out | apply below_alloc | apply pw_below_drewN | apply below_drew1 | refine below_set ?_ GE238.out) | exact HB.out))) : w.heap.size ≤ gb239)); have n4_ := Aside0.mk ((by rw [hg]; exact (below_size (by repeat (first | (with_reducible first | exact HB.out | apply below_alloc | apply pw_below_drewN | apply below_drew1 | refine below_set ?_ GE238.out) | exact HB.out))) : w.heap.size ≤ gb239)); have n5_ := Aside0.mk ((by rw [hg]; exact Nat.ne_of_lt (blk_lt (g := gb238) (o := .cells #[.int .i64 a0_0, .int .i64 a0_1, .int .i64 a0_2, .int .i64 a0_3, .string a0_4, .string a0_5, .bool a0_6, .slice A0_7 l0_7.length c0_7, .slice A0_8 l0_8.length c0_8] 25 (0, 0)) (by (with_reducible repeat (first | refine blk_drewN ?_ _ | refine blk_drew ?_ | refine blk_alloc ?_ _)); exact BK238.out)) : gb238 ≠ gb239)); have n6_ := Aside0.mk ((by rw [hg]; exact Nat.ne_of_gt (blk_lt (g := gb238) (o := .cells #[.int .i64 a0_0, .int .i64 a0_1, .int .i64 a0_2, .int .i64 a0_3, .string a0_4, .string a0_5, .bool a0_6, .slice A0_7 l0_7.length c0_7, .slice A0_8 l0_8.length c0_8] 25 (0, 0)) (by (with_reducible repeat (first | refine blk_drewN ?_ _ | refine blk_drew ?_ | refine blk_alloc ?_ _)); exact BK238.out)) : gb239 ≠ gb238)); clear BK238; clear HB; have BK238 := n0_; have HB := n1_; have BK239 := n2_; have GW239 := n3_; have GE239 := n4_; have NB238_239 := n5_; have NB239_238 := n6_; clear n0_ n1_ n2_ n3_ n4_ n5_ n6_; clear hb hbox hg; have hnb50 := NB238_239.out; have hnc50 := NB239_238.out; have hcz51_0 : w49.cell? ⟨gb238, 0, none⟩ = some (.int .i64 a0_0) := (blk_cell BK238.out 0).trans rfl; have hcz51_1 : w49.cell? ⟨gb238, 1, none⟩ = some (.int .i64 a0_1) := (blk_cell BK238.out 1).trans rfl; have hcz51_2 : w49.cell? ⟨gb238, 2, none⟩ = some (.int .i64 a0_2) := (blk_cell BK238.out 2).trans rfl; have hcz51_3 : w49.cell? ⟨gb238, 3, none⟩ = some (.int .i64 a0_3) := (blk_cell BK238.out 3).trans rfl; have hcz51_4 : w49.cell? ⟨gb238, 4, none⟩ = some (.string a0_4) := (blk_cell BK238.out 4).trans rfl; have hcz51_5 : w49.cell? ⟨gb238, 5, none⟩ = some (.string a0_5) := (blk_cell BK238.out 5).trans rfl; have hcz51_6 : w49.cell? ⟨gb238, 6, none⟩ = some (.bool a0_6) := (blk_cell BK238.out 6).trans rfl; have hcz51_7 : w49.cell? ⟨gb238, 7, none⟩ = some (.slice A0_7 l0_7.length c0_7) := (blk_cell BK238.out 7).trans rfl; have hcz51_8 : w49.cell? ⟨gb238, 8, none⟩ = some (.slice A0_8 l0_8.length c0_8) := (blk_cell BK238.out 8).trans rfl; have hfz51_0 := blk_frozen BK238.out 0; have hfz51_1 := blk_frozen BK238.out 1; have hfz51_2 := blk_frozen BK238.out 2; have hfz51_3 := blk_frozen BK238.out 3; have hfz51_4 := blk_frozen BK238.out 4; have hfz51_5 := blk_frozen BK238.out 5; have hfz51_6 := blk_frozen BK238.out 6; have hfz51_7 := blk_frozen BK238.out 7; have hfz51_8 := blk_frozen BK238.out 8; have hcz52_0 : w49.cell? ⟨gb239, 0, none⟩ = some (.int .i64 a1_0) := (blk_cell BK239.out 0).trans rfl; have hcz52_1 : w49.cell? ⟨gb239, 1, none⟩ = some (.int .i64 a1_1) := (blk_cell BK239.out 1).trans rfl; have hcz52_2 : w49.cell? ⟨gb239, 2, none⟩ = some (.int .i64 a1_2) := (blk_cell BK239.out 2).trans rfl; have hcz52_3 : w49.cell? ⟨gb239, 3, none⟩ = some (.int .i64 a1_3) := (blk_cell BK239.out 3).trans rfl; have hcz52_4 : w49.cell? ⟨gb239, 4, none⟩ = some (.string a1_4) := (blk_cell BK239.out 4).trans rfl; have hcz52_5 : w49.cell? ⟨gb239, 5, none⟩ = some (.string a1_5) := (blk_cell BK239.out 5).trans rfl; have hcz52_6 : w49.cell? ⟨gb239, 6, none⟩ = some (.bool a1_6) := (blk_cell BK239.out 6).trans rfl; have hcz52_7 : w49.cell? ⟨gb239, 7, none⟩ = some (.slice A1_7 l1_7.length c1_7) := (blk_cell BK239.out 7).trans rfl; have hcz52_8 : w49.cell? ⟨gb239, 8, none⟩ = some (.slice A1_8 l1_8.length c1_8) := (blk_cell BK239.out 8).trans rfl; have hfz52_0 := blk_frozen BK239.out 0; have hfz52_1 := blk_frozen BK239.out 1; have hfz52_2 := blk_frozen BK239.out 2; have hfz52_3 := blk_frozen BK239.out 3; have hfz52_4 := blk_frozen BK239.out 4; have hfz52_5 := blk_frozen BK239.out 5; have hfz52_6 := blk_frozen BK239.out 6; have hfz52_7 := blk_frozen BK239.out 7; have hfz52_8 := blk_frozen BK239.out 8))
   go_ret
   exact ⟨by first | rfl | (simp [errW_none, errW_some] <;> rfl) | (simp [*, errW_none, errW_some] <;> rfl), by repeat (first | (with_reducible first | exact HB.out | apply below_alloc | apply pw_below_drewN | apply below_drew1 | refine below_set ?_ GE238.out | refine below_set ?_ GE239.out) | exact HB.out)⟩
 ·rw [if_neg c3] at H
  have c3b0 : (a0_0 == a1_0) = false := beq_eq_false_iff_ne.mpr c3
  have c3b1 : (a0_0 != a1_0) = true := bne_iff_ne.mpr c3
  obtain rfl := Option.some.inj H
  go_enter Try.func13, Try.ntmps13
  go_wp2_with (first | ((with_reducible refine gate_dst (N := 2) rfl ?_); refine box_event ?hg (N := 2) ?hd (cs := #[.int .i64 a0_0, .int .i64 a0_1, .int .i64 a0_2, .int .i64 a0_3, .string a0_4, .string a0_5, .bool a0_6, .slice A0_7 l0_7.length c0_7, .slice A0_8 l0_8.length c0_8]) (t := 25) ?hr ?_; (case hd => rfl); (case hg => rfl); (case hr => first | (go_simp; done) | (go_simp; rfl)); intro gb238 hg w53 hbox hb; have n0_ := Aside0.mk (below_step (by repeat (first | (with_reducible first | exact HB.out | apply below_alloc | apply pw_below_drewN | apply below_drew1) | exact HB.out)) hb); have n1_ := Aside0.mk (hbox); have n2_ := Aside0.mk ((by rw [hg]; exact (below_size (by repeat (first | (with_reducible first | exact HB.out | apply below_alloc | apply pw_below_drewN | apply below_drew1) | exact HB.out))) : w.heap.size ≤ gb238)); have n3_ := Aside0.mk ((by rw [hg]; exact (below_size (by repeat (first | (with_reducible first | exact HB.out | apply below_alloc | apply pw_below_drewN | apply below_drew1) | exact HB.out))) : w.heap.size ≤ gb238)); clear HB; have HB := n0_; have BK238 := n1_; have GW238 := n2_; have GE238 := n3_; clear n0_ n1_ n2_ n3_; clear hb hbox hg) | ((with_reducible refine gate_dst (N := 3) rfl ?_); refine box_event ?hg (N := 3) ?hd (cs := #[.int .i64 a1_0, .int .i64 a1_1, .int .i64 a1_2, .int .i64 a1_3, .string a1_4, .string a1_5, .bool a1_6, .slice A1_7 l1_7.length c1_7, .slice A1_8 l1_8.length c1_8]) (t := 25) ?hr ?_; (case hd => rfl); (case hg => rfl); (case hr => first | (go_simp; done) | (go_simp; rfl)); intro gb239 hg w54 hbox hb; have n0_ := Aside0.mk (blk_below (g := gb238) (o := .cells #[.int .i64 a0_0, .int .i64 a0_1, .int .i64 a0_2, .int .i64 a0_3, .string a0_4, .string a0_5, .bool a0_6, .slice A0_7 l0_7.length c0_7, .slice A0_8 l0_8.length c0_8] 25 (0, 0)) (by (with_reducible repeat (first | refine blk_drewN ?_ _ | refine blk_drew ?_ | refine blk_alloc ?_ _)); exact BK238.out) hb); have n1_ := Aside0.mk (below_step (by repeat (first | (with_reducible first | exact HB.out | apply below_alloc | apply pw_below_drewN | apply below_drew1 | refine below_set ?_ GE238.out) | exact HB.out)) hb); have n2_ := Aside0.mk (hbox); have n3_ := Aside0.mk ((by rw [hg]; exact (below_size (by repeat (first | (with_reducible first | exact HB.out | apply below_alloc | apply pw_below_drewN | apply below_drew1 | refine below_set ?_ GE238.out) | exact HB.out))) : w.heap.size ≤ gb239)); have n4_ := Aside0.mk ((by rw [hg]; exact (below_size (by repeat (first | (with_reducible first | exact HB.out | apply below_alloc | apply pw_below_drewN | apply below_drew1 | refine below_set ?_ GE238.out) | exact HB.out))) : w.heap.size ≤ gb239)); have n5_ := Aside0.mk ((by rw [hg]; exact Nat.ne_of_lt (blk_lt (g := gb238) (o := .cells #[.int .i64 a0_0, .int .i64 a0_1, .int .i64 a0_2, .int .i64 a0_3, .string a0_4, .string a0_5, .bool a0_6, .slice A0_7 l0_7.length c0_7, .slice A0_8 l0_8.length c0_8] 25 (0, 0)) (by (with_reducible repeat (first | refine blk_drewN ?_ _ | refine blk_drew ?_ | refine blk_alloc ?_ _)); exact BK238.out)) : gb238 ≠ gb239)); have n6_ := Aside0.mk ((by rw [hg]; exact Nat.ne_of_gt (blk_lt (g := gb238) (o := .cells #[.int .i64 a0_0, .int .i64 a0_1, .int .i64 a0_2, .int .i64 a0_3, .string a0_4, .string a0_5, .bool a0_6, .slice A0_7 l0_7.length c0_7, .slice A0_8 l0_8.length c0_8] 25 (0, 0)) (by (with_reducible repeat (first | refine blk_drewN ?_ _ | refine blk_drew ?_ | refine blk_alloc ?_ _)); exact BK238.out)) : gb239 ≠ gb238)); clear BK238; clear HB; have BK238 := n0_; have HB := n1_; have BK239 := n2_; have GW239 := n3_; have GE239 := n4_; have NB238_239 := n5_; have NB239_238 := n6_; clear n0_ n1_ n2_ n3_ n4_ n5_ n6_; clear hb hbox hg; have hnb55 := NB238_239.out; have hnc55 := NB239_238.out; have hcz56_0 : w54.cell? ⟨gb238, 0, none⟩ = some (.int .i64 a0_0) := (blk_cell BK238.out 0).trans rfl; have hcz56_1 : w54.cell? ⟨gb238, 1, none⟩ = some (.int .i64 a0_1) := (blk_cell BK238.out 1).trans rfl; have hcz56_2 : w54.cell? ⟨gb238, 2, none⟩ = some (.int .i64 a0_2) := (blk_cell BK238.out 2).trans rfl; have hcz56_3 : w54.cell? ⟨gb238, 3, none⟩ = some (.int .i64 a0_3) := (blk_cell BK238.out 3).trans rfl; have hcz56_4 : w54.cell? ⟨gb238, 4, none⟩ = some (.string a0_4) := (blk_cell BK238.out 4).trans rfl; have hcz56_5 : w54.cell? ⟨gb238, 5, none⟩ = some (.string a0_5) := (blk_cell BK238.out 5).trans rfl; have hcz56_6 : w54.cell? ⟨gb238, 6, none⟩ = some (.bool a0_6) := (blk_cell BK238.out 6).trans rfl; have hcz56_7 : w54.cell? ⟨gb238, 7, none⟩ = some (.slice A0_7 l0_7.length c0_7) := (blk_cell BK238.out 7).trans rfl; have hcz56_8 : w54.cell? ⟨gb238, 8, none⟩ = some (.slice A0_8 l0_8.length c0_8) := (blk_cell BK238.out 8).trans rfl; have hfz56_0 := blk_frozen BK238.out 0; have hfz56_1 := blk_frozen BK238.out 1; have hfz56_2 := blk_frozen BK238.out 2; have hfz56_3 := blk_frozen BK238.out 3; have hfz56_4 := blk_frozen BK238.out 4; have hfz56_5 := blk_frozen BK238.out 5; have hfz56_6 := blk_frozen BK238.out 6; have hfz56_7 := blk_frozen BK238.out 7; have hfz56_8 := blk_frozen BK238.out 8; have hcz57_0 : w54.cell? ⟨gb239, 0, none⟩ = some (.int .i64 a1_0) := (blk_cell BK239.out 0).trans rfl; have hcz57_1 : w54.cell? ⟨gb239, 1, none⟩ = some (.int .i64 a1_1) := (blk_cell BK239.out 1).trans rfl; have hcz57_2 : w54.cell? ⟨gb239, 2, none⟩ = some (.int .i64 a1_2) := (blk_cell BK239.out 2).trans rfl; have hcz57_3 : w54.cell? ⟨gb239, 3, none⟩ = some (.int .i64 a1_3) := (blk_cell BK239.out 3).trans rfl; have hcz57_4 : w54.cell? ⟨gb239, 4, none⟩ = some (.string a1_4) := (blk_cell BK239.out 4).trans rfl; have hcz57_5 : w54.cell? ⟨gb239, 5, none⟩ = some (.string a1_5) := (blk_cell BK239.out 5).trans rfl; have hcz57_6 : w54.cell? ⟨gb239, 6, none⟩ = some (.bool a1_6) := (blk_cell BK239.out 6).trans rfl; have hcz57_7 : w54.cell? ⟨gb239, 7, none⟩ = some (.slice A1_7 l1_7.length c1_7) := (blk_cell BK239.out 7).trans rfl; have hcz57_8 : w54.cell? ⟨gb239, 8, none⟩ = some (.slice A1_8 l1_8.length c1_8) := (blk_cell BK239.out 8).trans rfl; have hfz57_0 := blk_frozen BK239.out 0; have hfz57_1 := blk_frozen BK239.out 1; have hfz57_2 := blk_frozen BK239.out 2; have hfz57_3 := blk_frozen BK239.out 3; have hfz57_4 := blk_frozen BK239.out 4; have hfz57_5 := blk_frozen BK239.out 5; have hfz57_6 := blk_frozen BK239.out 6; have hfz57_7 := blk_frozen BK239.out 7; have hfz57_8 := blk_frozen BK239.out 8))
  go_ret
  exact ⟨by first | rfl | (simp [errW_none, errW_some] <;> rfl) | (simp [*, errW_none, errW_some] <;> rfl), by repeat (first | (with_reducible first | exact HB.out | apply below_alloc | apply pw_below_drewN | apply below_drew1 | refine below_set ?_ GE238.out | refine below_set ?_ GE239.out) | exact HB.out)⟩
end Go.Proofs.Ytbfjbcaabijpfaa.Al

namespace Go.Proofs.Ytbfjbcaabijpfaa.Al
open Go.RowKit Go.Proofs.YtbfjbcaabijpfaaW.PrintWords Go.Proofs.YtbfjbcaabijpfaaW.PrintLast Go.Proofs.YtbfjbcaabijpfaaW.PrintMore
attribute [local go_sem] max2_int min2_int max_two min_two max_three min_three max_four min_four   -- for this text's walks alone
set_option linter.unusedVariables false
set_option linter.unusedSimpArgs false
attribute [local go_sem high] eqA50
def corncriblaw08_works.f (k : Nat)  : Option (Bool) := (record_Encode.f k 2 5 9 0 (⟨#[]⟩ : ByteArray) (⟨#[]⟩ : ByteArray) false ([] : List ByteArray) ([] : List (S50))).bind fun bt242 => (if bt242.2 = 0 then (some (bt242.1.toList == ([6, 4, 10, 18, 0, 0, 0, 2, 0, 0] : List UInt8))) else (some false))
theorem corncriblaw08_works.mono : ∀ k, LeO (corncriblaw08_works.f k ) (corncriblaw08_works.f (k + 1) ) := by
 intro  k
 unfold corncriblaw08_works.f
 repeat' first
   |(with_reducible exact record_Encode.mono _ _ _ _ _ _ _ _ _ _)
   |(with_reducible exact LeO.refl _)
   |(with_reducible exact LeO.none _)
   |(with_reducible refine LeO.ite ?_ ?_)
   |(with_reducible refine LeO.bind ?_ (fun _ => ?_))
   |exact record_Encode.mono _ _ _ _ _ _ _ _ _ _
   |exact LeO.none _
   |refine LeO.ite ?_ ?_
   |refine LeO.bind ?_ (fun _ => ?_)
set_option maxHeartbeats 8000000 in
set_option maxRecDepth 100000 in
theorem corncriblaw08_works.calls (k : Nat)  (r : Bool) (w : World) (h : corncriblaw08_works.f k  = some r) :
  Calls Try.prog 14 #[] w fun e w' => e = .returned (.bool r) ∧ Below w.heap.size w w' := by
 have hu25 := Try.underlying25
 have HB := Aside0.mk (Below.refl w.heap.size w)
 have H : ((record_Encode.f k 2 5 9 0 (⟨#[]⟩ : ByteArray) (⟨#[]⟩ : ByteArray) false ([] : List ByteArray) ([] : List (S50))).bind fun bt242 => (if bt242.2 = 0 then (some (bt242.1.toList == ([6, 4, 10, 18, 0, 0, 0, 2, 0, 0] : List UInt8))) else (some false))) = some r := h
 clear h
 replace H := Option.bind_eq_some_iff.mp H
 obtain ⟨⟨t242, t243⟩, A10, H⟩ := H
 replace H : (if t243 = 0 then (some (t242.toList == ([6, 4, 10, 18, 0, 0, 0, 2, 0, 0] : List UInt8))) else (some false)) = some r := H
 have A1 := Aside0.mk A10
 clear A10
 by_cases c2 : t243 = 0
 ·rw [if_pos c2] at H
  have c2b0 : (t243 == 0) = true := beq_iff_eq.mpr c2
  have c2b1 : (t243 != 0) = false := bne_eq_false_iff_eq.mpr c2
  clear c2
  obtain rfl := Option.some.inj H
  go_enter Try.func14, Try.ntmps14
  go_wp2_with (first | ((with_reducible refine gate_callee (f := 9) rfl ?_); refine goesL_ (some 5) rfl rfl Try.func9 (by kernel_rfl) rfl #[.agg #[.int .i64 2, .int .i64 5, .int .i64 9, .int .i64 0, .string (⟨#[]⟩ : ByteArray), .string (⟨#[]⟩ : ByteArray), .bool false, .slice none 0 0, .slice none 0 0]] rfl (by (try simp only [List.map_toArray, List.map_cons, List.map_nil]); first | done | rfl | (simp only [List.length_drop, List.length_take]; rfl)) ?_; (refine (record_Encode.calls k 2 5 9 0 (⟨#[]⟩ : ByteArray) (⟨#[]⟩ : ByteArray) false _ _ ([] : List ByteArray) _ _ ([] : List (S50)) t242 t243 _ ?side1 ?side2 ?side3 ?side4 A1.out).mono ?_); (case side1 => exact Kd.C_nil _ _); (case side2 => exact Nat.le_refl _); (case side3 => exact Kd.C_nil _ _); (case side4 => exact Nat.le_refl _); rintro e w3 ⟨rfl, hb⟩; refine ⟨_, rfl, ?_⟩; have n0_ := Aside0.mk (below_step (by repeat (first | (with_reducible first | exact HB.out | apply below_alloc | apply pw_below_drewN | apply below_drew1) | exact HB.out)) hb); clear HB; have HB := n0_; clear n0_; (try clear hb); (try clear hb2); (try clear hk); (try clear hi)))
  go_ret
  exact ⟨by first | rfl | (simp [errW_none, errW_some] <;> rfl) | (simp [*, errW_none, errW_some] <;> rfl), by repeat (first | (with_reducible first | exact HB.out | apply below_alloc | apply pw_below_drewN | apply below_drew1) | exact HB.out)⟩
 ·rw [if_neg c2] at H
  have c2b0 : (t243 == 0) = false := beq_eq_false_iff_ne.mpr c2
  have c2b1 : (t243 != 0) = true := bne_iff_ne.mpr c2
  obtain rfl := Option.some.inj H
  go_enter Try.func14, Try.ntmps14
  go_wp2_with (first | ((with_reducible refine gate_callee (f := 9) rfl ?_); refine goesL_ (some 5) rfl rfl Try.func9 (by kernel_rfl) rfl #[.agg #[.int .i64 2, .int .i64 5, .int .i64 9, .int .i64 0, .string (⟨#[]⟩ : ByteArray), .string (⟨#[]⟩ : ByteArray), .bool false, .slice none 0 0, .slice none 0 0]] rfl (by (try simp only [List.map_toArray, List.map_cons, List.map_nil]); first | done | rfl | (simp only [List.length_drop, List.length_take]; rfl)) ?_; (refine (record_Encode.calls k 2 5 9 0 (⟨#[]⟩ : ByteArray) (⟨#[]⟩ : ByteArray) false _ _ ([] : List ByteArray) _ _ ([] : List (S50)) t242 t243 _ ?side1 ?side2 ?side3 ?side4 A1.out).mono ?_); (case side1 => exact Kd.C_nil _ _); (case side2 => exact Nat.le_refl _); (case side3 => exact Kd.C_nil _ _); (case side4 => exact Nat.le_refl _); rintro e w4 ⟨rfl, hb⟩; refine ⟨_, rfl, ?_⟩; have n0_ := Aside0.mk (below_step (by repeat (first | (with_reducible first | exact HB.out | apply below_alloc | apply pw_below_drewN | apply below_drew1) | exact HB.out)) hb); clear HB; have HB := n0_; clear n0_; (try clear hb); (try clear hb2); (try clear hk); (try clear hi)))
  go_ret
  exact ⟨by first | rfl | (simp [errW_none, errW_some] <;> rfl) | (simp [*, errW_none, errW_some] <;> rfl), by repeat (first | (with_reducible first | exact HB.out | apply below_alloc | apply pw_below_drewN | apply below_drew1) | exact HB.out)⟩
end Go.Proofs.Ytbfjbcaabijpfaa.Al

namespace Go.Proofs.Ytbfjbcaabijpfaa.PackMath
open Go.RowKit Go.Proofs.Ytbfjbcaabijpfaa.Base Go.Proofs.YtbfjbcaabijpfaaW.PrintWords
def plain (n : Nat) : List Int := if n < 128 then [(n : Int)] else ((n % 128 + 128 : Nat) : Int) :: plain (n / 128)
theorem plain_small {n : Nat} (h : n < 128) : plain n = [(n : Int)] := by rw [plain, if_pos h]
theorem plain_big {n : Nat} (h : 128 ≤ n) : plain n = ((n % 128 + 128 : Nat) : Int) :: plain (n / 128) := by rw [plain, if_neg (by omega)]
/-- A signed number as one above nothing. -/
def zig (n : Int) : Nat := if n < 0 then (-2 * (n + 1) + 1).toNat else (2 * n).toNat
def zag (x : Nat) : Int := if x % 2 = 1 then -(x / 2 : Int) - 1 else (x / 2 : Int)
theorem zag_zig (n : Int) : zag (zig n) = n := by unfold zag zig; split <;> split <;> omega
theorem zig_zag (x : Nat) : zig (zag x) = x := by unfold zag zig; split <;> split <;> omega
theorem zig_lt {n : Int} (h0 : -4611686018427387904 ≤ n) (h1 : n ≤ 4611686018427387903) : zig n < 9223372036854775808 := by unfold zig; split <;> omega
theorem zag_range {x : Nat} (h : x < 9223372036854775808) : -4611686018427387904 ≤ zag x ∧ zag x ≤ 4611686018427387903 := by unfold zag; split <;> omega
def signed (n : Int) : List Int := plain (zig n)
theorem plain_len_le : ∀ (k n : Nat), n < 128 ^ (k + 1) → (plain n).length ≤ k + 1
 |0, n, h => by rw [plain_small (by simpa using h)]; simp
 |k + 1, n, h => by
  by_cases h1 : n < 128
  ·rw [plain_small h1]; simp
  ·rw [plain_big (by omega), List.length_cons]
   have := plain_len_le k (n / 128) (by rw [Nat.pow_succ] at h; omega)
   omega
theorem plain_len9 {n : Nat} (h : n < 9223372036854775808) : (plain n).length ≤ 9 := plain_len_le 8 n (by simpa using h)
theorem plain_pos (n : Nat) : 1 ≤ (plain n).length := by rw [plain]; split <;> simp
theorem plain_range : ∀ (n : Nat), ∀ b ∈ plain n, 0 ≤ b ∧ b ≤ 255 := by
 intro n
 induction n using Nat.strongRecOn with
 |ind n ih =>
  intro b hb
  by_cases h1 : n < 128
  ·rw [plain_small h1] at hb
   simp at hb
   omega
  ·rw [plain_big (by omega)] at hb
   rcases List.mem_cons.1 hb with rfl | hb
   ·omega
   ·exact ih (n / 128) (by omega) b hb
/-- A pack's bytes. -/
def body (nums : List Int) : List Int := (nums.map signed).flatten
def tails (texts : List ByteArray) : List Int := (texts.map fun s => plain s.size ++ bytesOf s).flatten
def enc (nums : List Int) (texts : List ByteArray) : List Int := plain nums.length ++ body nums ++ plain texts.length ++ tails texts
def okNum (n : Int) : Bool := decide (-4611686018427387904 ≤ n) && decide (n ≤ 4611686018427387903)
def okText (s : ByteArray) : Bool := decide (s.size ≤ 4096)
/-- Which packs may be. -/
def chk (nums : List Int) (texts : List ByteArray) : Int :=
 if 1024 < nums.length ∨ 1024 < texts.length then 2 else if nums.all okNum = false then 1 else if texts.all okText = false then 2 else 0
theorem okNum_iff {n : Int} : okNum n = true ↔ -4611686018427387904 ≤ n ∧ n ≤ 4611686018427387903 := by simp [okNum]
theorem okText_iff {s : ByteArray} : okText s = true ↔ s.size ≤ 4096 := by simp [okText]
theorem chk_ok {nums : List Int} {texts : List ByteArray} (h : chk nums texts = 0) : nums.length ≤ 1024 ∧ texts.length ≤ 1024 ∧ (∀ n ∈ nums, -4611686018427387904 ≤ n ∧ n ≤ 4611686018427387903) ∧ ∀ s ∈ texts, s.size ≤ 4096 := by
 unfold chk at h
 split at h
 ·omega
 split at h
 ·omega
 split at h
 ·omega
 rename_i h1 h2 h3
 refine ⟨by omega, by omega, fun n hn => ?_, fun s hs => ?_⟩
 ·have := List.all_eq_true.1 (by simpa using h2) n hn
  exact okNum_iff.1 this
 ·have := List.all_eq_true.1 (by simpa using h3) s hs
  exact okText_iff.1 this
theorem chk_of {nums : List Int} {texts : List ByteArray} (h1 : nums.length ≤ 1024) (h2 : texts.length ≤ 1024) (h3 : ∀ n ∈ nums, -4611686018427387904 ≤ n ∧ n ≤ 4611686018427387903) (h4 : ∀ s ∈ texts, s.size ≤ 4096) : chk nums texts = 0 := by
 have a1 : nums.all okNum = true := List.all_eq_true.2 fun n hn => okNum_iff.2 (h3 n hn)
 have a2 : texts.all okText = true := List.all_eq_true.2 fun s hs => okText_iff.2 (h4 s hs)
 unfold chk
 rw [if_neg (by omega), a1, a2]
 rfl
theorem body_len {nums : List Int} (h : ∀ n ∈ nums, -4611686018427387904 ≤ n ∧ n ≤ 4611686018427387903) : (body nums).length ≤ 9 * nums.length := by
 induction nums with
 |nil => simp [body]
 |cons n l ih =>
  have h0 := h n (by simp)
  have h1 := ih (fun m hm => h m (by simp [hm]))
  have h2 : (signed n).length ≤ 9 := plain_len9 (zig_lt h0.1 h0.2)
  simp only [body, List.map_cons, List.flatten_cons, List.length_append, List.length_cons] at h1 ⊢
  omega
theorem tails_len {texts : List ByteArray} (h : ∀ s ∈ texts, s.size ≤ 4096) : (tails texts).length ≤ 4105 * texts.length := by
 induction texts with
 |nil => simp [tails]
 |cons s l ih =>
  have h0 := h s (by simp)
  have h1 := ih (fun m hm => h m (by simp [hm]))
  have h2 : (plain s.size).length ≤ 9 := plain_len9 (by omega)
  simp only [tails, List.map_cons, List.flatten_cons, List.length_append, List.length_cons, bytesOf_length] at h1 ⊢
  omega
theorem enc_len {nums : List Int} {texts : List ByteArray} (h : chk nums texts = 0) : (enc nums texts).length ≤ 4300000 := by
 obtain ⟨h1, h2, h3, h4⟩ := chk_ok h
 have a := body_len h3
 have b := tails_len h4
 have c : (plain nums.length).length ≤ 9 := plain_len9 (by omega)
 have d : (plain texts.length).length ≤ 9 := plain_len9 (by omega)
 simp only [enc, List.length_append]
 omega
end Go.Proofs.Ytbfjbcaabijpfaa.PackMath

namespace Go.Proofs.Ytbfjbcaabijpfaa.PackDec
open Go.RowKit Go.Proofs.Ytbfjbcaabijpfaa.Base Go.Proofs.Ytbfjbcaabijpfaa.PackMath Go.Proofs.YtbfjbcaabijpfaaW.PrintWords
/-- A number at the front of bytes: its value, how many bytes it has, the error (50: they end early, 3: no number). -/
def pn : Nat → Nat → Nat → List Int → Nat × Nat × Int
 |0, _, _, _ => (0, 0, 3)
 |_ + 1, _, _, [] => (0, 0, 50)
 |d + 1, i, n, b :: l => if b < 128 then (if b = 0 ∧ 0 < i then (0, 0, 3) else (n + (b % 128).toNat * 2 ^ (7 * i), i + 1, 0)) else pn d (i + 1) (n + (b % 128).toNat * 2 ^ (7 * i)) l
theorem pow_next (i : Nat) : 2 ^ (7 * (i + 1)) = 2 ^ (7 * i) * 128 := by rw [Nat.mul_add, Nat.pow_add]
theorem pn_plain : ∀ (m d i n : Nat) (r : List Int), (plain m).length ≤ d → (i = 0 ∨ 0 < m) → pn d i n (plain m ++ r) = (n + m * 2 ^ (7 * i), i + (plain m).length, 0) := by
 intro m
 induction m using Nat.strongRecOn with
 |ind m ih =>
  intro d i n r hd hi
  obtain ⟨d, rfl⟩ : ∃ e, d = e + 1 := ⟨d - 1, by have := plain_pos m; omega⟩
  by_cases hm : m < 128
  ·rw [plain_small hm]
   show (if (m : Int) < 128 then _ else _) = _
   rw [if_pos (by omega), if_neg (by omega), show ((m : Int) % 128).toNat = m from by omega]
   rfl
  ·have h128 : 128 ≤ m := by omega
   rw [plain_big h128] at hd ⊢
   simp only [List.length_cons] at hd
   have e := ih (m / 128) (by omega) d (i + 1) (n + m % 128 * 2 ^ (7 * i)) r (by omega) (Or.inr (by omega))
   show (if ((m % 128 + 128 : Nat) : Int) < 128 then _ else _) = _
   rw [if_neg (by omega), show (((m % 128 + 128 : Nat) : Int) % 128).toNat = m % 128 from by omega]
   show pn d (i + 1) (n + m % 128 * 2 ^ (7 * i)) (plain (m / 128) ++ r) = _
   rw [e]
   refine Prod.ext ?_ (Prod.ext ?_ rfl)
   ·show n + m % 128 * 2 ^ (7 * i) + m / 128 * 2 ^ (7 * (i + 1)) = n + m * 2 ^ (7 * i)
    rw [pow_next]
    generalize 2 ^ (7 * i) = P
    have h : m * P = (128 * (m / 128) + m % 128) * P := by rw [Nat.div_add_mod]
    rw [h, Nat.add_mul, show m / 128 * (P * 128) = 128 * (m / 128) * P from by ac_rfl]
    omega
   ·simp only [List.length_cons]; omega
theorem pn_ok : ∀ (d i n : Nat) (l : List Int) (v k : Nat), (∀ b ∈ l, 0 ≤ b ∧ b ≤ 255) → pn d i n l = (v, k, 0) → ∃ m r, l = plain m ++ r ∧ v = n + m * 2 ^ (7 * i) ∧ k = i + (plain m).length ∧ (plain m).length ≤ d ∧ (i = 0 ∨ 0 < m)
 |0, i, n, l, v, k, _, h => by simp [pn] at h
 |d + 1, i, n, [], v, k, _, h => by simp [pn] at h
 |d + 1, i, n, b :: l, v, k, hb, h => by
  have hb0 := hb b List.mem_cons_self
  have h' : (if b < 128 then (if b = 0 ∧ 0 < i then (0, 0, 3) else (n + (b % 128).toNat * 2 ^ (7 * i), i + 1, 0)) else pn d (i + 1) (n + (b % 128).toNat * 2 ^ (7 * i)) l) = (v, k, (0 : Int)) := h
  clear h
  by_cases h1 : b < 128
  ·rw [if_pos h1] at h'
   by_cases h2 : b = 0 ∧ 0 < i
   ·rw [if_pos h2] at h'; simp at h'
   ·rw [if_neg h2] at h'
    simp only [Prod.mk.injEq, and_true] at h'
    obtain ⟨rfl, rfl⟩ := h'
    refine ⟨b.toNat, l, ?_, ?_, ?_, ?_, ?_⟩
    ·rw [plain_small (by omega)]; simp; omega
    ·rw [show (b % 128).toNat = b.toNat from by omega]
    ·rw [plain_small (by omega)]; rfl
    ·rw [plain_small (by omega)]; simp
    ·omega
  ·rw [if_neg h1] at h'
   obtain ⟨m, r, rfl, rfl, rfl, hl, hm⟩ := pn_ok d (i + 1) _ l v k (fun c hc => hb c (List.mem_cons_of_mem _ hc)) h'
   have hm0 : 0 < m := by omega
   have hp : plain ((b % 128).toNat + 128 * m) = b :: plain m := by
    rw [plain_big (by omega)]
    congr 1
    ·omega
    ·congr 1; omega
   refine ⟨(b % 128).toNat + 128 * m, r, by rw [hp]; rfl, ?_, by rw [hp]; simp only [List.length_cons]; omega, by rw [hp]; simp only [List.length_cons]; omega, Or.inr (by omega)⟩
   rw [pow_next]
   generalize 2 ^ (7 * i) = P
   rw [Nat.add_mul, show m * (P * 128) = 128 * m * P from by ac_rfl]
   omega
theorem plain_lt : ∀ (k m : Nat), (plain m).length ≤ k → m < 128 ^ k
 |0, m, h => by have := plain_pos m; omega
 |k + 1, m, h => by
  by_cases hm : m < 128
  ·have : 0 < 128 ^ k := Nat.pow_pos (by omega)
   rw [Nat.pow_succ]; omega
  ·rw [plain_big (by omega)] at h
   have := plain_lt k (m / 128) (by simpa using h)
   rw [Nat.pow_succ]; omega
theorem plain_lt9 {m : Nat} (h : (plain m).length ≤ 9) : m < 9223372036854775808 := by simpa using plain_lt 9 m h
/-- The bytes from a place on. -/
def rest (s : ByteArray) (p : Nat) : List Int := (bytesOf s).drop p
theorem rest_length (s : ByteArray) (p : Nat) : (rest s p).length = s.size - p := by rw [rest, List.length_drop, bytesOf_length]
theorem rest_range (s : ByteArray) (p : Nat) : ∀ b ∈ rest s p, 0 ≤ b ∧ b ≤ 255 := by
 intro b hb
 have := List.mem_of_mem_drop hb
 simp only [bytesOf, List.mem_map] at this
 obtain ⟨c, _, rfl⟩ := this
 have := c.toNat_lt
 omega
theorem rest_step {s : ByteArray} {p : Nat} {a r : List Int} (h : rest s p = a ++ r) : rest s (p + a.length) = r := by
 unfold rest at h ⊢
 rw [← List.drop_drop, h, List.drop_left]
/-- A number at a place: its value, the place behind, the error; at the place itself, or (50) at the end. -/
def rdn (s : ByteArray) (p : Nat) : Nat × Nat × Int :=
 ((pn 9 0 0 (rest s p)).1, if (pn 9 0 0 (rest s p)).2.2 = 0 then p + (pn 9 0 0 (rest s p)).2.1 else if (pn 9 0 0 (rest s p)).2.2 = 50 then s.size else p, (pn 9 0 0 (rest s p)).2.2)
theorem rdn_plain {s : ByteArray} {p m : Nat} {r : List Int} (h : rest s p = plain m ++ r) (hm : m < 9223372036854775808) : rdn s p = (m, p + (plain m).length, 0) := by
 have e := pn_plain m 9 0 0 r (plain_len9 hm) (Or.inl rfl)
 unfold rdn
 rw [h, e]
 simp
theorem rdn_ok {s : ByteArray} {p : Nat} (h : (rdn s p).2.2 = 0) : (rdn s p).1 < 9223372036854775808 ∧ (rdn s p).2.1 = p + (plain (rdn s p).1).length ∧ ∃ r, rest s p = plain (rdn s p).1 ++ r := by
 have h0 : (pn 9 0 0 (rest s p)).2.2 = 0 := h
 obtain ⟨m, r, h1, h2, h3, h4, _⟩ := pn_ok 9 0 0 (rest s p) (pn 9 0 0 (rest s p)).1 (pn 9 0 0 (rest s p)).2.1 (rest_range s p) (by rw [← h0])
 have hm := plain_lt9 h4
 have e := rdn_plain h1 hm
 rw [e]
 exact ⟨hm, rfl, r, h1⟩
/-- A number that is at most another one. -/
def cnt (s : ByteArray) (p most : Nat) : Nat × Nat × Int := if (rdn s p).2.2 = 0 ∧ most < (rdn s p).1 then (0, p, 2) else rdn s p
theorem cnt_plain {s : ByteArray} {p m most : Nat} {r : List Int} (h : rest s p = plain m ++ r) (hm : m ≤ most) (hmost : most < 9223372036854775808) : cnt s p most = (m, p + (plain m).length, 0) := by
 unfold cnt
 rw [rdn_plain h (by omega), if_neg (by omega)]
theorem cnt_ok {s : ByteArray} {p most : Nat} (h : (cnt s p most).2.2 = 0) : cnt s p most = rdn s p ∧ (rdn s p).2.2 = 0 ∧ (rdn s p).1 ≤ most := by
 unfold cnt at h ⊢
 split at h
 ·simp at h
 ·rename_i hc
  rw [if_neg hc]
  exact ⟨rfl, h, by omega⟩
def decN (s : ByteArray) : Nat → Nat → List Int → List Int × Nat × Int
 |0, p, xs => (xs, p, 0)
 |m + 1, p, xs => if (rdn s p).2.2 = 0 then decN s m (rdn s p).2.1 (xs ++ [zag (rdn s p).1]) else (xs, (rdn s p).2.1, (rdn s p).2.2)
/-- A text at a place. -/
def txt (s : ByteArray) (p : Nat) : ByteArray × Nat × Int :=
 if (cnt s p 4096).2.2 = 0 then (if s.size - (cnt s p 4096).2.1 < (cnt s p 4096).1 then (⟨#[]⟩, s.size, 50) else (s.extract (cnt s p 4096).2.1 ((cnt s p 4096).2.1 + (cnt s p 4096).1), (cnt s p 4096).2.1 + (cnt s p 4096).1, 0))
 else (⟨#[]⟩, (cnt s p 4096).2.1, (cnt s p 4096).2.2)
def decT (s : ByteArray) : Nat → Nat → List ByteArray → List ByteArray × Nat × Int
 |0, p, xs => (xs, p, 0)
 |m + 1, p, xs => if (txt s p).2.2 = 0 then decT s m (txt s p).2.1 (xs ++ [(txt s p).1]) else (xs, (txt s p).2.1, (txt s p).2.2)
/-- The pack of bytes; or the place and the error. -/
def dec (s : ByteArray) : List Int × List ByteArray × Nat × Int :=
 if (cnt s 0 1024).2.2 = 0 then
  if (decN s (cnt s 0 1024).1 (cnt s 0 1024).2.1 []).2.2 = 0 then
   if (cnt s (decN s (cnt s 0 1024).1 (cnt s 0 1024).2.1 []).2.1 1024).2.2 = 0 then
    if (decT s (cnt s (decN s (cnt s 0 1024).1 (cnt s 0 1024).2.1 []).2.1 1024).1 (cnt s (decN s (cnt s 0 1024).1 (cnt s 0 1024).2.1 []).2.1 1024).2.1 []).2.2 = 0 then
     if (decT s (cnt s (decN s (cnt s 0 1024).1 (cnt s 0 1024).2.1 []).2.1 1024).1 (cnt s (decN s (cnt s 0 1024).1 (cnt s 0 1024).2.1 []).2.1 1024).2.1 []).2.1 < s.size then
      ([], [], (decT s (cnt s (decN s (cnt s 0 1024).1 (cnt s 0 1024).2.1 []).2.1 1024).1 (cnt s (decN s (cnt s 0 1024).1 (cnt s 0 1024).2.1 []).2.1 1024).2.1 []).2.1, 3)
     else ((decN s (cnt s 0 1024).1 (cnt s 0 1024).2.1 []).1, (decT s (cnt s (decN s (cnt s 0 1024).1 (cnt s 0 1024).2.1 []).2.1 1024).1 (cnt s (decN s (cnt s 0 1024).1 (cnt s 0 1024).2.1 []).2.1 1024).2.1 []).1, 0, 0)
    else ([], [], (decT s (cnt s (decN s (cnt s 0 1024).1 (cnt s 0 1024).2.1 []).2.1 1024).1 (cnt s (decN s (cnt s 0 1024).1 (cnt s 0 1024).2.1 []).2.1 1024).2.1 []).2)
   else ([], [], (cnt s (decN s (cnt s 0 1024).1 (cnt s 0 1024).2.1 []).2.1 1024).2)
  else ([], [], (decN s (cnt s 0 1024).1 (cnt s 0 1024).2.1 []).2)
 else ([], [], (cnt s 0 1024).2)
theorem dec_of {s : ByteArray} {m p q n u r : Nat} {xs : List Int} {ys : List ByteArray} (h1 : cnt s 0 1024 = (m, p, 0)) (h2 : decN s m p [] = (xs, q, 0)) (h3 : cnt s q 1024 = (n, u, 0)) (h4 : decT s n u [] = (ys, r, 0)) : dec s = if r < s.size then ([], [], r, 3) else (xs, ys, 0, 0) := by
 unfold dec
 simp only [h1, h2, h3, h4, if_true]
theorem dec_ok {s : ByteArray} (h : (dec s).2.2.2 = 0) : ∃ m p q n u r xs ys, cnt s 0 1024 = (m, p, 0) ∧ decN s m p [] = (xs, q, 0) ∧ cnt s q 1024 = (n, u, 0) ∧ decT s n u [] = (ys, r, 0) ∧ s.size ≤ r ∧ dec s = (xs, ys, 0, 0) := by
 unfold dec at h ⊢
 obtain ⟨m, p, e, h1⟩ : ∃ m p e, cnt s 0 1024 = (m, p, e) := ⟨_, _, _, rfl⟩
 simp only [h1] at h ⊢
 by_cases he : e = 0
 ·rw [if_pos he] at h ⊢
  subst he
  obtain ⟨xs, q, e, h2⟩ : ∃ xs q e, decN s m p [] = (xs, q, e) := ⟨_, _, _, rfl⟩
  simp only [h2] at h ⊢
  by_cases he : e = 0
  ·rw [if_pos he] at h ⊢
   subst he
   obtain ⟨n, u, e, h3⟩ : ∃ n u e, cnt s q 1024 = (n, u, e) := ⟨_, _, _, rfl⟩
   simp only [h3] at h ⊢
   by_cases he : e = 0
   ·rw [if_pos he] at h ⊢
    subst he
    obtain ⟨ys, r, e, h4⟩ : ∃ ys r e, decT s n u [] = (ys, r, e) := ⟨_, _, _, rfl⟩
    simp only [h4] at h ⊢
    by_cases he : e = 0
    ·rw [if_pos he] at h ⊢
     subst he
     by_cases hr : r < s.size
     ·rw [if_pos hr] at h; simp at h
     ·rw [if_neg hr]
      exact ⟨m, p, q, n, u, r, xs, ys, rfl, h2, h3, h4, by omega, rfl⟩
    ·rw [if_neg he] at h; exact absurd h he
   ·rw [if_neg he] at h; exact absurd h he
  ·rw [if_neg he] at h; exact absurd h he
 ·rw [if_neg he] at h; exact absurd h he
theorem dec_no {s : ByteArray} (h : (dec s).2.2.2 ≠ 0) : (dec s).1 = [] ∧ (dec s).2.1 = [] := by
 unfold dec at h ⊢
 repeat (first | (exact ⟨rfl, rfl⟩) | (exact absurd rfl h) | split at h)
 all_goals simp_all
end Go.Proofs.Ytbfjbcaabijpfaa.PackDec

namespace Go.Proofs.Ytbfjbcaabijpfaa.PackDec
open Go.RowKit Go.Proofs.Ytbfjbcaabijpfaa.Base Go.Proofs.Ytbfjbcaabijpfaa.PackMath Go.Proofs.YtbfjbcaabijpfaaW.PrintWords
theorem str_bytes (s : ByteArray) : strOfNums (bytesOf s) = s := by
 apply B_inj
 rw [B_nums]
 unfold bytesOf B
 rw [List.map_map]
 conv => rhs; rw [← List.map_id s.data.toList]
 apply List.map_congr_left
 intro b _
 simp
theorem bytes_inj {s t : ByteArray} (h : bytesOf s = bytesOf t) : s = t := by rw [← str_bytes s, h, str_bytes]
theorem bytes_extract (s : ByteArray) (i j : Nat) : bytesOf (s.extract i j) = ((bytesOf s).take j).drop i := by
 have e : ∀ t, bytesOf t = (B t).map fun b => (b.toNat : Int) := fun _ => rfl
 rw [e, e, B_extract, List.map_drop, List.map_take]
theorem extract_rest {s t : ByteArray} {q : Nat} {r : List Int} (h : rest s q = bytesOf t ++ r) : s.extract q (q + t.size) = t := by
 apply bytes_inj
 rw [bytes_extract, List.drop_take, show q + t.size - q = t.size from by omega]
 show (rest s q).take t.size = _
 rw [h, List.take_left' (bytesOf_length t)]
theorem body_cons (n : Int) (l : List Int) : body (n :: l) = plain (zig n) ++ body l := rfl
theorem tails_cons (t : ByteArray) (l : List ByteArray) : tails (t :: l) = plain t.size ++ (bytesOf t ++ tails l) := by simp [tails]
def Nums (l : List Int) : Prop := ∀ n ∈ l, -4611686018427387904 ≤ n ∧ n ≤ 4611686018427387903
def Texts (l : List ByteArray) : Prop := ∀ s ∈ l, s.size ≤ 4096
theorem decN_body {s : ByteArray} : ∀ (nums : List Int) (p : Nat) (acc r : List Int), Nums nums → rest s p = body nums ++ r → decN s nums.length p acc = (acc ++ nums, p + (body nums).length, 0)
 |[], p, acc, r, _, _ => by simp [decN, body]
 |n :: l, p, acc, r, hn, h => by
  rw [body_cons, List.append_assoc] at h
  have h0 := hn n List.mem_cons_self
  have e := rdn_plain h (zig_lt h0.1 h0.2)
  have ih := decN_body l (p + (plain (zig n)).length) (acc ++ [n]) r (fun m hm => hn m (List.mem_cons_of_mem _ hm)) (rest_step h)
  show (if (rdn s p).2.2 = 0 then decN s l.length (rdn s p).2.1 (acc ++ [zag (rdn s p).1]) else _) = _
  rw [e]
  simp only [if_true, zag_zig]
  rw [ih, body_cons]
  simp [Nat.add_assoc]
theorem txt_at {s t : ByteArray} {p : Nat} {r : List Int} (ht : t.size ≤ 4096) (h : rest s p = plain t.size ++ (bytesOf t ++ r)) : txt s p = (t, p + (plain t.size).length + t.size, 0) := by
 have e := cnt_plain h ht (by omega)
 have h2 := rest_step h
 have hl := rest_length s (p + (plain t.size).length)
 rw [h2, List.length_append, bytesOf_length] at hl
 unfold txt
 rw [e]
 simp only [if_true]
 rw [if_neg (by omega), extract_rest h2]
theorem decT_tails {s : ByteArray} : ∀ (texts : List ByteArray) (p : Nat) (acc : List ByteArray) (r : List Int), Texts texts → rest s p = tails texts ++ r → decT s texts.length p acc = (acc ++ texts, p + (tails texts).length, 0)
 |[], p, acc, r, _, _ => by simp [decT, tails]
 |t :: l, p, acc, r, hn, h => by
  rw [tails_cons, List.append_assoc, List.append_assoc] at h
  have h0 := hn t List.mem_cons_self
  have e := txt_at h0 h
  have h2 := rest_step (rest_step h)
  rw [bytesOf_length] at h2
  have ih := decT_tails l (p + (plain t.size).length + t.size) (acc ++ [t]) r (fun m hm => hn m (List.mem_cons_of_mem _ hm)) h2
  show (if (txt s p).2.2 = 0 then decT s l.length (txt s p).2.1 (acc ++ [(txt s p).1]) else _) = _
  rw [e]
  simp only [if_true]
  rw [ih, tails_cons]
  simp [Nat.add_assoc, bytesOf_length]
theorem rest_zero (s : ByteArray) : rest s 0 = bytesOf s := rfl
/-- What is encoded, and what stands behind. -/
theorem dec_enc {s : ByteArray} {nums : List Int} {texts : List ByteArray} {r : List Int} (hc : chk nums texts = 0) (h : bytesOf s = enc nums texts ++ r) : dec s = if r = [] then (nums, texts, 0, 0) else ([], [], (enc nums texts).length, 3) := by
 obtain ⟨h1, h2, h3, h4⟩ := chk_ok hc
 have h0 : rest s 0 = plain nums.length ++ (body nums ++ (plain texts.length ++ (tails texts ++ r))) := by
  rw [rest_zero, h]; simp [enc, List.append_assoc]
 have e1 := cnt_plain (most := 1024) h0 h1 (by omega)
 have r1 := rest_step h0
 have e2 := decN_body nums _ [] _ h3 r1
 have r2 := rest_step r1
 have e3 := cnt_plain (most := 1024) r2 h2 (by omega)
 have r3 := rest_step r2
 have e4 := decT_tails texts _ [] _ h4 r3
 have r4 := rest_step r3
 have hl := rest_length s (0 + (plain nums.length).length + (body nums).length + (plain texts.length).length + (tails texts).length)
 rw [r4] at hl
 have hlen : (enc nums texts).length = 0 + (plain nums.length).length + (body nums).length + (plain texts.length).length + (tails texts).length := by simp only [enc, List.length_append]; omega
 have hs : s.size = (enc nums texts).length + r.length := by rw [← bytesOf_length, h, List.length_append]
 rw [dec_of e1 e2 e3 e4, ← hlen]
 by_cases hr : r = []
 ·subst hr
  rw [if_pos rfl, if_neg (by simp at hs; omega)]
  simp
 ·have : 0 < r.length := List.length_pos_iff.2 hr
  rw [if_neg hr, if_pos (by omega)]
theorem decN_ok {s : ByteArray} : ∀ (m p : Nat) (acc xs : List Int) (q : Nat), decN s m p acc = (xs, q, 0) → ∃ nums, xs = acc ++ nums ∧ nums.length = m ∧ Nums nums ∧ rest s p = body nums ++ rest s q
 |0, p, acc, xs, q, h => by
  simp only [decN, Prod.mk.injEq, and_true] at h
  obtain ⟨rfl, rfl⟩ := h
  exact ⟨[], by simp, rfl, fun n hn => by simp at hn, rfl⟩
 |m + 1, p, acc, xs, q, h => by
  have h' : (if (rdn s p).2.2 = 0 then decN s m (rdn s p).2.1 (acc ++ [zag (rdn s p).1]) else (acc, (rdn s p).2.1, (rdn s p).2.2)) = (xs, q, 0) := h
  by_cases he : (rdn s p).2.2 = 0
  ·rw [if_pos he] at h'
   obtain ⟨nums, rfl, rfl, hn, hr⟩ := decN_ok m _ _ xs q h'
   obtain ⟨hv, hq, r, hp⟩ := rdn_ok he
   have hr2 := rest_step hp
   rw [← hq] at hr2
   refine ⟨zag (rdn s p).1 :: nums, by simp, by simp, fun n hm => ?_, ?_⟩
   ·rcases List.mem_cons.1 hm with rfl | hm
    ·exact zag_range hv
    ·exact hn n hm
   ·rw [body_cons, zig_zag, List.append_assoc, ← hr, hr2]; exact hp
  ·rw [if_neg he] at h'
   simp only [Prod.mk.injEq] at h'
   exact absurd h'.2.2 he
theorem txt_ok {s : ByteArray} {p : Nat} (h : (txt s p).2.2 = 0) : (txt s p).1.size ≤ 4096 ∧ rest s p = plain (txt s p).1.size ++ (bytesOf (txt s p).1 ++ rest s (txt s p).2.1) := by
 unfold txt at h ⊢
 by_cases he : (cnt s p 4096).2.2 = 0
 ·rw [if_pos he] at h ⊢
  by_cases hl : s.size - (cnt s p 4096).2.1 < (cnt s p 4096).1
  ·rw [if_pos hl] at h; simp at h
  ·rw [if_neg hl]
   obtain ⟨e1, e2, e3⟩ := cnt_ok he
   obtain ⟨hv, hq, r, hp⟩ := rdn_ok e2
   rw [e1] at hl ⊢
   generalize (rdn s p).1 = v at *
   have hr := rest_step hp
   rw [← hq] at hr
   generalize (rdn s p).2.1 = q at *
   have hrl := rest_length s q
   rw [hr] at hrl
   have hsz : (s.extract q (q + v)).size = v := by rw [ByteArray.size_extract]; omega
   show (s.extract q (q + v)).size ≤ 4096 ∧ rest s p = plain (s.extract q (q + v)).size ++ (bytesOf (s.extract q (q + v)) ++ rest s (q + v))
   rw [hsz]
   refine ⟨e3, ?_⟩
   rw [hp]
   congr 1
   rw [bytes_extract, List.drop_take, show q + v - q = v from by omega]
   have e : (bytesOf s).drop q = r := hr
   have e2 : rest s (q + v) = r.drop v := by rw [← e, List.drop_drop]; rfl
   rw [e, e2, List.take_append_drop]
 ·rw [if_neg he] at h; exact absurd h he
theorem decT_ok {s : ByteArray} : ∀ (m p : Nat) (acc xs : List ByteArray) (q : Nat), decT s m p acc = (xs, q, 0) → ∃ texts, xs = acc ++ texts ∧ texts.length = m ∧ Texts texts ∧ rest s p = tails texts ++ rest s q
 |0, p, acc, xs, q, h => by
  simp only [decT, Prod.mk.injEq, and_true] at h
  obtain ⟨rfl, rfl⟩ := h
  exact ⟨[], by simp, rfl, fun n hn => by simp at hn, rfl⟩
 |m + 1, p, acc, xs, q, h => by
  have h' : (if (txt s p).2.2 = 0 then decT s m (txt s p).2.1 (acc ++ [(txt s p).1]) else (acc, (txt s p).2.1, (txt s p).2.2)) = (xs, q, 0) := h
  by_cases he : (txt s p).2.2 = 0
  ·rw [if_pos he] at h'
   obtain ⟨texts, rfl, rfl, hn, hr⟩ := decT_ok m _ _ xs q h'
   obtain ⟨hv, hp⟩ := txt_ok he
   refine ⟨(txt s p).1 :: texts, by simp, by simp, fun n hm => ?_, ?_⟩
   ·rcases List.mem_cons.1 hm with rfl | hm
    ·exact hv
    ·exact hn n hm
   ·rw [tails_cons, List.append_assoc, List.append_assoc, ← hr]; exact hp
  ·rw [if_neg he] at h'
   simp only [Prod.mk.injEq] at h'
   exact absurd h'.2.2 he
/-- What is decoded is encoded as just those bytes. -/
theorem enc_dec {s : ByteArray} (h : (dec s).2.2.2 = 0) : ∃ ns ts, dec s = (ns, ts, 0, 0) ∧ chk ns ts = 0 ∧ bytesOf s = enc ns ts := by
 obtain ⟨m, p, q, n, u, r, xs, ys, h1, h2, h3, h4, hr, hd⟩ := dec_ok h
 obtain ⟨c1, c2, c3⟩ := cnt_ok (s := s) (p := 0) (most := 1024) (by rw [h1])
 obtain ⟨_, a2, r1, a3⟩ := rdn_ok c2
 have b1 := rest_step a3
 rw [← a2] at b1
 rw [← c1, h1] at a2 a3 c3 b1
 obtain ⟨ns, e1, e2, hn, g1⟩ := decN_ok m p [] xs q h2
 obtain ⟨d1, d2, d3⟩ := cnt_ok (s := s) (p := q) (most := 1024) (by rw [h3])
 obtain ⟨_, f2, r2, f3⟩ := rdn_ok d2
 have b2 := rest_step f3
 rw [← f2] at b2
 rw [← d1, h3] at f2 f3 d3 b2
 obtain ⟨ts, e3, e4, ht, g2⟩ := decT_ok n u [] ys r h4
 simp only [List.nil_append] at e1 e3
 subst e1 e3
 simp only at a2 a3 b1 c3 f2 f3 b2 d3
 refine ⟨xs, ys, hd, chk_of (by omega) (by omega) hn ht, ?_⟩
 have hz : rest s r = [] := List.drop_of_length_le (by rw [bytesOf_length]; exact hr)
 rw [← rest_zero, a3, ← b1, g1, f3, ← b2, g2, hz, ← e2, ← e4]
 simp [enc, List.append_assoc]
theorem rdn_le {s : ByteArray} {p : Nat} (hp : p ≤ s.size) : (rdn s p).2.1 ≤ s.size := by
 by_cases he : (rdn s p).2.2 = 0
 ·obtain ⟨_, hq, r, h⟩ := rdn_ok he
  have hl := rest_length s p
  rw [h, List.length_append] at hl
  omega
 ·unfold rdn at he ⊢
  simp only at he ⊢
  rw [if_neg he]
  split <;> omega
theorem cnt_le {s : ByteArray} {p most : Nat} (hp : p ≤ s.size) : (cnt s p most).2.1 ≤ s.size := by
 unfold cnt
 split
 ·exact hp
 ·exact rdn_le hp
theorem decN_le {s : ByteArray} : ∀ (m p : Nat) (acc : List Int), p ≤ s.size → (decN s m p acc).2.1 ≤ s.size
 |0, p, acc, h => h
 |m + 1, p, acc, h => by
  unfold decN
  split
  ·exact decN_le m _ _ (rdn_le h)
  ·exact rdn_le h
theorem txt_le {s : ByteArray} {p : Nat} (hp : p ≤ s.size) : (txt s p).2.1 ≤ s.size := by
 have := cnt_le (most := 4096) hp
 unfold txt
 split
 ·split
  ·exact Nat.le_refl _
  ·simp only; omega
 ·exact this
end Go.Proofs.Ytbfjbcaabijpfaa.PackDec

namespace Go.Proofs.Ytbfjbcaabijpfaa.Al
open Go.RowKit Go.Proofs.YtbfjbcaabijpfaaW.PrintWords Go.Proofs.YtbfjbcaabijpfaaW.PrintLast Go.Proofs.YtbfjbcaabijpfaaW.PrintMore
attribute [local go_sem] max2_int min2_int max_two min_two max_three min_three max_four min_four   -- for this text's walks alone
set_option linter.unusedVariables false
set_option linter.unusedSimpArgs false
def pack_reader_fail.f (s0_0 : ByteArray) (s0_1 : Int) (s0_2 : Int) (a1 : Int) (a2 : Int) : Option (Int × ByteArray × Int × Int) := some (0, s0_0, a1, a2)
set_option maxHeartbeats 8000000 in
set_option maxRecDepth 100000 in
theorem pack_reader_fail.calls (g : Nat) (s0_0 : ByteArray) (s0_1 : Int) (s0_2 : Int) (a1 : Int) (a2 : Int) (r1 : Int) (r2 : ByteArray) (r3 : Int) (r4 : Int) (w0 w : World) (hI : IsS72 w0 w g s0_0 s0_1 s0_2) (hB : Below w0.heap.size w0 w) (h : pack_reader_fail.f s0_0 s0_1 s0_2 a1 a2 = some (r1, r2, r3, r4)) :
  Calls Try.prog 47 #[.pointer (some ⟨g, 0, none⟩), .int .i64 a1, .int .i64 a2] w fun e w' => e = .returned (.int .u64 r1) ∧ IsS72 w0 w' g r2 r3 r4 ∧ Below w0.heap.size w0 w' ∧ KeepBut w w' g none := by
 have HI0 := Aside0.mk hI
 have HK := Aside0.mk (KeepBut.refl w g none)
 have HL := Aside0.mk hB.size
 clear hI
 have HW0 := Aside0.mk hB.size
 have HB := Aside0.mk hB
 clear hB
 have H : (some (0, s0_0, a1, a2)) = some (r1, r2, r3, r4) := h
 clear h
 simp only [Option.some.injEq, Prod.mk.injEq] at H
 obtain ⟨rfl, rfl, rfl, rfl⟩ := H
 obtain ⟨HGz4, hgz4⟩ := HI0.out
 have hcz4_0 := cellS72_0 HGz4
 have hcz4_1 := cellS72_1 HGz4
 have hcz4_2 := cellS72_2 HGz4
 have hfz4_0 := blk_frozen HGz4 0
 have hfz4_1 := blk_frozen HGz4 1
 have hfz4_2 := blk_frozen HGz4 2
 clear HGz4 hgz4
 go_enter Try.func47, Try.ntmps47
 go_wp2
 go_ret
 exact ⟨by first | rfl | (simp [errW_none, errW_some] <;> rfl) | (simp [*, errW_none, errW_some] <;> rfl), by repeat (first | (with_reducible first | exact HI0.out | apply IsS72.alloc | apply IsS72.drewN | apply IsS72.drew | apply IsS72.set_0 | apply IsS72.set_1 | apply IsS72.set_2) | exact HI0.out), by repeat (first | (with_reducible first | exact HB.out | apply below_alloc | apply pw_below_drewN | apply below_drew1 | refine below_set ?_ (IsS72.ge HI0.out)) | exact HB.out), by repeat (first | (with_reducible first | exact HK.out | apply KeepBut.set_ | apply keep_drewN | apply keep_drew | apply keep_alloc) | exact HK.out)⟩
end Go.Proofs.Ytbfjbcaabijpfaa.Al

namespace Go.Proofs.Ytbfjbcaabijpfaa.Al
open Go.RowKit Go.Proofs.YtbfjbcaabijpfaaW.PrintWords Go.Proofs.YtbfjbcaabijpfaaW.PrintLast Go.Proofs.YtbfjbcaabijpfaaW.PrintMore
attribute [local go_sem] max2_int min2_int max_two min_two max_three min_three max_four min_four   -- for this text's walks alone
set_option linter.unusedVariables false
set_option linter.unusedSimpArgs false
mutual
def pack_reader_number.l0 : Nat → Int → Int → Int → Int → ByteArray → Int → Int → Option (Int × ByteArray × Int × Int)
 |0, _, _, _, _, _, _, _ => none
 |k + 1, x1, x5, x6, x13, x1000, x1001, x1002 => if x13 < 9 then (if x1002 = 0 then (if (wrap64 (x5 + x13)) = (x1000.size : Int) then ((pack_reader_fail.f x1000 x1001 x1002 (x1000.size : Int) 50).bind fun bt287 => (some (bt287.1, bt287.2.1, bt287.2.2.1, bt287.2.2.2))) else (if 0 ≤ (wrap64 (x5 + x13)) then (if (wrap64 (x5 + x13)) < (x1000.size : Int) then (if 0 ≤ (wrap64 (7 * x13)) then (if (bt x1000 (wrap64 (x5 + x13))) ≥ 128 then (pack_reader_number.l0 k x1 x5 (Go.bits .or .u64 x6 (shl .u64 (IntKind.u64.wrap (Int.tmod (bt x1000 (wrap64 (x5 + x13))) 128)) (wrap64 (7 * x13)))) (wrap64 (x13 + 1)) x1000 x1001 x1002) else (if (bt x1000 (wrap64 (x5 + x13))) = 0 then (pack_reader_number.j1 k x1 x5 (Go.bits .or .u64 x6 (shl .u64 (IntKind.u64.wrap (Int.tmod (bt x1000 (wrap64 (x5 + x13))) 128)) (wrap64 (7 * x13)))) x13 (decide (x13 > 0)) x1000 x1001 x1002) else (pack_reader_number.j1 k x1 x5 (Go.bits .or .u64 x6 (shl .u64 (IntKind.u64.wrap (Int.tmod (bt x1000 (wrap64 (x5 + x13))) 128)) (wrap64 (7 * x13)))) x13 false x1000 x1001 x1002))) else (none)) else (none)) else (none))) else (some (0, x1000, x1001, x1002))) else ((pack_reader_fail.f x1000 x1001 x1002 x5 3).bind fun bt283 => (some (bt283.1, bt283.2.1, bt283.2.2.1, bt283.2.2.2)))
def pack_reader_number.j1 : Nat → Int → Int → Int → Int → Bool → ByteArray → Int → Int → Option (Int × ByteArray × Int × Int)
 |0, _, _, _, _, _, _, _, _ => none
 |k + 1, x1, x5, x6, x7, x55, x1000, x1001, x1002 => if x55 = true then ((pack_reader_fail.f x1000 x1001 x1002 x5 3).bind fun bt291 => (some (bt291.1, bt291.2.1, bt291.2.2.1, bt291.2.2.2))) else (if x6 > x1 then ((pack_reader_fail.f x1000 x1001 x1002 x5 2).bind fun bt295 => (some (bt295.1, bt295.2.1, bt295.2.2.1, bt295.2.2.2))) else (some (x6, x1000, wrap64 ((wrap64 (x5 + x7)) + 1), x1002)))
end
def pack_reader_number.f (k : Nat) (s0_0 : ByteArray) (s0_1 : Int) (s0_2 : Int) (a1 : Int) : Option (Int × ByteArray × Int × Int) := pack_reader_number.l0 k a1 s0_1 0 0 s0_0 s0_1 s0_2
theorem pack_reader_number.mono_l : ∀ k, (∀ y0 y1 y2 y3 y4 y5 y6, LeO (pack_reader_number.l0 k y0 y1 y2 y3 y4 y5 y6) (pack_reader_number.l0 (k + 1) y0 y1 y2 y3 y4 y5 y6)) ∧ (∀ y0 y1 y2 y3 y4 y5 y6 y7, LeO (pack_reader_number.j1 k y0 y1 y2 y3 y4 y5 y6 y7) (pack_reader_number.j1 (k + 1) y0 y1 y2 y3 y4 y5 y6 y7))
 |0 => ⟨fun _ _ _ _ _ _ _ r h => by simp [pack_reader_number.l0] at h, fun _ _ _ _ _ _ _ _ r h => by simp [pack_reader_number.j1] at h⟩
 |k + 1 => by
  obtain ⟨ih0, ih1⟩ := pack_reader_number.mono_l k
  refine ⟨?_, ?_⟩
  ·intro y0 y1 y2 y3 y4 y5 y6
   unfold pack_reader_number.l0
   repeat' first
   |(with_reducible exact ih0 _ _ _ _ _ _ _)
   |(with_reducible exact ih1 _ _ _ _ _ _ _ _)
   |(with_reducible exact LeO.refl _)
   |(with_reducible exact LeO.none _)
   |(with_reducible refine LeO.ite ?_ ?_)
   |(with_reducible refine LeO.bind ?_ (fun _ => ?_))
   |exact ih0 _ _ _ _ _ _ _
   |exact ih1 _ _ _ _ _ _ _ _
   |exact LeO.none _
   |refine LeO.ite ?_ ?_
   |refine LeO.bind ?_ (fun _ => ?_)
  ·intro y0 y1 y2 y3 y4 y5 y6 y7
   unfold pack_reader_number.j1
   repeat' first
   |(with_reducible exact ih0 _ _ _ _ _ _ _)
   |(with_reducible exact ih1 _ _ _ _ _ _ _ _)
   |(with_reducible exact LeO.refl _)
   |(with_reducible exact LeO.none _)
   |(with_reducible refine LeO.ite ?_ ?_)
   |(with_reducible refine LeO.bind ?_ (fun _ => ?_))
   |exact ih0 _ _ _ _ _ _ _
   |exact ih1 _ _ _ _ _ _ _ _
   |exact LeO.none _
   |refine LeO.ite ?_ ?_
   |refine LeO.bind ?_ (fun _ => ?_)
theorem pack_reader_number.mono : ∀ a0 a1 a2 a3 k, LeO (pack_reader_number.f k a0 a1 a2 a3) (pack_reader_number.f (k + 1) a0 a1 a2 a3) := by
 intro a0 a1 a2 a3 k
 obtain ⟨ih0, ih1⟩ := pack_reader_number.mono_l k
 unfold pack_reader_number.f
 repeat' first
   |(with_reducible exact ih0 _ _ _ _ _ _ _)
   |(with_reducible exact ih1 _ _ _ _ _ _ _ _)
   |(with_reducible exact LeO.refl _)
   |(with_reducible exact LeO.none _)
   |(with_reducible refine LeO.ite ?_ ?_)
   |(with_reducible refine LeO.bind ?_ (fun _ => ?_))
   |exact ih0 _ _ _ _ _ _ _
   |exact ih1 _ _ _ _ _ _ _ _
   |exact LeO.none _
   |refine LeO.ite ?_ ?_
   |refine LeO.bind ?_ (fun _ => ?_)
set_option maxHeartbeats 8000000 in
set_option maxRecDepth 100000 in
theorem pack_reader_number.calls (k : Nat) (g : Nat) (s0_0 : ByteArray) (s0_1 : Int) (s0_2 : Int) (a1 : Int) (r1 : Int) (r2 : ByteArray) (r3 : Int) (r4 : Int) (w0 w : World) (hI : IsS72 w0 w g s0_0 s0_1 s0_2) (hB : Below w0.heap.size w0 w) (h : pack_reader_number.f k s0_0 s0_1 s0_2 a1 = some (r1, r2, r3, r4)) :
  Calls Try.prog 45 #[.pointer (some ⟨g, 0, none⟩), .int .u64 a1] w fun e w' => e = .returned (.int .u64 r1) ∧ IsS72 w0 w' g r2 r3 r4 ∧ Below w0.heap.size w0 w' ∧ KeepBut w w' g none := by
 have HI0 := Aside0.mk hI
 have HK := Aside0.mk (KeepBut.refl w g none)
 have HL := Aside0.mk hB.size
 clear hI
 have HW0 := Aside0.mk hB.size
 have HB := Aside0.mk hB
 clear hB
 have H : (pack_reader_number.l0 k a1 s0_1 0 0 s0_0 s0_1 s0_2) = some (r1, r2, r3, r4) := h
 clear h
 have H' := Aside0.mk H
 clear H
 obtain ⟨HGz3, hgz3⟩ := HI0.out
 have hcz3_0 := cellS72_0 HGz3
 have hcz3_1 := cellS72_1 HGz3
 have hcz3_2 := cellS72_2 HGz3
 have hfz3_0 := blk_frozen HGz3 0
 have hfz3_1 := blk_frozen HGz3 1
 have hfz3_2 := blk_frozen HGz3 2
 clear HGz3 hgz3
 go_enter Try.func45, Try.ntmps45
 go_wp2
 go_loopg [6, 13] k (fun kq v6 v13 w' => ∃ (x6_1 : Int) (x13_1 : Int) (x1000_1 : ByteArray) (x1001_1 : Int) (x1002_1 : Int), v6 = .int .u64 x6_1 ∧ v13 = .int .i64 x13_1 ∧ Aside0 (pack_reader_number.l0 kq a1 s0_1 x6_1 x13_1 x1000_1 x1001_1 x1002_1 = some (r1, r2, r3, r4)) ∧ Aside0 (kq ≤ k) ∧ Aside0 (IsS72 w0 w' g x1000_1 x1001_1 x1002_1) ∧ Aside0 (KeepBut w w' g none) ∧ Aside0 (Below w0.heap.size w0 w'))
 case atStart => exact ⟨(0), (0), (s0_0), (s0_1), (s0_2), (by first | rfl | (simp; done) | (simp [*]; done)), (by first | rfl | (simp; done) | (simp [*]; done)), H', ⟨Nat.le_refl _⟩, ⟨by repeat (first | (with_reducible first | exact HI0.out | apply IsS72.alloc | apply IsS72.drewN | apply IsS72.drew | apply IsS72.set_0 | apply IsS72.set_1 | apply IsS72.set_2) | exact HI0.out)⟩, ⟨by repeat (first | (with_reducible first | exact HK.out | apply KeepBut.set_ | apply keep_drewN | apply keep_drew | apply keep_alloc) | exact HK.out)⟩, ⟨by repeat (first | (with_reducible first | exact HB.out | apply below_alloc | apply pw_below_drewN | apply below_drew1 | refine below_set ?_ (IsS72.ge HI0.out)) | exact HB.out)⟩⟩
 case round =>
  clear H'
  (try clear p2); (try clear hcz3_0); (try clear hcz3_1); (try clear hcz3_2); (try clear hfz3_0); (try clear hfz3_1); (try clear hfz3_2)
  obtain ⟨x6_1, x13_1, x1000_1, x1001_1, x1002_1, rfl, rfl, HA, HK1, HI0, HK, HB⟩ := hrel
  cases gk with
  |zero => exact absurd HA.out (by simp [pack_reader_number.l0])
  |succ k1 =>
   have H := HA.out
   clear HA
   simp only [pack_reader_number.l0] at H
   by_cases c4 : x13_1 < 9
   ·rw [if_pos c4] at H
    have c4b0 : decide (x13_1 < 9) = true := decide_eq_true c4
    clear c4
    by_cases c5 : x1002_1 = 0
    ·rw [if_pos c5] at H
     have c5b0 : (x1002_1 == 0) = true := beq_iff_eq.mpr c5
     have c5b1 : (x1002_1 != 0) = false := bne_eq_false_iff_eq.mpr c5
     clear c5
     by_cases c6 : (wrap64 (s0_1 + x13_1)) = (x1000_1.size : Int)
     ·rw [if_pos c6] at H
      have c6b0 : ((wrap64 (s0_1 + x13_1)) == (x1000_1.size : Int)) = true := beq_iff_eq.mpr c6
      have c6b1 : ((wrap64 (s0_1 + x13_1)) != (x1000_1.size : Int)) = false := bne_eq_false_iff_eq.mpr c6
      clear c6
      replace H := Option.bind_eq_some_iff.mp H
      obtain ⟨⟨t287, t288, t289, t290⟩, A70, H⟩ := H
      replace H : (some (t287, t288, t289, t290)) = some (r1, r2, r3, r4) := H
      have A7 := Aside0.mk A70
      clear A70
      simp only [Option.some.injEq, Prod.mk.injEq] at H
      obtain ⟨rfl, rfl, rfl, rfl⟩ := H
      obtain ⟨HGz8, hgz8⟩ := HI0.out
      have hcz8_0 := cellS72_0 HGz8
      have hcz8_1 := cellS72_1 HGz8
      have hcz8_2 := cellS72_2 HGz8
      have hfz8_0 := blk_frozen HGz8 0
      have hfz8_1 := blk_frozen HGz8 1
      have hfz8_2 := blk_frozen HGz8 2
      clear HGz8 hgz8
      go_wp2_with (first | ((with_reducible refine gate_callee (f := 47) rfl ?_); refine goesL_ (some 36) rfl rfl Try.func47 (by kernel_rfl) rfl #[.pointer (some ⟨g, 0, none⟩), .int .i64 (x1000_1.size : Int), .int .i64 50] rfl (by (try simp only [List.map_toArray, List.map_cons, List.map_nil]); first | done | rfl | (simp only [List.length_drop, List.length_take]; rfl)) ?_; (with_reducible refine (pack_reader_fail.calls g x1000_1 x1001_1 x1002_1 (x1000_1.size : Int) 50 t287 t288 t289 t290 w0 _ ?side1 ?side2 A7.out).mono ?_); (case side1 => repeat (first | (with_reducible first | exact HI0.out | apply IsS72.alloc | apply IsS72.drewN | apply IsS72.drew | apply IsS72.set_0 | apply IsS72.set_1 | apply IsS72.set_2) | exact HI0.out)); (case side2 => repeat (first | (with_reducible first | exact HB.out | apply below_alloc | apply pw_below_drewN | apply below_drew1 | refine below_set ?_ (IsS72.ge HI0.out)) | exact HB.out)); rintro e w9 ⟨rfl, hi, hb, hk⟩; refine ⟨_, rfl, ?_⟩; have n0_ := Aside0.mk (KeepBut.trans (by repeat (first | (with_reducible first | exact HK.out | apply KeepBut.set_ | apply keep_drewN | apply keep_drew | apply keep_alloc) | exact HK.out)) hk (.inl rfl)); have n1_ := Aside0.mk (hb); have n2_ := Aside0.mk (hi); clear HK; clear HB; clear HI0; have HK := n0_; have HB := n1_; have HI0 := n2_; clear n0_ n1_ n2_; (try clear hb); (try clear hb2); (try clear hk); (try clear hi)))
      go_ret
      exact ⟨by first | rfl | (simp [errW_none, errW_some] <;> rfl) | (simp [*, errW_none, errW_some] <;> rfl), by repeat (first | (with_reducible first | exact HI0.out | apply IsS72.alloc | apply IsS72.drewN | apply IsS72.drew | apply IsS72.set_0 | apply IsS72.set_1 | apply IsS72.set_2) | exact HI0.out), by repeat (first | (with_reducible first | exact HB.out | apply below_alloc | apply pw_below_drewN | apply below_drew1 | refine below_set ?_ (IsS72.ge HI0.out)) | exact HB.out), by repeat (first | (with_reducible first | exact HK.out | apply KeepBut.set_ | apply keep_drewN | apply keep_drew | apply keep_alloc) | exact HK.out)⟩
     ·rw [if_neg c6] at H
      have c6b0 : ((wrap64 (s0_1 + x13_1)) == (x1000_1.size : Int)) = false := beq_eq_false_iff_ne.mpr c6
      have c6b1 : ((wrap64 (s0_1 + x13_1)) != (x1000_1.size : Int)) = true := bne_iff_ne.mpr c6
      obtain ⟨ji10, hji10⟩ : ∃ j_ : Int, (wrap64 (s0_1 + x13_1)) = j_ := ⟨_, rfl⟩
      replace H : (if 0 ≤ (ji10) then (if (ji10) < (x1000_1.size : Int) then (if 0 ≤ (wrap64 (7 * x13_1)) then (if (bt x1000_1 (ji10)) ≥ 128 then (pack_reader_number.l0 k1 a1 s0_1 (Go.bits .or .u64 x6_1 (shl .u64 (IntKind.u64.wrap (Int.tmod (bt x1000_1 (ji10)) 128)) (wrap64 (7 * x13_1)))) (wrap64 (x13_1 + 1)) x1000_1 x1001_1 x1002_1) else (if (bt x1000_1 (ji10)) = 0 then (pack_reader_number.j1 k1 a1 s0_1 (Go.bits .or .u64 x6_1 (shl .u64 (IntKind.u64.wrap (Int.tmod (bt x1000_1 (ji10)) 128)) (wrap64 (7 * x13_1)))) x13_1 (decide (x13_1 > 0)) x1000_1 x1001_1 x1002_1) else (pack_reader_number.j1 k1 a1 s0_1 (Go.bits .or .u64 x6_1 (shl .u64 (IntKind.u64.wrap (Int.tmod (bt x1000_1 (ji10)) 128)) (wrap64 (7 * x13_1)))) x13_1 false x1000_1 x1001_1 x1002_1))) else (none)) else (none)) else (none)) = some (r1, r2, r3, r4) := by first | (rw [hji10] at H; exact H) | (simp only [hji10] at H ⊢; exact H)
      (try rw [hji10] at c6b0)
      (try rw [hji10] at c6b1)
      have hji10w : (IntKind.i64.wrap (s0_1 + x13_1)) = ji10 := (i64_w _).trans hji10
      by_cases c11 : 0 ≤ (ji10)
      ·rw [if_pos c11] at H
       have c11b0 : decide (0 ≤ (ji10)) = true := decide_eq_true c11
       clear c11
       by_cases c12 : (ji10) < (x1000_1.size : Int)
       ·rw [if_pos c12] at H
        have c12b0 : decide ((ji10) < (x1000_1.size : Int)) = true := decide_eq_true c12
        clear c12
        obtain ⟨ji14, hji14⟩ : ∃ j_ : Int, (wrap64 (7 * x13_1)) = j_ := ⟨_, rfl⟩
        replace H : (if 0 ≤ (ji14) then (if (bt x1000_1 (ji10)) ≥ 128 then (pack_reader_number.l0 k1 a1 s0_1 (Go.bits .or .u64 x6_1 (shl .u64 (IntKind.u64.wrap (Int.tmod (bt x1000_1 (ji10)) 128)) (ji14))) (wrap64 (x13_1 + 1)) x1000_1 x1001_1 x1002_1) else (if (bt x1000_1 (ji10)) = 0 then (pack_reader_number.j1 k1 a1 s0_1 (Go.bits .or .u64 x6_1 (shl .u64 (IntKind.u64.wrap (Int.tmod (bt x1000_1 (ji10)) 128)) (ji14))) x13_1 (decide (x13_1 > 0)) x1000_1 x1001_1 x1002_1) else (pack_reader_number.j1 k1 a1 s0_1 (Go.bits .or .u64 x6_1 (shl .u64 (IntKind.u64.wrap (Int.tmod (bt x1000_1 (ji10)) 128)) (ji14))) x13_1 false x1000_1 x1001_1 x1002_1))) else (none)) = some (r1, r2, r3, r4) := by first | (rw [hji14] at H; exact H) | (simp only [hji14] at H ⊢; exact H)
        have hji14w : (IntKind.i64.wrap (7 * x13_1)) = ji14 := (i64_w _).trans hji14
        by_cases c15 : 0 ≤ (ji14)
        ·rw [if_pos c15] at H
         have c15b0 := eq_true c15
         have c15b1 : decide (0 ≤ (ji14)) = true := decide_eq_true c15
         clear c15
         obtain ⟨ji16, hji16⟩ : ∃ j_ : Int, (shl .u64 (IntKind.u64.wrap (Int.tmod (bt x1000_1 (ji10)) 128)) (ji14)) = j_ := ⟨_, rfl⟩
         replace H : (if (bt x1000_1 (ji10)) ≥ 128 then (pack_reader_number.l0 k1 a1 s0_1 (Go.bits .or .u64 x6_1 (ji16)) (wrap64 (x13_1 + 1)) x1000_1 x1001_1 x1002_1) else (if (bt x1000_1 (ji10)) = 0 then (pack_reader_number.j1 k1 a1 s0_1 (Go.bits .or .u64 x6_1 (ji16)) x13_1 (decide (x13_1 > 0)) x1000_1 x1001_1 x1002_1) else (pack_reader_number.j1 k1 a1 s0_1 (Go.bits .or .u64 x6_1 (ji16)) x13_1 false x1000_1 x1001_1 x1002_1))) = some (r1, r2, r3, r4) := by first | (rw [hji16] at H; exact H) | (simp only [hji16] at H ⊢; exact H)
         have hji16_ : (IntKind.u64.wrap ((IntKind.u64.wrap (Int.tmod (bt x1000_1 (ji10)) 128)) * 2 ^ min (ji14).toNat 64)) = ji16 := hji16
         have hji16z : (ji14) ≤ 64 → (IntKind.u64.wrap ((IntKind.u64.wrap (Int.tmod (bt x1000_1 (ji10)) 128)) * 2 ^ (ji14).toNat)) = ji16 := shl_small hji16
         by_cases c17 : (bt x1000_1 (ji10)) ≥ 128
         ·rw [if_pos c17] at H
          have c17b0 : decide (128 ≤ (bt x1000_1 (ji10))) = true := decide_eq_true c17
          clear c17
          have H' := Aside0.mk H
          clear H
          obtain ⟨HGz18, hgz18⟩ := HI0.out
          have hcz18_0 := cellS72_0 HGz18
          have hcz18_1 := cellS72_1 HGz18
          have hcz18_2 := cellS72_2 HGz18
          have hfz18_0 := blk_frozen HGz18 0
          have hfz18_1 := blk_frozen HGz18 1
          have hfz18_2 := blk_frozen HGz18 2
          clear HGz18 hgz18
          have p13 : 0 ≤ ((ji10) : Int) := of_decide_eq_true (by first | (with_reducible assumption) | assumption)
          have q13 : (ji10) < (x1000_1.size : Int) := of_decide_eq_true (by first | (with_reducible assumption) | assumption)
          have hx13 := bt_at x1000_1 (ji10)
          replace p13 := eq_true p13
          replace q13 := eq_true q13
          go_wp2
          go_roundg k1
          case measure => have := HK1.out; omega
          case rel => exact ⟨(Go.bits .or .u64 x6_1 (ji16)), (wrap64 (x13_1 + 1)), (x1000_1), (x1001_1), (x1002_1), (by first | rfl | (simp; done) | (simp only [← hji16] <;> (first | rfl | simp)) | (simp [*]; done)), (by first | rfl | (simp; done) | (simp [*]; done)), H', ⟨by have := HK1.out; omega⟩, ⟨by repeat (first | (with_reducible first | exact HI0.out | apply IsS72.alloc | apply IsS72.drewN | apply IsS72.drew | apply IsS72.set_0 | apply IsS72.set_1 | apply IsS72.set_2) | exact HI0.out)⟩, ⟨by repeat (first | (with_reducible first | exact HK.out | apply KeepBut.set_ | apply keep_drewN | apply keep_drew | apply keep_alloc) | exact HK.out)⟩, ⟨by repeat (first | (with_reducible first | exact HB.out | apply below_alloc | apply pw_below_drewN | apply below_drew1 | refine below_set ?_ (IsS72.ge HI0.out)) | exact HB.out)⟩⟩
         ·rw [if_neg c17] at H
          have c17b0 : decide (128 ≤ (bt x1000_1 (ji10))) = false := decide_eq_false c17
          clear c17
          have HC19 := Aside0.mk H
          clear H
          obtain ⟨HGz20, hgz20⟩ := HI0.out
          have hcz20_0 := cellS72_0 HGz20
          have hcz20_1 := cellS72_1 HGz20
          have hcz20_2 := cellS72_2 HGz20
          have hfz20_0 := blk_frozen HGz20 0
          have hfz20_1 := blk_frozen HGz20 1
          have hfz20_2 := blk_frozen HGz20 2
          clear HGz20 hgz20
          have p13 : 0 ≤ ((ji10) : Int) := of_decide_eq_true (by first | (with_reducible assumption) | assumption)
          have q13 : (ji10) < (x1000_1.size : Int) := of_decide_eq_true (by first | (with_reducible assumption) | assumption)
          have hx13 := bt_at x1000_1 (ji10)
          replace p13 := eq_true p13
          replace q13 := eq_true q13
          go_upto_region 13 with (fail)
          go_cut [55] (fun v55 wc => ∃ (kq : Nat) (x55_18 : Bool), v55 = .bool x55_18 ∧ Aside0 (pack_reader_number.j1 kq a1 s0_1 (Go.bits .or .u64 x6_1 (ji16)) x13_1 x55_18 x1000_1 x1001_1 x1002_1 = some (r1, r2, r3, r4)) ∧ Aside0 (kq ≤ k1) ∧ Aside0 (IsS72 w0 wc g x1000_1 x1001_1 x1002_1) ∧ Aside0 (KeepBut w wc g none) ∧ Aside0 (Below w0.heap.size w0 wc))
          case first =>
           have H := HC19.out
           clear HC19
           by_cases c21 : (bt x1000_1 (ji10)) = 0
           ·rw [if_pos c21] at H
            have c21b0 : ((bt x1000_1 (ji10)) == 0) = true := beq_iff_eq.mpr c21
            have c21b1 : ((bt x1000_1 (ji10)) != 0) = false := bne_eq_false_iff_eq.mpr c21
            clear c21
            (first | rw [c21b0] | (simp only [i64_w, i32_w]; rw [c21b0]) | skip)
            have H' := Aside0.mk H
            clear H
            go_wp2
            go_meet
            case rel => exact ⟨_, (decide (x13_1 > 0)), (by first | rfl | (simp; done) | (simp [*]; done)), H', ⟨by have := HK1.out; first | omega | exact Nat.le_refl _⟩, ⟨by repeat (first | (with_reducible first | exact HI0.out | apply IsS72.alloc | apply IsS72.drewN | apply IsS72.drew | apply IsS72.set_0 | apply IsS72.set_1 | apply IsS72.set_2) | exact HI0.out)⟩, ⟨by repeat (first | (with_reducible first | exact HK.out | apply KeepBut.set_ | apply keep_drewN | apply keep_drew | apply keep_alloc) | exact HK.out)⟩, ⟨by repeat (first | (with_reducible first | exact HB.out | apply below_alloc | apply pw_below_drewN | apply below_drew1 | refine below_set ?_ (IsS72.ge HI0.out)) | exact HB.out)⟩⟩
           ·rw [if_neg c21] at H
            have c21b0 : ((bt x1000_1 (ji10)) == 0) = false := beq_eq_false_iff_ne.mpr c21
            have c21b1 : ((bt x1000_1 (ji10)) != 0) = true := bne_iff_ne.mpr c21
            (first | rw [c21b0] | (simp only [i64_w, i32_w]; rw [c21b0]) | skip)
            have H' := Aside0.mk H
            clear H
            go_wp2
            go_meet
            case rel => exact ⟨_, (false), (by first | rfl | (simp; done) | (simp [*]; done)), H', ⟨by have := HK1.out; first | omega | exact Nat.le_refl _⟩, ⟨by repeat (first | (with_reducible first | exact HI0.out | apply IsS72.alloc | apply IsS72.drewN | apply IsS72.drew | apply IsS72.set_0 | apply IsS72.set_1 | apply IsS72.set_2) | exact HI0.out)⟩, ⟨by repeat (first | (with_reducible first | exact HK.out | apply KeepBut.set_ | apply keep_drewN | apply keep_drew | apply keep_alloc) | exact HK.out)⟩, ⟨by repeat (first | (with_reducible first | exact HB.out | apply below_alloc | apply pw_below_drewN | apply below_drew1 | refine below_set ?_ (IsS72.ge HI0.out)) | exact HB.out)⟩⟩
          case rest =>
           clear HC19
           (try clear c1); (try clear p1); (try clear q1); (try clear hx1); (try clear c2); (try clear p2); (try clear c4); (try clear c4b0); (try clear c5); (try clear c5b0); (try clear c5b1); (try clear c6); (try clear c6b0); (try clear c6b1); (try clear p6); (try clear c11); (try clear c11b0); (try clear c12); (try clear c12b0); (try clear p13); (try clear q13); (try clear hx13); (try clear c15); (try clear c15b0); (try clear c15b1); (try clear c17); (try clear c17b0); (try clear c21); (try clear c21b0); (try clear c21b1); (try clear hcz18_0); (try clear hcz18_1); (try clear hcz18_2); (try clear hcz20_0); (try clear hcz20_1); (try clear hcz20_2); (try clear hcz3_0); (try clear hcz3_1); (try clear hcz3_2); (try clear hcz8_0); (try clear hcz8_1); (try clear hcz8_2); (try clear hfz18_0); (try clear hfz18_1); (try clear hfz18_2); (try clear hfz20_0); (try clear hfz20_1); (try clear hfz20_2); (try clear hfz3_0); (try clear hfz3_1); (try clear hfz3_2); (try clear hfz8_0); (try clear hfz8_1); (try clear hfz8_2); (try clear p13); (try clear p2); (try clear q13)
           obtain ⟨kq, x55_18, rfl, HA, HJ18, HI0, HK, HB⟩ := hcut
           cases kq with
           |zero => exact absurd HA.out (by simp [pack_reader_number.j1])
           |succ kj18 =>
            have H := HA.out
            clear HA
            simp only [pack_reader_number.j1] at H
            by_cases c22 : x55_18 = true
            ·subst c22
             have H1 : ((pack_reader_fail.f x1000_1 x1001_1 x1002_1 s0_1 3).bind fun bt291 => (some (bt291.1, bt291.2.1, bt291.2.2.1, bt291.2.2.2))) = some (r1, r2, r3, r4) := by rw [if_pos rfl] at H; exact H
             clear H
             have H := H1
             clear H1
             replace H := Option.bind_eq_some_iff.mp H
             obtain ⟨⟨t291, t292, t293, t294⟩, A230, H⟩ := H
             replace H : (some (t291, t292, t293, t294)) = some (r1, r2, r3, r4) := H
             have A23 := Aside0.mk A230
             clear A230
             simp only [Option.some.injEq, Prod.mk.injEq] at H
             obtain ⟨rfl, rfl, rfl, rfl⟩ := H
             go_wp2_with (first | ((with_reducible refine gate_callee (f := 47) rfl ?_); refine goesL_ (some 64) rfl rfl Try.func47 (by kernel_rfl) rfl #[.pointer (some ⟨g, 0, none⟩), .int .i64 s0_1, .int .i64 3] rfl (by (try simp only [List.map_toArray, List.map_cons, List.map_nil]); first | done | rfl | (simp only [List.length_drop, List.length_take]; rfl)) ?_; (with_reducible refine (pack_reader_fail.calls g x1000_1 x1001_1 x1002_1 s0_1 3 t291 t292 t293 t294 w0 _ ?side1 ?side2 A23.out).mono ?_); (case side1 => repeat (first | (with_reducible first | exact HI0.out | apply IsS72.alloc | apply IsS72.drewN | apply IsS72.drew | apply IsS72.set_0 | apply IsS72.set_1 | apply IsS72.set_2) | exact HI0.out)); (case side2 => repeat (first | (with_reducible first | exact HB.out | apply below_alloc | apply pw_below_drewN | apply below_drew1 | refine below_set ?_ (IsS72.ge HI0.out)) | exact HB.out)); rintro e w24 ⟨rfl, hi, hb, hk⟩; refine ⟨_, rfl, ?_⟩; have n0_ := Aside0.mk (KeepBut.trans (by repeat (first | (with_reducible first | exact HK.out | apply KeepBut.set_ | apply keep_drewN | apply keep_drew | apply keep_alloc) | exact HK.out)) hk (.inl rfl)); have n1_ := Aside0.mk (hb); have n2_ := Aside0.mk (hi); clear HK; clear HB; clear HI0; have HK := n0_; have HB := n1_; have HI0 := n2_; clear n0_ n1_ n2_; (try clear hb); (try clear hb2); (try clear hk); (try clear hi)))
             go_ret
             exact ⟨by first | rfl | (simp [errW_none, errW_some] <;> rfl) | (simp only [← hji10, ← hji14, ← hji16]; first | rfl | (simp [errW_none, errW_some] <;> rfl)) | (simp [*, errW_none, errW_some] <;> rfl), by (try simp only [hji10, hji14, hji16]); repeat (first | (with_reducible first | exact HI0.out | apply IsS72.alloc | apply IsS72.drewN | apply IsS72.drew | apply IsS72.set_0 | apply IsS72.set_1 | apply IsS72.set_2) | exact HI0.out), by repeat (first | (with_reducible first | exact HB.out | apply below_alloc | apply pw_below_drewN | apply below_drew1 | refine below_set ?_ (IsS72.ge HI0.out)) | exact HB.out), by repeat (first | (with_reducible first | exact HK.out | apply KeepBut.set_ | apply keep_drewN | apply keep_drew | apply keep_alloc) | exact HK.out)⟩
            ·replace c22 := Bool.eq_false_iff.mpr c22
             subst c22
             have H1 : (if (Go.bits .or .u64 x6_1 (ji16)) > a1 then ((pack_reader_fail.f x1000_1 x1001_1 x1002_1 s0_1 2).bind fun bt295 => (some (bt295.1, bt295.2.1, bt295.2.2.1, bt295.2.2.2))) else (some ((Go.bits .or .u64 x6_1 (ji16)), x1000_1, wrap64 ((wrap64 (s0_1 + x13_1)) + 1), x1002_1))) = some (r1, r2, r3, r4) := by rw [if_neg (show ¬ (false = true) by decide)] at H; exact H
             clear H
             have H := H1
             clear H1
             by_cases c25 : (Go.bits .or .u64 x6_1 (ji16)) > a1
             ·rw [if_pos c25] at H
              have c25b0 : decide (a1 < (Go.bits .or .u64 x6_1 (ji16))) = true := decide_eq_true c25
              clear c25
              replace H := Option.bind_eq_some_iff.mp H
              obtain ⟨⟨t295, t296, t297, t298⟩, A260, H⟩ := H
              replace H : (some (t295, t296, t297, t298)) = some (r1, r2, r3, r4) := H
              have A26 := Aside0.mk A260
              clear A260
              simp only [Option.some.injEq, Prod.mk.injEq] at H
              obtain ⟨rfl, rfl, rfl, rfl⟩ := H
              go_wp2_with (first | ((with_reducible refine gate_callee (f := 47) rfl ?_); refine goesL_ (some 71) rfl rfl Try.func47 (by kernel_rfl) rfl #[.pointer (some ⟨g, 0, none⟩), .int .i64 s0_1, .int .i64 2] rfl (by (try simp only [List.map_toArray, List.map_cons, List.map_nil]); first | done | rfl | (simp only [List.length_drop, List.length_take]; rfl)) ?_; (with_reducible refine (pack_reader_fail.calls g x1000_1 x1001_1 x1002_1 s0_1 2 t295 t296 t297 t298 w0 _ ?side1 ?side2 A26.out).mono ?_); (case side1 => repeat (first | (with_reducible first | exact HI0.out | apply IsS72.alloc | apply IsS72.drewN | apply IsS72.drew | apply IsS72.set_0 | apply IsS72.set_1 | apply IsS72.set_2) | exact HI0.out)); (case side2 => repeat (first | (with_reducible first | exact HB.out | apply below_alloc | apply pw_below_drewN | apply below_drew1 | refine below_set ?_ (IsS72.ge HI0.out)) | exact HB.out)); rintro e w27 ⟨rfl, hi, hb, hk⟩; refine ⟨_, rfl, ?_⟩; have n0_ := Aside0.mk (KeepBut.trans (by repeat (first | (with_reducible first | exact HK.out | apply KeepBut.set_ | apply keep_drewN | apply keep_drew | apply keep_alloc) | exact HK.out)) hk (.inl rfl)); have n1_ := Aside0.mk (hb); have n2_ := Aside0.mk (hi); clear HK; clear HB; clear HI0; have HK := n0_; have HB := n1_; have HI0 := n2_; clear n0_ n1_ n2_; (try clear hb); (try clear hb2); (try clear hk); (try clear hi)))
              go_ret
              exact ⟨by first | rfl | (simp [errW_none, errW_some] <;> rfl) | (simp only [← hji10, ← hji14, ← hji16]; first | rfl | (simp [errW_none, errW_some] <;> rfl)) | (simp [*, errW_none, errW_some] <;> rfl), by (try simp only [hji10, hji14, hji16]); repeat (first | (with_reducible first | exact HI0.out | apply IsS72.alloc | apply IsS72.drewN | apply IsS72.drew | apply IsS72.set_0 | apply IsS72.set_1 | apply IsS72.set_2) | exact HI0.out), by repeat (first | (with_reducible first | exact HB.out | apply below_alloc | apply pw_below_drewN | apply below_drew1 | refine below_set ?_ (IsS72.ge HI0.out)) | exact HB.out), by repeat (first | (with_reducible first | exact HK.out | apply KeepBut.set_ | apply keep_drewN | apply keep_drew | apply keep_alloc) | exact HK.out)⟩
             ·rw [if_neg c25] at H
              have c25b0 : decide (a1 < (Go.bits .or .u64 x6_1 (ji16))) = false := decide_eq_false c25
              clear c25
              simp only [Option.some.injEq, Prod.mk.injEq] at H
              obtain ⟨rfl, rfl, rfl, rfl⟩ := H
              obtain ⟨HGz28, hgz28⟩ := HI0.out
              have hcz28_0 := cellS72_0 HGz28
              have hcz28_1 := cellS72_1 HGz28
              have hcz28_2 := cellS72_2 HGz28
              have hfz28_0 := blk_frozen HGz28 0
              have hfz28_1 := blk_frozen HGz28 1
              have hfz28_2 := blk_frozen HGz28 2
              clear HGz28 hgz28
              go_wp2
              go_ret
              exact ⟨by first | rfl | (simp [errW_none, errW_some] <;> rfl) | (simp only [← hji10, ← hji14, ← hji16]; first | rfl | (simp [errW_none, errW_some] <;> rfl)) | (simp [*, errW_none, errW_some] <;> rfl), by (try simp only [hji10, hji14, hji16]); repeat (first | (with_reducible first | exact HI0.out | apply IsS72.alloc | apply IsS72.drewN | apply IsS72.drew | apply IsS72.set_0 | apply IsS72.set_1 | apply IsS72.set_2) | exact HI0.out), by repeat (first | (with_reducible first | exact HB.out | apply below_alloc | apply pw_below_drewN | apply below_drew1 | refine below_set ?_ (IsS72.ge HI0.out)) | exact HB.out), by repeat (first | (with_reducible first | exact HK.out | apply KeepBut.set_ | apply keep_drewN | apply keep_drew | apply keep_alloc) | exact HK.out)⟩
        ·rw [if_neg c15] at H
         exact absurd H (by simp)
       ·rw [if_neg c12] at H
        exact absurd H (by simp)
      ·rw [if_neg c11] at H
       exact absurd H (by simp)
    ·rw [if_neg c5] at H
     have c5b0 : (x1002_1 == 0) = false := beq_eq_false_iff_ne.mpr c5
     have c5b1 : (x1002_1 != 0) = true := bne_iff_ne.mpr c5
     simp only [Option.some.injEq, Prod.mk.injEq] at H
     obtain ⟨rfl, rfl, rfl, rfl⟩ := H
     obtain ⟨HGz29, hgz29⟩ := HI0.out
     have hcz29_0 := cellS72_0 HGz29
     have hcz29_1 := cellS72_1 HGz29
     have hcz29_2 := cellS72_2 HGz29
     have hfz29_0 := blk_frozen HGz29 0
     have hfz29_1 := blk_frozen HGz29 1
     have hfz29_2 := blk_frozen HGz29 2
     clear HGz29 hgz29
     go_wp2
     go_ret
     exact ⟨by first | rfl | (simp [errW_none, errW_some] <;> rfl) | (simp [*, errW_none, errW_some] <;> rfl), by repeat (first | (with_reducible first | exact HI0.out | apply IsS72.alloc | apply IsS72.drewN | apply IsS72.drew | apply IsS72.set_0 | apply IsS72.set_1 | apply IsS72.set_2) | exact HI0.out), by repeat (first | (with_reducible first | exact HB.out | apply below_alloc | apply pw_below_drewN | apply below_drew1 | refine below_set ?_ (IsS72.ge HI0.out)) | exact HB.out), by repeat (first | (with_reducible first | exact HK.out | apply KeepBut.set_ | apply keep_drewN | apply keep_drew | apply keep_alloc) | exact HK.out)⟩
   ·rw [if_neg c4] at H
    have c4b0 : decide (x13_1 < 9) = false := decide_eq_false c4
    clear c4
    replace H := Option.bind_eq_some_iff.mp H
    obtain ⟨⟨t283, t284, t285, t286⟩, A300, H⟩ := H
    replace H : (some (t283, t284, t285, t286)) = some (r1, r2, r3, r4) := H
    have A30 := Aside0.mk A300
    clear A300
    simp only [Option.some.injEq, Prod.mk.injEq] at H
    obtain ⟨rfl, rfl, rfl, rfl⟩ := H
    go_wp2_with (first | ((with_reducible refine gate_callee (f := 47) rfl ?_); refine goesL_ (some 83) rfl rfl Try.func47 (by kernel_rfl) rfl #[.pointer (some ⟨g, 0, none⟩), .int .i64 s0_1, .int .i64 3] rfl (by (try simp only [List.map_toArray, List.map_cons, List.map_nil]); first | done | rfl | (simp only [List.length_drop, List.length_take]; rfl)) ?_; (with_reducible refine (pack_reader_fail.calls g x1000_1 x1001_1 x1002_1 s0_1 3 t283 t284 t285 t286 w0 _ ?side1 ?side2 A30.out).mono ?_); (case side1 => repeat (first | (with_reducible first | exact HI0.out | apply IsS72.alloc | apply IsS72.drewN | apply IsS72.drew | apply IsS72.set_0 | apply IsS72.set_1 | apply IsS72.set_2) | exact HI0.out)); (case side2 => repeat (first | (with_reducible first | exact HB.out | apply below_alloc | apply pw_below_drewN | apply below_drew1 | refine below_set ?_ (IsS72.ge HI0.out)) | exact HB.out)); rintro e w31 ⟨rfl, hi, hb, hk⟩; refine ⟨_, rfl, ?_⟩; have n0_ := Aside0.mk (KeepBut.trans (by repeat (first | (with_reducible first | exact HK.out | apply KeepBut.set_ | apply keep_drewN | apply keep_drew | apply keep_alloc) | exact HK.out)) hk (.inl rfl)); have n1_ := Aside0.mk (hb); have n2_ := Aside0.mk (hi); clear HK; clear HB; clear HI0; have HK := n0_; have HB := n1_; have HI0 := n2_; clear n0_ n1_ n2_; (try clear hb); (try clear hb2); (try clear hk); (try clear hi)))
    go_ret
    exact ⟨by first | rfl | (simp [errW_none, errW_some] <;> rfl) | (simp [*, errW_none, errW_some] <;> rfl), by repeat (first | (with_reducible first | exact HI0.out | apply IsS72.alloc | apply IsS72.drewN | apply IsS72.drew | apply IsS72.set_0 | apply IsS72.set_1 | apply IsS72.set_2) | exact HI0.out), by repeat (first | (with_reducible first | exact HB.out | apply below_alloc | apply pw_below_drewN | apply below_drew1 | refine below_set ?_ (IsS72.ge HI0.out)) | exact HB.out), by repeat (first | (with_reducible first | exact HK.out | apply KeepBut.set_ | apply keep_drewN | apply keep_drew | apply keep_alloc) | exact HK.out)⟩
end Go.Proofs.Ytbfjbcaabijpfaa.Al

namespace Go.Proofs.Ytbfjbcaabijpfaa.Al
open Go.RowKit Go.Proofs.YtbfjbcaabijpfaaW.PrintWords Go.Proofs.YtbfjbcaabijpfaaW.PrintLast Go.Proofs.YtbfjbcaabijpfaaW.PrintMore
attribute [local go_sem] max2_int min2_int max_two min_two max_three min_three max_four min_four   -- for this text's walks alone
set_option linter.unusedVariables false
set_option linter.unusedSimpArgs false
def pack_reader_text.j0 : Nat → Int → Bool → ByteArray → Int → Int → Option (ByteArray × ByteArray × Int × Int)
 |0, _, _, _, _, _ => none
 |k + 1, x3, x25, x1000, x1001, x1002 => if x25 = true then ((pack_reader_fail.f x1000 x1001 x1002 (x1000.size : Int) 50).bind fun bt303 => (if bt303.2.2.2 = 0 then (if 0 ≤ (wrap64 ((wrap64 (bt303.2.2.1 + x3)) - x3)) then (if (wrap64 ((wrap64 (bt303.2.2.1 + x3)) - x3)) ≤ (wrap64 (bt303.2.2.1 + x3)) then (if (wrap64 (bt303.2.2.1 + x3)) ≤ (bt303.2.1.size : Int) then (some (bt303.2.1.extract ((wrap64 ((wrap64 (bt303.2.2.1 + x3)) - x3)) : Int).toNat ((wrap64 (bt303.2.2.1 + x3)) : Int).toNat, bt303.2.1, wrap64 (bt303.2.2.1 + x3), bt303.2.2.2)) else (none)) else (none)) else (none)) else (some ((⟨#[]⟩ : ByteArray), bt303.2.1, bt303.2.2.1, bt303.2.2.2)))) else (if x1002 = 0 then (if 0 ≤ (wrap64 ((wrap64 (x1001 + x3)) - x3)) then (if (wrap64 ((wrap64 (x1001 + x3)) - x3)) ≤ (wrap64 (x1001 + x3)) then (if (wrap64 (x1001 + x3)) ≤ (x1000.size : Int) then (some (x1000.extract ((wrap64 ((wrap64 (x1001 + x3)) - x3)) : Int).toNat ((wrap64 (x1001 + x3)) : Int).toNat, x1000, wrap64 (x1001 + x3), x1002)) else (none)) else (none)) else (none)) else (some ((⟨#[]⟩ : ByteArray), x1000, x1001, x1002)))
def pack_reader_text.f (k : Nat) (s0_0 : ByteArray) (s0_1 : Int) (s0_2 : Int) : Option (ByteArray × ByteArray × Int × Int) := (pack_reader_number.f k s0_0 s0_1 s0_2 4096).bind fun bt299 => (if bt299.2.2.2 = 0 then (pack_reader_text.j0 k (wrap64 (bt299.1)) (decide ((wrap64 (bt299.1)) > (wrap64 ((bt299.2.1.size : Int) - bt299.2.2.1)))) bt299.2.1 bt299.2.2.1 bt299.2.2.2) else (pack_reader_text.j0 k (wrap64 (bt299.1)) false bt299.2.1 bt299.2.2.1 bt299.2.2.2))
theorem pack_reader_text.mono_l : ∀ k, (∀ y0 y1 y2 y3 y4, LeO (pack_reader_text.j0 k y0 y1 y2 y3 y4) (pack_reader_text.j0 (k + 1) y0 y1 y2 y3 y4))
 |0 => fun _ _ _ _ _ r h => by simp [pack_reader_text.j0] at h
 |k + 1 => by
  have ih0 := pack_reader_text.mono_l k
  ·intro y0 y1 y2 y3 y4
   unfold pack_reader_text.j0
   repeat' first
   |(with_reducible exact ih0 _ _ _ _ _)
   |(with_reducible exact pack_reader_number.mono _ _ _ _ _)
   |(with_reducible exact LeO.refl _)
   |(with_reducible exact LeO.none _)
   |(with_reducible refine LeO.ite ?_ ?_)
   |(with_reducible refine LeO.bind ?_ (fun _ => ?_))
   |exact ih0 _ _ _ _ _
   |exact pack_reader_number.mono _ _ _ _ _
   |exact LeO.none _
   |refine LeO.ite ?_ ?_
   |refine LeO.bind ?_ (fun _ => ?_)
theorem pack_reader_text.mono : ∀ a0 a1 a2 k, LeO (pack_reader_text.f k a0 a1 a2) (pack_reader_text.f (k + 1) a0 a1 a2) := by
 intro a0 a1 a2 k
 have ih0 := pack_reader_text.mono_l k
 unfold pack_reader_text.f
 repeat' first
   |(with_reducible exact ih0 _ _ _ _ _)
   |(with_reducible exact pack_reader_number.mono _ _ _ _ _)
   |(with_reducible exact LeO.refl _)
   |(with_reducible exact LeO.none _)
   |(with_reducible refine LeO.ite ?_ ?_)
   |(with_reducible refine LeO.bind ?_ (fun _ => ?_))
   |exact ih0 _ _ _ _ _
   |exact pack_reader_number.mono _ _ _ _ _
   |exact LeO.none _
   |refine LeO.ite ?_ ?_
   |refine LeO.bind ?_ (fun _ => ?_)
set_option maxHeartbeats 8000000 in
set_option maxRecDepth 100000 in
theorem pack_reader_text.calls (k : Nat) (g : Nat) (s0_0 : ByteArray) (s0_1 : Int) (s0_2 : Int) (r1 : ByteArray) (r2 : ByteArray) (r3 : Int) (r4 : Int) (w0 w : World) (hI : IsS72 w0 w g s0_0 s0_1 s0_2) (hB : Below w0.heap.size w0 w) (h : pack_reader_text.f k s0_0 s0_1 s0_2 = some (r1, r2, r3, r4)) :
  Calls Try.prog 46 #[.pointer (some ⟨g, 0, none⟩)] w fun e w' => e = .returned (.string r1) ∧ IsS72 w0 w' g r2 r3 r4 ∧ Below w0.heap.size w0 w' ∧ KeepBut w w' g none := by
 have HI0 := Aside0.mk hI
 have HK := Aside0.mk (KeepBut.refl w g none)
 have HL := Aside0.mk hB.size
 clear hI
 have HW0 := Aside0.mk hB.size
 have HB := Aside0.mk hB
 clear hB
 have H : ((pack_reader_number.f k s0_0 s0_1 s0_2 4096).bind fun bt299 => (if bt299.2.2.2 = 0 then (pack_reader_text.j0 k (wrap64 (bt299.1)) (decide ((wrap64 (bt299.1)) > (wrap64 ((bt299.2.1.size : Int) - bt299.2.2.1)))) bt299.2.1 bt299.2.2.1 bt299.2.2.2) else (pack_reader_text.j0 k (wrap64 (bt299.1)) false bt299.2.1 bt299.2.2.1 bt299.2.2.2))) = some (r1, r2, r3, r4) := h
 clear h
 replace H := Option.bind_eq_some_iff.mp H
 obtain ⟨⟨t299, t300, t301, t302⟩, A20, H⟩ := H
 replace H : (if t302 = 0 then (pack_reader_text.j0 k (wrap64 (t299)) (decide ((wrap64 (t299)) > (wrap64 ((t300.size : Int) - t301)))) t300 t301 t302) else (pack_reader_text.j0 k (wrap64 (t299)) false t300 t301 t302)) = some (r1, r2, r3, r4) := H
 have A2 := Aside0.mk A20
 clear A20
 have HC3 := Aside0.mk H
 clear H
 go_enter Try.func46, Try.ntmps46
 go_upto_region 2 with (first | (go_at_call 45; (with_reducible refine (pack_reader_number.calls k g s0_0 s0_1 s0_2 4096 t299 t300 t301 t302 w0 _ ?side1 ?side2 A2.out).mono ?_); (case side1 => repeat (first | (with_reducible first | exact HI0.out | apply IsS72.alloc | apply IsS72.drewN | apply IsS72.drew | apply IsS72.set_0 | apply IsS72.set_1 | apply IsS72.set_2) | exact HI0.out)); (case side2 => repeat (first | (with_reducible first | exact HB.out | apply below_alloc | apply pw_below_drewN | apply below_drew1 | refine below_set ?_ (IsS72.ge HI0.out)) | exact HB.out)); rintro e w4 ⟨rfl, hi, hb, hk⟩; have n0_ := Aside0.mk (KeepBut.trans (by repeat (first | (with_reducible first | exact HK.out | apply KeepBut.set_ | apply keep_drewN | apply keep_drew | apply keep_alloc) | exact HK.out)) hk (.inl rfl)); have n1_ := Aside0.mk (hb); have n2_ := Aside0.mk (hi); clear HK; clear HB; clear HI0; have HK := n0_; have HB := n1_; have HI0 := n2_; clear n0_ n1_ n2_; (try clear hb); (try clear hb2); (try clear hk); (try clear hi)))
 repeat (go_quiet (first | (go_at_call 45; (with_reducible refine (pack_reader_number.calls k g s0_0 s0_1 s0_2 4096 t299 t300 t301 t302 w0 _ ?side1 ?side2 A2.out).mono ?_); (case side1 => repeat (first | (with_reducible first | exact HI0.out | apply IsS72.alloc | apply IsS72.drewN | apply IsS72.drew | apply IsS72.set_0 | apply IsS72.set_1 | apply IsS72.set_2) | exact HI0.out)); (case side2 => repeat (first | (with_reducible first | exact HB.out | apply below_alloc | apply pw_below_drewN | apply below_drew1 | refine below_set ?_ (IsS72.ge HI0.out)) | exact HB.out)); rintro e w4 ⟨rfl, hi, hb, hk⟩; have n0_ := Aside0.mk (KeepBut.trans (by repeat (first | (with_reducible first | exact HK.out | apply KeepBut.set_ | apply keep_drewN | apply keep_drew | apply keep_alloc) | exact HK.out)) hk (.inl rfl)); have n1_ := Aside0.mk (hb); have n2_ := Aside0.mk (hi); clear HK; clear HB; clear HI0; have HK := n0_; have HB := n1_; have HI0 := n2_; clear n0_ n1_ n2_; (try clear hb); (try clear hb2); (try clear hk); (try clear hi))); go_upto_region 2 with (first | (go_at_call 45; (with_reducible refine (pack_reader_number.calls k g s0_0 s0_1 s0_2 4096 t299 t300 t301 t302 w0 _ ?side1 ?side2 A2.out).mono ?_); (case side1 => repeat (first | (with_reducible first | exact HI0.out | apply IsS72.alloc | apply IsS72.drewN | apply IsS72.drew | apply IsS72.set_0 | apply IsS72.set_1 | apply IsS72.set_2) | exact HI0.out)); (case side2 => repeat (first | (with_reducible first | exact HB.out | apply below_alloc | apply pw_below_drewN | apply below_drew1 | refine below_set ?_ (IsS72.ge HI0.out)) | exact HB.out)); rintro e w4 ⟨rfl, hi, hb, hk⟩; have n0_ := Aside0.mk (KeepBut.trans (by repeat (first | (with_reducible first | exact HK.out | apply KeepBut.set_ | apply keep_drewN | apply keep_drew | apply keep_alloc) | exact HK.out)) hk (.inl rfl)); have n1_ := Aside0.mk (hb); have n2_ := Aside0.mk (hi); clear HK; clear HB; clear HI0; have HK := n0_; have HB := n1_; have HI0 := n2_; clear n0_ n1_ n2_; (try clear hb); (try clear hb2); (try clear hk); (try clear hi))))
 (try simp only [Act.put, List.setIfInBounds_toArray, List.set_cons_zero, List.set_cons_succ])
 go_cut [25] (fun v25 wc => ∃ (kq : Nat) (x25_2 : Bool), v25 = .bool x25_2 ∧ Aside0 (pack_reader_text.j0 kq (wrap64 (t299)) x25_2 t300 t301 t302 = some (r1, r2, r3, r4)) ∧ Aside0 (kq ≤ k) ∧ Aside0 (IsS72 w0 wc g t300 t301 t302) ∧ Aside0 (KeepBut w wc g none) ∧ Aside0 (Below w0.heap.size w0 wc))
 case first =>
  have H := HC3.out
  clear HC3
  by_cases c5 : t302 = 0
  ·rw [if_pos c5] at H
   have c5b0 : (t302 == 0) = true := beq_iff_eq.mpr c5
   have c5b1 : (t302 != 0) = false := bne_eq_false_iff_eq.mpr c5
   clear c5
   (first | rw [c5b0] | (simp only [i64_w, i32_w]; rw [c5b0]) | skip)
   have H' := Aside0.mk H
   clear H
   obtain ⟨HGz6, hgz6⟩ := HI0.out
   have hcz6_0 := cellS72_0 HGz6
   have hcz6_1 := cellS72_1 HGz6
   have hcz6_2 := cellS72_2 HGz6
   have hfz6_0 := blk_frozen HGz6 0
   have hfz6_1 := blk_frozen HGz6 1
   have hfz6_2 := blk_frozen HGz6 2
   clear HGz6 hgz6
   go_wp2
   repeat (go_quiet (fail); try go_wp2)
   go_meet
   case rel => exact ⟨_, (decide ((wrap64 (t299)) > (wrap64 ((t300.size : Int) - t301)))), (by first | rfl | (simp; done) | (simp [*]; done)), H', ⟨by first | omega | exact Nat.le_refl _⟩, ⟨by repeat (first | (with_reducible first | exact HI0.out | apply IsS72.alloc | apply IsS72.drewN | apply IsS72.drew | apply IsS72.set_0 | apply IsS72.set_1 | apply IsS72.set_2) | exact HI0.out)⟩, ⟨by repeat (first | (with_reducible first | exact HK.out | apply KeepBut.set_ | apply keep_drewN | apply keep_drew | apply keep_alloc) | exact HK.out)⟩, ⟨by repeat (first | (with_reducible first | exact HB.out | apply below_alloc | apply pw_below_drewN | apply below_drew1 | refine below_set ?_ (IsS72.ge HI0.out)) | exact HB.out)⟩⟩
  ·rw [if_neg c5] at H
   have c5b0 : (t302 == 0) = false := beq_eq_false_iff_ne.mpr c5
   have c5b1 : (t302 != 0) = true := bne_iff_ne.mpr c5
   (first | rw [c5b0] | (simp only [i64_w, i32_w]; rw [c5b0]) | skip)
   have H' := Aside0.mk H
   clear H
   obtain ⟨HGz7, hgz7⟩ := HI0.out
   have hcz7_0 := cellS72_0 HGz7
   have hcz7_1 := cellS72_1 HGz7
   have hcz7_2 := cellS72_2 HGz7
   have hfz7_0 := blk_frozen HGz7 0
   have hfz7_1 := blk_frozen HGz7 1
   have hfz7_2 := blk_frozen HGz7 2
   clear HGz7 hgz7
   go_wp2
   repeat (go_quiet (fail); try go_wp2)
   go_meet
   case rel => exact ⟨_, (false), (by first | rfl | (simp; done) | (simp [*]; done)), H', ⟨by first | omega | exact Nat.le_refl _⟩, ⟨by repeat (first | (with_reducible first | exact HI0.out | apply IsS72.alloc | apply IsS72.drewN | apply IsS72.drew | apply IsS72.set_0 | apply IsS72.set_1 | apply IsS72.set_2) | exact HI0.out)⟩, ⟨by repeat (first | (with_reducible first | exact HK.out | apply KeepBut.set_ | apply keep_drewN | apply keep_drew | apply keep_alloc) | exact HK.out)⟩, ⟨by repeat (first | (with_reducible first | exact HB.out | apply below_alloc | apply pw_below_drewN | apply below_drew1 | refine below_set ?_ (IsS72.ge HI0.out)) | exact HB.out)⟩⟩
 case rest =>
  clear HC3
  (try clear p2); (try clear c4); (try clear c5); (try clear c5b0); (try clear c5b1); (try clear p6); (try clear hcz6_0); (try clear hcz6_1); (try clear hcz6_2); (try clear hcz7_0); (try clear hcz7_1); (try clear hcz7_2); (try clear hfz6_0); (try clear hfz6_1); (try clear hfz6_2); (try clear hfz7_0); (try clear hfz7_1); (try clear hfz7_2)
  obtain ⟨kq, x25_2, rfl, HA, HJ2, HI0, HK, HB⟩ := hcut
  cases kq with
  |zero => exact absurd HA.out (by simp [pack_reader_text.j0])
  |succ kj2 =>
   have H := HA.out
   clear HA
   simp only [pack_reader_text.j0] at H
   by_cases c8 : x25_2 = true
   ·subst c8
    have H1 : ((pack_reader_fail.f t300 t301 t302 (t300.size : Int) 50).bind fun bt303 => (if bt303.2.2.2 = 0 then (if 0 ≤ (wrap64 ((wrap64 (bt303.2.2.1 + (wrap64 (t299)))) - (wrap64 (t299)))) then (if (wrap64 ((wrap64 (bt303.2.2.1 + (wrap64 (t299)))) - (wrap64 (t299)))) ≤ (wrap64 (bt303.2.2.1 + (wrap64 (t299)))) then (if (wrap64 (bt303.2.2.1 + (wrap64 (t299)))) ≤ (bt303.2.1.size : Int) then (some (bt303.2.1.extract ((wrap64 ((wrap64 (bt303.2.2.1 + (wrap64 (t299)))) - (wrap64 (t299)))) : Int).toNat ((wrap64 (bt303.2.2.1 + (wrap64 (t299)))) : Int).toNat, bt303.2.1, wrap64 (bt303.2.2.1 + (wrap64 (t299))), bt303.2.2.2)) else (none)) else (none)) else (none)) else (some ((⟨#[]⟩ : ByteArray), bt303.2.1, bt303.2.2.1, bt303.2.2.2)))) = some (r1, r2, r3, r4) := by rw [if_pos rfl] at H; exact H
    clear H
    have H := H1
    clear H1
    replace H := Option.bind_eq_some_iff.mp H
    obtain ⟨⟨t303, t304, t305, t306⟩, A90, H⟩ := H
    replace H : (if t306 = 0 then (if 0 ≤ (wrap64 ((wrap64 (t305 + (wrap64 (t299)))) - (wrap64 (t299)))) then (if (wrap64 ((wrap64 (t305 + (wrap64 (t299)))) - (wrap64 (t299)))) ≤ (wrap64 (t305 + (wrap64 (t299)))) then (if (wrap64 (t305 + (wrap64 (t299)))) ≤ (t304.size : Int) then (some (t304.extract ((wrap64 ((wrap64 (t305 + (wrap64 (t299)))) - (wrap64 (t299)))) : Int).toNat ((wrap64 (t305 + (wrap64 (t299)))) : Int).toNat, t304, wrap64 (t305 + (wrap64 (t299))), t306)) else (none)) else (none)) else (none)) else (some ((⟨#[]⟩ : ByteArray), t304, t305, t306))) = some (r1, r2, r3, r4) := H
    have A9 := Aside0.mk A90
    clear A90
    by_cases c10 : t306 = 0
    ·rw [if_pos c10] at H
     have c10b0 : (t306 == 0) = true := beq_iff_eq.mpr c10
     have c10b1 : (t306 != 0) = false := bne_eq_false_iff_eq.mpr c10
     clear c10
     obtain ⟨ji11, hji11⟩ : ∃ j_ : Int, (wrap64 ((wrap64 (t305 + (wrap64 (t299)))) - (wrap64 (t299)))) = j_ := ⟨_, rfl⟩
     replace H : (if 0 ≤ (ji11) then (if (ji11) ≤ (wrap64 (t305 + (wrap64 (t299)))) then (if (wrap64 (t305 + (wrap64 (t299)))) ≤ (t304.size : Int) then (some (t304.extract ((ji11) : Int).toNat ((wrap64 (t305 + (wrap64 (t299)))) : Int).toNat, t304, wrap64 (t305 + (wrap64 (t299))), t306)) else (none)) else (none)) else (none)) = some (r1, r2, r3, r4) := by first | (rw [hji11] at H; exact H) | (simp only [hji11] at H ⊢; exact H)
     (try rw [hji11] at A9)
     have hji11w : (IntKind.i64.wrap ((wrap64 (t305 + (wrap64 (t299)))) - (wrap64 (t299)))) = ji11 := (i64_w _).trans hji11
     by_cases c12 : 0 ≤ (ji11)
     ·rw [if_pos c12] at H
      have c12b0 := eq_true c12
      have c12b1 : decide (0 ≤ (ji11)) = true := decide_eq_true c12
      clear c12
      by_cases c13 : (ji11) ≤ (wrap64 (t305 + (wrap64 (t299))))
      ·rw [if_pos c13] at H
       have c13b0 := eq_true c13
       have c13b1 : decide ((ji11) ≤ (wrap64 (t305 + (wrap64 (t299))))) = true := decide_eq_true c13
       by_cases c14 : (wrap64 (t305 + (wrap64 (t299)))) ≤ (t304.size : Int)
       ·rw [if_pos c14] at H
        have c14b0 := eq_true c14
        have c14b1 : decide ((wrap64 (t305 + (wrap64 (t299)))) ≤ (t304.size : Int)) = true := decide_eq_true c14
        simp only [Option.some.injEq, Prod.mk.injEq] at H
        obtain ⟨rfl, rfl, rfl, rfl⟩ := H
        obtain ⟨HGz15, hgz15⟩ := HI0.out
        have hcz15_0 := cellS72_0 HGz15
        have hcz15_1 := cellS72_1 HGz15
        have hcz15_2 := cellS72_2 HGz15
        have hfz15_0 := blk_frozen HGz15 0
        have hfz15_1 := blk_frozen HGz15 1
        have hfz15_2 := blk_frozen HGz15 2
        clear HGz15 hgz15
        go_wp2_with (first | (go_at_call 47; (with_reducible refine (pack_reader_fail.calls g t300 t301 t302 (t300.size : Int) 50 t303 t304 t305 t306 w0 _ ?side1 ?side2 A9.out).mono ?_); (case side1 => repeat (first | (with_reducible first | exact HI0.out | apply IsS72.alloc | apply IsS72.drewN | apply IsS72.drew | apply IsS72.set_0 | apply IsS72.set_1 | apply IsS72.set_2) | exact HI0.out)); (case side2 => repeat (first | (with_reducible first | exact HB.out | apply below_alloc | apply pw_below_drewN | apply below_drew1 | refine below_set ?_ (IsS72.ge HI0.out)) | exact HB.out)); rintro e w16 ⟨rfl, hi, hb, hk⟩; have n0_ := Aside0.mk (KeepBut.trans (by repeat (first | (with_reducible first | exact HK.out | apply KeepBut.set_ | apply keep_drewN | apply keep_drew | apply keep_alloc) | exact HK.out)) hk (.inl rfl)); have n1_ := Aside0.mk (hb); have n2_ := Aside0.mk (hi); clear HK; clear HB; clear HI0; have HK := n0_; have HB := n1_; have HI0 := n2_; clear n0_ n1_ n2_; (try clear hb); (try clear hb2); (try clear hk); (try clear hi); obtain ⟨HGz17, hgz17⟩ := HI0.out; have hcz17_0 := cellS72_0 HGz17; have hcz17_1 := cellS72_1 HGz17; have hcz17_2 := cellS72_2 HGz17; have hfz17_0 := blk_frozen HGz17 0; have hfz17_1 := blk_frozen HGz17 1; have hfz17_2 := blk_frozen HGz17 2; clear HGz17 hgz17))
        repeat (go_quiet (first | (go_at_call 47; (with_reducible refine (pack_reader_fail.calls g t300 t301 t302 (t300.size : Int) 50 t303 t304 t305 t306 w0 _ ?side1 ?side2 A9.out).mono ?_); (case side1 => repeat (first | (with_reducible first | exact HI0.out | apply IsS72.alloc | apply IsS72.drewN | apply IsS72.drew | apply IsS72.set_0 | apply IsS72.set_1 | apply IsS72.set_2) | exact HI0.out)); (case side2 => repeat (first | (with_reducible first | exact HB.out | apply below_alloc | apply pw_below_drewN | apply below_drew1 | refine below_set ?_ (IsS72.ge HI0.out)) | exact HB.out)); rintro e w16 ⟨rfl, hi, hb, hk⟩; have n0_ := Aside0.mk (KeepBut.trans (by repeat (first | (with_reducible first | exact HK.out | apply KeepBut.set_ | apply keep_drewN | apply keep_drew | apply keep_alloc) | exact HK.out)) hk (.inl rfl)); have n1_ := Aside0.mk (hb); have n2_ := Aside0.mk (hi); clear HK; clear HB; clear HI0; have HK := n0_; have HB := n1_; have HI0 := n2_; clear n0_ n1_ n2_; (try clear hb); (try clear hb2); (try clear hk); (try clear hi); obtain ⟨HGz17, hgz17⟩ := HI0.out; have hcz17_0 := cellS72_0 HGz17; have hcz17_1 := cellS72_1 HGz17; have hcz17_2 := cellS72_2 HGz17; have hfz17_0 := blk_frozen HGz17 0; have hfz17_1 := blk_frozen HGz17 1; have hfz17_2 := blk_frozen HGz17 2; clear HGz17 hgz17)); try go_wp2_with (first | (go_at_call 47; (with_reducible refine (pack_reader_fail.calls g t300 t301 t302 (t300.size : Int) 50 t303 t304 t305 t306 w0 _ ?side1 ?side2 A9.out).mono ?_); (case side1 => repeat (first | (with_reducible first | exact HI0.out | apply IsS72.alloc | apply IsS72.drewN | apply IsS72.drew | apply IsS72.set_0 | apply IsS72.set_1 | apply IsS72.set_2) | exact HI0.out)); (case side2 => repeat (first | (with_reducible first | exact HB.out | apply below_alloc | apply pw_below_drewN | apply below_drew1 | refine below_set ?_ (IsS72.ge HI0.out)) | exact HB.out)); rintro e w16 ⟨rfl, hi, hb, hk⟩; have n0_ := Aside0.mk (KeepBut.trans (by repeat (first | (with_reducible first | exact HK.out | apply KeepBut.set_ | apply keep_drewN | apply keep_drew | apply keep_alloc) | exact HK.out)) hk (.inl rfl)); have n1_ := Aside0.mk (hb); have n2_ := Aside0.mk (hi); clear HK; clear HB; clear HI0; have HK := n0_; have HB := n1_; have HI0 := n2_; clear n0_ n1_ n2_; (try clear hb); (try clear hb2); (try clear hk); (try clear hi); obtain ⟨HGz17, hgz17⟩ := HI0.out; have hcz17_0 := cellS72_0 HGz17; have hcz17_1 := cellS72_1 HGz17; have hcz17_2 := cellS72_2 HGz17; have hfz17_0 := blk_frozen HGz17 0; have hfz17_1 := blk_frozen HGz17 1; have hfz17_2 := blk_frozen HGz17 2; clear HGz17 hgz17)))
        go_ret
        exact ⟨by first | rfl | (simp [errW_none, errW_some] <;> rfl) | (simp only [← hji11]; first | rfl | (simp [errW_none, errW_some] <;> rfl)) | (simp [*, errW_none, errW_some] <;> rfl), by (try simp only [hji11]); repeat (first | (with_reducible first | exact HI0.out | apply IsS72.alloc | apply IsS72.drewN | apply IsS72.drew | apply IsS72.set_0 | apply IsS72.set_1 | apply IsS72.set_2) | exact HI0.out), by repeat (first | (with_reducible first | exact HB.out | apply below_alloc | apply pw_below_drewN | apply below_drew1 | refine below_set ?_ (IsS72.ge HI0.out)) | exact HB.out), by repeat (first | (with_reducible first | exact HK.out | apply KeepBut.set_ | apply keep_drewN | apply keep_drew | apply keep_alloc) | exact HK.out)⟩
       ·rw [if_neg c14] at H
        exact absurd H (by simp)
      ·rw [if_neg c13] at H
       exact absurd H (by simp)
     ·rw [if_neg c12] at H
      exact absurd H (by simp)
    ·rw [if_neg c10] at H
     have c10b0 : (t306 == 0) = false := beq_eq_false_iff_ne.mpr c10
     have c10b1 : (t306 != 0) = true := bne_iff_ne.mpr c10
     simp only [Option.some.injEq, Prod.mk.injEq] at H
     obtain ⟨rfl, rfl, rfl, rfl⟩ := H
     obtain ⟨HGz18, hgz18⟩ := HI0.out
     have hcz18_0 := cellS72_0 HGz18
     have hcz18_1 := cellS72_1 HGz18
     have hcz18_2 := cellS72_2 HGz18
     have hfz18_0 := blk_frozen HGz18 0
     have hfz18_1 := blk_frozen HGz18 1
     have hfz18_2 := blk_frozen HGz18 2
     clear HGz18 hgz18
     go_wp2_with (first | (go_at_call 47; (with_reducible refine (pack_reader_fail.calls g t300 t301 t302 (t300.size : Int) 50 t303 t304 t305 t306 w0 _ ?side1 ?side2 A9.out).mono ?_); (case side1 => repeat (first | (with_reducible first | exact HI0.out | apply IsS72.alloc | apply IsS72.drewN | apply IsS72.drew | apply IsS72.set_0 | apply IsS72.set_1 | apply IsS72.set_2) | exact HI0.out)); (case side2 => repeat (first | (with_reducible first | exact HB.out | apply below_alloc | apply pw_below_drewN | apply below_drew1 | refine below_set ?_ (IsS72.ge HI0.out)) | exact HB.out)); rintro e w19 ⟨rfl, hi, hb, hk⟩; have n0_ := Aside0.mk (KeepBut.trans (by repeat (first | (with_reducible first | exact HK.out | apply KeepBut.set_ | apply keep_drewN | apply keep_drew | apply keep_alloc) | exact HK.out)) hk (.inl rfl)); have n1_ := Aside0.mk (hb); have n2_ := Aside0.mk (hi); clear HK; clear HB; clear HI0; have HK := n0_; have HB := n1_; have HI0 := n2_; clear n0_ n1_ n2_; (try clear hb); (try clear hb2); (try clear hk); (try clear hi); obtain ⟨HGz20, hgz20⟩ := HI0.out; have hcz20_0 := cellS72_0 HGz20; have hcz20_1 := cellS72_1 HGz20; have hcz20_2 := cellS72_2 HGz20; have hfz20_0 := blk_frozen HGz20 0; have hfz20_1 := blk_frozen HGz20 1; have hfz20_2 := blk_frozen HGz20 2; clear HGz20 hgz20))
     repeat (go_quiet (first | (go_at_call 47; (with_reducible refine (pack_reader_fail.calls g t300 t301 t302 (t300.size : Int) 50 t303 t304 t305 t306 w0 _ ?side1 ?side2 A9.out).mono ?_); (case side1 => repeat (first | (with_reducible first | exact HI0.out | apply IsS72.alloc | apply IsS72.drewN | apply IsS72.drew | apply IsS72.set_0 | apply IsS72.set_1 | apply IsS72.set_2) | exact HI0.out)); (case side2 => repeat (first | (with_reducible first | exact HB.out | apply below_alloc | apply pw_below_drewN | apply below_drew1 | refine below_set ?_ (IsS72.ge HI0.out)) | exact HB.out)); rintro e w19 ⟨rfl, hi, hb, hk⟩; have n0_ := Aside0.mk (KeepBut.trans (by repeat (first | (with_reducible first | exact HK.out | apply KeepBut.set_ | apply keep_drewN | apply keep_drew | apply keep_alloc) | exact HK.out)) hk (.inl rfl)); have n1_ := Aside0.mk (hb); have n2_ := Aside0.mk (hi); clear HK; clear HB; clear HI0; have HK := n0_; have HB := n1_; have HI0 := n2_; clear n0_ n1_ n2_; (try clear hb); (try clear hb2); (try clear hk); (try clear hi); obtain ⟨HGz20, hgz20⟩ := HI0.out; have hcz20_0 := cellS72_0 HGz20; have hcz20_1 := cellS72_1 HGz20; have hcz20_2 := cellS72_2 HGz20; have hfz20_0 := blk_frozen HGz20 0; have hfz20_1 := blk_frozen HGz20 1; have hfz20_2 := blk_frozen HGz20 2; clear HGz20 hgz20)); try go_wp2_with (first | (go_at_call 47; (with_reducible refine (pack_reader_fail.calls g t300 t301 t302 (t300.size : Int) 50 t303 t304 t305 t306 w0 _ ?side1 ?side2 A9.out).mono ?_); (case side1 => repeat (first | (with_reducible first | exact HI0.out | apply IsS72.alloc | apply IsS72.drewN | apply IsS72.drew | apply IsS72.set_0 | apply IsS72.set_1 | apply IsS72.set_2) | exact HI0.out)); (case side2 => repeat (first | (with_reducible first | exact HB.out | apply below_alloc | apply pw_below_drewN | apply below_drew1 | refine below_set ?_ (IsS72.ge HI0.out)) | exact HB.out)); rintro e w19 ⟨rfl, hi, hb, hk⟩; have n0_ := Aside0.mk (KeepBut.trans (by repeat (first | (with_reducible first | exact HK.out | apply KeepBut.set_ | apply keep_drewN | apply keep_drew | apply keep_alloc) | exact HK.out)) hk (.inl rfl)); have n1_ := Aside0.mk (hb); have n2_ := Aside0.mk (hi); clear HK; clear HB; clear HI0; have HK := n0_; have HB := n1_; have HI0 := n2_; clear n0_ n1_ n2_; (try clear hb); (try clear hb2); (try clear hk); (try clear hi); obtain ⟨HGz20, hgz20⟩ := HI0.out; have hcz20_0 := cellS72_0 HGz20; have hcz20_1 := cellS72_1 HGz20; have hcz20_2 := cellS72_2 HGz20; have hfz20_0 := blk_frozen HGz20 0; have hfz20_1 := blk_frozen HGz20 1; have hfz20_2 := blk_frozen HGz20 2; clear HGz20 hgz20)))
     go_ret
     exact ⟨by first | rfl | (simp [errW_none, errW_some] <;> rfl) | (simp [*, errW_none, errW_some] <;> rfl), by repeat (first | (with_reducible first | exact HI0.out | apply IsS72.alloc | apply IsS72.drewN | apply IsS72.drew | apply IsS72.set_0 | apply IsS72.set_1 | apply IsS72.set_2) | exact HI0.out), by repeat (first | (with_reducible first | exact HB.out | apply below_alloc | apply pw_below_drewN | apply below_drew1 | refine below_set ?_ (IsS72.ge HI0.out)) | exact HB.out), by repeat (first | (with_reducible first | exact HK.out | apply KeepBut.set_ | apply keep_drewN | apply keep_drew | apply keep_alloc) | exact HK.out)⟩
   ·replace c8 := Bool.eq_false_iff.mpr c8
    subst c8
    have H1 : (if t302 = 0 then (if 0 ≤ (wrap64 ((wrap64 (t301 + (wrap64 (t299)))) - (wrap64 (t299)))) then (if (wrap64 ((wrap64 (t301 + (wrap64 (t299)))) - (wrap64 (t299)))) ≤ (wrap64 (t301 + (wrap64 (t299)))) then (if (wrap64 (t301 + (wrap64 (t299)))) ≤ (t300.size : Int) then (some (t300.extract ((wrap64 ((wrap64 (t301 + (wrap64 (t299)))) - (wrap64 (t299)))) : Int).toNat ((wrap64 (t301 + (wrap64 (t299)))) : Int).toNat, t300, wrap64 (t301 + (wrap64 (t299))), t302)) else (none)) else (none)) else (none)) else (some ((⟨#[]⟩ : ByteArray), t300, t301, t302))) = some (r1, r2, r3, r4) := by rw [if_neg (show ¬ (false = true) by decide)] at H; exact H
    clear H
    have H := H1
    clear H1
    by_cases c21 : t302 = 0
    ·rw [if_pos c21] at H
     have c21b0 : (t302 == 0) = true := beq_iff_eq.mpr c21
     have c21b1 : (t302 != 0) = false := bne_eq_false_iff_eq.mpr c21
     clear c21
     obtain ⟨ji22, hji22⟩ : ∃ j_ : Int, (wrap64 ((wrap64 (t301 + (wrap64 (t299)))) - (wrap64 (t299)))) = j_ := ⟨_, rfl⟩
     replace H : (if 0 ≤ (ji22) then (if (ji22) ≤ (wrap64 (t301 + (wrap64 (t299)))) then (if (wrap64 (t301 + (wrap64 (t299)))) ≤ (t300.size : Int) then (some (t300.extract ((ji22) : Int).toNat ((wrap64 (t301 + (wrap64 (t299)))) : Int).toNat, t300, wrap64 (t301 + (wrap64 (t299))), t302)) else (none)) else (none)) else (none)) = some (r1, r2, r3, r4) := by first | (rw [hji22] at H; exact H) | (simp only [hji22] at H ⊢; exact H)
     have hji22w : (IntKind.i64.wrap ((wrap64 (t301 + (wrap64 (t299)))) - (wrap64 (t299)))) = ji22 := (i64_w _).trans hji22
     by_cases c23 : 0 ≤ (ji22)
     ·rw [if_pos c23] at H
      have c23b0 := eq_true c23
      have c23b1 : decide (0 ≤ (ji22)) = true := decide_eq_true c23
      clear c23
      by_cases c24 : (ji22) ≤ (wrap64 (t301 + (wrap64 (t299))))
      ·rw [if_pos c24] at H
       have c24b0 := eq_true c24
       have c24b1 : decide ((ji22) ≤ (wrap64 (t301 + (wrap64 (t299))))) = true := decide_eq_true c24
       by_cases c25 : (wrap64 (t301 + (wrap64 (t299)))) ≤ (t300.size : Int)
       ·rw [if_pos c25] at H
        have c25b0 := eq_true c25
        have c25b1 : decide ((wrap64 (t301 + (wrap64 (t299)))) ≤ (t300.size : Int)) = true := decide_eq_true c25
        simp only [Option.some.injEq, Prod.mk.injEq] at H
        obtain ⟨rfl, rfl, rfl, rfl⟩ := H
        obtain ⟨HGz26, hgz26⟩ := HI0.out
        have hcz26_0 := cellS72_0 HGz26
        have hcz26_1 := cellS72_1 HGz26
        have hcz26_2 := cellS72_2 HGz26
        have hfz26_0 := blk_frozen HGz26 0
        have hfz26_1 := blk_frozen HGz26 1
        have hfz26_2 := blk_frozen HGz26 2
        clear HGz26 hgz26
        go_wp2
        repeat (go_quiet (fail); try go_wp2)
        go_ret
        exact ⟨by first | rfl | (simp [errW_none, errW_some] <;> rfl) | (simp only [← hji22]; first | rfl | (simp [errW_none, errW_some] <;> rfl)) | (simp [*, errW_none, errW_some] <;> rfl), by (try simp only [hji22]); repeat (first | (with_reducible first | exact HI0.out | apply IsS72.alloc | apply IsS72.drewN | apply IsS72.drew | apply IsS72.set_0 | apply IsS72.set_1 | apply IsS72.set_2) | exact HI0.out), by repeat (first | (with_reducible first | exact HB.out | apply below_alloc | apply pw_below_drewN | apply below_drew1 | refine below_set ?_ (IsS72.ge HI0.out)) | exact HB.out), by repeat (first | (with_reducible first | exact HK.out | apply KeepBut.set_ | apply keep_drewN | apply keep_drew | apply keep_alloc) | exact HK.out)⟩
       ·rw [if_neg c25] at H
        exact absurd H (by simp)
      ·rw [if_neg c24] at H
       exact absurd H (by simp)
     ·rw [if_neg c23] at H
      exact absurd H (by simp)
    ·rw [if_neg c21] at H
     have c21b0 : (t302 == 0) = false := beq_eq_false_iff_ne.mpr c21
     have c21b1 : (t302 != 0) = true := bne_iff_ne.mpr c21
     simp only [Option.some.injEq, Prod.mk.injEq] at H
     obtain ⟨rfl, rfl, rfl, rfl⟩ := H
     obtain ⟨HGz27, hgz27⟩ := HI0.out
     have hcz27_0 := cellS72_0 HGz27
     have hcz27_1 := cellS72_1 HGz27
     have hcz27_2 := cellS72_2 HGz27
     have hfz27_0 := blk_frozen HGz27 0
     have hfz27_1 := blk_frozen HGz27 1
     have hfz27_2 := blk_frozen HGz27 2
     clear HGz27 hgz27
     go_wp2
     repeat (go_quiet (fail); try go_wp2)
     go_ret
     exact ⟨by first | rfl | (simp [errW_none, errW_some] <;> rfl) | (simp [*, errW_none, errW_some] <;> rfl), by repeat (first | (with_reducible first | exact HI0.out | apply IsS72.alloc | apply IsS72.drewN | apply IsS72.drew | apply IsS72.set_0 | apply IsS72.set_1 | apply IsS72.set_2) | exact HI0.out), by repeat (first | (with_reducible first | exact HB.out | apply below_alloc | apply pw_below_drewN | apply below_drew1 | refine below_set ?_ (IsS72.ge HI0.out)) | exact HB.out), by repeat (first | (with_reducible first | exact HK.out | apply KeepBut.set_ | apply keep_drewN | apply keep_drew | apply keep_alloc) | exact HK.out)⟩
end Go.Proofs.Ytbfjbcaabijpfaa.Al

namespace Go.Proofs.Ytbfjbcaabijpfaa.Al
open Go.RowKit Go.Proofs.YtbfjbcaabijpfaaW.PrintWords Go.Proofs.YtbfjbcaabijpfaaW.PrintLast Go.Proofs.YtbfjbcaabijpfaaW.PrintMore
attribute [local go_sem] max2_int min2_int max_two min_two max_three min_three max_four min_four   -- for this text's walks alone
set_option linter.unusedVariables false
set_option linter.unusedSimpArgs false
end Go.Proofs.Ytbfjbcaabijpfaa.Al

namespace Go.Proofs.Ytbfjbcaabijpfaa.Al
open Go.RowKit Go.Proofs.YtbfjbcaabijpfaaW.PrintWords Go.Proofs.YtbfjbcaabijpfaaW.PrintLast Go.Proofs.YtbfjbcaabijpfaaW.PrintMore
attribute [local go_sem] max2_int min2_int max_two min_two max_three min_three max_four min_four   -- for this text's walks alone
set_option linter.unusedVariables false
set_option linter.unusedSimpArgs false
end Go.Proofs.Ytbfjbcaabijpfaa.Al

namespace Go.Proofs.Ytbfjbcaabijpfaa.PackDec
open Go.RowKit Go.Proofs.Ytbfjbcaabijpfaa.Base Go.Proofs.Ytbfjbcaabijpfaa.PackMath Go.Proofs.Ytbfjbcaabijpfaa.Al Go.Proofs.YtbfjbcaabijpfaaW.PrintWords Go.Proofs.YtbfjbcaabijpfaaW.PrintLast Go.Proofs.YtbfjbcaabijpfaaW.PrintMore
theorem Ev.succ {α : Type} {g : Nat → Option α} {r : α} (h : Ev (fun k => g (k + 1)) r) : Ev g r := Ev.step (fun _ => rfl) h
theorem rest_end {s : ByteArray} {p : Nat} (h : s.size ≤ p) : rest s p = [] := List.drop_of_length_le (by rw [bytesOf_length]; exact h)
theorem rest_at {s : ByteArray} {p : Nat} (h : p < s.size) : rest s p = bt s p :: rest s (p + 1) := by
 unfold rest
 have hl : p < (bytesOf s).length := by rw [bytesOf_length]; exact h
 rw [List.drop_eq_getElem_cons hl]
 congr 1
 rw [← rd_bytesOf]
 simp [rd, List.getD_eq_getElem?_getD, hl]
theorem ofInt_u64 (a : Nat) (ha : a < 18446744073709551616) : (BitVec.ofInt 64 (a : Int)).toNat = a := by
 rw [BitVec.ofInt_natCast, BitVec.toNat_ofNat]; exact Nat.mod_eq_of_lt (by omega)
theorem or_u64_nat (a b : Nat) (ha : a < 9223372036854775808) (hb : b < 9223372036854775808) : Go.bits .or .u64 (a : Int) (b : Int) = ((a ||| b : Nat) : Int) := by
 have hx : a ||| b < 2 ^ 63 := Nat.or_lt_two_pow (by omega) (by omega)
 show IntKind.u64.wrap ((BitVec.ofInt 64 (a : Int) ||| BitVec.ofInt 64 (b : Int)).toNat : Int) = _
 rw [BitVec.toNat_or, ofInt_u64 a (by omega), ofInt_u64 b (by omega), IntKind.wrap_u64]
 omega
theorem pow7 : ∀ i : Nat, i < 9 → 2 ^ (7 * i) ≤ 72057594037927936 := by
 intro i hi
 have : 2 ^ (7 * i) ≤ 2 ^ 56 := Nat.pow_le_pow_right (by omega) (by omega)
 omega
/-- Seven bits more, as the program lays them. -/
theorem lay_u64 (n x i : Nat) (hi : i < 9) (hn : n < 2 ^ (7 * i)) (hx : x < 128) : Go.bits .or .u64 (n : Int) (shl .u64 (IntKind.u64.wrap (x : Int)) (wrap64 (7 * (i : Int)))) = ((n + x * 2 ^ (7 * i) : Nat) : Int) := by
 have hp := pow7 i hi
 have h0 : 0 < 2 ^ (7 * i) := Nat.two_pow_pos _
 have e1 : IntKind.u64.wrap (x : Int) = (x : Int) := by rw [IntKind.wrap_u64]; omega
 have e2 : wrap64 (7 * (i : Int)) = ((7 * i : Nat) : Int) := by rw [wrap_id (by omega) (by omega)]; omega
 have hb : x * 2 ^ (7 * i) < 9223372036854775808 := by
  have : x * 2 ^ (7 * i) ≤ 127 * 2 ^ (7 * i) := Nat.mul_le_mul_right _ (by omega)
  omega
 have e3 : shl .u64 (x : Int) ((7 * i : Nat) : Int) = ((x * 2 ^ (7 * i) : Nat) : Int) := by
  unfold shl
  rw [Int.toNat_natCast, show min (7 * i) IntKind.u64.bits = 7 * i from Nat.min_eq_left (by show 7 * i ≤ 64; omega), IntKind.wrap_u64]
  have : ((x : Int) * 2 ^ (7 * i)) = ((x * 2 ^ (7 * i) : Nat) : Int) := by simp
  rw [this]
  omega
 rw [e1, e2, e3, or_u64_nat _ _ (by omega) hb]
 congr 1
 rw [Nat.or_comm, Nat.mul_comm, ← Nat.two_pow_add_eq_or_of_lt hn, Nat.add_comm]
theorem next_small (n x i : Nat) (hn : n < 2 ^ (7 * i)) (hx : x < 128) : n + x * 2 ^ (7 * i) < 2 ^ (7 * (i + 1)) := by
 rw [pow_next]
 have : x * 2 ^ (7 * i) ≤ 127 * 2 ^ (7 * i) := Nat.mul_le_mul_right _ (by omega)
 omega
/-- What number hands back of what was read. -/
def fin (s : ByteArray) (p : Nat) (most : Int) (r : Nat × Nat × Int) : Int × ByteArray × Int × Int :=
 if r.2.2 = 0 then (if (r.1 : Int) > most then (0, s, p, 2) else (r.1, s, ((p + r.2.1 : Nat) : Int), 0)) else if r.2.2 = 50 then (0, s, s.size, 50) else (0, s, p, 3)
theorem num_l0 (s : ByteArray) (p : Nat) (most : Int) (hs : s.size ≤ 140737488355328) : ∀ (d i n : Nat), i + d = 9 → n < 2 ^ (7 * i) → p + i ≤ s.size → Ev (fun k => pack_reader_number.l0 k most p n i s p 0) (fin s p most (pn d i n (rest s (p + i))))
 |0, i, n, h, hn, hp => by
  refine Ev.succ ?_
  simp only [pack_reader_number.l0]
  refine Ev.neg (by omega) ?_
  simp only [pack_reader_fail.f, Option.bind_some, pn, fin]
  exact Ev.now _
 |d + 1, i, n, h, hn, hp => by
  have e0 : wrap64 ((p : Int) + (i : Int)) = ((p + i : Nat) : Int) := by rw [wrap_id (by omega) (by omega)]; omega
  refine Ev.succ ?_
  simp only [pack_reader_number.l0]
  rw [e0]
  refine Ev.pos (by omega) (Ev.pos trivial ?_)
  by_cases hend : p + i = s.size
  ·refine Ev.pos (by omega) ?_
   rw [rest_end (by omega)]
   simp only [pack_reader_fail.f, Option.bind_some, pn, fin]
   exact Ev.now _
  ·refine Ev.neg (by omega) (Ev.pos (by omega) (Ev.pos (by omega) (Ev.pos (by rw [wrap_id (by omega) (by omega)]; omega) ?_)))
   rw [rest_at (by omega)]
   have hbr := bt_range s ((p + i : Nat) : Int)
   generalize bt s ((p + i : Nat) : Int) = b at hbr ⊢
   have em : Int.tmod b 128 = (((b % 128).toNat : Nat) : Int) := by rw [Int.tmod_eq_emod_of_nonneg (by omega)]; omega
   have hx : (b % 128).toNat < 128 := by omega
   rw [em, lay_u64 n _ i (by omega) hn hx]
   have hsm := next_small n _ i hn hx
   have hbd : n + (b % 128).toNat * 2 ^ (7 * i) < 9223372036854775808 := by
    have : 2 ^ (7 * (i + 1)) ≤ 2 ^ 63 := Nat.pow_le_pow_right (by omega) (by omega)
    omega
   by_cases hb : b < 128
   ·have epn : pn (d + 1) i n (b :: rest s (p + i + 1)) = if b = 0 ∧ 0 < i then (0, 0, 3) else (n + (b % 128).toNat * 2 ^ (7 * i), i + 1, 0) := by
     show (if b < 128 then _ else _) = _
     rw [if_pos hb]
    rw [epn]
    refine Ev.neg (by omega) ?_
    have last : ∀ c : Bool, c = decide (b = 0 ∧ 0 < i) → Ev (fun k => pack_reader_number.j1 k most p ((n + (b % 128).toNat * 2 ^ (7 * i) : Nat) : Int) i c s p 0) (fin s p most (if b = 0 ∧ 0 < i then (0, 0, 3) else (n + (b % 128).toNat * 2 ^ (7 * i), i + 1, 0))) := by
     intro c hc
     refine Ev.succ ?_
     simp only [pack_reader_number.j1]
     by_cases hz : b = 0 ∧ 0 < i
     ·rw [if_pos hz]
      refine Ev.pos (by rw [hc]; simpa using hz) ?_
      simp only [pack_reader_fail.f, Option.bind_some, fin]
      exact Ev.now _
     ·rw [if_neg hz]
      refine Ev.neg (by rw [hc]; simpa using hz) ?_
      have efin : fin s p most (n + (b % 128).toNat * 2 ^ (7 * i), i + 1, 0) = if ((n + (b % 128).toNat * 2 ^ (7 * i) : Nat) : Int) > most then (0, s, (p : Int), 2) else (((n + (b % 128).toNat * 2 ^ (7 * i) : Nat) : Int), s, ((p + (i + 1) : Nat) : Int), 0) := by
       unfold fin
       rw [if_pos rfl]
      by_cases hm : ((n + (b % 128).toNat * 2 ^ (7 * i) : Nat) : Int) > most
      ·refine Ev.pos hm ?_
       rw [efin, if_pos hm]
       simp only [pack_reader_fail.f, Option.bind_some]
       exact Ev.now _
      ·refine Ev.neg hm ?_
       rw [efin, if_neg hm]
       rw [e0, wrap_id (by omega) (by omega), show ((p + i : Nat) : Int) + 1 = ((p + (i + 1) : Nat) : Int) from by omega]
       exact Ev.now _
    by_cases hb0 : b = 0
    ·refine Ev.pos hb0 (last _ ?_)
     simp [hb0]
    ·refine Ev.neg hb0 (last _ ?_)
     simp [hb0]
   ·have epn : pn (d + 1) i n (b :: rest s (p + i + 1)) = pn d (i + 1) (n + (b % 128).toNat * 2 ^ (7 * i)) (rest s (p + (i + 1))) := by
     show (if b < 128 then _ else _) = _
     rw [if_neg hb]
     rfl
    rw [epn]
    refine Ev.pos (by omega) ?_
    rw [show wrap64 ((i : Int) + 1) = ((i + 1 : Nat) : Int) from by rw [wrap_id (by omega) (by omega)]; omega]
    exact num_l0 s p most hs d (i + 1) _ (by omega) hsm (by omega)
theorem pn_errs : ∀ (d i n : Nat) (l : List Int), (pn d i n l).2.2 = 0 ∨ ((pn d i n l).2.2 = 50 ∧ (pn d i n l).1 = 0) ∨ ((pn d i n l).2.2 = 3 ∧ (pn d i n l).1 = 0)
 |0, i, n, l => by simp [pn]
 |d + 1, i, n, [] => by simp [pn]
 |d + 1, i, n, b :: l => by
  have ih := pn_errs d (i + 1) (n + (b % 128).toNat * 2 ^ (7 * i)) l
  have e : pn (d + 1) i n (b :: l) = if b < 128 then (if b = 0 ∧ 0 < i then (0, 0, 3) else (n + (b % 128).toNat * 2 ^ (7 * i), i + 1, 0)) else pn d (i + 1) (n + (b % 128).toNat * 2 ^ (7 * i)) l := rfl
  rw [e]
  by_cases hb : b < 128
  ·rw [if_pos hb]
   by_cases hz : b = 0 ∧ 0 < i
   ·rw [if_pos hz]; simp
   ·rw [if_neg hz]; simp
  ·rw [if_neg hb]; exact ih
theorem fin_cnt (s : ByteArray) (p most : Nat) : fin s p most (pn 9 0 0 (rest s p)) = (((cnt s p most).1 : Int), s, ((cnt s p most).2.1 : Int), (cnt s p most).2.2) := by
 have he := pn_errs 9 0 0 (rest s p)
 unfold fin cnt rdn
 generalize pn 9 0 0 (rest s p) = r at he ⊢
 obtain ⟨v, k, e⟩ := r
 simp only at he ⊢
 rcases he with rfl | ⟨rfl, rfl⟩ | ⟨rfl, rfl⟩
 ·simp only [if_true]
  by_cases hm : most < v
  ·rw [if_pos (by omega), if_pos ⟨trivial, hm⟩]; rfl
  ·rw [if_neg (by omega), if_neg (by simp [hm])]
 ·simp
 ·simp
theorem number_ev (s : ByteArray) (p most : Nat) (hs : s.size ≤ 140737488355328) (hp : p ≤ s.size) : Ev (fun k => pack_reader_number.f k s p 0 most) (((cnt s p most).1 : Int), s, ((cnt s p most).2.1 : Int), (cnt s p most).2.2) := by
 have h := num_l0 s p (most : Int) hs 9 0 0 rfl (by simp) hp
 rw [Nat.add_zero, fin_cnt] at h
 exact h
theorem cnt_all (s : ByteArray) (p : Nat) : cnt s p 9223372036854775807 = rdn s p := by
 unfold cnt
 by_cases h : (rdn s p).2.2 = 0
 ·have := (rdn_ok h).1
  rw [if_neg (by omega)]
 ·rw [if_neg (by simp [h])]
theorem number_bad (s : ByteArray) (p e most : Int) (he : e ≠ 0) : Ev (fun k => pack_reader_number.f k s p e most) (0, s, p, e) := by
 unfold pack_reader_number.f
 refine Ev.succ ?_
 simp only [pack_reader_number.l0]
 exact Ev.pos (by omega) (Ev.neg he (Ev.now _))
theorem cnt_zero {s : ByteArray} {p most : Nat} (h : (cnt s p most).2.2 ≠ 0) : (cnt s p most).1 = 0 := by
 have he := pn_errs 9 0 0 (rest s p)
 unfold cnt at h ⊢
 split
 ·rfl
 ·rename_i hc
  rw [if_neg hc] at h
  unfold rdn at h ⊢
  simp only at h ⊢
  rcases he with h0 | ⟨_, h1⟩ | ⟨_, h1⟩
  ·exact absurd h0 h
  ·exact h1
  ·exact h1
theorem text_ev (s : ByteArray) (p : Nat) (hs : s.size ≤ 140737488355328) (hp : p ≤ s.size) : Ev (fun k => pack_reader_text.f k s p 0) ((txt s p).1, s, ((txt s p).2.1 : Int), (txt s p).2.2) := by
 have hn := number_ev s p 4096 hs hp
 have hle := cnt_le (most := 4096) hp
 have hz := cnt_zero (s := s) (p := p) (most := 4096)
 have hok := cnt_ok (s := s) (p := p) (most := 4096)
 unfold pack_reader_text.f txt
 refine Ev.bind hn ?_
 generalize cnt s p 4096 = c at hle hz hok ⊢
 obtain ⟨v, q, e⟩ := c
 simp only at hle hz hok ⊢
 by_cases he : e = 0
 ·subst he
  have hv : v ≤ 4096 := by
   obtain ⟨e1, e2, e3⟩ := hok rfl
   rw [← e1] at e3
   exact e3
  rw [if_pos rfl]
  refine Ev.pos rfl (Ev.succ ?_)
  rw [wrap_id (n := (v : Int)) (by omega) (by omega), wrap_id (n := (s.size : Int) - (q : Int)) (by omega) (by omega)]
  simp only [pack_reader_text.j0]
  by_cases hl : s.size - q < v
  ·rw [if_pos hl]
   refine Ev.pos (by simp; omega) ?_
   simp only [pack_reader_fail.f, Option.bind_some]
   exact Ev.neg (by omega) (Ev.now _)
  ·rw [if_neg hl]
   refine Ev.neg (by simp; omega) ?_
   rw [wrap_id (n := (q : Int) + (v : Int)) (by omega) (by omega), wrap_id (n := (q : Int) + (v : Int) - (v : Int)) (by omega) (by omega)]
   refine Ev.pos trivial (Ev.pos (by omega) (Ev.pos (by omega) (Ev.pos (by omega) ?_)))
   rw [show ((q : Int) + (v : Int) - (v : Int)).toNat = q from by omega, show ((q : Int) + (v : Int)).toNat = q + v from by omega, show (q : Int) + (v : Int) = ((q + v : Nat) : Int) from by omega]
   exact Ev.now _
 ·rw [if_neg he]
  refine Ev.neg he (Ev.succ ?_)
  simp only [pack_reader_text.j0]
  exact Ev.neg (by simp) (Ev.neg he (Ev.now _))
end Go.Proofs.Ytbfjbcaabijpfaa.PackDec

namespace Go.Proofs.Ytbfjbcaabijpfaa.PackDec
open Go.RowKit Go.Proofs.Ytbfjbcaabijpfaa.Base Go.Proofs.Ytbfjbcaabijpfaa.PackMath Go.Proofs.Ytbfjbcaabijpfaa.Al Go.Proofs.YtbfjbcaabijpfaaW.PrintWords Go.Proofs.YtbfjbcaabijpfaaW.PrintLast Go.Proofs.YtbfjbcaabijpfaaW.PrintMore
def st1 (s : ByteArray) : Nat × Nat × Int := cnt s 0 1024
def st2 (s : ByteArray) : List Int × Nat × Int := if (st1 s).2.2 = 0 then decN s (st1 s).1 (st1 s).2.1 [] else ([], (st1 s).2)
def st3 (s : ByteArray) : Nat × Nat × Int := if (st2 s).2.2 = 0 then cnt s (st2 s).2.1 1024 else (0, (st2 s).2)
def st4 (s : ByteArray) : List ByteArray × Nat × Int := if (st3 s).2.2 = 0 then decT s (st3 s).1 (st3 s).2.1 [] else ([], (st3 s).2)
theorem dec_st (s : ByteArray) : dec s = if (st4 s).2.2 = 0 then (if (st4 s).2.1 < s.size then ([], [], (st4 s).2.1, 3) else ((st2 s).1, (st4 s).1, 0, 0)) else ([], [], (st4 s).2) := by
 unfold dec st4 st3 st2 st1
 by_cases h1 : (cnt s 0 1024).2.2 = 0
 ·simp only [if_pos h1]
  by_cases h2 : (decN s (cnt s 0 1024).1 (cnt s 0 1024).2.1 []).2.2 = 0
  ·simp only [if_pos h2]
   by_cases h3 : (cnt s (decN s (cnt s 0 1024).1 (cnt s 0 1024).2.1 []).2.1 1024).2.2 = 0
   ·simp only [if_pos h3]
   ·simp only [if_neg h3]
  ·simp only [if_neg h2]
 ·simp only [if_neg h1]
theorem cnt_most {s : ByteArray} {p most : Nat} : (cnt s p most).1 ≤ most := by
 by_cases h : (cnt s p most).2.2 = 0
 ·obtain ⟨e1, _, e3⟩ := cnt_ok h
  rw [e1]; exact e3
 ·rw [cnt_zero h]; exact Nat.zero_le _
theorem st1_le (s : ByteArray) : (st1 s).2.1 ≤ s.size := cnt_le (Nat.zero_le _)
theorem st2_le (s : ByteArray) : (st2 s).2.1 ≤ s.size := by
 unfold st2
 split
 ·exact decN_le _ _ _ (st1_le s)
 ·exact st1_le s
theorem st3_le (s : ByteArray) : (st3 s).2.1 ≤ s.size := by
 unfold st3
 split
 ·exact cnt_le (st2_le s)
 ·exact st2_le s
theorem st3_most (s : ByteArray) : (st3 s).1 ≤ 1024 := by
 unfold st3
 split
 ·exact cnt_most
 ·exact Nat.zero_le _
/-- number, whatever the reader's state is. -/
def cntE (s : ByteArray) (p : Nat) (e : Int) (most : Nat) : Nat × Nat × Int := if e = 0 then cnt s p most else (0, p, e)
theorem number_calls (s : ByteArray) (p most : Nat) (mi pi e : Int) (hmi : mi = (most : Int)) (hpi : pi = (p : Int)) (hs : s.size ≤ 140737488355328) (hp : p ≤ s.size) (g : Nat) (w0 w : World) (hI : IsS72 w0 w g s pi e) (hB : Below w0.heap.size w0 w) :
  Calls Try.prog 45 #[.pointer (some ⟨g, 0, none⟩), .int .u64 mi] w fun x w' => x = .returned (.int .u64 ((cntE s p e most).1 : Int)) ∧ IsS72 w0 w' g s ((cntE s p e most).2.1 : Int) (cntE s p e most).2.2 ∧ Below w0.heap.size w0 w' ∧ KeepBut w w' g none := by
 subst hmi hpi
 unfold cntE
 by_cases he : e = 0
 ·subst he
  rw [if_pos rfl]
  obtain ⟨k, hk⟩ := Ev.rounds (number_ev s p most hs hp)
  exact pack_reader_number.calls k g s p 0 most _ _ _ _ w0 w hI hB hk
 ·rw [if_neg he]
  obtain ⟨k, hk⟩ := Ev.rounds (number_bad s p e most he)
  exact pack_reader_number.calls k g s p e most _ _ _ _ w0 w hI hB hk
theorem text_calls (s : ByteArray) (p : Nat) (pi : Int) (hpi : pi = (p : Int)) (hs : s.size ≤ 140737488355328) (hp : p ≤ s.size) (g : Nat) (w0 w : World) (hI : IsS72 w0 w g s pi 0) (hB : Below w0.heap.size w0 w) :
  Calls Try.prog 46 #[.pointer (some ⟨g, 0, none⟩)] w fun x w' => x = .returned (.string (txt s p).1) ∧ IsS72 w0 w' g s ((txt s p).2.1 : Int) (txt s p).2.2 ∧ Below w0.heap.size w0 w' ∧ KeepBut w w' g none := by
 subst hpi
 obtain ⟨k, hk⟩ := Ev.rounds (text_ev s p hs hp)
 exact pack_reader_text.calls k g s p 0 _ _ _ _ w0 w hI hB hk
/-- A reader at block gr, a pack under way at block gp: its slices vN, vT hold xs and ts. -/
structure PS (w0 W : World) (gp gr : Nat) (s : ByteArray) (p : Nat) (e : Int) (xs : List Int) (ts : List ByteArray) (vN vT : Value) : Prop where
 bp : W.heap[gp]? = some (.cells #[vN, vT] 48 (0, 0))
 gep : w0.heap.size ≤ gp
 rd : IsS72 w0 W gr s p e
 ns : (Kd.int .i64).R 3 W w0.heap.size (fun _ => True) vN xs
 ts : Kd.string.R 9 W w0.heap.size (fun _ => True) vT ts
 bel : Below w0.heap.size w0 W
section
variable {w0 W : World} {gp gr : Nat} {s : ByteArray} {p : Nat} {e : Int} {xs : List Int} {ts : List ByteArray} {vN vT : Value}
theorem PS.ne (h : PS w0 W gp gr s p e xs ts vN vT) : gp ≠ gr := fun hc => (h.rd.ne_blk h.bp (by decide)) hc.symm
theorem PS.neN (h : PS w0 W gp gr s p e xs ts vN vT) : some gp ≠ vN.ownBlock := Kd.R_ne h.ns h.bp (by decide)
theorem PS.neT (h : PS w0 W gp gr s p e xs ts vN vT) : some gp ≠ vT.ownBlock := Kd.R_ne h.ts h.bp (by decide)
theorem PS.keep {W1 : World} {p' : Nat} {e' : Int} (h : PS w0 W gp gr s p e xs ts vN vT) (hr : IsS72 w0 W1 gr s p' e') (hb : Below w0.heap.size w0 W1) (hk : KeepBut W W1 gr none) : PS w0 W1 gp gr s p' e' xs ts vN vT where
 bp := (hk.2 gp (blk_lt h.bp) h.ne (by simp)).trans h.bp
 gep := h.gep
 rd := hr
 ns := Kd.R_mono (Kd.R_keep (h.rd.apart h.ns (by decide)) hk (fun _ hk => hk.2)) (fun _ _ => trivial)
 ts := Kd.R_mono (Kd.R_keep (h.rd.apart h.ts (by decide)) hk (fun _ hk => hk.2)) (fun _ _ => trivial)
 bel := hb
theorem PS.below {W1 : World} (h : PS w0 W gp gr s p e xs ts vN vT) (hb : Below W.heap.size W W1) : PS w0 W1 gp gr s p e xs ts vN vT where
 bp := blk_below h.bp hb
 gep := h.gep
 rd := h.rd.below hb
 ns := Kd.R_below h.ns hb
 ts := Kd.R_below h.ts hb
 bel := below_step h.bel hb
theorem PS.alloc (h : PS w0 W gp gr s p e xs ts vN vT) (o : Obj) : PS w0 (W.alloc o) gp gr s p e xs ts vN vT := h.below (below_alloc (Below.refl _ _) o)
theorem PS.drewN (h : PS w0 W gp gr s p e xs ts vN vT) (m : Nat) : PS w0 (W.drewN m) gp gr s p e xs ts vN vT := h.below (pw_below_drewN (Below.refl _ _) m)
theorem PS.drew (h : PS w0 W gp gr s p e xs ts vN vT) : PS w0 W.drew gp gr s p e xs ts vN vT := h.below (below_drew (Below.refl _ _))
theorem PS.pushN {v1 : Value} {w1 : World} {ys : List Int} (h : PS w0 W gp gr s p e xs ts vN vT) (ho : (Kd.int .i64).R 3 w1 w0.heap.size (fun _ => True) v1 ys) (hb : Below w0.heap.size w0 w1) (hg : W.grownBy w1 vN.ownBlock) :
  w1.heap[gp]? = some (.cells #[vN, vT] 48 (0, 0)) ∧ PS w0 (w1.setCell ⟨gp, 0, none⟩ v1) gp gr s p e ys ts v1 vT := by
 have b1 := blk_grown h.bp hg h.neN
 have r1 := h.rd.grown hg (Kd.R_ne h.ns h.rd.1 (by decide))
 have t1 := Kd.R_over h.ts h.ns (by decide) hg
 exact ⟨b1, by simpa using blk_set b1 0 v1, h.gep, r1.far (p := ⟨gp, 0, none⟩) (Ne.symm h.ne) v1, Kd.R_set ho b1 (by decide) 0 v1, Kd.R_set t1 b1 (by decide) 0 v1, below_set hb h.gep⟩
theorem PS.pushT {v1 : Value} {w1 : World} {ys : List ByteArray} (h : PS w0 W gp gr s p e xs ts vN vT) (ho : Kd.string.R 9 w1 w0.heap.size (fun _ => True) v1 ys) (hb : Below w0.heap.size w0 w1) (hg : W.grownBy w1 vT.ownBlock) :
  w1.heap[gp]? = some (.cells #[vN, vT] 48 (0, 0)) ∧ PS w0 (w1.setCell ⟨gp, 1, none⟩ v1) gp gr s p e xs ys vN v1 := by
 have b1 := blk_grown h.bp hg h.neT
 have r1 := h.rd.grown hg (Kd.R_ne h.ts h.rd.1 (by decide))
 have t1 := Kd.R_over h.ns h.ts (by decide) hg
 exact ⟨b1, by simpa using blk_set b1 1 v1, h.gep, r1.far (p := ⟨gp, 1, none⟩) (Ne.symm h.ne) v1, Kd.R_set t1 b1 (by decide) 1 v1, Kd.R_set ho b1 (by decide) 1 v1, below_set hb h.gep⟩
end
end Go.Proofs.Ytbfjbcaabijpfaa.PackDec

namespace Go.Proofs.Ytbfjbcaabijpfaa.PackDec
open Go.RowKit Go.Proofs.Ytbfjbcaabijpfaa.Base Go.Proofs.Ytbfjbcaabijpfaa.PackMath Go.Proofs.YtbfjbcaabijpfaaW.PrintWords
theorem and_u64_one (n : Nat) (hn : n < 9223372036854775808) : Go.bits .and .u64 (n : Int) 1 = ((n % 2 : Nat) : Int) := by
 show IntKind.u64.wrap ((BitVec.ofInt 64 (n : Int) &&& BitVec.ofInt 64 ((1 : Nat) : Int)).toNat : Int) = _
 rw [BitVec.toNat_and, ofInt_u64 n (by omega), ofInt_u64 1 (by omega), IntKind.wrap_u64, Nat.and_one_is_mod]
 omega
theorem xor_all (x : Nat) (hx : x < 9223372036854775808) : Go.bits .xor .i64 (x : Int) (-1) = -(x : Int) - 1 := by
 show IntKind.i64.wrap ((BitVec.ofInt 64 (x : Int) ^^^ BitVec.ofInt 64 (-1)).toNat : Int) = _
 have e : BitVec.ofInt 64 (-1) = BitVec.allOnes 64 := by decide
 rw [e, BitVec.xor_allOnes, BitVec.toNat_not, ofInt_u64 x (by omega), IntKind.wrap_i64]
 omega
theorem zag_go (n : Nat) (hn : n < 9223372036854775808) : Go.bits .xor .i64 (wrap64 ((n : Int) / 2)) (wrap64 (-(wrap64 (Go.bits .and .u64 (n : Int) 1)))) = zag n := by
 rw [and_u64_one n hn, wrap_id (n := (n : Int) / 2) (by omega) (by omega), wrap_id (n := ((n % 2 : Nat) : Int)) (by omega) (by omega), wrap_id (n := -((n % 2 : Nat) : Int)) (by omega) (by omega)]
 rw [show (n : Int) / 2 = ((n / 2 : Nat) : Int) from by omega]
 unfold zag
 by_cases h : n % 2 = 1
 ·rw [if_pos h, h, show (-((1 : Nat) : Int)) = -1 from rfl, xor_all _ (by omega)]
  omega
 ·rw [if_neg h, show n % 2 = 0 from by omega, show (-((0 : Nat) : Int)) = ((0 : Nat) : Int) from rfl, xor_i64_nat _ _ (by omega) (by omega), Nat.xor_zero]
  omega
theorem rdn_lt (s : ByteArray) (p : Nat) : (rdn s p).1 < 9223372036854775808 := by
 by_cases h : (rdn s p).2.2 = 0
 ·exact (rdn_ok h).1
 ·rw [← cnt_all] at h ⊢
  rw [cnt_zero h]
  omega
end Go.Proofs.Ytbfjbcaabijpfaa.PackDec

namespace Go.Proofs.Ytbfjbcaabijpfaa.Al
open Go.RowKit Go.Proofs.Ytbfjbcaabijpfaa.Base Go.Proofs.Ytbfjbcaabijpfaa.PackMath Go.Proofs.Ytbfjbcaabijpfaa.PackDec Go.Proofs.YtbfjbcaabijpfaaW.PrintWords Go.Proofs.YtbfjbcaabijpfaaW.PrintLast Go.Proofs.YtbfjbcaabijpfaaW.PrintMore
set_option linter.unusedVariables false
set_option linter.unusedSimpArgs false
def pack_Decode.f (a0 : ByteArray) : Option (List Int × List ByteArray × Int × Int) := if a0.size ≤ 140737488355328 then some ((dec a0).1, (dec a0).2.1, ((dec a0).2.2.1 : Int), (dec a0).2.2.2) else none
def RelN (s : ByteArray) (m p : Nat) (e : Int) (xs : List Int) : Prop := p ≤ s.size ∧ (e = 0 → decN s m p xs = st2 s) ∧ (e ≠ 0 → (st2 s).2 = (p, e))
def RelT (s : ByteArray) (m p : Nat) (e : Int) (xs : List ByteArray) : Prop := p ≤ s.size ∧ (e = 0 → decT s m p xs = st4 s) ∧ (e ≠ 0 → (st4 s).2 = (p, e))
theorem relN_start (s : ByteArray) : RelN s (st1 s).1 (st1 s).2.1 (st1 s).2.2 [] := ⟨st1_le s, fun h => by unfold st2; rw [if_pos h], fun h => by unfold st2; rw [if_neg h]⟩
theorem relN_step {s : ByteArray} {m p : Nat} {xs : List Int} (h : RelN s (m + 1) p 0 xs) : RelN s m (rdn s p).2.1 (rdn s p).2.2 (xs ++ [zag (rdn s p).1]) := by
 obtain ⟨h1, h2, _⟩ := h
 have h3 := h2 rfl
 have e : decN s (m + 1) p xs = if (rdn s p).2.2 = 0 then decN s m (rdn s p).2.1 (xs ++ [zag (rdn s p).1]) else (xs, (rdn s p).2.1, (rdn s p).2.2) := rfl
 rw [e] at h3
 exact ⟨rdn_le h1, fun he => by rw [if_pos he] at h3; exact h3, fun he => by rw [if_neg he] at h3; rw [← h3]⟩
theorem relN_exit {s : ByteArray} {m p : Nat} {e : Int} {xs : List Int} (h : RelN s m p e xs) (hx : m = 0 ∨ e ≠ 0) : (st2 s).2 = (p, e) ∧ (e = 0 → (st2 s).1 = xs) ∧ p ≤ s.size := by
 obtain ⟨h1, h2, h3⟩ := h
 by_cases he : e = 0
 ·obtain rfl : m = 0 := by rcases hx with h | h; exact h; exact absurd he h
  have := h2 he
  simp only [decN] at this
  subst he
  rw [← this]
  exact ⟨rfl, fun _ => rfl, h1⟩
 ·exact ⟨h3 he, fun hc => absurd hc he, h1⟩
theorem relT_start (s : ByteArray) : RelT s (st3 s).1 (st3 s).2.1 (st3 s).2.2 [] := ⟨st3_le s, fun h => by unfold st4; rw [if_pos h], fun h => by unfold st4; rw [if_neg h]⟩
theorem relT_step {s : ByteArray} {m p : Nat} {xs : List ByteArray} (h : RelT s (m + 1) p 0 xs) : RelT s m (txt s p).2.1 (txt s p).2.2 (xs ++ [(txt s p).1]) := by
 obtain ⟨h1, h2, _⟩ := h
 have h3 := h2 rfl
 have e : decT s (m + 1) p xs = if (txt s p).2.2 = 0 then decT s m (txt s p).2.1 (xs ++ [(txt s p).1]) else (xs, (txt s p).2.1, (txt s p).2.2) := rfl
 rw [e] at h3
 exact ⟨txt_le h1, fun he => by rw [if_pos he] at h3; exact h3, fun he => by rw [if_neg he] at h3; rw [← h3]⟩
theorem relT_exit {s : ByteArray} {m p : Nat} {e : Int} {xs : List ByteArray} (h : RelT s m p e xs) (hx : m = 0 ∨ e ≠ 0) : (st4 s).2 = (p, e) ∧ (e = 0 → (st4 s).1 = xs) ∧ p ≤ s.size := by
 obtain ⟨h1, h2, h3⟩ := h
 by_cases he : e = 0
 ·obtain rfl : m = 0 := by rcases hx with h | h; exact h; exact absurd he h
  have := h2 he
  simp only [decT] at this
  subst he
  rw [← this]
  exact ⟨rfl, fun _ => rfl, h1⟩
 ·exact ⟨h3 he, fun hc => absurd hc he, h1⟩
theorem st3_of {s : ByteArray} {p : Nat} {e : Int} (h : (st2 s).2 = (p, e)) : cntE s p e 1024 = st3 s := by
 unfold cntE st3
 rw [h]
theorem st_back {s : ByteArray} (h : (st4 s).2.2 = 0) : (st2 s).2.2 = 0 := by
 have h3 : (st3 s).2.2 = 0 := by
  unfold st4 at h
  by_cases hc : (st3 s).2.2 = 0
  ·exact hc
  ·rw [if_neg hc] at h; exact absurd h hc
 unfold st3 at h3
 by_cases hc : (st2 s).2.2 = 0
 ·exact hc
 ·rw [if_neg hc] at h3; exact absurd h3 hc
theorem cntE_all (s : ByteArray) (p : Nat) : cntE s p 0 9223372036854775807 = rdn s p := by unfold cntE; rw [if_pos rfl, cnt_all]
set_option maxHeartbeats 8000000 in
set_option maxRecDepth 100000 in
theorem pack_Decode.core (s : ByteArray) (hs : s.size ≤ 140737488355328) (w : World) :
  Calls Try.prog 36 #[.string s] w fun e w' => ∃ v0_ v1_ : Value, e = .returned (.tuple #[.agg #[v0_, v1_], .int .i64 ((dec s).2.2.1 : Int), .int .i64 (dec s).2.2.2]) ∧ Kd.R (Kd.int .i64) 3 w' w.heap.size (fun _ => True) v0_ (dec s).1 ∧ Kd.R Kd.string 9 w' w.heap.size (fun _ => True) v1_ (dec s).2.1 ∧ Below w.heap.size w w' := by
 have hu48 := Try.underlying48
 have hc1 := fun (g : Nat) (W : World) hI hB => number_calls s 0 1024 1024 0 0 rfl rfl hs (Nat.zero_le _) g w W hI hB
 have e1 : cntE s 0 0 1024 = st1 s := rfl
 simp only [e1] at hc1
 have HC1 := Aside0.mk hc1
 clear hc1 e1
 go_enter Try.func36, Try.ntmps36
 go_wp2_with (first | ((with_reducible refine gate_dst (N := 2) rfl ?_); (try (refine gate_guard (by rfl) ?_; dsimp only)); refine box_event ?hg (N := 2) ?hd (cs := #[.slice none 0 0, .slice none 0 0]) (t := 48) ?hr ?_; (case hd => rfl); (case hg => rfl); (case hr => first | (go_simp; done) | (go_simp; rfl)); intro gp hgg gpw hbox hb; have GP := Aside0.mk (Nat.le_of_eq hgg.symm); have BP := Aside0.mk hbox; have BA := Aside0.mk hb; clear hgg hbox hb) | ((with_reducible refine gate_dst (N := 11) rfl ?_); (try (refine gate_guard (by rfl) ?_; dsimp only)); refine box_event ?hg (N := 11) ?hd (cs := #[.string s, .int .i64 0, .int .i64 0]) (t := 72) ?hr ?_; (case hd => rfl); (case hg => rfl); (case hr => first | (go_simp; done) | (go_simp; rfl)); intro gr hgg grw hbox hb; have HP0 : Aside0 (PS w grw gp gr s 0 0 [] [] (.slice none 0 0) (.slice none 0 0)) := ⟨⟨blk_below BP.out hb, GP.out, ⟨hbox, by rw [hgg]; exact BA.out.size⟩, Kd.R_nil _ _ _ _ _, Kd.R_nil _ _ _ _ _, below_step BA.out hb⟩⟩; clear hgg hbox hb) | (go_at_call 45; refine (HC1.out gr _ HP0.out.rd HP0.out.bel).mono ?_; rintro x w' ⟨rfl, hI, hB, hK⟩; have HP1 := Aside0.mk (HP0.out.keep hI hB hK); clear hI hB hK))
 have hm1 : (st1 s).1 ≤ 1024 := cnt_most
 have HR1 := Aside0.mk (relN_start s)
 generalize (st1 s).1 = m0 at hm1 HR1 ⊢
 generalize (st1 s).2.1 = p0 at HP1 HR1 ⊢
 generalize (st1 s).2.2 = e0 at HP1 HR1 ⊢
 clear HC1 HP0 BP BA
 go_loopw [6] (fun v6 wr => ∃ (m p : Nat) (e : Int) (xs : List Int) (vN : Value), v6 = .int .u64 m ∧ m + xs.length ≤ 1024 ∧ Aside0 (RelN s m p e xs) ∧ Aside0 (PS w wr gp gr s p e xs [] vN (.slice none 0 0))) (fun v6 _ => (intOf v6).toNat)
 case atStart => exact ⟨m0, p0, e0, [], _, rfl, by simpa using hm1, HR1, HP1⟩
 case round =>
  obtain ⟨m, p, e, xs, vN, rfl, hm, HR, HP⟩ := hrel
  clear hm1 HR1 HP1
  by_cases hc : 0 < m ∧ e = 0
  ·obtain ⟨h0, rfl⟩ := hc
   obtain ⟨m, rfl⟩ : ∃ k, m = k + 1 := ⟨m - 1, by omega⟩
   have hx2 := cellS72_2 HP.out.rd.1
   have c1 : decide ((0 : Int) < ((m + 1 : Nat) : Int)) = true := decide_eq_true (by omega)
   have c2 : decide (0 < m + 1) = true := decide_eq_true (by omega)
   have hcn := fun (W : World) hI hB => number_calls s p 9223372036854775807 9223372036854775807 p 0 rfl rfl hs HR.out.1 gr w W hI hB
   simp only [cntE_all] at hcn
   have HCN := Aside0.mk hcn
   clear hcn
   go_wp2_with (first | (go_at_call 45; refine (HCN.out _ HP.out.rd HP.out.bel).mono ?_; rintro x w' ⟨rfl, hI, hB, hK⟩; have HP1 := Aside0.mk (HP.out.keep hI hB hK); clear hI hB hK; have hxN : w'.cell? ⟨gp, 0, none⟩ = some vN := (blk_cell HP1.out.bp 0).trans rfl) | ((with_reducible refine gate_builtin (b := .append) (xs := #[.tmp 28, .tmp 37]) rfl ?_); at_builtin; (refine Kd.R_append (Kd.int .i64) (w0 := w) w.heap.size rfl (.tmp 28) (.tmp 37) 46 3 (.int .i64 0) 8 rfl Try.underlying46 info3 rfl (by decide) (by omega) vN xs (Go.bits .xor .i64 (wrap64 (((rdn s p).1 : Int) / 2)) (wrap64 (-(wrap64 (Go.bits .and .u64 ((rdn s p).1 : Int) 1))))) [.int .i64 (Go.bits .xor .i64 (wrap64 (((rdn s p).1 : Int) / 2)) (wrap64 (-(wrap64 (Go.bits .and .u64 ((rdn s p).1 : Int) 1)))))] (fun _ => True) (fun _ => False) rfl rfl ?aP (fun _ hk => hk.elim) (fun _ _ => trivial) HP1.out.ns HP1.out.bel HP1.out.bel.size ?aL ?_; (case aP => exact rfl); (case aL => omega); intro v1 w1 ho hb hg hat; obtain ⟨A1, k1, e1⟩ := Kd.R_slice ho; subst e1; obtain ⟨b1, hp2⟩ := HP1.out.pushN ho hb hg; have HP2 := Aside0.mk hp2; have hs0 : w1.cell? ⟨gp, 0, none⟩ = some vN := (blk_cell b1 0).trans rfl; have hf0 := blk_frozen b1 0; clear ho hb hg hat hp2 b1)))
   have hz := zag_go (rdn s p).1 (rdn_lt s p)
   have HP3 := HP2.out
   rw [hz] at HP3
   exact ⟨⟨m, (rdn s p).2.1, (rdn s p).2.2, xs ++ [zag (rdn s p).1], _, rfl, by simp; omega, ⟨relN_step HR.out⟩, ⟨by simpa using HP3⟩⟩, by simp [intOf]⟩
  ·obtain ⟨x1, x2, x3⟩ := relN_exit HR.out (by omega)
   have HX1 := Aside0.mk x1
   have HX2 := Aside0.mk x2
   have hc3 := fun (W : World) hI hB => number_calls s p 1024 1024 p e rfl rfl hs x3 gr w W hI hB
   simp only [st3_of x1] at hc3
   have HC3 := Aside0.mk hc3
   have hx2 := cellS72_2 HP.out.rd.1
   have hm3 := st3_most s
   have HM3 := Aside0.mk hm3
   have HR3 := Aside0.mk (relT_start s)
   clear x1 x2 x3 hc3 HR hm3
   by_cases h0 : 0 < m
   ·have he : (e == 0) = false := by simp; omega
    have c1 : decide ((0 : Int) < (m : Int)) = true := decide_eq_true (by omega)
    have c2 : decide (0 < m) = true := decide_eq_true (by omega)
    clear hc h0
    go_wp2_with (first | (go_at_call 45; refine (HC3.out _ HP.out.rd HP.out.bel).mono ?_; rintro x w' ⟨rfl, hI, hB, hK⟩; have HP3 := Aside0.mk (HP.out.keep hI hB hK); clear hI hB hK))
    clear hx2
    have hm3 := HM3.out
    clear HM3
    generalize hg1 : (st3 s).1 = m1 at hm3 HR3 ⊢
    generalize hg2 : (st3 s).2.1 = p1 at HP3 HR3 ⊢
    generalize hg3 : (st3 s).2.2 = e1 at HP3 HR3 ⊢
    clear hg1 hg2 hg3 HC3 HP
    obtain ⟨wo, rfl⟩ : ∃ wo : World, wo = wr := ⟨_, rfl⟩
    go_loopw [8] (fun v8 wr => ∃ (m p : Nat) (e : Int) (ts : List ByteArray) (vT : Value), v8 = .int .u64 m ∧ m + ts.length ≤ 1024 ∧ Aside0 (RelT s m p e ts) ∧ Aside0 (PS w wr gp gr s p e xs ts vN vT)) (fun v8 _ => (intOf v8).toNat)
    case atStart => exact ⟨m1, p1, e1, [], _, rfl, by simpa using hm3, HR3, HP3⟩
    case round =>
     clear hm3 HR3 HP3
     obtain ⟨m, p, e, ts, vT, rfl, hm, HR, HP⟩ := hrel
     by_cases hc : 0 < m ∧ e = 0
     ·obtain ⟨h0, rfl⟩ := hc
      obtain ⟨m, rfl⟩ : ∃ k, m = k + 1 := ⟨m - 1, by omega⟩
      have hx2 := cellS72_2 HP.out.rd.1
      have c1 : decide ((0 : Int) < ((m + 1 : Nat) : Int)) = true := decide_eq_true (by omega)
      have c2 : decide (0 < m + 1) = true := decide_eq_true (by omega)
      go_wp2_with fail
      clear hx2 c1 c2
      have hxT : wr.cell? ⟨gp, 1, none⟩ = some vT := (blk_cell HP.out.bp 1).trans rfl
      have HPd : Aside0 (PS w wr.drew gp gr s p 0 xs ts vN vT) := ⟨HP.out.drew⟩
      go_region_law (first | (go_simp; go_at_call 46; refine (text_calls s p p rfl hs HR.out.1 gr w _ HPd.out.rd HPd.out.bel).mono ?_; rintro x w' ⟨rfl, hI, hB, hK⟩; have HP1 := Aside0.mk (HPd.out.keep hI hB hK); have hxT1 : w'.cell? ⟨gp, 1, none⟩ = some vT := (blk_cell HP1.out.bp 1).trans rfl; have hxT2 : ∀ o : Obj, (w'.alloc o).cell? ⟨gp, 1, none⟩ = some vT := fun o => (blk_cell (HP1.out.alloc o).bp 1).trans rfl; clear hI hB hK) | (refine Kd.R_append_step Kd.string (w0 := w) w.heap.size (by rfl) (.tmp 54) (.tmp 57) 22 9 (.string ⟨#[]⟩) 16 (by rfl) Try.underlying22 info9 rfl (by decide) (by omega) vT ts ((txt s p).1) [.string (txt s p).1] (fun _ => True) (fun _ => False) (by rfl) (by rfl) rfl (fun _ hk => hk.elim) (fun _ _ => trivial) HP1.out.ts HP1.out.bel HP1.out.bel.size (by omega) ?_; intro v1 w1 ho hb hg hat; obtain ⟨A1, k1, e1⟩ := Kd.R_slice ho; subst e1; obtain ⟨b1, hp2⟩ := HP1.out.pushT ho hb hg; have HP2 := Aside0.mk hp2; have hs0 : w1.cell? ⟨gp, 1, none⟩ = some vT := (blk_cell b1 1).trans rfl; have hf0 := blk_frozen b1 1; clear ho hb hg hat hp2 b1))
      all_goals (go_wp2_with fail; (have HP3 := HP2.out; exact ⟨⟨m, (txt s p).2.1, (txt s p).2.2, ts ++ [(txt s p).1], _, rfl, by simp; omega, ⟨relT_step HR.out⟩, ⟨by simpa using HP3⟩⟩, by simp [intOf]⟩))
     ·obtain ⟨y1, y2, y3⟩ := relT_exit HR.out (by omega)
      have hx2 := cellS72_2 HP.out.rd.1
      have hx1 := cellS72_1 HP.out.rd.1
      have hne : gp ≠ gr := HP.out.ne
      have hne2 : gr ≠ gp := Ne.symm hne
      obtain ⟨AN, kN, eN⟩ := Kd.R_slice HP.out.ns
      obtain ⟨AT, kT, eT⟩ := Kd.R_slice HP.out.ts
      subst eN eT
      have hp0 : wr.cell? ⟨gp, 0, none⟩ = some (.slice AN xs.length kN) := (blk_cell HP.out.bp 0).trans rfl
      have hp1 : wr.cell? ⟨gp, 1, none⟩ = some (.slice AT ts.length kT) := (blk_cell HP.out.bp 1).trans rfl
      have hf0 := blk_frozen HP.out.bp 0
      have hf1 := blk_frozen HP.out.bp 1
      by_cases he : e = 0
      ·subst he
       obtain rfl : m = 0 := by omega
       by_cases hl : p < s.size
       ·have hd : dec s = ([], [], p, 3) := by rw [dec_st, y1]; simp [hl]
        have HD := Aside0.mk hd
        have c3 : decide ((p : Int) < (s.size : Int)) = true := decide_eq_true (by omega)
        have c4 : decide (p < s.size) = true := decide_eq_true hl
        clear hd hc y1 y2 y3 hp0 hp1 hf0 hf1
        go_wp2_with (go_at_call 47; refine (pack_reader_fail.calls gr s p 0 p 3 _ _ _ _ w _ HP.out.rd HP.out.bel rfl).mono ?_; rintro x w' ⟨rfl, hI, hB, hK⟩; have HQ := Aside0.mk (HP.out.keep (p' := p) (e' := 3) hI hB hK); have hx2 := cellS72_2 HQ.out.rd.1; have hx1 := cellS72_1 HQ.out.rd.1; clear hI hB hK)
        have hp0 : w'.cell? ⟨gp, 0, none⟩ = some (.slice AN xs.length kN) := (blk_cell HQ.out.bp 0).trans rfl
        have hp1 : w'.cell? ⟨gp, 1, none⟩ = some (.slice AT ts.length kT) := (blk_cell HQ.out.bp 1).trans rfl
        have hf0 := blk_frozen HQ.out.bp 0
        have hf1 := blk_frozen HQ.out.bp 1
        go_region_held3 (fun W => W.cell? ⟨gr, 1, none⟩ = some (.int .i64 p) ∧ W.cell? ⟨gr, 2, none⟩ = some (.int .i64 3)) (go_keep) (fail)
        go_wp2
        have bk := blk_drew (blk_set (blk_set HQ.out.bp 0 (.slice none 0 0)) 1 (.slice none 0 0))
        refine bodyPost_ret (results_ctt rfl _ _ gp 48 #[.slice none 0 0, .slice none 0 0] (0, 0) _ rfl (by simpa using bk) Try.underlying48 rfl (by kernel_rfl)) rfl ?_
        rw [HD.out]
        exact ⟨_, _, rfl, Kd.R_nil _ _ _ _ _, Kd.R_nil _ _ _ _ _, below_drew (below_set (below_set HQ.out.bel HQ.out.gep) HQ.out.gep)⟩
       ·have hd : dec s = (xs, ts, 0, 0) := by
         rw [dec_st, y1]
         simp only [if_true]
         rw [if_neg hl, y2 rfl, HX2.out (by have := st_back (s := s) (by rw [y1]); rw [HX1.out] at this; exact this)]
        have HD := Aside0.mk hd
        have c3 : decide ((p : Int) < (s.size : Int)) = false := decide_eq_false (by omega)
        have c4 : decide (p < s.size) = false := decide_eq_false hl
        clear hd hc y1 y2 y3 hl
        go_wp2
        have bk := blk_set (blk_set HP.out.bp 0 (.slice AN xs.length kN)) 1 (.slice AT ts.length kT)
        refine bodyPost_ret (results_ctt rfl _ _ gp 48 #[.slice AN xs.length kN, .slice AT ts.length kT] (0, 0) _ rfl (by simpa using bk) Try.underlying48 rfl (by kernel_rfl)) rfl ?_
        rw [HD.out]
        exact ⟨_, _, rfl, Kd.R_set (Kd.R_set HP.out.ns HP.out.bp (by decide) 0 _) (blk_set HP.out.bp 0 _) (by decide) 1 _, Kd.R_set (Kd.R_set HP.out.ts HP.out.bp (by decide) 0 _) (blk_set HP.out.bp 0 _) (by decide) 1 _, below_set (below_set HP.out.bel HP.out.gep) HP.out.gep⟩
      ·have hd : dec s = ([], [], p, e) := by rw [dec_st, y1]; simp [he]
       have HD := Aside0.mk hd
       have he1 : (e == 0) = false := by simpa using he
       have he2 : (e != 0) = true := by simpa using he
       clear hd y1 y2 y3
       by_cases h0 : 0 < m
       all_goals
        first
        |have c1 : decide ((0 : Int) < (m : Int)) = true := decide_eq_true (by omega)
         have c2 : decide (0 < m) = true := decide_eq_true h0
        |obtain rfl : m = 0 := by omega
        clear hc h0 he
        go_wp2
        go_region_held3 (fun W => W.cell? ⟨gr, 1, none⟩ = some (.int .i64 p) ∧ W.cell? ⟨gr, 2, none⟩ = some (.int .i64 e)) (go_keep) (fail)
        go_wp2
        have bk := blk_drew (blk_set (blk_set HP.out.bp 0 (.slice none 0 0)) 1 (.slice none 0 0))
        refine bodyPost_ret (results_ctt rfl _ _ gp 48 #[.slice none 0 0, .slice none 0 0] (0, 0) _ rfl (by simpa using bk) Try.underlying48 rfl (by kernel_rfl)) rfl ?_
        rw [HD.out]
        exact ⟨_, _, rfl, Kd.R_nil _ _ _ _ _, Kd.R_nil _ _ _ _ _, below_drew (below_set (below_set HP.out.bel HP.out.gep) HP.out.gep)⟩
   ·obtain rfl : m = 0 := by omega
    clear hc h0
    go_wp2_with (first | (go_at_call 45; refine (HC3.out _ HP.out.rd HP.out.bel).mono ?_; rintro x w' ⟨rfl, hI, hB, hK⟩; have HP3 := Aside0.mk (HP.out.keep hI hB hK); clear hI hB hK))
    clear hx2
    have hm3 := HM3.out
    clear HM3
    generalize hg1 : (st3 s).1 = m1 at hm3 HR3 ⊢
    generalize hg2 : (st3 s).2.1 = p1 at HP3 HR3 ⊢
    generalize hg3 : (st3 s).2.2 = e1 at HP3 HR3 ⊢
    clear hg1 hg2 hg3 HC3 HP
    obtain ⟨wo, rfl⟩ : ∃ wo : World, wo = wr := ⟨_, rfl⟩
    go_loopw [8] (fun v8 wr => ∃ (m p : Nat) (e : Int) (ts : List ByteArray) (vT : Value), v8 = .int .u64 m ∧ m + ts.length ≤ 1024 ∧ Aside0 (RelT s m p e ts) ∧ Aside0 (PS w wr gp gr s p e xs ts vN vT)) (fun v8 _ => (intOf v8).toNat)
    case atStart => exact ⟨m1, p1, e1, [], _, rfl, by simpa using hm3, HR3, HP3⟩
    case round =>
     clear hm3 HR3 HP3
     obtain ⟨m, p, e, ts, vT, rfl, hm, HR, HP⟩ := hrel
     by_cases hc : 0 < m ∧ e = 0
     ·obtain ⟨h0, rfl⟩ := hc
      obtain ⟨m, rfl⟩ : ∃ k, m = k + 1 := ⟨m - 1, by omega⟩
      have hx2 := cellS72_2 HP.out.rd.1
      have c1 : decide ((0 : Int) < ((m + 1 : Nat) : Int)) = true := decide_eq_true (by omega)
      have c2 : decide (0 < m + 1) = true := decide_eq_true (by omega)
      go_wp2_with fail
      clear hx2 c1 c2
      have hxT : wr.cell? ⟨gp, 1, none⟩ = some vT := (blk_cell HP.out.bp 1).trans rfl
      have HPd : Aside0 (PS w wr.drew gp gr s p 0 xs ts vN vT) := ⟨HP.out.drew⟩
      go_region_law (first | (go_simp; go_at_call 46; refine (text_calls s p p rfl hs HR.out.1 gr w _ HPd.out.rd HPd.out.bel).mono ?_; rintro x w' ⟨rfl, hI, hB, hK⟩; have HP1 := Aside0.mk (HPd.out.keep hI hB hK); have hxT1 : w'.cell? ⟨gp, 1, none⟩ = some vT := (blk_cell HP1.out.bp 1).trans rfl; have hxT2 : ∀ o : Obj, (w'.alloc o).cell? ⟨gp, 1, none⟩ = some vT := fun o => (blk_cell (HP1.out.alloc o).bp 1).trans rfl; clear hI hB hK) | (refine Kd.R_append_step Kd.string (w0 := w) w.heap.size (by rfl) (.tmp 54) (.tmp 57) 22 9 (.string ⟨#[]⟩) 16 (by rfl) Try.underlying22 info9 rfl (by decide) (by omega) vT ts ((txt s p).1) [.string (txt s p).1] (fun _ => True) (fun _ => False) (by rfl) (by rfl) rfl (fun _ hk => hk.elim) (fun _ _ => trivial) HP1.out.ts HP1.out.bel HP1.out.bel.size (by omega) ?_; intro v1 w1 ho hb hg hat; obtain ⟨A1, k1, e1⟩ := Kd.R_slice ho; subst e1; obtain ⟨b1, hp2⟩ := HP1.out.pushT ho hb hg; have HP2 := Aside0.mk hp2; have hs0 : w1.cell? ⟨gp, 1, none⟩ = some vT := (blk_cell b1 1).trans rfl; have hf0 := blk_frozen b1 1; clear ho hb hg hat hp2 b1))
      all_goals (go_wp2_with fail; (have HP3 := HP2.out; exact ⟨⟨m, (txt s p).2.1, (txt s p).2.2, ts ++ [(txt s p).1], _, rfl, by simp; omega, ⟨relT_step HR.out⟩, ⟨by simpa using HP3⟩⟩, by simp [intOf]⟩))
     ·obtain ⟨y1, y2, y3⟩ := relT_exit HR.out (by omega)
      have hx2 := cellS72_2 HP.out.rd.1
      have hx1 := cellS72_1 HP.out.rd.1
      have hne : gp ≠ gr := HP.out.ne
      have hne2 : gr ≠ gp := Ne.symm hne
      obtain ⟨AN, kN, eN⟩ := Kd.R_slice HP.out.ns
      obtain ⟨AT, kT, eT⟩ := Kd.R_slice HP.out.ts
      subst eN eT
      have hp0 : wr.cell? ⟨gp, 0, none⟩ = some (.slice AN xs.length kN) := (blk_cell HP.out.bp 0).trans rfl
      have hp1 : wr.cell? ⟨gp, 1, none⟩ = some (.slice AT ts.length kT) := (blk_cell HP.out.bp 1).trans rfl
      have hf0 := blk_frozen HP.out.bp 0
      have hf1 := blk_frozen HP.out.bp 1
      by_cases he : e = 0
      ·subst he
       obtain rfl : m = 0 := by omega
       by_cases hl : p < s.size
       ·have hd : dec s = ([], [], p, 3) := by rw [dec_st, y1]; simp [hl]
        have HD := Aside0.mk hd
        have c3 : decide ((p : Int) < (s.size : Int)) = true := decide_eq_true (by omega)
        have c4 : decide (p < s.size) = true := decide_eq_true hl
        clear hd hc y1 y2 y3 hp0 hp1 hf0 hf1
        go_wp2_with (go_at_call 47; refine (pack_reader_fail.calls gr s p 0 p 3 _ _ _ _ w _ HP.out.rd HP.out.bel rfl).mono ?_; rintro x w' ⟨rfl, hI, hB, hK⟩; have HQ := Aside0.mk (HP.out.keep (p' := p) (e' := 3) hI hB hK); have hx2 := cellS72_2 HQ.out.rd.1; have hx1 := cellS72_1 HQ.out.rd.1; clear hI hB hK)
        have hp0 : w'.cell? ⟨gp, 0, none⟩ = some (.slice AN xs.length kN) := (blk_cell HQ.out.bp 0).trans rfl
        have hp1 : w'.cell? ⟨gp, 1, none⟩ = some (.slice AT ts.length kT) := (blk_cell HQ.out.bp 1).trans rfl
        have hf0 := blk_frozen HQ.out.bp 0
        have hf1 := blk_frozen HQ.out.bp 1
        go_region_held3 (fun W => W.cell? ⟨gr, 1, none⟩ = some (.int .i64 p) ∧ W.cell? ⟨gr, 2, none⟩ = some (.int .i64 3)) (go_keep) (fail)
        go_wp2
        have bk := blk_drew (blk_set (blk_set HQ.out.bp 0 (.slice none 0 0)) 1 (.slice none 0 0))
        refine bodyPost_ret (results_ctt rfl _ _ gp 48 #[.slice none 0 0, .slice none 0 0] (0, 0) _ rfl (by simpa using bk) Try.underlying48 rfl (by kernel_rfl)) rfl ?_
        rw [HD.out]
        exact ⟨_, _, rfl, Kd.R_nil _ _ _ _ _, Kd.R_nil _ _ _ _ _, below_drew (below_set (below_set HQ.out.bel HQ.out.gep) HQ.out.gep)⟩
       ·have hd : dec s = (xs, ts, 0, 0) := by
         rw [dec_st, y1]
         simp only [if_true]
         rw [if_neg hl, y2 rfl, HX2.out (by have := st_back (s := s) (by rw [y1]); rw [HX1.out] at this; exact this)]
        have HD := Aside0.mk hd
        have c3 : decide ((p : Int) < (s.size : Int)) = false := decide_eq_false (by omega)
        have c4 : decide (p < s.size) = false := decide_eq_false hl
        clear hd hc y1 y2 y3 hl
        go_wp2
        have bk := blk_set (blk_set HP.out.bp 0 (.slice AN xs.length kN)) 1 (.slice AT ts.length kT)
        refine bodyPost_ret (results_ctt rfl _ _ gp 48 #[.slice AN xs.length kN, .slice AT ts.length kT] (0, 0) _ rfl (by simpa using bk) Try.underlying48 rfl (by kernel_rfl)) rfl ?_
        rw [HD.out]
        exact ⟨_, _, rfl, Kd.R_set (Kd.R_set HP.out.ns HP.out.bp (by decide) 0 _) (blk_set HP.out.bp 0 _) (by decide) 1 _, Kd.R_set (Kd.R_set HP.out.ts HP.out.bp (by decide) 0 _) (blk_set HP.out.bp 0 _) (by decide) 1 _, below_set (below_set HP.out.bel HP.out.gep) HP.out.gep⟩
      ·have hd : dec s = ([], [], p, e) := by rw [dec_st, y1]; simp [he]
       have HD := Aside0.mk hd
       have he1 : (e == 0) = false := by simpa using he
       have he2 : (e != 0) = true := by simpa using he
       clear hd y1 y2 y3
       by_cases h0 : 0 < m
       all_goals
        first
        |have c1 : decide ((0 : Int) < (m : Int)) = true := decide_eq_true (by omega)
         have c2 : decide (0 < m) = true := decide_eq_true h0
        |obtain rfl : m = 0 := by omega
        clear hc h0 he
        go_wp2
        go_region_held3 (fun W => W.cell? ⟨gr, 1, none⟩ = some (.int .i64 p) ∧ W.cell? ⟨gr, 2, none⟩ = some (.int .i64 e)) (go_keep) (fail)
        go_wp2
        have bk := blk_drew (blk_set (blk_set HP.out.bp 0 (.slice none 0 0)) 1 (.slice none 0 0))
        refine bodyPost_ret (results_ctt rfl _ _ gp 48 #[.slice none 0 0, .slice none 0 0] (0, 0) _ rfl (by simpa using bk) Try.underlying48 rfl (by kernel_rfl)) rfl ?_
        rw [HD.out]
        exact ⟨_, _, rfl, Kd.R_nil _ _ _ _ _, Kd.R_nil _ _ _ _ _, below_drew (below_set (below_set HP.out.bel HP.out.gep) HP.out.gep)⟩
theorem pack_Decode.calls (a0 : ByteArray) (r1 : List Int) (r2 : List ByteArray) (r3 : Int) (r4 : Int) (w : World) (h : pack_Decode.f a0 = some (r1, r2, r3, r4)) :
  Calls Try.prog 36 #[.string a0] w fun e w' => ∃ v0_ v1_ : Value, e = .returned (.tuple #[.agg #[v0_, v1_], .int .i64 r3, .int .i64 r4]) ∧ Kd.R (Kd.int .i64) 3 w' w.heap.size (fun _ => True) v0_ r1 ∧ Kd.R Kd.string 9 w' w.heap.size (fun _ => True) v1_ r2 ∧ Below w.heap.size w w' := by
 unfold pack_Decode.f at h
 split at h
 case isFalse => cases h
 rename_i hs
 simp only [Option.some.injEq, Prod.mk.injEq] at h
 obtain ⟨rfl, rfl, rfl, rfl⟩ := h
 exact pack_Decode.core a0 hs w
end Go.Proofs.Ytbfjbcaabijpfaa.Al

namespace Go.Proofs.Ytbfjbcaabijpfaa.DecLen
open Go.RowKit Go.Proofs.Ytbfjbcaabijpfaa.Base Go.Proofs.Ytbfjbcaabijpfaa.PackMath Go.Proofs.Ytbfjbcaabijpfaa.PackDec Go.Proofs.YtbfjbcaabijpfaaW.PrintWords
set_option linter.unusedVariables false
set_option linter.unusedSimpArgs false
theorem dec_len (s : ByteArray) : (dec s).1.length ≤ 1024 ∧ (dec s).2.1.length ≤ 1024 := by
 by_cases h : (dec s).2.2.2 = 0
 ·obtain ⟨ns, ts, h1, h2, _⟩ := enc_dec h
  rw [h1]
  exact ⟨(chk_ok h2).1, (chk_ok h2).2.1⟩
 ·obtain ⟨h1, h2⟩ := dec_no h
  rw [h1, h2]
  simp
end Go.Proofs.Ytbfjbcaabijpfaa.DecLen

namespace Go.Proofs.Ytbfjbcaabijpfaa.Al
open Go.RowKit Go.Proofs.YtbfjbcaabijpfaaW.PrintWords Go.Proofs.YtbfjbcaabijpfaaW.PrintLast Go.Proofs.YtbfjbcaabijpfaaW.PrintMore
set_option linter.unusedVariables false
set_option linter.unusedSimpArgs false
def slices_CloneT.f (l0 : List ByteArray) : Option (List ByteArray) := if l0.length < 8796093022208 then some l0 else none
set_option maxHeartbeats 8000000 in
set_option maxRecDepth 100000 in
theorem slices_CloneT.calls (A0 : Option Addr) (c0 : Nat) (l0 : List ByteArray) (r : List ByteArray) (w : World) (hr0 : Kd.C Kd.string w A0 l0.length l0) (hc0 : l0.length ≤ c0) (h : slices_CloneT.f l0 = some r) :
  Calls Try.prog 37 #[.slice A0 l0.length c0] w fun e w' => ∃ v0_ : Value, e = .returned (v0_) ∧ Kd.R Kd.string 9 w' w.heap.size (fun _ => True) v0_ r ∧ Below w.heap.size w w' := by
 unfold slices_CloneT.f at h
 split at h
 case isFalse => cases h
 rename_i hlim
 obtain rfl := Option.some.inj h
 clear h
 have HR0 := Aside0.mk hr0
 have HC0 := Aside0.mk hc0
 have HL := Aside0.mk hlim
 have HB := Aside0.mk (Below.refl w.heap.size w)
 rcases A0 with _ | a
 ·have hl : l0 = [] := by
   cases l0 with
   |nil => rfl
   |cons x l => obtain ⟨ad, e, _⟩ := hr0.2.2 (by simp); cases e
  subst hl
  clear hr0 hc0 hlim
  have hnil := fun (W : World) => Lib.run_eql_slice_nil W 22 9 (none : Option Addr) 0 c0 0 0 Try.underlying22
  go_enter Try.func37, Try.ntmps37
  go_wp2
  go_ret
  exact ⟨_, rfl, Kd.R_nil _ _ _ _ _, by repeat (first | (with_reducible first | exact HB.out | apply below_alloc | apply pw_below_drewN | apply below_drew1) | exact HB.out)⟩
 ·have hnil := fun (W : World) => Lib.run_eql_slice_nil W 22 9 (some a) l0.length c0 0 0 Try.underlying22
  clear hr0 hc0 hlim
  go_enter Try.func37, Try.ntmps37
  go_wp2_with (first | ((with_reducible refine gate_dst (N := 5) rfl ?_); refine Kd.R_lit Kd.string _ 9 ?hg (N := 5) ?hd (xs := ([] : List ByteArray)) (inner := []) (ok := fun _ => True) (okp := fun _ => True) ?hr ?hp (fun _ hk => hk) trivial (Below.refl _ _) (Nat.le_refl _) (by simp) ?_; (case hd => rfl); (case hg => rfl); (case hr => first | (go_simp; done) | (go_simp; rfl)); (case hp => exact (Reps.none _ _)); intro v130 w6 ho7 hb hg_ hnew_; clear hg_ hnew_; have n0_ := Aside0.mk (Kd.R_lower ho7 (below_size (by repeat (first | (with_reducible first | exact HB.out | apply below_alloc | apply pw_below_drewN | apply below_drew1) | exact HB.out)))); have n1_ := Aside0.mk (below_step (by repeat (first | (with_reducible first | exact HB.out | apply below_alloc | apply pw_below_drewN | apply below_drew1) | exact HB.out)) hb); clear HB; have HO131 := n0_; have HB := n1_; clear n0_ n1_; clear hb ho7) | ((with_reducible refine gate_builtin (b := .append) (xs := #[.tmp 5, .tmp 6]) rfl ?_); at_builtin; refine Kd.R_append_rows Kd.string (w0 := w) w.heap.size rfl (.tmp 5) (.tmp 6) 22 9 (.string ⟨#[]⟩) 16 rfl Try.underlying22 info9 rfl (by decide) (by omega) v130 [] l0 _ _ _ (fun _ => True) (fun _ => False) rfl rfl ?aO ?aR (fun _ _ h => h) (fun _ h => h.elim) ?aF ?aB ?aS ?aL ?_; (case aR => repeat (first | exact (Kd.C_below HR0.out HB.out) | (with_reducible refine Kd.C_alloc ?_ _) | (with_reducible refine Kd.C_drewN ?_ _) | (with_reducible refine Kd.C_drew ?_))); (case aB => exact (by repeat (first | (with_reducible first | exact HB.out | apply below_alloc | apply pw_below_drewN | apply below_drew1) | exact HB.out))); (case aF => exact (fun _ _ => trivial)); (case aO => exact (by (with_reducible repeat (first | apply Kd.R_alloc | apply Kd.R_drewN | apply Kd.R_drew)); exact HO131.out)); (case aS => exact (below_size (by repeat (first | (with_reducible first | exact HB.out | apply below_alloc | apply pw_below_drewN | apply below_drew1) | exact HB.out)))); (case aL => have := HL.out; simp only [List.length_nil]; omega); intro v133 w8 ho hb hg hat; rw [List.nil_append] at ho; have n0_ := Aside0.mk (hb); have n1_ := Aside0.mk (ho); clear HB; clear HO131; have HB := n0_; have HO134 := n1_; clear n0_ n1_; clear ho hb hg hat))
  go_ret
  exact ⟨_, rfl, by (with_reducible repeat (first | apply Kd.R_alloc | apply Kd.R_drewN | apply Kd.R_drew)); exact HO134.out, by repeat (first | (with_reducible first | exact HB.out | apply below_alloc | apply pw_below_drewN | apply below_drew1) | exact HB.out)⟩
end Go.Proofs.Ytbfjbcaabijpfaa.Al
