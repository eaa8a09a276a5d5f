/- What the laws stand on, in one text: functions of the program by their contracts, the plain mathematics behind them, and such of the printed words as these use. It began as the kit's print and own texts; put together by a program (trim.py). -/
import Derived.Test.YtbfjbcaabijpfaaPzg
import Derived.Test.YtbfjbcaabijpfaaRows
import Derived.ChangeArms
import Derived.ChangeShapes
import Derived.SizedLaws

namespace Go.Proofs.Ytbfjbcaabijpfaa.Al
open Go.RowKit Go.Proofs.YtbfjbcaabijpfaaW.PrintWords Go.Proofs.YtbfjbcaabijpfaaW.PrintLast Go.Proofs.YtbfjbcaabijpfaaW.PrintMore
attribute [local go_sem] max2_int min2_int max_two min_two max_three min_three max_four min_four   -- for this text's walks alone
set_option linter.unusedVariables false
set_option linter.unusedSimpArgs false
attribute [local go_sem high] eqA50
set_option maxHeartbeats 8000000 in
set_option maxRecDepth 100000 in
theorem corncribbook_SameRecord.callsT (k : Nat) (a0_0 : Int) (a0_1 : Int) (a0_2 : Int) (a0_3 : Int) (a0_4 : ByteArray) (a0_5 : ByteArray) (a0_6 : Bool) (A0_7 : Option Addr) (c0_7 : Nat) (l0_7 : List ByteArray) (A0_8 : Option Addr) (c0_8 : Nat) (l0_8 : List (S50)) (a1_0 : Int) (a1_1 : Int) (a1_2 : Int) (a1_3 : Int) (a1_4 : ByteArray) (a1_5 : ByteArray) (a1_6 : Bool) (A1_7 : Option Addr) (c1_7 : Nat) (l1_7 : List ByteArray) (A1_8 : Option Addr) (c1_8 : Nat) (l1_8 : List (S50)) (r : Bool) (w : World) (hr0_7 : Kd.C Kd.string w A0_7 l0_7.length l0_7) (hc0_7 : l0_7.length ≤ c0_7) (hr0_8 : Kd.C k50 w A0_8 l0_8.length l0_8) (hc0_8 : l0_8.length ≤ c0_8) (hr1_7 : Kd.C Kd.string w A1_7 l1_7.length l1_7) (hc1_7 : l1_7.length ≤ c1_7) (hr1_8 : Kd.C k50 w A1_8 l1_8.length l1_8) (hc1_8 : l1_8.length ≤ c1_8) (h : corncribbook_SameRecord.f k a0_0 a0_1 a0_2 a0_3 a0_4 a0_5 a0_6 l0_7 l0_8 a1_0 a1_1 a1_2 a1_3 a1_4 a1_5 a1_6 l1_7 l1_8 = some r) (hr_ : r = true) :
  Calls Try.prog 13 #[.agg #[.int .i64 a0_0, .int .i64 a0_1, .int .i64 a0_2, .int .i64 a0_3, .string a0_4, .string a0_5, .bool a0_6, .slice A0_7 l0_7.length c0_7, .slice A0_8 l0_8.length c0_8], .agg #[.int .i64 a1_0, .int .i64 a1_1, .int .i64 a1_2, .int .i64 a1_3, .string a1_4, .string a1_5, .bool a1_6, .slice A1_7 l1_7.length c1_7, .slice A1_8 l1_8.length c1_8]] w fun e w' => e = .returned (.bool r) ∧ Below w.heap.size w w' := by
 have HRT := Aside0.mk hr_
 clear hr_
 have hu25 := Try.underlying25
 have HR0_7 := Aside0.mk hr0_7
 have HC0_7 := Aside0.mk hc0_7
 clear hr0_7 hc0_7
 have HR0_8 := Aside0.mk hr0_8
 have HC0_8 := Aside0.mk hc0_8
 clear hr0_8 hc0_8
 have HR1_7 := Aside0.mk hr1_7
 have HC1_7 := Aside0.mk hc1_7
 clear hr1_7 hc1_7
 have HR1_8 := Aside0.mk hr1_8
 have HC1_8 := Aside0.mk hc1_8
 clear hr1_8 hc1_8
 have HB := Aside0.mk (Below.refl w.heap.size w)
 have H : (if a0_0 = a1_0 then (if a0_1 = a1_1 then (if a0_2 = a1_2 then (if a0_3 = a1_3 then (if a0_4.toList = a1_4.toList then (if a0_5.toList = a1_5.toList then (if (a0_6 == a1_6) = true then ((corncribbook_SameTexts.f k l0_7 l1_7).bind fun t240 => (if t240 = true then ((corncribbook_SameWrites.f k l0_8 l1_8).bind fun t241 => (some t241)) else (some false))) else (some false)) else (some false)) else (some false)) else (some false)) else (some false)) else (some false)) else (some false)) = some r := h
 clear h
 by_cases c3 : a0_0 = a1_0
 ·rw [if_pos c3] at H
  have c3b0 : (a0_0 == a1_0) = true := beq_iff_eq.mpr c3
  have c3b1 : (a0_0 != a1_0) = false := bne_eq_false_iff_eq.mpr c3
  clear c3
  by_cases c4 : a0_1 = a1_1
  ·rw [if_pos c4] at H
   have c4b0 : (a0_1 == a1_1) = true := beq_iff_eq.mpr c4
   have c4b1 : (a0_1 != a1_1) = false := bne_eq_false_iff_eq.mpr c4
   clear c4
   by_cases c5 : a0_2 = a1_2
   ·rw [if_pos c5] at H
    have c5b0 : (a0_2 == a1_2) = true := beq_iff_eq.mpr c5
    have c5b1 : (a0_2 != a1_2) = false := bne_eq_false_iff_eq.mpr c5
    clear c5
    by_cases c6 : a0_3 = a1_3
    ·rw [if_pos c6] at H
     have c6b0 : (a0_3 == a1_3) = true := beq_iff_eq.mpr c6
     have c6b1 : (a0_3 != a1_3) = false := bne_eq_false_iff_eq.mpr c6
     clear c6
     by_cases c7 : a0_4.toList = a1_4.toList
     ·rw [if_pos c7] at H
      have c7b0 : (a0_4.toList == a1_4.toList) = true := beq_iff_eq.mpr c7
      have c7b1 : (a0_4.toList != a1_4.toList) = false := bne_eq_false_iff_eq.mpr c7
      clear c7
      by_cases c8 : a0_5.toList = a1_5.toList
      ·rw [if_pos c8] at H
       have c8b0 : (a0_5.toList == a1_5.toList) = true := beq_iff_eq.mpr c8
       have c8b1 : (a0_5.toList != a1_5.toList) = false := bne_eq_false_iff_eq.mpr c8
       clear c8
       by_cases c9 : (a0_6 == a1_6) = true
       ·rw [if_pos c9] at H
        have c9b0 : (a0_6 == a1_6) = true := c9
        (try (have c9b1 : decide (a0_6 = a1_6) = true := by simpa using c9))
        (try (have c9b2 : (a0_6 == a1_6) = true := by simpa using c9))
        clear c9
        replace H := Option.bind_eq_some_iff.mp H
        obtain ⟨t240, A100, H⟩ := H
        replace H : (if t240 = true then ((corncribbook_SameWrites.f k l0_8 l1_8).bind fun t241 => (some t241)) else (some false)) = some r := H
        have A10 := Aside0.mk A100
        clear A100
        by_cases c11 : t240 = true
        ·subst c11
         have H1 : ((corncribbook_SameWrites.f k l0_8 l1_8).bind fun t241 => (some t241)) = some r := by rw [if_pos rfl] at H; exact H
         clear H
         have H := H1
         clear H1
         replace H := Option.bind_eq_some_iff.mp H
         obtain ⟨t241, A120, H⟩ := H
         replace H : (some t241) = some r := H
         have A12 := Aside0.mk A120
         clear A120
         obtain rfl := Option.some.inj H
         go_enter Try.func13, Try.ntmps13
         go_wp2_with (first | ((with_reducible refine gate_dst (N := 2) rfl ?_); refine box_event ?hg (N := 2) ?hd (cs := #[.int .i64 a0_0, .int .i64 a0_1, .int .i64 a0_2, .int .i64 a0_3, .string a0_4, .string a0_5, .bool a0_6, .slice A0_7 l0_7.length c0_7, .slice A0_8 l0_8.length c0_8]) (t := 25) ?hr ?_; (case hd => rfl); (case hg => rfl); (case hr => first | (go_simp; done) | (go_simp; rfl)); intro gb238 hg w13 hbox hb; have n0_ := Aside0.mk (below_step (by repeat (first | (with_reducible first | exact HB.out | apply below_alloc | apply pw_below_drewN | apply below_drew1) | exact HB.out)) hb); have n1_ := Aside0.mk (hbox); have n2_ := Aside0.mk ((by rw [hg]; exact (below_size (by repeat (first | (with_reducible first | exact HB.out | apply below_alloc | apply pw_below_drewN | apply below_drew1) | exact HB.out))) : w.heap.size ≤ gb238)); have n3_ := Aside0.mk ((by rw [hg]; exact (below_size (by repeat (first | (with_reducible first | exact HB.out | apply below_alloc | apply pw_below_drewN | apply below_drew1) | exact HB.out))) : w.heap.size ≤ gb238)); clear HB; have HB := n0_; have BK238 := n1_; have GW238 := n2_; have GE238 := n3_; clear n0_ n1_ n2_ n3_; clear hb hbox hg) | ((with_reducible refine gate_dst (N := 3) rfl ?_); refine box_event ?hg (N := 3) ?hd (cs := #[.int .i64 a1_0, .int .i64 a1_1, .int .i64 a1_2, .int .i64 a1_3, .string a1_4, .string a1_5, .bool a1_6, .slice A1_7 l1_7.length c1_7, .slice A1_8 l1_8.length c1_8]) (t := 25) ?hr ?_; (case hd => rfl); (case hg => rfl); (case hr => first | (go_simp; done) | (go_simp; rfl)); intro gb239 hg w14 hbox hb; have n0_ := Aside0.mk (blk_below (g := gb238) (o := .cells #[.int .i64 a0_0, .int .i64 a0_1, .int .i64 a0_2, .int .i64 a0_3, .string a0_4, .string a0_5, .bool a0_6, .slice A0_7 l0_7.length c0_7, .slice A0_8 l0_8.length c0_8] 25 (0, 0)) (by (with_reducible repeat (first | refine blk_drewN ?_ _ | refine blk_drew ?_ | refine blk_alloc ?_ _)); exact BK238.out) hb); have n1_ := Aside0.mk (below_step (by repeat (first | (with_reducible first | exact HB.out | apply below_alloc | apply pw_below_drewN | apply below_drew1 | refine below_set ?_ GE238.out) | exact HB.out)) hb); have n2_ := Aside0.mk (hbox); have n3_ := Aside0.mk ((by rw [hg]; exact (below_size (by repeat (first | (with_reducible first | exact HB.out | apply below_alloc | apply pw_below_drewN | apply below_drew1 | refine below_set ?_ GE238.out) | exact HB.out))) : w.heap.size ≤ gb239)); have n4_ := Aside0.mk ((by rw [hg]; exact (below_size (by repeat (first | (with_reducible first | exact HB.out | apply below_alloc | apply pw_below_drewN | apply below_drew1 | refine below_set ?_ GE238.out) | exact HB.out))) : w.heap.size ≤ gb239)); have n5_ := Aside0.mk ((by rw [hg]; exact Nat.ne_of_lt (blk_lt (g := gb238) (o := .cells #[.int .i64 a0_0, .int .i64 a0_1, .int .i64 a0_2, .int .i64 a0_3, .string a0_4, .string a0_5, .bool a0_6, .slice A0_7 l0_7.length c0_7, .slice A0_8 l0_8.length c0_8] 25 (0, 0)) (by (with_reducible repeat (first | refine blk_drewN ?_ _ | refine blk_drew ?_ | refine blk_alloc ?_ _)); exact BK238.out)) : gb238 ≠ gb239)); have n6_ := Aside0.mk ((by rw [hg]; exact Nat.ne_of_gt (blk_lt (g := gb238) (o := .cells #[.int .i64 a0_0, .int .i64 a0_1, .int .i64 a0_2, .int .i64 a0_3, .string a0_4, .string a0_5, .bool a0_6, .slice A0_7 l0_7.length c0_7, .slice A0_8 l0_8.length c0_8] 25 (0, 0)) (by (with_reducible repeat (first | refine blk_drewN ?_ _ | refine blk_drew ?_ | refine blk_alloc ?_ _)); exact BK238.out)) : gb239 ≠ gb238)); clear BK238; clear HB; have BK238 := n0_; have HB := n1_; have BK239 := n2_; have GW239 := n3_; have GE239 := n4_; have NB238_239 := n5_; have NB239_238 := n6_; clear n0_ n1_ n2_ n3_ n4_ n5_ n6_; clear hb hbox hg; have hnb15 := NB238_239.out; have hnc15 := NB239_238.out; have hcz16_0 : w14.cell? ⟨gb238, 0, none⟩ = some (.int .i64 a0_0) := (blk_cell BK238.out 0).trans rfl; have hcz16_1 : w14.cell? ⟨gb238, 1, none⟩ = some (.int .i64 a0_1) := (blk_cell BK238.out 1).trans rfl; have hcz16_2 : w14.cell? ⟨gb238, 2, none⟩ = some (.int .i64 a0_2) := (blk_cell BK238.out 2).trans rfl; have hcz16_3 : w14.cell? ⟨gb238, 3, none⟩ = some (.int .i64 a0_3) := (blk_cell BK238.out 3).trans rfl; have hcz16_4 : w14.cell? ⟨gb238, 4, none⟩ = some (.string a0_4) := (blk_cell BK238.out 4).trans rfl; have hcz16_5 : w14.cell? ⟨gb238, 5, none⟩ = some (.string a0_5) := (blk_cell BK238.out 5).trans rfl; have hcz16_6 : w14.cell? ⟨gb238, 6, none⟩ = some (.bool a0_6) := (blk_cell BK238.out 6).trans rfl; have hcz16_7 : w14.cell? ⟨gb238, 7, none⟩ = some (.slice A0_7 l0_7.length c0_7) := (blk_cell BK238.out 7).trans rfl; have hcz16_8 : w14.cell? ⟨gb238, 8, none⟩ = some (.slice A0_8 l0_8.length c0_8) := (blk_cell BK238.out 8).trans rfl; have hfz16_0 := blk_frozen BK238.out 0; have hfz16_1 := blk_frozen BK238.out 1; have hfz16_2 := blk_frozen BK238.out 2; have hfz16_3 := blk_frozen BK238.out 3; have hfz16_4 := blk_frozen BK238.out 4; have hfz16_5 := blk_frozen BK238.out 5; have hfz16_6 := blk_frozen BK238.out 6; have hfz16_7 := blk_frozen BK238.out 7; have hfz16_8 := blk_frozen BK238.out 8; have hcz17_0 : w14.cell? ⟨gb239, 0, none⟩ = some (.int .i64 a1_0) := (blk_cell BK239.out 0).trans rfl; have hcz17_1 : w14.cell? ⟨gb239, 1, none⟩ = some (.int .i64 a1_1) := (blk_cell BK239.out 1).trans rfl; have hcz17_2 : w14.cell? ⟨gb239, 2, none⟩ = some (.int .i64 a1_2) := (blk_cell BK239.out 2).trans rfl; have hcz17_3 : w14.cell? ⟨gb239, 3, none⟩ = some (.int .i64 a1_3) := (blk_cell BK239.out 3).trans rfl; have hcz17_4 : w14.cell? ⟨gb239, 4, none⟩ = some (.string a1_4) := (blk_cell BK239.out 4).trans rfl; have hcz17_5 : w14.cell? ⟨gb239, 5, none⟩ = some (.string a1_5) := (blk_cell BK239.out 5).trans rfl; have hcz17_6 : w14.cell? ⟨gb239, 6, none⟩ = some (.bool a1_6) := (blk_cell BK239.out 6).trans rfl; have hcz17_7 : w14.cell? ⟨gb239, 7, none⟩ = some (.slice A1_7 l1_7.length c1_7) := (blk_cell BK239.out 7).trans rfl; have hcz17_8 : w14.cell? ⟨gb239, 8, none⟩ = some (.slice A1_8 l1_8.length c1_8) := (blk_cell BK239.out 8).trans rfl; have hfz17_0 := blk_frozen BK239.out 0; have hfz17_1 := blk_frozen BK239.out 1; have hfz17_2 := blk_frozen BK239.out 2; have hfz17_3 := blk_frozen BK239.out 3; have hfz17_4 := blk_frozen BK239.out 4; have hfz17_5 := blk_frozen BK239.out 5; have hfz17_6 := blk_frozen BK239.out 6; have hfz17_7 := blk_frozen BK239.out 7; have hfz17_8 := blk_frozen BK239.out 8) | (go_at_call 31; (with_reducible refine (corncribbook_SameTexts.calls k _ _ l0_7 _ _ l1_7 true _ ?side1 ?side2 ?side3 ?side4 A10.out).mono ?_); (case side1 => repeat (first | exact (Kd.C_below HR0_7.out HB.out) | (with_reducible refine Kd.C_alloc ?_ _) | (with_reducible refine Kd.C_drewN ?_ _) | (with_reducible refine Kd.C_drew ?_))); (case side2 => exact HC0_7.out); (case side3 => repeat (first | exact (Kd.C_below HR1_7.out HB.out) | (with_reducible refine Kd.C_alloc ?_ _) | (with_reducible refine Kd.C_drewN ?_ _) | (with_reducible refine Kd.C_drew ?_))); (case side4 => exact HC1_7.out); rintro e w' ⟨rfl, ⟨nd, rfl⟩⟩) | (go_at_call 32; (with_reducible refine (corncribbook_SameWrites.calls k _ _ l0_8 _ _ l1_8 t241 _ ?side1 ?side2 ?side3 ?side4 A12.out).mono ?_); (case side1 => repeat (first | exact (Kd.C_below HR0_8.out (by repeat (first | (with_reducible first | exact HB.out | apply below_alloc | apply pw_below_drewN | apply below_drew1 | refine below_set ?_ GE238.out | refine below_set ?_ GE239.out) | exact HB.out))) | (with_reducible refine Kd.C_alloc ?_ _) | (with_reducible refine Kd.C_drewN ?_ _) | (with_reducible refine Kd.C_drew ?_))); (case side2 => exact HC0_8.out); (case side3 => repeat (first | exact (Kd.C_below HR1_8.out (by repeat (first | (with_reducible first | exact HB.out | apply below_alloc | apply pw_below_drewN | apply below_drew1 | refine below_set ?_ GE238.out | refine below_set ?_ GE239.out) | exact HB.out))) | (with_reducible refine Kd.C_alloc ?_ _) | (with_reducible refine Kd.C_drewN ?_ _) | (with_reducible refine Kd.C_drew ?_))); (case side4 => exact HC1_8.out); rintro e w' ⟨rfl, ⟨nd, rfl⟩⟩))
         go_ret
         exact ⟨by first | rfl | (simp [errW_none, errW_some] <;> rfl) | (simp [*, errW_none, errW_some] <;> rfl), by repeat (first | (with_reducible first | exact HB.out | apply below_alloc | apply pw_below_drewN | apply below_drew1 | refine below_set ?_ GE238.out | refine below_set ?_ GE239.out) | exact HB.out)⟩
        ·rw [if_neg c11] at H
         exact absurd ((Option.some.inj H).trans HRT.out) (by decide)
       ·rw [if_neg c9] at H
        exact absurd ((Option.some.inj H).trans HRT.out) (by decide)
      ·rw [if_neg c8] at H
       exact absurd ((Option.some.inj H).trans HRT.out) (by decide)
     ·rw [if_neg c7] at H
      exact absurd ((Option.some.inj H).trans HRT.out) (by decide)
    ·rw [if_neg c6] at H
     exact absurd ((Option.some.inj H).trans HRT.out) (by decide)
   ·rw [if_neg c5] at H
    exact absurd ((Option.some.inj H).trans HRT.out) (by decide)
  ·rw [if_neg c4] at H
   exact absurd ((Option.some.inj H).trans HRT.out) (by decide)
 ·rw [if_neg c3] at H
  exact absurd ((Option.some.inj H).trans HRT.out) (by decide)
end Go.Proofs.Ytbfjbcaabijpfaa.Al

namespace Go.Proofs.Ytbfjbcaabijpfaa.Al
open Go.RowKit Go.Proofs.YtbfjbcaabijpfaaW.PrintWords Go.Proofs.YtbfjbcaabijpfaaW.PrintLast Go.Proofs.YtbfjbcaabijpfaaW.PrintMore
attribute [local go_sem] max2_int min2_int max_two min_two max_three min_three max_four min_four   -- for this text's walks alone
set_option linter.unusedVariables false
set_option linter.unusedSimpArgs false
attribute [local go_sem high] eqA50
def corncriblaw08_works.f (k : Nat)  : Option (Bool) := (record_Encode.f k 2 5 9 0 (⟨#[]⟩ : ByteArray) (⟨#[]⟩ : ByteArray) false ([] : List ByteArray) ([] : List (S50))).bind fun bt242 => (if bt242.2 = 0 then (some (bt242.1.toList == ([6, 4, 10, 18, 0, 0, 0, 2, 0, 0] : List UInt8))) else (some false))
set_option maxHeartbeats 8000000 in
set_option maxRecDepth 100000 in
theorem corncriblaw08_works.calls (k : Nat)  (r : Bool) (w : World) (h : corncriblaw08_works.f k  = some r) :
  Calls Try.prog 14 #[] w fun e w' => e = .returned (.bool r) ∧ Below w.heap.size w w' := by
 have hu25 := Try.underlying25
 have HB := Aside0.mk (Below.refl w.heap.size w)
 have H : ((record_Encode.f k 2 5 9 0 (⟨#[]⟩ : ByteArray) (⟨#[]⟩ : ByteArray) false ([] : List ByteArray) ([] : List (S50))).bind fun bt242 => (if bt242.2 = 0 then (some (bt242.1.toList == ([6, 4, 10, 18, 0, 0, 0, 2, 0, 0] : List UInt8))) else (some false))) = some r := h
 clear h
 replace H := Option.bind_eq_some_iff.mp H
 obtain ⟨⟨t242, t243⟩, A10, H⟩ := H
 replace H : (if t243 = 0 then (some (t242.toList == ([6, 4, 10, 18, 0, 0, 0, 2, 0, 0] : List UInt8))) else (some false)) = some r := H
 have A1 := Aside0.mk A10
 clear A10
 by_cases c2 : t243 = 0
 ·rw [if_pos c2] at H
  have c2b0 : (t243 == 0) = true := beq_iff_eq.mpr c2
  have c2b1 : (t243 != 0) = false := bne_eq_false_iff_eq.mpr c2
  clear c2
  obtain rfl := Option.some.inj H
  go_enter Try.func14, Try.ntmps14
  go_wp2_with (first | ((with_reducible refine gate_callee (f := 9) rfl ?_); refine goesL_ (some 5) rfl rfl Try.func9 (by kernel_rfl) rfl #[.agg #[.int .i64 2, .int .i64 5, .int .i64 9, .int .i64 0, .string (⟨#[]⟩ : ByteArray), .string (⟨#[]⟩ : ByteArray), .bool false, .slice none 0 0, .slice none 0 0]] rfl (by (try simp only [List.map_toArray, List.map_cons, List.map_nil]); first | done | rfl | (simp only [List.length_drop, List.length_take]; rfl)) ?_; (refine (record_Encode.calls k 2 5 9 0 (⟨#[]⟩ : ByteArray) (⟨#[]⟩ : ByteArray) false _ _ ([] : List ByteArray) _ _ ([] : List (S50)) t242 t243 _ ?side1 ?side2 ?side3 ?side4 A1.out).mono ?_); (case side1 => exact Kd.C_nil _ _); (case side2 => exact Nat.le_refl _); (case side3 => exact Kd.C_nil _ _); (case side4 => exact Nat.le_refl _); rintro e w3 ⟨rfl, hb⟩; refine ⟨_, rfl, ?_⟩; have n0_ := Aside0.mk (below_step (by repeat (first | (with_reducible first | exact HB.out | apply below_alloc | apply pw_below_drewN | apply below_drew1) | exact HB.out)) hb); clear HB; have HB := n0_; clear n0_; (try clear hb); (try clear hb2); (try clear hk); (try clear hi)))
  go_ret
  exact ⟨by first | rfl | (simp [errW_none, errW_some] <;> rfl) | (simp [*, errW_none, errW_some] <;> rfl), by repeat (first | (with_reducible first | exact HB.out | apply below_alloc | apply pw_below_drewN | apply below_drew1) | exact HB.out)⟩
 ·rw [if_neg c2] at H
  have c2b0 : (t243 == 0) = false := beq_eq_false_iff_ne.mpr c2
  have c2b1 : (t243 != 0) = true := bne_iff_ne.mpr c2
  obtain rfl := Option.some.inj H
  go_enter Try.func14, Try.ntmps14
  go_wp2_with (first | ((with_reducible refine gate_callee (f := 9) rfl ?_); refine goesL_ (some 5) rfl rfl Try.func9 (by kernel_rfl) rfl #[.agg #[.int .i64 2, .int .i64 5, .int .i64 9, .int .i64 0, .string (⟨#[]⟩ : ByteArray), .string (⟨#[]⟩ : ByteArray), .bool false, .slice none 0 0, .slice none 0 0]] rfl (by (try simp only [List.map_toArray, List.map_cons, List.map_nil]); first | done | rfl | (simp only [List.length_drop, List.length_take]; rfl)) ?_; (refine (record_Encode.calls k 2 5 9 0 (⟨#[]⟩ : ByteArray) (⟨#[]⟩ : ByteArray) false _ _ ([] : List ByteArray) _ _ ([] : List (S50)) t242 t243 _ ?side1 ?side2 ?side3 ?side4 A1.out).mono ?_); (case side1 => exact Kd.C_nil _ _); (case side2 => exact Nat.le_refl _); (case side3 => exact Kd.C_nil _ _); (case side4 => exact Nat.le_refl _); rintro e w4 ⟨rfl, hb⟩; refine ⟨_, rfl, ?_⟩; have n0_ := Aside0.mk (below_step (by repeat (first | (with_reducible first | exact HB.out | apply below_alloc | apply pw_below_drewN | apply below_drew1) | exact HB.out)) hb); clear HB; have HB := n0_; clear n0_; (try clear hb); (try clear hb2); (try clear hk); (try clear hi)))
  go_ret
  exact ⟨by first | rfl | (simp [errW_none, errW_some] <;> rfl) | (simp [*, errW_none, errW_some] <;> rfl), by repeat (first | (with_reducible first | exact HB.out | apply below_alloc | apply pw_below_drewN | apply below_drew1) | exact HB.out)⟩
end Go.Proofs.Ytbfjbcaabijpfaa.Al

namespace Go.Proofs.Ytbfjbcaabijpfaa.LetSpec
open Go.RowKit Go.Proofs.Ytbfjbcaabijpfaa.Base Go.Proofs.Ytbfjbcaabijpfaa.Al Go.Proofs.YtbfjbcaabijpfaaW.PrintWords
theorem Ev.to {α : Type} {g : Nat → Option α} {r r' : α} (h : Ev g r) (e : r = r') : Ev g r' := e ▸ h
/-- What the reference's switch gives. -/
def refV (code kind : Int) (one bare : Bool) (x6 : ByteArray) (x7 : List ByteArray) (x8 : List S50) : Int :=
 if kind = 1 then (if one = true ∧ x6.toList = [] ∧ code = 0 then 0 else 70)
 else if kind = 2 then (if one = true ∧ x6.size ≤ 2052 ∧ (x6.toList = [] ∨ code = 1) then 0 else 70)
 else if kind = 3 then (if x7.length ≤ 16 ∧ risB x7 = true ∧ wriB x8 = true ∧ x6.toList = [] ∧ code = 0 then 0 else 70)
 else if kind = 4 then (if bare = true ∧ code ≤ 1 then 0 else 70)
 else if kind = 5 ∨ kind = 6 ∨ kind = 7 then (if bare = true ∧ code = 0 then 0 else 70)
 else if kind = 8 then (if bare = true ∧ code ≤ 2 then 0 else 70)
 else 70
def oneB (x7 : List ByteArray) (x8 : List S50) : Bool := decide (x7.length = 1) && (keyB (rdOf ByteArray.empty x7 0) && decide (x8.length = 0))
def bareB (x6 : ByteArray) (x7 : List ByteArray) (x8 : List S50) : Bool := decide (x7.length = 0) && (decide (x8.length = 0) && x6.toList.isEmpty)
section
variable (x0 x1 x2 x3 x4 x5 : Int) (x6 : ByteArray) (x7 : List ByteArray) (x8 : List S50)
/-- The two checks are one. -/
theorem ref_chk : chkL x0 x1 x2 x3 x4 x5 x6 x7 x8 = if addrB x1 = true ∧ addrB x2 = true ∧ 1 ≤ x3 ∧ x3 ≤ 1125899906842623 ∧ 0 ≤ x4 ∧ x4 ≤ 1125899906842624 ∧ 0 ≤ x5 ∧ x5 ≤ 4 then refV x5 x0 (oneB x7 x8) (bareB x6 x7 x8) x6 x7 x8 else 70 := by
 unfold chkL
 by_cases h : addrB x1 = true ∧ addrB x2 = true ∧ 1 ≤ x3 ∧ x3 ≤ 1125899906842623 ∧ 0 ≤ x4 ∧ x4 ≤ 1125899906842624 ∧ 0 ≤ x5
 ·rw [if_pos h]
  obtain ⟨g0, g1, g2, g3, g4, g5, g6⟩ := h
  have e7 : ((x7.length : Int) == 0) = decide (x7.length = 0) := by by_cases h : x7.length = 0 <;> simp [h]
  have e8 : ((x8.length : Int) == 0) = decide (x8.length = 0) := by by_cases h : x8.length = 0 <;> simp [h]
  by_cases h4 : x5 ≤ 4
  ·rw [if_pos ⟨g0, g1, g2, g3, g4, g5, g6, h4⟩]
   unfold sw refV oneB bareB
   rw [e7, e8]
   by_cases n1 : x0 = 1
   ·subst n1
    simp only [if_neg (show ¬ (1 : Int) = 2 by omega), if_true, fin4]
    apply ite_congr _ (fun _ => rfl) (fun _ => rfl)
    simp only [Bool.and_eq_true, decide_eq_true_eq, List.isEmpty_iff, eq_iff_iff]
    constructor
    ·rintro ⟨a, ⟨b, c⟩, d, e⟩; exact ⟨⟨b, c, d⟩, e, by omega⟩
    ·rintro ⟨⟨b, c, d⟩, e, f⟩; exact ⟨by omega, ⟨b, c⟩, d, e⟩
   by_cases n2 : x0 = 2
   ·subst n2
    simp only [if_neg (show ¬ (2 : Int) = 1 by omega), if_true, fin4]
    apply ite_congr _ (fun _ => rfl) (fun _ => rfl)
    simp only [Bool.and_eq_true, Bool.or_eq_true, decide_eq_true_eq, List.isEmpty_iff, eq_iff_iff, beq_iff_eq]
    constructor
    ·rintro ⟨a, ⟨b, c⟩, d, e, f⟩; exact ⟨⟨b, c, d⟩, e, f⟩
    ·rintro ⟨⟨b, c, d⟩, e, f⟩; exact ⟨h4, ⟨b, c⟩, d, e, f⟩
   by_cases n3 : x0 = 3
   ·subst n3
    simp only [if_neg (show ¬ (3 : Int) = 1 by omega), if_neg (show ¬ (3 : Int) = 2 by omega), if_true, fin4]
    apply ite_congr _ (fun _ => rfl) (fun _ => rfl)
    simp only [Bool.and_eq_true, decide_eq_true_eq, List.isEmpty_iff, eq_iff_iff]
    constructor
    ·rintro ⟨a, ⟨b, c⟩, d, e⟩; exact ⟨b, c, d, e, by omega⟩
    ·rintro ⟨b, c, d, e, f⟩; exact ⟨by omega, ⟨b, c⟩, d, e⟩
   by_cases n4 : x0 = 4
   ·subst n4
    simp only [if_neg (show ¬ (4 : Int) = 1 by omega), if_neg (show ¬ (4 : Int) = 2 by omega), if_neg (show ¬ (4 : Int) = 3 by omega), if_neg (show ¬ (4 : Int) = 8 by omega), if_true, fin4]
    apply ite_congr _ (fun _ => rfl) (fun _ => rfl)
    simp only [Bool.and_eq_true, decide_eq_true_eq, List.isEmpty_iff, eq_iff_iff]
    constructor
    ·rintro ⟨a, b, c, d⟩; exact ⟨⟨b, c, d⟩, a⟩
    ·rintro ⟨⟨b, c, d⟩, a⟩; exact ⟨a, b, c, d⟩
   by_cases n8 : x0 = 8
   ·subst n8
    simp only [if_neg (show ¬ (8 : Int) = 1 by omega), if_neg (show ¬ (8 : Int) = 2 by omega), if_neg (show ¬ (8 : Int) = 3 by omega), if_neg (show ¬ (8 : Int) = 4 by omega), if_neg (show ¬ ((8 : Int) = 5 ∨ (8 : Int) = 6 ∨ (8 : Int) = 7) by omega), if_true, fin4]
    apply ite_congr _ (fun _ => rfl) (fun _ => rfl)
    simp only [Bool.and_eq_true, decide_eq_true_eq, List.isEmpty_iff, eq_iff_iff]
    constructor
    ·rintro ⟨a, b, c, d⟩; exact ⟨⟨b, c, d⟩, a⟩
    ·rintro ⟨⟨b, c, d⟩, a⟩; exact ⟨a, b, c, d⟩
   by_cases n5 : x0 = 5 ∨ x0 = 6 ∨ x0 = 7
   ·rw [if_neg n2, if_neg n1, if_neg n3, if_neg n8, if_neg n4, if_pos n5, if_neg n1, if_neg n2, if_neg n3, if_neg n4, if_pos n5]
    simp only [fin4]
    apply ite_congr _ (fun _ => rfl) (fun _ => rfl)
    simp only [Bool.and_eq_true, decide_eq_true_eq, List.isEmpty_iff, eq_iff_iff]
    constructor
    ·rintro ⟨a, b, c, d⟩; exact ⟨⟨b, c, d⟩, by omega⟩
    ·rintro ⟨⟨b, c, d⟩, a⟩; exact ⟨by omega, b, c, d⟩
   ·rw [if_neg n2, if_neg n1, if_neg n3, if_neg n8, if_neg n4, if_neg n5, if_neg n1, if_neg n2, if_neg n3, if_neg n4, if_neg n5, if_neg n8]
    rfl
  ·rw [if_neg (fun hc => h4 hc.2.2.2.2.2.2.2)]
   unfold sw
   split
   ·exact if_neg (fun hc => by omega)
   split
   ·exact if_neg (fun hc => by omega)
   split
   ·exact if_neg (fun hc => by omega)
   split
   ·exact if_neg (fun hc => by omega)
   split
   ·exact if_neg (fun hc => by omega)
   split
   ·exact if_neg (fun hc => by omega)
   ·rfl
 ·rw [if_neg h, if_neg (fun hc => h ⟨hc.1, hc.2.1, hc.2.2.1, hc.2.2.2.1, hc.2.2.2.2.1, hc.2.2.2.2.2.1, hc.2.2.2.2.2.2.1⟩)]
end
end Go.Proofs.Ytbfjbcaabijpfaa.LetSpec

namespace Go.Proofs.Ytbfjbcaabijpfaa.RecSpec
open Go.RowKit Go.Proofs.Ytbfjbcaabijpfaa.Base Go.Proofs.Ytbfjbcaabijpfaa.LetSpec Go.Proofs.Ytbfjbcaabijpfaa.Al Go.Proofs.YtbfjbcaabijpfaaW.PrintWords
set_option linter.unusedVariables false
set_option linter.unusedSimpArgs false
theorem none_iff (l7 : List ByteArray) (l8 : List S50) : noneB l7 l8 = true ↔ l7.length = 0 ∧ l8.length = 0 := by
 unfold noneB
 simp only [beq_iff_eq]
 omega
theorem list_iff (l7 : List ByteArray) (l8 : List S50) : listB l7 l8 = true ↔ l7.length ≤ 16 ∧ risB l7 = true ∧ wriB l8 = true := by
 unfold listB
 rw [ref_chk, if_pos (by refine ⟨by decide, by decide, ?_⟩; omega)]
 unfold refV
 simp only [if_neg (show ¬ (3 : Int) = 1 by omega), if_neg (show ¬ (3 : Int) = 2 by omega), if_true, beq_iff_eq]
 have he : (⟨#[]⟩ : ByteArray).toList = [] := by rw [toList_eq]; rfl
 constructor
 ·intro h
  obtain ⟨h1, h2, h3, _⟩ := if70' h
  exact ⟨h1, h2, h3⟩
 ·rintro ⟨h1, h2, h3⟩
  exact if_pos ⟨h1, h2, h3, he, trivial⟩
where
 if70' {c : Prop} [Decidable c] (h : (if c then (0 : Int) else 70) = 0) : c := by
  by_cases hc : c
  ·exact hc
  ·rw [if_neg hc] at h; cases h
/-- No key, no text, not dead. -/
def bareT (a4 a5 : ByteArray) (a6 : Bool) : Prop := a4.toList = [] ∧ a5.toList = [] ∧ a6 = false
instance (a4 a5 : ByteArray) (a6 : Bool) : Decidable (bareT a4 a5 a6) := inferInstanceAs (Decidable (_ ∧ _ ∧ _))
def headP (a1 a2 a3 : Int) : Prop := 0 ≤ a1 ∧ a1 ≤ 1125899906842623 ∧ 0 ≤ a2 ∧ a2 ≤ 1125899906842624 ∧ 0 ≤ a3 ∧ a3 < 16
instance (a1 a2 a3 : Int) : Decidable (headP a1 a2 a3) := inferInstanceAs (Decidable (_ ∧ _ ∧ _ ∧ _ ∧ _ ∧ _))
theorem head_iff (a1 a2 a3 : Int) : headB a1 a2 a3 = true ↔ ¬ headP a1 a2 a3 := by
 unfold headB headP
 simp only [Bool.or_eq_true, decide_eq_true_eq]
 omega
/-- May it be, of its kind? -/
def okK (a0 a1 a2 a3 : Int) (a4 a5 : ByteArray) (a6 : Bool) (l7 : List ByteArray) (l8 : List S50) : Prop :=
 if a0 = 1 then (l7.length ≤ 16 ∧ risB l7 = true ∧ wriB l8 = true) ∧ 0 < a1 ∧ bareT a4 a5 a6
 else if a0 = 2 then (l7.length = 0 ∧ l8.length = 0) ∧ 0 < a1 ∧ a3 = 0 ∧ bareT a4 a5 a6
 else if a0 = 5 then (l7.length = 0 ∧ l8.length = 0) ∧ 0 < a1 ∧ 0 < a2 ∧ a3 = 0 ∧ bareT a4 a5 a6
 else if a0 = 6 then (l7.length = 0 ∧ l8.length = 0) ∧ 0 < a1 ∧ a2 = 0 ∧ a3 = 0 ∧ bareT a4 a5 a6
 else if a0 = 3 then (l7.length = 0 ∧ l8.length = 0) ∧ 0 < a2 ∧ keyB a4 = true ∧ a5.size ≤ 2052 ∧ (a6 = true → a5.toList = []) ∧ a1 = 0 ∧ a3 = 0
 else if a0 = 4 then (l7.length = 0 ∧ l8.length = 0) ∧ a1 = 0 ∧ a3 = 0 ∧ bareT a4 a5 a6
 else if a0 = 7 then (l7.length = 0 ∧ l8.length = 0) ∧ 0 < a2 ∧ a1 = 0 ∧ a3 = 0 ∧ bareT a4 a5 a6
 else False
instance (a0 a1 a2 a3 : Int) (a4 a5 : ByteArray) (a6 : Bool) (l7 : List ByteArray) (l8 : List S50) : Decidable (okK a0 a1 a2 a3 a4 a5 a6 l7 l8) := by
 unfold okK
 infer_instance
theorem nil_toList : (⟨#[]⟩ : ByteArray).toList = [] := by rw [toList_eq]; rfl
theorem neq_iff (w0 w1 w2 w3 : Int) (w4 w5 : ByteArray) (w6 : Bool) (a0 a1 a2 a3 : Int) (a4 a5 : ByteArray) (a6 : Bool) : neqR w0 w1 w2 w3 w4 w5 w6 a0 a1 a2 a3 a4 a5 a6 = true ↔ ¬ (w0 = a0 ∧ w1 = a1 ∧ w2 = a2 ∧ w3 = a3 ∧ w4.toList = a4.toList ∧ w5.toList = a5.toList ∧ w6 = a6) := by
 unfold neqR
 simp only [Bool.or_eq_true, Bool.not_eq_true', beq_eq_false_iff_ne, ne_eq]
 constructor
 ·rintro h ⟨h0, h1, h2, h3, h4, h5, h6⟩
  rcases h with h | h | h | h | h | h | h <;> exact h (by assumption)
 ·intro h
  by_cases h0 : w0 = a0
  ·by_cases h1 : w1 = a1
   ·by_cases h2 : w2 = a2
    ·by_cases h3 : w3 = a3
     ·by_cases h4 : w4.toList = a4.toList
      ·by_cases h5 : w5.toList = a5.toList
       ·exact .inr (.inr (.inr (.inr (.inr (.inr (fun h6 => h ⟨h0, h1, h2, h3, h4, h5, h6⟩))))))
       ·exact .inr (.inr (.inr (.inr (.inr (.inl h5)))))
      ·exact .inr (.inr (.inr (.inr (.inl h4))))
     ·exact .inr (.inr (.inr (.inl h3)))
    ·exact .inr (.inr (.inl h2))
   ·exact .inr (.inl h1)
  ·exact .inl h0
theorem fin_eq (b : Bool) (w0 w1 w2 w3 : Int) (w4 w5 : ByteArray) (w6 : Bool) (a0 a1 a2 a3 : Int) (a4 a5 : ByteArray) (a6 : Bool) (p : Prop) [Decidable p] (h : p ↔ b = true ∧ w0 = a0 ∧ w1 = a1 ∧ w2 = a2 ∧ w3 = a3 ∧ w4.toList = a4.toList ∧ w5.toList = a5.toList ∧ w6 = a6) : finR b w0 w1 w2 w3 w4 w5 w6 a0 a1 a2 a3 a4 a5 a6 = if p then 0 else 80 := by
 unfold finR
 by_cases hb : b = true
 ·rw [if_pos hb]
  by_cases hp : p
  ·rw [if_pos hp, if_neg (fun hc => (neq_iff ..).1 hc (h.1 hp).2)]
  ·rw [if_neg hp, if_pos ((neq_iff ..).2 (fun hc => hp (h.2 ⟨hb, hc⟩)))]
 ·rw [if_neg hb, if_neg (fun hp => hb (h.1 hp).1)]
theorem bare_iff (a4 a5 : ByteArray) (a6 : Bool) : bareT a4 a5 a6 ↔ (⟨#[]⟩ : ByteArray).toList = a4.toList ∧ (⟨#[]⟩ : ByteArray).toList = a5.toList ∧ false = a6 := by
 unfold bareT
 rw [nil_toList]
 constructor
 ·rintro ⟨h1, h2, h3⟩; exact ⟨h1.symm, h2.symm, h3.symm⟩
 ·rintro ⟨h1, h2, h3⟩; exact ⟨h1.symm, h2.symm, h3.symm⟩
theorem chkK_eq (a0 a1 a2 a3 : Int) (a4 a5 : ByteArray) (a6 : Bool) (l7 : List ByteArray) (l8 : List S50) : chkK a0 a1 a2 a3 a4 a5 a6 l7 l8 = if okK a0 a1 a2 a3 a4 a5 a6 l7 l8 then 0 else 80 := by
 unfold chkK okK
 by_cases n1 : a0 = 1
 ·simp only [if_pos n1]
  refine fin_eq _ _ _ _ _ _ _ _ _ _ _ _ _ _ _ _ ?_
  rw [Bool.and_eq_true, list_iff, decide_eq_true_eq, bare_iff]
  constructor
  ·rintro ⟨h1, h2, h3⟩; exact ⟨⟨h1, h2⟩, rfl, rfl, rfl, rfl, h3⟩
  ·rintro ⟨⟨h1, h2⟩, _, _, _, _, h3⟩; exact ⟨h1, h2, h3⟩
 simp only [if_neg n1]
 by_cases n2 : a0 = 2
 ·simp only [if_pos n2]
  refine fin_eq _ _ _ _ _ _ _ _ _ _ _ _ _ _ _ _ ?_
  rw [Bool.and_eq_true, none_iff, decide_eq_true_eq, bare_iff]
  constructor
  ·rintro ⟨h1, h2, h3, h4⟩; exact ⟨⟨h1, h2⟩, rfl, rfl, rfl, h3.symm, h4⟩
  ·rintro ⟨⟨h1, h2⟩, _, _, _, h3, h4⟩; exact ⟨h1, h2, h3.symm, h4⟩
 simp only [if_neg n2]
 by_cases n5 : a0 = 5
 ·simp only [if_pos n5]
  refine fin_eq _ _ _ _ _ _ _ _ _ _ _ _ _ _ _ _ ?_
  rw [Bool.and_eq_true, Bool.and_eq_true, none_iff, decide_eq_true_eq, decide_eq_true_eq, bare_iff]
  constructor
  ·rintro ⟨h1, h2, h2', h3, h4⟩; exact ⟨⟨h1, h2, h2'⟩, rfl, rfl, rfl, h3.symm, h4⟩
  ·rintro ⟨⟨h1, h2, h2'⟩, _, _, _, h3, h4⟩; exact ⟨h1, h2, h2', h3.symm, h4⟩
 simp only [if_neg n5]
 by_cases n6 : a0 = 6
 ·simp only [if_pos n6]
  refine fin_eq _ _ _ _ _ _ _ _ _ _ _ _ _ _ _ _ ?_
  rw [Bool.and_eq_true, none_iff, decide_eq_true_eq, bare_iff]
  constructor
  ·rintro ⟨h1, h2, h3, h4, h5⟩; exact ⟨⟨h1, h2⟩, rfl, rfl, h3.symm, h4.symm, h5⟩
  ·rintro ⟨⟨h1, h2⟩, _, _, h3, h4, h5⟩; exact ⟨h1, h2, h3.symm, h4.symm, h5⟩
 simp only [if_neg n6]
 by_cases n3 : a0 = 3
 ·simp only [if_pos n3]
  refine fin_eq _ _ _ _ _ _ _ _ _ _ _ _ _ _ _ _ ?_
  unfold verB
  simp only [Bool.and_eq_true, none_iff, decide_eq_true_eq, Bool.not_eq_true', Bool.and_eq_false_iff, Bool.not_eq_false', List.isEmpty_iff]
  constructor
  ·rintro ⟨h1, h2, h3, h4, h5, h6, h7⟩
   refine ⟨⟨h1, h2, h3, h4, ?_⟩, trivial, h6.symm, trivial, h7.symm, trivial, trivial, trivial⟩
   by_cases hd : a6 = true
   ·exact .inr (h5 hd)
   ·exact .inl (by simpa using hd)
  ·rintro ⟨⟨h1, h2, h3, h4, h5⟩, _, h6, _, h7, _⟩
   exact ⟨h1, h2, h3, h4, fun hd => h5.elim (fun h => by rw [h] at hd; cases hd) id, h6.symm, h7.symm⟩
 simp only [if_neg n3]
 by_cases n4 : a0 = 4
 ·simp only [if_pos n4]
  refine fin_eq _ _ _ _ _ _ _ _ _ _ _ _ _ _ _ _ ?_
  rw [none_iff, bare_iff]
  constructor
  ·rintro ⟨h1, h2, h3, h4⟩; exact ⟨h1, rfl, h2.symm, rfl, h3.symm, h4⟩
  ·rintro ⟨h1, _, h2, _, h3, h4⟩; exact ⟨h1, h2.symm, h3.symm, h4⟩
 simp only [if_neg n4]
 by_cases n7 : a0 = 7
 ·simp only [if_pos n7]
  refine fin_eq _ _ _ _ _ _ _ _ _ _ _ _ _ _ _ _ ?_
  rw [Bool.and_eq_true, none_iff, decide_eq_true_eq, bare_iff]
  constructor
  ·rintro ⟨h1, h2, h3, h4, h5⟩; exact ⟨⟨h1, h2⟩, rfl, h3.symm, rfl, h4.symm, h5⟩
  ·rintro ⟨⟨h1, h2⟩, _, h3, _, h4, h5⟩; exact ⟨h1, h2, h3.symm, h4.symm, h5⟩
 simp only [if_neg n7]
 rfl
def okR (a0 a1 a2 a3 : Int) (a4 a5 : ByteArray) (a6 : Bool) (l7 : List ByteArray) (l8 : List S50) : Prop := headP a1 a2 a3 ∧ okK a0 a1 a2 a3 a4 a5 a6 l7 l8
instance (a0 a1 a2 a3 : Int) (a4 a5 : ByteArray) (a6 : Bool) (l7 : List ByteArray) (l8 : List S50) : Decidable (okR a0 a1 a2 a3 a4 a5 a6 l7 l8) := inferInstanceAs (Decidable (_ ∧ _))
theorem chkR_eq (a0 a1 a2 a3 : Int) (a4 a5 : ByteArray) (a6 : Bool) (l7 : List ByteArray) (l8 : List S50) : chkR a0 a1 a2 a3 a4 a5 a6 l7 l8 = if okR a0 a1 a2 a3 a4 a5 a6 l7 l8 then 0 else 80 := by
 unfold chkR
 by_cases h : headP a1 a2 a3
 ·rw [if_neg (fun hc => (head_iff ..).1 hc h), chkK_eq]
  by_cases k : okK a0 a1 a2 a3 a4 a5 a6 l7 l8
  ·exact (if_pos k).trans (if_pos (show okR a0 a1 a2 a3 a4 a5 a6 l7 l8 from ⟨h, k⟩)).symm
  ·exact (if_neg k).trans (if_neg (fun hc : okR a0 a1 a2 a3 a4 a5 a6 l7 l8 => k hc.2)).symm
 ·rw [if_pos ((head_iff ..).2 h)]
  exact (if_neg (fun hc : okR a0 a1 a2 a3 a4 a5 a6 l7 l8 => h hc.1)).symm
theorem rcheck_eq (a0 a1 a2 a3 : Int) (a4 a5 : ByteArray) (a6 : Bool) (l7 : List ByteArray) (l8 : List S50) (h7 : l7.length ≤ 8796093022000) (h8 : l8.length ≤ 8796093022000) : record_Check.f a0 a1 a2 a3 a4 a5 a6 l7 l8 = some (if okR a0 a1 a2 a3 a4 a5 a6 l7 l8 then 0 else 80) := by
 unfold record_Check.f
 rw [if_pos ⟨h7, h8⟩, chkR_eq]
end Go.Proofs.Ytbfjbcaabijpfaa.RecSpec

namespace Go.Proofs.Ytbfjbcaabijpfaa.PackFns
open Go.RowKit Go.Proofs.Ytbfjbcaabijpfaa.Base Go.Proofs.Ytbfjbcaabijpfaa.PackMath Go.Proofs.Ytbfjbcaabijpfaa.Al Go.Proofs.YtbfjbcaabijpfaaW.PrintWords
theorem may_eq (n : Int) : pack_may.f n = some (okNum n) := by
 unfold pack_may.f okNum
 by_cases h : n ≥ -4611686018427387904
 ·rw [if_pos h, decide_eq_true (show (-4611686018427387904 : Int) ≤ n from h)]; rfl
 ·rw [if_neg h, decide_eq_false (show ¬ (-4611686018427387904 : Int) ≤ n from h)]; rfl
theorem step_byte (n : Nat) : (((Int.tmod (n : Int) 128) % 256) + 128) % 256 = ((n % 128 + 128 : Nat) : Int) := by
 rw [Int.tmod_eq_emod_of_nonneg (by omega)]; omega
theorem step_rest (n : Nat) : Int.tdiv (n : Int) 128 = ((n / 128 : Nat) : Int) := by
 rw [Int.tdiv_eq_ediv_of_nonneg (by omega)]; omega
theorem put_int_l0 : ∀ (n : Nat) (xs : List Int), n < 9223372036854775808 → xs.length + (plain n).length ≤ 140737488355328 → Ev (fun k => pack_put_int.l0 k xs (n : Int)) (xs ++ plain n) := by
 intro n
 induction n using Nat.strongRecOn with
 |ind n ih =>
  intro xs hn hx
  by_cases h1 : n < 128
  ·rw [plain_small h1] at hx ⊢
   simp at hx
   refine Ev.step (fun k => by simp only [pack_put_int.l0]; rw [if_neg (by omega), if_pos (by omega)]) ?_
   rw [show (n : Int) % 256 = n from by omega]
   exact Ev.now _
  ·rw [plain_big (by omega)] at hx ⊢
   simp at hx
   refine Ev.step (fun k => by simp only [pack_put_int.l0]; rw [if_pos (by omega), if_pos (by omega)]) ?_
   rw [step_byte, step_rest, wrap_id (by omega) (by omega)]
   have := ih (n / 128) (by omega) (xs ++ [((n % 128 + 128 : Nat) : Int)]) (by omega) (by simp; omega)
   simpa using this
theorem put_u64_l0 : ∀ (n : Nat) (xs : List Int), n < 18446744073709551616 → xs.length + (plain n).length ≤ 140737488355328 → Ev (fun k => pack_put_uint64.l0 k xs (n : Int)) (xs ++ plain n) := by
 intro n
 induction n using Nat.strongRecOn with
 |ind n ih =>
  intro xs hn hx
  by_cases h1 : n < 128
  ·rw [plain_small h1] at hx ⊢
   simp at hx
   refine Ev.step (fun k => by simp only [pack_put_uint64.l0]; rw [if_neg (by omega), if_pos (by omega)]) ?_
   rw [show (n : Int) % 256 = n from by omega]
   exact Ev.now _
  ·rw [plain_big (by omega)] at hx ⊢
   simp at hx
   refine Ev.step (fun k => by simp only [pack_put_uint64.l0]; rw [if_pos (by omega), if_pos (by omega)]) ?_
   rw [step_byte, step_rest, IntKind.wrap_u64, show (((n / 128 : Nat) : Int) % 18446744073709551616) = ((n / 128 : Nat) : Int) from by omega]
   have := ih (n / 128) (by omega) (xs ++ [((n % 128 + 128 : Nat) : Int)]) (by omega) (by simp; omega)
   simpa using this
theorem put_int_ev (n : Nat) (xs : List Int) (hn : n < 9223372036854775808) (hx : xs.length ≤ 140737488355300) : Ev (fun k => pack_put_int.f k xs (n : Int)) (xs ++ plain n) :=
 put_int_l0 n xs hn (by have := plain_len9 hn; omega)
/-- The bits of a signed number, as the program turns them. -/
theorem zig_go (n : Int) (h0 : -4611686018427387904 ≤ n) (h1 : n ≤ 4611686018427387903) : Go.bits .xor .u64 (IntKind.u64.wrap ((IntKind.u64.wrap n) * 2)) (IntKind.u64.wrap (n / 9223372036854775808)) = (zig n : Int) := by
 rw [IntKind.wrap_u64, IntKind.wrap_u64, IntKind.wrap_u64]
 by_cases hn : n < 0
 ·obtain ⟨m, hm⟩ : ∃ m : Nat, n = -(m : Int) - 1 := ⟨(-n - 1).toNat, by omega⟩
  have e1 : (n % 18446744073709551616 * 2) % 18446744073709551616 = ((18446744073709551616 - 2 * (m + 1) : Nat) : Int) := by omega
  have e2 : (n / 9223372036854775808) % 18446744073709551616 = ((18446744073709551615 : Nat) : Int) := by omega
  rw [e1, e2, bits_xor_u64_nat _ _ (by omega) (by omega)]
  have e3 : (18446744073709551616 - 2 * (m + 1)) ^^^ 18446744073709551615 = 2 * m + 1 := by
   have hb := BitVec.toNat_not (x := BitVec.ofNat 64 (18446744073709551616 - 2 * (m + 1)))
   rw [← BitVec.xor_allOnes, BitVec.toNat_xor, BitVec.toNat_ofNat, BitVec.toNat_allOnes, Nat.mod_eq_of_lt (by omega)] at hb
   rw [show (18446744073709551615 : Nat) = 2 ^ 64 - 1 from rfl, hb]
   omega
  rw [e3]
  unfold zig
  rw [if_pos hn]
  omega
 ·have e1 : (n % 18446744073709551616 * 2) % 18446744073709551616 = (((2 * n).toNat : Nat) : Int) := by omega
  have e2 : (n / 9223372036854775808) % 18446744073709551616 = ((0 : Nat) : Int) := by omega
  rw [e1, e2, bits_xor_u64_nat _ _ (by omega) (by omega), Nat.xor_zero]
  unfold zig
  rw [if_neg hn]
theorem signed_ev (n : Int) (xs : List Int) (h0 : -4611686018427387904 ≤ n) (h1 : n ≤ 4611686018427387903) (hx : xs.length ≤ 140737488355300) : Ev (fun k => pack_signed.f k xs n) (xs ++ signed n) := by
 have hz := zig_lt h0 h1
 unfold pack_signed.f
 rw [zig_go n h0 h1]
 exact Ev.bind (put_u64_l0 (zig n) xs (by omega) (by have := plain_len9 hz; omega)) (Ev.now _)
/-- Check. -/
theorem check_l1 (texts : List ByteArray) (ht : texts.length ≤ 1024) : ∀ (d i : Nat), i + d = texts.length → Ev (fun k => pack_Check.l1 k texts (texts.length : Int) (i : Int)) (if (texts.drop i).all okText = false then 2 else 0)
 |0, i, h => by
  rw [List.drop_of_length_le (by omega), if_neg (by simp)]
  exact Ev.step (fun k => by simp only [pack_Check.l1]; rw [if_neg (by omega)]) (Ev.now _)
 |d + 1, i, h => by
  have hi : i < texts.length := by omega
  have e : wrap64 ((i : Int) + 1) = ((i + 1 : Nat) : Int) := by rw [wrap_id (by omega) (by omega)]; omega
  have hr : rdOf ByteArray.empty texts (i : Int) = texts[i] := by simp [rdOf, List.getD_eq_getElem?_getD, hi]
  have ih := check_l1 texts ht d (i + 1) (by omega)
  rw [List.drop_eq_getElem_cons hi, List.all_cons]
  refine Ev.step (fun k => by simp only [pack_Check.l1]; rw [if_pos (by omega), if_pos (by omega), if_pos (by omega), hr, e]) ?_
  by_cases hs : texts[i].size ≤ 4096
  ·rw [okText_iff.2 hs, Bool.true_and]
   exact Ev.neg (by omega) ih
  ·rw [show okText texts[i] = false from by simpa [okText] using hs, Bool.false_and, if_pos rfl]
   exact Ev.pos (by omega) (Ev.now _)
theorem check_l0 (nums : List Int) (texts : List ByteArray) (hn : nums.length ≤ 1024) (ht : texts.length ≤ 1024) : ∀ (d i : Nat), i + d = nums.length →
  Ev (fun k => pack_Check.l0 k nums (nums.length : Int) (i : Int) nums texts) (if (nums.drop i).all okNum = false then 1 else if texts.all okText = false then 2 else 0)
 |0, i, h => by
  rw [List.drop_of_length_le (by omega), if_neg (by simp)]
  refine Ev.step (fun k => by simp only [pack_Check.l0]; rw [if_neg (by omega)]) ?_
  simpa using check_l1 texts ht texts.length 0 (by omega)
 |d + 1, i, h => by
  have hi : i < nums.length := by omega
  have e : wrap64 ((i : Int) + 1) = ((i + 1 : Nat) : Int) := by rw [wrap_id (by omega) (by omega)]; omega
  have hr : rd nums (i : Int) = nums[i] := by simp [rd, List.getD_eq_getElem?_getD, hi]
  have ih := check_l0 nums texts hn ht d (i + 1) (by omega)
  rw [List.drop_eq_getElem_cons hi, List.all_cons]
  refine Ev.step (fun k => by simp only [pack_Check.l0]; rw [if_pos (by omega), if_pos (by omega), if_pos (by omega), hr, e, may_eq]) ?_
  cases ho : okNum nums[i] with
  |true => rw [Bool.true_and]; exact Ev.some_bind (Ev.pos rfl ih)
  |false => rw [Bool.false_and, if_pos rfl]; exact Ev.some_bind (Ev.neg (by simp) (Ev.now _))
theorem check_ev (nums : List Int) (texts : List ByteArray) : Ev (fun k => pack_Check.f k nums texts) (chk nums texts) := by
 unfold pack_Check.f chk
 by_cases h1 : 1024 < nums.length
 ·rw [if_pos (Or.inl h1)]
  exact Ev.pos (by omega) (Ev.step (fun k => by simp only [pack_Check.j0, if_true]) (Ev.now _))
 refine Ev.neg (by omega) ?_
 by_cases h2 : 1024 < texts.length
 ·rw [if_pos (Or.inr h2), decide_eq_true (by omega)]
  exact Ev.step (fun k => by simp only [pack_Check.j0, if_true]) (Ev.now _)
 rw [if_neg (by omega), decide_eq_false (by omega)]
 refine Ev.step (fun k => by simp only [pack_Check.j0]; rw [if_neg (by simp)]) ?_
 simpa using check_l0 nums texts (by omega) (by omega) nums.length 0 (by omega)
/-- Encode. -/
theorem enc_l1 (texts : List ByteArray) (ht : texts.length ≤ 1024) (hs : ∀ s ∈ texts, s.size ≤ 4096) : ∀ (d i : Nat) (xs : List Int), i + d = texts.length → xs.length + 4105 * d ≤ 100000000 →
  Ev (fun k => pack_Encode.l1 k xs texts (texts.length : Int) (i : Int)) (strOfNums (xs ++ tails (texts.drop i)), 0)
 |0, i, xs, h, hx => by
  rw [List.drop_of_length_le (by omega)]
  refine Ev.step (fun k => by simp only [pack_Encode.l1]; rw [if_neg (by omega)]) ?_
  rw [show tails [] = [] from rfl, List.append_nil]
  exact Ev.now _
 |d + 1, i, xs, h, hx => by
  have hi : i < texts.length := by omega
  have e : wrap64 ((i : Int) + 1) = ((i + 1 : Nat) : Int) := by rw [wrap_id (by omega) (by omega)]; omega
  have hr : rdOf ByteArray.empty texts (i : Int) = texts[i] := by simp [rdOf, List.getD_eq_getElem?_getD, hi]
  have hz := hs _ (List.getElem_mem hi)
  have hp : (plain texts[i].size).length ≤ 9 := plain_len9 (by omega)
  have ih := enc_l1 texts ht hs d (i + 1) (xs ++ plain texts[i].size ++ bytesOf texts[i]) (by omega) (by simp only [List.length_append, bytesOf_length]; omega)
  rw [List.drop_eq_getElem_cons hi]
  have et : tails (texts[i] :: texts.drop (i + 1)) = plain texts[i].size ++ bytesOf texts[i] ++ tails (texts.drop (i + 1)) := rfl
  rw [et]
  refine Ev.step (fun k => by simp only [pack_Encode.l1]; rw [if_pos (by omega), if_pos (by omega), if_pos (by omega), hr, e]) ?_
  refine Ev.bind (put_int_ev texts[i].size xs (by omega) (by omega)) (Ev.pos (by rw [List.length_append]; omega) ?_)
  simpa using ih
theorem enc_l0 (nums : List Int) (texts : List ByteArray) (hn : nums.length ≤ 1024) (ht : texts.length ≤ 1024) (hm : ∀ n ∈ nums, -4611686018427387904 ≤ n ∧ n ≤ 4611686018427387903) (hs : ∀ s ∈ texts, s.size ≤ 4096) : ∀ (d i : Nat) (xs : List Int), i + d = nums.length → xs.length + 9 * d ≤ 10000000 →
  Ev (fun k => pack_Encode.l0 k xs nums (nums.length : Int) (i : Int) nums texts) (strOfNums (xs ++ body (nums.drop i) ++ plain texts.length ++ tails texts), 0)
 |0, i, xs, h, hx => by
  rw [List.drop_of_length_le (by omega)]
  have hp : (plain texts.length).length ≤ 9 := plain_len9 (by omega)
  refine Ev.step (fun k => by simp only [pack_Encode.l0]; rw [if_neg (by omega)]) ?_
  refine Ev.bind (put_int_ev texts.length xs (by omega) (by omega)) ?_
  have := enc_l1 texts ht hs texts.length 0 (xs ++ plain texts.length) (by omega) (by rw [List.length_append]; omega)
  simpa [body] using this
 |d + 1, i, xs, h, hx => by
  have hi : i < nums.length := by omega
  have e : wrap64 ((i : Int) + 1) = ((i + 1 : Nat) : Int) := by rw [wrap_id (by omega) (by omega)]; omega
  have hr : rd nums (i : Int) = nums[i] := by simp [rd, List.getD_eq_getElem?_getD, hi]
  have hz := hm _ (List.getElem_mem hi)
  have hp : (signed nums[i]).length ≤ 9 := plain_len9 (zig_lt hz.1 hz.2)
  have ih := enc_l0 nums texts hn ht hm hs d (i + 1) (xs ++ signed nums[i]) (by omega) (by rw [List.length_append]; omega)
  rw [List.drop_eq_getElem_cons hi]
  have et : body (nums[i] :: nums.drop (i + 1)) = signed nums[i] ++ body (nums.drop (i + 1)) := rfl
  rw [et]
  refine Ev.step (fun k => by simp only [pack_Encode.l0]; rw [if_pos (by omega), if_pos (by omega), if_pos (by omega), hr, e]) ?_
  refine Ev.bind (signed_ev nums[i] xs hz.1 hz.2 (by omega)) ?_
  simpa using ih
/-- What Encode answers. -/
def encB (nums : List Int) (texts : List ByteArray) : ByteArray × Int := if chk nums texts = 0 then (strOfNums (enc nums texts), 0) else (⟨#[]⟩, chk nums texts)
theorem encode_ev (nums : List Int) (texts : List ByteArray) : Ev (fun k => pack_Encode.f k nums texts) (encB nums texts) := by
 unfold pack_Encode.f encB
 refine Ev.bind (check_ev nums texts) ?_
 by_cases h : chk nums texts = 0
 ·obtain ⟨h1, h2, h3, h4⟩ := chk_ok h
  rw [if_pos h]
  have hp : (plain nums.length).length ≤ 9 := plain_len9 (by omega)
  refine Ev.pos h (Ev.bind (put_int_ev nums.length [] (by omega) (by simp)) ?_)
  have := enc_l0 nums texts h1 h2 h3 h4 nums.length 0 ([] ++ plain nums.length) (by omega) (by simp; omega)
  simpa [enc] using this
 ·rw [if_neg h]
  exact Ev.neg h (Ev.now _)
end Go.Proofs.Ytbfjbcaabijpfaa.PackFns

namespace Go.Proofs.Ytbfjbcaabijpfaa.RecSpec
open Go.RowKit Go.Proofs.Ytbfjbcaabijpfaa.Base Go.Proofs.Ytbfjbcaabijpfaa.PackMath Go.Proofs.Ytbfjbcaabijpfaa.PackFns Go.Proofs.Ytbfjbcaabijpfaa.LetSpec Go.Proofs.Ytbfjbcaabijpfaa.Al Go.Proofs.YtbfjbcaabijpfaaW.PrintWords
set_option linter.unusedVariables false
set_option linter.unusedSimpArgs false
theorem key_size {s : ByteArray} (h : keyB s = true) : s.size ≤ 32 := by
 unfold keyB at h
 exact (of_decide_eq_true h).2
theorem risFrom_all : ∀ (l : List ByteArray) (p : Option ByteArray), risFrom p l = true → ∀ s ∈ l, keyB s = true
 |[], _, _, _, h => by cases h
 |x :: l, p, h, s, hs => by
  have h1 : keyB x = true ∧ risFrom (some x) l = true := by
   cases p with
   |none => simpa [risFrom] using h
   |some q =>
    have h2 : (keyB x && (Op.bytesLess q.toList x.toList && risFrom (some x) l)) = true := h
    simp only [Bool.and_eq_true] at h2
    exact ⟨h2.1, h2.2.2⟩
  rcases List.mem_cons.1 hs with rfl | hs
  ·exact h1.1
  ·exact risFrom_all l (some x) h1.2 s hs
theorem ris_all {l : List ByteArray} (h : risB l = true) : ∀ s ∈ l, s.size ≤ 32 := fun s hs => key_size (risFrom_all l none h s hs)
theorem wri_all {l : List S50} (h : wriB l = true) : l.length ≤ 16 ∧ ∀ x ∈ l, x.f0.size ≤ 32 ∧ x.f1.size ≤ 2052 := by
 unfold wriB at h
 simp only [Bool.and_eq_true, decide_eq_true_eq, List.all_eq_true] at h
 obtain ⟨h1, h2, h3⟩ := h
 refine ⟨h2, fun x hx => ⟨ris_all h3 _ (List.mem_map.2 ⟨x, hx, rfl⟩), ?_⟩⟩
 have := h1 x hx
 simp only [oneW, Bool.and_eq_true, decide_eq_true_eq] at this
 exact this.1
theorem empty_size {s : ByteArray} (h : s.toList = []) : s.size = 0 := (empty_iff s).1 h
section
variable (a0 a1 a2 a3 : Int) (a4 a5 : ByteArray) (a6 : Bool) (l7 : List ByteArray) (l8 : List S50)
structure Bounds : Prop where
 b0 : 1 ≤ a0 ∧ a0 ≤ 7
 bh : headP a1 a2 a3
 b4 : a4.size ≤ 32
 b5 : a5.size ≤ 2052
 b7 : l7.length ≤ 16 ∧ ∀ s ∈ l7, s.size ≤ 32
 b8 : l8.length ≤ 16 ∧ ∀ x ∈ l8, x.f0.size ≤ 32 ∧ x.f1.size ≤ 2052
theorem ok_bounds (h : okR a0 a1 a2 a3 a4 a5 a6 l7 l8) : Bounds a0 a1 a2 a3 a4 a5 l7 l8 := by
 obtain ⟨hh, h⟩ := h
 have nil7 : l7.length = 0 → l7.length ≤ 16 ∧ ∀ s ∈ l7, s.size ≤ 32 := fun h => by obtain rfl := List.eq_nil_of_length_eq_zero h; exact ⟨by simp, fun s hs => by cases hs⟩
 have nil8 : l8.length = 0 → l8.length ≤ 16 ∧ ∀ x ∈ l8, x.f0.size ≤ 32 ∧ x.f1.size ≤ 2052 := fun h => by obtain rfl := List.eq_nil_of_length_eq_zero h; exact ⟨by simp, fun s hs => by cases hs⟩
 have mk : (1 ≤ a0 ∧ a0 ≤ 7) → bareT a4 a5 a6 → (l7.length = 0 ∧ l8.length = 0) → Bounds a0 a1 a2 a3 a4 a5 l7 l8 := fun h0 ht hl => ⟨h0, hh, by rw [empty_size ht.1]; omega, by rw [empty_size ht.2.1]; omega, nil7 hl.1, nil8 hl.2⟩
 unfold okK at h
 by_cases n1 : a0 = 1
 ·rw [if_pos n1] at h
  obtain ⟨⟨h1, h2, h3⟩, _, ht⟩ := h
  exact ⟨by omega, hh, by rw [empty_size ht.1]; omega, by rw [empty_size ht.2.1]; omega, ⟨h1, ris_all h2⟩, wri_all h3⟩
 rw [if_neg n1] at h
 by_cases n2 : a0 = 2
 ·rw [if_pos n2] at h; exact mk (by omega) h.2.2.2 h.1
 rw [if_neg n2] at h
 by_cases n5 : a0 = 5
 ·rw [if_pos n5] at h; exact mk (by omega) h.2.2.2.2 h.1
 rw [if_neg n5] at h
 by_cases n6 : a0 = 6
 ·rw [if_pos n6] at h; exact mk (by omega) h.2.2.2.2 h.1
 rw [if_neg n6] at h
 by_cases n3 : a0 = 3
 ·rw [if_pos n3] at h
  obtain ⟨hl, _, hk, hs, _⟩ := h
  exact ⟨by omega, hh, key_size hk, hs, nil7 hl.1, nil8 hl.2⟩
 rw [if_neg n3] at h
 by_cases n4 : a0 = 4
 ·rw [if_pos n4] at h; exact mk (by omega) h.2.2.2 h.1
 rw [if_neg n4] at h
 by_cases n7 : a0 = 7
 ·rw [if_pos n7] at h; exact mk (by omega) h.2.2.2.2 h.1
 rw [if_neg n7] at h
 exact h.elim
def recN : List Int := [a0, a1, a2, a3, oneI a6, (l7.length : Int)] ++ flagsOf l8
def recT : List ByteArray := [a4, a5] ++ l7 ++ pairsOf l8
theorem flags_len (l : List S50) : (flagsOf l).length = l.length := by simp [flagsOf]
theorem one_range (b : Bool) : 0 ≤ oneI b ∧ oneI b ≤ 1 := by cases b <;> decide
theorem rec_chk (h : okR a0 a1 a2 a3 a4 a5 a6 l7 l8) : chk (recN a0 a1 a2 a3 a6 l7 l8) (recT a4 a5 l7 l8) = 0 := by
 obtain ⟨b0, ⟨p1, p2, p3, p4, p5, p6⟩, b4, b5, ⟨b7, c7⟩, ⟨b8, c8⟩⟩ := ok_bounds _ _ _ _ _ _ _ _ _ h
 refine chk_of ?_ ?_ ?_ ?_
 ·simp only [recN, List.length_append, flags_len, List.length_cons, List.length_nil]; omega
 ·simp only [recT, List.length_append, pairs_len, List.length_cons, List.length_nil]; omega
 ·intro n hn
  simp only [recN, List.mem_append, List.mem_cons, List.not_mem_nil, or_false, flagsOf, List.mem_map] at hn
  rcases hn with (rfl | rfl | rfl | rfl | rfl | rfl) | ⟨x, _, rfl⟩
  ·omega
  ·omega
  ·omega
  ·omega
  ·have := one_range a6; omega
  ·omega
  ·have := one_range x.f2; omega
 ·intro s hs
  simp only [recT, List.mem_append, List.mem_cons, List.not_mem_nil, or_false, pairsOf, List.mem_flatten, List.mem_map] at hs
  rcases hs with ((rfl | rfl) | hs) | ⟨l, ⟨x, hx, rfl⟩, hs⟩
  ·omega
  ·omega
  ·have := c7 s hs; omega
  ·have h1 := c8 x hx
   simp only [List.mem_cons, List.not_mem_nil, or_false] at hs
   rcases hs with rfl | rfl <;> omega
/-- The bytes and the error of a record. -/
def encR : ByteArray × Int := if okR a0 a1 a2 a3 a4 a5 a6 l7 l8 then (strOfNums (enc (recN a0 a1 a2 a3 a6 l7 l8) (recT a4 a5 l7 l8)), 0) else (⟨#[]⟩, 80)
variable (h7 : l7.length ≤ 8796093022000) (h8 : l8.length ≤ 8796093022000)
include h7 h8 in
theorem encodeR_ev : Ev (fun k => record_Encode.f k a0 a1 a2 a3 a4 a5 a6 l7 l8) (encR a0 a1 a2 a3 a4 a5 a6 l7 l8) := by
 unfold record_Encode.f encR
 rw [rcheck_eq _ _ _ _ _ _ _ _ _ h7 h8]
 refine Ev.some_bind ?_
 by_cases h : okR a0 a1 a2 a3 a4 a5 a6 l7 l8
 ·rw [if_pos h, if_pos h]
  have hb := ok_bounds _ _ _ _ _ _ _ _ _ h
  have he := encode_ev (recN a0 a1 a2 a3 a6 l7 l8) (recT a4 a5 l7 l8)
  unfold encB at he
  rw [if_pos (rec_chk _ _ _ _ _ _ _ _ _ h)] at he
  exact Ev.pos rfl (Ev.pos ⟨by have := hb.b7.1; omega, by have := hb.b8.1; omega⟩ he)
 ·rw [if_neg h, if_neg h]
  exact Ev.neg (by decide) (Ev.now _)
end
theorem works_encR : encR 2 5 9 0 (⟨#[]⟩ : ByteArray) (⟨#[]⟩ : ByteArray) false [] [] = (⟨#[6, 4, 10, 18, 0, 0, 0, 2, 0, 0]⟩, 0) := by
 have h : okR 2 5 9 0 (⟨#[]⟩ : ByteArray) (⟨#[]⟩ : ByteArray) false [] [] := ⟨by unfold headP; omega, by unfold okK; rw [if_neg (by omega), if_pos rfl]; exact ⟨⟨rfl, rfl⟩, by omega, rfl, nil_toList, nil_toList, rfl⟩⟩
 have e2 : signed 2 = [4] := by unfold signed; rw [show zig 2 = 4 from by decide, plain_small (by omega)]; rfl
 have e5 : signed 5 = [10] := by unfold signed; rw [show zig 5 = 10 from by decide, plain_small (by omega)]; rfl
 have e9 : signed 9 = [18] := by unfold signed; rw [show zig 9 = 18 from by decide, plain_small (by omega)]; rfl
 have e0 : signed 0 = [0] := by unfold signed; rw [show zig 0 = 0 from by decide, plain_small (by omega)]; rfl
 have e : enc (recN 2 5 9 0 false [] []) (recT (⟨#[]⟩ : ByteArray) (⟨#[]⟩ : ByteArray) [] []) = [6, 4, 10, 18, 0, 0, 0, 2, 0, 0] := by
  have en : recN 2 5 9 0 false [] [] = [2, 5, 9, 0, 0, 0] := rfl
  have et : recT (⟨#[]⟩ : ByteArray) (⟨#[]⟩ : ByteArray) [] [] = [(⟨#[]⟩ : ByteArray), (⟨#[]⟩ : ByteArray)] := rfl
  rw [en, et]
  simp only [enc, body, tails, List.map_cons, List.map_nil, e2, e5, e9, e0]
  rw [plain_small (by decide), plain_small (by decide), plain_small (by decide)]
  rfl
 unfold encR
 rw [if_pos h, e]
 rfl
theorem worksR_ev : Ev (fun k => corncriblaw08_works.f k) true := by
 have h := encodeR_ev 2 5 9 0 (⟨#[]⟩ : ByteArray) (⟨#[]⟩ : ByteArray) false [] [] (by simp) (by simp)
 rw [works_encR] at h
 unfold corncriblaw08_works.f
 refine Ev.bind h (Ev.pos rfl ?_)
 rw [toList_eq]
 exact Ev.now _
end Go.Proofs.Ytbfjbcaabijpfaa.RecSpec

namespace Go.Proofs.Ytbfjbcaabijpfaa.RecSpec
open Go.RowKit Go.Proofs.Ytbfjbcaabijpfaa.Base Go.Proofs.Ytbfjbcaabijpfaa.LetSpec Go.Proofs.Ytbfjbcaabijpfaa.PackMath Go.Proofs.Ytbfjbcaabijpfaa.PackDec Go.Proofs.Ytbfjbcaabijpfaa.PackFns Go.Proofs.Ytbfjbcaabijpfaa.Al Go.Proofs.YtbfjbcaabijpfaaW.PrintWords
set_option linter.unusedVariables false
set_option linter.unusedSimpArgs false
open Go.Proofs.Ytbfjbcaabijpfaa.Al.RD (RLet noLet wsOf wOf ws_len)
/-- The keys, the writes. -/
def keysOf (ns : List Int) (ts : List ByteArray) : List ByteArray := (ts.take (2 + rd ns 5).toNat).drop 2
def wrsOf (ns : List Int) (ts : List ByteArray) : List S50 := wsOf (ns.drop 6) (ts.drop (2 + rd ns 5).toNat) (ns.length - 6)
def encD (ns : List Int) (ts : List ByteArray) : ByteArray × Int := encR (rd ns 0) (rd ns 1) (rd ns 2) (rd ns 3) (rdOf ByteArray.empty ts 0) (rdOf ByteArray.empty ts 1) (rd ns 4 == 1) (keysOf ns ts) (wrsOf ns ts)
def fitD (ns : List Int) (ts : List ByteArray) : Prop := 0 ≤ rd ns 5 ∧ rd ns 5 ≤ (ts.length : Int) - 2 ∧ (ts.length : Int) = 2 + rd ns 5 + 2 * ((ns.length - 6 : Nat) : Int)
instance (ns : List Int) (ts : List ByteArray) : Decidable (fitD ns ts) := by unfold fitD; infer_instance
def letV (ns : List Int) (ts : List ByteArray) : RLet := (rd ns 0, rd ns 1, rd ns 2, rd ns 3, rdOf ByteArray.empty ts 0, rdOf ByteArray.empty ts 1, (rd ns 4 == 1), keysOf ns ts, wrsOf ns ts, 0)
def ldV (s : ByteArray) : RLet :=
 if (dec s).2.2.2 = 0 ∧ 6 ≤ (dec s).1.length ∧ 2 ≤ (dec s).2.1.length then
  (if fitD (dec s).1 (dec s).2.1 then (if (encD (dec s).1 (dec s).2.1).2 = 0 ∧ (encD (dec s).1 (dec s).2.1).1 = s then letV (dec s).1 (dec s).2.1 else noLet) else noLet)
 else noLet
theorem keys_len (ns : List Int) (ts : List ByteArray) : (keysOf ns ts).length ≤ ts.length := by unfold keysOf; rw [List.length_drop, List.length_take]; omega
theorem wrs_len (ns : List Int) (ts : List ByteArray) : (wrsOf ns ts).length = ns.length - 6 := ws_len _ _ _
theorem ldec_ev (s : ByteArray) (hs : s.size ≤ 140737488355328) : Ev (fun k => record_Decode.f k s) (ldV s) := by
 obtain ⟨d1, d2⟩ := DecLen.dec_len s
 unfold record_Decode.f RD.decF ldV
 rw [show pack_Decode.f s = some ((dec s).1, (dec s).2.1, ((dec s).2.2.1 : Int), (dec s).2.2.2) from if_pos hs]
 refine Ev.some_bind ?_
 generalize (dec s).1 = ns at *
 generalize (dec s).2.1 = ts at *
 by_cases h : (dec s).2.2.2 = 0 ∧ 6 ≤ ns.length ∧ 2 ≤ ts.length
 ·rw [if_pos h]
  refine Ev.pos h ?_
  unfold RD.letOf
  by_cases hf : fitD ns ts
  ·rw [if_pos hf]
   refine Ev.pos hf ?_
   have hk := keys_len ns ts
   have hw := wrs_len ns ts
   refine Ev.bind (encodeR_ev (rd ns 0) (rd ns 1) (rd ns 2) (rd ns 3) (rdOf ByteArray.empty ts 0) (rdOf ByteArray.empty ts 1) (rd ns 4 == 1) (keysOf ns ts) (wrsOf ns ts) (by omega) (by omega)) ?_
   by_cases hx : (encD ns ts).2 = 0 ∧ (encD ns ts).1 = s
   ·rw [if_pos hx]
    exact Ev.pos hx (Ev.now _)
   ·rw [if_neg hx]
    exact Ev.neg hx (Ev.now _)
  ·rw [if_neg hf]
   exact Ev.neg hf (Ev.now _)
 ·rw [if_neg h]
  exact Ev.neg h (Ev.now _)
/-- What comes back with no fault is the letter of these bytes. -/
theorem ldV_ok {s : ByteArray} (h : (ldV s).2.2.2.2.2.2.2.2.2 = 0) : ∃ ns ts, ldV s = letV ns ts ∧ encD ns ts = (s, 0) ∧ ns.length ≤ 1024 ∧ ts.length ≤ 1024 := by
 obtain ⟨d1, d2⟩ := DecLen.dec_len s
 unfold ldV at h ⊢
 split
 ·rename_i c
  rw [if_pos c] at h
  split
  ·rename_i c2
   rw [if_pos c2] at h
   split
   ·rename_i c3
    exact ⟨_, _, rfl, Prod.ext c3.2 c3.1, d1, d2⟩
   ·rename_i c3
    rw [if_neg c3] at h
    cases h
  ·rename_i c2
   rw [if_neg c2] at h
   cases h
 ·rename_i c
  rw [if_neg c] at h
  cases h
theorem ldV_no {s : ByteArray} (h : (ldV s).2.2.2.2.2.2.2.2.2 ≠ 0) : ldV s = noLet := by
 unfold ldV at h ⊢
 split
 ·rename_i c
  rw [if_pos c] at h
  split
  ·rename_i c2
   rw [if_pos c2] at h
   split
   ·rename_i c3
    rw [if_pos c3] at h
    exact absurd rfl h
   ·rfl
  ·rfl
 ·rfl
section
variable (x0 x1 x2 x3 : Int) (x4 x5 : ByteArray) (x6 : Bool) (x7 : List ByteArray) (x8 : List S50)
end
end Go.Proofs.Ytbfjbcaabijpfaa.RecSpec

namespace Go.Proofs.Ytbfjbcaabijpfaa.LetSpec
open Go.RowKit Go.Proofs.Ytbfjbcaabijpfaa.Base Go.Proofs.Ytbfjbcaabijpfaa.Al Go.Proofs.YtbfjbcaabijpfaaW.PrintWords
theorem rkey_eq (s : ByteArray) : corncribref07_Key.f s = some (keyB s) := by
 unfold corncribref07_Key.f keyB
 split
 ·congr 1; apply decide_eq_decide.2; omega
 ·rw [decide_eq_false (by omega)]
theorem rrising_l0 (l : List ByteArray) (hl : l.length ≤ 4611686018427387904) : ∀ (d i : Nat), i + d = l.length → Ev (fun k => corncribref07_Rising.l0 k l i) (risFrom (prevOf l i) (l.drop i))
 |0, i, h => by
  refine Ev.succ ?_
  simp only [corncribref07_Rising.l0]
  rw [List.drop_of_length_le (by omega)]
  refine Ev.neg (by omega) ?_
  have : risFrom (prevOf l i) [] = true := by cases prevOf l i <;> rfl
  rw [this]
  exact Ev.now _
 |d + 1, i, h => by
  have hi : i < l.length := by omega
  have ih := rrising_l0 l hl d (i + 1) (by omega)
  have e : wrap64 ((i : Int) + 1) = ((i + 1 : Nat) : Int) := by rw [wrap_id (by omega) (by omega)]; omega
  have hp : prevOf l (i + 1) = some l[i] := by simp [prevOf, hi]
  rw [hp] at ih
  refine Ev.succ ?_
  simp only [corncribref07_Rising.l0]
  rw [e, rdOf_get hi, rkey_eq, List.drop_eq_getElem_cons hi]
  refine Ev.pos (by omega) (Ev.pos (by omega) (Ev.some_bind ?_))
  by_cases hk : keyB l[i] = true
  ·refine Ev.pos hk ?_
   by_cases h0 : i = 0
   ·subst h0
    refine Ev.neg (by omega) ?_
    have e2 : risFrom (prevOf l 0) (l[0] :: l.drop (0 + 1)) = risFrom (some l[0]) (l.drop (0 + 1)) := by
     show (keyB l[0] && risFrom (some l[0]) (l.drop 1)) = _
     rw [hk, Bool.true_and]
    rw [e2]
    exact ih
   ·have h1 : i - 1 < l.length := by omega
    have e1 : wrap64 ((i : Int) - 1) = ((i - 1 : Nat) : Int) := by rw [wrap_id (by omega) (by omega)]; omega
    have hpr : prevOf l i = some l[i - 1] := by simp [prevOf, h0, h1]
    rw [e1, hpr, rdOf_get h1]
    have e2 : risFrom (some l[i - 1]) (l[i] :: l.drop (i + 1)) = (Op.bytesLess l[i - 1].toList l[i].toList && risFrom (some l[i]) (l.drop (i + 1))) := by
     show (keyB l[i] && _) = _
     rw [hk, Bool.true_and]
    rw [e2]
    refine Ev.pos (by omega) (Ev.pos (by omega) (Ev.pos (by omega) ?_))
    by_cases hb : Op.bytesLess l[i - 1].toList l[i].toList = true
    ·rw [hb, Bool.true_and]
     exact Ev.pos rfl ih
    ·have hb' : Op.bytesLess l[i - 1].toList l[i].toList = false := by simpa using hb
     rw [hb', Bool.false_and]
     exact Ev.neg (by simp) (Ev.now _)
  ·have hk' : keyB l[i] = false := by simpa using hk
   rw [hk']
   have e2 : risFrom (prevOf l i) (l[i] :: l.drop (i + 1)) = false := by
    cases prevOf l i with
    |none => show (keyB l[i] && _) = _; rw [hk']; rfl
    |some p => show (keyB l[i] && _) = _; rw [hk']; rfl
   rw [e2]
   exact Ev.neg (by simp) (Ev.now _)
theorem rrising_ev (l : List ByteArray) (hl : l.length ≤ 4611686018427387904) : Ev (fun k => corncribref07_Rising.f k l) (risB l) := rrising_l0 l hl l.length 0 (by omega)
end Go.Proofs.Ytbfjbcaabijpfaa.LetSpec

namespace Go.Proofs.Ytbfjbcaabijpfaa.LetSpec
open Go.RowKit Go.Proofs.Ytbfjbcaabijpfaa.Base Go.Proofs.Ytbfjbcaabijpfaa.Al Go.Proofs.YtbfjbcaabijpfaaW.PrintWords
theorem rwrites_l0 (l : List S50) (hl : l.length ≤ 8796093022000) : ∀ (d i : Nat), i + d = l.length → (l.take i).all oneW = true → Ev (fun k => corncribref07_Writes.l0 k l ((l.take i).map fun x => x.f0) i) (wriB l)
 |0, i, h, ha => by
  have hi : l.take i = l := List.take_of_length_le (by omega)
  rw [hi] at ha ⊢
  have hw : wriB l = (decide (l.length ≤ 16) && risB (l.map fun x => x.f0)) := by unfold wriB; rw [ha, Bool.true_and]
  rw [hw]
  refine Ev.succ ?_
  simp only [corncribref07_Writes.l0]
  refine Ev.neg (by omega) ?_
  by_cases h16 : l.length ≤ 16
  ·rw [decide_eq_true h16, Bool.true_and]
   exact Ev.pos (by omega) (Ev.bind (rrising_ev _ (by simp; omega)) (Ev.now _))
  ·rw [decide_eq_false h16, Bool.false_and]
   exact Ev.neg (by omega) (Ev.now _)
 |d + 1, i, h, ha => by
  have hi : i < l.length := by omega
  have e : wrap64 ((i : Int) + 1) = ((i + 1 : Nat) : Int) := by rw [wrap_id (by omega) (by omega)]; omega
  have hlen : ((l.take i).map fun x => x.f0).length = i := by simp; omega
  have htk : l.take (i + 1) = l.take i ++ [l[i]] := by rw [List.take_succ_eq_append_getElem hi]
  have bad : oneW l[i] = false → wriB l = false := fun hf => by
   unfold wriB
   have : l.all oneW = false := List.all_eq_false.2 ⟨l[i], List.getElem_mem hi, by simp [hf]⟩
   rw [this, Bool.false_and]
  refine Ev.succ ?_
  simp only [corncribref07_Writes.l0]
  rw [e, rdT_get hi, hlen]
  refine Ev.pos (by omega) (Ev.pos (by omega) (Ev.pos (by omega) (Ev.some_bind ?_)))
  by_cases hs : l[i].f1.size ≤ 2052
  ·refine Ev.neg (by omega) ?_
   have good : oneW l[i] = true → Ev (fun k => corncribref07_Writes.l0 k l ((l.take i).map (fun x => x.f0) ++ [l[i].f0]) ((i + 1 : Nat) : Int)) (wriB l) := fun ho => by
    have ih := rwrites_l0 l hl d (i + 1) (by omega) (by rw [htk, List.all_append, ha]; simp [ho])
    rw [htk, List.map_append] at ih
    exact ih
   by_cases hd : l[i].f2 = true
   ·refine Ev.pos hd ?_
    by_cases he : l[i].f1.toList = []
    ·exact Ev.pos he (good (by simp [oneW, hs, he]))
    ·rw [bad (by simp [oneW, hd, he])]
     exact Ev.neg he (Ev.now _)
   ·have hd' : l[i].f2 = false := by simpa using hd
    exact Ev.neg hd (good (by simp [oneW, hs, hd']))
  ·rw [bad (by simp [oneW, hs])]
   exact Ev.pos (by omega) (Ev.now _)
theorem rwrites_ev (l : List S50) (hl : l.length ≤ 8796093022000) : Ev (fun k => corncribref07_Writes.f k l) (wriB l) := rwrites_l0 l hl l.length 0 (by omega) rfl
end Go.Proofs.Ytbfjbcaabijpfaa.LetSpec

namespace Go.Proofs.Ytbfjbcaabijpfaa.RecSpec
open Go.RowKit Go.Proofs.Ytbfjbcaabijpfaa.Base Go.Proofs.Ytbfjbcaabijpfaa.LetSpec Go.Proofs.Ytbfjbcaabijpfaa.Al Go.Proofs.YtbfjbcaabijpfaaW.PrintWords
set_option linter.unusedVariables false
set_option linter.unusedSimpArgs false
theorem stamp_eq (n : Int) : corncribref07_Stamp.f n = some (decide (0 ≤ n ∧ n ≤ 1125899906842624)) := by
 unfold corncribref07_Stamp.f
 split
 ·congr 1; apply decide_eq_decide.2; omega
 ·rw [decide_eq_false (by omega)]
theorem txn_eq (n : Int) : corncribref07_Txn.f n = some (decide (1 ≤ n ∧ n ≤ 1125899906842623)) := by
 unfold corncribref07_Txn.f
 split
 ·congr 1; apply decide_eq_decide.2; omega
 ·rw [decide_eq_false (by omega)]
section
variable (a0 a1 a2 a3 : Int) (a4 a5 : ByteArray) (a6 : Bool) (l7 : List ByteArray) (l8 : List S50) (h7 : l7.length ≤ 8796093022000) (h8 : l8.length ≤ 8796093022000)
def okF (lists text bare : Bool) : Prop :=
 if a0 = 1 then text = true ∧ ¬ a1 = 0 ∧ l7.length ≤ 16 ∧ risB l7 = true ∧ wriB l8 = true
 else if a0 = 2 then bare = true ∧ ¬ a1 = 0
 else if a0 = 3 then lists = true ∧ a3 = 0 ∧ a1 = 0 ∧ ¬ a2 = 0 ∧ keyB a4 = true ∧ a5.size ≤ 2052 ∧ (a6 = true → a5.toList = [])
 else if a0 = 4 then bare = true ∧ a1 = 0
 else if a0 = 5 then bare = true ∧ ¬ a1 = 0 ∧ ¬ a2 = 0
 else if a0 = 6 then bare = true ∧ ¬ a1 = 0 ∧ a2 = 0
 else if a0 = 7 then bare = true ∧ a1 = 0 ∧ ¬ a2 = 0
 else False
instance (lists text bare : Bool) : Decidable (okF a0 a1 a2 a3 a4 a5 a6 l7 l8 lists text bare) := by
 unfold okF
 infer_instance
theorem yes {p : Prop} [Decidable p] (h : p) : (0 : Int) = if p then 0 else 80 := (if_pos h).symm
theorem no {p : Prop} [Decidable p] (h : ¬ p) : (80 : Int) = if p then 0 else 80 := (if_neg h).symm
include h7 h8 in
theorem j3_ev (lists text bare : Bool) : Ev (fun k => corncribref08_Check.j3 k lists text bare a0 a1 a2 a3 a4 a5 a6 l7 l8) (if okF a0 a1 a2 a3 a4 a5 a6 l7 l8 lists text bare then 0 else 80) := by
 refine Ev.succ ?_
 simp only [corncribref08_Check.j3]
 by_cases n1 : a0 = 1
 ·refine Ev.pos n1 ?_
  have e : okF a0 a1 a2 a3 a4 a5 a6 l7 l8 lists text bare ↔ text = true ∧ ¬ a1 = 0 ∧ l7.length ≤ 16 ∧ risB l7 = true ∧ wriB l8 = true := by unfold okF; rw [if_pos n1]
  by_cases c1 : text = true
  case neg => exact Ev.to (Ev.neg c1 (Ev.now _)) (no (fun h => c1 (e.1 h).1))
  refine Ev.pos c1 ?_
  by_cases c2 : a1 = 0
  ·exact Ev.to (Ev.pos c2 (Ev.now _)) (no (fun h => (e.1 h).2.1 c2))
  refine Ev.neg c2 ?_
  by_cases c3 : l7.length ≤ 16
  case neg => exact Ev.to (Ev.neg (by omega) (Ev.now _)) (no (fun h => c3 (e.1 h).2.2.1))
  refine Ev.pos (by omega) (Ev.bind (rrising_ev _ (by omega)) ?_)
  by_cases c4 : risB l7 = true
  case neg => exact Ev.to (Ev.neg c4 (Ev.now _)) (no (fun h => c4 (e.1 h).2.2.2.1))
  refine Ev.pos c4 (Ev.bind (rwrites_ev _ h8) ?_)
  by_cases c5 : wriB l8 = true
  ·exact Ev.to (Ev.pos c5 (Ev.now _)) (yes (e.2 ⟨c1, c2, c3, c4, c5⟩))
  ·exact Ev.to (Ev.neg c5 (Ev.now _)) (no (fun h => c5 (e.1 h).2.2.2.2))
 refine Ev.neg n1 ?_
 by_cases n2 : a0 = 2
 ·refine Ev.pos n2 ?_
  have e : okF a0 a1 a2 a3 a4 a5 a6 l7 l8 lists text bare ↔ bare = true ∧ ¬ a1 = 0 := by unfold okF; rw [if_neg n1, if_pos n2]
  by_cases c1 : bare = true
  case neg => exact Ev.to (Ev.neg c1 (Ev.now _)) (no (fun h => c1 (e.1 h).1))
  refine Ev.pos c1 ?_
  by_cases c2 : a1 = 0
  ·exact Ev.to (Ev.pos c2 (Ev.now _)) (no (fun h => (e.1 h).2 c2))
  ·exact Ev.to (Ev.neg c2 (Ev.now _)) (yes (e.2 ⟨c1, c2⟩))
 refine Ev.neg n2 ?_
 by_cases n3 : a0 = 3
 ·refine Ev.pos n3 ?_
  have e : okF a0 a1 a2 a3 a4 a5 a6 l7 l8 lists text bare ↔ lists = true ∧ a3 = 0 ∧ a1 = 0 ∧ ¬ a2 = 0 ∧ keyB a4 = true ∧ a5.size ≤ 2052 ∧ (a6 = true → a5.toList = []) := by unfold okF; rw [if_neg n1, if_neg n2, if_pos n3]
  by_cases c1 : lists = true
  case neg => exact Ev.to (Ev.neg c1 (Ev.now _)) (no (fun h => c1 (e.1 h).1))
  refine Ev.pos c1 ?_
  by_cases c2 : a3 = 0
  case neg => exact Ev.to (Ev.neg c2 (Ev.now _)) (no (fun h => c2 (e.1 h).2.1))
  refine Ev.pos c2 ?_
  by_cases c3 : a1 = 0
  case neg => exact Ev.to (Ev.neg c3 (Ev.now _)) (no (fun h => c3 (e.1 h).2.2.1))
  refine Ev.pos c3 ?_
  by_cases c4 : a2 = 0
  ·exact Ev.to (Ev.pos c4 (Ev.now _)) (no (fun h => (e.1 h).2.2.2.1 c4))
  rw [rkey_eq]
  refine Ev.neg c4 (Ev.some_bind ?_)
  by_cases c5 : keyB a4 = true
  case neg => exact Ev.to (Ev.neg c5 (Ev.now _)) (no (fun h => c5 (e.1 h).2.2.2.2.1))
  refine Ev.pos c5 ?_
  by_cases c6 : a5.size ≤ 2052
  case neg => exact Ev.to (Ev.neg (by omega) (Ev.now _)) (no (fun h => c6 (e.1 h).2.2.2.2.2.1))
  refine Ev.pos (by omega) ?_
  by_cases c7 : a6 = true
  ·by_cases c8 : a5.toList = []
   ·exact Ev.to (Ev.pos c7 (Ev.pos c8 (Ev.now _))) (yes (e.2 ⟨c1, c2, c3, c4, c5, c6, fun _ => c8⟩))
   ·exact Ev.to (Ev.pos c7 (Ev.neg c8 (Ev.now _))) (no (fun h => c8 ((e.1 h).2.2.2.2.2.2 c7)))
  ·exact Ev.to (Ev.neg c7 (Ev.now _)) (yes (e.2 ⟨c1, c2, c3, c4, c5, c6, fun h => absurd h c7⟩))
 refine Ev.neg n3 ?_
 by_cases n4 : a0 = 4
 ·refine Ev.pos n4 ?_
  have e : okF a0 a1 a2 a3 a4 a5 a6 l7 l8 lists text bare ↔ bare = true ∧ a1 = 0 := by unfold okF; rw [if_neg n1, if_neg n2, if_neg n3, if_pos n4]
  by_cases c1 : bare = true
  case neg => exact Ev.to (Ev.neg c1 (Ev.now _)) (no (fun h => c1 (e.1 h).1))
  refine Ev.pos c1 ?_
  by_cases c2 : a1 = 0
  ·exact Ev.to (Ev.pos c2 (Ev.now _)) (yes (e.2 ⟨c1, c2⟩))
  ·exact Ev.to (Ev.neg c2 (Ev.now _)) (no (fun h => c2 (e.1 h).2))
 refine Ev.neg n4 ?_
 by_cases n5 : a0 = 5
 ·refine Ev.pos n5 ?_
  have e : okF a0 a1 a2 a3 a4 a5 a6 l7 l8 lists text bare ↔ bare = true ∧ ¬ a1 = 0 ∧ ¬ a2 = 0 := by unfold okF; rw [if_neg n1, if_neg n2, if_neg n3, if_neg n4, if_pos n5]
  by_cases c1 : bare = true
  case neg => exact Ev.to (Ev.neg c1 (Ev.now _)) (no (fun h => c1 (e.1 h).1))
  refine Ev.pos c1 ?_
  by_cases c2 : a1 = 0
  ·exact Ev.to (Ev.pos c2 (Ev.now _)) (no (fun h => (e.1 h).2.1 c2))
  refine Ev.neg c2 ?_
  by_cases c3 : a2 = 0
  ·exact Ev.to (Ev.pos c3 (Ev.now _)) (no (fun h => (e.1 h).2.2 c3))
  ·exact Ev.to (Ev.neg c3 (Ev.now _)) (yes (e.2 ⟨c1, c2, c3⟩))
 refine Ev.neg n5 ?_
 by_cases n6 : a0 = 6
 ·refine Ev.pos n6 ?_
  have e : okF a0 a1 a2 a3 a4 a5 a6 l7 l8 lists text bare ↔ bare = true ∧ ¬ a1 = 0 ∧ a2 = 0 := by unfold okF; rw [if_neg n1, if_neg n2, if_neg n3, if_neg n4, if_neg n5, if_pos n6]
  by_cases c1 : bare = true
  case neg => exact Ev.to (Ev.neg c1 (Ev.now _)) (no (fun h => c1 (e.1 h).1))
  refine Ev.pos c1 ?_
  by_cases c2 : a1 = 0
  ·exact Ev.to (Ev.pos c2 (Ev.now _)) (no (fun h => (e.1 h).2.1 c2))
  refine Ev.neg c2 ?_
  by_cases c3 : a2 = 0
  ·exact Ev.to (Ev.pos c3 (Ev.now _)) (yes (e.2 ⟨c1, c2, c3⟩))
  ·exact Ev.to (Ev.neg c3 (Ev.now _)) (no (fun h => c3 (e.1 h).2.2))
 refine Ev.neg n6 ?_
 by_cases n7 : a0 = 7
 ·refine Ev.pos n7 ?_
  have e : okF a0 a1 a2 a3 a4 a5 a6 l7 l8 lists text bare ↔ bare = true ∧ a1 = 0 ∧ ¬ a2 = 0 := by unfold okF; rw [if_neg n1, if_neg n2, if_neg n3, if_neg n4, if_neg n5, if_neg n6, if_pos n7]
  by_cases c1 : bare = true
  case neg => exact Ev.to (Ev.neg c1 (Ev.now _)) (no (fun h => c1 (e.1 h).1))
  refine Ev.pos c1 ?_
  by_cases c2 : a1 = 0
  case neg => exact Ev.to (Ev.neg c2 (Ev.now _)) (no (fun h => c2 (e.1 h).2.1))
  refine Ev.pos c2 ?_
  by_cases c3 : a2 = 0
  ·exact Ev.to (Ev.pos c3 (Ev.now _)) (no (fun h => (e.1 h).2.2 c3))
  ·exact Ev.to (Ev.neg c3 (Ev.now _)) (yes (e.2 ⟨c1, c2, c3⟩))
 ·exact Ev.to (Ev.neg n7 (Ev.now _)) (no (fun h => by unfold okF at h; rw [if_neg n1, if_neg n2, if_neg n3, if_neg n4, if_neg n5, if_neg n6, if_neg n7] at h; exact h))
include h7 h8 in
theorem j2_ev (lists text : Bool) : Ev (fun k => corncribref08_Check.j2 k lists text a0 a1 a2 a3 a4 a5 a6 l7 l8) (if okF a0 a1 a2 a3 a4 a5 a6 l7 l8 lists text (lists && (text && (a3 == 0))) then 0 else 80) := by
 refine Ev.succ ?_
 simp only [corncribref08_Check.j2]
 have h := fun b => j3_ev a0 a1 a2 a3 a4 a5 a6 l7 l8 h7 h8 lists text b
 cases lists with
 |false => exact Ev.neg (by decide) (h false)
 |true =>
  cases text with
  |false => exact Ev.pos rfl (Ev.neg (by decide) (h false))
  |true => exact Ev.pos rfl (Ev.pos rfl (h (a3 == 0)))
include h7 h8 in
theorem j1_ev (lists : Bool) : Ev (fun k => corncribref08_Check.j1 k lists a0 a1 a2 a3 a4 a5 a6 l7 l8) (if okF a0 a1 a2 a3 a4 a5 a6 l7 l8 lists (decide (bareT a4 a5 a6)) (lists && (decide (bareT a4 a5 a6) && (a3 == 0))) then 0 else 80) := by
 refine Ev.succ ?_
 simp only [corncribref08_Check.j1]
 have h := fun b => j2_ev a0 a1 a2 a3 a4 a5 a6 l7 l8 h7 h8 lists b
 by_cases c4 : a4.toList = []
 case neg => rw [decide_eq_false (fun hc : bareT a4 a5 a6 => c4 hc.1)]; exact Ev.neg c4 (h false)
 by_cases c5 : a5.toList = []
 case neg => rw [decide_eq_false (fun hc : bareT a4 a5 a6 => c5 hc.2.1)]; exact Ev.pos c4 (Ev.neg c5 (h false))
 have e : decide (bareT a4 a5 a6) = !a6 := by
  cases a6 with
  |true => exact decide_eq_false (fun hc : bareT a4 a5 true => by cases hc.2.2)
  |false => exact decide_eq_true (show bareT a4 a5 false from ⟨c4, c5, rfl⟩)
 rw [e]
 exact Ev.pos c4 (Ev.pos c5 (h _))
include h7 h8 in
theorem j0_ev (b : Bool) : Ev (fun k => corncribref08_Check.j0 k b a0 a1 a2 a3 a4 a5 a6 l7 l8) (if b = true then 80 else if okF a0 a1 a2 a3 a4 a5 a6 l7 l8 (noneB l7 l8) (decide (bareT a4 a5 a6)) (noneB l7 l8 && (decide (bareT a4 a5 a6) && (a3 == 0))) then 0 else 80) := by
 refine Ev.succ ?_
 simp only [corncribref08_Check.j0]
 cases b with
 |true => exact Ev.pos rfl (Ev.now _)
 |false =>
  refine Ev.neg (by decide) ?_
  have h := fun b => j1_ev a0 a1 a2 a3 a4 a5 a6 l7 l8 h7 h8 b
  by_cases c : l7.length = 0
  ·have e : noneB l7 l8 = ((l8.length : Int) == 0) := by unfold noneB; rw [c]; simp
   refine Ev.pos (by omega) ?_
   rw [← e]
   exact h _
  ·have e : noneB l7 l8 = false := by
    cases hn : noneB l7 l8 with
    |false => rfl
    |true => exact absurd ((none_iff ..).1 hn).1 c
   refine Ev.neg (by omega) ?_
   rw [e]
   exact h false
theorem okF_iff (hp : headP a1 a2 a3) : okF a0 a1 a2 a3 a4 a5 a6 l7 l8 (noneB l7 l8) (decide (bareT a4 a5 a6)) (noneB l7 l8 && (decide (bareT a4 a5 a6) && (a3 == 0))) ↔ okK a0 a1 a2 a3 a4 a5 a6 l7 l8 := by
 obtain ⟨p1, p2, p3, p4, p5, p6⟩ := hp
 have z1 : ¬ a1 = 0 ↔ 0 < a1 := by omega
 have z2 : ¬ a2 = 0 ↔ 0 < a2 := by omega
 unfold okF okK
 simp only [Bool.and_eq_true, decide_eq_true_eq, beq_iff_eq, none_iff, z1, z2]
 by_cases n1 : a0 = 1
 ·simp only [if_pos n1]
  constructor
  ·rintro ⟨h1, h2, h3, h4, h5⟩; exact ⟨⟨h3, h4, h5⟩, h2, h1⟩
  ·rintro ⟨⟨h3, h4, h5⟩, h2, h1⟩; exact ⟨h1, h2, h3, h4, h5⟩
 simp only [if_neg n1]
 by_cases n2 : a0 = 2
 ·simp only [if_pos n2]
  constructor
  ·rintro ⟨⟨h1, h2, h3⟩, h4⟩; exact ⟨h1, h4, h3, h2⟩
  ·rintro ⟨h1, h4, h3, h2⟩; exact ⟨⟨h1, h2, h3⟩, h4⟩
 simp only [if_neg n2]
 by_cases n3 : a0 = 3
 ·subst n3
  simp only [if_true, if_neg (show ¬ (3 : Int) = 5 by omega), if_neg (show ¬ (3 : Int) = 6 by omega)]
  constructor
  ·rintro ⟨h1, h2, h3, h4, h5, h6, h7⟩; exact ⟨h1, h4, h5, h6, h7, h3, h2⟩
  ·rintro ⟨h1, h4, h5, h6, h7, h3, h2⟩; exact ⟨h1, h2, h3, h4, h5, h6, h7⟩
 simp only [if_neg n3]
 by_cases n4 : a0 = 4
 ·subst n4
  simp only [if_true, if_neg (show ¬ (4 : Int) = 5 by omega), if_neg (show ¬ (4 : Int) = 6 by omega)]
  constructor
  ·rintro ⟨⟨h1, h2, h3⟩, h4⟩; exact ⟨h1, h4, h3, h2⟩
  ·rintro ⟨h1, h4, h3, h2⟩; exact ⟨⟨h1, h2, h3⟩, h4⟩
 simp only [if_neg n4]
 by_cases n5 : a0 = 5
 ·simp only [if_pos n5]
  constructor
  ·rintro ⟨⟨h1, h2, h3⟩, h4, h5⟩; exact ⟨h1, h4, h5, h3, h2⟩
  ·rintro ⟨h1, h4, h5, h3, h2⟩; exact ⟨⟨h1, h2, h3⟩, h4, h5⟩
 simp only [if_neg n5]
 by_cases n6 : a0 = 6
 ·simp only [if_pos n6]
  constructor
  ·rintro ⟨⟨h1, h2, h3⟩, h4, h5⟩; exact ⟨h1, h4, h5, h3, h2⟩
  ·rintro ⟨h1, h4, h5, h3, h2⟩; exact ⟨⟨h1, h2, h3⟩, h4, h5⟩
 simp only [if_neg n6]
 by_cases n7 : a0 = 7
 ·simp only [if_pos n7]
  constructor
  ·rintro ⟨⟨h1, h2, h3⟩, h4, h5⟩; exact ⟨h1, h5, h4, h3, h2⟩
  ·rintro ⟨h1, h5, h4, h3, h2⟩; exact ⟨⟨h1, h2, h3⟩, h4, h5⟩
 simp only [if_neg n7]
include h7 h8 in
theorem refcheck_ev : Ev (fun k => corncribref08_Check.f k a0 a1 a2 a3 a4 a5 a6 l7 l8) (if okR a0 a1 a2 a3 a4 a5 a6 l7 l8 then 0 else 80) := by
 unfold corncribref08_Check.f
 have h := fun b => j0_ev a0 a1 a2 a3 a4 a5 a6 l7 l8 h7 h8 b
 have bad : ¬ headP a1 a2 a3 → Ev (fun k => corncribref08_Check.j0 k true a0 a1 a2 a3 a4 a5 a6 l7 l8) (if okR a0 a1 a2 a3 a4 a5 a6 l7 l8 then 0 else 80) := fun hp => Ev.to (h true) ((if_pos rfl).trans (no (fun hc : okR a0 a1 a2 a3 a4 a5 a6 l7 l8 => hp hc.1)))
 have stamp : (0 ≤ a1 ∧ a1 ≤ 1125899906842623) → Ev (fun k => if decide (0 ≤ a2 ∧ a2 ≤ 1125899906842624) = true then (if a3 < 0 then (corncribref08_Check.j0 k true a0 a1 a2 a3 a4 a5 a6 l7 l8) else (corncribref08_Check.j0 k (decide (a3 ≥ 16)) a0 a1 a2 a3 a4 a5 a6 l7 l8)) else (corncribref08_Check.j0 k true a0 a1 a2 a3 a4 a5 a6 l7 l8)) (if okR a0 a1 a2 a3 a4 a5 a6 l7 l8 then 0 else 80) := fun ht => by
  by_cases c2 : 0 ≤ a2 ∧ a2 ≤ 1125899906842624
  case neg => exact Ev.neg (by simpa using c2) (bad (fun hp => c2 ⟨hp.2.2.1, hp.2.2.2.1⟩))
  refine Ev.pos (by simpa using c2) ?_
  by_cases c3 : a3 < 0
  ·exact Ev.pos c3 (bad (fun hp => by have := hp.2.2.2.2.1; omega))
  refine Ev.neg c3 ?_
  by_cases c4 : a3 ≥ 16
  ·rw [decide_eq_true c4]
   exact bad (fun hp => by have := hp.2.2.2.2.2; omega)
  ·rw [decide_eq_false c4]
   have hp : headP a1 a2 a3 := ⟨ht.1, ht.2, c2.1, c2.2, by omega, by omega⟩
   refine Ev.to (h false) ((if_neg (by decide)).trans ?_)
   by_cases k : okK a0 a1 a2 a3 a4 a5 a6 l7 l8
   ·exact (if_pos ((okF_iff a0 a1 a2 a3 a4 a5 a6 l7 l8 hp).2 k)).trans (yes (show okR a0 a1 a2 a3 a4 a5 a6 l7 l8 from ⟨hp, k⟩))
   ·exact (if_neg (fun hc => k ((okF_iff a0 a1 a2 a3 a4 a5 a6 l7 l8 hp).1 hc))).trans (no (fun hc : okR a0 a1 a2 a3 a4 a5 a6 l7 l8 => k hc.2))
 by_cases c1 : a1 = 0
 ·refine Ev.pos c1 ?_
  rw [stamp_eq]
  exact Ev.some_bind (stamp (by omega))
 ·refine Ev.neg c1 ?_
  rw [txn_eq]
  refine Ev.some_bind ?_
  by_cases ct : 1 ≤ a1 ∧ a1 ≤ 1125899906842623
  ·refine Ev.pos (by simpa using ct) ?_
   rw [stamp_eq]
   exact Ev.some_bind (stamp (by omega))
  ·exact Ev.neg (by simpa using ct) (bad (fun hp => ct ⟨by have := hp.1; omega, hp.2.1⟩))
end
end Go.Proofs.Ytbfjbcaabijpfaa.RecSpec

namespace Go.Proofs.Ytbfjbcaabijpfaa.PackFns
open Go.RowKit Go.Proofs.Ytbfjbcaabijpfaa.Base Go.Proofs.Ytbfjbcaabijpfaa.PackMath Go.Proofs.Ytbfjbcaabijpfaa.Al Go.Proofs.YtbfjbcaabijpfaaW.PrintWords
theorem rplain_l0 : ∀ (n : Nat) (xs : List Int), n < 9223372036854775808 → xs.length + (plain n).length ≤ 140737488355328 → Ev (fun k => corncribref06_Plain.l0 k (n : Int) xs) (strOfNums (xs ++ plain n)) := by
 intro n
 induction n using Nat.strongRecOn with
 |ind n ih =>
  intro xs hn hx
  by_cases h1 : n < 128
  ·rw [plain_small h1] at hx ⊢
   simp at hx
   refine Ev.step (fun k => by simp only [corncribref06_Plain.l0]; rw [if_neg (by omega), if_pos (by omega)]) ?_
   rw [show (n : Int) % 256 = n from by omega]
   exact Ev.now _
  ·rw [plain_big (by omega)] at hx ⊢
   simp at hx
   refine Ev.step (fun k => by simp only [corncribref06_Plain.l0]; rw [if_pos (by omega), if_pos (by omega)]) ?_
   have e : wrap64 ((Int.tmod (n : Int) 128) + 128) % 256 = ((n % 128 + 128 : Nat) : Int) := by
    rw [Int.tmod_eq_emod_of_nonneg (by omega), wrap_id (by omega) (by omega)]; omega
   rw [e, step_rest, wrap_id (by omega) (by omega)]
   have := ih (n / 128) (by omega) (xs ++ [((n % 128 + 128 : Nat) : Int)]) (by omega) (by simp; omega)
   simpa using this
theorem rplain_ev (n : Nat) (hn : n < 9223372036854775808) : Ev (fun k => corncribref06_Plain.f k (n : Int)) (strOfNums (plain n)) :=
 rplain_l0 n [] hn (by have := plain_len9 hn; simp; omega)
theorem rsigned_ev (n : Int) (h0 : -4611686018427387904 ≤ n) (h1 : n ≤ 4611686018427387903) : Ev (fun k => corncribref06_Signed.f k n) (strOfNums (signed n)) := by
 have hz := zig_lt h0 h1
 have hp := rplain_ev (zig n) hz
 unfold corncribref06_Signed.f
 by_cases hn : n < 0
 ·have e : wrap64 ((wrap64 ((-2) * (wrap64 (n + 1)))) + 1) = (zig n : Int) := by
   rw [wrap_id (n := n + 1) (by omega) (by omega), wrap_id (n := -2 * (n + 1)) (by omega) (by omega), wrap_id (by omega) (by omega)]
   unfold zig; rw [if_pos hn]; omega
  rw [e]
  exact Ev.pos hn (Ev.bind hp (Ev.now _))
 ·have e : wrap64 (2 * n) = (zig n : Int) := by
   rw [wrap_id (by omega) (by omega)]
   unfold zig; rw [if_neg hn]; omega
  rw [e]
  exact Ev.neg hn (Ev.bind hp (Ev.now _))
theorem strOfNums_append (a b : List Int) : strOfNums (a ++ b) = strOfNums a ++ strOfNums b := B_inj (by rw [B_append, B_nums, B_nums, B_nums, List.map_append])
theorem strOfNums_bytesOf (s : ByteArray) : strOfNums (bytesOf s) = s := by
 apply B_inj
 rw [B_nums]
 unfold bytesOf B
 rw [List.map_map]
 conv => rhs; rw [← List.map_id s.data.toList]
 apply List.map_congr_left
 intro b _
 simp
theorem renc_l1 (nums : List Int) (texts : List ByteArray) (ht : texts.length ≤ 1024) (hs : ∀ s ∈ texts, s.size ≤ 4096) : ∀ (d i : Nat) (acc : ByteArray), i + d = texts.length → acc.size + 4105 * d ≤ 100000000 →
  Ev (fun k => corncribref06_Bytes.l1 k acc (i : Int) nums texts) (acc ++ strOfNums (tails (texts.drop i)))
 |0, i, acc, h, hx => by
  rw [List.drop_of_length_le (by omega)]
  refine Ev.step (fun k => by simp only [corncribref06_Bytes.l1]; rw [if_neg (by omega)]) ?_
  have : acc ++ strOfNums (tails []) = acc := B_inj (by rw [B_append, B_nums]; simp [tails])
  rw [this]
  exact Ev.now _
 |d + 1, i, acc, h, hx => by
  have hi : i < texts.length := by omega
  have e : wrap64 ((i : Int) + 1) = ((i + 1 : Nat) : Int) := by rw [wrap_id (by omega) (by omega)]; omega
  have hr : rdOf ByteArray.empty texts (i : Int) = texts[i] := by simp [rdOf, List.getD_eq_getElem?_getD, hi]
  have hz := hs _ (List.getElem_mem hi)
  have hp : (plain texts[i].size).length ≤ 9 := plain_len9 (by omega)
  have sz := strOfNums_size (plain texts[i].size)
  have sz2 : (strOfNums (plain texts[i].size) ++ texts[i]).size = (strOfNums (plain texts[i].size)).size + texts[i].size := ByteArray.size_append
  have ih := renc_l1 nums texts ht hs d (i + 1) (acc ++ (strOfNums (plain texts[i].size) ++ texts[i])) (by omega) (by rw [ByteArray.size_append]; omega)
  rw [List.drop_eq_getElem_cons hi]
  have et : tails (texts[i] :: texts.drop (i + 1)) = plain texts[i].size ++ bytesOf texts[i] ++ tails (texts.drop (i + 1)) := rfl
  have ee : acc ++ strOfNums (tails (texts[i] :: texts.drop (i + 1))) = acc ++ (strOfNums (plain texts[i].size) ++ texts[i]) ++ strOfNums (tails (texts.drop (i + 1))) := by
   rw [et, strOfNums_append, strOfNums_append, strOfNums_bytesOf]
   apply B_inj
   simp only [B_append, List.append_assoc]
  rw [ee]
  refine Ev.step (fun k => by simp only [corncribref06_Bytes.l1]; rw [if_pos (by omega), if_pos (by omega), hr, e]) ?_
  exact Ev.bind (rplain_ev texts[i].size (by omega)) (Ev.pos (by omega) (Ev.pos (by omega) ih))
theorem renc_l0 (nums : List Int) (texts : List ByteArray) (hn : nums.length ≤ 1024) (ht : texts.length ≤ 1024) (hm : ∀ n ∈ nums, -4611686018427387904 ≤ n ∧ n ≤ 4611686018427387903) (hs : ∀ s ∈ texts, s.size ≤ 4096) : ∀ (d i : Nat) (acc : ByteArray), i + d = nums.length → acc.size + 9 * d ≤ 10000000 →
  Ev (fun k => corncribref06_Bytes.l0 k acc (i : Int) nums texts) (acc ++ strOfNums (body (nums.drop i) ++ plain texts.length ++ tails texts))
 |0, i, acc, h, hx => by
  rw [List.drop_of_length_le (by omega)]
  have hp : (plain texts.length).length ≤ 9 := plain_len9 (by omega)
  have sz := strOfNums_size (plain texts.length)
  refine Ev.step (fun k => by simp only [corncribref06_Bytes.l0]; rw [if_neg (by omega)]) ?_
  refine Ev.bind (rplain_ev texts.length (by omega)) (Ev.pos (by omega) ?_)
  have := renc_l1 nums texts ht hs texts.length 0 (acc ++ strOfNums (plain texts.length)) (by omega) (by rw [ByteArray.size_append]; omega)
  have ee : acc ++ strOfNums (body [] ++ plain texts.length ++ tails texts) = acc ++ strOfNums (plain texts.length) ++ strOfNums (tails (texts.drop 0)) := by
   rw [strOfNums_append, List.drop_zero]
   apply B_inj
   simp [B_append, body]
  rw [ee]
  exact this
 |d + 1, i, acc, h, hx => by
  have hi : i < nums.length := by omega
  have e : wrap64 ((i : Int) + 1) = ((i + 1 : Nat) : Int) := by rw [wrap_id (by omega) (by omega)]; omega
  have hr : rd nums (i : Int) = nums[i] := by simp [rd, List.getD_eq_getElem?_getD, hi]
  have hz := hm _ (List.getElem_mem hi)
  have hp : (signed nums[i]).length ≤ 9 := plain_len9 (zig_lt hz.1 hz.2)
  have sz := strOfNums_size (signed nums[i])
  have ih := renc_l0 nums texts hn ht hm hs d (i + 1) (acc ++ strOfNums (signed nums[i])) (by omega) (by rw [ByteArray.size_append]; omega)
  rw [List.drop_eq_getElem_cons hi]
  have et : body (nums[i] :: nums.drop (i + 1)) = signed nums[i] ++ body (nums.drop (i + 1)) := rfl
  have ee : acc ++ strOfNums (body (nums[i] :: nums.drop (i + 1)) ++ plain texts.length ++ tails texts) = acc ++ strOfNums (signed nums[i]) ++ strOfNums (body (nums.drop (i + 1)) ++ plain texts.length ++ tails texts) := by
   rw [et, List.append_assoc, List.append_assoc, strOfNums_append, List.append_assoc]
   apply B_inj
   simp only [B_append, List.append_assoc]
  rw [ee]
  refine Ev.step (fun k => by simp only [corncribref06_Bytes.l0]; rw [if_pos (by omega), if_pos (by omega), hr, e]) ?_
  exact Ev.bind (rsigned_ev nums[i] hz.1 hz.2) (Ev.pos (by omega) ih)
theorem rbytes_ev (nums : List Int) (texts : List ByteArray) (h : chk nums texts = 0) : Ev (fun k => corncribref06_Bytes.f k nums texts) (strOfNums (enc nums texts)) := by
 obtain ⟨h1, h2, h3, h4⟩ := chk_ok h
 have hp : (plain nums.length).length ≤ 9 := plain_len9 (by omega)
 have sz := strOfNums_size (plain nums.length)
 unfold corncribref06_Bytes.f
 refine Ev.bind (rplain_ev nums.length (by omega)) ?_
 have := renc_l0 nums texts h1 h2 h3 h4 nums.length 0 (strOfNums (plain nums.length)) (by omega) (by omega)
 rw [List.drop_zero, ← strOfNums_append] at this
 simpa [enc] using this
end Go.Proofs.Ytbfjbcaabijpfaa.PackFns

namespace Go.Proofs.Ytbfjbcaabijpfaa.Al
open Go.RowKit Go.Proofs.YtbfjbcaabijpfaaW.PrintWords Go.Proofs.YtbfjbcaabijpfaaW.PrintLast Go.Proofs.YtbfjbcaabijpfaaW.PrintMore
attribute [local go_sem] max2_int min2_int max_two min_two max_three min_three max_four min_four   -- for this text's walks alone
set_option linter.unusedVariables false
set_option linter.unusedSimpArgs false
attribute [local go_sem high] eqA50
def corncribref08_Encode.f (k : Nat) (a0_0 : Int) (a0_1 : Int) (a0_2 : Int) (a0_3 : Int) (a0_4 : ByteArray) (a0_5 : ByteArray) (a0_6 : Bool) (l0_7 : List ByteArray) (l0_8 : List (S50)) : Option (ByteArray × Int) := (corncribref08_Check.f k a0_0 a0_1 a0_2 a0_3 a0_4 a0_5 a0_6 l0_7 l0_8).bind fun t232 => (if t232 = 0 then ((corncribref08_Bytes.f k a0_0 a0_1 a0_2 a0_3 a0_4 a0_5 a0_6 l0_7 l0_8).bind fun t233 => (some (t233, 0))) else (some ((⟨#[]⟩ : ByteArray), t232)))
end Go.Proofs.Ytbfjbcaabijpfaa.Al

namespace Go.Proofs.Ytbfjbcaabijpfaa.RecSpec
open Go.RowKit Go.Proofs.Ytbfjbcaabijpfaa.Base Go.Proofs.Ytbfjbcaabijpfaa.PackMath Go.Proofs.Ytbfjbcaabijpfaa.PackFns Go.Proofs.Ytbfjbcaabijpfaa.LetSpec Go.Proofs.Ytbfjbcaabijpfaa.Al Go.Proofs.YtbfjbcaabijpfaaW.PrintWords
section
variable (a0 a1 a2 a3 : Int) (a4 a5 : ByteArray) (a6 : Bool) (l7 : List ByteArray) (l8 : List S50) (h7 : l7.length ≤ 8796093022000) (h8 : l8.length ≤ 8796093022000)
theorem one_eq (b : Bool) : corncribref07_One.f b = some (oneI b) := by cases b <;> rfl
theorem rbytes_l0 (hc : chk (recN a0 a1 a2 a3 a6 l7 l8) (recT a4 a5 l7 l8) = 0) (h8 : l8.length ≤ 16) (h7 : l7.length ≤ 16) : ∀ (d i : Nat), i + d = l8.length →
  Ev (fun k => corncribref08_Bytes.l0 k (i : Int) a0 a1 a2 a3 a4 a5 a6 l7 l8 ([a0, a1, a2, a3, oneI a6, (l7.length : Int)] ++ flagsOf (l8.take i)) ([a4, a5] ++ l7 ++ pairsOf (l8.take i))) (strOfNums (enc (recN a0 a1 a2 a3 a6 l7 l8) (recT a4 a5 l7 l8)))
 |0, i, h => by
  refine LetSpec.Ev.succ ?_
  simp only [corncribref08_Bytes.l0]
  rw [List.take_of_length_le (by omega)]
  exact Ev.neg (by omega) (Ev.bind (rbytes_ev _ _ hc) (Ev.now _))
 |d + 1, i, h => by
  have hi : i < l8.length := by omega
  have ih := rbytes_l0 hc h8 h7 d (i + 1) (by omega)
  have e : wrap64 ((i : Int) + 1) = ((i + 1 : Nat) : Int) := by rw [wrap_id (by omega) (by omega)]; omega
  rw [flags_step hi, pairs_step hi] at ih
  refine LetSpec.Ev.succ ?_
  simp only [corncribref08_Bytes.l0]
  rw [e, rdT_get hi, one_eq]
  refine Ev.pos (by omega) (Ev.pos (by omega) (Ev.some_bind (Ev.pos ?_ (Ev.pos ?_ (Ev.some_bind (Ev.pos ?_ ?_))))))
  ·simp only [List.length_append, flags_len, List.length_cons, List.length_nil, List.length_take]; omega
  ·simp only [List.length_append, pairs_len, List.length_cons, List.length_nil, List.length_take]; omega
  ·simp only [List.length_append, pairs_len, List.length_cons, List.length_nil, List.length_take]; omega
  ·simpa only [List.append_assoc, List.cons_append, List.nil_append] using ih
include h7 h8 in
theorem rencodeR_ev : Ev (fun k => corncribref08_Encode.f k a0 a1 a2 a3 a4 a5 a6 l7 l8) (encR a0 a1 a2 a3 a4 a5 a6 l7 l8) := by
 unfold corncribref08_Encode.f encR
 refine Ev.bind (refcheck_ev _ _ _ _ _ _ _ _ _ h7 h8) ?_
 by_cases h : okR a0 a1 a2 a3 a4 a5 a6 l7 l8
 ·rw [if_pos h, if_pos h]
  have hb := ok_bounds _ _ _ _ _ _ _ _ _ h
  have h1 := hb.b7.1
  have hl := rbytes_l0 a0 a1 a2 a3 a4 a5 a6 l7 l8 (rec_chk _ _ _ _ _ _ _ _ _ h) hb.b8.1 h1 l8.length 0 (by omega)
  refine Ev.pos rfl (Ev.bind ?_ (Ev.now _))
  unfold corncribref08_Bytes.f
  rw [one_eq]
  refine Ev.some_bind (Ev.some_bind (Ev.pos (by simp only [List.length_cons, List.length_nil]; omega) ?_))
  simpa [flagsOf, pairsOf] using hl
 ·rw [if_neg h, if_neg h]
  exact Ev.neg (by decide) (Ev.now _)
end
end Go.Proofs.Ytbfjbcaabijpfaa.RecSpec

namespace Go.Proofs.Ytbfjbcaabijpfaa.LetSpec
open Go.RowKit Go.Proofs.Ytbfjbcaabijpfaa.Base Go.Proofs.Ytbfjbcaabijpfaa.Al Go.Proofs.YtbfjbcaabijpfaaW.PrintWords
theorem sameT_l0 (l : List ByteArray) (hl : l.length ≤ 4611686018427387904) : ∀ (d i : Nat), i + d = l.length → Ev (fun k => corncribbook_SameTexts.l0 k l l (i : Int)) true
 |0, i, h => Ev.step (f := fun _ => some true) (fun k => by simp only [corncribbook_SameTexts.l0]; rw [if_neg (by omega)]) (Ev.now _)
 |d + 1, i, h => by
  have ih := sameT_l0 l hl d (i + 1) (by omega)
  have e : wrap64 ((i : Int) + 1) = ((i + 1 : Nat) : Int) := by rw [wrap_id (by omega) (by omega)]; omega
  refine Ev.step (fun k => ?_) ih
  simp only [corncribbook_SameTexts.l0]
  rw [if_pos (by omega), if_pos (by omega), if_pos (by omega), if_pos trivial, e]
theorem sameT_ev (l : List ByteArray) (hl : l.length ≤ 4611686018427387904) : Ev (fun k => corncribbook_SameTexts.f k l l) true := by
 unfold corncribbook_SameTexts.f
 exact Ev.pos rfl (sameT_l0 l hl l.length 0 (by omega))
end Go.Proofs.Ytbfjbcaabijpfaa.LetSpec

namespace Go.Proofs.Ytbfjbcaabijpfaa.RecSpec
open Go.RowKit Go.Proofs.Ytbfjbcaabijpfaa.LetSpec Go.Proofs.Ytbfjbcaabijpfaa.Base Go.Proofs.Ytbfjbcaabijpfaa.Al Go.Proofs.YtbfjbcaabijpfaaW.PrintWords
theorem sameW_l0 (l : List S50) (hl : l.length ≤ 4611686018427387904) : ∀ (d i : Nat), i + d = l.length → Ev (fun k => corncribbook_SameWrites.l0 k l l (i : Int)) true
 |0, i, h => Ev.step (f := fun _ => some true) (fun k => by simp only [corncribbook_SameWrites.l0]; rw [if_neg (by omega)]) (Ev.now _)
 |d + 1, i, h => by
  have ih := sameW_l0 l hl d (i + 1) (by omega)
  have e : wrap64 ((i : Int) + 1) = ((i + 1 : Nat) : Int) := by rw [wrap_id (by omega) (by omega)]; omega
  refine Ev.step (fun k => ?_) ih
  simp only [corncribbook_SameWrites.l0]
  rw [if_pos (by omega), if_pos (by omega), if_pos (by omega), if_neg (by simp), e]
theorem sameW_ev (l : List S50) (hl : l.length ≤ 4611686018427387904) : Ev (fun k => corncribbook_SameWrites.f k l l) true := by
 unfold corncribbook_SameWrites.f
 exact Ev.pos rfl (sameW_l0 l hl l.length 0 (by omega))
theorem sameR_ev (x0 x1 x2 x3 : Int) (x4 x5 : ByteArray) (x6 : Bool) (x7 : List ByteArray) (x8 : List S50) (h7 : x7.length ≤ 4611686018427387904) (h8 : x8.length ≤ 4611686018427387904) : Ev (fun k => corncribbook_SameRecord.f k x0 x1 x2 x3 x4 x5 x6 x7 x8 x0 x1 x2 x3 x4 x5 x6 x7 x8) true := by
 unfold corncribbook_SameRecord.f
 exact Ev.pos rfl (Ev.pos rfl (Ev.pos rfl (Ev.pos rfl (Ev.pos rfl (Ev.pos rfl (Ev.pos (beq_self_eq_true x6) (Ev.bind (sameT_ev x7 h7) (Ev.pos rfl (Ev.bind (sameW_ev x8 h8) (Ev.now _))))))))))
end Go.Proofs.Ytbfjbcaabijpfaa.RecSpec

namespace Go.Proofs.Ytbfjbcaabijpfaa.Open
open Go.RowKit Go.Proofs.YtbfjbcaabijpfaaW.PrintWords
/-- Whatever reads as data of type t is told by d: V always, L where each string and slice is within the reach, m is within the bulk. -/
structure Opens {α : Type} (P : Program) (t : TypeId) (d : Kd α) (V L : α → Prop) (m : α → Nat) : Prop where
 out : ∀ {H : Type} {enc : TypeId × Value → H} {w : World} {base : Nat} {spare : Nat → Bool} {held : Bool} {fuel : Nat} {cs : List Value} {x : DataW H × List MemPlace}, DataW.trod enc P w base spare held fuel t cs = some x →
  ∃ a : α, d.K w a cs ∧ V a ∧ ((DataW.weights P t x.1).all (· ≤ reachBytes) = true → L a) ∧ m a ≤ Rows.uptoBulk x.1
theorem opens_string {P : Program} {t : TypeId} (ht : P.underlying t = some .string) : Opens P t Kd.string (fun s => s.size ≤ maxLen) (fun s => s.size ≤ 140737488351232) (fun s => s.size + 1) where
 out h := by
  obtain ⟨s, rfl, rfl, hw⟩ := DataW.trod_string ht h
  refine ⟨s, rfl, hw, fun hx => ?_, ?_⟩
  ·simp only [DataW.weights, List.all_cons, List.all_nil, Bool.and_true, decide_eq_true_eq, data_length] at hx
   exact hx
  ·simp [Rows.uptoBulk]
theorem add_add (a : Addr) (m j : Nat) : (a.add m).add j = a.add (m + j) := by
 unfold Addr.add
 by_cases hm : m = 0 <;> by_cases hj : j = 0 <;> simp [hm, hj, Nat.add_assoc]
theorem all_append {l r : List Nat} {p : Nat → Bool} : (l ++ r).all p = true ↔ l.all p = true ∧ r.all p = true := by rw [List.all_append, Bool.and_eq_true]
end Go.Proofs.Ytbfjbcaabijpfaa.Open
