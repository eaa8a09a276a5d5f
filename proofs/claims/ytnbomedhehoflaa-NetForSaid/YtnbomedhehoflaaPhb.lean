/- What the laws stand on, in one text: functions of the program by their contracts, the plain mathematics behind them, and such of the printed words as these use. It began as the kit's print and own texts; put together by a program (trim.py). -/
import Derived.Test.YtnbomedhehoflaaPha
import Derived.Laws.IdiomCopy
import Derived.Test.YtnbomedhehoflaaRows
import Derived.ChangeArms
import Derived.ChangeShapes
import Derived.SizedLaws

namespace Go.Proofs.Ytnbomedhehoflaa.Al
open Go.RowKit Go.Proofs.Ytnbomedhehoflaa.Base Go.Proofs.Ytnbomedhehoflaa.LetSpec Go.Proofs.YtnbomedhehoflaaW.PrintWords Go.Proofs.YtnbomedhehoflaaW.PrintLast Go.Proofs.YtnbomedhehoflaaW.PrintMore
set_option linter.unusedVariables false
set_option linter.unusedSimpArgs false
def letter_Check.f (a0_0 : Int) (a0_1 : Int) (a0_2 : Int) (a0_3 : Int) (a0_4 : Int) (a0_5 : Int) (a0_6 : ByteArray) (l0_7 : List ByteArray) (l0_8 : List (S72)) : Option Int := if l0_7.length ≤ 8796093022000 ∧ l0_8.length ≤ 8796093022000 then some (chkL a0_0 a0_1 a0_2 a0_3 a0_4 a0_5 a0_6 l0_7 l0_8) else none
theorem add_zero_ (a : Addr) : a.add 0 = a := by unfold Addr.add; simp
section
variable (a0_0 : Int) (a0_1 : Int) (a0_2 : Int) (a0_3 : Int) (a0_4 : Int) (a0_5 : Int) (a0_6 : ByteArray) (A0_7 : Option Addr) (c0_7 : Nat) (l0_7 : List ByteArray) (A0_8 : Option Addr) (c0_8 : Nat) (l0_8 : List (S72)) (w : World)
set_option maxHeartbeats 8000000 in
set_option maxRecDepth 100000 in
theorem check_bad0  (g0 : ¬ (addrB a0_1 = true)) :
  Calls Try.prog 23 #[.agg #[.int .i64 a0_0, .int .i64 a0_1, .int .i64 a0_2, .int .i64 a0_3, .int .i64 a0_4, .int .i64 a0_5, .string a0_6, .slice A0_7 l0_7.length c0_7, .slice A0_8 l0_8.length c0_8]] w fun e w' => e = .returned (.int .i64 70) ∧ Below w.heap.size w w' := by
 have hu32 := Try.underlying32
 have d0 : addrB a0_1 = false := by simpa using g0
 clear g0
 go_enter Try.func23, Try.ntmps23
 go_wp2_with (first | ((with_reducible refine gate_dst (N := 1) rfl ?_); refine box_event ?hg (N := 1) ?hd (cs := #[.int .i64 a0_0, .int .i64 a0_1, .int .i64 a0_2, .int .i64 a0_3, .int .i64 a0_4, .int .i64 a0_5, .string a0_6, .slice A0_7 l0_7.length c0_7, .slice A0_8 l0_8.length c0_8]) (t := 32) ?hr ?_; (case hd => rfl); (case hg => rfl); (case hr => first | (go_simp; done) | (go_simp; rfl)); intro gl hgl w1 hbox hb; have HB := Aside0.mk hb; have BL := Aside0.mk hbox; clear hgl hb hbox; have hcz_0 : w1.cell? ⟨gl, 0, none⟩ = some (.int .i64 a0_0) := (blk_cell BL.out 0).trans rfl; have hcz_1 : w1.cell? ⟨gl, 1, none⟩ = some (.int .i64 a0_1) := (blk_cell BL.out 1).trans rfl; have hcz_2 : w1.cell? ⟨gl, 2, none⟩ = some (.int .i64 a0_2) := (blk_cell BL.out 2).trans rfl; have hcz_3 : w1.cell? ⟨gl, 3, none⟩ = some (.int .i64 a0_3) := (blk_cell BL.out 3).trans rfl; have hcz_4 : w1.cell? ⟨gl, 4, none⟩ = some (.int .i64 a0_4) := (blk_cell BL.out 4).trans rfl; have hcz_5 : w1.cell? ⟨gl, 5, none⟩ = some (.int .i64 a0_5) := (blk_cell BL.out 5).trans rfl; have hcz_6 : w1.cell? ⟨gl, 6, none⟩ = some (.string a0_6) := (blk_cell BL.out 6).trans rfl; have hcz_7 : w1.cell? ⟨gl, 7, none⟩ = some (.slice A0_7 l0_7.length c0_7) := (blk_cell BL.out 7).trans rfl; have hcz_8 : w1.cell? ⟨gl, 8, none⟩ = some (.slice A0_8 l0_8.length c0_8) := (blk_cell BL.out 8).trans rfl) | (go_at_call 41; refine (address_calls _ _).mono ?_; rintro e w' ⟨rfl, nd, rfl⟩; (try first | exact ⟨rfl, _, World.drewN_drewN _ _ _⟩)))
 go_ret
 exact ⟨rfl, by repeat (first | exact HB.out | refine pw_below_drewN ?_ _)⟩
set_option maxHeartbeats 8000000 in
set_option maxRecDepth 100000 in
theorem check_bad1 (g0 : addrB a0_1 = true) (g1 : ¬ (addrB a0_2 = true)) :
  Calls Try.prog 23 #[.agg #[.int .i64 a0_0, .int .i64 a0_1, .int .i64 a0_2, .int .i64 a0_3, .int .i64 a0_4, .int .i64 a0_5, .string a0_6, .slice A0_7 l0_7.length c0_7, .slice A0_8 l0_8.length c0_8]] w fun e w' => e = .returned (.int .i64 70) ∧ Below w.heap.size w w' := by
 have hu32 := Try.underlying32
 have d0 : addrB a0_1 = true := g0
 have d1 : addrB a0_2 = false := by simpa using g1
 clear g0 g1
 go_enter Try.func23, Try.ntmps23
 go_wp2_with (first | ((with_reducible refine gate_dst (N := 1) rfl ?_); refine box_event ?hg (N := 1) ?hd (cs := #[.int .i64 a0_0, .int .i64 a0_1, .int .i64 a0_2, .int .i64 a0_3, .int .i64 a0_4, .int .i64 a0_5, .string a0_6, .slice A0_7 l0_7.length c0_7, .slice A0_8 l0_8.length c0_8]) (t := 32) ?hr ?_; (case hd => rfl); (case hg => rfl); (case hr => first | (go_simp; done) | (go_simp; rfl)); intro gl hgl w1 hbox hb; have HB := Aside0.mk hb; have BL := Aside0.mk hbox; clear hgl hb hbox; have hcz_0 : w1.cell? ⟨gl, 0, none⟩ = some (.int .i64 a0_0) := (blk_cell BL.out 0).trans rfl; have hcz_1 : w1.cell? ⟨gl, 1, none⟩ = some (.int .i64 a0_1) := (blk_cell BL.out 1).trans rfl; have hcz_2 : w1.cell? ⟨gl, 2, none⟩ = some (.int .i64 a0_2) := (blk_cell BL.out 2).trans rfl; have hcz_3 : w1.cell? ⟨gl, 3, none⟩ = some (.int .i64 a0_3) := (blk_cell BL.out 3).trans rfl; have hcz_4 : w1.cell? ⟨gl, 4, none⟩ = some (.int .i64 a0_4) := (blk_cell BL.out 4).trans rfl; have hcz_5 : w1.cell? ⟨gl, 5, none⟩ = some (.int .i64 a0_5) := (blk_cell BL.out 5).trans rfl; have hcz_6 : w1.cell? ⟨gl, 6, none⟩ = some (.string a0_6) := (blk_cell BL.out 6).trans rfl; have hcz_7 : w1.cell? ⟨gl, 7, none⟩ = some (.slice A0_7 l0_7.length c0_7) := (blk_cell BL.out 7).trans rfl; have hcz_8 : w1.cell? ⟨gl, 8, none⟩ = some (.slice A0_8 l0_8.length c0_8) := (blk_cell BL.out 8).trans rfl) | (go_at_call 41; refine (address_calls _ _).mono ?_; rintro e w' ⟨rfl, nd, rfl⟩; (try first | exact ⟨rfl, _, World.drewN_drewN _ _ _⟩)))
 go_ret
 exact ⟨rfl, by repeat (first | exact HB.out | refine pw_below_drewN ?_ _)⟩
set_option maxHeartbeats 8000000 in
set_option maxRecDepth 100000 in
theorem check_bad2 (g0 : addrB a0_1 = true) (g1 : addrB a0_2 = true) (g2 : ¬ (1 ≤ a0_3)) :
  Calls Try.prog 23 #[.agg #[.int .i64 a0_0, .int .i64 a0_1, .int .i64 a0_2, .int .i64 a0_3, .int .i64 a0_4, .int .i64 a0_5, .string a0_6, .slice A0_7 l0_7.length c0_7, .slice A0_8 l0_8.length c0_8]] w fun e w' => e = .returned (.int .i64 70) ∧ Below w.heap.size w w' := by
 have hu32 := Try.underlying32
 have d0 : addrB a0_1 = true := g0
 have d1 : addrB a0_2 = true := g1
 have d2 : decide (a0_3 < 1) = true := decide_eq_true (by omega)
 clear g0 g1 g2
 go_enter Try.func23, Try.ntmps23
 go_wp2_with (first | ((with_reducible refine gate_dst (N := 1) rfl ?_); refine box_event ?hg (N := 1) ?hd (cs := #[.int .i64 a0_0, .int .i64 a0_1, .int .i64 a0_2, .int .i64 a0_3, .int .i64 a0_4, .int .i64 a0_5, .string a0_6, .slice A0_7 l0_7.length c0_7, .slice A0_8 l0_8.length c0_8]) (t := 32) ?hr ?_; (case hd => rfl); (case hg => rfl); (case hr => first | (go_simp; done) | (go_simp; rfl)); intro gl hgl w1 hbox hb; have HB := Aside0.mk hb; have BL := Aside0.mk hbox; clear hgl hb hbox; have hcz_0 : w1.cell? ⟨gl, 0, none⟩ = some (.int .i64 a0_0) := (blk_cell BL.out 0).trans rfl; have hcz_1 : w1.cell? ⟨gl, 1, none⟩ = some (.int .i64 a0_1) := (blk_cell BL.out 1).trans rfl; have hcz_2 : w1.cell? ⟨gl, 2, none⟩ = some (.int .i64 a0_2) := (blk_cell BL.out 2).trans rfl; have hcz_3 : w1.cell? ⟨gl, 3, none⟩ = some (.int .i64 a0_3) := (blk_cell BL.out 3).trans rfl; have hcz_4 : w1.cell? ⟨gl, 4, none⟩ = some (.int .i64 a0_4) := (blk_cell BL.out 4).trans rfl; have hcz_5 : w1.cell? ⟨gl, 5, none⟩ = some (.int .i64 a0_5) := (blk_cell BL.out 5).trans rfl; have hcz_6 : w1.cell? ⟨gl, 6, none⟩ = some (.string a0_6) := (blk_cell BL.out 6).trans rfl; have hcz_7 : w1.cell? ⟨gl, 7, none⟩ = some (.slice A0_7 l0_7.length c0_7) := (blk_cell BL.out 7).trans rfl; have hcz_8 : w1.cell? ⟨gl, 8, none⟩ = some (.slice A0_8 l0_8.length c0_8) := (blk_cell BL.out 8).trans rfl) | (go_at_call 41; refine (address_calls _ _).mono ?_; rintro e w' ⟨rfl, nd, rfl⟩; (try first | exact ⟨rfl, _, World.drewN_drewN _ _ _⟩)))
 go_ret
 exact ⟨rfl, by repeat (first | exact HB.out | refine pw_below_drewN ?_ _)⟩
set_option maxHeartbeats 8000000 in
set_option maxRecDepth 100000 in
theorem check_bad3 (g0 : addrB a0_1 = true) (g1 : addrB a0_2 = true) (g2 : 1 ≤ a0_3) (g3 : ¬ (a0_3 ≤ 1125899906842623)) :
  Calls Try.prog 23 #[.agg #[.int .i64 a0_0, .int .i64 a0_1, .int .i64 a0_2, .int .i64 a0_3, .int .i64 a0_4, .int .i64 a0_5, .string a0_6, .slice A0_7 l0_7.length c0_7, .slice A0_8 l0_8.length c0_8]] w fun e w' => e = .returned (.int .i64 70) ∧ Below w.heap.size w w' := by
 have hu32 := Try.underlying32
 have d0 : addrB a0_1 = true := g0
 have d1 : addrB a0_2 = true := g1
 have d2 : decide (a0_3 < 1) = false := decide_eq_false (by omega)
 have d3 : decide (1125899906842623 < a0_3) = true := decide_eq_true (by omega)
 clear g0 g1 g2 g3
 go_enter Try.func23, Try.ntmps23
 go_wp2_with (first | ((with_reducible refine gate_dst (N := 1) rfl ?_); refine box_event ?hg (N := 1) ?hd (cs := #[.int .i64 a0_0, .int .i64 a0_1, .int .i64 a0_2, .int .i64 a0_3, .int .i64 a0_4, .int .i64 a0_5, .string a0_6, .slice A0_7 l0_7.length c0_7, .slice A0_8 l0_8.length c0_8]) (t := 32) ?hr ?_; (case hd => rfl); (case hg => rfl); (case hr => first | (go_simp; done) | (go_simp; rfl)); intro gl hgl w1 hbox hb; have HB := Aside0.mk hb; have BL := Aside0.mk hbox; clear hgl hb hbox; have hcz_0 : w1.cell? ⟨gl, 0, none⟩ = some (.int .i64 a0_0) := (blk_cell BL.out 0).trans rfl; have hcz_1 : w1.cell? ⟨gl, 1, none⟩ = some (.int .i64 a0_1) := (blk_cell BL.out 1).trans rfl; have hcz_2 : w1.cell? ⟨gl, 2, none⟩ = some (.int .i64 a0_2) := (blk_cell BL.out 2).trans rfl; have hcz_3 : w1.cell? ⟨gl, 3, none⟩ = some (.int .i64 a0_3) := (blk_cell BL.out 3).trans rfl; have hcz_4 : w1.cell? ⟨gl, 4, none⟩ = some (.int .i64 a0_4) := (blk_cell BL.out 4).trans rfl; have hcz_5 : w1.cell? ⟨gl, 5, none⟩ = some (.int .i64 a0_5) := (blk_cell BL.out 5).trans rfl; have hcz_6 : w1.cell? ⟨gl, 6, none⟩ = some (.string a0_6) := (blk_cell BL.out 6).trans rfl; have hcz_7 : w1.cell? ⟨gl, 7, none⟩ = some (.slice A0_7 l0_7.length c0_7) := (blk_cell BL.out 7).trans rfl; have hcz_8 : w1.cell? ⟨gl, 8, none⟩ = some (.slice A0_8 l0_8.length c0_8) := (blk_cell BL.out 8).trans rfl) | (go_at_call 41; refine (address_calls _ _).mono ?_; rintro e w' ⟨rfl, nd, rfl⟩; (try first | exact ⟨rfl, _, World.drewN_drewN _ _ _⟩)))
 go_ret
 exact ⟨rfl, by repeat (first | exact HB.out | refine pw_below_drewN ?_ _)⟩
set_option maxHeartbeats 8000000 in
set_option maxRecDepth 100000 in
theorem check_bad4 (g0 : addrB a0_1 = true) (g1 : addrB a0_2 = true) (g2 : 1 ≤ a0_3) (g3 : a0_3 ≤ 1125899906842623) (g4 : ¬ (0 ≤ a0_4)) :
  Calls Try.prog 23 #[.agg #[.int .i64 a0_0, .int .i64 a0_1, .int .i64 a0_2, .int .i64 a0_3, .int .i64 a0_4, .int .i64 a0_5, .string a0_6, .slice A0_7 l0_7.length c0_7, .slice A0_8 l0_8.length c0_8]] w fun e w' => e = .returned (.int .i64 70) ∧ Below w.heap.size w w' := by
 have hu32 := Try.underlying32
 have d0 : addrB a0_1 = true := g0
 have d1 : addrB a0_2 = true := g1
 have d2 : decide (a0_3 < 1) = false := decide_eq_false (by omega)
 have d3 : decide (1125899906842623 < a0_3) = false := decide_eq_false (by omega)
 have d4 : decide (a0_4 < 0) = true := decide_eq_true (by omega)
 clear g0 g1 g2 g3 g4
 go_enter Try.func23, Try.ntmps23
 go_wp2_with (first | ((with_reducible refine gate_dst (N := 1) rfl ?_); refine box_event ?hg (N := 1) ?hd (cs := #[.int .i64 a0_0, .int .i64 a0_1, .int .i64 a0_2, .int .i64 a0_3, .int .i64 a0_4, .int .i64 a0_5, .string a0_6, .slice A0_7 l0_7.length c0_7, .slice A0_8 l0_8.length c0_8]) (t := 32) ?hr ?_; (case hd => rfl); (case hg => rfl); (case hr => first | (go_simp; done) | (go_simp; rfl)); intro gl hgl w1 hbox hb; have HB := Aside0.mk hb; have BL := Aside0.mk hbox; clear hgl hb hbox; have hcz_0 : w1.cell? ⟨gl, 0, none⟩ = some (.int .i64 a0_0) := (blk_cell BL.out 0).trans rfl; have hcz_1 : w1.cell? ⟨gl, 1, none⟩ = some (.int .i64 a0_1) := (blk_cell BL.out 1).trans rfl; have hcz_2 : w1.cell? ⟨gl, 2, none⟩ = some (.int .i64 a0_2) := (blk_cell BL.out 2).trans rfl; have hcz_3 : w1.cell? ⟨gl, 3, none⟩ = some (.int .i64 a0_3) := (blk_cell BL.out 3).trans rfl; have hcz_4 : w1.cell? ⟨gl, 4, none⟩ = some (.int .i64 a0_4) := (blk_cell BL.out 4).trans rfl; have hcz_5 : w1.cell? ⟨gl, 5, none⟩ = some (.int .i64 a0_5) := (blk_cell BL.out 5).trans rfl; have hcz_6 : w1.cell? ⟨gl, 6, none⟩ = some (.string a0_6) := (blk_cell BL.out 6).trans rfl; have hcz_7 : w1.cell? ⟨gl, 7, none⟩ = some (.slice A0_7 l0_7.length c0_7) := (blk_cell BL.out 7).trans rfl; have hcz_8 : w1.cell? ⟨gl, 8, none⟩ = some (.slice A0_8 l0_8.length c0_8) := (blk_cell BL.out 8).trans rfl) | (go_at_call 41; refine (address_calls _ _).mono ?_; rintro e w' ⟨rfl, nd, rfl⟩; (try first | exact ⟨rfl, _, World.drewN_drewN _ _ _⟩)))
 go_ret
 exact ⟨rfl, by repeat (first | exact HB.out | refine pw_below_drewN ?_ _)⟩
set_option maxHeartbeats 8000000 in
set_option maxRecDepth 100000 in
theorem check_bad5 (g0 : addrB a0_1 = true) (g1 : addrB a0_2 = true) (g2 : 1 ≤ a0_3) (g3 : a0_3 ≤ 1125899906842623) (g4 : 0 ≤ a0_4) (g5 : ¬ (a0_4 ≤ 1125899906842624)) :
  Calls Try.prog 23 #[.agg #[.int .i64 a0_0, .int .i64 a0_1, .int .i64 a0_2, .int .i64 a0_3, .int .i64 a0_4, .int .i64 a0_5, .string a0_6, .slice A0_7 l0_7.length c0_7, .slice A0_8 l0_8.length c0_8]] w fun e w' => e = .returned (.int .i64 70) ∧ Below w.heap.size w w' := by
 have hu32 := Try.underlying32
 have d0 : addrB a0_1 = true := g0
 have d1 : addrB a0_2 = true := g1
 have d2 : decide (a0_3 < 1) = false := decide_eq_false (by omega)
 have d3 : decide (1125899906842623 < a0_3) = false := decide_eq_false (by omega)
 have d4 : decide (a0_4 < 0) = false := decide_eq_false (by omega)
 have d5 : decide (1125899906842624 < a0_4) = true := decide_eq_true (by omega)
 clear g0 g1 g2 g3 g4 g5
 go_enter Try.func23, Try.ntmps23
 go_wp2_with (first | ((with_reducible refine gate_dst (N := 1) rfl ?_); refine box_event ?hg (N := 1) ?hd (cs := #[.int .i64 a0_0, .int .i64 a0_1, .int .i64 a0_2, .int .i64 a0_3, .int .i64 a0_4, .int .i64 a0_5, .string a0_6, .slice A0_7 l0_7.length c0_7, .slice A0_8 l0_8.length c0_8]) (t := 32) ?hr ?_; (case hd => rfl); (case hg => rfl); (case hr => first | (go_simp; done) | (go_simp; rfl)); intro gl hgl w1 hbox hb; have HB := Aside0.mk hb; have BL := Aside0.mk hbox; clear hgl hb hbox; have hcz_0 : w1.cell? ⟨gl, 0, none⟩ = some (.int .i64 a0_0) := (blk_cell BL.out 0).trans rfl; have hcz_1 : w1.cell? ⟨gl, 1, none⟩ = some (.int .i64 a0_1) := (blk_cell BL.out 1).trans rfl; have hcz_2 : w1.cell? ⟨gl, 2, none⟩ = some (.int .i64 a0_2) := (blk_cell BL.out 2).trans rfl; have hcz_3 : w1.cell? ⟨gl, 3, none⟩ = some (.int .i64 a0_3) := (blk_cell BL.out 3).trans rfl; have hcz_4 : w1.cell? ⟨gl, 4, none⟩ = some (.int .i64 a0_4) := (blk_cell BL.out 4).trans rfl; have hcz_5 : w1.cell? ⟨gl, 5, none⟩ = some (.int .i64 a0_5) := (blk_cell BL.out 5).trans rfl; have hcz_6 : w1.cell? ⟨gl, 6, none⟩ = some (.string a0_6) := (blk_cell BL.out 6).trans rfl; have hcz_7 : w1.cell? ⟨gl, 7, none⟩ = some (.slice A0_7 l0_7.length c0_7) := (blk_cell BL.out 7).trans rfl; have hcz_8 : w1.cell? ⟨gl, 8, none⟩ = some (.slice A0_8 l0_8.length c0_8) := (blk_cell BL.out 8).trans rfl) | (go_at_call 41; refine (address_calls _ _).mono ?_; rintro e w' ⟨rfl, nd, rfl⟩; (try first | exact ⟨rfl, _, World.drewN_drewN _ _ _⟩)))
 go_ret
 exact ⟨rfl, by repeat (first | exact HB.out | refine pw_below_drewN ?_ _)⟩
set_option maxHeartbeats 8000000 in
set_option maxRecDepth 100000 in
theorem check_bad6 (g0 : addrB a0_1 = true) (g1 : addrB a0_2 = true) (g2 : 1 ≤ a0_3) (g3 : a0_3 ≤ 1125899906842623) (g4 : 0 ≤ a0_4) (g5 : a0_4 ≤ 1125899906842624) (g6 : ¬ (0 ≤ a0_5)) :
  Calls Try.prog 23 #[.agg #[.int .i64 a0_0, .int .i64 a0_1, .int .i64 a0_2, .int .i64 a0_3, .int .i64 a0_4, .int .i64 a0_5, .string a0_6, .slice A0_7 l0_7.length c0_7, .slice A0_8 l0_8.length c0_8]] w fun e w' => e = .returned (.int .i64 70) ∧ Below w.heap.size w w' := by
 have hu32 := Try.underlying32
 have d0 : addrB a0_1 = true := g0
 have d1 : addrB a0_2 = true := g1
 have d2 : decide (a0_3 < 1) = false := decide_eq_false (by omega)
 have d3 : decide (1125899906842623 < a0_3) = false := decide_eq_false (by omega)
 have d4 : decide (a0_4 < 0) = false := decide_eq_false (by omega)
 have d5 : decide (1125899906842624 < a0_4) = false := decide_eq_false (by omega)
 have d6 : decide (a0_5 < 0) = true := decide_eq_true (by omega)
 clear g0 g1 g2 g3 g4 g5 g6
 go_enter Try.func23, Try.ntmps23
 go_wp2_with (first | ((with_reducible refine gate_dst (N := 1) rfl ?_); refine box_event ?hg (N := 1) ?hd (cs := #[.int .i64 a0_0, .int .i64 a0_1, .int .i64 a0_2, .int .i64 a0_3, .int .i64 a0_4, .int .i64 a0_5, .string a0_6, .slice A0_7 l0_7.length c0_7, .slice A0_8 l0_8.length c0_8]) (t := 32) ?hr ?_; (case hd => rfl); (case hg => rfl); (case hr => first | (go_simp; done) | (go_simp; rfl)); intro gl hgl w1 hbox hb; have HB := Aside0.mk hb; have BL := Aside0.mk hbox; clear hgl hb hbox; have hcz_0 : w1.cell? ⟨gl, 0, none⟩ = some (.int .i64 a0_0) := (blk_cell BL.out 0).trans rfl; have hcz_1 : w1.cell? ⟨gl, 1, none⟩ = some (.int .i64 a0_1) := (blk_cell BL.out 1).trans rfl; have hcz_2 : w1.cell? ⟨gl, 2, none⟩ = some (.int .i64 a0_2) := (blk_cell BL.out 2).trans rfl; have hcz_3 : w1.cell? ⟨gl, 3, none⟩ = some (.int .i64 a0_3) := (blk_cell BL.out 3).trans rfl; have hcz_4 : w1.cell? ⟨gl, 4, none⟩ = some (.int .i64 a0_4) := (blk_cell BL.out 4).trans rfl; have hcz_5 : w1.cell? ⟨gl, 5, none⟩ = some (.int .i64 a0_5) := (blk_cell BL.out 5).trans rfl; have hcz_6 : w1.cell? ⟨gl, 6, none⟩ = some (.string a0_6) := (blk_cell BL.out 6).trans rfl; have hcz_7 : w1.cell? ⟨gl, 7, none⟩ = some (.slice A0_7 l0_7.length c0_7) := (blk_cell BL.out 7).trans rfl; have hcz_8 : w1.cell? ⟨gl, 8, none⟩ = some (.slice A0_8 l0_8.length c0_8) := (blk_cell BL.out 8).trans rfl) | (go_at_call 41; refine (address_calls _ _).mono ?_; rintro e w' ⟨rfl, nd, rfl⟩; (try first | exact ⟨rfl, _, World.drewN_drewN _ _ _⟩)))
 go_ret
 exact ⟨rfl, by repeat (first | exact HB.out | refine pw_below_drewN ?_ _)⟩
set_option maxHeartbeats 8000000 in
set_option maxRecDepth 100000 in
theorem check_good (hr0_7 : Kd.C Kd.string w A0_7 l0_7.length l0_7) (hc0_7 : l0_7.length ≤ c0_7) (hr0_8 : Kd.C k72 w A0_8 l0_8.length l0_8) (hc0_8 : l0_8.length ≤ c0_8) (hl7 : l0_7.length ≤ 8796093022000) (hl8 : l0_8.length ≤ 8796093022000) (g0 : addrB a0_1 = true) (g1 : addrB a0_2 = true) (g2 : 1 ≤ a0_3) (g3 : a0_3 ≤ 1125899906842623) (g4 : 0 ≤ a0_4) (g5 : a0_4 ≤ 1125899906842624) (g6 : 0 ≤ a0_5) :
  Calls Try.prog 23 #[.agg #[.int .i64 a0_0, .int .i64 a0_1, .int .i64 a0_2, .int .i64 a0_3, .int .i64 a0_4, .int .i64 a0_5, .string a0_6, .slice A0_7 l0_7.length c0_7, .slice A0_8 l0_8.length c0_8]] w fun e w' => e = .returned (.int .i64 (fin4 a0_5 (sw a0_0 a0_5 a0_6 l0_7 l0_8))) ∧ Below w.heap.size w w' := by
 have hu32 := Try.underlying32
 have HR7 := Aside0.mk hr0_7
 have HR8 := Aside0.mk hr0_8
 have d0 : addrB a0_1 = true := g0
 have d1 : addrB a0_2 = true := g1
 have d2 : decide (a0_3 < 1) = false := decide_eq_false (by omega)
 have d3 : decide (1125899906842623 < a0_3) = false := decide_eq_false (by omega)
 have d4 : decide (a0_4 < 0) = false := decide_eq_false (by omega)
 have d5 : decide (1125899906842624 < a0_4) = false := decide_eq_false (by omega)
 have d6 : decide (a0_5 < 0) = false := decide_eq_false (by omega)
 clear hr0_7 hr0_8 g0 g1 g2 g3 g4 g5 g6
 go_enter Try.func23, Try.ntmps23
 go_wp2_with (first | ((with_reducible refine gate_dst (N := 1) rfl ?_); refine box_event ?hg (N := 1) ?hd (cs := #[.int .i64 a0_0, .int .i64 a0_1, .int .i64 a0_2, .int .i64 a0_3, .int .i64 a0_4, .int .i64 a0_5, .string a0_6, .slice A0_7 l0_7.length c0_7, .slice A0_8 l0_8.length c0_8]) (t := 32) ?hr ?_; (case hd => rfl); (case hg => rfl); (case hr => first | (go_simp; done) | (go_simp; rfl)); intro gl hgl w1 hbox hb; have HB := Aside0.mk hb; have BL := Aside0.mk hbox; clear hgl hb hbox; have hcz_0 : w1.cell? ⟨gl, 0, none⟩ = some (.int .i64 a0_0) := (blk_cell BL.out 0).trans rfl; have hcz_1 : w1.cell? ⟨gl, 1, none⟩ = some (.int .i64 a0_1) := (blk_cell BL.out 1).trans rfl; have hcz_2 : w1.cell? ⟨gl, 2, none⟩ = some (.int .i64 a0_2) := (blk_cell BL.out 2).trans rfl; have hcz_3 : w1.cell? ⟨gl, 3, none⟩ = some (.int .i64 a0_3) := (blk_cell BL.out 3).trans rfl; have hcz_4 : w1.cell? ⟨gl, 4, none⟩ = some (.int .i64 a0_4) := (blk_cell BL.out 4).trans rfl; have hcz_5 : w1.cell? ⟨gl, 5, none⟩ = some (.int .i64 a0_5) := (blk_cell BL.out 5).trans rfl; have hcz_6 : w1.cell? ⟨gl, 6, none⟩ = some (.string a0_6) := (blk_cell BL.out 6).trans rfl; have hcz_7 : w1.cell? ⟨gl, 7, none⟩ = some (.slice A0_7 l0_7.length c0_7) := (blk_cell BL.out 7).trans rfl; have hcz_8 : w1.cell? ⟨gl, 8, none⟩ = some (.slice A0_8 l0_8.length c0_8) := (blk_cell BL.out 8).trans rfl) | (go_at_call 41; refine (address_calls _ _).mono ?_; rintro e w' ⟨rfl, nd, rfl⟩; (try first | exact ⟨rfl, _, World.drewN_drewN _ _ _⟩)))
 go_quiet (fail)
 generalize eW : World.drewN w1 _ = W
 have HBq : Aside0 (Below w.heap.size w W) := ⟨by rw [← eW]; exact pw_below_drewN HB.out _⟩
 have BLq : Aside0 (W.heap[gl]? = some (.cells #[.int .i64 a0_0, .int .i64 a0_1, .int .i64 a0_2, .int .i64 a0_3, .int .i64 a0_4, .int .i64 a0_5, .string a0_6, .slice A0_7 l0_7.length c0_7, .slice A0_8 l0_8.length c0_8] 32 (0, 0))) := ⟨by rw [← eW]; exact blk_drewN BL.out _⟩
 clear eW HB BL hcz_0 hcz_1 hcz_2 hcz_3 hcz_4 hcz_5 hcz_6 hcz_7 hcz_8
 have hcz_0 : W.cell? ⟨gl, 0, none⟩ = some (.int .i64 a0_0) := (blk_cell BLq.out 0).trans rfl
 have hcz_1 : W.cell? ⟨gl, 1, none⟩ = some (.int .i64 a0_1) := (blk_cell BLq.out 1).trans rfl
 have hcz_2 : W.cell? ⟨gl, 2, none⟩ = some (.int .i64 a0_2) := (blk_cell BLq.out 2).trans rfl
 have hcz_3 : W.cell? ⟨gl, 3, none⟩ = some (.int .i64 a0_3) := (blk_cell BLq.out 3).trans rfl
 have hcz_4 : W.cell? ⟨gl, 4, none⟩ = some (.int .i64 a0_4) := (blk_cell BLq.out 4).trans rfl
 have hcz_5 : W.cell? ⟨gl, 5, none⟩ = some (.int .i64 a0_5) := (blk_cell BLq.out 5).trans rfl
 have hcz_6 : W.cell? ⟨gl, 6, none⟩ = some (.string a0_6) := (blk_cell BLq.out 6).trans rfl
 have hcz_7 : W.cell? ⟨gl, 7, none⟩ = some (.slice A0_7 l0_7.length c0_7) := (blk_cell BLq.out 7).trans rfl
 have hcz_8 : W.cell? ⟨gl, 8, none⟩ = some (.slice A0_8 l0_8.length c0_8) := (blk_cell BLq.out 8).trans rfl
 go_upto_block 0 with (fail)
 go_cut [3, 4, 5, 6] (fun v3 v4 v5 v6 wc => ∃ (m : Int) (kB wB tB : Bool), v3 = .int .i64 m ∧ v4 = .bool kB ∧ v5 = .bool wB ∧ v6 = .bool tB ∧ Aside0 (sw a0_0 a0_5 a0_6 l0_7 l0_8 = some (m, kB, wB, tB)) ∧ Aside0 (Below w.heap.size w wc) ∧ Aside0 (wc.heap[gl]? = some (.cells #[.int .i64 a0_0, .int .i64 a0_1, .int .i64 a0_2, .int .i64 a0_3, .int .i64 a0_4, .int .i64 a0_5, .string a0_6, .slice A0_7 l0_7.length c0_7, .slice A0_8 l0_8.length c0_8] 32 (0, 0))))
 case first =>
  by_cases q2 : a0_0 = 2
  ·subst q2
   by_cases hsz : a0_6.size ≤ 2052
   ·have s1 : decide ((a0_6.size : Int) ≤ 2052) = true := decide_eq_true (by omega)
    have s2 : decide (a0_6.size ≤ 2052) = true := decide_eq_true hsz
    have HS := Aside0.mk s2
    clear hsz
    by_cases he : a0_6.toList.isEmpty = true
    ·have HE := Aside0.mk he
     by_cases hk1 : l0_7.length = 1
     ·obtain ⟨ad, rfl, hx0⟩ := Kd.at_string (Kd.C_below HR7.out HBq.out) 0 (by omega) (by omega)
      have hx : W.cell? (ad.add 0) = some (.string (rdOf ByteArray.empty l0_7 0)) := hx0
      have hx1 : W.cell? ad = some (.string (rdOf ByteArray.empty l0_7 0)) := by rw [add_zero_] at hx; exact hx
      have k1 : ((l0_7.length : Int) == 1) = true := by simp; omega
      have k2 : (l0_7.length == 1) = true := by simp; omega
      have k3 : decide (0 < l0_7.length) = true := decide_eq_true (by omega)
      have k4 : decide ((0 : Int) < (l0_7.length : Int)) = true := decide_eq_true (by omega)
      have k5 : 0 < l0_7.length := by omega
      have HK1 := Aside0.mk hk1
      clear hk1 hx0
      go_wp2_with ((go_at_call 42; refine (key_calls _ _).mono ?_; rintro e w' ⟨rfl, nd, rfl⟩))
      go_meet
      case rel => exact ⟨4, (keyB (rdOf ByteArray.empty l0_7 0)), ((l0_8.length : Int) == 0), true, rfl, rfl, rfl, rfl, ⟨by simp [sw, HK1.out, HS.out, HE.out]⟩, ⟨by repeat (first | exact HBq.out | refine pw_below_drewN ?_ _)⟩, ⟨by (with_reducible repeat (first | refine blk_drewN ?_ _ | refine blk_drew ?_)); exact BLq.out⟩⟩
     ·have k1 : ((l0_7.length : Int) == 1) = false := by simp; omega
      have k2 : (l0_7.length == 1) = false := by simp; omega
      have HK1 := Aside0.mk hk1
      clear hk1
      go_wp2
      go_meet
      case rel => exact ⟨4, false, ((l0_8.length : Int) == 0), true, rfl, rfl, rfl, rfl, ⟨by simp [sw, HK1.out, HS.out, HE.out]⟩, ⟨by repeat (first | exact HBq.out | refine pw_below_drewN ?_ _)⟩, ⟨by (with_reducible repeat (first | refine blk_drewN ?_ _ | refine blk_drew ?_)); exact BLq.out⟩⟩
    ·have he2 : a0_6.toList.isEmpty = false := by simpa using he
     have HE := Aside0.mk he2
     clear he
     by_cases hc1 : a0_5 = 1
     ·have e1 : (a0_5 == 1) = true := by simpa using hc1
      have HC1 := Aside0.mk e1
      clear hc1
      by_cases hk1 : l0_7.length = 1
      ·obtain ⟨ad, rfl, hx0⟩ := Kd.at_string (Kd.C_below HR7.out HBq.out) 0 (by omega) (by omega)
       have hx : W.cell? (ad.add 0) = some (.string (rdOf ByteArray.empty l0_7 0)) := hx0
       have hx1 : W.cell? ad = some (.string (rdOf ByteArray.empty l0_7 0)) := by rw [add_zero_] at hx; exact hx
       have k1 : ((l0_7.length : Int) == 1) = true := by simp; omega
       have k2 : (l0_7.length == 1) = true := by simp; omega
       have k3 : decide (0 < l0_7.length) = true := decide_eq_true (by omega)
       have k4 : decide ((0 : Int) < (l0_7.length : Int)) = true := decide_eq_true (by omega)
       have k5 : 0 < l0_7.length := by omega
       have HK1 := Aside0.mk hk1
       clear hk1 hx0
       go_wp2_with ((go_at_call 42; refine (key_calls _ _).mono ?_; rintro e w' ⟨rfl, nd, rfl⟩))
       go_meet
       case rel => exact ⟨4, (keyB (rdOf ByteArray.empty l0_7 0)), ((l0_8.length : Int) == 0), true, rfl, rfl, rfl, rfl, ⟨by simp [sw, HK1.out, HS.out, HE.out, HC1.out]⟩, ⟨by repeat (first | exact HBq.out | refine pw_below_drewN ?_ _)⟩, ⟨by (with_reducible repeat (first | refine blk_drewN ?_ _ | refine blk_drew ?_)); exact BLq.out⟩⟩
      ·have k1 : ((l0_7.length : Int) == 1) = false := by simp; omega
       have k2 : (l0_7.length == 1) = false := by simp; omega
       have HK1 := Aside0.mk hk1
       clear hk1
       go_wp2
       go_meet
       case rel => exact ⟨4, false, ((l0_8.length : Int) == 0), true, rfl, rfl, rfl, rfl, ⟨by simp [sw, HK1.out, HS.out, HE.out, HC1.out]⟩, ⟨by repeat (first | exact HBq.out | refine pw_below_drewN ?_ _)⟩, ⟨by (with_reducible repeat (first | refine blk_drewN ?_ _ | refine blk_drew ?_)); exact BLq.out⟩⟩
     ·have e1 : (a0_5 == 1) = false := by simpa using hc1
      have HC1 := Aside0.mk e1
      clear hc1
      by_cases hk1 : l0_7.length = 1
      ·obtain ⟨ad, rfl, hx0⟩ := Kd.at_string (Kd.C_below HR7.out HBq.out) 0 (by omega) (by omega)
       have hx : W.cell? (ad.add 0) = some (.string (rdOf ByteArray.empty l0_7 0)) := hx0
       have hx1 : W.cell? ad = some (.string (rdOf ByteArray.empty l0_7 0)) := by rw [add_zero_] at hx; exact hx
       have k1 : ((l0_7.length : Int) == 1) = true := by simp; omega
       have k2 : (l0_7.length == 1) = true := by simp; omega
       have k3 : decide (0 < l0_7.length) = true := decide_eq_true (by omega)
       have k4 : decide ((0 : Int) < (l0_7.length : Int)) = true := decide_eq_true (by omega)
       have k5 : 0 < l0_7.length := by omega
       have HK1 := Aside0.mk hk1
       clear hk1 hx0
       go_wp2_with ((go_at_call 42; refine (key_calls _ _).mono ?_; rintro e w' ⟨rfl, nd, rfl⟩))
       go_meet
       case rel => exact ⟨4, (keyB (rdOf ByteArray.empty l0_7 0)), ((l0_8.length : Int) == 0), false, rfl, rfl, rfl, rfl, ⟨by simp [sw, HK1.out, HS.out, HE.out, HC1.out]⟩, ⟨by repeat (first | exact HBq.out | refine pw_below_drewN ?_ _)⟩, ⟨by (with_reducible repeat (first | refine blk_drewN ?_ _ | refine blk_drew ?_)); exact BLq.out⟩⟩
      ·have k1 : ((l0_7.length : Int) == 1) = false := by simp; omega
       have k2 : (l0_7.length == 1) = false := by simp; omega
       have HK1 := Aside0.mk hk1
       clear hk1
       go_wp2
       go_meet
       case rel => exact ⟨4, false, ((l0_8.length : Int) == 0), false, rfl, rfl, rfl, rfl, ⟨by simp [sw, HK1.out, HS.out, HE.out, HC1.out]⟩, ⟨by repeat (first | exact HBq.out | refine pw_below_drewN ?_ _)⟩, ⟨by (with_reducible repeat (first | refine blk_drewN ?_ _ | refine blk_drew ?_)); exact BLq.out⟩⟩
   ·have s1 : decide ((a0_6.size : Int) ≤ 2052) = false := decide_eq_false (by omega)
    have s2 : decide (a0_6.size ≤ 2052) = false := decide_eq_false hsz
    have HS := Aside0.mk s2
    clear hsz
    by_cases hk1 : l0_7.length = 1
    ·obtain ⟨ad, rfl, hx0⟩ := Kd.at_string (Kd.C_below HR7.out HBq.out) 0 (by omega) (by omega)
     have hx : W.cell? (ad.add 0) = some (.string (rdOf ByteArray.empty l0_7 0)) := hx0
     have hx1 : W.cell? ad = some (.string (rdOf ByteArray.empty l0_7 0)) := by rw [add_zero_] at hx; exact hx
     have k1 : ((l0_7.length : Int) == 1) = true := by simp; omega
     have k2 : (l0_7.length == 1) = true := by simp; omega
     have k3 : decide (0 < l0_7.length) = true := decide_eq_true (by omega)
     have k4 : decide ((0 : Int) < (l0_7.length : Int)) = true := decide_eq_true (by omega)
     have k5 : 0 < l0_7.length := by omega
     have HK1 := Aside0.mk hk1
     clear hk1 hx0
     go_wp2_with ((go_at_call 42; refine (key_calls _ _).mono ?_; rintro e w' ⟨rfl, nd, rfl⟩))
     go_meet
     case rel => exact ⟨4, (keyB (rdOf ByteArray.empty l0_7 0)), ((l0_8.length : Int) == 0), false, rfl, rfl, rfl, rfl, ⟨by simp [sw, HK1.out, HS.out]⟩, ⟨by repeat (first | exact HBq.out | refine pw_below_drewN ?_ _)⟩, ⟨by (with_reducible repeat (first | refine blk_drewN ?_ _ | refine blk_drew ?_)); exact BLq.out⟩⟩
    ·have k1 : ((l0_7.length : Int) == 1) = false := by simp; omega
     have k2 : (l0_7.length == 1) = false := by simp; omega
     have HK1 := Aside0.mk hk1
     clear hk1
     go_wp2
     go_meet
     case rel => exact ⟨4, false, ((l0_8.length : Int) == 0), false, rfl, rfl, rfl, rfl, ⟨by simp [sw, HK1.out, HS.out]⟩, ⟨by repeat (first | exact HBq.out | refine pw_below_drewN ?_ _)⟩, ⟨by (with_reducible repeat (first | refine blk_drewN ?_ _ | refine blk_drew ?_)); exact BLq.out⟩⟩
  ·by_cases q1 : a0_0 = 1
   ·subst q1
    clear q2
    by_cases hk1 : l0_7.length = 1
    ·obtain ⟨ad, rfl, hx0⟩ := Kd.at_string (Kd.C_below HR7.out HBq.out) 0 (by omega) (by omega)
     have hx : W.cell? (ad.add 0) = some (.string (rdOf ByteArray.empty l0_7 0)) := hx0
     have hx1 : W.cell? ad = some (.string (rdOf ByteArray.empty l0_7 0)) := by rw [add_zero_] at hx; exact hx
     have k1 : ((l0_7.length : Int) == 1) = true := by simp; omega
     have k2 : (l0_7.length == 1) = true := by simp; omega
     have k3 : decide (0 < l0_7.length) = true := decide_eq_true (by omega)
     have k4 : decide ((0 : Int) < (l0_7.length : Int)) = true := decide_eq_true (by omega)
     have k5 : 0 < l0_7.length := by omega
     have HK1 := Aside0.mk hk1
     clear hk1 hx0
     go_wp2_with ((go_at_call 42; refine (key_calls _ _).mono ?_; rintro e w' ⟨rfl, nd, rfl⟩))
     go_meet
     case rel => exact ⟨0, (keyB (rdOf ByteArray.empty l0_7 0)), ((l0_8.length : Int) == 0), a0_6.toList.isEmpty, rfl, rfl, rfl, rfl, ⟨by simp [sw, HK1.out]⟩, ⟨by repeat (first | exact HBq.out | refine pw_below_drewN ?_ _)⟩, ⟨by (with_reducible repeat (first | refine blk_drewN ?_ _ | refine blk_drew ?_)); exact BLq.out⟩⟩
    ·have k1 : ((l0_7.length : Int) == 1) = false := by simp; omega
     have k2 : (l0_7.length == 1) = false := by simp; omega
     have HK1 := Aside0.mk hk1
     clear hk1
     go_wp2
     go_meet
     case rel => exact ⟨0, false, ((l0_8.length : Int) == 0), a0_6.toList.isEmpty, rfl, rfl, rfl, rfl, ⟨by simp [sw, HK1.out]⟩, ⟨by repeat (first | exact HBq.out | refine pw_below_drewN ?_ _)⟩, ⟨by (with_reducible repeat (first | refine blk_drewN ?_ _ | refine blk_drew ?_)); exact BLq.out⟩⟩
   ·by_cases q3 : a0_0 = 3
    ·subst q3
     clear q2 q1
     by_cases h16 : l0_7.length ≤ 16
     ·have k1 : decide ((l0_7.length : Int) ≤ 16) = true := decide_eq_true (by omega)
      have k2 : decide (l0_7.length ≤ 16) = true := decide_eq_true h16
      have HK := Aside0.mk k2
      clear h16
      go_wp2_with (first | (go_at_call 43; refine (rising_calls _ A0_7 c0_7 l0_7 (Kd.C_below HR7.out (show Below w.heap.size w _ from by repeat (first | exact HBq.out | refine pw_below_drewN ?_ _))) hc0_7 hl7).mono ?_; rintro e w' ⟨rfl, nd, rfl⟩) | (go_at_call 44; refine (writes_calls _ A0_8 c0_8 l0_8 (Kd.C_below HR8.out (show Below w.heap.size w _ from by repeat (first | exact HBq.out | refine pw_below_drewN ?_ _))) hc0_8 hl8).mono ?_; rintro e w9 ⟨rfl, hb⟩; have HB9 := Aside0.mk (below_step (show Below w.heap.size w _ from by repeat (first | exact HBq.out | refine pw_below_drewN ?_ _)) hb); have BL9 := Aside0.mk (blk_below (show _ = some (Obj.cells #[.int .i64 3, .int .i64 a0_1, .int .i64 a0_2, .int .i64 a0_3, .int .i64 a0_4, .int .i64 a0_5, .string a0_6, .slice A0_7 l0_7.length c0_7, .slice A0_8 l0_8.length c0_8] 32 (0, 0)) from by (with_reducible repeat (first | refine blk_drewN ?_ _ | refine blk_drew ?_)); exact BLq.out) hb); clear hb))
      go_meet
      case rel => exact ⟨0, risB l0_7, wriB l0_8, a0_6.toList.isEmpty, rfl, rfl, rfl, rfl, ⟨by simp [sw, HK.out]⟩, ⟨HB9.out⟩, ⟨BL9.out⟩⟩
     ·have k1 : decide ((l0_7.length : Int) ≤ 16) = false := decide_eq_false (by omega)
      have k2 : decide (l0_7.length ≤ 16) = false := decide_eq_false h16
      have HK := Aside0.mk k2
      clear h16
      go_wp2_with ((go_at_call 44; refine (writes_calls _ A0_8 c0_8 l0_8 (Kd.C_below HR8.out (show Below w.heap.size w _ from by repeat (first | exact HBq.out | refine pw_below_drewN ?_ _))) hc0_8 hl8).mono ?_; rintro e w9 ⟨rfl, hb⟩; have HB9 := Aside0.mk (below_step (show Below w.heap.size w _ from by repeat (first | exact HBq.out | refine pw_below_drewN ?_ _)) hb); have BL9 := Aside0.mk (blk_below (show _ = some (Obj.cells #[.int .i64 3, .int .i64 a0_1, .int .i64 a0_2, .int .i64 a0_3, .int .i64 a0_4, .int .i64 a0_5, .string a0_6, .slice A0_7 l0_7.length c0_7, .slice A0_8 l0_8.length c0_8] 32 (0, 0)) from by (with_reducible repeat (first | refine blk_drewN ?_ _ | refine blk_drew ?_)); exact BLq.out) hb); clear hb))
      go_meet
      case rel => exact ⟨0, false, wriB l0_8, a0_6.toList.isEmpty, rfl, rfl, rfl, rfl, ⟨by simp [sw, HK.out]⟩, ⟨HB9.out⟩, ⟨BL9.out⟩⟩
    ·by_cases q8 : a0_0 = 8
     ·subst q8
      clear q2 q1 q3
      go_wp2
      go_meet
      case rel => exact ⟨2, ((l0_7.length : Int) == 0), ((l0_8.length : Int) == 0), a0_6.toList.isEmpty, rfl, rfl, rfl, rfl, ⟨by simp [sw]⟩, ⟨by repeat (first | exact HBq.out | refine pw_below_drewN ?_ _)⟩, ⟨by (with_reducible repeat (first | refine blk_drewN ?_ _ | refine blk_drew ?_)); exact BLq.out⟩⟩
     ·by_cases q4 : a0_0 = 4
      ·subst q4
       clear q2 q1 q3 q8
       go_wp2
       go_meet
       case rel => exact ⟨1, ((l0_7.length : Int) == 0), ((l0_8.length : Int) == 0), a0_6.toList.isEmpty, rfl, rfl, rfl, rfl, ⟨by simp [sw]⟩, ⟨by repeat (first | exact HBq.out | refine pw_below_drewN ?_ _)⟩, ⟨by (with_reducible repeat (first | refine blk_drewN ?_ _ | refine blk_drew ?_)); exact BLq.out⟩⟩
      ·by_cases q5 : a0_0 = 5
       ·subst q5
        clear q2 q1 q3 q8 q4
        go_wp2
        go_meet
        case rel => exact ⟨0, ((l0_7.length : Int) == 0), ((l0_8.length : Int) == 0), a0_6.toList.isEmpty, rfl, rfl, rfl, rfl, ⟨by simp [sw]⟩, ⟨by repeat (first | exact HBq.out | refine pw_below_drewN ?_ _)⟩, ⟨by (with_reducible repeat (first | refine blk_drewN ?_ _ | refine blk_drew ?_)); exact BLq.out⟩⟩
       ·by_cases q6 : a0_0 = 6
        ·subst q6
         clear q2 q1 q3 q8 q4 q5
         go_wp2
         go_meet
         case rel => exact ⟨0, ((l0_7.length : Int) == 0), ((l0_8.length : Int) == 0), a0_6.toList.isEmpty, rfl, rfl, rfl, rfl, ⟨by simp [sw]⟩, ⟨by repeat (first | exact HBq.out | refine pw_below_drewN ?_ _)⟩, ⟨by (with_reducible repeat (first | refine blk_drewN ?_ _ | refine blk_drew ?_)); exact BLq.out⟩⟩
        ·by_cases q7 : a0_0 = 7
         ·subst q7
          clear q2 q1 q3 q8 q4 q5 q6
          go_wp2
          go_meet
          case rel => exact ⟨0, ((l0_7.length : Int) == 0), ((l0_8.length : Int) == 0), a0_6.toList.isEmpty, rfl, rfl, rfl, rfl, ⟨by simp [sw]⟩, ⟨by repeat (first | exact HBq.out | refine pw_below_drewN ?_ _)⟩, ⟨by (with_reducible repeat (first | refine blk_drewN ?_ _ | refine blk_drew ?_)); exact BLq.out⟩⟩
         ·have hsw : sw a0_0 a0_5 a0_6 l0_7 l0_8 = none := by unfold sw; rw [if_neg q2, if_neg q1, if_neg q3, if_neg q8, if_neg q4, if_neg (by omega)]
          have e2 : (a0_0 == 2) = false := by simpa using q2
          have e1 : (a0_0 == 1) = false := by simpa using q1
          have e3 : (a0_0 == 3) = false := by simpa using q3
          have e8 : (a0_0 == 8) = false := by simpa using q8
          have e4 : (a0_0 == 4) = false := by simpa using q4
          have e5 : (a0_0 == 5) = false := by simpa using q5
          have e6 : (a0_0 == 6) = false := by simpa using q6
          have e7 : (a0_0 == 7) = false := by simpa using q7
          have HSW := Aside0.mk hsw
          clear hsw q2 q1 q3 q8 q4 q5 q6 q7
          go_wp2
          go_ret
          exact ⟨by rw [HSW.out]; rfl, by repeat (first | exact HBq.out | refine pw_below_drewN ?_ _)⟩
 case rest =>
  obtain ⟨m, kB, wB, tB, rfl, rfl, rfl, rfl, HS, HB, BL⟩ := hcut
  have hv := HS.out
  by_cases h1 : a0_5 ≤ m
  ·have c1 : decide (m < a0_5) = false := decide_eq_false (by omega)
   cases kB with
   |false =>
    have HV := Aside0.mk (show fin4 a0_5 (sw a0_0 a0_5 a0_6 l0_7 l0_8) = 70 from by rw [hv]; simp [fin4])
    clear h1 hv HS
    have hcz_5 : wc.cell? ⟨gl, 5, none⟩ = some (.int .i64 a0_5) := (blk_cell BL.out 5).trans rfl
    go_wp2
    go_ret
    exact ⟨by rw [HV.out]; rfl, HB.out⟩
   |true =>
    cases wB with
    |false =>
     have HV := Aside0.mk (show fin4 a0_5 (sw a0_0 a0_5 a0_6 l0_7 l0_8) = 70 from by rw [hv]; simp [fin4])
     clear h1 hv HS
     have hcz_5 : wc.cell? ⟨gl, 5, none⟩ = some (.int .i64 a0_5) := (blk_cell BL.out 5).trans rfl
     go_wp2
     go_ret
     exact ⟨by rw [HV.out]; rfl, HB.out⟩
    |true =>
     cases tB with
     |false =>
      have HV := Aside0.mk (show fin4 a0_5 (sw a0_0 a0_5 a0_6 l0_7 l0_8) = 70 from by rw [hv]; simp [fin4])
      clear h1 hv HS
      have hcz_5 : wc.cell? ⟨gl, 5, none⟩ = some (.int .i64 a0_5) := (blk_cell BL.out 5).trans rfl
      go_wp2
      go_ret
      exact ⟨by rw [HV.out]; rfl, HB.out⟩
     |true =>
      have HV := Aside0.mk (show fin4 a0_5 (sw a0_0 a0_5 a0_6 l0_7 l0_8) = 0 from by rw [hv]; simp [fin4, h1])
      clear h1 hv HS
      have hcz_5 : wc.cell? ⟨gl, 5, none⟩ = some (.int .i64 a0_5) := (blk_cell BL.out 5).trans rfl
      go_wp2
      go_ret
      exact ⟨by rw [HV.out]; rfl, HB.out⟩
  ·have c1 : decide (m < a0_5) = true := decide_eq_true (by omega)
   have HV := Aside0.mk (show fin4 a0_5 (sw a0_0 a0_5 a0_6 l0_7 l0_8) = 70 from by rw [hv]; simp [fin4]; omega)
   clear h1 hv HS
   have hcz_5 : wc.cell? ⟨gl, 5, none⟩ = some (.int .i64 a0_5) := (blk_cell BL.out 5).trans rfl
   go_wp2
   go_ret
   exact ⟨by rw [HV.out]; rfl, HB.out⟩
end
theorem letter_Check.calls (a0_0 : Int) (a0_1 : Int) (a0_2 : Int) (a0_3 : Int) (a0_4 : Int) (a0_5 : Int) (a0_6 : ByteArray) (A0_7 : Option Addr) (c0_7 : Nat) (l0_7 : List ByteArray) (A0_8 : Option Addr) (c0_8 : Nat) (l0_8 : List (S72)) (r : Int) (w : World) (hr0_7 : Kd.C Kd.string w A0_7 l0_7.length l0_7) (hc0_7 : l0_7.length ≤ c0_7) (hr0_8 : Kd.C k72 w A0_8 l0_8.length l0_8) (hc0_8 : l0_8.length ≤ c0_8) (h : letter_Check.f a0_0 a0_1 a0_2 a0_3 a0_4 a0_5 a0_6 l0_7 l0_8 = some r) :
  Calls Try.prog 23 #[.agg #[.int .i64 a0_0, .int .i64 a0_1, .int .i64 a0_2, .int .i64 a0_3, .int .i64 a0_4, .int .i64 a0_5, .string a0_6, .slice A0_7 l0_7.length c0_7, .slice A0_8 l0_8.length c0_8]] w fun e w' => e = .returned (.int .i64 r) ∧ Below w.heap.size w w' := by
 unfold letter_Check.f at h
 split at h
 case isFalse => cases h
 rename_i hl
 obtain rfl := Option.some.inj h
 obtain ⟨hl7, hl8⟩ := hl
 unfold chkL
 by_cases g0 : addrB a0_1 = true
 case neg => rw [if_neg (fun hc => g0 hc.1)]; exact check_bad0 _ _ _ _ _ _ _ _ _ _ _ _ _ _ g0
 by_cases g1 : addrB a0_2 = true
 case neg => rw [if_neg (fun hc => g1 hc.2.1)]; exact check_bad1 _ _ _ _ _ _ _ _ _ _ _ _ _ _ g0 g1
 by_cases g2 : 1 ≤ a0_3
 case neg => rw [if_neg (fun hc => g2 hc.2.2.1)]; exact check_bad2 _ _ _ _ _ _ _ _ _ _ _ _ _ _ g0 g1 g2
 by_cases g3 : a0_3 ≤ 1125899906842623
 case neg => rw [if_neg (fun hc => g3 hc.2.2.2.1)]; exact check_bad3 _ _ _ _ _ _ _ _ _ _ _ _ _ _ g0 g1 g2 g3
 by_cases g4 : 0 ≤ a0_4
 case neg => rw [if_neg (fun hc => g4 hc.2.2.2.2.1)]; exact check_bad4 _ _ _ _ _ _ _ _ _ _ _ _ _ _ g0 g1 g2 g3 g4
 by_cases g5 : a0_4 ≤ 1125899906842624
 case neg => rw [if_neg (fun hc => g5 hc.2.2.2.2.2.1)]; exact check_bad5 _ _ _ _ _ _ _ _ _ _ _ _ _ _ g0 g1 g2 g3 g4 g5
 by_cases g6 : 0 ≤ a0_5
 case neg => rw [if_neg (fun hc => g6 hc.2.2.2.2.2.2)]; exact check_bad6 _ _ _ _ _ _ _ _ _ _ _ _ _ _ g0 g1 g2 g3 g4 g5 g6
 rw [if_pos ⟨g0, g1, g2, g3, g4, g5, g6⟩]
 exact check_good _ _ _ _ _ _ _ _ _ _ _ _ _ _ hr0_7 hc0_7 hr0_8 hc0_8 hl7 hl8 g0 g1 g2 g3 g4 g5 g6
end Go.Proofs.Ytnbomedhehoflaa.Al

namespace Go.Proofs.Ytnbomedhehoflaa.Al
open Go.RowKit Go.Proofs.YtnbomedhehoflaaW.PrintWords Go.Proofs.YtnbomedhehoflaaW.PrintLast Go.Proofs.YtnbomedhehoflaaW.PrintMore
set_option linter.unusedVariables false
set_option linter.unusedSimpArgs false
def chkS (x : S32) : Int := LetSpec.chkL x.f0 x.f1 x.f2 x.f3 x.f4 x.f5 x.f6 x.f7 x.f8
theorem chk_small {x : S32} (h : chkS x = 0) : x.f7.length ≤ 16 ∧ x.f8.length ≤ 16 := by
 unfold chkS at h
 rw [LetSpec.ref_chk] at h
 split at h
 ·unfold LetSpec.refV LetSpec.oneB LetSpec.bareB at h
  have wr : LetSpec.wriB x.f8 = true → x.f8.length ≤ 16 := fun hw => by
   unfold LetSpec.wriB at hw
   simp only [Bool.and_eq_true, decide_eq_true_eq] at hw
   exact hw.2.1
  split at h
  ·split at h
   ·rename_i hh; simp only [Bool.and_eq_true, decide_eq_true_eq] at hh; omega
   ·cases h
  split at h
  ·split at h
   ·rename_i hh; simp only [Bool.and_eq_true, decide_eq_true_eq] at hh; omega
   ·cases h
  split at h
  ·split at h
   ·rename_i hh; exact ⟨hh.1, wr hh.2.2.1⟩
   ·cases h
  split at h
  ·split at h
   ·rename_i hh; simp only [Bool.and_eq_true, decide_eq_true_eq] at hh; omega
   ·cases h
  split at h
  ·split at h
   ·rename_i hh; simp only [Bool.and_eq_true, decide_eq_true_eq] at hh; omega
   ·cases h
  split at h
  ·split at h
   ·rename_i hh; simp only [Bool.and_eq_true, decide_eq_true_eq] at hh; omega
   ·cases h
  ·cases h
 ·cases h
theorem check_len {x : S32} {A7 A8 : Option Addr} {c7 c8 n7 n8 : Nat} {w : World} (e7 : n7 = x.f7.length) (e8 : n8 = x.f8.length) (h7 : Kd.C Kd.string w A7 x.f7.length x.f7) (hc7 : x.f7.length ≤ c7) (h8 : Kd.C k72 w A8 x.f8.length x.f8) (hc8 : x.f8.length ≤ c8) (hb7 : x.f7.length ≤ 8796093022000) (hb8 : x.f8.length ≤ 8796093022000) :
  Calls Try.prog 23 #[.agg #[.int .i64 x.f0, .int .i64 x.f1, .int .i64 x.f2, .int .i64 x.f3, .int .i64 x.f4, .int .i64 x.f5, .string x.f6, .slice A7 n7 c7, .slice A8 n8 c8]] w fun e w' => e = .returned (.int .i64 (chkS x)) ∧ Below w.heap.size w w' := by
 subst e7 e8
 exact letter_Check.calls _ _ _ _ _ _ _ A7 c7 x.f7 A8 c8 x.f8 _ w h7 hc7 h8 hc8 (if_pos ⟨hb7, hb8⟩)
structure NS (W w : World) (g : Nat) (room : Int) (ok : Nat → Prop) (v : Value) (l : List S32) : Prop where
 blk : w.heap[g]? = some (.cells #[.int .i64 room, v] 62 (0, 0))
 ge : W.heap.size ≤ g
 row : k32.S 32 w W.heap.size ok v l
 bel : Below W.heap.size W w
structure NStep (w w1 : World) (g : Nat) (v v1 : Value) : Prop where
 size : w.heap.size ≤ w1.heap.size
 keep : ∀ k, k < w.heap.size → k ≠ g → v.ownBlock ≠ some k → w1.heap[k]? = w.heap[k]?
 own : v1.ownBlock = v.ownBlock ∨ ∃ b, v1.ownBlock = some b ∧ w.heap.size ≤ b
theorem NStep.of_below {w w1 : World} (hb : Below w.heap.size w w1) (g : Nat) (v : Value) : NStep w w1 g v v := ⟨hb.size, fun k hk _ _ => hb.block k hk, .inl rfl⟩
theorem NStep.trans {w w1 w2 : World} {g : Nat} {v v1 v2 : Value} (h : NStep w w1 g v v1) (k : NStep w1 w2 g v1 v2) : NStep w w2 g v v2 := by
 have hs := h.size
 refine ⟨Nat.le_trans hs k.size, fun j hj h1 h2 => (k.keep j (by omega) h1 ?_).trans (h.keep j hj h1 h2), ?_⟩
 ·rcases h.own with e | ⟨b, e, hb⟩
  ·rw [e]; exact h2
  ·rw [e]; intro he; injection he with he; omega
 ·rcases k.own with e | ⟨b, e, hb⟩
  ·rw [e]; exact h.own
  ·exact .inr ⟨b, e, by omega⟩
section
variable {W w w1 : World} {g : Nat} {room : Int} {ok ok' : Nat → Prop} {v : Value} {l : List S32}
theorem NS.below (h : NS W w g room ok v l) (hb : Below w.heap.size w w1) : NS W w1 g room ok v l := ⟨blk_below h.blk hb, h.ge, Kd.S_below h.row hb, below_step h.bel hb⟩
theorem NS.old (h : NS W w g room ok v l) (hb : Below w.heap.size w w1) : NS W w1 g room (fun k => ok k ∧ k < w.heap.size) v l := ⟨blk_below h.blk hb, h.ge, Kd.S_old h.row hb, below_step h.bel hb⟩
theorem NS.mono (h : NS W w g room ok v l) (ho : ∀ k, ok k → ok' k) : NS W w g room ok' v l := ⟨h.blk, h.ge, Kd.S_mono h.row ho, h.bel⟩
theorem NS.drew (h : NS W w g room ok v l) : NS W w.drew g room ok v l := h.below (below_drew (Below.refl _ _))
end
def sendE (room : Int) (l : List S32) (x : S32) : Int := if chkS x ≠ 0 then chkS x else if room ≤ (l.length : Int) then 150 else 0
def sendL (room : Int) (l : List S32) (x : S32) : List S32 := if chkS x ≠ 0 then l else if room ≤ (l.length : Int) then l else l ++ [x]
theorem info32 : (Try.prog.info? 32).map (fun i => (i.zero, i.size, i.bytes)) = some (some (.agg #[.int .i64 0, .int .i64 0, .int .i64 0, .int .i64 0, .int .i64 0, .int .i64 0, .string (⟨#[]⟩ : ByteArray), .slice none 0 0, .slice none 0 0]), 9, 112) := by kernel_rfl
end Go.Proofs.Ytnbomedhehoflaa.Al

namespace Go.Proofs.Ytnbomedhehoflaa.Al
open Go.RowKit Go.Proofs.YtnbomedhehoflaaW.PrintWords Go.Proofs.YtnbomedhehoflaaW.PrintLast Go.Proofs.YtnbomedhehoflaaW.PrintMore
set_option linter.unusedVariables false
set_option linter.unusedSimpArgs false
theorem copied_len {x : S32} {A7 A8 : Option Addr} {c7 c8 n7 n8 : Nat} {w : World} (e7 : n7 = x.f7.length) (e8 : n8 = x.f8.length) (h7 : Kd.C Kd.string w A7 x.f7.length x.f7) (hc7 : x.f7.length ≤ c7) (h8 : Kd.C k72 w A8 x.f8.length x.f8) (hc8 : x.f8.length ≤ c8) (hb7 : x.f7.length ≤ 16) (hb8 : x.f8.length ≤ 16) :
  Calls Try.prog 24 #[.agg #[.int .i64 x.f0, .int .i64 x.f1, .int .i64 x.f2, .int .i64 x.f3, .int .i64 x.f4, .int .i64 x.f5, .string x.f6, .slice A7 n7 c7, .slice A8 n8 c8]] w fun e w' => ∃ B7 d7 B8 d8, e = .returned (.agg #[.int .i64 x.f0, .int .i64 x.f1, .int .i64 x.f2, .int .i64 x.f3, .int .i64 x.f4, .int .i64 x.f5, .string x.f6, .slice B7 n7 d7, .slice B8 n8 d8]) ∧ Kd.string.R 9 w' w.heap.size (fun _ => True) (.slice B7 n7 d7) x.f7 ∧ k72.R 72 w' w.heap.size (fun _ => True) (.slice B8 n8 d8) x.f8 ∧ Below w.heap.size w w' := by
 subst e7 e8
 refine (copied_calls x _ _ w ⟨⟨A7, c7, rfl, h7, hc7⟩, ⟨A8, c8, rfl, h8, hc8⟩⟩ hb7 hb8).mono ?_
 rintro e w' ⟨u7, u8, rfl, r7, r8, hb⟩
 obtain ⟨B7, d7, rfl⟩ := Kd.R_slice r7
 obtain ⟨B8, d8, rfl⟩ := Kd.R_slice r8
 exact ⟨B7, d7, B8, d8, rfl, r7, r8, hb⟩
section
variable {W w w5 w6 : World} {g : Nat} {room : Int} {ok : Nat → Prop} {A : Option Addr} {n c : Nat} {l : List S32} {x : S32}
theorem send_ho (h : NS W w g room ok (.slice A n c) l) (hb : Below w.heap.size w w5) : k32.S 32 w5 W.heap.size (fun k => (ok k ∨ w.heap.size ≤ k) ∧ ¬ (w.heap.size ≤ k ∧ k < w5.heap.size)) (.slice A n c) l :=
 Kd.S_mono (Kd.S_old h.row hb) (fun k hk => ⟨.inl hk.1, fun h2 => by have := hk.2; omega⟩)
theorem send_hp {base n4 : Nat} {v7 v8 : Value} (hb : base ≤ w.heap.size) (hs : w.heap.size ≤ n4) (h7 : Kd.string.R 9 w5 n4 (fun _ => True) v7 x.f7) (h8 : k72.R 72 w5 n4 (fun _ => True) v8 x.f8) : k32.M w5 base (fun k => w.heap.size ≤ k ∧ k < w5.heap.size) x [.int .i64 x.f0, .int .i64 x.f1, .int .i64 x.f2, .int .i64 x.f3, .int .i64 x.f4, .int .i64 x.f5, .string x.f6, v7, v8] :=
 k32_mkM w5 base _ x (Kd.R_lower (Kd.R_mono (Kd.R_bound h7) (fun k hk => ⟨by have := hk.2.1; omega, hk.2.2.1⟩)) (by omega)) (Kd.R_lower (Kd.R_mono (Kd.R_bound h8) (fun k hk => ⟨by have := hk.2.1; omega, hk.2.2.1⟩)) (by omega))
theorem send_hokp (h : NS W w g room ok (.slice A n c) l) : ∀ k, (w.heap.size ≤ k ∧ k < w5.heap.size) → (ok k ∨ w.heap.size ≤ k) ∧ some k ≠ (Value.slice A n c).ownBlock :=
 fun k hk => ⟨.inr hk.1, fun he => by have := Kd.S_lt h.row k he.symm; omega⟩
theorem send_gb {gb : Nat} {o : Obj} (h : NS W w g room ok (.slice A n c) l) (hb : Below w.heap.size w w5) (hx : w5.heap[gb]? = some o) (hgb : w.heap.size ≤ gb) (hg : w5.grownBy w6 (Value.slice A n c).ownBlock) : w6.heap[gb]? = some o :=
 blk_grown hx hg (fun he => by have := Kd.S_lt h.row gb he.symm; omega)
theorem send_end {v1 : Value} {l' : List S32} (h : NS W w g room ok (.slice A n c) l) (hb : Below w.heap.size w w5) (hg : w5.grownBy w6 (Value.slice A n c).ownBlock) (hb6 : Below W.heap.size W w6) (hk : w6.heap[g]? = some (.cells #[.int .i64 room, .slice A n c] 62 (0, 0))) (ho : k32.S 32 w6 W.heap.size (fun k => ok k ∨ w.heap.size ≤ k) v1 l') (hat : v1.ownBlock = (Value.slice A n c).ownBlock ∨ ∃ b, v1.ownBlock = some b ∧ w5.heap.size ≤ b) :
  NS W (w6.setCell ⟨g, 1, none⟩ v1) g room (fun k => ok k ∨ (w.heap.size ≤ k ∧ k < (w6.setCell ⟨g, 1, none⟩ v1).heap.size)) v1 l' ∧ NStep w (w6.setCell ⟨g, 1, none⟩ v1) g (.slice A n c) v1 := by
 have hs : (w6.setCell ⟨g, 1, none⟩ v1).heap.size = w6.heap.size := by simp [World.setCell]
 have hs5 := hb.size
 have hs6 := hg.size
 refine ⟨⟨by simpa using blk_set hk 1 v1, h.ge, Kd.S_set (Kd.S_mono (Kd.S_bound ho) (fun k hk => ?_)) hk (by decide) 1 v1, below_set hb6 h.ge⟩, by omega, fun k hk h1 h2 => ?_, ?_⟩
 ·rcases hk.1 with h1 | h1
  ·exact .inl h1
  ·exact .inr ⟨h1, by rw [hs]; exact hk.2.2.1⟩
 ·rw [Below.heap_setCell w6 ⟨g, 1, none⟩ v1 k h1, hg.block k (by omega) (fun he => h2 he.symm)]
  exact hb.block k hk
 ·rcases hat with e | ⟨b, e, hb'⟩
  ·exact .inl e
  ·exact .inr ⟨b, e, by omega⟩
end
def rg10_6_T : Bool × List (List Nat × List Nat) := (true, [([], []), ([], []), ([1], [1]), ([2], [2]), ([3], [3]), ([], []), ([5], [5]), ([6], [6]), ([4, 7, 6], [4, 7]), ([0, 0, 1, 2, 3, 4, 5, 6, 7, 8], [0]), ([9, 0, 1, 2, 3, 4, 5, 6, 7, 8], [9]), ([10, 8, 8, 0, 1, 2, 3, 4, 5, 6, 7, 8], [8, 10])])
def rg10_6_B : List Nat := [0, 0, 2, 6, 14, 0, 32, 96, 254, 511, 1023, 2047]
theorem rg10_6_tab : rtab .any (opsOf Try.f10 6) = rg10_6_T := by kernel_rfl
theorem rg10_6_bits : waitsOk rg10_6_T.2 rg10_6_B = true := by kernel_rfl
set_option maxHeartbeats 8000000 in
set_option maxRecDepth 100000 in
theorem send_calls (W w : World) (g : Nat) (room : Int) (ok : Nat → Prop) (v : Value) (l : List S32) (h : NS W w g room ok v l) (hr : 1 ≤ room ∧ room ≤ 1024) (x : S32) (v7 v8 : Value) (hx : RdL w x v7 v8) (hb7 : x.f7.length ≤ 8796093022000) (hb8 : x.f8.length ≤ 8796093022000) :
  Calls Try.prog 10 #[.pointer (some ⟨g, 0, none⟩), agL x v7 v8] w fun e w' => e = .returned (.int .i64 (sendE room l x)) ∧ ∃ v', NS W w' g room (fun k => ok k ∨ (w.heap.size ≤ k ∧ k < w'.heap.size)) v' (sendL room l x) ∧ NStep w w' g v v' := by
 obtain ⟨⟨A7, c7, rfl, h7, hc7⟩, ⟨A8, c8, rfl, h8, hc8⟩⟩ := hx
 have hu32 := Try.underlying32
 have hu62 := Try.underlying62
 obtain ⟨n7, hn7⟩ : ∃ n, n = x.f7.length := ⟨_, rfl⟩
 obtain ⟨n8, hn8⟩ : ∃ n, n = x.f8.length := ⟨_, rfl⟩
 have H7 := Aside0.mk h7
 have H8 := Aside0.mk h8
 have HC7 := Aside0.mk hc7
 have HC8 := Aside0.mk hc8
 have HL7 := Aside0.mk hb7
 have HL8 := Aside0.mk hb8
 have HN7 := Aside0.mk hn7
 have HN8 := Aside0.mk hn8
 rw [← hn7, ← hn8]
 clear h7 h8 hc7 hc8 hb7 hb8 hn7 hn8
 obtain ⟨A, c, hv⟩ := Kd.S_slice h.row
 subst hv
 obtain ⟨n, hn⟩ : ∃ n, n = l.length := ⟨_, rfl⟩
 rw [← hn] at h ⊢
 have HN := Aside0.mk hn
 have HH := Aside0.mk h
 have HRM := Aside0.mk hr
 clear h hn
 by_cases hk : chkS x = 0
 rotate_left
 ·have d1 : (chkS x == 0) = false := beq_eq_false_iff_ne.2 hk
  have d2 : (chkS x != 0) = true := bne_iff_ne.2 hk
  have HE : Aside0 (sendE room l x = chkS x ∧ sendL room l x = l) := ⟨if_pos hk, if_pos hk⟩
  rw [HE.out.1, HE.out.2]
  clear hk hr
  go_enter Try.func10, Try.ntmps10
  go_wp2_with (first | ((with_reducible refine gate_dst (N := 3) rfl ?_); refine box_event ?hg3 (N := 3) ?hd3 (cs := #[.int .i64 x.f0, .int .i64 x.f1, .int .i64 x.f2, .int .i64 x.f3, .int .i64 x.f4, .int .i64 x.f5, .string x.f6, .slice A7 n7 c7, .slice A8 n8 c8]) (t := 32) ?hr3 ?_; (case hd3 => rfl); (case hg3 => rfl); (case hr3 => first | (go_simp; done) | (go_simp; rfl)); intro gb hg w1 hbox hb; have HX1 := Aside0.mk hbox; have HB1 := Aside0.mk hb; have HSB := Aside0.mk (show w.heap.size ≤ gb from Nat.le_of_eq hg.symm); obtain ⟨hx0, hx1, hx2, hx3, hx4, hx5, hx6, hx7, hx8⟩ := c9 hbox; clear hg hbox hb) | (go_at_call 23; (with_reducible refine (check_len HN7.out HN8.out (Kd.C_below H7.out HB1.out) HC7.out (Kd.C_below H8.out HB1.out) HC8.out HL7.out HL8.out).mono ?_); rintro e w2 ⟨rfl, hb⟩; have HX2 := Aside0.mk (blk_below HX1.out hb); have HB2 := Aside0.mk (below_step (w := w) HB1.out hb); clear hb hx0 hx1 hx2 hx3 hx4 hx5 hx6 hx7 hx8))
  go_ret
  exact ⟨rfl, ⟨_, (HH.out.below HB2.out).mono (fun _ hk => .inl hk), NStep.of_below HB2.out _ _⟩⟩
 have HK := Aside0.mk (chk_small hk)
 have d1 : (chkS x == 0) = true := beq_iff_eq.2 hk
 have d2 : (chkS x != 0) = false := bne_eq_false_iff_eq.2 hk
 by_cases hf : room ≤ (n : Int)
 ·have d3 : decide (room ≤ (n : Int)) = true := decide_eq_true hf
  have HE : Aside0 (sendE room l x = 150 ∧ sendL room l x = l) := ⟨by unfold sendE; rw [if_neg (fun c => c hk), if_pos (by rw [← HN.out]; exact hf)], by unfold sendL; rw [if_neg (fun c => c hk), if_pos (by rw [← HN.out]; exact hf)]⟩
  rw [HE.out.1, HE.out.2]
  clear hk hr hf
  go_enter Try.func10, Try.ntmps10
  go_upto_region 4 with (first | ((with_reducible refine gate_dst (N := 3) rfl ?_); refine box_event ?hg3 (N := 3) ?hd3 (cs := #[.int .i64 x.f0, .int .i64 x.f1, .int .i64 x.f2, .int .i64 x.f3, .int .i64 x.f4, .int .i64 x.f5, .string x.f6, .slice A7 n7 c7, .slice A8 n8 c8]) (t := 32) ?hr3 ?_; (case hd3 => rfl); (case hg3 => rfl); (case hr3 => first | (go_simp; done) | (go_simp; rfl)); intro gb hg w1 hbox hb; have HX1 := Aside0.mk hbox; have HB1 := Aside0.mk hb; have HSB := Aside0.mk (show w.heap.size ≤ gb from Nat.le_of_eq hg.symm); obtain ⟨hx0, hx1, hx2, hx3, hx4, hx5, hx6, hx7, hx8⟩ := c9 hbox; clear hg hbox hb) | (go_at_call 23; (with_reducible refine (check_len HN7.out HN8.out (Kd.C_below H7.out HB1.out) HC7.out (Kd.C_below H8.out HB1.out) HC8.out HL7.out HL8.out).mono ?_); rintro e w2 ⟨rfl, hb⟩; have HX2 := Aside0.mk (blk_below HX1.out hb); have HB2 := Aside0.mk (below_step (w := w) HB1.out hb); clear hb hx0 hx1 hx2 hx3 hx4 hx5 hx6 hx7 hx8))
  have HH2 := Aside0.mk (HH.out.below HB2.out)
  have y0 : w2.cell? ⟨g, 0, none⟩ = some (.int .i64 room) := (blk_cell HH2.out.blk 0).trans rfl
  have y1 : w2.cell? ⟨g, 1, none⟩ = some (.slice A n c) := (blk_cell HH2.out.blk 1).trans rfl
  go_region_held3 (fun W => W.cell? ⟨g, 0, none⟩ = some (.int .i64 room) ∧ W.cell? ⟨g, 1, none⟩ = some (.slice A n c)) (go_keep) (fail)
  have HB3 := Aside0.mk (below_drew HB2.out)
  generalize w2.drew = w3 at HB3 ⊢
  clear y0 y1
  go_wp2
  go_ret
  exact ⟨rfl, ⟨_, (HH.out.below HB3.out).mono (fun _ hk => .inl hk), NStep.of_below HB3.out _ _⟩⟩
 have d3 : decide (room ≤ (n : Int)) = false := decide_eq_false hf
 have HE : Aside0 (sendE room l x = 0 ∧ sendL room l x = l ++ [x]) := ⟨by unfold sendE; rw [if_neg (fun c => c hk), if_neg (by rw [← HN.out]; exact hf)], by unfold sendL; rw [if_neg (fun c => c hk), if_neg (by rw [← HN.out]; exact hf)]⟩
 rw [HE.out.1, HE.out.2]
 have HNL : Aside0 (l.length < 1024) := ⟨by rw [← HN.out]; omega⟩
 clear hk hr hf
 go_enter Try.func10, Try.ntmps10
 go_upto_region 4 with (first | ((with_reducible refine gate_dst (N := 3) rfl ?_); refine box_event ?hg3 (N := 3) ?hd3 (cs := #[.int .i64 x.f0, .int .i64 x.f1, .int .i64 x.f2, .int .i64 x.f3, .int .i64 x.f4, .int .i64 x.f5, .string x.f6, .slice A7 n7 c7, .slice A8 n8 c8]) (t := 32) ?hr3 ?_; (case hd3 => rfl); (case hg3 => rfl); (case hr3 => first | (go_simp; done) | (go_simp; rfl)); intro gb hg w1 hbox hb; have HX1 := Aside0.mk hbox; have HB1 := Aside0.mk hb; have HSB := Aside0.mk (show w.heap.size ≤ gb from Nat.le_of_eq hg.symm); obtain ⟨hx0, hx1, hx2, hx3, hx4, hx5, hx6, hx7, hx8⟩ := c9 hbox; clear hg hbox hb) | (go_at_call 23; (with_reducible refine (check_len HN7.out HN8.out (Kd.C_below H7.out HB1.out) HC7.out (Kd.C_below H8.out HB1.out) HC8.out HL7.out HL8.out).mono ?_); rintro e w2 ⟨rfl, hb⟩; have HX2 := Aside0.mk (blk_below HX1.out hb); have HB2 := Aside0.mk (below_step (w := w) HB1.out hb); clear hb hx0 hx1 hx2 hx3 hx4 hx5 hx6 hx7 hx8))
 have HH2 := Aside0.mk (HH.out.below HB2.out)
 have y0 : w2.cell? ⟨g, 0, none⟩ = some (.int .i64 room) := (blk_cell HH2.out.blk 0).trans rfl
 have y1 : w2.cell? ⟨g, 1, none⟩ = some (.slice A n c) := (blk_cell HH2.out.blk 1).trans rfl
 go_region_held3 (fun W => W.cell? ⟨g, 0, none⟩ = some (.int .i64 room) ∧ W.cell? ⟨g, 1, none⟩ = some (.slice A n c)) (go_keep) (fail)
 have HB3 := Aside0.mk (below_drew HB2.out)
 have HX3 := Aside0.mk (blk_drew HX2.out)
 generalize w2.drew = w3 at HB3 HX3 ⊢
 clear y0 y1 HH2 HX2 HX1
 have HH3 := Aside0.mk (HH.out.below HB3.out)
 go_upto_region 6 with (fail)
 refine start_ (n := 12) (S := fun w' => w'.heap[g]? = some (.cells #[.int .i64 room, .slice A n c] 62 (0, 0)) ∧ w'.heap[gb]? = some (.cells #[.int .i64 x.f0, .int .i64 x.f1, .int .i64 x.f2, .int .i64 x.f3, .int .i64 x.f4, .int .i64 x.f5, .string x.f6, .slice A7 n7 c7, .slice A8 n8 c8] 32 (0, 0))) (ds := [11]) #[false, false, false, false, false, false, false, false, false, false, false, false] (by kernel_rfl) rfl rfl ⟨blk_drew HH3.out.blk, blk_drew HX3.out⟩ (fun hHeld => ?_)
 refine with_tabW rg10_6_tab rg10_6_bits (fun HT_ HW_ => ?_)
 obtain ⟨W4, hW_⟩ : ∃ W_, W_ = w3.drew := ⟨_, rfl⟩
 have HX4 := Aside0.mk (blk_drew HX3.out)
 have HB4 := Aside0.mk (below_drew HB3.out)
 rw [← hW_] at hHeld HX4 HB4 ⊢
 clear hW_
 have HG4 := Aside0.mk hHeld.1
 refine pure_ (i := 0) (N := some 21) (v := ?_) (a' := ?_) #[true, false, false, false, false, false, false, false, false, false, false, false] rfl rfl (any_of HT_.out (by kernel_rfl)) (fun _ _ _ h => h) (Or.inl ⟨by rfl, ?_⟩) ?_ ?_
 rotate_left
 ·intro w'
  go_simp
  with_reducible rfl
 rotate_left
 ·simp only [Act.put, List.setIfInBounds_toArray, List.set_cons_zero, List.set_cons_succ, i64_w, i32_w]
  rfl
 refine pure_ (i := 1) (N := some 22) (v := ?_) (a' := ?_) #[true, true, false, false, false, false, false, false, false, false, false, false] rfl rfl (any_of HT_.out (by kernel_rfl)) (fun _ _ _ h => h) (Or.inl ⟨by rfl, ?_⟩) ?_ ?_
 rotate_left
 ·intro w'
  go_simp
  with_reducible rfl
 rotate_left
 ·simp only [Act.put, List.setIfInBounds_toArray, List.set_cons_zero, List.set_cons_succ, i64_w, i32_w]
  rfl
 refine pure_ (i := 2) (N := some 23) (v := ?_) (a' := ?_) #[true, true, true, false, false, false, false, false, false, false, false, false] rfl rfl (any_of HT_.out (by kernel_rfl)) (fun _ _ _ h => h) (Or.inl ⟨by rfl, ?_⟩) ?_ ?_
 rotate_left
 ·intro w'
  go_simp
  with_reducible rfl
 rotate_left
 ·simp only [Act.put, List.setIfInBounds_toArray, List.set_cons_zero, List.set_cons_succ, i64_w, i32_w]
  rfl
 refine pure_ (i := 3) (N := some 24) (v := ?_) (a' := ?_) #[true, true, true, true, false, false, false, false, false, false, false, false] rfl rfl (any_of HT_.out (by kernel_rfl)) (fun _ _ _ h => h) (Or.inl ⟨by rfl, ?_⟩) ?_ ?_
 rotate_left
 ·intro w'
  go_simp
  with_reducible rfl
 rotate_left
 ·simp only [Act.put, List.setIfInBounds_toArray, List.set_cons_zero, List.set_cons_succ, i64_w, i32_w]
  rfl
 refine take_ (i := 4) (N := some 25) (v := ?_) (a' := ?_) #[true, true, true, true, true, false, false, false, false, false, false, false] rfl rfl (take_ofW HT_.out HW_.out (by kernel_rfl)) (fun _ _ _ h => h) (Or.inl ⟨by rfl, ?_⟩) hHeld ?_ ?_
 rotate_left
 ·rintro w' ⟨s0, s1⟩
  have y1 : w'.cell? ⟨g, 1, none⟩ = some (.slice A n c) := (blk_cell s0 1).trans rfl
  go_simp
  with_reducible rfl
 rotate_left
 ·simp only [Act.put, List.setIfInBounds_toArray, List.set_cons_zero, List.set_cons_succ, i64_w, i32_w]
  rfl
 refine take_ (i := 5) (N := some 26) (v := ?_) (a' := ?_) #[true, true, true, true, true, true, false, false, false, false, false, false] rfl rfl (take_ofW HT_.out HW_.out (by kernel_rfl)) (fun _ _ _ h => h) (Or.inl ⟨by rfl, ?_⟩) hHeld ?_ ?_
 rotate_left
 ·rintro w' ⟨s0, s1⟩
  obtain ⟨hx0, hx1, hx2, hx3, hx4, hx5, hx6, hx7, hx8⟩ := c9 s1
  go_simp
  with_reducible rfl
 rotate_left
 ·simp only [Act.put, List.setIfInBounds_toArray, List.set_cons_zero, List.set_cons_succ, i64_w, i32_w]
  rfl
 refine one_ (i := 6) (N := some 27) #[true, true, true, true, true, true, true, false, false, false, false, false] rfl rfl (one_of HT_.out (by kernel_rfl)) (by decide) (fun K hK => ?_)
 (refine goes_ Try.func24 (by kernel_rfl) rfl #[.agg #[.int .i64 x.f0, .int .i64 x.f1, .int .i64 x.f2, .int .i64 x.f3, .int .i64 x.f4, .int .i64 x.f5, .string x.f6, .slice A7 n7 c7, .slice A8 n8 c8]] (by rfl) rfl rfl (by (try simp only [List.map_toArray, List.map_cons, List.map_nil]); first | done | rfl) ?_; refine (copied_len HN7.out HN8.out (Kd.C_below H7.out HB4.out) HC7.out (Kd.C_below H8.out HB4.out) HC8.out HK.out.1 HK.out.2).mono ?_; rintro e w5 ⟨B7, d7, B8, d8, rfl, h7, h8, hb⟩; refine ⟨_, rfl, ?_⟩; have R7 := Aside0.mk h7; have R8 := Aside0.mk h8; have HX5 := Aside0.mk (blk_below HX4.out hb); have HG5 := Aside0.mk (blk_below HG4.out hb); have HB5 := Aside0.mk (below_step (w := w) HB4.out hb); have HSZ := Aside0.mk HB4.out.size; clear h7 h8 hb)
 refine hK.out _ _ ⟨HG5.out, HX5.out⟩ (fun hHeld => ?_)
 clear hK K
 refine norm_ (a' := ?_) ?_ ?_
 rotate_left
 ·show Act.put _ (some 27) _ = _
  simp only [Act.put, List.setIfInBounds_toArray, List.set_cons_zero, List.set_cons_succ, i64_w, i32_w]
  rfl
 refine one_ (i := 7) (N := some 28) #[true, true, true, true, true, true, true, true, false, false, false, false] rfl rfl (one_of HT_.out (by kernel_rfl)) (by decide) (fun K hK => ?_)
 (refine value_ (w1 := ?_) (v := ?_) (by rfl) rfl ?_ ?_; rotate_left 2; · (go_simp; constructor; rfl; rfl))
 refine hK.out _ _ ⟨blk_alloc HG5.out _, blk_alloc HX5.out _⟩ (fun hHeld => ?_)
 clear hK K
 try simp only [Act.put, List.setIfInBounds_toArray, List.set_cons_zero, List.set_cons_succ, i64_w, i32_w]
 have HO5 := Aside0.mk (send_ho HH.out HB5.out)
 have HP5 := Aside0.mk (send_hp (base := W.heap.size) (w := w) (by have := HH.out.bel.size; exact this) HSZ.out R7.out R8.out)
 refine one_ (i := 8) (N := some 29) #[true, true, true, true, true, true, true, true, true, false, false, false] rfl rfl (one_of HT_.out (by kernel_rfl)) (by decide) (fun K hK => ?_)
 (refine Kd.S_append_step k32 (w0 := W) (W := w5) W.heap.size (by rfl) (.tmp 25) (.tmp 28) 57 32 (.agg #[.int .i64 0, .int .i64 0, .int .i64 0, .int .i64 0, .int .i64 0, .int .i64 0, .string (⟨#[]⟩ : ByteArray), .slice none 0 0, .slice none 0 0]) 112 rfl Try.underlying57 info32 rfl (Nat.succ_pos 8) (by omega) (.slice A n c) l x [.int .i64 x.f0, .int .i64 x.f1, .int .i64 x.f2, .int .i64 x.f3, .int .i64 x.f4, .int .i64 x.f5, .string x.f6, .slice B7 n7 d7, .slice B8 n8 d8] (fun k => ok k ∨ w.heap.size ≤ k) (fun k => w.heap.size ≤ k ∧ k < w5.heap.size) rfl rfl HP5.out (send_hokp HH.out) (fun k hk => .inr (by have := HB5.out.size; omega)) HO5.out (below_step HH.out.bel HB5.out) (below_step HH.out.bel HB5.out).size (by have := HNL.out; omega) ?_; intro v45 W6 ho hb hg hat; obtain ⟨A9, c9', hv9⟩ := Kd.S_slice ho; obtain ⟨n9, hn9⟩ : ∃ n9, n9 = (l ++ [x]).length := ⟨_, rfl⟩; rw [← hn9] at hv9; subst hv9; have HO6 := Aside0.mk ho; have HB6 := Aside0.mk hb; have HG6 := Aside0.mk hg; have HT6 := Aside0.mk hat; have HNE := Aside0.mk (Kd.S_ne HH.out.row HH.out.blk (by decide)); have HK6 := Aside0.mk (blk_grown HG5.out hg HNE.out); have HX6 : Aside0 (W6.heap[gb]? = some (.cells #[.int .i64 x.f0, .int .i64 x.f1, .int .i64 x.f2, .int .i64 x.f3, .int .i64 x.f4, .int .i64 x.f5, .string x.f6, .slice A7 n7 c7, .slice A8 n8 c8] 32 (0, 0))) := ⟨send_gb HH.out HB5.out HX5.out HSB.out hg⟩; clear ho hb hg hat hn9)
 refine hK.out _ _ ⟨HK6.out, HX6.out⟩ (fun hHeld => ?_)
 clear hK K
 refine norm_ (a' := ?_) ?_ ?_
 rotate_left
 ·show Act.put _ (some 29) _ = _
  simp only [Act.put, List.setIfInBounds_toArray, List.set_cons_zero, List.set_cons_succ, i64_w, i32_w]
  rfl
 refine pure_ (i := 9) (N := some 30) (v := ?_) (a' := ?_) #[true, true, true, true, true, true, true, true, true, true, false, false] rfl rfl (any_of HT_.out (by kernel_rfl)) (fun _ _ _ h => h) (Or.inl ⟨by rfl, ?_⟩) ?_ ?_
 rotate_left
 ·intro w'
  go_simp
  with_reducible rfl
 rotate_left
 ·simp only [Act.put, List.setIfInBounds_toArray, List.set_cons_zero, List.set_cons_succ, i64_w, i32_w]
  rfl
 refine pure_ (i := 10) (N := some 31) (v := ?_) (a' := ?_) #[true, true, true, true, true, true, true, true, true, true, true, false] rfl rfl (any_of HT_.out (by kernel_rfl)) (fun _ _ _ h => h) (Or.inl ⟨by rfl, ?_⟩) ?_ ?_
 rotate_left
 ·intro w'
  go_simp
  with_reducible rfl
 rotate_left
 ·simp only [Act.put, List.setIfInBounds_toArray, List.set_cons_zero, List.set_cons_succ, i64_w, i32_w]
  rfl
 have g0 : W6.cell? ⟨g, 1, none⟩ = some (.slice A n c) := (blk_cell HK6.out 1).trans rfl
 have zf0 := blk_frozen HK6.out 1
 refine last_ (i := 11) (N := none) #[true, true, true, true, true, true, true, true, true, true, true, true] rfl rfl (one_of HT_.out (by kernel_rfl)) (by decide) (fun K hK => ?_)
 (refine skip_ (w1 := ?_) (by rfl) rfl ?_ ?_; rotate_left; · (go_simp; rfl))
 refine hK.out _ _ ?_
 clear hK K
 try simp only [Act.put, List.setIfInBounds_toArray, List.set_cons_zero, List.set_cons_succ, i64_w, i32_w]
 refine done_ (done_of HT_.out (by kernel_rfl)) ?_
 have HF := Aside0.mk (send_end HH.out HB5.out HG6.out HB6.out HK6.out HO6.out HT6.out)
 generalize W6.setCell ⟨g, 1, none⟩ (.slice A9 n9 c9') = W7 at HF ⊢
 clear g0 zf0 hHeld
 go_wp2
 go_ret
 exact ⟨rfl, ⟨_, HF.out.1, HF.out.2⟩⟩
end Go.Proofs.Ytnbomedhehoflaa.Al

namespace Go.Proofs.Ytnbomedhehoflaa.Al
open Go.RowKit Go.Proofs.YtnbomedhehoflaaW.PrintWords Go.Proofs.YtnbomedhehoflaaW.PrintLast Go.Proofs.YtnbomedhehoflaaW.PrintMore
attribute [local go_sem] max2_int min2_int max_two min_two max_three min_three max_four min_four   -- for this text's walks alone
set_option linter.unusedVariables false
set_option linter.unusedSimpArgs false
/-- A state of type 62 at block g of W; what its slices lead to came in by w0. -/
def IsS62 (w0 W : World) (g : Nat) (f0 : Int) (f1 : List (S32)) : Prop := ∃ A1 c1, W.heap[g]? = some (.cells #[.int .i64 f0, .slice A1 f1.length c1] 62 (0, 0)) ∧ w0.heap.size ≤ g ∧ Kd.C k32 w0 A1 f1.length f1
theorem IsS62.grown {w0 W : World} {g : Nat} {f0 : Int} {f1 : List (S32)} {W1 : World} {row : Option Nat} (h : IsS62 w0 W g f0 f1) (hw : W.grownBy W1 row) (hne : some g ≠ row) : IsS62 w0 W1 g f0 f1 := by
 obtain ⟨A1, c1, hb, hg, hr1⟩ := h
 exact ⟨A1, c1, blk_grown hb hw hne, hg, hr1⟩
theorem IsS62.kept {w0 W : World} {g : Nat} {f0 : Int} {f1 : List (S32)} {W1 : World} {S : Nat → Prop} (h : IsS62 w0 W g f0 f1) (hk : Kept W W1 S) (hne : ¬ S g) : IsS62 w0 W1 g f0 f1 := by
 obtain ⟨A1, c1, hb, hg, hr1⟩ := h
 exact ⟨A1, c1, blk_kept hb hk hne, hg, hr1⟩
theorem IsS62.below {w0 W : World} {g : Nat} {f0 : Int} {f1 : List (S32)} {W1 : World} (h : IsS62 w0 W g f0 f1) (hw : Below W.heap.size W W1) : IsS62 w0 W1 g f0 f1 := h.grown (grown_of_below hw none) (by simp)
theorem IsS62.alloc {w0 W : World} {g : Nat} {f0 : Int} {f1 : List (S32)} (h : IsS62 w0 W g f0 f1) (o : Obj) : IsS62 w0 (W.alloc o) g f0 f1 := h.below (below_alloc (Below.refl _ _) o)
theorem IsS62.drew {w0 W : World} {g : Nat} {f0 : Int} {f1 : List (S32)} (h : IsS62 w0 W g f0 f1) : IsS62 w0 W.drew g f0 f1 := h
theorem IsS62.apart {w0 W : World} {g : Nat} {f0 : Int} {f1 : List (S32)} {α : Type} {d : Kd α} {e : Nat} {base : Nat} {ok : Nat → Prop} {v : Value} {xs : List α} (h : IsS62 w0 W g f0 f1) (ho : d.R e W base ok v xs) (ht : ∀ q, q ∈ e :: d.E → q ≠ 62) : d.R e W base (fun k => ok k ∧ k ≠ g) v xs := by
 obtain ⟨A1, c1, hb, hg, hr1⟩ := h
 exact Kd.R_types ho hb ht
theorem IsS62.own_ne {w0 W : World} {g : Nat} {f0 : Int} {f1 : List (S32)} {α : Type} {d : Kd α} {e : Nat} {base : Nat} {ok : Nat → Prop} {v : Value} {xs : List α} (h : IsS62 w0 W g f0 f1) (ho : d.R e W base ok v xs) (ht : e ≠ 62) : some g ≠ v.ownBlock := by
 obtain ⟨A1, c1, hb, hg, hr1⟩ := h
 exact Kd.R_ne ho hb ht
theorem IsS62.new (w0 W : World) (A1 : Option Addr) (c1 : Nat) (f0 : Int) (f1 : List (S32)) (hB : Below w0.heap.size w0 W) (hr1 : Kd.C k32 w0 A1 f1.length f1) : IsS62 w0 (W.alloc (.cells #[.int .i64 f0, .slice A1 f1.length c1] 62)) W.heap.size f0 f1 := ⟨A1, c1, by simpa using heap_alloc_new W _, hB.size, hr1⟩
end Go.Proofs.Ytnbomedhehoflaa.Al

namespace Go.Proofs.Ytnbomedhehoflaa.Al
open Go.RowKit Go.Proofs.YtnbomedhehoflaaW.PrintWords Go.Proofs.YtnbomedhehoflaaW.PrintLast Go.Proofs.YtnbomedhehoflaaW.PrintMore
attribute [local go_sem] max2_int min2_int max_two min_two max_three min_three max_four min_four   -- for this text's walks alone
set_option linter.unusedVariables false
set_option linter.unusedSimpArgs false
attribute [local go_sem high] eqA72
def corncribbook_Among.f (a0 : Int) (a1 : Int) : Option (Int) := if a1 = 0 then (none) else (some (Int.tmod (wrap64 ((Int.tmod a0 a1) + a1)) a1))
set_option maxHeartbeats 8000000 in
set_option maxRecDepth 100000 in
theorem corncribbook_Among.calls (a0 : Int) (a1 : Int) (r : Int) (w : World) (h : corncribbook_Among.f a0 a1 = some r) :
  Calls Try.prog 14 #[.int .i64 a0, .int .i64 a1] w fun e w' => e = .returned (.int .i64 r) ∧ Drawn0 w w' := by
 have H : (if a1 = 0 then (none) else (some (Int.tmod (wrap64 ((Int.tmod a0 a1) + a1)) a1))) = some r := h
 clear h
 by_cases c3 : a1 = 0
 ·rw [if_pos c3] at H
  exact absurd H (by simp)
 ·rw [if_neg c3] at H
  have c3b0 : (a1 == 0) = false := beq_eq_false_iff_ne.mpr c3
  have c3b1 : (a1 != 0) = true := bne_iff_ne.mpr c3
  obtain rfl := Option.some.inj H
  go_enter Try.func14, Try.ntmps14
  go_wp2
  go_ret
  exact ⟨by first | rfl | (simp; done) | (simp [*]; done), by repeat (first | exact Drawn0.refl _ | apply Drawn0.step)⟩
end Go.Proofs.Ytnbomedhehoflaa.Al

namespace Go.Proofs.Ytnbomedhehoflaa.Amg
open Go.RowKit Go.Proofs.Ytnbomedhehoflaa.Base Go.Proofs.Ytnbomedhehoflaa.Al Go.Proofs.YtnbomedhehoflaaW.PrintWords
set_option linter.unusedVariables false
set_option linter.unusedSimpArgs false
theorem among_eq (a n : Int) (h0 : 0 < n) (hn : n ≤ 4611686018427387904) : corncribbook_Among.f a n = some (a % n) := by
 unfold corncribbook_Among.f
 rw [if_neg (by omega)]
 have h1 : -n < Int.tmod a n ∧ (Int.tmod a n) % n = a % n := by
  rcases Int.le_total 0 a with ha | ha
  ·rw [Int.tmod_eq_emod_of_nonneg ha]
   have := Int.emod_nonneg a (by omega : n ≠ 0)
   exact ⟨by omega, Int.emod_emod_of_dvd _ (Int.dvd_refl _)⟩
  ·obtain ⟨b, rfl⟩ : ∃ b, a = -b := ⟨-a, by omega⟩
   rw [Int.neg_tmod, Int.tmod_eq_emod_of_nonneg (by omega)]
   have := Int.emod_lt_of_pos b h0
   refine ⟨by omega, ?_⟩
   rw [Int.neg_emod_eq_sub_emod, Int.neg_emod_eq_sub_emod, Int.sub_emod_emod]
 have h2 : Int.tmod a n < n := Int.tmod_lt_of_pos a h0
 obtain ⟨h1, h3⟩ := h1
 rw [wrap_id (by omega) (by omega), Int.tmod_eq_emod_of_nonneg (by omega), Int.add_emod_right, h3]
end Go.Proofs.Ytnbomedhehoflaa.Amg

namespace Go.Proofs.Ytnbomedhehoflaa.Al
open Go.RowKit Go.Proofs.YtnbomedhehoflaaW.PrintWords Go.Proofs.YtnbomedhehoflaaW.PrintLast Go.Proofs.YtnbomedhehoflaaW.PrintMore
set_option linter.unusedVariables false
set_option linter.unusedSimpArgs false
theorem new_calls (W w : World) (hB : Below W.heap.size W w) (ok : Nat → Prop) (room : Int) (h0 : 1 ≤ room) (h1 : room ≤ 1024) : Calls Try.prog 8 #[.int .i64 room] w fun e w' => ∃ g, e = .returned (.tuple #[.pointer (some ⟨g, 0, none⟩), .int .i64 0]) ∧ NS W w' g room ok (.slice none 0 0) [] ∧ g = w.heap.size ∧ Below w.heap.size w w' := by
 have hu62 := Try.underlying62
 have d1 : decide (room < 1) = false := decide_eq_false (by omega)
 have d2 : decide (1024 < room) = false := decide_eq_false (by omega)
 have HB0 := Aside0.mk hB
 clear h0 h1 hB
 go_enter Try.func8, Try.ntmps8
 go_wp2_with ((with_reducible refine gate_dst (N := 12) rfl ?_); refine box_event ?hg (N := 12) ?hd (cs := #[.int .i64 room, .slice none 0 0]) (t := 62) ?hr ?_; (case hd => rfl); (case hg => rfl); (case hr => first | (go_simp; done) | (go_simp; rfl)); intro g hgg w1 hbox hb; have HX := Aside0.mk hbox; have HB := Aside0.mk hb; have HG := Aside0.mk hgg; clear hgg hbox hb)
 exact bodyPost_ret (v := .tuple #[.pointer (some ⟨g, 0, none⟩), .int .i64 0]) (by simp [results, Try.results8, go_sem]) rfl ⟨g, rfl, ⟨HX.out, by rw [HG.out]; exact HB0.out.size, Kd.S_nil _ _ _ _ _, below_step HB0.out HB.out⟩, HG.out, HB.out⟩
section
variable {W w : World} {g : Nat} {room : Int} {ok : Nat → Prop} {v : Value} {l : List S32}
theorem len_calls (h : NS W w g room ok v l) : Calls Try.prog 13 #[.pointer (some ⟨g, 0, none⟩)] w fun e w' => e = .returned (.int .i64 (l.length : Int)) ∧ Below w.heap.size w w' := by
 obtain ⟨A, c, rfl⟩ := Kd.S_slice h.row
 have f1 : w.cell? ⟨g, 1, none⟩ = some (.slice A l.length c) := (blk_cell h.blk 1).trans rfl
 clear h
 go_enter Try.func13, Try.ntmps13
 go_wp2
 go_ret
 exact ⟨rfl, Below.refl _ _⟩
theorem place_num (p : Int) (n : Nat) (h : 0 < n) (hn : n ≤ 1024) : Int.tmod (wrap64 (Int.tmod p (n : Int) + (n : Int))) (n : Int) = p % (n : Int) ∧ Int.tmod (IntKind.i64.wrap (Int.tmod p (n : Int) + (n : Int))) (n : Int) = p % (n : Int) := by
 have hw : IntKind.i64.wrap (Int.tmod p (n : Int) + (n : Int)) = wrap64 (Int.tmod p (n : Int) + (n : Int)) := by rw [IntKind.wrap_i64]; unfold wrap64; first | rfl | omega
 have h0 := Amg.among_eq p n (by omega) (by omega)
 unfold corncribbook_Among.f at h0
 rw [if_neg (by omega)] at h0
 rw [hw]
 exact ⟨Option.some.inj h0, Option.some.inj h0⟩
theorem place_calls (h : NS W w g room ok v l) (hl : l.length ≤ 1024) (p : Int) : Calls Try.prog 26 #[.pointer (some ⟨g, 0, none⟩), .int .i64 p] w fun e w' => e = .returned (.tuple #[.int .i64 (if l.length = 0 then 0 else p % (l.length : Int)), .int .i64 (if l.length = 0 then 5 else 0)]) ∧ Below w.heap.size w w' := by
 obtain ⟨A, c, rfl⟩ := Kd.S_slice h.row
 obtain ⟨n, hn⟩ : ∃ n, n = l.length := ⟨_, rfl⟩
 rw [← hn] at h hl ⊢
 have f1 : w.cell? ⟨g, 1, none⟩ = some (.slice A n c) := (blk_cell h.blk 1).trans rfl
 clear h hn
 by_cases h0 : n = 0
 ·subst h0
  go_enter Try.func26, Try.ntmps26
  go_wp2
  exact bodyPost_ret (v := .tuple #[.int .i64 0, .int .i64 5]) (by simp [results, Try.results26, go_sem]) rfl ⟨rfl, Below.refl _ _⟩
 ·have d1 : ((n : Int) == 0) = false := beq_eq_false_iff_ne.2 (by omega)
  have HP := Aside0.mk (place_num p n (by omega) hl)
  rw [if_neg h0, if_neg h0]
  have d2 : ¬ (n = 0) := h0
  clear hl
  go_enter Try.func26, Try.ntmps26
  go_wp2
  exact bodyPost_ret (v := .tuple #[.int .i64 (p % (n : Int)), .int .i64 0]) (by simp [results, Try.results26, go_sem, HP.out.1, HP.out.2]) rfl ⟨rfl, Below.refl _ _⟩
end
end Go.Proofs.Ytnbomedhehoflaa.Al

namespace Go.Proofs.Ytnbomedhehoflaa.RowClear
open Go.RowKit Go.Proofs.YtnbomedhehoflaaW.PrintWords
variable {P : Program} {α : Type}
theorem zeroCells_one (z : Value) (m : Nat) (h : ∀ v ∈ z.cells.toList, v.oneCell' = true) (hz : 0 < z.cells.size) : ∀ v ∈ (Builtin.zeroCells z.cells m).toList, v.oneCell' = true := by
 intro v hv
 simp only [Builtin.zeroCells, Array.toList_map, List.mem_map] at hv
 obtain ⟨i, _, rfl⟩ := hv
 have hlt := Nat.mod_lt i hz
 rw [getElem!_pos z.cells (i % z.cells.size) hlt]
 exact h _ (by simp)
/-- The row has n elements; from n on (m of them, within its room) cells are emptied. -/
theorem R_clear_run (d : Kd α) {W : World} (base : Nat) (t ty e : TypeId) (z : Value) (ht : P.underlying t = some (.slice e)) (hv : ∀ w, (zeroValue e).run P w = .ok z w) (hzs : z.cells.size = d.sz) (hz1 : ∀ v ∈ z.cells.toList, v.oneCell' = true)
  {g n c m o : Nat} {xs : List α} {ok : Nat → Prop} (HO : d.R e W base ok (.slice (some ⟨g, 0, none⟩) n c) xs) (ho : o = n * d.sz) (hm : 0 < m) (hmc : n + m ≤ c) (c2 : Nat) :
  ∃ w1, (Builtin.clear_ #[t] ty #[.slice (some ⟨g, o, none⟩) m c2]).run P W = .ok (.tuple #[]) w1 ∧ d.R e w1 base ok (.slice (some ⟨g, 0, none⟩) n c) xs ∧ W.grownBy w1 (some g) := by
 subst ho
 obtain ⟨hn, hnc, _⟩ := Kd.R_reads' HO
 obtain ⟨hok, inner, hown, hr⟩ := HO
 rcases hown.2 with ⟨hv', _⟩ | ⟨g', cap', cur, hv', hb, hh, _, hcm, hcs, htake⟩
 ·cases hv'
 injection hv' with ha _ hc
 injection ha with ha
 injection ha with hg
 subst hg; subst hc
 rw [← hn] at htake
 have hnm : (n + m) * d.sz ≤ c * d.sz := Nat.mul_le_mul_right _ hmc
 have hnm' : (n + m) * d.sz = n * d.sz + m * d.sz := Nat.add_mul _ _ _
 obtain ⟨vs, hvs⟩ : ∃ vs, vs = (Builtin.zeroCells z.cells m).toList := ⟨_, rfl⟩
 have hvl : vs.length = m * d.sz := by rw [hvs, ← hzs]; simp [Builtin.zeroCells]
 have h1 : ∀ v ∈ vs, v.oneCell' = true := by
  intro v hv
  by_cases hs : 0 < z.cells.size
  ·rw [hvs] at hv; exact zeroCells_one z m hz1 hs v hv
  ·exfalso
   have : vs = [] := List.eq_nil_of_length_eq_zero (by rw [hvl, ← hzs, Nat.eq_zero_of_not_pos hs, Nat.mul_zero])
   rw [this] at hv; simp at hv
 have hst := run_storeCells_cells (P := P) g (n * d.sz) vs 0 W (fun j hj => by rw [cell_of_row W g _ cur e (0, 0) hh]; simp; omega) (fun j _ => blk_frozen hh _) h1
 rw [Nat.add_zero] at hst
 obtain ⟨m', rfl⟩ : ∃ k, m = k + 1 := ⟨m - 1, by omega⟩
 have hrun : (Builtin.clear_ #[t] ty #[.slice (some ⟨g, n * d.sz, none⟩) (m' + 1) c2]).run P W = .ok (.tuple #[]) (W.setCells g (n * d.sz) vs) := by
  simp [Builtin.clear_, run_underlying ht, hv, ← hvs, hst]
 obtain ⟨cur', h3, h4, h5⟩ := setCells_row vs (n * d.sz) W cur hh (by omega)
 obtain ⟨s1, s2, s3, s4⟩ := setCells_same g vs (n * d.sz) W
 have hfar : ∀ k', k' ≠ g → (W.setCells g (n * d.sz) vs).heap[k']? = W.heap[k']? := fun k' hk' => setCells_far vs _ k' hk'
 have hgo : some g = (Value.slice (some ⟨g, 0, none⟩) n c).ownBlock := by simp [Value.ownBlock]
 refine ⟨_, hrun, ⟨hok, inner, ⟨hown.1, .inr ⟨g, c, cur', by rw [← hn], hb, h3, by omega, hcm, by rw [h4, hcs], ?_⟩⟩, ?_⟩, ⟨s1, s2, s3, by rw [s4]; exact Nat.le_refl _, fun k' _ hk' => hfar k' (fun he => hk' (by rw [he]))⟩⟩
 ·rw [← hn, h5, ← htake]
  rw [List.append_assoc, List.take_append_of_le_length (by simp; omega), List.take_take, Nat.min_self]
 ·exact hr.imp_ (fun _ _ hp => d.M_move (fun k' hk' => hfar k' (fun he => hk'.2 (by rw [← hgo, he]))) hp)
end Go.Proofs.Ytnbomedhehoflaa.RowClear

namespace Go.Proofs.Ytnbomedhehoflaa.Al
open Go.RowKit Go.Proofs.Ytnbomedhehoflaa.RowClear Go.Proofs.YtnbomedhehoflaaW.PrintWords Go.Proofs.YtnbomedhehoflaaW.PrintLast Go.Proofs.YtnbomedhehoflaaW.PrintMore
set_option linter.unusedVariables false
set_option linter.unusedSimpArgs false
theorem size32 {α : Type} (d : Kd α) (hd : d.sz = 9) : (Try.prog.info? 32).map (·.size) = some d.sz := by rw [hd]; kernel_rfl
theorem cut_at {α : Type} (d : Kd α) (hd : d.sz = 9) (ga c i : Nat) : (if c = i + 1 then some (⟨ga, 0, none⟩ : Addr) else some ⟨ga, (i + 1) * 9, none⟩) = if c = i + 1 then some ⟨ga, 0, none⟩ else (some (⟨ga, 0, none⟩ : Addr)).map (·.add ((i + 1) * d.sz)) := by
 rw [hd]
 split
 ·rfl
 ·show some _ = some ((⟨ga, 0, none⟩ : Addr).add ((i + 1) * 9))
  simp [Addr.add, eq_comm]
def rg46_5_T : Bool × List (List Nat × List Nat) := (true, [([], []), ([], []), ([0, 1], [0, 1]), ([], []), ([], []), ([3, 4], [3, 4]), ([2, 5], [2, 5]), ([6, 6, 0, 1, 2, 3, 4, 5, 6], [0, 3, 6])])
def rg46_5_B : List Nat := [0, 0, 3, 0, 0, 24, 63, 127]
theorem rg46_5_tab : rtab .any (opsOf Try.f46 5) = rg46_5_T := by kernel_rfl
theorem rg46_5_bits : waitsOk rg46_5_T.2 rg46_5_B = true := by kernel_rfl
set_option maxHeartbeats 8000000 in
set_option maxRecDepth 100000 in
theorem delete_calls {α : Type} (d : Kd α) (hd : d.sz = 9) (ok : Nat → Prop) (w0 W : World) (hB : Below w0.heap.size w0 W) (ga c i : Nat) (l : List α) (hR : d.R 32 W w0.heap.size ok (.slice (some ⟨ga, 0, none⟩) l.length c) l) (hi : i < l.length) (hlen : l.length ≤ 1024) :
  Calls Try.prog 46 #[.slice (some ⟨ga, 0, none⟩) l.length c, .int .i64 i, .int .i64 ((i : Int) + 1)] W fun e w' => e = .returned (.slice (some ⟨ga, 0, none⟩) (l.length - 1) c) ∧ d.R 32 w' w0.heap.size ok (.slice (some ⟨ga, 0, none⟩) (l.length - 1) c) (l.eraseIdx i) ∧ W.grownBy w' (some ga) := by
 have hu32 := Try.underlying32
 have hu57 := Try.underlying57
 obtain ⟨_, hc, _⟩ := Kd.R_reads' hR
 have HB0 := Aside0.mk hB
 have HR0 := Aside0.mk hR
 obtain ⟨n, hn⟩ : ∃ n, n = l.length := ⟨_, rfl⟩
 have HN := Aside0.mk hn
 rw [← hn] at hc hi hlen HR0 ⊢
 have n1 : ((i : Int) == (i : Int) + 1) = false := beq_eq_false_iff_ne.2 (by omega)
 have p1 : (i ≤ c) = True := eq_true (by omega)
 have p2 : (0 ≤ (i : Int) + 1) = True := eq_true (by omega)
 have p3 : ((i : Int) + 1 ≤ (n : Int)) = True := eq_true (by omega)
 clear hB hR hn
 go_enter Try.func46, Try.ntmps46
 go_upto_region 5 with (fail)
 refine start_ (n := 8) (S := fun _ => True) (ds := []) #[false, false, false, false, false, false, false, false] (by kernel_rfl) rfl rfl trivial (fun hHeld => ?_)
 refine with_tabW rg46_5_tab rg46_5_bits (fun HT_ HW_ => ?_)
 obtain ⟨W1, hW1⟩ : ∃ W1, W1 = W.drew := ⟨_, rfl⟩
 have HR1 := Aside0.mk (show d.R 32 W1 w0.heap.size ok (.slice (some ⟨ga, 0, none⟩) n c) l from by rw [hW1]; exact Kd.R_below HR0.out (below_drew (Below.refl _ _)))
 have HB1 := Aside0.mk (show Below W.heap.size W W1 from by rw [hW1]; exact below_drew (Below.refl _ _))
 rw [← hW1]
 clear hW1
 refine pure_ (i := 0) (N := some 20) (v := ?_) (a' := ?_) #[true, false, false, false, false, false, false, false] rfl rfl (any_of HT_.out (by kernel_rfl)) (fun _ _ _ h => h) (Or.inl ⟨by rfl, ?_⟩) ?_ ?_
 rotate_left
 ·intro w'
  go_simp
  with_reducible rfl
 rotate_left
 ·simp only [Act.put, List.setIfInBounds_toArray, List.set_cons_zero, List.set_cons_succ, i64_w, i32_w]
  rfl
 refine pure_ (i := 1) (N := some 21) (v := ?_) (a' := ?_) #[true, true, false, false, false, false, false, false] rfl rfl (any_of HT_.out (by kernel_rfl)) (fun _ _ _ h => h) (Or.inl ⟨by rfl, ?_⟩) ?_ ?_
 rotate_left
 ·intro w'
  go_simp
  with_reducible rfl
 rotate_left
 ·simp only [Act.put, List.setIfInBounds_toArray, List.set_cons_zero, List.set_cons_succ, i64_w, i32_w]
  rfl
 refine pure_ (i := 2) (N := some 22) (v := ?_) (a' := ?_) #[true, true, true, false, false, false, false, false] rfl rfl (any_of HT_.out (by kernel_rfl)) (fun _ _ _ h => h) (Or.inl ⟨by rfl, ?_⟩) ?_ ?_
 rotate_left
 ·intro w'
  go_simp
  with_reducible rfl
 rotate_left
 ·simp only [Act.put, List.setIfInBounds_toArray, List.set_cons_zero, List.set_cons_succ, i64_w, i32_w]
  rfl
 refine pure_ (i := 3) (N := some 23) (v := ?_) (a' := ?_) #[true, true, true, true, false, false, false, false] rfl rfl (any_of HT_.out (by kernel_rfl)) (fun _ _ _ h => h) (Or.inl ⟨by rfl, ?_⟩) ?_ ?_
 rotate_left
 ·intro w'
  go_simp
  with_reducible rfl
 rotate_left
 ·simp only [Act.put, List.setIfInBounds_toArray, List.set_cons_zero, List.set_cons_succ, i64_w, i32_w]
  rfl
 refine pure_ (i := 4) (N := some 24) (v := ?_) (a' := ?_) #[true, true, true, true, true, false, false, false] rfl rfl (any_of HT_.out (by kernel_rfl)) (fun _ _ _ h => h) (Or.inl ⟨by rfl, ?_⟩) ?_ ?_
 rotate_left
 ·intro w'
  go_simp
  with_reducible rfl
 rotate_left
 ·simp only [Act.put, List.setIfInBounds_toArray, List.set_cons_zero, List.set_cons_succ, i64_w, i32_w]
  rfl
 refine pure_ (i := 5) (N := some 25) (v := ?_) (a' := ?_) #[true, true, true, true, true, true, false, false] rfl rfl (any_of HT_.out (by kernel_rfl)) (fun _ _ _ h => h) (Or.inl ⟨by rfl, ?_⟩) ?_ ?_
 rotate_left
 ·intro w'
  go_simp
  with_reducible rfl
 rotate_left
 ·simp only [Act.put, List.setIfInBounds_toArray, List.set_cons_zero, List.set_cons_succ, i64_w, i32_w]
  rfl
 refine one_ (i := 6) (N := some 26) #[true, true, true, true, true, true, true, false] rfl rfl (one_of HT_.out (by kernel_rfl)) (by decide) (fun K hK => ?_)
 (refine Kd.R_delete_step d (w0 := W1) w0.heap.size (by rfl) (.tmp 22) (.tmp 25) 57 32 rfl Try.underlying57 (size32 d hd) (n := n) rfl rfl (cut_at d hd ga c i) rfl HR1.out hi (Below.refl _ _) (Nat.le_trans HB0.out.size HB1.out.size) ?_; intro w2 hR2 hb2 hg2; have HR2 := Aside0.mk hR2; have HG2 := Aside0.mk hg2; clear hR2 hb2 hg2)
 refine hK.out _ _ trivial (fun hHeld => ?_)
 clear hK K
 refine norm_ (a' := ?_) ?_ ?_
 rotate_left
 ·show Act.put _ (some 26) _ = _
  simp only [Act.put, List.setIfInBounds_toArray, List.set_cons_zero, List.set_cons_succ, i64_w, i32_w]
  rfl
 refine pure_ (i := 7) (N := some 0) (v := ?_) (a' := ?_) #[true, true, true, true, true, true, true, true] rfl rfl (any_of HT_.out (by kernel_rfl)) (fun _ _ _ h => h) (Or.inl ⟨by rfl, ?_⟩) ?_ ?_
 rotate_left
 ·intro w'
  go_simp
  with_reducible rfl
 rotate_left
 ·simp only [Act.put, List.setIfInBounds_toArray, List.set_cons_zero, List.set_cons_succ, i64_w, i32_w]
  rfl
 refine done_ (done_of HT_.out (by kernel_rfl)) ?_
 generalize (if c = i + 1 then some (⟨ga, 0, none⟩ : Addr) else some ⟨ga, (i + 1) * 9, none⟩) = Acut
 have HL2 : Aside0 ((l.eraseIdx i).length = n - 1) := ⟨by rw [List.length_eraseIdx_of_lt (by rw [← HN.out]; exact hi), ← HN.out]⟩
 obtain ⟨wz, hrun, hRz, hgz⟩ := R_clear_run d w0.heap.size 57 0 32 (.agg #[.int .i64 0, .int .i64 0, .int .i64 0, .int .i64 0, .int .i64 0, .int .i64 0, .string (⟨#[]⟩ : ByteArray), .slice none 0 0, .slice none 0 0]) Try.underlying57 (fun w => by rfl) (by rw [hd]; rfl) (by intro v hv; simp [Value.cells] at hv; rcases hv with rfl | rfl | rfl <;> rfl) (n := n - 1) (m := n - (n - 1)) (o := (n - 1) * 9) HR2.out (by rw [hd]) (by omega) (by omega) (c - (n - 1))
 have HRZ := Aside0.mk hRz
 have HGZ := Aside0.mk hgz
 have q1 : (n - 1 ≤ n) = True := eq_true (by omega)
 have q2 : (n ≤ c) = True := eq_true (by omega)
 have q3 : (((n - 1 : Nat) : Int) ≤ (n : Int)) = True := eq_true (by omega)
 clear hRz hgz hHeld
 have HGA : Aside0 (W.grownBy wz (some ga)) := ⟨by
  have h1 := HB1.out
  have h2 := HG2.out
  have h3 := HGZ.out
  exact ⟨h3.os.trans (h2.os.trans h1.os), h3.tape.trans (h2.tape.trans h1.tape), h3.output.trans (h2.output.trans h1.output), Nat.le_trans h1.size (Nat.le_trans h2.size h3.size), fun k hk hne => (h3.block k (by have := h1.size; have := h2.size; omega) hne).trans ((h2.block k (by have := h1.size; omega) hne).trans (h1.block k hk))⟩⟩
 go_wp2
 go_ret
 exact ⟨rfl, HRZ.out, HGA.out⟩
end Go.Proofs.Ytnbomedhehoflaa.Al

namespace Go.Proofs.Ytnbomedhehoflaa.Al
open Go.RowKit Go.Proofs.YtnbomedhehoflaaW.PrintWords Go.Proofs.YtnbomedhehoflaaW.PrintLast Go.Proofs.YtnbomedhehoflaaW.PrintMore
set_option linter.unusedVariables false
set_option linter.unusedSimpArgs false
/-- Behind an element taken out of a row in which it was a hole: the others are as they were, and lead to none of its blocks. -/
theorem gap_erase {α : Type} {d : Kd α} {e : Nat} {w : World} {base : Nat} {ok : Nat → Prop} {v : Value} {xs : List α} {f : Nat → Nat} {k : Nat} {cs : List Value} (h : (Kd.gap f d k cs).R e w base ok v (xs.zipIdx.eraseIdx k)) : Kd.S d e w base ok v (xs.eraseIdx k) := by
 obtain ⟨h0, inner, ho, hr⟩ := h
 have hl : (xs.zipIdx.eraseIdx k).length = (xs.eraseIdx k).length := by simp only [List.length_eraseIdx, List.length_zipIdx]
 rw [hl] at ho
 refine ⟨fun b => if k < f b then f b - 1 else f b, h0, inner, by rw [List.length_zipIdx]; exact ho, by rw [List.length_zipIdx, ← hl]; exact hr.1, fun j p hj => ?_⟩
 rw [List.getElem?_zipIdx, Nat.zero_add] at hj
 obtain ⟨x, hx, rfl⟩ := Option.map_eq_some_iff.1 hj
 rw [List.getElem?_eraseIdx] at hx
 by_cases hjk : j < k
 ·rw [if_pos hjk] at hx
  refine d.M_mono (fun b hb => ⟨hb.1, ?_⟩) ((hr.2 j (x, j) (by rw [List.getElem?_eraseIdx, if_pos hjk]; exact Kd.zip_at hx)).2 (show j ≠ k by omega))
  have h2 : f b = j := hb.2
  show (if k < f b then f b - 1 else f b) = j
  rw [if_neg (by omega)]; exact h2
 ·rw [if_neg hjk] at hx
  refine d.M_mono (fun b hb => ⟨hb.1, ?_⟩) ((hr.2 j (x, j + 1) (by rw [List.getElem?_eraseIdx, if_neg hjk]; exact Kd.zip_at hx)).2 (show j + 1 ≠ k by omega))
  have h2 : f b = j + 1 := hb.2
  show (if k < f b then f b - 1 else f b) = j
  rw [if_pos (by omega)]; omega
theorem row_out {w : World} {base : Nat} {ok : Nat → Prop} {ga n c : Nat} {l : List S32} (h : k32.S 32 w base ok (.slice (some ⟨ga, 0, none⟩) n c) l) (i : Nat) (hi : i < n) : ∃ (oki : Nat → Prop) (u7 u8 : Value) (f : Nat → Nat),
  (∀ j u, [.int .i64 (l.getD i z32).f0, .int .i64 (l.getD i z32).f1, .int .i64 (l.getD i z32).f2, .int .i64 (l.getD i z32).f3, .int .i64 (l.getD i z32).f4, .int .i64 (l.getD i z32).f5, .string (l.getD i z32).f6, u7, u8][j]? = some u → w.cell? ⟨ga, i * 9 + j, none⟩ = some u) ∧
  Kd.string.R 9 w base oki u7 (l.getD i z32).f7 ∧ k72.R 72 w base oki u8 (l.getD i z32).f8 ∧ (∀ k, oki k → ok k ∧ k ≠ ga) ∧
  (Kd.gap f k32 i [.int .i64 (l.getD i z32).f0, .int .i64 (l.getD i z32).f1, .int .i64 (l.getD i z32).f2, .int .i64 (l.getD i z32).f3, .int .i64 (l.getD i z32).f4, .int .i64 (l.getD i z32).f5, .string (l.getD i z32).f6, u7, u8]).R 32 w base (fun k => ok k ∧ ¬ oki k) (.slice (some ⟨ga, 0, none⟩) n c) l.zipIdx := by
 obtain ⟨oki, cs, _, hM, hc, _, hk, _, f, hR⟩ := Kd.S_elem h z32 (i : Int) (by omega) (by omega)
 rw [Int.toNat_natCast] at hM hc hR
 obtain ⟨u7, u8, rfl, h7, h8⟩ := k32_openM hM
 exact ⟨oki, u7, u8, f, hc, h7, h8, hk, hR⟩
structure NOut (W w : World) (g : Nat) (room : Int) (ok : Nat → Prop) (v : Value) (l : List S32) (i : Nat) (e : Ending) (w' : World) : Prop where
 ex : ∃ (oki : Nat → Prop) (u7 u8 v' : Value), e = .returned (.tuple #[agL (l.getD i z32) u7 u8, .int .i64 0]) ∧ NS W w' g room (fun k => ok k ∧ ¬ oki k) v' (l.eraseIdx i) ∧ Kd.string.R 9 w' W.heap.size oki u7 (l.getD i z32).f7 ∧ k72.R 72 w' W.heap.size oki u8 (l.getD i z32).f8 ∧ (∀ k, oki k → ok k ∧ k < w.heap.size) ∧ NStep w w' g v v'
theorem c9at {w : World} {ga o : Nat} {c0 c1 c2 c3 c4 c5 c6 c7 c8 : Value} (h : ∀ j u, [c0, c1, c2, c3, c4, c5, c6, c7, c8][j]? = some u → w.cell? ⟨ga, o + j, none⟩ = some u) : w.cell? ⟨ga, o, none⟩ = some c0 ∧ w.cell? ⟨ga, o + 1, none⟩ = some c1 ∧ w.cell? ⟨ga, o + 2, none⟩ = some c2 ∧ w.cell? ⟨ga, o + 3, none⟩ = some c3 ∧ w.cell? ⟨ga, o + 4, none⟩ = some c4 ∧ w.cell? ⟨ga, o + 5, none⟩ = some c5 ∧ w.cell? ⟨ga, o + 6, none⟩ = some c6 ∧ w.cell? ⟨ga, o + 7, none⟩ = some c7 ∧ w.cell? ⟨ga, o + 8, none⟩ = some c8 := ⟨h 0 _ rfl, h 1 _ rfl, h 2 _ rfl, h 3 _ rfl, h 4 _ rfl, h 5 _ rfl, h 6 _ rfl, h 7 _ rfl, h 8 _ rfl⟩
theorem del_len {α : Type} (d : Kd α) (hd : d.sz = 9) (ok : Nat → Prop) (w0 W : World) (hB : Below w0.heap.size w0 W) (ga c i n : Nat) (l : List α) (hn : n = l.length) (hR : d.R 32 W w0.heap.size ok (.slice (some ⟨ga, 0, none⟩) n c) l) (hi : i < n) (hlen : n ≤ 1024) :
  Calls Try.prog 46 #[.slice (some ⟨ga, 0, none⟩) n c, .int .i64 i, .int .i64 ((i : Int) + 1)] W fun e w' => e = .returned (.slice (some ⟨ga, 0, none⟩) (n - 1) c) ∧ d.R 32 w' w0.heap.size ok (.slice (some ⟨ga, 0, none⟩) (n - 1) c) (l.eraseIdx i) ∧ W.grownBy w' (some ga) := by
 subst hn
 exact delete_calls d hd ok w0 W hB ga c i l hR hi hlen
structure NMid (W w w7 : World) (g ga n c i : Nat) (room : Int) (ok oki : Nat → Prop) (l : List S32) (x : S32) (u7 u8 : Value) : Prop where
 blk : w7.heap[g]? = some (.cells #[.int .i64 room, .slice (some ⟨ga, 0, none⟩) (n - 1) c] 62 (0, 0))
 row : k32.S 32 w7 W.heap.size (fun k => (ok k ∧ k < w.heap.size) ∧ ¬ oki k) (.slice (some ⟨ga, 0, none⟩) (n - 1) c) (l.eraseIdx i)
 r7 : Kd.string.R 9 w7 W.heap.size oki u7 x.f7
 r8 : k72.R 72 w7 W.heap.size oki u8 x.f8
 bel : Below W.heap.size W w7
 size : w.heap.size ≤ w7.heap.size
 keep : ∀ k, k < w.heap.size → k ≠ g → k ≠ ga → w7.heap[k]? = w.heap[k]?
 ge : W.heap.size ≤ g
 glt : g < w.heap.size
 wle : W.heap.size ≤ w.heap.size
theorem out_mid {W w W5 w6 : World} {g ga n c i : Nat} {room : Int} {ok oki : Nat → Prop} {f : Nat → Nat} {cs : List Value} {l : List S32} {x : S32} {u7 u8 : Value} (h : NS W w g room ok (.slice (some ⟨ga, 0, none⟩) n c) l) (hga : ga < w.heap.size) (hb5 : Below w.heap.size w W5) (hk : ∀ k, oki k → (ok k ∧ k < w.heap.size) ∧ k ≠ ga)
  (hR : (Kd.gap f k32 i cs).R 32 w6 W.heap.size (fun k => (ok k ∧ k < w.heap.size) ∧ ¬ oki k) (.slice (some ⟨ga, 0, none⟩) (n - 1) c) (l.zipIdx.eraseIdx i)) (hg : W5.grownBy w6 (some ga)) (h7 : Kd.string.R 9 W5 W.heap.size oki u7 x.f7) (h8 : k72.R 72 W5 W.heap.size oki u8 x.f8) (hK : w6.heap[g]? = some (.cells #[.int .i64 room, .slice (some ⟨ga, 0, none⟩) n c] 62 (0, 0))) :
  NMid W w (w6.setCell ⟨g, 1, none⟩ (.slice (some ⟨ga, 0, none⟩) (n - 1) c)) g ga n c i room ok oki l x u7 u8 := by
 have hgn : ∀ k, oki k → some k ≠ some ga := fun k hk' he => (hk k hk').2 (Option.some.inj he)
 have hbg : W.heap.size ≤ ga := Kd.S_base h.row ga (by simp [Value.ownBlock])
 have hs : (w6.setCell ⟨g, 1, none⟩ (.slice (some ⟨ga, 0, none⟩) (n - 1) c)).heap.size = w6.heap.size := by simp [World.setCell]
 have h5 := hb5.size
 have h6 := hg.size
 refine ⟨by simpa using blk_set hK 1 (.slice (some ⟨ga, 0, none⟩) (n - 1) c), Kd.S_set (gap_erase hR) hK (by decide) 1 _, Kd.R_set (Kd.R_grown h7 hg hgn) hK (by decide) 1 _, Kd.R_set (Kd.R_grown h8 hg hgn) hK (by decide) 1 _, below_set (pw_below_grown (below_step h.bel hb5) (some ga) (below_step h.bel hb5).size hg (fun q hq => by injection hq with hq; rw [← hq]; exact hbg)) h.ge, by omega, fun k hk h1 h2 => ?_, h.ge, blk_lt h.blk, h.bel.size⟩
 rw [Below.heap_setCell w6 ⟨g, 1, none⟩ _ k h1, hg.block k (by omega) (fun he => h2 (Option.some.inj he))]
 exact hb5.block k hk
theorem out_fin {W w w7 : World} {g ga n c i gz : Nat} {room : Int} {ok oki : Nat → Prop} {l : List S32} {x : S32} {u7 u8 c0 c1 c2 c3 c4 c5 c6 c7 c8 : Value} (h : NMid W w w7 g ga n c i room ok oki l x u7 u8) (hk : ∀ k, oki k → (ok k ∧ k < w.heap.size) ∧ k ≠ ga) (hgz : w.heap.size ≤ gz) (hx : x = l.getD i z32) :
  NS W (((((((((w7.setCell ⟨gz, 0, none⟩ c0).setCell ⟨gz, 1, none⟩ c1).setCell ⟨gz, 2, none⟩ c2).setCell ⟨gz, 3, none⟩ c3).setCell ⟨gz, 4, none⟩ c4).setCell ⟨gz, 5, none⟩ c5).setCell ⟨gz, 6, none⟩ c6).setCell ⟨gz, 7, none⟩ c7).setCell ⟨gz, 8, none⟩ c8) g room (fun k => ok k ∧ ¬ oki k) (.slice (some ⟨ga, 0, none⟩) (n - 1) c) (l.eraseIdx i) ∧ Kd.string.R 9 (((((((((w7.setCell ⟨gz, 0, none⟩ c0).setCell ⟨gz, 1, none⟩ c1).setCell ⟨gz, 2, none⟩ c2).setCell ⟨gz, 3, none⟩ c3).setCell ⟨gz, 4, none⟩ c4).setCell ⟨gz, 5, none⟩ c5).setCell ⟨gz, 6, none⟩ c6).setCell ⟨gz, 7, none⟩ c7).setCell ⟨gz, 8, none⟩ c8) W.heap.size oki u7 (l.getD i z32).f7 ∧ k72.R 72 (((((((((w7.setCell ⟨gz, 0, none⟩ c0).setCell ⟨gz, 1, none⟩ c1).setCell ⟨gz, 2, none⟩ c2).setCell ⟨gz, 3, none⟩ c3).setCell ⟨gz, 4, none⟩ c4).setCell ⟨gz, 5, none⟩ c5).setCell ⟨gz, 6, none⟩ c6).setCell ⟨gz, 7, none⟩ c7).setCell ⟨gz, 8, none⟩ c8) W.heap.size oki u8 (l.getD i z32).f8 ∧ (∀ k, oki k → ok k ∧ k < w.heap.size) ∧ NStep w (((((((((w7.setCell ⟨gz, 0, none⟩ c0).setCell ⟨gz, 1, none⟩ c1).setCell ⟨gz, 2, none⟩ c2).setCell ⟨gz, 3, none⟩ c3).setCell ⟨gz, 4, none⟩ c4).setCell ⟨gz, 5, none⟩ c5).setCell ⟨gz, 6, none⟩ c6).setCell ⟨gz, 7, none⟩ c7).setCell ⟨gz, 8, none⟩ c8) g (.slice (some ⟨ga, 0, none⟩) n c) (.slice (some ⟨ga, 0, none⟩) (n - 1) c) := by
 subst hx
 have hk9 := keep9 (W := w7) (g := gz) (c0 := c0) (c1 := c1) (c2 := c2) (c3 := c3) (c4 := c4) (c5 := c5) (c6 := c6) (c7 := c7) (c8 := c8)
 have hne : ∀ k, k < w.heap.size → k ≠ gz := fun k hk => by omega
 have hwl := h.wle
 refine ⟨⟨(hk9.2 g (blk_lt h.blk) (hne g h.glt) (by simp)).trans h.blk, h.ge, Kd.S_mono (Kd.S_keep h.row hk9 (fun k hk => hne k hk.1.2)) (fun k hk => ⟨hk.1.1, hk.2⟩), below9 h.bel (by omega)⟩, Kd.R_keep h.r7 hk9 (fun k hk' => hne k (hk k hk').1.2), Kd.R_keep h.r8 hk9 (fun k hk' => hne k (hk k hk').1.2), fun k hk' => (hk k hk').1, ⟨Nat.le_trans h.size hk9.1, fun k hk' h1 h2 => ?_, .inl rfl⟩⟩
 have h3 : k ≠ ga := fun he => h2 (by rw [he]; simp [Value.ownBlock])
 exact (hk9.2 k (by have := h.size; omega) (hne k hk') (by simp)).trans (h.keep k hk' h1 h3)
set_option maxHeartbeats 8000000 in
set_option maxRecDepth 100000 in
theorem out_some (W w : World) (g : Nat) (room : Int) (ok : Nat → Prop) (v : Value) (l : List S32) (h : NS W w g room ok v l) (hl : l.length ≤ 1024) (h0 : 0 < l.length) (p : Int) : Calls Try.prog 25 #[.pointer (some ⟨g, 0, none⟩), .func (.func 26) #[.pointer (some ⟨g, 0, none⟩)] #[], .int .i64 p] w (NOut W w g room ok v l (p % (l.length : Int)).toNat) := by
 have hu32 := Try.underlying32
 have hu57 := Try.underlying57
 obtain ⟨ga, c, hv, hga0, hga1, _⟩ := Kd.S_form h.row h0
 subst hv
 obtain ⟨n, hn⟩ : ∃ n, n = l.length := ⟨_, rfl⟩
 rw [← hn] at h hl h0 ⊢
 have hpn : 0 ≤ p % (n : Int) := Int.emod_nonneg _ (by omega)
 have hpl : p % (n : Int) < n := Int.emod_lt_of_pos _ (by omega)
 obtain ⟨i, hi⟩ : ∃ i : Nat, p % (n : Int) = (i : Int) := ⟨(p % (n : Int)).toNat, by omega⟩
 have hin : i < n := by omega
 rw [hi, Int.toNat_natCast]
 have HI := Aside0.mk hi
 have HN := Aside0.mk hn
 have HH := Aside0.mk h
 have HL := Aside0.mk hl
 have HGA := Aside0.mk hga1
 have HIN := Aside0.mk hin
 have HNG := Aside0.mk (Kd.S_ne h.row h.blk (by decide))
 have HGL := Aside0.mk (blk_lt h.blk)
 clear h hn hi hpn hpl hga0 hga1
 have b1 : decide ((i : Int) < (n : Int)) = true := decide_eq_true (by omega)
 have b2 : decide (i < n) = true := decide_eq_true hin
 have b3 : ¬ (n = 0) := by omega
 have q1 : wrap64 ((i : Int) + 1) = (i : Int) + 1 := by unfold wrap64; omega
 have q2 : IntKind.i64.wrap ((i : Int) + 1) = (i : Int) + 1 := by rw [IntKind.wrap_i64]; omega
 clear h0 hl
 go_enter Try.func25, Try.ntmps25
 go_upto_region 4 with (first | ((with_reducible refine gate_dst (N := 6) rfl ?_); refine box_event ?hg6 (N := 6) ?hd6 (cs := #[.int .i64 0, .int .i64 0, .int .i64 0, .int .i64 0, .int .i64 0, .int .i64 0, .string (⟨#[]⟩ : ByteArray), .slice none 0 0, .slice none 0 0]) (t := 32) ?hr6 ?_; (case hd6 => rfl); (case hg6 => rfl); (case hr6 => first | (go_simp; done) | (go_simp; rfl)); intro gz hg w1 hbox hb; have HZ := Aside0.mk hbox; have HB1 := Aside0.mk hb; have GZ := Aside0.mk (show w.heap.size ≤ gz from Nat.le_of_eq hg.symm); clear hg hbox hb) | (go_at_call 26; refine (place_calls (HH.out.below HB1.out) (by rw [← HN.out]; exact HL.out) p).mono ?_; rintro e w2 ⟨rfl, hb⟩; rw [← HN.out, if_neg b3, if_neg b3, HI.out]; have HZ2 := Aside0.mk (blk_below HZ.out hb); have HB2 := Aside0.mk (below_step (w := w) HB1.out hb); clear hb))
 obtain ⟨oki, u7, u8, f, hc, h7, h8, hk, hR⟩ := row_out (HH.out.old HB2.out).row i hin
 have f1 : w2.cell? ⟨g, 1, none⟩ = some (.slice (some ⟨ga, 0, none⟩) n c) := (blk_cell (HH.out.below HB2.out).blk 1).trans rfl
 obtain ⟨x, hx⟩ : ∃ x, x = l.getD i z32 := ⟨_, rfl⟩
 rw [← hx] at hc h7 h8 hR
 have HX := Aside0.mk hx
 obtain ⟨B7, d7, hu7⟩ := Kd.R_slice h7
 obtain ⟨B8, d8, hu8⟩ := Kd.R_slice h8
 subst hu7 hu8
 obtain ⟨n7, hn7⟩ : ∃ n, n = x.f7.length := ⟨_, rfl⟩
 obtain ⟨n8, hn8⟩ : ∃ n, n = x.f8.length := ⟨_, rfl⟩
 rw [← hn7, ← hn8] at hc hR
 rw [← hn7] at h7
 rw [← hn8] at h8
 have HN7 := Aside0.mk hn7
 have HN8 := Aside0.mk hn8
 have H7 := Aside0.mk h7
 have H8 := Aside0.mk h8
 have HKI := Aside0.mk hk
 have HR := Aside0.mk hR
 obtain ⟨e0, e1, e2, e3, e4, e5, e6, e7, e8⟩ := c9at hc
 clear hc hx hn7 hn8 h7 h8 hk hR
 have HB22 := Aside0.mk (Below.refl w2.heap.size w2)
 go_upto_region 5 with ((with_reducible refine gate_dst (N := 10) rfl ?_); refine box_event ?hg10 (N := 10) ?hd10 (cs := #[.int .i64 0, .int .i64 0, .int .i64 0, .int .i64 0, .int .i64 0, .int .i64 0, .string (⟨#[]⟩ : ByteArray), .slice none 0 0, .slice none 0 0]) (t := 32) ?hr10 ?_; (case hd10 => rfl); (case hg10 => rfl); (case hr10 => first | (go_simp; done) | (go_simp; rfl)); intro gb hg w3 hbox hb; have BX := Aside0.mk hbox; have HB3 := Aside0.mk hb; have GB := Aside0.mk (show w2.heap.size ≤ gb from Nat.le_of_eq hg.symm); obtain ⟨hz0, hzf0, hz1, hzf1, hz2, hzf2, hz3, hzf3, hz4, hzf4, hz5, hzf5, hz6, hzf6, hz7, hzf7, hz8, hzf8⟩ := c9f hbox; clear hg hbox hb)
 have BXs : Aside0 ((((((((((w3.setCell ⟨gb, 0, none⟩ (.int .i64 x.f0)).setCell ⟨gb, 1, none⟩ (.int .i64 x.f1)).setCell ⟨gb, 2, none⟩ (.int .i64 x.f2)).setCell ⟨gb, 3, none⟩ (.int .i64 x.f3)).setCell ⟨gb, 4, none⟩ (.int .i64 x.f4)).setCell ⟨gb, 5, none⟩ (.int .i64 x.f5)).setCell ⟨gb, 6, none⟩ (.string x.f6)).setCell ⟨gb, 7, none⟩ (.slice B7 n7 d7)).setCell ⟨gb, 8, none⟩ (.slice B8 n8 d8)).heap[gb]? = some (.cells #[.int .i64 x.f0, .int .i64 x.f1, .int .i64 x.f2, .int .i64 x.f3, .int .i64 x.f4, .int .i64 x.f5, .string x.f6, .slice B7 n7 d7, .slice B8 n8 d8] 32 (0, 0))) := ⟨set9 BX.out⟩
 have HB5 : Aside0 (Below w2.heap.size w2 (((((((((w3.setCell ⟨gb, 0, none⟩ (.int .i64 x.f0)).setCell ⟨gb, 1, none⟩ (.int .i64 x.f1)).setCell ⟨gb, 2, none⟩ (.int .i64 x.f2)).setCell ⟨gb, 3, none⟩ (.int .i64 x.f3)).setCell ⟨gb, 4, none⟩ (.int .i64 x.f4)).setCell ⟨gb, 5, none⟩ (.int .i64 x.f5)).setCell ⟨gb, 6, none⟩ (.string x.f6)).setCell ⟨gb, 7, none⟩ (.slice B7 n7 d7)).setCell ⟨gb, 8, none⟩ (.slice B8 n8 d8))) := ⟨below9 HB3.out GB.out⟩
 generalize (((((((((w3.setCell ⟨gb, 0, none⟩ (.int .i64 x.f0)).setCell ⟨gb, 1, none⟩ (.int .i64 x.f1)).setCell ⟨gb, 2, none⟩ (.int .i64 x.f2)).setCell ⟨gb, 3, none⟩ (.int .i64 x.f3)).setCell ⟨gb, 4, none⟩ (.int .i64 x.f4)).setCell ⟨gb, 5, none⟩ (.int .i64 x.f5)).setCell ⟨gb, 6, none⟩ (.string x.f6)).setCell ⟨gb, 7, none⟩ (.slice B7 n7 d7)).setCell ⟨gb, 8, none⟩ (.slice B8 n8 d8) : World) = W5 at BXs HB5 ⊢
 clear e0 e1 e2 e3 e4 e5 e6 e7 e8 hz0 hzf0 hz1 hzf1 hz2 hzf2 hz3 hzf3 hz4 hzf4 hz5 hzf5 hz6 hzf6 hz7 hzf7 hz8 hzf8 f1 BX HB3
 have HB5w := Aside0.mk (below_step (w := w) HB2.out HB5.out)
 have HH5 := Aside0.mk (HH.out.below HB5w.out)
 have f5 : W5.cell? ⟨g, 1, none⟩ = some (.slice (some ⟨ga, 0, none⟩) n c) := (blk_cell HH5.out.blk 1).trans rfl
 have NEA : Aside0 (gb ≠ ga ∧ gz ≠ ga ∧ gb ≠ g ∧ gz ≠ g ∧ gb ≠ gz) := ⟨by have h1 := GB.out; have h2 := GZ.out; have h3 := HB2.out.size; have h4 := HGA.out; have h5 := HGL.out; have h6 := blk_lt HZ2.out; refine ⟨by omega, by omega, by omega, by omega, by omega⟩⟩
 go_upto_region 6 with (go_at_call 46; (with_reducible refine (del_len _ rfl _ W W5 HH5.out.bel ga c i n _ (by rw [List.length_zipIdx]; exact HN.out) (Kd.R_below HR.out HB5.out) HIN.out HL.out).mono ?_); rintro e w6 ⟨rfl, hR, hg⟩; have HR6 := Aside0.mk hR; have HG6 := Aside0.mk hg; have HK6 := Aside0.mk (blk_grown HH5.out.blk hg HNG.out); have f6 : w6.cell? ⟨g, 1, none⟩ = some (.slice (some ⟨ga, 0, none⟩) n c) := (blk_cell HK6.out 1).trans rfl; have zf6 := blk_frozen HK6.out 1; clear hR hg f5)
 have BX7 : Aside0 ((w6.setCell ⟨g, 1, none⟩ (.slice (some ⟨ga, 0, none⟩) (n - 1) c)).heap[gb]? = some (.cells #[.int .i64 x.f0, .int .i64 x.f1, .int .i64 x.f2, .int .i64 x.f3, .int .i64 x.f4, .int .i64 x.f5, .string x.f6, .slice B7 n7 d7, .slice B8 n8 d8] 32 (0, 0))) := ⟨blk_far (p := ⟨g, 1, none⟩) (blk_grown BXs.out HG6.out (by intro h; injection h with h; exact NEA.out.1 h)) NEA.out.2.2.1 _⟩
 have HZ7 : Aside0 ((w6.setCell ⟨g, 1, none⟩ (.slice (some ⟨ga, 0, none⟩) (n - 1) c)).heap[gz]? = some (.cells #[.int .i64 0, .int .i64 0, .int .i64 0, .int .i64 0, .int .i64 0, .int .i64 0, .string (⟨#[]⟩ : ByteArray), .slice none 0 0, .slice none 0 0] 32 (0, 0))) := ⟨blk_far (p := ⟨g, 1, none⟩) (blk_grown (blk_below HZ2.out HB5.out) HG6.out (by intro h; injection h with h; exact NEA.out.2.1 h)) NEA.out.2.2.2.1 _⟩
 have HF := Aside0.mk (out_mid HH.out HGA.out HB5w.out HKI.out HR6.out HG6.out (Kd.R_below H7.out HB5.out) (Kd.R_below H8.out HB5.out) HK6.out)
 generalize w6.setCell ⟨g, 1, none⟩ (.slice (some ⟨ga, 0, none⟩) (n - 1) c) = W7 at BX7 HZ7 HF ⊢
 clear f6 zf6
 obtain ⟨hl0, hl1, hl2, hl3, hl4, hl5, hl6, hl7, hl8⟩ := c9 BX7.out
 obtain ⟨hq0, hqf0, hq1, hqf1, hq2, hqf2, hq3, hqf3, hq4, hqf4, hq5, hqf5, hq6, hqf6, hq7, hqf7, hq8, hqf8⟩ := c9f HZ7.out
 go_wp2
 refine bodyPost_ret (results_ct rfl _ _ gz 32 #[.int .i64 x.f0, .int .i64 x.f1, .int .i64 x.f2, .int .i64 x.f3, .int .i64 x.f4, .int .i64 x.f5, .string x.f6, .slice B7 n7 d7, .slice B8 n8 d8] (0, 0) _ rfl (set9 HZ7.out) Try.underlying32 rfl (by kernel_rfl)) rfl ?_
 exact ⟨oki, .slice B7 n7 d7, .slice B8 n8 d8, _, by rw [← HX.out, HN7.out, HN8.out]; rfl, out_fin HF.out HKI.out GZ.out HX.out⟩
end Go.Proofs.Ytnbomedhehoflaa.Al

namespace Go.Proofs.Ytnbomedhehoflaa.Al
open Go.RowKit Go.Proofs.YtnbomedhehoflaaW.PrintWords Go.Proofs.YtnbomedhehoflaaW.PrintLast Go.Proofs.YtnbomedhehoflaaW.PrintMore
set_option linter.unusedVariables false
set_option linter.unusedSimpArgs false
theorem take_fin {W w w1 w2 : World} {g gz : Nat} {room : Int} {ok oki : Nat → Prop} {v v' u7 u8 c0 c1 c2 c3 c4 c5 c6 c7 c8 : Value} {l : List S32} {x : S32} (hb : Below w.heap.size w w1) (h1 : w1.heap.size ≤ w2.heap.size) (hs : NStep w1 w2 g v v') (h : NS W w2 g room (fun k => (ok k ∧ k < w.heap.size) ∧ ¬ oki k) v' l) (h7 : Kd.string.R 9 w2 W.heap.size oki u7 x.f7) (h8 : k72.R 72 w2 W.heap.size oki u8 x.f8) (hk : ∀ k, oki k → (ok k ∧ k < w.heap.size) ∧ k < w1.heap.size) (hgz : w.heap.size ≤ gz) (hgl : g < w.heap.size) (hW : W.heap.size ≤ w.heap.size) :
  NS W (((((((((w2.setCell ⟨gz, 0, none⟩ c0).setCell ⟨gz, 1, none⟩ c1).setCell ⟨gz, 2, none⟩ c2).setCell ⟨gz, 3, none⟩ c3).setCell ⟨gz, 4, none⟩ c4).setCell ⟨gz, 5, none⟩ c5).setCell ⟨gz, 6, none⟩ c6).setCell ⟨gz, 7, none⟩ c7).setCell ⟨gz, 8, none⟩ c8) g room (fun k => ok k ∧ ¬ oki k) v' l ∧ Kd.string.R 9 (((((((((w2.setCell ⟨gz, 0, none⟩ c0).setCell ⟨gz, 1, none⟩ c1).setCell ⟨gz, 2, none⟩ c2).setCell ⟨gz, 3, none⟩ c3).setCell ⟨gz, 4, none⟩ c4).setCell ⟨gz, 5, none⟩ c5).setCell ⟨gz, 6, none⟩ c6).setCell ⟨gz, 7, none⟩ c7).setCell ⟨gz, 8, none⟩ c8) W.heap.size oki u7 x.f7 ∧ k72.R 72 (((((((((w2.setCell ⟨gz, 0, none⟩ c0).setCell ⟨gz, 1, none⟩ c1).setCell ⟨gz, 2, none⟩ c2).setCell ⟨gz, 3, none⟩ c3).setCell ⟨gz, 4, none⟩ c4).setCell ⟨gz, 5, none⟩ c5).setCell ⟨gz, 6, none⟩ c6).setCell ⟨gz, 7, none⟩ c7).setCell ⟨gz, 8, none⟩ c8) W.heap.size oki u8 x.f8 ∧ (∀ k, oki k → ok k ∧ k < w.heap.size) ∧ NStep w (((((((((w2.setCell ⟨gz, 0, none⟩ c0).setCell ⟨gz, 1, none⟩ c1).setCell ⟨gz, 2, none⟩ c2).setCell ⟨gz, 3, none⟩ c3).setCell ⟨gz, 4, none⟩ c4).setCell ⟨gz, 5, none⟩ c5).setCell ⟨gz, 6, none⟩ c6).setCell ⟨gz, 7, none⟩ c7).setCell ⟨gz, 8, none⟩ c8) g v v' := by
 have hk9 := keep9 (W := w2) (g := gz) (c0 := c0) (c1 := c1) (c2 := c2) (c3 := c3) (c4 := c4) (c5 := c5) (c6 := c6) (c7 := c7) (c8 := c8)
 have hne : ∀ k, k < w.heap.size → k ≠ gz := fun k hk => by omega
 have hbs := hb.size
 refine ⟨⟨(hk9.2 g (blk_lt h.blk) (hne g hgl) (by simp)).trans h.blk, h.ge, Kd.S_mono (Kd.S_keep h.row hk9 (fun k hk => hne k hk.1.2)) (fun k hk => ⟨hk.1.1, hk.2⟩), below9 h.bel (by omega)⟩, Kd.R_keep h7 hk9 (fun k hk' => hne k (hk k hk').1.2), Kd.R_keep h8 hk9 (fun k hk' => hne k (hk k hk').1.2), fun k hk' => (hk k hk').1, ⟨by have := hk9.1; omega, fun k hk' h1' h2 => ?_, ?_⟩⟩
 ·exact (hk9.2 k (by omega) (hne k hk') (by simp)).trans ((hs.keep k (by omega) h1' h2).trans (hb.block k hk'))
 ·rcases hs.own with e | ⟨b, e, hb'⟩
  ·exact .inl e
  ·exact .inr ⟨b, e, by omega⟩
set_option maxHeartbeats 4000000 in
set_option maxRecDepth 100000 in
theorem take_some (W w : World) (g : Nat) (room : Int) (ok : Nat → Prop) (v : Value) (l : List S32) (h : NS W w g room ok v l) (hl : l.length ≤ 1024) (h0 : 0 < l.length) (p : Int) : Calls Try.prog 12 #[.pointer (some ⟨g, 0, none⟩), .int .i64 p] w (NOut W w g room ok v l (p % (l.length : Int)).toNat) := by
 have hu32 := Try.underlying32
 have HH := Aside0.mk h
 have HL := Aside0.mk hl
 have HL0 := Aside0.mk h0
 clear h hl h0
 generalize hii : (p % (l.length : Int)).toNat = i
 have HI := Aside0.mk hii
 clear hii
 go_enter Try.func12, Try.ntmps12
 go_wp2_with (first | ((with_reducible refine gate_dst (N := 4) rfl ?_); refine box_event ?hg4 (N := 4) ?hd4 (cs := #[.int .i64 0, .int .i64 0, .int .i64 0, .int .i64 0, .int .i64 0, .int .i64 0, .string (⟨#[]⟩ : ByteArray), .slice none 0 0, .slice none 0 0]) (t := 32) ?hr4 ?_; (case hd4 => rfl); (case hg4 => rfl); (case hr4 => first | (go_simp; done) | (go_simp; rfl)); intro gz hg w1 hbox hb; have HZ := Aside0.mk hbox; have HB1 := Aside0.mk hb; have GZ := Aside0.mk (show w.heap.size ≤ gz from Nat.le_of_eq hg.symm); clear hg hbox hb) | (go_at_call 25; refine (out_some W _ g room _ v l (HH.out.old HB1.out) HL.out HL0.out p).mono ?_; rintro e w2 ⟨oki, u7, u8, v', rfl, hns, h7, h8, hk, hs⟩; rw [HI.out] at hns h7 h8 ⊢; obtain ⟨x, hx⟩ : ∃ x, x = l.getD i z32 := ⟨_, rfl⟩; rw [← hx] at h7 h8 ⊢; have HX := Aside0.mk hx; obtain ⟨B7, d7, hu7⟩ := Kd.R_slice h7; obtain ⟨B8, d8, hu8⟩ := Kd.R_slice h8; subst hu7 hu8; obtain ⟨n7, hn7⟩ : ∃ n, n = x.f7.length := ⟨_, rfl⟩; obtain ⟨n8, hn8⟩ : ∃ n, n = x.f8.length := ⟨_, rfl⟩; rw [← hn7] at h7 ⊢; rw [← hn8] at h8 ⊢; have HN7 := Aside0.mk hn7; have HN8 := Aside0.mk hn8; have HNS := Aside0.mk hns; have H7 := Aside0.mk h7; have H8 := Aside0.mk h8; have HK := Aside0.mk hk; have HS := Aside0.mk hs; have HZ2 : Aside0 (w2.heap[gz]? = some (.cells #[.int .i64 0, .int .i64 0, .int .i64 0, .int .i64 0, .int .i64 0, .int .i64 0, .string (⟨#[]⟩ : ByteArray), .slice none 0 0, .slice none 0 0] 32 (0, 0))) := ⟨(hs.keep gz (blk_lt HZ.out) (by have := blk_lt HH.out.blk; have := GZ.out; omega) (fun he => by have := Kd.S_lt HH.out.row gz he; have := GZ.out; omega)).trans HZ.out⟩; obtain ⟨hq0, hqf0, hq1, hqf1, hq2, hqf2, hq3, hqf3, hq4, hqf4, hq5, hqf5, hq6, hqf6, hq7, hqf7, hq8, hqf8⟩ := c9f HZ2.out; clear hns h7 h8 hk hs hx hn7 hn8))
 refine bodyPost_ret (results_ct rfl _ _ gz 32 #[.int .i64 x.f0, .int .i64 x.f1, .int .i64 x.f2, .int .i64 x.f3, .int .i64 x.f4, .int .i64 x.f5, .string x.f6, .slice B7 n7 d7, .slice B8 n8 d8] (0, 0) _ rfl (set9 HZ2.out) Try.underlying32 rfl (by kernel_rfl)) rfl ?_
 have hf := take_fin (c0 := .int .i64 x.f0) (c1 := .int .i64 x.f1) (c2 := .int .i64 x.f2) (c3 := .int .i64 x.f3) (c4 := .int .i64 x.f4) (c5 := .int .i64 x.f5) (c6 := .string x.f6) (c7 := .slice B7 n7 d7) (c8 := .slice B8 n8 d8) (x := x) HB1.out HS.out.size HS.out HNS.out H7.out H8.out HK.out GZ.out (blk_lt HH.out.blk) HH.out.bel.size
 exact ⟨oki, .slice B7 n7 d7, .slice B8 n8 d8, v', by rw [← HX.out]; rfl, by rw [← HX.out]; exact hf⟩
end Go.Proofs.Ytnbomedhehoflaa.Al

namespace Go.Proofs.Ytnbomedhehoflaa.Al
open Go.RowKit Go.Proofs.YtnbomedhehoflaaW.PrintWords Go.Proofs.YtnbomedhehoflaaW.PrintLast Go.Proofs.YtnbomedhehoflaaW.PrintMore
attribute [local go_sem] max2_int min2_int max_two min_two max_three min_three max_four min_four   -- for this text's walks alone
set_option linter.unusedVariables false
set_option linter.unusedSimpArgs false
attribute [local go_sem high] eqA72
def corncriblaw15_plain.f (a0 : Int) (a1 : Int) : Option (Int × Int × Int × Int × Int × Int × ByteArray × List ByteArray × (List (S72))) := some (7, 0, a1, a0, 0, 0, (⟨#[]⟩ : ByteArray), ([] : List ByteArray), ([] : List (S72)))
set_option maxHeartbeats 8000000 in
set_option maxRecDepth 100000 in
theorem corncriblaw15_plain.calls (a0 : Int) (a1 : Int) (r1 : Int) (r2 : Int) (r3 : Int) (r4 : Int) (r5 : Int) (r6 : Int) (r7 : ByteArray) (r8 : List ByteArray) (r9 : List (S72)) (w : World) (h : corncriblaw15_plain.f a0 a1 = some (r1, r2, r3, r4, r5, r6, r7, r8, r9)) :
  Calls Try.prog 11 #[.int .i64 a0, .int .i64 a1] w fun e w' => ∃ v7_ v8_ : Value, e = .returned (.agg #[.int .i64 r1, .int .i64 r2, .int .i64 r3, .int .i64 r4, .int .i64 r5, .int .i64 r6, .string r7, v7_, v8_]) ∧ Kd.R Kd.string 9 w' w.heap.size (fun _ => True) v7_ r8 ∧ Kd.R k72 72 w' w.heap.size (fun _ => True) v8_ r9 ∧ Below w.heap.size w w' := by
 have hu32 := Try.underlying32
 have HB := Aside0.mk (Below.refl w.heap.size w)
 have H : (some (7, 0, a1, a0, 0, 0, (⟨#[]⟩ : ByteArray), ([] : List ByteArray), ([] : List (S72)))) = some (r1, r2, r3, r4, r5, r6, r7, r8, r9) := h
 clear h
 simp only [Option.some.injEq, Prod.mk.injEq] at H
 obtain ⟨rfl, rfl, rfl, rfl, rfl, rfl, rfl, rfl, rfl⟩ := H
 go_enter Try.func11, Try.ntmps11
 go_wp2_with (first | ((with_reducible refine gate_dst (N := 4) rfl ?_); refine box_event ?hg (N := 4) ?hd (cs := #[.int .i64 0, .int .i64 0, .int .i64 0, .int .i64 0, .int .i64 0, .int .i64 0, .string (⟨#[]⟩ : ByteArray), .slice none 0 0, .slice none 0 0]) (t := 32) ?hr ?_; (case hd => rfl); (case hg => rfl); (case hr => first | (go_simp; done) | (go_simp; rfl)); intro gb131 hg w3 hbox hb; have n0_ := Aside0.mk (below_step (by repeat (first | (with_reducible first | exact HB.out | apply below_alloc | apply pw_below_drewN | apply below_drew1) | exact HB.out)) hb); have n1_ := Aside0.mk (hbox); have n2_ := Aside0.mk ((by rw [hg]; exact (below_size (by repeat (first | (with_reducible first | exact HB.out | apply below_alloc | apply pw_below_drewN | apply below_drew1) | exact HB.out))) : w.heap.size ≤ gb131)); have n3_ := Aside0.mk ((by rw [hg]; exact (below_size (by repeat (first | (with_reducible first | exact HB.out | apply below_alloc | apply pw_below_drewN | apply below_drew1) | exact HB.out))) : w.heap.size ≤ gb131)); clear HB; have HB := n0_; have BK131 := n1_; have GW131 := n2_; have GE131 := n3_; clear n0_ n1_ n2_ n3_; clear hb hbox hg; have hcz4_0 : w3.cell? ⟨gb131, 0, none⟩ = some (.int .i64 0) := (blk_cell BK131.out 0).trans rfl; have hcz4_1 : w3.cell? ⟨gb131, 1, none⟩ = some (.int .i64 0) := (blk_cell BK131.out 1).trans rfl; have hcz4_2 : w3.cell? ⟨gb131, 2, none⟩ = some (.int .i64 0) := (blk_cell BK131.out 2).trans rfl; have hcz4_3 : w3.cell? ⟨gb131, 3, none⟩ = some (.int .i64 0) := (blk_cell BK131.out 3).trans rfl; have hcz4_4 : w3.cell? ⟨gb131, 4, none⟩ = some (.int .i64 0) := (blk_cell BK131.out 4).trans rfl; have hcz4_5 : w3.cell? ⟨gb131, 5, none⟩ = some (.int .i64 0) := (blk_cell BK131.out 5).trans rfl; have hcz4_6 : w3.cell? ⟨gb131, 6, none⟩ = some (.string (⟨#[]⟩ : ByteArray)) := (blk_cell BK131.out 6).trans rfl; have hcz4_7 : w3.cell? ⟨gb131, 7, none⟩ = some (.slice none 0 0) := (blk_cell BK131.out 7).trans rfl; have hcz4_8 : w3.cell? ⟨gb131, 8, none⟩ = some (.slice none 0 0) := (blk_cell BK131.out 8).trans rfl; have hfz4_0 := blk_frozen BK131.out 0; have hfz4_1 := blk_frozen BK131.out 1; have hfz4_2 := blk_frozen BK131.out 2; have hfz4_3 := blk_frozen BK131.out 3; have hfz4_4 := blk_frozen BK131.out 4; have hfz4_5 := blk_frozen BK131.out 5; have hfz4_6 := blk_frozen BK131.out 6; have hfz4_7 := blk_frozen BK131.out 7; have hfz4_8 := blk_frozen BK131.out 8))
 refine bodyPost_ret (results_cell_row rfl _ _ gb131 32 #[.int .i64 7, .int .i64 0, .int .i64 a1, .int .i64 a0, .int .i64 0, .int .i64 0, .string (⟨#[]⟩ : ByteArray), .slice none 0 0, .slice none 0 0] (0, 0) _ rfl (by (with_reducible repeat (first | refine blk_drewN ?_ _ | refine blk_drew ?_ | refine blk_alloc ?_ _)); refine blk_put (cs := #[.int .i64 7, .int .i64 0, .int .i64 a1, .int .i64 a0, .int .i64 0, .int .i64 0, .string (⟨#[]⟩ : ByteArray), .slice none 0 0, .slice none 0 0]) ?_ 8 _ rfl; (with_reducible repeat (first | refine blk_drewN ?_ _ | refine blk_drew ?_ | refine blk_alloc ?_ _)); refine blk_put (cs := #[.int .i64 7, .int .i64 0, .int .i64 a1, .int .i64 a0, .int .i64 0, .int .i64 0, .string (⟨#[]⟩ : ByteArray), .slice none 0 0, .slice none 0 0]) ?_ 7 _ rfl; (with_reducible repeat (first | refine blk_drewN ?_ _ | refine blk_drew ?_ | refine blk_alloc ?_ _)); refine blk_put (cs := #[.int .i64 7, .int .i64 0, .int .i64 a1, .int .i64 a0, .int .i64 0, .int .i64 0, .string (⟨#[]⟩ : ByteArray), .slice none 0 0, .slice none 0 0]) ?_ 6 _ rfl; (with_reducible repeat (first | refine blk_drewN ?_ _ | refine blk_drew ?_ | refine blk_alloc ?_ _)); refine blk_put (cs := #[.int .i64 7, .int .i64 0, .int .i64 a1, .int .i64 a0, .int .i64 0, .int .i64 0, .string (⟨#[]⟩ : ByteArray), .slice none 0 0, .slice none 0 0]) ?_ 5 _ rfl; (with_reducible repeat (first | refine blk_drewN ?_ _ | refine blk_drew ?_ | refine blk_alloc ?_ _)); refine blk_put (cs := #[.int .i64 7, .int .i64 0, .int .i64 a1, .int .i64 a0, .int .i64 0, .int .i64 0, .string (⟨#[]⟩ : ByteArray), .slice none 0 0, .slice none 0 0]) ?_ 4 _ rfl; (with_reducible repeat (first | refine blk_drewN ?_ _ | refine blk_drew ?_ | refine blk_alloc ?_ _)); refine blk_put (cs := #[.int .i64 7, .int .i64 0, .int .i64 a1, .int .i64 0, .int .i64 0, .int .i64 0, .string (⟨#[]⟩ : ByteArray), .slice none 0 0, .slice none 0 0]) ?_ 3 _ rfl; (with_reducible repeat (first | refine blk_drewN ?_ _ | refine blk_drew ?_ | refine blk_alloc ?_ _)); refine blk_put (cs := #[.int .i64 7, .int .i64 0, .int .i64 0, .int .i64 0, .int .i64 0, .int .i64 0, .string (⟨#[]⟩ : ByteArray), .slice none 0 0, .slice none 0 0]) ?_ 2 _ rfl; (with_reducible repeat (first | refine blk_drewN ?_ _ | refine blk_drew ?_ | refine blk_alloc ?_ _)); refine blk_put (cs := #[.int .i64 7, .int .i64 0, .int .i64 0, .int .i64 0, .int .i64 0, .int .i64 0, .string (⟨#[]⟩ : ByteArray), .slice none 0 0, .slice none 0 0]) ?_ 1 _ rfl; (with_reducible repeat (first | refine blk_drewN ?_ _ | refine blk_drew ?_ | refine blk_alloc ?_ _)); refine blk_put (cs := #[.int .i64 0, .int .i64 0, .int .i64 0, .int .i64 0, .int .i64 0, .int .i64 0, .string (⟨#[]⟩ : ByteArray), .slice none 0 0, .slice none 0 0]) ?_ 0 _ rfl; (with_reducible repeat (first | refine blk_drewN ?_ _ | refine blk_drew ?_ | refine blk_alloc ?_ _)); exact BK131.out) Try.underlying32 rfl (by kernel_rfl)) rfl ?_
 exact ⟨_, _, by first | rfl | (simp [errW_none, errW_some] <;> rfl) | (simp [*, errW_none, errW_some] <;> rfl), by first | exact Kd.R_nil _ _ _ _ _ | exact Kd.N_nil _ _ _ _ _ | exact Kd.V_nil _ _ _ _ _ | exact Kd.Q_nil _ _ _ _ _ | exact Kd.S_nil _ _ _ _ _, by first | exact Kd.R_nil _ _ _ _ _ | exact Kd.N_nil _ _ _ _ _ | exact Kd.V_nil _ _ _ _ _ | exact Kd.Q_nil _ _ _ _ _ | exact Kd.S_nil _ _ _ _ _, by repeat (first | (with_reducible first | exact HB.out | apply below_alloc | apply pw_below_drewN | apply below_drew1 | refine below_set ?_ GE131.out) | exact HB.out)⟩
-- NOT PRINTED: function 46 (api_Letter)
-- NOT PRINTED: function 25 (net_Net_out)
end Go.Proofs.Ytnbomedhehoflaa.Al

namespace Go.Proofs.Ytnbomedhehoflaa.Al
open Go.RowKit Go.Proofs.YtnbomedhehoflaaW.PrintWords Go.Proofs.YtnbomedhehoflaaW.PrintLast Go.Proofs.YtnbomedhehoflaaW.PrintMore
set_option linter.unusedVariables false
set_option linter.unusedSimpArgs false
abbrev plS (txn dst : Int) : S32 := ⟨7, 0, dst, txn, 0, 0, ⟨#[]⟩, [], []⟩
theorem chk_plain {txn dst : Int} (h1 : 1 ≤ txn) (h2 : txn ≤ 1125899906842623) (h3 : 0 ≤ dst) (h4 : dst < 12) : chkS (plS txn dst) = 0 := by
 show LetSpec.chkL 7 0 dst txn 0 0 (⟨#[]⟩ : ByteArray) [] [] = 0
 rw [LetSpec.ref_chk, if_pos ⟨by unfold LetSpec.addrB; simp, by unfold LetSpec.addrB; simp; omega, h1, h2, by omega, by omega, by omega, by omega⟩]
 unfold LetSpec.refV LetSpec.bareB
 have : ((⟨#[]⟩ : ByteArray).toList.isEmpty) = true := by rw [Base.toList_eq]; rfl
 simp [this]
theorem plain_calls (txn dst : Int) (w : World) : Calls Try.prog 11 #[.int .i64 txn, .int .i64 dst] w fun e w' => ∃ v7 v8, e = .returned (agL (plS txn dst) v7 v8) ∧ RdL w' (plS txn dst) v7 v8 ∧ Below w.heap.size w w' :=
 (corncriblaw15_plain.calls txn dst 7 0 dst txn 0 0 ⟨#[]⟩ [] [] w rfl).mono (by rintro e w' ⟨v7, v8, rfl, h7, h8, hb⟩; exact ⟨v7, v8, rfl, RdL.of (x := plS txn dst) h7 h8, hb⟩)
/-- The net, told by its letters alone; the blocks X are none of its. -/
structure NZ (W w : World) (g : Nat) (room : Int) (X : Nat → Prop) (l : List S32) : Prop where
 ex : ∃ v, NS W w g room (fun k => ¬ X k) v l
 lt : ∀ k, X k → k < w.heap.size ∧ k ≠ g
section
variable {W w w1 : World} {g gz : Nat} {room : Int} {X : Nat → Prop} {l : List S32} {x : S32} {v7 v8 : Value}
theorem NZ.below (h : NZ W w g room X l) (hb : Below w.heap.size w w1) : NZ W w1 g room X l := by
 obtain ⟨v, hv⟩ := h.ex
 exact ⟨⟨v, hv.below hb⟩, fun k hk => ⟨by have := (h.lt k hk).1; have := hb.size; omega, (h.lt k hk).2⟩⟩
theorem NZ.bel (h : NZ W w g room X l) : Below W.heap.size W w := by
 obtain ⟨v, hv⟩ := h.ex
 exact hv.bel
/-- A block that was made since. -/
theorem NZ.more (h : NZ W w g room X l) (hb : Below w.heap.size w w1) (hz : w.heap.size ≤ gz) (hz1 : gz < w1.heap.size) : NZ W w1 g room (fun k => X k ∨ k = gz) l := by
 obtain ⟨v, hv⟩ := h.ex
 refine ⟨⟨v, (hv.old hb).mono (fun k hk => fun hx => ?_)⟩, fun k hk => ?_⟩
 ·rcases hx with hx | rfl
  ·exact hk.1 hx
  ·omega
 ·have := blk_lt hv.blk
  have := hb.size
  rcases hk with hk | rfl
  ·exact ⟨by have := (h.lt k hk).1; omega, (h.lt k hk).2⟩
  ·exact ⟨hz1, by omega⟩
theorem z_new (W w : World) (hB : Below W.heap.size W w) (room : Int) (h0 : 1 ≤ room) (h1 : room ≤ 1024) : Calls Try.prog 8 #[.int .i64 room] w fun e w' => ∃ g, e = .returned (.tuple #[.pointer (some ⟨g, 0, none⟩), .int .i64 0]) ∧ NZ W w' g room (fun _ => False) [] ∧ Below w.heap.size w w' :=
 (new_calls W w hB (fun _ => ¬ False) room h0 h1).mono (by rintro e w' ⟨g, rfl, hn, _, hb⟩; exact ⟨g, rfl, ⟨⟨_, hn⟩, fun k hk => hk.elim⟩, hb⟩)
def Kep (X : Nat → Prop) (w w1 : World) : Prop := ∀ k, X k → w1.heap[k]? = w.heap[k]?
theorem NStep.kep {v v1 : Value} (h : NS W w g room (fun k => ¬ X k) v l) (hx : ∀ k, X k → k < w.heap.size ∧ k ≠ g) (hs : NStep w w1 g v v1) : Kep X w w1 :=
 fun k hk => hs.keep k (hx k hk).1 (hx k hk).2 (fun he => (Kd.S_R h.row).1 k he hk)
theorem z_len (h : NZ W w g room X l) : Calls Try.prog 13 #[.pointer (some ⟨g, 0, none⟩)] w fun e w' => e = .returned (.int .i64 (l.length : Int)) ∧ Below w.heap.size w w' := by
 obtain ⟨v, hv⟩ := h.ex
 exact len_calls hv
theorem z_send (h : NZ W w g room X l) (hr : 1 ≤ room ∧ room ≤ 1024) (hx : RdL w x v7 v8) (hb7 : x.f7.length ≤ 8796093022000) (hb8 : x.f8.length ≤ 8796093022000) : Calls Try.prog 10 #[.pointer (some ⟨g, 0, none⟩), agL x v7 v8] w fun e w' => e = .returned (.int .i64 (sendE room l x)) ∧ NZ W w' g room X (sendL room l x) ∧ Kep X w w' := by
 obtain ⟨v, hv⟩ := h.ex
 refine (send_calls W w g room _ v l hv hr x v7 v8 hx hb7 hb8).mono ?_
 rintro e w' ⟨rfl, v', hn, hs⟩
 refine ⟨rfl, ⟨⟨v', hn.mono (fun k hk hx => ?_)⟩, fun k hk => ⟨by have := (h.lt k hk).1; have := hs.size; omega, (h.lt k hk).2⟩⟩, hs.kep hv h.lt⟩
 rcases hk with hk | hk
 ·exact hk hx
 ·have := (h.lt k hx).1; omega
theorem out_z {i : Nat} {e : Ending} {w' : World} {v : Value} (h : NZ W w g room X l) (hv : NS W w g room (fun k => ¬ X k) v l) (ho : NOut W w g room (fun k => ¬ X k) v l i e w') : ∃ u7 u8, e = .returned (.tuple #[agL (l.getD i z32) u7 u8, .int .i64 0]) ∧ NZ W w' g room X (l.eraseIdx i) ∧ RdL w' (l.getD i z32) u7 u8 ∧ Kep X w w' := by
 obtain ⟨oki, u7, u8, v', he, hn, h7, h8, hk, hs⟩ := ho.ex
 exact ⟨u7, u8, he, ⟨⟨v', hn.mono (fun k hk => hk.1)⟩, fun k hk => ⟨by have := (h.lt k hk).1; have := hs.size; omega, (h.lt k hk).2⟩⟩, RdL.of h7 h8, hs.kep hv h.lt⟩
theorem z_take (h : NZ W w g room X l) (hl : l.length ≤ 1024) (h0 : 0 < l.length) (p : Int) : Calls Try.prog 12 #[.pointer (some ⟨g, 0, none⟩), .int .i64 p] w fun e w' => ∃ u7 u8, e = .returned (.tuple #[agL (l.getD (p % (l.length : Int)).toNat z32) u7 u8, .int .i64 0]) ∧ NZ W w' g room X (l.eraseIdx (p % (l.length : Int)).toNat) ∧ RdL w' (l.getD (p % (l.length : Int)).toNat z32) u7 u8 ∧ Kep X w w' := by
 obtain ⟨v, hv⟩ := h.ex
 exact (take_some W w g room _ v l hv hl h0 p).mono (fun e w' ho => out_z h hv ho)
end
end Go.Proofs.Ytnbomedhehoflaa.Al

namespace Go.Proofs.Ytnbomedhehoflaa.Al
open Go.RowKit Go.Proofs.YtnbomedhehoflaaW.PrintWords Go.Proofs.YtnbomedhehoflaaW.PrintLast Go.Proofs.YtnbomedhehoflaaW.PrintMore
set_option linter.unusedVariables false
set_option linter.unusedSimpArgs false
def plains (dst : Int) (i : Nat) : List S32 := (List.range i).map fun j : Nat => plS ((j : Int) + 1) dst
theorem plains_len (dst : Int) (i : Nat) : (plains dst i).length = i := by simp [plains]
theorem plains_succ (dst : Int) (i : Nat) : plains dst (i + 1) = plains dst i ++ [plS ((i : Int) + 1) dst] := by simp [plains, List.range_succ]
theorem send_plain {room : Int} {l : List S32} {txn dst : Int} (h1 : 1 ≤ txn) (h2 : txn ≤ 1125899906842623) (h3 : 0 ≤ dst) (h4 : dst < 12) (hl : (l.length : Int) < room) : sendE room l (plS txn dst) = 0 ∧ sendL room l (plS txn dst) = l ++ [plS txn dst] := by
 unfold sendE sendL
 rw [if_neg (fun c => c (chk_plain h1 h2 h3 h4)), if_neg (by omega), if_neg (fun c => c (chk_plain h1 h2 h3 h4)), if_neg (by omega)]
 exact ⟨rfl, rfl⟩
theorem rd_plain {w : World} {txn dst : Int} {v7 v8 : Value} (h : RdL w (plS txn dst) v7 v8) : ∃ A7 c7 A8 c8, v7 = .slice A7 0 c7 ∧ v8 = .slice A8 0 c8 := by
 obtain ⟨⟨A, c, e, _, _⟩, ⟨A', c', e', _, _⟩⟩ := h
 exact ⟨A, c, A', c', e, e'⟩
section
variable {W w : World} {g : Nat} {X : Nat → Prop}
theorem work_take1 (h : NZ W w g 5 X (plains 0 3)) : Calls Try.prog 12 #[.pointer (some ⟨g, 0, none⟩), .int .i64 4] w fun e w' => ∃ A7 c7 A8 c8, e = .returned (.tuple #[.agg #[.int .i64 7, .int .i64 0, .int .i64 (0), .int .i64 (2), .int .i64 0, .int .i64 0, .string (⟨#[]⟩ : ByteArray), .slice A7 0 c7, .slice A8 0 c8], .int .i64 0]) ∧ NZ W w' g 5 X [plS 1 0, plS 3 0] ∧ Kep X w w' :=
 (z_take h (by decide) (by decide) 4).mono (by rintro e w' ⟨u7, u8, rfl, hn, hr, hk⟩; obtain ⟨A7, c7, A8, c8, rfl, rfl⟩ := rd_plain (txn := 2) (dst := 0) hr; exact ⟨A7, c7, A8, c8, rfl, hn, hk⟩)
theorem work_take2 (h : NZ W w g 5 X [plS 1 0, plS 3 0]) : Calls Try.prog 12 #[.pointer (some ⟨g, 0, none⟩), .int .i64 (-1)] w fun e w' => ∃ A7 c7 A8 c8, e = .returned (.tuple #[.agg #[.int .i64 7, .int .i64 0, .int .i64 (0), .int .i64 (3), .int .i64 0, .int .i64 0, .string (⟨#[]⟩ : ByteArray), .slice A7 0 c7, .slice A8 0 c8], .int .i64 0]) ∧ NZ W w' g 5 X [plS 1 0] ∧ Kep X w w' :=
 (z_take h (by decide) (by decide) (-1)).mono (by rintro e w' ⟨u7, u8, rfl, hn, hr, hk⟩; obtain ⟨A7, c7, A8, c8, rfl, rfl⟩ := rd_plain (txn := 3) (dst := 0) hr; exact ⟨A7, c7, A8, c8, rfl, hn, hk⟩)
end
set_option maxHeartbeats 8000000 in
set_option maxRecDepth 100000 in
theorem works_calls (w : World) : Calls Try.prog 9 #[] w fun e w' => e = .returned (.bool true) ∧ Below w.heap.size w w' := by
 have hu32 := Try.underlying32
 go_enter Try.func9, Try.ntmps9
 go_upto_region 4 with (go_at_call 8; refine (z_new w _ (Below.refl _ _) 5 (by decide) (by decide)).mono ?_; rintro e w1 ⟨g, rfl, hn, hb⟩; have HN1 := Aside0.mk hn; clear hn hb)
 go_wp2
 go_loopw [3] (fun v3 wr => ∃ i : Nat, v3 = .int .i64 ((i : Int) + 1) ∧ i ≤ 3 ∧ Aside0 (NZ w wr g 5 (fun _ => False) (plains 0 i))) (fun v3 _ => 4 - (intOf v3).toNat)
 case atStart => exact ⟨0, rfl, by omega, HN1⟩
 case round =>
  obtain ⟨i, rfl, hi, HN⟩ := hrel
  clear HN1
  by_cases hlt : i < 3
  ·have b1 : decide ((i : Int) + 1 ≤ 3) = true := decide_eq_true (by omega)
   have b2 : decide (3 < (i : Int) + 1) = false := decide_eq_false (by omega)
   have HI := Aside0.mk hlt
   have HE := Aside0.mk (send_plain (room := 5) (l := plains 0 i) (txn := (i : Int) + 1) (dst := 0) (by omega) (by omega) (by decide) (by decide) (by rw [plains_len]; omega))
   clear hlt
   go_wp2_with (first | (go_at_call 11; refine (plain_calls ((i : Int) + 1) 0 _).mono ?_; rintro e w2 ⟨v7, v8, rfl, hr, hb⟩; have HR2 := Aside0.mk hr; have HN2 := Aside0.mk (HN.out.below hb); clear hr hb) | (go_at_call 10; refine (z_send HN2.out (by decide) HR2.out (Nat.zero_le _) (Nat.zero_le _)).mono ?_; rintro e w3 ⟨rfl, hn, hk⟩; rw [HE.out.1]; have HN3 := Aside0.mk (show NZ w w3 g 5 (fun _ => False) (plains 0 (i + 1)) from by rw [plains_succ, ← HE.out.2]; exact hn); clear hn hk))
   go_roundw
   case rel => exact ⟨i + 1, by go_num, by have := HI.out; omega, HN3⟩
   case measure => have := HI.out; simp [intOf]; omega
  ·obtain rfl : i = 3 := by omega
   clear hlt
   go_upto_region 10 with (first | (go_at_call 12; refine (work_take1 HN.out).mono ?_; rintro e w2 ⟨A7, c7, A8, c8, rfl, hn, hk⟩; have HN2 := Aside0.mk hn; clear hn hk) | ((with_reducible refine gate_dst (N := 4) rfl ?_); refine box_event ?hg4 (N := 4) ?hd4 (cs := #[.int .i64 0, .int .i64 0, .int .i64 0, .int .i64 0, .int .i64 0, .int .i64 0, .string (⟨#[]⟩ : ByteArray), .slice none 0 0, .slice none 0 0]) (t := 32) ?hr4 ?_; (case hd4 => rfl); (case hg4 => rfl); (case hr4 => first | (go_simp; done) | (go_simp; rfl)); intro g4 hg w3 hbox hb; have BX4 := Aside0.mk hbox; have HBx4 := Aside0.mk hb; have GE4 := Aside0.mk (show w2.heap.size ≤ g4 from Nat.le_of_eq hg.symm); have GL4 := Aside0.mk (blk_lt hbox); obtain ⟨hz0, hzf0, hz1, hzf1, hz2, hzf2, hz3, hzf3, hz4, hzf4, hz5, hzf5, hz6, hzf6, hz7, hzf7, hz8, hzf8⟩ := c9f hbox; clear hg hbox hb))
   have BY4 : Aside0 ((((((((((w3.setCell ⟨g4, 0, none⟩ (.int .i64 7)).setCell ⟨g4, 1, none⟩ (.int .i64 0)).setCell ⟨g4, 2, none⟩ (.int .i64 (0))).setCell ⟨g4, 3, none⟩ (.int .i64 (2))).setCell ⟨g4, 4, none⟩ (.int .i64 0)).setCell ⟨g4, 5, none⟩ (.int .i64 0)).setCell ⟨g4, 6, none⟩ (.string (⟨#[]⟩ : ByteArray))).setCell ⟨g4, 7, none⟩ (.slice A7 0 c7)).setCell ⟨g4, 8, none⟩ (.slice A8 0 c8)).heap[g4]? = some (.cells #[.int .i64 7, .int .i64 0, .int .i64 (0), .int .i64 (2), .int .i64 0, .int .i64 0, .string (⟨#[]⟩ : ByteArray), .slice A7 0 c7, .slice A8 0 c8] 32 (0, 0))) := ⟨set9 BX4.out⟩
   have HBy4 : Aside0 (Below w2.heap.size w2 (((((((((w3.setCell ⟨g4, 0, none⟩ (.int .i64 7)).setCell ⟨g4, 1, none⟩ (.int .i64 0)).setCell ⟨g4, 2, none⟩ (.int .i64 (0))).setCell ⟨g4, 3, none⟩ (.int .i64 (2))).setCell ⟨g4, 4, none⟩ (.int .i64 0)).setCell ⟨g4, 5, none⟩ (.int .i64 0)).setCell ⟨g4, 6, none⟩ (.string (⟨#[]⟩ : ByteArray))).setCell ⟨g4, 7, none⟩ (.slice A7 0 c7)).setCell ⟨g4, 8, none⟩ (.slice A8 0 c8))) := ⟨below9 HBx4.out GE4.out⟩
   have HSy4 : Aside0 (g4 < (((((((((w3.setCell ⟨g4, 0, none⟩ (.int .i64 7)).setCell ⟨g4, 1, none⟩ (.int .i64 0)).setCell ⟨g4, 2, none⟩ (.int .i64 (0))).setCell ⟨g4, 3, none⟩ (.int .i64 (2))).setCell ⟨g4, 4, none⟩ (.int .i64 0)).setCell ⟨g4, 5, none⟩ (.int .i64 0)).setCell ⟨g4, 6, none⟩ (.string (⟨#[]⟩ : ByteArray))).setCell ⟨g4, 7, none⟩ (.slice A7 0 c7)).setCell ⟨g4, 8, none⟩ (.slice A8 0 c8)).heap.size) := ⟨blk_lt BY4.out⟩
   generalize (((((((((w3.setCell ⟨g4, 0, none⟩ (.int .i64 7)).setCell ⟨g4, 1, none⟩ (.int .i64 0)).setCell ⟨g4, 2, none⟩ (.int .i64 (0))).setCell ⟨g4, 3, none⟩ (.int .i64 (2))).setCell ⟨g4, 4, none⟩ (.int .i64 0)).setCell ⟨g4, 5, none⟩ (.int .i64 0)).setCell ⟨g4, 6, none⟩ (.string (⟨#[]⟩ : ByteArray))).setCell ⟨g4, 7, none⟩ (.slice A7 0 c7)).setCell ⟨g4, 8, none⟩ (.slice A8 0 c8) : World) = w4 at BY4 HBy4 HSy4 ⊢
   clear hz0 hzf0 hz1 hzf1 hz2 hzf2 hz3 hzf3 hz4 hzf4 hz5 hzf5 hz6 hzf6 hz7 hzf7 hz8 hzf8
   have HN3 := Aside0.mk (HN2.out.more HBy4.out GE4.out HSy4.out)
   go_upto_region 11 with (first | (go_at_call 12; refine (work_take2 HN3.out).mono ?_; rintro e w5 ⟨B7, d7, B8, d8, rfl, hn, hk⟩; have HN5 := Aside0.mk hn; have BY45 : Aside0 (w5.heap[g4]? = _) := ⟨(hk g4 (Or.inr rfl)).trans BY4.out⟩; clear hn hk) | ((with_reducible refine gate_dst (N := 5) rfl ?_); refine box_event ?hg5 (N := 5) ?hd5 (cs := #[.int .i64 0, .int .i64 0, .int .i64 0, .int .i64 0, .int .i64 0, .int .i64 0, .string (⟨#[]⟩ : ByteArray), .slice none 0 0, .slice none 0 0]) (t := 32) ?hr5 ?_; (case hd5 => rfl); (case hg5 => rfl); (case hr5 => first | (go_simp; done) | (go_simp; rfl)); intro g5 hg w6 hbox hb; have BX5 := Aside0.mk hbox; have HBx5 := Aside0.mk hb; have GE5 := Aside0.mk (show w5.heap.size ≤ g5 from Nat.le_of_eq hg.symm); have GL5 := Aside0.mk (blk_lt hbox); obtain ⟨hz0, hzf0, hz1, hzf1, hz2, hzf2, hz3, hzf3, hz4, hzf4, hz5, hzf5, hz6, hzf6, hz7, hzf7, hz8, hzf8⟩ := c9f hbox; clear hg hbox hb))
   have BY5 : Aside0 ((((((((((w6.setCell ⟨g5, 0, none⟩ (.int .i64 7)).setCell ⟨g5, 1, none⟩ (.int .i64 0)).setCell ⟨g5, 2, none⟩ (.int .i64 (0))).setCell ⟨g5, 3, none⟩ (.int .i64 (3))).setCell ⟨g5, 4, none⟩ (.int .i64 0)).setCell ⟨g5, 5, none⟩ (.int .i64 0)).setCell ⟨g5, 6, none⟩ (.string (⟨#[]⟩ : ByteArray))).setCell ⟨g5, 7, none⟩ (.slice B7 0 d7)).setCell ⟨g5, 8, none⟩ (.slice B8 0 d8)).heap[g5]? = some (.cells #[.int .i64 7, .int .i64 0, .int .i64 (0), .int .i64 (3), .int .i64 0, .int .i64 0, .string (⟨#[]⟩ : ByteArray), .slice B7 0 d7, .slice B8 0 d8] 32 (0, 0))) := ⟨set9 BX5.out⟩
   have HBy5 : Aside0 (Below w5.heap.size w5 (((((((((w6.setCell ⟨g5, 0, none⟩ (.int .i64 7)).setCell ⟨g5, 1, none⟩ (.int .i64 0)).setCell ⟨g5, 2, none⟩ (.int .i64 (0))).setCell ⟨g5, 3, none⟩ (.int .i64 (3))).setCell ⟨g5, 4, none⟩ (.int .i64 0)).setCell ⟨g5, 5, none⟩ (.int .i64 0)).setCell ⟨g5, 6, none⟩ (.string (⟨#[]⟩ : ByteArray))).setCell ⟨g5, 7, none⟩ (.slice B7 0 d7)).setCell ⟨g5, 8, none⟩ (.slice B8 0 d8))) := ⟨below9 HBx5.out GE5.out⟩
   have HSy5 : Aside0 (g5 < (((((((((w6.setCell ⟨g5, 0, none⟩ (.int .i64 7)).setCell ⟨g5, 1, none⟩ (.int .i64 0)).setCell ⟨g5, 2, none⟩ (.int .i64 (0))).setCell ⟨g5, 3, none⟩ (.int .i64 (3))).setCell ⟨g5, 4, none⟩ (.int .i64 0)).setCell ⟨g5, 5, none⟩ (.int .i64 0)).setCell ⟨g5, 6, none⟩ (.string (⟨#[]⟩ : ByteArray))).setCell ⟨g5, 7, none⟩ (.slice B7 0 d7)).setCell ⟨g5, 8, none⟩ (.slice B8 0 d8)).heap.size) := ⟨blk_lt BY5.out⟩
   generalize (((((((((w6.setCell ⟨g5, 0, none⟩ (.int .i64 7)).setCell ⟨g5, 1, none⟩ (.int .i64 0)).setCell ⟨g5, 2, none⟩ (.int .i64 (0))).setCell ⟨g5, 3, none⟩ (.int .i64 (3))).setCell ⟨g5, 4, none⟩ (.int .i64 0)).setCell ⟨g5, 5, none⟩ (.int .i64 0)).setCell ⟨g5, 6, none⟩ (.string (⟨#[]⟩ : ByteArray))).setCell ⟨g5, 7, none⟩ (.slice B7 0 d7)).setCell ⟨g5, 8, none⟩ (.slice B8 0 d8) : World) = w7 at BY5 HBy5 HSy5 ⊢
   clear hz0 hzf0 hz1 hzf1 hz2 hzf2 hz3 hzf3 hz4 hzf4 hz5 hzf5 hz6 hzf6 hz7 hzf7 hz8 hzf8
   have HN7 := Aside0.mk (HN5.out.below HBy5.out)
   have BY47 := Aside0.mk (blk_below BY45.out HBy5.out)
   have y3 : w7.cell? ⟨g4, 3, none⟩ = some (.int .i64 2) := (blk_cell BY47.out 3).trans rfl
   have z3 : w7.cell? ⟨g5, 3, none⟩ = some (.int .i64 3) := (blk_cell BY5.out 3).trans rfl
   go_wp2_with (go_at_call 13; refine (z_len HN7.out).mono ?_; rintro e w8 ⟨rfl, hb⟩; have HB8 := Aside0.mk (below_step (w := w) HN7.out.bel hb); clear hb)
   go_ret
   exact ⟨rfl, HB8.out⟩
end Go.Proofs.Ytnbomedhehoflaa.Al

namespace Go.Proofs.Ytnbomedhehoflaa.Al
open Go.RowKit Go.Proofs.YtnbomedhehoflaaW.PrintWords Go.Proofs.YtnbomedhehoflaaW.PrintLast Go.Proofs.YtnbomedhehoflaaW.PrintMore
set_option linter.unusedVariables false
set_option linter.unusedSimpArgs false
/-- Blocks of other types stay. -/
def Kt (w w1 : World) : Prop := ∀ (k t : Nat) (cs : Array Value), w.heap[k]? = some (.cells cs t (0, 0)) → t ≠ 62 → t ≠ 32 → w1.heap[k]? = some (.cells cs t (0, 0))
theorem Kt.of_below {w w1 : World} (h : Below w.heap.size w w1) : Kt w w1 := fun k t cs hg _ _ => blk_below hg h
section
variable {W w w1 : World} {g : Nat} {room : Int} {X ok : Nat → Prop} {l : List S32} {v v1 v7 v8 : Value} {x : S32}
/-- A row of another type is written. -/
theorem NZ.grown {e base : Nat} {α : Type} {d : Kd α} {okr : Nat → Prop} {u : Value} {xs : List α} (h : NZ W w g room X l) (hu : d.R e w base okr u xs) (he : e ≠ 62) (ht : ∀ q, q ∈ 32 :: k32.E → q ≠ e) (hg : w.grownBy w1 u.ownBlock) (hb : Below W.heap.size W w1) : NZ W w1 g room X l := by
 obtain ⟨v, hv⟩ := h.ex
 exact ⟨⟨v, blk_grown hv.blk hg (Kd.R_ne hu hv.blk he), hv.ge, Kd.S_over' hv.row (Kd.R_typed hu) ht hg, hb⟩, fun k hk => ⟨by have := (h.lt k hk).1; have := hg.size; omega, (h.lt k hk).2⟩⟩
end
def pl1 (on : List Int) : List S32 := on.map fun t => plS t 1
/-- The net, and the transactions of the letters on it. -/
structure TS (w wr : World) (g : Nat) (on : List Int) (v5 : Value) : Prop where
 net : NZ w wr g 40 (fun _ => False) (pl1 on)
 row : (Kd.int .i64).R 3 wr w.heap.size (fun _ => True) v5 on
section
variable {w wr w1 : World} {g : Nat} {on : List Int} {v5 : Value}
theorem TS.below (h : TS w wr g on v5) (hb : Below wr.heap.size wr w1) : TS w w1 g on v5 := ⟨h.net.below hb, Kd.R_below h.row hb⟩
theorem TS.drew (h : TS w wr g on v5) : TS w wr.drew g on v5 := h.below (below_drew (Below.refl _ _))
/-- What stands on the net is told by numbers that may be. -/
def OkT (i : Nat) (on : List Int) : Prop := on.length ≤ 40 ∧ ∀ t ∈ on, 1 ≤ t ∧ t ≤ (i : Int)
theorem OkT.get {i : Nat} {on : List Int} (h : OkT i on) (j : Nat) (hj : j < on.length) : 1 ≤ on.getD j 0 ∧ on.getD j 0 ≤ (i : Int) := by
 rw [List.getD_eq_getElem?_getD, List.getElem?_eq_getElem hj]
 exact h.2 _ (List.getElem_mem hj)
theorem OkT.add {i : Nat} {on : List Int} {t : Int} (h : OkT i on) (hl : on.length < 40) (h1 : 1 ≤ t) (h2 : t ≤ (i : Int)) : OkT i (on ++ [t]) := ⟨by rw [List.length_append]; exact hl, fun u hu => by
 rcases List.mem_append.1 hu with hu | hu
 ·exact h.2 u hu
 ·rw [List.mem_singleton.1 hu]; exact ⟨h1, h2⟩⟩
end
end Go.Proofs.Ytnbomedhehoflaa.Al

namespace Go.Proofs.Ytnbomedhehoflaa.Al
open Go.RowKit Go.Proofs.YtnbomedhehoflaaW.PrintWords Go.Proofs.YtnbomedhehoflaaW.PrintLast Go.Proofs.YtnbomedhehoflaaW.PrintMore
attribute [local go_sem] max2_int min2_int max_two min_two max_three min_three max_four min_four   -- for this text's walks alone
set_option linter.unusedVariables false
set_option linter.unusedSimpArgs false
attribute [local go_sem high] eqA72
end Go.Proofs.Ytnbomedhehoflaa.Al

namespace Go.Proofs.Ytnbomedhehoflaa.Al
open Go.RowKit Go.Proofs.YtnbomedhehoflaaW.PrintWords Go.Proofs.YtnbomedhehoflaaW.PrintLast Go.Proofs.YtnbomedhehoflaaW.PrintMore
attribute [local go_sem] max2_int min2_int max_two min_two max_three min_three max_four min_four   -- for this text's walks alone
set_option linter.unusedVariables false
set_option linter.unusedSimpArgs false
attribute [local go_sem high] eqA72
end Go.Proofs.Ytnbomedhehoflaa.Al

namespace Go.Proofs.Ytnbomedhehoflaa.Al
open Go.RowKit Go.Proofs.YtnbomedhehoflaaW.PrintWords Go.Proofs.YtnbomedhehoflaaW.PrintLast Go.Proofs.YtnbomedhehoflaaW.PrintMore
attribute [local go_sem] max2_int min2_int max_two min_two max_three min_three max_four min_four   -- for this text's walks alone
set_option linter.unusedVariables false
set_option linter.unusedSimpArgs false
attribute [local go_sem high] eqA72
-- NOT PRINTED: function 16 (net_Net_Copy)
-- NOT PRINTED: function 4 (corncriblaw15_NetTruth)
end Go.Proofs.Ytnbomedhehoflaa.Al

namespace Go.Proofs.Ytnbomedhehoflaa.Al
open Go.RowKit Go.Proofs.YtnbomedhehoflaaW.PrintWords Go.Proofs.YtnbomedhehoflaaW.PrintLast Go.Proofs.YtnbomedhehoflaaW.PrintMore
set_option linter.unusedVariables false
set_option linter.unusedSimpArgs false
section
variable {w wr w1 : World} {g : Nat} {on on2 : List Int} {v5 : Value}
/-- Among, as the law calls it. -/
theorem amongt_calls (a n : Int) (h0 : 0 < n) (hn : n ≤ 4611686018427387904) (w : World) : Calls Try.prog 14 #[.int .i64 a, .int .i64 n] w fun e w' => e = .returned (.int .i64 (a % n)) ∧ Below w.heap.size w w' :=
 (corncribbook_Among.calls a n (a % n) w (Amg.among_eq a n h0 hn)).mono (by rintro e w' ⟨rfl, k, rfl⟩; exact ⟨rfl, pw_below_drewN (Below.refl _ _) k⟩)
theorem int_at {base n c ga : Nat} (h : (Kd.int .i64).R 3 wr base (fun _ => True) (.slice (some ⟨ga, 0, none⟩) n c) on) (i : Nat) (hi : i < n) : wr.cell? ⟨ga, i, none⟩ = some (.int .i64 (on.getD i 0)) := by
 obtain ⟨cs, _, hM, hc, _⟩ := Kd.R_elem h 0 (i : Int) (by omega) (by omega)
 rw [Int.toNat_natCast] at hM hc
 have e : cs = [.int .i64 (on.getD i 0)] := hM
 subst e
 have := hc 0 _ rfl
 rw [show (Kd.int .i64).sz = 1 from rfl, Nat.mul_one, Nat.add_zero] at this
 exact this
end
end Go.Proofs.Ytnbomedhehoflaa.Al

namespace Go.Proofs.Ytnbomedhehoflaa.Al
open Go.RowKit Go.Proofs.YtnbomedhehoflaaW.PrintWords Go.Proofs.YtnbomedhehoflaaW.PrintLast Go.Proofs.YtnbomedhehoflaaW.PrintMore
set_option linter.unusedVariables false
set_option linter.unusedSimpArgs false
def forL (l : List S32) (too : Int) (i : Nat) : List Int := ((List.range i).filter fun j => (l.getD j z32).f2 == too).map fun (j : Nat) => (j : Int)
theorem filt1 {p : Nat → Bool} {i : Nat} (h : p i = true) : [i].filter p = [i] := List.filter_cons_of_pos h
theorem filt0 {p : Nat → Bool} {i : Nat} (h : ¬ p i = true) : [i].filter p = [] := List.filter_cons_of_neg h
theorem forL_yes {l : List S32} {too : Int} {i : Nat} (h : (l.getD i z32).f2 = too) : forL l too (i + 1) = forL l too i ++ [(i : Int)] := by
 unfold forL
 rw [List.range_succ, List.filter_append, List.map_append, filt1 (p := fun (j : Nat) => (l.getD j z32).f2 == too) (beq_iff_eq.2 h)]
 rfl
theorem forL_no {l : List S32} {too : Int} {i : Nat} (h : (l.getD i z32).f2 ≠ too) : forL l too (i + 1) = forL l too i := by
 unfold forL
 rw [List.range_succ, List.filter_append, List.map_append, filt0 (p := fun (j : Nat) => (l.getD j z32).f2 == too) (fun hh => h (beq_iff_eq.1 hh))]
 simp
theorem forL_len (l : List S32) (too : Int) (i : Nat) : (forL l too i).length ≤ i := by
 unfold forL
 rw [List.length_map]
 have := List.length_filter_le (fun j => (l.getD j z32).f2 == too) (List.range i)
 rw [List.length_range] at this
 exact this
theorem forL_mem {l : List S32} {too x : Int} {i : Nat} : x ∈ forL l too i ↔ ∃ j, j < i ∧ (l.getD j z32).f2 = too ∧ (j : Int) = x := by
 unfold forL
 simp only [List.mem_map, List.mem_filter, List.mem_range, beq_iff_eq]
 exact ⟨fun ⟨j, ⟨a, b⟩, c⟩ => ⟨j, a, b, c⟩, fun ⟨j, a, b, c⟩ => ⟨j, ⟨a, b⟩, c⟩⟩
theorem forL_nodup (l : List S32) (too : Int) : ∀ i, (forL l too i).Nodup
 |0 => by simp [forL]
 |i + 1 => by
  by_cases h : (l.getD i z32).f2 = too
  ·rw [forL_yes h, List.nodup_append]
   refine ⟨forL_nodup l too i, by simp, fun a ha b hb => ?_⟩
   obtain ⟨j, hj, _, rfl⟩ := forL_mem.1 ha
   rw [List.mem_singleton.1 hb]
   omega
  ·rw [forL_no h]; exact forL_nodup l too i
theorem take_mem {P : List Int} {k : Nat} (hk : k < P.length) (x : Int) : x ∈ P.take (k + 1) ↔ x ∈ P.take k ∨ x = P.getD k 0 := by
 rw [List.take_add_one, List.mem_append, List.getD_eq_getElem?_getD, List.getElem?_eq_getElem hk]
 simp
theorem forL_at {l : List S32} {too : Int} {i k : Nat} (hk : k < (forL l too i).length) : ∃ a : Nat, (forL l too i).getD k 0 = (a : Int) ∧ a < i ∧ (l.getD a z32).f2 = too ∧ (a : Int) ∉ (forL l too i).take k := by
 have hm : (forL l too i).getD k 0 ∈ forL l too i := by rw [List.getD_eq_getElem?_getD, List.getElem?_eq_getElem hk]; exact List.getElem_mem hk
 obtain ⟨a, h1, h2, h3⟩ := forL_mem.1 hm
 refine ⟨a, h3.symm, h1, h2, fun hin => ?_⟩
 have hn := forL_nodup l too i
 rw [h3] at hin
 generalize forL l too i = P at hk hin hn
 rw [List.getD_eq_getElem?_getD, List.getElem?_eq_getElem hk, Option.getD_some] at hin
 obtain ⟨j, hj, e⟩ := List.mem_iff_getElem.1 hin
 rw [List.length_take] at hj
 rw [List.getElem_take] at e
 exact List.pairwise_iff_getElem.1 hn j k (by omega) hk (by omega) e
set_option maxHeartbeats 8000000 in
set_option maxRecDepth 100000 in
theorem for_walk (w : World) (g : Nat) (room : Int) (A : Option Addr) (n c : Nat) (l : List S32) (too : Int) (hn : n = l.length) (hl : l.length ≤ 1024) (hblk : w.heap[g]? = some (.cells #[.int .i64 room, .slice A n c] 62 (0, 0))) (hC : Kd.C k32 w A l.length l) : Calls Try.prog 17 #[.pointer (some ⟨g, 0, none⟩), .int .i64 too] w fun e w' => ∃ v, e = .returned v ∧ (Kd.int .i64).R 3 w' w.heap.size (fun _ => True) v (forL l too n) ∧ Below w.heap.size w w' := by
 have hu32 := Try.underlying32
 have hcell : w.cell? ⟨g, 1, none⟩ = some (.slice A n c) := (blk_cell hblk 1).trans rfl
 have HC := Aside0.mk hC
 have HN := Aside0.mk hn
 have hn' : n ≤ 1024 := by omega
 have HB0 : Aside0 (Below w.heap.size w w) := ⟨Below.refl _ _⟩
 have HR0 : Aside0 ((Kd.int .i64).R 3 w w.heap.size (fun _ => True) (.slice none 0 0) (forL l too 0)) := ⟨Kd.R_nil _ _ _ _ _⟩
 clear hC hblk hn
 go_enter Try.func17, Try.ntmps17
 go_wp2
 go_loopw [5, 13] (fun v5 v13 wr => ∃ i : Nat, v13 = .int .i64 i ∧ i ≤ n ∧ Aside0 ((Kd.int .i64).R 3 wr w.heap.size (fun _ => True) v5 (forL l too i)) ∧ Aside0 (Below w.heap.size w wr)) (fun _ v13 _ => n - (intOf v13).toNat)
 case atStart => exact ⟨0, rfl, Nat.zero_le _, HR0, HB0⟩
 case round =>
  obtain ⟨i, rfl, hi, HR, HB⟩ := hrel
  clear HR0 HB0 hcell
  by_cases hlt : i < n
  ·have b1 : decide ((i : Int) < (n : Int)) = true := decide_eq_true (by omega)
   have b2 : decide (i < n) = true := decide_eq_true hlt
   obtain ⟨ad, A7, c7, A8, c8, eA, hx0, hx1, hx2, hx3, hx4, hx5, hx6, hx7, hx8, _⟩ := at_T32 (Kd.C_below HC.out HB.out) (i : Int) (by omega) (by have := HN.out; omega)
   have HX : Aside0 (l.getD i z32 = rd_T32 l (i : Int)) := ⟨by unfold rd_T32; rw [Int.toNat_natCast]⟩
   simp only [Int.toNat_natCast] at hx0 hx1 hx2 hx3 hx4 hx5 hx6 hx7 hx8
   subst eA
   generalize rd_T32 l (i : Int) = x at *
   obtain ⟨n7, hn7⟩ : ∃ n, n = x.f7.length := ⟨_, rfl⟩
   obtain ⟨n8, hn8⟩ : ∃ n, n = x.f8.length := ⟨_, rfl⟩
   rw [← hn7] at hx7
   rw [← hn8] at hx8
   clear hn7 hn8
   obtain ⟨A5, c5, hv5⟩ := Kd.R_slice HR.out
   have HL : Aside0 ((forL l too i).length ≤ 1024) := ⟨by have := forL_len l too i; omega⟩
   obtain ⟨on, hon⟩ : ∃ on, on = forL l too i := ⟨_, rfl⟩
   rw [← hon] at HR HL hv5
   obtain ⟨m, hm⟩ : ∃ m, m = on.length := ⟨_, rfl⟩
   rw [← hm] at hv5
   subst hv5
   have HON := Aside0.mk hon
   clear hon hm
   have HI := Aside0.mk hlt
   go_upto_region 5 with ((with_reducible refine gate_dst (N := 7) rfl ?_); refine box_event ?hg7 (N := 7) ?hd7 (cs := #[.int .i64 0, .int .i64 0, .int .i64 0, .int .i64 0, .int .i64 0, .int .i64 0, .string (⟨#[]⟩ : ByteArray), .slice none 0 0, .slice none 0 0]) (t := 32) ?hr7 ?_; (case hd7 => rfl); (case hg7 => rfl); (case hr7 => first | (go_simp; done) | (go_simp; rfl)); intro gb hg w3 hbox hb; have BX7 := Aside0.mk hbox; have HBx7 := Aside0.mk hb; have GE7 := Aside0.mk (show wr.heap.size ≤ gb from Nat.le_of_eq hg.symm); have GL7 := Aside0.mk (blk_lt hbox); obtain ⟨hz0, hzf0, hz1, hzf1, hz2, hzf2, hz3, hzf3, hz4, hzf4, hz5, hzf5, hz6, hzf6, hz7, hzf7, hz8, hzf8⟩ := c9f hbox; clear hg hbox hb)
   have BY7 : Aside0 ((((((((((w3.setCell ⟨gb, 0, none⟩ (.int .i64 x.f0)).setCell ⟨gb, 1, none⟩ (.int .i64 x.f1)).setCell ⟨gb, 2, none⟩ (.int .i64 x.f2)).setCell ⟨gb, 3, none⟩ (.int .i64 x.f3)).setCell ⟨gb, 4, none⟩ (.int .i64 x.f4)).setCell ⟨gb, 5, none⟩ (.int .i64 x.f5)).setCell ⟨gb, 6, none⟩ (.string x.f6)).setCell ⟨gb, 7, none⟩ (.slice A7 n7 c7)).setCell ⟨gb, 8, none⟩ (.slice A8 n8 c8)).heap[gb]? = some (.cells #[.int .i64 x.f0, .int .i64 x.f1, .int .i64 x.f2, .int .i64 x.f3, .int .i64 x.f4, .int .i64 x.f5, .string x.f6, .slice A7 n7 c7, .slice A8 n8 c8] 32 (0, 0))) := ⟨set9 BX7.out⟩
   have HBy7 : Aside0 (Below wr.heap.size wr (((((((((w3.setCell ⟨gb, 0, none⟩ (.int .i64 x.f0)).setCell ⟨gb, 1, none⟩ (.int .i64 x.f1)).setCell ⟨gb, 2, none⟩ (.int .i64 x.f2)).setCell ⟨gb, 3, none⟩ (.int .i64 x.f3)).setCell ⟨gb, 4, none⟩ (.int .i64 x.f4)).setCell ⟨gb, 5, none⟩ (.int .i64 x.f5)).setCell ⟨gb, 6, none⟩ (.string x.f6)).setCell ⟨gb, 7, none⟩ (.slice A7 n7 c7)).setCell ⟨gb, 8, none⟩ (.slice A8 n8 c8))) := ⟨below9 HBx7.out GE7.out⟩
   have HSy7 : Aside0 (gb < (((((((((w3.setCell ⟨gb, 0, none⟩ (.int .i64 x.f0)).setCell ⟨gb, 1, none⟩ (.int .i64 x.f1)).setCell ⟨gb, 2, none⟩ (.int .i64 x.f2)).setCell ⟨gb, 3, none⟩ (.int .i64 x.f3)).setCell ⟨gb, 4, none⟩ (.int .i64 x.f4)).setCell ⟨gb, 5, none⟩ (.int .i64 x.f5)).setCell ⟨gb, 6, none⟩ (.string x.f6)).setCell ⟨gb, 7, none⟩ (.slice A7 n7 c7)).setCell ⟨gb, 8, none⟩ (.slice A8 n8 c8)).heap.size) := ⟨blk_lt BY7.out⟩
   generalize (((((((((w3.setCell ⟨gb, 0, none⟩ (.int .i64 x.f0)).setCell ⟨gb, 1, none⟩ (.int .i64 x.f1)).setCell ⟨gb, 2, none⟩ (.int .i64 x.f2)).setCell ⟨gb, 3, none⟩ (.int .i64 x.f3)).setCell ⟨gb, 4, none⟩ (.int .i64 x.f4)).setCell ⟨gb, 5, none⟩ (.int .i64 x.f5)).setCell ⟨gb, 6, none⟩ (.string x.f6)).setCell ⟨gb, 7, none⟩ (.slice A7 n7 c7)).setCell ⟨gb, 8, none⟩ (.slice A8 n8 c8) : World) = W4 at BY7 HBy7 HSy7 ⊢
   clear hz0 hzf0 hz1 hzf1 hz2 hzf2 hz3 hzf3 hz4 hzf4 hz5 hzf5 hz6 hzf6 hz7 hzf7 hz8 hzf8
   have HB4 := Aside0.mk (below_step HB.out HBy7.out)
   have HR4 := Aside0.mk (Kd.R_below HR.out HBy7.out)
   have y2 : W4.cell? ⟨gb, 2, none⟩ = some (.int .i64 x.f2) := (blk_cell BY7.out 2).trans rfl
   by_cases hto : x.f2 = too
   ·have HF : Aside0 (forL l too (i + 1) = on ++ [(i : Int)]) := ⟨by rw [HON.out]; exact forL_yes (by rw [HX.out]; exact hto)⟩
    have e1 : (x.f2 == too) = true := beq_iff_eq.2 hto
    clear hto
    go_wp2_with ((with_reducible refine gate_builtin (b := .append) (xs := #[.tmp 22, .tmp 24]) rfl ?_); at_builtin; refine Kd.R_append (Kd.int .i64) (w0 := w) w.heap.size rfl (.tmp 22) (.tmp 24) 39 3 (.int .i64 0) 8 rfl Try.underlying39 info3 rfl (by decide) (by omega) (.slice A5 m c5) on ((i : Int)) [.int .i64 ((i : Int))] (fun _ => True) (fun _ => False) rfl (by first | (go_simp; done) | (go_simp; rfl)) ?aP (fun _ hk => hk.elim) ?aF ?aO ?aB ?aS ?aL ?_; (case aP => exact rfl); (case aF => exact (fun _ _ => trivial)); (case aO => exact HR4.out); (case aB => exact HB4.out); (case aS => exact HB4.out.size); (case aL => have := HL.out; omega); intro v5' w9 ho hb hg hat; have HR9 := Aside0.mk ho; have HB9 := Aside0.mk hb; clear ho hb hg hat)
    go_roundw
    case rel => exact ⟨i + 1, by go_num, HI.out, by rw [HF.out]; exact HR9, HB9⟩
    case measure => have := HI.out; simp [intOf]; omega
   ·have HF : Aside0 (forL l too (i + 1) = on) := ⟨by rw [HON.out]; exact forL_no (by rw [HX.out]; exact hto)⟩
    have e1 : (x.f2 == too) = false := beq_eq_false_iff_ne.2 hto
    go_wp2
    go_roundw
    case rel => exact ⟨i + 1, by go_num, HI.out, by rw [HF.out]; exact HR4, HB4⟩
    case measure => have := HI.out; simp [intOf]; omega
  ·obtain rfl : i = n := by omega
   have b1 : decide ((i : Int) < (i : Int)) = false := decide_eq_false (by omega)
   go_wp2
   go_ret
   exact ⟨_, rfl, HR.out, HB.out⟩
section
variable {W w w1 : World} {g : Nat} {room : Int} {X : Nat → Prop} {l : List S32}
theorem z_for (h : NZ W w g room X l) (hl : l.length ≤ 1024) (too : Int) : Calls Try.prog 17 #[.pointer (some ⟨g, 0, none⟩), .int .i64 too] w fun e w' => ∃ v, e = .returned v ∧ (Kd.int .i64).R 3 w' w.heap.size (fun _ => True) v (forL l too l.length) ∧ Below w.heap.size w w' := by
 obtain ⟨v, hv⟩ := h.ex
 obtain ⟨A, c, rfl⟩ := Kd.R_slice (Kd.S_R hv.row)
 exact for_walk w g room A l.length c l too rfl hl hv.blk (Kd.R_reads' (Kd.S_R hv.row)).2.2
end
/-- The letters of the law: one too each address. -/
def FL (tos : List Int) (i : Nat) : List S32 := (List.range i).map fun (j : Nat) => plS ((j : Int) + 1) (tos.getD j 0 % 12)
theorem FL_len (tos : List Int) (i : Nat) : (FL tos i).length = i := by simp [FL]
theorem FL_succ (tos : List Int) (i : Nat) : FL tos (i + 1) = FL tos i ++ [plS ((i : Int) + 1) (tos.getD i 0 % 12)] := by simp [FL, List.range_succ]
theorem FL_get (tos : List Int) {i j : Nat} (h : j < i) : ((FL tos i).getD j z32).f2 = tos.getD j 0 % 12 := by
 rw [List.getD_eq_getElem?_getD]
 simp [FL, h]
/-- A row of Bools. -/
def BR (W wr : World) (v : Value) (xs : List Bool) : Prop := Kd.bool.R 4 wr W.heap.size (fun _ => True) v xs
structure FB (W w : World) (g : Nat) (l : List S32) (v : Value) (T : List Bool) : Prop where
 net : NZ W w g 60 (fun _ => False) l
 b : BR W w v T
section
variable {W w w1 : World} {g gz c : Nat} {l : List S32} {v : Value} {T : List Bool}
theorem BR.form (h : BR W w v T) (hp : 0 < T.length) : ∃ g c, v = .slice (some ⟨g, 0, none⟩) T.length c ∧ W.heap.size ≤ g ∧ ∃ cells, w.heap[g]? = some (.cells cells 4 (0, 0)) := by
 obtain ⟨g, c, e, hg, _, hc⟩ := Kd.R_form h hp
 exact ⟨g, c, e, hg, hc⟩
theorem BR.celln {n : Nat} (h : BR W w (.slice (some ⟨g, 0, none⟩) n c) T) (hn : T.length = n) (i : Nat) (hi : i < n) : w.cell? ⟨g, i, none⟩ = some (.bool (T.getD i true)) ∧ w.frozen? ⟨g, i, none⟩ = false := by
 subst hn
 have := Kd.R_cell true h (i : Int) (by omega) (by omega)
 rw [Int.toNat_natCast] at this
 exact this
theorem FB.bel (h : FB W w g l v T) : Below W.heap.size W w := h.net.bel
theorem FB.below (h : FB W w g l v T) (hb : Below w.heap.size w w1) : FB W w1 g l v T := ⟨h.net.below hb, Kd.R_below h.b hb⟩
theorem FB.set {n : Nat} (h : FB W w g l (.slice (some ⟨gz, 0, none⟩) n c) T) (hn : T.length = n) (hp : 0 < n) (i : Nat) (x : Bool) : FB W (w.setCell ⟨gz, i, none⟩ (.bool x)) g l (.slice (some ⟨gz, 0, none⟩) n c) (T.set i x) ∧ ∃ cells, w.heap[gz]? = some (.cells cells 4 (0, 0)) := by
 obtain ⟨g', c', e, hg, cells, hc⟩ := h.b.form (by omega)
 injection e with e _ _
 injection e with e
 injection e with e
 subst e
 subst hn
 have hp := Kd.R_put h.b (i : Int) x
 rw [Int.toNat_natCast] at hp
 exact ⟨⟨h.net.grown h.b (by decide) (by decide) hp.2 (below_set h.net.bel hg), hp.1⟩, cells, hc⟩
theorem T_set {T : List Bool} {i n : Nat} (hn : T.length = n) (hi : i < n) (j : Nat) (hj : j < n) : (T.set i true).getD j true = (T.getD j true || decide (j = i)) := by
 rw [List.getD_eq_getElem?_getD, List.getElem?_set]
 by_cases e : i = j
 ·subst e; rw [if_pos rfl, if_pos (by omega)]; simp
 ·rw [if_neg e, ← List.getD_eq_getElem?_getD, decide_eq_false (fun h => e h.symm), Bool.or_false]
end
theorem info4 : (Try.prog.info? 4).map (fun i => (i.zero, i.size, i.bytes)) = some (some (.bool false), 1, 1) := by kernel_rfl
end Go.Proofs.Ytnbomedhehoflaa.Al

namespace Go.Proofs.Ytnbomedhehoflaa.Open
open Go.RowKit Go.Proofs.YtnbomedhehoflaaW.PrintWords
/-- Whatever reads as data of type t is told by d: V always, L where each string and slice is within the reach, m is within the bulk. -/
structure Opens {α : Type} (P : Program) (t : TypeId) (d : Kd α) (V L : α → Prop) (m : α → Nat) : Prop where
 out : ∀ {H : Type} {enc : TypeId × Value → H} {w : World} {base : Nat} {spare : Nat → Bool} {held : Bool} {fuel : Nat} {cs : List Value} {x : DataW H × List MemPlace}, DataW.trod enc P w base spare held fuel t cs = some x →
  ∃ a : α, d.K w a cs ∧ V a ∧ ((DataW.weights P t x.1).all (· ≤ reachBytes) = true → L a) ∧ m a ≤ Rows.uptoBulk x.1
theorem opens_int {P : Program} {t : TypeId} {k : IntKind} (ht : P.underlying t = some (.int k)) : Opens P t (Kd.int k) (fun n => (Lit.int k n).wf = true) (fun _ => True) (fun _ => 1) where
 out h := by
  obtain ⟨n, rfl, rfl, hw⟩ := DataW.trod_int ht h
  exact ⟨n, rfl, hw, fun _ => trivial, Nat.le_refl _⟩
theorem add_add (a : Addr) (m j : Nat) : (a.add m).add j = a.add (m + j) := by
 unfold Addr.add
 by_cases hm : m = 0 <;> by_cases hj : j = 0 <;> simp [hm, hj, Nat.add_assoc]
theorem mapM_some {β γ : Type} {f : β → Option γ} : ∀ {l : List β} {r : List γ}, l.mapM f = some r → r.length = l.length ∧ ∀ i (h : i < l.length), f l[i] = r[i]?
 |[], r, h => by simp at h; subst h; simp
 |b :: l, r, h => by
  rw [List.mapM_cons] at h
  simp only [Option.bind_eq_bind, Option.bind_eq_some_iff, Option.pure_def, Option.some.injEq] at h
  obtain ⟨c, hc, q, hq, rfl⟩ := h
  obtain ⟨hl, hi⟩ := mapM_some hq
  refine ⟨by simp [hl], fun i h => ?_⟩
  cases i with
  |zero => simpa using hc
  |succ i => simpa using hi i (by simpa using h)
theorem cells_get {w : World} {base : Nat} {a : Addr} {n : Nat} {cs : List Value} (h : w.cells? base a n = some cs) : cs.length = n ∧ ∀ i u, cs[i]? = some u → w.cell? (a.add i) = some u := by
 unfold World.cells? at h
 split at h
 ·obtain ⟨hl, hi⟩ := mapM_some h
  simp at hl
  refine ⟨hl, fun i u hu => ?_⟩
  have hlt : i < cs.length := (List.getElem?_eq_some_iff.1 hu).1
  have := hi i (by simp; omega)
  simpa [hu] using this
 ·cases h
theorem list_of {α : Type} {Q : Nat → α → Prop} : ∀ n, (∀ i, i < n → ∃ a, Q i a) → ∃ l : List α, l.length = n ∧ ∀ i a, l[i]? = some a → Q i a
 |0, _ => ⟨[], rfl, fun i a h => by simp at h⟩
 |n + 1, h => by
  obtain ⟨l, hl, hq⟩ := list_of n (fun i hi => h i (by omega))
  obtain ⟨a, ha⟩ := h n (by omega)
  refine ⟨l ++ [a], by simp [hl], fun i b hb => ?_⟩
  by_cases hi : i < n
  ·rw [List.getElem?_append_left (by omega)] at hb
   exact hq i b hb
  ·have hlt := (List.getElem?_eq_some_iff.1 hb).1
   simp at hlt
   obtain rfl : i = n := by omega
   rw [List.getElem?_append_right (by omega), hl] at hb
   simp at hb
   exact hb ▸ ha
theorem all_append {l r : List Nat} {p : Nat → Bool} : (l ++ r).all p = true ↔ l.all p = true ∧ r.all p = true := by rw [List.all_append, Bool.and_eq_true]
theorem weights_all {H : Type} {P : Program} {e : TypeId} {p : Nat → Bool} : ∀ {ds : List (DataW H)}, (DataW.weightsAll P e ds).all p = true → ∀ d ∈ ds, (DataW.weights P e d).all p = true
 |[], _, d, hd => by simp at hd
 |d0 :: ds, h, d, hd => by
  rw [DataW.weightsAll, all_append] at h
  rcases List.mem_cons.1 hd with rfl | hd
  ·exact h.1
  ·exact weights_all h.2 d hd
theorem bulk_all {H α : Type} {m : α → Nat} : ∀ {l : List α} {ds : List (DataW H)}, l.length = ds.length → (∀ (i : Nat) (a : α) (y : DataW H), l[i]? = some a → ds[i]? = some y → m a ≤ Rows.uptoBulk y) → (l.map m).sum ≤ Rows.uptoBulkAll ds
 |[], [], _, _ => by simp [Rows.uptoBulkAll]
 |a :: l, d :: ds, hl, h => by
  have ih := bulk_all (l := l) (ds := ds) (by simpa using hl) (fun i a y h1 h2 => h (i + 1) a y (by simpa using h1) (by simpa using h2))
  have h0 := h 0 a d rfl rfl
  simp only [List.map_cons, List.sum_cons, Rows.uptoBulkAll]
  omega
 |[], _ :: _, hl, _ => by simp at hl
 |_ :: _, [], hl, _ => by simp at hl
theorem opens_slice {α : Type} {P : Program} {t e : TypeId} {d : Kd α} {V L : α → Prop} {m : α → Nat} (q : Nat) (b : Nat) (ht : P.underlying t = some (.slice e)) (hsz : P.cellsOf e = d.sz) (hb : P.bytesOf e = b) (ho : Opens P e d V L m) :
  Opens P t (Kd.slice q d) (fun l => ∀ a ∈ l, V a) (fun l => l.length * b ≤ 140737488351232 ∧ ∀ a ∈ l, L a) (fun l => (l.map m).sum + 1) where
 out {H enc w base spare held fuel cs x} h := by
  rcases DataW.trod_slice ht h with ⟨rfl, rfl⟩ | ⟨ad, len, cap, elems, rest, n, rfl, rfl, rfl, hbase, hlc, hcm, hlen, hel, hsp, hns⟩
  ·exact ⟨[], ⟨none, 0, rfl, Nat.le_refl _, rfl, by simp, fun h => absurd h (by simp)⟩, by simp, fun _ => by simp, by simp [Rows.uptoBulk]⟩
  obtain ⟨l, hl, hq⟩ := list_of (Q := fun i a => (∃ c, c.length = d.sz ∧ d.K w a c ∧ (∀ j u, c[j]? = some u → w.cell? (ad.add (i * d.sz + j)) = some u)) ∧ V a ∧ (∀ y, elems[i]? = some y → ((DataW.weights P e y.1).all (· ≤ reachBytes) = true → L a) ∧ m a ≤ Rows.uptoBulk y.1)) len (by
   intro i hi
   have hy : elems[i]? = some (elems[i]'(by omega)) := List.getElem?_eq_getElem (by omega)
   have h1 := hel i hi
   rw [hy, Option.bind_eq_some_iff] at h1
   obtain ⟨c, hc, hx⟩ := h1
   obtain ⟨a, hK, hV, hL, hm⟩ := ho.out hx
   obtain ⟨hcl, hcc⟩ := cells_get hc
   rw [hsz] at hcl hcc
   refine ⟨a, ⟨c, hcl, hK, fun j u hu => by rw [← add_add]; exact hcc j u hu⟩, hV, fun y hy' => ?_⟩
   rw [hy] at hy'
   obtain rfl := Option.some.inj hy'
   exact ⟨hL, hm⟩)
  have hmax : len ≤ 9223372036854775807 := by unfold maxLen at hcm; omega
  have mem : ∀ a ∈ l, ∃ i, l[i]? = some a := fun a ha => List.mem_iff_getElem?.1 ha
  refine ⟨l, ⟨some ad, cap, by rw [hl], by omega, rfl, by omega, fun _ => ⟨ad, rfl, fun j p hp => ?_⟩⟩, ?_, ?_, ?_⟩
  ·obtain ⟨⟨c, hcl, hK, hcc⟩, _⟩ := hq j p hp
   exact ⟨c, hcl, hK, hcc⟩
  ·intro a ha
   obtain ⟨i, hi⟩ := mem a ha
   exact (hq i a hi).2.1
  ·intro hw
   simp only [DataW.weights, ht, List.all_cons, Bool.and_eq_true, decide_eq_true_eq, all_append, List.length_map, hb] at hw
   obtain ⟨hw1, hw2, _⟩ := hw
   have hw1' : (elems.length + rest.length) * b ≤ 140737488351232 := hw1
   refine ⟨?_, ?_⟩
   ·rw [hl, ← hlen]
    exact Nat.le_trans (Nat.mul_le_mul_right b (Nat.le_add_right _ _)) hw1'
   ·intro a ha
    obtain ⟨i, hi⟩ := mem a ha
    have hlt : i < elems.length := by have := (List.getElem?_eq_some_iff.1 hi).1; omega
    refine ((hq i a hi).2.2 _ (List.getElem?_eq_getElem hlt)).1 (weights_all hw2 _ ?_)
    exact List.mem_map.2 ⟨_, List.getElem_mem hlt, rfl⟩
  ·have hbk : (l.map m).sum ≤ Rows.uptoBulkAll (elems.map (·.1)) := bulk_all (by rw [hl, List.length_map, hlen]) (fun i a y h1 h2 => by
    rw [List.getElem?_map, Option.map_eq_some_iff] at h2
    obtain ⟨z, hz, rfl⟩ := h2
    exact ((hq i a h1).2.2 z hz).2)
   simp only [Rows.uptoBulk]
   omega
end Go.Proofs.Ytnbomedhehoflaa.Open
