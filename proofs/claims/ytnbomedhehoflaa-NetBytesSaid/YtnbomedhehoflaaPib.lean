/- What the laws stand on, in one text: functions of the program by their contracts, the plain mathematics behind them, and such of the printed words as these use. It began as the kit's print and own texts; put together by a program (trim.py). -/
import Derived.Test.YtnbomedhehoflaaPia
import Derived.Laws.IdiomCopy
import Derived.Deep.RegionHeld3
import Derived.StillTail
namespace Go.Proofs.Ytnbomedhehoflaa.Al
open Go.RowKit Go.Proofs.YtnbomedhehoflaaW.PrintWords
theorem cfz2 {w : World} {g t : Nat} {c0 c1 : Value} (h : w.heap[g]? = some (.cells #[c0, c1] t (0, 0))) : w.cell? ⟨g, 0, none⟩ = some c0 ∧ w.frozen? ⟨g, 0, none⟩ = false ∧ w.cell? ⟨g, 1, none⟩ = some c1 ∧ w.frozen? ⟨g, 1, none⟩ = false := ⟨(blk_cell h 0).trans rfl, blk_frozen h 0, (blk_cell h 1).trans rfl, blk_frozen h 1⟩
end Go.Proofs.Ytnbomedhehoflaa.Al

namespace Go.Proofs.Ytnbomedhehoflaa.Al
open Go.RowKit Go.Proofs.Ytnbomedhehoflaa.Base Go.Proofs.Ytnbomedhehoflaa.LetSpec Go.Proofs.YtnbomedhehoflaaW.PrintWords Go.Proofs.YtnbomedhehoflaaW.PrintLast Go.Proofs.YtnbomedhehoflaaW.PrintMore
set_option linter.unusedVariables false
set_option linter.unusedSimpArgs false
def letter_Check.f (a0_0 : Int) (a0_1 : Int) (a0_2 : Int) (a0_3 : Int) (a0_4 : Int) (a0_5 : Int) (a0_6 : ByteArray) (l0_7 : List ByteArray) (l0_8 : List (S72)) : Option Int := if l0_7.length ≤ 8796093022000 ∧ l0_8.length ≤ 8796093022000 then some (chkL a0_0 a0_1 a0_2 a0_3 a0_4 a0_5 a0_6 l0_7 l0_8) else none
theorem add_zero_ (a : Addr) : a.add 0 = a := by unfold Addr.add; simp
section
variable (a0_0 : Int) (a0_1 : Int) (a0_2 : Int) (a0_3 : Int) (a0_4 : Int) (a0_5 : Int) (a0_6 : ByteArray) (A0_7 : Option Addr) (c0_7 : Nat) (l0_7 : List ByteArray) (A0_8 : Option Addr) (c0_8 : Nat) (l0_8 : List (S72)) (w : World)
set_option maxHeartbeats 8000000 in
set_option maxRecDepth 100000 in
theorem check_bad0  (g0 : ¬ (addrB a0_1 = true)) :
  Calls Try.prog 23 #[.agg #[.int .i64 a0_0, .int .i64 a0_1, .int .i64 a0_2, .int .i64 a0_3, .int .i64 a0_4, .int .i64 a0_5, .string a0_6, .slice A0_7 l0_7.length c0_7, .slice A0_8 l0_8.length c0_8]] w fun e w' => e = .returned (.int .i64 70) ∧ Below w.heap.size w w' := by
 have hu32 := Try.underlying32
 have d0 : addrB a0_1 = false := by simpa using g0
 clear g0
 go_enter Try.func23, Try.ntmps23
 go_wp2_with (first | ((with_reducible refine gate_dst (N := 1) rfl ?_); refine box_event ?hg (N := 1) ?hd (cs := #[.int .i64 a0_0, .int .i64 a0_1, .int .i64 a0_2, .int .i64 a0_3, .int .i64 a0_4, .int .i64 a0_5, .string a0_6, .slice A0_7 l0_7.length c0_7, .slice A0_8 l0_8.length c0_8]) (t := 32) ?hr ?_; (case hd => rfl); (case hg => rfl); (case hr => first | (go_simp; done) | (go_simp; rfl)); intro gl hgl w1 hbox hb; have HB := Aside0.mk hb; have BL := Aside0.mk hbox; clear hgl hb hbox; have hcz_0 : w1.cell? ⟨gl, 0, none⟩ = some (.int .i64 a0_0) := (blk_cell BL.out 0).trans rfl; have hcz_1 : w1.cell? ⟨gl, 1, none⟩ = some (.int .i64 a0_1) := (blk_cell BL.out 1).trans rfl; have hcz_2 : w1.cell? ⟨gl, 2, none⟩ = some (.int .i64 a0_2) := (blk_cell BL.out 2).trans rfl; have hcz_3 : w1.cell? ⟨gl, 3, none⟩ = some (.int .i64 a0_3) := (blk_cell BL.out 3).trans rfl; have hcz_4 : w1.cell? ⟨gl, 4, none⟩ = some (.int .i64 a0_4) := (blk_cell BL.out 4).trans rfl; have hcz_5 : w1.cell? ⟨gl, 5, none⟩ = some (.int .i64 a0_5) := (blk_cell BL.out 5).trans rfl; have hcz_6 : w1.cell? ⟨gl, 6, none⟩ = some (.string a0_6) := (blk_cell BL.out 6).trans rfl; have hcz_7 : w1.cell? ⟨gl, 7, none⟩ = some (.slice A0_7 l0_7.length c0_7) := (blk_cell BL.out 7).trans rfl; have hcz_8 : w1.cell? ⟨gl, 8, none⟩ = some (.slice A0_8 l0_8.length c0_8) := (blk_cell BL.out 8).trans rfl) | (go_at_call 41; refine (address_calls _ _).mono ?_; rintro e w' ⟨rfl, nd, rfl⟩; (try first | exact ⟨rfl, _, World.drewN_drewN _ _ _⟩)))
 go_ret
 exact ⟨rfl, by repeat (first | exact HB.out | refine pw_below_drewN ?_ _)⟩
set_option maxHeartbeats 8000000 in
set_option maxRecDepth 100000 in
theorem check_bad1 (g0 : addrB a0_1 = true) (g1 : ¬ (addrB a0_2 = true)) :
  Calls Try.prog 23 #[.agg #[.int .i64 a0_0, .int .i64 a0_1, .int .i64 a0_2, .int .i64 a0_3, .int .i64 a0_4, .int .i64 a0_5, .string a0_6, .slice A0_7 l0_7.length c0_7, .slice A0_8 l0_8.length c0_8]] w fun e w' => e = .returned (.int .i64 70) ∧ Below w.heap.size w w' := by
 have hu32 := Try.underlying32
 have d0 : addrB a0_1 = true := g0
 have d1 : addrB a0_2 = false := by simpa using g1
 clear g0 g1
 go_enter Try.func23, Try.ntmps23
 go_wp2_with (first | ((with_reducible refine gate_dst (N := 1) rfl ?_); refine box_event ?hg (N := 1) ?hd (cs := #[.int .i64 a0_0, .int .i64 a0_1, .int .i64 a0_2, .int .i64 a0_3, .int .i64 a0_4, .int .i64 a0_5, .string a0_6, .slice A0_7 l0_7.length c0_7, .slice A0_8 l0_8.length c0_8]) (t := 32) ?hr ?_; (case hd => rfl); (case hg => rfl); (case hr => first | (go_simp; done) | (go_simp; rfl)); intro gl hgl w1 hbox hb; have HB := Aside0.mk hb; have BL := Aside0.mk hbox; clear hgl hb hbox; have hcz_0 : w1.cell? ⟨gl, 0, none⟩ = some (.int .i64 a0_0) := (blk_cell BL.out 0).trans rfl; have hcz_1 : w1.cell? ⟨gl, 1, none⟩ = some (.int .i64 a0_1) := (blk_cell BL.out 1).trans rfl; have hcz_2 : w1.cell? ⟨gl, 2, none⟩ = some (.int .i64 a0_2) := (blk_cell BL.out 2).trans rfl; have hcz_3 : w1.cell? ⟨gl, 3, none⟩ = some (.int .i64 a0_3) := (blk_cell BL.out 3).trans rfl; have hcz_4 : w1.cell? ⟨gl, 4, none⟩ = some (.int .i64 a0_4) := (blk_cell BL.out 4).trans rfl; have hcz_5 : w1.cell? ⟨gl, 5, none⟩ = some (.int .i64 a0_5) := (blk_cell BL.out 5).trans rfl; have hcz_6 : w1.cell? ⟨gl, 6, none⟩ = some (.string a0_6) := (blk_cell BL.out 6).trans rfl; have hcz_7 : w1.cell? ⟨gl, 7, none⟩ = some (.slice A0_7 l0_7.length c0_7) := (blk_cell BL.out 7).trans rfl; have hcz_8 : w1.cell? ⟨gl, 8, none⟩ = some (.slice A0_8 l0_8.length c0_8) := (blk_cell BL.out 8).trans rfl) | (go_at_call 41; refine (address_calls _ _).mono ?_; rintro e w' ⟨rfl, nd, rfl⟩; (try first | exact ⟨rfl, _, World.drewN_drewN _ _ _⟩)))
 go_ret
 exact ⟨rfl, by repeat (first | exact HB.out | refine pw_below_drewN ?_ _)⟩
set_option maxHeartbeats 8000000 in
set_option maxRecDepth 100000 in
theorem check_bad2 (g0 : addrB a0_1 = true) (g1 : addrB a0_2 = true) (g2 : ¬ (1 ≤ a0_3)) :
  Calls Try.prog 23 #[.agg #[.int .i64 a0_0, .int .i64 a0_1, .int .i64 a0_2, .int .i64 a0_3, .int .i64 a0_4, .int .i64 a0_5, .string a0_6, .slice A0_7 l0_7.length c0_7, .slice A0_8 l0_8.length c0_8]] w fun e w' => e = .returned (.int .i64 70) ∧ Below w.heap.size w w' := by
 have hu32 := Try.underlying32
 have d0 : addrB a0_1 = true := g0
 have d1 : addrB a0_2 = true := g1
 have d2 : decide (a0_3 < 1) = true := decide_eq_true (by omega)
 clear g0 g1 g2
 go_enter Try.func23, Try.ntmps23
 go_wp2_with (first | ((with_reducible refine gate_dst (N := 1) rfl ?_); refine box_event ?hg (N := 1) ?hd (cs := #[.int .i64 a0_0, .int .i64 a0_1, .int .i64 a0_2, .int .i64 a0_3, .int .i64 a0_4, .int .i64 a0_5, .string a0_6, .slice A0_7 l0_7.length c0_7, .slice A0_8 l0_8.length c0_8]) (t := 32) ?hr ?_; (case hd => rfl); (case hg => rfl); (case hr => first | (go_simp; done) | (go_simp; rfl)); intro gl hgl w1 hbox hb; have HB := Aside0.mk hb; have BL := Aside0.mk hbox; clear hgl hb hbox; have hcz_0 : w1.cell? ⟨gl, 0, none⟩ = some (.int .i64 a0_0) := (blk_cell BL.out 0).trans rfl; have hcz_1 : w1.cell? ⟨gl, 1, none⟩ = some (.int .i64 a0_1) := (blk_cell BL.out 1).trans rfl; have hcz_2 : w1.cell? ⟨gl, 2, none⟩ = some (.int .i64 a0_2) := (blk_cell BL.out 2).trans rfl; have hcz_3 : w1.cell? ⟨gl, 3, none⟩ = some (.int .i64 a0_3) := (blk_cell BL.out 3).trans rfl; have hcz_4 : w1.cell? ⟨gl, 4, none⟩ = some (.int .i64 a0_4) := (blk_cell BL.out 4).trans rfl; have hcz_5 : w1.cell? ⟨gl, 5, none⟩ = some (.int .i64 a0_5) := (blk_cell BL.out 5).trans rfl; have hcz_6 : w1.cell? ⟨gl, 6, none⟩ = some (.string a0_6) := (blk_cell BL.out 6).trans rfl; have hcz_7 : w1.cell? ⟨gl, 7, none⟩ = some (.slice A0_7 l0_7.length c0_7) := (blk_cell BL.out 7).trans rfl; have hcz_8 : w1.cell? ⟨gl, 8, none⟩ = some (.slice A0_8 l0_8.length c0_8) := (blk_cell BL.out 8).trans rfl) | (go_at_call 41; refine (address_calls _ _).mono ?_; rintro e w' ⟨rfl, nd, rfl⟩; (try first | exact ⟨rfl, _, World.drewN_drewN _ _ _⟩)))
 go_ret
 exact ⟨rfl, by repeat (first | exact HB.out | refine pw_below_drewN ?_ _)⟩
set_option maxHeartbeats 8000000 in
set_option maxRecDepth 100000 in
theorem check_bad3 (g0 : addrB a0_1 = true) (g1 : addrB a0_2 = true) (g2 : 1 ≤ a0_3) (g3 : ¬ (a0_3 ≤ 1125899906842623)) :
  Calls Try.prog 23 #[.agg #[.int .i64 a0_0, .int .i64 a0_1, .int .i64 a0_2, .int .i64 a0_3, .int .i64 a0_4, .int .i64 a0_5, .string a0_6, .slice A0_7 l0_7.length c0_7, .slice A0_8 l0_8.length c0_8]] w fun e w' => e = .returned (.int .i64 70) ∧ Below w.heap.size w w' := by
 have hu32 := Try.underlying32
 have d0 : addrB a0_1 = true := g0
 have d1 : addrB a0_2 = true := g1
 have d2 : decide (a0_3 < 1) = false := decide_eq_false (by omega)
 have d3 : decide (1125899906842623 < a0_3) = true := decide_eq_true (by omega)
 clear g0 g1 g2 g3
 go_enter Try.func23, Try.ntmps23
 go_wp2_with (first | ((with_reducible refine gate_dst (N := 1) rfl ?_); refine box_event ?hg (N := 1) ?hd (cs := #[.int .i64 a0_0, .int .i64 a0_1, .int .i64 a0_2, .int .i64 a0_3, .int .i64 a0_4, .int .i64 a0_5, .string a0_6, .slice A0_7 l0_7.length c0_7, .slice A0_8 l0_8.length c0_8]) (t := 32) ?hr ?_; (case hd => rfl); (case hg => rfl); (case hr => first | (go_simp; done) | (go_simp; rfl)); intro gl hgl w1 hbox hb; have HB := Aside0.mk hb; have BL := Aside0.mk hbox; clear hgl hb hbox; have hcz_0 : w1.cell? ⟨gl, 0, none⟩ = some (.int .i64 a0_0) := (blk_cell BL.out 0).trans rfl; have hcz_1 : w1.cell? ⟨gl, 1, none⟩ = some (.int .i64 a0_1) := (blk_cell BL.out 1).trans rfl; have hcz_2 : w1.cell? ⟨gl, 2, none⟩ = some (.int .i64 a0_2) := (blk_cell BL.out 2).trans rfl; have hcz_3 : w1.cell? ⟨gl, 3, none⟩ = some (.int .i64 a0_3) := (blk_cell BL.out 3).trans rfl; have hcz_4 : w1.cell? ⟨gl, 4, none⟩ = some (.int .i64 a0_4) := (blk_cell BL.out 4).trans rfl; have hcz_5 : w1.cell? ⟨gl, 5, none⟩ = some (.int .i64 a0_5) := (blk_cell BL.out 5).trans rfl; have hcz_6 : w1.cell? ⟨gl, 6, none⟩ = some (.string a0_6) := (blk_cell BL.out 6).trans rfl; have hcz_7 : w1.cell? ⟨gl, 7, none⟩ = some (.slice A0_7 l0_7.length c0_7) := (blk_cell BL.out 7).trans rfl; have hcz_8 : w1.cell? ⟨gl, 8, none⟩ = some (.slice A0_8 l0_8.length c0_8) := (blk_cell BL.out 8).trans rfl) | (go_at_call 41; refine (address_calls _ _).mono ?_; rintro e w' ⟨rfl, nd, rfl⟩; (try first | exact ⟨rfl, _, World.drewN_drewN _ _ _⟩)))
 go_ret
 exact ⟨rfl, by repeat (first | exact HB.out | refine pw_below_drewN ?_ _)⟩
set_option maxHeartbeats 8000000 in
set_option maxRecDepth 100000 in
theorem check_bad4 (g0 : addrB a0_1 = true) (g1 : addrB a0_2 = true) (g2 : 1 ≤ a0_3) (g3 : a0_3 ≤ 1125899906842623) (g4 : ¬ (0 ≤ a0_4)) :
  Calls Try.prog 23 #[.agg #[.int .i64 a0_0, .int .i64 a0_1, .int .i64 a0_2, .int .i64 a0_3, .int .i64 a0_4, .int .i64 a0_5, .string a0_6, .slice A0_7 l0_7.length c0_7, .slice A0_8 l0_8.length c0_8]] w fun e w' => e = .returned (.int .i64 70) ∧ Below w.heap.size w w' := by
 have hu32 := Try.underlying32
 have d0 : addrB a0_1 = true := g0
 have d1 : addrB a0_2 = true := g1
 have d2 : decide (a0_3 < 1) = false := decide_eq_false (by omega)
 have d3 : decide (1125899906842623 < a0_3) = false := decide_eq_false (by omega)
 have d4 : decide (a0_4 < 0) = true := decide_eq_true (by omega)
 clear g0 g1 g2 g3 g4
 go_enter Try.func23, Try.ntmps23
 go_wp2_with (first | ((with_reducible refine gate_dst (N := 1) rfl ?_); refine box_event ?hg (N := 1) ?hd (cs := #[.int .i64 a0_0, .int .i64 a0_1, .int .i64 a0_2, .int .i64 a0_3, .int .i64 a0_4, .int .i64 a0_5, .string a0_6, .slice A0_7 l0_7.length c0_7, .slice A0_8 l0_8.length c0_8]) (t := 32) ?hr ?_; (case hd => rfl); (case hg => rfl); (case hr => first | (go_simp; done) | (go_simp; rfl)); intro gl hgl w1 hbox hb; have HB := Aside0.mk hb; have BL := Aside0.mk hbox; clear hgl hb hbox; have hcz_0 : w1.cell? ⟨gl, 0, none⟩ = some (.int .i64 a0_0) := (blk_cell BL.out 0).trans rfl; have hcz_1 : w1.cell? ⟨gl, 1, none⟩ = some (.int .i64 a0_1) := (blk_cell BL.out 1).trans rfl; have hcz_2 : w1.cell? ⟨gl, 2, none⟩ = some (.int .i64 a0_2) := (blk_cell BL.out 2).trans rfl; have hcz_3 : w1.cell? ⟨gl, 3, none⟩ = some (.int .i64 a0_3) := (blk_cell BL.out 3).trans rfl; have hcz_4 : w1.cell? ⟨gl, 4, none⟩ = some (.int .i64 a0_4) := (blk_cell BL.out 4).trans rfl; have hcz_5 : w1.cell? ⟨gl, 5, none⟩ = some (.int .i64 a0_5) := (blk_cell BL.out 5).trans rfl; have hcz_6 : w1.cell? ⟨gl, 6, none⟩ = some (.string a0_6) := (blk_cell BL.out 6).trans rfl; have hcz_7 : w1.cell? ⟨gl, 7, none⟩ = some (.slice A0_7 l0_7.length c0_7) := (blk_cell BL.out 7).trans rfl; have hcz_8 : w1.cell? ⟨gl, 8, none⟩ = some (.slice A0_8 l0_8.length c0_8) := (blk_cell BL.out 8).trans rfl) | (go_at_call 41; refine (address_calls _ _).mono ?_; rintro e w' ⟨rfl, nd, rfl⟩; (try first | exact ⟨rfl, _, World.drewN_drewN _ _ _⟩)))
 go_ret
 exact ⟨rfl, by repeat (first | exact HB.out | refine pw_below_drewN ?_ _)⟩
set_option maxHeartbeats 8000000 in
set_option maxRecDepth 100000 in
theorem check_bad5 (g0 : addrB a0_1 = true) (g1 : addrB a0_2 = true) (g2 : 1 ≤ a0_3) (g3 : a0_3 ≤ 1125899906842623) (g4 : 0 ≤ a0_4) (g5 : ¬ (a0_4 ≤ 1125899906842624)) :
  Calls Try.prog 23 #[.agg #[.int .i64 a0_0, .int .i64 a0_1, .int .i64 a0_2, .int .i64 a0_3, .int .i64 a0_4, .int .i64 a0_5, .string a0_6, .slice A0_7 l0_7.length c0_7, .slice A0_8 l0_8.length c0_8]] w fun e w' => e = .returned (.int .i64 70) ∧ Below w.heap.size w w' := by
 have hu32 := Try.underlying32
 have d0 : addrB a0_1 = true := g0
 have d1 : addrB a0_2 = true := g1
 have d2 : decide (a0_3 < 1) = false := decide_eq_false (by omega)
 have d3 : decide (1125899906842623 < a0_3) = false := decide_eq_false (by omega)
 have d4 : decide (a0_4 < 0) = false := decide_eq_false (by omega)
 have d5 : decide (1125899906842624 < a0_4) = true := decide_eq_true (by omega)
 clear g0 g1 g2 g3 g4 g5
 go_enter Try.func23, Try.ntmps23
 go_wp2_with (first | ((with_reducible refine gate_dst (N := 1) rfl ?_); refine box_event ?hg (N := 1) ?hd (cs := #[.int .i64 a0_0, .int .i64 a0_1, .int .i64 a0_2, .int .i64 a0_3, .int .i64 a0_4, .int .i64 a0_5, .string a0_6, .slice A0_7 l0_7.length c0_7, .slice A0_8 l0_8.length c0_8]) (t := 32) ?hr ?_; (case hd => rfl); (case hg => rfl); (case hr => first | (go_simp; done) | (go_simp; rfl)); intro gl hgl w1 hbox hb; have HB := Aside0.mk hb; have BL := Aside0.mk hbox; clear hgl hb hbox; have hcz_0 : w1.cell? ⟨gl, 0, none⟩ = some (.int .i64 a0_0) := (blk_cell BL.out 0).trans rfl; have hcz_1 : w1.cell? ⟨gl, 1, none⟩ = some (.int .i64 a0_1) := (blk_cell BL.out 1).trans rfl; have hcz_2 : w1.cell? ⟨gl, 2, none⟩ = some (.int .i64 a0_2) := (blk_cell BL.out 2).trans rfl; have hcz_3 : w1.cell? ⟨gl, 3, none⟩ = some (.int .i64 a0_3) := (blk_cell BL.out 3).trans rfl; have hcz_4 : w1.cell? ⟨gl, 4, none⟩ = some (.int .i64 a0_4) := (blk_cell BL.out 4).trans rfl; have hcz_5 : w1.cell? ⟨gl, 5, none⟩ = some (.int .i64 a0_5) := (blk_cell BL.out 5).trans rfl; have hcz_6 : w1.cell? ⟨gl, 6, none⟩ = some (.string a0_6) := (blk_cell BL.out 6).trans rfl; have hcz_7 : w1.cell? ⟨gl, 7, none⟩ = some (.slice A0_7 l0_7.length c0_7) := (blk_cell BL.out 7).trans rfl; have hcz_8 : w1.cell? ⟨gl, 8, none⟩ = some (.slice A0_8 l0_8.length c0_8) := (blk_cell BL.out 8).trans rfl) | (go_at_call 41; refine (address_calls _ _).mono ?_; rintro e w' ⟨rfl, nd, rfl⟩; (try first | exact ⟨rfl, _, World.drewN_drewN _ _ _⟩)))
 go_ret
 exact ⟨rfl, by repeat (first | exact HB.out | refine pw_below_drewN ?_ _)⟩
set_option maxHeartbeats 8000000 in
set_option maxRecDepth 100000 in
theorem check_bad6 (g0 : addrB a0_1 = true) (g1 : addrB a0_2 = true) (g2 : 1 ≤ a0_3) (g3 : a0_3 ≤ 1125899906842623) (g4 : 0 ≤ a0_4) (g5 : a0_4 ≤ 1125899906842624) (g6 : ¬ (0 ≤ a0_5)) :
  Calls Try.prog 23 #[.agg #[.int .i64 a0_0, .int .i64 a0_1, .int .i64 a0_2, .int .i64 a0_3, .int .i64 a0_4, .int .i64 a0_5, .string a0_6, .slice A0_7 l0_7.length c0_7, .slice A0_8 l0_8.length c0_8]] w fun e w' => e = .returned (.int .i64 70) ∧ Below w.heap.size w w' := by
 have hu32 := Try.underlying32
 have d0 : addrB a0_1 = true := g0
 have d1 : addrB a0_2 = true := g1
 have d2 : decide (a0_3 < 1) = false := decide_eq_false (by omega)
 have d3 : decide (1125899906842623 < a0_3) = false := decide_eq_false (by omega)
 have d4 : decide (a0_4 < 0) = false := decide_eq_false (by omega)
 have d5 : decide (1125899906842624 < a0_4) = false := decide_eq_false (by omega)
 have d6 : decide (a0_5 < 0) = true := decide_eq_true (by omega)
 clear g0 g1 g2 g3 g4 g5 g6
 go_enter Try.func23, Try.ntmps23
 go_wp2_with (first | ((with_reducible refine gate_dst (N := 1) rfl ?_); refine box_event ?hg (N := 1) ?hd (cs := #[.int .i64 a0_0, .int .i64 a0_1, .int .i64 a0_2, .int .i64 a0_3, .int .i64 a0_4, .int .i64 a0_5, .string a0_6, .slice A0_7 l0_7.length c0_7, .slice A0_8 l0_8.length c0_8]) (t := 32) ?hr ?_; (case hd => rfl); (case hg => rfl); (case hr => first | (go_simp; done) | (go_simp; rfl)); intro gl hgl w1 hbox hb; have HB := Aside0.mk hb; have BL := Aside0.mk hbox; clear hgl hb hbox; have hcz_0 : w1.cell? ⟨gl, 0, none⟩ = some (.int .i64 a0_0) := (blk_cell BL.out 0).trans rfl; have hcz_1 : w1.cell? ⟨gl, 1, none⟩ = some (.int .i64 a0_1) := (blk_cell BL.out 1).trans rfl; have hcz_2 : w1.cell? ⟨gl, 2, none⟩ = some (.int .i64 a0_2) := (blk_cell BL.out 2).trans rfl; have hcz_3 : w1.cell? ⟨gl, 3, none⟩ = some (.int .i64 a0_3) := (blk_cell BL.out 3).trans rfl; have hcz_4 : w1.cell? ⟨gl, 4, none⟩ = some (.int .i64 a0_4) := (blk_cell BL.out 4).trans rfl; have hcz_5 : w1.cell? ⟨gl, 5, none⟩ = some (.int .i64 a0_5) := (blk_cell BL.out 5).trans rfl; have hcz_6 : w1.cell? ⟨gl, 6, none⟩ = some (.string a0_6) := (blk_cell BL.out 6).trans rfl; have hcz_7 : w1.cell? ⟨gl, 7, none⟩ = some (.slice A0_7 l0_7.length c0_7) := (blk_cell BL.out 7).trans rfl; have hcz_8 : w1.cell? ⟨gl, 8, none⟩ = some (.slice A0_8 l0_8.length c0_8) := (blk_cell BL.out 8).trans rfl) | (go_at_call 41; refine (address_calls _ _).mono ?_; rintro e w' ⟨rfl, nd, rfl⟩; (try first | exact ⟨rfl, _, World.drewN_drewN _ _ _⟩)))
 go_ret
 exact ⟨rfl, by repeat (first | exact HB.out | refine pw_below_drewN ?_ _)⟩
set_option maxHeartbeats 8000000 in
set_option maxRecDepth 100000 in
theorem check_good (hr0_7 : Kd.C Kd.string w A0_7 l0_7.length l0_7) (hc0_7 : l0_7.length ≤ c0_7) (hr0_8 : Kd.C k72 w A0_8 l0_8.length l0_8) (hc0_8 : l0_8.length ≤ c0_8) (hl7 : l0_7.length ≤ 8796093022000) (hl8 : l0_8.length ≤ 8796093022000) (g0 : addrB a0_1 = true) (g1 : addrB a0_2 = true) (g2 : 1 ≤ a0_3) (g3 : a0_3 ≤ 1125899906842623) (g4 : 0 ≤ a0_4) (g5 : a0_4 ≤ 1125899906842624) (g6 : 0 ≤ a0_5) :
  Calls Try.prog 23 #[.agg #[.int .i64 a0_0, .int .i64 a0_1, .int .i64 a0_2, .int .i64 a0_3, .int .i64 a0_4, .int .i64 a0_5, .string a0_6, .slice A0_7 l0_7.length c0_7, .slice A0_8 l0_8.length c0_8]] w fun e w' => e = .returned (.int .i64 (fin4 a0_5 (sw a0_0 a0_5 a0_6 l0_7 l0_8))) ∧ Below w.heap.size w w' := by
 have hu32 := Try.underlying32
 have HR7 := Aside0.mk hr0_7
 have HR8 := Aside0.mk hr0_8
 have d0 : addrB a0_1 = true := g0
 have d1 : addrB a0_2 = true := g1
 have d2 : decide (a0_3 < 1) = false := decide_eq_false (by omega)
 have d3 : decide (1125899906842623 < a0_3) = false := decide_eq_false (by omega)
 have d4 : decide (a0_4 < 0) = false := decide_eq_false (by omega)
 have d5 : decide (1125899906842624 < a0_4) = false := decide_eq_false (by omega)
 have d6 : decide (a0_5 < 0) = false := decide_eq_false (by omega)
 clear hr0_7 hr0_8 g0 g1 g2 g3 g4 g5 g6
 go_enter Try.func23, Try.ntmps23
 go_wp2_with (first | ((with_reducible refine gate_dst (N := 1) rfl ?_); refine box_event ?hg (N := 1) ?hd (cs := #[.int .i64 a0_0, .int .i64 a0_1, .int .i64 a0_2, .int .i64 a0_3, .int .i64 a0_4, .int .i64 a0_5, .string a0_6, .slice A0_7 l0_7.length c0_7, .slice A0_8 l0_8.length c0_8]) (t := 32) ?hr ?_; (case hd => rfl); (case hg => rfl); (case hr => first | (go_simp; done) | (go_simp; rfl)); intro gl hgl w1 hbox hb; have HB := Aside0.mk hb; have BL := Aside0.mk hbox; clear hgl hb hbox; have hcz_0 : w1.cell? ⟨gl, 0, none⟩ = some (.int .i64 a0_0) := (blk_cell BL.out 0).trans rfl; have hcz_1 : w1.cell? ⟨gl, 1, none⟩ = some (.int .i64 a0_1) := (blk_cell BL.out 1).trans rfl; have hcz_2 : w1.cell? ⟨gl, 2, none⟩ = some (.int .i64 a0_2) := (blk_cell BL.out 2).trans rfl; have hcz_3 : w1.cell? ⟨gl, 3, none⟩ = some (.int .i64 a0_3) := (blk_cell BL.out 3).trans rfl; have hcz_4 : w1.cell? ⟨gl, 4, none⟩ = some (.int .i64 a0_4) := (blk_cell BL.out 4).trans rfl; have hcz_5 : w1.cell? ⟨gl, 5, none⟩ = some (.int .i64 a0_5) := (blk_cell BL.out 5).trans rfl; have hcz_6 : w1.cell? ⟨gl, 6, none⟩ = some (.string a0_6) := (blk_cell BL.out 6).trans rfl; have hcz_7 : w1.cell? ⟨gl, 7, none⟩ = some (.slice A0_7 l0_7.length c0_7) := (blk_cell BL.out 7).trans rfl; have hcz_8 : w1.cell? ⟨gl, 8, none⟩ = some (.slice A0_8 l0_8.length c0_8) := (blk_cell BL.out 8).trans rfl) | (go_at_call 41; refine (address_calls _ _).mono ?_; rintro e w' ⟨rfl, nd, rfl⟩; (try first | exact ⟨rfl, _, World.drewN_drewN _ _ _⟩)))
 go_quiet (fail)
 generalize eW : World.drewN w1 _ = W
 have HBq : Aside0 (Below w.heap.size w W) := ⟨by rw [← eW]; exact pw_below_drewN HB.out _⟩
 have BLq : Aside0 (W.heap[gl]? = some (.cells #[.int .i64 a0_0, .int .i64 a0_1, .int .i64 a0_2, .int .i64 a0_3, .int .i64 a0_4, .int .i64 a0_5, .string a0_6, .slice A0_7 l0_7.length c0_7, .slice A0_8 l0_8.length c0_8] 32 (0, 0))) := ⟨by rw [← eW]; exact blk_drewN BL.out _⟩
 clear eW HB BL hcz_0 hcz_1 hcz_2 hcz_3 hcz_4 hcz_5 hcz_6 hcz_7 hcz_8
 have hcz_0 : W.cell? ⟨gl, 0, none⟩ = some (.int .i64 a0_0) := (blk_cell BLq.out 0).trans rfl
 have hcz_1 : W.cell? ⟨gl, 1, none⟩ = some (.int .i64 a0_1) := (blk_cell BLq.out 1).trans rfl
 have hcz_2 : W.cell? ⟨gl, 2, none⟩ = some (.int .i64 a0_2) := (blk_cell BLq.out 2).trans rfl
 have hcz_3 : W.cell? ⟨gl, 3, none⟩ = some (.int .i64 a0_3) := (blk_cell BLq.out 3).trans rfl
 have hcz_4 : W.cell? ⟨gl, 4, none⟩ = some (.int .i64 a0_4) := (blk_cell BLq.out 4).trans rfl
 have hcz_5 : W.cell? ⟨gl, 5, none⟩ = some (.int .i64 a0_5) := (blk_cell BLq.out 5).trans rfl
 have hcz_6 : W.cell? ⟨gl, 6, none⟩ = some (.string a0_6) := (blk_cell BLq.out 6).trans rfl
 have hcz_7 : W.cell? ⟨gl, 7, none⟩ = some (.slice A0_7 l0_7.length c0_7) := (blk_cell BLq.out 7).trans rfl
 have hcz_8 : W.cell? ⟨gl, 8, none⟩ = some (.slice A0_8 l0_8.length c0_8) := (blk_cell BLq.out 8).trans rfl
 go_upto_block 0 with (fail)
 go_cut [3, 4, 5, 6] (fun v3 v4 v5 v6 wc => ∃ (m : Int) (kB wB tB : Bool), v3 = .int .i64 m ∧ v4 = .bool kB ∧ v5 = .bool wB ∧ v6 = .bool tB ∧ Aside0 (sw a0_0 a0_5 a0_6 l0_7 l0_8 = some (m, kB, wB, tB)) ∧ Aside0 (Below w.heap.size w wc) ∧ Aside0 (wc.heap[gl]? = some (.cells #[.int .i64 a0_0, .int .i64 a0_1, .int .i64 a0_2, .int .i64 a0_3, .int .i64 a0_4, .int .i64 a0_5, .string a0_6, .slice A0_7 l0_7.length c0_7, .slice A0_8 l0_8.length c0_8] 32 (0, 0))))
 case first =>
  by_cases q2 : a0_0 = 2
  ·subst q2
   by_cases hsz : a0_6.size ≤ 2052
   ·have s1 : decide ((a0_6.size : Int) ≤ 2052) = true := decide_eq_true (by omega)
    have s2 : decide (a0_6.size ≤ 2052) = true := decide_eq_true hsz
    have HS := Aside0.mk s2
    clear hsz
    by_cases he : a0_6.toList.isEmpty = true
    ·have HE := Aside0.mk he
     by_cases hk1 : l0_7.length = 1
     ·obtain ⟨ad, rfl, hx0⟩ := Kd.at_string (Kd.C_below HR7.out HBq.out) 0 (by omega) (by omega)
      have hx : W.cell? (ad.add 0) = some (.string (rdOf ByteArray.empty l0_7 0)) := hx0
      have hx1 : W.cell? ad = some (.string (rdOf ByteArray.empty l0_7 0)) := by rw [add_zero_] at hx; exact hx
      have k1 : ((l0_7.length : Int) == 1) = true := by simp; omega
      have k2 : (l0_7.length == 1) = true := by simp; omega
      have k3 : decide (0 < l0_7.length) = true := decide_eq_true (by omega)
      have k4 : decide ((0 : Int) < (l0_7.length : Int)) = true := decide_eq_true (by omega)
      have k5 : 0 < l0_7.length := by omega
      have HK1 := Aside0.mk hk1
      clear hk1 hx0
      go_wp2_with ((go_at_call 42; refine (key_calls _ _).mono ?_; rintro e w' ⟨rfl, nd, rfl⟩))
      go_meet
      case rel => exact ⟨4, (keyB (rdOf ByteArray.empty l0_7 0)), ((l0_8.length : Int) == 0), true, rfl, rfl, rfl, rfl, ⟨by simp [sw, HK1.out, HS.out, HE.out]⟩, ⟨by repeat (first | exact HBq.out | refine pw_below_drewN ?_ _)⟩, ⟨by (with_reducible repeat (first | refine blk_drewN ?_ _ | refine blk_drew ?_)); exact BLq.out⟩⟩
     ·have k1 : ((l0_7.length : Int) == 1) = false := by simp; omega
      have k2 : (l0_7.length == 1) = false := by simp; omega
      have HK1 := Aside0.mk hk1
      clear hk1
      go_wp2
      go_meet
      case rel => exact ⟨4, false, ((l0_8.length : Int) == 0), true, rfl, rfl, rfl, rfl, ⟨by simp [sw, HK1.out, HS.out, HE.out]⟩, ⟨by repeat (first | exact HBq.out | refine pw_below_drewN ?_ _)⟩, ⟨by (with_reducible repeat (first | refine blk_drewN ?_ _ | refine blk_drew ?_)); exact BLq.out⟩⟩
    ·have he2 : a0_6.toList.isEmpty = false := by simpa using he
     have HE := Aside0.mk he2
     clear he
     by_cases hc1 : a0_5 = 1
     ·have e1 : (a0_5 == 1) = true := by simpa using hc1
      have HC1 := Aside0.mk e1
      clear hc1
      by_cases hk1 : l0_7.length = 1
      ·obtain ⟨ad, rfl, hx0⟩ := Kd.at_string (Kd.C_below HR7.out HBq.out) 0 (by omega) (by omega)
       have hx : W.cell? (ad.add 0) = some (.string (rdOf ByteArray.empty l0_7 0)) := hx0
       have hx1 : W.cell? ad = some (.string (rdOf ByteArray.empty l0_7 0)) := by rw [add_zero_] at hx; exact hx
       have k1 : ((l0_7.length : Int) == 1) = true := by simp; omega
       have k2 : (l0_7.length == 1) = true := by simp; omega
       have k3 : decide (0 < l0_7.length) = true := decide_eq_true (by omega)
       have k4 : decide ((0 : Int) < (l0_7.length : Int)) = true := decide_eq_true (by omega)
       have k5 : 0 < l0_7.length := by omega
       have HK1 := Aside0.mk hk1
       clear hk1 hx0
       go_wp2_with ((go_at_call 42; refine (key_calls _ _).mono ?_; rintro e w' ⟨rfl, nd, rfl⟩))
       go_meet
       case rel => exact ⟨4, (keyB (rdOf ByteArray.empty l0_7 0)), ((l0_8.length : Int) == 0), true, rfl, rfl, rfl, rfl, ⟨by simp [sw, HK1.out, HS.out, HE.out, HC1.out]⟩, ⟨by repeat (first | exact HBq.out | refine pw_below_drewN ?_ _)⟩, ⟨by (with_reducible repeat (first | refine blk_drewN ?_ _ | refine blk_drew ?_)); exact BLq.out⟩⟩
      ·have k1 : ((l0_7.length : Int) == 1) = false := by simp; omega
       have k2 : (l0_7.length == 1) = false := by simp; omega
       have HK1 := Aside0.mk hk1
       clear hk1
       go_wp2
       go_meet
       case rel => exact ⟨4, false, ((l0_8.length : Int) == 0), true, rfl, rfl, rfl, rfl, ⟨by simp [sw, HK1.out, HS.out, HE.out, HC1.out]⟩, ⟨by repeat (first | exact HBq.out | refine pw_below_drewN ?_ _)⟩, ⟨by (with_reducible repeat (first | refine blk_drewN ?_ _ | refine blk_drew ?_)); exact BLq.out⟩⟩
     ·have e1 : (a0_5 == 1) = false := by simpa using hc1
      have HC1 := Aside0.mk e1
      clear hc1
      by_cases hk1 : l0_7.length = 1
      ·obtain ⟨ad, rfl, hx0⟩ := Kd.at_string (Kd.C_below HR7.out HBq.out) 0 (by omega) (by omega)
       have hx : W.cell? (ad.add 0) = some (.string (rdOf ByteArray.empty l0_7 0)) := hx0
       have hx1 : W.cell? ad = some (.string (rdOf ByteArray.empty l0_7 0)) := by rw [add_zero_] at hx; exact hx
       have k1 : ((l0_7.length : Int) == 1) = true := by simp; omega
       have k2 : (l0_7.length == 1) = true := by simp; omega
       have k3 : decide (0 < l0_7.length) = true := decide_eq_true (by omega)
       have k4 : decide ((0 : Int) < (l0_7.length : Int)) = true := decide_eq_true (by omega)
       have k5 : 0 < l0_7.length := by omega
       have HK1 := Aside0.mk hk1
       clear hk1 hx0
       go_wp2_with ((go_at_call 42; refine (key_calls _ _).mono ?_; rintro e w' ⟨rfl, nd, rfl⟩))
       go_meet
       case rel => exact ⟨4, (keyB (rdOf ByteArray.empty l0_7 0)), ((l0_8.length : Int) == 0), false, rfl, rfl, rfl, rfl, ⟨by simp [sw, HK1.out, HS.out, HE.out, HC1.out]⟩, ⟨by repeat (first | exact HBq.out | refine pw_below_drewN ?_ _)⟩, ⟨by (with_reducible repeat (first | refine blk_drewN ?_ _ | refine blk_drew ?_)); exact BLq.out⟩⟩
      ·have k1 : ((l0_7.length : Int) == 1) = false := by simp; omega
       have k2 : (l0_7.length == 1) = false := by simp; omega
       have HK1 := Aside0.mk hk1
       clear hk1
       go_wp2
       go_meet
       case rel => exact ⟨4, false, ((l0_8.length : Int) == 0), false, rfl, rfl, rfl, rfl, ⟨by simp [sw, HK1.out, HS.out, HE.out, HC1.out]⟩, ⟨by repeat (first | exact HBq.out | refine pw_below_drewN ?_ _)⟩, ⟨by (with_reducible repeat (first | refine blk_drewN ?_ _ | refine blk_drew ?_)); exact BLq.out⟩⟩
   ·have s1 : decide ((a0_6.size : Int) ≤ 2052) = false := decide_eq_false (by omega)
    have s2 : decide (a0_6.size ≤ 2052) = false := decide_eq_false hsz
    have HS := Aside0.mk s2
    clear hsz
    by_cases hk1 : l0_7.length = 1
    ·obtain ⟨ad, rfl, hx0⟩ := Kd.at_string (Kd.C_below HR7.out HBq.out) 0 (by omega) (by omega)
     have hx : W.cell? (ad.add 0) = some (.string (rdOf ByteArray.empty l0_7 0)) := hx0
     have hx1 : W.cell? ad = some (.string (rdOf ByteArray.empty l0_7 0)) := by rw [add_zero_] at hx; exact hx
     have k1 : ((l0_7.length : Int) == 1) = true := by simp; omega
     have k2 : (l0_7.length == 1) = true := by simp; omega
     have k3 : decide (0 < l0_7.length) = true := decide_eq_true (by omega)
     have k4 : decide ((0 : Int) < (l0_7.length : Int)) = true := decide_eq_true (by omega)
     have k5 : 0 < l0_7.length := by omega
     have HK1 := Aside0.mk hk1
     clear hk1 hx0
     go_wp2_with ((go_at_call 42; refine (key_calls _ _).mono ?_; rintro e w' ⟨rfl, nd, rfl⟩))
     go_meet
     case rel => exact ⟨4, (keyB (rdOf ByteArray.empty l0_7 0)), ((l0_8.length : Int) == 0), false, rfl, rfl, rfl, rfl, ⟨by simp [sw, HK1.out, HS.out]⟩, ⟨by repeat (first | exact HBq.out | refine pw_below_drewN ?_ _)⟩, ⟨by (with_reducible repeat (first | refine blk_drewN ?_ _ | refine blk_drew ?_)); exact BLq.out⟩⟩
    ·have k1 : ((l0_7.length : Int) == 1) = false := by simp; omega
     have k2 : (l0_7.length == 1) = false := by simp; omega
     have HK1 := Aside0.mk hk1
     clear hk1
     go_wp2
     go_meet
     case rel => exact ⟨4, false, ((l0_8.length : Int) == 0), false, rfl, rfl, rfl, rfl, ⟨by simp [sw, HK1.out, HS.out]⟩, ⟨by repeat (first | exact HBq.out | refine pw_below_drewN ?_ _)⟩, ⟨by (with_reducible repeat (first | refine blk_drewN ?_ _ | refine blk_drew ?_)); exact BLq.out⟩⟩
  ·by_cases q1 : a0_0 = 1
   ·subst q1
    clear q2
    by_cases hk1 : l0_7.length = 1
    ·obtain ⟨ad, rfl, hx0⟩ := Kd.at_string (Kd.C_below HR7.out HBq.out) 0 (by omega) (by omega)
     have hx : W.cell? (ad.add 0) = some (.string (rdOf ByteArray.empty l0_7 0)) := hx0
     have hx1 : W.cell? ad = some (.string (rdOf ByteArray.empty l0_7 0)) := by rw [add_zero_] at hx; exact hx
     have k1 : ((l0_7.length : Int) == 1) = true := by simp; omega
     have k2 : (l0_7.length == 1) = true := by simp; omega
     have k3 : decide (0 < l0_7.length) = true := decide_eq_true (by omega)
     have k4 : decide ((0 : Int) < (l0_7.length : Int)) = true := decide_eq_true (by omega)
     have k5 : 0 < l0_7.length := by omega
     have HK1 := Aside0.mk hk1
     clear hk1 hx0
     go_wp2_with ((go_at_call 42; refine (key_calls _ _).mono ?_; rintro e w' ⟨rfl, nd, rfl⟩))
     go_meet
     case rel => exact ⟨0, (keyB (rdOf ByteArray.empty l0_7 0)), ((l0_8.length : Int) == 0), a0_6.toList.isEmpty, rfl, rfl, rfl, rfl, ⟨by simp [sw, HK1.out]⟩, ⟨by repeat (first | exact HBq.out | refine pw_below_drewN ?_ _)⟩, ⟨by (with_reducible repeat (first | refine blk_drewN ?_ _ | refine blk_drew ?_)); exact BLq.out⟩⟩
    ·have k1 : ((l0_7.length : Int) == 1) = false := by simp; omega
     have k2 : (l0_7.length == 1) = false := by simp; omega
     have HK1 := Aside0.mk hk1
     clear hk1
     go_wp2
     go_meet
     case rel => exact ⟨0, false, ((l0_8.length : Int) == 0), a0_6.toList.isEmpty, rfl, rfl, rfl, rfl, ⟨by simp [sw, HK1.out]⟩, ⟨by repeat (first | exact HBq.out | refine pw_below_drewN ?_ _)⟩, ⟨by (with_reducible repeat (first | refine blk_drewN ?_ _ | refine blk_drew ?_)); exact BLq.out⟩⟩
   ·by_cases q3 : a0_0 = 3
    ·subst q3
     clear q2 q1
     by_cases h16 : l0_7.length ≤ 16
     ·have k1 : decide ((l0_7.length : Int) ≤ 16) = true := decide_eq_true (by omega)
      have k2 : decide (l0_7.length ≤ 16) = true := decide_eq_true h16
      have HK := Aside0.mk k2
      clear h16
      go_wp2_with (first | (go_at_call 43; refine (rising_calls _ A0_7 c0_7 l0_7 (Kd.C_below HR7.out (show Below w.heap.size w _ from by repeat (first | exact HBq.out | refine pw_below_drewN ?_ _))) hc0_7 hl7).mono ?_; rintro e w' ⟨rfl, nd, rfl⟩) | (go_at_call 44; refine (writes_calls _ A0_8 c0_8 l0_8 (Kd.C_below HR8.out (show Below w.heap.size w _ from by repeat (first | exact HBq.out | refine pw_below_drewN ?_ _))) hc0_8 hl8).mono ?_; rintro e w9 ⟨rfl, hb⟩; have HB9 := Aside0.mk (below_step (show Below w.heap.size w _ from by repeat (first | exact HBq.out | refine pw_below_drewN ?_ _)) hb); have BL9 := Aside0.mk (blk_below (show _ = some (Obj.cells #[.int .i64 3, .int .i64 a0_1, .int .i64 a0_2, .int .i64 a0_3, .int .i64 a0_4, .int .i64 a0_5, .string a0_6, .slice A0_7 l0_7.length c0_7, .slice A0_8 l0_8.length c0_8] 32 (0, 0)) from by (with_reducible repeat (first | refine blk_drewN ?_ _ | refine blk_drew ?_)); exact BLq.out) hb); clear hb))
      go_meet
      case rel => exact ⟨0, risB l0_7, wriB l0_8, a0_6.toList.isEmpty, rfl, rfl, rfl, rfl, ⟨by simp [sw, HK.out]⟩, ⟨HB9.out⟩, ⟨BL9.out⟩⟩
     ·have k1 : decide ((l0_7.length : Int) ≤ 16) = false := decide_eq_false (by omega)
      have k2 : decide (l0_7.length ≤ 16) = false := decide_eq_false h16
      have HK := Aside0.mk k2
      clear h16
      go_wp2_with ((go_at_call 44; refine (writes_calls _ A0_8 c0_8 l0_8 (Kd.C_below HR8.out (show Below w.heap.size w _ from by repeat (first | exact HBq.out | refine pw_below_drewN ?_ _))) hc0_8 hl8).mono ?_; rintro e w9 ⟨rfl, hb⟩; have HB9 := Aside0.mk (below_step (show Below w.heap.size w _ from by repeat (first | exact HBq.out | refine pw_below_drewN ?_ _)) hb); have BL9 := Aside0.mk (blk_below (show _ = some (Obj.cells #[.int .i64 3, .int .i64 a0_1, .int .i64 a0_2, .int .i64 a0_3, .int .i64 a0_4, .int .i64 a0_5, .string a0_6, .slice A0_7 l0_7.length c0_7, .slice A0_8 l0_8.length c0_8] 32 (0, 0)) from by (with_reducible repeat (first | refine blk_drewN ?_ _ | refine blk_drew ?_)); exact BLq.out) hb); clear hb))
      go_meet
      case rel => exact ⟨0, false, wriB l0_8, a0_6.toList.isEmpty, rfl, rfl, rfl, rfl, ⟨by simp [sw, HK.out]⟩, ⟨HB9.out⟩, ⟨BL9.out⟩⟩
    ·by_cases q8 : a0_0 = 8
     ·subst q8
      clear q2 q1 q3
      go_wp2
      go_meet
      case rel => exact ⟨2, ((l0_7.length : Int) == 0), ((l0_8.length : Int) == 0), a0_6.toList.isEmpty, rfl, rfl, rfl, rfl, ⟨by simp [sw]⟩, ⟨by repeat (first | exact HBq.out | refine pw_below_drewN ?_ _)⟩, ⟨by (with_reducible repeat (first | refine blk_drewN ?_ _ | refine blk_drew ?_)); exact BLq.out⟩⟩
     ·by_cases q4 : a0_0 = 4
      ·subst q4
       clear q2 q1 q3 q8
       go_wp2
       go_meet
       case rel => exact ⟨1, ((l0_7.length : Int) == 0), ((l0_8.length : Int) == 0), a0_6.toList.isEmpty, rfl, rfl, rfl, rfl, ⟨by simp [sw]⟩, ⟨by repeat (first | exact HBq.out | refine pw_below_drewN ?_ _)⟩, ⟨by (with_reducible repeat (first | refine blk_drewN ?_ _ | refine blk_drew ?_)); exact BLq.out⟩⟩
      ·by_cases q5 : a0_0 = 5
       ·subst q5
        clear q2 q1 q3 q8 q4
        go_wp2
        go_meet
        case rel => exact ⟨0, ((l0_7.length : Int) == 0), ((l0_8.length : Int) == 0), a0_6.toList.isEmpty, rfl, rfl, rfl, rfl, ⟨by simp [sw]⟩, ⟨by repeat (first | exact HBq.out | refine pw_below_drewN ?_ _)⟩, ⟨by (with_reducible repeat (first | refine blk_drewN ?_ _ | refine blk_drew ?_)); exact BLq.out⟩⟩
       ·by_cases q6 : a0_0 = 6
        ·subst q6
         clear q2 q1 q3 q8 q4 q5
         go_wp2
         go_meet
         case rel => exact ⟨0, ((l0_7.length : Int) == 0), ((l0_8.length : Int) == 0), a0_6.toList.isEmpty, rfl, rfl, rfl, rfl, ⟨by simp [sw]⟩, ⟨by repeat (first | exact HBq.out | refine pw_below_drewN ?_ _)⟩, ⟨by (with_reducible repeat (first | refine blk_drewN ?_ _ | refine blk_drew ?_)); exact BLq.out⟩⟩
        ·by_cases q7 : a0_0 = 7
         ·subst q7
          clear q2 q1 q3 q8 q4 q5 q6
          go_wp2
          go_meet
          case rel => exact ⟨0, ((l0_7.length : Int) == 0), ((l0_8.length : Int) == 0), a0_6.toList.isEmpty, rfl, rfl, rfl, rfl, ⟨by simp [sw]⟩, ⟨by repeat (first | exact HBq.out | refine pw_below_drewN ?_ _)⟩, ⟨by (with_reducible repeat (first | refine blk_drewN ?_ _ | refine blk_drew ?_)); exact BLq.out⟩⟩
         ·have hsw : sw a0_0 a0_5 a0_6 l0_7 l0_8 = none := by unfold sw; rw [if_neg q2, if_neg q1, if_neg q3, if_neg q8, if_neg q4, if_neg (by omega)]
          have e2 : (a0_0 == 2) = false := by simpa using q2
          have e1 : (a0_0 == 1) = false := by simpa using q1
          have e3 : (a0_0 == 3) = false := by simpa using q3
          have e8 : (a0_0 == 8) = false := by simpa using q8
          have e4 : (a0_0 == 4) = false := by simpa using q4
          have e5 : (a0_0 == 5) = false := by simpa using q5
          have e6 : (a0_0 == 6) = false := by simpa using q6
          have e7 : (a0_0 == 7) = false := by simpa using q7
          have HSW := Aside0.mk hsw
          clear hsw q2 q1 q3 q8 q4 q5 q6 q7
          go_wp2
          go_ret
          exact ⟨by rw [HSW.out]; rfl, by repeat (first | exact HBq.out | refine pw_below_drewN ?_ _)⟩
 case rest =>
  obtain ⟨m, kB, wB, tB, rfl, rfl, rfl, rfl, HS, HB, BL⟩ := hcut
  have hv := HS.out
  by_cases h1 : a0_5 ≤ m
  ·have c1 : decide (m < a0_5) = false := decide_eq_false (by omega)
   cases kB with
   |false =>
    have HV := Aside0.mk (show fin4 a0_5 (sw a0_0 a0_5 a0_6 l0_7 l0_8) = 70 from by rw [hv]; simp [fin4])
    clear h1 hv HS
    have hcz_5 : wc.cell? ⟨gl, 5, none⟩ = some (.int .i64 a0_5) := (blk_cell BL.out 5).trans rfl
    go_wp2
    go_ret
    exact ⟨by rw [HV.out]; rfl, HB.out⟩
   |true =>
    cases wB with
    |false =>
     have HV := Aside0.mk (show fin4 a0_5 (sw a0_0 a0_5 a0_6 l0_7 l0_8) = 70 from by rw [hv]; simp [fin4])
     clear h1 hv HS
     have hcz_5 : wc.cell? ⟨gl, 5, none⟩ = some (.int .i64 a0_5) := (blk_cell BL.out 5).trans rfl
     go_wp2
     go_ret
     exact ⟨by rw [HV.out]; rfl, HB.out⟩
    |true =>
     cases tB with
     |false =>
      have HV := Aside0.mk (show fin4 a0_5 (sw a0_0 a0_5 a0_6 l0_7 l0_8) = 70 from by rw [hv]; simp [fin4])
      clear h1 hv HS
      have hcz_5 : wc.cell? ⟨gl, 5, none⟩ = some (.int .i64 a0_5) := (blk_cell BL.out 5).trans rfl
      go_wp2
      go_ret
      exact ⟨by rw [HV.out]; rfl, HB.out⟩
     |true =>
      have HV := Aside0.mk (show fin4 a0_5 (sw a0_0 a0_5 a0_6 l0_7 l0_8) = 0 from by rw [hv]; simp [fin4, h1])
      clear h1 hv HS
      have hcz_5 : wc.cell? ⟨gl, 5, none⟩ = some (.int .i64 a0_5) := (blk_cell BL.out 5).trans rfl
      go_wp2
      go_ret
      exact ⟨by rw [HV.out]; rfl, HB.out⟩
  ·have c1 : decide (m < a0_5) = true := decide_eq_true (by omega)
   have HV := Aside0.mk (show fin4 a0_5 (sw a0_0 a0_5 a0_6 l0_7 l0_8) = 70 from by rw [hv]; simp [fin4]; omega)
   clear h1 hv HS
   have hcz_5 : wc.cell? ⟨gl, 5, none⟩ = some (.int .i64 a0_5) := (blk_cell BL.out 5).trans rfl
   go_wp2
   go_ret
   exact ⟨by rw [HV.out]; rfl, HB.out⟩
end
theorem letter_Check.calls (a0_0 : Int) (a0_1 : Int) (a0_2 : Int) (a0_3 : Int) (a0_4 : Int) (a0_5 : Int) (a0_6 : ByteArray) (A0_7 : Option Addr) (c0_7 : Nat) (l0_7 : List ByteArray) (A0_8 : Option Addr) (c0_8 : Nat) (l0_8 : List (S72)) (r : Int) (w : World) (hr0_7 : Kd.C Kd.string w A0_7 l0_7.length l0_7) (hc0_7 : l0_7.length ≤ c0_7) (hr0_8 : Kd.C k72 w A0_8 l0_8.length l0_8) (hc0_8 : l0_8.length ≤ c0_8) (h : letter_Check.f a0_0 a0_1 a0_2 a0_3 a0_4 a0_5 a0_6 l0_7 l0_8 = some r) :
  Calls Try.prog 23 #[.agg #[.int .i64 a0_0, .int .i64 a0_1, .int .i64 a0_2, .int .i64 a0_3, .int .i64 a0_4, .int .i64 a0_5, .string a0_6, .slice A0_7 l0_7.length c0_7, .slice A0_8 l0_8.length c0_8]] w fun e w' => e = .returned (.int .i64 r) ∧ Below w.heap.size w w' := by
 unfold letter_Check.f at h
 split at h
 case isFalse => cases h
 rename_i hl
 obtain rfl := Option.some.inj h
 obtain ⟨hl7, hl8⟩ := hl
 unfold chkL
 by_cases g0 : addrB a0_1 = true
 case neg => rw [if_neg (fun hc => g0 hc.1)]; exact check_bad0 _ _ _ _ _ _ _ _ _ _ _ _ _ _ g0
 by_cases g1 : addrB a0_2 = true
 case neg => rw [if_neg (fun hc => g1 hc.2.1)]; exact check_bad1 _ _ _ _ _ _ _ _ _ _ _ _ _ _ g0 g1
 by_cases g2 : 1 ≤ a0_3
 case neg => rw [if_neg (fun hc => g2 hc.2.2.1)]; exact check_bad2 _ _ _ _ _ _ _ _ _ _ _ _ _ _ g0 g1 g2
 by_cases g3 : a0_3 ≤ 1125899906842623
 case neg => rw [if_neg (fun hc => g3 hc.2.2.2.1)]; exact check_bad3 _ _ _ _ _ _ _ _ _ _ _ _ _ _ g0 g1 g2 g3
 by_cases g4 : 0 ≤ a0_4
 case neg => rw [if_neg (fun hc => g4 hc.2.2.2.2.1)]; exact check_bad4 _ _ _ _ _ _ _ _ _ _ _ _ _ _ g0 g1 g2 g3 g4
 by_cases g5 : a0_4 ≤ 1125899906842624
 case neg => rw [if_neg (fun hc => g5 hc.2.2.2.2.2.1)]; exact check_bad5 _ _ _ _ _ _ _ _ _ _ _ _ _ _ g0 g1 g2 g3 g4 g5
 by_cases g6 : 0 ≤ a0_5
 case neg => rw [if_neg (fun hc => g6 hc.2.2.2.2.2.2)]; exact check_bad6 _ _ _ _ _ _ _ _ _ _ _ _ _ _ g0 g1 g2 g3 g4 g5 g6
 rw [if_pos ⟨g0, g1, g2, g3, g4, g5, g6⟩]
 exact check_good _ _ _ _ _ _ _ _ _ _ _ _ _ _ hr0_7 hc0_7 hr0_8 hc0_8 hl7 hl8 g0 g1 g2 g3 g4 g5 g6
end Go.Proofs.Ytnbomedhehoflaa.Al

namespace Go.Proofs.Ytnbomedhehoflaa.Al
open Go.RowKit Go.Proofs.YtnbomedhehoflaaW.PrintWords Go.Proofs.YtnbomedhehoflaaW.PrintLast Go.Proofs.YtnbomedhehoflaaW.PrintMore
set_option linter.unusedVariables false
set_option linter.unusedSimpArgs false
def chkS (x : S32) : Int := LetSpec.chkL x.f0 x.f1 x.f2 x.f3 x.f4 x.f5 x.f6 x.f7 x.f8
theorem chk_small {x : S32} (h : chkS x = 0) : x.f7.length ≤ 16 ∧ x.f8.length ≤ 16 := by
 unfold chkS at h
 rw [LetSpec.ref_chk] at h
 split at h
 ·unfold LetSpec.refV LetSpec.oneB LetSpec.bareB at h
  have wr : LetSpec.wriB x.f8 = true → x.f8.length ≤ 16 := fun hw => by
   unfold LetSpec.wriB at hw
   simp only [Bool.and_eq_true, decide_eq_true_eq] at hw
   exact hw.2.1
  split at h
  ·split at h
   ·rename_i hh; simp only [Bool.and_eq_true, decide_eq_true_eq] at hh; omega
   ·cases h
  split at h
  ·split at h
   ·rename_i hh; simp only [Bool.and_eq_true, decide_eq_true_eq] at hh; omega
   ·cases h
  split at h
  ·split at h
   ·rename_i hh; exact ⟨hh.1, wr hh.2.2.1⟩
   ·cases h
  split at h
  ·split at h
   ·rename_i hh; simp only [Bool.and_eq_true, decide_eq_true_eq] at hh; omega
   ·cases h
  split at h
  ·split at h
   ·rename_i hh; simp only [Bool.and_eq_true, decide_eq_true_eq] at hh; omega
   ·cases h
  split at h
  ·split at h
   ·rename_i hh; simp only [Bool.and_eq_true, decide_eq_true_eq] at hh; omega
   ·cases h
  ·cases h
 ·cases h
theorem check_len {x : S32} {A7 A8 : Option Addr} {c7 c8 n7 n8 : Nat} {w : World} (e7 : n7 = x.f7.length) (e8 : n8 = x.f8.length) (h7 : Kd.C Kd.string w A7 x.f7.length x.f7) (hc7 : x.f7.length ≤ c7) (h8 : Kd.C k72 w A8 x.f8.length x.f8) (hc8 : x.f8.length ≤ c8) (hb7 : x.f7.length ≤ 8796093022000) (hb8 : x.f8.length ≤ 8796093022000) :
  Calls Try.prog 23 #[.agg #[.int .i64 x.f0, .int .i64 x.f1, .int .i64 x.f2, .int .i64 x.f3, .int .i64 x.f4, .int .i64 x.f5, .string x.f6, .slice A7 n7 c7, .slice A8 n8 c8]] w fun e w' => e = .returned (.int .i64 (chkS x)) ∧ Below w.heap.size w w' := by
 subst e7 e8
 exact letter_Check.calls _ _ _ _ _ _ _ A7 c7 x.f7 A8 c8 x.f8 _ w h7 hc7 h8 hc8 (if_pos ⟨hb7, hb8⟩)
structure NS (W w : World) (g : Nat) (room : Int) (ok : Nat → Prop) (v : Value) (l : List S32) : Prop where
 blk : w.heap[g]? = some (.cells #[.int .i64 room, v] 62 (0, 0))
 ge : W.heap.size ≤ g
 row : k32.S 32 w W.heap.size ok v l
 bel : Below W.heap.size W w
structure NStep (w w1 : World) (g : Nat) (v v1 : Value) : Prop where
 size : w.heap.size ≤ w1.heap.size
 keep : ∀ k, k < w.heap.size → k ≠ g → v.ownBlock ≠ some k → w1.heap[k]? = w.heap[k]?
 own : v1.ownBlock = v.ownBlock ∨ ∃ b, v1.ownBlock = some b ∧ w.heap.size ≤ b
theorem NStep.of_below {w w1 : World} (hb : Below w.heap.size w w1) (g : Nat) (v : Value) : NStep w w1 g v v := ⟨hb.size, fun k hk _ _ => hb.block k hk, .inl rfl⟩
theorem NStep.trans {w w1 w2 : World} {g : Nat} {v v1 v2 : Value} (h : NStep w w1 g v v1) (k : NStep w1 w2 g v1 v2) : NStep w w2 g v v2 := by
 have hs := h.size
 refine ⟨Nat.le_trans hs k.size, fun j hj h1 h2 => (k.keep j (by omega) h1 ?_).trans (h.keep j hj h1 h2), ?_⟩
 ·rcases h.own with e | ⟨b, e, hb⟩
  ·rw [e]; exact h2
  ·rw [e]; intro he; injection he with he; omega
 ·rcases k.own with e | ⟨b, e, hb⟩
  ·rw [e]; exact h.own
  ·exact .inr ⟨b, e, by omega⟩
section
variable {W w w1 : World} {g : Nat} {room : Int} {ok ok' : Nat → Prop} {v : Value} {l : List S32}
theorem NS.below (h : NS W w g room ok v l) (hb : Below w.heap.size w w1) : NS W w1 g room ok v l := ⟨blk_below h.blk hb, h.ge, Kd.S_below h.row hb, below_step h.bel hb⟩
theorem NS.old (h : NS W w g room ok v l) (hb : Below w.heap.size w w1) : NS W w1 g room (fun k => ok k ∧ k < w.heap.size) v l := ⟨blk_below h.blk hb, h.ge, Kd.S_old h.row hb, below_step h.bel hb⟩
theorem NS.mono (h : NS W w g room ok v l) (ho : ∀ k, ok k → ok' k) : NS W w g room ok' v l := ⟨h.blk, h.ge, Kd.S_mono h.row ho, h.bel⟩
theorem NS.drew (h : NS W w g room ok v l) : NS W w.drew g room ok v l := h.below (below_drew (Below.refl _ _))
end
def sendE (room : Int) (l : List S32) (x : S32) : Int := if chkS x ≠ 0 then chkS x else if room ≤ (l.length : Int) then 150 else 0
def sendL (room : Int) (l : List S32) (x : S32) : List S32 := if chkS x ≠ 0 then l else if room ≤ (l.length : Int) then l else l ++ [x]
theorem info32 : (Try.prog.info? 32).map (fun i => (i.zero, i.size, i.bytes)) = some (some (.agg #[.int .i64 0, .int .i64 0, .int .i64 0, .int .i64 0, .int .i64 0, .int .i64 0, .string (⟨#[]⟩ : ByteArray), .slice none 0 0, .slice none 0 0]), 9, 112) := by kernel_rfl
end Go.Proofs.Ytnbomedhehoflaa.Al

namespace Go.Proofs.Ytnbomedhehoflaa.Al
open Go.RowKit Go.Proofs.YtnbomedhehoflaaW.PrintWords Go.Proofs.YtnbomedhehoflaaW.PrintLast Go.Proofs.YtnbomedhehoflaaW.PrintMore
set_option linter.unusedVariables false
set_option linter.unusedSimpArgs false
theorem copied_len {x : S32} {A7 A8 : Option Addr} {c7 c8 n7 n8 : Nat} {w : World} (e7 : n7 = x.f7.length) (e8 : n8 = x.f8.length) (h7 : Kd.C Kd.string w A7 x.f7.length x.f7) (hc7 : x.f7.length ≤ c7) (h8 : Kd.C k72 w A8 x.f8.length x.f8) (hc8 : x.f8.length ≤ c8) (hb7 : x.f7.length ≤ 16) (hb8 : x.f8.length ≤ 16) :
  Calls Try.prog 24 #[.agg #[.int .i64 x.f0, .int .i64 x.f1, .int .i64 x.f2, .int .i64 x.f3, .int .i64 x.f4, .int .i64 x.f5, .string x.f6, .slice A7 n7 c7, .slice A8 n8 c8]] w fun e w' => ∃ B7 d7 B8 d8, e = .returned (.agg #[.int .i64 x.f0, .int .i64 x.f1, .int .i64 x.f2, .int .i64 x.f3, .int .i64 x.f4, .int .i64 x.f5, .string x.f6, .slice B7 n7 d7, .slice B8 n8 d8]) ∧ Kd.string.R 9 w' w.heap.size (fun _ => True) (.slice B7 n7 d7) x.f7 ∧ k72.R 72 w' w.heap.size (fun _ => True) (.slice B8 n8 d8) x.f8 ∧ Below w.heap.size w w' := by
 subst e7 e8
 refine (copied_calls x _ _ w ⟨⟨A7, c7, rfl, h7, hc7⟩, ⟨A8, c8, rfl, h8, hc8⟩⟩ hb7 hb8).mono ?_
 rintro e w' ⟨u7, u8, rfl, r7, r8, hb⟩
 obtain ⟨B7, d7, rfl⟩ := Kd.R_slice r7
 obtain ⟨B8, d8, rfl⟩ := Kd.R_slice r8
 exact ⟨B7, d7, B8, d8, rfl, r7, r8, hb⟩
section
variable {W w w5 w6 : World} {g : Nat} {room : Int} {ok : Nat → Prop} {A : Option Addr} {n c : Nat} {l : List S32} {x : S32}
theorem send_ho (h : NS W w g room ok (.slice A n c) l) (hb : Below w.heap.size w w5) : k32.S 32 w5 W.heap.size (fun k => (ok k ∨ w.heap.size ≤ k) ∧ ¬ (w.heap.size ≤ k ∧ k < w5.heap.size)) (.slice A n c) l :=
 Kd.S_mono (Kd.S_old h.row hb) (fun k hk => ⟨.inl hk.1, fun h2 => by have := hk.2; omega⟩)
theorem send_hp {base n4 : Nat} {v7 v8 : Value} (hb : base ≤ w.heap.size) (hs : w.heap.size ≤ n4) (h7 : Kd.string.R 9 w5 n4 (fun _ => True) v7 x.f7) (h8 : k72.R 72 w5 n4 (fun _ => True) v8 x.f8) : k32.M w5 base (fun k => w.heap.size ≤ k ∧ k < w5.heap.size) x [.int .i64 x.f0, .int .i64 x.f1, .int .i64 x.f2, .int .i64 x.f3, .int .i64 x.f4, .int .i64 x.f5, .string x.f6, v7, v8] :=
 k32_mkM w5 base _ x (Kd.R_lower (Kd.R_mono (Kd.R_bound h7) (fun k hk => ⟨by have := hk.2.1; omega, hk.2.2.1⟩)) (by omega)) (Kd.R_lower (Kd.R_mono (Kd.R_bound h8) (fun k hk => ⟨by have := hk.2.1; omega, hk.2.2.1⟩)) (by omega))
theorem send_hokp (h : NS W w g room ok (.slice A n c) l) : ∀ k, (w.heap.size ≤ k ∧ k < w5.heap.size) → (ok k ∨ w.heap.size ≤ k) ∧ some k ≠ (Value.slice A n c).ownBlock :=
 fun k hk => ⟨.inr hk.1, fun he => by have := Kd.S_lt h.row k he.symm; omega⟩
theorem send_gb {gb : Nat} {o : Obj} (h : NS W w g room ok (.slice A n c) l) (hb : Below w.heap.size w w5) (hx : w5.heap[gb]? = some o) (hgb : w.heap.size ≤ gb) (hg : w5.grownBy w6 (Value.slice A n c).ownBlock) : w6.heap[gb]? = some o :=
 blk_grown hx hg (fun he => by have := Kd.S_lt h.row gb he.symm; omega)
theorem send_end {v1 : Value} {l' : List S32} (h : NS W w g room ok (.slice A n c) l) (hb : Below w.heap.size w w5) (hg : w5.grownBy w6 (Value.slice A n c).ownBlock) (hb6 : Below W.heap.size W w6) (hk : w6.heap[g]? = some (.cells #[.int .i64 room, .slice A n c] 62 (0, 0))) (ho : k32.S 32 w6 W.heap.size (fun k => ok k ∨ w.heap.size ≤ k) v1 l') (hat : v1.ownBlock = (Value.slice A n c).ownBlock ∨ ∃ b, v1.ownBlock = some b ∧ w5.heap.size ≤ b) :
  NS W (w6.setCell ⟨g, 1, none⟩ v1) g room (fun k => ok k ∨ (w.heap.size ≤ k ∧ k < (w6.setCell ⟨g, 1, none⟩ v1).heap.size)) v1 l' ∧ NStep w (w6.setCell ⟨g, 1, none⟩ v1) g (.slice A n c) v1 := by
 have hs : (w6.setCell ⟨g, 1, none⟩ v1).heap.size = w6.heap.size := by simp [World.setCell]
 have hs5 := hb.size
 have hs6 := hg.size
 refine ⟨⟨by simpa using blk_set hk 1 v1, h.ge, Kd.S_set (Kd.S_mono (Kd.S_bound ho) (fun k hk => ?_)) hk (by decide) 1 v1, below_set hb6 h.ge⟩, by omega, fun k hk h1 h2 => ?_, ?_⟩
 ·rcases hk.1 with h1 | h1
  ·exact .inl h1
  ·exact .inr ⟨h1, by rw [hs]; exact hk.2.2.1⟩
 ·rw [Below.heap_setCell w6 ⟨g, 1, none⟩ v1 k h1, hg.block k (by omega) (fun he => h2 he.symm)]
  exact hb.block k hk
 ·rcases hat with e | ⟨b, e, hb'⟩
  ·exact .inl e
  ·exact .inr ⟨b, e, by omega⟩
end
def rg10_6_T : Bool × List (List Nat × List Nat) := (true, [([], []), ([], []), ([1], [1]), ([2], [2]), ([3], [3]), ([], []), ([5], [5]), ([6], [6]), ([4, 7, 6], [4, 7]), ([0, 0, 1, 2, 3, 4, 5, 6, 7, 8], [0]), ([9, 0, 1, 2, 3, 4, 5, 6, 7, 8], [9]), ([10, 8, 8, 0, 1, 2, 3, 4, 5, 6, 7, 8], [8, 10])])
def rg10_6_B : List Nat := [0, 0, 2, 6, 14, 0, 32, 96, 254, 511, 1023, 2047]
theorem rg10_6_tab : rtab .any (opsOf Try.f10 6) = rg10_6_T := by kernel_rfl
theorem rg10_6_bits : waitsOk rg10_6_T.2 rg10_6_B = true := by kernel_rfl
set_option maxHeartbeats 8000000 in
set_option maxRecDepth 100000 in
theorem send_calls (W w : World) (g : Nat) (room : Int) (ok : Nat → Prop) (v : Value) (l : List S32) (h : NS W w g room ok v l) (hr : 1 ≤ room ∧ room ≤ 1024) (x : S32) (v7 v8 : Value) (hx : RdL w x v7 v8) (hb7 : x.f7.length ≤ 8796093022000) (hb8 : x.f8.length ≤ 8796093022000) :
  Calls Try.prog 10 #[.pointer (some ⟨g, 0, none⟩), agL x v7 v8] w fun e w' => e = .returned (.int .i64 (sendE room l x)) ∧ ∃ v', NS W w' g room (fun k => ok k ∨ (w.heap.size ≤ k ∧ k < w'.heap.size)) v' (sendL room l x) ∧ NStep w w' g v v' := by
 obtain ⟨⟨A7, c7, rfl, h7, hc7⟩, ⟨A8, c8, rfl, h8, hc8⟩⟩ := hx
 have hu32 := Try.underlying32
 have hu62 := Try.underlying62
 obtain ⟨n7, hn7⟩ : ∃ n, n = x.f7.length := ⟨_, rfl⟩
 obtain ⟨n8, hn8⟩ : ∃ n, n = x.f8.length := ⟨_, rfl⟩
 have H7 := Aside0.mk h7
 have H8 := Aside0.mk h8
 have HC7 := Aside0.mk hc7
 have HC8 := Aside0.mk hc8
 have HL7 := Aside0.mk hb7
 have HL8 := Aside0.mk hb8
 have HN7 := Aside0.mk hn7
 have HN8 := Aside0.mk hn8
 rw [← hn7, ← hn8]
 clear h7 h8 hc7 hc8 hb7 hb8 hn7 hn8
 obtain ⟨A, c, hv⟩ := Kd.S_slice h.row
 subst hv
 obtain ⟨n, hn⟩ : ∃ n, n = l.length := ⟨_, rfl⟩
 rw [← hn] at h ⊢
 have HN := Aside0.mk hn
 have HH := Aside0.mk h
 have HRM := Aside0.mk hr
 clear h hn
 by_cases hk : chkS x = 0
 rotate_left
 ·have d1 : (chkS x == 0) = false := beq_eq_false_iff_ne.2 hk
  have d2 : (chkS x != 0) = true := bne_iff_ne.2 hk
  have HE : Aside0 (sendE room l x = chkS x ∧ sendL room l x = l) := ⟨if_pos hk, if_pos hk⟩
  rw [HE.out.1, HE.out.2]
  clear hk hr
  go_enter Try.func10, Try.ntmps10
  go_wp2_with (first | ((with_reducible refine gate_dst (N := 3) rfl ?_); refine box_event ?hg3 (N := 3) ?hd3 (cs := #[.int .i64 x.f0, .int .i64 x.f1, .int .i64 x.f2, .int .i64 x.f3, .int .i64 x.f4, .int .i64 x.f5, .string x.f6, .slice A7 n7 c7, .slice A8 n8 c8]) (t := 32) ?hr3 ?_; (case hd3 => rfl); (case hg3 => rfl); (case hr3 => first | (go_simp; done) | (go_simp; rfl)); intro gb hg w1 hbox hb; have HX1 := Aside0.mk hbox; have HB1 := Aside0.mk hb; have HSB := Aside0.mk (show w.heap.size ≤ gb from Nat.le_of_eq hg.symm); obtain ⟨hx0, hx1, hx2, hx3, hx4, hx5, hx6, hx7, hx8⟩ := c9 hbox; clear hg hbox hb) | (go_at_call 23; (with_reducible refine (check_len HN7.out HN8.out (Kd.C_below H7.out HB1.out) HC7.out (Kd.C_below H8.out HB1.out) HC8.out HL7.out HL8.out).mono ?_); rintro e w2 ⟨rfl, hb⟩; have HX2 := Aside0.mk (blk_below HX1.out hb); have HB2 := Aside0.mk (below_step (w := w) HB1.out hb); clear hb hx0 hx1 hx2 hx3 hx4 hx5 hx6 hx7 hx8))
  go_ret
  exact ⟨rfl, ⟨_, (HH.out.below HB2.out).mono (fun _ hk => .inl hk), NStep.of_below HB2.out _ _⟩⟩
 have HK := Aside0.mk (chk_small hk)
 have d1 : (chkS x == 0) = true := beq_iff_eq.2 hk
 have d2 : (chkS x != 0) = false := bne_eq_false_iff_eq.2 hk
 by_cases hf : room ≤ (n : Int)
 ·have d3 : decide (room ≤ (n : Int)) = true := decide_eq_true hf
  have HE : Aside0 (sendE room l x = 150 ∧ sendL room l x = l) := ⟨by unfold sendE; rw [if_neg (fun c => c hk), if_pos (by rw [← HN.out]; exact hf)], by unfold sendL; rw [if_neg (fun c => c hk), if_pos (by rw [← HN.out]; exact hf)]⟩
  rw [HE.out.1, HE.out.2]
  clear hk hr hf
  go_enter Try.func10, Try.ntmps10
  go_upto_region 4 with (first | ((with_reducible refine gate_dst (N := 3) rfl ?_); refine box_event ?hg3 (N := 3) ?hd3 (cs := #[.int .i64 x.f0, .int .i64 x.f1, .int .i64 x.f2, .int .i64 x.f3, .int .i64 x.f4, .int .i64 x.f5, .string x.f6, .slice A7 n7 c7, .slice A8 n8 c8]) (t := 32) ?hr3 ?_; (case hd3 => rfl); (case hg3 => rfl); (case hr3 => first | (go_simp; done) | (go_simp; rfl)); intro gb hg w1 hbox hb; have HX1 := Aside0.mk hbox; have HB1 := Aside0.mk hb; have HSB := Aside0.mk (show w.heap.size ≤ gb from Nat.le_of_eq hg.symm); obtain ⟨hx0, hx1, hx2, hx3, hx4, hx5, hx6, hx7, hx8⟩ := c9 hbox; clear hg hbox hb) | (go_at_call 23; (with_reducible refine (check_len HN7.out HN8.out (Kd.C_below H7.out HB1.out) HC7.out (Kd.C_below H8.out HB1.out) HC8.out HL7.out HL8.out).mono ?_); rintro e w2 ⟨rfl, hb⟩; have HX2 := Aside0.mk (blk_below HX1.out hb); have HB2 := Aside0.mk (below_step (w := w) HB1.out hb); clear hb hx0 hx1 hx2 hx3 hx4 hx5 hx6 hx7 hx8))
  have HH2 := Aside0.mk (HH.out.below HB2.out)
  have y0 : w2.cell? ⟨g, 0, none⟩ = some (.int .i64 room) := (blk_cell HH2.out.blk 0).trans rfl
  have y1 : w2.cell? ⟨g, 1, none⟩ = some (.slice A n c) := (blk_cell HH2.out.blk 1).trans rfl
  go_region_held3 (fun W => W.cell? ⟨g, 0, none⟩ = some (.int .i64 room) ∧ W.cell? ⟨g, 1, none⟩ = some (.slice A n c)) (go_keep) (fail)
  have HB3 := Aside0.mk (below_drew HB2.out)
  generalize w2.drew = w3 at HB3 ⊢
  clear y0 y1
  go_wp2
  go_ret
  exact ⟨rfl, ⟨_, (HH.out.below HB3.out).mono (fun _ hk => .inl hk), NStep.of_below HB3.out _ _⟩⟩
 have d3 : decide (room ≤ (n : Int)) = false := decide_eq_false hf
 have HE : Aside0 (sendE room l x = 0 ∧ sendL room l x = l ++ [x]) := ⟨by unfold sendE; rw [if_neg (fun c => c hk), if_neg (by rw [← HN.out]; exact hf)], by unfold sendL; rw [if_neg (fun c => c hk), if_neg (by rw [← HN.out]; exact hf)]⟩
 rw [HE.out.1, HE.out.2]
 have HNL : Aside0 (l.length < 1024) := ⟨by rw [← HN.out]; omega⟩
 clear hk hr hf
 go_enter Try.func10, Try.ntmps10
 go_upto_region 4 with (first | ((with_reducible refine gate_dst (N := 3) rfl ?_); refine box_event ?hg3 (N := 3) ?hd3 (cs := #[.int .i64 x.f0, .int .i64 x.f1, .int .i64 x.f2, .int .i64 x.f3, .int .i64 x.f4, .int .i64 x.f5, .string x.f6, .slice A7 n7 c7, .slice A8 n8 c8]) (t := 32) ?hr3 ?_; (case hd3 => rfl); (case hg3 => rfl); (case hr3 => first | (go_simp; done) | (go_simp; rfl)); intro gb hg w1 hbox hb; have HX1 := Aside0.mk hbox; have HB1 := Aside0.mk hb; have HSB := Aside0.mk (show w.heap.size ≤ gb from Nat.le_of_eq hg.symm); obtain ⟨hx0, hx1, hx2, hx3, hx4, hx5, hx6, hx7, hx8⟩ := c9 hbox; clear hg hbox hb) | (go_at_call 23; (with_reducible refine (check_len HN7.out HN8.out (Kd.C_below H7.out HB1.out) HC7.out (Kd.C_below H8.out HB1.out) HC8.out HL7.out HL8.out).mono ?_); rintro e w2 ⟨rfl, hb⟩; have HX2 := Aside0.mk (blk_below HX1.out hb); have HB2 := Aside0.mk (below_step (w := w) HB1.out hb); clear hb hx0 hx1 hx2 hx3 hx4 hx5 hx6 hx7 hx8))
 have HH2 := Aside0.mk (HH.out.below HB2.out)
 have y0 : w2.cell? ⟨g, 0, none⟩ = some (.int .i64 room) := (blk_cell HH2.out.blk 0).trans rfl
 have y1 : w2.cell? ⟨g, 1, none⟩ = some (.slice A n c) := (blk_cell HH2.out.blk 1).trans rfl
 go_region_held3 (fun W => W.cell? ⟨g, 0, none⟩ = some (.int .i64 room) ∧ W.cell? ⟨g, 1, none⟩ = some (.slice A n c)) (go_keep) (fail)
 have HB3 := Aside0.mk (below_drew HB2.out)
 have HX3 := Aside0.mk (blk_drew HX2.out)
 generalize w2.drew = w3 at HB3 HX3 ⊢
 clear y0 y1 HH2 HX2 HX1
 have HH3 := Aside0.mk (HH.out.below HB3.out)
 go_upto_region 6 with (fail)
 refine start_ (n := 12) (S := fun w' => w'.heap[g]? = some (.cells #[.int .i64 room, .slice A n c] 62 (0, 0)) ∧ w'.heap[gb]? = some (.cells #[.int .i64 x.f0, .int .i64 x.f1, .int .i64 x.f2, .int .i64 x.f3, .int .i64 x.f4, .int .i64 x.f5, .string x.f6, .slice A7 n7 c7, .slice A8 n8 c8] 32 (0, 0))) (ds := [11]) #[false, false, false, false, false, false, false, false, false, false, false, false] (by kernel_rfl) rfl rfl ⟨blk_drew HH3.out.blk, blk_drew HX3.out⟩ (fun hHeld => ?_)
 refine with_tabW rg10_6_tab rg10_6_bits (fun HT_ HW_ => ?_)
 obtain ⟨W4, hW_⟩ : ∃ W_, W_ = w3.drew := ⟨_, rfl⟩
 have HX4 := Aside0.mk (blk_drew HX3.out)
 have HB4 := Aside0.mk (below_drew HB3.out)
 rw [← hW_] at hHeld HX4 HB4 ⊢
 clear hW_
 have HG4 := Aside0.mk hHeld.1
 refine pure_ (i := 0) (N := some 21) (v := ?_) (a' := ?_) #[true, false, false, false, false, false, false, false, false, false, false, false] rfl rfl (any_of HT_.out (by kernel_rfl)) (fun _ _ _ h => h) (Or.inl ⟨by rfl, ?_⟩) ?_ ?_
 rotate_left
 ·intro w'
  go_simp
  with_reducible rfl
 rotate_left
 ·simp only [Act.put, List.setIfInBounds_toArray, List.set_cons_zero, List.set_cons_succ, i64_w, i32_w]
  rfl
 refine pure_ (i := 1) (N := some 22) (v := ?_) (a' := ?_) #[true, true, false, false, false, false, false, false, false, false, false, false] rfl rfl (any_of HT_.out (by kernel_rfl)) (fun _ _ _ h => h) (Or.inl ⟨by rfl, ?_⟩) ?_ ?_
 rotate_left
 ·intro w'
  go_simp
  with_reducible rfl
 rotate_left
 ·simp only [Act.put, List.setIfInBounds_toArray, List.set_cons_zero, List.set_cons_succ, i64_w, i32_w]
  rfl
 refine pure_ (i := 2) (N := some 23) (v := ?_) (a' := ?_) #[true, true, true, false, false, false, false, false, false, false, false, false] rfl rfl (any_of HT_.out (by kernel_rfl)) (fun _ _ _ h => h) (Or.inl ⟨by rfl, ?_⟩) ?_ ?_
 rotate_left
 ·intro w'
  go_simp
  with_reducible rfl
 rotate_left
 ·simp only [Act.put, List.setIfInBounds_toArray, List.set_cons_zero, List.set_cons_succ, i64_w, i32_w]
  rfl
 refine pure_ (i := 3) (N := some 24) (v := ?_) (a' := ?_) #[true, true, true, true, false, false, false, false, false, false, false, false] rfl rfl (any_of HT_.out (by kernel_rfl)) (fun _ _ _ h => h) (Or.inl ⟨by rfl, ?_⟩) ?_ ?_
 rotate_left
 ·intro w'
  go_simp
  with_reducible rfl
 rotate_left
 ·simp only [Act.put, List.setIfInBounds_toArray, List.set_cons_zero, List.set_cons_succ, i64_w, i32_w]
  rfl
 refine take_ (i := 4) (N := some 25) (v := ?_) (a' := ?_) #[true, true, true, true, true, false, false, false, false, false, false, false] rfl rfl (take_ofW HT_.out HW_.out (by kernel_rfl)) (fun _ _ _ h => h) (Or.inl ⟨by rfl, ?_⟩) hHeld ?_ ?_
 rotate_left
 ·rintro w' ⟨s0, s1⟩
  have y1 : w'.cell? ⟨g, 1, none⟩ = some (.slice A n c) := (blk_cell s0 1).trans rfl
  go_simp
  with_reducible rfl
 rotate_left
 ·simp only [Act.put, List.setIfInBounds_toArray, List.set_cons_zero, List.set_cons_succ, i64_w, i32_w]
  rfl
 refine take_ (i := 5) (N := some 26) (v := ?_) (a' := ?_) #[true, true, true, true, true, true, false, false, false, false, false, false] rfl rfl (take_ofW HT_.out HW_.out (by kernel_rfl)) (fun _ _ _ h => h) (Or.inl ⟨by rfl, ?_⟩) hHeld ?_ ?_
 rotate_left
 ·rintro w' ⟨s0, s1⟩
  obtain ⟨hx0, hx1, hx2, hx3, hx4, hx5, hx6, hx7, hx8⟩ := c9 s1
  go_simp
  with_reducible rfl
 rotate_left
 ·simp only [Act.put, List.setIfInBounds_toArray, List.set_cons_zero, List.set_cons_succ, i64_w, i32_w]
  rfl
 refine one_ (i := 6) (N := some 27) #[true, true, true, true, true, true, true, false, false, false, false, false] rfl rfl (one_of HT_.out (by kernel_rfl)) (by decide) (fun K hK => ?_)
 (refine goes_ Try.func24 (by kernel_rfl) rfl #[.agg #[.int .i64 x.f0, .int .i64 x.f1, .int .i64 x.f2, .int .i64 x.f3, .int .i64 x.f4, .int .i64 x.f5, .string x.f6, .slice A7 n7 c7, .slice A8 n8 c8]] (by rfl) rfl rfl (by (try simp only [List.map_toArray, List.map_cons, List.map_nil]); first | done | rfl) ?_; refine (copied_len HN7.out HN8.out (Kd.C_below H7.out HB4.out) HC7.out (Kd.C_below H8.out HB4.out) HC8.out HK.out.1 HK.out.2).mono ?_; rintro e w5 ⟨B7, d7, B8, d8, rfl, h7, h8, hb⟩; refine ⟨_, rfl, ?_⟩; have R7 := Aside0.mk h7; have R8 := Aside0.mk h8; have HX5 := Aside0.mk (blk_below HX4.out hb); have HG5 := Aside0.mk (blk_below HG4.out hb); have HB5 := Aside0.mk (below_step (w := w) HB4.out hb); have HSZ := Aside0.mk HB4.out.size; clear h7 h8 hb)
 refine hK.out _ _ ⟨HG5.out, HX5.out⟩ (fun hHeld => ?_)
 clear hK K
 refine norm_ (a' := ?_) ?_ ?_
 rotate_left
 ·show Act.put _ (some 27) _ = _
  simp only [Act.put, List.setIfInBounds_toArray, List.set_cons_zero, List.set_cons_succ, i64_w, i32_w]
  rfl
 refine one_ (i := 7) (N := some 28) #[true, true, true, true, true, true, true, true, false, false, false, false] rfl rfl (one_of HT_.out (by kernel_rfl)) (by decide) (fun K hK => ?_)
 (refine value_ (w1 := ?_) (v := ?_) (by rfl) rfl ?_ ?_; rotate_left 2; · (go_simp; constructor; rfl; rfl))
 refine hK.out _ _ ⟨blk_alloc HG5.out _, blk_alloc HX5.out _⟩ (fun hHeld => ?_)
 clear hK K
 try simp only [Act.put, List.setIfInBounds_toArray, List.set_cons_zero, List.set_cons_succ, i64_w, i32_w]
 have HO5 := Aside0.mk (send_ho HH.out HB5.out)
 have HP5 := Aside0.mk (send_hp (base := W.heap.size) (w := w) (by have := HH.out.bel.size; exact this) HSZ.out R7.out R8.out)
 refine one_ (i := 8) (N := some 29) #[true, true, true, true, true, true, true, true, true, false, false, false] rfl rfl (one_of HT_.out (by kernel_rfl)) (by decide) (fun K hK => ?_)
 (refine Kd.S_append_step k32 (w0 := W) (W := w5) W.heap.size (by rfl) (.tmp 25) (.tmp 28) 57 32 (.agg #[.int .i64 0, .int .i64 0, .int .i64 0, .int .i64 0, .int .i64 0, .int .i64 0, .string (⟨#[]⟩ : ByteArray), .slice none 0 0, .slice none 0 0]) 112 rfl Try.underlying57 info32 rfl (Nat.succ_pos 8) (by omega) (.slice A n c) l x [.int .i64 x.f0, .int .i64 x.f1, .int .i64 x.f2, .int .i64 x.f3, .int .i64 x.f4, .int .i64 x.f5, .string x.f6, .slice B7 n7 d7, .slice B8 n8 d8] (fun k => ok k ∨ w.heap.size ≤ k) (fun k => w.heap.size ≤ k ∧ k < w5.heap.size) rfl rfl HP5.out (send_hokp HH.out) (fun k hk => .inr (by have := HB5.out.size; omega)) HO5.out (below_step HH.out.bel HB5.out) (below_step HH.out.bel HB5.out).size (by have := HNL.out; omega) ?_; intro v45 W6 ho hb hg hat; obtain ⟨A9, c9', hv9⟩ := Kd.S_slice ho; obtain ⟨n9, hn9⟩ : ∃ n9, n9 = (l ++ [x]).length := ⟨_, rfl⟩; rw [← hn9] at hv9; subst hv9; have HO6 := Aside0.mk ho; have HB6 := Aside0.mk hb; have HG6 := Aside0.mk hg; have HT6 := Aside0.mk hat; have HNE := Aside0.mk (Kd.S_ne HH.out.row HH.out.blk (by decide)); have HK6 := Aside0.mk (blk_grown HG5.out hg HNE.out); have HX6 : Aside0 (W6.heap[gb]? = some (.cells #[.int .i64 x.f0, .int .i64 x.f1, .int .i64 x.f2, .int .i64 x.f3, .int .i64 x.f4, .int .i64 x.f5, .string x.f6, .slice A7 n7 c7, .slice A8 n8 c8] 32 (0, 0))) := ⟨send_gb HH.out HB5.out HX5.out HSB.out hg⟩; clear ho hb hg hat hn9)
 refine hK.out _ _ ⟨HK6.out, HX6.out⟩ (fun hHeld => ?_)
 clear hK K
 refine norm_ (a' := ?_) ?_ ?_
 rotate_left
 ·show Act.put _ (some 29) _ = _
  simp only [Act.put, List.setIfInBounds_toArray, List.set_cons_zero, List.set_cons_succ, i64_w, i32_w]
  rfl
 refine pure_ (i := 9) (N := some 30) (v := ?_) (a' := ?_) #[true, true, true, true, true, true, true, true, true, true, false, false] rfl rfl (any_of HT_.out (by kernel_rfl)) (fun _ _ _ h => h) (Or.inl ⟨by rfl, ?_⟩) ?_ ?_
 rotate_left
 ·intro w'
  go_simp
  with_reducible rfl
 rotate_left
 ·simp only [Act.put, List.setIfInBounds_toArray, List.set_cons_zero, List.set_cons_succ, i64_w, i32_w]
  rfl
 refine pure_ (i := 10) (N := some 31) (v := ?_) (a' := ?_) #[true, true, true, true, true, true, true, true, true, true, true, false] rfl rfl (any_of HT_.out (by kernel_rfl)) (fun _ _ _ h => h) (Or.inl ⟨by rfl, ?_⟩) ?_ ?_
 rotate_left
 ·intro w'
  go_simp
  with_reducible rfl
 rotate_left
 ·simp only [Act.put, List.setIfInBounds_toArray, List.set_cons_zero, List.set_cons_succ, i64_w, i32_w]
  rfl
 have g0 : W6.cell? ⟨g, 1, none⟩ = some (.slice A n c) := (blk_cell HK6.out 1).trans rfl
 have zf0 := blk_frozen HK6.out 1
 refine last_ (i := 11) (N := none) #[true, true, true, true, true, true, true, true, true, true, true, true] rfl rfl (one_of HT_.out (by kernel_rfl)) (by decide) (fun K hK => ?_)
 (refine skip_ (w1 := ?_) (by rfl) rfl ?_ ?_; rotate_left; · (go_simp; rfl))
 refine hK.out _ _ ?_
 clear hK K
 try simp only [Act.put, List.setIfInBounds_toArray, List.set_cons_zero, List.set_cons_succ, i64_w, i32_w]
 refine done_ (done_of HT_.out (by kernel_rfl)) ?_
 have HF := Aside0.mk (send_end HH.out HB5.out HG6.out HB6.out HK6.out HO6.out HT6.out)
 generalize W6.setCell ⟨g, 1, none⟩ (.slice A9 n9 c9') = W7 at HF ⊢
 clear g0 zf0 hHeld
 go_wp2
 go_ret
 exact ⟨rfl, ⟨_, HF.out.1, HF.out.2⟩⟩
end Go.Proofs.Ytnbomedhehoflaa.Al

namespace Go.Proofs.Ytnbomedhehoflaa.Al
open Go.RowKit Go.Proofs.YtnbomedhehoflaaW.PrintWords Go.Proofs.YtnbomedhehoflaaW.PrintLast Go.Proofs.YtnbomedhehoflaaW.PrintMore
attribute [local go_sem] max2_int min2_int max_two min_two max_three min_three max_four min_four   -- for this text's walks alone
set_option linter.unusedVariables false
set_option linter.unusedSimpArgs false
/-- A state of type 62 at block g of W; what its slices lead to came in by w0. -/
def IsS62 (w0 W : World) (g : Nat) (f0 : Int) (f1 : List (S32)) : Prop := ∃ A1 c1, W.heap[g]? = some (.cells #[.int .i64 f0, .slice A1 f1.length c1] 62 (0, 0)) ∧ w0.heap.size ≤ g ∧ Kd.C k32 w0 A1 f1.length f1
theorem IsS62.grown {w0 W : World} {g : Nat} {f0 : Int} {f1 : List (S32)} {W1 : World} {row : Option Nat} (h : IsS62 w0 W g f0 f1) (hw : W.grownBy W1 row) (hne : some g ≠ row) : IsS62 w0 W1 g f0 f1 := by
 obtain ⟨A1, c1, hb, hg, hr1⟩ := h
 exact ⟨A1, c1, blk_grown hb hw hne, hg, hr1⟩
theorem IsS62.kept {w0 W : World} {g : Nat} {f0 : Int} {f1 : List (S32)} {W1 : World} {S : Nat → Prop} (h : IsS62 w0 W g f0 f1) (hk : Kept W W1 S) (hne : ¬ S g) : IsS62 w0 W1 g f0 f1 := by
 obtain ⟨A1, c1, hb, hg, hr1⟩ := h
 exact ⟨A1, c1, blk_kept hb hk hne, hg, hr1⟩
theorem IsS62.below {w0 W : World} {g : Nat} {f0 : Int} {f1 : List (S32)} {W1 : World} (h : IsS62 w0 W g f0 f1) (hw : Below W.heap.size W W1) : IsS62 w0 W1 g f0 f1 := h.grown (grown_of_below hw none) (by simp)
theorem IsS62.alloc {w0 W : World} {g : Nat} {f0 : Int} {f1 : List (S32)} (h : IsS62 w0 W g f0 f1) (o : Obj) : IsS62 w0 (W.alloc o) g f0 f1 := h.below (below_alloc (Below.refl _ _) o)
theorem IsS62.drew {w0 W : World} {g : Nat} {f0 : Int} {f1 : List (S32)} (h : IsS62 w0 W g f0 f1) : IsS62 w0 W.drew g f0 f1 := h
theorem IsS62.apart {w0 W : World} {g : Nat} {f0 : Int} {f1 : List (S32)} {α : Type} {d : Kd α} {e : Nat} {base : Nat} {ok : Nat → Prop} {v : Value} {xs : List α} (h : IsS62 w0 W g f0 f1) (ho : d.R e W base ok v xs) (ht : ∀ q, q ∈ e :: d.E → q ≠ 62) : d.R e W base (fun k => ok k ∧ k ≠ g) v xs := by
 obtain ⟨A1, c1, hb, hg, hr1⟩ := h
 exact Kd.R_types ho hb ht
theorem IsS62.own_ne {w0 W : World} {g : Nat} {f0 : Int} {f1 : List (S32)} {α : Type} {d : Kd α} {e : Nat} {base : Nat} {ok : Nat → Prop} {v : Value} {xs : List α} (h : IsS62 w0 W g f0 f1) (ho : d.R e W base ok v xs) (ht : e ≠ 62) : some g ≠ v.ownBlock := by
 obtain ⟨A1, c1, hb, hg, hr1⟩ := h
 exact Kd.R_ne ho hb ht
theorem IsS62.lt {w0 W : World} {g : Nat} {f0 : Int} {f1 : List (S32)} (h : IsS62 w0 W g f0 f1) : g < W.heap.size := by
 obtain ⟨A1, c1, hb, hg, hr1⟩ := h
 exact blk_lt hb
theorem IsS62.ge {w0 W : World} {g : Nat} {f0 : Int} {f1 : List (S32)} (h : IsS62 w0 W g f0 f1) : w0.heap.size ≤ g := by
 obtain ⟨A1, c1, hb, hg, hr1⟩ := h
 exact hg
theorem IsS62.new (w0 W : World) (A1 : Option Addr) (c1 : Nat) (f0 : Int) (f1 : List (S32)) (hB : Below w0.heap.size w0 W) (hr1 : Kd.C k32 w0 A1 f1.length f1) : IsS62 w0 (W.alloc (.cells #[.int .i64 f0, .slice A1 f1.length c1] 62)) W.heap.size f0 f1 := ⟨A1, c1, by simpa using heap_alloc_new W _, hB.size, hr1⟩
end Go.Proofs.Ytnbomedhehoflaa.Al

namespace Go.Proofs.Ytnbomedhehoflaa.Al
open Go.RowKit Go.Proofs.YtnbomedhehoflaaW.PrintWords Go.Proofs.YtnbomedhehoflaaW.PrintLast Go.Proofs.YtnbomedhehoflaaW.PrintMore
attribute [local go_sem] max2_int min2_int max_two min_two max_three min_three max_four min_four   -- for this text's walks alone
set_option linter.unusedVariables false
set_option linter.unusedSimpArgs false
attribute [local go_sem high] eqA72
def corncribbook_Among.f (a0 : Int) (a1 : Int) : Option (Int) := if a1 = 0 then (none) else (some (Int.tmod (wrap64 ((Int.tmod a0 a1) + a1)) a1))
end Go.Proofs.Ytnbomedhehoflaa.Al

namespace Go.Proofs.Ytnbomedhehoflaa.Amg
open Go.RowKit Go.Proofs.Ytnbomedhehoflaa.Base Go.Proofs.Ytnbomedhehoflaa.Al Go.Proofs.YtnbomedhehoflaaW.PrintWords
set_option linter.unusedVariables false
set_option linter.unusedSimpArgs false
theorem among_eq (a n : Int) (h0 : 0 < n) (hn : n ≤ 4611686018427387904) : corncribbook_Among.f a n = some (a % n) := by
 unfold corncribbook_Among.f
 rw [if_neg (by omega)]
 have h1 : -n < Int.tmod a n ∧ (Int.tmod a n) % n = a % n := by
  rcases Int.le_total 0 a with ha | ha
  ·rw [Int.tmod_eq_emod_of_nonneg ha]
   have := Int.emod_nonneg a (by omega : n ≠ 0)
   exact ⟨by omega, Int.emod_emod_of_dvd _ (Int.dvd_refl _)⟩
  ·obtain ⟨b, rfl⟩ : ∃ b, a = -b := ⟨-a, by omega⟩
   rw [Int.neg_tmod, Int.tmod_eq_emod_of_nonneg (by omega)]
   have := Int.emod_lt_of_pos b h0
   refine ⟨by omega, ?_⟩
   rw [Int.neg_emod_eq_sub_emod, Int.neg_emod_eq_sub_emod, Int.sub_emod_emod]
 have h2 : Int.tmod a n < n := Int.tmod_lt_of_pos a h0
 obtain ⟨h1, h3⟩ := h1
 rw [wrap_id (by omega) (by omega), Int.tmod_eq_emod_of_nonneg (by omega), Int.add_emod_right, h3]
end Go.Proofs.Ytnbomedhehoflaa.Amg

namespace Go.Proofs.Ytnbomedhehoflaa.Al
open Go.RowKit Go.Proofs.YtnbomedhehoflaaW.PrintWords Go.Proofs.YtnbomedhehoflaaW.PrintLast Go.Proofs.YtnbomedhehoflaaW.PrintMore
set_option linter.unusedVariables false
set_option linter.unusedSimpArgs false
theorem new_calls (W w : World) (hB : Below W.heap.size W w) (ok : Nat → Prop) (room : Int) (h0 : 1 ≤ room) (h1 : room ≤ 1024) : Calls Try.prog 8 #[.int .i64 room] w fun e w' => ∃ g, e = .returned (.tuple #[.pointer (some ⟨g, 0, none⟩), .int .i64 0]) ∧ NS W w' g room ok (.slice none 0 0) [] ∧ g = w.heap.size ∧ Below w.heap.size w w' := by
 have hu62 := Try.underlying62
 have d1 : decide (room < 1) = false := decide_eq_false (by omega)
 have d2 : decide (1024 < room) = false := decide_eq_false (by omega)
 have HB0 := Aside0.mk hB
 clear h0 h1 hB
 go_enter Try.func8, Try.ntmps8
 go_wp2_with ((with_reducible refine gate_dst (N := 12) rfl ?_); refine box_event ?hg (N := 12) ?hd (cs := #[.int .i64 room, .slice none 0 0]) (t := 62) ?hr ?_; (case hd => rfl); (case hg => rfl); (case hr => first | (go_simp; done) | (go_simp; rfl)); intro g hgg w1 hbox hb; have HX := Aside0.mk hbox; have HB := Aside0.mk hb; have HG := Aside0.mk hgg; clear hgg hbox hb)
 exact bodyPost_ret (v := .tuple #[.pointer (some ⟨g, 0, none⟩), .int .i64 0]) (by simp [results, Try.results8, go_sem]) rfl ⟨g, rfl, ⟨HX.out, by rw [HG.out]; exact HB0.out.size, Kd.S_nil _ _ _ _ _, below_step HB0.out HB.out⟩, HG.out, HB.out⟩
section
variable {W w : World} {g : Nat} {room : Int} {ok : Nat → Prop} {v : Value} {l : List S32}
theorem len_calls (h : NS W w g room ok v l) : Calls Try.prog 13 #[.pointer (some ⟨g, 0, none⟩)] w fun e w' => e = .returned (.int .i64 (l.length : Int)) ∧ Below w.heap.size w w' := by
 obtain ⟨A, c, rfl⟩ := Kd.S_slice h.row
 have f1 : w.cell? ⟨g, 1, none⟩ = some (.slice A l.length c) := (blk_cell h.blk 1).trans rfl
 clear h
 go_enter Try.func13, Try.ntmps13
 go_wp2
 go_ret
 exact ⟨rfl, Below.refl _ _⟩
theorem place_num (p : Int) (n : Nat) (h : 0 < n) (hn : n ≤ 1024) : Int.tmod (wrap64 (Int.tmod p (n : Int) + (n : Int))) (n : Int) = p % (n : Int) ∧ Int.tmod (IntKind.i64.wrap (Int.tmod p (n : Int) + (n : Int))) (n : Int) = p % (n : Int) := by
 have hw : IntKind.i64.wrap (Int.tmod p (n : Int) + (n : Int)) = wrap64 (Int.tmod p (n : Int) + (n : Int)) := by rw [IntKind.wrap_i64]; unfold wrap64; first | rfl | omega
 have h0 := Amg.among_eq p n (by omega) (by omega)
 unfold corncribbook_Among.f at h0
 rw [if_neg (by omega)] at h0
 rw [hw]
 exact ⟨Option.some.inj h0, Option.some.inj h0⟩
theorem place_calls (h : NS W w g room ok v l) (hl : l.length ≤ 1024) (p : Int) : Calls Try.prog 26 #[.pointer (some ⟨g, 0, none⟩), .int .i64 p] w fun e w' => e = .returned (.tuple #[.int .i64 (if l.length = 0 then 0 else p % (l.length : Int)), .int .i64 (if l.length = 0 then 5 else 0)]) ∧ Below w.heap.size w w' := by
 obtain ⟨A, c, rfl⟩ := Kd.S_slice h.row
 obtain ⟨n, hn⟩ : ∃ n, n = l.length := ⟨_, rfl⟩
 rw [← hn] at h hl ⊢
 have f1 : w.cell? ⟨g, 1, none⟩ = some (.slice A n c) := (blk_cell h.blk 1).trans rfl
 clear h hn
 by_cases h0 : n = 0
 ·subst h0
  go_enter Try.func26, Try.ntmps26
  go_wp2
  exact bodyPost_ret (v := .tuple #[.int .i64 0, .int .i64 5]) (by simp [results, Try.results26, go_sem]) rfl ⟨rfl, Below.refl _ _⟩
 ·have d1 : ((n : Int) == 0) = false := beq_eq_false_iff_ne.2 (by omega)
  have HP := Aside0.mk (place_num p n (by omega) hl)
  rw [if_neg h0, if_neg h0]
  have d2 : ¬ (n = 0) := h0
  clear hl
  go_enter Try.func26, Try.ntmps26
  go_wp2
  exact bodyPost_ret (v := .tuple #[.int .i64 (p % (n : Int)), .int .i64 0]) (by simp [results, Try.results26, go_sem, HP.out.1, HP.out.2]) rfl ⟨rfl, Below.refl _ _⟩
end
end Go.Proofs.Ytnbomedhehoflaa.Al

namespace Go.Proofs.Ytnbomedhehoflaa.RowClear
open Go.RowKit Go.Proofs.YtnbomedhehoflaaW.PrintWords
variable {P : Program} {α : Type}
theorem zeroCells_one (z : Value) (m : Nat) (h : ∀ v ∈ z.cells.toList, v.oneCell' = true) (hz : 0 < z.cells.size) : ∀ v ∈ (Builtin.zeroCells z.cells m).toList, v.oneCell' = true := by
 intro v hv
 simp only [Builtin.zeroCells, Array.toList_map, List.mem_map] at hv
 obtain ⟨i, _, rfl⟩ := hv
 have hlt := Nat.mod_lt i hz
 rw [getElem!_pos z.cells (i % z.cells.size) hlt]
 exact h _ (by simp)
/-- The row has n elements; from n on (m of them, within its room) cells are emptied. -/
theorem R_clear_run (d : Kd α) {W : World} (base : Nat) (t ty e : TypeId) (z : Value) (ht : P.underlying t = some (.slice e)) (hv : ∀ w, (zeroValue e).run P w = .ok z w) (hzs : z.cells.size = d.sz) (hz1 : ∀ v ∈ z.cells.toList, v.oneCell' = true)
  {g n c m o : Nat} {xs : List α} {ok : Nat → Prop} (HO : d.R e W base ok (.slice (some ⟨g, 0, none⟩) n c) xs) (ho : o = n * d.sz) (hm : 0 < m) (hmc : n + m ≤ c) (c2 : Nat) :
  ∃ w1, (Builtin.clear_ #[t] ty #[.slice (some ⟨g, o, none⟩) m c2]).run P W = .ok (.tuple #[]) w1 ∧ d.R e w1 base ok (.slice (some ⟨g, 0, none⟩) n c) xs ∧ W.grownBy w1 (some g) := by
 subst ho
 obtain ⟨hn, hnc, _⟩ := Kd.R_reads' HO
 obtain ⟨hok, inner, hown, hr⟩ := HO
 rcases hown.2 with ⟨hv', _⟩ | ⟨g', cap', cur, hv', hb, hh, _, hcm, hcs, htake⟩
 ·cases hv'
 injection hv' with ha _ hc
 injection ha with ha
 injection ha with hg
 subst hg; subst hc
 rw [← hn] at htake
 have hnm : (n + m) * d.sz ≤ c * d.sz := Nat.mul_le_mul_right _ hmc
 have hnm' : (n + m) * d.sz = n * d.sz + m * d.sz := Nat.add_mul _ _ _
 obtain ⟨vs, hvs⟩ : ∃ vs, vs = (Builtin.zeroCells z.cells m).toList := ⟨_, rfl⟩
 have hvl : vs.length = m * d.sz := by rw [hvs, ← hzs]; simp [Builtin.zeroCells]
 have h1 : ∀ v ∈ vs, v.oneCell' = true := by
  intro v hv
  by_cases hs : 0 < z.cells.size
  ·rw [hvs] at hv; exact zeroCells_one z m hz1 hs v hv
  ·exfalso
   have : vs = [] := List.eq_nil_of_length_eq_zero (by rw [hvl, ← hzs, Nat.eq_zero_of_not_pos hs, Nat.mul_zero])
   rw [this] at hv; simp at hv
 have hst := run_storeCells_cells (P := P) g (n * d.sz) vs 0 W (fun j hj => by rw [cell_of_row W g _ cur e (0, 0) hh]; simp; omega) (fun j _ => blk_frozen hh _) h1
 rw [Nat.add_zero] at hst
 obtain ⟨m', rfl⟩ : ∃ k, m = k + 1 := ⟨m - 1, by omega⟩
 have hrun : (Builtin.clear_ #[t] ty #[.slice (some ⟨g, n * d.sz, none⟩) (m' + 1) c2]).run P W = .ok (.tuple #[]) (W.setCells g (n * d.sz) vs) := by
  simp [Builtin.clear_, run_underlying ht, hv, ← hvs, hst]
 obtain ⟨cur', h3, h4, h5⟩ := setCells_row vs (n * d.sz) W cur hh (by omega)
 obtain ⟨s1, s2, s3, s4⟩ := setCells_same g vs (n * d.sz) W
 have hfar : ∀ k', k' ≠ g → (W.setCells g (n * d.sz) vs).heap[k']? = W.heap[k']? := fun k' hk' => setCells_far vs _ k' hk'
 have hgo : some g = (Value.slice (some ⟨g, 0, none⟩) n c).ownBlock := by simp [Value.ownBlock]
 refine ⟨_, hrun, ⟨hok, inner, ⟨hown.1, .inr ⟨g, c, cur', by rw [← hn], hb, h3, by omega, hcm, by rw [h4, hcs], ?_⟩⟩, ?_⟩, ⟨s1, s2, s3, by rw [s4]; exact Nat.le_refl _, fun k' _ hk' => hfar k' (fun he => hk' (by rw [he]))⟩⟩
 ·rw [← hn, h5, ← htake]
  rw [List.append_assoc, List.take_append_of_le_length (by simp; omega), List.take_take, Nat.min_self]
 ·exact hr.imp_ (fun _ _ hp => d.M_move (fun k' hk' => hfar k' (fun he => hk'.2 (by rw [← hgo, he]))) hp)
end Go.Proofs.Ytnbomedhehoflaa.RowClear

namespace Go.Proofs.Ytnbomedhehoflaa.Al
open Go.RowKit Go.Proofs.Ytnbomedhehoflaa.RowClear Go.Proofs.YtnbomedhehoflaaW.PrintWords Go.Proofs.YtnbomedhehoflaaW.PrintLast Go.Proofs.YtnbomedhehoflaaW.PrintMore
set_option linter.unusedVariables false
set_option linter.unusedSimpArgs false
theorem size32 {α : Type} (d : Kd α) (hd : d.sz = 9) : (Try.prog.info? 32).map (·.size) = some d.sz := by rw [hd]; kernel_rfl
theorem cut_at {α : Type} (d : Kd α) (hd : d.sz = 9) (ga c i : Nat) : (if c = i + 1 then some (⟨ga, 0, none⟩ : Addr) else some ⟨ga, (i + 1) * 9, none⟩) = if c = i + 1 then some ⟨ga, 0, none⟩ else (some (⟨ga, 0, none⟩ : Addr)).map (·.add ((i + 1) * d.sz)) := by
 rw [hd]
 split
 ·rfl
 ·show some _ = some ((⟨ga, 0, none⟩ : Addr).add ((i + 1) * 9))
  simp [Addr.add, eq_comm]
def rg46_5_T : Bool × List (List Nat × List Nat) := (true, [([], []), ([], []), ([0, 1], [0, 1]), ([], []), ([], []), ([3, 4], [3, 4]), ([2, 5], [2, 5]), ([6, 6, 0, 1, 2, 3, 4, 5, 6], [0, 3, 6])])
def rg46_5_B : List Nat := [0, 0, 3, 0, 0, 24, 63, 127]
theorem rg46_5_tab : rtab .any (opsOf Try.f46 5) = rg46_5_T := by kernel_rfl
theorem rg46_5_bits : waitsOk rg46_5_T.2 rg46_5_B = true := by kernel_rfl
set_option maxHeartbeats 8000000 in
set_option maxRecDepth 100000 in
theorem delete_calls {α : Type} (d : Kd α) (hd : d.sz = 9) (ok : Nat → Prop) (w0 W : World) (hB : Below w0.heap.size w0 W) (ga c i : Nat) (l : List α) (hR : d.R 32 W w0.heap.size ok (.slice (some ⟨ga, 0, none⟩) l.length c) l) (hi : i < l.length) (hlen : l.length ≤ 1024) :
  Calls Try.prog 46 #[.slice (some ⟨ga, 0, none⟩) l.length c, .int .i64 i, .int .i64 ((i : Int) + 1)] W fun e w' => e = .returned (.slice (some ⟨ga, 0, none⟩) (l.length - 1) c) ∧ d.R 32 w' w0.heap.size ok (.slice (some ⟨ga, 0, none⟩) (l.length - 1) c) (l.eraseIdx i) ∧ W.grownBy w' (some ga) := by
 have hu32 := Try.underlying32
 have hu57 := Try.underlying57
 obtain ⟨_, hc, _⟩ := Kd.R_reads' hR
 have HB0 := Aside0.mk hB
 have HR0 := Aside0.mk hR
 obtain ⟨n, hn⟩ : ∃ n, n = l.length := ⟨_, rfl⟩
 have HN := Aside0.mk hn
 rw [← hn] at hc hi hlen HR0 ⊢
 have n1 : ((i : Int) == (i : Int) + 1) = false := beq_eq_false_iff_ne.2 (by omega)
 have p1 : (i ≤ c) = True := eq_true (by omega)
 have p2 : (0 ≤ (i : Int) + 1) = True := eq_true (by omega)
 have p3 : ((i : Int) + 1 ≤ (n : Int)) = True := eq_true (by omega)
 clear hB hR hn
 go_enter Try.func46, Try.ntmps46
 go_upto_region 5 with (fail)
 refine start_ (n := 8) (S := fun _ => True) (ds := []) #[false, false, false, false, false, false, false, false] (by kernel_rfl) rfl rfl trivial (fun hHeld => ?_)
 refine with_tabW rg46_5_tab rg46_5_bits (fun HT_ HW_ => ?_)
 obtain ⟨W1, hW1⟩ : ∃ W1, W1 = W.drew := ⟨_, rfl⟩
 have HR1 := Aside0.mk (show d.R 32 W1 w0.heap.size ok (.slice (some ⟨ga, 0, none⟩) n c) l from by rw [hW1]; exact Kd.R_below HR0.out (below_drew (Below.refl _ _)))
 have HB1 := Aside0.mk (show Below W.heap.size W W1 from by rw [hW1]; exact below_drew (Below.refl _ _))
 rw [← hW1]
 clear hW1
 refine pure_ (i := 0) (N := some 20) (v := ?_) (a' := ?_) #[true, false, false, false, false, false, false, false] rfl rfl (any_of HT_.out (by kernel_rfl)) (fun _ _ _ h => h) (Or.inl ⟨by rfl, ?_⟩) ?_ ?_
 rotate_left
 ·intro w'
  go_simp
  with_reducible rfl
 rotate_left
 ·simp only [Act.put, List.setIfInBounds_toArray, List.set_cons_zero, List.set_cons_succ, i64_w, i32_w]
  rfl
 refine pure_ (i := 1) (N := some 21) (v := ?_) (a' := ?_) #[true, true, false, false, false, false, false, false] rfl rfl (any_of HT_.out (by kernel_rfl)) (fun _ _ _ h => h) (Or.inl ⟨by rfl, ?_⟩) ?_ ?_
 rotate_left
 ·intro w'
  go_simp
  with_reducible rfl
 rotate_left
 ·simp only [Act.put, List.setIfInBounds_toArray, List.set_cons_zero, List.set_cons_succ, i64_w, i32_w]
  rfl
 refine pure_ (i := 2) (N := some 22) (v := ?_) (a' := ?_) #[true, true, true, false, false, false, false, false] rfl rfl (any_of HT_.out (by kernel_rfl)) (fun _ _ _ h => h) (Or.inl ⟨by rfl, ?_⟩) ?_ ?_
 rotate_left
 ·intro w'
  go_simp
  with_reducible rfl
 rotate_left
 ·simp only [Act.put, List.setIfInBounds_toArray, List.set_cons_zero, List.set_cons_succ, i64_w, i32_w]
  rfl
 refine pure_ (i := 3) (N := some 23) (v := ?_) (a' := ?_) #[true, true, true, true, false, false, false, false] rfl rfl (any_of HT_.out (by kernel_rfl)) (fun _ _ _ h => h) (Or.inl ⟨by rfl, ?_⟩) ?_ ?_
 rotate_left
 ·intro w'
  go_simp
  with_reducible rfl
 rotate_left
 ·simp only [Act.put, List.setIfInBounds_toArray, List.set_cons_zero, List.set_cons_succ, i64_w, i32_w]
  rfl
 refine pure_ (i := 4) (N := some 24) (v := ?_) (a' := ?_) #[true, true, true, true, true, false, false, false] rfl rfl (any_of HT_.out (by kernel_rfl)) (fun _ _ _ h => h) (Or.inl ⟨by rfl, ?_⟩) ?_ ?_
 rotate_left
 ·intro w'
  go_simp
  with_reducible rfl
 rotate_left
 ·simp only [Act.put, List.setIfInBounds_toArray, List.set_cons_zero, List.set_cons_succ, i64_w, i32_w]
  rfl
 refine pure_ (i := 5) (N := some 25) (v := ?_) (a' := ?_) #[true, true, true, true, true, true, false, false] rfl rfl (any_of HT_.out (by kernel_rfl)) (fun _ _ _ h => h) (Or.inl ⟨by rfl, ?_⟩) ?_ ?_
 rotate_left
 ·intro w'
  go_simp
  with_reducible rfl
 rotate_left
 ·simp only [Act.put, List.setIfInBounds_toArray, List.set_cons_zero, List.set_cons_succ, i64_w, i32_w]
  rfl
 refine one_ (i := 6) (N := some 26) #[true, true, true, true, true, true, true, false] rfl rfl (one_of HT_.out (by kernel_rfl)) (by decide) (fun K hK => ?_)
 (refine Kd.R_delete_step d (w0 := W1) w0.heap.size (by rfl) (.tmp 22) (.tmp 25) 57 32 rfl Try.underlying57 (size32 d hd) (n := n) rfl rfl (cut_at d hd ga c i) rfl HR1.out hi (Below.refl _ _) (Nat.le_trans HB0.out.size HB1.out.size) ?_; intro w2 hR2 hb2 hg2; have HR2 := Aside0.mk hR2; have HG2 := Aside0.mk hg2; clear hR2 hb2 hg2)
 refine hK.out _ _ trivial (fun hHeld => ?_)
 clear hK K
 refine norm_ (a' := ?_) ?_ ?_
 rotate_left
 ·show Act.put _ (some 26) _ = _
  simp only [Act.put, List.setIfInBounds_toArray, List.set_cons_zero, List.set_cons_succ, i64_w, i32_w]
  rfl
 refine pure_ (i := 7) (N := some 0) (v := ?_) (a' := ?_) #[true, true, true, true, true, true, true, true] rfl rfl (any_of HT_.out (by kernel_rfl)) (fun _ _ _ h => h) (Or.inl ⟨by rfl, ?_⟩) ?_ ?_
 rotate_left
 ·intro w'
  go_simp
  with_reducible rfl
 rotate_left
 ·simp only [Act.put, List.setIfInBounds_toArray, List.set_cons_zero, List.set_cons_succ, i64_w, i32_w]
  rfl
 refine done_ (done_of HT_.out (by kernel_rfl)) ?_
 generalize (if c = i + 1 then some (⟨ga, 0, none⟩ : Addr) else some ⟨ga, (i + 1) * 9, none⟩) = Acut
 have HL2 : Aside0 ((l.eraseIdx i).length = n - 1) := ⟨by rw [List.length_eraseIdx_of_lt (by rw [← HN.out]; exact hi), ← HN.out]⟩
 obtain ⟨wz, hrun, hRz, hgz⟩ := R_clear_run d w0.heap.size 57 0 32 (.agg #[.int .i64 0, .int .i64 0, .int .i64 0, .int .i64 0, .int .i64 0, .int .i64 0, .string (⟨#[]⟩ : ByteArray), .slice none 0 0, .slice none 0 0]) Try.underlying57 (fun w => by rfl) (by rw [hd]; rfl) (by intro v hv; simp [Value.cells] at hv; rcases hv with rfl | rfl | rfl <;> rfl) (n := n - 1) (m := n - (n - 1)) (o := (n - 1) * 9) HR2.out (by rw [hd]) (by omega) (by omega) (c - (n - 1))
 have HRZ := Aside0.mk hRz
 have HGZ := Aside0.mk hgz
 have q1 : (n - 1 ≤ n) = True := eq_true (by omega)
 have q2 : (n ≤ c) = True := eq_true (by omega)
 have q3 : (((n - 1 : Nat) : Int) ≤ (n : Int)) = True := eq_true (by omega)
 clear hRz hgz hHeld
 have HGA : Aside0 (W.grownBy wz (some ga)) := ⟨by
  have h1 := HB1.out
  have h2 := HG2.out
  have h3 := HGZ.out
  exact ⟨h3.os.trans (h2.os.trans h1.os), h3.tape.trans (h2.tape.trans h1.tape), h3.output.trans (h2.output.trans h1.output), Nat.le_trans h1.size (Nat.le_trans h2.size h3.size), fun k hk hne => (h3.block k (by have := h1.size; have := h2.size; omega) hne).trans ((h2.block k (by have := h1.size; omega) hne).trans (h1.block k hk))⟩⟩
 go_wp2
 go_ret
 exact ⟨rfl, HRZ.out, HGA.out⟩
end Go.Proofs.Ytnbomedhehoflaa.Al

namespace Go.Proofs.Ytnbomedhehoflaa.Al
open Go.RowKit Go.Proofs.YtnbomedhehoflaaW.PrintWords Go.Proofs.YtnbomedhehoflaaW.PrintLast Go.Proofs.YtnbomedhehoflaaW.PrintMore
set_option linter.unusedVariables false
set_option linter.unusedSimpArgs false
/-- Behind an element taken out of a row in which it was a hole: the others are as they were, and lead to none of its blocks. -/
theorem gap_erase {α : Type} {d : Kd α} {e : Nat} {w : World} {base : Nat} {ok : Nat → Prop} {v : Value} {xs : List α} {f : Nat → Nat} {k : Nat} {cs : List Value} (h : (Kd.gap f d k cs).R e w base ok v (xs.zipIdx.eraseIdx k)) : Kd.S d e w base ok v (xs.eraseIdx k) := by
 obtain ⟨h0, inner, ho, hr⟩ := h
 have hl : (xs.zipIdx.eraseIdx k).length = (xs.eraseIdx k).length := by simp only [List.length_eraseIdx, List.length_zipIdx]
 rw [hl] at ho
 refine ⟨fun b => if k < f b then f b - 1 else f b, h0, inner, by rw [List.length_zipIdx]; exact ho, by rw [List.length_zipIdx, ← hl]; exact hr.1, fun j p hj => ?_⟩
 rw [List.getElem?_zipIdx, Nat.zero_add] at hj
 obtain ⟨x, hx, rfl⟩ := Option.map_eq_some_iff.1 hj
 rw [List.getElem?_eraseIdx] at hx
 by_cases hjk : j < k
 ·rw [if_pos hjk] at hx
  refine d.M_mono (fun b hb => ⟨hb.1, ?_⟩) ((hr.2 j (x, j) (by rw [List.getElem?_eraseIdx, if_pos hjk]; exact Kd.zip_at hx)).2 (show j ≠ k by omega))
  have h2 : f b = j := hb.2
  show (if k < f b then f b - 1 else f b) = j
  rw [if_neg (by omega)]; exact h2
 ·rw [if_neg hjk] at hx
  refine d.M_mono (fun b hb => ⟨hb.1, ?_⟩) ((hr.2 j (x, j + 1) (by rw [List.getElem?_eraseIdx, if_neg hjk]; exact Kd.zip_at hx)).2 (show j + 1 ≠ k by omega))
  have h2 : f b = j + 1 := hb.2
  show (if k < f b then f b - 1 else f b) = j
  rw [if_pos (by omega)]; omega
theorem row_out {w : World} {base : Nat} {ok : Nat → Prop} {ga n c : Nat} {l : List S32} (h : k32.S 32 w base ok (.slice (some ⟨ga, 0, none⟩) n c) l) (i : Nat) (hi : i < n) : ∃ (oki : Nat → Prop) (u7 u8 : Value) (f : Nat → Nat),
  (∀ j u, [.int .i64 (l.getD i z32).f0, .int .i64 (l.getD i z32).f1, .int .i64 (l.getD i z32).f2, .int .i64 (l.getD i z32).f3, .int .i64 (l.getD i z32).f4, .int .i64 (l.getD i z32).f5, .string (l.getD i z32).f6, u7, u8][j]? = some u → w.cell? ⟨ga, i * 9 + j, none⟩ = some u) ∧
  Kd.string.R 9 w base oki u7 (l.getD i z32).f7 ∧ k72.R 72 w base oki u8 (l.getD i z32).f8 ∧ (∀ k, oki k → ok k ∧ k ≠ ga) ∧
  (Kd.gap f k32 i [.int .i64 (l.getD i z32).f0, .int .i64 (l.getD i z32).f1, .int .i64 (l.getD i z32).f2, .int .i64 (l.getD i z32).f3, .int .i64 (l.getD i z32).f4, .int .i64 (l.getD i z32).f5, .string (l.getD i z32).f6, u7, u8]).R 32 w base (fun k => ok k ∧ ¬ oki k) (.slice (some ⟨ga, 0, none⟩) n c) l.zipIdx := by
 obtain ⟨oki, cs, _, hM, hc, _, hk, _, f, hR⟩ := Kd.S_elem h z32 (i : Int) (by omega) (by omega)
 rw [Int.toNat_natCast] at hM hc hR
 obtain ⟨u7, u8, rfl, h7, h8⟩ := k32_openM hM
 exact ⟨oki, u7, u8, f, hc, h7, h8, hk, hR⟩
structure NOut (W w : World) (g : Nat) (room : Int) (ok : Nat → Prop) (v : Value) (l : List S32) (i : Nat) (e : Ending) (w' : World) : Prop where
 ex : ∃ (oki : Nat → Prop) (u7 u8 v' : Value), e = .returned (.tuple #[agL (l.getD i z32) u7 u8, .int .i64 0]) ∧ NS W w' g room (fun k => ok k ∧ ¬ oki k) v' (l.eraseIdx i) ∧ Kd.string.R 9 w' W.heap.size oki u7 (l.getD i z32).f7 ∧ k72.R 72 w' W.heap.size oki u8 (l.getD i z32).f8 ∧ (∀ k, oki k → ok k ∧ k < w.heap.size) ∧ NStep w w' g v v'
theorem c9at {w : World} {ga o : Nat} {c0 c1 c2 c3 c4 c5 c6 c7 c8 : Value} (h : ∀ j u, [c0, c1, c2, c3, c4, c5, c6, c7, c8][j]? = some u → w.cell? ⟨ga, o + j, none⟩ = some u) : w.cell? ⟨ga, o, none⟩ = some c0 ∧ w.cell? ⟨ga, o + 1, none⟩ = some c1 ∧ w.cell? ⟨ga, o + 2, none⟩ = some c2 ∧ w.cell? ⟨ga, o + 3, none⟩ = some c3 ∧ w.cell? ⟨ga, o + 4, none⟩ = some c4 ∧ w.cell? ⟨ga, o + 5, none⟩ = some c5 ∧ w.cell? ⟨ga, o + 6, none⟩ = some c6 ∧ w.cell? ⟨ga, o + 7, none⟩ = some c7 ∧ w.cell? ⟨ga, o + 8, none⟩ = some c8 := ⟨h 0 _ rfl, h 1 _ rfl, h 2 _ rfl, h 3 _ rfl, h 4 _ rfl, h 5 _ rfl, h 6 _ rfl, h 7 _ rfl, h 8 _ rfl⟩
theorem del_len {α : Type} (d : Kd α) (hd : d.sz = 9) (ok : Nat → Prop) (w0 W : World) (hB : Below w0.heap.size w0 W) (ga c i n : Nat) (l : List α) (hn : n = l.length) (hR : d.R 32 W w0.heap.size ok (.slice (some ⟨ga, 0, none⟩) n c) l) (hi : i < n) (hlen : n ≤ 1024) :
  Calls Try.prog 46 #[.slice (some ⟨ga, 0, none⟩) n c, .int .i64 i, .int .i64 ((i : Int) + 1)] W fun e w' => e = .returned (.slice (some ⟨ga, 0, none⟩) (n - 1) c) ∧ d.R 32 w' w0.heap.size ok (.slice (some ⟨ga, 0, none⟩) (n - 1) c) (l.eraseIdx i) ∧ W.grownBy w' (some ga) := by
 subst hn
 exact delete_calls d hd ok w0 W hB ga c i l hR hi hlen
structure NMid (W w w7 : World) (g ga n c i : Nat) (room : Int) (ok oki : Nat → Prop) (l : List S32) (x : S32) (u7 u8 : Value) : Prop where
 blk : w7.heap[g]? = some (.cells #[.int .i64 room, .slice (some ⟨ga, 0, none⟩) (n - 1) c] 62 (0, 0))
 row : k32.S 32 w7 W.heap.size (fun k => (ok k ∧ k < w.heap.size) ∧ ¬ oki k) (.slice (some ⟨ga, 0, none⟩) (n - 1) c) (l.eraseIdx i)
 r7 : Kd.string.R 9 w7 W.heap.size oki u7 x.f7
 r8 : k72.R 72 w7 W.heap.size oki u8 x.f8
 bel : Below W.heap.size W w7
 size : w.heap.size ≤ w7.heap.size
 keep : ∀ k, k < w.heap.size → k ≠ g → k ≠ ga → w7.heap[k]? = w.heap[k]?
 ge : W.heap.size ≤ g
 glt : g < w.heap.size
 wle : W.heap.size ≤ w.heap.size
theorem out_mid {W w W5 w6 : World} {g ga n c i : Nat} {room : Int} {ok oki : Nat → Prop} {f : Nat → Nat} {cs : List Value} {l : List S32} {x : S32} {u7 u8 : Value} (h : NS W w g room ok (.slice (some ⟨ga, 0, none⟩) n c) l) (hga : ga < w.heap.size) (hb5 : Below w.heap.size w W5) (hk : ∀ k, oki k → (ok k ∧ k < w.heap.size) ∧ k ≠ ga)
  (hR : (Kd.gap f k32 i cs).R 32 w6 W.heap.size (fun k => (ok k ∧ k < w.heap.size) ∧ ¬ oki k) (.slice (some ⟨ga, 0, none⟩) (n - 1) c) (l.zipIdx.eraseIdx i)) (hg : W5.grownBy w6 (some ga)) (h7 : Kd.string.R 9 W5 W.heap.size oki u7 x.f7) (h8 : k72.R 72 W5 W.heap.size oki u8 x.f8) (hK : w6.heap[g]? = some (.cells #[.int .i64 room, .slice (some ⟨ga, 0, none⟩) n c] 62 (0, 0))) :
  NMid W w (w6.setCell ⟨g, 1, none⟩ (.slice (some ⟨ga, 0, none⟩) (n - 1) c)) g ga n c i room ok oki l x u7 u8 := by
 have hgn : ∀ k, oki k → some k ≠ some ga := fun k hk' he => (hk k hk').2 (Option.some.inj he)
 have hbg : W.heap.size ≤ ga := Kd.S_base h.row ga (by simp [Value.ownBlock])
 have hs : (w6.setCell ⟨g, 1, none⟩ (.slice (some ⟨ga, 0, none⟩) (n - 1) c)).heap.size = w6.heap.size := by simp [World.setCell]
 have h5 := hb5.size
 have h6 := hg.size
 refine ⟨by simpa using blk_set hK 1 (.slice (some ⟨ga, 0, none⟩) (n - 1) c), Kd.S_set (gap_erase hR) hK (by decide) 1 _, Kd.R_set (Kd.R_grown h7 hg hgn) hK (by decide) 1 _, Kd.R_set (Kd.R_grown h8 hg hgn) hK (by decide) 1 _, below_set (pw_below_grown (below_step h.bel hb5) (some ga) (below_step h.bel hb5).size hg (fun q hq => by injection hq with hq; rw [← hq]; exact hbg)) h.ge, by omega, fun k hk h1 h2 => ?_, h.ge, blk_lt h.blk, h.bel.size⟩
 rw [Below.heap_setCell w6 ⟨g, 1, none⟩ _ k h1, hg.block k (by omega) (fun he => h2 (Option.some.inj he))]
 exact hb5.block k hk
theorem out_fin {W w w7 : World} {g ga n c i gz : Nat} {room : Int} {ok oki : Nat → Prop} {l : List S32} {x : S32} {u7 u8 c0 c1 c2 c3 c4 c5 c6 c7 c8 : Value} (h : NMid W w w7 g ga n c i room ok oki l x u7 u8) (hk : ∀ k, oki k → (ok k ∧ k < w.heap.size) ∧ k ≠ ga) (hgz : w.heap.size ≤ gz) (hx : x = l.getD i z32) :
  NS W (((((((((w7.setCell ⟨gz, 0, none⟩ c0).setCell ⟨gz, 1, none⟩ c1).setCell ⟨gz, 2, none⟩ c2).setCell ⟨gz, 3, none⟩ c3).setCell ⟨gz, 4, none⟩ c4).setCell ⟨gz, 5, none⟩ c5).setCell ⟨gz, 6, none⟩ c6).setCell ⟨gz, 7, none⟩ c7).setCell ⟨gz, 8, none⟩ c8) g room (fun k => ok k ∧ ¬ oki k) (.slice (some ⟨ga, 0, none⟩) (n - 1) c) (l.eraseIdx i) ∧ Kd.string.R 9 (((((((((w7.setCell ⟨gz, 0, none⟩ c0).setCell ⟨gz, 1, none⟩ c1).setCell ⟨gz, 2, none⟩ c2).setCell ⟨gz, 3, none⟩ c3).setCell ⟨gz, 4, none⟩ c4).setCell ⟨gz, 5, none⟩ c5).setCell ⟨gz, 6, none⟩ c6).setCell ⟨gz, 7, none⟩ c7).setCell ⟨gz, 8, none⟩ c8) W.heap.size oki u7 (l.getD i z32).f7 ∧ k72.R 72 (((((((((w7.setCell ⟨gz, 0, none⟩ c0).setCell ⟨gz, 1, none⟩ c1).setCell ⟨gz, 2, none⟩ c2).setCell ⟨gz, 3, none⟩ c3).setCell ⟨gz, 4, none⟩ c4).setCell ⟨gz, 5, none⟩ c5).setCell ⟨gz, 6, none⟩ c6).setCell ⟨gz, 7, none⟩ c7).setCell ⟨gz, 8, none⟩ c8) W.heap.size oki u8 (l.getD i z32).f8 ∧ (∀ k, oki k → ok k ∧ k < w.heap.size) ∧ NStep w (((((((((w7.setCell ⟨gz, 0, none⟩ c0).setCell ⟨gz, 1, none⟩ c1).setCell ⟨gz, 2, none⟩ c2).setCell ⟨gz, 3, none⟩ c3).setCell ⟨gz, 4, none⟩ c4).setCell ⟨gz, 5, none⟩ c5).setCell ⟨gz, 6, none⟩ c6).setCell ⟨gz, 7, none⟩ c7).setCell ⟨gz, 8, none⟩ c8) g (.slice (some ⟨ga, 0, none⟩) n c) (.slice (some ⟨ga, 0, none⟩) (n - 1) c) := by
 subst hx
 have hk9 := keep9 (W := w7) (g := gz) (c0 := c0) (c1 := c1) (c2 := c2) (c3 := c3) (c4 := c4) (c5 := c5) (c6 := c6) (c7 := c7) (c8 := c8)
 have hne : ∀ k, k < w.heap.size → k ≠ gz := fun k hk => by omega
 have hwl := h.wle
 refine ⟨⟨(hk9.2 g (blk_lt h.blk) (hne g h.glt) (by simp)).trans h.blk, h.ge, Kd.S_mono (Kd.S_keep h.row hk9 (fun k hk => hne k hk.1.2)) (fun k hk => ⟨hk.1.1, hk.2⟩), below9 h.bel (by omega)⟩, Kd.R_keep h.r7 hk9 (fun k hk' => hne k (hk k hk').1.2), Kd.R_keep h.r8 hk9 (fun k hk' => hne k (hk k hk').1.2), fun k hk' => (hk k hk').1, ⟨Nat.le_trans h.size hk9.1, fun k hk' h1 h2 => ?_, .inl rfl⟩⟩
 have h3 : k ≠ ga := fun he => h2 (by rw [he]; simp [Value.ownBlock])
 exact (hk9.2 k (by have := h.size; omega) (hne k hk') (by simp)).trans (h.keep k hk' h1 h3)
set_option maxHeartbeats 8000000 in
set_option maxRecDepth 100000 in
theorem out_some (W w : World) (g : Nat) (room : Int) (ok : Nat → Prop) (v : Value) (l : List S32) (h : NS W w g room ok v l) (hl : l.length ≤ 1024) (h0 : 0 < l.length) (p : Int) : Calls Try.prog 25 #[.pointer (some ⟨g, 0, none⟩), .func (.func 26) #[.pointer (some ⟨g, 0, none⟩)] #[], .int .i64 p] w (NOut W w g room ok v l (p % (l.length : Int)).toNat) := by
 have hu32 := Try.underlying32
 have hu57 := Try.underlying57
 obtain ⟨ga, c, hv, hga0, hga1, _⟩ := Kd.S_form h.row h0
 subst hv
 obtain ⟨n, hn⟩ : ∃ n, n = l.length := ⟨_, rfl⟩
 rw [← hn] at h hl h0 ⊢
 have hpn : 0 ≤ p % (n : Int) := Int.emod_nonneg _ (by omega)
 have hpl : p % (n : Int) < n := Int.emod_lt_of_pos _ (by omega)
 obtain ⟨i, hi⟩ : ∃ i : Nat, p % (n : Int) = (i : Int) := ⟨(p % (n : Int)).toNat, by omega⟩
 have hin : i < n := by omega
 rw [hi, Int.toNat_natCast]
 have HI := Aside0.mk hi
 have HN := Aside0.mk hn
 have HH := Aside0.mk h
 have HL := Aside0.mk hl
 have HGA := Aside0.mk hga1
 have HIN := Aside0.mk hin
 have HNG := Aside0.mk (Kd.S_ne h.row h.blk (by decide))
 have HGL := Aside0.mk (blk_lt h.blk)
 clear h hn hi hpn hpl hga0 hga1
 have b1 : decide ((i : Int) < (n : Int)) = true := decide_eq_true (by omega)
 have b2 : decide (i < n) = true := decide_eq_true hin
 have b3 : ¬ (n = 0) := by omega
 have q1 : wrap64 ((i : Int) + 1) = (i : Int) + 1 := by unfold wrap64; omega
 have q2 : IntKind.i64.wrap ((i : Int) + 1) = (i : Int) + 1 := by rw [IntKind.wrap_i64]; omega
 clear h0 hl
 go_enter Try.func25, Try.ntmps25
 go_upto_region 4 with (first | ((with_reducible refine gate_dst (N := 6) rfl ?_); refine box_event ?hg6 (N := 6) ?hd6 (cs := #[.int .i64 0, .int .i64 0, .int .i64 0, .int .i64 0, .int .i64 0, .int .i64 0, .string (⟨#[]⟩ : ByteArray), .slice none 0 0, .slice none 0 0]) (t := 32) ?hr6 ?_; (case hd6 => rfl); (case hg6 => rfl); (case hr6 => first | (go_simp; done) | (go_simp; rfl)); intro gz hg w1 hbox hb; have HZ := Aside0.mk hbox; have HB1 := Aside0.mk hb; have GZ := Aside0.mk (show w.heap.size ≤ gz from Nat.le_of_eq hg.symm); clear hg hbox hb) | (go_at_call 26; refine (place_calls (HH.out.below HB1.out) (by rw [← HN.out]; exact HL.out) p).mono ?_; rintro e w2 ⟨rfl, hb⟩; rw [← HN.out, if_neg b3, if_neg b3, HI.out]; have HZ2 := Aside0.mk (blk_below HZ.out hb); have HB2 := Aside0.mk (below_step (w := w) HB1.out hb); clear hb))
 obtain ⟨oki, u7, u8, f, hc, h7, h8, hk, hR⟩ := row_out (HH.out.old HB2.out).row i hin
 have f1 : w2.cell? ⟨g, 1, none⟩ = some (.slice (some ⟨ga, 0, none⟩) n c) := (blk_cell (HH.out.below HB2.out).blk 1).trans rfl
 obtain ⟨x, hx⟩ : ∃ x, x = l.getD i z32 := ⟨_, rfl⟩
 rw [← hx] at hc h7 h8 hR
 have HX := Aside0.mk hx
 obtain ⟨B7, d7, hu7⟩ := Kd.R_slice h7
 obtain ⟨B8, d8, hu8⟩ := Kd.R_slice h8
 subst hu7 hu8
 obtain ⟨n7, hn7⟩ : ∃ n, n = x.f7.length := ⟨_, rfl⟩
 obtain ⟨n8, hn8⟩ : ∃ n, n = x.f8.length := ⟨_, rfl⟩
 rw [← hn7, ← hn8] at hc hR
 rw [← hn7] at h7
 rw [← hn8] at h8
 have HN7 := Aside0.mk hn7
 have HN8 := Aside0.mk hn8
 have H7 := Aside0.mk h7
 have H8 := Aside0.mk h8
 have HKI := Aside0.mk hk
 have HR := Aside0.mk hR
 obtain ⟨e0, e1, e2, e3, e4, e5, e6, e7, e8⟩ := c9at hc
 clear hc hx hn7 hn8 h7 h8 hk hR
 have HB22 := Aside0.mk (Below.refl w2.heap.size w2)
 go_upto_region 5 with ((with_reducible refine gate_dst (N := 10) rfl ?_); refine box_event ?hg10 (N := 10) ?hd10 (cs := #[.int .i64 0, .int .i64 0, .int .i64 0, .int .i64 0, .int .i64 0, .int .i64 0, .string (⟨#[]⟩ : ByteArray), .slice none 0 0, .slice none 0 0]) (t := 32) ?hr10 ?_; (case hd10 => rfl); (case hg10 => rfl); (case hr10 => first | (go_simp; done) | (go_simp; rfl)); intro gb hg w3 hbox hb; have BX := Aside0.mk hbox; have HB3 := Aside0.mk hb; have GB := Aside0.mk (show w2.heap.size ≤ gb from Nat.le_of_eq hg.symm); obtain ⟨hz0, hzf0, hz1, hzf1, hz2, hzf2, hz3, hzf3, hz4, hzf4, hz5, hzf5, hz6, hzf6, hz7, hzf7, hz8, hzf8⟩ := c9f hbox; clear hg hbox hb)
 have BXs : Aside0 ((((((((((w3.setCell ⟨gb, 0, none⟩ (.int .i64 x.f0)).setCell ⟨gb, 1, none⟩ (.int .i64 x.f1)).setCell ⟨gb, 2, none⟩ (.int .i64 x.f2)).setCell ⟨gb, 3, none⟩ (.int .i64 x.f3)).setCell ⟨gb, 4, none⟩ (.int .i64 x.f4)).setCell ⟨gb, 5, none⟩ (.int .i64 x.f5)).setCell ⟨gb, 6, none⟩ (.string x.f6)).setCell ⟨gb, 7, none⟩ (.slice B7 n7 d7)).setCell ⟨gb, 8, none⟩ (.slice B8 n8 d8)).heap[gb]? = some (.cells #[.int .i64 x.f0, .int .i64 x.f1, .int .i64 x.f2, .int .i64 x.f3, .int .i64 x.f4, .int .i64 x.f5, .string x.f6, .slice B7 n7 d7, .slice B8 n8 d8] 32 (0, 0))) := ⟨set9 BX.out⟩
 have HB5 : Aside0 (Below w2.heap.size w2 (((((((((w3.setCell ⟨gb, 0, none⟩ (.int .i64 x.f0)).setCell ⟨gb, 1, none⟩ (.int .i64 x.f1)).setCell ⟨gb, 2, none⟩ (.int .i64 x.f2)).setCell ⟨gb, 3, none⟩ (.int .i64 x.f3)).setCell ⟨gb, 4, none⟩ (.int .i64 x.f4)).setCell ⟨gb, 5, none⟩ (.int .i64 x.f5)).setCell ⟨gb, 6, none⟩ (.string x.f6)).setCell ⟨gb, 7, none⟩ (.slice B7 n7 d7)).setCell ⟨gb, 8, none⟩ (.slice B8 n8 d8))) := ⟨below9 HB3.out GB.out⟩
 generalize (((((((((w3.setCell ⟨gb, 0, none⟩ (.int .i64 x.f0)).setCell ⟨gb, 1, none⟩ (.int .i64 x.f1)).setCell ⟨gb, 2, none⟩ (.int .i64 x.f2)).setCell ⟨gb, 3, none⟩ (.int .i64 x.f3)).setCell ⟨gb, 4, none⟩ (.int .i64 x.f4)).setCell ⟨gb, 5, none⟩ (.int .i64 x.f5)).setCell ⟨gb, 6, none⟩ (.string x.f6)).setCell ⟨gb, 7, none⟩ (.slice B7 n7 d7)).setCell ⟨gb, 8, none⟩ (.slice B8 n8 d8) : World) = W5 at BXs HB5 ⊢
 clear e0 e1 e2 e3 e4 e5 e6 e7 e8 hz0 hzf0 hz1 hzf1 hz2 hzf2 hz3 hzf3 hz4 hzf4 hz5 hzf5 hz6 hzf6 hz7 hzf7 hz8 hzf8 f1 BX HB3
 have HB5w := Aside0.mk (below_step (w := w) HB2.out HB5.out)
 have HH5 := Aside0.mk (HH.out.below HB5w.out)
 have f5 : W5.cell? ⟨g, 1, none⟩ = some (.slice (some ⟨ga, 0, none⟩) n c) := (blk_cell HH5.out.blk 1).trans rfl
 have NEA : Aside0 (gb ≠ ga ∧ gz ≠ ga ∧ gb ≠ g ∧ gz ≠ g ∧ gb ≠ gz) := ⟨by have h1 := GB.out; have h2 := GZ.out; have h3 := HB2.out.size; have h4 := HGA.out; have h5 := HGL.out; have h6 := blk_lt HZ2.out; refine ⟨by omega, by omega, by omega, by omega, by omega⟩⟩
 go_upto_region 6 with (go_at_call 46; (with_reducible refine (del_len _ rfl _ W W5 HH5.out.bel ga c i n _ (by rw [List.length_zipIdx]; exact HN.out) (Kd.R_below HR.out HB5.out) HIN.out HL.out).mono ?_); rintro e w6 ⟨rfl, hR, hg⟩; have HR6 := Aside0.mk hR; have HG6 := Aside0.mk hg; have HK6 := Aside0.mk (blk_grown HH5.out.blk hg HNG.out); have f6 : w6.cell? ⟨g, 1, none⟩ = some (.slice (some ⟨ga, 0, none⟩) n c) := (blk_cell HK6.out 1).trans rfl; have zf6 := blk_frozen HK6.out 1; clear hR hg f5)
 have BX7 : Aside0 ((w6.setCell ⟨g, 1, none⟩ (.slice (some ⟨ga, 0, none⟩) (n - 1) c)).heap[gb]? = some (.cells #[.int .i64 x.f0, .int .i64 x.f1, .int .i64 x.f2, .int .i64 x.f3, .int .i64 x.f4, .int .i64 x.f5, .string x.f6, .slice B7 n7 d7, .slice B8 n8 d8] 32 (0, 0))) := ⟨blk_far (p := ⟨g, 1, none⟩) (blk_grown BXs.out HG6.out (by intro h; injection h with h; exact NEA.out.1 h)) NEA.out.2.2.1 _⟩
 have HZ7 : Aside0 ((w6.setCell ⟨g, 1, none⟩ (.slice (some ⟨ga, 0, none⟩) (n - 1) c)).heap[gz]? = some (.cells #[.int .i64 0, .int .i64 0, .int .i64 0, .int .i64 0, .int .i64 0, .int .i64 0, .string (⟨#[]⟩ : ByteArray), .slice none 0 0, .slice none 0 0] 32 (0, 0))) := ⟨blk_far (p := ⟨g, 1, none⟩) (blk_grown (blk_below HZ2.out HB5.out) HG6.out (by intro h; injection h with h; exact NEA.out.2.1 h)) NEA.out.2.2.2.1 _⟩
 have HF := Aside0.mk (out_mid HH.out HGA.out HB5w.out HKI.out HR6.out HG6.out (Kd.R_below H7.out HB5.out) (Kd.R_below H8.out HB5.out) HK6.out)
 generalize w6.setCell ⟨g, 1, none⟩ (.slice (some ⟨ga, 0, none⟩) (n - 1) c) = W7 at BX7 HZ7 HF ⊢
 clear f6 zf6
 obtain ⟨hl0, hl1, hl2, hl3, hl4, hl5, hl6, hl7, hl8⟩ := c9 BX7.out
 obtain ⟨hq0, hqf0, hq1, hqf1, hq2, hqf2, hq3, hqf3, hq4, hqf4, hq5, hqf5, hq6, hqf6, hq7, hqf7, hq8, hqf8⟩ := c9f HZ7.out
 go_wp2
 refine bodyPost_ret (results_ct rfl _ _ gz 32 #[.int .i64 x.f0, .int .i64 x.f1, .int .i64 x.f2, .int .i64 x.f3, .int .i64 x.f4, .int .i64 x.f5, .string x.f6, .slice B7 n7 d7, .slice B8 n8 d8] (0, 0) _ rfl (set9 HZ7.out) Try.underlying32 rfl (by kernel_rfl)) rfl ?_
 exact ⟨oki, .slice B7 n7 d7, .slice B8 n8 d8, _, by rw [← HX.out, HN7.out, HN8.out]; rfl, out_fin HF.out HKI.out GZ.out HX.out⟩
end Go.Proofs.Ytnbomedhehoflaa.Al

namespace Go.Proofs.Ytnbomedhehoflaa.Al
open Go.RowKit Go.Proofs.YtnbomedhehoflaaW.PrintWords Go.Proofs.YtnbomedhehoflaaW.PrintLast Go.Proofs.YtnbomedhehoflaaW.PrintMore
set_option linter.unusedVariables false
set_option linter.unusedSimpArgs false
theorem take_fin {W w w1 w2 : World} {g gz : Nat} {room : Int} {ok oki : Nat → Prop} {v v' u7 u8 c0 c1 c2 c3 c4 c5 c6 c7 c8 : Value} {l : List S32} {x : S32} (hb : Below w.heap.size w w1) (h1 : w1.heap.size ≤ w2.heap.size) (hs : NStep w1 w2 g v v') (h : NS W w2 g room (fun k => (ok k ∧ k < w.heap.size) ∧ ¬ oki k) v' l) (h7 : Kd.string.R 9 w2 W.heap.size oki u7 x.f7) (h8 : k72.R 72 w2 W.heap.size oki u8 x.f8) (hk : ∀ k, oki k → (ok k ∧ k < w.heap.size) ∧ k < w1.heap.size) (hgz : w.heap.size ≤ gz) (hgl : g < w.heap.size) (hW : W.heap.size ≤ w.heap.size) :
  NS W (((((((((w2.setCell ⟨gz, 0, none⟩ c0).setCell ⟨gz, 1, none⟩ c1).setCell ⟨gz, 2, none⟩ c2).setCell ⟨gz, 3, none⟩ c3).setCell ⟨gz, 4, none⟩ c4).setCell ⟨gz, 5, none⟩ c5).setCell ⟨gz, 6, none⟩ c6).setCell ⟨gz, 7, none⟩ c7).setCell ⟨gz, 8, none⟩ c8) g room (fun k => ok k ∧ ¬ oki k) v' l ∧ Kd.string.R 9 (((((((((w2.setCell ⟨gz, 0, none⟩ c0).setCell ⟨gz, 1, none⟩ c1).setCell ⟨gz, 2, none⟩ c2).setCell ⟨gz, 3, none⟩ c3).setCell ⟨gz, 4, none⟩ c4).setCell ⟨gz, 5, none⟩ c5).setCell ⟨gz, 6, none⟩ c6).setCell ⟨gz, 7, none⟩ c7).setCell ⟨gz, 8, none⟩ c8) W.heap.size oki u7 x.f7 ∧ k72.R 72 (((((((((w2.setCell ⟨gz, 0, none⟩ c0).setCell ⟨gz, 1, none⟩ c1).setCell ⟨gz, 2, none⟩ c2).setCell ⟨gz, 3, none⟩ c3).setCell ⟨gz, 4, none⟩ c4).setCell ⟨gz, 5, none⟩ c5).setCell ⟨gz, 6, none⟩ c6).setCell ⟨gz, 7, none⟩ c7).setCell ⟨gz, 8, none⟩ c8) W.heap.size oki u8 x.f8 ∧ (∀ k, oki k → ok k ∧ k < w.heap.size) ∧ NStep w (((((((((w2.setCell ⟨gz, 0, none⟩ c0).setCell ⟨gz, 1, none⟩ c1).setCell ⟨gz, 2, none⟩ c2).setCell ⟨gz, 3, none⟩ c3).setCell ⟨gz, 4, none⟩ c4).setCell ⟨gz, 5, none⟩ c5).setCell ⟨gz, 6, none⟩ c6).setCell ⟨gz, 7, none⟩ c7).setCell ⟨gz, 8, none⟩ c8) g v v' := by
 have hk9 := keep9 (W := w2) (g := gz) (c0 := c0) (c1 := c1) (c2 := c2) (c3 := c3) (c4 := c4) (c5 := c5) (c6 := c6) (c7 := c7) (c8 := c8)
 have hne : ∀ k, k < w.heap.size → k ≠ gz := fun k hk => by omega
 have hbs := hb.size
 refine ⟨⟨(hk9.2 g (blk_lt h.blk) (hne g hgl) (by simp)).trans h.blk, h.ge, Kd.S_mono (Kd.S_keep h.row hk9 (fun k hk => hne k hk.1.2)) (fun k hk => ⟨hk.1.1, hk.2⟩), below9 h.bel (by omega)⟩, Kd.R_keep h7 hk9 (fun k hk' => hne k (hk k hk').1.2), Kd.R_keep h8 hk9 (fun k hk' => hne k (hk k hk').1.2), fun k hk' => (hk k hk').1, ⟨by have := hk9.1; omega, fun k hk' h1' h2 => ?_, ?_⟩⟩
 ·exact (hk9.2 k (by omega) (hne k hk') (by simp)).trans ((hs.keep k (by omega) h1' h2).trans (hb.block k hk'))
 ·rcases hs.own with e | ⟨b, e, hb'⟩
  ·exact .inl e
  ·exact .inr ⟨b, e, by omega⟩
set_option maxHeartbeats 4000000 in
set_option maxRecDepth 100000 in
theorem take_some (W w : World) (g : Nat) (room : Int) (ok : Nat → Prop) (v : Value) (l : List S32) (h : NS W w g room ok v l) (hl : l.length ≤ 1024) (h0 : 0 < l.length) (p : Int) : Calls Try.prog 12 #[.pointer (some ⟨g, 0, none⟩), .int .i64 p] w (NOut W w g room ok v l (p % (l.length : Int)).toNat) := by
 have hu32 := Try.underlying32
 have HH := Aside0.mk h
 have HL := Aside0.mk hl
 have HL0 := Aside0.mk h0
 clear h hl h0
 generalize hii : (p % (l.length : Int)).toNat = i
 have HI := Aside0.mk hii
 clear hii
 go_enter Try.func12, Try.ntmps12
 go_wp2_with (first | ((with_reducible refine gate_dst (N := 4) rfl ?_); refine box_event ?hg4 (N := 4) ?hd4 (cs := #[.int .i64 0, .int .i64 0, .int .i64 0, .int .i64 0, .int .i64 0, .int .i64 0, .string (⟨#[]⟩ : ByteArray), .slice none 0 0, .slice none 0 0]) (t := 32) ?hr4 ?_; (case hd4 => rfl); (case hg4 => rfl); (case hr4 => first | (go_simp; done) | (go_simp; rfl)); intro gz hg w1 hbox hb; have HZ := Aside0.mk hbox; have HB1 := Aside0.mk hb; have GZ := Aside0.mk (show w.heap.size ≤ gz from Nat.le_of_eq hg.symm); clear hg hbox hb) | (go_at_call 25; refine (out_some W _ g room _ v l (HH.out.old HB1.out) HL.out HL0.out p).mono ?_; rintro e w2 ⟨oki, u7, u8, v', rfl, hns, h7, h8, hk, hs⟩; rw [HI.out] at hns h7 h8 ⊢; obtain ⟨x, hx⟩ : ∃ x, x = l.getD i z32 := ⟨_, rfl⟩; rw [← hx] at h7 h8 ⊢; have HX := Aside0.mk hx; obtain ⟨B7, d7, hu7⟩ := Kd.R_slice h7; obtain ⟨B8, d8, hu8⟩ := Kd.R_slice h8; subst hu7 hu8; obtain ⟨n7, hn7⟩ : ∃ n, n = x.f7.length := ⟨_, rfl⟩; obtain ⟨n8, hn8⟩ : ∃ n, n = x.f8.length := ⟨_, rfl⟩; rw [← hn7] at h7 ⊢; rw [← hn8] at h8 ⊢; have HN7 := Aside0.mk hn7; have HN8 := Aside0.mk hn8; have HNS := Aside0.mk hns; have H7 := Aside0.mk h7; have H8 := Aside0.mk h8; have HK := Aside0.mk hk; have HS := Aside0.mk hs; have HZ2 : Aside0 (w2.heap[gz]? = some (.cells #[.int .i64 0, .int .i64 0, .int .i64 0, .int .i64 0, .int .i64 0, .int .i64 0, .string (⟨#[]⟩ : ByteArray), .slice none 0 0, .slice none 0 0] 32 (0, 0))) := ⟨(hs.keep gz (blk_lt HZ.out) (by have := blk_lt HH.out.blk; have := GZ.out; omega) (fun he => by have := Kd.S_lt HH.out.row gz he; have := GZ.out; omega)).trans HZ.out⟩; obtain ⟨hq0, hqf0, hq1, hqf1, hq2, hqf2, hq3, hqf3, hq4, hqf4, hq5, hqf5, hq6, hqf6, hq7, hqf7, hq8, hqf8⟩ := c9f HZ2.out; clear hns h7 h8 hk hs hx hn7 hn8))
 refine bodyPost_ret (results_ct rfl _ _ gz 32 #[.int .i64 x.f0, .int .i64 x.f1, .int .i64 x.f2, .int .i64 x.f3, .int .i64 x.f4, .int .i64 x.f5, .string x.f6, .slice B7 n7 d7, .slice B8 n8 d8] (0, 0) _ rfl (set9 HZ2.out) Try.underlying32 rfl (by kernel_rfl)) rfl ?_
 have hf := take_fin (c0 := .int .i64 x.f0) (c1 := .int .i64 x.f1) (c2 := .int .i64 x.f2) (c3 := .int .i64 x.f3) (c4 := .int .i64 x.f4) (c5 := .int .i64 x.f5) (c6 := .string x.f6) (c7 := .slice B7 n7 d7) (c8 := .slice B8 n8 d8) (x := x) HB1.out HS.out.size HS.out HNS.out H7.out H8.out HK.out GZ.out (blk_lt HH.out.blk) HH.out.bel.size
 exact ⟨oki, .slice B7 n7 d7, .slice B8 n8 d8, v', by rw [← HX.out]; rfl, by rw [← HX.out]; exact hf⟩
end Go.Proofs.Ytnbomedhehoflaa.Al

namespace Go.Proofs.Ytnbomedhehoflaa.Al
open Go.RowKit Go.Proofs.YtnbomedhehoflaaW.PrintWords Go.Proofs.YtnbomedhehoflaaW.PrintLast Go.Proofs.YtnbomedhehoflaaW.PrintMore
attribute [local go_sem] max2_int min2_int max_two min_two max_three min_three max_four min_four   -- for this text's walks alone
set_option linter.unusedVariables false
set_option linter.unusedSimpArgs false
attribute [local go_sem high] eqA72
def corncriblaw15_plain.f (a0 : Int) (a1 : Int) : Option (Int × Int × Int × Int × Int × Int × ByteArray × List ByteArray × (List (S72))) := some (7, 0, a1, a0, 0, 0, (⟨#[]⟩ : ByteArray), ([] : List ByteArray), ([] : List (S72)))
set_option maxHeartbeats 8000000 in
set_option maxRecDepth 100000 in
theorem corncriblaw15_plain.calls (a0 : Int) (a1 : Int) (r1 : Int) (r2 : Int) (r3 : Int) (r4 : Int) (r5 : Int) (r6 : Int) (r7 : ByteArray) (r8 : List ByteArray) (r9 : List (S72)) (w : World) (h : corncriblaw15_plain.f a0 a1 = some (r1, r2, r3, r4, r5, r6, r7, r8, r9)) :
  Calls Try.prog 11 #[.int .i64 a0, .int .i64 a1] w fun e w' => ∃ v7_ v8_ : Value, e = .returned (.agg #[.int .i64 r1, .int .i64 r2, .int .i64 r3, .int .i64 r4, .int .i64 r5, .int .i64 r6, .string r7, v7_, v8_]) ∧ Kd.R Kd.string 9 w' w.heap.size (fun _ => True) v7_ r8 ∧ Kd.R k72 72 w' w.heap.size (fun _ => True) v8_ r9 ∧ Below w.heap.size w w' := by
 have hu32 := Try.underlying32
 have HB := Aside0.mk (Below.refl w.heap.size w)
 have H : (some (7, 0, a1, a0, 0, 0, (⟨#[]⟩ : ByteArray), ([] : List ByteArray), ([] : List (S72)))) = some (r1, r2, r3, r4, r5, r6, r7, r8, r9) := h
 clear h
 simp only [Option.some.injEq, Prod.mk.injEq] at H
 obtain ⟨rfl, rfl, rfl, rfl, rfl, rfl, rfl, rfl, rfl⟩ := H
 go_enter Try.func11, Try.ntmps11
 go_wp2_with (first | ((with_reducible refine gate_dst (N := 4) rfl ?_); refine box_event ?hg (N := 4) ?hd (cs := #[.int .i64 0, .int .i64 0, .int .i64 0, .int .i64 0, .int .i64 0, .int .i64 0, .string (⟨#[]⟩ : ByteArray), .slice none 0 0, .slice none 0 0]) (t := 32) ?hr ?_; (case hd => rfl); (case hg => rfl); (case hr => first | (go_simp; done) | (go_simp; rfl)); intro gb131 hg w3 hbox hb; have n0_ := Aside0.mk (below_step (by repeat (first | (with_reducible first | exact HB.out | apply below_alloc | apply pw_below_drewN | apply below_drew1) | exact HB.out)) hb); have n1_ := Aside0.mk (hbox); have n2_ := Aside0.mk ((by rw [hg]; exact (below_size (by repeat (first | (with_reducible first | exact HB.out | apply below_alloc | apply pw_below_drewN | apply below_drew1) | exact HB.out))) : w.heap.size ≤ gb131)); have n3_ := Aside0.mk ((by rw [hg]; exact (below_size (by repeat (first | (with_reducible first | exact HB.out | apply below_alloc | apply pw_below_drewN | apply below_drew1) | exact HB.out))) : w.heap.size ≤ gb131)); clear HB; have HB := n0_; have BK131 := n1_; have GW131 := n2_; have GE131 := n3_; clear n0_ n1_ n2_ n3_; clear hb hbox hg; have hcz4_0 : w3.cell? ⟨gb131, 0, none⟩ = some (.int .i64 0) := (blk_cell BK131.out 0).trans rfl; have hcz4_1 : w3.cell? ⟨gb131, 1, none⟩ = some (.int .i64 0) := (blk_cell BK131.out 1).trans rfl; have hcz4_2 : w3.cell? ⟨gb131, 2, none⟩ = some (.int .i64 0) := (blk_cell BK131.out 2).trans rfl; have hcz4_3 : w3.cell? ⟨gb131, 3, none⟩ = some (.int .i64 0) := (blk_cell BK131.out 3).trans rfl; have hcz4_4 : w3.cell? ⟨gb131, 4, none⟩ = some (.int .i64 0) := (blk_cell BK131.out 4).trans rfl; have hcz4_5 : w3.cell? ⟨gb131, 5, none⟩ = some (.int .i64 0) := (blk_cell BK131.out 5).trans rfl; have hcz4_6 : w3.cell? ⟨gb131, 6, none⟩ = some (.string (⟨#[]⟩ : ByteArray)) := (blk_cell BK131.out 6).trans rfl; have hcz4_7 : w3.cell? ⟨gb131, 7, none⟩ = some (.slice none 0 0) := (blk_cell BK131.out 7).trans rfl; have hcz4_8 : w3.cell? ⟨gb131, 8, none⟩ = some (.slice none 0 0) := (blk_cell BK131.out 8).trans rfl; have hfz4_0 := blk_frozen BK131.out 0; have hfz4_1 := blk_frozen BK131.out 1; have hfz4_2 := blk_frozen BK131.out 2; have hfz4_3 := blk_frozen BK131.out 3; have hfz4_4 := blk_frozen BK131.out 4; have hfz4_5 := blk_frozen BK131.out 5; have hfz4_6 := blk_frozen BK131.out 6; have hfz4_7 := blk_frozen BK131.out 7; have hfz4_8 := blk_frozen BK131.out 8))
 refine bodyPost_ret (results_cell_row rfl _ _ gb131 32 #[.int .i64 7, .int .i64 0, .int .i64 a1, .int .i64 a0, .int .i64 0, .int .i64 0, .string (⟨#[]⟩ : ByteArray), .slice none 0 0, .slice none 0 0] (0, 0) _ rfl (by (with_reducible repeat (first | refine blk_drewN ?_ _ | refine blk_drew ?_ | refine blk_alloc ?_ _)); refine blk_put (cs := #[.int .i64 7, .int .i64 0, .int .i64 a1, .int .i64 a0, .int .i64 0, .int .i64 0, .string (⟨#[]⟩ : ByteArray), .slice none 0 0, .slice none 0 0]) ?_ 8 _ rfl; (with_reducible repeat (first | refine blk_drewN ?_ _ | refine blk_drew ?_ | refine blk_alloc ?_ _)); refine blk_put (cs := #[.int .i64 7, .int .i64 0, .int .i64 a1, .int .i64 a0, .int .i64 0, .int .i64 0, .string (⟨#[]⟩ : ByteArray), .slice none 0 0, .slice none 0 0]) ?_ 7 _ rfl; (with_reducible repeat (first | refine blk_drewN ?_ _ | refine blk_drew ?_ | refine blk_alloc ?_ _)); refine blk_put (cs := #[.int .i64 7, .int .i64 0, .int .i64 a1, .int .i64 a0, .int .i64 0, .int .i64 0, .string (⟨#[]⟩ : ByteArray), .slice none 0 0, .slice none 0 0]) ?_ 6 _ rfl; (with_reducible repeat (first | refine blk_drewN ?_ _ | refine blk_drew ?_ | refine blk_alloc ?_ _)); refine blk_put (cs := #[.int .i64 7, .int .i64 0, .int .i64 a1, .int .i64 a0, .int .i64 0, .int .i64 0, .string (⟨#[]⟩ : ByteArray), .slice none 0 0, .slice none 0 0]) ?_ 5 _ rfl; (with_reducible repeat (first | refine blk_drewN ?_ _ | refine blk_drew ?_ | refine blk_alloc ?_ _)); refine blk_put (cs := #[.int .i64 7, .int .i64 0, .int .i64 a1, .int .i64 a0, .int .i64 0, .int .i64 0, .string (⟨#[]⟩ : ByteArray), .slice none 0 0, .slice none 0 0]) ?_ 4 _ rfl; (with_reducible repeat (first | refine blk_drewN ?_ _ | refine blk_drew ?_ | refine blk_alloc ?_ _)); refine blk_put (cs := #[.int .i64 7, .int .i64 0, .int .i64 a1, .int .i64 0, .int .i64 0, .int .i64 0, .string (⟨#[]⟩ : ByteArray), .slice none 0 0, .slice none 0 0]) ?_ 3 _ rfl; (with_reducible repeat (first | refine blk_drewN ?_ _ | refine blk_drew ?_ | refine blk_alloc ?_ _)); refine blk_put (cs := #[.int .i64 7, .int .i64 0, .int .i64 0, .int .i64 0, .int .i64 0, .int .i64 0, .string (⟨#[]⟩ : ByteArray), .slice none 0 0, .slice none 0 0]) ?_ 2 _ rfl; (with_reducible repeat (first | refine blk_drewN ?_ _ | refine blk_drew ?_ | refine blk_alloc ?_ _)); refine blk_put (cs := #[.int .i64 7, .int .i64 0, .int .i64 0, .int .i64 0, .int .i64 0, .int .i64 0, .string (⟨#[]⟩ : ByteArray), .slice none 0 0, .slice none 0 0]) ?_ 1 _ rfl; (with_reducible repeat (first | refine blk_drewN ?_ _ | refine blk_drew ?_ | refine blk_alloc ?_ _)); refine blk_put (cs := #[.int .i64 0, .int .i64 0, .int .i64 0, .int .i64 0, .int .i64 0, .int .i64 0, .string (⟨#[]⟩ : ByteArray), .slice none 0 0, .slice none 0 0]) ?_ 0 _ rfl; (with_reducible repeat (first | refine blk_drewN ?_ _ | refine blk_drew ?_ | refine blk_alloc ?_ _)); exact BK131.out) Try.underlying32 rfl (by kernel_rfl)) rfl ?_
 exact ⟨_, _, by first | rfl | (simp [errW_none, errW_some] <;> rfl) | (simp [*, errW_none, errW_some] <;> rfl), by first | exact Kd.R_nil _ _ _ _ _ | exact Kd.N_nil _ _ _ _ _ | exact Kd.V_nil _ _ _ _ _ | exact Kd.Q_nil _ _ _ _ _ | exact Kd.S_nil _ _ _ _ _, by first | exact Kd.R_nil _ _ _ _ _ | exact Kd.N_nil _ _ _ _ _ | exact Kd.V_nil _ _ _ _ _ | exact Kd.Q_nil _ _ _ _ _ | exact Kd.S_nil _ _ _ _ _, by repeat (first | (with_reducible first | exact HB.out | apply below_alloc | apply pw_below_drewN | apply below_drew1 | refine below_set ?_ GE131.out) | exact HB.out)⟩
-- NOT PRINTED: function 46 (api_Letter)
-- NOT PRINTED: function 25 (net_Net_out)
end Go.Proofs.Ytnbomedhehoflaa.Al

namespace Go.Proofs.Ytnbomedhehoflaa.Al
open Go.RowKit Go.Proofs.YtnbomedhehoflaaW.PrintWords Go.Proofs.YtnbomedhehoflaaW.PrintLast Go.Proofs.YtnbomedhehoflaaW.PrintMore
set_option linter.unusedVariables false
set_option linter.unusedSimpArgs false
abbrev plS (txn dst : Int) : S32 := ⟨7, 0, dst, txn, 0, 0, ⟨#[]⟩, [], []⟩
theorem chk_plain {txn dst : Int} (h1 : 1 ≤ txn) (h2 : txn ≤ 1125899906842623) (h3 : 0 ≤ dst) (h4 : dst < 12) : chkS (plS txn dst) = 0 := by
 show LetSpec.chkL 7 0 dst txn 0 0 (⟨#[]⟩ : ByteArray) [] [] = 0
 rw [LetSpec.ref_chk, if_pos ⟨by unfold LetSpec.addrB; simp, by unfold LetSpec.addrB; simp; omega, h1, h2, by omega, by omega, by omega, by omega⟩]
 unfold LetSpec.refV LetSpec.bareB
 have : ((⟨#[]⟩ : ByteArray).toList.isEmpty) = true := by rw [Base.toList_eq]; rfl
 simp [this]
theorem plain_calls (txn dst : Int) (w : World) : Calls Try.prog 11 #[.int .i64 txn, .int .i64 dst] w fun e w' => ∃ v7 v8, e = .returned (agL (plS txn dst) v7 v8) ∧ RdL w' (plS txn dst) v7 v8 ∧ Below w.heap.size w w' :=
 (corncriblaw15_plain.calls txn dst 7 0 dst txn 0 0 ⟨#[]⟩ [] [] w rfl).mono (by rintro e w' ⟨v7, v8, rfl, h7, h8, hb⟩; exact ⟨v7, v8, rfl, RdL.of (x := plS txn dst) h7 h8, hb⟩)
/-- The net, told by its letters alone; the blocks X are none of its. -/
structure NZ (W w : World) (g : Nat) (room : Int) (X : Nat → Prop) (l : List S32) : Prop where
 ex : ∃ v, NS W w g room (fun k => ¬ X k) v l
 lt : ∀ k, X k → k < w.heap.size ∧ k ≠ g
section
variable {W w w1 : World} {g gz : Nat} {room : Int} {X : Nat → Prop} {l : List S32} {x : S32} {v7 v8 : Value}
theorem NZ.below (h : NZ W w g room X l) (hb : Below w.heap.size w w1) : NZ W w1 g room X l := by
 obtain ⟨v, hv⟩ := h.ex
 exact ⟨⟨v, hv.below hb⟩, fun k hk => ⟨by have := (h.lt k hk).1; have := hb.size; omega, (h.lt k hk).2⟩⟩
theorem NZ.bel (h : NZ W w g room X l) : Below W.heap.size W w := by
 obtain ⟨v, hv⟩ := h.ex
 exact hv.bel
/-- A block that was made since. -/
theorem NZ.more (h : NZ W w g room X l) (hb : Below w.heap.size w w1) (hz : w.heap.size ≤ gz) (hz1 : gz < w1.heap.size) : NZ W w1 g room (fun k => X k ∨ k = gz) l := by
 obtain ⟨v, hv⟩ := h.ex
 refine ⟨⟨v, (hv.old hb).mono (fun k hk => fun hx => ?_)⟩, fun k hk => ?_⟩
 ·rcases hx with hx | rfl
  ·exact hk.1 hx
  ·omega
 ·have := blk_lt hv.blk
  have := hb.size
  rcases hk with hk | rfl
  ·exact ⟨by have := (h.lt k hk).1; omega, (h.lt k hk).2⟩
  ·exact ⟨hz1, by omega⟩
theorem z_new (W w : World) (hB : Below W.heap.size W w) (room : Int) (h0 : 1 ≤ room) (h1 : room ≤ 1024) : Calls Try.prog 8 #[.int .i64 room] w fun e w' => ∃ g, e = .returned (.tuple #[.pointer (some ⟨g, 0, none⟩), .int .i64 0]) ∧ NZ W w' g room (fun _ => False) [] ∧ Below w.heap.size w w' :=
 (new_calls W w hB (fun _ => ¬ False) room h0 h1).mono (by rintro e w' ⟨g, rfl, hn, _, hb⟩; exact ⟨g, rfl, ⟨⟨_, hn⟩, fun k hk => hk.elim⟩, hb⟩)
def Kep (X : Nat → Prop) (w w1 : World) : Prop := ∀ k, X k → w1.heap[k]? = w.heap[k]?
theorem NStep.kep {v v1 : Value} (h : NS W w g room (fun k => ¬ X k) v l) (hx : ∀ k, X k → k < w.heap.size ∧ k ≠ g) (hs : NStep w w1 g v v1) : Kep X w w1 :=
 fun k hk => hs.keep k (hx k hk).1 (hx k hk).2 (fun he => (Kd.S_R h.row).1 k he hk)
theorem z_len (h : NZ W w g room X l) : Calls Try.prog 13 #[.pointer (some ⟨g, 0, none⟩)] w fun e w' => e = .returned (.int .i64 (l.length : Int)) ∧ Below w.heap.size w w' := by
 obtain ⟨v, hv⟩ := h.ex
 exact len_calls hv
theorem z_send (h : NZ W w g room X l) (hr : 1 ≤ room ∧ room ≤ 1024) (hx : RdL w x v7 v8) (hb7 : x.f7.length ≤ 8796093022000) (hb8 : x.f8.length ≤ 8796093022000) : Calls Try.prog 10 #[.pointer (some ⟨g, 0, none⟩), agL x v7 v8] w fun e w' => e = .returned (.int .i64 (sendE room l x)) ∧ NZ W w' g room X (sendL room l x) ∧ Kep X w w' := by
 obtain ⟨v, hv⟩ := h.ex
 refine (send_calls W w g room _ v l hv hr x v7 v8 hx hb7 hb8).mono ?_
 rintro e w' ⟨rfl, v', hn, hs⟩
 refine ⟨rfl, ⟨⟨v', hn.mono (fun k hk hx => ?_)⟩, fun k hk => ⟨by have := (h.lt k hk).1; have := hs.size; omega, (h.lt k hk).2⟩⟩, hs.kep hv h.lt⟩
 rcases hk with hk | hk
 ·exact hk hx
 ·have := (h.lt k hx).1; omega
theorem out_z {i : Nat} {e : Ending} {w' : World} {v : Value} (h : NZ W w g room X l) (hv : NS W w g room (fun k => ¬ X k) v l) (ho : NOut W w g room (fun k => ¬ X k) v l i e w') : ∃ u7 u8, e = .returned (.tuple #[agL (l.getD i z32) u7 u8, .int .i64 0]) ∧ NZ W w' g room X (l.eraseIdx i) ∧ RdL w' (l.getD i z32) u7 u8 ∧ Kep X w w' := by
 obtain ⟨oki, u7, u8, v', he, hn, h7, h8, hk, hs⟩ := ho.ex
 exact ⟨u7, u8, he, ⟨⟨v', hn.mono (fun k hk => hk.1)⟩, fun k hk => ⟨by have := (h.lt k hk).1; have := hs.size; omega, (h.lt k hk).2⟩⟩, RdL.of h7 h8, hs.kep hv h.lt⟩
theorem z_take (h : NZ W w g room X l) (hl : l.length ≤ 1024) (h0 : 0 < l.length) (p : Int) : Calls Try.prog 12 #[.pointer (some ⟨g, 0, none⟩), .int .i64 p] w fun e w' => ∃ u7 u8, e = .returned (.tuple #[agL (l.getD (p % (l.length : Int)).toNat z32) u7 u8, .int .i64 0]) ∧ NZ W w' g room X (l.eraseIdx (p % (l.length : Int)).toNat) ∧ RdL w' (l.getD (p % (l.length : Int)).toNat z32) u7 u8 ∧ Kep X w w' := by
 obtain ⟨v, hv⟩ := h.ex
 exact (take_some W w g room _ v l hv hl h0 p).mono (fun e w' ho => out_z h hv ho)
end
end Go.Proofs.Ytnbomedhehoflaa.Al

namespace Go.Proofs.Ytnbomedhehoflaa.Al
open Go.RowKit Go.Proofs.YtnbomedhehoflaaW.PrintWords Go.Proofs.YtnbomedhehoflaaW.PrintLast Go.Proofs.YtnbomedhehoflaaW.PrintMore
set_option linter.unusedVariables false
set_option linter.unusedSimpArgs false
def plains (dst : Int) (i : Nat) : List S32 := (List.range i).map fun j : Nat => plS ((j : Int) + 1) dst
theorem plains_len (dst : Int) (i : Nat) : (plains dst i).length = i := by simp [plains]
theorem plains_succ (dst : Int) (i : Nat) : plains dst (i + 1) = plains dst i ++ [plS ((i : Int) + 1) dst] := by simp [plains, List.range_succ]
theorem send_plain {room : Int} {l : List S32} {txn dst : Int} (h1 : 1 ≤ txn) (h2 : txn ≤ 1125899906842623) (h3 : 0 ≤ dst) (h4 : dst < 12) (hl : (l.length : Int) < room) : sendE room l (plS txn dst) = 0 ∧ sendL room l (plS txn dst) = l ++ [plS txn dst] := by
 unfold sendE sendL
 rw [if_neg (fun c => c (chk_plain h1 h2 h3 h4)), if_neg (by omega), if_neg (fun c => c (chk_plain h1 h2 h3 h4)), if_neg (by omega)]
 exact ⟨rfl, rfl⟩
theorem rd_plain {w : World} {txn dst : Int} {v7 v8 : Value} (h : RdL w (plS txn dst) v7 v8) : ∃ A7 c7 A8 c8, v7 = .slice A7 0 c7 ∧ v8 = .slice A8 0 c8 := by
 obtain ⟨⟨A, c, e, _, _⟩, ⟨A', c', e', _, _⟩⟩ := h
 exact ⟨A, c, A', c', e, e'⟩
section
variable {W w : World} {g : Nat} {X : Nat → Prop}
theorem work_take1 (h : NZ W w g 5 X (plains 0 3)) : Calls Try.prog 12 #[.pointer (some ⟨g, 0, none⟩), .int .i64 4] w fun e w' => ∃ A7 c7 A8 c8, e = .returned (.tuple #[.agg #[.int .i64 7, .int .i64 0, .int .i64 (0), .int .i64 (2), .int .i64 0, .int .i64 0, .string (⟨#[]⟩ : ByteArray), .slice A7 0 c7, .slice A8 0 c8], .int .i64 0]) ∧ NZ W w' g 5 X [plS 1 0, plS 3 0] ∧ Kep X w w' :=
 (z_take h (by decide) (by decide) 4).mono (by rintro e w' ⟨u7, u8, rfl, hn, hr, hk⟩; obtain ⟨A7, c7, A8, c8, rfl, rfl⟩ := rd_plain (txn := 2) (dst := 0) hr; exact ⟨A7, c7, A8, c8, rfl, hn, hk⟩)
theorem work_take2 (h : NZ W w g 5 X [plS 1 0, plS 3 0]) : Calls Try.prog 12 #[.pointer (some ⟨g, 0, none⟩), .int .i64 (-1)] w fun e w' => ∃ A7 c7 A8 c8, e = .returned (.tuple #[.agg #[.int .i64 7, .int .i64 0, .int .i64 (0), .int .i64 (3), .int .i64 0, .int .i64 0, .string (⟨#[]⟩ : ByteArray), .slice A7 0 c7, .slice A8 0 c8], .int .i64 0]) ∧ NZ W w' g 5 X [plS 1 0] ∧ Kep X w w' :=
 (z_take h (by decide) (by decide) (-1)).mono (by rintro e w' ⟨u7, u8, rfl, hn, hr, hk⟩; obtain ⟨A7, c7, A8, c8, rfl, rfl⟩ := rd_plain (txn := 3) (dst := 0) hr; exact ⟨A7, c7, A8, c8, rfl, hn, hk⟩)
end
set_option maxHeartbeats 8000000 in
set_option maxRecDepth 100000 in
theorem works_calls (w : World) : Calls Try.prog 9 #[] w fun e w' => e = .returned (.bool true) ∧ Below w.heap.size w w' := by
 have hu32 := Try.underlying32
 go_enter Try.func9, Try.ntmps9
 go_upto_region 4 with (go_at_call 8; refine (z_new w _ (Below.refl _ _) 5 (by decide) (by decide)).mono ?_; rintro e w1 ⟨g, rfl, hn, hb⟩; have HN1 := Aside0.mk hn; clear hn hb)
 go_wp2
 go_loopw [3] (fun v3 wr => ∃ i : Nat, v3 = .int .i64 ((i : Int) + 1) ∧ i ≤ 3 ∧ Aside0 (NZ w wr g 5 (fun _ => False) (plains 0 i))) (fun v3 _ => 4 - (intOf v3).toNat)
 case atStart => exact ⟨0, rfl, by omega, HN1⟩
 case round =>
  obtain ⟨i, rfl, hi, HN⟩ := hrel
  clear HN1
  by_cases hlt : i < 3
  ·have b1 : decide ((i : Int) + 1 ≤ 3) = true := decide_eq_true (by omega)
   have b2 : decide (3 < (i : Int) + 1) = false := decide_eq_false (by omega)
   have HI := Aside0.mk hlt
   have HE := Aside0.mk (send_plain (room := 5) (l := plains 0 i) (txn := (i : Int) + 1) (dst := 0) (by omega) (by omega) (by decide) (by decide) (by rw [plains_len]; omega))
   clear hlt
   go_wp2_with (first | (go_at_call 11; refine (plain_calls ((i : Int) + 1) 0 _).mono ?_; rintro e w2 ⟨v7, v8, rfl, hr, hb⟩; have HR2 := Aside0.mk hr; have HN2 := Aside0.mk (HN.out.below hb); clear hr hb) | (go_at_call 10; refine (z_send HN2.out (by decide) HR2.out (Nat.zero_le _) (Nat.zero_le _)).mono ?_; rintro e w3 ⟨rfl, hn, hk⟩; rw [HE.out.1]; have HN3 := Aside0.mk (show NZ w w3 g 5 (fun _ => False) (plains 0 (i + 1)) from by rw [plains_succ, ← HE.out.2]; exact hn); clear hn hk))
   go_roundw
   case rel => exact ⟨i + 1, by go_num, by have := HI.out; omega, HN3⟩
   case measure => have := HI.out; simp [intOf]; omega
  ·obtain rfl : i = 3 := by omega
   clear hlt
   go_upto_region 10 with (first | (go_at_call 12; refine (work_take1 HN.out).mono ?_; rintro e w2 ⟨A7, c7, A8, c8, rfl, hn, hk⟩; have HN2 := Aside0.mk hn; clear hn hk) | ((with_reducible refine gate_dst (N := 4) rfl ?_); refine box_event ?hg4 (N := 4) ?hd4 (cs := #[.int .i64 0, .int .i64 0, .int .i64 0, .int .i64 0, .int .i64 0, .int .i64 0, .string (⟨#[]⟩ : ByteArray), .slice none 0 0, .slice none 0 0]) (t := 32) ?hr4 ?_; (case hd4 => rfl); (case hg4 => rfl); (case hr4 => first | (go_simp; done) | (go_simp; rfl)); intro g4 hg w3 hbox hb; have BX4 := Aside0.mk hbox; have HBx4 := Aside0.mk hb; have GE4 := Aside0.mk (show w2.heap.size ≤ g4 from Nat.le_of_eq hg.symm); have GL4 := Aside0.mk (blk_lt hbox); obtain ⟨hz0, hzf0, hz1, hzf1, hz2, hzf2, hz3, hzf3, hz4, hzf4, hz5, hzf5, hz6, hzf6, hz7, hzf7, hz8, hzf8⟩ := c9f hbox; clear hg hbox hb))
   have BY4 : Aside0 ((((((((((w3.setCell ⟨g4, 0, none⟩ (.int .i64 7)).setCell ⟨g4, 1, none⟩ (.int .i64 0)).setCell ⟨g4, 2, none⟩ (.int .i64 (0))).setCell ⟨g4, 3, none⟩ (.int .i64 (2))).setCell ⟨g4, 4, none⟩ (.int .i64 0)).setCell ⟨g4, 5, none⟩ (.int .i64 0)).setCell ⟨g4, 6, none⟩ (.string (⟨#[]⟩ : ByteArray))).setCell ⟨g4, 7, none⟩ (.slice A7 0 c7)).setCell ⟨g4, 8, none⟩ (.slice A8 0 c8)).heap[g4]? = some (.cells #[.int .i64 7, .int .i64 0, .int .i64 (0), .int .i64 (2), .int .i64 0, .int .i64 0, .string (⟨#[]⟩ : ByteArray), .slice A7 0 c7, .slice A8 0 c8] 32 (0, 0))) := ⟨set9 BX4.out⟩
   have HBy4 : Aside0 (Below w2.heap.size w2 (((((((((w3.setCell ⟨g4, 0, none⟩ (.int .i64 7)).setCell ⟨g4, 1, none⟩ (.int .i64 0)).setCell ⟨g4, 2, none⟩ (.int .i64 (0))).setCell ⟨g4, 3, none⟩ (.int .i64 (2))).setCell ⟨g4, 4, none⟩ (.int .i64 0)).setCell ⟨g4, 5, none⟩ (.int .i64 0)).setCell ⟨g4, 6, none⟩ (.string (⟨#[]⟩ : ByteArray))).setCell ⟨g4, 7, none⟩ (.slice A7 0 c7)).setCell ⟨g4, 8, none⟩ (.slice A8 0 c8))) := ⟨below9 HBx4.out GE4.out⟩
   have HSy4 : Aside0 (g4 < (((((((((w3.setCell ⟨g4, 0, none⟩ (.int .i64 7)).setCell ⟨g4, 1, none⟩ (.int .i64 0)).setCell ⟨g4, 2, none⟩ (.int .i64 (0))).setCell ⟨g4, 3, none⟩ (.int .i64 (2))).setCell ⟨g4, 4, none⟩ (.int .i64 0)).setCell ⟨g4, 5, none⟩ (.int .i64 0)).setCell ⟨g4, 6, none⟩ (.string (⟨#[]⟩ : ByteArray))).setCell ⟨g4, 7, none⟩ (.slice A7 0 c7)).setCell ⟨g4, 8, none⟩ (.slice A8 0 c8)).heap.size) := ⟨blk_lt BY4.out⟩
   generalize (((((((((w3.setCell ⟨g4, 0, none⟩ (.int .i64 7)).setCell ⟨g4, 1, none⟩ (.int .i64 0)).setCell ⟨g4, 2, none⟩ (.int .i64 (0))).setCell ⟨g4, 3, none⟩ (.int .i64 (2))).setCell ⟨g4, 4, none⟩ (.int .i64 0)).setCell ⟨g4, 5, none⟩ (.int .i64 0)).setCell ⟨g4, 6, none⟩ (.string (⟨#[]⟩ : ByteArray))).setCell ⟨g4, 7, none⟩ (.slice A7 0 c7)).setCell ⟨g4, 8, none⟩ (.slice A8 0 c8) : World) = w4 at BY4 HBy4 HSy4 ⊢
   clear hz0 hzf0 hz1 hzf1 hz2 hzf2 hz3 hzf3 hz4 hzf4 hz5 hzf5 hz6 hzf6 hz7 hzf7 hz8 hzf8
   have HN3 := Aside0.mk (HN2.out.more HBy4.out GE4.out HSy4.out)
   go_upto_region 11 with (first | (go_at_call 12; refine (work_take2 HN3.out).mono ?_; rintro e w5 ⟨B7, d7, B8, d8, rfl, hn, hk⟩; have HN5 := Aside0.mk hn; have BY45 : Aside0 (w5.heap[g4]? = _) := ⟨(hk g4 (Or.inr rfl)).trans BY4.out⟩; clear hn hk) | ((with_reducible refine gate_dst (N := 5) rfl ?_); refine box_event ?hg5 (N := 5) ?hd5 (cs := #[.int .i64 0, .int .i64 0, .int .i64 0, .int .i64 0, .int .i64 0, .int .i64 0, .string (⟨#[]⟩ : ByteArray), .slice none 0 0, .slice none 0 0]) (t := 32) ?hr5 ?_; (case hd5 => rfl); (case hg5 => rfl); (case hr5 => first | (go_simp; done) | (go_simp; rfl)); intro g5 hg w6 hbox hb; have BX5 := Aside0.mk hbox; have HBx5 := Aside0.mk hb; have GE5 := Aside0.mk (show w5.heap.size ≤ g5 from Nat.le_of_eq hg.symm); have GL5 := Aside0.mk (blk_lt hbox); obtain ⟨hz0, hzf0, hz1, hzf1, hz2, hzf2, hz3, hzf3, hz4, hzf4, hz5, hzf5, hz6, hzf6, hz7, hzf7, hz8, hzf8⟩ := c9f hbox; clear hg hbox hb))
   have BY5 : Aside0 ((((((((((w6.setCell ⟨g5, 0, none⟩ (.int .i64 7)).setCell ⟨g5, 1, none⟩ (.int .i64 0)).setCell ⟨g5, 2, none⟩ (.int .i64 (0))).setCell ⟨g5, 3, none⟩ (.int .i64 (3))).setCell ⟨g5, 4, none⟩ (.int .i64 0)).setCell ⟨g5, 5, none⟩ (.int .i64 0)).setCell ⟨g5, 6, none⟩ (.string (⟨#[]⟩ : ByteArray))).setCell ⟨g5, 7, none⟩ (.slice B7 0 d7)).setCell ⟨g5, 8, none⟩ (.slice B8 0 d8)).heap[g5]? = some (.cells #[.int .i64 7, .int .i64 0, .int .i64 (0), .int .i64 (3), .int .i64 0, .int .i64 0, .string (⟨#[]⟩ : ByteArray), .slice B7 0 d7, .slice B8 0 d8] 32 (0, 0))) := ⟨set9 BX5.out⟩
   have HBy5 : Aside0 (Below w5.heap.size w5 (((((((((w6.setCell ⟨g5, 0, none⟩ (.int .i64 7)).setCell ⟨g5, 1, none⟩ (.int .i64 0)).setCell ⟨g5, 2, none⟩ (.int .i64 (0))).setCell ⟨g5, 3, none⟩ (.int .i64 (3))).setCell ⟨g5, 4, none⟩ (.int .i64 0)).setCell ⟨g5, 5, none⟩ (.int .i64 0)).setCell ⟨g5, 6, none⟩ (.string (⟨#[]⟩ : ByteArray))).setCell ⟨g5, 7, none⟩ (.slice B7 0 d7)).setCell ⟨g5, 8, none⟩ (.slice B8 0 d8))) := ⟨below9 HBx5.out GE5.out⟩
   have HSy5 : Aside0 (g5 < (((((((((w6.setCell ⟨g5, 0, none⟩ (.int .i64 7)).setCell ⟨g5, 1, none⟩ (.int .i64 0)).setCell ⟨g5, 2, none⟩ (.int .i64 (0))).setCell ⟨g5, 3, none⟩ (.int .i64 (3))).setCell ⟨g5, 4, none⟩ (.int .i64 0)).setCell ⟨g5, 5, none⟩ (.int .i64 0)).setCell ⟨g5, 6, none⟩ (.string (⟨#[]⟩ : ByteArray))).setCell ⟨g5, 7, none⟩ (.slice B7 0 d7)).setCell ⟨g5, 8, none⟩ (.slice B8 0 d8)).heap.size) := ⟨blk_lt BY5.out⟩
   generalize (((((((((w6.setCell ⟨g5, 0, none⟩ (.int .i64 7)).setCell ⟨g5, 1, none⟩ (.int .i64 0)).setCell ⟨g5, 2, none⟩ (.int .i64 (0))).setCell ⟨g5, 3, none⟩ (.int .i64 (3))).setCell ⟨g5, 4, none⟩ (.int .i64 0)).setCell ⟨g5, 5, none⟩ (.int .i64 0)).setCell ⟨g5, 6, none⟩ (.string (⟨#[]⟩ : ByteArray))).setCell ⟨g5, 7, none⟩ (.slice B7 0 d7)).setCell ⟨g5, 8, none⟩ (.slice B8 0 d8) : World) = w7 at BY5 HBy5 HSy5 ⊢
   clear hz0 hzf0 hz1 hzf1 hz2 hzf2 hz3 hzf3 hz4 hzf4 hz5 hzf5 hz6 hzf6 hz7 hzf7 hz8 hzf8
   have HN7 := Aside0.mk (HN5.out.below HBy5.out)
   have BY47 := Aside0.mk (blk_below BY45.out HBy5.out)
   have y3 : w7.cell? ⟨g4, 3, none⟩ = some (.int .i64 2) := (blk_cell BY47.out 3).trans rfl
   have z3 : w7.cell? ⟨g5, 3, none⟩ = some (.int .i64 3) := (blk_cell BY5.out 3).trans rfl
   go_wp2_with (go_at_call 13; refine (z_len HN7.out).mono ?_; rintro e w8 ⟨rfl, hb⟩; have HB8 := Aside0.mk (below_step (w := w) HN7.out.bel hb); clear hb)
   go_ret
   exact ⟨rfl, HB8.out⟩
end Go.Proofs.Ytnbomedhehoflaa.Al

namespace Go.Proofs.Ytnbomedhehoflaa.Al
open Go.RowKit Go.Proofs.YtnbomedhehoflaaW.PrintWords Go.Proofs.YtnbomedhehoflaaW.PrintLast Go.Proofs.YtnbomedhehoflaaW.PrintMore
set_option linter.unusedVariables false
set_option linter.unusedSimpArgs false
/-- Blocks of other types stay. -/
def Kt (w w1 : World) : Prop := ∀ (k t : Nat) (cs : Array Value), w.heap[k]? = some (.cells cs t (0, 0)) → t ≠ 62 → t ≠ 32 → w1.heap[k]? = some (.cells cs t (0, 0))
theorem Kt.of_below {w w1 : World} (h : Below w.heap.size w w1) : Kt w w1 := fun k t cs hg _ _ => blk_below hg h
section
variable {W w w1 : World} {g : Nat} {room : Int} {X ok : Nat → Prop} {l : List S32} {v v1 v7 v8 : Value} {x : S32}
theorem NStep.kt (h : NS W w g room ok v l) (hs : NStep w w1 g v v1) : Kt w w1 := fun k t cs hg h1 h2 => by
 refine (hs.keep k (blk_lt hg) (blk_ne hg h.blk h1) (fun he => ?_)).trans hg
 obtain ⟨cells, hc⟩ := Kd.S_typed h.row k he
 rw [hg] at hc
 injection hc with hc
 injection hc with _ ht _
 exact h2 ht
/-- A row of another type is written. -/
theorem NZ.grown {e base : Nat} {α : Type} {d : Kd α} {okr : Nat → Prop} {u : Value} {xs : List α} (h : NZ W w g room X l) (hu : d.R e w base okr u xs) (he : e ≠ 62) (ht : ∀ q, q ∈ 32 :: k32.E → q ≠ e) (hg : w.grownBy w1 u.ownBlock) (hb : Below W.heap.size W w1) : NZ W w1 g room X l := by
 obtain ⟨v, hv⟩ := h.ex
 exact ⟨⟨v, blk_grown hv.blk hg (Kd.R_ne hu hv.blk he), hv.ge, Kd.S_over' hv.row (Kd.R_typed hu) ht hg, hb⟩, fun k hk => ⟨by have := (h.lt k hk).1; have := hg.size; omega, (h.lt k hk).2⟩⟩
/-- A row of plain elements of another type, over a call on the net. -/
theorem row_kt {e base : Nat} {α : Type} {d : Kd α} {u : Value} {xs : List α} (hE : d.E = []) (hu : d.R e w base (fun _ => True) u xs) (h1 : e ≠ 62) (h2 : e ≠ 32) (hk : Kt w w1) : d.R e w1 base (fun _ => True) u xs := by
 refine Kd.R_mono (Kd.R_move (Kd.R_bound (Kd.R_tight hE hu)) (fun j hj => ?_)) (fun _ _ => trivial)
 obtain ⟨cells, hc⟩ := Kd.R_typed hu j hj.1.symm
 exact (hk j e cells hc h1 h2).trans hc.symm
end
def pl1 (on : List Int) : List S32 := on.map fun t => plS t 1
/-- The net, and the transactions of the letters on it. -/
structure TS (w wr : World) (g : Nat) (on : List Int) (v5 : Value) : Prop where
 net : NZ w wr g 40 (fun _ => False) (pl1 on)
 row : (Kd.int .i64).R 3 wr w.heap.size (fun _ => True) v5 on
section
variable {w wr w1 : World} {g : Nat} {on : List Int} {v5 : Value}
theorem TS.below (h : TS w wr g on v5) (hb : Below wr.heap.size wr w1) : TS w w1 g on v5 := ⟨h.net.below hb, Kd.R_below h.row hb⟩
theorem TS.drew (h : TS w wr g on v5) : TS w wr.drew g on v5 := h.below (below_drew (Below.refl _ _))
/-- What stands on the net is told by numbers that may be. -/
def OkT (i : Nat) (on : List Int) : Prop := on.length ≤ 40 ∧ ∀ t ∈ on, 1 ≤ t ∧ t ≤ (i : Int)
theorem OkT.get {i : Nat} {on : List Int} (h : OkT i on) (j : Nat) (hj : j < on.length) : 1 ≤ on.getD j 0 ∧ on.getD j 0 ≤ (i : Int) := by
 rw [List.getD_eq_getElem?_getD, List.getElem?_eq_getElem hj]
 exact h.2 _ (List.getElem_mem hj)
theorem OkT.add {i : Nat} {on : List Int} {t : Int} (h : OkT i on) (hl : on.length < 40) (h1 : 1 ≤ t) (h2 : t ≤ (i : Int)) : OkT i (on ++ [t]) := ⟨by rw [List.length_append]; exact hl, fun u hu => by
 rcases List.mem_append.1 hu with hu | hu
 ·exact h.2 u hu
 ·rw [List.mem_singleton.1 hu]; exact ⟨h1, h2⟩⟩
end
end Go.Proofs.Ytnbomedhehoflaa.Al

namespace Go.Proofs.Ytnbomedhehoflaa.PackMath
open Go.RowKit Go.Proofs.Ytnbomedhehoflaa.Base Go.Proofs.YtnbomedhehoflaaW.PrintWords
def plain (n : Nat) : List Int := if n < 128 then [(n : Int)] else ((n % 128 + 128 : Nat) : Int) :: plain (n / 128)
theorem plain_small {n : Nat} (h : n < 128) : plain n = [(n : Int)] := by rw [plain, if_pos h]
theorem plain_big {n : Nat} (h : 128 ≤ n) : plain n = ((n % 128 + 128 : Nat) : Int) :: plain (n / 128) := by rw [plain, if_neg (by omega)]
/-- A signed number as one above nothing. -/
def zig (n : Int) : Nat := if n < 0 then (-2 * (n + 1) + 1).toNat else (2 * n).toNat
def zag (x : Nat) : Int := if x % 2 = 1 then -(x / 2 : Int) - 1 else (x / 2 : Int)
theorem zag_zig (n : Int) : zag (zig n) = n := by unfold zag zig; split <;> split <;> omega
theorem zig_zag (x : Nat) : zig (zag x) = x := by unfold zag zig; split <;> split <;> omega
theorem zig_lt {n : Int} (h0 : -4611686018427387904 ≤ n) (h1 : n ≤ 4611686018427387903) : zig n < 9223372036854775808 := by unfold zig; split <;> omega
theorem zag_range {x : Nat} (h : x < 9223372036854775808) : -4611686018427387904 ≤ zag x ∧ zag x ≤ 4611686018427387903 := by unfold zag; split <;> omega
def signed (n : Int) : List Int := plain (zig n)
theorem plain_len_le : ∀ (k n : Nat), n < 128 ^ (k + 1) → (plain n).length ≤ k + 1
 |0, n, h => by rw [plain_small (by simpa using h)]; simp
 |k + 1, n, h => by
  by_cases h1 : n < 128
  ·rw [plain_small h1]; simp
  ·rw [plain_big (by omega), List.length_cons]
   have := plain_len_le k (n / 128) (by rw [Nat.pow_succ] at h; omega)
   omega
theorem plain_len9 {n : Nat} (h : n < 9223372036854775808) : (plain n).length ≤ 9 := plain_len_le 8 n (by simpa using h)
theorem plain_pos (n : Nat) : 1 ≤ (plain n).length := by rw [plain]; split <;> simp
theorem plain_range : ∀ (n : Nat), ∀ b ∈ plain n, 0 ≤ b ∧ b ≤ 255 := by
 intro n
 induction n using Nat.strongRecOn with
 |ind n ih =>
  intro b hb
  by_cases h1 : n < 128
  ·rw [plain_small h1] at hb
   simp at hb
   omega
  ·rw [plain_big (by omega)] at hb
   rcases List.mem_cons.1 hb with rfl | hb
   ·omega
   ·exact ih (n / 128) (by omega) b hb
/-- A pack's bytes. -/
def body (nums : List Int) : List Int := (nums.map signed).flatten
def tails (texts : List ByteArray) : List Int := (texts.map fun s => plain s.size ++ bytesOf s).flatten
def enc (nums : List Int) (texts : List ByteArray) : List Int := plain nums.length ++ body nums ++ plain texts.length ++ tails texts
def okNum (n : Int) : Bool := decide (-4611686018427387904 ≤ n) && decide (n ≤ 4611686018427387903)
def okText (s : ByteArray) : Bool := decide (s.size ≤ 4096)
/-- Which packs may be. -/
def chk (nums : List Int) (texts : List ByteArray) : Int :=
 if 1024 < nums.length ∨ 1024 < texts.length then 2 else if nums.all okNum = false then 1 else if texts.all okText = false then 2 else 0
theorem okNum_iff {n : Int} : okNum n = true ↔ -4611686018427387904 ≤ n ∧ n ≤ 4611686018427387903 := by simp [okNum]
theorem okText_iff {s : ByteArray} : okText s = true ↔ s.size ≤ 4096 := by simp [okText]
theorem chk_ok {nums : List Int} {texts : List ByteArray} (h : chk nums texts = 0) : nums.length ≤ 1024 ∧ texts.length ≤ 1024 ∧ (∀ n ∈ nums, -4611686018427387904 ≤ n ∧ n ≤ 4611686018427387903) ∧ ∀ s ∈ texts, s.size ≤ 4096 := by
 unfold chk at h
 split at h
 ·omega
 split at h
 ·omega
 split at h
 ·omega
 rename_i h1 h2 h3
 refine ⟨by omega, by omega, fun n hn => ?_, fun s hs => ?_⟩
 ·have := List.all_eq_true.1 (by simpa using h2) n hn
  exact okNum_iff.1 this
 ·have := List.all_eq_true.1 (by simpa using h3) s hs
  exact okText_iff.1 this
theorem chk_of {nums : List Int} {texts : List ByteArray} (h1 : nums.length ≤ 1024) (h2 : texts.length ≤ 1024) (h3 : ∀ n ∈ nums, -4611686018427387904 ≤ n ∧ n ≤ 4611686018427387903) (h4 : ∀ s ∈ texts, s.size ≤ 4096) : chk nums texts = 0 := by
 have a1 : nums.all okNum = true := List.all_eq_true.2 fun n hn => okNum_iff.2 (h3 n hn)
 have a2 : texts.all okText = true := List.all_eq_true.2 fun s hs => okText_iff.2 (h4 s hs)
 unfold chk
 rw [if_neg (by omega), a1, a2]
 rfl
theorem body_len {nums : List Int} (h : ∀ n ∈ nums, -4611686018427387904 ≤ n ∧ n ≤ 4611686018427387903) : (body nums).length ≤ 9 * nums.length := by
 induction nums with
 |nil => simp [body]
 |cons n l ih =>
  have h0 := h n (by simp)
  have h1 := ih (fun m hm => h m (by simp [hm]))
  have h2 : (signed n).length ≤ 9 := plain_len9 (zig_lt h0.1 h0.2)
  simp only [body, List.map_cons, List.flatten_cons, List.length_append, List.length_cons] at h1 ⊢
  omega
theorem tails_len {texts : List ByteArray} (h : ∀ s ∈ texts, s.size ≤ 4096) : (tails texts).length ≤ 4105 * texts.length := by
 induction texts with
 |nil => simp [tails]
 |cons s l ih =>
  have h0 := h s (by simp)
  have h1 := ih (fun m hm => h m (by simp [hm]))
  have h2 : (plain s.size).length ≤ 9 := plain_len9 (by omega)
  simp only [tails, List.map_cons, List.flatten_cons, List.length_append, List.length_cons, bytesOf_length] at h1 ⊢
  omega
theorem enc_len {nums : List Int} {texts : List ByteArray} (h : chk nums texts = 0) : (enc nums texts).length ≤ 4300000 := by
 obtain ⟨h1, h2, h3, h4⟩ := chk_ok h
 have a := body_len h3
 have b := tails_len h4
 have c : (plain nums.length).length ≤ 9 := plain_len9 (by omega)
 have d : (plain texts.length).length ≤ 9 := plain_len9 (by omega)
 simp only [enc, List.length_append]
 omega
end Go.Proofs.Ytnbomedhehoflaa.PackMath

namespace Go.Proofs.Ytnbomedhehoflaa.Al
open Go.RowKit Go.Proofs.YtnbomedhehoflaaW.PrintWords Go.Proofs.YtnbomedhehoflaaW.PrintLast Go.Proofs.YtnbomedhehoflaaW.PrintMore
attribute [local go_sem] max2_int min2_int max_two min_two max_three min_three max_four min_four   -- for this text's walks alone
set_option linter.unusedVariables false
set_option linter.unusedSimpArgs false
attribute [local go_sem high] eqA72
def pack_may.f (a0 : Int) : Option (Bool) := if a0 ≥ (-4611686018427387904) then (some (decide (a0 ≤ 4611686018427387903))) else (some false)
set_option maxHeartbeats 8000000 in
set_option maxRecDepth 100000 in
theorem pack_may.calls (a0 : Int) (r : Bool) (w : World) (h : pack_may.f a0 = some r) :
  Calls Try.prog 57 #[.int .i64 a0] w fun e w' => e = .returned (.bool r) ∧ Drawn0 w w' := by
 have H : (if a0 ≥ (-4611686018427387904) then (some (decide (a0 ≤ 4611686018427387903))) else (some false)) = some r := h
 clear h
 by_cases c2 : a0 ≥ (-4611686018427387904)
 ·rw [if_pos c2] at H
  have c2b0 : decide ((-4611686018427387904) ≤ a0) = true := decide_eq_true c2
  clear c2
  obtain rfl := Option.some.inj H
  go_enter Try.func57, Try.ntmps57
  go_wp2
  go_ret
  exact ⟨by first | rfl | (simp; done) | (simp [*]; done), by repeat (first | exact Drawn0.refl _ | apply Drawn0.step)⟩
 ·rw [if_neg c2] at H
  have c2b0 : decide ((-4611686018427387904) ≤ a0) = false := decide_eq_false c2
  clear c2
  obtain rfl := Option.some.inj H
  go_enter Try.func57, Try.ntmps57
  go_wp2
  go_ret
  exact ⟨by first | rfl | (simp; done) | (simp [*]; done), by repeat (first | exact Drawn0.refl _ | apply Drawn0.step)⟩
end Go.Proofs.Ytnbomedhehoflaa.Al

namespace Go.Proofs.Ytnbomedhehoflaa.Al
open Go.RowKit Go.Proofs.YtnbomedhehoflaaW.PrintWords Go.Proofs.YtnbomedhehoflaaW.PrintLast Go.Proofs.YtnbomedhehoflaaW.PrintMore
attribute [local go_sem] max2_int min2_int max_two min_two max_three min_three max_four min_four   -- for this text's walks alone
set_option linter.unusedVariables false
set_option linter.unusedSimpArgs false
mutual
def pack_Check.j0 : Nat → Bool → List Int → List ByteArray → Option (Int)
 |0, _, _, _ => none
 |k + 1, x16, x151000, x151001 => if x16 = true then (some 2) else (pack_Check.l0 k x151000 (x151000.length : Int) 0 x151000 x151001)
def pack_Check.l0 : Nat → List Int → Int → Int → List Int → List ByteArray → Option (Int)
 |0, _, _, _, _, _ => none
 |k + 1, x18, x19, x20, x151000, x151001 => if x20 < x19 then (if 0 ≤ x20 then (if x20 < (x18.length : Int) then ((pack_may.f (rd x18 x20)).bind fun t152 => (if t152 = true then (pack_Check.l0 k x18 x19 (wrap64 (x20 + 1)) x151000 x151001) else (some 1))) else (none)) else (none)) else (pack_Check.l1 k x151001 (x151001.length : Int) 0)
def pack_Check.l1 : Nat → List ByteArray → Int → Int → Option (Int)
 |0, _, _, _ => none
 |k + 1, x29, x30, x31 => if x31 < x30 then (if 0 ≤ x31 then (if x31 < (x29.length : Int) then (if ((rdOf ByteArray.empty x29 x31).size : Int) > 4096 then (some 2) else (pack_Check.l1 k x29 x30 (wrap64 (x31 + 1)))) else (none)) else (none)) else (some 0)
end
def pack_Check.f (k : Nat) (l0_0 : List Int) (l0_1 : List ByteArray) : Option (Int) := if (l0_0.length : Int) > 1024 then (pack_Check.j0 k true l0_0 l0_1) else (pack_Check.j0 k (decide ((l0_1.length : Int) > 1024)) l0_0 l0_1)
set_option maxHeartbeats 8000000 in
set_option maxRecDepth 100000 in
theorem pack_Check.calls (k : Nat) (A0_0 : Option Addr) (c0_0 : Nat) (l0_0 : List Int) (A0_1 : Option Addr) (c0_1 : Nat) (l0_1 : List ByteArray) (r : Int) (w : World) (hr0_0 : Kd.C (Kd.int .i64) w A0_0 l0_0.length l0_0) (hc0_0 : l0_0.length ≤ c0_0) (hr0_1 : Kd.C Kd.string w A0_1 l0_1.length l0_1) (hc0_1 : l0_1.length ≤ c0_1) (h : pack_Check.f k l0_0 l0_1 = some r) :
  Calls Try.prog 47 #[.agg #[.slice A0_0 l0_0.length c0_0, .slice A0_1 l0_1.length c0_1]] w fun e w' => e = .returned (.int .i64 r) ∧ Below w.heap.size w w' := by
 have hu70 := Try.underlying70
 have HR0_0 := Aside0.mk hr0_0
 have HC0_0 := Aside0.mk hc0_0
 clear hr0_0 hc0_0
 have HR0_1 := Aside0.mk hr0_1
 have HC0_1 := Aside0.mk hc0_1
 clear hr0_1 hc0_1
 have HB := Aside0.mk (Below.refl w.heap.size w)
 have H : (if (l0_0.length : Int) > 1024 then (pack_Check.j0 k true l0_0 l0_1) else (pack_Check.j0 k (decide ((l0_1.length : Int) > 1024)) l0_0 l0_1)) = some r := h
 clear h
 have HC2 := Aside0.mk H
 clear H
 go_enter Try.func47, Try.ntmps47
 go_upto_region 1 with (first | ((with_reducible refine gate_dst (N := 1) rfl ?_); (try (refine gate_guard (by rfl) ?_; dsimp only)); refine box_event ?hg (N := 1) ?hd (cs := #[.slice A0_0 l0_0.length c0_0, .slice A0_1 l0_1.length c0_1]) (t := 70) ?hr ?_; (case hd => rfl); (case hg => rfl); (case hr => first | (go_simp; done) | (go_simp; rfl)); intro gb150 hg w3 hbox hb; have n0_ := Aside0.mk (below_step (by repeat (first | (with_reducible first | exact HB.out | apply below_alloc | apply pw_below_drewN | apply below_drew1) | exact HB.out)) hb); have n1_ := Aside0.mk (hbox); have n2_ := Aside0.mk ((by rw [hg]; exact (below_size (by repeat (first | (with_reducible first | exact HB.out | apply below_alloc | apply pw_below_drewN | apply below_drew1) | exact HB.out))) : w.heap.size ≤ gb150)); have n3_ := Aside0.mk ((by rw [hg]; exact (below_size (by repeat (first | (with_reducible first | exact HB.out | apply below_alloc | apply pw_below_drewN | apply below_drew1) | exact HB.out))) : w.heap.size ≤ gb150)); clear HB; have HB := n0_; have BK150 := n1_; have GW150 := n2_; have GE150 := n3_; clear n0_ n1_ n2_ n3_; clear hb hbox hg))
 (try simp only [Act.put, List.setIfInBounds_toArray, List.set_cons_zero, List.set_cons_succ])
 go_cut [16] (fun v16 wc => ∃ (kq : Nat) (x16_1 : Bool), v16 = .bool x16_1 ∧ Aside0 (pack_Check.j0 kq x16_1 l0_0 l0_1 = some r) ∧ Aside0 (kq ≤ k) ∧ Aside0 (wc.heap[gb150]? = some (.cells #[(.slice A0_0 l0_0.length c0_0), (.slice A0_1 l0_1.length c0_1)] 70 (0, 0))) ∧ Aside0 (Below w.heap.size w wc))
 case first =>
  have H := HC2.out
  clear HC2
  by_cases c4 : (l0_0.length : Int) > 1024
  ·rw [if_pos c4] at H
   have c4b0 : decide (1024 < (l0_0.length : Int)) = true := decide_eq_true c4
   have c4b1 : decide (1024 < l0_0.length) = true := decide_eq_true (by omega)
   clear c4
   (first | rw [c4b0] | (simp only [i64_w, i32_w]; rw [c4b0]) | skip)
   have H' := Aside0.mk H
   clear H
   obtain ⟨hcz5_0, hfz5_0, hcz5_1, hfz5_1⟩ := cfz2 BK150.out
   go_wp2
   go_meet
   case rel => exact ⟨_, (true), (by first | rfl | (simp; done) | (simp [*]; done)), H', ⟨by first | omega | exact Nat.le_refl _⟩, ⟨by (with_reducible repeat (first | refine blk_drewN ?_ _ | refine blk_drew ?_ | refine blk_alloc ?_ _)); exact BK150.out⟩, ⟨by repeat (first | (with_reducible first | exact HB.out | apply below_alloc | apply pw_below_drewN | apply below_drew1 | refine below_set ?_ GE150.out) | exact HB.out)⟩⟩
  ·rw [if_neg c4] at H
   have c4b0 : decide (1024 < (l0_0.length : Int)) = false := decide_eq_false c4
   have c4b1 : decide (1024 < l0_0.length) = false := decide_eq_false (by omega)
   clear c4
   (first | rw [c4b0] | (simp only [i64_w, i32_w]; rw [c4b0]) | skip)
   have H' := Aside0.mk H
   clear H
   obtain ⟨hcz6_0, hfz6_0, hcz6_1, hfz6_1⟩ := cfz2 BK150.out
   go_wp2
   go_meet
   case rel => exact ⟨_, (decide ((l0_1.length : Int) > 1024)), (by first | rfl | (simp; done) | (simp [*]; done)), H', ⟨by first | omega | exact Nat.le_refl _⟩, ⟨by (with_reducible repeat (first | refine blk_drewN ?_ _ | refine blk_drew ?_ | refine blk_alloc ?_ _)); exact BK150.out⟩, ⟨by repeat (first | (with_reducible first | exact HB.out | apply below_alloc | apply pw_below_drewN | apply below_drew1 | refine below_set ?_ GE150.out) | exact HB.out)⟩⟩
 case rest =>
  clear HC2
  (try clear p2); (try clear c4); (try clear c4b0); (try clear c4b1); (try clear hcz5_0); (try clear hcz5_1); (try clear hcz6_0); (try clear hcz6_1); (try clear hfz5_0); (try clear hfz5_1); (try clear hfz6_0); (try clear hfz6_1)
  obtain ⟨kq, x16_1, rfl, HA, HJ1, BK150, HB⟩ := hcut
  cases kq with
  |zero => exact absurd HA.out (by simp [pack_Check.j0])
  |succ kj1 =>
   have H := HA.out
   clear HA
   simp only [pack_Check.j0] at H
   by_cases c7 : x16_1 = true
   ·subst c7
    have H1 : (some 2) = some r := by rw [if_pos rfl] at H; exact H
    clear H
    have H := H1
    clear H1
    obtain rfl := Option.some.inj H
    go_wp2
    go_ret
    exact ⟨by first | rfl | (simp [errW_none, errW_some] <;> rfl) | (simp [*, errW_none, errW_some] <;> rfl), by repeat (first | (with_reducible first | exact HB.out | apply below_alloc | apply pw_below_drewN | apply below_drew1 | refine below_set ?_ GE150.out) | exact HB.out)⟩
   ·replace c7 := Bool.eq_false_iff.mpr c7
    subst c7
    have H1 : (pack_Check.l0 kj1 l0_0 (l0_0.length : Int) 0 l0_0 l0_1) = some r := by rw [if_neg (show ¬ (false = true) by decide)] at H; exact H
    clear H
    have H := H1
    clear H1
    have H' := Aside0.mk H
    clear H
    obtain ⟨hcz8_0, hfz8_0, hcz8_1, hfz8_1⟩ := cfz2 BK150.out
    go_wp2
    go_loopg [20] kj1 (fun kq v20 w' => ∃ (x20_2 : Int), v20 = .int .i64 x20_2 ∧ Aside0 (pack_Check.l0 kq l0_0 (l0_0.length : Int) x20_2 l0_0 l0_1 = some r) ∧ Aside0 (kq ≤ kj1) ∧ Aside0 (w'.heap[gb150]? = some (.cells #[(.slice A0_0 l0_0.length c0_0), (.slice A0_1 l0_1.length c0_1)] 70 (0, 0))) ∧ Aside0 (Below w.heap.size w w'))
    case atStart => exact ⟨(0), (by first | rfl | (simp; done) | (simp [*]; done)), H', ⟨Nat.le_refl _⟩, ⟨by (with_reducible repeat (first | refine blk_drewN ?_ _ | refine blk_drew ?_ | refine blk_alloc ?_ _)); exact BK150.out⟩, ⟨by repeat (first | (with_reducible first | exact HB.out | apply below_alloc | apply pw_below_drewN | apply below_drew1 | refine below_set ?_ GE150.out) | exact HB.out)⟩⟩
    case round =>
     clear H'
     (try clear p2); (try clear c4); (try clear c4b0); (try clear c4b1); (try clear c7); (try clear hcz5_0); (try clear hcz5_1); (try clear hcz6_0); (try clear hcz6_1); (try clear hcz8_0); (try clear hcz8_1); (try clear hfz5_0); (try clear hfz5_1); (try clear hfz6_0); (try clear hfz6_1); (try clear hfz8_0); (try clear hfz8_1); (try clear p2)
     obtain ⟨x20_2, rfl, HA, HK2, BK150, HB⟩ := hrel
     cases gk with
     |zero => exact absurd HA.out (by simp [pack_Check.l0])
     |succ k2 =>
      have H := HA.out
      clear HA
      simp only [pack_Check.l0] at H
      by_cases c9 : x20_2 < (l0_0.length : Int)
      ·rw [if_pos c9] at H
       have c9b0 : decide (x20_2 < (l0_0.length : Int)) = true := decide_eq_true c9
       clear c9
       by_cases c10 : 0 ≤ x20_2
       ·rw [if_pos c10] at H
        have c10b0 : decide (0 ≤ x20_2) = true := decide_eq_true c10
        clear c10
        by_cases c11 : x20_2 < (l0_0.length : Int)
        ·rw [if_pos c11] at H
         have c11b0 : decide (x20_2 < (l0_0.length : Int)) = true := decide_eq_true c11
         clear c11
         replace H := Option.bind_eq_some_iff.mp H
         obtain ⟨t152, A120, H⟩ := H
         replace H : (if t152 = true then (pack_Check.l0 k2 l0_0 (l0_0.length : Int) (wrap64 (x20_2 + 1)) l0_0 l0_1) else (some 1)) = some r := H
         have A12 := Aside0.mk A120
         clear A120
         by_cases c13 : t152 = true
         ·subst c13
          have H1 : (pack_Check.l0 k2 l0_0 (l0_0.length : Int) (wrap64 (x20_2 + 1)) l0_0 l0_1) = some r := by rw [if_pos rfl] at H; exact H
          clear H
          have H := H1
          clear H1
          have H' := Aside0.mk H
          clear H
          have p151 : 0 ≤ (x20_2 : Int) := of_decide_eq_true (by first | (with_reducible assumption) | assumption)
          have q151 : x20_2 < (l0_0.length : Int) := of_decide_eq_true (by first | (with_reducible assumption) | assumption)
          obtain ⟨ad151, e151, hx151_0⟩ := Kd.at_int HR0_0.out x20_2 p151 q151
          cases e151
          replace hx151_0 := (HB.out.cell (World.block_lt_of_cell? w _ hx151_0)).trans hx151_0
          replace p151 := eq_true p151
          replace q151 := eq_true q151
          go_wp2_with (first | ((with_reducible refine gate_callee (f := 57) rfl ?_); refine goesL_ (some 25) rfl rfl Try.func57 (by kernel_rfl) rfl #[.int .i64 (rd l0_0 x20_2)] rfl (by (try simp only [List.map_toArray, List.map_cons, List.map_nil]); first | done | rfl | (simp only [List.length_drop, List.length_take]; rfl)) ?_; (with_reducible refine (pack_may.calls (rd l0_0 x20_2) true _ A12.out).mono ?_); rintro e w' ⟨rfl, ⟨nd, rfl⟩⟩; refine ⟨_, rfl, ?_⟩))
          go_roundg k2
          case measure => have := HJ1.out; have := HK2.out; omega
          case rel => exact ⟨(wrap64 (x20_2 + 1)), (by first | rfl | (simp; done) | (simp [*]; done)), H', ⟨by have := HJ1.out; have := HK2.out; omega⟩, ⟨by (with_reducible repeat (first | refine blk_drewN ?_ _ | refine blk_drew ?_ | refine blk_alloc ?_ _)); exact BK150.out⟩, ⟨by repeat (first | (with_reducible first | exact HB.out | apply below_alloc | apply pw_below_drewN | apply below_drew1 | refine below_set ?_ GE150.out) | exact HB.out)⟩⟩
         ·replace c13 := Bool.eq_false_iff.mpr c13
          subst c13
          have H1 : (some 1) = some r := by rw [if_neg (show ¬ (false = true) by decide)] at H; exact H
          clear H
          have H := H1
          clear H1
          obtain rfl := Option.some.inj H
          have p151 : 0 ≤ (x20_2 : Int) := of_decide_eq_true (by first | (with_reducible assumption) | assumption)
          have q151 : x20_2 < (l0_0.length : Int) := of_decide_eq_true (by first | (with_reducible assumption) | assumption)
          obtain ⟨ad151, e151, hx151_0⟩ := Kd.at_int HR0_0.out x20_2 p151 q151
          cases e151
          replace hx151_0 := (HB.out.cell (World.block_lt_of_cell? w _ hx151_0)).trans hx151_0
          replace p151 := eq_true p151
          replace q151 := eq_true q151
          go_wp2_with (first | ((with_reducible refine gate_callee (f := 57) rfl ?_); refine goesL_ (some 25) rfl rfl Try.func57 (by kernel_rfl) rfl #[.int .i64 (rd l0_0 x20_2)] rfl (by (try simp only [List.map_toArray, List.map_cons, List.map_nil]); first | done | rfl | (simp only [List.length_drop, List.length_take]; rfl)) ?_; (with_reducible refine (pack_may.calls (rd l0_0 x20_2) false _ A12.out).mono ?_); rintro e w' ⟨rfl, ⟨nd, rfl⟩⟩; refine ⟨_, rfl, ?_⟩))
          go_ret
          exact ⟨by first | rfl | (simp [errW_none, errW_some] <;> rfl) | (simp [*, errW_none, errW_some] <;> rfl), by repeat (first | (with_reducible first | exact HB.out | apply below_alloc | apply pw_below_drewN | apply below_drew1 | refine below_set ?_ GE150.out) | exact HB.out)⟩
        ·rw [if_neg c11] at H
         exact absurd H (by simp)
       ·rw [if_neg c10] at H
        exact absurd H (by simp)
      ·rw [if_neg c9] at H
       have c9b0 : decide (x20_2 < (l0_0.length : Int)) = false := decide_eq_false c9
       clear c9
       have H' := Aside0.mk H
       clear H
       obtain ⟨hcz14_0, hfz14_0, hcz14_1, hfz14_1⟩ := cfz2 BK150.out
       go_wp2
       go_loopg [31] k2 (fun kq v31 w' => ∃ (x31_3 : Int), v31 = .int .i64 x31_3 ∧ Aside0 (pack_Check.l1 kq l0_1 (l0_1.length : Int) x31_3 = some r) ∧ Aside0 (kq ≤ k2) ∧ Aside0 (w'.heap[gb150]? = some (.cells #[(.slice A0_0 l0_0.length c0_0), (.slice A0_1 l0_1.length c0_1)] 70 (0, 0))) ∧ Aside0 (Below w.heap.size w w'))
       case atStart => exact ⟨(0), (by first | rfl | (simp; done) | (simp [*]; done)), H', ⟨Nat.le_refl _⟩, ⟨by (with_reducible repeat (first | refine blk_drewN ?_ _ | refine blk_drew ?_ | refine blk_alloc ?_ _)); exact BK150.out⟩, ⟨by repeat (first | (with_reducible first | exact HB.out | apply below_alloc | apply pw_below_drewN | apply below_drew1 | refine below_set ?_ GE150.out) | exact HB.out)⟩⟩
       case round =>
        clear H'
        (try clear c1); (try clear p1); (try clear q1); (try clear hx1); (try clear p2); (try clear c4); (try clear c4b0); (try clear c4b1); (try clear c5); (try clear p6); (try clear c7); (try clear c9); (try clear c9b0); (try clear c10); (try clear c10b0); (try clear c11); (try clear c11b0); (try clear c13); (try clear hcz14_0); (try clear hcz14_1); (try clear hcz5_0); (try clear hcz5_1); (try clear hcz6_0); (try clear hcz6_1); (try clear hcz8_0); (try clear hcz8_1); (try clear hfz14_0); (try clear hfz14_1); (try clear hfz5_0); (try clear hfz5_1); (try clear hfz6_0); (try clear hfz6_1); (try clear hfz8_0); (try clear hfz8_1); (try clear hx151_0); (try clear p151); (try clear p2); (try clear q151)
        obtain ⟨x31_3, rfl, HA, HK3, BK150, HB⟩ := hrel
        cases gk with
        |zero => exact absurd HA.out (by simp [pack_Check.l1])
        |succ k3 =>
         have H := HA.out
         clear HA
         simp only [pack_Check.l1] at H
         by_cases c15 : x31_3 < (l0_1.length : Int)
         ·rw [if_pos c15] at H
          have c15b0 : decide (x31_3 < (l0_1.length : Int)) = true := decide_eq_true c15
          clear c15
          by_cases c16 : 0 ≤ x31_3
          ·rw [if_pos c16] at H
           have c16b0 : decide (0 ≤ x31_3) = true := decide_eq_true c16
           clear c16
           by_cases c17 : x31_3 < (l0_1.length : Int)
           ·rw [if_pos c17] at H
            have c17b0 : decide (x31_3 < (l0_1.length : Int)) = true := decide_eq_true c17
            clear c17
            by_cases c18 : ((rdOf ByteArray.empty l0_1 x31_3).size : Int) > 4096
            ·rw [if_pos c18] at H
             have c18b0 : decide (4096 < ((rdOf ByteArray.empty l0_1 x31_3).size : Int)) = true := decide_eq_true c18
             have c18b1 : decide (4096 < (rdOf ByteArray.empty l0_1 x31_3).size) = true := decide_eq_true (by omega)
             clear c18
             obtain rfl := Option.some.inj H
             have p153 : 0 ≤ (x31_3 : Int) := of_decide_eq_true (by first | (with_reducible assumption) | assumption)
             have q153 : x31_3 < (l0_1.length : Int) := of_decide_eq_true (by first | (with_reducible assumption) | assumption)
             obtain ⟨ad153, e153, hx153_0⟩ := Kd.at_string HR0_1.out x31_3 p153 q153
             cases e153
             replace hx153_0 := (HB.out.cell (World.block_lt_of_cell? w _ hx153_0)).trans hx153_0
             replace p153 := eq_true p153
             replace q153 := eq_true q153
             go_wp2
             go_ret
             exact ⟨by first | rfl | (simp [errW_none, errW_some] <;> rfl) | (simp [*, errW_none, errW_some] <;> rfl), by repeat (first | (with_reducible first | exact HB.out | apply below_alloc | apply pw_below_drewN | apply below_drew1 | refine below_set ?_ GE150.out) | exact HB.out)⟩
            ·rw [if_neg c18] at H
             have c18b0 : decide (4096 < ((rdOf ByteArray.empty l0_1 x31_3).size : Int)) = false := decide_eq_false c18
             have c18b1 : decide (4096 < (rdOf ByteArray.empty l0_1 x31_3).size) = false := decide_eq_false (by omega)
             clear c18
             have H' := Aside0.mk H
             clear H
             have p153 : 0 ≤ (x31_3 : Int) := of_decide_eq_true (by first | (with_reducible assumption) | assumption)
             have q153 : x31_3 < (l0_1.length : Int) := of_decide_eq_true (by first | (with_reducible assumption) | assumption)
             obtain ⟨ad153, e153, hx153_0⟩ := Kd.at_string HR0_1.out x31_3 p153 q153
             cases e153
             replace hx153_0 := (HB.out.cell (World.block_lt_of_cell? w _ hx153_0)).trans hx153_0
             replace p153 := eq_true p153
             replace q153 := eq_true q153
             go_wp2
             go_roundg k3
             case measure => have := HJ1.out; have := HK2.out; have := HK3.out; omega
             case rel => exact ⟨(wrap64 (x31_3 + 1)), (by first | rfl | (simp; done) | (simp [*]; done)), H', ⟨by have := HJ1.out; have := HK2.out; have := HK3.out; omega⟩, ⟨by (with_reducible repeat (first | refine blk_drewN ?_ _ | refine blk_drew ?_ | refine blk_alloc ?_ _)); exact BK150.out⟩, ⟨by repeat (first | (with_reducible first | exact HB.out | apply below_alloc | apply pw_below_drewN | apply below_drew1 | refine below_set ?_ GE150.out) | exact HB.out)⟩⟩
           ·rw [if_neg c17] at H
            exact absurd H (by simp)
          ·rw [if_neg c16] at H
           exact absurd H (by simp)
         ·rw [if_neg c15] at H
          have c15b0 : decide (x31_3 < (l0_1.length : Int)) = false := decide_eq_false c15
          clear c15
          obtain rfl := Option.some.inj H
          go_wp2
          go_ret
          exact ⟨by first | rfl | (simp [errW_none, errW_some] <;> rfl) | (simp [*, errW_none, errW_some] <;> rfl), by repeat (first | (with_reducible first | exact HB.out | apply below_alloc | apply pw_below_drewN | apply below_drew1 | refine below_set ?_ GE150.out) | exact HB.out)⟩
end Go.Proofs.Ytnbomedhehoflaa.Al

namespace Go.Proofs.Ytnbomedhehoflaa.Al
open Go.RowKit Go.Proofs.YtnbomedhehoflaaW.PrintWords Go.Proofs.YtnbomedhehoflaaW.PrintLast Go.Proofs.YtnbomedhehoflaaW.PrintMore
attribute [local go_sem] max2_int min2_int max_two min_two max_three min_three max_four min_four   -- for this text's walks alone
set_option linter.unusedVariables false
set_option linter.unusedSimpArgs false
def pack_put_int.l0 : Nat → List Int → Int → Option (List Int)
 |0, _, _ => none
 |k + 1, x0, x1 => if x1 ≥ 128 then (if x0.length < 140737488355328 then (pack_put_int.l0 k (x0 ++ [(((Int.tmod x1 128) % 256) + 128) % 256]) (wrap64 (Int.tdiv x1 128))) else (none)) else (if x0.length < 140737488355328 then (some (x0 ++ [(x1) % 256])) else (none))
def pack_put_int.f (k : Nat) (l0 : List Int) (a1 : Int) : Option (List Int) := pack_put_int.l0 k l0 a1
set_option maxHeartbeats 8000000 in
set_option maxRecDepth 100000 in
theorem pack_put_int.calls (k : Nat) (P0_ : Nat → Prop) (u9000_ : Value) (l0 : List Int) (a1 : Int) (r : List Int) (w0 w : World) (hB : Below w0.heap.size w0 w) (ho0 : Kd.R (Kd.int .u8) 5 w w0.heap.size P0_ u9000_ l0) (h : pack_put_int.f k l0 a1 = some r) :
  Calls Try.prog 48 #[u9000_, .int .i64 a1] w fun e w' => ∃ v0_ : Value, e = .returned (v0_) ∧ Kd.R (Kd.int .u8) 5 w' w0.heap.size (fun k_ => (P0_ k_ ∨ w.heap.size ≤ k_)) v0_ r ∧ Below w0.heap.size w0 w' ∧ Kept w w' (fun k_ => P0_ k_) := by
 have HO0 := Aside0.mk (show Kd.R (Kd.int .u8) 5 w w0.heap.size (fun k_ => (P0_ k_ ∨ w.heap.size ≤ k_)) u9000_ l0 from Kd.R_mono ho0 (fun k_ hk => (.inl hk)))
 have HK := Aside0.mk (Kept.refl w (fun k_ => P0_ k_))
 have HW0 := Aside0.mk hB.size
 have HB := Aside0.mk hB
 clear hB
 have H : (pack_put_int.l0 k l0 a1) = some r := h
 clear h
 have H' := Aside0.mk H
 clear H
 go_enter Try.func48, Try.ntmps48
 go_wp2
 go_loopg [0, 1] k (fun kq v0 v1 w' => ∃ (x0_1 : List Int) (x1_1 : Int), v1 = .int .i64 x1_1 ∧ Aside0 (pack_put_int.l0 kq x0_1 x1_1 = some r) ∧ Aside0 (kq ≤ k) ∧ Aside0 (Kd.R (Kd.int .u8) 5 w' w0.heap.size (fun k_ => (P0_ k_ ∨ w.heap.size ≤ k_)) v0 x0_1) ∧ Aside0 (Kept w w' (fun k_ => P0_ k_)) ∧ Aside0 (Below w0.heap.size w0 w'))
 case atStart => exact ⟨(l0), (a1), (by first | rfl | (simp; done) | (simp [*]; done)), H', ⟨Nat.le_refl _⟩, ⟨by (with_reducible repeat (first | apply Kd.R_alloc | apply Kd.R_drewN | apply Kd.R_drew)); exact HO0.out⟩, ⟨by repeat (first | (with_reducible first | exact HK.out | apply Kept.alloc | apply Kept.drewN | apply Kept.drew) | exact HK.out)⟩, ⟨by repeat (first | (with_reducible first | exact HB.out | apply below_alloc | apply pw_below_drewN | apply below_drew1) | exact HB.out)⟩⟩
 case round =>
  clear H'
  try clear p2
  obtain ⟨x0_1, x1_1, rfl, HA, HK1, HO_0, HK, HB⟩ := hrel
  cases gk with
  |zero => exact absurd HA.out (by simp [pack_put_int.l0])
  |succ k1 =>
   have H := HA.out
   clear HA
   simp only [pack_put_int.l0] at H
   by_cases c3 : x1_1 ≥ 128
   ·rw [if_pos c3] at H
    have c3b0 : decide (128 ≤ x1_1) = true := decide_eq_true c3
    clear c3
    by_cases c4 : x0_1.length < 140737488355328
    ·rw [if_pos c4] at H
     have LMc4 := Aside0.mk c4
     clear c4
     obtain ⟨y154, hy154⟩ : ∃ y_ : List Int, y_ = (x0_1 ++ [(((Int.tmod x1_1 128) % 256) + 128) % 256]) := ⟨_, rfl⟩
     replace H : (pack_put_int.l0 k1 y154 (wrap64 (Int.tdiv x1_1 128))) = some r := by first | (rw [hy154]; with_reducible exact H) | (have H2_ := (Option.bind_some _ _).symm.trans H; rw [hy154]; with_reducible exact H2_) | (have H2_ := (Option.bind_some _ _).symm.trans H; with_reducible exact H2_) | with_reducible exact H | (rw [hy154]; exact H) | exact H
     have Ny154 := Aside0.mk (show y154 = (x0_1 ++ [((Int.tmod x1_1 128) + 128) % 256]) from by rw [hy154]; simp only [ByteArray.size_append, Int.natCast_add, Int.emod_add_emod])
     clear hy154
     have H' := Aside0.mk H
     clear H
     go_wp2_with (first | ((with_reducible refine gate_builtin (b := .append) (xs := #[.tmp 9, .tmp 14]) rfl ?_); at_builtin; refine Kd.R_append (Kd.int .u8) (w0 := w0) w0.heap.size rfl (.tmp 9) (.tmp 14) 86 5 (.int .u8 0) 1 rfl Try.underlying86 info5 rfl (by decide) (by omega) u0 x0_1 (((Int.tmod x1_1 128) + 128) % 256) [.int .u8 (((Int.tmod x1_1 128) + 128) % 256)] (fun k_ => (P0_ k_ ∨ w.heap.size ≤ k_)) (fun _ => False) rfl rfl ?aP (fun _ hk => hk.elim) ?aF ?aO ?aB ?aS ?aL ?_; (case aP => exact rfl); (case aB => exact (by repeat (first | (with_reducible first | exact HB.out | apply below_alloc | apply pw_below_drewN | apply below_drew1) | exact HB.out))); (case aF => exact (fun k_ hk => (.inr (Nat.le_trans (by first | exact HK.out.1 | exact (show Kept w _ (fun k_ => P0_ k_) from by repeat (first | (with_reducible first | exact HK.out | apply Kept.alloc | apply Kept.drewN | apply Kept.drew) | exact HK.out)).1) hk)))); (case aO => exact (by (with_reducible repeat (first | apply Kd.R_alloc | apply Kd.R_drewN | apply Kd.R_drew)); exact HO_0.out)); (case aS => exact (below_size (by repeat (first | (with_reducible first | exact HB.out | apply below_alloc | apply pw_below_drewN | apply below_drew1) | exact HB.out)))); (case aL => have := LMc4.out; omega); intro v155 w5 ho hb hg hat; rw [← Ny154.out] at ho; have n0_ := Aside0.mk (hb); have n1_ := Aside0.mk (Kept.of_grown (S := (fun k_ => P0_ k_)) hg (by repeat (first | (with_reducible first | exact HK.out | apply Kept.alloc | apply Kept.drewN | apply Kept.drew) | exact HK.out)) (fun k_ e_ => (HO_0.out.1 k_ e_))); have n2_ := Aside0.mk (ho); clear HB; clear HK; clear HO_0; have HB := n0_; have HK := n1_; have HO156 := n2_; clear n0_ n1_ n2_; clear ho hb hg hat))
     go_roundg k1
     case measure => have := HK1.out; omega
     case rel => exact ⟨(y154), (wrap64 (Int.tdiv x1_1 128)), (by first | rfl | (simp; done) | (simp [*]; done)), H', ⟨by have := HK1.out; omega⟩, ⟨by (with_reducible repeat (first | apply Kd.R_alloc | apply Kd.R_drewN | apply Kd.R_drew)); exact HO156.out⟩, ⟨by repeat (first | (with_reducible first | exact HK.out | apply Kept.alloc | apply Kept.drewN | apply Kept.drew) | exact HK.out)⟩, ⟨by repeat (first | (with_reducible first | exact HB.out | apply below_alloc | apply pw_below_drewN | apply below_drew1) | exact HB.out)⟩⟩
    ·rw [if_neg c4] at H
     exact absurd H (by simp)
   ·rw [if_neg c3] at H
    have c3b0 : decide (128 ≤ x1_1) = false := decide_eq_false c3
    clear c3
    by_cases c6 : x0_1.length < 140737488355328
    ·rw [if_pos c6] at H
     have LMc6 := Aside0.mk c6
     clear c6
     obtain ⟨y157, hy157⟩ : ∃ y_ : List Int, y_ = (x0_1 ++ [(x1_1) % 256]) := ⟨_, rfl⟩
     replace H : (some y157) = some r := by first | (rw [hy157]; with_reducible exact H) | (have H2_ := (Option.bind_some _ _).symm.trans H; rw [hy157]; with_reducible exact H2_) | (have H2_ := (Option.bind_some _ _).symm.trans H; with_reducible exact H2_) | with_reducible exact H | (rw [hy157]; exact H) | exact H
     have Ny157 := Aside0.mk hy157
     clear hy157
     obtain rfl := Option.some.inj H
     go_wp2_with (first | ((with_reducible refine gate_builtin (b := .append) (xs := #[.tmp 16, .tmp 19]) rfl ?_); at_builtin; refine Kd.R_append (Kd.int .u8) (w0 := w0) w0.heap.size rfl (.tmp 16) (.tmp 19) 86 5 (.int .u8 0) 1 rfl Try.underlying86 info5 rfl (by decide) (by omega) u0 x0_1 ((x1_1) % 256) [.int .u8 ((x1_1) % 256)] (fun k_ => (P0_ k_ ∨ w.heap.size ≤ k_)) (fun _ => False) rfl rfl ?aP (fun _ hk => hk.elim) ?aF ?aO ?aB ?aS ?aL ?_; (case aP => exact rfl); (case aB => exact (by repeat (first | (with_reducible first | exact HB.out | apply below_alloc | apply pw_below_drewN | apply below_drew1) | exact HB.out))); (case aF => exact (fun k_ hk => (.inr (Nat.le_trans (by first | exact HK.out.1 | exact (show Kept w _ (fun k_ => P0_ k_) from by repeat (first | (with_reducible first | exact HK.out | apply Kept.alloc | apply Kept.drewN | apply Kept.drew) | exact HK.out)).1) hk)))); (case aO => exact (by (with_reducible repeat (first | apply Kd.R_alloc | apply Kd.R_drewN | apply Kd.R_drew)); exact HO_0.out)); (case aS => exact (below_size (by repeat (first | (with_reducible first | exact HB.out | apply below_alloc | apply pw_below_drewN | apply below_drew1) | exact HB.out)))); (case aL => have := LMc6.out; omega); intro v158 w7 ho hb hg hat; rw [← Ny157.out] at ho; have n0_ := Aside0.mk (hb); have n1_ := Aside0.mk (Kept.of_grown (S := (fun k_ => P0_ k_)) hg (by repeat (first | (with_reducible first | exact HK.out | apply Kept.alloc | apply Kept.drewN | apply Kept.drew) | exact HK.out)) (fun k_ e_ => (HO_0.out.1 k_ e_))); have n2_ := Aside0.mk (ho); clear HB; clear HK; clear HO_0; have HB := n0_; have HK := n1_; have HO159 := n2_; clear n0_ n1_ n2_; clear ho hb hg hat))
     go_ret
     exact ⟨_, by first | rfl | (simp [errW_none, errW_some] <;> rfl) | (simp [*, errW_none, errW_some] <;> rfl), by (with_reducible repeat (first | apply Kd.R_alloc | apply Kd.R_drewN | apply Kd.R_drew)); exact HO159.out, by repeat (first | (with_reducible first | exact HB.out | apply below_alloc | apply pw_below_drewN | apply below_drew1) | exact HB.out), by repeat (first | (with_reducible first | exact HK.out | apply Kept.alloc | apply Kept.drewN | apply Kept.drew) | exact HK.out)⟩
    ·rw [if_neg c6] at H
     exact absurd H (by simp)
end Go.Proofs.Ytnbomedhehoflaa.Al

namespace Go.Proofs.Ytnbomedhehoflaa.Al
open Go.RowKit Go.Proofs.YtnbomedhehoflaaW.PrintWords Go.Proofs.YtnbomedhehoflaaW.PrintLast Go.Proofs.YtnbomedhehoflaaW.PrintMore
attribute [local go_sem] max2_int min2_int max_two min_two max_three min_three max_four min_four   -- for this text's walks alone
set_option linter.unusedVariables false
set_option linter.unusedSimpArgs false
def pack_put_uint64.l0 : Nat → List Int → Int → Option (List Int)
 |0, _, _ => none
 |k + 1, x0, x1 => if x1 ≥ 128 then (if x0.length < 140737488355328 then (pack_put_uint64.l0 k (x0 ++ [(((Int.tmod x1 128) % 256) + 128) % 256]) (IntKind.u64.wrap (Int.tdiv x1 128))) else (none)) else (if x0.length < 140737488355328 then (some (x0 ++ [(x1) % 256])) else (none))
def pack_put_uint64.f (k : Nat) (l0 : List Int) (a1 : Int) : Option (List Int) := pack_put_uint64.l0 k l0 a1
set_option maxHeartbeats 8000000 in
set_option maxRecDepth 100000 in
theorem pack_put_uint64.calls (k : Nat) (P0_ : Nat → Prop) (u9000_ : Value) (l0 : List Int) (a1 : Int) (r : List Int) (w0 w : World) (hB : Below w0.heap.size w0 w) (ho0 : Kd.R (Kd.int .u8) 5 w w0.heap.size P0_ u9000_ l0) (h : pack_put_uint64.f k l0 a1 = some r) :
  Calls Try.prog 58 #[u9000_, .int .u64 a1] w fun e w' => ∃ v0_ : Value, e = .returned (v0_) ∧ Kd.R (Kd.int .u8) 5 w' w0.heap.size (fun k_ => (P0_ k_ ∨ w.heap.size ≤ k_)) v0_ r ∧ Below w0.heap.size w0 w' ∧ Kept w w' (fun k_ => P0_ k_) := by
 have HO0 := Aside0.mk (show Kd.R (Kd.int .u8) 5 w w0.heap.size (fun k_ => (P0_ k_ ∨ w.heap.size ≤ k_)) u9000_ l0 from Kd.R_mono ho0 (fun k_ hk => (.inl hk)))
 have HK := Aside0.mk (Kept.refl w (fun k_ => P0_ k_))
 have HW0 := Aside0.mk hB.size
 have HB := Aside0.mk hB
 clear hB
 have H : (pack_put_uint64.l0 k l0 a1) = some r := h
 clear h
 have H' := Aside0.mk H
 clear H
 go_enter Try.func58, Try.ntmps58
 go_wp2
 go_loopg [0, 1] k (fun kq v0 v1 w' => ∃ (x0_1 : List Int) (x1_1 : Int), v1 = .int .u64 x1_1 ∧ Aside0 (pack_put_uint64.l0 kq x0_1 x1_1 = some r) ∧ Aside0 (kq ≤ k) ∧ Aside0 (Kd.R (Kd.int .u8) 5 w' w0.heap.size (fun k_ => (P0_ k_ ∨ w.heap.size ≤ k_)) v0 x0_1) ∧ Aside0 (Kept w w' (fun k_ => P0_ k_)) ∧ Aside0 (Below w0.heap.size w0 w'))
 case atStart => exact ⟨(l0), (a1), (by first | rfl | (simp; done) | (simp [*]; done)), H', ⟨Nat.le_refl _⟩, ⟨by (with_reducible repeat (first | apply Kd.R_alloc | apply Kd.R_drewN | apply Kd.R_drew)); exact HO0.out⟩, ⟨by repeat (first | (with_reducible first | exact HK.out | apply Kept.alloc | apply Kept.drewN | apply Kept.drew) | exact HK.out)⟩, ⟨by repeat (first | (with_reducible first | exact HB.out | apply below_alloc | apply pw_below_drewN | apply below_drew1) | exact HB.out)⟩⟩
 case round =>
  clear H'
  try clear p2
  obtain ⟨x0_1, x1_1, rfl, HA, HK1, HO_0, HK, HB⟩ := hrel
  cases gk with
  |zero => exact absurd HA.out (by simp [pack_put_uint64.l0])
  |succ k1 =>
   have H := HA.out
   clear HA
   simp only [pack_put_uint64.l0] at H
   by_cases c3 : x1_1 ≥ 128
   ·rw [if_pos c3] at H
    have c3b0 : decide (128 ≤ x1_1) = true := decide_eq_true c3
    clear c3
    by_cases c4 : x0_1.length < 140737488355328
    ·rw [if_pos c4] at H
     have LMc4 := Aside0.mk c4
     clear c4
     obtain ⟨y160, hy160⟩ : ∃ y_ : List Int, y_ = (x0_1 ++ [(((Int.tmod x1_1 128) % 256) + 128) % 256]) := ⟨_, rfl⟩
     replace H : (pack_put_uint64.l0 k1 y160 (IntKind.u64.wrap (Int.tdiv x1_1 128))) = some r := by first | (rw [hy160]; with_reducible exact H) | (have H2_ := (Option.bind_some _ _).symm.trans H; rw [hy160]; with_reducible exact H2_) | (have H2_ := (Option.bind_some _ _).symm.trans H; with_reducible exact H2_) | with_reducible exact H | (rw [hy160]; exact H) | exact H
     have Ny160 := Aside0.mk (show y160 = (x0_1 ++ [((Int.tmod x1_1 128) + 128) % 256]) from by rw [hy160]; simp only [ByteArray.size_append, Int.natCast_add, Int.emod_add_emod])
     clear hy160
     have H' := Aside0.mk H
     clear H
     go_wp2_with (first | ((with_reducible refine gate_builtin (b := .append) (xs := #[.tmp 9, .tmp 14]) rfl ?_); at_builtin; refine Kd.R_append (Kd.int .u8) (w0 := w0) w0.heap.size rfl (.tmp 9) (.tmp 14) 86 5 (.int .u8 0) 1 rfl Try.underlying86 info5 rfl (by decide) (by omega) u0 x0_1 (((Int.tmod x1_1 128) + 128) % 256) [.int .u8 (((Int.tmod x1_1 128) + 128) % 256)] (fun k_ => (P0_ k_ ∨ w.heap.size ≤ k_)) (fun _ => False) rfl rfl ?aP (fun _ hk => hk.elim) ?aF ?aO ?aB ?aS ?aL ?_; (case aP => exact rfl); (case aB => exact (by repeat (first | (with_reducible first | exact HB.out | apply below_alloc | apply pw_below_drewN | apply below_drew1) | exact HB.out))); (case aF => exact (fun k_ hk => (.inr (Nat.le_trans (by first | exact HK.out.1 | exact (show Kept w _ (fun k_ => P0_ k_) from by repeat (first | (with_reducible first | exact HK.out | apply Kept.alloc | apply Kept.drewN | apply Kept.drew) | exact HK.out)).1) hk)))); (case aO => exact (by (with_reducible repeat (first | apply Kd.R_alloc | apply Kd.R_drewN | apply Kd.R_drew)); exact HO_0.out)); (case aS => exact (below_size (by repeat (first | (with_reducible first | exact HB.out | apply below_alloc | apply pw_below_drewN | apply below_drew1) | exact HB.out)))); (case aL => have := LMc4.out; omega); intro v161 w5 ho hb hg hat; rw [← Ny160.out] at ho; have n0_ := Aside0.mk (hb); have n1_ := Aside0.mk (Kept.of_grown (S := (fun k_ => P0_ k_)) hg (by repeat (first | (with_reducible first | exact HK.out | apply Kept.alloc | apply Kept.drewN | apply Kept.drew) | exact HK.out)) (fun k_ e_ => (HO_0.out.1 k_ e_))); have n2_ := Aside0.mk (ho); clear HB; clear HK; clear HO_0; have HB := n0_; have HK := n1_; have HO162 := n2_; clear n0_ n1_ n2_; clear ho hb hg hat))
     go_roundg k1
     case measure => have := HK1.out; omega
     case rel => exact ⟨(y160), (IntKind.u64.wrap (Int.tdiv x1_1 128)), (by first | rfl | (simp; done) | (simp [*]; done)), H', ⟨by have := HK1.out; omega⟩, ⟨by (with_reducible repeat (first | apply Kd.R_alloc | apply Kd.R_drewN | apply Kd.R_drew)); exact HO162.out⟩, ⟨by repeat (first | (with_reducible first | exact HK.out | apply Kept.alloc | apply Kept.drewN | apply Kept.drew) | exact HK.out)⟩, ⟨by repeat (first | (with_reducible first | exact HB.out | apply below_alloc | apply pw_below_drewN | apply below_drew1) | exact HB.out)⟩⟩
    ·rw [if_neg c4] at H
     exact absurd H (by simp)
   ·rw [if_neg c3] at H
    have c3b0 : decide (128 ≤ x1_1) = false := decide_eq_false c3
    clear c3
    by_cases c6 : x0_1.length < 140737488355328
    ·rw [if_pos c6] at H
     have LMc6 := Aside0.mk c6
     clear c6
     obtain ⟨y163, hy163⟩ : ∃ y_ : List Int, y_ = (x0_1 ++ [(x1_1) % 256]) := ⟨_, rfl⟩
     replace H : (some y163) = some r := by first | (rw [hy163]; with_reducible exact H) | (have H2_ := (Option.bind_some _ _).symm.trans H; rw [hy163]; with_reducible exact H2_) | (have H2_ := (Option.bind_some _ _).symm.trans H; with_reducible exact H2_) | with_reducible exact H | (rw [hy163]; exact H) | exact H
     have Ny163 := Aside0.mk hy163
     clear hy163
     obtain rfl := Option.some.inj H
     go_wp2_with (first | ((with_reducible refine gate_builtin (b := .append) (xs := #[.tmp 16, .tmp 19]) rfl ?_); at_builtin; refine Kd.R_append (Kd.int .u8) (w0 := w0) w0.heap.size rfl (.tmp 16) (.tmp 19) 86 5 (.int .u8 0) 1 rfl Try.underlying86 info5 rfl (by decide) (by omega) u0 x0_1 ((x1_1) % 256) [.int .u8 ((x1_1) % 256)] (fun k_ => (P0_ k_ ∨ w.heap.size ≤ k_)) (fun _ => False) rfl rfl ?aP (fun _ hk => hk.elim) ?aF ?aO ?aB ?aS ?aL ?_; (case aP => exact rfl); (case aB => exact (by repeat (first | (with_reducible first | exact HB.out | apply below_alloc | apply pw_below_drewN | apply below_drew1) | exact HB.out))); (case aF => exact (fun k_ hk => (.inr (Nat.le_trans (by first | exact HK.out.1 | exact (show Kept w _ (fun k_ => P0_ k_) from by repeat (first | (with_reducible first | exact HK.out | apply Kept.alloc | apply Kept.drewN | apply Kept.drew) | exact HK.out)).1) hk)))); (case aO => exact (by (with_reducible repeat (first | apply Kd.R_alloc | apply Kd.R_drewN | apply Kd.R_drew)); exact HO_0.out)); (case aS => exact (below_size (by repeat (first | (with_reducible first | exact HB.out | apply below_alloc | apply pw_below_drewN | apply below_drew1) | exact HB.out)))); (case aL => have := LMc6.out; omega); intro v164 w7 ho hb hg hat; rw [← Ny163.out] at ho; have n0_ := Aside0.mk (hb); have n1_ := Aside0.mk (Kept.of_grown (S := (fun k_ => P0_ k_)) hg (by repeat (first | (with_reducible first | exact HK.out | apply Kept.alloc | apply Kept.drewN | apply Kept.drew) | exact HK.out)) (fun k_ e_ => (HO_0.out.1 k_ e_))); have n2_ := Aside0.mk (ho); clear HB; clear HK; clear HO_0; have HB := n0_; have HK := n1_; have HO165 := n2_; clear n0_ n1_ n2_; clear ho hb hg hat))
     go_ret
     exact ⟨_, by first | rfl | (simp [errW_none, errW_some] <;> rfl) | (simp [*, errW_none, errW_some] <;> rfl), by (with_reducible repeat (first | apply Kd.R_alloc | apply Kd.R_drewN | apply Kd.R_drew)); exact HO165.out, by repeat (first | (with_reducible first | exact HB.out | apply below_alloc | apply pw_below_drewN | apply below_drew1) | exact HB.out), by repeat (first | (with_reducible first | exact HK.out | apply Kept.alloc | apply Kept.drewN | apply Kept.drew) | exact HK.out)⟩
    ·rw [if_neg c6] at H
     exact absurd H (by simp)
end Go.Proofs.Ytnbomedhehoflaa.Al

namespace Go.Proofs.Ytnbomedhehoflaa.Al
open Go.RowKit Go.Proofs.YtnbomedhehoflaaW.PrintWords Go.Proofs.YtnbomedhehoflaaW.PrintLast Go.Proofs.YtnbomedhehoflaaW.PrintMore
attribute [local go_sem] max2_int min2_int max_two min_two max_three min_three max_four min_four   -- for this text's walks alone
set_option linter.unusedVariables false
set_option linter.unusedSimpArgs false
def pack_signed.f (k : Nat) (l0 : List Int) (a1 : Int) : Option (List Int) := (pack_put_uint64.f k l0 (Go.bits .xor .u64 (IntKind.u64.wrap ((IntKind.u64.wrap (a1)) * 2)) (IntKind.u64.wrap (a1 / 9223372036854775808)))).bind fun t166 => (some t166)
set_option maxHeartbeats 8000000 in
set_option maxRecDepth 100000 in
theorem pack_signed.calls (k : Nat) (P0_ : Nat → Prop) (u9000_ : Value) (l0 : List Int) (a1 : Int) (r : List Int) (w0 w : World) (hB : Below w0.heap.size w0 w) (ho0 : Kd.R (Kd.int .u8) 5 w w0.heap.size P0_ u9000_ l0) (h : pack_signed.f k l0 a1 = some r) :
  Calls Try.prog 49 #[u9000_, .int .i64 a1] w fun e w' => ∃ v0_ : Value, e = .returned (v0_) ∧ Kd.R (Kd.int .u8) 5 w' w0.heap.size (fun k_ => (P0_ k_ ∨ w.heap.size ≤ k_)) v0_ r ∧ Below w0.heap.size w0 w' ∧ Kept w w' (fun k_ => P0_ k_) := by
 have HO0 := Aside0.mk (show Kd.R (Kd.int .u8) 5 w w0.heap.size (fun k_ => (P0_ k_ ∨ w.heap.size ≤ k_)) u9000_ l0 from Kd.R_mono ho0 (fun k_ hk => (.inl hk)))
 have HK := Aside0.mk (Kept.refl w (fun k_ => P0_ k_))
 have HW0 := Aside0.mk hB.size
 have HB := Aside0.mk hB
 clear hB
 have H : ((pack_put_uint64.f k l0 (Go.bits .xor .u64 (IntKind.u64.wrap ((IntKind.u64.wrap (a1)) * 2)) (IntKind.u64.wrap (a1 / 9223372036854775808)))).bind fun t166 => (some t166)) = some r := h
 clear h
 replace H := Option.bind_eq_some_iff.mp H
 obtain ⟨t166, A30, H⟩ := H
 replace H : (some t166) = some r := H
 have A3 := Aside0.mk A30
 clear A30
 obtain rfl := Option.some.inj H
 obtain ⟨Ao4, co4, eo4⟩ := Kd.R_slice HO0.out
 subst eo4
 go_enter Try.func49, Try.ntmps49
 go_wp2_with (first | ((with_reducible refine gate_callee (f := 58) rfl ?_); refine goesL_ (some 13) rfl rfl Try.func58 (by kernel_rfl) rfl #[.slice Ao4 l0.length co4, .int .u64 (Go.bits .xor .u64 (IntKind.u64.wrap ((IntKind.u64.wrap (a1)) * 2)) (IntKind.u64.wrap (a1 / 9223372036854775808)))] rfl (by (try simp only [List.map_toArray, List.map_cons, List.map_nil]); first | done | rfl | (simp only [List.length_drop, List.length_take]; rfl)) ?_; (with_reducible refine (pack_put_uint64.calls k (fun k_ => some k_ = (.slice Ao4 l0.length co4 : Value).ownBlock) (.slice Ao4 l0.length co4) l0 (Go.bits .xor .u64 (IntKind.u64.wrap ((IntKind.u64.wrap (a1)) * 2)) (IntKind.u64.wrap (a1 / 9223372036854775808))) t166 w0 _ ?side1 ?side2 A3.out).mono ?_); (case side1 => repeat (first | (with_reducible first | exact HB.out | apply below_alloc | apply pw_below_drewN | apply below_drew1) | exact HB.out)); (case side2 => exact Kd.R_tight rfl HO0.out); rintro e w5 ⟨v167, rfl, ho0, hb, hkp⟩; refine ⟨_, rfl, ?_⟩; have n0_ := Aside0.mk (Kd.R_mono (ok' := fun k_ => (P0_ k_ ∨ w.heap.size ≤ k_)) ho0 (fun k_ hk_ => Or.elim hk_ (fun hs_ => (HO0.out.1 k_ (hs_).symm)) (fun hn_ => (.inr (Nat.le_trans (by first | exact HK.out.1 | exact (show Kept w _ (fun k_ => P0_ k_) from by repeat (first | (with_reducible first | exact HK.out | apply Kept.alloc | apply Kept.drewN | apply Kept.drew) | exact HK.out)).1) hn_))))); have n1_ := Aside0.mk (Kept.then_ (S := (fun k_ => P0_ k_)) (by repeat (first | (with_reducible first | exact HK.out | apply Kept.alloc | apply Kept.drewN | apply Kept.drew) | exact HK.out)) hkp (fun k_ hs_ => (fun e_ => (HO0.out.1 k_ e_.symm)) hs_)); have n2_ := Aside0.mk (hb); clear HK; clear HB; clear HO0; have HO168 := n0_; have HK := n1_; have HB := n2_; clear n0_ n1_ n2_; (try clear hb); (try clear hkp); (try clear ho0)))
 go_ret
 exact ⟨_, by first | rfl | (simp [errW_none, errW_some] <;> rfl) | (simp [*, errW_none, errW_some] <;> rfl), by (with_reducible repeat (first | apply Kd.R_alloc | apply Kd.R_drewN | apply Kd.R_drew)); exact HO168.out, by repeat (first | (with_reducible first | exact HB.out | apply below_alloc | apply pw_below_drewN | apply below_drew1) | exact HB.out), by repeat (first | (with_reducible first | exact HK.out | apply Kept.alloc | apply Kept.drewN | apply Kept.drew) | exact HK.out)⟩
end Go.Proofs.Ytnbomedhehoflaa.Al

namespace Go.Proofs.Ytnbomedhehoflaa.Al
open Go.RowKit Go.Proofs.YtnbomedhehoflaaW.PrintWords Go.Proofs.YtnbomedhehoflaaW.PrintLast Go.Proofs.YtnbomedhehoflaaW.PrintMore
attribute [local go_sem] max2_int min2_int max_two min_two max_three min_three max_four min_four   -- for this text's walks alone
set_option linter.unusedVariables false
set_option linter.unusedSimpArgs false
mutual
def pack_Encode.l0 : Nat → List Int → List Int → Int → Int → List Int → List ByteArray → Option (ByteArray × Int)
 |0, _, _, _, _, _, _ => none
 |k + 1, x5, x20, x21, x22, x170000, x170001 => if x22 < x21 then (if 0 ≤ x22 then (if x22 < (x20.length : Int) then ((pack_signed.f k x5 (rd x20 x22)).bind fun t175 => (pack_Encode.l0 k t175 x20 x21 (wrap64 (x22 + 1)) x170000 x170001)) else (none)) else (none)) else ((pack_put_int.f k x5 (x170001.length : Int)).bind fun t178 => (pack_Encode.l1 k t178 x170001 (x170001.length : Int) 0))
def pack_Encode.l1 : Nat → List Int → List ByteArray → Int → Int → Option (ByteArray × Int)
 |0, _, _, _, _ => none
 |k + 1, x5, x36, x37, x38 => if x38 < x37 then (if 0 ≤ x38 then (if x38 < (x36.length : Int) then ((pack_put_int.f k x5 ((rdOf ByteArray.empty x36 x38).size : Int)).bind fun t182 => (if t182.length + (rdOf ByteArray.empty x36 x38).size < 140737488355328 then (pack_Encode.l1 k (t182 ++ bytesOf (rdOf ByteArray.empty x36 x38)) x36 x37 (wrap64 (x38 + 1))) else (none))) else (none)) else (none)) else (some (strOfNums x5, 0))
end
def pack_Encode.f (k : Nat) (l0_0 : List Int) (l0_1 : List ByteArray) : Option (ByteArray × Int) := (pack_Check.f k l0_0 l0_1).bind fun t170 => (if t170 = 0 then ((pack_put_int.f k ([] : List Int) (l0_0.length : Int)).bind fun t171 => (pack_Encode.l0 k t171 l0_0 (l0_0.length : Int) 0 l0_0 l0_1)) else (some ((⟨#[]⟩ : ByteArray), t170)))
set_option maxHeartbeats 8000000 in
set_option maxRecDepth 100000 in
theorem pack_Encode.calls (k : Nat) (A0_0 : Option Addr) (c0_0 : Nat) (l0_0 : List Int) (A0_1 : Option Addr) (c0_1 : Nat) (l0_1 : List ByteArray) (r1 : ByteArray) (r2 : Int) (w : World) (hr0_0 : Kd.C (Kd.int .i64) w A0_0 l0_0.length l0_0) (hc0_0 : l0_0.length ≤ c0_0) (hr0_1 : Kd.C Kd.string w A0_1 l0_1.length l0_1) (hc0_1 : l0_1.length ≤ c0_1) (h : pack_Encode.f k l0_0 l0_1 = some (r1, r2)) :
  Calls Try.prog 29 #[.agg #[.slice A0_0 l0_0.length c0_0, .slice A0_1 l0_1.length c0_1]] w fun e w' => e = .returned (.tuple #[.string r1, .int .i64 r2]) ∧ Below w.heap.size w w' := by
 have hu70 := Try.underlying70
 have HR0_0 := Aside0.mk hr0_0
 have HC0_0 := Aside0.mk hc0_0
 clear hr0_0 hc0_0
 have HR0_1 := Aside0.mk hr0_1
 have HC0_1 := Aside0.mk hc0_1
 clear hr0_1 hc0_1
 have HB := Aside0.mk (Below.refl w.heap.size w)
 have H : ((pack_Check.f k l0_0 l0_1).bind fun t170 => (if t170 = 0 then ((pack_put_int.f k ([] : List Int) (l0_0.length : Int)).bind fun t171 => (pack_Encode.l0 k t171 l0_0 (l0_0.length : Int) 0 l0_0 l0_1)) else (some ((⟨#[]⟩ : ByteArray), t170)))) = some (r1, r2) := h
 clear h
 replace H := Option.bind_eq_some_iff.mp H
 obtain ⟨t170, A20, H⟩ := H
 replace H : (if t170 = 0 then ((pack_put_int.f k ([] : List Int) (l0_0.length : Int)).bind fun t171 => (pack_Encode.l0 k t171 l0_0 (l0_0.length : Int) 0 l0_0 l0_1)) else (some ((⟨#[]⟩ : ByteArray), t170))) = some (r1, r2) := H
 have A2 := Aside0.mk A20
 clear A20
 by_cases c3 : t170 = 0
 ·rw [if_pos c3] at H
  have c3b0 : (t170 == 0) = true := beq_iff_eq.mpr c3
  have c3b1 : (t170 != 0) = false := bne_eq_false_iff_eq.mpr c3
  clear c3
  replace H := Option.bind_eq_some_iff.mp H
  obtain ⟨t171, A40, H⟩ := H
  replace H : (pack_Encode.l0 k t171 l0_0 (l0_0.length : Int) 0 l0_0 l0_1) = some (r1, r2) := H
  have A4 := Aside0.mk A40
  clear A40
  have H' := Aside0.mk H
  clear H
  go_enter Try.func29, Try.ntmps29
  go_wp2_with (first | ((with_reducible refine gate_dst (N := 1) rfl ?_); refine box_event ?hg (N := 1) ?hd (cs := #[.slice A0_0 l0_0.length c0_0, .slice A0_1 l0_1.length c0_1]) (t := 70) ?hr ?_; (case hd => rfl); (case hg => rfl); (case hr => first | (go_simp; done) | (go_simp; rfl)); intro gb169 hg w5 hbox hb; have n0_ := Aside0.mk (below_step (by repeat (first | (with_reducible first | exact HB.out | apply below_alloc | apply pw_below_drewN | apply below_drew1) | exact HB.out)) hb); have n1_ := Aside0.mk (hbox); have n2_ := Aside0.mk ((by rw [hg]; exact (below_size (by repeat (first | (with_reducible first | exact HB.out | apply below_alloc | apply pw_below_drewN | apply below_drew1) | exact HB.out))) : w.heap.size ≤ gb169)); have n3_ := Aside0.mk ((by rw [hg]; exact (below_size (by repeat (first | (with_reducible first | exact HB.out | apply below_alloc | apply pw_below_drewN | apply below_drew1) | exact HB.out))) : w.heap.size ≤ gb169)); clear HB; have HB := n0_; have BK169 := n1_; have GW169 := n2_; have GE169 := n3_; clear n0_ n1_ n2_ n3_; clear hb hbox hg; have hcz6_0 : w5.cell? ⟨gb169, 0, none⟩ = some (.slice A0_0 l0_0.length c0_0) := (blk_cell BK169.out 0).trans rfl; have hcz6_1 : w5.cell? ⟨gb169, 1, none⟩ = some (.slice A0_1 l0_1.length c0_1) := (blk_cell BK169.out 1).trans rfl; have hfz6_0 := blk_frozen BK169.out 0; have hfz6_1 := blk_frozen BK169.out 1) | ((with_reducible refine gate_callee (f := 47) rfl ?_); refine goesL_ (some 11) rfl rfl Try.func47 (by kernel_rfl) rfl #[.agg #[.slice A0_0 l0_0.length c0_0, .slice A0_1 l0_1.length c0_1]] rfl (by (try simp only [List.map_toArray, List.map_cons, List.map_nil]); first | done | rfl | (simp only [List.length_drop, List.length_take]; rfl)) ?_; (with_reducible refine (pack_Check.calls k _ _ l0_0 _ _ l0_1 t170 _ ?side1 ?side2 ?side3 ?side4 A2.out).mono ?_); (case side1 => repeat (first | exact (Kd.C_below HR0_0.out HB.out) | (with_reducible refine Kd.C_alloc ?_ _) | (with_reducible refine Kd.C_drewN ?_ _) | (with_reducible refine Kd.C_drew ?_))); (case side2 => exact HC0_0.out); (case side3 => repeat (first | exact (Kd.C_below HR0_1.out HB.out) | (with_reducible refine Kd.C_alloc ?_ _) | (with_reducible refine Kd.C_drewN ?_ _) | (with_reducible refine Kd.C_drew ?_))); (case side4 => exact HC0_1.out); rintro e w7 ⟨rfl, hb⟩; refine ⟨_, rfl, ?_⟩; have n0_ := Aside0.mk (blk_below (g := gb169) (o := .cells #[.slice A0_0 l0_0.length c0_0, .slice A0_1 l0_1.length c0_1] 70 (0, 0)) (by (with_reducible repeat (first | refine blk_drewN ?_ _ | refine blk_drew ?_ | refine blk_alloc ?_ _)); exact BK169.out) hb); have n1_ := Aside0.mk (below_step (by repeat (first | (with_reducible first | exact HB.out | apply below_alloc | apply pw_below_drewN | apply below_drew1 | refine below_set ?_ GE169.out) | exact HB.out)) hb); clear BK169; clear HB; have BK169 := n0_; have HB := n1_; clear n0_ n1_; (try clear hb); (try clear hb2); (try clear hk); (try clear hi); have hcz8_0 : w7.cell? ⟨gb169, 0, none⟩ = some (.slice A0_0 l0_0.length c0_0) := (blk_cell BK169.out 0).trans rfl; have hcz8_1 : w7.cell? ⟨gb169, 1, none⟩ = some (.slice A0_1 l0_1.length c0_1) := (blk_cell BK169.out 1).trans rfl; have hfz8_0 := blk_frozen BK169.out 0; have hfz8_1 := blk_frozen BK169.out 1) | ((with_reducible refine gate_callee (f := 48) rfl ?_); refine goesL_ (some 18) rfl rfl Try.func48 (by kernel_rfl) rfl #[.slice none 0 0, .int .i64 (l0_0.length : Int)] rfl (by (try simp only [List.map_toArray, List.map_cons, List.map_nil]); first | done | rfl | (simp only [List.length_drop, List.length_take]; rfl)) ?_; (refine (pack_put_int.calls k (fun k_ => some k_ = (.slice none 0 0 : Value).ownBlock) (.slice none 0 0) ([] : List Int) (l0_0.length : Int) t171 w _ ?side1 ?side2 A4.out).mono ?_); (case side1 => repeat (first | (with_reducible first | exact HB.out | apply below_alloc | apply pw_below_drewN | apply below_drew1 | refine below_set ?_ GE169.out) | exact HB.out)); (case side2 => exact Kd.R_nil _ _ _ _ _); rintro e w9 ⟨v172, rfl, ho0, hb, hkp⟩; refine ⟨_, rfl, ?_⟩; have n0_ := Aside0.mk (blk_kept (by (with_reducible repeat (first | refine blk_drewN ?_ _ | refine blk_drew ?_ | refine blk_alloc ?_ _)); exact BK169.out) hkp (fun hs_ => (fun e_ => by simp [Value.ownBlock] at e_) hs_)); have n1_ := Aside0.mk (Kd.R_mono (ok' := fun k_ => True) ho0 (fun k_ hk_ => trivial)); have n2_ := Aside0.mk (hb); clear BK169; clear HB; have BK169 := n0_; have HO173 := n1_; have HB := n2_; clear n0_ n1_ n2_; (try clear hb); (try clear hkp); (try clear ho0); have hcz10_0 : w9.cell? ⟨gb169, 0, none⟩ = some (.slice A0_0 l0_0.length c0_0) := (blk_cell BK169.out 0).trans rfl; have hcz10_1 : w9.cell? ⟨gb169, 1, none⟩ = some (.slice A0_1 l0_1.length c0_1) := (blk_cell BK169.out 1).trans rfl; have hfz10_0 := blk_frozen BK169.out 0; have hfz10_1 := blk_frozen BK169.out 1))
  go_loopg [5, 22] k (fun kq v5 v22 w' => ∃ (x5_1 : List Int) (x22_1 : Int), v22 = .int .i64 x22_1 ∧ Aside0 (pack_Encode.l0 kq x5_1 l0_0 (l0_0.length : Int) x22_1 l0_0 l0_1 = some (r1, r2)) ∧ Aside0 (kq ≤ k) ∧ Aside0 (Kd.R (Kd.int .u8) 5 w' w.heap.size (fun _ => True) v5 x5_1) ∧ Aside0 (w'.heap[gb169]? = some (.cells #[(.slice A0_0 l0_0.length c0_0), (.slice A0_1 l0_1.length c0_1)] 70 (0, 0))) ∧ Aside0 (Below w.heap.size w w'))
  case atStart => exact ⟨(t171), (0), (by first | rfl | (simp; done) | (simp [*]; done)), H', ⟨Nat.le_refl _⟩, ⟨by (with_reducible repeat (first | apply Kd.R_alloc | apply Kd.R_drewN | apply Kd.R_drew)); exact HO173.out⟩, ⟨by (with_reducible repeat (first | refine blk_drewN ?_ _ | refine blk_drew ?_ | refine blk_alloc ?_ _)); exact BK169.out⟩, ⟨by repeat (first | (with_reducible first | exact HB.out | apply below_alloc | apply pw_below_drewN | apply below_drew1 | refine below_set ?_ GE169.out) | exact HB.out)⟩⟩
  case round =>
   clear H'
   (try clear c2); (try clear p2); (try clear c3); (try clear c3b0); (try clear c3b1); (try clear c4); (try clear hcz10_0); (try clear hcz10_1); (try clear hcz6_0); (try clear hcz6_1); (try clear hcz8_0); (try clear hcz8_1); (try clear hfz10_0); (try clear hfz10_1); (try clear hfz6_0); (try clear hfz6_1); (try clear hfz8_0); (try clear hfz8_1)
   obtain ⟨x5_1, x22_1, rfl, HA, HK1, HO_5, BK169, HB⟩ := hrel
   cases gk with
   |zero => exact absurd HA.out (by simp [pack_Encode.l0])
   |succ k1 =>
    have H := HA.out
    clear HA
    simp only [pack_Encode.l0] at H
    by_cases c11 : x22_1 < (l0_0.length : Int)
    ·rw [if_pos c11] at H
     have c11b0 : decide (x22_1 < (l0_0.length : Int)) = true := decide_eq_true c11
     clear c11
     by_cases c12 : 0 ≤ x22_1
     ·rw [if_pos c12] at H
      have c12b0 : decide (0 ≤ x22_1) = true := decide_eq_true c12
      clear c12
      by_cases c13 : x22_1 < (l0_0.length : Int)
      ·rw [if_pos c13] at H
       have c13b0 : decide (x22_1 < (l0_0.length : Int)) = true := decide_eq_true c13
       clear c13
       replace H := Option.bind_eq_some_iff.mp H
       obtain ⟨t175, A140, H⟩ := H
       replace H : (pack_Encode.l0 k1 t175 l0_0 (l0_0.length : Int) (wrap64 (x22_1 + 1)) l0_0 l0_1) = some (r1, r2) := H
       have A14 := Aside0.mk A140
       clear A140
       have H' := Aside0.mk H
       clear H
       have p174 : 0 ≤ (x22_1 : Int) := of_decide_eq_true (by first | (with_reducible assumption) | assumption)
       have q174 : x22_1 < (l0_0.length : Int) := of_decide_eq_true (by first | (with_reducible assumption) | assumption)
       obtain ⟨ad174, e174, hx174_0⟩ := Kd.at_int HR0_0.out x22_1 p174 q174
       cases e174
       replace hx174_0 := (HB.out.cell (World.block_lt_of_cell? w _ hx174_0)).trans hx174_0
       replace p174 := eq_true p174
       replace q174 := eq_true q174
       obtain ⟨Ao15, co15, eo15⟩ := Kd.R_slice HO_5.out
       subst eo15
       go_wp2_with (first | ((with_reducible refine gate_callee (f := 49) rfl ?_); refine goesL_ (some 28) rfl rfl Try.func49 (by kernel_rfl) rfl #[.slice Ao15 x5_1.length co15, .int .i64 (rd l0_0 x22_1)] rfl (by (try simp only [List.map_toArray, List.map_cons, List.map_nil]); first | done | rfl | (simp only [List.length_drop, List.length_take]; rfl)) ?_; (with_reducible refine (pack_signed.calls k1 (fun k_ => some k_ = (.slice Ao15 x5_1.length co15 : Value).ownBlock) (.slice Ao15 x5_1.length co15) x5_1 (rd l0_0 x22_1) t175 w _ ?side1 ?side2 A14.out).mono ?_); (case side1 => repeat (first | (with_reducible first | exact HB.out | apply below_alloc | apply pw_below_drewN | apply below_drew1 | refine below_set ?_ GE169.out) | exact HB.out)); (case side2 => exact Kd.R_tight rfl HO_5.out); rintro e w16 ⟨v176, rfl, ho0, hb, hkp⟩; refine ⟨_, rfl, ?_⟩; have n0_ := Aside0.mk (blk_kept (by (with_reducible repeat (first | refine blk_drewN ?_ _ | refine blk_drew ?_ | refine blk_alloc ?_ _)); exact BK169.out) hkp (fun hs_ => (fun e_ => (Kd.R_ne HO_5.out BK169.out (by decide)) e_) hs_)); have n1_ := Aside0.mk (Kd.R_mono (ok' := fun k_ => True) ho0 (fun k_ hk_ => trivial)); have n2_ := Aside0.mk (hb); clear BK169; clear HB; clear HO_5; have BK169 := n0_; have HO177 := n1_; have HB := n2_; clear n0_ n1_ n2_; (try clear hb); (try clear hkp); (try clear ho0)))
       go_roundg k1
       case measure => have := HK1.out; omega
       case rel => exact ⟨(t175), (wrap64 (x22_1 + 1)), (by first | rfl | (simp; done) | (simp [*]; done)), H', ⟨by have := HK1.out; omega⟩, ⟨by (with_reducible repeat (first | apply Kd.R_alloc | apply Kd.R_drewN | apply Kd.R_drew)); exact HO177.out⟩, ⟨by (with_reducible repeat (first | refine blk_drewN ?_ _ | refine blk_drew ?_ | refine blk_alloc ?_ _)); exact BK169.out⟩, ⟨by repeat (first | (with_reducible first | exact HB.out | apply below_alloc | apply pw_below_drewN | apply below_drew1 | refine below_set ?_ GE169.out) | exact HB.out)⟩⟩
      ·rw [if_neg c13] at H
       exact absurd H (by simp)
     ·rw [if_neg c12] at H
      exact absurd H (by simp)
    ·rw [if_neg c11] at H
     have c11b0 : decide (x22_1 < (l0_0.length : Int)) = false := decide_eq_false c11
     clear c11
     replace H := Option.bind_eq_some_iff.mp H
     obtain ⟨t178, A170, H⟩ := H
     replace H : (pack_Encode.l1 k1 t178 l0_1 (l0_1.length : Int) 0) = some (r1, r2) := H
     have A17 := Aside0.mk A170
     clear A170
     have H' := Aside0.mk H
     clear H
     obtain ⟨hcz18_0, hfz18_0, hcz18_1, hfz18_1⟩ := cfz2 BK169.out
     obtain ⟨Ao19, co19, eo19⟩ := Kd.R_slice HO_5.out
     subst eo19
     go_wp2_with (first | ((with_reducible refine gate_callee (f := 48) rfl ?_); refine goesL_ (some 34) rfl rfl Try.func48 (by kernel_rfl) rfl #[.slice Ao19 x5_1.length co19, .int .i64 (l0_1.length : Int)] rfl (by (try simp only [List.map_toArray, List.map_cons, List.map_nil]); first | done | rfl | (simp only [List.length_drop, List.length_take]; rfl)) ?_; (with_reducible refine (pack_put_int.calls k1 (fun k_ => some k_ = (.slice Ao19 x5_1.length co19 : Value).ownBlock) (.slice Ao19 x5_1.length co19) x5_1 (l0_1.length : Int) t178 w _ ?side1 ?side2 A17.out).mono ?_); (case side1 => repeat (first | (with_reducible first | exact HB.out | apply below_alloc | apply pw_below_drewN | apply below_drew1 | refine below_set ?_ GE169.out) | exact HB.out)); (case side2 => exact Kd.R_tight rfl HO_5.out); rintro e w20 ⟨v179, rfl, ho0, hb, hkp⟩; refine ⟨_, rfl, ?_⟩; have n0_ := Aside0.mk (blk_kept (by (with_reducible repeat (first | refine blk_drewN ?_ _ | refine blk_drew ?_ | refine blk_alloc ?_ _)); exact BK169.out) hkp (fun hs_ => (fun e_ => (Kd.R_ne HO_5.out BK169.out (by decide)) e_) hs_)); have n1_ := Aside0.mk (Kd.R_mono (ok' := fun k_ => True) ho0 (fun k_ hk_ => trivial)); have n2_ := Aside0.mk (hb); clear BK169; clear HB; clear HO_5; have BK169 := n0_; have HO180 := n1_; have HB := n2_; clear n0_ n1_ n2_; (try clear hb); (try clear hkp); (try clear ho0); have hcz21_0 : w20.cell? ⟨gb169, 0, none⟩ = some (.slice A0_0 l0_0.length c0_0) := (blk_cell BK169.out 0).trans rfl; have hcz21_1 : w20.cell? ⟨gb169, 1, none⟩ = some (.slice A0_1 l0_1.length c0_1) := (blk_cell BK169.out 1).trans rfl; have hfz21_0 := blk_frozen BK169.out 0; have hfz21_1 := blk_frozen BK169.out 1))
     go_loopg [5, 38] k1 (fun kq v5 v38 w' => ∃ (x5_2 : List Int) (x38_2 : Int), v38 = .int .i64 x38_2 ∧ Aside0 (pack_Encode.l1 kq x5_2 l0_1 (l0_1.length : Int) x38_2 = some (r1, r2)) ∧ Aside0 (kq ≤ k1) ∧ Aside0 (Kd.R (Kd.int .u8) 5 w' w.heap.size (fun _ => True) v5 x5_2) ∧ Aside0 (w'.heap[gb169]? = some (.cells #[(.slice A0_0 l0_0.length c0_0), (.slice A0_1 l0_1.length c0_1)] 70 (0, 0))) ∧ Aside0 (Below w.heap.size w w'))
     case atStart => exact ⟨(t178), (0), (by first | rfl | (simp; done) | (simp [*]; done)), H', ⟨Nat.le_refl _⟩, ⟨by (with_reducible repeat (first | apply Kd.R_alloc | apply Kd.R_drewN | apply Kd.R_drew)); exact HO180.out⟩, ⟨by (with_reducible repeat (first | refine blk_drewN ?_ _ | refine blk_drew ?_ | refine blk_alloc ?_ _)); exact BK169.out⟩, ⟨by repeat (first | (with_reducible first | exact HB.out | apply below_alloc | apply pw_below_drewN | apply below_drew1 | refine below_set ?_ GE169.out) | exact HB.out)⟩⟩
     case round =>
      clear H'
      (try clear c1); (try clear p1); (try clear q1); (try clear hx1); (try clear c2); (try clear p2); (try clear c3); (try clear c3b0); (try clear c3b1); (try clear c4); (try clear p6); (try clear c11); (try clear c11b0); (try clear c12); (try clear c12b0); (try clear c13); (try clear c13b0); (try clear p17); (try clear q17); (try clear hx17); (try clear hcz10_0); (try clear hcz10_1); (try clear hcz18_0); (try clear hcz18_1); (try clear hcz21_0); (try clear hcz21_1); (try clear hcz6_0); (try clear hcz6_1); (try clear hcz8_0); (try clear hcz8_1); (try clear hfz10_0); (try clear hfz10_1); (try clear hfz18_0); (try clear hfz18_1); (try clear hfz21_0); (try clear hfz21_1); (try clear hfz6_0); (try clear hfz6_1); (try clear hfz8_0); (try clear hfz8_1); (try clear hx174_0); (try clear p174); (try clear p2); (try clear q174)
      obtain ⟨x5_2, x38_2, rfl, HA, HK2, HO_5, BK169, HB⟩ := hrel
      cases gk with
      |zero => exact absurd HA.out (by simp [pack_Encode.l1])
      |succ k2 =>
       have H := HA.out
       clear HA
       simp only [pack_Encode.l1] at H
       by_cases c22 : x38_2 < (l0_1.length : Int)
       ·rw [if_pos c22] at H
        have c22b0 : decide (x38_2 < (l0_1.length : Int)) = true := decide_eq_true c22
        clear c22
        by_cases c23 : 0 ≤ x38_2
        ·rw [if_pos c23] at H
         have c23b0 : decide (0 ≤ x38_2) = true := decide_eq_true c23
         clear c23
         by_cases c24 : x38_2 < (l0_1.length : Int)
         ·rw [if_pos c24] at H
          have c24b0 : decide (x38_2 < (l0_1.length : Int)) = true := decide_eq_true c24
          clear c24
          replace H := Option.bind_eq_some_iff.mp H
          obtain ⟨t182, A250, H⟩ := H
          replace H : (if t182.length + (rdOf ByteArray.empty l0_1 x38_2).size < 140737488355328 then (pack_Encode.l1 k2 (t182 ++ bytesOf (rdOf ByteArray.empty l0_1 x38_2)) l0_1 (l0_1.length : Int) (wrap64 (x38_2 + 1))) else (none)) = some (r1, r2) := H
          have A25 := Aside0.mk A250
          clear A250
          by_cases c26 : t182.length + (rdOf ByteArray.empty l0_1 x38_2).size < 140737488355328
          ·rw [if_pos c26] at H
           have LMc26 := Aside0.mk c26
           clear c26
           obtain ⟨y185, hy185⟩ : ∃ y_ : List Int, y_ = (t182 ++ bytesOf (rdOf ByteArray.empty l0_1 x38_2)) := ⟨_, rfl⟩
           replace H : (pack_Encode.l1 k2 y185 l0_1 (l0_1.length : Int) (wrap64 (x38_2 + 1))) = some (r1, r2) := by first | (rw [hy185]; with_reducible exact H) | (have H2_ := (Option.bind_some _ _).symm.trans H; rw [hy185]; with_reducible exact H2_) | (have H2_ := (Option.bind_some _ _).symm.trans H; with_reducible exact H2_) | with_reducible exact H | (rw [hy185]; exact H) | exact H
           have Ny185 := Aside0.mk hy185
           clear hy185
           have H' := Aside0.mk H
           clear H
           have p181 : 0 ≤ (x38_2 : Int) := of_decide_eq_true (by first | (with_reducible assumption) | assumption)
           have q181 : x38_2 < (l0_1.length : Int) := of_decide_eq_true (by first | (with_reducible assumption) | assumption)
           obtain ⟨ad181, e181, hx181_0⟩ := Kd.at_string HR0_1.out x38_2 p181 q181
           cases e181
           replace hx181_0 := (HB.out.cell (World.block_lt_of_cell? w _ hx181_0)).trans hx181_0
           replace p181 := eq_true p181
           replace q181 := eq_true q181
           obtain ⟨Ao27, co27, eo27⟩ := Kd.R_slice HO_5.out
           subst eo27
           go_wp2_with (first | ((with_reducible refine gate_callee (f := 48) rfl ?_); refine goesL_ (some 45) rfl rfl Try.func48 (by kernel_rfl) rfl #[.slice Ao27 x5_2.length co27, .int .i64 ((rdOf ByteArray.empty l0_1 x38_2).size : Int)] rfl (by (try simp only [List.map_toArray, List.map_cons, List.map_nil]); first | done | rfl | (simp only [List.length_drop, List.length_take]; rfl)) ?_; (with_reducible refine (pack_put_int.calls k2 (fun k_ => some k_ = (.slice Ao27 x5_2.length co27 : Value).ownBlock) (.slice Ao27 x5_2.length co27) x5_2 ((rdOf ByteArray.empty l0_1 x38_2).size : Int) t182 w _ ?side1 ?side2 A25.out).mono ?_); (case side1 => repeat (first | (with_reducible first | exact HB.out | apply below_alloc | apply pw_below_drewN | apply below_drew1 | refine below_set ?_ GE169.out) | exact HB.out)); (case side2 => exact Kd.R_tight rfl HO_5.out); rintro e w28 ⟨v183, rfl, ho0, hb, hkp⟩; refine ⟨_, rfl, ?_⟩; have n0_ := Aside0.mk (blk_kept (by (with_reducible repeat (first | refine blk_drewN ?_ _ | refine blk_drew ?_ | refine blk_alloc ?_ _)); exact BK169.out) hkp (fun hs_ => (fun e_ => (Kd.R_ne HO_5.out BK169.out (by decide)) e_) hs_)); have n1_ := Aside0.mk (Kd.R_mono (ok' := fun k_ => True) ho0 (fun k_ hk_ => trivial)); have n2_ := Aside0.mk (hb); clear BK169; clear HB; clear HO_5; have BK169 := n0_; have HO184 := n1_; have HB := n2_; clear n0_ n1_ n2_; (try clear hb); (try clear hkp); (try clear ho0)) | (at_builtin; refine print_append_str (w0 := w) w.heap.size rfl (.tmp 45) _ 86 9 5 rfl Try.underlying86 Try.underlying9 info5 v183 t182 (rdOf ByteArray.empty l0_1 x38_2) rfl rfl ?aO ?aB ?aS ?aL ?_; (case aB => exact (by repeat (first | (with_reducible first | exact HB.out | apply below_alloc | apply pw_below_drewN | apply below_drew1 | refine below_set ?_ GE169.out) | exact HB.out))); (case aO => exact (Kd.own_of_R (by (with_reducible repeat (first | apply Kd.R_alloc | apply Kd.R_drewN | apply Kd.R_drew)); exact HO184.out))); (case aS => exact (below_size (by repeat (first | (with_reducible first | exact HB.out | apply below_alloc | apply pw_below_drewN | apply below_drew1 | refine below_set ?_ GE169.out) | exact HB.out)))); (case aL => have := LMc26.out; omega); intro v186 w29 ho0 hb hg; have ho := Kd.R_of_own (h1 := fun _ => rfl) (ok := fun _ => True) ho0 (fun _ _ => trivial); clear ho0; have hat := True.intro; rw [← Ny185.out] at ho; change Kd.R (Kd.int .u8) 5 w29 w.heap.size (fun _ => True) v186 y185 at ho; have n0_ := Aside0.mk (blk_grown (g := gb169) (o := .cells #[.slice A0_0 l0_0.length c0_0, .slice (some ad181) l0_1.length c0_1] 70 (0, 0)) (by (with_reducible repeat (first | refine blk_drewN ?_ _ | refine blk_drew ?_ | refine blk_alloc ?_ _)); exact BK169.out) hg (Kd.R_ne HO184.out BK169.out (by decide))); have n1_ := Aside0.mk (hb); have n2_ := Aside0.mk (ho); clear BK169; clear HB; clear HO184; have BK169 := n0_; have HB := n1_; have HO187 := n2_; clear n0_ n1_ n2_; clear ho hb hg hat))
           go_roundg k2
           case measure => have := HK1.out; have := HK2.out; omega
           case rel => exact ⟨(y185), (wrap64 (x38_2 + 1)), (by first | rfl | (simp; done) | (simp [*]; done)), H', ⟨by have := HK1.out; have := HK2.out; omega⟩, ⟨by (with_reducible repeat (first | apply Kd.R_alloc | apply Kd.R_drewN | apply Kd.R_drew)); exact HO187.out⟩, ⟨by (with_reducible repeat (first | refine blk_drewN ?_ _ | refine blk_drew ?_ | refine blk_alloc ?_ _)); exact BK169.out⟩, ⟨by repeat (first | (with_reducible first | exact HB.out | apply below_alloc | apply pw_below_drewN | apply below_drew1 | refine below_set ?_ GE169.out) | exact HB.out)⟩⟩
          ·rw [if_neg c26] at H
           exact absurd H (by simp)
         ·rw [if_neg c24] at H
          exact absurd H (by simp)
        ·rw [if_neg c23] at H
         exact absurd H (by simp)
       ·rw [if_neg c22] at H
        have c22b0 : decide (x38_2 < (l0_1.length : Int)) = false := decide_eq_false c22
        clear c22
        simp only [Option.some.injEq, Prod.mk.injEq] at H
        obtain ⟨rfl, rfl⟩ := H
        have hcv30 := own_string (P := Try.prog) Try.underlying86 Try.underlying5 Try.underlying9 (Kd.own_of_R HO_5.out)
        go_wp2
        go_ret2
        exact ⟨by first | rfl | (simp [errW_none, errW_some] <;> rfl) | (simp [*, errW_none, errW_some] <;> rfl), by repeat (first | (with_reducible first | exact HB.out | apply below_alloc | apply pw_below_drewN | apply below_drew1 | refine below_set ?_ GE169.out) | exact HB.out)⟩
 ·rw [if_neg c3] at H
  have c3b0 : (t170 == 0) = false := beq_eq_false_iff_ne.mpr c3
  have c3b1 : (t170 != 0) = true := bne_iff_ne.mpr c3
  simp only [Option.some.injEq, Prod.mk.injEq] at H
  obtain ⟨rfl, rfl⟩ := H
  go_enter Try.func29, Try.ntmps29
  go_wp2_with (first | ((with_reducible refine gate_dst (N := 1) rfl ?_); refine box_event ?hg (N := 1) ?hd (cs := #[.slice A0_0 l0_0.length c0_0, .slice A0_1 l0_1.length c0_1]) (t := 70) ?hr ?_; (case hd => rfl); (case hg => rfl); (case hr => first | (go_simp; done) | (go_simp; rfl)); intro gb169 hg w31 hbox hb; have n0_ := Aside0.mk (below_step (by repeat (first | (with_reducible first | exact HB.out | apply below_alloc | apply pw_below_drewN | apply below_drew1) | exact HB.out)) hb); have n1_ := Aside0.mk (hbox); have n2_ := Aside0.mk ((by rw [hg]; exact (below_size (by repeat (first | (with_reducible first | exact HB.out | apply below_alloc | apply pw_below_drewN | apply below_drew1) | exact HB.out))) : w.heap.size ≤ gb169)); have n3_ := Aside0.mk ((by rw [hg]; exact (below_size (by repeat (first | (with_reducible first | exact HB.out | apply below_alloc | apply pw_below_drewN | apply below_drew1) | exact HB.out))) : w.heap.size ≤ gb169)); clear HB; have HB := n0_; have BK169 := n1_; have GW169 := n2_; have GE169 := n3_; clear n0_ n1_ n2_ n3_; clear hb hbox hg; have hcz32_0 : w31.cell? ⟨gb169, 0, none⟩ = some (.slice A0_0 l0_0.length c0_0) := (blk_cell BK169.out 0).trans rfl; have hcz32_1 : w31.cell? ⟨gb169, 1, none⟩ = some (.slice A0_1 l0_1.length c0_1) := (blk_cell BK169.out 1).trans rfl; have hfz32_0 := blk_frozen BK169.out 0; have hfz32_1 := blk_frozen BK169.out 1) | ((with_reducible refine gate_callee (f := 47) rfl ?_); refine goesL_ (some 11) rfl rfl Try.func47 (by kernel_rfl) rfl #[.agg #[.slice A0_0 l0_0.length c0_0, .slice A0_1 l0_1.length c0_1]] rfl (by (try simp only [List.map_toArray, List.map_cons, List.map_nil]); first | done | rfl | (simp only [List.length_drop, List.length_take]; rfl)) ?_; (with_reducible refine (pack_Check.calls k _ _ l0_0 _ _ l0_1 t170 _ ?side1 ?side2 ?side3 ?side4 A2.out).mono ?_); (case side1 => repeat (first | exact (Kd.C_below HR0_0.out HB.out) | (with_reducible refine Kd.C_alloc ?_ _) | (with_reducible refine Kd.C_drewN ?_ _) | (with_reducible refine Kd.C_drew ?_))); (case side2 => exact HC0_0.out); (case side3 => repeat (first | exact (Kd.C_below HR0_1.out HB.out) | (with_reducible refine Kd.C_alloc ?_ _) | (with_reducible refine Kd.C_drewN ?_ _) | (with_reducible refine Kd.C_drew ?_))); (case side4 => exact HC0_1.out); rintro e w33 ⟨rfl, hb⟩; refine ⟨_, rfl, ?_⟩; have n0_ := Aside0.mk (blk_below (g := gb169) (o := .cells #[.slice A0_0 l0_0.length c0_0, .slice A0_1 l0_1.length c0_1] 70 (0, 0)) (by (with_reducible repeat (first | refine blk_drewN ?_ _ | refine blk_drew ?_ | refine blk_alloc ?_ _)); exact BK169.out) hb); have n1_ := Aside0.mk (below_step (by repeat (first | (with_reducible first | exact HB.out | apply below_alloc | apply pw_below_drewN | apply below_drew1 | refine below_set ?_ GE169.out) | exact HB.out)) hb); clear BK169; clear HB; have BK169 := n0_; have HB := n1_; clear n0_ n1_; (try clear hb); (try clear hb2); (try clear hk); (try clear hi)))
  go_ret2
  exact ⟨by first | rfl | (simp [errW_none, errW_some] <;> rfl) | (simp [*, errW_none, errW_some] <;> rfl), by repeat (first | (with_reducible first | exact HB.out | apply below_alloc | apply pw_below_drewN | apply below_drew1 | refine below_set ?_ GE169.out) | exact HB.out)⟩
-- NOT PRINTED: function 18 (letter_Encode)
end Go.Proofs.Ytnbomedhehoflaa.Al

namespace Go.Proofs.Ytnbomedhehoflaa.PackFns
open Go.RowKit Go.Proofs.Ytnbomedhehoflaa.Base Go.Proofs.Ytnbomedhehoflaa.PackMath Go.Proofs.Ytnbomedhehoflaa.Al Go.Proofs.YtnbomedhehoflaaW.PrintWords
theorem may_eq (n : Int) : pack_may.f n = some (okNum n) := by
 unfold pack_may.f okNum
 by_cases h : n ≥ -4611686018427387904
 ·rw [if_pos h, decide_eq_true (show (-4611686018427387904 : Int) ≤ n from h)]; rfl
 ·rw [if_neg h, decide_eq_false (show ¬ (-4611686018427387904 : Int) ≤ n from h)]; rfl
theorem step_byte (n : Nat) : (((Int.tmod (n : Int) 128) % 256) + 128) % 256 = ((n % 128 + 128 : Nat) : Int) := by
 rw [Int.tmod_eq_emod_of_nonneg (by omega)]; omega
theorem step_rest (n : Nat) : Int.tdiv (n : Int) 128 = ((n / 128 : Nat) : Int) := by
 rw [Int.tdiv_eq_ediv_of_nonneg (by omega)]; omega
theorem put_int_l0 : ∀ (n : Nat) (xs : List Int), n < 9223372036854775808 → xs.length + (plain n).length ≤ 140737488355328 → Ev (fun k => pack_put_int.l0 k xs (n : Int)) (xs ++ plain n) := by
 intro n
 induction n using Nat.strongRecOn with
 |ind n ih =>
  intro xs hn hx
  by_cases h1 : n < 128
  ·rw [plain_small h1] at hx ⊢
   simp at hx
   refine Ev.step (fun k => by simp only [pack_put_int.l0]; rw [if_neg (by omega), if_pos (by omega)]) ?_
   rw [show (n : Int) % 256 = n from by omega]
   exact Ev.now _
  ·rw [plain_big (by omega)] at hx ⊢
   simp at hx
   refine Ev.step (fun k => by simp only [pack_put_int.l0]; rw [if_pos (by omega), if_pos (by omega)]) ?_
   rw [step_byte, step_rest, wrap_id (by omega) (by omega)]
   have := ih (n / 128) (by omega) (xs ++ [((n % 128 + 128 : Nat) : Int)]) (by omega) (by simp; omega)
   simpa using this
theorem put_u64_l0 : ∀ (n : Nat) (xs : List Int), n < 18446744073709551616 → xs.length + (plain n).length ≤ 140737488355328 → Ev (fun k => pack_put_uint64.l0 k xs (n : Int)) (xs ++ plain n) := by
 intro n
 induction n using Nat.strongRecOn with
 |ind n ih =>
  intro xs hn hx
  by_cases h1 : n < 128
  ·rw [plain_small h1] at hx ⊢
   simp at hx
   refine Ev.step (fun k => by simp only [pack_put_uint64.l0]; rw [if_neg (by omega), if_pos (by omega)]) ?_
   rw [show (n : Int) % 256 = n from by omega]
   exact Ev.now _
  ·rw [plain_big (by omega)] at hx ⊢
   simp at hx
   refine Ev.step (fun k => by simp only [pack_put_uint64.l0]; rw [if_pos (by omega), if_pos (by omega)]) ?_
   rw [step_byte, step_rest, IntKind.wrap_u64, show (((n / 128 : Nat) : Int) % 18446744073709551616) = ((n / 128 : Nat) : Int) from by omega]
   have := ih (n / 128) (by omega) (xs ++ [((n % 128 + 128 : Nat) : Int)]) (by omega) (by simp; omega)
   simpa using this
theorem put_int_ev (n : Nat) (xs : List Int) (hn : n < 9223372036854775808) (hx : xs.length ≤ 140737488355300) : Ev (fun k => pack_put_int.f k xs (n : Int)) (xs ++ plain n) :=
 put_int_l0 n xs hn (by have := plain_len9 hn; omega)
/-- The bits of a signed number, as the program turns them. -/
theorem zig_go (n : Int) (h0 : -4611686018427387904 ≤ n) (h1 : n ≤ 4611686018427387903) : Go.bits .xor .u64 (IntKind.u64.wrap ((IntKind.u64.wrap n) * 2)) (IntKind.u64.wrap (n / 9223372036854775808)) = (zig n : Int) := by
 rw [IntKind.wrap_u64, IntKind.wrap_u64, IntKind.wrap_u64]
 by_cases hn : n < 0
 ·obtain ⟨m, hm⟩ : ∃ m : Nat, n = -(m : Int) - 1 := ⟨(-n - 1).toNat, by omega⟩
  have e1 : (n % 18446744073709551616 * 2) % 18446744073709551616 = ((18446744073709551616 - 2 * (m + 1) : Nat) : Int) := by omega
  have e2 : (n / 9223372036854775808) % 18446744073709551616 = ((18446744073709551615 : Nat) : Int) := by omega
  rw [e1, e2, bits_xor_u64_nat _ _ (by omega) (by omega)]
  have e3 : (18446744073709551616 - 2 * (m + 1)) ^^^ 18446744073709551615 = 2 * m + 1 := by
   have hb := BitVec.toNat_not (x := BitVec.ofNat 64 (18446744073709551616 - 2 * (m + 1)))
   rw [← BitVec.xor_allOnes, BitVec.toNat_xor, BitVec.toNat_ofNat, BitVec.toNat_allOnes, Nat.mod_eq_of_lt (by omega)] at hb
   rw [show (18446744073709551615 : Nat) = 2 ^ 64 - 1 from rfl, hb]
   omega
  rw [e3]
  unfold zig
  rw [if_pos hn]
  omega
 ·have e1 : (n % 18446744073709551616 * 2) % 18446744073709551616 = (((2 * n).toNat : Nat) : Int) := by omega
  have e2 : (n / 9223372036854775808) % 18446744073709551616 = ((0 : Nat) : Int) := by omega
  rw [e1, e2, bits_xor_u64_nat _ _ (by omega) (by omega), Nat.xor_zero]
  unfold zig
  rw [if_neg hn]
theorem signed_ev (n : Int) (xs : List Int) (h0 : -4611686018427387904 ≤ n) (h1 : n ≤ 4611686018427387903) (hx : xs.length ≤ 140737488355300) : Ev (fun k => pack_signed.f k xs n) (xs ++ signed n) := by
 have hz := zig_lt h0 h1
 unfold pack_signed.f
 rw [zig_go n h0 h1]
 exact Ev.bind (put_u64_l0 (zig n) xs (by omega) (by have := plain_len9 hz; omega)) (Ev.now _)
/-- Check. -/
theorem check_l1 (texts : List ByteArray) (ht : texts.length ≤ 1024) : ∀ (d i : Nat), i + d = texts.length → Ev (fun k => pack_Check.l1 k texts (texts.length : Int) (i : Int)) (if (texts.drop i).all okText = false then 2 else 0)
 |0, i, h => by
  rw [List.drop_of_length_le (by omega), if_neg (by simp)]
  exact Ev.step (fun k => by simp only [pack_Check.l1]; rw [if_neg (by omega)]) (Ev.now _)
 |d + 1, i, h => by
  have hi : i < texts.length := by omega
  have e : wrap64 ((i : Int) + 1) = ((i + 1 : Nat) : Int) := by rw [wrap_id (by omega) (by omega)]; omega
  have hr : rdOf ByteArray.empty texts (i : Int) = texts[i] := by simp [rdOf, List.getD_eq_getElem?_getD, hi]
  have ih := check_l1 texts ht d (i + 1) (by omega)
  rw [List.drop_eq_getElem_cons hi, List.all_cons]
  refine Ev.step (fun k => by simp only [pack_Check.l1]; rw [if_pos (by omega), if_pos (by omega), if_pos (by omega), hr, e]) ?_
  by_cases hs : texts[i].size ≤ 4096
  ·rw [okText_iff.2 hs, Bool.true_and]
   exact Ev.neg (by omega) ih
  ·rw [show okText texts[i] = false from by simpa [okText] using hs, Bool.false_and, if_pos rfl]
   exact Ev.pos (by omega) (Ev.now _)
theorem check_l0 (nums : List Int) (texts : List ByteArray) (hn : nums.length ≤ 1024) (ht : texts.length ≤ 1024) : ∀ (d i : Nat), i + d = nums.length →
  Ev (fun k => pack_Check.l0 k nums (nums.length : Int) (i : Int) nums texts) (if (nums.drop i).all okNum = false then 1 else if texts.all okText = false then 2 else 0)
 |0, i, h => by
  rw [List.drop_of_length_le (by omega), if_neg (by simp)]
  refine Ev.step (fun k => by simp only [pack_Check.l0]; rw [if_neg (by omega)]) ?_
  simpa using check_l1 texts ht texts.length 0 (by omega)
 |d + 1, i, h => by
  have hi : i < nums.length := by omega
  have e : wrap64 ((i : Int) + 1) = ((i + 1 : Nat) : Int) := by rw [wrap_id (by omega) (by omega)]; omega
  have hr : rd nums (i : Int) = nums[i] := by simp [rd, List.getD_eq_getElem?_getD, hi]
  have ih := check_l0 nums texts hn ht d (i + 1) (by omega)
  rw [List.drop_eq_getElem_cons hi, List.all_cons]
  refine Ev.step (fun k => by simp only [pack_Check.l0]; rw [if_pos (by omega), if_pos (by omega), if_pos (by omega), hr, e, may_eq]) ?_
  cases ho : okNum nums[i] with
  |true => rw [Bool.true_and]; exact Ev.some_bind (Ev.pos rfl ih)
  |false => rw [Bool.false_and, if_pos rfl]; exact Ev.some_bind (Ev.neg (by simp) (Ev.now _))
theorem check_ev (nums : List Int) (texts : List ByteArray) : Ev (fun k => pack_Check.f k nums texts) (chk nums texts) := by
 unfold pack_Check.f chk
 by_cases h1 : 1024 < nums.length
 ·rw [if_pos (Or.inl h1)]
  exact Ev.pos (by omega) (Ev.step (fun k => by simp only [pack_Check.j0, if_true]) (Ev.now _))
 refine Ev.neg (by omega) ?_
 by_cases h2 : 1024 < texts.length
 ·rw [if_pos (Or.inr h2), decide_eq_true (by omega)]
  exact Ev.step (fun k => by simp only [pack_Check.j0, if_true]) (Ev.now _)
 rw [if_neg (by omega), decide_eq_false (by omega)]
 refine Ev.step (fun k => by simp only [pack_Check.j0]; rw [if_neg (by simp)]) ?_
 simpa using check_l0 nums texts (by omega) (by omega) nums.length 0 (by omega)
/-- Encode. -/
theorem enc_l1 (texts : List ByteArray) (ht : texts.length ≤ 1024) (hs : ∀ s ∈ texts, s.size ≤ 4096) : ∀ (d i : Nat) (xs : List Int), i + d = texts.length → xs.length + 4105 * d ≤ 100000000 →
  Ev (fun k => pack_Encode.l1 k xs texts (texts.length : Int) (i : Int)) (strOfNums (xs ++ tails (texts.drop i)), 0)
 |0, i, xs, h, hx => by
  rw [List.drop_of_length_le (by omega)]
  refine Ev.step (fun k => by simp only [pack_Encode.l1]; rw [if_neg (by omega)]) ?_
  rw [show tails [] = [] from rfl, List.append_nil]
  exact Ev.now _
 |d + 1, i, xs, h, hx => by
  have hi : i < texts.length := by omega
  have e : wrap64 ((i : Int) + 1) = ((i + 1 : Nat) : Int) := by rw [wrap_id (by omega) (by omega)]; omega
  have hr : rdOf ByteArray.empty texts (i : Int) = texts[i] := by simp [rdOf, List.getD_eq_getElem?_getD, hi]
  have hz := hs _ (List.getElem_mem hi)
  have hp : (plain texts[i].size).length ≤ 9 := plain_len9 (by omega)
  have ih := enc_l1 texts ht hs d (i + 1) (xs ++ plain texts[i].size ++ bytesOf texts[i]) (by omega) (by simp only [List.length_append, bytesOf_length]; omega)
  rw [List.drop_eq_getElem_cons hi]
  have et : tails (texts[i] :: texts.drop (i + 1)) = plain texts[i].size ++ bytesOf texts[i] ++ tails (texts.drop (i + 1)) := rfl
  rw [et]
  refine Ev.step (fun k => by simp only [pack_Encode.l1]; rw [if_pos (by omega), if_pos (by omega), if_pos (by omega), hr, e]) ?_
  refine Ev.bind (put_int_ev texts[i].size xs (by omega) (by omega)) (Ev.pos (by rw [List.length_append]; omega) ?_)
  simpa using ih
theorem enc_l0 (nums : List Int) (texts : List ByteArray) (hn : nums.length ≤ 1024) (ht : texts.length ≤ 1024) (hm : ∀ n ∈ nums, -4611686018427387904 ≤ n ∧ n ≤ 4611686018427387903) (hs : ∀ s ∈ texts, s.size ≤ 4096) : ∀ (d i : Nat) (xs : List Int), i + d = nums.length → xs.length + 9 * d ≤ 10000000 →
  Ev (fun k => pack_Encode.l0 k xs nums (nums.length : Int) (i : Int) nums texts) (strOfNums (xs ++ body (nums.drop i) ++ plain texts.length ++ tails texts), 0)
 |0, i, xs, h, hx => by
  rw [List.drop_of_length_le (by omega)]
  have hp : (plain texts.length).length ≤ 9 := plain_len9 (by omega)
  refine Ev.step (fun k => by simp only [pack_Encode.l0]; rw [if_neg (by omega)]) ?_
  refine Ev.bind (put_int_ev texts.length xs (by omega) (by omega)) ?_
  have := enc_l1 texts ht hs texts.length 0 (xs ++ plain texts.length) (by omega) (by rw [List.length_append]; omega)
  simpa [body] using this
 |d + 1, i, xs, h, hx => by
  have hi : i < nums.length := by omega
  have e : wrap64 ((i : Int) + 1) = ((i + 1 : Nat) : Int) := by rw [wrap_id (by omega) (by omega)]; omega
  have hr : rd nums (i : Int) = nums[i] := by simp [rd, List.getD_eq_getElem?_getD, hi]
  have hz := hm _ (List.getElem_mem hi)
  have hp : (signed nums[i]).length ≤ 9 := plain_len9 (zig_lt hz.1 hz.2)
  have ih := enc_l0 nums texts hn ht hm hs d (i + 1) (xs ++ signed nums[i]) (by omega) (by rw [List.length_append]; omega)
  rw [List.drop_eq_getElem_cons hi]
  have et : body (nums[i] :: nums.drop (i + 1)) = signed nums[i] ++ body (nums.drop (i + 1)) := rfl
  rw [et]
  refine Ev.step (fun k => by simp only [pack_Encode.l0]; rw [if_pos (by omega), if_pos (by omega), if_pos (by omega), hr, e]) ?_
  refine Ev.bind (signed_ev nums[i] xs hz.1 hz.2 (by omega)) ?_
  simpa using ih
/-- What Encode answers. -/
def encB (nums : List Int) (texts : List ByteArray) : ByteArray × Int := if chk nums texts = 0 then (strOfNums (enc nums texts), 0) else (⟨#[]⟩, chk nums texts)
theorem encode_ev (nums : List Int) (texts : List ByteArray) : Ev (fun k => pack_Encode.f k nums texts) (encB nums texts) := by
 unfold pack_Encode.f encB
 refine Ev.bind (check_ev nums texts) ?_
 by_cases h : chk nums texts = 0
 ·obtain ⟨h1, h2, h3, h4⟩ := chk_ok h
  rw [if_pos h]
  have hp : (plain nums.length).length ≤ 9 := plain_len9 (by omega)
  refine Ev.pos h (Ev.bind (put_int_ev nums.length [] (by omega) (by simp)) ?_)
  have := enc_l0 nums texts h1 h2 h3 h4 nums.length 0 ([] ++ plain nums.length) (by omega) (by simp; omega)
  simpa [enc] using this
 ·rw [if_neg h]
  exact Ev.neg h (Ev.now _)
end Go.Proofs.Ytnbomedhehoflaa.PackFns

namespace Go.Proofs.RegT
open Go
section
variable {P : Program} {ops : Array Oper} {Q : Exit → Act → World → Prop} {md : Region.Mode} {S : World → Prop} {s : Nat}
/-- Whatever order is picked; S holds behind each operation, as long as s has not come up. -/
def AnyT (P : Program) (md : Region.Mode) (ops : Array Oper) (Q : Exit → Act → World → Prop) (S : World → Prop) (s : Nat) : Nat → Array Bool → Act → World → Prop
 |0, l, a, w => Region.ready md ops l = [] ∧ Q .normal a w
 |f + 1, l, a, w => (Region.ready md ops l = [] → Q .normal a w) ∧ ∀ i ∈ Region.ready md ops l, wpOp P ops Q i (fun a' w' => ((l.setIfInBounds i true).getD s true = false → S w') ∧ AnyT P md ops Q S s f (l.setIfInBounds i true) a' w') a w
theorem AnyT.any : ∀ {f : Nat} {l : Array Bool} {a : Act} {w : World}, AnyT P md ops Q S s f l a w → wpAny P md ops Q f l a w
 |0, _, _, _, h => h
 |_ + 1, _, _, _, h => ⟨h.1, fun i hi => wpOp_mono (fun _ _ h' => AnyT.any h'.2) (h.2 i hi)⟩
/-- What waits for i, through others too. -/
def behind (md : Region.Mode) (ops : Array Oper) (i : Nat) : List Nat :=
 (List.range ops.size).foldl (fun acc c => if (i :: acc).any (fun d => Region.waitsFor md ops c d) then c :: acc else acc) []
/-- s waits for i, through others too, and none of these has come up. -/
def tillB (md : Region.Mode) (ops : Array Oper) (s : Nat) (l : Array Bool) (i : Nat) : Bool :=
 (behind md ops i).contains s && (behind md ops i).all fun c => (i :: behind md ops i).any (fun d => Region.waitsFor md ops c d) && (decide (c ≠ i) && !l.getD c true)
theorem AnyT.first {i : Nat} {oi : Oper} {v : Value} (hi : ops[i]? = some oi) (hsel : ∀ (j : Nat) (o : Oper) cs b, ops[j]? = some o → o.op ≠ .select cs b) (hQ : ∀ c a w, Q (.panic c) (a.put oi.dst v) w → Q (.panic c) a w) {ch : List Nat} (hsc : s ∈ ch) (hw : ∀ c ∈ ch, c ≠ i ∧ ∃ d ∈ i :: ch, Region.waitsFor md ops c d = true) :
  ∀ (f : Nat) (l : Array Bool) (a : Act) (w : World), (∀ j oj, ops[j]? = some oj → j ≠ i → l.getD j true = false → (∀ e ∈ oj.after, Region.binds md e = true → e.on ≠ i) → oi.apart ops oj = true) → i ∈ Region.ready md ops l → YieldsIf P ops S oi v a → S w → (∀ c ∈ ch, l.getD c true = false) → AnyT P md ops Q S s f (l.setIfInBounds i true) (a.put oi.dst v) w → AnyT P md ops Q S s (f + 1) l a w := by
 intro f
 induction f with
 |zero =>
  intro l a w _ hr hy hS hl H
  refine ⟨fun h => (by rw [h] at hr; cases hr), fun j hj => ?_⟩
  by_cases hji : j = i
  ·subst hji
   exact hy.wpOp hi hS ⟨fun _ => hS, H⟩
  ·have h1 := ready_mono hj hji
   rw [H.1] at h1
   cases h1
 |succ f ih =>
  intro l a w hfree hr hy hS hl H
  refine ⟨fun h => (by rw [h] at hr; cases hr), fun j hj => ?_⟩
  by_cases hji : j = i
  ·subst hji
   exact hy.wpOp hi hS ⟨fun _ => hS, H⟩
  ·have h1 := H.2 j (ready_mono hj hji)
   obtain ⟨hun, oj, hoj, hall⟩ := mem_ready.1 hj
   have hno' : ∀ d, l.getD d true = false → ∀ e ∈ oj.after, Region.binds md e = true → e.on ≠ d := fun d h3 e he hb heq => by
    have h2 := hall e he hb
    rw [heq] at h2
    rcases Nat.lt_or_ge d l.size with h' | h'
    ·simp [h'] at h2 h3
     rw [h3] at h2
     cases h2
    ·simp [Array.getElem?_eq_none h'] at h2
   have hno := hno' i (mem_ready.1 hr).1
   have hjc : j ∉ ch := by
    intro hjc
    obtain ⟨_, d, hd, hwd⟩ := hw j hjc
    obtain ⟨o2, ho2, e, he, hb, hon⟩ := Region.waitsFor_spec hwd
    rw [hoj] at ho2
    cases ho2
    rcases List.mem_cons.1 hd with rfl | hd
    ·exact hno e he hb hon
    ·exact hno' d (hl d hd) e he hb hon
   have hjs : j ≠ s := fun h => hjc (h ▸ hsc)
   have hsi : s ≠ i := (hw s hsc).1
   have h2 := wpOp_putIf hoj (hfree j oj hoj hji hun hno) (fun cs b => hsel i oi cs b hi) (fun cs b => hsel j oj cs b hoj) hQ hy h1
   refine wpOp_mono (fun a' w' h3 => ?_) h2
   obtain ⟨hy', hs', hA⟩ := h3
   rw [getD_set_ne true hjs, getD_set_ne true (Ne.symm hsi)] at hs'
   refine ⟨fun h4 => hs' (by rwa [getD_set_ne true hjs] at h4), ?_⟩
   refine ih (l.setIfInBounds j true) a' w' (fun k ok hk hki hun' hno' => hfree k ok hk hki ?_ hno') (ready_mono hr (Ne.symm hji)) hy' (hs' (hl s hsc)) (fun c hc => (getD_set_ne true (fun h : j = c => hjc (by rw [h]; exact hc))).trans (hl c hc)) ?_
   ·by_cases hjk : j = k
    ·subst hjk; exact hun
    ·rwa [getD_set_ne true hjk] at hun'
   ·rw [Array.setIfInBounds_comm _ _ hji]
    exact hA
theorem AnyT.take {i : Nat} {oi : Oper} {v : Value} {f : Nat} {l : Array Bool} {a : Act} {w : World} (hi : ops[i]? = some oi) (hs : Region.noSelect ops = true) (hf : Region.free md ops l i = true) (hr : (Region.ready md ops l).contains i = true) (hw : tillB md ops s l i = true)
  (hQ : ∀ c a w, Q (.panic c) (a.put oi.dst v) w → Q (.panic c) a w) (hy : YieldsIf P ops S oi v a) (hS : S w) (h : AnyT P md ops Q S s f (l.setIfInBounds i true) (a.put oi.dst v) w) : AnyT P md ops Q S s (f + 1) l a w := by
 unfold tillB at hw
 rw [Bool.and_eq_true, List.all_eq_true] at hw
 obtain ⟨h1, h2⟩ := hw
 have h3 : ∀ c ∈ behind md ops i, (i :: behind md ops i).any (fun d => Region.waitsFor md ops c d) = true ∧ c ≠ i ∧ l.getD c true = false := fun c hc => by
  have := h2 c hc
  rw [Bool.and_eq_true, Bool.and_eq_true] at this
  exact ⟨this.1, by simpa using this.2.1, by simpa using this.2.2⟩
 exact AnyT.first hi (Region.noSelect_spec hs) hQ (ch := behind md ops i) (by simpa using h1) (fun c hc => ⟨(h3 c hc).2.1, by simpa using List.any_eq_true.1 (h3 c hc).1⟩) f l a w (Region.free_spec hi hf) (by simpa using hr) hy hS (fun c hc => (h3 c hc).2.2) h
/-- Each of these comes up next. -/
def AllT (P : Program) (md : Region.Mode) (ops : Array Oper) (Q : Exit → Act → World → Prop) (S : World → Prop) (s f : Nat) (l : Array Bool) (a : Act) (w : World) (rs : List Nat) : Prop :=
 ∀ i ∈ rs, wpOp P ops Q i (fun a' w' => ((l.setIfInBounds i true).getD s true = false → S w') ∧ AnyT P md ops Q S s f (l.setIfInBounds i true) a' w') a w
theorem AllT.nil {f : Nat} {l : Array Bool} {a : Act} {w : World} : AllT P md ops Q S s f l a w [] := fun _ h => by cases h
theorem AllT.cons {f : Nat} {l : Array Bool} {a : Act} {w : World} {i : Nat} {o : Oper} {rs : List Nat} (ho : ops[i]? = some o)
  (h : ∀ K' : Act → World → Prop, Shut (∀ a w, ((l.setIfInBounds i true).getD s true = false → S w) → AnyT P md ops Q S s f (l.setIfInBounds i true) a w → K' a w) → if Region.wanted o (yielded ops a.tmps) = true then Oper.wp P o a w K' Q else K' (a.put o.dst undef) w)
  (hs : AllT P md ops Q S s f l a w rs) : AllT P md ops Q S s f l a w (i :: rs) := fun j hj => by
 rcases List.mem_cons.1 hj with rfl | hj
 ·exact wpOp_step ho (fun K' hK => h K' (fun a w hS hW => hK a w ⟨hS, hW⟩))
 ·exact hs j hj
theorem AnyT.ready {rs : List Nat} {f : Nat} {l : Array Bool} {a : Act} {w : World} (hr : Region.ready md ops l = rs) (hne : rs ≠ []) (h : AllT P md ops Q S s f l a w rs) : AnyT P md ops Q S s (f + 1) l a w :=
 ⟨fun h0 => absurd (hr ▸ h0) hne, hr ▸ h⟩
theorem AnyT.done {l : Array Bool} {a : Act} {w : World} (hr : Region.ready md ops l = []) (h : Q .normal a w) : ∀ f, AnyT P md ops Q S s f l a w
 |0 => ⟨hr, h⟩
 |_ + 1 => ⟨fun _ => h, by rw [hr]; simp⟩
theorem rt_begin {id : Nat} {a : Act} {w : World} (hm : P.follows .mixedOrders = true) (h : AnyT P .any ops Q S s ops.size (Array.replicate ops.size false) a w.drew) : (Code.region id ops true).wp P Q a w :=
 wp_region_any hm h.any
end
theorem ofDrop {ops : Array Oper} {i : Nat} {oi : Oper} {rest : List Oper} (h : ops.toList.drop i = oi :: rest) : ops[i]? = some oi := by
 have h1 : (ops.toList.drop i)[0]? = some oi := by rw [h]; rfl
 rw [List.getElem?_drop] at h1
 simpa using h1
section
variable {P : Program} {ops : Array Oper} {Q : Exit → Act → World → Prop} {md : Region.Mode} {S : World → Prop} {s : Nat}
theorem AnyT.taken {i : Nat} {oi : Oper} {rest : List Oper} {v : Value} {f : Nat} {l : Array Bool} {a : Act} {w : World} (hi : ops.toList.drop i = oi :: rest) (hs : Region.noSelect ops = true) (hf : Region.free md ops l i = true) (hr : (Region.ready md ops l).contains i = true) (hw : tillB md ops s l i = true)
  (hQ : ∀ c a w, Q (.panic c) (a.put oi.dst v) w → Q (.panic c) a w) (hy : YieldsIf P ops S oi v a) (hS : S w) (h : AnyT P md ops Q S s f (l.setIfInBounds i true) (a.put oi.dst v) w) : AnyT P md ops Q S s (f + 1) l a w :=
 AnyT.take (ofDrop hi) hs hf hr hw hQ hy hS h
theorem AllT.step {f : Nat} {l : Array Bool} {a : Act} {w : World} {i : Nat} {o : Oper} {rest : List Oper} {rs : List Nat} (ho : ops.toList.drop i = o :: rest)
  (h : ∀ K' : Act → World → Prop, Shut (∀ a w, ((l.setIfInBounds i true).getD s true = false → S w) → AnyT P md ops Q S s f (l.setIfInBounds i true) a w → K' a w) → if Region.wanted o (yielded ops a.tmps) = true then Oper.wp P o a w K' Q else K' (a.put o.dst undef) w)
  (hs : AllT P md ops Q S s f l a w rs) : AllT P md ops Q S s f l a w (i :: rs) := AllT.cons (ofDrop ho) h hs
/-- s has come up: S need not be shown. -/
theorem past {l : Array Bool} {p : Prop} (h : l.getD s true = true) : l.getD s true = false → p := fun h' => by rw [h] at h'; cases h'
end
end Go.Proofs.RegT
