/- letter.Check by its contract: 0 just for letters that may be (LetSpec.chkL), else 70. An own text in the printer's form. -/
import Derived.Test.YtelgpkbnahgdoaaLetSpec
namespace Go.Proofs.Ytelgpkbnahgdoaa.Al
open Go.RowKit Go.Proofs.Ytelgpkbnahgdoaa.Base Go.Proofs.Ytelgpkbnahgdoaa.LetSpec Go.Proofs.YtelgpkbnahgdoaaW.PrintWords Go.Proofs.YtelgpkbnahgdoaaW.PrintLast Go.Proofs.YtelgpkbnahgdoaaW.PrintMore
set_option linter.unusedVariables false
set_option linter.unusedSimpArgs false
def letter_Check.f (a0_0 : Int) (a0_1 : Int) (a0_2 : Int) (a0_3 : Int) (a0_4 : Int) (a0_5 : Int) (a0_6 : ByteArray) (l0_7 : List ByteArray) (l0_8 : List (S49)) : Option Int := if l0_7.length ≤ 8796093022000 ∧ l0_8.length ≤ 8796093022000 then some (chkL a0_0 a0_1 a0_2 a0_3 a0_4 a0_5 a0_6 l0_7 l0_8) else none
theorem add_zero_ (a : Addr) : a.add 0 = a := by unfold Addr.add; simp
section
variable (a0_0 : Int) (a0_1 : Int) (a0_2 : Int) (a0_3 : Int) (a0_4 : Int) (a0_5 : Int) (a0_6 : ByteArray) (A0_7 : Option Addr) (c0_7 : Nat) (l0_7 : List ByteArray) (A0_8 : Option Addr) (c0_8 : Nat) (l0_8 : List (S49)) (w : World)
set_option maxHeartbeats 8000000 in
set_option maxRecDepth 100000 in
theorem check_bad0  (g0 : ¬ (addrB a0_1 = true)) :
    Calls Try.prog 13 #[.agg #[.int .i64 a0_0, .int .i64 a0_1, .int .i64 a0_2, .int .i64 a0_3, .int .i64 a0_4, .int .i64 a0_5, .string a0_6, .slice A0_7 l0_7.length c0_7, .slice A0_8 l0_8.length c0_8]] w fun e w' => e = .returned (.int .i64 70) ∧ Below w.heap.size w w' := by
  have hu25 := Try.underlying25
  have d0 : addrB a0_1 = false := by simpa using g0
  clear g0
  go_enter Try.func13, Try.ntmps13
  go_wp2_with (first | ((with_reducible refine gate_dst (N := 1) rfl ?_); refine box_event ?hg (N := 1) ?hd (cs := #[.int .i64 a0_0, .int .i64 a0_1, .int .i64 a0_2, .int .i64 a0_3, .int .i64 a0_4, .int .i64 a0_5, .string a0_6, .slice A0_7 l0_7.length c0_7, .slice A0_8 l0_8.length c0_8]) (t := 25) ?hr ?_; (case hd => rfl); (case hg => rfl); (case hr => first | (go_simp; done) | (go_simp; rfl)); intro gl hgl w1 hbox hb; have HB := Aside0.mk hb; have BL := Aside0.mk hbox; clear hgl hb hbox; have hcz_0 : w1.cell? ⟨gl, 0, none⟩ = some (.int .i64 a0_0) := (blk_cell BL.out 0).trans rfl; have hcz_1 : w1.cell? ⟨gl, 1, none⟩ = some (.int .i64 a0_1) := (blk_cell BL.out 1).trans rfl; have hcz_2 : w1.cell? ⟨gl, 2, none⟩ = some (.int .i64 a0_2) := (blk_cell BL.out 2).trans rfl; have hcz_3 : w1.cell? ⟨gl, 3, none⟩ = some (.int .i64 a0_3) := (blk_cell BL.out 3).trans rfl; have hcz_4 : w1.cell? ⟨gl, 4, none⟩ = some (.int .i64 a0_4) := (blk_cell BL.out 4).trans rfl; have hcz_5 : w1.cell? ⟨gl, 5, none⟩ = some (.int .i64 a0_5) := (blk_cell BL.out 5).trans rfl; have hcz_6 : w1.cell? ⟨gl, 6, none⟩ = some (.string a0_6) := (blk_cell BL.out 6).trans rfl; have hcz_7 : w1.cell? ⟨gl, 7, none⟩ = some (.slice A0_7 l0_7.length c0_7) := (blk_cell BL.out 7).trans rfl; have hcz_8 : w1.cell? ⟨gl, 8, none⟩ = some (.slice A0_8 l0_8.length c0_8) := (blk_cell BL.out 8).trans rfl) | (go_at_call 28; refine (address_calls _ _).mono ?_; rintro e w' ⟨rfl, nd, rfl⟩; (try first | exact ⟨rfl, _, World.drewN_drewN _ _ _⟩)))
  go_ret
  exact ⟨rfl, by repeat (first | exact HB.out | refine pw_below_drewN ?_ _)⟩
set_option maxHeartbeats 8000000 in
set_option maxRecDepth 100000 in
theorem check_bad1 (g0 : addrB a0_1 = true) (g1 : ¬ (addrB a0_2 = true)) :
    Calls Try.prog 13 #[.agg #[.int .i64 a0_0, .int .i64 a0_1, .int .i64 a0_2, .int .i64 a0_3, .int .i64 a0_4, .int .i64 a0_5, .string a0_6, .slice A0_7 l0_7.length c0_7, .slice A0_8 l0_8.length c0_8]] w fun e w' => e = .returned (.int .i64 70) ∧ Below w.heap.size w w' := by
  have hu25 := Try.underlying25
  have d0 : addrB a0_1 = true := g0
  have d1 : addrB a0_2 = false := by simpa using g1
  clear g0 g1
  go_enter Try.func13, Try.ntmps13
  go_wp2_with (first | ((with_reducible refine gate_dst (N := 1) rfl ?_); refine box_event ?hg (N := 1) ?hd (cs := #[.int .i64 a0_0, .int .i64 a0_1, .int .i64 a0_2, .int .i64 a0_3, .int .i64 a0_4, .int .i64 a0_5, .string a0_6, .slice A0_7 l0_7.length c0_7, .slice A0_8 l0_8.length c0_8]) (t := 25) ?hr ?_; (case hd => rfl); (case hg => rfl); (case hr => first | (go_simp; done) | (go_simp; rfl)); intro gl hgl w1 hbox hb; have HB := Aside0.mk hb; have BL := Aside0.mk hbox; clear hgl hb hbox; have hcz_0 : w1.cell? ⟨gl, 0, none⟩ = some (.int .i64 a0_0) := (blk_cell BL.out 0).trans rfl; have hcz_1 : w1.cell? ⟨gl, 1, none⟩ = some (.int .i64 a0_1) := (blk_cell BL.out 1).trans rfl; have hcz_2 : w1.cell? ⟨gl, 2, none⟩ = some (.int .i64 a0_2) := (blk_cell BL.out 2).trans rfl; have hcz_3 : w1.cell? ⟨gl, 3, none⟩ = some (.int .i64 a0_3) := (blk_cell BL.out 3).trans rfl; have hcz_4 : w1.cell? ⟨gl, 4, none⟩ = some (.int .i64 a0_4) := (blk_cell BL.out 4).trans rfl; have hcz_5 : w1.cell? ⟨gl, 5, none⟩ = some (.int .i64 a0_5) := (blk_cell BL.out 5).trans rfl; have hcz_6 : w1.cell? ⟨gl, 6, none⟩ = some (.string a0_6) := (blk_cell BL.out 6).trans rfl; have hcz_7 : w1.cell? ⟨gl, 7, none⟩ = some (.slice A0_7 l0_7.length c0_7) := (blk_cell BL.out 7).trans rfl; have hcz_8 : w1.cell? ⟨gl, 8, none⟩ = some (.slice A0_8 l0_8.length c0_8) := (blk_cell BL.out 8).trans rfl) | (go_at_call 28; refine (address_calls _ _).mono ?_; rintro e w' ⟨rfl, nd, rfl⟩; (try first | exact ⟨rfl, _, World.drewN_drewN _ _ _⟩)))
  go_ret
  exact ⟨rfl, by repeat (first | exact HB.out | refine pw_below_drewN ?_ _)⟩
set_option maxHeartbeats 8000000 in
set_option maxRecDepth 100000 in
theorem check_bad2 (g0 : addrB a0_1 = true) (g1 : addrB a0_2 = true) (g2 : ¬ (1 ≤ a0_3)) :
    Calls Try.prog 13 #[.agg #[.int .i64 a0_0, .int .i64 a0_1, .int .i64 a0_2, .int .i64 a0_3, .int .i64 a0_4, .int .i64 a0_5, .string a0_6, .slice A0_7 l0_7.length c0_7, .slice A0_8 l0_8.length c0_8]] w fun e w' => e = .returned (.int .i64 70) ∧ Below w.heap.size w w' := by
  have hu25 := Try.underlying25
  have d0 : addrB a0_1 = true := g0
  have d1 : addrB a0_2 = true := g1
  have d2 : decide (a0_3 < 1) = true := decide_eq_true (by omega)
  clear g0 g1 g2
  go_enter Try.func13, Try.ntmps13
  go_wp2_with (first | ((with_reducible refine gate_dst (N := 1) rfl ?_); refine box_event ?hg (N := 1) ?hd (cs := #[.int .i64 a0_0, .int .i64 a0_1, .int .i64 a0_2, .int .i64 a0_3, .int .i64 a0_4, .int .i64 a0_5, .string a0_6, .slice A0_7 l0_7.length c0_7, .slice A0_8 l0_8.length c0_8]) (t := 25) ?hr ?_; (case hd => rfl); (case hg => rfl); (case hr => first | (go_simp; done) | (go_simp; rfl)); intro gl hgl w1 hbox hb; have HB := Aside0.mk hb; have BL := Aside0.mk hbox; clear hgl hb hbox; have hcz_0 : w1.cell? ⟨gl, 0, none⟩ = some (.int .i64 a0_0) := (blk_cell BL.out 0).trans rfl; have hcz_1 : w1.cell? ⟨gl, 1, none⟩ = some (.int .i64 a0_1) := (blk_cell BL.out 1).trans rfl; have hcz_2 : w1.cell? ⟨gl, 2, none⟩ = some (.int .i64 a0_2) := (blk_cell BL.out 2).trans rfl; have hcz_3 : w1.cell? ⟨gl, 3, none⟩ = some (.int .i64 a0_3) := (blk_cell BL.out 3).trans rfl; have hcz_4 : w1.cell? ⟨gl, 4, none⟩ = some (.int .i64 a0_4) := (blk_cell BL.out 4).trans rfl; have hcz_5 : w1.cell? ⟨gl, 5, none⟩ = some (.int .i64 a0_5) := (blk_cell BL.out 5).trans rfl; have hcz_6 : w1.cell? ⟨gl, 6, none⟩ = some (.string a0_6) := (blk_cell BL.out 6).trans rfl; have hcz_7 : w1.cell? ⟨gl, 7, none⟩ = some (.slice A0_7 l0_7.length c0_7) := (blk_cell BL.out 7).trans rfl; have hcz_8 : w1.cell? ⟨gl, 8, none⟩ = some (.slice A0_8 l0_8.length c0_8) := (blk_cell BL.out 8).trans rfl) | (go_at_call 28; refine (address_calls _ _).mono ?_; rintro e w' ⟨rfl, nd, rfl⟩; (try first | exact ⟨rfl, _, World.drewN_drewN _ _ _⟩)))
  go_ret
  exact ⟨rfl, by repeat (first | exact HB.out | refine pw_below_drewN ?_ _)⟩
set_option maxHeartbeats 8000000 in
set_option maxRecDepth 100000 in
theorem check_bad3 (g0 : addrB a0_1 = true) (g1 : addrB a0_2 = true) (g2 : 1 ≤ a0_3) (g3 : ¬ (a0_3 ≤ 1125899906842623)) :
    Calls Try.prog 13 #[.agg #[.int .i64 a0_0, .int .i64 a0_1, .int .i64 a0_2, .int .i64 a0_3, .int .i64 a0_4, .int .i64 a0_5, .string a0_6, .slice A0_7 l0_7.length c0_7, .slice A0_8 l0_8.length c0_8]] w fun e w' => e = .returned (.int .i64 70) ∧ Below w.heap.size w w' := by
  have hu25 := Try.underlying25
  have d0 : addrB a0_1 = true := g0
  have d1 : addrB a0_2 = true := g1
  have d2 : decide (a0_3 < 1) = false := decide_eq_false (by omega)
  have d3 : decide (1125899906842623 < a0_3) = true := decide_eq_true (by omega)
  clear g0 g1 g2 g3
  go_enter Try.func13, Try.ntmps13
  go_wp2_with (first | ((with_reducible refine gate_dst (N := 1) rfl ?_); refine box_event ?hg (N := 1) ?hd (cs := #[.int .i64 a0_0, .int .i64 a0_1, .int .i64 a0_2, .int .i64 a0_3, .int .i64 a0_4, .int .i64 a0_5, .string a0_6, .slice A0_7 l0_7.length c0_7, .slice A0_8 l0_8.length c0_8]) (t := 25) ?hr ?_; (case hd => rfl); (case hg => rfl); (case hr => first | (go_simp; done) | (go_simp; rfl)); intro gl hgl w1 hbox hb; have HB := Aside0.mk hb; have BL := Aside0.mk hbox; clear hgl hb hbox; have hcz_0 : w1.cell? ⟨gl, 0, none⟩ = some (.int .i64 a0_0) := (blk_cell BL.out 0).trans rfl; have hcz_1 : w1.cell? ⟨gl, 1, none⟩ = some (.int .i64 a0_1) := (blk_cell BL.out 1).trans rfl; have hcz_2 : w1.cell? ⟨gl, 2, none⟩ = some (.int .i64 a0_2) := (blk_cell BL.out 2).trans rfl; have hcz_3 : w1.cell? ⟨gl, 3, none⟩ = some (.int .i64 a0_3) := (blk_cell BL.out 3).trans rfl; have hcz_4 : w1.cell? ⟨gl, 4, none⟩ = some (.int .i64 a0_4) := (blk_cell BL.out 4).trans rfl; have hcz_5 : w1.cell? ⟨gl, 5, none⟩ = some (.int .i64 a0_5) := (blk_cell BL.out 5).trans rfl; have hcz_6 : w1.cell? ⟨gl, 6, none⟩ = some (.string a0_6) := (blk_cell BL.out 6).trans rfl; have hcz_7 : w1.cell? ⟨gl, 7, none⟩ = some (.slice A0_7 l0_7.length c0_7) := (blk_cell BL.out 7).trans rfl; have hcz_8 : w1.cell? ⟨gl, 8, none⟩ = some (.slice A0_8 l0_8.length c0_8) := (blk_cell BL.out 8).trans rfl) | (go_at_call 28; refine (address_calls _ _).mono ?_; rintro e w' ⟨rfl, nd, rfl⟩; (try first | exact ⟨rfl, _, World.drewN_drewN _ _ _⟩)))
  go_ret
  exact ⟨rfl, by repeat (first | exact HB.out | refine pw_below_drewN ?_ _)⟩
set_option maxHeartbeats 8000000 in
set_option maxRecDepth 100000 in
theorem check_bad4 (g0 : addrB a0_1 = true) (g1 : addrB a0_2 = true) (g2 : 1 ≤ a0_3) (g3 : a0_3 ≤ 1125899906842623) (g4 : ¬ (0 ≤ a0_4)) :
    Calls Try.prog 13 #[.agg #[.int .i64 a0_0, .int .i64 a0_1, .int .i64 a0_2, .int .i64 a0_3, .int .i64 a0_4, .int .i64 a0_5, .string a0_6, .slice A0_7 l0_7.length c0_7, .slice A0_8 l0_8.length c0_8]] w fun e w' => e = .returned (.int .i64 70) ∧ Below w.heap.size w w' := by
  have hu25 := Try.underlying25
  have d0 : addrB a0_1 = true := g0
  have d1 : addrB a0_2 = true := g1
  have d2 : decide (a0_3 < 1) = false := decide_eq_false (by omega)
  have d3 : decide (1125899906842623 < a0_3) = false := decide_eq_false (by omega)
  have d4 : decide (a0_4 < 0) = true := decide_eq_true (by omega)
  clear g0 g1 g2 g3 g4
  go_enter Try.func13, Try.ntmps13
  go_wp2_with (first | ((with_reducible refine gate_dst (N := 1) rfl ?_); refine box_event ?hg (N := 1) ?hd (cs := #[.int .i64 a0_0, .int .i64 a0_1, .int .i64 a0_2, .int .i64 a0_3, .int .i64 a0_4, .int .i64 a0_5, .string a0_6, .slice A0_7 l0_7.length c0_7, .slice A0_8 l0_8.length c0_8]) (t := 25) ?hr ?_; (case hd => rfl); (case hg => rfl); (case hr => first | (go_simp; done) | (go_simp; rfl)); intro gl hgl w1 hbox hb; have HB := Aside0.mk hb; have BL := Aside0.mk hbox; clear hgl hb hbox; have hcz_0 : w1.cell? ⟨gl, 0, none⟩ = some (.int .i64 a0_0) := (blk_cell BL.out 0).trans rfl; have hcz_1 : w1.cell? ⟨gl, 1, none⟩ = some (.int .i64 a0_1) := (blk_cell BL.out 1).trans rfl; have hcz_2 : w1.cell? ⟨gl, 2, none⟩ = some (.int .i64 a0_2) := (blk_cell BL.out 2).trans rfl; have hcz_3 : w1.cell? ⟨gl, 3, none⟩ = some (.int .i64 a0_3) := (blk_cell BL.out 3).trans rfl; have hcz_4 : w1.cell? ⟨gl, 4, none⟩ = some (.int .i64 a0_4) := (blk_cell BL.out 4).trans rfl; have hcz_5 : w1.cell? ⟨gl, 5, none⟩ = some (.int .i64 a0_5) := (blk_cell BL.out 5).trans rfl; have hcz_6 : w1.cell? ⟨gl, 6, none⟩ = some (.string a0_6) := (blk_cell BL.out 6).trans rfl; have hcz_7 : w1.cell? ⟨gl, 7, none⟩ = some (.slice A0_7 l0_7.length c0_7) := (blk_cell BL.out 7).trans rfl; have hcz_8 : w1.cell? ⟨gl, 8, none⟩ = some (.slice A0_8 l0_8.length c0_8) := (blk_cell BL.out 8).trans rfl) | (go_at_call 28; refine (address_calls _ _).mono ?_; rintro e w' ⟨rfl, nd, rfl⟩; (try first | exact ⟨rfl, _, World.drewN_drewN _ _ _⟩)))
  go_ret
  exact ⟨rfl, by repeat (first | exact HB.out | refine pw_below_drewN ?_ _)⟩
set_option maxHeartbeats 8000000 in
set_option maxRecDepth 100000 in
theorem check_bad5 (g0 : addrB a0_1 = true) (g1 : addrB a0_2 = true) (g2 : 1 ≤ a0_3) (g3 : a0_3 ≤ 1125899906842623) (g4 : 0 ≤ a0_4) (g5 : ¬ (a0_4 ≤ 1125899906842624)) :
    Calls Try.prog 13 #[.agg #[.int .i64 a0_0, .int .i64 a0_1, .int .i64 a0_2, .int .i64 a0_3, .int .i64 a0_4, .int .i64 a0_5, .string a0_6, .slice A0_7 l0_7.length c0_7, .slice A0_8 l0_8.length c0_8]] w fun e w' => e = .returned (.int .i64 70) ∧ Below w.heap.size w w' := by
  have hu25 := Try.underlying25
  have d0 : addrB a0_1 = true := g0
  have d1 : addrB a0_2 = true := g1
  have d2 : decide (a0_3 < 1) = false := decide_eq_false (by omega)
  have d3 : decide (1125899906842623 < a0_3) = false := decide_eq_false (by omega)
  have d4 : decide (a0_4 < 0) = false := decide_eq_false (by omega)
  have d5 : decide (1125899906842624 < a0_4) = true := decide_eq_true (by omega)
  clear g0 g1 g2 g3 g4 g5
  go_enter Try.func13, Try.ntmps13
  go_wp2_with (first | ((with_reducible refine gate_dst (N := 1) rfl ?_); refine box_event ?hg (N := 1) ?hd (cs := #[.int .i64 a0_0, .int .i64 a0_1, .int .i64 a0_2, .int .i64 a0_3, .int .i64 a0_4, .int .i64 a0_5, .string a0_6, .slice A0_7 l0_7.length c0_7, .slice A0_8 l0_8.length c0_8]) (t := 25) ?hr ?_; (case hd => rfl); (case hg => rfl); (case hr => first | (go_simp; done) | (go_simp; rfl)); intro gl hgl w1 hbox hb; have HB := Aside0.mk hb; have BL := Aside0.mk hbox; clear hgl hb hbox; have hcz_0 : w1.cell? ⟨gl, 0, none⟩ = some (.int .i64 a0_0) := (blk_cell BL.out 0).trans rfl; have hcz_1 : w1.cell? ⟨gl, 1, none⟩ = some (.int .i64 a0_1) := (blk_cell BL.out 1).trans rfl; have hcz_2 : w1.cell? ⟨gl, 2, none⟩ = some (.int .i64 a0_2) := (blk_cell BL.out 2).trans rfl; have hcz_3 : w1.cell? ⟨gl, 3, none⟩ = some (.int .i64 a0_3) := (blk_cell BL.out 3).trans rfl; have hcz_4 : w1.cell? ⟨gl, 4, none⟩ = some (.int .i64 a0_4) := (blk_cell BL.out 4).trans rfl; have hcz_5 : w1.cell? ⟨gl, 5, none⟩ = some (.int .i64 a0_5) := (blk_cell BL.out 5).trans rfl; have hcz_6 : w1.cell? ⟨gl, 6, none⟩ = some (.string a0_6) := (blk_cell BL.out 6).trans rfl; have hcz_7 : w1.cell? ⟨gl, 7, none⟩ = some (.slice A0_7 l0_7.length c0_7) := (blk_cell BL.out 7).trans rfl; have hcz_8 : w1.cell? ⟨gl, 8, none⟩ = some (.slice A0_8 l0_8.length c0_8) := (blk_cell BL.out 8).trans rfl) | (go_at_call 28; refine (address_calls _ _).mono ?_; rintro e w' ⟨rfl, nd, rfl⟩; (try first | exact ⟨rfl, _, World.drewN_drewN _ _ _⟩)))
  go_ret
  exact ⟨rfl, by repeat (first | exact HB.out | refine pw_below_drewN ?_ _)⟩
set_option maxHeartbeats 8000000 in
set_option maxRecDepth 100000 in
theorem check_bad6 (g0 : addrB a0_1 = true) (g1 : addrB a0_2 = true) (g2 : 1 ≤ a0_3) (g3 : a0_3 ≤ 1125899906842623) (g4 : 0 ≤ a0_4) (g5 : a0_4 ≤ 1125899906842624) (g6 : ¬ (0 ≤ a0_5)) :
    Calls Try.prog 13 #[.agg #[.int .i64 a0_0, .int .i64 a0_1, .int .i64 a0_2, .int .i64 a0_3, .int .i64 a0_4, .int .i64 a0_5, .string a0_6, .slice A0_7 l0_7.length c0_7, .slice A0_8 l0_8.length c0_8]] w fun e w' => e = .returned (.int .i64 70) ∧ Below w.heap.size w w' := by
  have hu25 := Try.underlying25
  have d0 : addrB a0_1 = true := g0
  have d1 : addrB a0_2 = true := g1
  have d2 : decide (a0_3 < 1) = false := decide_eq_false (by omega)
  have d3 : decide (1125899906842623 < a0_3) = false := decide_eq_false (by omega)
  have d4 : decide (a0_4 < 0) = false := decide_eq_false (by omega)
  have d5 : decide (1125899906842624 < a0_4) = false := decide_eq_false (by omega)
  have d6 : decide (a0_5 < 0) = true := decide_eq_true (by omega)
  clear g0 g1 g2 g3 g4 g5 g6
  go_enter Try.func13, Try.ntmps13
  go_wp2_with (first | ((with_reducible refine gate_dst (N := 1) rfl ?_); refine box_event ?hg (N := 1) ?hd (cs := #[.int .i64 a0_0, .int .i64 a0_1, .int .i64 a0_2, .int .i64 a0_3, .int .i64 a0_4, .int .i64 a0_5, .string a0_6, .slice A0_7 l0_7.length c0_7, .slice A0_8 l0_8.length c0_8]) (t := 25) ?hr ?_; (case hd => rfl); (case hg => rfl); (case hr => first | (go_simp; done) | (go_simp; rfl)); intro gl hgl w1 hbox hb; have HB := Aside0.mk hb; have BL := Aside0.mk hbox; clear hgl hb hbox; have hcz_0 : w1.cell? ⟨gl, 0, none⟩ = some (.int .i64 a0_0) := (blk_cell BL.out 0).trans rfl; have hcz_1 : w1.cell? ⟨gl, 1, none⟩ = some (.int .i64 a0_1) := (blk_cell BL.out 1).trans rfl; have hcz_2 : w1.cell? ⟨gl, 2, none⟩ = some (.int .i64 a0_2) := (blk_cell BL.out 2).trans rfl; have hcz_3 : w1.cell? ⟨gl, 3, none⟩ = some (.int .i64 a0_3) := (blk_cell BL.out 3).trans rfl; have hcz_4 : w1.cell? ⟨gl, 4, none⟩ = some (.int .i64 a0_4) := (blk_cell BL.out 4).trans rfl; have hcz_5 : w1.cell? ⟨gl, 5, none⟩ = some (.int .i64 a0_5) := (blk_cell BL.out 5).trans rfl; have hcz_6 : w1.cell? ⟨gl, 6, none⟩ = some (.string a0_6) := (blk_cell BL.out 6).trans rfl; have hcz_7 : w1.cell? ⟨gl, 7, none⟩ = some (.slice A0_7 l0_7.length c0_7) := (blk_cell BL.out 7).trans rfl; have hcz_8 : w1.cell? ⟨gl, 8, none⟩ = some (.slice A0_8 l0_8.length c0_8) := (blk_cell BL.out 8).trans rfl) | (go_at_call 28; refine (address_calls _ _).mono ?_; rintro e w' ⟨rfl, nd, rfl⟩; (try first | exact ⟨rfl, _, World.drewN_drewN _ _ _⟩)))
  go_ret
  exact ⟨rfl, by repeat (first | exact HB.out | refine pw_below_drewN ?_ _)⟩
set_option maxHeartbeats 8000000 in
set_option maxRecDepth 100000 in
theorem check_good (hr0_7 : Kd.C Kd.string w A0_7 l0_7.length l0_7) (hc0_7 : l0_7.length ≤ c0_7) (hr0_8 : Kd.C k49 w A0_8 l0_8.length l0_8) (hc0_8 : l0_8.length ≤ c0_8) (hl7 : l0_7.length ≤ 8796093022000) (hl8 : l0_8.length ≤ 8796093022000) (g0 : addrB a0_1 = true) (g1 : addrB a0_2 = true) (g2 : 1 ≤ a0_3) (g3 : a0_3 ≤ 1125899906842623) (g4 : 0 ≤ a0_4) (g5 : a0_4 ≤ 1125899906842624) (g6 : 0 ≤ a0_5) :
    Calls Try.prog 13 #[.agg #[.int .i64 a0_0, .int .i64 a0_1, .int .i64 a0_2, .int .i64 a0_3, .int .i64 a0_4, .int .i64 a0_5, .string a0_6, .slice A0_7 l0_7.length c0_7, .slice A0_8 l0_8.length c0_8]] w fun e w' => e = .returned (.int .i64 (fin4 a0_5 (sw a0_0 a0_5 a0_6 l0_7 l0_8))) ∧ Below w.heap.size w w' := by
  have hu25 := Try.underlying25
  have HR7 := Aside0.mk hr0_7
  have HR8 := Aside0.mk hr0_8
  have d0 : addrB a0_1 = true := g0
  have d1 : addrB a0_2 = true := g1
  have d2 : decide (a0_3 < 1) = false := decide_eq_false (by omega)
  have d3 : decide (1125899906842623 < a0_3) = false := decide_eq_false (by omega)
  have d4 : decide (a0_4 < 0) = false := decide_eq_false (by omega)
  have d5 : decide (1125899906842624 < a0_4) = false := decide_eq_false (by omega)
  have d6 : decide (a0_5 < 0) = false := decide_eq_false (by omega)
  clear hr0_7 hr0_8 g0 g1 g2 g3 g4 g5 g6
  go_enter Try.func13, Try.ntmps13
  go_wp2_with (first | ((with_reducible refine gate_dst (N := 1) rfl ?_); refine box_event ?hg (N := 1) ?hd (cs := #[.int .i64 a0_0, .int .i64 a0_1, .int .i64 a0_2, .int .i64 a0_3, .int .i64 a0_4, .int .i64 a0_5, .string a0_6, .slice A0_7 l0_7.length c0_7, .slice A0_8 l0_8.length c0_8]) (t := 25) ?hr ?_; (case hd => rfl); (case hg => rfl); (case hr => first | (go_simp; done) | (go_simp; rfl)); intro gl hgl w1 hbox hb; have HB := Aside0.mk hb; have BL := Aside0.mk hbox; clear hgl hb hbox; have hcz_0 : w1.cell? ⟨gl, 0, none⟩ = some (.int .i64 a0_0) := (blk_cell BL.out 0).trans rfl; have hcz_1 : w1.cell? ⟨gl, 1, none⟩ = some (.int .i64 a0_1) := (blk_cell BL.out 1).trans rfl; have hcz_2 : w1.cell? ⟨gl, 2, none⟩ = some (.int .i64 a0_2) := (blk_cell BL.out 2).trans rfl; have hcz_3 : w1.cell? ⟨gl, 3, none⟩ = some (.int .i64 a0_3) := (blk_cell BL.out 3).trans rfl; have hcz_4 : w1.cell? ⟨gl, 4, none⟩ = some (.int .i64 a0_4) := (blk_cell BL.out 4).trans rfl; have hcz_5 : w1.cell? ⟨gl, 5, none⟩ = some (.int .i64 a0_5) := (blk_cell BL.out 5).trans rfl; have hcz_6 : w1.cell? ⟨gl, 6, none⟩ = some (.string a0_6) := (blk_cell BL.out 6).trans rfl; have hcz_7 : w1.cell? ⟨gl, 7, none⟩ = some (.slice A0_7 l0_7.length c0_7) := (blk_cell BL.out 7).trans rfl; have hcz_8 : w1.cell? ⟨gl, 8, none⟩ = some (.slice A0_8 l0_8.length c0_8) := (blk_cell BL.out 8).trans rfl) | (go_at_call 28; refine (address_calls _ _).mono ?_; rintro e w' ⟨rfl, nd, rfl⟩; (try first | exact ⟨rfl, _, World.drewN_drewN _ _ _⟩)))
  go_quiet (fail)
  generalize eW : World.drewN w1 _ = W
  have HBq : Aside0 (Below w.heap.size w W) := ⟨by rw [← eW]; exact pw_below_drewN HB.out _⟩
  have BLq : Aside0 (W.heap[gl]? = some (.cells #[.int .i64 a0_0, .int .i64 a0_1, .int .i64 a0_2, .int .i64 a0_3, .int .i64 a0_4, .int .i64 a0_5, .string a0_6, .slice A0_7 l0_7.length c0_7, .slice A0_8 l0_8.length c0_8] 25 (0, 0))) := ⟨by rw [← eW]; exact blk_drewN BL.out _⟩
  clear eW HB BL hcz_0 hcz_1 hcz_2 hcz_3 hcz_4 hcz_5 hcz_6 hcz_7 hcz_8
  have hcz_0 : W.cell? ⟨gl, 0, none⟩ = some (.int .i64 a0_0) := (blk_cell BLq.out 0).trans rfl
  have hcz_1 : W.cell? ⟨gl, 1, none⟩ = some (.int .i64 a0_1) := (blk_cell BLq.out 1).trans rfl
  have hcz_2 : W.cell? ⟨gl, 2, none⟩ = some (.int .i64 a0_2) := (blk_cell BLq.out 2).trans rfl
  have hcz_3 : W.cell? ⟨gl, 3, none⟩ = some (.int .i64 a0_3) := (blk_cell BLq.out 3).trans rfl
  have hcz_4 : W.cell? ⟨gl, 4, none⟩ = some (.int .i64 a0_4) := (blk_cell BLq.out 4).trans rfl
  have hcz_5 : W.cell? ⟨gl, 5, none⟩ = some (.int .i64 a0_5) := (blk_cell BLq.out 5).trans rfl
  have hcz_6 : W.cell? ⟨gl, 6, none⟩ = some (.string a0_6) := (blk_cell BLq.out 6).trans rfl
  have hcz_7 : W.cell? ⟨gl, 7, none⟩ = some (.slice A0_7 l0_7.length c0_7) := (blk_cell BLq.out 7).trans rfl
  have hcz_8 : W.cell? ⟨gl, 8, none⟩ = some (.slice A0_8 l0_8.length c0_8) := (blk_cell BLq.out 8).trans rfl
  go_upto_block 0 with (fail)
  go_cut [3, 4, 5, 6] (fun v3 v4 v5 v6 wc => ∃ (m : Int) (kB wB tB : Bool), v3 = .int .i64 m ∧ v4 = .bool kB ∧ v5 = .bool wB ∧ v6 = .bool tB ∧ Aside0 (sw a0_0 a0_5 a0_6 l0_7 l0_8 = some (m, kB, wB, tB)) ∧ Aside0 (Below w.heap.size w wc) ∧ Aside0 (wc.heap[gl]? = some (.cells #[.int .i64 a0_0, .int .i64 a0_1, .int .i64 a0_2, .int .i64 a0_3, .int .i64 a0_4, .int .i64 a0_5, .string a0_6, .slice A0_7 l0_7.length c0_7, .slice A0_8 l0_8.length c0_8] 25 (0, 0))))
  case first =>
    by_cases q2 : a0_0 = 2
    · subst q2
      by_cases hsz : a0_6.size ≤ 2052
      · have s1 : decide ((a0_6.size : Int) ≤ 2052) = true := decide_eq_true (by omega)
        have s2 : decide (a0_6.size ≤ 2052) = true := decide_eq_true hsz
        have HS := Aside0.mk s2
        clear hsz
        by_cases he : a0_6.toList.isEmpty = true
        · have HE := Aside0.mk he
          by_cases hk1 : l0_7.length = 1
          · obtain ⟨ad, rfl, hx0⟩ := Kd.at_string (Kd.C_below HR7.out HBq.out) 0 (by omega) (by omega)
            have hx : W.cell? (ad.add 0) = some (.string (rdOf ByteArray.empty l0_7 0)) := hx0
            have hx1 : W.cell? ad = some (.string (rdOf ByteArray.empty l0_7 0)) := by rw [add_zero_] at hx; exact hx
            have k1 : ((l0_7.length : Int) == 1) = true := by simp; omega
            have k2 : (l0_7.length == 1) = true := by simp; omega
            have k3 : decide (0 < l0_7.length) = true := decide_eq_true (by omega)
            have k4 : decide ((0 : Int) < (l0_7.length : Int)) = true := decide_eq_true (by omega)
            have k5 : 0 < l0_7.length := by omega
            have HK1 := Aside0.mk hk1
            clear hk1 hx0
            go_wp2_with ((go_at_call 18; refine (key_calls _ _).mono ?_; rintro e w' ⟨rfl, nd, rfl⟩))
            go_meet
            case rel => exact ⟨4, (keyB (rdOf ByteArray.empty l0_7 0)), ((l0_8.length : Int) == 0), true, rfl, rfl, rfl, rfl, ⟨by simp [sw, HK1.out, HS.out, HE.out]⟩, ⟨by repeat (first | exact HBq.out | refine pw_below_drewN ?_ _)⟩, ⟨by (with_reducible repeat (first | refine blk_drewN ?_ _ | refine blk_drew ?_)); exact BLq.out⟩⟩
          · have k1 : ((l0_7.length : Int) == 1) = false := by simp; omega
            have k2 : (l0_7.length == 1) = false := by simp; omega
            have HK1 := Aside0.mk hk1
            clear hk1
            go_wp2
            go_meet
            case rel => exact ⟨4, false, ((l0_8.length : Int) == 0), true, rfl, rfl, rfl, rfl, ⟨by simp [sw, HK1.out, HS.out, HE.out]⟩, ⟨by repeat (first | exact HBq.out | refine pw_below_drewN ?_ _)⟩, ⟨by (with_reducible repeat (first | refine blk_drewN ?_ _ | refine blk_drew ?_)); exact BLq.out⟩⟩
        · have he2 : a0_6.toList.isEmpty = false := by simpa using he
          have HE := Aside0.mk he2
          clear he
          by_cases hc1 : a0_5 = 1
          · have e1 : (a0_5 == 1) = true := by simpa using hc1
            have HC1 := Aside0.mk e1
            clear hc1
            by_cases hk1 : l0_7.length = 1
            · obtain ⟨ad, rfl, hx0⟩ := Kd.at_string (Kd.C_below HR7.out HBq.out) 0 (by omega) (by omega)
              have hx : W.cell? (ad.add 0) = some (.string (rdOf ByteArray.empty l0_7 0)) := hx0
              have hx1 : W.cell? ad = some (.string (rdOf ByteArray.empty l0_7 0)) := by rw [add_zero_] at hx; exact hx
              have k1 : ((l0_7.length : Int) == 1) = true := by simp; omega
              have k2 : (l0_7.length == 1) = true := by simp; omega
              have k3 : decide (0 < l0_7.length) = true := decide_eq_true (by omega)
              have k4 : decide ((0 : Int) < (l0_7.length : Int)) = true := decide_eq_true (by omega)
              have k5 : 0 < l0_7.length := by omega
              have HK1 := Aside0.mk hk1
              clear hk1 hx0
              go_wp2_with ((go_at_call 18; refine (key_calls _ _).mono ?_; rintro e w' ⟨rfl, nd, rfl⟩))
              go_meet
              case rel => exact ⟨4, (keyB (rdOf ByteArray.empty l0_7 0)), ((l0_8.length : Int) == 0), true, rfl, rfl, rfl, rfl, ⟨by simp [sw, HK1.out, HS.out, HE.out, HC1.out]⟩, ⟨by repeat (first | exact HBq.out | refine pw_below_drewN ?_ _)⟩, ⟨by (with_reducible repeat (first | refine blk_drewN ?_ _ | refine blk_drew ?_)); exact BLq.out⟩⟩
            · have k1 : ((l0_7.length : Int) == 1) = false := by simp; omega
              have k2 : (l0_7.length == 1) = false := by simp; omega
              have HK1 := Aside0.mk hk1
              clear hk1
              go_wp2
              go_meet
              case rel => exact ⟨4, false, ((l0_8.length : Int) == 0), true, rfl, rfl, rfl, rfl, ⟨by simp [sw, HK1.out, HS.out, HE.out, HC1.out]⟩, ⟨by repeat (first | exact HBq.out | refine pw_below_drewN ?_ _)⟩, ⟨by (with_reducible repeat (first | refine blk_drewN ?_ _ | refine blk_drew ?_)); exact BLq.out⟩⟩
          · have e1 : (a0_5 == 1) = false := by simpa using hc1
            have HC1 := Aside0.mk e1
            clear hc1
            by_cases hk1 : l0_7.length = 1
            · obtain ⟨ad, rfl, hx0⟩ := Kd.at_string (Kd.C_below HR7.out HBq.out) 0 (by omega) (by omega)
              have hx : W.cell? (ad.add 0) = some (.string (rdOf ByteArray.empty l0_7 0)) := hx0
              have hx1 : W.cell? ad = some (.string (rdOf ByteArray.empty l0_7 0)) := by rw [add_zero_] at hx; exact hx
              have k1 : ((l0_7.length : Int) == 1) = true := by simp; omega
              have k2 : (l0_7.length == 1) = true := by simp; omega
              have k3 : decide (0 < l0_7.length) = true := decide_eq_true (by omega)
              have k4 : decide ((0 : Int) < (l0_7.length : Int)) = true := decide_eq_true (by omega)
              have k5 : 0 < l0_7.length := by omega
              have HK1 := Aside0.mk hk1
              clear hk1 hx0
              go_wp2_with ((go_at_call 18; refine (key_calls _ _).mono ?_; rintro e w' ⟨rfl, nd, rfl⟩))
              go_meet
              case rel => exact ⟨4, (keyB (rdOf ByteArray.empty l0_7 0)), ((l0_8.length : Int) == 0), false, rfl, rfl, rfl, rfl, ⟨by simp [sw, HK1.out, HS.out, HE.out, HC1.out]⟩, ⟨by repeat (first | exact HBq.out | refine pw_below_drewN ?_ _)⟩, ⟨by (with_reducible repeat (first | refine blk_drewN ?_ _ | refine blk_drew ?_)); exact BLq.out⟩⟩
            · have k1 : ((l0_7.length : Int) == 1) = false := by simp; omega
              have k2 : (l0_7.length == 1) = false := by simp; omega
              have HK1 := Aside0.mk hk1
              clear hk1
              go_wp2
              go_meet
              case rel => exact ⟨4, false, ((l0_8.length : Int) == 0), false, rfl, rfl, rfl, rfl, ⟨by simp [sw, HK1.out, HS.out, HE.out, HC1.out]⟩, ⟨by repeat (first | exact HBq.out | refine pw_below_drewN ?_ _)⟩, ⟨by (with_reducible repeat (first | refine blk_drewN ?_ _ | refine blk_drew ?_)); exact BLq.out⟩⟩
      · have s1 : decide ((a0_6.size : Int) ≤ 2052) = false := decide_eq_false (by omega)
        have s2 : decide (a0_6.size ≤ 2052) = false := decide_eq_false hsz
        have HS := Aside0.mk s2
        clear hsz
        by_cases hk1 : l0_7.length = 1
        · obtain ⟨ad, rfl, hx0⟩ := Kd.at_string (Kd.C_below HR7.out HBq.out) 0 (by omega) (by omega)
          have hx : W.cell? (ad.add 0) = some (.string (rdOf ByteArray.empty l0_7 0)) := hx0
          have hx1 : W.cell? ad = some (.string (rdOf ByteArray.empty l0_7 0)) := by rw [add_zero_] at hx; exact hx
          have k1 : ((l0_7.length : Int) == 1) = true := by simp; omega
          have k2 : (l0_7.length == 1) = true := by simp; omega
          have k3 : decide (0 < l0_7.length) = true := decide_eq_true (by omega)
          have k4 : decide ((0 : Int) < (l0_7.length : Int)) = true := decide_eq_true (by omega)
          have k5 : 0 < l0_7.length := by omega
          have HK1 := Aside0.mk hk1
          clear hk1 hx0
          go_wp2_with ((go_at_call 18; refine (key_calls _ _).mono ?_; rintro e w' ⟨rfl, nd, rfl⟩))
          go_meet
          case rel => exact ⟨4, (keyB (rdOf ByteArray.empty l0_7 0)), ((l0_8.length : Int) == 0), false, rfl, rfl, rfl, rfl, ⟨by simp [sw, HK1.out, HS.out]⟩, ⟨by repeat (first | exact HBq.out | refine pw_below_drewN ?_ _)⟩, ⟨by (with_reducible repeat (first | refine blk_drewN ?_ _ | refine blk_drew ?_)); exact BLq.out⟩⟩
        · have k1 : ((l0_7.length : Int) == 1) = false := by simp; omega
          have k2 : (l0_7.length == 1) = false := by simp; omega
          have HK1 := Aside0.mk hk1
          clear hk1
          go_wp2
          go_meet
          case rel => exact ⟨4, false, ((l0_8.length : Int) == 0), false, rfl, rfl, rfl, rfl, ⟨by simp [sw, HK1.out, HS.out]⟩, ⟨by repeat (first | exact HBq.out | refine pw_below_drewN ?_ _)⟩, ⟨by (with_reducible repeat (first | refine blk_drewN ?_ _ | refine blk_drew ?_)); exact BLq.out⟩⟩
    · by_cases q1 : a0_0 = 1
      · subst q1
        clear q2
        by_cases hk1 : l0_7.length = 1
        · obtain ⟨ad, rfl, hx0⟩ := Kd.at_string (Kd.C_below HR7.out HBq.out) 0 (by omega) (by omega)
          have hx : W.cell? (ad.add 0) = some (.string (rdOf ByteArray.empty l0_7 0)) := hx0
          have hx1 : W.cell? ad = some (.string (rdOf ByteArray.empty l0_7 0)) := by rw [add_zero_] at hx; exact hx
          have k1 : ((l0_7.length : Int) == 1) = true := by simp; omega
          have k2 : (l0_7.length == 1) = true := by simp; omega
          have k3 : decide (0 < l0_7.length) = true := decide_eq_true (by omega)
          have k4 : decide ((0 : Int) < (l0_7.length : Int)) = true := decide_eq_true (by omega)
          have k5 : 0 < l0_7.length := by omega
          have HK1 := Aside0.mk hk1
          clear hk1 hx0
          go_wp2_with ((go_at_call 18; refine (key_calls _ _).mono ?_; rintro e w' ⟨rfl, nd, rfl⟩))
          go_meet
          case rel => exact ⟨0, (keyB (rdOf ByteArray.empty l0_7 0)), ((l0_8.length : Int) == 0), a0_6.toList.isEmpty, rfl, rfl, rfl, rfl, ⟨by simp [sw, HK1.out]⟩, ⟨by repeat (first | exact HBq.out | refine pw_below_drewN ?_ _)⟩, ⟨by (with_reducible repeat (first | refine blk_drewN ?_ _ | refine blk_drew ?_)); exact BLq.out⟩⟩
        · have k1 : ((l0_7.length : Int) == 1) = false := by simp; omega
          have k2 : (l0_7.length == 1) = false := by simp; omega
          have HK1 := Aside0.mk hk1
          clear hk1
          go_wp2
          go_meet
          case rel => exact ⟨0, false, ((l0_8.length : Int) == 0), a0_6.toList.isEmpty, rfl, rfl, rfl, rfl, ⟨by simp [sw, HK1.out]⟩, ⟨by repeat (first | exact HBq.out | refine pw_below_drewN ?_ _)⟩, ⟨by (with_reducible repeat (first | refine blk_drewN ?_ _ | refine blk_drew ?_)); exact BLq.out⟩⟩
      · by_cases q3 : a0_0 = 3
        · subst q3
          clear q2 q1
          by_cases h16 : l0_7.length ≤ 16
          · have k1 : decide ((l0_7.length : Int) ≤ 16) = true := decide_eq_true (by omega)
            have k2 : decide (l0_7.length ≤ 16) = true := decide_eq_true h16
            have HK := Aside0.mk k2
            clear h16
            go_wp2_with (first | (go_at_call 20; refine (rising_calls _ A0_7 c0_7 l0_7 (Kd.C_below HR7.out (show Below w.heap.size w _ from by repeat (first | exact HBq.out | refine pw_below_drewN ?_ _))) hc0_7 hl7).mono ?_; rintro e w' ⟨rfl, nd, rfl⟩) | (go_at_call 29; refine (writes_calls _ A0_8 c0_8 l0_8 (Kd.C_below HR8.out (show Below w.heap.size w _ from by repeat (first | exact HBq.out | refine pw_below_drewN ?_ _))) hc0_8 hl8).mono ?_; rintro e w9 ⟨rfl, hb⟩; have HB9 := Aside0.mk (below_step (show Below w.heap.size w _ from by repeat (first | exact HBq.out | refine pw_below_drewN ?_ _)) hb); have BL9 := Aside0.mk (blk_below (show _ = some (Obj.cells #[.int .i64 3, .int .i64 a0_1, .int .i64 a0_2, .int .i64 a0_3, .int .i64 a0_4, .int .i64 a0_5, .string a0_6, .slice A0_7 l0_7.length c0_7, .slice A0_8 l0_8.length c0_8] 25 (0, 0)) from by (with_reducible repeat (first | refine blk_drewN ?_ _ | refine blk_drew ?_)); exact BLq.out) hb); clear hb))
            go_meet
            case rel => exact ⟨0, risB l0_7, wriB l0_8, a0_6.toList.isEmpty, rfl, rfl, rfl, rfl, ⟨by simp [sw, HK.out]⟩, ⟨HB9.out⟩, ⟨BL9.out⟩⟩
          · have k1 : decide ((l0_7.length : Int) ≤ 16) = false := decide_eq_false (by omega)
            have k2 : decide (l0_7.length ≤ 16) = false := decide_eq_false h16
            have HK := Aside0.mk k2
            clear h16
            go_wp2_with ((go_at_call 29; refine (writes_calls _ A0_8 c0_8 l0_8 (Kd.C_below HR8.out (show Below w.heap.size w _ from by repeat (first | exact HBq.out | refine pw_below_drewN ?_ _))) hc0_8 hl8).mono ?_; rintro e w9 ⟨rfl, hb⟩; have HB9 := Aside0.mk (below_step (show Below w.heap.size w _ from by repeat (first | exact HBq.out | refine pw_below_drewN ?_ _)) hb); have BL9 := Aside0.mk (blk_below (show _ = some (Obj.cells #[.int .i64 3, .int .i64 a0_1, .int .i64 a0_2, .int .i64 a0_3, .int .i64 a0_4, .int .i64 a0_5, .string a0_6, .slice A0_7 l0_7.length c0_7, .slice A0_8 l0_8.length c0_8] 25 (0, 0)) from by (with_reducible repeat (first | refine blk_drewN ?_ _ | refine blk_drew ?_)); exact BLq.out) hb); clear hb))
            go_meet
            case rel => exact ⟨0, false, wriB l0_8, a0_6.toList.isEmpty, rfl, rfl, rfl, rfl, ⟨by simp [sw, HK.out]⟩, ⟨HB9.out⟩, ⟨BL9.out⟩⟩
        · by_cases q8 : a0_0 = 8
          · subst q8
            clear q2 q1 q3
            go_wp2
            go_meet
            case rel => exact ⟨2, ((l0_7.length : Int) == 0), ((l0_8.length : Int) == 0), a0_6.toList.isEmpty, rfl, rfl, rfl, rfl, ⟨by simp [sw]⟩, ⟨by repeat (first | exact HBq.out | refine pw_below_drewN ?_ _)⟩, ⟨by (with_reducible repeat (first | refine blk_drewN ?_ _ | refine blk_drew ?_)); exact BLq.out⟩⟩
          · by_cases q4 : a0_0 = 4
            · subst q4
              clear q2 q1 q3 q8
              go_wp2
              go_meet
              case rel => exact ⟨1, ((l0_7.length : Int) == 0), ((l0_8.length : Int) == 0), a0_6.toList.isEmpty, rfl, rfl, rfl, rfl, ⟨by simp [sw]⟩, ⟨by repeat (first | exact HBq.out | refine pw_below_drewN ?_ _)⟩, ⟨by (with_reducible repeat (first | refine blk_drewN ?_ _ | refine blk_drew ?_)); exact BLq.out⟩⟩
            · by_cases q5 : a0_0 = 5
              · subst q5
                clear q2 q1 q3 q8 q4
                go_wp2
                go_meet
                case rel => exact ⟨0, ((l0_7.length : Int) == 0), ((l0_8.length : Int) == 0), a0_6.toList.isEmpty, rfl, rfl, rfl, rfl, ⟨by simp [sw]⟩, ⟨by repeat (first | exact HBq.out | refine pw_below_drewN ?_ _)⟩, ⟨by (with_reducible repeat (first | refine blk_drewN ?_ _ | refine blk_drew ?_)); exact BLq.out⟩⟩
              · by_cases q6 : a0_0 = 6
                · subst q6
                  clear q2 q1 q3 q8 q4 q5
                  go_wp2
                  go_meet
                  case rel => exact ⟨0, ((l0_7.length : Int) == 0), ((l0_8.length : Int) == 0), a0_6.toList.isEmpty, rfl, rfl, rfl, rfl, ⟨by simp [sw]⟩, ⟨by repeat (first | exact HBq.out | refine pw_below_drewN ?_ _)⟩, ⟨by (with_reducible repeat (first | refine blk_drewN ?_ _ | refine blk_drew ?_)); exact BLq.out⟩⟩
                · by_cases q7 : a0_0 = 7
                  · subst q7
                    clear q2 q1 q3 q8 q4 q5 q6
                    go_wp2
                    go_meet
                    case rel => exact ⟨0, ((l0_7.length : Int) == 0), ((l0_8.length : Int) == 0), a0_6.toList.isEmpty, rfl, rfl, rfl, rfl, ⟨by simp [sw]⟩, ⟨by repeat (first | exact HBq.out | refine pw_below_drewN ?_ _)⟩, ⟨by (with_reducible repeat (first | refine blk_drewN ?_ _ | refine blk_drew ?_)); exact BLq.out⟩⟩
                  · have hsw : sw a0_0 a0_5 a0_6 l0_7 l0_8 = none := by unfold sw; rw [if_neg q2, if_neg q1, if_neg q3, if_neg q8, if_neg q4, if_neg (by omega)]
                    have e2 : (a0_0 == 2) = false := by simpa using q2
                    have e1 : (a0_0 == 1) = false := by simpa using q1
                    have e3 : (a0_0 == 3) = false := by simpa using q3
                    have e8 : (a0_0 == 8) = false := by simpa using q8
                    have e4 : (a0_0 == 4) = false := by simpa using q4
                    have e5 : (a0_0 == 5) = false := by simpa using q5
                    have e6 : (a0_0 == 6) = false := by simpa using q6
                    have e7 : (a0_0 == 7) = false := by simpa using q7
                    have HSW := Aside0.mk hsw
                    clear hsw q2 q1 q3 q8 q4 q5 q6 q7
                    go_wp2
                    go_ret
                    exact ⟨by rw [HSW.out]; rfl, by repeat (first | exact HBq.out | refine pw_below_drewN ?_ _)⟩
  case rest =>
    obtain ⟨m, kB, wB, tB, rfl, rfl, rfl, rfl, HS, HB, BL⟩ := hcut
    have hv := HS.out
    by_cases h1 : a0_5 ≤ m
    · have c1 : decide (m < a0_5) = false := decide_eq_false (by omega)
      cases kB with
      | false =>
        have HV := Aside0.mk (show fin4 a0_5 (sw a0_0 a0_5 a0_6 l0_7 l0_8) = 70 from by rw [hv]; simp [fin4])
        clear h1 hv HS
        have hcz_5 : wc.cell? ⟨gl, 5, none⟩ = some (.int .i64 a0_5) := (blk_cell BL.out 5).trans rfl
        go_wp2
        go_ret
        exact ⟨by rw [HV.out]; rfl, HB.out⟩
      | true =>
        cases wB with
        | false =>
          have HV := Aside0.mk (show fin4 a0_5 (sw a0_0 a0_5 a0_6 l0_7 l0_8) = 70 from by rw [hv]; simp [fin4])
          clear h1 hv HS
          have hcz_5 : wc.cell? ⟨gl, 5, none⟩ = some (.int .i64 a0_5) := (blk_cell BL.out 5).trans rfl
          go_wp2
          go_ret
          exact ⟨by rw [HV.out]; rfl, HB.out⟩
        | true =>
          cases tB with
          | false =>
            have HV := Aside0.mk (show fin4 a0_5 (sw a0_0 a0_5 a0_6 l0_7 l0_8) = 70 from by rw [hv]; simp [fin4])
            clear h1 hv HS
            have hcz_5 : wc.cell? ⟨gl, 5, none⟩ = some (.int .i64 a0_5) := (blk_cell BL.out 5).trans rfl
            go_wp2
            go_ret
            exact ⟨by rw [HV.out]; rfl, HB.out⟩
          | true =>
            have HV := Aside0.mk (show fin4 a0_5 (sw a0_0 a0_5 a0_6 l0_7 l0_8) = 0 from by rw [hv]; simp [fin4, h1])
            clear h1 hv HS
            have hcz_5 : wc.cell? ⟨gl, 5, none⟩ = some (.int .i64 a0_5) := (blk_cell BL.out 5).trans rfl
            go_wp2
            go_ret
            exact ⟨by rw [HV.out]; rfl, HB.out⟩
    · have c1 : decide (m < a0_5) = true := decide_eq_true (by omega)
      have HV := Aside0.mk (show fin4 a0_5 (sw a0_0 a0_5 a0_6 l0_7 l0_8) = 70 from by rw [hv]; simp [fin4]; omega)
      clear h1 hv HS
      have hcz_5 : wc.cell? ⟨gl, 5, none⟩ = some (.int .i64 a0_5) := (blk_cell BL.out 5).trans rfl
      go_wp2
      go_ret
      exact ⟨by rw [HV.out]; rfl, HB.out⟩
end
theorem letter_Check.calls (a0_0 : Int) (a0_1 : Int) (a0_2 : Int) (a0_3 : Int) (a0_4 : Int) (a0_5 : Int) (a0_6 : ByteArray) (A0_7 : Option Addr) (c0_7 : Nat) (l0_7 : List ByteArray) (A0_8 : Option Addr) (c0_8 : Nat) (l0_8 : List (S49)) (r : Int) (w : World) (hr0_7 : Kd.C Kd.string w A0_7 l0_7.length l0_7) (hc0_7 : l0_7.length ≤ c0_7) (hr0_8 : Kd.C k49 w A0_8 l0_8.length l0_8) (hc0_8 : l0_8.length ≤ c0_8) (h : letter_Check.f a0_0 a0_1 a0_2 a0_3 a0_4 a0_5 a0_6 l0_7 l0_8 = some r) :
    Calls Try.prog 13 #[.agg #[.int .i64 a0_0, .int .i64 a0_1, .int .i64 a0_2, .int .i64 a0_3, .int .i64 a0_4, .int .i64 a0_5, .string a0_6, .slice A0_7 l0_7.length c0_7, .slice A0_8 l0_8.length c0_8]] w fun e w' => e = .returned (.int .i64 r) ∧ Below w.heap.size w w' := by
  unfold letter_Check.f at h
  split at h
  case isFalse => cases h
  rename_i hl
  obtain rfl := Option.some.inj h
  obtain ⟨hl7, hl8⟩ := hl
  unfold chkL
  by_cases g0 : addrB a0_1 = true
  case neg => rw [if_neg (fun hc => g0 hc.1)]; exact check_bad0 _ _ _ _ _ _ _ _ _ _ _ _ _ _ g0
  by_cases g1 : addrB a0_2 = true
  case neg => rw [if_neg (fun hc => g1 hc.2.1)]; exact check_bad1 _ _ _ _ _ _ _ _ _ _ _ _ _ _ g0 g1
  by_cases g2 : 1 ≤ a0_3
  case neg => rw [if_neg (fun hc => g2 hc.2.2.1)]; exact check_bad2 _ _ _ _ _ _ _ _ _ _ _ _ _ _ g0 g1 g2
  by_cases g3 : a0_3 ≤ 1125899906842623
  case neg => rw [if_neg (fun hc => g3 hc.2.2.2.1)]; exact check_bad3 _ _ _ _ _ _ _ _ _ _ _ _ _ _ g0 g1 g2 g3
  by_cases g4 : 0 ≤ a0_4
  case neg => rw [if_neg (fun hc => g4 hc.2.2.2.2.1)]; exact check_bad4 _ _ _ _ _ _ _ _ _ _ _ _ _ _ g0 g1 g2 g3 g4
  by_cases g5 : a0_4 ≤ 1125899906842624
  case neg => rw [if_neg (fun hc => g5 hc.2.2.2.2.2.1)]; exact check_bad5 _ _ _ _ _ _ _ _ _ _ _ _ _ _ g0 g1 g2 g3 g4 g5
  by_cases g6 : 0 ≤ a0_5
  case neg => rw [if_neg (fun hc => g6 hc.2.2.2.2.2.2)]; exact check_bad6 _ _ _ _ _ _ _ _ _ _ _ _ _ _ g0 g1 g2 g3 g4 g5 g6
  rw [if_pos ⟨g0, g1, g2, g3, g4, g5, g6⟩]
  exact check_good _ _ _ _ _ _ _ _ _ _ _ _ _ _ hr0_7 hc0_7 hr0_8 hc0_8 hl7 hl8 g0 g1 g2 g3 g4 g5 g6
end Go.Proofs.Ytelgpkbnahgdoaa.Al
