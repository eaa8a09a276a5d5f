/- What the laws stand on, in one text: functions of the program by their contracts, the plain mathematics behind them, and such of the printed words as these use. It began as the kit's print and own texts; put together by a program (trim.py). -/
import Derived.Test.YtbfjbcaabijpfaaPzb
import Derived.Deep.RegionLaw
import Derived.Deep.RegionHeld3
import Derived.IntWalk
import Derived.StillTail
namespace Go.Proofs.Ytbfjbcaabijpfaa.Al
open Go.RowKit Go.Proofs.YtbfjbcaabijpfaaW.PrintWords
theorem cfz2 {w : World} {g t : Nat} {c0 c1 : Value} (h : w.heap[g]? = some (.cells #[c0, c1] t (0, 0))) : w.cell? ⟨g, 0, none⟩ = some c0 ∧ w.frozen? ⟨g, 0, none⟩ = false ∧ w.cell? ⟨g, 1, none⟩ = some c1 ∧ w.frozen? ⟨g, 1, none⟩ = false := ⟨(blk_cell h 0).trans rfl, blk_frozen h 0, (blk_cell h 1).trans rfl, blk_frozen h 1⟩
end Go.Proofs.Ytbfjbcaabijpfaa.Al

namespace Go.Proofs.Ytbfjbcaabijpfaa.Al
open Go.RowKit Go.Proofs.Ytbfjbcaabijpfaa.Base Go.Proofs.Ytbfjbcaabijpfaa.LetSpec Go.Proofs.YtbfjbcaabijpfaaW.PrintWords Go.Proofs.YtbfjbcaabijpfaaW.PrintLast Go.Proofs.YtbfjbcaabijpfaaW.PrintMore
set_option linter.unusedVariables false
set_option linter.unusedSimpArgs false
theorem eqA54 (d : Nat) (w : World) (x0 y0 x1 y1 x2 y2 x3 y3 : Int) (x4 y4 x5 y5 : ByteArray) (x6 y6 : Bool) :
  (Op.equalIn (d + 2) 54 (.agg #[.int .i64 x0, .int .i64 x1, .int .i64 x2, .int .i64 x3, .string x4, .string x5, .bool x6]) (.agg #[.int .i64 y0, .int .i64 y1, .int .i64 y2, .int .i64 y3, .string y4, .string y5, .bool y6])).run Try.prog w = .ok (x0 == y0 && (x1 == y1 && (x2 == y2 && (x3 == y3 && (x4.toList == y4.toList && (x5.toList == y5.toList && (x6 == y6))))))) w := by
 refine eqA_of Try.underlying54 (by kernel_rfl) ?_
 refine eqf_cons (by rfl) (by go_simp; rfl) (by go_simp; rfl) (by go_simp) ?_
 refine eqf_cons (by rfl) (by go_simp; rfl) (by go_simp; rfl) (by go_simp) ?_
 refine eqf_cons (by rfl) (by go_simp; rfl) (by go_simp; rfl) (by go_simp) ?_
 refine eqf_cons (by rfl) (by go_simp; rfl) (by go_simp; rfl) (by go_simp) ?_
 refine eqf_cons (by rfl) (by go_simp; rfl) (by go_simp; rfl) (by go_simp) ?_
 refine eqf_cons (by rfl) (by go_simp; rfl) (by go_simp; rfl) (by go_simp) ?_
 exact eqf_last (by rfl) (by go_simp; rfl) (by go_simp; rfl) (by go_simp)
/-- What the lists are as a prepared transaction's; without any. -/
def listB (l7 : List ByteArray) (l8 : List S50) : Bool := chkL 3 0 0 1 0 0 ⟨#[]⟩ l7 l8 == 0
def noneB (l7 : List ByteArray) (l8 : List S50) : Bool := (l7.length : Int) + (l8.length : Int) == 0
def headB (t ts co : Int) : Bool := decide (t < 0) || (decide (1125899906842623 < t) || (decide (ts < 0) || (decide (1125899906842624 < ts) || (decide (co < 0) || decide (16 ≤ co)))))
def neqR (w0 w1 w2 w3 : Int) (w4 w5 : ByteArray) (w6 : Bool) (a0 a1 a2 a3 : Int) (a4 a5 : ByteArray) (a6 : Bool) : Bool := (!(w0 == a0) || (!(w1 == a1) || (!(w2 == a2) || (!(w3 == a3) || (!(w4.toList == a4.toList) || (!(w5.toList == a5.toList) || (!(w6 == a6))))))))
def finR (b : Bool) (w0 w1 w2 w3 : Int) (w4 w5 : ByteArray) (w6 : Bool) (a0 a1 a2 a3 : Int) (a4 a5 : ByteArray) (a6 : Bool) : Int := if b = true then (if neqR w0 w1 w2 w3 w4 w5 w6 a0 a1 a2 a3 a4 a5 a6 = true then 80 else 0) else 80
def verB (ts : Int) (key text : ByteArray) (dead : Bool) : Bool := decide (0 < ts) && (keyB key && (decide (text.size ≤ 2052) && !(dead && !(text.toList.isEmpty))))
def chkK (a0 a1 a2 a3 : Int) (a4 a5 : ByteArray) (a6 : Bool) (l7 : List ByteArray) (l8 : List S50) : Int :=
 if a0 = 1 then finR (listB l7 l8 && decide (0 < a1)) a0 a1 a2 a3 ⟨#[]⟩ ⟨#[]⟩ false a0 a1 a2 a3 a4 a5 a6
 else if a0 = 2 then finR (noneB l7 l8 && decide (0 < a1)) a0 a1 a2 0 ⟨#[]⟩ ⟨#[]⟩ false a0 a1 a2 a3 a4 a5 a6
 else if a0 = 5 then finR (noneB l7 l8 && (decide (0 < a1) && decide (0 < a2))) a0 a1 a2 0 ⟨#[]⟩ ⟨#[]⟩ false a0 a1 a2 a3 a4 a5 a6
 else if a0 = 6 then finR (noneB l7 l8 && decide (0 < a1)) a0 a1 0 0 ⟨#[]⟩ ⟨#[]⟩ false a0 a1 a2 a3 a4 a5 a6
 else if a0 = 3 then finR (noneB l7 l8 && verB a2 a4 a5 a6) a0 0 a2 0 a4 a5 a6 a0 a1 a2 a3 a4 a5 a6
 else if a0 = 4 then finR (noneB l7 l8) a0 0 a2 0 ⟨#[]⟩ ⟨#[]⟩ false a0 a1 a2 a3 a4 a5 a6
 else if a0 = 7 then finR (noneB l7 l8 && decide (0 < a2)) a0 0 a2 0 ⟨#[]⟩ ⟨#[]⟩ false a0 a1 a2 a3 a4 a5 a6
 else 80
def chkR (a0 a1 a2 a3 : Int) (a4 a5 : ByteArray) (a6 : Bool) (l7 : List ByteArray) (l8 : List S50) : Int := if headB a1 a2 a3 = true then 80 else chkK a0 a1 a2 a3 a4 a5 a6 l7 l8
def record_Check.f (a0_0 : Int) (a0_1 : Int) (a0_2 : Int) (a0_3 : Int) (a0_4 : ByteArray) (a0_5 : ByteArray) (a0_6 : Bool) (l0_7 : List ByteArray) (l0_8 : List S50) : Option Int := if l0_7.length ≤ 8796093022000 ∧ l0_8.length ≤ 8796093022000 then some (chkR a0_0 a0_1 a0_2 a0_3 a0_4 a0_5 a0_6 l0_7 l0_8) else none
theorem listed_calls (a0_0 a0_1 a0_2 a0_3 : Int) (a0_4 a0_5 : ByteArray) (a0_6 : Bool) (A0_7 : Option Addr) (c0_7 : Nat) (l0_7 : List ByteArray) (A0_8 : Option Addr) (c0_8 : Nat) (l0_8 : List S50) (w : World) (hr0_7 : Kd.C Kd.string w A0_7 l0_7.length l0_7) (hc0_7 : l0_7.length ≤ c0_7) (hr0_8 : Kd.C k50 w A0_8 l0_8.length l0_8) (hc0_8 : l0_8.length ≤ c0_8) (hl : l0_7.length ≤ 8796093022000 ∧ l0_8.length ≤ 8796093022000) (r : Bool) (hr : listB l0_7 l0_8 = r) :
  Calls Try.prog 24 #[.agg #[.int .i64 a0_0, .int .i64 a0_1, .int .i64 a0_2, .int .i64 a0_3, .string a0_4, .string a0_5, .bool a0_6, .slice A0_7 l0_7.length c0_7, .slice A0_8 l0_8.length c0_8]] w fun e w' => e = .returned (.bool r) ∧ Below w.heap.size w w' := by
 refine record_listed.calls a0_0 a0_1 a0_2 a0_3 a0_4 a0_5 a0_6 A0_7 c0_7 l0_7 A0_8 c0_8 l0_8 r w hr0_7 hc0_7 hr0_8 hc0_8 ?_
 rw [← hr]
 simp only [record_listed.f, letter_Check.f, if_pos hl, Option.bind_some, listB]
theorem bare_calls (a0_0 a0_1 a0_2 a0_3 : Int) (a0_4 a0_5 : ByteArray) (a0_6 : Bool) (A0_7 : Option Addr) (c0_7 : Nat) (l0_7 : List ByteArray) (A0_8 : Option Addr) (c0_8 : Nat) (l0_8 : List S50) (w : World) (hr0_7 : Kd.C Kd.string w A0_7 l0_7.length l0_7) (hc0_7 : l0_7.length ≤ c0_7) (hr0_8 : Kd.C k50 w A0_8 l0_8.length l0_8) (hc0_8 : l0_8.length ≤ c0_8) :
  Calls Try.prog 23 #[.agg #[.int .i64 a0_0, .int .i64 a0_1, .int .i64 a0_2, .int .i64 a0_3, .string a0_4, .string a0_5, .bool a0_6, .slice A0_7 l0_7.length c0_7, .slice A0_8 l0_8.length c0_8]] w fun e w' => e = .returned (.agg #[.int .i64 a0_0, .int .i64 a0_1, .int .i64 a0_2, .int .i64 0, .string (⟨#[]⟩ : ByteArray), .string (⟨#[]⟩ : ByteArray), .bool false]) ∧ Below w.heap.size w w' :=
 record_bare.calls a0_0 a0_1 a0_2 a0_3 a0_4 a0_5 a0_6 A0_7 c0_7 l0_7 A0_8 c0_8 l0_8 a0_0 a0_1 a0_2 0 ⟨#[]⟩ ⟨#[]⟩ false w hr0_7 hc0_7 hr0_8 hc0_8 rfl
attribute [local go_sem high] eqA54
theorem set7 {W : World} {g t : Nat} {z0 z1 z2 z3 z4 z5 z6 c0 c1 c2 c3 c4 c5 c6 : Value} (h : W.heap[g]? = some (.cells #[z0, z1, z2, z3, z4, z5, z6] t (0, 0))) : (((((((W.setCell ⟨g, 0, none⟩ c0).setCell ⟨g, 1, none⟩ c1).setCell ⟨g, 2, none⟩ c2).setCell ⟨g, 3, none⟩ c3).setCell ⟨g, 4, none⟩ c4).setCell ⟨g, 5, none⟩ c5).setCell ⟨g, 6, none⟩ c6).heap[g]? = some (.cells #[c0, c1, c2, c3, c4, c5, c6] t (0, 0)) := by
 have h1 := blk_set (blk_set (blk_set (blk_set (blk_set (blk_set (blk_set h 0 c0) 1 c1) 2 c2) 3 c3) 4 c4) 5 c5) 6 c6
 simpa using h1
theorem far7 {W : World} {g b t : Nat} {cs : Array Value} {c0 c1 c2 c3 c4 c5 c6 : Value} (h : W.heap[b]? = some (.cells cs t (0, 0))) (n : b ≠ g) : (((((((W.setCell ⟨g, 0, none⟩ c0).setCell ⟨g, 1, none⟩ c1).setCell ⟨g, 2, none⟩ c2).setCell ⟨g, 3, none⟩ c3).setCell ⟨g, 4, none⟩ c4).setCell ⟨g, 5, none⟩ c5).setCell ⟨g, 6, none⟩ c6).heap[b]? = some (.cells cs t (0, 0)) :=
 blk_far (blk_far (blk_far (blk_far (blk_far (blk_far (blk_far h n _) n _) n _) n _) n _) n _) n _
theorem below7 {w W : World} {g : Nat} {c0 c1 c2 c3 c4 c5 c6 : Value} (h : Below w.heap.size w W) (hg : w.heap.size ≤ g) : Below w.heap.size w (((((((W.setCell ⟨g, 0, none⟩ c0).setCell ⟨g, 1, none⟩ c1).setCell ⟨g, 2, none⟩ c2).setCell ⟨g, 3, none⟩ c3).setCell ⟨g, 4, none⟩ c4).setCell ⟨g, 5, none⟩ c5).setCell ⟨g, 6, none⟩ c6) :=
 below_set (below_set (below_set (below_set (below_set (below_set (below_set h hg) hg) hg) hg) hg) hg) hg
def record_Check.T7 : Bool × List (List Nat × List Nat) := (true, [([], []), ([0], [0]), ([], []), ([2], [2]), ([3, 3], [3]), ([4], [4]), ([5, 4], [4, 5]), ([6, 4], [4, 6]), ([4, 7], [4, 7]), ([0, 1], []), ([9, 1, 4, 0, 1], [1, 9]), ([8, 10, 0, 1, 2, 3, 4, 5, 6, 7, 8, 9, 10], [8])])
def record_Check.B7 : List Nat := [0, 1, 0, 4, 12, 28, 60, 124, 252, 3, 543, 2047]
theorem record_Check.tab7 : rtab .any (opsOf Try.f11 7) = record_Check.T7 := by kernel_rfl
theorem record_Check.bits7 : waitsOk record_Check.T7.2 record_Check.B7 = true := by kernel_rfl
def record_Check.T13 : Bool × List (List Nat × List Nat) := (true, [([], []), ([0], [0]), ([1], [1]), ([2, 1], [1, 2]), ([3, 1], [1, 3]), ([1, 4], [1, 4]), ([], []), ([6, 1], [6]), ([5, 7, 0, 1, 2, 3, 4, 5, 6, 7], [0, 5])])
def record_Check.B13 : List Nat := [0, 1, 3, 7, 15, 31, 0, 67, 255]
theorem record_Check.tab13 : rtab .any (opsOf Try.f11 13) = record_Check.T13 := by kernel_rfl
theorem record_Check.bits13 : waitsOk record_Check.T13.2 record_Check.B13 = true := by kernel_rfl
def record_Check.T20 : Bool × List (List Nat × List Nat) := (true, [([], []), ([0], [0]), ([1], [1]), ([2, 1], [1, 2]), ([3, 1], [1, 3]), ([1, 4], [1, 4]), ([], []), ([6, 1], [6]), ([5, 7, 0, 1, 2, 3, 4, 5, 6, 7], [0, 5])])
def record_Check.B20 : List Nat := [0, 1, 3, 7, 15, 31, 0, 67, 255]
theorem record_Check.tab20 : rtab .any (opsOf Try.f11 20) = record_Check.T20 := by kernel_rfl
theorem record_Check.bits20 : waitsOk record_Check.T20.2 record_Check.B20 = true := by kernel_rfl
set_option maxHeartbeats 8000000 in
set_option maxRecDepth 100000 in
theorem record_Check.coreA (a0_0 a0_1 a0_2 a0_3 : Int) (a0_4 a0_5 : ByteArray) (a0_6 : Bool) (hk : a0_0 = 1 ∨ a0_0 = 2 ∨ a0_0 = 5 ∨ a0_0 = 6) (A0_7 : Option Addr) (c0_7 : Nat) (l0_7 : List ByteArray) (A0_8 : Option Addr) (c0_8 : Nat) (l0_8 : List S50) (w : World) (hr0_7 : Kd.C Kd.string w A0_7 l0_7.length l0_7) (hc0_7 : l0_7.length ≤ c0_7) (hr0_8 : Kd.C k50 w A0_8 l0_8.length l0_8) (hc0_8 : l0_8.length ≤ c0_8) (hl : l0_7.length ≤ 8796093022000 ∧ l0_8.length ≤ 8796093022000) :
  Calls Try.prog 11 #[.agg #[.int .i64 a0_0, .int .i64 a0_1, .int .i64 a0_2, .int .i64 a0_3, .string a0_4, .string a0_5, .bool a0_6, .slice A0_7 l0_7.length c0_7, .slice A0_8 l0_8.length c0_8]] w fun e w' => e = .returned (.int .i64 (chkR a0_0 a0_1 a0_2 a0_3 a0_4 a0_5 a0_6 l0_7 l0_8)) ∧ Below w.heap.size w w' := by
 have hu25 := Try.underlying25
 have hu54 := Try.underlying54
 have HR7 := Aside0.mk hr0_7
 have HC7 := Aside0.mk hc0_7
 have HR8 := Aside0.mk hr0_8
 have HC8 := Aside0.mk hc0_8
 have HL := Aside0.mk hl
 have HK := Aside0.mk hk
 clear hk
 have HB0 := Aside0.mk (Below.refl w.heap.size w)
 clear hr0_7 hc0_7 hr0_8 hc0_8
 obtain ⟨r, hr⟩ : ∃ r, r = chkR a0_0 a0_1 a0_2 a0_3 a0_4 a0_5 a0_6 l0_7 l0_8 := ⟨_, rfl⟩
 rw [← hr]
 have HRR := Aside0.mk hr
 clear hr
 have hw7 : IntKind.i64.wrap ((l0_7.length : Int) + (l0_8.length : Int)) = (l0_7.length : Int) + (l0_8.length : Int) := IntWalk.i64_in _ (by omega)
 clear hl
 go_enter Try.func11, Try.ntmps11
 go_upto_region 1 with ((with_reducible refine gate_dst (N := 1) rfl ?_); (try (refine gate_guard (by rfl) ?_; dsimp only)); refine box_event ?hg (N := 1) ?hd (cs := #[.int .i64 a0_0, .int .i64 a0_1, .int .i64 a0_2, .int .i64 a0_3, .string a0_4, .string a0_5, .bool a0_6, .slice A0_7 l0_7.length c0_7, .slice A0_8 l0_8.length c0_8]) (t := 25) ?hr ?_; (case hd => rfl); (case hg => rfl); (case hr => first | (go_simp; done) | (go_simp; rfl)); intro gb hg w1 hbox hb; have HB := Aside0.mk (below_step HB0.out hb); have BK := Aside0.mk hbox; have GE := Aside0.mk ((by rw [hg]; exact Nat.le_refl _) : w.heap.size ≤ gb); clear HB0 hb hbox hg)
 (try simp only [Act.put, List.setIfInBounds_toArray, List.set_cons_zero, List.set_cons_succ])
 have hb_0 : w1.cell? ⟨gb, 0, none⟩ = some (.int .i64 a0_0) := (blk_cell BK.out 0).trans rfl
 have fb_0 := blk_frozen BK.out 0
 have hb_1 : w1.cell? ⟨gb, 1, none⟩ = some (.int .i64 a0_1) := (blk_cell BK.out 1).trans rfl
 have fb_1 := blk_frozen BK.out 1
 have hb_2 : w1.cell? ⟨gb, 2, none⟩ = some (.int .i64 a0_2) := (blk_cell BK.out 2).trans rfl
 have fb_2 := blk_frozen BK.out 2
 have hb_3 : w1.cell? ⟨gb, 3, none⟩ = some (.int .i64 a0_3) := (blk_cell BK.out 3).trans rfl
 have fb_3 := blk_frozen BK.out 3
 have hb_4 : w1.cell? ⟨gb, 4, none⟩ = some (.string a0_4) := (blk_cell BK.out 4).trans rfl
 have fb_4 := blk_frozen BK.out 4
 have hb_5 : w1.cell? ⟨gb, 5, none⟩ = some (.string a0_5) := (blk_cell BK.out 5).trans rfl
 have fb_5 := blk_frozen BK.out 5
 have hb_6 : w1.cell? ⟨gb, 6, none⟩ = some (.bool a0_6) := (blk_cell BK.out 6).trans rfl
 have fb_6 := blk_frozen BK.out 6
 have hb_7 : w1.cell? ⟨gb, 7, none⟩ = some (.slice A0_7 l0_7.length c0_7) := (blk_cell BK.out 7).trans rfl
 have fb_7 := blk_frozen BK.out 7
 have hb_8 : w1.cell? ⟨gb, 8, none⟩ = some (.slice A0_8 l0_8.length c0_8) := (blk_cell BK.out 8).trans rfl
 have fb_8 := blk_frozen BK.out 8
 go_cut [32] (fun v32 wc => ∃ x : Bool, v32 = .bool x ∧ Aside0 (x = headB a0_1 a0_2 a0_3) ∧ Aside0 (wc.heap[gb]? = some (.cells #[.int .i64 a0_0, .int .i64 a0_1, .int .i64 a0_2, .int .i64 a0_3, .string a0_4, .string a0_5, .bool a0_6, .slice A0_7 l0_7.length c0_7, .slice A0_8 l0_8.length c0_8] 25 (0, 0))) ∧ Aside0 (Below w.heap.size w wc))
 case first =>
  by_cases c0 : a0_1 < 0
  ·have d0 : decide (a0_1 < 0) = true := decide_eq_true c0
   have D0 := Aside0.mk d0
   clear c0
   go_wp2
   go_meet
   case rel => exact ⟨true, rfl, ⟨by simp [headB, D0.out]⟩, ⟨by (with_reducible repeat (first | refine blk_drewN ?_ _ | refine blk_drew ?_ | refine blk_alloc ?_ _)); exact BK.out⟩, ⟨by repeat (first | (with_reducible first | exact HB.out | apply pw_below_drewN | apply below_drew1) | exact HB.out)⟩⟩
  ·have d0 : decide (a0_1 < 0) = false := decide_eq_false c0
   have D0 := Aside0.mk d0
   clear c0
   by_cases c1 : 1125899906842623 < a0_1
   ·have d1 : decide (1125899906842623 < a0_1) = true := decide_eq_true c1
    have D1 := Aside0.mk d1
    clear c1
    go_wp2
    go_meet
    case rel => exact ⟨true, rfl, ⟨by simp [headB, D0.out, D1.out]⟩, ⟨by (with_reducible repeat (first | refine blk_drewN ?_ _ | refine blk_drew ?_ | refine blk_alloc ?_ _)); exact BK.out⟩, ⟨by repeat (first | (with_reducible first | exact HB.out | apply pw_below_drewN | apply below_drew1) | exact HB.out)⟩⟩
   ·have d1 : decide (1125899906842623 < a0_1) = false := decide_eq_false c1
    have D1 := Aside0.mk d1
    clear c1
    by_cases c2 : a0_2 < 0
    ·have d2 : decide (a0_2 < 0) = true := decide_eq_true c2
     have D2 := Aside0.mk d2
     clear c2
     go_wp2
     go_meet
     case rel => exact ⟨true, rfl, ⟨by simp [headB, D0.out, D1.out, D2.out]⟩, ⟨by (with_reducible repeat (first | refine blk_drewN ?_ _ | refine blk_drew ?_ | refine blk_alloc ?_ _)); exact BK.out⟩, ⟨by repeat (first | (with_reducible first | exact HB.out | apply pw_below_drewN | apply below_drew1) | exact HB.out)⟩⟩
    ·have d2 : decide (a0_2 < 0) = false := decide_eq_false c2
     have D2 := Aside0.mk d2
     clear c2
     by_cases c3 : 1125899906842624 < a0_2
     ·have d3 : decide (1125899906842624 < a0_2) = true := decide_eq_true c3
      have D3 := Aside0.mk d3
      clear c3
      go_wp2
      go_meet
      case rel => exact ⟨true, rfl, ⟨by simp [headB, D0.out, D1.out, D2.out, D3.out]⟩, ⟨by (with_reducible repeat (first | refine blk_drewN ?_ _ | refine blk_drew ?_ | refine blk_alloc ?_ _)); exact BK.out⟩, ⟨by repeat (first | (with_reducible first | exact HB.out | apply pw_below_drewN | apply below_drew1) | exact HB.out)⟩⟩
     ·have d3 : decide (1125899906842624 < a0_2) = false := decide_eq_false c3
      have D3 := Aside0.mk d3
      clear c3
      by_cases c4 : a0_3 < 0
      ·have d4 : decide (a0_3 < 0) = true := decide_eq_true c4
       have D4 := Aside0.mk d4
       clear c4
       go_wp2
       go_meet
       case rel => exact ⟨true, rfl, ⟨by simp [headB, D0.out, D1.out, D2.out, D3.out, D4.out]⟩, ⟨by (with_reducible repeat (first | refine blk_drewN ?_ _ | refine blk_drew ?_ | refine blk_alloc ?_ _)); exact BK.out⟩, ⟨by repeat (first | (with_reducible first | exact HB.out | apply pw_below_drewN | apply below_drew1) | exact HB.out)⟩⟩
      ·have d4 : decide (a0_3 < 0) = false := decide_eq_false c4
       have D4 := Aside0.mk d4
       clear c4
       go_wp2
       go_meet
       case rel => exact ⟨(decide (a0_3 ≥ 16)), rfl, ⟨by simp [headB, D0.out, D1.out, D2.out, D3.out, D4.out]⟩, ⟨by (with_reducible repeat (first | refine blk_drewN ?_ _ | refine blk_drew ?_ | refine blk_alloc ?_ _)); exact BK.out⟩, ⟨by repeat (first | (with_reducible first | exact HB.out | apply pw_below_drewN | apply below_drew1) | exact HB.out)⟩⟩
 case rest =>
  obtain ⟨x, rfl, hx, BK, HB⟩ := hcut
  clear hb_0 fb_0 hb_1 fb_1 hb_2 fb_2 hb_3 fb_3 hb_4 fb_4 hb_5 fb_5 hb_6 fb_6 hb_7 fb_7 hb_8 fb_8
  by_cases hh : x = true
  ·subst hh
   have HE := Aside0.mk (HRR.out.trans (if_pos hx.out.symm))
   go_wp2
   go_ret
   exact ⟨by rw [HE.out]; rfl, HB.out⟩
  ·replace hh := Bool.eq_false_iff.mpr hh
   subst hh
   have HE := Aside0.mk (HRR.out.trans (if_neg (by rw [← hx.out]; decide)))
   clear hx HRR
   have NL := Aside0.mk (blk_lt BK.out)
   have hb_0 : wc.cell? ⟨gb, 0, none⟩ = some (.int .i64 a0_0) := (blk_cell BK.out 0).trans rfl
   have fb_0 := blk_frozen BK.out 0
   have hb_1 : wc.cell? ⟨gb, 1, none⟩ = some (.int .i64 a0_1) := (blk_cell BK.out 1).trans rfl
   have fb_1 := blk_frozen BK.out 1
   have hb_2 : wc.cell? ⟨gb, 2, none⟩ = some (.int .i64 a0_2) := (blk_cell BK.out 2).trans rfl
   have fb_2 := blk_frozen BK.out 2
   have hb_3 : wc.cell? ⟨gb, 3, none⟩ = some (.int .i64 a0_3) := (blk_cell BK.out 3).trans rfl
   have fb_3 := blk_frozen BK.out 3
   have hb_4 : wc.cell? ⟨gb, 4, none⟩ = some (.string a0_4) := (blk_cell BK.out 4).trans rfl
   have fb_4 := blk_frozen BK.out 4
   have hb_5 : wc.cell? ⟨gb, 5, none⟩ = some (.string a0_5) := (blk_cell BK.out 5).trans rfl
   have fb_5 := blk_frozen BK.out 5
   have hb_6 : wc.cell? ⟨gb, 6, none⟩ = some (.bool a0_6) := (blk_cell BK.out 6).trans rfl
   have fb_6 := blk_frozen BK.out 6
   have hb_7 : wc.cell? ⟨gb, 7, none⟩ = some (.slice A0_7 l0_7.length c0_7) := (blk_cell BK.out 7).trans rfl
   have fb_7 := blk_frozen BK.out 7
   have hb_8 : wc.cell? ⟨gb, 8, none⟩ = some (.slice A0_8 l0_8.length c0_8) := (blk_cell BK.out 8).trans rfl
   have fb_8 := blk_frozen BK.out 8
   have nb : gb ≠ wc.heap.size := Nat.ne_of_lt NL.out
   have nb2 : wc.heap.size ≠ gb := Nat.ne_of_gt NL.out
   go_upto_region 3 with (fail)
   go_cut [3, 4] from 33 (fun v3 v4 wx => ∃ (g3 : Nat), v3 = .pointer (some ⟨g3, 0, none⟩) ∧ v4 = .bool (noneB l0_7 l0_8) ∧ Aside0 (gb ≠ g3) ∧ Aside0 (w.heap.size ≤ g3) ∧ Aside0 (wx.heap[g3]? = some (.cells #[.int .i64 a0_0, .int .i64 a0_1, .int .i64 a0_2, .int .i64 0, .string (⟨#[]⟩ : ByteArray), .string (⟨#[]⟩ : ByteArray), .bool false] 54 (0, 0))) ∧ Aside0 (wx.heap[gb]? = some (.cells #[.int .i64 a0_0, .int .i64 a0_1, .int .i64 a0_2, .int .i64 a0_3, .string a0_4, .string a0_5, .bool a0_6, .slice A0_7 l0_7.length c0_7, .slice A0_8 l0_8.length c0_8] 25 (0, 0))) ∧ Aside0 (Below w.heap.size w wx))
   case first =>
    go_region_held3 (fun V => V.cell? ⟨gb, 0, none⟩ = some (.int .i64 a0_0) ∧ V.cell? ⟨gb, 1, none⟩ = some (.int .i64 a0_1) ∧ V.cell? ⟨gb, 2, none⟩ = some (.int .i64 a0_2) ∧ V.cell? ⟨gb, 3, none⟩ = some (.int .i64 a0_3) ∧ V.cell? ⟨gb, 4, none⟩ = some (.string a0_4) ∧ V.cell? ⟨gb, 5, none⟩ = some (.string a0_5) ∧ V.cell? ⟨gb, 6, none⟩ = some (.bool a0_6) ∧ V.cell? ⟨gb, 7, none⟩ = some (.slice A0_7 l0_7.length c0_7) ∧ V.cell? ⟨gb, 8, none⟩ = some (.slice A0_8 l0_8.length c0_8)) (go_keep) ((go_at_call 23; (with_reducible refine (bare_calls a0_0 a0_1 a0_2 a0_3 a0_4 a0_5 a0_6 _ _ l0_7 _ _ l0_8 _ (Kd.C_below HR7.out (by repeat (first | (with_reducible first | exact HB.out | apply below_alloc | apply pw_below_drewN | apply below_drew1) | exact HB.out))) HC7.out (Kd.C_below HR8.out (by repeat (first | (with_reducible first | exact HB.out | apply below_alloc | apply pw_below_drewN | apply below_drew1) | exact HB.out))) HC8.out).mono ?_); rintro e w2 ⟨rfl, hb⟩; have HB2 := Aside0.mk (below_step (by repeat (first | (with_reducible first | exact HB.out | apply below_alloc | apply pw_below_drewN | apply below_drew1) | exact HB.out)) hb); have BK2 : Aside0 (w2.heap[gb]? = some (.cells #[.int .i64 a0_0, .int .i64 a0_1, .int .i64 a0_2, .int .i64 a0_3, .string a0_4, .string a0_5, .bool a0_6, .slice A0_7 l0_7.length c0_7, .slice A0_8 l0_8.length c0_8] 25 (0, 0))) := ⟨blk_below (by (with_reducible repeat (first | refine blk_drewN ?_ _ | refine blk_drew ?_ | refine blk_alloc ?_ _)); exact BK.out) hb⟩; have hc_0 : w2.cell? ⟨gb, 0, none⟩ = some (.int .i64 a0_0) := (blk_cell BK2.out 0).trans rfl; have fc_0 := blk_frozen BK2.out 0; have hc_1 : w2.cell? ⟨gb, 1, none⟩ = some (.int .i64 a0_1) := (blk_cell BK2.out 1).trans rfl; have fc_1 := blk_frozen BK2.out 1; have hc_2 : w2.cell? ⟨gb, 2, none⟩ = some (.int .i64 a0_2) := (blk_cell BK2.out 2).trans rfl; have fc_2 := blk_frozen BK2.out 2; have hc_3 : w2.cell? ⟨gb, 3, none⟩ = some (.int .i64 a0_3) := (blk_cell BK2.out 3).trans rfl; have fc_3 := blk_frozen BK2.out 3; have hc_4 : w2.cell? ⟨gb, 4, none⟩ = some (.string a0_4) := (blk_cell BK2.out 4).trans rfl; have fc_4 := blk_frozen BK2.out 4; have hc_5 : w2.cell? ⟨gb, 5, none⟩ = some (.string a0_5) := (blk_cell BK2.out 5).trans rfl; have fc_5 := blk_frozen BK2.out 5; have hc_6 : w2.cell? ⟨gb, 6, none⟩ = some (.bool a0_6) := (blk_cell BK2.out 6).trans rfl; have fc_6 := blk_frozen BK2.out 6; have hc_7 : w2.cell? ⟨gb, 7, none⟩ = some (.slice A0_7 l0_7.length c0_7) := (blk_cell BK2.out 7).trans rfl; have fc_7 := blk_frozen BK2.out 7; have hc_8 : w2.cell? ⟨gb, 8, none⟩ = some (.slice A0_8 l0_8.length c0_8) := (blk_cell BK2.out 8).trans rfl; have fc_8 := blk_frozen BK2.out 8; (try (have BG : Aside0 (w2.heap[wc.heap.size]? = some (.cells #[.int .i64 0, .int .i64 0, .int .i64 0, .int .i64 0, .string (⟨#[]⟩ : ByteArray), .string (⟨#[]⟩ : ByteArray), .bool false] 54 (0, 0))) := ⟨blk_below (w := (wc.alloc (.cells #[.int .i64 0, .int .i64 0, .int .i64 0, .int .i64 0, .string (⟨#[]⟩ : ByteArray), .string (⟨#[]⟩ : ByteArray), .bool false] 54)).drew) (blk_drew (blk_new wc _)) hb⟩; have hg_0 : w2.cell? ⟨wc.heap.size, 0, none⟩ = some (.int .i64 0) := (blk_cell BG.out 0).trans rfl; have fg_0 := blk_frozen BG.out 0; have hg_1 : w2.cell? ⟨wc.heap.size, 1, none⟩ = some (.int .i64 0) := (blk_cell BG.out 1).trans rfl; have fg_1 := blk_frozen BG.out 1; have hg_2 : w2.cell? ⟨wc.heap.size, 2, none⟩ = some (.int .i64 0) := (blk_cell BG.out 2).trans rfl; have fg_2 := blk_frozen BG.out 2; have hg_3 : w2.cell? ⟨wc.heap.size, 3, none⟩ = some (.int .i64 0) := (blk_cell BG.out 3).trans rfl; have fg_3 := blk_frozen BG.out 3; have hg_4 : w2.cell? ⟨wc.heap.size, 4, none⟩ = some (.string (⟨#[]⟩ : ByteArray)) := (blk_cell BG.out 4).trans rfl; have fg_4 := blk_frozen BG.out 4; have hg_5 : w2.cell? ⟨wc.heap.size, 5, none⟩ = some (.string (⟨#[]⟩ : ByteArray)) := (blk_cell BG.out 5).trans rfl; have fg_5 := blk_frozen BG.out 5; have hg_6 : w2.cell? ⟨wc.heap.size, 6, none⟩ = some (.bool false) := (blk_cell BG.out 6).trans rfl; have fg_6 := blk_frozen BG.out 6; skip)); clear hb))
    all_goals (go_wp2; go_meet)
    all_goals (case rel => first | (have bg_ := BG.out; exact ⟨wc.heap.size, rfl, rfl, ⟨nb⟩, ⟨below_size HB.out⟩, ⟨set7 BG.out⟩, ⟨far7 BK2.out nb⟩, ⟨below7 HB2.out (below_size HB.out)⟩⟩) | exact ⟨w2.heap.size, rfl, rfl, ⟨Nat.ne_of_lt (blk_lt BK2.out)⟩, ⟨below_size HB2.out⟩, ⟨blk_new w2 _⟩, ⟨blk_alloc BK2.out _⟩, ⟨below_alloc HB2.out _⟩⟩)
   case rest =>
    clear hb_0 fb_0 hb_1 fb_1 hb_2 fb_2 hb_3 fb_3 hb_4 fb_4 hb_5 fb_5 hb_6 fb_6 hb_7 fb_7 hb_8 fb_8
    clear BK HB NL nb nb2
    obtain ⟨g3, rfl, rfl, NB, G3, H3, BK, HB⟩ := hcut
    have nb := NB.out
    have nb2 := Ne.symm NB.out
    have hb_0 : wc.cell? ⟨gb, 0, none⟩ = some (.int .i64 a0_0) := (blk_cell BK.out 0).trans rfl
    have fb_0 := blk_frozen BK.out 0
    have hb_1 : wc.cell? ⟨gb, 1, none⟩ = some (.int .i64 a0_1) := (blk_cell BK.out 1).trans rfl
    have fb_1 := blk_frozen BK.out 1
    have hb_2 : wc.cell? ⟨gb, 2, none⟩ = some (.int .i64 a0_2) := (blk_cell BK.out 2).trans rfl
    have fb_2 := blk_frozen BK.out 2
    have hb_3 : wc.cell? ⟨gb, 3, none⟩ = some (.int .i64 a0_3) := (blk_cell BK.out 3).trans rfl
    have fb_3 := blk_frozen BK.out 3
    have hb_4 : wc.cell? ⟨gb, 4, none⟩ = some (.string a0_4) := (blk_cell BK.out 4).trans rfl
    have fb_4 := blk_frozen BK.out 4
    have hb_5 : wc.cell? ⟨gb, 5, none⟩ = some (.string a0_5) := (blk_cell BK.out 5).trans rfl
    have fb_5 := blk_frozen BK.out 5
    have hb_6 : wc.cell? ⟨gb, 6, none⟩ = some (.bool a0_6) := (blk_cell BK.out 6).trans rfl
    have fb_6 := blk_frozen BK.out 6
    have hb_7 : wc.cell? ⟨gb, 7, none⟩ = some (.slice A0_7 l0_7.length c0_7) := (blk_cell BK.out 7).trans rfl
    have fb_7 := blk_frozen BK.out 7
    have hb_8 : wc.cell? ⟨gb, 8, none⟩ = some (.slice A0_8 l0_8.length c0_8) := (blk_cell BK.out 8).trans rfl
    have fb_8 := blk_frozen BK.out 8
    have hw_0 : wc.cell? ⟨g3, 0, none⟩ = some (.int .i64 a0_0) := (blk_cell H3.out 0).trans rfl
    have fw_0 := blk_frozen H3.out 0
    have hw_1 : wc.cell? ⟨g3, 1, none⟩ = some (.int .i64 a0_1) := (blk_cell H3.out 1).trans rfl
    have fw_1 := blk_frozen H3.out 1
    have hw_2 : wc.cell? ⟨g3, 2, none⟩ = some (.int .i64 a0_2) := (blk_cell H3.out 2).trans rfl
    have fw_2 := blk_frozen H3.out 2
    have hw_3 : wc.cell? ⟨g3, 3, none⟩ = some (.int .i64 0) := (blk_cell H3.out 3).trans rfl
    have fw_3 := blk_frozen H3.out 3
    have hw_4 : wc.cell? ⟨g3, 4, none⟩ = some (.string (⟨#[]⟩ : ByteArray)) := (blk_cell H3.out 4).trans rfl
    have fw_4 := blk_frozen H3.out 4
    have hw_5 : wc.cell? ⟨g3, 5, none⟩ = some (.string (⟨#[]⟩ : ByteArray)) := (blk_cell H3.out 5).trans rfl
    have fw_5 := blk_frozen H3.out 5
    have hw_6 : wc.cell? ⟨g3, 6, none⟩ = some (.bool false) := (blk_cell H3.out 6).trans rfl
    have fw_6 := blk_frozen H3.out 6
    go_upto_block 0 with (fail)
    go_cut [4] from 45 (fun v4 wx => ∃ (b : Bool) (w0 w1 w2 w3 : Int) (w4 w5 : ByteArray) (w6 : Bool), v4 = .bool b ∧ Aside0 (r = finR b w0 w1 w2 w3 w4 w5 w6 a0_0 a0_1 a0_2 a0_3 a0_4 a0_5 a0_6) ∧ Aside0 (wx.heap[g3]? = some (.cells #[.int .i64 w0, .int .i64 w1, .int .i64 w2, .int .i64 w3, .string w4, .string w5, .bool w6] 54 (0, 0))) ∧ Aside0 (wx.heap[gb]? = some (.cells #[.int .i64 a0_0, .int .i64 a0_1, .int .i64 a0_2, .int .i64 a0_3, .string a0_4, .string a0_5, .bool a0_6, .slice A0_7 l0_7.length c0_7, .slice A0_8 l0_8.length c0_8] 25 (0, 0))) ∧ Aside0 (Below w.heap.size w wx))
    case first =>
     by_cases q1 : a0_0 = 1
     ·subst q1
      by_cases L : listB l0_7 l0_8 = true
      ·have HLB := Aside0.mk L
       clear L
       by_cases t : 0 < a0_1
       ·have dt : decide (0 < a0_1) = true := decide_eq_true t
        have Dt := Aside0.mk dt
        clear t
        go_wp2
        go_region_held3 (fun V => V.cell? ⟨gb, 0, none⟩ = some (.int .i64 1) ∧ V.cell? ⟨gb, 1, none⟩ = some (.int .i64 a0_1) ∧ V.cell? ⟨gb, 2, none⟩ = some (.int .i64 a0_2) ∧ V.cell? ⟨gb, 3, none⟩ = some (.int .i64 a0_3) ∧ V.cell? ⟨gb, 4, none⟩ = some (.string a0_4) ∧ V.cell? ⟨gb, 5, none⟩ = some (.string a0_5) ∧ V.cell? ⟨gb, 6, none⟩ = some (.bool a0_6) ∧ V.cell? ⟨gb, 7, none⟩ = some (.slice A0_7 l0_7.length c0_7) ∧ V.cell? ⟨gb, 8, none⟩ = some (.slice A0_8 l0_8.length c0_8)) (go_keep) ((go_at_call 24; (with_reducible refine (listed_calls 1 a0_1 a0_2 a0_3 a0_4 a0_5 a0_6 _ _ l0_7 _ _ l0_8 _ (Kd.C_below HR7.out (by repeat (first | (with_reducible first | exact HB.out | apply below_alloc | apply pw_below_drewN | apply below_drew1 | refine below_set ?_ G3.out) | exact HB.out))) HC7.out (Kd.C_below HR8.out (by repeat (first | (with_reducible first | exact HB.out | apply below_alloc | apply pw_below_drewN | apply below_drew1 | refine below_set ?_ G3.out) | exact HB.out))) HC8.out HL.out true HLB.out).mono ?_); rintro e wy ⟨rfl, hb⟩; have HBy := Aside0.mk (below_step (by repeat (first | (with_reducible first | exact HB.out | apply below_alloc | apply pw_below_drewN | apply below_drew1 | refine below_set ?_ G3.out) | exact HB.out)) hb); have BKy : Aside0 (wy.heap[gb]? = some (.cells #[.int .i64 1, .int .i64 a0_1, .int .i64 a0_2, .int .i64 a0_3, .string a0_4, .string a0_5, .bool a0_6, .slice A0_7 l0_7.length c0_7, .slice A0_8 l0_8.length c0_8] 25 (0, 0))) := ⟨blk_below (by (with_reducible repeat (first | refine blk_drewN ?_ _ | refine blk_drew ?_ | refine blk_alloc ?_ _ | refine blk_far ?_ NB.out _)); exact BK.out) hb⟩; (first | have H3y : Aside0 (wy.heap[g3]? = some (.cells #[.int .i64 1, .int .i64 a0_1, .int .i64 a0_2, .int .i64 0, .string (⟨#[]⟩ : ByteArray), .string (⟨#[]⟩ : ByteArray), .bool false] 54 (0, 0))) := ⟨blk_below (by (with_reducible repeat (first | refine blk_drewN ?_ _ | refine blk_drew ?_ | refine blk_alloc ?_ _)); exact H3.out) hb⟩ | have H3z : Aside0 (wy.heap[g3]? = some (.cells #[.int .i64 1, .int .i64 a0_1, .int .i64 a0_2, .int .i64 a0_3, .string (⟨#[]⟩ : ByteArray), .string (⟨#[]⟩ : ByteArray), .bool false] 54 (0, 0))) := ⟨blk_below (by (with_reducible repeat (first | refine blk_drewN ?_ _ | refine blk_drew ?_ | refine blk_alloc ?_ _ | refine blk_far ?_ NB.out _)); refine blk_put (cs := #[.int .i64 1, .int .i64 a0_1, .int .i64 a0_2, .int .i64 0, .string (⟨#[]⟩ : ByteArray), .string (⟨#[]⟩ : ByteArray), .bool false]) ?_ 3 _ rfl; (with_reducible repeat (first | refine blk_drewN ?_ _ | refine blk_drew ?_ | refine blk_alloc ?_ _ | refine blk_far ?_ NB.out _)); exact H3.out) hb⟩); have hy_0 : wy.cell? ⟨gb, 0, none⟩ = some (.int .i64 1) := (blk_cell BKy.out 0).trans rfl; have fy_0 := blk_frozen BKy.out 0; have hy_1 : wy.cell? ⟨gb, 1, none⟩ = some (.int .i64 a0_1) := (blk_cell BKy.out 1).trans rfl; have fy_1 := blk_frozen BKy.out 1; have hy_2 : wy.cell? ⟨gb, 2, none⟩ = some (.int .i64 a0_2) := (blk_cell BKy.out 2).trans rfl; have fy_2 := blk_frozen BKy.out 2; have hy_3 : wy.cell? ⟨gb, 3, none⟩ = some (.int .i64 a0_3) := (blk_cell BKy.out 3).trans rfl; have fy_3 := blk_frozen BKy.out 3; have hy_4 : wy.cell? ⟨gb, 4, none⟩ = some (.string a0_4) := (blk_cell BKy.out 4).trans rfl; have fy_4 := blk_frozen BKy.out 4; have hy_5 : wy.cell? ⟨gb, 5, none⟩ = some (.string a0_5) := (blk_cell BKy.out 5).trans rfl; have fy_5 := blk_frozen BKy.out 5; have hy_6 : wy.cell? ⟨gb, 6, none⟩ = some (.bool a0_6) := (blk_cell BKy.out 6).trans rfl; have fy_6 := blk_frozen BKy.out 6; have hy_7 : wy.cell? ⟨gb, 7, none⟩ = some (.slice A0_7 l0_7.length c0_7) := (blk_cell BKy.out 7).trans rfl; have fy_7 := blk_frozen BKy.out 7; have hy_8 : wy.cell? ⟨gb, 8, none⟩ = some (.slice A0_8 l0_8.length c0_8) := (blk_cell BKy.out 8).trans rfl; have fy_8 := blk_frozen BKy.out 8; (try (have fy_ := blk_frozen H3y.out 3; have gy_ : wy.cell? ⟨g3, 3, none⟩ = some (.int .i64 0) := (blk_cell H3y.out 3).trans rfl));  clear hb))
        all_goals (go_wp2; go_meet)
        all_goals (case rel => first | exact ⟨true, (1), (a0_1), (a0_2), (a0_3), ((⟨#[]⟩ : ByteArray)), ((⟨#[]⟩ : ByteArray)), (false), rfl, ⟨HE.out.trans (by simp [chkK, HLB.out, Dt.out])⟩, ⟨(by (with_reducible repeat (first | refine blk_drewN ?_ _ | refine blk_drew ?_ | refine blk_alloc ?_ _ | refine blk_far ?_ NB.out _)); refine blk_put (cs := #[.int .i64 1, .int .i64 a0_1, .int .i64 a0_2, .int .i64 0, .string (⟨#[]⟩ : ByteArray), .string (⟨#[]⟩ : ByteArray), .bool false]) ?_ 3 _ rfl; (with_reducible repeat (first | refine blk_drewN ?_ _ | refine blk_drew ?_ | refine blk_alloc ?_ _ | refine blk_far ?_ NB.out _)); exact H3y.out)⟩, ⟨by (with_reducible repeat (first | refine blk_drewN ?_ _ | refine blk_drew ?_ | refine blk_alloc ?_ _ | refine blk_far ?_ NB.out _)); exact BKy.out⟩, ⟨(by repeat (first | (with_reducible first | exact HBy.out | apply below_alloc | apply pw_below_drewN | apply below_drew1 | refine below_set ?_ G3.out) | exact HBy.out))⟩⟩ | exact ⟨true, (1), (a0_1), (a0_2), (a0_3), ((⟨#[]⟩ : ByteArray)), ((⟨#[]⟩ : ByteArray)), (false), rfl, ⟨HE.out.trans (by simp [chkK, HLB.out, Dt.out])⟩, ⟨(by (with_reducible repeat (first | refine blk_drewN ?_ _ | refine blk_drew ?_ | refine blk_alloc ?_ _ | refine blk_far ?_ NB.out _)); exact H3z.out)⟩, ⟨by (with_reducible repeat (first | refine blk_drewN ?_ _ | refine blk_drew ?_ | refine blk_alloc ?_ _ | refine blk_far ?_ NB.out _)); exact BKy.out⟩, ⟨(by repeat (first | (with_reducible first | exact HBy.out | apply below_alloc | apply pw_below_drewN | apply below_drew1 | refine below_set ?_ G3.out) | exact HBy.out))⟩⟩)
       ·have dt : decide (0 < a0_1) = false := decide_eq_false t
        have Dt := Aside0.mk dt
        clear t
        go_wp2
        go_region_held3 (fun V => V.cell? ⟨gb, 0, none⟩ = some (.int .i64 1) ∧ V.cell? ⟨gb, 1, none⟩ = some (.int .i64 a0_1) ∧ V.cell? ⟨gb, 2, none⟩ = some (.int .i64 a0_2) ∧ V.cell? ⟨gb, 3, none⟩ = some (.int .i64 a0_3) ∧ V.cell? ⟨gb, 4, none⟩ = some (.string a0_4) ∧ V.cell? ⟨gb, 5, none⟩ = some (.string a0_5) ∧ V.cell? ⟨gb, 6, none⟩ = some (.bool a0_6) ∧ V.cell? ⟨gb, 7, none⟩ = some (.slice A0_7 l0_7.length c0_7) ∧ V.cell? ⟨gb, 8, none⟩ = some (.slice A0_8 l0_8.length c0_8)) (go_keep) ((go_at_call 24; (with_reducible refine (listed_calls 1 a0_1 a0_2 a0_3 a0_4 a0_5 a0_6 _ _ l0_7 _ _ l0_8 _ (Kd.C_below HR7.out (by repeat (first | (with_reducible first | exact HB.out | apply below_alloc | apply pw_below_drewN | apply below_drew1 | refine below_set ?_ G3.out) | exact HB.out))) HC7.out (Kd.C_below HR8.out (by repeat (first | (with_reducible first | exact HB.out | apply below_alloc | apply pw_below_drewN | apply below_drew1 | refine below_set ?_ G3.out) | exact HB.out))) HC8.out HL.out true HLB.out).mono ?_); rintro e wy ⟨rfl, hb⟩; have HBy := Aside0.mk (below_step (by repeat (first | (with_reducible first | exact HB.out | apply below_alloc | apply pw_below_drewN | apply below_drew1 | refine below_set ?_ G3.out) | exact HB.out)) hb); have BKy : Aside0 (wy.heap[gb]? = some (.cells #[.int .i64 1, .int .i64 a0_1, .int .i64 a0_2, .int .i64 a0_3, .string a0_4, .string a0_5, .bool a0_6, .slice A0_7 l0_7.length c0_7, .slice A0_8 l0_8.length c0_8] 25 (0, 0))) := ⟨blk_below (by (with_reducible repeat (first | refine blk_drewN ?_ _ | refine blk_drew ?_ | refine blk_alloc ?_ _ | refine blk_far ?_ NB.out _)); exact BK.out) hb⟩; (first | have H3y : Aside0 (wy.heap[g3]? = some (.cells #[.int .i64 1, .int .i64 a0_1, .int .i64 a0_2, .int .i64 0, .string (⟨#[]⟩ : ByteArray), .string (⟨#[]⟩ : ByteArray), .bool false] 54 (0, 0))) := ⟨blk_below (by (with_reducible repeat (first | refine blk_drewN ?_ _ | refine blk_drew ?_ | refine blk_alloc ?_ _)); exact H3.out) hb⟩ | have H3z : Aside0 (wy.heap[g3]? = some (.cells #[.int .i64 1, .int .i64 a0_1, .int .i64 a0_2, .int .i64 a0_3, .string (⟨#[]⟩ : ByteArray), .string (⟨#[]⟩ : ByteArray), .bool false] 54 (0, 0))) := ⟨blk_below (by (with_reducible repeat (first | refine blk_drewN ?_ _ | refine blk_drew ?_ | refine blk_alloc ?_ _ | refine blk_far ?_ NB.out _)); refine blk_put (cs := #[.int .i64 1, .int .i64 a0_1, .int .i64 a0_2, .int .i64 0, .string (⟨#[]⟩ : ByteArray), .string (⟨#[]⟩ : ByteArray), .bool false]) ?_ 3 _ rfl; (with_reducible repeat (first | refine blk_drewN ?_ _ | refine blk_drew ?_ | refine blk_alloc ?_ _ | refine blk_far ?_ NB.out _)); exact H3.out) hb⟩); have hy_0 : wy.cell? ⟨gb, 0, none⟩ = some (.int .i64 1) := (blk_cell BKy.out 0).trans rfl; have fy_0 := blk_frozen BKy.out 0; have hy_1 : wy.cell? ⟨gb, 1, none⟩ = some (.int .i64 a0_1) := (blk_cell BKy.out 1).trans rfl; have fy_1 := blk_frozen BKy.out 1; have hy_2 : wy.cell? ⟨gb, 2, none⟩ = some (.int .i64 a0_2) := (blk_cell BKy.out 2).trans rfl; have fy_2 := blk_frozen BKy.out 2; have hy_3 : wy.cell? ⟨gb, 3, none⟩ = some (.int .i64 a0_3) := (blk_cell BKy.out 3).trans rfl; have fy_3 := blk_frozen BKy.out 3; have hy_4 : wy.cell? ⟨gb, 4, none⟩ = some (.string a0_4) := (blk_cell BKy.out 4).trans rfl; have fy_4 := blk_frozen BKy.out 4; have hy_5 : wy.cell? ⟨gb, 5, none⟩ = some (.string a0_5) := (blk_cell BKy.out 5).trans rfl; have fy_5 := blk_frozen BKy.out 5; have hy_6 : wy.cell? ⟨gb, 6, none⟩ = some (.bool a0_6) := (blk_cell BKy.out 6).trans rfl; have fy_6 := blk_frozen BKy.out 6; have hy_7 : wy.cell? ⟨gb, 7, none⟩ = some (.slice A0_7 l0_7.length c0_7) := (blk_cell BKy.out 7).trans rfl; have fy_7 := blk_frozen BKy.out 7; have hy_8 : wy.cell? ⟨gb, 8, none⟩ = some (.slice A0_8 l0_8.length c0_8) := (blk_cell BKy.out 8).trans rfl; have fy_8 := blk_frozen BKy.out 8; (try (have fy_ := blk_frozen H3y.out 3; have gy_ : wy.cell? ⟨g3, 3, none⟩ = some (.int .i64 0) := (blk_cell H3y.out 3).trans rfl));  clear hb))
        all_goals (go_wp2; go_meet)
        all_goals (case rel => first | exact ⟨false, (1), (a0_1), (a0_2), (a0_3), ((⟨#[]⟩ : ByteArray)), ((⟨#[]⟩ : ByteArray)), (false), rfl, ⟨HE.out.trans (by simp [chkK, HLB.out, Dt.out])⟩, ⟨(by (with_reducible repeat (first | refine blk_drewN ?_ _ | refine blk_drew ?_ | refine blk_alloc ?_ _ | refine blk_far ?_ NB.out _)); refine blk_put (cs := #[.int .i64 1, .int .i64 a0_1, .int .i64 a0_2, .int .i64 0, .string (⟨#[]⟩ : ByteArray), .string (⟨#[]⟩ : ByteArray), .bool false]) ?_ 3 _ rfl; (with_reducible repeat (first | refine blk_drewN ?_ _ | refine blk_drew ?_ | refine blk_alloc ?_ _ | refine blk_far ?_ NB.out _)); exact H3y.out)⟩, ⟨by (with_reducible repeat (first | refine blk_drewN ?_ _ | refine blk_drew ?_ | refine blk_alloc ?_ _ | refine blk_far ?_ NB.out _)); exact BKy.out⟩, ⟨(by repeat (first | (with_reducible first | exact HBy.out | apply below_alloc | apply pw_below_drewN | apply below_drew1 | refine below_set ?_ G3.out) | exact HBy.out))⟩⟩ | exact ⟨false, (1), (a0_1), (a0_2), (a0_3), ((⟨#[]⟩ : ByteArray)), ((⟨#[]⟩ : ByteArray)), (false), rfl, ⟨HE.out.trans (by simp [chkK, HLB.out, Dt.out])⟩, ⟨(by (with_reducible repeat (first | refine blk_drewN ?_ _ | refine blk_drew ?_ | refine blk_alloc ?_ _ | refine blk_far ?_ NB.out _)); exact H3z.out)⟩, ⟨by (with_reducible repeat (first | refine blk_drewN ?_ _ | refine blk_drew ?_ | refine blk_alloc ?_ _ | refine blk_far ?_ NB.out _)); exact BKy.out⟩, ⟨(by repeat (first | (with_reducible first | exact HBy.out | apply below_alloc | apply pw_below_drewN | apply below_drew1 | refine below_set ?_ G3.out) | exact HBy.out))⟩⟩)
      ·have HLB := Aside0.mk (show listB l0_7 l0_8 = false by simpa using L)
       clear L
       go_wp2
       have NB2 := Aside0.mk nb2
       have n0_ := Aside0.mk (blk_drew BK.out)
       have n1_ := Aside0.mk (blk_drew H3.out)
       have n2_ := Aside0.mk (below_drew1 HB.out)
       clear BK H3 HB
       have BK := n0_
       have H3 := n1_
       have HB := n2_
       clear n0_ n1_ n2_
       refine start_ (n := 12) (S := fun w' => w'.cell? ⟨gb, 0, none⟩ = some (.int .i64 1) ∧ w'.cell? ⟨gb, 1, none⟩ = some (.int .i64 a0_1) ∧ w'.cell? ⟨gb, 2, none⟩ = some (.int .i64 a0_2) ∧ w'.cell? ⟨gb, 3, none⟩ = some (.int .i64 a0_3) ∧ w'.cell? ⟨gb, 4, none⟩ = some (.string a0_4) ∧ w'.cell? ⟨gb, 5, none⟩ = some (.string a0_5) ∧ w'.cell? ⟨gb, 6, none⟩ = some (.bool a0_6) ∧ w'.cell? ⟨gb, 7, none⟩ = some (.slice A0_7 l0_7.length c0_7) ∧ w'.cell? ⟨gb, 8, none⟩ = some (.slice A0_8 l0_8.length c0_8)) (ds := []) #[false, false, false, false, false, false, false, false, false, false, false, false] (by kernel_rfl) rfl rfl ⟨(blk_cell BK.out 0).trans rfl, (blk_cell BK.out 1).trans rfl, (blk_cell BK.out 2).trans rfl, (blk_cell BK.out 3).trans rfl, (blk_cell BK.out 4).trans rfl, (blk_cell BK.out 5).trans rfl, (blk_cell BK.out 6).trans rfl, (blk_cell BK.out 7).trans rfl, (blk_cell BK.out 8).trans rfl⟩ (fun hHeld => ?_); refine with_tabW record_Check.tab7 record_Check.bits7 (fun HT_ HW_ => ?_)
       generalize wc.drew = w91 at BK H3 HB hHeld ⊢
       refine pure_ (i := 0) (N := some 47) (v := ?_) (a' := ?_) #[true, false, false, false, false, false, false, false, false, false, false, false] rfl rfl (any_of HT_.out (by kernel_rfl)) (fun _ _ _ h => h) (Or.inl ⟨by rfl, ?_⟩) ?_ ?_
       rotate_left
       ·intro w'
        go_simp
        with_reducible rfl
       rotate_left
       ·simp only [Act.put, List.setIfInBounds_toArray, List.set_cons_zero, List.set_cons_succ, i64_w, i32_w]
        rfl
       refine take_ (i := 1) (N := some 48) (v := ?_) (a' := ?_) #[true, true, false, false, false, false, false, false, false, false, false, false] rfl rfl (take_ofW HT_.out HW_.out (by kernel_rfl)) (fun _ _ _ h => h) (Or.inl ⟨by rfl, ?_⟩) hHeld ?_ ?_
       rotate_left
       ·rintro w' ⟨s0, s1, s2, s3, s4, s5, s6, s7, s8⟩
        go_simp
        with_reducible rfl
       rotate_left
       ·simp only [Act.put, List.setIfInBounds_toArray, List.set_cons_zero, List.set_cons_succ, i64_w, i32_w]
        rfl
       refine pure_ (i := 9) (N := some 56) (v := ?_) (a' := ?_) #[true, true, false, false, false, false, false, false, false, true, false, false] rfl rfl (any_of HT_.out (by kernel_rfl)) (fun _ _ _ h => h) (Or.inl ⟨by rfl, ?_⟩) ?_ ?_
       rotate_left
       ·intro w'
        go_simp
        with_reducible rfl
       rotate_left
       ·simp only [Act.put, List.setIfInBounds_toArray, List.set_cons_zero, List.set_cons_succ, i64_w, i32_w]
        rfl
       refine take_ (i := 2) (N := some 49) (v := ?_) (a' := ?_) #[true, true, true, false, false, false, false, false, false, true, false, false] rfl rfl (take_ofW HT_.out HW_.out (by kernel_rfl)) (fun _ _ _ h => h) (Or.inl ⟨by rfl, ?_⟩) hHeld ?_ ?_
       rotate_left
       ·rintro w' ⟨s0, s1, s2, s3, s4, s5, s6, s7, s8⟩
        go_simp
        with_reducible rfl
       rotate_left
       ·simp only [Act.put, List.setIfInBounds_toArray, List.set_cons_zero, List.set_cons_succ, i64_w, i32_w]
        rfl
       refine one_ (i := 3) (N := some 50) #[true, true, true, true, false, false, false, false, false, true, false, false] rfl rfl (one_of HT_.out (by kernel_rfl)) (by decide) (fun K hK => ?_)
       refine goes_ Try.func24 (by kernel_rfl) rfl #[.agg #[.int .i64 1, .int .i64 a0_1, .int .i64 a0_2, .int .i64 a0_3, .string a0_4, .string a0_5, .bool a0_6, .slice A0_7 l0_7.length c0_7, .slice A0_8 l0_8.length c0_8]] (by rfl) rfl rfl (by (try simp only [List.map_toArray, List.map_cons, List.map_nil]); first | done | rfl | (simp only [List.length_drop, List.length_take]; rfl)) ?_
       with_reducible refine (listed_calls 1 a0_1 a0_2 a0_3 a0_4 a0_5 a0_6 _ _ l0_7 _ _ l0_8 _ ?side1 ?side2 ?side3 ?side4 HL.out false HLB.out).mono ?_
       (case side1 => repeat (first | exact (Kd.C_below HR7.out HB.out) | (with_reducible refine Kd.C_alloc ?_ _) | (with_reducible refine Kd.C_drewN ?_ _) | (with_reducible refine Kd.C_drew ?_)))
       (case side2 => exact HC7.out)
       (case side3 => repeat (first | exact (Kd.C_below HR8.out HB.out) | (with_reducible refine Kd.C_alloc ?_ _) | (with_reducible refine Kd.C_drewN ?_ _) | (with_reducible refine Kd.C_drew ?_)))
       (case side4 => exact HC8.out)
       rintro e w92 ⟨rfl, hb⟩
       refine ⟨_, rfl, ?_⟩
       have n0_ := Aside0.mk (blk_below (g := gb) (o := .cells #[.int .i64 1, .int .i64 a0_1, .int .i64 a0_2, .int .i64 a0_3, .string a0_4, .string a0_5, .bool a0_6, .slice A0_7 l0_7.length c0_7, .slice A0_8 l0_8.length c0_8] 25 (0, 0)) (by (with_reducible repeat (first | refine blk_drewN ?_ _ | refine blk_drew ?_ | refine blk_alloc ?_ _)); exact BK.out) hb)
       have n1_ := Aside0.mk (blk_below (g := g3) (o := .cells #[.int .i64 1, .int .i64 a0_1, .int .i64 a0_2, .int .i64 0, .string (⟨#[]⟩ : ByteArray), .string (⟨#[]⟩ : ByteArray), .bool false] 54 (0, 0)) (by (with_reducible repeat (first | refine blk_drewN ?_ _ | refine blk_drew ?_ | refine blk_alloc ?_ _)); exact H3.out) hb)
       have n2_ := Aside0.mk (below_step (by repeat (first | (with_reducible first | exact HB.out | apply below_alloc | apply pw_below_drewN | apply below_drew1 | refine below_set ?_ GE.out | refine below_set ?_ G3.out) | exact HB.out)) hb)
       clear BK
       clear H3
       clear HB
       have BK := n0_
       have H3 := n1_
       have HB := n2_
       clear n0_ n1_ n2_
       (try clear hb)
       (try clear hb2)
       (try clear hk)
       (try clear hi)
       refine hK.out _ _ ⟨(blk_cell BK.out 0).trans rfl, (blk_cell BK.out 1).trans rfl, (blk_cell BK.out 2).trans rfl, (blk_cell BK.out 3).trans rfl, (blk_cell BK.out 4).trans rfl, (blk_cell BK.out 5).trans rfl, (blk_cell BK.out 6).trans rfl, (blk_cell BK.out 7).trans rfl, (blk_cell BK.out 8).trans rfl⟩ (fun hHeld => ?_)
       clear hK K
       refine norm_ (a' := ?_) ?_ ?_
       rotate_left
       ·show Act.put _ (some 50) _ = _
        simp only [Act.put, List.setIfInBounds_toArray, List.set_cons_zero, List.set_cons_succ, i64_w, i32_w]
        rfl
       refine pure_ (i := 4) (N := some 51) (v := ?_) (a' := ?_) #[true, true, true, true, true, false, false, false, false, true, false, false] rfl rfl (any_of HT_.out (by kernel_rfl)) (fun _ _ _ h => h) (Or.inl ⟨by rfl, ?_⟩) ?_ ?_
       rotate_left
       ·intro w'
        go_simp
        with_reducible rfl
       rotate_left
       ·simp only [Act.put, List.setIfInBounds_toArray, List.set_cons_zero, List.set_cons_succ, i64_w, i32_w]
        rfl
       refine pure_ (i := 5) (N := some 52) (v := undef) (a' := ?_) #[true, true, true, true, true, true, false, false, false, true, false, false] rfl rfl (any_of HT_.out (by kernel_rfl)) (fun _ _ _ h => h) (Or.inr ⟨by rfl, rfl⟩) ?_ ?_
       rotate_left
       ·simp only [Act.put, List.setIfInBounds_toArray, List.set_cons_zero, List.set_cons_succ, i64_w, i32_w]
        rfl
       refine pure_ (i := 6) (N := some 53) (v := undef) (a' := ?_) #[true, true, true, true, true, true, true, false, false, true, false, false] rfl rfl (any_of HT_.out (by kernel_rfl)) (fun _ _ _ h => h) (Or.inr ⟨by rfl, rfl⟩) ?_ ?_
       rotate_left
       ·simp only [Act.put, List.setIfInBounds_toArray, List.set_cons_zero, List.set_cons_succ, i64_w, i32_w]
        rfl
       refine pure_ (i := 7) (N := some 54) (v := undef) (a' := ?_) #[true, true, true, true, true, true, true, true, false, true, false, false] rfl rfl (any_of HT_.out (by kernel_rfl)) (fun _ _ _ h => h) (Or.inr ⟨by rfl, rfl⟩) ?_ ?_
       rotate_left
       ·simp only [Act.put, List.setIfInBounds_toArray, List.set_cons_zero, List.set_cons_succ, i64_w, i32_w]
        rfl
       refine pure_ (i := 8) (N := some 55) (v := ?_) (a' := ?_) #[true, true, true, true, true, true, true, true, true, true, false, false] rfl rfl (any_of HT_.out (by kernel_rfl)) (fun _ _ _ h => h) (Or.inl ⟨by rfl, ?_⟩) ?_ ?_
       rotate_left
       ·intro w'
        go_simp
        with_reducible rfl
       rotate_left
       ·simp only [Act.put, List.setIfInBounds_toArray, List.set_cons_zero, List.set_cons_succ, i64_w, i32_w]
        rfl
       refine one_ (i := 10) (N := none) #[true, true, true, true, true, true, true, true, true, true, true, false] rfl rfl (one_of HT_.out (by kernel_rfl)) (by decide) (fun K hK => ?_)
       have hs93 : w92.cell? ⟨g3, 3, none⟩ = some (.int .i64 0) := (blk_cell H3.out 3).trans rfl
       have hfs93 := blk_frozen H3.out 3
       have hns93_0 := NB.out
       have hms93_0 := NB2.out
       refine skip_ (w1 := ?_) (by rfl) rfl ?_ ?_
       rotate_left
       ·go_simp
        rfl
       refine hK.out _ _ ⟨((cell_far (p := ⟨g3, _, none⟩) NB.out _).trans (hHeld.1)), ((cell_far (p := ⟨g3, _, none⟩) NB.out _).trans (hHeld.2.1)), ((cell_far (p := ⟨g3, _, none⟩) NB.out _).trans (hHeld.2.2.1)), ((cell_far (p := ⟨g3, _, none⟩) NB.out _).trans (hHeld.2.2.2.1)), ((cell_far (p := ⟨g3, _, none⟩) NB.out _).trans (hHeld.2.2.2.2.1)), ((cell_far (p := ⟨g3, _, none⟩) NB.out _).trans (hHeld.2.2.2.2.2.1)), ((cell_far (p := ⟨g3, _, none⟩) NB.out _).trans (hHeld.2.2.2.2.2.2.1)), ((cell_far (p := ⟨g3, _, none⟩) NB.out _).trans (hHeld.2.2.2.2.2.2.2.1)), ((cell_far (p := ⟨g3, _, none⟩) NB.out _).trans (hHeld.2.2.2.2.2.2.2.2))⟩ (fun hHeld => ?_)
       clear hK K
       refine pure_ (i := 11) (N := some 4) (v := ?_) (a' := ?_) #[true, true, true, true, true, true, true, true, true, true, true, true] rfl rfl (any_of HT_.out (by kernel_rfl)) (fun _ _ _ h => h) (Or.inl ⟨by rfl, ?_⟩) ?_ ?_
       rotate_left
       ·intro w'
        go_simp
        with_reducible rfl
       rotate_left
       ·simp only [Act.put, List.setIfInBounds_toArray, List.set_cons_zero, List.set_cons_succ, i64_w, i32_w]
        rfl
       refine done_ (done_of HT_.out (by kernel_rfl)) ?_
       go_wp2
       go_meet
       case rel => exact ⟨false, (1), (a0_1), (a0_2), (a0_3), ((⟨#[]⟩ : ByteArray)), ((⟨#[]⟩ : ByteArray)), (false), rfl, ⟨HE.out.trans (by simp [chkK, HLB.out])⟩, ⟨(by (with_reducible repeat (first | refine blk_drewN ?_ _ | refine blk_drew ?_ | refine blk_alloc ?_ _ | refine blk_far ?_ NB.out _)); refine blk_put (cs := #[.int .i64 1, .int .i64 a0_1, .int .i64 a0_2, .int .i64 0, .string (⟨#[]⟩ : ByteArray), .string (⟨#[]⟩ : ByteArray), .bool false]) ?_ 3 _ rfl; (with_reducible repeat (first | refine blk_drewN ?_ _ | refine blk_drew ?_ | refine blk_alloc ?_ _ | refine blk_far ?_ NB.out _)); exact H3.out)⟩, ⟨by (with_reducible repeat (first | refine blk_drewN ?_ _ | refine blk_drew ?_ | refine blk_alloc ?_ _ | refine blk_far ?_ NB.out _)); exact BK.out⟩, ⟨(by repeat (first | (with_reducible first | exact HB.out | apply below_alloc | apply pw_below_drewN | apply below_drew1 | refine below_set ?_ G3.out) | exact HB.out))⟩⟩
     ·have e1 : (a0_0 == 1) = false := beq_eq_false_iff_ne.2 q1
      have E1 := Aside0.mk q1
      clear q1
      by_cases q2 : a0_0 = 2
      ·subst q2
       by_cases E : noneB l0_7 l0_8 = true
       ·have dE : noneB l0_7 l0_8 = true := by simpa using E
        have DE := Aside0.mk dE
        clear E
        by_cases t : 0 < a0_1
        ·have dt : decide (0 < a0_1) = true := decide_eq_true t
         have Dt := Aside0.mk dt
         clear t
         go_wp2
         go_meet
         case rel => exact ⟨true, (2), (a0_1), (a0_2), (0), ((⟨#[]⟩ : ByteArray)), ((⟨#[]⟩ : ByteArray)), (false), rfl, ⟨HE.out.trans (by simp [chkK, DE.out, Dt.out])⟩, ⟨(by (with_reducible repeat (first | refine blk_drewN ?_ _ | refine blk_drew ?_ | refine blk_alloc ?_ _ | refine blk_far ?_ NB.out _)); exact H3.out)⟩, ⟨by (with_reducible repeat (first | refine blk_drewN ?_ _ | refine blk_drew ?_ | refine blk_alloc ?_ _ | refine blk_far ?_ NB.out _)); exact BK.out⟩, ⟨(by repeat (first | (with_reducible first | exact HB.out | apply below_alloc | apply pw_below_drewN | apply below_drew1 | refine below_set ?_ G3.out) | exact HB.out))⟩⟩
        ·have dt : decide (0 < a0_1) = false := decide_eq_false t
         have Dt := Aside0.mk dt
         clear t
         go_wp2
         go_meet
         case rel => exact ⟨false, (2), (a0_1), (a0_2), (0), ((⟨#[]⟩ : ByteArray)), ((⟨#[]⟩ : ByteArray)), (false), rfl, ⟨HE.out.trans (by simp [chkK, DE.out, Dt.out])⟩, ⟨(by (with_reducible repeat (first | refine blk_drewN ?_ _ | refine blk_drew ?_ | refine blk_alloc ?_ _ | refine blk_far ?_ NB.out _)); exact H3.out)⟩, ⟨by (with_reducible repeat (first | refine blk_drewN ?_ _ | refine blk_drew ?_ | refine blk_alloc ?_ _ | refine blk_far ?_ NB.out _)); exact BK.out⟩, ⟨(by repeat (first | (with_reducible first | exact HB.out | apply below_alloc | apply pw_below_drewN | apply below_drew1 | refine below_set ?_ G3.out) | exact HB.out))⟩⟩
       ·have dE : noneB l0_7 l0_8 = false := by simpa using E
        have DE := Aside0.mk dE
        clear E
        go_wp2
        go_meet
        case rel => exact ⟨false, (2), (a0_1), (a0_2), (0), ((⟨#[]⟩ : ByteArray)), ((⟨#[]⟩ : ByteArray)), (false), rfl, ⟨HE.out.trans (by simp [chkK, DE.out])⟩, ⟨(by (with_reducible repeat (first | refine blk_drewN ?_ _ | refine blk_drew ?_ | refine blk_alloc ?_ _ | refine blk_far ?_ NB.out _)); exact H3.out)⟩, ⟨by (with_reducible repeat (first | refine blk_drewN ?_ _ | refine blk_drew ?_ | refine blk_alloc ?_ _ | refine blk_far ?_ NB.out _)); exact BK.out⟩, ⟨(by repeat (first | (with_reducible first | exact HB.out | apply below_alloc | apply pw_below_drewN | apply below_drew1 | refine below_set ?_ G3.out) | exact HB.out))⟩⟩
      ·have e2 : (a0_0 == 2) = false := beq_eq_false_iff_ne.2 q2
       have E2 := Aside0.mk q2
       clear q2
       by_cases q5 : a0_0 = 5
       ·subst q5
        by_cases E : noneB l0_7 l0_8 = true
        ·have dE : noneB l0_7 l0_8 = true := by simpa using E
         have DE := Aside0.mk dE
         clear E
         by_cases t : 0 < a0_1
         ·have dt : decide (0 < a0_1) = true := decide_eq_true t
          have Dt := Aside0.mk dt
          clear t
          by_cases u : 0 < a0_2
          ·have du : decide (0 < a0_2) = true := decide_eq_true u
           have Du := Aside0.mk du
           clear u
           go_wp2
           go_meet
           case rel => exact ⟨true, (5), (a0_1), (a0_2), (0), ((⟨#[]⟩ : ByteArray)), ((⟨#[]⟩ : ByteArray)), (false), rfl, ⟨HE.out.trans (by simp [chkK, DE.out, Dt.out, Du.out])⟩, ⟨(by (with_reducible repeat (first | refine blk_drewN ?_ _ | refine blk_drew ?_ | refine blk_alloc ?_ _ | refine blk_far ?_ NB.out _)); exact H3.out)⟩, ⟨by (with_reducible repeat (first | refine blk_drewN ?_ _ | refine blk_drew ?_ | refine blk_alloc ?_ _ | refine blk_far ?_ NB.out _)); exact BK.out⟩, ⟨(by repeat (first | (with_reducible first | exact HB.out | apply below_alloc | apply pw_below_drewN | apply below_drew1 | refine below_set ?_ G3.out) | exact HB.out))⟩⟩
          ·have du : decide (0 < a0_2) = false := decide_eq_false u
           have Du := Aside0.mk du
           clear u
           go_wp2
           go_meet
           case rel => exact ⟨false, (5), (a0_1), (a0_2), (0), ((⟨#[]⟩ : ByteArray)), ((⟨#[]⟩ : ByteArray)), (false), rfl, ⟨HE.out.trans (by simp [chkK, DE.out, Dt.out, Du.out])⟩, ⟨(by (with_reducible repeat (first | refine blk_drewN ?_ _ | refine blk_drew ?_ | refine blk_alloc ?_ _ | refine blk_far ?_ NB.out _)); exact H3.out)⟩, ⟨by (with_reducible repeat (first | refine blk_drewN ?_ _ | refine blk_drew ?_ | refine blk_alloc ?_ _ | refine blk_far ?_ NB.out _)); exact BK.out⟩, ⟨(by repeat (first | (with_reducible first | exact HB.out | apply below_alloc | apply pw_below_drewN | apply below_drew1 | refine below_set ?_ G3.out) | exact HB.out))⟩⟩
         ·have dt : decide (0 < a0_1) = false := decide_eq_false t
          have Dt := Aside0.mk dt
          clear t
          go_wp2
          go_meet
          case rel => exact ⟨false, (5), (a0_1), (a0_2), (0), ((⟨#[]⟩ : ByteArray)), ((⟨#[]⟩ : ByteArray)), (false), rfl, ⟨HE.out.trans (by simp [chkK, DE.out, Dt.out])⟩, ⟨(by (with_reducible repeat (first | refine blk_drewN ?_ _ | refine blk_drew ?_ | refine blk_alloc ?_ _ | refine blk_far ?_ NB.out _)); exact H3.out)⟩, ⟨by (with_reducible repeat (first | refine blk_drewN ?_ _ | refine blk_drew ?_ | refine blk_alloc ?_ _ | refine blk_far ?_ NB.out _)); exact BK.out⟩, ⟨(by repeat (first | (with_reducible first | exact HB.out | apply below_alloc | apply pw_below_drewN | apply below_drew1 | refine below_set ?_ G3.out) | exact HB.out))⟩⟩
        ·have dE : noneB l0_7 l0_8 = false := by simpa using E
         have DE := Aside0.mk dE
         clear E
         go_wp2
         go_meet
         case rel => exact ⟨false, (5), (a0_1), (a0_2), (0), ((⟨#[]⟩ : ByteArray)), ((⟨#[]⟩ : ByteArray)), (false), rfl, ⟨HE.out.trans (by simp [chkK, DE.out])⟩, ⟨(by (with_reducible repeat (first | refine blk_drewN ?_ _ | refine blk_drew ?_ | refine blk_alloc ?_ _ | refine blk_far ?_ NB.out _)); exact H3.out)⟩, ⟨by (with_reducible repeat (first | refine blk_drewN ?_ _ | refine blk_drew ?_ | refine blk_alloc ?_ _ | refine blk_far ?_ NB.out _)); exact BK.out⟩, ⟨(by repeat (first | (with_reducible first | exact HB.out | apply below_alloc | apply pw_below_drewN | apply below_drew1 | refine below_set ?_ G3.out) | exact HB.out))⟩⟩
       ·have e5 : (a0_0 == 5) = false := beq_eq_false_iff_ne.2 q5
        have E5 := Aside0.mk q5
        clear q5
        by_cases q6 : a0_0 = 6
        ·subst q6
         by_cases E : noneB l0_7 l0_8 = true
         ·have dE : noneB l0_7 l0_8 = true := by simpa using E
          have DE := Aside0.mk dE
          clear E
          by_cases t : 0 < a0_1
          ·have dt : decide (0 < a0_1) = true := decide_eq_true t
           have Dt := Aside0.mk dt
           clear t
           go_wp2
           go_region_held3 (fun V => V.cell? ⟨gb, 0, none⟩ = some (.int .i64 6) ∧ V.cell? ⟨gb, 1, none⟩ = some (.int .i64 a0_1) ∧ V.cell? ⟨gb, 2, none⟩ = some (.int .i64 a0_2) ∧ V.cell? ⟨gb, 3, none⟩ = some (.int .i64 a0_3) ∧ V.cell? ⟨gb, 4, none⟩ = some (.string a0_4) ∧ V.cell? ⟨gb, 5, none⟩ = some (.string a0_5) ∧ V.cell? ⟨gb, 6, none⟩ = some (.bool a0_6) ∧ V.cell? ⟨gb, 7, none⟩ = some (.slice A0_7 l0_7.length c0_7) ∧ V.cell? ⟨gb, 8, none⟩ = some (.slice A0_8 l0_8.length c0_8)) (go_keep) (fail)
           all_goals (go_wp2; go_meet)
           all_goals (case rel => exact ⟨true, (6), (a0_1), (0), (0), ((⟨#[]⟩ : ByteArray)), ((⟨#[]⟩ : ByteArray)), (false), rfl, ⟨HE.out.trans (by simp [chkK, DE.out, Dt.out])⟩, ⟨(by (with_reducible repeat (first | refine blk_drewN ?_ _ | refine blk_drew ?_ | refine blk_alloc ?_ _ | refine blk_far ?_ NB.out _)); refine blk_put (cs := #[.int .i64 6, .int .i64 a0_1, .int .i64 a0_2, .int .i64 0, .string (⟨#[]⟩ : ByteArray), .string (⟨#[]⟩ : ByteArray), .bool false]) ?_ 2 _ rfl; (with_reducible repeat (first | refine blk_drewN ?_ _ | refine blk_drew ?_ | refine blk_alloc ?_ _ | refine blk_far ?_ NB.out _)); exact H3.out)⟩, ⟨by (with_reducible repeat (first | refine blk_drewN ?_ _ | refine blk_drew ?_ | refine blk_alloc ?_ _ | refine blk_far ?_ NB.out _)); exact BK.out⟩, ⟨(by repeat (first | (with_reducible first | exact HB.out | apply below_alloc | apply pw_below_drewN | apply below_drew1 | refine below_set ?_ G3.out) | exact HB.out))⟩⟩)
          ·have dt : decide (0 < a0_1) = false := decide_eq_false t
           have Dt := Aside0.mk dt
           clear t
           go_wp2
           go_region_held3 (fun V => V.cell? ⟨gb, 0, none⟩ = some (.int .i64 6) ∧ V.cell? ⟨gb, 1, none⟩ = some (.int .i64 a0_1) ∧ V.cell? ⟨gb, 2, none⟩ = some (.int .i64 a0_2) ∧ V.cell? ⟨gb, 3, none⟩ = some (.int .i64 a0_3) ∧ V.cell? ⟨gb, 4, none⟩ = some (.string a0_4) ∧ V.cell? ⟨gb, 5, none⟩ = some (.string a0_5) ∧ V.cell? ⟨gb, 6, none⟩ = some (.bool a0_6) ∧ V.cell? ⟨gb, 7, none⟩ = some (.slice A0_7 l0_7.length c0_7) ∧ V.cell? ⟨gb, 8, none⟩ = some (.slice A0_8 l0_8.length c0_8)) (go_keep) (fail)
           all_goals (go_wp2; go_meet)
           all_goals (case rel => exact ⟨false, (6), (a0_1), (0), (0), ((⟨#[]⟩ : ByteArray)), ((⟨#[]⟩ : ByteArray)), (false), rfl, ⟨HE.out.trans (by simp [chkK, DE.out, Dt.out])⟩, ⟨(by (with_reducible repeat (first | refine blk_drewN ?_ _ | refine blk_drew ?_ | refine blk_alloc ?_ _ | refine blk_far ?_ NB.out _)); refine blk_put (cs := #[.int .i64 6, .int .i64 a0_1, .int .i64 a0_2, .int .i64 0, .string (⟨#[]⟩ : ByteArray), .string (⟨#[]⟩ : ByteArray), .bool false]) ?_ 2 _ rfl; (with_reducible repeat (first | refine blk_drewN ?_ _ | refine blk_drew ?_ | refine blk_alloc ?_ _ | refine blk_far ?_ NB.out _)); exact H3.out)⟩, ⟨by (with_reducible repeat (first | refine blk_drewN ?_ _ | refine blk_drew ?_ | refine blk_alloc ?_ _ | refine blk_far ?_ NB.out _)); exact BK.out⟩, ⟨(by repeat (first | (with_reducible first | exact HB.out | apply below_alloc | apply pw_below_drewN | apply below_drew1 | refine below_set ?_ G3.out) | exact HB.out))⟩⟩)
         ·have dE : noneB l0_7 l0_8 = false := by simpa using E
          have DE := Aside0.mk dE
          clear E
          go_wp2
          have NB2 := Aside0.mk nb2
          have n0_ := Aside0.mk (blk_drew BK.out)
          have n1_ := Aside0.mk (blk_drew H3.out)
          have n2_ := Aside0.mk (below_drew1 HB.out)
          clear BK H3 HB
          have BK := n0_
          have H3 := n1_
          have HB := n2_
          clear n0_ n1_ n2_
          refine start_ (n := 9) (S := fun w' => True) (ds := []) #[false, false, false, false, false, false, false, false, false] (by kernel_rfl) rfl rfl trivial (fun hHeld => ?_); refine with_tabW record_Check.tab13 record_Check.bits13 (fun HT_ HW_ => ?_)
          generalize wc.drew = w294 at BK H3 HB hHeld ⊢
          refine pure_ (i := 0) (N := some 80) (v := ?_) (a' := ?_) #[true, false, false, false, false, false, false, false, false] rfl rfl (any_of HT_.out (by kernel_rfl)) (fun _ _ _ h => h) (Or.inl ⟨by rfl, ?_⟩) ?_ ?_
          rotate_left
          ·intro w'
           go_simp
           with_reducible rfl
          rotate_left
          ·simp only [Act.put, List.setIfInBounds_toArray, List.set_cons_zero, List.set_cons_succ, i64_w, i32_w]
           rfl
          refine pure_ (i := 1) (N := some 81) (v := ?_) (a' := ?_) #[true, true, false, false, false, false, false, false, false] rfl rfl (any_of HT_.out (by kernel_rfl)) (fun _ _ _ h => h) (Or.inl ⟨by rfl, ?_⟩) ?_ ?_
          rotate_left
          ·intro w'
           go_simp
           with_reducible rfl
          rotate_left
          ·simp only [Act.put, List.setIfInBounds_toArray, List.set_cons_zero, List.set_cons_succ, i64_w, i32_w]
           rfl
          refine pure_ (i := 2) (N := some 82) (v := undef) (a' := ?_) #[true, true, true, false, false, false, false, false, false] rfl rfl (any_of HT_.out (by kernel_rfl)) (fun _ _ _ h => h) (Or.inr ⟨by rfl, rfl⟩) ?_ ?_
          rotate_left
          ·simp only [Act.put, List.setIfInBounds_toArray, List.set_cons_zero, List.set_cons_succ, i64_w, i32_w]
           rfl
          refine pure_ (i := 3) (N := some 83) (v := undef) (a' := ?_) #[true, true, true, true, false, false, false, false, false] rfl rfl (any_of HT_.out (by kernel_rfl)) (fun _ _ _ h => h) (Or.inr ⟨by rfl, rfl⟩) ?_ ?_
          rotate_left
          ·simp only [Act.put, List.setIfInBounds_toArray, List.set_cons_zero, List.set_cons_succ, i64_w, i32_w]
           rfl
          refine pure_ (i := 4) (N := some 84) (v := undef) (a' := ?_) #[true, true, true, true, true, false, false, false, false] rfl rfl (any_of HT_.out (by kernel_rfl)) (fun _ _ _ h => h) (Or.inr ⟨by rfl, rfl⟩) ?_ ?_
          rotate_left
          ·simp only [Act.put, List.setIfInBounds_toArray, List.set_cons_zero, List.set_cons_succ, i64_w, i32_w]
           rfl
          refine pure_ (i := 5) (N := some 85) (v := ?_) (a' := ?_) #[true, true, true, true, true, true, false, false, false] rfl rfl (any_of HT_.out (by kernel_rfl)) (fun _ _ _ h => h) (Or.inl ⟨by rfl, ?_⟩) ?_ ?_
          rotate_left
          ·intro w'
           go_simp
           with_reducible rfl
          rotate_left
          ·simp only [Act.put, List.setIfInBounds_toArray, List.set_cons_zero, List.set_cons_succ, i64_w, i32_w]
           rfl
          refine pure_ (i := 6) (N := some 86) (v := ?_) (a' := ?_) #[true, true, true, true, true, true, true, false, false] rfl rfl (any_of HT_.out (by kernel_rfl)) (fun _ _ _ h => h) (Or.inl ⟨by rfl, ?_⟩) ?_ ?_
          rotate_left
          ·intro w'
           go_simp
           with_reducible rfl
          rotate_left
          ·simp only [Act.put, List.setIfInBounds_toArray, List.set_cons_zero, List.set_cons_succ, i64_w, i32_w]
           rfl
          refine one_ (i := 7) (N := none) #[true, true, true, true, true, true, true, true, false] rfl rfl (one_of HT_.out (by kernel_rfl)) (by decide) (fun K hK => ?_)
          have hs295 : w294.cell? ⟨g3, 2, none⟩ = some (.int .i64 a0_2) := (blk_cell H3.out 2).trans rfl
          have hfs295 := blk_frozen H3.out 2
          have hns295_0 := NB.out
          have hms295_0 := NB2.out
          refine skip_ (w1 := ?_) (by rfl) rfl ?_ ?_
          rotate_left
          ·go_simp
           rfl
          refine hK.out _ _ trivial (fun hHeld => ?_)
          clear hK K
          refine pure_ (i := 8) (N := some 4) (v := ?_) (a' := ?_) #[true, true, true, true, true, true, true, true, true] rfl rfl (any_of HT_.out (by kernel_rfl)) (fun _ _ _ h => h) (Or.inl ⟨by rfl, ?_⟩) ?_ ?_
          rotate_left
          ·intro w'
           go_simp
           with_reducible rfl
          rotate_left
          ·simp only [Act.put, List.setIfInBounds_toArray, List.set_cons_zero, List.set_cons_succ, i64_w, i32_w]
           rfl
          refine done_ (done_of HT_.out (by kernel_rfl)) ?_
          go_wp2
          go_meet
          case rel => exact ⟨false, (6), (a0_1), (0), (0), ((⟨#[]⟩ : ByteArray)), ((⟨#[]⟩ : ByteArray)), (false), rfl, ⟨HE.out.trans (by simp [chkK, DE.out])⟩, ⟨(by (with_reducible repeat (first | refine blk_drewN ?_ _ | refine blk_drew ?_ | refine blk_alloc ?_ _ | refine blk_far ?_ NB.out _)); refine blk_put (cs := #[.int .i64 6, .int .i64 a0_1, .int .i64 a0_2, .int .i64 0, .string (⟨#[]⟩ : ByteArray), .string (⟨#[]⟩ : ByteArray), .bool false]) ?_ 2 _ rfl; (with_reducible repeat (first | refine blk_drewN ?_ _ | refine blk_drew ?_ | refine blk_alloc ?_ _ | refine blk_far ?_ NB.out _)); exact H3.out)⟩, ⟨by (with_reducible repeat (first | refine blk_drewN ?_ _ | refine blk_drew ?_ | refine blk_alloc ?_ _ | refine blk_far ?_ NB.out _)); exact BK.out⟩, ⟨(by repeat (first | (with_reducible first | exact HB.out | apply below_alloc | apply pw_below_drewN | apply below_drew1 | refine below_set ?_ G3.out) | exact HB.out))⟩⟩
        ·have e6 : (a0_0 == 6) = false := beq_eq_false_iff_ne.2 q6
         have E6 := Aside0.mk q6
         clear q6
         exact absurd HK.out (by simp [E1.out, E2.out, E5.out, E6.out])
    case rest =>
     clear hb_0 fb_0 hb_1 fb_1 hb_2 fb_2 hb_3 fb_3 hb_4 fb_4 hb_5 fb_5 hb_6 fb_6 hb_7 fb_7 hb_8 fb_8
     clear hw_0 fw_0 hw_1 fw_1 hw_2 fw_2 hw_3 fw_3 hw_4 fw_4 hw_5 fw_5 hw_6 fw_6
     clear H3 BK HB HE
     obtain ⟨b, w0, w1, w2, w3, w4, w5, w6, rfl, HE, H3, BK, HB⟩ := hcut
     have hb_0 : wc.cell? ⟨gb, 0, none⟩ = some (.int .i64 a0_0) := (blk_cell BK.out 0).trans rfl
     have fb_0 := blk_frozen BK.out 0
     have hb_1 : wc.cell? ⟨gb, 1, none⟩ = some (.int .i64 a0_1) := (blk_cell BK.out 1).trans rfl
     have fb_1 := blk_frozen BK.out 1
     have hb_2 : wc.cell? ⟨gb, 2, none⟩ = some (.int .i64 a0_2) := (blk_cell BK.out 2).trans rfl
     have fb_2 := blk_frozen BK.out 2
     have hb_3 : wc.cell? ⟨gb, 3, none⟩ = some (.int .i64 a0_3) := (blk_cell BK.out 3).trans rfl
     have fb_3 := blk_frozen BK.out 3
     have hb_4 : wc.cell? ⟨gb, 4, none⟩ = some (.string a0_4) := (blk_cell BK.out 4).trans rfl
     have fb_4 := blk_frozen BK.out 4
     have hb_5 : wc.cell? ⟨gb, 5, none⟩ = some (.string a0_5) := (blk_cell BK.out 5).trans rfl
     have fb_5 := blk_frozen BK.out 5
     have hb_6 : wc.cell? ⟨gb, 6, none⟩ = some (.bool a0_6) := (blk_cell BK.out 6).trans rfl
     have fb_6 := blk_frozen BK.out 6
     have hb_7 : wc.cell? ⟨gb, 7, none⟩ = some (.slice A0_7 l0_7.length c0_7) := (blk_cell BK.out 7).trans rfl
     have fb_7 := blk_frozen BK.out 7
     have hb_8 : wc.cell? ⟨gb, 8, none⟩ = some (.slice A0_8 l0_8.length c0_8) := (blk_cell BK.out 8).trans rfl
     have fb_8 := blk_frozen BK.out 8
     have hw_0 : wc.cell? ⟨g3, 0, none⟩ = some (.int .i64 w0) := (blk_cell H3.out 0).trans rfl
     have fw_0 := blk_frozen H3.out 0
     have hw_1 : wc.cell? ⟨g3, 1, none⟩ = some (.int .i64 w1) := (blk_cell H3.out 1).trans rfl
     have fw_1 := blk_frozen H3.out 1
     have hw_2 : wc.cell? ⟨g3, 2, none⟩ = some (.int .i64 w2) := (blk_cell H3.out 2).trans rfl
     have fw_2 := blk_frozen H3.out 2
     have hw_3 : wc.cell? ⟨g3, 3, none⟩ = some (.int .i64 w3) := (blk_cell H3.out 3).trans rfl
     have fw_3 := blk_frozen H3.out 3
     have hw_4 : wc.cell? ⟨g3, 4, none⟩ = some (.string w4) := (blk_cell H3.out 4).trans rfl
     have fw_4 := blk_frozen H3.out 4
     have hw_5 : wc.cell? ⟨g3, 5, none⟩ = some (.string w5) := (blk_cell H3.out 5).trans rfl
     have fw_5 := blk_frozen H3.out 5
     have hw_6 : wc.cell? ⟨g3, 6, none⟩ = some (.bool w6) := (blk_cell H3.out 6).trans rfl
     have fw_6 := blk_frozen H3.out 6
     by_cases hb : b = true
     ·subst hb
      by_cases c : neqR w0 w1 w2 w3 w4 w5 w6 a0_0 a0_1 a0_2 a0_3 a0_4 a0_5 a0_6 = true
      ·have c1 : (!(w0 == a0_0) || (!(w1 == a0_1) || (!(w2 == a0_2) || (!(w3 == a0_3) || (!(w4.toList == a0_4.toList) || (!(w5.toList == a0_5.toList) || (!(w6 == a0_6)))))))) = true := c
       have HR := Aside0.mk (HE.out.trans ((if_pos rfl).trans (if_pos c)))
       clear c
       go_wp2
       go_ret
       exact ⟨by rw [HR.out]; rfl, by repeat (first | exact HB.out | apply pw_below_drewN | apply below_drew1)⟩
      ·have c1 : (!(w0 == a0_0) || (!(w1 == a0_1) || (!(w2 == a0_2) || (!(w3 == a0_3) || (!(w4.toList == a0_4.toList) || (!(w5.toList == a0_5.toList) || (!(w6 == a0_6)))))))) = false := Bool.eq_false_iff.mpr c
       have HR := Aside0.mk (HE.out.trans ((if_pos rfl).trans (if_neg c)))
       clear c
       go_wp2
       go_ret
       exact ⟨by rw [HR.out]; rfl, by repeat (first | exact HB.out | apply pw_below_drewN | apply below_drew1)⟩
     ·replace hb := Bool.eq_false_iff.mpr hb
      subst hb
      have HR := Aside0.mk (HE.out.trans (if_neg (by decide)))
      go_wp2
      go_ret
      exact ⟨by rw [HR.out]; rfl, by repeat (first | exact HB.out | apply pw_below_drewN | apply below_drew1)⟩
set_option maxHeartbeats 8000000 in
set_option maxRecDepth 100000 in
theorem record_Check.coreB (a0_0 a0_1 a0_2 a0_3 : Int) (a0_4 a0_5 : ByteArray) (a0_6 : Bool) (hk : ¬ a0_0 = 1 ∧ ¬ a0_0 = 2 ∧ ¬ a0_0 = 5 ∧ ¬ a0_0 = 6) (A0_7 : Option Addr) (c0_7 : Nat) (l0_7 : List ByteArray) (A0_8 : Option Addr) (c0_8 : Nat) (l0_8 : List S50) (w : World) (hr0_7 : Kd.C Kd.string w A0_7 l0_7.length l0_7) (hc0_7 : l0_7.length ≤ c0_7) (hr0_8 : Kd.C k50 w A0_8 l0_8.length l0_8) (hc0_8 : l0_8.length ≤ c0_8) (hl : l0_7.length ≤ 8796093022000 ∧ l0_8.length ≤ 8796093022000) :
  Calls Try.prog 11 #[.agg #[.int .i64 a0_0, .int .i64 a0_1, .int .i64 a0_2, .int .i64 a0_3, .string a0_4, .string a0_5, .bool a0_6, .slice A0_7 l0_7.length c0_7, .slice A0_8 l0_8.length c0_8]] w fun e w' => e = .returned (.int .i64 (chkR a0_0 a0_1 a0_2 a0_3 a0_4 a0_5 a0_6 l0_7 l0_8)) ∧ Below w.heap.size w w' := by
 have hu25 := Try.underlying25
 have hu54 := Try.underlying54
 have HR7 := Aside0.mk hr0_7
 have HC7 := Aside0.mk hc0_7
 have HR8 := Aside0.mk hr0_8
 have HC8 := Aside0.mk hc0_8
 have HL := Aside0.mk hl
 have HK := Aside0.mk hk
 clear hk
 have HB0 := Aside0.mk (Below.refl w.heap.size w)
 clear hr0_7 hc0_7 hr0_8 hc0_8
 obtain ⟨r, hr⟩ : ∃ r, r = chkR a0_0 a0_1 a0_2 a0_3 a0_4 a0_5 a0_6 l0_7 l0_8 := ⟨_, rfl⟩
 rw [← hr]
 have HRR := Aside0.mk hr
 clear hr
 have hw7 : IntKind.i64.wrap ((l0_7.length : Int) + (l0_8.length : Int)) = (l0_7.length : Int) + (l0_8.length : Int) := IntWalk.i64_in _ (by omega)
 clear hl
 go_enter Try.func11, Try.ntmps11
 go_upto_region 1 with ((with_reducible refine gate_dst (N := 1) rfl ?_); (try (refine gate_guard (by rfl) ?_; dsimp only)); refine box_event ?hg (N := 1) ?hd (cs := #[.int .i64 a0_0, .int .i64 a0_1, .int .i64 a0_2, .int .i64 a0_3, .string a0_4, .string a0_5, .bool a0_6, .slice A0_7 l0_7.length c0_7, .slice A0_8 l0_8.length c0_8]) (t := 25) ?hr ?_; (case hd => rfl); (case hg => rfl); (case hr => first | (go_simp; done) | (go_simp; rfl)); intro gb hg w1 hbox hb; have HB := Aside0.mk (below_step HB0.out hb); have BK := Aside0.mk hbox; have GE := Aside0.mk ((by rw [hg]; exact Nat.le_refl _) : w.heap.size ≤ gb); clear HB0 hb hbox hg)
 (try simp only [Act.put, List.setIfInBounds_toArray, List.set_cons_zero, List.set_cons_succ])
 have hb_0 : w1.cell? ⟨gb, 0, none⟩ = some (.int .i64 a0_0) := (blk_cell BK.out 0).trans rfl
 have fb_0 := blk_frozen BK.out 0
 have hb_1 : w1.cell? ⟨gb, 1, none⟩ = some (.int .i64 a0_1) := (blk_cell BK.out 1).trans rfl
 have fb_1 := blk_frozen BK.out 1
 have hb_2 : w1.cell? ⟨gb, 2, none⟩ = some (.int .i64 a0_2) := (blk_cell BK.out 2).trans rfl
 have fb_2 := blk_frozen BK.out 2
 have hb_3 : w1.cell? ⟨gb, 3, none⟩ = some (.int .i64 a0_3) := (blk_cell BK.out 3).trans rfl
 have fb_3 := blk_frozen BK.out 3
 have hb_4 : w1.cell? ⟨gb, 4, none⟩ = some (.string a0_4) := (blk_cell BK.out 4).trans rfl
 have fb_4 := blk_frozen BK.out 4
 have hb_5 : w1.cell? ⟨gb, 5, none⟩ = some (.string a0_5) := (blk_cell BK.out 5).trans rfl
 have fb_5 := blk_frozen BK.out 5
 have hb_6 : w1.cell? ⟨gb, 6, none⟩ = some (.bool a0_6) := (blk_cell BK.out 6).trans rfl
 have fb_6 := blk_frozen BK.out 6
 have hb_7 : w1.cell? ⟨gb, 7, none⟩ = some (.slice A0_7 l0_7.length c0_7) := (blk_cell BK.out 7).trans rfl
 have fb_7 := blk_frozen BK.out 7
 have hb_8 : w1.cell? ⟨gb, 8, none⟩ = some (.slice A0_8 l0_8.length c0_8) := (blk_cell BK.out 8).trans rfl
 have fb_8 := blk_frozen BK.out 8
 go_cut [32] (fun v32 wc => ∃ x : Bool, v32 = .bool x ∧ Aside0 (x = headB a0_1 a0_2 a0_3) ∧ Aside0 (wc.heap[gb]? = some (.cells #[.int .i64 a0_0, .int .i64 a0_1, .int .i64 a0_2, .int .i64 a0_3, .string a0_4, .string a0_5, .bool a0_6, .slice A0_7 l0_7.length c0_7, .slice A0_8 l0_8.length c0_8] 25 (0, 0))) ∧ Aside0 (Below w.heap.size w wc))
 case first =>
  by_cases c0 : a0_1 < 0
  ·have d0 : decide (a0_1 < 0) = true := decide_eq_true c0
   have D0 := Aside0.mk d0
   clear c0
   go_wp2
   go_meet
   case rel => exact ⟨true, rfl, ⟨by simp [headB, D0.out]⟩, ⟨by (with_reducible repeat (first | refine blk_drewN ?_ _ | refine blk_drew ?_ | refine blk_alloc ?_ _)); exact BK.out⟩, ⟨by repeat (first | (with_reducible first | exact HB.out | apply pw_below_drewN | apply below_drew1) | exact HB.out)⟩⟩
  ·have d0 : decide (a0_1 < 0) = false := decide_eq_false c0
   have D0 := Aside0.mk d0
   clear c0
   by_cases c1 : 1125899906842623 < a0_1
   ·have d1 : decide (1125899906842623 < a0_1) = true := decide_eq_true c1
    have D1 := Aside0.mk d1
    clear c1
    go_wp2
    go_meet
    case rel => exact ⟨true, rfl, ⟨by simp [headB, D0.out, D1.out]⟩, ⟨by (with_reducible repeat (first | refine blk_drewN ?_ _ | refine blk_drew ?_ | refine blk_alloc ?_ _)); exact BK.out⟩, ⟨by repeat (first | (with_reducible first | exact HB.out | apply pw_below_drewN | apply below_drew1) | exact HB.out)⟩⟩
   ·have d1 : decide (1125899906842623 < a0_1) = false := decide_eq_false c1
    have D1 := Aside0.mk d1
    clear c1
    by_cases c2 : a0_2 < 0
    ·have d2 : decide (a0_2 < 0) = true := decide_eq_true c2
     have D2 := Aside0.mk d2
     clear c2
     go_wp2
     go_meet
     case rel => exact ⟨true, rfl, ⟨by simp [headB, D0.out, D1.out, D2.out]⟩, ⟨by (with_reducible repeat (first | refine blk_drewN ?_ _ | refine blk_drew ?_ | refine blk_alloc ?_ _)); exact BK.out⟩, ⟨by repeat (first | (with_reducible first | exact HB.out | apply pw_below_drewN | apply below_drew1) | exact HB.out)⟩⟩
    ·have d2 : decide (a0_2 < 0) = false := decide_eq_false c2
     have D2 := Aside0.mk d2
     clear c2
     by_cases c3 : 1125899906842624 < a0_2
     ·have d3 : decide (1125899906842624 < a0_2) = true := decide_eq_true c3
      have D3 := Aside0.mk d3
      clear c3
      go_wp2
      go_meet
      case rel => exact ⟨true, rfl, ⟨by simp [headB, D0.out, D1.out, D2.out, D3.out]⟩, ⟨by (with_reducible repeat (first | refine blk_drewN ?_ _ | refine blk_drew ?_ | refine blk_alloc ?_ _)); exact BK.out⟩, ⟨by repeat (first | (with_reducible first | exact HB.out | apply pw_below_drewN | apply below_drew1) | exact HB.out)⟩⟩
     ·have d3 : decide (1125899906842624 < a0_2) = false := decide_eq_false c3
      have D3 := Aside0.mk d3
      clear c3
      by_cases c4 : a0_3 < 0
      ·have d4 : decide (a0_3 < 0) = true := decide_eq_true c4
       have D4 := Aside0.mk d4
       clear c4
       go_wp2
       go_meet
       case rel => exact ⟨true, rfl, ⟨by simp [headB, D0.out, D1.out, D2.out, D3.out, D4.out]⟩, ⟨by (with_reducible repeat (first | refine blk_drewN ?_ _ | refine blk_drew ?_ | refine blk_alloc ?_ _)); exact BK.out⟩, ⟨by repeat (first | (with_reducible first | exact HB.out | apply pw_below_drewN | apply below_drew1) | exact HB.out)⟩⟩
      ·have d4 : decide (a0_3 < 0) = false := decide_eq_false c4
       have D4 := Aside0.mk d4
       clear c4
       go_wp2
       go_meet
       case rel => exact ⟨(decide (a0_3 ≥ 16)), rfl, ⟨by simp [headB, D0.out, D1.out, D2.out, D3.out, D4.out]⟩, ⟨by (with_reducible repeat (first | refine blk_drewN ?_ _ | refine blk_drew ?_ | refine blk_alloc ?_ _)); exact BK.out⟩, ⟨by repeat (first | (with_reducible first | exact HB.out | apply pw_below_drewN | apply below_drew1) | exact HB.out)⟩⟩
 case rest =>
  obtain ⟨x, rfl, hx, BK, HB⟩ := hcut
  clear hb_0 fb_0 hb_1 fb_1 hb_2 fb_2 hb_3 fb_3 hb_4 fb_4 hb_5 fb_5 hb_6 fb_6 hb_7 fb_7 hb_8 fb_8
  by_cases hh : x = true
  ·subst hh
   have HE := Aside0.mk (HRR.out.trans (if_pos hx.out.symm))
   go_wp2
   go_ret
   exact ⟨by rw [HE.out]; rfl, HB.out⟩
  ·replace hh := Bool.eq_false_iff.mpr hh
   subst hh
   have HE := Aside0.mk (HRR.out.trans (if_neg (by rw [← hx.out]; decide)))
   clear hx HRR
   have NL := Aside0.mk (blk_lt BK.out)
   have hb_0 : wc.cell? ⟨gb, 0, none⟩ = some (.int .i64 a0_0) := (blk_cell BK.out 0).trans rfl
   have fb_0 := blk_frozen BK.out 0
   have hb_1 : wc.cell? ⟨gb, 1, none⟩ = some (.int .i64 a0_1) := (blk_cell BK.out 1).trans rfl
   have fb_1 := blk_frozen BK.out 1
   have hb_2 : wc.cell? ⟨gb, 2, none⟩ = some (.int .i64 a0_2) := (blk_cell BK.out 2).trans rfl
   have fb_2 := blk_frozen BK.out 2
   have hb_3 : wc.cell? ⟨gb, 3, none⟩ = some (.int .i64 a0_3) := (blk_cell BK.out 3).trans rfl
   have fb_3 := blk_frozen BK.out 3
   have hb_4 : wc.cell? ⟨gb, 4, none⟩ = some (.string a0_4) := (blk_cell BK.out 4).trans rfl
   have fb_4 := blk_frozen BK.out 4
   have hb_5 : wc.cell? ⟨gb, 5, none⟩ = some (.string a0_5) := (blk_cell BK.out 5).trans rfl
   have fb_5 := blk_frozen BK.out 5
   have hb_6 : wc.cell? ⟨gb, 6, none⟩ = some (.bool a0_6) := (blk_cell BK.out 6).trans rfl
   have fb_6 := blk_frozen BK.out 6
   have hb_7 : wc.cell? ⟨gb, 7, none⟩ = some (.slice A0_7 l0_7.length c0_7) := (blk_cell BK.out 7).trans rfl
   have fb_7 := blk_frozen BK.out 7
   have hb_8 : wc.cell? ⟨gb, 8, none⟩ = some (.slice A0_8 l0_8.length c0_8) := (blk_cell BK.out 8).trans rfl
   have fb_8 := blk_frozen BK.out 8
   have nb : gb ≠ wc.heap.size := Nat.ne_of_lt NL.out
   have nb2 : wc.heap.size ≠ gb := Nat.ne_of_gt NL.out
   go_upto_region 3 with (fail)
   go_cut [3, 4] from 33 (fun v3 v4 wx => ∃ (g3 : Nat), v3 = .pointer (some ⟨g3, 0, none⟩) ∧ v4 = .bool (noneB l0_7 l0_8) ∧ Aside0 (gb ≠ g3) ∧ Aside0 (w.heap.size ≤ g3) ∧ Aside0 (wx.heap[g3]? = some (.cells #[.int .i64 a0_0, .int .i64 a0_1, .int .i64 a0_2, .int .i64 0, .string (⟨#[]⟩ : ByteArray), .string (⟨#[]⟩ : ByteArray), .bool false] 54 (0, 0))) ∧ Aside0 (wx.heap[gb]? = some (.cells #[.int .i64 a0_0, .int .i64 a0_1, .int .i64 a0_2, .int .i64 a0_3, .string a0_4, .string a0_5, .bool a0_6, .slice A0_7 l0_7.length c0_7, .slice A0_8 l0_8.length c0_8] 25 (0, 0))) ∧ Aside0 (Below w.heap.size w wx))
   case first =>
    go_region_held3 (fun V => V.cell? ⟨gb, 0, none⟩ = some (.int .i64 a0_0) ∧ V.cell? ⟨gb, 1, none⟩ = some (.int .i64 a0_1) ∧ V.cell? ⟨gb, 2, none⟩ = some (.int .i64 a0_2) ∧ V.cell? ⟨gb, 3, none⟩ = some (.int .i64 a0_3) ∧ V.cell? ⟨gb, 4, none⟩ = some (.string a0_4) ∧ V.cell? ⟨gb, 5, none⟩ = some (.string a0_5) ∧ V.cell? ⟨gb, 6, none⟩ = some (.bool a0_6) ∧ V.cell? ⟨gb, 7, none⟩ = some (.slice A0_7 l0_7.length c0_7) ∧ V.cell? ⟨gb, 8, none⟩ = some (.slice A0_8 l0_8.length c0_8)) (go_keep) ((go_at_call 23; (with_reducible refine (bare_calls a0_0 a0_1 a0_2 a0_3 a0_4 a0_5 a0_6 _ _ l0_7 _ _ l0_8 _ (Kd.C_below HR7.out (by repeat (first | (with_reducible first | exact HB.out | apply below_alloc | apply pw_below_drewN | apply below_drew1) | exact HB.out))) HC7.out (Kd.C_below HR8.out (by repeat (first | (with_reducible first | exact HB.out | apply below_alloc | apply pw_below_drewN | apply below_drew1) | exact HB.out))) HC8.out).mono ?_); rintro e w2 ⟨rfl, hb⟩; have HB2 := Aside0.mk (below_step (by repeat (first | (with_reducible first | exact HB.out | apply below_alloc | apply pw_below_drewN | apply below_drew1) | exact HB.out)) hb); have BK2 : Aside0 (w2.heap[gb]? = some (.cells #[.int .i64 a0_0, .int .i64 a0_1, .int .i64 a0_2, .int .i64 a0_3, .string a0_4, .string a0_5, .bool a0_6, .slice A0_7 l0_7.length c0_7, .slice A0_8 l0_8.length c0_8] 25 (0, 0))) := ⟨blk_below (by (with_reducible repeat (first | refine blk_drewN ?_ _ | refine blk_drew ?_ | refine blk_alloc ?_ _)); exact BK.out) hb⟩; have hc_0 : w2.cell? ⟨gb, 0, none⟩ = some (.int .i64 a0_0) := (blk_cell BK2.out 0).trans rfl; have fc_0 := blk_frozen BK2.out 0; have hc_1 : w2.cell? ⟨gb, 1, none⟩ = some (.int .i64 a0_1) := (blk_cell BK2.out 1).trans rfl; have fc_1 := blk_frozen BK2.out 1; have hc_2 : w2.cell? ⟨gb, 2, none⟩ = some (.int .i64 a0_2) := (blk_cell BK2.out 2).trans rfl; have fc_2 := blk_frozen BK2.out 2; have hc_3 : w2.cell? ⟨gb, 3, none⟩ = some (.int .i64 a0_3) := (blk_cell BK2.out 3).trans rfl; have fc_3 := blk_frozen BK2.out 3; have hc_4 : w2.cell? ⟨gb, 4, none⟩ = some (.string a0_4) := (blk_cell BK2.out 4).trans rfl; have fc_4 := blk_frozen BK2.out 4; have hc_5 : w2.cell? ⟨gb, 5, none⟩ = some (.string a0_5) := (blk_cell BK2.out 5).trans rfl; have fc_5 := blk_frozen BK2.out 5; have hc_6 : w2.cell? ⟨gb, 6, none⟩ = some (.bool a0_6) := (blk_cell BK2.out 6).trans rfl; have fc_6 := blk_frozen BK2.out 6; have hc_7 : w2.cell? ⟨gb, 7, none⟩ = some (.slice A0_7 l0_7.length c0_7) := (blk_cell BK2.out 7).trans rfl; have fc_7 := blk_frozen BK2.out 7; have hc_8 : w2.cell? ⟨gb, 8, none⟩ = some (.slice A0_8 l0_8.length c0_8) := (blk_cell BK2.out 8).trans rfl; have fc_8 := blk_frozen BK2.out 8; (try (have BG : Aside0 (w2.heap[wc.heap.size]? = some (.cells #[.int .i64 0, .int .i64 0, .int .i64 0, .int .i64 0, .string (⟨#[]⟩ : ByteArray), .string (⟨#[]⟩ : ByteArray), .bool false] 54 (0, 0))) := ⟨blk_below (w := (wc.alloc (.cells #[.int .i64 0, .int .i64 0, .int .i64 0, .int .i64 0, .string (⟨#[]⟩ : ByteArray), .string (⟨#[]⟩ : ByteArray), .bool false] 54)).drew) (blk_drew (blk_new wc _)) hb⟩; have hg_0 : w2.cell? ⟨wc.heap.size, 0, none⟩ = some (.int .i64 0) := (blk_cell BG.out 0).trans rfl; have fg_0 := blk_frozen BG.out 0; have hg_1 : w2.cell? ⟨wc.heap.size, 1, none⟩ = some (.int .i64 0) := (blk_cell BG.out 1).trans rfl; have fg_1 := blk_frozen BG.out 1; have hg_2 : w2.cell? ⟨wc.heap.size, 2, none⟩ = some (.int .i64 0) := (blk_cell BG.out 2).trans rfl; have fg_2 := blk_frozen BG.out 2; have hg_3 : w2.cell? ⟨wc.heap.size, 3, none⟩ = some (.int .i64 0) := (blk_cell BG.out 3).trans rfl; have fg_3 := blk_frozen BG.out 3; have hg_4 : w2.cell? ⟨wc.heap.size, 4, none⟩ = some (.string (⟨#[]⟩ : ByteArray)) := (blk_cell BG.out 4).trans rfl; have fg_4 := blk_frozen BG.out 4; have hg_5 : w2.cell? ⟨wc.heap.size, 5, none⟩ = some (.string (⟨#[]⟩ : ByteArray)) := (blk_cell BG.out 5).trans rfl; have fg_5 := blk_frozen BG.out 5; have hg_6 : w2.cell? ⟨wc.heap.size, 6, none⟩ = some (.bool false) := (blk_cell BG.out 6).trans rfl; have fg_6 := blk_frozen BG.out 6; skip)); clear hb))
    all_goals (go_wp2; go_meet)
    all_goals (case rel => first | (have bg_ := BG.out; exact ⟨wc.heap.size, rfl, rfl, ⟨nb⟩, ⟨below_size HB.out⟩, ⟨set7 BG.out⟩, ⟨far7 BK2.out nb⟩, ⟨below7 HB2.out (below_size HB.out)⟩⟩) | exact ⟨w2.heap.size, rfl, rfl, ⟨Nat.ne_of_lt (blk_lt BK2.out)⟩, ⟨below_size HB2.out⟩, ⟨blk_new w2 _⟩, ⟨blk_alloc BK2.out _⟩, ⟨below_alloc HB2.out _⟩⟩)
   case rest =>
    clear hb_0 fb_0 hb_1 fb_1 hb_2 fb_2 hb_3 fb_3 hb_4 fb_4 hb_5 fb_5 hb_6 fb_6 hb_7 fb_7 hb_8 fb_8
    clear BK HB NL nb nb2
    obtain ⟨g3, rfl, rfl, NB, G3, H3, BK, HB⟩ := hcut
    have nb := NB.out
    have nb2 := Ne.symm NB.out
    have hb_0 : wc.cell? ⟨gb, 0, none⟩ = some (.int .i64 a0_0) := (blk_cell BK.out 0).trans rfl
    have fb_0 := blk_frozen BK.out 0
    have hb_1 : wc.cell? ⟨gb, 1, none⟩ = some (.int .i64 a0_1) := (blk_cell BK.out 1).trans rfl
    have fb_1 := blk_frozen BK.out 1
    have hb_2 : wc.cell? ⟨gb, 2, none⟩ = some (.int .i64 a0_2) := (blk_cell BK.out 2).trans rfl
    have fb_2 := blk_frozen BK.out 2
    have hb_3 : wc.cell? ⟨gb, 3, none⟩ = some (.int .i64 a0_3) := (blk_cell BK.out 3).trans rfl
    have fb_3 := blk_frozen BK.out 3
    have hb_4 : wc.cell? ⟨gb, 4, none⟩ = some (.string a0_4) := (blk_cell BK.out 4).trans rfl
    have fb_4 := blk_frozen BK.out 4
    have hb_5 : wc.cell? ⟨gb, 5, none⟩ = some (.string a0_5) := (blk_cell BK.out 5).trans rfl
    have fb_5 := blk_frozen BK.out 5
    have hb_6 : wc.cell? ⟨gb, 6, none⟩ = some (.bool a0_6) := (blk_cell BK.out 6).trans rfl
    have fb_6 := blk_frozen BK.out 6
    have hb_7 : wc.cell? ⟨gb, 7, none⟩ = some (.slice A0_7 l0_7.length c0_7) := (blk_cell BK.out 7).trans rfl
    have fb_7 := blk_frozen BK.out 7
    have hb_8 : wc.cell? ⟨gb, 8, none⟩ = some (.slice A0_8 l0_8.length c0_8) := (blk_cell BK.out 8).trans rfl
    have fb_8 := blk_frozen BK.out 8
    have hw_0 : wc.cell? ⟨g3, 0, none⟩ = some (.int .i64 a0_0) := (blk_cell H3.out 0).trans rfl
    have fw_0 := blk_frozen H3.out 0
    have hw_1 : wc.cell? ⟨g3, 1, none⟩ = some (.int .i64 a0_1) := (blk_cell H3.out 1).trans rfl
    have fw_1 := blk_frozen H3.out 1
    have hw_2 : wc.cell? ⟨g3, 2, none⟩ = some (.int .i64 a0_2) := (blk_cell H3.out 2).trans rfl
    have fw_2 := blk_frozen H3.out 2
    have hw_3 : wc.cell? ⟨g3, 3, none⟩ = some (.int .i64 0) := (blk_cell H3.out 3).trans rfl
    have fw_3 := blk_frozen H3.out 3
    have hw_4 : wc.cell? ⟨g3, 4, none⟩ = some (.string (⟨#[]⟩ : ByteArray)) := (blk_cell H3.out 4).trans rfl
    have fw_4 := blk_frozen H3.out 4
    have hw_5 : wc.cell? ⟨g3, 5, none⟩ = some (.string (⟨#[]⟩ : ByteArray)) := (blk_cell H3.out 5).trans rfl
    have fw_5 := blk_frozen H3.out 5
    have hw_6 : wc.cell? ⟨g3, 6, none⟩ = some (.bool false) := (blk_cell H3.out 6).trans rfl
    have fw_6 := blk_frozen H3.out 6
    go_upto_block 0 with (fail)
    go_cut [4] from 45 (fun v4 wx => ∃ (b : Bool) (w0 w1 w2 w3 : Int) (w4 w5 : ByteArray) (w6 : Bool), v4 = .bool b ∧ Aside0 (r = finR b w0 w1 w2 w3 w4 w5 w6 a0_0 a0_1 a0_2 a0_3 a0_4 a0_5 a0_6) ∧ Aside0 (wx.heap[g3]? = some (.cells #[.int .i64 w0, .int .i64 w1, .int .i64 w2, .int .i64 w3, .string w4, .string w5, .bool w6] 54 (0, 0))) ∧ Aside0 (wx.heap[gb]? = some (.cells #[.int .i64 a0_0, .int .i64 a0_1, .int .i64 a0_2, .int .i64 a0_3, .string a0_4, .string a0_5, .bool a0_6, .slice A0_7 l0_7.length c0_7, .slice A0_8 l0_8.length c0_8] 25 (0, 0))) ∧ Aside0 (Below w.heap.size w wx))
    case first =>
     have e1 : (a0_0 == 1) = false := beq_eq_false_iff_ne.2 HK.out.1
     have E1 := Aside0.mk HK.out.1
     have e2 : (a0_0 == 2) = false := beq_eq_false_iff_ne.2 HK.out.2.1
     have E2 := Aside0.mk HK.out.2.1
     have e5 : (a0_0 == 5) = false := beq_eq_false_iff_ne.2 HK.out.2.2.1
     have E5 := Aside0.mk HK.out.2.2.1
     have e6 : (a0_0 == 6) = false := beq_eq_false_iff_ne.2 HK.out.2.2.2
     have E6 := Aside0.mk HK.out.2.2.2
     by_cases q3 : a0_0 = 3
     ·subst q3
      by_cases E : noneB l0_7 l0_8 = true
      ·have dE : noneB l0_7 l0_8 = true := by simpa using E
       have DE := Aside0.mk dE
       clear E
       by_cases u : 0 < a0_2
       ·have du : decide (0 < a0_2) = true := decide_eq_true u
        have Du := Aside0.mk du
        clear u
        by_cases k : keyB a0_4 = true
        ·have dk : keyB a0_4 = true := by simpa using k
         have Dk := Aside0.mk dk
         clear k
         by_cases s : a0_5.size ≤ 2052
         ·have ez : decide ((a0_5.size : Int) ≤ 2052) = true := decide_eq_true (by omega)
          have ds : decide (a0_5.size ≤ 2052) = true := decide_eq_true s
          have Ds := Aside0.mk ds
          clear s
          by_cases d : a0_6 = true
          ·subst d
           by_cases x : a0_5.toList.isEmpty = true
           ·have dx : a0_5.toList.isEmpty = true := by simpa using x
            have Dx := Aside0.mk dx
            clear x
            go_wp2_with ((go_at_call 25; refine (key_calls _ _).mono ?_; rintro e wk ⟨rfl, nd, rfl⟩))
            go_meet
            case rel => exact ⟨true, (3), (0), (a0_2), (0), (a0_4), (a0_5), (true), rfl, ⟨HE.out.trans (by simp [chkK, verB, DE.out, Du.out, Dk.out, Ds.out, Dx.out])⟩, ⟨(by (with_reducible repeat (first | refine blk_drewN ?_ _ | refine blk_drew ?_ | refine blk_alloc ?_ _ | refine blk_far ?_ NB.out _)); refine blk_put (cs := #[.int .i64 3, .int .i64 0, .int .i64 a0_2, .int .i64 0, .string a0_4, .string a0_5, .bool false]) ?_ 6 _ rfl; (with_reducible repeat (first | refine blk_drewN ?_ _ | refine blk_drew ?_ | refine blk_alloc ?_ _ | refine blk_far ?_ NB.out _)); refine blk_put (cs := #[.int .i64 3, .int .i64 0, .int .i64 a0_2, .int .i64 0, .string a0_4, .string (⟨#[]⟩ : ByteArray), .bool false]) ?_ 5 _ rfl; (with_reducible repeat (first | refine blk_drewN ?_ _ | refine blk_drew ?_ | refine blk_alloc ?_ _ | refine blk_far ?_ NB.out _)); refine blk_put (cs := #[.int .i64 3, .int .i64 0, .int .i64 a0_2, .int .i64 0, .string (⟨#[]⟩ : ByteArray), .string (⟨#[]⟩ : ByteArray), .bool false]) ?_ 4 _ rfl; (with_reducible repeat (first | refine blk_drewN ?_ _ | refine blk_drew ?_ | refine blk_alloc ?_ _ | refine blk_far ?_ NB.out _)); refine blk_put (cs := #[.int .i64 3, .int .i64 0, .int .i64 a0_2, .int .i64 0, .string (⟨#[]⟩ : ByteArray), .string (⟨#[]⟩ : ByteArray), .bool false]) ?_ 3 _ rfl; (with_reducible repeat (first | refine blk_drewN ?_ _ | refine blk_drew ?_ | refine blk_alloc ?_ _ | refine blk_far ?_ NB.out _)); refine blk_put (cs := #[.int .i64 3, .int .i64 0, .int .i64 a0_2, .int .i64 0, .string (⟨#[]⟩ : ByteArray), .string (⟨#[]⟩ : ByteArray), .bool false]) ?_ 2 _ rfl; (with_reducible repeat (first | refine blk_drewN ?_ _ | refine blk_drew ?_ | refine blk_alloc ?_ _ | refine blk_far ?_ NB.out _)); refine blk_put (cs := #[.int .i64 3, .int .i64 a0_1, .int .i64 a0_2, .int .i64 0, .string (⟨#[]⟩ : ByteArray), .string (⟨#[]⟩ : ByteArray), .bool false]) ?_ 1 _ rfl; (with_reducible repeat (first | refine blk_drewN ?_ _ | refine blk_drew ?_ | refine blk_alloc ?_ _ | refine blk_far ?_ NB.out _)); refine blk_put (cs := #[.int .i64 3, .int .i64 a0_1, .int .i64 a0_2, .int .i64 0, .string (⟨#[]⟩ : ByteArray), .string (⟨#[]⟩ : ByteArray), .bool false]) ?_ 0 _ rfl; (with_reducible repeat (first | refine blk_drewN ?_ _ | refine blk_drew ?_ | refine blk_alloc ?_ _ | refine blk_far ?_ NB.out _)); exact H3.out)⟩, ⟨by (with_reducible repeat (first | refine blk_drewN ?_ _ | refine blk_drew ?_ | refine blk_alloc ?_ _ | refine blk_far ?_ NB.out _)); exact BK.out⟩, ⟨(by repeat (first | (with_reducible first | exact HB.out | apply below_alloc | apply pw_below_drewN | apply below_drew1 | refine below_set ?_ G3.out) | exact HB.out))⟩⟩
           ·have dx : a0_5.toList.isEmpty = false := by simpa using x
            have Dx := Aside0.mk dx
            clear x
            go_wp2_with ((go_at_call 25; refine (key_calls _ _).mono ?_; rintro e wk ⟨rfl, nd, rfl⟩))
            go_meet
            case rel => exact ⟨false, (3), (0), (a0_2), (0), (a0_4), (a0_5), (true), rfl, ⟨HE.out.trans (by simp [chkK, verB, DE.out, Du.out, Dk.out, Ds.out, Dx.out])⟩, ⟨(by (with_reducible repeat (first | refine blk_drewN ?_ _ | refine blk_drew ?_ | refine blk_alloc ?_ _ | refine blk_far ?_ NB.out _)); refine blk_put (cs := #[.int .i64 3, .int .i64 0, .int .i64 a0_2, .int .i64 0, .string a0_4, .string a0_5, .bool false]) ?_ 6 _ rfl; (with_reducible repeat (first | refine blk_drewN ?_ _ | refine blk_drew ?_ | refine blk_alloc ?_ _ | refine blk_far ?_ NB.out _)); refine blk_put (cs := #[.int .i64 3, .int .i64 0, .int .i64 a0_2, .int .i64 0, .string a0_4, .string (⟨#[]⟩ : ByteArray), .bool false]) ?_ 5 _ rfl; (with_reducible repeat (first | refine blk_drewN ?_ _ | refine blk_drew ?_ | refine blk_alloc ?_ _ | refine blk_far ?_ NB.out _)); refine blk_put (cs := #[.int .i64 3, .int .i64 0, .int .i64 a0_2, .int .i64 0, .string (⟨#[]⟩ : ByteArray), .string (⟨#[]⟩ : ByteArray), .bool false]) ?_ 4 _ rfl; (with_reducible repeat (first | refine blk_drewN ?_ _ | refine blk_drew ?_ | refine blk_alloc ?_ _ | refine blk_far ?_ NB.out _)); refine blk_put (cs := #[.int .i64 3, .int .i64 0, .int .i64 a0_2, .int .i64 0, .string (⟨#[]⟩ : ByteArray), .string (⟨#[]⟩ : ByteArray), .bool false]) ?_ 3 _ rfl; (with_reducible repeat (first | refine blk_drewN ?_ _ | refine blk_drew ?_ | refine blk_alloc ?_ _ | refine blk_far ?_ NB.out _)); refine blk_put (cs := #[.int .i64 3, .int .i64 0, .int .i64 a0_2, .int .i64 0, .string (⟨#[]⟩ : ByteArray), .string (⟨#[]⟩ : ByteArray), .bool false]) ?_ 2 _ rfl; (with_reducible repeat (first | refine blk_drewN ?_ _ | refine blk_drew ?_ | refine blk_alloc ?_ _ | refine blk_far ?_ NB.out _)); refine blk_put (cs := #[.int .i64 3, .int .i64 a0_1, .int .i64 a0_2, .int .i64 0, .string (⟨#[]⟩ : ByteArray), .string (⟨#[]⟩ : ByteArray), .bool false]) ?_ 1 _ rfl; (with_reducible repeat (first | refine blk_drewN ?_ _ | refine blk_drew ?_ | refine blk_alloc ?_ _ | refine blk_far ?_ NB.out _)); refine blk_put (cs := #[.int .i64 3, .int .i64 a0_1, .int .i64 a0_2, .int .i64 0, .string (⟨#[]⟩ : ByteArray), .string (⟨#[]⟩ : ByteArray), .bool false]) ?_ 0 _ rfl; (with_reducible repeat (first | refine blk_drewN ?_ _ | refine blk_drew ?_ | refine blk_alloc ?_ _ | refine blk_far ?_ NB.out _)); exact H3.out)⟩, ⟨by (with_reducible repeat (first | refine blk_drewN ?_ _ | refine blk_drew ?_ | refine blk_alloc ?_ _ | refine blk_far ?_ NB.out _)); exact BK.out⟩, ⟨(by repeat (first | (with_reducible first | exact HB.out | apply below_alloc | apply pw_below_drewN | apply below_drew1 | refine below_set ?_ G3.out) | exact HB.out))⟩⟩
          ·replace d := Bool.eq_false_iff.mpr d
           subst d
           go_wp2_with ((go_at_call 25; refine (key_calls _ _).mono ?_; rintro e wk ⟨rfl, nd, rfl⟩))
           go_meet
           case rel => exact ⟨true, (3), (0), (a0_2), (0), (a0_4), (a0_5), (false), rfl, ⟨HE.out.trans (by simp [chkK, verB, DE.out, Du.out, Dk.out, Ds.out])⟩, ⟨(by (with_reducible repeat (first | refine blk_drewN ?_ _ | refine blk_drew ?_ | refine blk_alloc ?_ _ | refine blk_far ?_ NB.out _)); refine blk_put (cs := #[.int .i64 3, .int .i64 0, .int .i64 a0_2, .int .i64 0, .string a0_4, .string a0_5, .bool false]) ?_ 6 _ rfl; (with_reducible repeat (first | refine blk_drewN ?_ _ | refine blk_drew ?_ | refine blk_alloc ?_ _ | refine blk_far ?_ NB.out _)); refine blk_put (cs := #[.int .i64 3, .int .i64 0, .int .i64 a0_2, .int .i64 0, .string a0_4, .string (⟨#[]⟩ : ByteArray), .bool false]) ?_ 5 _ rfl; (with_reducible repeat (first | refine blk_drewN ?_ _ | refine blk_drew ?_ | refine blk_alloc ?_ _ | refine blk_far ?_ NB.out _)); refine blk_put (cs := #[.int .i64 3, .int .i64 0, .int .i64 a0_2, .int .i64 0, .string (⟨#[]⟩ : ByteArray), .string (⟨#[]⟩ : ByteArray), .bool false]) ?_ 4 _ rfl; (with_reducible repeat (first | refine blk_drewN ?_ _ | refine blk_drew ?_ | refine blk_alloc ?_ _ | refine blk_far ?_ NB.out _)); refine blk_put (cs := #[.int .i64 3, .int .i64 0, .int .i64 a0_2, .int .i64 0, .string (⟨#[]⟩ : ByteArray), .string (⟨#[]⟩ : ByteArray), .bool false]) ?_ 3 _ rfl; (with_reducible repeat (first | refine blk_drewN ?_ _ | refine blk_drew ?_ | refine blk_alloc ?_ _ | refine blk_far ?_ NB.out _)); refine blk_put (cs := #[.int .i64 3, .int .i64 0, .int .i64 a0_2, .int .i64 0, .string (⟨#[]⟩ : ByteArray), .string (⟨#[]⟩ : ByteArray), .bool false]) ?_ 2 _ rfl; (with_reducible repeat (first | refine blk_drewN ?_ _ | refine blk_drew ?_ | refine blk_alloc ?_ _ | refine blk_far ?_ NB.out _)); refine blk_put (cs := #[.int .i64 3, .int .i64 a0_1, .int .i64 a0_2, .int .i64 0, .string (⟨#[]⟩ : ByteArray), .string (⟨#[]⟩ : ByteArray), .bool false]) ?_ 1 _ rfl; (with_reducible repeat (first | refine blk_drewN ?_ _ | refine blk_drew ?_ | refine blk_alloc ?_ _ | refine blk_far ?_ NB.out _)); refine blk_put (cs := #[.int .i64 3, .int .i64 a0_1, .int .i64 a0_2, .int .i64 0, .string (⟨#[]⟩ : ByteArray), .string (⟨#[]⟩ : ByteArray), .bool false]) ?_ 0 _ rfl; (with_reducible repeat (first | refine blk_drewN ?_ _ | refine blk_drew ?_ | refine blk_alloc ?_ _ | refine blk_far ?_ NB.out _)); exact H3.out)⟩, ⟨by (with_reducible repeat (first | refine blk_drewN ?_ _ | refine blk_drew ?_ | refine blk_alloc ?_ _ | refine blk_far ?_ NB.out _)); exact BK.out⟩, ⟨(by repeat (first | (with_reducible first | exact HB.out | apply below_alloc | apply pw_below_drewN | apply below_drew1 | refine below_set ?_ G3.out) | exact HB.out))⟩⟩
         ·have ez : decide ((a0_5.size : Int) ≤ 2052) = false := decide_eq_false (by omega)
          have ds : decide (a0_5.size ≤ 2052) = false := decide_eq_false s
          have Ds := Aside0.mk ds
          clear s
          go_wp2_with ((go_at_call 25; refine (key_calls _ _).mono ?_; rintro e wk ⟨rfl, nd, rfl⟩))
          go_meet
          case rel => exact ⟨false, (3), (0), (a0_2), (0), (a0_4), (a0_5), (a0_6), rfl, ⟨HE.out.trans (by simp [chkK, verB, DE.out, Du.out, Dk.out, Ds.out])⟩, ⟨(by (with_reducible repeat (first | refine blk_drewN ?_ _ | refine blk_drew ?_ | refine blk_alloc ?_ _ | refine blk_far ?_ NB.out _)); refine blk_put (cs := #[.int .i64 3, .int .i64 0, .int .i64 a0_2, .int .i64 0, .string a0_4, .string a0_5, .bool false]) ?_ 6 _ rfl; (with_reducible repeat (first | refine blk_drewN ?_ _ | refine blk_drew ?_ | refine blk_alloc ?_ _ | refine blk_far ?_ NB.out _)); refine blk_put (cs := #[.int .i64 3, .int .i64 0, .int .i64 a0_2, .int .i64 0, .string a0_4, .string (⟨#[]⟩ : ByteArray), .bool false]) ?_ 5 _ rfl; (with_reducible repeat (first | refine blk_drewN ?_ _ | refine blk_drew ?_ | refine blk_alloc ?_ _ | refine blk_far ?_ NB.out _)); refine blk_put (cs := #[.int .i64 3, .int .i64 0, .int .i64 a0_2, .int .i64 0, .string (⟨#[]⟩ : ByteArray), .string (⟨#[]⟩ : ByteArray), .bool false]) ?_ 4 _ rfl; (with_reducible repeat (first | refine blk_drewN ?_ _ | refine blk_drew ?_ | refine blk_alloc ?_ _ | refine blk_far ?_ NB.out _)); refine blk_put (cs := #[.int .i64 3, .int .i64 0, .int .i64 a0_2, .int .i64 0, .string (⟨#[]⟩ : ByteArray), .string (⟨#[]⟩ : ByteArray), .bool false]) ?_ 3 _ rfl; (with_reducible repeat (first | refine blk_drewN ?_ _ | refine blk_drew ?_ | refine blk_alloc ?_ _ | refine blk_far ?_ NB.out _)); refine blk_put (cs := #[.int .i64 3, .int .i64 0, .int .i64 a0_2, .int .i64 0, .string (⟨#[]⟩ : ByteArray), .string (⟨#[]⟩ : ByteArray), .bool false]) ?_ 2 _ rfl; (with_reducible repeat (first | refine blk_drewN ?_ _ | refine blk_drew ?_ | refine blk_alloc ?_ _ | refine blk_far ?_ NB.out _)); refine blk_put (cs := #[.int .i64 3, .int .i64 a0_1, .int .i64 a0_2, .int .i64 0, .string (⟨#[]⟩ : ByteArray), .string (⟨#[]⟩ : ByteArray), .bool false]) ?_ 1 _ rfl; (with_reducible repeat (first | refine blk_drewN ?_ _ | refine blk_drew ?_ | refine blk_alloc ?_ _ | refine blk_far ?_ NB.out _)); refine blk_put (cs := #[.int .i64 3, .int .i64 a0_1, .int .i64 a0_2, .int .i64 0, .string (⟨#[]⟩ : ByteArray), .string (⟨#[]⟩ : ByteArray), .bool false]) ?_ 0 _ rfl; (with_reducible repeat (first | refine blk_drewN ?_ _ | refine blk_drew ?_ | refine blk_alloc ?_ _ | refine blk_far ?_ NB.out _)); exact H3.out)⟩, ⟨by (with_reducible repeat (first | refine blk_drewN ?_ _ | refine blk_drew ?_ | refine blk_alloc ?_ _ | refine blk_far ?_ NB.out _)); exact BK.out⟩, ⟨(by repeat (first | (with_reducible first | exact HB.out | apply below_alloc | apply pw_below_drewN | apply below_drew1 | refine below_set ?_ G3.out) | exact HB.out))⟩⟩
        ·have dk : keyB a0_4 = false := by simpa using k
         have Dk := Aside0.mk dk
         clear k
         go_wp2_with ((go_at_call 25; refine (key_calls _ _).mono ?_; rintro e wk ⟨rfl, nd, rfl⟩))
         go_meet
         case rel => exact ⟨false, (3), (0), (a0_2), (0), (a0_4), (a0_5), (a0_6), rfl, ⟨HE.out.trans (by simp [chkK, verB, DE.out, Du.out, Dk.out])⟩, ⟨(by (with_reducible repeat (first | refine blk_drewN ?_ _ | refine blk_drew ?_ | refine blk_alloc ?_ _ | refine blk_far ?_ NB.out _)); refine blk_put (cs := #[.int .i64 3, .int .i64 0, .int .i64 a0_2, .int .i64 0, .string a0_4, .string a0_5, .bool false]) ?_ 6 _ rfl; (with_reducible repeat (first | refine blk_drewN ?_ _ | refine blk_drew ?_ | refine blk_alloc ?_ _ | refine blk_far ?_ NB.out _)); refine blk_put (cs := #[.int .i64 3, .int .i64 0, .int .i64 a0_2, .int .i64 0, .string a0_4, .string (⟨#[]⟩ : ByteArray), .bool false]) ?_ 5 _ rfl; (with_reducible repeat (first | refine blk_drewN ?_ _ | refine blk_drew ?_ | refine blk_alloc ?_ _ | refine blk_far ?_ NB.out _)); refine blk_put (cs := #[.int .i64 3, .int .i64 0, .int .i64 a0_2, .int .i64 0, .string (⟨#[]⟩ : ByteArray), .string (⟨#[]⟩ : ByteArray), .bool false]) ?_ 4 _ rfl; (with_reducible repeat (first | refine blk_drewN ?_ _ | refine blk_drew ?_ | refine blk_alloc ?_ _ | refine blk_far ?_ NB.out _)); refine blk_put (cs := #[.int .i64 3, .int .i64 0, .int .i64 a0_2, .int .i64 0, .string (⟨#[]⟩ : ByteArray), .string (⟨#[]⟩ : ByteArray), .bool false]) ?_ 3 _ rfl; (with_reducible repeat (first | refine blk_drewN ?_ _ | refine blk_drew ?_ | refine blk_alloc ?_ _ | refine blk_far ?_ NB.out _)); refine blk_put (cs := #[.int .i64 3, .int .i64 0, .int .i64 a0_2, .int .i64 0, .string (⟨#[]⟩ : ByteArray), .string (⟨#[]⟩ : ByteArray), .bool false]) ?_ 2 _ rfl; (with_reducible repeat (first | refine blk_drewN ?_ _ | refine blk_drew ?_ | refine blk_alloc ?_ _ | refine blk_far ?_ NB.out _)); refine blk_put (cs := #[.int .i64 3, .int .i64 a0_1, .int .i64 a0_2, .int .i64 0, .string (⟨#[]⟩ : ByteArray), .string (⟨#[]⟩ : ByteArray), .bool false]) ?_ 1 _ rfl; (with_reducible repeat (first | refine blk_drewN ?_ _ | refine blk_drew ?_ | refine blk_alloc ?_ _ | refine blk_far ?_ NB.out _)); refine blk_put (cs := #[.int .i64 3, .int .i64 a0_1, .int .i64 a0_2, .int .i64 0, .string (⟨#[]⟩ : ByteArray), .string (⟨#[]⟩ : ByteArray), .bool false]) ?_ 0 _ rfl; (with_reducible repeat (first | refine blk_drewN ?_ _ | refine blk_drew ?_ | refine blk_alloc ?_ _ | refine blk_far ?_ NB.out _)); exact H3.out)⟩, ⟨by (with_reducible repeat (first | refine blk_drewN ?_ _ | refine blk_drew ?_ | refine blk_alloc ?_ _ | refine blk_far ?_ NB.out _)); exact BK.out⟩, ⟨(by repeat (first | (with_reducible first | exact HB.out | apply below_alloc | apply pw_below_drewN | apply below_drew1 | refine below_set ?_ G3.out) | exact HB.out))⟩⟩
       ·have du : decide (0 < a0_2) = false := decide_eq_false u
        have Du := Aside0.mk du
        clear u
        go_wp2_with ((go_at_call 25; refine (key_calls _ _).mono ?_; rintro e wk ⟨rfl, nd, rfl⟩))
        go_meet
        case rel => exact ⟨false, (3), (0), (a0_2), (0), (a0_4), (a0_5), (a0_6), rfl, ⟨HE.out.trans (by simp [chkK, verB, DE.out, Du.out])⟩, ⟨(by (with_reducible repeat (first | refine blk_drewN ?_ _ | refine blk_drew ?_ | refine blk_alloc ?_ _ | refine blk_far ?_ NB.out _)); refine blk_put (cs := #[.int .i64 3, .int .i64 0, .int .i64 a0_2, .int .i64 0, .string a0_4, .string a0_5, .bool false]) ?_ 6 _ rfl; (with_reducible repeat (first | refine blk_drewN ?_ _ | refine blk_drew ?_ | refine blk_alloc ?_ _ | refine blk_far ?_ NB.out _)); refine blk_put (cs := #[.int .i64 3, .int .i64 0, .int .i64 a0_2, .int .i64 0, .string a0_4, .string (⟨#[]⟩ : ByteArray), .bool false]) ?_ 5 _ rfl; (with_reducible repeat (first | refine blk_drewN ?_ _ | refine blk_drew ?_ | refine blk_alloc ?_ _ | refine blk_far ?_ NB.out _)); refine blk_put (cs := #[.int .i64 3, .int .i64 0, .int .i64 a0_2, .int .i64 0, .string (⟨#[]⟩ : ByteArray), .string (⟨#[]⟩ : ByteArray), .bool false]) ?_ 4 _ rfl; (with_reducible repeat (first | refine blk_drewN ?_ _ | refine blk_drew ?_ | refine blk_alloc ?_ _ | refine blk_far ?_ NB.out _)); refine blk_put (cs := #[.int .i64 3, .int .i64 0, .int .i64 a0_2, .int .i64 0, .string (⟨#[]⟩ : ByteArray), .string (⟨#[]⟩ : ByteArray), .bool false]) ?_ 3 _ rfl; (with_reducible repeat (first | refine blk_drewN ?_ _ | refine blk_drew ?_ | refine blk_alloc ?_ _ | refine blk_far ?_ NB.out _)); refine blk_put (cs := #[.int .i64 3, .int .i64 0, .int .i64 a0_2, .int .i64 0, .string (⟨#[]⟩ : ByteArray), .string (⟨#[]⟩ : ByteArray), .bool false]) ?_ 2 _ rfl; (with_reducible repeat (first | refine blk_drewN ?_ _ | refine blk_drew ?_ | refine blk_alloc ?_ _ | refine blk_far ?_ NB.out _)); refine blk_put (cs := #[.int .i64 3, .int .i64 a0_1, .int .i64 a0_2, .int .i64 0, .string (⟨#[]⟩ : ByteArray), .string (⟨#[]⟩ : ByteArray), .bool false]) ?_ 1 _ rfl; (with_reducible repeat (first | refine blk_drewN ?_ _ | refine blk_drew ?_ | refine blk_alloc ?_ _ | refine blk_far ?_ NB.out _)); refine blk_put (cs := #[.int .i64 3, .int .i64 a0_1, .int .i64 a0_2, .int .i64 0, .string (⟨#[]⟩ : ByteArray), .string (⟨#[]⟩ : ByteArray), .bool false]) ?_ 0 _ rfl; (with_reducible repeat (first | refine blk_drewN ?_ _ | refine blk_drew ?_ | refine blk_alloc ?_ _ | refine blk_far ?_ NB.out _)); exact H3.out)⟩, ⟨by (with_reducible repeat (first | refine blk_drewN ?_ _ | refine blk_drew ?_ | refine blk_alloc ?_ _ | refine blk_far ?_ NB.out _)); exact BK.out⟩, ⟨(by repeat (first | (with_reducible first | exact HB.out | apply below_alloc | apply pw_below_drewN | apply below_drew1 | refine below_set ?_ G3.out) | exact HB.out))⟩⟩
      ·have dE : noneB l0_7 l0_8 = false := by simpa using E
       have DE := Aside0.mk dE
       clear E
       go_wp2_with ((go_at_call 25; refine (key_calls _ _).mono ?_; rintro e wk ⟨rfl, nd, rfl⟩))
       go_meet
       case rel => exact ⟨false, (3), (0), (a0_2), (0), (a0_4), (a0_5), (a0_6), rfl, ⟨HE.out.trans (by simp [chkK, verB, DE.out])⟩, ⟨(by (with_reducible repeat (first | refine blk_drewN ?_ _ | refine blk_drew ?_ | refine blk_alloc ?_ _ | refine blk_far ?_ NB.out _)); refine blk_put (cs := #[.int .i64 3, .int .i64 0, .int .i64 a0_2, .int .i64 0, .string a0_4, .string a0_5, .bool false]) ?_ 6 _ rfl; (with_reducible repeat (first | refine blk_drewN ?_ _ | refine blk_drew ?_ | refine blk_alloc ?_ _ | refine blk_far ?_ NB.out _)); refine blk_put (cs := #[.int .i64 3, .int .i64 0, .int .i64 a0_2, .int .i64 0, .string a0_4, .string (⟨#[]⟩ : ByteArray), .bool false]) ?_ 5 _ rfl; (with_reducible repeat (first | refine blk_drewN ?_ _ | refine blk_drew ?_ | refine blk_alloc ?_ _ | refine blk_far ?_ NB.out _)); refine blk_put (cs := #[.int .i64 3, .int .i64 0, .int .i64 a0_2, .int .i64 0, .string (⟨#[]⟩ : ByteArray), .string (⟨#[]⟩ : ByteArray), .bool false]) ?_ 4 _ rfl; (with_reducible repeat (first | refine blk_drewN ?_ _ | refine blk_drew ?_ | refine blk_alloc ?_ _ | refine blk_far ?_ NB.out _)); refine blk_put (cs := #[.int .i64 3, .int .i64 0, .int .i64 a0_2, .int .i64 0, .string (⟨#[]⟩ : ByteArray), .string (⟨#[]⟩ : ByteArray), .bool false]) ?_ 3 _ rfl; (with_reducible repeat (first | refine blk_drewN ?_ _ | refine blk_drew ?_ | refine blk_alloc ?_ _ | refine blk_far ?_ NB.out _)); refine blk_put (cs := #[.int .i64 3, .int .i64 0, .int .i64 a0_2, .int .i64 0, .string (⟨#[]⟩ : ByteArray), .string (⟨#[]⟩ : ByteArray), .bool false]) ?_ 2 _ rfl; (with_reducible repeat (first | refine blk_drewN ?_ _ | refine blk_drew ?_ | refine blk_alloc ?_ _ | refine blk_far ?_ NB.out _)); refine blk_put (cs := #[.int .i64 3, .int .i64 a0_1, .int .i64 a0_2, .int .i64 0, .string (⟨#[]⟩ : ByteArray), .string (⟨#[]⟩ : ByteArray), .bool false]) ?_ 1 _ rfl; (with_reducible repeat (first | refine blk_drewN ?_ _ | refine blk_drew ?_ | refine blk_alloc ?_ _ | refine blk_far ?_ NB.out _)); refine blk_put (cs := #[.int .i64 3, .int .i64 a0_1, .int .i64 a0_2, .int .i64 0, .string (⟨#[]⟩ : ByteArray), .string (⟨#[]⟩ : ByteArray), .bool false]) ?_ 0 _ rfl; (with_reducible repeat (first | refine blk_drewN ?_ _ | refine blk_drew ?_ | refine blk_alloc ?_ _ | refine blk_far ?_ NB.out _)); exact H3.out)⟩, ⟨by (with_reducible repeat (first | refine blk_drewN ?_ _ | refine blk_drew ?_ | refine blk_alloc ?_ _ | refine blk_far ?_ NB.out _)); exact BK.out⟩, ⟨(by repeat (first | (with_reducible first | exact HB.out | apply below_alloc | apply pw_below_drewN | apply below_drew1 | refine below_set ?_ G3.out) | exact HB.out))⟩⟩
     ·have e3 : (a0_0 == 3) = false := beq_eq_false_iff_ne.2 q3
      have E3 := Aside0.mk q3
      clear q3
      by_cases q4 : a0_0 = 4
      ·subst q4
       go_wp2
       go_meet
       case rel => exact ⟨(noneB l0_7 l0_8), (4), (0), (a0_2), (0), ((⟨#[]⟩ : ByteArray)), ((⟨#[]⟩ : ByteArray)), (false), rfl, ⟨HE.out.trans (by simp [chkK])⟩, ⟨(by (with_reducible repeat (first | refine blk_drewN ?_ _ | refine blk_drew ?_ | refine blk_alloc ?_ _ | refine blk_far ?_ NB.out _)); refine blk_put (cs := #[.int .i64 4, .int .i64 a0_1, .int .i64 a0_2, .int .i64 0, .string (⟨#[]⟩ : ByteArray), .string (⟨#[]⟩ : ByteArray), .bool false]) ?_ 1 _ rfl; (with_reducible repeat (first | refine blk_drewN ?_ _ | refine blk_drew ?_ | refine blk_alloc ?_ _ | refine blk_far ?_ NB.out _)); exact H3.out)⟩, ⟨by (with_reducible repeat (first | refine blk_drewN ?_ _ | refine blk_drew ?_ | refine blk_alloc ?_ _ | refine blk_far ?_ NB.out _)); exact BK.out⟩, ⟨(by repeat (first | (with_reducible first | exact HB.out | apply below_alloc | apply pw_below_drewN | apply below_drew1 | refine below_set ?_ G3.out) | exact HB.out))⟩⟩
      ·have e4 : (a0_0 == 4) = false := beq_eq_false_iff_ne.2 q4
       have E4 := Aside0.mk q4
       clear q4
       by_cases q7 : a0_0 = 7
       ·subst q7
        by_cases E : noneB l0_7 l0_8 = true
        ·have dE : noneB l0_7 l0_8 = true := by simpa using E
         have DE := Aside0.mk dE
         clear E
         by_cases u : 0 < a0_2
         ·have du : decide (0 < a0_2) = true := decide_eq_true u
          have Du := Aside0.mk du
          clear u
          go_wp2
          go_region_held3 (fun V => V.cell? ⟨gb, 0, none⟩ = some (.int .i64 7) ∧ V.cell? ⟨gb, 1, none⟩ = some (.int .i64 a0_1) ∧ V.cell? ⟨gb, 2, none⟩ = some (.int .i64 a0_2) ∧ V.cell? ⟨gb, 3, none⟩ = some (.int .i64 a0_3) ∧ V.cell? ⟨gb, 4, none⟩ = some (.string a0_4) ∧ V.cell? ⟨gb, 5, none⟩ = some (.string a0_5) ∧ V.cell? ⟨gb, 6, none⟩ = some (.bool a0_6) ∧ V.cell? ⟨gb, 7, none⟩ = some (.slice A0_7 l0_7.length c0_7) ∧ V.cell? ⟨gb, 8, none⟩ = some (.slice A0_8 l0_8.length c0_8)) (go_keep) (fail)
          all_goals (go_wp2; go_meet)
          all_goals (case rel => exact ⟨true, (7), (0), (a0_2), (0), ((⟨#[]⟩ : ByteArray)), ((⟨#[]⟩ : ByteArray)), (false), rfl, ⟨HE.out.trans (by simp [chkK, DE.out, Du.out])⟩, ⟨(by (with_reducible repeat (first | refine blk_drewN ?_ _ | refine blk_drew ?_ | refine blk_alloc ?_ _ | refine blk_far ?_ NB.out _)); refine blk_put (cs := #[.int .i64 7, .int .i64 a0_1, .int .i64 a0_2, .int .i64 0, .string (⟨#[]⟩ : ByteArray), .string (⟨#[]⟩ : ByteArray), .bool false]) ?_ 1 _ rfl; (with_reducible repeat (first | refine blk_drewN ?_ _ | refine blk_drew ?_ | refine blk_alloc ?_ _ | refine blk_far ?_ NB.out _)); exact H3.out)⟩, ⟨by (with_reducible repeat (first | refine blk_drewN ?_ _ | refine blk_drew ?_ | refine blk_alloc ?_ _ | refine blk_far ?_ NB.out _)); exact BK.out⟩, ⟨(by repeat (first | (with_reducible first | exact HB.out | apply below_alloc | apply pw_below_drewN | apply below_drew1 | refine below_set ?_ G3.out) | exact HB.out))⟩⟩)
         ·have du : decide (0 < a0_2) = false := decide_eq_false u
          have Du := Aside0.mk du
          clear u
          go_wp2
          go_region_held3 (fun V => V.cell? ⟨gb, 0, none⟩ = some (.int .i64 7) ∧ V.cell? ⟨gb, 1, none⟩ = some (.int .i64 a0_1) ∧ V.cell? ⟨gb, 2, none⟩ = some (.int .i64 a0_2) ∧ V.cell? ⟨gb, 3, none⟩ = some (.int .i64 a0_3) ∧ V.cell? ⟨gb, 4, none⟩ = some (.string a0_4) ∧ V.cell? ⟨gb, 5, none⟩ = some (.string a0_5) ∧ V.cell? ⟨gb, 6, none⟩ = some (.bool a0_6) ∧ V.cell? ⟨gb, 7, none⟩ = some (.slice A0_7 l0_7.length c0_7) ∧ V.cell? ⟨gb, 8, none⟩ = some (.slice A0_8 l0_8.length c0_8)) (go_keep) (fail)
          all_goals (go_wp2; go_meet)
          all_goals (case rel => exact ⟨false, (7), (0), (a0_2), (0), ((⟨#[]⟩ : ByteArray)), ((⟨#[]⟩ : ByteArray)), (false), rfl, ⟨HE.out.trans (by simp [chkK, DE.out, Du.out])⟩, ⟨(by (with_reducible repeat (first | refine blk_drewN ?_ _ | refine blk_drew ?_ | refine blk_alloc ?_ _ | refine blk_far ?_ NB.out _)); refine blk_put (cs := #[.int .i64 7, .int .i64 a0_1, .int .i64 a0_2, .int .i64 0, .string (⟨#[]⟩ : ByteArray), .string (⟨#[]⟩ : ByteArray), .bool false]) ?_ 1 _ rfl; (with_reducible repeat (first | refine blk_drewN ?_ _ | refine blk_drew ?_ | refine blk_alloc ?_ _ | refine blk_far ?_ NB.out _)); exact H3.out)⟩, ⟨by (with_reducible repeat (first | refine blk_drewN ?_ _ | refine blk_drew ?_ | refine blk_alloc ?_ _ | refine blk_far ?_ NB.out _)); exact BK.out⟩, ⟨(by repeat (first | (with_reducible first | exact HB.out | apply below_alloc | apply pw_below_drewN | apply below_drew1 | refine below_set ?_ G3.out) | exact HB.out))⟩⟩)
        ·have dE : noneB l0_7 l0_8 = false := by simpa using E
         have DE := Aside0.mk dE
         clear E
         go_wp2
         have NB2 := Aside0.mk nb2
         have n0_ := Aside0.mk (blk_drew BK.out)
         have n1_ := Aside0.mk (blk_drew H3.out)
         have n2_ := Aside0.mk (below_drew1 HB.out)
         clear BK H3 HB
         have BK := n0_
         have H3 := n1_
         have HB := n2_
         clear n0_ n1_ n2_
         refine start_ (n := 9) (S := fun w' => True) (ds := []) #[false, false, false, false, false, false, false, false, false] (by kernel_rfl) rfl rfl trivial (fun hHeld => ?_); refine with_tabW record_Check.tab20 record_Check.bits20 (fun HT_ HW_ => ?_)
         generalize wc.drew = w547 at BK H3 HB hHeld ⊢
         refine pure_ (i := 0) (N := some 132) (v := ?_) (a' := ?_) #[true, false, false, false, false, false, false, false, false] rfl rfl (any_of HT_.out (by kernel_rfl)) (fun _ _ _ h => h) (Or.inl ⟨by rfl, ?_⟩) ?_ ?_
         rotate_left
         ·intro w'
          go_simp
          with_reducible rfl
         rotate_left
         ·simp only [Act.put, List.setIfInBounds_toArray, List.set_cons_zero, List.set_cons_succ, i64_w, i32_w]
          rfl
         refine pure_ (i := 1) (N := some 133) (v := ?_) (a' := ?_) #[true, true, false, false, false, false, false, false, false] rfl rfl (any_of HT_.out (by kernel_rfl)) (fun _ _ _ h => h) (Or.inl ⟨by rfl, ?_⟩) ?_ ?_
         rotate_left
         ·intro w'
          go_simp
          with_reducible rfl
         rotate_left
         ·simp only [Act.put, List.setIfInBounds_toArray, List.set_cons_zero, List.set_cons_succ, i64_w, i32_w]
          rfl
         refine pure_ (i := 2) (N := some 134) (v := undef) (a' := ?_) #[true, true, true, false, false, false, false, false, false] rfl rfl (any_of HT_.out (by kernel_rfl)) (fun _ _ _ h => h) (Or.inr ⟨by rfl, rfl⟩) ?_ ?_
         rotate_left
         ·simp only [Act.put, List.setIfInBounds_toArray, List.set_cons_zero, List.set_cons_succ, i64_w, i32_w]
          rfl
         refine pure_ (i := 3) (N := some 135) (v := undef) (a' := ?_) #[true, true, true, true, false, false, false, false, false] rfl rfl (any_of HT_.out (by kernel_rfl)) (fun _ _ _ h => h) (Or.inr ⟨by rfl, rfl⟩) ?_ ?_
         rotate_left
         ·simp only [Act.put, List.setIfInBounds_toArray, List.set_cons_zero, List.set_cons_succ, i64_w, i32_w]
          rfl
         refine pure_ (i := 4) (N := some 136) (v := undef) (a' := ?_) #[true, true, true, true, true, false, false, false, false] rfl rfl (any_of HT_.out (by kernel_rfl)) (fun _ _ _ h => h) (Or.inr ⟨by rfl, rfl⟩) ?_ ?_
         rotate_left
         ·simp only [Act.put, List.setIfInBounds_toArray, List.set_cons_zero, List.set_cons_succ, i64_w, i32_w]
          rfl
         refine pure_ (i := 5) (N := some 137) (v := ?_) (a' := ?_) #[true, true, true, true, true, true, false, false, false] rfl rfl (any_of HT_.out (by kernel_rfl)) (fun _ _ _ h => h) (Or.inl ⟨by rfl, ?_⟩) ?_ ?_
         rotate_left
         ·intro w'
          go_simp
          with_reducible rfl
         rotate_left
         ·simp only [Act.put, List.setIfInBounds_toArray, List.set_cons_zero, List.set_cons_succ, i64_w, i32_w]
          rfl
         refine pure_ (i := 6) (N := some 138) (v := ?_) (a' := ?_) #[true, true, true, true, true, true, true, false, false] rfl rfl (any_of HT_.out (by kernel_rfl)) (fun _ _ _ h => h) (Or.inl ⟨by rfl, ?_⟩) ?_ ?_
         rotate_left
         ·intro w'
          go_simp
          with_reducible rfl
         rotate_left
         ·simp only [Act.put, List.setIfInBounds_toArray, List.set_cons_zero, List.set_cons_succ, i64_w, i32_w]
          rfl
         refine one_ (i := 7) (N := none) #[true, true, true, true, true, true, true, true, false] rfl rfl (one_of HT_.out (by kernel_rfl)) (by decide) (fun K hK => ?_)
         have hs548 : w547.cell? ⟨g3, 1, none⟩ = some (.int .i64 a0_1) := (blk_cell H3.out 1).trans rfl
         have hfs548 := blk_frozen H3.out 1
         have hns548_0 := NB.out
         have hms548_0 := NB2.out
         refine skip_ (w1 := ?_) (by rfl) rfl ?_ ?_
         rotate_left
         ·go_simp
          rfl
         refine hK.out _ _ trivial (fun hHeld => ?_)
         clear hK K
         refine pure_ (i := 8) (N := some 4) (v := ?_) (a' := ?_) #[true, true, true, true, true, true, true, true, true] rfl rfl (any_of HT_.out (by kernel_rfl)) (fun _ _ _ h => h) (Or.inl ⟨by rfl, ?_⟩) ?_ ?_
         rotate_left
         ·intro w'
          go_simp
          with_reducible rfl
         rotate_left
         ·simp only [Act.put, List.setIfInBounds_toArray, List.set_cons_zero, List.set_cons_succ, i64_w, i32_w]
          rfl
         refine done_ (done_of HT_.out (by kernel_rfl)) ?_
         go_wp2
         go_meet
         case rel => exact ⟨false, (7), (0), (a0_2), (0), ((⟨#[]⟩ : ByteArray)), ((⟨#[]⟩ : ByteArray)), (false), rfl, ⟨HE.out.trans (by simp [chkK, DE.out])⟩, ⟨(by (with_reducible repeat (first | refine blk_drewN ?_ _ | refine blk_drew ?_ | refine blk_alloc ?_ _ | refine blk_far ?_ NB.out _)); refine blk_put (cs := #[.int .i64 7, .int .i64 a0_1, .int .i64 a0_2, .int .i64 0, .string (⟨#[]⟩ : ByteArray), .string (⟨#[]⟩ : ByteArray), .bool false]) ?_ 1 _ rfl; (with_reducible repeat (first | refine blk_drewN ?_ _ | refine blk_drew ?_ | refine blk_alloc ?_ _ | refine blk_far ?_ NB.out _)); exact H3.out)⟩, ⟨by (with_reducible repeat (first | refine blk_drewN ?_ _ | refine blk_drew ?_ | refine blk_alloc ?_ _ | refine blk_far ?_ NB.out _)); exact BK.out⟩, ⟨(by repeat (first | (with_reducible first | exact HB.out | apply below_alloc | apply pw_below_drewN | apply below_drew1 | refine below_set ?_ G3.out) | exact HB.out))⟩⟩
       ·have e7 : (a0_0 == 7) = false := beq_eq_false_iff_ne.2 q7
        have E7 := Aside0.mk q7
        clear q7
        go_wp2
        go_ret
        exact ⟨by rw [HE.out]; simp [chkK, E1.out, E2.out, E3.out, E4.out, E5.out, E6.out, E7.out], HB.out⟩
    case rest =>
     clear hb_0 fb_0 hb_1 fb_1 hb_2 fb_2 hb_3 fb_3 hb_4 fb_4 hb_5 fb_5 hb_6 fb_6 hb_7 fb_7 hb_8 fb_8
     clear hw_0 fw_0 hw_1 fw_1 hw_2 fw_2 hw_3 fw_3 hw_4 fw_4 hw_5 fw_5 hw_6 fw_6
     clear H3 BK HB HE
     obtain ⟨b, w0, w1, w2, w3, w4, w5, w6, rfl, HE, H3, BK, HB⟩ := hcut
     have hb_0 : wc.cell? ⟨gb, 0, none⟩ = some (.int .i64 a0_0) := (blk_cell BK.out 0).trans rfl
     have fb_0 := blk_frozen BK.out 0
     have hb_1 : wc.cell? ⟨gb, 1, none⟩ = some (.int .i64 a0_1) := (blk_cell BK.out 1).trans rfl
     have fb_1 := blk_frozen BK.out 1
     have hb_2 : wc.cell? ⟨gb, 2, none⟩ = some (.int .i64 a0_2) := (blk_cell BK.out 2).trans rfl
     have fb_2 := blk_frozen BK.out 2
     have hb_3 : wc.cell? ⟨gb, 3, none⟩ = some (.int .i64 a0_3) := (blk_cell BK.out 3).trans rfl
     have fb_3 := blk_frozen BK.out 3
     have hb_4 : wc.cell? ⟨gb, 4, none⟩ = some (.string a0_4) := (blk_cell BK.out 4).trans rfl
     have fb_4 := blk_frozen BK.out 4
     have hb_5 : wc.cell? ⟨gb, 5, none⟩ = some (.string a0_5) := (blk_cell BK.out 5).trans rfl
     have fb_5 := blk_frozen BK.out 5
     have hb_6 : wc.cell? ⟨gb, 6, none⟩ = some (.bool a0_6) := (blk_cell BK.out 6).trans rfl
     have fb_6 := blk_frozen BK.out 6
     have hb_7 : wc.cell? ⟨gb, 7, none⟩ = some (.slice A0_7 l0_7.length c0_7) := (blk_cell BK.out 7).trans rfl
     have fb_7 := blk_frozen BK.out 7
     have hb_8 : wc.cell? ⟨gb, 8, none⟩ = some (.slice A0_8 l0_8.length c0_8) := (blk_cell BK.out 8).trans rfl
     have fb_8 := blk_frozen BK.out 8
     have hw_0 : wc.cell? ⟨g3, 0, none⟩ = some (.int .i64 w0) := (blk_cell H3.out 0).trans rfl
     have fw_0 := blk_frozen H3.out 0
     have hw_1 : wc.cell? ⟨g3, 1, none⟩ = some (.int .i64 w1) := (blk_cell H3.out 1).trans rfl
     have fw_1 := blk_frozen H3.out 1
     have hw_2 : wc.cell? ⟨g3, 2, none⟩ = some (.int .i64 w2) := (blk_cell H3.out 2).trans rfl
     have fw_2 := blk_frozen H3.out 2
     have hw_3 : wc.cell? ⟨g3, 3, none⟩ = some (.int .i64 w3) := (blk_cell H3.out 3).trans rfl
     have fw_3 := blk_frozen H3.out 3
     have hw_4 : wc.cell? ⟨g3, 4, none⟩ = some (.string w4) := (blk_cell H3.out 4).trans rfl
     have fw_4 := blk_frozen H3.out 4
     have hw_5 : wc.cell? ⟨g3, 5, none⟩ = some (.string w5) := (blk_cell H3.out 5).trans rfl
     have fw_5 := blk_frozen H3.out 5
     have hw_6 : wc.cell? ⟨g3, 6, none⟩ = some (.bool w6) := (blk_cell H3.out 6).trans rfl
     have fw_6 := blk_frozen H3.out 6
     by_cases hb : b = true
     ·subst hb
      by_cases c : neqR w0 w1 w2 w3 w4 w5 w6 a0_0 a0_1 a0_2 a0_3 a0_4 a0_5 a0_6 = true
      ·have c1 : (!(w0 == a0_0) || (!(w1 == a0_1) || (!(w2 == a0_2) || (!(w3 == a0_3) || (!(w4.toList == a0_4.toList) || (!(w5.toList == a0_5.toList) || (!(w6 == a0_6)))))))) = true := c
       have HR := Aside0.mk (HE.out.trans ((if_pos rfl).trans (if_pos c)))
       clear c
       go_wp2
       go_ret
       exact ⟨by rw [HR.out]; rfl, by repeat (first | exact HB.out | apply pw_below_drewN | apply below_drew1)⟩
      ·have c1 : (!(w0 == a0_0) || (!(w1 == a0_1) || (!(w2 == a0_2) || (!(w3 == a0_3) || (!(w4.toList == a0_4.toList) || (!(w5.toList == a0_5.toList) || (!(w6 == a0_6)))))))) = false := Bool.eq_false_iff.mpr c
       have HR := Aside0.mk (HE.out.trans ((if_pos rfl).trans (if_neg c)))
       clear c
       go_wp2
       go_ret
       exact ⟨by rw [HR.out]; rfl, by repeat (first | exact HB.out | apply pw_below_drewN | apply below_drew1)⟩
     ·replace hb := Bool.eq_false_iff.mpr hb
      subst hb
      have HR := Aside0.mk (HE.out.trans (if_neg (by decide)))
      go_wp2
      go_ret
      exact ⟨by rw [HR.out]; rfl, by repeat (first | exact HB.out | apply pw_below_drewN | apply below_drew1)⟩
theorem record_Check.calls (a0_0 a0_1 a0_2 a0_3 : Int) (a0_4 a0_5 : ByteArray) (a0_6 : Bool) (A0_7 : Option Addr) (c0_7 : Nat) (l0_7 : List ByteArray) (A0_8 : Option Addr) (c0_8 : Nat) (l0_8 : List S50) (r : Int) (w : World) (hr0_7 : Kd.C Kd.string w A0_7 l0_7.length l0_7) (hc0_7 : l0_7.length ≤ c0_7) (hr0_8 : Kd.C k50 w A0_8 l0_8.length l0_8) (hc0_8 : l0_8.length ≤ c0_8) (h : record_Check.f a0_0 a0_1 a0_2 a0_3 a0_4 a0_5 a0_6 l0_7 l0_8 = some r) :
  Calls Try.prog 11 #[.agg #[.int .i64 a0_0, .int .i64 a0_1, .int .i64 a0_2, .int .i64 a0_3, .string a0_4, .string a0_5, .bool a0_6, .slice A0_7 l0_7.length c0_7, .slice A0_8 l0_8.length c0_8]] w fun e w' => e = .returned (.int .i64 r) ∧ Below w.heap.size w w' := by
 unfold record_Check.f at h
 by_cases hl : l0_7.length ≤ 8796093022000 ∧ l0_8.length ≤ 8796093022000
 ·rw [if_pos hl] at h
  obtain rfl := Option.some.inj h
  by_cases hk : a0_0 = 1 ∨ a0_0 = 2 ∨ a0_0 = 5 ∨ a0_0 = 6
  ·exact record_Check.coreA a0_0 a0_1 a0_2 a0_3 a0_4 a0_5 a0_6 hk A0_7 c0_7 l0_7 A0_8 c0_8 l0_8 w hr0_7 hc0_7 hr0_8 hc0_8 hl
  ·exact record_Check.coreB a0_0 a0_1 a0_2 a0_3 a0_4 a0_5 a0_6 (by simpa only [not_or] using hk) A0_7 c0_7 l0_7 A0_8 c0_8 l0_8 w hr0_7 hc0_7 hr0_8 hc0_8 hl
 ·rw [if_neg hl] at h
  cases h
end Go.Proofs.Ytbfjbcaabijpfaa.Al

namespace Go.Proofs.Ytbfjbcaabijpfaa.Al
open Go.RowKit Go.Proofs.YtbfjbcaabijpfaaW.PrintWords Go.Proofs.YtbfjbcaabijpfaaW.PrintLast Go.Proofs.YtbfjbcaabijpfaaW.PrintMore
attribute [local go_sem] max2_int min2_int max_two min_two max_three min_three max_four min_four   -- for this text's walks alone
set_option linter.unusedVariables false
set_option linter.unusedSimpArgs false
def record_one.f (a0 : Bool) : Option (Int) := if a0 = true then (some 1) else (some 0)
set_option maxHeartbeats 8000000 in
set_option maxRecDepth 100000 in
theorem record_one.calls (a0 : Bool) (r : Int) (w : World) (h : record_one.f a0 = some r) :
  Calls Try.prog 20 #[.bool a0] w fun e w' => e = .returned (.int .i64 r) ∧ Drawn0 w w' := by
 have H : (if a0 = true then (some 1) else (some 0)) = some r := h
 clear h
 by_cases c2 : a0 = true
 ·subst c2
  have H1 : (some 1) = some r := by rw [if_pos rfl] at H; exact H
  clear H
  have H := H1
  clear H1
  obtain rfl := Option.some.inj H
  go_enter Try.func20, Try.ntmps20
  go_wp2
  go_ret
  exact ⟨by first | rfl | (simp; done) | (simp [*]; done), by repeat (first | exact Drawn0.refl _ | apply Drawn0.step)⟩
 ·replace c2 := Bool.eq_false_iff.mpr c2
  subst c2
  have H1 : (some 0) = some r := by rw [if_neg (show ¬ (false = true) by decide)] at H; exact H
  clear H
  have H := H1
  clear H1
  obtain rfl := Option.some.inj H
  go_enter Try.func20, Try.ntmps20
  go_wp2
  go_ret
  exact ⟨by first | rfl | (simp; done) | (simp [*]; done), by repeat (first | exact Drawn0.refl _ | apply Drawn0.step)⟩
end Go.Proofs.Ytbfjbcaabijpfaa.Al

namespace Go.Proofs.Ytbfjbcaabijpfaa.Al
open Go.RowKit Go.Proofs.YtbfjbcaabijpfaaW.PrintWords Go.Proofs.YtbfjbcaabijpfaaW.PrintLast Go.Proofs.YtbfjbcaabijpfaaW.PrintMore
attribute [local go_sem] max2_int min2_int max_two min_two max_three min_three max_four min_four   -- for this text's walks alone
set_option linter.unusedVariables false
set_option linter.unusedSimpArgs false
def pack_may.f (a0 : Int) : Option (Bool) := if a0 ≥ (-4611686018427387904) then (some (decide (a0 ≤ 4611686018427387903))) else (some false)
set_option maxHeartbeats 8000000 in
set_option maxRecDepth 100000 in
theorem pack_may.calls (a0 : Int) (r : Bool) (w : World) (h : pack_may.f a0 = some r) :
  Calls Try.prog 50 #[.int .i64 a0] w fun e w' => e = .returned (.bool r) ∧ Drawn0 w w' := by
 have H : (if a0 ≥ (-4611686018427387904) then (some (decide (a0 ≤ 4611686018427387903))) else (some false)) = some r := h
 clear h
 by_cases c2 : a0 ≥ (-4611686018427387904)
 ·rw [if_pos c2] at H
  have c2b0 : decide ((-4611686018427387904) ≤ a0) = true := decide_eq_true c2
  clear c2
  obtain rfl := Option.some.inj H
  go_enter Try.func50, Try.ntmps50
  go_wp2
  go_ret
  exact ⟨by first | rfl | (simp; done) | (simp [*]; done), by repeat (first | exact Drawn0.refl _ | apply Drawn0.step)⟩
 ·rw [if_neg c2] at H
  have c2b0 : decide ((-4611686018427387904) ≤ a0) = false := decide_eq_false c2
  clear c2
  obtain rfl := Option.some.inj H
  go_enter Try.func50, Try.ntmps50
  go_wp2
  go_ret
  exact ⟨by first | rfl | (simp; done) | (simp [*]; done), by repeat (first | exact Drawn0.refl _ | apply Drawn0.step)⟩
end Go.Proofs.Ytbfjbcaabijpfaa.Al

namespace Go.Proofs.Ytbfjbcaabijpfaa.Al
open Go.RowKit Go.Proofs.YtbfjbcaabijpfaaW.PrintWords Go.Proofs.YtbfjbcaabijpfaaW.PrintLast Go.Proofs.YtbfjbcaabijpfaaW.PrintMore
attribute [local go_sem] max2_int min2_int max_two min_two max_three min_three max_four min_four   -- for this text's walks alone
set_option linter.unusedVariables false
set_option linter.unusedSimpArgs false
mutual
def pack_Check.j0 : Nat → Bool → List Int → List ByteArray → Option (Int)
 |0, _, _, _ => none
 |k + 1, x16, x133000, x133001 => if x16 = true then (some 2) else (pack_Check.l0 k x133000 (x133000.length : Int) 0 x133000 x133001)
def pack_Check.l0 : Nat → List Int → Int → Int → List Int → List ByteArray → Option (Int)
 |0, _, _, _, _, _ => none
 |k + 1, x18, x19, x20, x133000, x133001 => if x20 < x19 then (if 0 ≤ x20 then (if x20 < (x18.length : Int) then ((pack_may.f (rd x18 x20)).bind fun t134 => (if t134 = true then (pack_Check.l0 k x18 x19 (wrap64 (x20 + 1)) x133000 x133001) else (some 1))) else (none)) else (none)) else (pack_Check.l1 k x133001 (x133001.length : Int) 0)
def pack_Check.l1 : Nat → List ByteArray → Int → Int → Option (Int)
 |0, _, _, _ => none
 |k + 1, x29, x30, x31 => if x31 < x30 then (if 0 ≤ x31 then (if x31 < (x29.length : Int) then (if ((rdOf ByteArray.empty x29 x31).size : Int) > 4096 then (some 2) else (pack_Check.l1 k x29 x30 (wrap64 (x31 + 1)))) else (none)) else (none)) else (some 0)
end
def pack_Check.f (k : Nat) (l0_0 : List Int) (l0_1 : List ByteArray) : Option (Int) := if (l0_0.length : Int) > 1024 then (pack_Check.j0 k true l0_0 l0_1) else (pack_Check.j0 k (decide ((l0_1.length : Int) > 1024)) l0_0 l0_1)
set_option maxHeartbeats 8000000 in
set_option maxRecDepth 100000 in
theorem pack_Check.calls (k : Nat) (A0_0 : Option Addr) (c0_0 : Nat) (l0_0 : List Int) (A0_1 : Option Addr) (c0_1 : Nat) (l0_1 : List ByteArray) (r : Int) (w : World) (hr0_0 : Kd.C (Kd.int .i64) w A0_0 l0_0.length l0_0) (hc0_0 : l0_0.length ≤ c0_0) (hr0_1 : Kd.C Kd.string w A0_1 l0_1.length l0_1) (hc0_1 : l0_1.length ≤ c0_1) (h : pack_Check.f k l0_0 l0_1 = some r) :
  Calls Try.prog 40 #[.agg #[.slice A0_0 l0_0.length c0_0, .slice A0_1 l0_1.length c0_1]] w fun e w' => e = .returned (.int .i64 r) ∧ Below w.heap.size w w' := by
 have hu48 := Try.underlying48
 have HR0_0 := Aside0.mk hr0_0
 have HC0_0 := Aside0.mk hc0_0
 clear hr0_0 hc0_0
 have HR0_1 := Aside0.mk hr0_1
 have HC0_1 := Aside0.mk hc0_1
 clear hr0_1 hc0_1
 have HB := Aside0.mk (Below.refl w.heap.size w)
 have H : (if (l0_0.length : Int) > 1024 then (pack_Check.j0 k true l0_0 l0_1) else (pack_Check.j0 k (decide ((l0_1.length : Int) > 1024)) l0_0 l0_1)) = some r := h
 clear h
 have HC2 := Aside0.mk H
 clear H
 go_enter Try.func40, Try.ntmps40
 go_upto_region 1 with (first | ((with_reducible refine gate_dst (N := 1) rfl ?_); (try (refine gate_guard (by rfl) ?_; dsimp only)); refine box_event ?hg (N := 1) ?hd (cs := #[.slice A0_0 l0_0.length c0_0, .slice A0_1 l0_1.length c0_1]) (t := 48) ?hr ?_; (case hd => rfl); (case hg => rfl); (case hr => first | (go_simp; done) | (go_simp; rfl)); intro gb132 hg w3 hbox hb; have n0_ := Aside0.mk (below_step (by repeat (first | (with_reducible first | exact HB.out | apply below_alloc | apply pw_below_drewN | apply below_drew1) | exact HB.out)) hb); have n1_ := Aside0.mk (hbox); have n2_ := Aside0.mk ((by rw [hg]; exact (below_size (by repeat (first | (with_reducible first | exact HB.out | apply below_alloc | apply pw_below_drewN | apply below_drew1) | exact HB.out))) : w.heap.size ≤ gb132)); have n3_ := Aside0.mk ((by rw [hg]; exact (below_size (by repeat (first | (with_reducible first | exact HB.out | apply below_alloc | apply pw_below_drewN | apply below_drew1) | exact HB.out))) : w.heap.size ≤ gb132)); clear HB; have HB := n0_; have BK132 := n1_; have GW132 := n2_; have GE132 := n3_; clear n0_ n1_ n2_ n3_; clear hb hbox hg))
 (try simp only [Act.put, List.setIfInBounds_toArray, List.set_cons_zero, List.set_cons_succ])
 go_cut [16] (fun v16 wc => ∃ (kq : Nat) (x16_1 : Bool), v16 = .bool x16_1 ∧ Aside0 (pack_Check.j0 kq x16_1 l0_0 l0_1 = some r) ∧ Aside0 (kq ≤ k) ∧ Aside0 (wc.heap[gb132]? = some (.cells #[(.slice A0_0 l0_0.length c0_0), (.slice A0_1 l0_1.length c0_1)] 48 (0, 0))) ∧ Aside0 (Below w.heap.size w wc))
 case first =>
  have H := HC2.out
  clear HC2
  by_cases c4 : (l0_0.length : Int) > 1024
  ·rw [if_pos c4] at H
   have c4b0 : decide (1024 < (l0_0.length : Int)) = true := decide_eq_true c4
   have c4b1 : decide (1024 < l0_0.length) = true := decide_eq_true (by omega)
   clear c4
   (first | rw [c4b0] | (simp only [i64_w, i32_w]; rw [c4b0]) | skip)
   have H' := Aside0.mk H
   clear H
   obtain ⟨hcz5_0, hfz5_0, hcz5_1, hfz5_1⟩ := cfz2 BK132.out
   go_wp2
   go_meet
   case rel => exact ⟨_, (true), (by first | rfl | (simp; done) | (simp [*]; done)), H', ⟨by first | omega | exact Nat.le_refl _⟩, ⟨by (with_reducible repeat (first | refine blk_drewN ?_ _ | refine blk_drew ?_ | refine blk_alloc ?_ _)); exact BK132.out⟩, ⟨by repeat (first | (with_reducible first | exact HB.out | apply below_alloc | apply pw_below_drewN | apply below_drew1 | refine below_set ?_ GE132.out) | exact HB.out)⟩⟩
  ·rw [if_neg c4] at H
   have c4b0 : decide (1024 < (l0_0.length : Int)) = false := decide_eq_false c4
   have c4b1 : decide (1024 < l0_0.length) = false := decide_eq_false (by omega)
   clear c4
   (first | rw [c4b0] | (simp only [i64_w, i32_w]; rw [c4b0]) | skip)
   have H' := Aside0.mk H
   clear H
   obtain ⟨hcz6_0, hfz6_0, hcz6_1, hfz6_1⟩ := cfz2 BK132.out
   go_wp2
   go_meet
   case rel => exact ⟨_, (decide ((l0_1.length : Int) > 1024)), (by first | rfl | (simp; done) | (simp [*]; done)), H', ⟨by first | omega | exact Nat.le_refl _⟩, ⟨by (with_reducible repeat (first | refine blk_drewN ?_ _ | refine blk_drew ?_ | refine blk_alloc ?_ _)); exact BK132.out⟩, ⟨by repeat (first | (with_reducible first | exact HB.out | apply below_alloc | apply pw_below_drewN | apply below_drew1 | refine below_set ?_ GE132.out) | exact HB.out)⟩⟩
 case rest =>
  clear HC2
  (try clear p2); (try clear c4); (try clear c4b0); (try clear c4b1); (try clear hcz5_0); (try clear hcz5_1); (try clear hcz6_0); (try clear hcz6_1); (try clear hfz5_0); (try clear hfz5_1); (try clear hfz6_0); (try clear hfz6_1)
  obtain ⟨kq, x16_1, rfl, HA, HJ1, BK132, HB⟩ := hcut
  cases kq with
  |zero => exact absurd HA.out (by simp [pack_Check.j0])
  |succ kj1 =>
   have H := HA.out
   clear HA
   simp only [pack_Check.j0] at H
   by_cases c7 : x16_1 = true
   ·subst c7
    have H1 : (some 2) = some r := by rw [if_pos rfl] at H; exact H
    clear H
    have H := H1
    clear H1
    obtain rfl := Option.some.inj H
    go_wp2
    go_ret
    exact ⟨by first | rfl | (simp [errW_none, errW_some] <;> rfl) | (simp [*, errW_none, errW_some] <;> rfl), by repeat (first | (with_reducible first | exact HB.out | apply below_alloc | apply pw_below_drewN | apply below_drew1 | refine below_set ?_ GE132.out) | exact HB.out)⟩
   ·replace c7 := Bool.eq_false_iff.mpr c7
    subst c7
    have H1 : (pack_Check.l0 kj1 l0_0 (l0_0.length : Int) 0 l0_0 l0_1) = some r := by rw [if_neg (show ¬ (false = true) by decide)] at H; exact H
    clear H
    have H := H1
    clear H1
    have H' := Aside0.mk H
    clear H
    obtain ⟨hcz8_0, hfz8_0, hcz8_1, hfz8_1⟩ := cfz2 BK132.out
    go_wp2
    go_loopg [20] kj1 (fun kq v20 w' => ∃ (x20_2 : Int), v20 = .int .i64 x20_2 ∧ Aside0 (pack_Check.l0 kq l0_0 (l0_0.length : Int) x20_2 l0_0 l0_1 = some r) ∧ Aside0 (kq ≤ kj1) ∧ Aside0 (w'.heap[gb132]? = some (.cells #[(.slice A0_0 l0_0.length c0_0), (.slice A0_1 l0_1.length c0_1)] 48 (0, 0))) ∧ Aside0 (Below w.heap.size w w'))
    case atStart => exact ⟨(0), (by first | rfl | (simp; done) | (simp [*]; done)), H', ⟨Nat.le_refl _⟩, ⟨by (with_reducible repeat (first | refine blk_drewN ?_ _ | refine blk_drew ?_ | refine blk_alloc ?_ _)); exact BK132.out⟩, ⟨by repeat (first | (with_reducible first | exact HB.out | apply below_alloc | apply pw_below_drewN | apply below_drew1 | refine below_set ?_ GE132.out) | exact HB.out)⟩⟩
    case round =>
     clear H'
     (try clear p2); (try clear c4); (try clear c4b0); (try clear c4b1); (try clear c7); (try clear hcz5_0); (try clear hcz5_1); (try clear hcz6_0); (try clear hcz6_1); (try clear hcz8_0); (try clear hcz8_1); (try clear hfz5_0); (try clear hfz5_1); (try clear hfz6_0); (try clear hfz6_1); (try clear hfz8_0); (try clear hfz8_1); (try clear p2)
     obtain ⟨x20_2, rfl, HA, HK2, BK132, HB⟩ := hrel
     cases gk with
     |zero => exact absurd HA.out (by simp [pack_Check.l0])
     |succ k2 =>
      have H := HA.out
      clear HA
      simp only [pack_Check.l0] at H
      by_cases c9 : x20_2 < (l0_0.length : Int)
      ·rw [if_pos c9] at H
       have c9b0 : decide (x20_2 < (l0_0.length : Int)) = true := decide_eq_true c9
       clear c9
       by_cases c10 : 0 ≤ x20_2
       ·rw [if_pos c10] at H
        have c10b0 : decide (0 ≤ x20_2) = true := decide_eq_true c10
        clear c10
        by_cases c11 : x20_2 < (l0_0.length : Int)
        ·rw [if_pos c11] at H
         have c11b0 : decide (x20_2 < (l0_0.length : Int)) = true := decide_eq_true c11
         clear c11
         replace H := Option.bind_eq_some_iff.mp H
         obtain ⟨t134, A120, H⟩ := H
         replace H : (if t134 = true then (pack_Check.l0 k2 l0_0 (l0_0.length : Int) (wrap64 (x20_2 + 1)) l0_0 l0_1) else (some 1)) = some r := H
         have A12 := Aside0.mk A120
         clear A120
         by_cases c13 : t134 = true
         ·subst c13
          have H1 : (pack_Check.l0 k2 l0_0 (l0_0.length : Int) (wrap64 (x20_2 + 1)) l0_0 l0_1) = some r := by rw [if_pos rfl] at H; exact H
          clear H
          have H := H1
          clear H1
          have H' := Aside0.mk H
          clear H
          have p133 : 0 ≤ (x20_2 : Int) := of_decide_eq_true (by first | (with_reducible assumption) | assumption)
          have q133 : x20_2 < (l0_0.length : Int) := of_decide_eq_true (by first | (with_reducible assumption) | assumption)
          obtain ⟨ad133, e133, hx133_0⟩ := Kd.at_int HR0_0.out x20_2 p133 q133
          cases e133
          replace hx133_0 := (HB.out.cell (World.block_lt_of_cell? w _ hx133_0)).trans hx133_0
          replace p133 := eq_true p133
          replace q133 := eq_true q133
          go_wp2_with (first | ((with_reducible refine gate_callee (f := 50) rfl ?_); refine goesL_ (some 25) rfl rfl Try.func50 (by kernel_rfl) rfl #[.int .i64 (rd l0_0 x20_2)] rfl (by (try simp only [List.map_toArray, List.map_cons, List.map_nil]); first | done | rfl | (simp only [List.length_drop, List.length_take]; rfl)) ?_; (with_reducible refine (pack_may.calls (rd l0_0 x20_2) true _ A12.out).mono ?_); rintro e w' ⟨rfl, ⟨nd, rfl⟩⟩; refine ⟨_, rfl, ?_⟩))
          go_roundg k2
          case measure => have := HJ1.out; have := HK2.out; omega
          case rel => exact ⟨(wrap64 (x20_2 + 1)), (by first | rfl | (simp; done) | (simp [*]; done)), H', ⟨by have := HJ1.out; have := HK2.out; omega⟩, ⟨by (with_reducible repeat (first | refine blk_drewN ?_ _ | refine blk_drew ?_ | refine blk_alloc ?_ _)); exact BK132.out⟩, ⟨by repeat (first | (with_reducible first | exact HB.out | apply below_alloc | apply pw_below_drewN | apply below_drew1 | refine below_set ?_ GE132.out) | exact HB.out)⟩⟩
         ·replace c13 := Bool.eq_false_iff.mpr c13
          subst c13
          have H1 : (some 1) = some r := by rw [if_neg (show ¬ (false = true) by decide)] at H; exact H
          clear H
          have H := H1
          clear H1
          obtain rfl := Option.some.inj H
          have p133 : 0 ≤ (x20_2 : Int) := of_decide_eq_true (by first | (with_reducible assumption) | assumption)
          have q133 : x20_2 < (l0_0.length : Int) := of_decide_eq_true (by first | (with_reducible assumption) | assumption)
          obtain ⟨ad133, e133, hx133_0⟩ := Kd.at_int HR0_0.out x20_2 p133 q133
          cases e133
          replace hx133_0 := (HB.out.cell (World.block_lt_of_cell? w _ hx133_0)).trans hx133_0
          replace p133 := eq_true p133
          replace q133 := eq_true q133
          go_wp2_with (first | ((with_reducible refine gate_callee (f := 50) rfl ?_); refine goesL_ (some 25) rfl rfl Try.func50 (by kernel_rfl) rfl #[.int .i64 (rd l0_0 x20_2)] rfl (by (try simp only [List.map_toArray, List.map_cons, List.map_nil]); first | done | rfl | (simp only [List.length_drop, List.length_take]; rfl)) ?_; (with_reducible refine (pack_may.calls (rd l0_0 x20_2) false _ A12.out).mono ?_); rintro e w' ⟨rfl, ⟨nd, rfl⟩⟩; refine ⟨_, rfl, ?_⟩))
          go_ret
          exact ⟨by first | rfl | (simp [errW_none, errW_some] <;> rfl) | (simp [*, errW_none, errW_some] <;> rfl), by repeat (first | (with_reducible first | exact HB.out | apply below_alloc | apply pw_below_drewN | apply below_drew1 | refine below_set ?_ GE132.out) | exact HB.out)⟩
        ·rw [if_neg c11] at H
         exact absurd H (by simp)
       ·rw [if_neg c10] at H
        exact absurd H (by simp)
      ·rw [if_neg c9] at H
       have c9b0 : decide (x20_2 < (l0_0.length : Int)) = false := decide_eq_false c9
       clear c9
       have H' := Aside0.mk H
       clear H
       obtain ⟨hcz14_0, hfz14_0, hcz14_1, hfz14_1⟩ := cfz2 BK132.out
       go_wp2
       go_loopg [31] k2 (fun kq v31 w' => ∃ (x31_3 : Int), v31 = .int .i64 x31_3 ∧ Aside0 (pack_Check.l1 kq l0_1 (l0_1.length : Int) x31_3 = some r) ∧ Aside0 (kq ≤ k2) ∧ Aside0 (w'.heap[gb132]? = some (.cells #[(.slice A0_0 l0_0.length c0_0), (.slice A0_1 l0_1.length c0_1)] 48 (0, 0))) ∧ Aside0 (Below w.heap.size w w'))
       case atStart => exact ⟨(0), (by first | rfl | (simp; done) | (simp [*]; done)), H', ⟨Nat.le_refl _⟩, ⟨by (with_reducible repeat (first | refine blk_drewN ?_ _ | refine blk_drew ?_ | refine blk_alloc ?_ _)); exact BK132.out⟩, ⟨by repeat (first | (with_reducible first | exact HB.out | apply below_alloc | apply pw_below_drewN | apply below_drew1 | refine below_set ?_ GE132.out) | exact HB.out)⟩⟩
       case round =>
        clear H'
        (try clear c1); (try clear p1); (try clear q1); (try clear hx1); (try clear p2); (try clear c4); (try clear c4b0); (try clear c4b1); (try clear c5); (try clear p6); (try clear c7); (try clear c9); (try clear c9b0); (try clear c10); (try clear c10b0); (try clear c11); (try clear c11b0); (try clear c13); (try clear p13); (try clear q13); (try clear hx13); (try clear hcz14_0); (try clear hcz14_1); (try clear hcz5_0); (try clear hcz5_1); (try clear hcz6_0); (try clear hcz6_1); (try clear hcz8_0); (try clear hcz8_1); (try clear hfz14_0); (try clear hfz14_1); (try clear hfz5_0); (try clear hfz5_1); (try clear hfz6_0); (try clear hfz6_1); (try clear hfz8_0); (try clear hfz8_1); (try clear hx133_0); (try clear p133); (try clear p2); (try clear q133)
        obtain ⟨x31_3, rfl, HA, HK3, BK132, HB⟩ := hrel
        cases gk with
        |zero => exact absurd HA.out (by simp [pack_Check.l1])
        |succ k3 =>
         have H := HA.out
         clear HA
         simp only [pack_Check.l1] at H
         by_cases c15 : x31_3 < (l0_1.length : Int)
         ·rw [if_pos c15] at H
          have c15b0 : decide (x31_3 < (l0_1.length : Int)) = true := decide_eq_true c15
          clear c15
          by_cases c16 : 0 ≤ x31_3
          ·rw [if_pos c16] at H
           have c16b0 : decide (0 ≤ x31_3) = true := decide_eq_true c16
           clear c16
           by_cases c17 : x31_3 < (l0_1.length : Int)
           ·rw [if_pos c17] at H
            have c17b0 : decide (x31_3 < (l0_1.length : Int)) = true := decide_eq_true c17
            clear c17
            by_cases c18 : ((rdOf ByteArray.empty l0_1 x31_3).size : Int) > 4096
            ·rw [if_pos c18] at H
             have c18b0 : decide (4096 < ((rdOf ByteArray.empty l0_1 x31_3).size : Int)) = true := decide_eq_true c18
             have c18b1 : decide (4096 < (rdOf ByteArray.empty l0_1 x31_3).size) = true := decide_eq_true (by omega)
             clear c18
             obtain rfl := Option.some.inj H
             have p135 : 0 ≤ (x31_3 : Int) := of_decide_eq_true (by first | (with_reducible assumption) | assumption)
             have q135 : x31_3 < (l0_1.length : Int) := of_decide_eq_true (by first | (with_reducible assumption) | assumption)
             obtain ⟨ad135, e135, hx135_0⟩ := Kd.at_string HR0_1.out x31_3 p135 q135
             cases e135
             replace hx135_0 := (HB.out.cell (World.block_lt_of_cell? w _ hx135_0)).trans hx135_0
             replace p135 := eq_true p135
             replace q135 := eq_true q135
             go_wp2
             go_ret
             exact ⟨by first | rfl | (simp [errW_none, errW_some] <;> rfl) | (simp [*, errW_none, errW_some] <;> rfl), by repeat (first | (with_reducible first | exact HB.out | apply below_alloc | apply pw_below_drewN | apply below_drew1 | refine below_set ?_ GE132.out) | exact HB.out)⟩
            ·rw [if_neg c18] at H
             have c18b0 : decide (4096 < ((rdOf ByteArray.empty l0_1 x31_3).size : Int)) = false := decide_eq_false c18
             have c18b1 : decide (4096 < (rdOf ByteArray.empty l0_1 x31_3).size) = false := decide_eq_false (by omega)
             clear c18
             have H' := Aside0.mk H
             clear H
             have p135 : 0 ≤ (x31_3 : Int) := of_decide_eq_true (by first | (with_reducible assumption) | assumption)
             have q135 : x31_3 < (l0_1.length : Int) := of_decide_eq_true (by first | (with_reducible assumption) | assumption)
             obtain ⟨ad135, e135, hx135_0⟩ := Kd.at_string HR0_1.out x31_3 p135 q135
             cases e135
             replace hx135_0 := (HB.out.cell (World.block_lt_of_cell? w _ hx135_0)).trans hx135_0
             replace p135 := eq_true p135
             replace q135 := eq_true q135
             go_wp2
             go_roundg k3
             case measure => have := HJ1.out; have := HK2.out; have := HK3.out; omega
             case rel => exact ⟨(wrap64 (x31_3 + 1)), (by first | rfl | (simp; done) | (simp [*]; done)), H', ⟨by have := HJ1.out; have := HK2.out; have := HK3.out; omega⟩, ⟨by (with_reducible repeat (first | refine blk_drewN ?_ _ | refine blk_drew ?_ | refine blk_alloc ?_ _)); exact BK132.out⟩, ⟨by repeat (first | (with_reducible first | exact HB.out | apply below_alloc | apply pw_below_drewN | apply below_drew1 | refine below_set ?_ GE132.out) | exact HB.out)⟩⟩
           ·rw [if_neg c17] at H
            exact absurd H (by simp)
          ·rw [if_neg c16] at H
           exact absurd H (by simp)
         ·rw [if_neg c15] at H
          have c15b0 : decide (x31_3 < (l0_1.length : Int)) = false := decide_eq_false c15
          clear c15
          obtain rfl := Option.some.inj H
          go_wp2
          go_ret
          exact ⟨by first | rfl | (simp [errW_none, errW_some] <;> rfl) | (simp [*, errW_none, errW_some] <;> rfl), by repeat (first | (with_reducible first | exact HB.out | apply below_alloc | apply pw_below_drewN | apply below_drew1 | refine below_set ?_ GE132.out) | exact HB.out)⟩
end Go.Proofs.Ytbfjbcaabijpfaa.Al

namespace Go.Proofs.Ytbfjbcaabijpfaa.Al
open Go.RowKit Go.Proofs.YtbfjbcaabijpfaaW.PrintWords Go.Proofs.YtbfjbcaabijpfaaW.PrintLast Go.Proofs.YtbfjbcaabijpfaaW.PrintMore
attribute [local go_sem] max2_int min2_int max_two min_two max_three min_three max_four min_four   -- for this text's walks alone
set_option linter.unusedVariables false
set_option linter.unusedSimpArgs false
def pack_put_int.l0 : Nat → List Int → Int → Option (List Int)
 |0, _, _ => none
 |k + 1, x0, x1 => if x1 ≥ 128 then (if x0.length < 140737488355328 then (pack_put_int.l0 k (x0 ++ [(((Int.tmod x1 128) % 256) + 128) % 256]) (wrap64 (Int.tdiv x1 128))) else (none)) else (if x0.length < 140737488355328 then (some (x0 ++ [(x1) % 256])) else (none))
def pack_put_int.f (k : Nat) (l0 : List Int) (a1 : Int) : Option (List Int) := pack_put_int.l0 k l0 a1
set_option maxHeartbeats 8000000 in
set_option maxRecDepth 100000 in
theorem pack_put_int.calls (k : Nat) (P0_ : Nat → Prop) (u9000_ : Value) (l0 : List Int) (a1 : Int) (r : List Int) (w0 w : World) (hB : Below w0.heap.size w0 w) (ho0 : Kd.R (Kd.int .u8) 5 w w0.heap.size P0_ u9000_ l0) (h : pack_put_int.f k l0 a1 = some r) :
  Calls Try.prog 41 #[u9000_, .int .i64 a1] w fun e w' => ∃ v0_ : Value, e = .returned (v0_) ∧ Kd.R (Kd.int .u8) 5 w' w0.heap.size (fun k_ => (P0_ k_ ∨ w.heap.size ≤ k_)) v0_ r ∧ Below w0.heap.size w0 w' ∧ Kept w w' (fun k_ => P0_ k_) := by
 have HO0 := Aside0.mk (show Kd.R (Kd.int .u8) 5 w w0.heap.size (fun k_ => (P0_ k_ ∨ w.heap.size ≤ k_)) u9000_ l0 from Kd.R_mono ho0 (fun k_ hk => (.inl hk)))
 have HK := Aside0.mk (Kept.refl w (fun k_ => P0_ k_))
 have HW0 := Aside0.mk hB.size
 have HB := Aside0.mk hB
 clear hB
 have H : (pack_put_int.l0 k l0 a1) = some r := h
 clear h
 have H' := Aside0.mk H
 clear H
 go_enter Try.func41, Try.ntmps41
 go_wp2
 go_loopg [0, 1] k (fun kq v0 v1 w' => ∃ (x0_1 : List Int) (x1_1 : Int), v1 = .int .i64 x1_1 ∧ Aside0 (pack_put_int.l0 kq x0_1 x1_1 = some r) ∧ Aside0 (kq ≤ k) ∧ Aside0 (Kd.R (Kd.int .u8) 5 w' w0.heap.size (fun k_ => (P0_ k_ ∨ w.heap.size ≤ k_)) v0 x0_1) ∧ Aside0 (Kept w w' (fun k_ => P0_ k_)) ∧ Aside0 (Below w0.heap.size w0 w'))
 case atStart => exact ⟨(l0), (a1), (by first | rfl | (simp; done) | (simp [*]; done)), H', ⟨Nat.le_refl _⟩, ⟨by (with_reducible repeat (first | apply Kd.R_alloc | apply Kd.R_drewN | apply Kd.R_drew)); exact HO0.out⟩, ⟨by repeat (first | (with_reducible first | exact HK.out | apply Kept.alloc | apply Kept.drewN | apply Kept.drew) | exact HK.out)⟩, ⟨by repeat (first | (with_reducible first | exact HB.out | apply below_alloc | apply pw_below_drewN | apply below_drew1) | exact HB.out)⟩⟩
 case round =>
  clear H'
  try clear p2
  obtain ⟨x0_1, x1_1, rfl, HA, HK1, HO_0, HK, HB⟩ := hrel
  cases gk with
  |zero => exact absurd HA.out (by simp [pack_put_int.l0])
  |succ k1 =>
   have H := HA.out
   clear HA
   simp only [pack_put_int.l0] at H
   by_cases c3 : x1_1 ≥ 128
   ·rw [if_pos c3] at H
    have c3b0 : decide (128 ≤ x1_1) = true := decide_eq_true c3
    clear c3
    by_cases c4 : x0_1.length < 140737488355328
    ·rw [if_pos c4] at H
     have LMc4 := Aside0.mk c4
     clear c4
     obtain ⟨y136, hy136⟩ : ∃ y_ : List Int, y_ = (x0_1 ++ [(((Int.tmod x1_1 128) % 256) + 128) % 256]) := ⟨_, rfl⟩
     replace H : (pack_put_int.l0 k1 y136 (wrap64 (Int.tdiv x1_1 128))) = some r := by first | (rw [hy136]; with_reducible exact H) | (have H2_ := (Option.bind_some _ _).symm.trans H; rw [hy136]; with_reducible exact H2_) | (have H2_ := (Option.bind_some _ _).symm.trans H; with_reducible exact H2_) | with_reducible exact H | (rw [hy136]; exact H) | exact H
     have Ny136 := Aside0.mk (show y136 = (x0_1 ++ [((Int.tmod x1_1 128) + 128) % 256]) from by rw [hy136]; simp only [ByteArray.size_append, Int.natCast_add, Int.emod_add_emod])
     clear hy136
     have H' := Aside0.mk H
     clear H
     go_wp2_with (first | ((with_reducible refine gate_builtin (b := .append) (xs := #[.tmp 9, .tmp 14]) rfl ?_); at_builtin; refine Kd.R_append (Kd.int .u8) (w0 := w0) w0.heap.size rfl (.tmp 9) (.tmp 14) 67 5 (.int .u8 0) 1 rfl Try.underlying67 info5 rfl (by decide) (by omega) u0 x0_1 (((Int.tmod x1_1 128) + 128) % 256) [.int .u8 (((Int.tmod x1_1 128) + 128) % 256)] (fun k_ => (P0_ k_ ∨ w.heap.size ≤ k_)) (fun _ => False) rfl rfl ?aP (fun _ hk => hk.elim) ?aF ?aO ?aB ?aS ?aL ?_; (case aP => exact rfl); (case aB => exact (by repeat (first | (with_reducible first | exact HB.out | apply below_alloc | apply pw_below_drewN | apply below_drew1) | exact HB.out))); (case aF => exact (fun k_ hk => (.inr (Nat.le_trans (by first | exact HK.out.1 | exact (show Kept w _ (fun k_ => P0_ k_) from by repeat (first | (with_reducible first | exact HK.out | apply Kept.alloc | apply Kept.drewN | apply Kept.drew) | exact HK.out)).1) hk)))); (case aO => exact (by (with_reducible repeat (first | apply Kd.R_alloc | apply Kd.R_drewN | apply Kd.R_drew)); exact HO_0.out)); (case aS => exact (below_size (by repeat (first | (with_reducible first | exact HB.out | apply below_alloc | apply pw_below_drewN | apply below_drew1) | exact HB.out)))); (case aL => have := LMc4.out; omega); intro v137 w5 ho hb hg hat; rw [← Ny136.out] at ho; have n0_ := Aside0.mk (hb); have n1_ := Aside0.mk (Kept.of_grown (S := (fun k_ => P0_ k_)) hg (by repeat (first | (with_reducible first | exact HK.out | apply Kept.alloc | apply Kept.drewN | apply Kept.drew) | exact HK.out)) (fun k_ e_ => (HO_0.out.1 k_ e_))); have n2_ := Aside0.mk (ho); clear HB; clear HK; clear HO_0; have HB := n0_; have HK := n1_; have HO138 := n2_; clear n0_ n1_ n2_; clear ho hb hg hat))
     go_roundg k1
     case measure => have := HK1.out; omega
     case rel => exact ⟨(y136), (wrap64 (Int.tdiv x1_1 128)), (by first | rfl | (simp; done) | (simp [*]; done)), H', ⟨by have := HK1.out; omega⟩, ⟨by (with_reducible repeat (first | apply Kd.R_alloc | apply Kd.R_drewN | apply Kd.R_drew)); exact HO138.out⟩, ⟨by repeat (first | (with_reducible first | exact HK.out | apply Kept.alloc | apply Kept.drewN | apply Kept.drew) | exact HK.out)⟩, ⟨by repeat (first | (with_reducible first | exact HB.out | apply below_alloc | apply pw_below_drewN | apply below_drew1) | exact HB.out)⟩⟩
    ·rw [if_neg c4] at H
     exact absurd H (by simp)
   ·rw [if_neg c3] at H
    have c3b0 : decide (128 ≤ x1_1) = false := decide_eq_false c3
    clear c3
    by_cases c6 : x0_1.length < 140737488355328
    ·rw [if_pos c6] at H
     have LMc6 := Aside0.mk c6
     clear c6
     obtain ⟨y139, hy139⟩ : ∃ y_ : List Int, y_ = (x0_1 ++ [(x1_1) % 256]) := ⟨_, rfl⟩
     replace H : (some y139) = some r := by first | (rw [hy139]; with_reducible exact H) | (have H2_ := (Option.bind_some _ _).symm.trans H; rw [hy139]; with_reducible exact H2_) | (have H2_ := (Option.bind_some _ _).symm.trans H; with_reducible exact H2_) | with_reducible exact H | (rw [hy139]; exact H) | exact H
     have Ny139 := Aside0.mk hy139
     clear hy139
     obtain rfl := Option.some.inj H
     go_wp2_with (first | ((with_reducible refine gate_builtin (b := .append) (xs := #[.tmp 16, .tmp 19]) rfl ?_); at_builtin; refine Kd.R_append (Kd.int .u8) (w0 := w0) w0.heap.size rfl (.tmp 16) (.tmp 19) 67 5 (.int .u8 0) 1 rfl Try.underlying67 info5 rfl (by decide) (by omega) u0 x0_1 ((x1_1) % 256) [.int .u8 ((x1_1) % 256)] (fun k_ => (P0_ k_ ∨ w.heap.size ≤ k_)) (fun _ => False) rfl rfl ?aP (fun _ hk => hk.elim) ?aF ?aO ?aB ?aS ?aL ?_; (case aP => exact rfl); (case aB => exact (by repeat (first | (with_reducible first | exact HB.out | apply below_alloc | apply pw_below_drewN | apply below_drew1) | exact HB.out))); (case aF => exact (fun k_ hk => (.inr (Nat.le_trans (by first | exact HK.out.1 | exact (show Kept w _ (fun k_ => P0_ k_) from by repeat (first | (with_reducible first | exact HK.out | apply Kept.alloc | apply Kept.drewN | apply Kept.drew) | exact HK.out)).1) hk)))); (case aO => exact (by (with_reducible repeat (first | apply Kd.R_alloc | apply Kd.R_drewN | apply Kd.R_drew)); exact HO_0.out)); (case aS => exact (below_size (by repeat (first | (with_reducible first | exact HB.out | apply below_alloc | apply pw_below_drewN | apply below_drew1) | exact HB.out)))); (case aL => have := LMc6.out; omega); intro v140 w7 ho hb hg hat; rw [← Ny139.out] at ho; have n0_ := Aside0.mk (hb); have n1_ := Aside0.mk (Kept.of_grown (S := (fun k_ => P0_ k_)) hg (by repeat (first | (with_reducible first | exact HK.out | apply Kept.alloc | apply Kept.drewN | apply Kept.drew) | exact HK.out)) (fun k_ e_ => (HO_0.out.1 k_ e_))); have n2_ := Aside0.mk (ho); clear HB; clear HK; clear HO_0; have HB := n0_; have HK := n1_; have HO141 := n2_; clear n0_ n1_ n2_; clear ho hb hg hat))
     go_ret
     exact ⟨_, by first | rfl | (simp [errW_none, errW_some] <;> rfl) | (simp [*, errW_none, errW_some] <;> rfl), by (with_reducible repeat (first | apply Kd.R_alloc | apply Kd.R_drewN | apply Kd.R_drew)); exact HO141.out, by repeat (first | (with_reducible first | exact HB.out | apply below_alloc | apply pw_below_drewN | apply below_drew1) | exact HB.out), by repeat (first | (with_reducible first | exact HK.out | apply Kept.alloc | apply Kept.drewN | apply Kept.drew) | exact HK.out)⟩
    ·rw [if_neg c6] at H
     exact absurd H (by simp)
end Go.Proofs.Ytbfjbcaabijpfaa.Al

namespace Go.Proofs.Ytbfjbcaabijpfaa.Al
open Go.RowKit Go.Proofs.YtbfjbcaabijpfaaW.PrintWords Go.Proofs.YtbfjbcaabijpfaaW.PrintLast Go.Proofs.YtbfjbcaabijpfaaW.PrintMore
attribute [local go_sem] max2_int min2_int max_two min_two max_three min_three max_four min_four   -- for this text's walks alone
set_option linter.unusedVariables false
set_option linter.unusedSimpArgs false
def pack_put_uint64.l0 : Nat → List Int → Int → Option (List Int)
 |0, _, _ => none
 |k + 1, x0, x1 => if x1 ≥ 128 then (if x0.length < 140737488355328 then (pack_put_uint64.l0 k (x0 ++ [(((Int.tmod x1 128) % 256) + 128) % 256]) (IntKind.u64.wrap (Int.tdiv x1 128))) else (none)) else (if x0.length < 140737488355328 then (some (x0 ++ [(x1) % 256])) else (none))
def pack_put_uint64.f (k : Nat) (l0 : List Int) (a1 : Int) : Option (List Int) := pack_put_uint64.l0 k l0 a1
set_option maxHeartbeats 8000000 in
set_option maxRecDepth 100000 in
theorem pack_put_uint64.calls (k : Nat) (P0_ : Nat → Prop) (u9000_ : Value) (l0 : List Int) (a1 : Int) (r : List Int) (w0 w : World) (hB : Below w0.heap.size w0 w) (ho0 : Kd.R (Kd.int .u8) 5 w w0.heap.size P0_ u9000_ l0) (h : pack_put_uint64.f k l0 a1 = some r) :
  Calls Try.prog 51 #[u9000_, .int .u64 a1] w fun e w' => ∃ v0_ : Value, e = .returned (v0_) ∧ Kd.R (Kd.int .u8) 5 w' w0.heap.size (fun k_ => (P0_ k_ ∨ w.heap.size ≤ k_)) v0_ r ∧ Below w0.heap.size w0 w' ∧ Kept w w' (fun k_ => P0_ k_) := by
 have HO0 := Aside0.mk (show Kd.R (Kd.int .u8) 5 w w0.heap.size (fun k_ => (P0_ k_ ∨ w.heap.size ≤ k_)) u9000_ l0 from Kd.R_mono ho0 (fun k_ hk => (.inl hk)))
 have HK := Aside0.mk (Kept.refl w (fun k_ => P0_ k_))
 have HW0 := Aside0.mk hB.size
 have HB := Aside0.mk hB
 clear hB
 have H : (pack_put_uint64.l0 k l0 a1) = some r := h
 clear h
 have H' := Aside0.mk H
 clear H
 go_enter Try.func51, Try.ntmps51
 go_wp2
 go_loopg [0, 1] k (fun kq v0 v1 w' => ∃ (x0_1 : List Int) (x1_1 : Int), v1 = .int .u64 x1_1 ∧ Aside0 (pack_put_uint64.l0 kq x0_1 x1_1 = some r) ∧ Aside0 (kq ≤ k) ∧ Aside0 (Kd.R (Kd.int .u8) 5 w' w0.heap.size (fun k_ => (P0_ k_ ∨ w.heap.size ≤ k_)) v0 x0_1) ∧ Aside0 (Kept w w' (fun k_ => P0_ k_)) ∧ Aside0 (Below w0.heap.size w0 w'))
 case atStart => exact ⟨(l0), (a1), (by first | rfl | (simp; done) | (simp [*]; done)), H', ⟨Nat.le_refl _⟩, ⟨by (with_reducible repeat (first | apply Kd.R_alloc | apply Kd.R_drewN | apply Kd.R_drew)); exact HO0.out⟩, ⟨by repeat (first | (with_reducible first | exact HK.out | apply Kept.alloc | apply Kept.drewN | apply Kept.drew) | exact HK.out)⟩, ⟨by repeat (first | (with_reducible first | exact HB.out | apply below_alloc | apply pw_below_drewN | apply below_drew1) | exact HB.out)⟩⟩
 case round =>
  clear H'
  try clear p2
  obtain ⟨x0_1, x1_1, rfl, HA, HK1, HO_0, HK, HB⟩ := hrel
  cases gk with
  |zero => exact absurd HA.out (by simp [pack_put_uint64.l0])
  |succ k1 =>
   have H := HA.out
   clear HA
   simp only [pack_put_uint64.l0] at H
   by_cases c3 : x1_1 ≥ 128
   ·rw [if_pos c3] at H
    have c3b0 : decide (128 ≤ x1_1) = true := decide_eq_true c3
    clear c3
    by_cases c4 : x0_1.length < 140737488355328
    ·rw [if_pos c4] at H
     have LMc4 := Aside0.mk c4
     clear c4
     obtain ⟨y142, hy142⟩ : ∃ y_ : List Int, y_ = (x0_1 ++ [(((Int.tmod x1_1 128) % 256) + 128) % 256]) := ⟨_, rfl⟩
     replace H : (pack_put_uint64.l0 k1 y142 (IntKind.u64.wrap (Int.tdiv x1_1 128))) = some r := by first | (rw [hy142]; with_reducible exact H) | (have H2_ := (Option.bind_some _ _).symm.trans H; rw [hy142]; with_reducible exact H2_) | (have H2_ := (Option.bind_some _ _).symm.trans H; with_reducible exact H2_) | with_reducible exact H | (rw [hy142]; exact H) | exact H
     have Ny142 := Aside0.mk (show y142 = (x0_1 ++ [((Int.tmod x1_1 128) + 128) % 256]) from by rw [hy142]; simp only [ByteArray.size_append, Int.natCast_add, Int.emod_add_emod])
     clear hy142
     have H' := Aside0.mk H
     clear H
     go_wp2_with (first | ((with_reducible refine gate_builtin (b := .append) (xs := #[.tmp 9, .tmp 14]) rfl ?_); at_builtin; refine Kd.R_append (Kd.int .u8) (w0 := w0) w0.heap.size rfl (.tmp 9) (.tmp 14) 67 5 (.int .u8 0) 1 rfl Try.underlying67 info5 rfl (by decide) (by omega) u0 x0_1 (((Int.tmod x1_1 128) + 128) % 256) [.int .u8 (((Int.tmod x1_1 128) + 128) % 256)] (fun k_ => (P0_ k_ ∨ w.heap.size ≤ k_)) (fun _ => False) rfl rfl ?aP (fun _ hk => hk.elim) ?aF ?aO ?aB ?aS ?aL ?_; (case aP => exact rfl); (case aB => exact (by repeat (first | (with_reducible first | exact HB.out | apply below_alloc | apply pw_below_drewN | apply below_drew1) | exact HB.out))); (case aF => exact (fun k_ hk => (.inr (Nat.le_trans (by first | exact HK.out.1 | exact (show Kept w _ (fun k_ => P0_ k_) from by repeat (first | (with_reducible first | exact HK.out | apply Kept.alloc | apply Kept.drewN | apply Kept.drew) | exact HK.out)).1) hk)))); (case aO => exact (by (with_reducible repeat (first | apply Kd.R_alloc | apply Kd.R_drewN | apply Kd.R_drew)); exact HO_0.out)); (case aS => exact (below_size (by repeat (first | (with_reducible first | exact HB.out | apply below_alloc | apply pw_below_drewN | apply below_drew1) | exact HB.out)))); (case aL => have := LMc4.out; omega); intro v143 w5 ho hb hg hat; rw [← Ny142.out] at ho; have n0_ := Aside0.mk (hb); have n1_ := Aside0.mk (Kept.of_grown (S := (fun k_ => P0_ k_)) hg (by repeat (first | (with_reducible first | exact HK.out | apply Kept.alloc | apply Kept.drewN | apply Kept.drew) | exact HK.out)) (fun k_ e_ => (HO_0.out.1 k_ e_))); have n2_ := Aside0.mk (ho); clear HB; clear HK; clear HO_0; have HB := n0_; have HK := n1_; have HO144 := n2_; clear n0_ n1_ n2_; clear ho hb hg hat))
     go_roundg k1
     case measure => have := HK1.out; omega
     case rel => exact ⟨(y142), (IntKind.u64.wrap (Int.tdiv x1_1 128)), (by first | rfl | (simp; done) | (simp [*]; done)), H', ⟨by have := HK1.out; omega⟩, ⟨by (with_reducible repeat (first | apply Kd.R_alloc | apply Kd.R_drewN | apply Kd.R_drew)); exact HO144.out⟩, ⟨by repeat (first | (with_reducible first | exact HK.out | apply Kept.alloc | apply Kept.drewN | apply Kept.drew) | exact HK.out)⟩, ⟨by repeat (first | (with_reducible first | exact HB.out | apply below_alloc | apply pw_below_drewN | apply below_drew1) | exact HB.out)⟩⟩
    ·rw [if_neg c4] at H
     exact absurd H (by simp)
   ·rw [if_neg c3] at H
    have c3b0 : decide (128 ≤ x1_1) = false := decide_eq_false c3
    clear c3
    by_cases c6 : x0_1.length < 140737488355328
    ·rw [if_pos c6] at H
     have LMc6 := Aside0.mk c6
     clear c6
     obtain ⟨y145, hy145⟩ : ∃ y_ : List Int, y_ = (x0_1 ++ [(x1_1) % 256]) := ⟨_, rfl⟩
     replace H : (some y145) = some r := by first | (rw [hy145]; with_reducible exact H) | (have H2_ := (Option.bind_some _ _).symm.trans H; rw [hy145]; with_reducible exact H2_) | (have H2_ := (Option.bind_some _ _).symm.trans H; with_reducible exact H2_) | with_reducible exact H | (rw [hy145]; exact H) | exact H
     have Ny145 := Aside0.mk hy145
     clear hy145
     obtain rfl := Option.some.inj H
     go_wp2_with (first | ((with_reducible refine gate_builtin (b := .append) (xs := #[.tmp 16, .tmp 19]) rfl ?_); at_builtin; refine Kd.R_append (Kd.int .u8) (w0 := w0) w0.heap.size rfl (.tmp 16) (.tmp 19) 67 5 (.int .u8 0) 1 rfl Try.underlying67 info5 rfl (by decide) (by omega) u0 x0_1 ((x1_1) % 256) [.int .u8 ((x1_1) % 256)] (fun k_ => (P0_ k_ ∨ w.heap.size ≤ k_)) (fun _ => False) rfl rfl ?aP (fun _ hk => hk.elim) ?aF ?aO ?aB ?aS ?aL ?_; (case aP => exact rfl); (case aB => exact (by repeat (first | (with_reducible first | exact HB.out | apply below_alloc | apply pw_below_drewN | apply below_drew1) | exact HB.out))); (case aF => exact (fun k_ hk => (.inr (Nat.le_trans (by first | exact HK.out.1 | exact (show Kept w _ (fun k_ => P0_ k_) from by repeat (first | (with_reducible first | exact HK.out | apply Kept.alloc | apply Kept.drewN | apply Kept.drew) | exact HK.out)).1) hk)))); (case aO => exact (by (with_reducible repeat (first | apply Kd.R_alloc | apply Kd.R_drewN | apply Kd.R_drew)); exact HO_0.out)); (case aS => exact (below_size (by repeat (first | (with_reducible first | exact HB.out | apply below_alloc | apply pw_below_drewN | apply below_drew1) | exact HB.out)))); (case aL => have := LMc6.out; omega); intro v146 w7 ho hb hg hat; rw [← Ny145.out] at ho; have n0_ := Aside0.mk (hb); have n1_ := Aside0.mk (Kept.of_grown (S := (fun k_ => P0_ k_)) hg (by repeat (first | (with_reducible first | exact HK.out | apply Kept.alloc | apply Kept.drewN | apply Kept.drew) | exact HK.out)) (fun k_ e_ => (HO_0.out.1 k_ e_))); have n2_ := Aside0.mk (ho); clear HB; clear HK; clear HO_0; have HB := n0_; have HK := n1_; have HO147 := n2_; clear n0_ n1_ n2_; clear ho hb hg hat))
     go_ret
     exact ⟨_, by first | rfl | (simp [errW_none, errW_some] <;> rfl) | (simp [*, errW_none, errW_some] <;> rfl), by (with_reducible repeat (first | apply Kd.R_alloc | apply Kd.R_drewN | apply Kd.R_drew)); exact HO147.out, by repeat (first | (with_reducible first | exact HB.out | apply below_alloc | apply pw_below_drewN | apply below_drew1) | exact HB.out), by repeat (first | (with_reducible first | exact HK.out | apply Kept.alloc | apply Kept.drewN | apply Kept.drew) | exact HK.out)⟩
    ·rw [if_neg c6] at H
     exact absurd H (by simp)
end Go.Proofs.Ytbfjbcaabijpfaa.Al

namespace Go.Proofs.Ytbfjbcaabijpfaa.Al
open Go.RowKit Go.Proofs.YtbfjbcaabijpfaaW.PrintWords Go.Proofs.YtbfjbcaabijpfaaW.PrintLast Go.Proofs.YtbfjbcaabijpfaaW.PrintMore
attribute [local go_sem] max2_int min2_int max_two min_two max_three min_three max_four min_four   -- for this text's walks alone
set_option linter.unusedVariables false
set_option linter.unusedSimpArgs false
def pack_signed.f (k : Nat) (l0 : List Int) (a1 : Int) : Option (List Int) := (pack_put_uint64.f k l0 (Go.bits .xor .u64 (IntKind.u64.wrap ((IntKind.u64.wrap (a1)) * 2)) (IntKind.u64.wrap (a1 / 9223372036854775808)))).bind fun t148 => (some t148)
set_option maxHeartbeats 8000000 in
set_option maxRecDepth 100000 in
theorem pack_signed.calls (k : Nat) (P0_ : Nat → Prop) (u9000_ : Value) (l0 : List Int) (a1 : Int) (r : List Int) (w0 w : World) (hB : Below w0.heap.size w0 w) (ho0 : Kd.R (Kd.int .u8) 5 w w0.heap.size P0_ u9000_ l0) (h : pack_signed.f k l0 a1 = some r) :
  Calls Try.prog 42 #[u9000_, .int .i64 a1] w fun e w' => ∃ v0_ : Value, e = .returned (v0_) ∧ Kd.R (Kd.int .u8) 5 w' w0.heap.size (fun k_ => (P0_ k_ ∨ w.heap.size ≤ k_)) v0_ r ∧ Below w0.heap.size w0 w' ∧ Kept w w' (fun k_ => P0_ k_) := by
 have HO0 := Aside0.mk (show Kd.R (Kd.int .u8) 5 w w0.heap.size (fun k_ => (P0_ k_ ∨ w.heap.size ≤ k_)) u9000_ l0 from Kd.R_mono ho0 (fun k_ hk => (.inl hk)))
 have HK := Aside0.mk (Kept.refl w (fun k_ => P0_ k_))
 have HW0 := Aside0.mk hB.size
 have HB := Aside0.mk hB
 clear hB
 have H : ((pack_put_uint64.f k l0 (Go.bits .xor .u64 (IntKind.u64.wrap ((IntKind.u64.wrap (a1)) * 2)) (IntKind.u64.wrap (a1 / 9223372036854775808)))).bind fun t148 => (some t148)) = some r := h
 clear h
 replace H := Option.bind_eq_some_iff.mp H
 obtain ⟨t148, A30, H⟩ := H
 replace H : (some t148) = some r := H
 have A3 := Aside0.mk A30
 clear A30
 obtain rfl := Option.some.inj H
 obtain ⟨Ao4, co4, eo4⟩ := Kd.R_slice HO0.out
 subst eo4
 go_enter Try.func42, Try.ntmps42
 go_wp2_with (first | ((with_reducible refine gate_callee (f := 51) rfl ?_); refine goesL_ (some 13) rfl rfl Try.func51 (by kernel_rfl) rfl #[.slice Ao4 l0.length co4, .int .u64 (Go.bits .xor .u64 (IntKind.u64.wrap ((IntKind.u64.wrap (a1)) * 2)) (IntKind.u64.wrap (a1 / 9223372036854775808)))] rfl (by (try simp only [List.map_toArray, List.map_cons, List.map_nil]); first | done | rfl | (simp only [List.length_drop, List.length_take]; rfl)) ?_; (with_reducible refine (pack_put_uint64.calls k (fun k_ => some k_ = (.slice Ao4 l0.length co4 : Value).ownBlock) (.slice Ao4 l0.length co4) l0 (Go.bits .xor .u64 (IntKind.u64.wrap ((IntKind.u64.wrap (a1)) * 2)) (IntKind.u64.wrap (a1 / 9223372036854775808))) t148 w0 _ ?side1 ?side2 A3.out).mono ?_); (case side1 => repeat (first | (with_reducible first | exact HB.out | apply below_alloc | apply pw_below_drewN | apply below_drew1) | exact HB.out)); (case side2 => exact Kd.R_tight rfl HO0.out); rintro e w5 ⟨v149, rfl, ho0, hb, hkp⟩; refine ⟨_, rfl, ?_⟩; have n0_ := Aside0.mk (Kd.R_mono (ok' := fun k_ => (P0_ k_ ∨ w.heap.size ≤ k_)) ho0 (fun k_ hk_ => Or.elim hk_ (fun hs_ => (HO0.out.1 k_ (hs_).symm)) (fun hn_ => (.inr (Nat.le_trans (by first | exact HK.out.1 | exact (show Kept w _ (fun k_ => P0_ k_) from by repeat (first | (with_reducible first | exact HK.out | apply Kept.alloc | apply Kept.drewN | apply Kept.drew) | exact HK.out)).1) hn_))))); have n1_ := Aside0.mk (Kept.then_ (S := (fun k_ => P0_ k_)) (by repeat (first | (with_reducible first | exact HK.out | apply Kept.alloc | apply Kept.drewN | apply Kept.drew) | exact HK.out)) hkp (fun k_ hs_ => (fun e_ => (HO0.out.1 k_ e_.symm)) hs_)); have n2_ := Aside0.mk (hb); clear HK; clear HB; clear HO0; have HO150 := n0_; have HK := n1_; have HB := n2_; clear n0_ n1_ n2_; (try clear hb); (try clear hkp); (try clear ho0)))
 go_ret
 exact ⟨_, by first | rfl | (simp [errW_none, errW_some] <;> rfl) | (simp [*, errW_none, errW_some] <;> rfl), by (with_reducible repeat (first | apply Kd.R_alloc | apply Kd.R_drewN | apply Kd.R_drew)); exact HO150.out, by repeat (first | (with_reducible first | exact HB.out | apply below_alloc | apply pw_below_drewN | apply below_drew1) | exact HB.out), by repeat (first | (with_reducible first | exact HK.out | apply Kept.alloc | apply Kept.drewN | apply Kept.drew) | exact HK.out)⟩
end Go.Proofs.Ytbfjbcaabijpfaa.Al

namespace Go.Proofs.Ytbfjbcaabijpfaa.Al
open Go.RowKit Go.Proofs.YtbfjbcaabijpfaaW.PrintWords Go.Proofs.YtbfjbcaabijpfaaW.PrintLast Go.Proofs.YtbfjbcaabijpfaaW.PrintMore
attribute [local go_sem] max2_int min2_int max_two min_two max_three min_three max_four min_four   -- for this text's walks alone
set_option linter.unusedVariables false
set_option linter.unusedSimpArgs false
mutual
def pack_Encode.l0 : Nat → List Int → List Int → Int → Int → List Int → List ByteArray → Option (ByteArray × Int)
 |0, _, _, _, _, _, _ => none
 |k + 1, x5, x20, x21, x22, x152000, x152001 => if x22 < x21 then (if 0 ≤ x22 then (if x22 < (x20.length : Int) then ((pack_signed.f k x5 (rd x20 x22)).bind fun t157 => (pack_Encode.l0 k t157 x20 x21 (wrap64 (x22 + 1)) x152000 x152001)) else (none)) else (none)) else ((pack_put_int.f k x5 (x152001.length : Int)).bind fun t160 => (pack_Encode.l1 k t160 x152001 (x152001.length : Int) 0))
def pack_Encode.l1 : Nat → List Int → List ByteArray → Int → Int → Option (ByteArray × Int)
 |0, _, _, _, _ => none
 |k + 1, x5, x36, x37, x38 => if x38 < x37 then (if 0 ≤ x38 then (if x38 < (x36.length : Int) then ((pack_put_int.f k x5 ((rdOf ByteArray.empty x36 x38).size : Int)).bind fun t164 => (if t164.length + (rdOf ByteArray.empty x36 x38).size < 140737488355328 then (pack_Encode.l1 k (t164 ++ bytesOf (rdOf ByteArray.empty x36 x38)) x36 x37 (wrap64 (x38 + 1))) else (none))) else (none)) else (none)) else (some (strOfNums x5, 0))
end
def pack_Encode.f (k : Nat) (l0_0 : List Int) (l0_1 : List ByteArray) : Option (ByteArray × Int) := (pack_Check.f k l0_0 l0_1).bind fun t152 => (if t152 = 0 then ((pack_put_int.f k ([] : List Int) (l0_0.length : Int)).bind fun t153 => (pack_Encode.l0 k t153 l0_0 (l0_0.length : Int) 0 l0_0 l0_1)) else (some ((⟨#[]⟩ : ByteArray), t152)))
set_option maxHeartbeats 8000000 in
set_option maxRecDepth 100000 in
theorem pack_Encode.calls (k : Nat) (A0_0 : Option Addr) (c0_0 : Nat) (l0_0 : List Int) (A0_1 : Option Addr) (c0_1 : Nat) (l0_1 : List ByteArray) (r1 : ByteArray) (r2 : Int) (w : World) (hr0_0 : Kd.C (Kd.int .i64) w A0_0 l0_0.length l0_0) (hc0_0 : l0_0.length ≤ c0_0) (hr0_1 : Kd.C Kd.string w A0_1 l0_1.length l0_1) (hc0_1 : l0_1.length ≤ c0_1) (h : pack_Encode.f k l0_0 l0_1 = some (r1, r2)) :
  Calls Try.prog 21 #[.agg #[.slice A0_0 l0_0.length c0_0, .slice A0_1 l0_1.length c0_1]] w fun e w' => e = .returned (.tuple #[.string r1, .int .i64 r2]) ∧ Below w.heap.size w w' := by
 have hu48 := Try.underlying48
 have HR0_0 := Aside0.mk hr0_0
 have HC0_0 := Aside0.mk hc0_0
 clear hr0_0 hc0_0
 have HR0_1 := Aside0.mk hr0_1
 have HC0_1 := Aside0.mk hc0_1
 clear hr0_1 hc0_1
 have HB := Aside0.mk (Below.refl w.heap.size w)
 have H : ((pack_Check.f k l0_0 l0_1).bind fun t152 => (if t152 = 0 then ((pack_put_int.f k ([] : List Int) (l0_0.length : Int)).bind fun t153 => (pack_Encode.l0 k t153 l0_0 (l0_0.length : Int) 0 l0_0 l0_1)) else (some ((⟨#[]⟩ : ByteArray), t152)))) = some (r1, r2) := h
 clear h
 replace H := Option.bind_eq_some_iff.mp H
 obtain ⟨t152, A20, H⟩ := H
 replace H : (if t152 = 0 then ((pack_put_int.f k ([] : List Int) (l0_0.length : Int)).bind fun t153 => (pack_Encode.l0 k t153 l0_0 (l0_0.length : Int) 0 l0_0 l0_1)) else (some ((⟨#[]⟩ : ByteArray), t152))) = some (r1, r2) := H
 have A2 := Aside0.mk A20
 clear A20
 by_cases c3 : t152 = 0
 ·rw [if_pos c3] at H
  have c3b0 : (t152 == 0) = true := beq_iff_eq.mpr c3
  have c3b1 : (t152 != 0) = false := bne_eq_false_iff_eq.mpr c3
  clear c3
  replace H := Option.bind_eq_some_iff.mp H
  obtain ⟨t153, A40, H⟩ := H
  replace H : (pack_Encode.l0 k t153 l0_0 (l0_0.length : Int) 0 l0_0 l0_1) = some (r1, r2) := H
  have A4 := Aside0.mk A40
  clear A40
  have H' := Aside0.mk H
  clear H
  go_enter Try.func21, Try.ntmps21
  go_wp2_with (first | ((with_reducible refine gate_dst (N := 1) rfl ?_); refine box_event ?hg (N := 1) ?hd (cs := #[.slice A0_0 l0_0.length c0_0, .slice A0_1 l0_1.length c0_1]) (t := 48) ?hr ?_; (case hd => rfl); (case hg => rfl); (case hr => first | (go_simp; done) | (go_simp; rfl)); intro gb151 hg w5 hbox hb; have n0_ := Aside0.mk (below_step (by repeat (first | (with_reducible first | exact HB.out | apply below_alloc | apply pw_below_drewN | apply below_drew1) | exact HB.out)) hb); have n1_ := Aside0.mk (hbox); have n2_ := Aside0.mk ((by rw [hg]; exact (below_size (by repeat (first | (with_reducible first | exact HB.out | apply below_alloc | apply pw_below_drewN | apply below_drew1) | exact HB.out))) : w.heap.size ≤ gb151)); have n3_ := Aside0.mk ((by rw [hg]; exact (below_size (by repeat (first | (with_reducible first | exact HB.out | apply below_alloc | apply pw_below_drewN | apply below_drew1) | exact HB.out))) : w.heap.size ≤ gb151)); clear HB; have HB := n0_; have BK151 := n1_; have GW151 := n2_; have GE151 := n3_; clear n0_ n1_ n2_ n3_; clear hb hbox hg; have hcz6_0 : w5.cell? ⟨gb151, 0, none⟩ = some (.slice A0_0 l0_0.length c0_0) := (blk_cell BK151.out 0).trans rfl; have hcz6_1 : w5.cell? ⟨gb151, 1, none⟩ = some (.slice A0_1 l0_1.length c0_1) := (blk_cell BK151.out 1).trans rfl; have hfz6_0 := blk_frozen BK151.out 0; have hfz6_1 := blk_frozen BK151.out 1) | ((with_reducible refine gate_callee (f := 40) rfl ?_); refine goesL_ (some 11) rfl rfl Try.func40 (by kernel_rfl) rfl #[.agg #[.slice A0_0 l0_0.length c0_0, .slice A0_1 l0_1.length c0_1]] rfl (by (try simp only [List.map_toArray, List.map_cons, List.map_nil]); first | done | rfl | (simp only [List.length_drop, List.length_take]; rfl)) ?_; (with_reducible refine (pack_Check.calls k _ _ l0_0 _ _ l0_1 t152 _ ?side1 ?side2 ?side3 ?side4 A2.out).mono ?_); (case side1 => repeat (first | exact (Kd.C_below HR0_0.out HB.out) | (with_reducible refine Kd.C_alloc ?_ _) | (with_reducible refine Kd.C_drewN ?_ _) | (with_reducible refine Kd.C_drew ?_))); (case side2 => exact HC0_0.out); (case side3 => repeat (first | exact (Kd.C_below HR0_1.out HB.out) | (with_reducible refine Kd.C_alloc ?_ _) | (with_reducible refine Kd.C_drewN ?_ _) | (with_reducible refine Kd.C_drew ?_))); (case side4 => exact HC0_1.out); rintro e w7 ⟨rfl, hb⟩; refine ⟨_, rfl, ?_⟩; have n0_ := Aside0.mk (blk_below (g := gb151) (o := .cells #[.slice A0_0 l0_0.length c0_0, .slice A0_1 l0_1.length c0_1] 48 (0, 0)) (by (with_reducible repeat (first | refine blk_drewN ?_ _ | refine blk_drew ?_ | refine blk_alloc ?_ _)); exact BK151.out) hb); have n1_ := Aside0.mk (below_step (by repeat (first | (with_reducible first | exact HB.out | apply below_alloc | apply pw_below_drewN | apply below_drew1 | refine below_set ?_ GE151.out) | exact HB.out)) hb); clear BK151; clear HB; have BK151 := n0_; have HB := n1_; clear n0_ n1_; (try clear hb); (try clear hb2); (try clear hk); (try clear hi); have hcz8_0 : w7.cell? ⟨gb151, 0, none⟩ = some (.slice A0_0 l0_0.length c0_0) := (blk_cell BK151.out 0).trans rfl; have hcz8_1 : w7.cell? ⟨gb151, 1, none⟩ = some (.slice A0_1 l0_1.length c0_1) := (blk_cell BK151.out 1).trans rfl; have hfz8_0 := blk_frozen BK151.out 0; have hfz8_1 := blk_frozen BK151.out 1) | ((with_reducible refine gate_callee (f := 41) rfl ?_); refine goesL_ (some 18) rfl rfl Try.func41 (by kernel_rfl) rfl #[.slice none 0 0, .int .i64 (l0_0.length : Int)] rfl (by (try simp only [List.map_toArray, List.map_cons, List.map_nil]); first | done | rfl | (simp only [List.length_drop, List.length_take]; rfl)) ?_; (refine (pack_put_int.calls k (fun k_ => some k_ = (.slice none 0 0 : Value).ownBlock) (.slice none 0 0) ([] : List Int) (l0_0.length : Int) t153 w _ ?side1 ?side2 A4.out).mono ?_); (case side1 => repeat (first | (with_reducible first | exact HB.out | apply below_alloc | apply pw_below_drewN | apply below_drew1 | refine below_set ?_ GE151.out) | exact HB.out)); (case side2 => exact Kd.R_nil _ _ _ _ _); rintro e w9 ⟨v154, rfl, ho0, hb, hkp⟩; refine ⟨_, rfl, ?_⟩; have n0_ := Aside0.mk (blk_kept (by (with_reducible repeat (first | refine blk_drewN ?_ _ | refine blk_drew ?_ | refine blk_alloc ?_ _)); exact BK151.out) hkp (fun hs_ => (fun e_ => by simp [Value.ownBlock] at e_) hs_)); have n1_ := Aside0.mk (Kd.R_mono (ok' := fun k_ => True) ho0 (fun k_ hk_ => trivial)); have n2_ := Aside0.mk (hb); clear BK151; clear HB; have BK151 := n0_; have HO155 := n1_; have HB := n2_; clear n0_ n1_ n2_; (try clear hb); (try clear hkp); (try clear ho0); have hcz10_0 : w9.cell? ⟨gb151, 0, none⟩ = some (.slice A0_0 l0_0.length c0_0) := (blk_cell BK151.out 0).trans rfl; have hcz10_1 : w9.cell? ⟨gb151, 1, none⟩ = some (.slice A0_1 l0_1.length c0_1) := (blk_cell BK151.out 1).trans rfl; have hfz10_0 := blk_frozen BK151.out 0; have hfz10_1 := blk_frozen BK151.out 1))
  go_loopg [5, 22] k (fun kq v5 v22 w' => ∃ (x5_1 : List Int) (x22_1 : Int), v22 = .int .i64 x22_1 ∧ Aside0 (pack_Encode.l0 kq x5_1 l0_0 (l0_0.length : Int) x22_1 l0_0 l0_1 = some (r1, r2)) ∧ Aside0 (kq ≤ k) ∧ Aside0 (Kd.R (Kd.int .u8) 5 w' w.heap.size (fun _ => True) v5 x5_1) ∧ Aside0 (w'.heap[gb151]? = some (.cells #[(.slice A0_0 l0_0.length c0_0), (.slice A0_1 l0_1.length c0_1)] 48 (0, 0))) ∧ Aside0 (Below w.heap.size w w'))
  case atStart => exact ⟨(t153), (0), (by first | rfl | (simp; done) | (simp [*]; done)), H', ⟨Nat.le_refl _⟩, ⟨by (with_reducible repeat (first | apply Kd.R_alloc | apply Kd.R_drewN | apply Kd.R_drew)); exact HO155.out⟩, ⟨by (with_reducible repeat (first | refine blk_drewN ?_ _ | refine blk_drew ?_ | refine blk_alloc ?_ _)); exact BK151.out⟩, ⟨by repeat (first | (with_reducible first | exact HB.out | apply below_alloc | apply pw_below_drewN | apply below_drew1 | refine below_set ?_ GE151.out) | exact HB.out)⟩⟩
  case round =>
   clear H'
   (try clear c2); (try clear p2); (try clear c3); (try clear c3b0); (try clear c3b1); (try clear c4); (try clear hcz10_0); (try clear hcz10_1); (try clear hcz6_0); (try clear hcz6_1); (try clear hcz8_0); (try clear hcz8_1); (try clear hfz10_0); (try clear hfz10_1); (try clear hfz6_0); (try clear hfz6_1); (try clear hfz8_0); (try clear hfz8_1)
   obtain ⟨x5_1, x22_1, rfl, HA, HK1, HO_5, BK151, HB⟩ := hrel
   cases gk with
   |zero => exact absurd HA.out (by simp [pack_Encode.l0])
   |succ k1 =>
    have H := HA.out
    clear HA
    simp only [pack_Encode.l0] at H
    by_cases c11 : x22_1 < (l0_0.length : Int)
    ·rw [if_pos c11] at H
     have c11b0 : decide (x22_1 < (l0_0.length : Int)) = true := decide_eq_true c11
     clear c11
     by_cases c12 : 0 ≤ x22_1
     ·rw [if_pos c12] at H
      have c12b0 : decide (0 ≤ x22_1) = true := decide_eq_true c12
      clear c12
      by_cases c13 : x22_1 < (l0_0.length : Int)
      ·rw [if_pos c13] at H
       have c13b0 : decide (x22_1 < (l0_0.length : Int)) = true := decide_eq_true c13
       clear c13
       replace H := Option.bind_eq_some_iff.mp H
       obtain ⟨t157, A140, H⟩ := H
       replace H : (pack_Encode.l0 k1 t157 l0_0 (l0_0.length : Int) (wrap64 (x22_1 + 1)) l0_0 l0_1) = some (r1, r2) := H
       have A14 := Aside0.mk A140
       clear A140
       have H' := Aside0.mk H
       clear H
       have p156 : 0 ≤ (x22_1 : Int) := of_decide_eq_true (by first | (with_reducible assumption) | assumption)
       have q156 : x22_1 < (l0_0.length : Int) := of_decide_eq_true (by first | (with_reducible assumption) | assumption)
       obtain ⟨ad156, e156, hx156_0⟩ := Kd.at_int HR0_0.out x22_1 p156 q156
       cases e156
       replace hx156_0 := (HB.out.cell (World.block_lt_of_cell? w _ hx156_0)).trans hx156_0
       replace p156 := eq_true p156
       replace q156 := eq_true q156
       obtain ⟨Ao15, co15, eo15⟩ := Kd.R_slice HO_5.out
       subst eo15
       go_wp2_with (first | ((with_reducible refine gate_callee (f := 42) rfl ?_); refine goesL_ (some 28) rfl rfl Try.func42 (by kernel_rfl) rfl #[.slice Ao15 x5_1.length co15, .int .i64 (rd l0_0 x22_1)] rfl (by (try simp only [List.map_toArray, List.map_cons, List.map_nil]); first | done | rfl | (simp only [List.length_drop, List.length_take]; rfl)) ?_; (with_reducible refine (pack_signed.calls k1 (fun k_ => some k_ = (.slice Ao15 x5_1.length co15 : Value).ownBlock) (.slice Ao15 x5_1.length co15) x5_1 (rd l0_0 x22_1) t157 w _ ?side1 ?side2 A14.out).mono ?_); (case side1 => repeat (first | (with_reducible first | exact HB.out | apply below_alloc | apply pw_below_drewN | apply below_drew1 | refine below_set ?_ GE151.out) | exact HB.out)); (case side2 => exact Kd.R_tight rfl HO_5.out); rintro e w16 ⟨v158, rfl, ho0, hb, hkp⟩; refine ⟨_, rfl, ?_⟩; have n0_ := Aside0.mk (blk_kept (by (with_reducible repeat (first | refine blk_drewN ?_ _ | refine blk_drew ?_ | refine blk_alloc ?_ _)); exact BK151.out) hkp (fun hs_ => (fun e_ => (Kd.R_ne HO_5.out BK151.out (by decide)) e_) hs_)); have n1_ := Aside0.mk (Kd.R_mono (ok' := fun k_ => True) ho0 (fun k_ hk_ => trivial)); have n2_ := Aside0.mk (hb); clear BK151; clear HB; clear HO_5; have BK151 := n0_; have HO159 := n1_; have HB := n2_; clear n0_ n1_ n2_; (try clear hb); (try clear hkp); (try clear ho0)))
       go_roundg k1
       case measure => have := HK1.out; omega
       case rel => exact ⟨(t157), (wrap64 (x22_1 + 1)), (by first | rfl | (simp; done) | (simp [*]; done)), H', ⟨by have := HK1.out; omega⟩, ⟨by (with_reducible repeat (first | apply Kd.R_alloc | apply Kd.R_drewN | apply Kd.R_drew)); exact HO159.out⟩, ⟨by (with_reducible repeat (first | refine blk_drewN ?_ _ | refine blk_drew ?_ | refine blk_alloc ?_ _)); exact BK151.out⟩, ⟨by repeat (first | (with_reducible first | exact HB.out | apply below_alloc | apply pw_below_drewN | apply below_drew1 | refine below_set ?_ GE151.out) | exact HB.out)⟩⟩
      ·rw [if_neg c13] at H
       exact absurd H (by simp)
     ·rw [if_neg c12] at H
      exact absurd H (by simp)
    ·rw [if_neg c11] at H
     have c11b0 : decide (x22_1 < (l0_0.length : Int)) = false := decide_eq_false c11
     clear c11
     replace H := Option.bind_eq_some_iff.mp H
     obtain ⟨t160, A170, H⟩ := H
     replace H : (pack_Encode.l1 k1 t160 l0_1 (l0_1.length : Int) 0) = some (r1, r2) := H
     have A17 := Aside0.mk A170
     clear A170
     have H' := Aside0.mk H
     clear H
     obtain ⟨hcz18_0, hfz18_0, hcz18_1, hfz18_1⟩ := cfz2 BK151.out
     obtain ⟨Ao19, co19, eo19⟩ := Kd.R_slice HO_5.out
     subst eo19
     go_wp2_with (first | ((with_reducible refine gate_callee (f := 41) rfl ?_); refine goesL_ (some 34) rfl rfl Try.func41 (by kernel_rfl) rfl #[.slice Ao19 x5_1.length co19, .int .i64 (l0_1.length : Int)] rfl (by (try simp only [List.map_toArray, List.map_cons, List.map_nil]); first | done | rfl | (simp only [List.length_drop, List.length_take]; rfl)) ?_; (with_reducible refine (pack_put_int.calls k1 (fun k_ => some k_ = (.slice Ao19 x5_1.length co19 : Value).ownBlock) (.slice Ao19 x5_1.length co19) x5_1 (l0_1.length : Int) t160 w _ ?side1 ?side2 A17.out).mono ?_); (case side1 => repeat (first | (with_reducible first | exact HB.out | apply below_alloc | apply pw_below_drewN | apply below_drew1 | refine below_set ?_ GE151.out) | exact HB.out)); (case side2 => exact Kd.R_tight rfl HO_5.out); rintro e w20 ⟨v161, rfl, ho0, hb, hkp⟩; refine ⟨_, rfl, ?_⟩; have n0_ := Aside0.mk (blk_kept (by (with_reducible repeat (first | refine blk_drewN ?_ _ | refine blk_drew ?_ | refine blk_alloc ?_ _)); exact BK151.out) hkp (fun hs_ => (fun e_ => (Kd.R_ne HO_5.out BK151.out (by decide)) e_) hs_)); have n1_ := Aside0.mk (Kd.R_mono (ok' := fun k_ => True) ho0 (fun k_ hk_ => trivial)); have n2_ := Aside0.mk (hb); clear BK151; clear HB; clear HO_5; have BK151 := n0_; have HO162 := n1_; have HB := n2_; clear n0_ n1_ n2_; (try clear hb); (try clear hkp); (try clear ho0); have hcz21_0 : w20.cell? ⟨gb151, 0, none⟩ = some (.slice A0_0 l0_0.length c0_0) := (blk_cell BK151.out 0).trans rfl; have hcz21_1 : w20.cell? ⟨gb151, 1, none⟩ = some (.slice A0_1 l0_1.length c0_1) := (blk_cell BK151.out 1).trans rfl; have hfz21_0 := blk_frozen BK151.out 0; have hfz21_1 := blk_frozen BK151.out 1))
     go_loopg [5, 38] k1 (fun kq v5 v38 w' => ∃ (x5_2 : List Int) (x38_2 : Int), v38 = .int .i64 x38_2 ∧ Aside0 (pack_Encode.l1 kq x5_2 l0_1 (l0_1.length : Int) x38_2 = some (r1, r2)) ∧ Aside0 (kq ≤ k1) ∧ Aside0 (Kd.R (Kd.int .u8) 5 w' w.heap.size (fun _ => True) v5 x5_2) ∧ Aside0 (w'.heap[gb151]? = some (.cells #[(.slice A0_0 l0_0.length c0_0), (.slice A0_1 l0_1.length c0_1)] 48 (0, 0))) ∧ Aside0 (Below w.heap.size w w'))
     case atStart => exact ⟨(t160), (0), (by first | rfl | (simp; done) | (simp [*]; done)), H', ⟨Nat.le_refl _⟩, ⟨by (with_reducible repeat (first | apply Kd.R_alloc | apply Kd.R_drewN | apply Kd.R_drew)); exact HO162.out⟩, ⟨by (with_reducible repeat (first | refine blk_drewN ?_ _ | refine blk_drew ?_ | refine blk_alloc ?_ _)); exact BK151.out⟩, ⟨by repeat (first | (with_reducible first | exact HB.out | apply below_alloc | apply pw_below_drewN | apply below_drew1 | refine below_set ?_ GE151.out) | exact HB.out)⟩⟩
     case round =>
      clear H'
      (try clear c1); (try clear p1); (try clear q1); (try clear hx1); (try clear c2); (try clear p2); (try clear c3); (try clear c3b0); (try clear c3b1); (try clear c4); (try clear p6); (try clear c11); (try clear c11b0); (try clear c12); (try clear c12b0); (try clear c13); (try clear c13b0); (try clear p15); (try clear q15); (try clear hx15); (try clear c21); (try clear hcz10_0); (try clear hcz10_1); (try clear hcz18_0); (try clear hcz18_1); (try clear hcz21_0); (try clear hcz21_1); (try clear hcz6_0); (try clear hcz6_1); (try clear hcz8_0); (try clear hcz8_1); (try clear hfz10_0); (try clear hfz10_1); (try clear hfz18_0); (try clear hfz18_1); (try clear hfz21_0); (try clear hfz21_1); (try clear hfz6_0); (try clear hfz6_1); (try clear hfz8_0); (try clear hfz8_1); (try clear hx156_0); (try clear p156); (try clear p2); (try clear q156)
      obtain ⟨x5_2, x38_2, rfl, HA, HK2, HO_5, BK151, HB⟩ := hrel
      cases gk with
      |zero => exact absurd HA.out (by simp [pack_Encode.l1])
      |succ k2 =>
       have H := HA.out
       clear HA
       simp only [pack_Encode.l1] at H
       by_cases c22 : x38_2 < (l0_1.length : Int)
       ·rw [if_pos c22] at H
        have c22b0 : decide (x38_2 < (l0_1.length : Int)) = true := decide_eq_true c22
        clear c22
        by_cases c23 : 0 ≤ x38_2
        ·rw [if_pos c23] at H
         have c23b0 : decide (0 ≤ x38_2) = true := decide_eq_true c23
         clear c23
         by_cases c24 : x38_2 < (l0_1.length : Int)
         ·rw [if_pos c24] at H
          have c24b0 : decide (x38_2 < (l0_1.length : Int)) = true := decide_eq_true c24
          clear c24
          replace H := Option.bind_eq_some_iff.mp H
          obtain ⟨t164, A250, H⟩ := H
          replace H : (if t164.length + (rdOf ByteArray.empty l0_1 x38_2).size < 140737488355328 then (pack_Encode.l1 k2 (t164 ++ bytesOf (rdOf ByteArray.empty l0_1 x38_2)) l0_1 (l0_1.length : Int) (wrap64 (x38_2 + 1))) else (none)) = some (r1, r2) := H
          have A25 := Aside0.mk A250
          clear A250
          by_cases c26 : t164.length + (rdOf ByteArray.empty l0_1 x38_2).size < 140737488355328
          ·rw [if_pos c26] at H
           have LMc26 := Aside0.mk c26
           clear c26
           obtain ⟨y167, hy167⟩ : ∃ y_ : List Int, y_ = (t164 ++ bytesOf (rdOf ByteArray.empty l0_1 x38_2)) := ⟨_, rfl⟩
           replace H : (pack_Encode.l1 k2 y167 l0_1 (l0_1.length : Int) (wrap64 (x38_2 + 1))) = some (r1, r2) := by first | (rw [hy167]; with_reducible exact H) | (have H2_ := (Option.bind_some _ _).symm.trans H; rw [hy167]; with_reducible exact H2_) | (have H2_ := (Option.bind_some _ _).symm.trans H; with_reducible exact H2_) | with_reducible exact H | (rw [hy167]; exact H) | exact H
           have Ny167 := Aside0.mk hy167
           clear hy167
           have H' := Aside0.mk H
           clear H
           have p163 : 0 ≤ (x38_2 : Int) := of_decide_eq_true (by first | (with_reducible assumption) | assumption)
           have q163 : x38_2 < (l0_1.length : Int) := of_decide_eq_true (by first | (with_reducible assumption) | assumption)
           obtain ⟨ad163, e163, hx163_0⟩ := Kd.at_string HR0_1.out x38_2 p163 q163
           cases e163
           replace hx163_0 := (HB.out.cell (World.block_lt_of_cell? w _ hx163_0)).trans hx163_0
           replace p163 := eq_true p163
           replace q163 := eq_true q163
           obtain ⟨Ao27, co27, eo27⟩ := Kd.R_slice HO_5.out
           subst eo27
           go_wp2_with (first | ((with_reducible refine gate_callee (f := 41) rfl ?_); refine goesL_ (some 45) rfl rfl Try.func41 (by kernel_rfl) rfl #[.slice Ao27 x5_2.length co27, .int .i64 ((rdOf ByteArray.empty l0_1 x38_2).size : Int)] rfl (by (try simp only [List.map_toArray, List.map_cons, List.map_nil]); first | done | rfl | (simp only [List.length_drop, List.length_take]; rfl)) ?_; (with_reducible refine (pack_put_int.calls k2 (fun k_ => some k_ = (.slice Ao27 x5_2.length co27 : Value).ownBlock) (.slice Ao27 x5_2.length co27) x5_2 ((rdOf ByteArray.empty l0_1 x38_2).size : Int) t164 w _ ?side1 ?side2 A25.out).mono ?_); (case side1 => repeat (first | (with_reducible first | exact HB.out | apply below_alloc | apply pw_below_drewN | apply below_drew1 | refine below_set ?_ GE151.out) | exact HB.out)); (case side2 => exact Kd.R_tight rfl HO_5.out); rintro e w28 ⟨v165, rfl, ho0, hb, hkp⟩; refine ⟨_, rfl, ?_⟩; have n0_ := Aside0.mk (blk_kept (by (with_reducible repeat (first | refine blk_drewN ?_ _ | refine blk_drew ?_ | refine blk_alloc ?_ _)); exact BK151.out) hkp (fun hs_ => (fun e_ => (Kd.R_ne HO_5.out BK151.out (by decide)) e_) hs_)); have n1_ := Aside0.mk (Kd.R_mono (ok' := fun k_ => True) ho0 (fun k_ hk_ => trivial)); have n2_ := Aside0.mk (hb); clear BK151; clear HB; clear HO_5; have BK151 := n0_; have HO166 := n1_; have HB := n2_; clear n0_ n1_ n2_; (try clear hb); (try clear hkp); (try clear ho0)) | (at_builtin; refine print_append_str (w0 := w) w.heap.size rfl (.tmp 45) _ 67 9 5 rfl Try.underlying67 Try.underlying9 info5 v165 t164 (rdOf ByteArray.empty l0_1 x38_2) rfl rfl ?aO ?aB ?aS ?aL ?_; (case aB => exact (by repeat (first | (with_reducible first | exact HB.out | apply below_alloc | apply pw_below_drewN | apply below_drew1 | refine below_set ?_ GE151.out) | exact HB.out))); (case aO => exact (Kd.own_of_R (by (with_reducible repeat (first | apply Kd.R_alloc | apply Kd.R_drewN | apply Kd.R_drew)); exact HO166.out))); (case aS => exact (below_size (by repeat (first | (with_reducible first | exact HB.out | apply below_alloc | apply pw_below_drewN | apply below_drew1 | refine below_set ?_ GE151.out) | exact HB.out)))); (case aL => have := LMc26.out; omega); intro v168 w29 ho0 hb hg; have ho := Kd.R_of_own (h1 := fun _ => rfl) (ok := fun _ => True) ho0 (fun _ _ => trivial); clear ho0; have hat := True.intro; rw [← Ny167.out] at ho; change Kd.R (Kd.int .u8) 5 w29 w.heap.size (fun _ => True) v168 y167 at ho; have n0_ := Aside0.mk (blk_grown (g := gb151) (o := .cells #[.slice A0_0 l0_0.length c0_0, .slice (some ad163) l0_1.length c0_1] 48 (0, 0)) (by (with_reducible repeat (first | refine blk_drewN ?_ _ | refine blk_drew ?_ | refine blk_alloc ?_ _)); exact BK151.out) hg (Kd.R_ne HO166.out BK151.out (by decide))); have n1_ := Aside0.mk (hb); have n2_ := Aside0.mk (ho); clear BK151; clear HB; clear HO166; have BK151 := n0_; have HB := n1_; have HO169 := n2_; clear n0_ n1_ n2_; clear ho hb hg hat))
           go_roundg k2
           case measure => have := HK1.out; have := HK2.out; omega
           case rel => exact ⟨(y167), (wrap64 (x38_2 + 1)), (by first | rfl | (simp; done) | (simp [*]; done)), H', ⟨by have := HK1.out; have := HK2.out; omega⟩, ⟨by (with_reducible repeat (first | apply Kd.R_alloc | apply Kd.R_drewN | apply Kd.R_drew)); exact HO169.out⟩, ⟨by (with_reducible repeat (first | refine blk_drewN ?_ _ | refine blk_drew ?_ | refine blk_alloc ?_ _)); exact BK151.out⟩, ⟨by repeat (first | (with_reducible first | exact HB.out | apply below_alloc | apply pw_below_drewN | apply below_drew1 | refine below_set ?_ GE151.out) | exact HB.out)⟩⟩
          ·rw [if_neg c26] at H
           exact absurd H (by simp)
         ·rw [if_neg c24] at H
          exact absurd H (by simp)
        ·rw [if_neg c23] at H
         exact absurd H (by simp)
       ·rw [if_neg c22] at H
        have c22b0 : decide (x38_2 < (l0_1.length : Int)) = false := decide_eq_false c22
        clear c22
        simp only [Option.some.injEq, Prod.mk.injEq] at H
        obtain ⟨rfl, rfl⟩ := H
        have hcv30 := own_string (P := Try.prog) Try.underlying67 Try.underlying5 Try.underlying9 (Kd.own_of_R HO_5.out)
        go_wp2
        go_ret2
        exact ⟨by first | rfl | (simp [errW_none, errW_some] <;> rfl) | (simp [*, errW_none, errW_some] <;> rfl), by repeat (first | (with_reducible first | exact HB.out | apply below_alloc | apply pw_below_drewN | apply below_drew1 | refine below_set ?_ GE151.out) | exact HB.out)⟩
 ·rw [if_neg c3] at H
  have c3b0 : (t152 == 0) = false := beq_eq_false_iff_ne.mpr c3
  have c3b1 : (t152 != 0) = true := bne_iff_ne.mpr c3
  simp only [Option.some.injEq, Prod.mk.injEq] at H
  obtain ⟨rfl, rfl⟩ := H
  go_enter Try.func21, Try.ntmps21
  go_wp2_with (first | ((with_reducible refine gate_dst (N := 1) rfl ?_); refine box_event ?hg (N := 1) ?hd (cs := #[.slice A0_0 l0_0.length c0_0, .slice A0_1 l0_1.length c0_1]) (t := 48) ?hr ?_; (case hd => rfl); (case hg => rfl); (case hr => first | (go_simp; done) | (go_simp; rfl)); intro gb151 hg w31 hbox hb; have n0_ := Aside0.mk (below_step (by repeat (first | (with_reducible first | exact HB.out | apply below_alloc | apply pw_below_drewN | apply below_drew1) | exact HB.out)) hb); have n1_ := Aside0.mk (hbox); have n2_ := Aside0.mk ((by rw [hg]; exact (below_size (by repeat (first | (with_reducible first | exact HB.out | apply below_alloc | apply pw_below_drewN | apply below_drew1) | exact HB.out))) : w.heap.size ≤ gb151)); have n3_ := Aside0.mk ((by rw [hg]; exact (below_size (by repeat (first | (with_reducible first | exact HB.out | apply below_alloc | apply pw_below_drewN | apply below_drew1) | exact HB.out))) : w.heap.size ≤ gb151)); clear HB; have HB := n0_; have BK151 := n1_; have GW151 := n2_; have GE151 := n3_; clear n0_ n1_ n2_ n3_; clear hb hbox hg; have hcz32_0 : w31.cell? ⟨gb151, 0, none⟩ = some (.slice A0_0 l0_0.length c0_0) := (blk_cell BK151.out 0).trans rfl; have hcz32_1 : w31.cell? ⟨gb151, 1, none⟩ = some (.slice A0_1 l0_1.length c0_1) := (blk_cell BK151.out 1).trans rfl; have hfz32_0 := blk_frozen BK151.out 0; have hfz32_1 := blk_frozen BK151.out 1) | ((with_reducible refine gate_callee (f := 40) rfl ?_); refine goesL_ (some 11) rfl rfl Try.func40 (by kernel_rfl) rfl #[.agg #[.slice A0_0 l0_0.length c0_0, .slice A0_1 l0_1.length c0_1]] rfl (by (try simp only [List.map_toArray, List.map_cons, List.map_nil]); first | done | rfl | (simp only [List.length_drop, List.length_take]; rfl)) ?_; (with_reducible refine (pack_Check.calls k _ _ l0_0 _ _ l0_1 t152 _ ?side1 ?side2 ?side3 ?side4 A2.out).mono ?_); (case side1 => repeat (first | exact (Kd.C_below HR0_0.out HB.out) | (with_reducible refine Kd.C_alloc ?_ _) | (with_reducible refine Kd.C_drewN ?_ _) | (with_reducible refine Kd.C_drew ?_))); (case side2 => exact HC0_0.out); (case side3 => repeat (first | exact (Kd.C_below HR0_1.out HB.out) | (with_reducible refine Kd.C_alloc ?_ _) | (with_reducible refine Kd.C_drewN ?_ _) | (with_reducible refine Kd.C_drew ?_))); (case side4 => exact HC0_1.out); rintro e w33 ⟨rfl, hb⟩; refine ⟨_, rfl, ?_⟩; have n0_ := Aside0.mk (blk_below (g := gb151) (o := .cells #[.slice A0_0 l0_0.length c0_0, .slice A0_1 l0_1.length c0_1] 48 (0, 0)) (by (with_reducible repeat (first | refine blk_drewN ?_ _ | refine blk_drew ?_ | refine blk_alloc ?_ _)); exact BK151.out) hb); have n1_ := Aside0.mk (below_step (by repeat (first | (with_reducible first | exact HB.out | apply below_alloc | apply pw_below_drewN | apply below_drew1 | refine below_set ?_ GE151.out) | exact HB.out)) hb); clear BK151; clear HB; have BK151 := n0_; have HB := n1_; clear n0_ n1_; (try clear hb); (try clear hb2); (try clear hk); (try clear hi)))
  go_ret2
  exact ⟨by first | rfl | (simp [errW_none, errW_some] <;> rfl) | (simp [*, errW_none, errW_some] <;> rfl), by repeat (first | (with_reducible first | exact HB.out | apply below_alloc | apply pw_below_drewN | apply below_drew1 | refine below_set ?_ GE151.out) | exact HB.out)⟩
end Go.Proofs.Ytbfjbcaabijpfaa.Al

namespace Go.Proofs.RegT
open Go
section
variable {P : Program} {ops : Array Oper} {Q : Exit → Act → World → Prop} {md : Region.Mode} {S : World → Prop} {s : Nat}
/-- Whatever order is picked; S holds behind each operation, as long as s has not come up. -/
def AnyT (P : Program) (md : Region.Mode) (ops : Array Oper) (Q : Exit → Act → World → Prop) (S : World → Prop) (s : Nat) : Nat → Array Bool → Act → World → Prop
 |0, l, a, w => Region.ready md ops l = [] ∧ Q .normal a w
 |f + 1, l, a, w => (Region.ready md ops l = [] → Q .normal a w) ∧ ∀ i ∈ Region.ready md ops l, wpOp P ops Q i (fun a' w' => ((l.setIfInBounds i true).getD s true = false → S w') ∧ AnyT P md ops Q S s f (l.setIfInBounds i true) a' w') a w
theorem AnyT.any : ∀ {f : Nat} {l : Array Bool} {a : Act} {w : World}, AnyT P md ops Q S s f l a w → wpAny P md ops Q f l a w
 |0, _, _, _, h => h
 |_ + 1, _, _, _, h => ⟨h.1, fun i hi => wpOp_mono (fun _ _ h' => AnyT.any h'.2) (h.2 i hi)⟩
/-- What waits for i, through others too. -/
def behind (md : Region.Mode) (ops : Array Oper) (i : Nat) : List Nat :=
 (List.range ops.size).foldl (fun acc c => if (i :: acc).any (fun d => Region.waitsFor md ops c d) then c :: acc else acc) []
/-- s waits for i, through others too, and none of these has come up. -/
def tillB (md : Region.Mode) (ops : Array Oper) (s : Nat) (l : Array Bool) (i : Nat) : Bool :=
 (behind md ops i).contains s && (behind md ops i).all fun c => (i :: behind md ops i).any (fun d => Region.waitsFor md ops c d) && (decide (c ≠ i) && !l.getD c true)
theorem AnyT.first {i : Nat} {oi : Oper} {v : Value} (hi : ops[i]? = some oi) (hsel : ∀ (j : Nat) (o : Oper) cs b, ops[j]? = some o → o.op ≠ .select cs b) (hQ : ∀ c a w, Q (.panic c) (a.put oi.dst v) w → Q (.panic c) a w) {ch : List Nat} (hsc : s ∈ ch) (hw : ∀ c ∈ ch, c ≠ i ∧ ∃ d ∈ i :: ch, Region.waitsFor md ops c d = true) :
  ∀ (f : Nat) (l : Array Bool) (a : Act) (w : World), (∀ j oj, ops[j]? = some oj → j ≠ i → l.getD j true = false → (∀ e ∈ oj.after, Region.binds md e = true → e.on ≠ i) → oi.apart ops oj = true) → i ∈ Region.ready md ops l → YieldsIf P ops S oi v a → S w → (∀ c ∈ ch, l.getD c true = false) → AnyT P md ops Q S s f (l.setIfInBounds i true) (a.put oi.dst v) w → AnyT P md ops Q S s (f + 1) l a w := by
 intro f
 induction f with
 |zero =>
  intro l a w _ hr hy hS hl H
  refine ⟨fun h => (by rw [h] at hr; cases hr), fun j hj => ?_⟩
  by_cases hji : j = i
  ·subst hji
   exact hy.wpOp hi hS ⟨fun _ => hS, H⟩
  ·have h1 := ready_mono hj hji
   rw [H.1] at h1
   cases h1
 |succ f ih =>
  intro l a w hfree hr hy hS hl H
  refine ⟨fun h => (by rw [h] at hr; cases hr), fun j hj => ?_⟩
  by_cases hji : j = i
  ·subst hji
   exact hy.wpOp hi hS ⟨fun _ => hS, H⟩
  ·have h1 := H.2 j (ready_mono hj hji)
   obtain ⟨hun, oj, hoj, hall⟩ := mem_ready.1 hj
   have hno' : ∀ d, l.getD d true = false → ∀ e ∈ oj.after, Region.binds md e = true → e.on ≠ d := fun d h3 e he hb heq => by
    have h2 := hall e he hb
    rw [heq] at h2
    rcases Nat.lt_or_ge d l.size with h' | h'
    ·simp [h'] at h2 h3
     rw [h3] at h2
     cases h2
    ·simp [Array.getElem?_eq_none h'] at h2
   have hno := hno' i (mem_ready.1 hr).1
   have hjc : j ∉ ch := by
    intro hjc
    obtain ⟨_, d, hd, hwd⟩ := hw j hjc
    obtain ⟨o2, ho2, e, he, hb, hon⟩ := Region.waitsFor_spec hwd
    rw [hoj] at ho2
    cases ho2
    rcases List.mem_cons.1 hd with rfl | hd
    ·exact hno e he hb hon
    ·exact hno' d (hl d hd) e he hb hon
   have hjs : j ≠ s := fun h => hjc (h ▸ hsc)
   have hsi : s ≠ i := (hw s hsc).1
   have h2 := wpOp_putIf hoj (hfree j oj hoj hji hun hno) (fun cs b => hsel i oi cs b hi) (fun cs b => hsel j oj cs b hoj) hQ hy h1
   refine wpOp_mono (fun a' w' h3 => ?_) h2
   obtain ⟨hy', hs', hA⟩ := h3
   rw [getD_set_ne true hjs, getD_set_ne true (Ne.symm hsi)] at hs'
   refine ⟨fun h4 => hs' (by rwa [getD_set_ne true hjs] at h4), ?_⟩
   refine ih (l.setIfInBounds j true) a' w' (fun k ok hk hki hun' hno' => hfree k ok hk hki ?_ hno') (ready_mono hr (Ne.symm hji)) hy' (hs' (hl s hsc)) (fun c hc => (getD_set_ne true (fun h : j = c => hjc (by rw [h]; exact hc))).trans (hl c hc)) ?_
   ·by_cases hjk : j = k
    ·subst hjk; exact hun
    ·rwa [getD_set_ne true hjk] at hun'
   ·rw [Array.setIfInBounds_comm _ _ hji]
    exact hA
theorem AnyT.take {i : Nat} {oi : Oper} {v : Value} {f : Nat} {l : Array Bool} {a : Act} {w : World} (hi : ops[i]? = some oi) (hs : Region.noSelect ops = true) (hf : Region.free md ops l i = true) (hr : (Region.ready md ops l).contains i = true) (hw : tillB md ops s l i = true)
  (hQ : ∀ c a w, Q (.panic c) (a.put oi.dst v) w → Q (.panic c) a w) (hy : YieldsIf P ops S oi v a) (hS : S w) (h : AnyT P md ops Q S s f (l.setIfInBounds i true) (a.put oi.dst v) w) : AnyT P md ops Q S s (f + 1) l a w := by
 unfold tillB at hw
 rw [Bool.and_eq_true, List.all_eq_true] at hw
 obtain ⟨h1, h2⟩ := hw
 have h3 : ∀ c ∈ behind md ops i, (i :: behind md ops i).any (fun d => Region.waitsFor md ops c d) = true ∧ c ≠ i ∧ l.getD c true = false := fun c hc => by
  have := h2 c hc
  rw [Bool.and_eq_true, Bool.and_eq_true] at this
  exact ⟨this.1, by simpa using this.2.1, by simpa using this.2.2⟩
 exact AnyT.first hi (Region.noSelect_spec hs) hQ (ch := behind md ops i) (by simpa using h1) (fun c hc => ⟨(h3 c hc).2.1, by simpa using List.any_eq_true.1 (h3 c hc).1⟩) f l a w (Region.free_spec hi hf) (by simpa using hr) hy hS (fun c hc => (h3 c hc).2.2) h
/-- Each of these comes up next. -/
def AllT (P : Program) (md : Region.Mode) (ops : Array Oper) (Q : Exit → Act → World → Prop) (S : World → Prop) (s f : Nat) (l : Array Bool) (a : Act) (w : World) (rs : List Nat) : Prop :=
 ∀ i ∈ rs, wpOp P ops Q i (fun a' w' => ((l.setIfInBounds i true).getD s true = false → S w') ∧ AnyT P md ops Q S s f (l.setIfInBounds i true) a' w') a w
theorem AllT.nil {f : Nat} {l : Array Bool} {a : Act} {w : World} : AllT P md ops Q S s f l a w [] := fun _ h => by cases h
theorem AllT.cons {f : Nat} {l : Array Bool} {a : Act} {w : World} {i : Nat} {o : Oper} {rs : List Nat} (ho : ops[i]? = some o)
  (h : ∀ K' : Act → World → Prop, Shut (∀ a w, ((l.setIfInBounds i true).getD s true = false → S w) → AnyT P md ops Q S s f (l.setIfInBounds i true) a w → K' a w) → if Region.wanted o (yielded ops a.tmps) = true then Oper.wp P o a w K' Q else K' (a.put o.dst undef) w)
  (hs : AllT P md ops Q S s f l a w rs) : AllT P md ops Q S s f l a w (i :: rs) := fun j hj => by
 rcases List.mem_cons.1 hj with rfl | hj
 ·exact wpOp_step ho (fun K' hK => h K' (fun a w hS hW => hK a w ⟨hS, hW⟩))
 ·exact hs j hj
theorem AnyT.ready {rs : List Nat} {f : Nat} {l : Array Bool} {a : Act} {w : World} (hr : Region.ready md ops l = rs) (hne : rs ≠ []) (h : AllT P md ops Q S s f l a w rs) : AnyT P md ops Q S s (f + 1) l a w :=
 ⟨fun h0 => absurd (hr ▸ h0) hne, hr ▸ h⟩
theorem AnyT.done {l : Array Bool} {a : Act} {w : World} (hr : Region.ready md ops l = []) (h : Q .normal a w) : ∀ f, AnyT P md ops Q S s f l a w
 |0 => ⟨hr, h⟩
 |_ + 1 => ⟨fun _ => h, by rw [hr]; simp⟩
theorem rt_begin {id : Nat} {a : Act} {w : World} (hm : P.follows .mixedOrders = true) (h : AnyT P .any ops Q S s ops.size (Array.replicate ops.size false) a w.drew) : (Code.region id ops true).wp P Q a w :=
 wp_region_any hm h.any
end
theorem ofDrop {ops : Array Oper} {i : Nat} {oi : Oper} {rest : List Oper} (h : ops.toList.drop i = oi :: rest) : ops[i]? = some oi := by
 have h1 : (ops.toList.drop i)[0]? = some oi := by rw [h]; rfl
 rw [List.getElem?_drop] at h1
 simpa using h1
section
variable {P : Program} {ops : Array Oper} {Q : Exit → Act → World → Prop} {md : Region.Mode} {S : World → Prop} {s : Nat}
theorem AnyT.taken {i : Nat} {oi : Oper} {rest : List Oper} {v : Value} {f : Nat} {l : Array Bool} {a : Act} {w : World} (hi : ops.toList.drop i = oi :: rest) (hs : Region.noSelect ops = true) (hf : Region.free md ops l i = true) (hr : (Region.ready md ops l).contains i = true) (hw : tillB md ops s l i = true)
  (hQ : ∀ c a w, Q (.panic c) (a.put oi.dst v) w → Q (.panic c) a w) (hy : YieldsIf P ops S oi v a) (hS : S w) (h : AnyT P md ops Q S s f (l.setIfInBounds i true) (a.put oi.dst v) w) : AnyT P md ops Q S s (f + 1) l a w :=
 AnyT.take (ofDrop hi) hs hf hr hw hQ hy hS h
theorem AllT.step {f : Nat} {l : Array Bool} {a : Act} {w : World} {i : Nat} {o : Oper} {rest : List Oper} {rs : List Nat} (ho : ops.toList.drop i = o :: rest)
  (h : ∀ K' : Act → World → Prop, Shut (∀ a w, ((l.setIfInBounds i true).getD s true = false → S w) → AnyT P md ops Q S s f (l.setIfInBounds i true) a w → K' a w) → if Region.wanted o (yielded ops a.tmps) = true then Oper.wp P o a w K' Q else K' (a.put o.dst undef) w)
  (hs : AllT P md ops Q S s f l a w rs) : AllT P md ops Q S s f l a w (i :: rs) := AllT.cons (ofDrop ho) h hs
/-- s has come up: S need not be shown. -/
theorem past {l : Array Bool} {p : Prop} (h : l.getD s true = true) : l.getD s true = false → p := fun h' => by rw [h] at h'; cases h'
end
end Go.Proofs.RegT
