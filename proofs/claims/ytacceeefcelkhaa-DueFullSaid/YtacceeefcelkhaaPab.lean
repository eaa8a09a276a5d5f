/- What the laws stand on, in one text: functions of the program by their contracts, and the plain mathematics behind them (3 of them). -/
import Derived.Test.YtacceeefcelkhaaPaa
import Derived.Test.YtacceeefcelkhaaWWords
import Derived.Test.YtacceeefcelkhaaRows
import Derived.ChangeArms
import Derived.ChangeShapes
import Derived.SizedLaws

/- The chapter's example. -/
namespace Go.Proofs.Ytacceeefcelkhaa.Al
open Go.RowKit Go.Proofs.Ytacceeefcelkhaa.DueHeap Go.Proofs.Ytacceeefcelkhaa.DueSpec Go.Proofs.YtacceeefcelkhaaW.PrintWords Go.Proofs.YtacceeefcelkhaaW.PrintLast Go.Proofs.YtacceeefcelkhaaW.PrintMore
set_option linter.unusedVariables false
set_option linter.unusedSimpArgs false
set_option maxHeartbeats 8000000 in
set_option maxRecDepth 100000 in
theorem works_calls (w : World) : Calls Try.prog 8 #[] w fun e w' => e = .returned (.bool true) ∧ Below w.heap.size w w' := by
 have hu57 := Try.underlying57
 have hu58 := Try.underlying58
 have hu23 := Try.underlying23
 go_enter Try.func8, Try.ntmps8
 go_wp2_with (first | (go_at_call 7; refine (z_new w w (Below.refl _ _)).mono ?_; rintro e w1 ⟨gq, rfl, hq, hb⟩; have HQ1 := Aside0.mk hq; clear hq hb) | ((with_reducible refine gate_dst (N := 18) rfl ?_); refine slice_event ?hg (N := 18) ?hd (cs := #[.int .i64 5, .int .i64 1, .int .i64 7, .int .i64 3, .int .i64 1, .int .i64 8, .int .i64 4, .int .i64 9, .int .i64 9]) (t := 57) (n := 3) ?hr ?_; (case hd => rfl); (case hg => rfl); (case hr => first | (go_simp; done) | (go_simp; rfl)); intro gs hg w2 hbox hb; have HX2 := Aside0.mk hbox; have HQ2 := Aside0.mk (HQ1.out.below hb); have HGE := Aside0.mk hg; clear hg hbox hb))
 go_loopw [20] (fun v20 wr => Aside0 (wr.heap[gs]? = some (.cells #[.int .i64 5, .int .i64 1, .int .i64 7, .int .i64 3, .int .i64 1, .int .i64 8, .int .i64 4, .int .i64 9, .int .i64 9] 57 (0, 0))) ∧ ((v20 = .int .i64 0 ∧ Aside0 (QZ w wr gq 0 qw0)) ∨ (v20 = .int .i64 1 ∧ Aside0 (QZ w wr gq 1 qw1)) ∨ (v20 = .int .i64 2 ∧ Aside0 (QZ w wr gq 2 qw2)) ∨ (v20 = .int .i64 3 ∧ Aside0 (QZ w wr gq 3 qw3)))) (fun v20 _ => 3 - (intOf v20).toNat)
 case atStart => exact ⟨HX2, .inl ⟨rfl, HQ2⟩⟩
 case round =>
  obtain ⟨HX, hrel⟩ := hrel
  clear HX2 HQ2 HQ1 HGE
  rcases hrel with ⟨rfl, HQ⟩ | ⟨rfl, HQ⟩ | ⟨rfl, HQ⟩ | ⟨rfl, HQ⟩
  ·have x0 : wr.cell? ⟨gs, 0, none⟩ = some (.int .i64 5) := (blk_cell HX.out 0).trans rfl
   have x1 : wr.cell? ⟨gs, 1, none⟩ = some (.int .i64 1) := (blk_cell HX.out 1).trans rfl
   have x2 : wr.cell? ⟨gs, 2, none⟩ = some (.int .i64 7) := (blk_cell HX.out 2).trans rfl
   go_upto_region 7 with ((with_reducible refine gate_dst (N := 3) rfl ?_); refine box_event ?hg (N := 3) ?hd (cs := #[.int .i64 0, .int .i64 0, .int .i64 0]) (t := 57) ?hr ?_; (case hd => rfl); (case hg => rfl); (case hr => first | (go_simp; done) | (go_simp; rfl)); intro gb hgb wb hbox hb; have BX := Aside0.mk hbox; have HGE := Aside0.mk (show wr.heap.size ≤ gb from Nat.le_of_eq hgb.symm); have HBb := Aside0.mk hb; have hz0 := (blk_cell hbox 0).trans rfl; have hzf0 := blk_frozen hbox 0; have hz1 := (blk_cell hbox 1).trans rfl; have hzf1 := blk_frozen hbox 1; have hz2 := (blk_cell hbox 2).trans rfl; have hzf2 := blk_frozen hbox 2; clear hgb hbox hb)
   have HB3 : Aside0 (Below wr.heap.size wr (((wb.setCell ⟨gb, 0, none⟩ (.int .i64 5)).setCell ⟨gb, 1, none⟩ (.int .i64 1)).setCell ⟨gb, 2, none⟩ (.int .i64 7))) := ⟨below_set (below_set (below_set HBb.out HGE.out) HGE.out) HGE.out⟩
   have BX3 : Aside0 (((((wb.setCell ⟨gb, 0, none⟩ (.int .i64 5)).setCell ⟨gb, 1, none⟩ (.int .i64 1)).setCell ⟨gb, 2, none⟩ (.int .i64 7)) : World).heap[gb]? = some (.cells #[.int .i64 5, .int .i64 1, .int .i64 7] 57 (0, 0))) := ⟨by
    have := blk_set (blk_set (blk_set BX.out 0 (.int .i64 5)) 1 (.int .i64 1)) 2 (.int .i64 7)
    simpa using this⟩
   clear hz0 hzf0 hz1 hzf1 hz2 hzf2 x0 x1 x2
   generalize (((wb.setCell ⟨gb, 0, none⟩ (.int .i64 5)).setCell ⟨gb, 1, none⟩ (.int .i64 1)).setCell ⟨gb, 2, none⟩ (.int .i64 7)) = W3 at HB3 BX3 ⊢
   have HQ3 := Aside0.mk (HQ.out.below HB3.out)
   have HX3 := Aside0.mk (blk_below HX.out HB3.out)
   have y0 : W3.cell? ⟨gb, 0, none⟩ = some (.int .i64 5) := (blk_cell BX3.out 0).trans rfl
   have y1 : W3.cell? ⟨gb, 1, none⟩ = some (.int .i64 1) := (blk_cell BX3.out 1).trans rfl
   have y2 : W3.cell? ⟨gb, 2, none⟩ = some (.int .i64 7) := (blk_cell BX3.out 2).trans rfl
   go_wp2_with (go_at_call 10; refine (zk_put HQ3.out HX3.out 5 1 7 (by decide)).mono ?_; rintro e w4 ⟨rfl, hq, hx⟩; rw [wk1] at hq ⊢; have HQ4 := Aside0.mk hq; have HX4 := Aside0.mk hx; clear hq hx y0 y1 y2)
   go_roundw
   case rel => exact ⟨HX4, .inr (.inl ⟨rfl, HQ4⟩)⟩
   case measure => decide
  ·have x0 : wr.cell? ⟨gs, 3, none⟩ = some (.int .i64 3) := (blk_cell HX.out 3).trans rfl
   have x1 : wr.cell? ⟨gs, 4, none⟩ = some (.int .i64 1) := (blk_cell HX.out 4).trans rfl
   have x2 : wr.cell? ⟨gs, 5, none⟩ = some (.int .i64 8) := (blk_cell HX.out 5).trans rfl
   go_upto_region 7 with ((with_reducible refine gate_dst (N := 3) rfl ?_); refine box_event ?hg (N := 3) ?hd (cs := #[.int .i64 0, .int .i64 0, .int .i64 0]) (t := 57) ?hr ?_; (case hd => rfl); (case hg => rfl); (case hr => first | (go_simp; done) | (go_simp; rfl)); intro gb hgb wb hbox hb; have BX := Aside0.mk hbox; have HGE := Aside0.mk (show wr.heap.size ≤ gb from Nat.le_of_eq hgb.symm); have HBb := Aside0.mk hb; have hz0 := (blk_cell hbox 0).trans rfl; have hzf0 := blk_frozen hbox 0; have hz1 := (blk_cell hbox 1).trans rfl; have hzf1 := blk_frozen hbox 1; have hz2 := (blk_cell hbox 2).trans rfl; have hzf2 := blk_frozen hbox 2; clear hgb hbox hb)
   have HB3 : Aside0 (Below wr.heap.size wr (((wb.setCell ⟨gb, 0, none⟩ (.int .i64 3)).setCell ⟨gb, 1, none⟩ (.int .i64 1)).setCell ⟨gb, 2, none⟩ (.int .i64 8))) := ⟨below_set (below_set (below_set HBb.out HGE.out) HGE.out) HGE.out⟩
   have BX3 : Aside0 (((((wb.setCell ⟨gb, 0, none⟩ (.int .i64 3)).setCell ⟨gb, 1, none⟩ (.int .i64 1)).setCell ⟨gb, 2, none⟩ (.int .i64 8)) : World).heap[gb]? = some (.cells #[.int .i64 3, .int .i64 1, .int .i64 8] 57 (0, 0))) := ⟨by
    have := blk_set (blk_set (blk_set BX.out 0 (.int .i64 3)) 1 (.int .i64 1)) 2 (.int .i64 8)
    simpa using this⟩
   clear hz0 hzf0 hz1 hzf1 hz2 hzf2 x0 x1 x2
   generalize (((wb.setCell ⟨gb, 0, none⟩ (.int .i64 3)).setCell ⟨gb, 1, none⟩ (.int .i64 1)).setCell ⟨gb, 2, none⟩ (.int .i64 8)) = W3 at HB3 BX3 ⊢
   have HQ3 := Aside0.mk (HQ.out.below HB3.out)
   have HX3 := Aside0.mk (blk_below HX.out HB3.out)
   have y0 : W3.cell? ⟨gb, 0, none⟩ = some (.int .i64 3) := (blk_cell BX3.out 0).trans rfl
   have y1 : W3.cell? ⟨gb, 1, none⟩ = some (.int .i64 1) := (blk_cell BX3.out 1).trans rfl
   have y2 : W3.cell? ⟨gb, 2, none⟩ = some (.int .i64 8) := (blk_cell BX3.out 2).trans rfl
   go_wp2_with (go_at_call 10; refine (zk_put HQ3.out HX3.out 3 1 8 (by decide)).mono ?_; rintro e w4 ⟨rfl, hq, hx⟩; rw [wk2] at hq ⊢; have HQ4 := Aside0.mk hq; have HX4 := Aside0.mk hx; clear hq hx y0 y1 y2)
   go_roundw
   case rel => exact ⟨HX4, .inr (.inr (.inl ⟨rfl, HQ4⟩))⟩
   case measure => decide
  ·have x0 : wr.cell? ⟨gs, 6, none⟩ = some (.int .i64 4) := (blk_cell HX.out 6).trans rfl
   have x1 : wr.cell? ⟨gs, 7, none⟩ = some (.int .i64 9) := (blk_cell HX.out 7).trans rfl
   have x2 : wr.cell? ⟨gs, 8, none⟩ = some (.int .i64 9) := (blk_cell HX.out 8).trans rfl
   go_upto_region 7 with ((with_reducible refine gate_dst (N := 3) rfl ?_); refine box_event ?hg (N := 3) ?hd (cs := #[.int .i64 0, .int .i64 0, .int .i64 0]) (t := 57) ?hr ?_; (case hd => rfl); (case hg => rfl); (case hr => first | (go_simp; done) | (go_simp; rfl)); intro gb hgb wb hbox hb; have BX := Aside0.mk hbox; have HGE := Aside0.mk (show wr.heap.size ≤ gb from Nat.le_of_eq hgb.symm); have HBb := Aside0.mk hb; have hz0 := (blk_cell hbox 0).trans rfl; have hzf0 := blk_frozen hbox 0; have hz1 := (blk_cell hbox 1).trans rfl; have hzf1 := blk_frozen hbox 1; have hz2 := (blk_cell hbox 2).trans rfl; have hzf2 := blk_frozen hbox 2; clear hgb hbox hb)
   have HB3 : Aside0 (Below wr.heap.size wr (((wb.setCell ⟨gb, 0, none⟩ (.int .i64 4)).setCell ⟨gb, 1, none⟩ (.int .i64 9)).setCell ⟨gb, 2, none⟩ (.int .i64 9))) := ⟨below_set (below_set (below_set HBb.out HGE.out) HGE.out) HGE.out⟩
   have BX3 : Aside0 (((((wb.setCell ⟨gb, 0, none⟩ (.int .i64 4)).setCell ⟨gb, 1, none⟩ (.int .i64 9)).setCell ⟨gb, 2, none⟩ (.int .i64 9)) : World).heap[gb]? = some (.cells #[.int .i64 4, .int .i64 9, .int .i64 9] 57 (0, 0))) := ⟨by
    have := blk_set (blk_set (blk_set BX.out 0 (.int .i64 4)) 1 (.int .i64 9)) 2 (.int .i64 9)
    simpa using this⟩
   clear hz0 hzf0 hz1 hzf1 hz2 hzf2 x0 x1 x2
   generalize (((wb.setCell ⟨gb, 0, none⟩ (.int .i64 4)).setCell ⟨gb, 1, none⟩ (.int .i64 9)).setCell ⟨gb, 2, none⟩ (.int .i64 9)) = W3 at HB3 BX3 ⊢
   have HQ3 := Aside0.mk (HQ.out.below HB3.out)
   have HX3 := Aside0.mk (blk_below HX.out HB3.out)
   have y0 : W3.cell? ⟨gb, 0, none⟩ = some (.int .i64 4) := (blk_cell BX3.out 0).trans rfl
   have y1 : W3.cell? ⟨gb, 1, none⟩ = some (.int .i64 9) := (blk_cell BX3.out 1).trans rfl
   have y2 : W3.cell? ⟨gb, 2, none⟩ = some (.int .i64 9) := (blk_cell BX3.out 2).trans rfl
   go_wp2_with (go_at_call 10; refine (zk_put HQ3.out HX3.out 4 9 9 (by decide)).mono ?_; rintro e w4 ⟨rfl, hq, hx⟩; rw [wk3] at hq ⊢; have HQ4 := Aside0.mk hq; have HX4 := Aside0.mk hx; clear hq hx y0 y1 y2)
   go_roundw
   case rel => exact ⟨HX4, .inr (.inr (.inr ⟨rfl, HQ4⟩))⟩
   case measure => decide
  ·go_wp2_with (first | (go_at_call 13; (with_reducible refine (z_take HQ.out).mono ?_); rintro e w4 ⟨rfl, hq⟩; rw [wk4] at hq ⊢; have HQ4 := Aside0.mk hq; clear hq) | (go_at_call 12; (with_reducible refine (z_go HQ4.out 5).mono ?_); rintro e w5 ⟨rfl, hq⟩; rw [wk5] at hq ⊢; have HQ5 := Aside0.mk hq; clear hq) | ((with_reducible refine gate_dst (N := 56) rfl ?_); refine slice_event ?hg (N := 56) ?hd (cs := #[.int .i64 9, .int .i64 8, .int .i64 7]) (t := 3) (n := 3) ?hr ?_; (case hd => rfl); (case hg => rfl); (case hr => first | (go_simp; done) | (go_simp; rfl)); intro g9 hg w6 hbox hb; have HX6 := Aside0.mk hbox; have HQ6 := Aside0.mk (HQ5.out.below hb); clear hg hbox hb))
   go_loopw [58] (fun v58 wr => Aside0 (wr.heap[g9]? = some (.cells #[.int .i64 9, .int .i64 8, .int .i64 7] 3 (0, 0))) ∧ ((v58 = .int .i64 0 ∧ Aside0 (QZ w wr gq 3 qw4)) ∨ (v58 = .int .i64 1 ∧ Aside0 (QZ w wr gq 3 qw5)) ∨ (v58 = .int .i64 2 ∧ Aside0 (QZ w wr gq 3 qw6)) ∨ (v58 = .int .i64 3 ∧ Aside0 (QZ w wr gq 3 qw7)))) (fun v58 _ => 3 - (intOf v58).toNat)
   case atStart => exact ⟨HX6, .inl ⟨rfl, HQ6⟩⟩
   case round =>
    obtain ⟨HY, hrel⟩ := hrel
    clear HX6 HQ6 HQ5 HQ4 HQ HX
    rcases hrel with ⟨rfl, HQ⟩ | ⟨rfl, HQ⟩ | ⟨rfl, HQ⟩ | ⟨rfl, HQ⟩
    ·have x0 : wr.cell? ⟨g9, 0, none⟩ = some (.int .i64 9) := (blk_cell HY.out 0).trans rfl
     go_wp2_with (go_at_call 13; refine (zk_take HQ.out HY.out).mono ?_; rintro e w4 ⟨rfl, hq, hx⟩; rw [wk6] at hq ⊢; have HQ4 := Aside0.mk hq; have HX4 := Aside0.mk hx; clear hq hx x0)
     go_roundw
     case rel => exact ⟨HX4, .inr (.inl ⟨rfl, HQ4⟩)⟩
     case measure => decide
    ·have x0 : wr.cell? ⟨g9, 1, none⟩ = some (.int .i64 8) := (blk_cell HY.out 1).trans rfl
     go_wp2_with (go_at_call 13; refine (zk_take HQ.out HY.out).mono ?_; rintro e w4 ⟨rfl, hq, hx⟩; rw [wk7] at hq ⊢; have HQ4 := Aside0.mk hq; have HX4 := Aside0.mk hx; clear hq hx x0)
     go_roundw
     case rel => exact ⟨HX4, .inr (.inr (.inl ⟨rfl, HQ4⟩))⟩
     case measure => decide
    ·have x0 : wr.cell? ⟨g9, 2, none⟩ = some (.int .i64 7) := (blk_cell HY.out 2).trans rfl
     go_wp2_with (go_at_call 13; refine (zk_take HQ.out HY.out).mono ?_; rintro e w4 ⟨rfl, hq, hx⟩; rw [wk8] at hq ⊢; have HQ4 := Aside0.mk hq; have HX4 := Aside0.mk hx; clear hq hx x0)
     go_roundw
     case rel => exact ⟨HX4, .inr (.inr (.inr ⟨rfl, HQ4⟩))⟩
     case measure => decide
    ·go_wp2_with (go_at_call 14; refine (z_len HQ.out).mono ?_; rintro e w4 ⟨rfl, hq⟩; have HQ4 := Aside0.mk hq; clear hq)
     go_ret
     exact ⟨rfl, HQ4.out.bel⟩
end Go.Proofs.Ytacceeefcelkhaa.Al

/- DueFull in plain terms. -/
namespace Go.Proofs.Ytacceeefcelkhaa.DueSpec
set_option linter.unusedVariables false
set_option linter.unusedSimpArgs false
set_option linter.unusedSectionVars false
def oneF (A : Int) (i : Nat) : Tk := ⟨A, i, i, (i : Int) + 1⟩
def Lf (A : Int) (n : Nat) : List Tk := (List.range n).map (oneF A)
def qf (A : Int) (n : Nat) : Qs := ⟨Lf A n, 0, n⟩
theorem Lf_len (A : Int) (n : Nat) : (Lf A n).length = n := by simp [Lf]
theorem Lf_succ (A : Int) (n : Nat) : Lf A (n + 1) = Lf A n ++ [oneF A n] := by simp [Lf, List.range_succ]
theorem Lf_mem {A : Int} {n i : Nat} (h : i < n) : oneF A i ∈ Lf A n := List.mem_map.2 ⟨i, List.mem_range.2 h, rfl⟩
theorem qf_zero (A : Int) : qf A 0 = ⟨[], 0, 0⟩ := rfl
theorem Lf_mem_iff {A : Int} {n : Nat} {y : Tk} (h : y ∈ Lf A n) : ∃ i, i < n ∧ oneF A i = y := by
 obtain ⟨i, hi, e⟩ := List.mem_map.1 h
 exact ⟨i, List.mem_range.1 hi, e⟩
attribute [local irreducible] Lf
section
variable {A : Int} (h0 : 0 ≤ A) (h1 : A < 9)
include h0 h1
theorem full_put {i : Nat} (hi : i < 1024) : putQ (qf A i) A i i = (qf A (i + 1), (i : Int) + 1, 0) := by
 unfold putQ
 rw [if_neg (by omega), if_neg (by show ¬ 1024 ≤ (Lf A i).length; rw [Lf_len]; omega)]
 unfold qf
 rw [Lf_succ]
 rfl
theorem full_no : putQ (qf A 1024) 0 0 0 = (qf A 1024, 0, 2) := by
 unfold putQ
 rw [if_neg (by omega), if_pos (by show 1024 ≤ (Lf A 1024).length; rw [Lf_len]; omega)]
theorem full_drop {k m : Nat} (ho : Ok k (qf A 1024)) (hm : m < 1024) : dropQ (qf A 1024) ((m : Int) + 1) = (⟨(Lf A 1024).erase (oneF A m), 0, 1024⟩, 0) := dropQ_of ho (x := oneF A m) (Lf_mem hm)
theorem full_go : goQ (qf A 1024) 9 = (⟨Lf A 1024, 9, 1024⟩, 0) := by
 unfold goQ
 rw [if_neg (by show ¬ ((9 : Int) < 0 ∨ _); omega)]
 rfl
theorem full_take {k : Nat} (ho : Ok k ⟨Lf A 1024, 9, 1024⟩) : takeQ ⟨Lf A 1024, 9, 1024⟩ = (⟨(Lf A 1024).erase (oneF A 1023), 9, 1024⟩, 1023, true) := by
 refine takeQ_of ho (x := oneF A 1023) (Lf_mem (by omega)) (by show A ≤ 9; omega) (fun y hy _ => ?_)
 obtain ⟨i, hi, rfl⟩ := Lf_mem_iff hy
 unfold leU
 rw [urgent_not]
 simp only [oneF]
 omega
omit h0 h1
theorem full_len {m : Nat} (hm : m < 1024) : ((Lf A 1024).erase (oneF A m)).length = 1023 := by
 rw [List.length_erase_of_mem (Lf_mem hm), Lf_len]
theorem room_put {q : Qs} (h : q.L.length = 1023) : putQ q 0 0 0 = (⟨q.L ++ [⟨0, 0, 0, q.put + 1⟩], q.now, q.put + 1⟩, q.put + 1, 0) := by
 unfold putQ
 rw [if_neg (by omega), if_neg (by omega)]
theorem room_no {q : Qs} (h : q.L.length = 1023) : putQ ⟨q.L ++ [⟨0, 0, 0, q.put + 1⟩], q.now, q.put + 1⟩ 0 0 0 = (⟨q.L ++ [⟨0, 0, 0, q.put + 1⟩], q.now, q.put + 1⟩, 0, 2) := by
 unfold putQ
 rw [if_neg (by omega), if_pos (by simp only [List.length_append, List.length_singleton]; omega)]
end
end Go.Proofs.Ytacceeefcelkhaa.DueSpec

/- An argument of any shape that is read: what the walk's contracts ask of it, and its bounds by the row's own reach and by the second form's bulk. -/
namespace Go.Proofs.Ytacceeefcelkhaa.Open
open Go.RowKit Go.Proofs.YtacceeefcelkhaaW.PrintWords

/-- Whatever reads as data of type t is told by d: V always, L where each string and slice is within the reach, m is within the bulk. -/
structure Opens {α : Type} (P : Program) (t : TypeId) (d : Kd α) (V L : α → Prop) (m : α → Nat) : Prop where
 out : ∀ {H : Type} {enc : TypeId × Value → H} {w : World} {base : Nat} {spare : Nat → Bool} {held : Bool} {fuel : Nat} {cs : List Value} {x : DataW H × List MemPlace}, DataW.trod enc P w base spare held fuel t cs = some x →
  ∃ a : α, d.K w a cs ∧ V a ∧ ((DataW.weights P t x.1).all (· ≤ reachBytes) = true → L a) ∧ m a ≤ Rows.uptoBulk x.1

theorem opens_int {P : Program} {t : TypeId} {k : IntKind} (ht : P.underlying t = some (.int k)) : Opens P t (Kd.int k) (fun n => (Lit.int k n).wf = true) (fun _ => True) (fun _ => 1) where
 out h := by
  obtain ⟨n, rfl, rfl, hw⟩ := DataW.trod_int ht h
  exact ⟨n, rfl, hw, fun _ => trivial, Nat.le_refl _⟩
theorem opens_bool {P : Program} {t : TypeId} (ht : P.underlying t = some .bool) : Opens P t Kd.bool (fun _ => True) (fun _ => True) (fun _ => 1) where
 out h := by
  obtain ⟨n, rfl, rfl⟩ := DataW.trod_bool ht h
  exact ⟨n, rfl, trivial, fun _ => trivial, Nat.le_refl _⟩
theorem opens_string {P : Program} {t : TypeId} (ht : P.underlying t = some .string) : Opens P t Kd.string (fun s => s.size ≤ maxLen) (fun s => s.size ≤ 140737488351232) (fun s => s.size + 1) where
 out h := by
  obtain ⟨s, rfl, rfl, hw⟩ := DataW.trod_string ht h
  refine ⟨s, rfl, hw, fun hx => ?_, ?_⟩
  ·simp only [DataW.weights, List.all_cons, List.all_nil, Bool.and_true, decide_eq_true_eq, data_length] at hx
   exact hx
  ·simp [Rows.uptoBulk]

theorem add_add (a : Addr) (m j : Nat) : (a.add m).add j = a.add (m + j) := by
 unfold Addr.add
 by_cases hm : m = 0 <;> by_cases hj : j = 0 <;> simp [hm, hj, Nat.add_assoc]
theorem mapM_some {β γ : Type} {f : β → Option γ} : ∀ {l : List β} {r : List γ}, l.mapM f = some r → r.length = l.length ∧ ∀ i (h : i < l.length), f l[i] = r[i]?
 |[], r, h => by simp at h; subst h; simp
 |b :: l, r, h => by
  rw [List.mapM_cons] at h
  simp only [Option.bind_eq_bind, Option.bind_eq_some_iff, Option.pure_def, Option.some.injEq] at h
  obtain ⟨c, hc, q, hq, rfl⟩ := h
  obtain ⟨hl, hi⟩ := mapM_some hq
  refine ⟨by simp [hl], fun i h => ?_⟩
  cases i with
  |zero => simpa using hc
  |succ i => simpa using hi i (by simpa using h)
theorem cells_get {w : World} {base : Nat} {a : Addr} {n : Nat} {cs : List Value} (h : w.cells? base a n = some cs) : cs.length = n ∧ ∀ i u, cs[i]? = some u → w.cell? (a.add i) = some u := by
 unfold World.cells? at h
 split at h
 ·obtain ⟨hl, hi⟩ := mapM_some h
  simp at hl
  refine ⟨hl, fun i u hu => ?_⟩
  have hlt : i < cs.length := (List.getElem?_eq_some_iff.1 hu).1
  have := hi i (by simp; omega)
  simpa [hu] using this
 ·cases h

theorem list_of {α : Type} {Q : Nat → α → Prop} : ∀ n, (∀ i, i < n → ∃ a, Q i a) → ∃ l : List α, l.length = n ∧ ∀ i a, l[i]? = some a → Q i a
 |0, _ => ⟨[], rfl, fun i a h => by simp at h⟩
 |n + 1, h => by
  obtain ⟨l, hl, hq⟩ := list_of n (fun i hi => h i (by omega))
  obtain ⟨a, ha⟩ := h n (by omega)
  refine ⟨l ++ [a], by simp [hl], fun i b hb => ?_⟩
  by_cases hi : i < n
  ·rw [List.getElem?_append_left (by omega)] at hb
   exact hq i b hb
  ·have hlt := (List.getElem?_eq_some_iff.1 hb).1
   simp at hlt
   obtain rfl : i = n := by omega
   rw [List.getElem?_append_right (by omega), hl] at hb
   simp at hb
   exact hb ▸ ha
theorem all_append {l r : List Nat} {p : Nat → Bool} : (l ++ r).all p = true ↔ l.all p = true ∧ r.all p = true := by rw [List.all_append, Bool.and_eq_true]
theorem weights_all {H : Type} {P : Program} {e : TypeId} {p : Nat → Bool} : ∀ {ds : List (DataW H)}, (DataW.weightsAll P e ds).all p = true → ∀ d ∈ ds, (DataW.weights P e d).all p = true
 |[], _, d, hd => by simp at hd
 |d0 :: ds, h, d, hd => by
  rw [DataW.weightsAll, all_append] at h
  rcases List.mem_cons.1 hd with rfl | hd
  ·exact h.1
  ·exact weights_all h.2 d hd
theorem bulk_all {H α : Type} {m : α → Nat} : ∀ {l : List α} {ds : List (DataW H)}, l.length = ds.length → (∀ (i : Nat) (a : α) (y : DataW H), l[i]? = some a → ds[i]? = some y → m a ≤ Rows.uptoBulk y) → (l.map m).sum ≤ Rows.uptoBulkAll ds
 |[], [], _, _ => by simp [Rows.uptoBulkAll]
 |a :: l, d :: ds, hl, h => by
  have ih := bulk_all (l := l) (ds := ds) (by simpa using hl) (fun i a y h1 h2 => h (i + 1) a y (by simpa using h1) (by simpa using h2))
  have h0 := h 0 a d rfl rfl
  simp only [List.map_cons, List.sum_cons, Rows.uptoBulkAll]
  omega
 |[], _ :: _, hl, _ => by simp at hl
 |_ :: _, [], hl, _ => by simp at hl

theorem opens_slice {α : Type} {P : Program} {t e : TypeId} {d : Kd α} {V L : α → Prop} {m : α → Nat} (q : Nat) (b : Nat) (ht : P.underlying t = some (.slice e)) (hsz : P.cellsOf e = d.sz) (hb : P.bytesOf e = b) (ho : Opens P e d V L m) :
  Opens P t (Kd.slice q d) (fun l => ∀ a ∈ l, V a) (fun l => l.length * b ≤ 140737488351232 ∧ ∀ a ∈ l, L a) (fun l => (l.map m).sum + 1) where
 out {H enc w base spare held fuel cs x} h := by
  rcases DataW.trod_slice ht h with ⟨rfl, rfl⟩ | ⟨ad, len, cap, elems, rest, n, rfl, rfl, rfl, hbase, hlc, hcm, hlen, hel, hsp, hns⟩
  ·exact ⟨[], ⟨none, 0, rfl, Nat.le_refl _, rfl, by simp, fun h => absurd h (by simp)⟩, by simp, fun _ => by simp, by simp [Rows.uptoBulk]⟩
  obtain ⟨l, hl, hq⟩ := list_of (Q := fun i a => (∃ c, c.length = d.sz ∧ d.K w a c ∧ (∀ j u, c[j]? = some u → w.cell? (ad.add (i * d.sz + j)) = some u)) ∧ V a ∧ (∀ y, elems[i]? = some y → ((DataW.weights P e y.1).all (· ≤ reachBytes) = true → L a) ∧ m a ≤ Rows.uptoBulk y.1)) len (by
   intro i hi
   have hy : elems[i]? = some (elems[i]'(by omega)) := List.getElem?_eq_getElem (by omega)
   have h1 := hel i hi
   rw [hy, Option.bind_eq_some_iff] at h1
   obtain ⟨c, hc, hx⟩ := h1
   obtain ⟨a, hK, hV, hL, hm⟩ := ho.out hx
   obtain ⟨hcl, hcc⟩ := cells_get hc
   rw [hsz] at hcl hcc
   refine ⟨a, ⟨c, hcl, hK, fun j u hu => by rw [← add_add]; exact hcc j u hu⟩, hV, fun y hy' => ?_⟩
   rw [hy] at hy'
   obtain rfl := Option.some.inj hy'
   exact ⟨hL, hm⟩)
  have hmax : len ≤ 9223372036854775807 := by unfold maxLen at hcm; omega
  have mem : ∀ a ∈ l, ∃ i, l[i]? = some a := fun a ha => List.mem_iff_getElem?.1 ha
  refine ⟨l, ⟨some ad, cap, by rw [hl], by omega, rfl, by omega, fun _ => ⟨ad, rfl, fun j p hp => ?_⟩⟩, ?_, ?_, ?_⟩
  ·obtain ⟨⟨c, hcl, hK, hcc⟩, _⟩ := hq j p hp
   exact ⟨c, hcl, hK, hcc⟩
  ·intro a ha
   obtain ⟨i, hi⟩ := mem a ha
   exact (hq i a hi).2.1
  ·intro hw
   simp only [DataW.weights, ht, List.all_cons, Bool.and_eq_true, decide_eq_true_eq, all_append, List.length_map, hb] at hw
   obtain ⟨hw1, hw2, _⟩ := hw
   have hw1' : (elems.length + rest.length) * b ≤ 140737488351232 := hw1
   refine ⟨?_, ?_⟩
   ·rw [hl, ← hlen]
    exact Nat.le_trans (Nat.mul_le_mul_right b (Nat.le_add_right _ _)) hw1'
   ·intro a ha
    obtain ⟨i, hi⟩ := mem a ha
    have hlt : i < elems.length := by have := (List.getElem?_eq_some_iff.1 hi).1; omega
    refine ((hq i a hi).2.2 _ (List.getElem?_eq_getElem hlt)).1 (weights_all hw2 _ ?_)
    exact List.mem_map.2 ⟨_, List.getElem_mem hlt, rfl⟩
  ·have hbk : (l.map m).sum ≤ Rows.uptoBulkAll (elems.map (·.1)) := bulk_all (by rw [hl, List.length_map, hlen]) (fun i a y h1 h2 => by
    rw [List.getElem?_map, Option.map_eq_some_iff] at h2
    obtain ⟨z, hz, rfl⟩ := h2
    exact ((hq i a h1).2.2 z hz).2)
   simp only [Rows.uptoBulk]
   omega

/-- The fields of a struct, one behind the other, from a place on. -/
structure OpensF {α : Type} (P : Program) (off : Nat) (fs : List Field) (d : Kd α) (V L : α → Prop) (m : α → Nat) : Prop where
 out : ∀ {H : Type} {enc : TypeId × Value → H} {w : World} {base : Nat} {spare : Nat → Bool} {held : Bool} {fuel : Nat} {cs : List Value} {xs : List (DataW H × List MemPlace)},
  fs.mapM (fun f => DataW.trod enc P w base spare held fuel f.type ((cs.drop f.offset).take (P.cellsOf f.type))) = some xs → cs.length = off + d.sz →
  ∃ a : α, d.K w a (cs.drop off) ∧ V a ∧ ((DataW.weightsEach P (fs.map (·.type)) (xs.map (·.1))).all (· ≤ reachBytes) = true → L a) ∧ m a ≤ Rows.uptoBulkAll (xs.map (·.1))
theorem opensF_one {α : Type} {P : Program} {off : Nat} {f : Field} {d : Kd α} {V L : α → Prop} {m : α → Nat} (ho : Opens P f.type d V L m) (hoff : f.offset = off) (hsz : P.cellsOf f.type = d.sz) : OpensF P off [f] d V L m where
 out {H enc w base spare held fuel cs xs} h hl := by
  obtain ⟨h1, h2⟩ := mapM_some h
  have e : xs = [xs[0]'(by rw [h1]; simp)] := by
   apply List.ext_getElem
   ·simpa using h1
   ·intro i hi _
    have : i = 0 := by rw [h1] at hi; simpa using hi
    subst this
    rfl
  have h3 := h2 0 (by simp)
  rw [List.getElem?_eq_getElem (by rw [h1]; simp)] at h3
  simp only [List.getElem_cons_zero] at h3
  rw [hoff, hsz, List.take_of_length_le (by rw [List.length_drop]; omega)] at h3
  obtain ⟨a, hK, hV, hL, hm⟩ := ho.out h3
  refine ⟨a, hK, hV, fun hw => hL ?_, ?_⟩
  ·rw [e] at hw
   simpa [DataW.weightsEach] using hw
  ·rw [e]
   simpa [Rows.uptoBulkAll] using hm
theorem opensF_cons {α β : Type} {P : Program} {off : Nat} {f : Field} {fs : List Field} {d : Kd α} {V L : α → Prop} {m : α → Nat} {d' : Kd β} {V' L' : β → Prop} {m' : β → Nat}
  (ho : Opens P f.type d V L m) (hoff : f.offset = off) (hsz : P.cellsOf f.type = d.sz) (hr : OpensF P (off + d.sz) fs d' V' L' m') :
  OpensF P off (f :: fs) (Kd.pair d d') (fun a => V a.1 ∧ V' a.2) (fun a => L a.1 ∧ L' a.2) (fun a => m a.1 + m' a.2) where
 out {H enc w base spare held fuel cs xs} h hl := by
  rw [List.mapM_cons] at h
  simp only [Option.bind_eq_bind, Option.bind_eq_some_iff, Option.pure_def, Option.some.injEq] at h
  obtain ⟨x, hx, xs', hxs, rfl⟩ := h
  rw [hoff, hsz] at hx
  have hl' : cs.length = off + (d.sz + d'.sz) := hl
  obtain ⟨a, hK, hV, hL, hm⟩ := ho.out hx
  obtain ⟨b, hK', hV', hL', hm'⟩ := hr.out hxs (by omega)
  refine ⟨(a, b), ⟨_, _, ?_, hK, hK'⟩, ⟨hV, hV'⟩, fun hw => ?_, ?_⟩
  ·rw [← List.drop_drop, List.take_append_drop]
  ·simp only [List.map_cons, DataW.weightsEach, all_append] at hw
   exact ⟨hL hw.1, hL' hw.2⟩
  ·simp only [List.map_cons, Rows.uptoBulkAll]
   omega
theorem opens_struct {α β : Type} {P : Program} {t : TypeId} {fs : Array Field} {d : Kd α} {V L : α → Prop} {m : α → Nat} (f : β → α) (g : α → β) (hfg : ∀ a, f (g a) = a) (ht : P.underlying t = some (.struct fs)) (hsz : P.cellsOf t = d.sz) (hf : OpensF P 0 fs.toList d V L m) :
  Opens P t (Kd.iso d f) (fun b => V (f b)) (fun b => L (f b)) (fun b => m (f b) + 1) where
 out {H enc w base spare held fuel cs x} h := by
  cases fuel with
  |zero => simp [DataW.trod] at h
  |succ n =>
   unfold DataW.trod at h
   rw [ht] at h
   simp only at h
   split at h
   ·rename_i hl
    rw [Option.map_eq_some_iff] at h
    obtain ⟨xs, hxs, rfl⟩ := h
    obtain ⟨a, hK, hV, hL, hm⟩ := hf.out hxs (by omega)
    refine ⟨g a, ?_, ?_, ?_, ?_⟩
    ·show d.K w (f (g a)) cs
     rw [hfg]
     simpa using hK
    ·show V (f (g a))
     rw [hfg]; exact hV
    ·intro hw
     show L (f (g a))
     rw [hfg]
     simp only [DataW.weights, ht] at hw
     exact hL hw
    ·rw [hfg]
     simp only [Rows.uptoBulk]
     omega
   ·cases h
end Go.Proofs.Ytacceeefcelkhaa.Open
