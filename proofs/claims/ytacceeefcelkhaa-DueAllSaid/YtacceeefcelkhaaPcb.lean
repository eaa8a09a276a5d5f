/- What the laws stand on, in one text: functions of the program by their contracts, and the plain mathematics behind them (7 of them). -/
import Derived.Test.YtacceeefcelkhaaPca
import Derived.Test.YtacceeefcelkhaaWWords
import Derived.Test.YtacceeefcelkhaaRows
import Derived.ChangeArms
import Derived.ChangeShapes
import Derived.SizedLaws

/- The chapter's example. -/
namespace Go.Proofs.Ytacceeefcelkhaa.Al
open Go.RowKit Go.Proofs.Ytacceeefcelkhaa.DueHeap Go.Proofs.Ytacceeefcelkhaa.DueSpec Go.Proofs.YtacceeefcelkhaaW.PrintWords Go.Proofs.YtacceeefcelkhaaW.PrintLast Go.Proofs.YtacceeefcelkhaaW.PrintMore
set_option linter.unusedVariables false
set_option linter.unusedSimpArgs false
set_option maxHeartbeats 8000000 in
set_option maxRecDepth 100000 in
theorem works_calls (w : World) : Calls Try.prog 8 #[] w fun e w' => e = .returned (.bool true) ∧ Below w.heap.size w w' := by
 have hu57 := Try.underlying57
 have hu58 := Try.underlying58
 have hu23 := Try.underlying23
 go_enter Try.func8, Try.ntmps8
 go_wp2_with (first | (go_at_call 7; refine (z_new w w (Below.refl _ _)).mono ?_; rintro e w1 ⟨gq, rfl, hq, hb⟩; have HQ1 := Aside0.mk hq; clear hq hb) | ((with_reducible refine gate_dst (N := 18) rfl ?_); refine slice_event ?hg (N := 18) ?hd (cs := #[.int .i64 5, .int .i64 1, .int .i64 7, .int .i64 3, .int .i64 1, .int .i64 8, .int .i64 4, .int .i64 9, .int .i64 9]) (t := 57) (n := 3) ?hr ?_; (case hd => rfl); (case hg => rfl); (case hr => first | (go_simp; done) | (go_simp; rfl)); intro gs hg w2 hbox hb; have HX2 := Aside0.mk hbox; have HQ2 := Aside0.mk (HQ1.out.below hb); have HGE := Aside0.mk hg; clear hg hbox hb))
 go_loopw [20] (fun v20 wr => Aside0 (wr.heap[gs]? = some (.cells #[.int .i64 5, .int .i64 1, .int .i64 7, .int .i64 3, .int .i64 1, .int .i64 8, .int .i64 4, .int .i64 9, .int .i64 9] 57 (0, 0))) ∧ ((v20 = .int .i64 0 ∧ Aside0 (QZ w wr gq 0 qw0)) ∨ (v20 = .int .i64 1 ∧ Aside0 (QZ w wr gq 1 qw1)) ∨ (v20 = .int .i64 2 ∧ Aside0 (QZ w wr gq 2 qw2)) ∨ (v20 = .int .i64 3 ∧ Aside0 (QZ w wr gq 3 qw3)))) (fun v20 _ => 3 - (intOf v20).toNat)
 case atStart => exact ⟨HX2, .inl ⟨rfl, HQ2⟩⟩
 case round =>
  obtain ⟨HX, hrel⟩ := hrel
  clear HX2 HQ2 HQ1 HGE
  rcases hrel with ⟨rfl, HQ⟩ | ⟨rfl, HQ⟩ | ⟨rfl, HQ⟩ | ⟨rfl, HQ⟩
  ·have x0 : wr.cell? ⟨gs, 0, none⟩ = some (.int .i64 5) := (blk_cell HX.out 0).trans rfl
   have x1 : wr.cell? ⟨gs, 1, none⟩ = some (.int .i64 1) := (blk_cell HX.out 1).trans rfl
   have x2 : wr.cell? ⟨gs, 2, none⟩ = some (.int .i64 7) := (blk_cell HX.out 2).trans rfl
   go_upto_region 7 with ((with_reducible refine gate_dst (N := 3) rfl ?_); refine box_event ?hg (N := 3) ?hd (cs := #[.int .i64 0, .int .i64 0, .int .i64 0]) (t := 57) ?hr ?_; (case hd => rfl); (case hg => rfl); (case hr => first | (go_simp; done) | (go_simp; rfl)); intro gb hgb wb hbox hb; have BX := Aside0.mk hbox; have HGE := Aside0.mk (show wr.heap.size ≤ gb from Nat.le_of_eq hgb.symm); have HBb := Aside0.mk hb; have hz0 := (blk_cell hbox 0).trans rfl; have hzf0 := blk_frozen hbox 0; have hz1 := (blk_cell hbox 1).trans rfl; have hzf1 := blk_frozen hbox 1; have hz2 := (blk_cell hbox 2).trans rfl; have hzf2 := blk_frozen hbox 2; clear hgb hbox hb)
   have HB3 : Aside0 (Below wr.heap.size wr (((wb.setCell ⟨gb, 0, none⟩ (.int .i64 5)).setCell ⟨gb, 1, none⟩ (.int .i64 1)).setCell ⟨gb, 2, none⟩ (.int .i64 7))) := ⟨below_set (below_set (below_set HBb.out HGE.out) HGE.out) HGE.out⟩
   have BX3 : Aside0 (((((wb.setCell ⟨gb, 0, none⟩ (.int .i64 5)).setCell ⟨gb, 1, none⟩ (.int .i64 1)).setCell ⟨gb, 2, none⟩ (.int .i64 7)) : World).heap[gb]? = some (.cells #[.int .i64 5, .int .i64 1, .int .i64 7] 57 (0, 0))) := ⟨by
    have := blk_set (blk_set (blk_set BX.out 0 (.int .i64 5)) 1 (.int .i64 1)) 2 (.int .i64 7)
    simpa using this⟩
   clear hz0 hzf0 hz1 hzf1 hz2 hzf2 x0 x1 x2
   generalize (((wb.setCell ⟨gb, 0, none⟩ (.int .i64 5)).setCell ⟨gb, 1, none⟩ (.int .i64 1)).setCell ⟨gb, 2, none⟩ (.int .i64 7)) = W3 at HB3 BX3 ⊢
   have HQ3 := Aside0.mk (HQ.out.below HB3.out)
   have HX3 := Aside0.mk (blk_below HX.out HB3.out)
   have y0 : W3.cell? ⟨gb, 0, none⟩ = some (.int .i64 5) := (blk_cell BX3.out 0).trans rfl
   have y1 : W3.cell? ⟨gb, 1, none⟩ = some (.int .i64 1) := (blk_cell BX3.out 1).trans rfl
   have y2 : W3.cell? ⟨gb, 2, none⟩ = some (.int .i64 7) := (blk_cell BX3.out 2).trans rfl
   go_wp2_with (go_at_call 10; refine (zk_put HQ3.out HX3.out 5 1 7 (by decide)).mono ?_; rintro e w4 ⟨rfl, hq, hx⟩; rw [wk1] at hq ⊢; have HQ4 := Aside0.mk hq; have HX4 := Aside0.mk hx; clear hq hx y0 y1 y2)
   go_roundw
   case rel => exact ⟨HX4, .inr (.inl ⟨rfl, HQ4⟩)⟩
   case measure => decide
  ·have x0 : wr.cell? ⟨gs, 3, none⟩ = some (.int .i64 3) := (blk_cell HX.out 3).trans rfl
   have x1 : wr.cell? ⟨gs, 4, none⟩ = some (.int .i64 1) := (blk_cell HX.out 4).trans rfl
   have x2 : wr.cell? ⟨gs, 5, none⟩ = some (.int .i64 8) := (blk_cell HX.out 5).trans rfl
   go_upto_region 7 with ((with_reducible refine gate_dst (N := 3) rfl ?_); refine box_event ?hg (N := 3) ?hd (cs := #[.int .i64 0, .int .i64 0, .int .i64 0]) (t := 57) ?hr ?_; (case hd => rfl); (case hg => rfl); (case hr => first | (go_simp; done) | (go_simp; rfl)); intro gb hgb wb hbox hb; have BX := Aside0.mk hbox; have HGE := Aside0.mk (show wr.heap.size ≤ gb from Nat.le_of_eq hgb.symm); have HBb := Aside0.mk hb; have hz0 := (blk_cell hbox 0).trans rfl; have hzf0 := blk_frozen hbox 0; have hz1 := (blk_cell hbox 1).trans rfl; have hzf1 := blk_frozen hbox 1; have hz2 := (blk_cell hbox 2).trans rfl; have hzf2 := blk_frozen hbox 2; clear hgb hbox hb)
   have HB3 : Aside0 (Below wr.heap.size wr (((wb.setCell ⟨gb, 0, none⟩ (.int .i64 3)).setCell ⟨gb, 1, none⟩ (.int .i64 1)).setCell ⟨gb, 2, none⟩ (.int .i64 8))) := ⟨below_set (below_set (below_set HBb.out HGE.out) HGE.out) HGE.out⟩
   have BX3 : Aside0 (((((wb.setCell ⟨gb, 0, none⟩ (.int .i64 3)).setCell ⟨gb, 1, none⟩ (.int .i64 1)).setCell ⟨gb, 2, none⟩ (.int .i64 8)) : World).heap[gb]? = some (.cells #[.int .i64 3, .int .i64 1, .int .i64 8] 57 (0, 0))) := ⟨by
    have := blk_set (blk_set (blk_set BX.out 0 (.int .i64 3)) 1 (.int .i64 1)) 2 (.int .i64 8)
    simpa using this⟩
   clear hz0 hzf0 hz1 hzf1 hz2 hzf2 x0 x1 x2
   generalize (((wb.setCell ⟨gb, 0, none⟩ (.int .i64 3)).setCell ⟨gb, 1, none⟩ (.int .i64 1)).setCell ⟨gb, 2, none⟩ (.int .i64 8)) = W3 at HB3 BX3 ⊢
   have HQ3 := Aside0.mk (HQ.out.below HB3.out)
   have HX3 := Aside0.mk (blk_below HX.out HB3.out)
   have y0 : W3.cell? ⟨gb, 0, none⟩ = some (.int .i64 3) := (blk_cell BX3.out 0).trans rfl
   have y1 : W3.cell? ⟨gb, 1, none⟩ = some (.int .i64 1) := (blk_cell BX3.out 1).trans rfl
   have y2 : W3.cell? ⟨gb, 2, none⟩ = some (.int .i64 8) := (blk_cell BX3.out 2).trans rfl
   go_wp2_with (go_at_call 10; refine (zk_put HQ3.out HX3.out 3 1 8 (by decide)).mono ?_; rintro e w4 ⟨rfl, hq, hx⟩; rw [wk2] at hq ⊢; have HQ4 := Aside0.mk hq; have HX4 := Aside0.mk hx; clear hq hx y0 y1 y2)
   go_roundw
   case rel => exact ⟨HX4, .inr (.inr (.inl ⟨rfl, HQ4⟩))⟩
   case measure => decide
  ·have x0 : wr.cell? ⟨gs, 6, none⟩ = some (.int .i64 4) := (blk_cell HX.out 6).trans rfl
   have x1 : wr.cell? ⟨gs, 7, none⟩ = some (.int .i64 9) := (blk_cell HX.out 7).trans rfl
   have x2 : wr.cell? ⟨gs, 8, none⟩ = some (.int .i64 9) := (blk_cell HX.out 8).trans rfl
   go_upto_region 7 with ((with_reducible refine gate_dst (N := 3) rfl ?_); refine box_event ?hg (N := 3) ?hd (cs := #[.int .i64 0, .int .i64 0, .int .i64 0]) (t := 57) ?hr ?_; (case hd => rfl); (case hg => rfl); (case hr => first | (go_simp; done) | (go_simp; rfl)); intro gb hgb wb hbox hb; have BX := Aside0.mk hbox; have HGE := Aside0.mk (show wr.heap.size ≤ gb from Nat.le_of_eq hgb.symm); have HBb := Aside0.mk hb; have hz0 := (blk_cell hbox 0).trans rfl; have hzf0 := blk_frozen hbox 0; have hz1 := (blk_cell hbox 1).trans rfl; have hzf1 := blk_frozen hbox 1; have hz2 := (blk_cell hbox 2).trans rfl; have hzf2 := blk_frozen hbox 2; clear hgb hbox hb)
   have HB3 : Aside0 (Below wr.heap.size wr (((wb.setCell ⟨gb, 0, none⟩ (.int .i64 4)).setCell ⟨gb, 1, none⟩ (.int .i64 9)).setCell ⟨gb, 2, none⟩ (.int .i64 9))) := ⟨below_set (below_set (below_set HBb.out HGE.out) HGE.out) HGE.out⟩
   have BX3 : Aside0 (((((wb.setCell ⟨gb, 0, none⟩ (.int .i64 4)).setCell ⟨gb, 1, none⟩ (.int .i64 9)).setCell ⟨gb, 2, none⟩ (.int .i64 9)) : World).heap[gb]? = some (.cells #[.int .i64 4, .int .i64 9, .int .i64 9] 57 (0, 0))) := ⟨by
    have := blk_set (blk_set (blk_set BX.out 0 (.int .i64 4)) 1 (.int .i64 9)) 2 (.int .i64 9)
    simpa using this⟩
   clear hz0 hzf0 hz1 hzf1 hz2 hzf2 x0 x1 x2
   generalize (((wb.setCell ⟨gb, 0, none⟩ (.int .i64 4)).setCell ⟨gb, 1, none⟩ (.int .i64 9)).setCell ⟨gb, 2, none⟩ (.int .i64 9)) = W3 at HB3 BX3 ⊢
   have HQ3 := Aside0.mk (HQ.out.below HB3.out)
   have HX3 := Aside0.mk (blk_below HX.out HB3.out)
   have y0 : W3.cell? ⟨gb, 0, none⟩ = some (.int .i64 4) := (blk_cell BX3.out 0).trans rfl
   have y1 : W3.cell? ⟨gb, 1, none⟩ = some (.int .i64 9) := (blk_cell BX3.out 1).trans rfl
   have y2 : W3.cell? ⟨gb, 2, none⟩ = some (.int .i64 9) := (blk_cell BX3.out 2).trans rfl
   go_wp2_with (go_at_call 10; refine (zk_put HQ3.out HX3.out 4 9 9 (by decide)).mono ?_; rintro e w4 ⟨rfl, hq, hx⟩; rw [wk3] at hq ⊢; have HQ4 := Aside0.mk hq; have HX4 := Aside0.mk hx; clear hq hx y0 y1 y2)
   go_roundw
   case rel => exact ⟨HX4, .inr (.inr (.inr ⟨rfl, HQ4⟩))⟩
   case measure => decide
  ·go_wp2_with (first | (go_at_call 13; (with_reducible refine (z_take HQ.out).mono ?_); rintro e w4 ⟨rfl, hq⟩; rw [wk4] at hq ⊢; have HQ4 := Aside0.mk hq; clear hq) | (go_at_call 12; (with_reducible refine (z_go HQ4.out 5).mono ?_); rintro e w5 ⟨rfl, hq⟩; rw [wk5] at hq ⊢; have HQ5 := Aside0.mk hq; clear hq) | ((with_reducible refine gate_dst (N := 56) rfl ?_); refine slice_event ?hg (N := 56) ?hd (cs := #[.int .i64 9, .int .i64 8, .int .i64 7]) (t := 3) (n := 3) ?hr ?_; (case hd => rfl); (case hg => rfl); (case hr => first | (go_simp; done) | (go_simp; rfl)); intro g9 hg w6 hbox hb; have HX6 := Aside0.mk hbox; have HQ6 := Aside0.mk (HQ5.out.below hb); clear hg hbox hb))
   go_loopw [58] (fun v58 wr => Aside0 (wr.heap[g9]? = some (.cells #[.int .i64 9, .int .i64 8, .int .i64 7] 3 (0, 0))) ∧ ((v58 = .int .i64 0 ∧ Aside0 (QZ w wr gq 3 qw4)) ∨ (v58 = .int .i64 1 ∧ Aside0 (QZ w wr gq 3 qw5)) ∨ (v58 = .int .i64 2 ∧ Aside0 (QZ w wr gq 3 qw6)) ∨ (v58 = .int .i64 3 ∧ Aside0 (QZ w wr gq 3 qw7)))) (fun v58 _ => 3 - (intOf v58).toNat)
   case atStart => exact ⟨HX6, .inl ⟨rfl, HQ6⟩⟩
   case round =>
    obtain ⟨HY, hrel⟩ := hrel
    clear HX6 HQ6 HQ5 HQ4 HQ HX
    rcases hrel with ⟨rfl, HQ⟩ | ⟨rfl, HQ⟩ | ⟨rfl, HQ⟩ | ⟨rfl, HQ⟩
    ·have x0 : wr.cell? ⟨g9, 0, none⟩ = some (.int .i64 9) := (blk_cell HY.out 0).trans rfl
     go_wp2_with (go_at_call 13; refine (zk_take HQ.out HY.out).mono ?_; rintro e w4 ⟨rfl, hq, hx⟩; rw [wk6] at hq ⊢; have HQ4 := Aside0.mk hq; have HX4 := Aside0.mk hx; clear hq hx x0)
     go_roundw
     case rel => exact ⟨HX4, .inr (.inl ⟨rfl, HQ4⟩)⟩
     case measure => decide
    ·have x0 : wr.cell? ⟨g9, 1, none⟩ = some (.int .i64 8) := (blk_cell HY.out 1).trans rfl
     go_wp2_with (go_at_call 13; refine (zk_take HQ.out HY.out).mono ?_; rintro e w4 ⟨rfl, hq, hx⟩; rw [wk7] at hq ⊢; have HQ4 := Aside0.mk hq; have HX4 := Aside0.mk hx; clear hq hx x0)
     go_roundw
     case rel => exact ⟨HX4, .inr (.inr (.inl ⟨rfl, HQ4⟩))⟩
     case measure => decide
    ·have x0 : wr.cell? ⟨g9, 2, none⟩ = some (.int .i64 7) := (blk_cell HY.out 2).trans rfl
     go_wp2_with (go_at_call 13; refine (zk_take HQ.out HY.out).mono ?_; rintro e w4 ⟨rfl, hq, hx⟩; rw [wk8] at hq ⊢; have HQ4 := Aside0.mk hq; have HX4 := Aside0.mk hx; clear hq hx x0)
     go_roundw
     case rel => exact ⟨HX4, .inr (.inr (.inr ⟨rfl, HQ4⟩))⟩
     case measure => decide
    ·go_wp2_with (go_at_call 14; refine (z_len HQ.out).mono ?_; rintro e w4 ⟨rfl, hq⟩; have HQ4 := Aside0.mk hq; clear hq)
     go_ret
     exact ⟨rfl, HQ4.out.bel⟩
end Go.Proofs.Ytacceeefcelkhaa.Al

/- A task as the caller hands it over. -/
namespace Go.Proofs.Ytacceeefcelkhaa.Al
open Go.RowKit Go.Proofs.Ytacceeefcelkhaa.DueHeap Go.Proofs.Ytacceeefcelkhaa.DueSpec Go.Proofs.YtacceeefcelkhaaW.PrintWords Go.Proofs.YtacceeefcelkhaaW.PrintLast Go.Proofs.YtacceeefcelkhaaW.PrintMore
set_option linter.unusedVariables false
set_option linter.unusedSimpArgs false
structure S29 where
 f0 : Int
 f1 : Int
def z29 : S29 := ⟨0, 0⟩
def k29 : Kd S29 := Kd.iso (Kd.pair (Kd.int .i64) (Kd.int .i64)) (fun x : S29 => (x.f0, x.f1))
theorem k29_open {w : World} {x : S29} {cs : List Value} (h : k29.K w x cs) : cs = [.int .i64 x.f0, .int .i64 x.f1] := by
 obtain ⟨_, _, rfl, rfl, rfl⟩ := h
 exact rfl
def rd_T29 (xs : List S29) (i : Nat) : S29 := xs.getD i z29
theorem at_T29 {w : World} {A : Option Addr} {n : Nat} {xs : List S29} (h : Kd.C k29 w A n xs) (i : Nat) (h1 : i < n) : ∃ ad , A = some ad ∧ w.cell? (ad.add (i * 2)) = some (.int .i64 (rd_T29 xs i).f0) ∧ w.cell? ⟨(ad.add (i * 2)).block, (ad.add (i * 2)).off + 1, none⟩ = some (.int .i64 (rd_T29 xs i).f1) := by
 obtain ⟨ad, c, e, _, hK, hc0⟩ := Kd.C_get h z29 (i : Int) (by omega) (by omega)
 rw [Int.toNat_natCast] at hK hc0
 have hc : ∀ j u, c[j]? = some u → w.cell? (ad.add (i * 2 + j)) = some u := hc0
 obtain rfl := k29_open hK
 exact ⟨ad, e, hc 0 _ rfl, by rw [← add_field _ _ 1 (by omega)]; exact hc 1 _ rfl⟩
def atS (l : List S29) (j : Nat) : Int := (rd_T29 l j).f0 % 1000
def urS (l : List S29) (j : Nat) : Int := (rd_T29 l j).f1
end Go.Proofs.Ytacceeefcelkhaa.Al

/- Two queues of one world. -/
namespace Go.Proofs.Ytacceeefcelkhaa.Al
open Go.RowKit Go.Proofs.Ytacceeefcelkhaa.DueHeap Go.Proofs.Ytacceeefcelkhaa.DueSpec Go.Proofs.YtacceeefcelkhaaW.PrintWords Go.Proofs.YtacceeefcelkhaaW.PrintLast Go.Proofs.YtacceeefcelkhaaW.PrintMore
set_option linter.unusedVariables false
set_option linter.unusedSimpArgs false
structure Far (gqa gwa gda gqb gwb gdb : Nat) (vwa vda vwb vdb : Value) : Prop where
 q : gqb ≠ gqa
 ww : gwb ≠ gwa
 wd : gwb ≠ gda
 dw : gdb ≠ gwa
 dd : gdb ≠ gda
 vww : Ap vwa vwb
 vwd : Ap vwa vdb
 vdw : Ap vda vwb
 vdd : Ap vda vdb
theorem Far.symm {gqa gwa gda gqb gwb gdb : Nat} {vwa vda vwb vdb : Value} (h : Far gqa gwa gda gqb gwb gdb vwa vda vwb vdb) : Far gqb gwb gdb gqa gwa gda vwb vdb vwa vda :=
 ⟨h.q.symm, h.ww.symm, h.dw.symm, h.wd.symm, h.dd.symm, h.vww.symm, h.vdw.symm, h.vwd.symm, h.vdd.symm⟩
section
variable {W w w1 : World} {gqa gwa gda gqb gwb gdb fn : Nat} {na pa nb pb : Int} {vwa vda vwa1 vda1 vwb vdb v : Value} {lwa lda lwb ldb l : List Tk} {g : Nat}
theorem HP.stay (h : HP W w g fn v l) (k : QO W w gqa gwa gda na pa vwa vda lwa lda) (hs : QStep w w1 gqa gwa gda vwa vda vwa1 vda1) (h1 : g ≠ gwa) (h2 : g ≠ gda) (a1 : Ap vwa v) (a2 : Ap vda v) (hb : Below W.heap.size W w1) : HP W w1 g fn v l := by
 refine ⟨⟨(hs.keep g (blk_lt h.ht.blk) (blk_ne h.ht.blk k.blk (by decide)) h1 h2 (Ne.symm (Kd.R_ne k.wt.ht.row h.ht.blk (by decide))) (Ne.symm (Kd.R_ne k.du.ht.row h.ht.blk (by decide)))).trans h.ht.blk, h.ht.ge, ?_, hb⟩, h.heap⟩
 refine Kd.R_mono (Kd.R_move (Kd.R_bound (Kd.R_tight rfl h.ht.row)) (fun j hj => hs.keep j hj.2.2.1 ?_ ?_ ?_ ?_ ?_)) (fun _ _ => trivial)
 ·rintro rfl; exact Kd.R_ne h.ht.row k.blk (by decide) hj.1
 ·rintro rfl; exact Kd.R_ne h.ht.row k.wt.ht.blk (by decide) hj.1
 ·rintro rfl; exact Kd.R_ne h.ht.row k.du.ht.blk (by decide) hj.1
 ·exact fun e => a1 j e hj.1.symm
 ·exact fun e => a2 j e hj.1.symm
theorem Ap.qstep (h : HP W w g fn v l) (hs : QStep w w1 gqa gwa gda vwa vda vwa1 vda1) (a1 : Ap vwa v) (a2 : Ap vda v) {x : Value} (hx : x = vwa1 ∨ x = vda1) : Ap x v := by
 have hx' : x.ownBlock = vwa.ownBlock ∨ x.ownBlock = vda.ownBlock ∨ ∃ b, x.ownBlock = some b ∧ w.heap.size ≤ b := by
  rcases hx with rfl | rfl
  ·exact hs.ow
  ·rcases hs.od with e | e | e
   ·exact .inr (.inl e)
   ·exact .inl e
   ·exact .inr (.inr e)
 intro q e e'
 rcases hx' with k | k | ⟨b, k, hb⟩
 ·exact a1 q (k ▸ e) e'
 ·exact a2 q (k ▸ e) e'
 ·rw [k] at e
  injection e with e
  have := h.ht.lt e'
  omega
theorem QO.stay (h : QO W w gqb gwb gdb nb pb vwb vdb lwb ldb) (k : QO W w gqa gwa gda na pa vwa vda lwa lda) (hs : QStep w w1 gqa gwa gda vwa vda vwa1 vda1) (hf : Far gqa gwa gda gqb gwb gdb vwa vda vwb vdb) (hb : Below W.heap.size W w1) :
  QO W w1 gqb gwb gdb nb pb vwb vdb lwb ldb ∧ Far gqa gwa gda gqb gwb gdb vwa1 vda1 vwb vdb := by
 refine ⟨⟨(hs.keep gqb (blk_lt h.blk) hf.q (blk_ne h.blk k.wt.ht.blk (by decide)) (blk_ne h.blk k.du.ht.blk (by decide)) (Ne.symm (Kd.R_ne k.wt.ht.row h.blk (by decide))) (Ne.symm (Kd.R_ne k.du.ht.row h.blk (by decide)))).trans h.blk, h.ge, h.wt.stay k hs hf.ww hf.wd hf.vww hf.vdw hb, h.du.stay k hs hf.dw hf.dd hf.vwd hf.vdd hb, h.ne, h.ap⟩, ?_⟩
 exact ⟨hf.q, hf.ww, hf.wd, hf.dw, hf.dd, Ap.qstep h.wt hs hf.vww hf.vdw (.inl rfl), Ap.qstep h.du hs hf.vwd hf.vdd (.inl rfl), Ap.qstep h.wt hs hf.vww hf.vdw (.inr rfl), Ap.qstep h.du hs hf.vwd hf.vdd (.inr rfl)⟩
end
/-- Blocks of a type that is none of the queue's stay. -/
def Stay29 (w w1 : World) : Prop := ∀ (g : Nat) (cs : Array Value), w.heap[g]? = some (.cells cs 29 (0, 0)) → w1.heap[g]? = some (.cells cs 29 (0, 0))
/-- Two queues, told by their lists alone. -/
structure Q2 (W w : World) (ga gb ka kb : Nat) (qa qb : Qs) : Prop where
 oa : DueSpec.Ok ka qa
 ob : DueSpec.Ok kb qb
 ex : ∃ gwa gda vwa vda lwa lda gwb gdb vwb vdb lwb ldb, QX W w ga gwa gda qa vwa vda lwa lda ∧ QX W w gb gwb gdb qb vwb vdb lwb ldb ∧ Far ga gwa gda gb gwb gdb vwa vda vwb vdb
section
variable {W w w1 : World} {ga gb ka kb : Nat} {qa qb : Qs}
theorem Q2.bel (h : Q2 W w ga gb ka kb qa qb) : Below W.heap.size W w := by
 obtain ⟨_, _, _, _, _, _, _, _, _, _, _, _, h, _, _⟩ := h.ex
 exact h.o.bel
theorem Q2.swap (h : Q2 W w ga gb ka kb qa qb) : Q2 W w gb ga kb ka qb qa := by
 obtain ⟨a1, a2, a3, a4, a5, a6, b1, b2, b3, b4, b5, b6, h1, h2, h3⟩ := h.ex
 exact ⟨h.ob, h.oa, b1, b2, b3, b4, b5, b6, a1, a2, a3, a4, a5, a6, h2, h1, h3.symm⟩
theorem Q2.below (h : Q2 W w ga gb ka kb qa qb) (hb : Below w.heap.size w w1) : Q2 W w1 ga gb ka kb qa qb := by
 obtain ⟨a1, a2, a3, a4, a5, a6, b1, b2, b3, b4, b5, b6, h1, h2, h3⟩ := h.ex
 exact ⟨h.oa, h.ob, a1, a2, a3, a4, a5, a6, b1, b2, b3, b4, b5, b6, h1.below hb, h2.below hb, h3⟩
theorem two_put (h : Q2 W w ga gb ka kb qa qb) (hk : ka ≤ 100000) (a u i : Int) : Calls Try.prog 10 #[.pointer (some ⟨ga, 0, none⟩), .int .i64 a, .int .i64 u, .int .i64 i] w fun e w' => e = .returned (.tuple #[.int .i64 (putQ qa a u i).2.1, .int .i64 (putQ qa a u i).2.2]) ∧ Q2 W w' ga gb (ka + 1) kb (putQ qa a u i).1 qb ∧ Stay29 w w' := by
 obtain ⟨a1, a2, a3, a4, a5, a6, b1, b2, b3, b4, b5, b6, h1, h2, h3⟩ := h.ex
 refine (qput_calls W w _ _ _ _ _ _ _ _ h1 ka h.oa hk a u i).mono ?_
 rintro e w' ⟨rfl, vw', vd', lw', ld', hq, hs⟩
 obtain ⟨k1, k2⟩ := h2.o.stay h1.o hs h3 hq.o.bel
 exact ⟨rfl, ⟨h.oa.put_ a u i, h.ob, a1, a2, vw', vd', lw', ld', b1, b2, b3, b4, b5, b6, hq, ⟨k1, h2.r⟩, k2⟩, fun g cs hb => hs.keepT h1 hb (by decide) (by decide) (by decide)⟩
theorem two_go (h : Q2 W w ga gb ka kb qa qb) (tt : Int) : Calls Try.prog 12 #[.pointer (some ⟨ga, 0, none⟩), .int .i64 tt] w fun e w' => e = .returned (.int .i64 (goQ qa tt).2) ∧ Q2 W w' ga gb ka kb (goQ qa tt).1 qb := by
 obtain ⟨a1, a2, a3, a4, a5, a6, b1, b2, b3, b4, b5, b6, h1, h2, h3⟩ := h.ex
 refine (qgo_calls W w _ _ _ _ _ _ _ _ h1 ka h.oa tt).mono ?_
 rintro e w' ⟨rfl, vw', vd', lw', ld', hq, hs⟩
 obtain ⟨k1, k2⟩ := h2.o.stay h1.o hs h3 hq.o.bel
 exact ⟨rfl, h.oa.go_ tt, h.ob, a1, a2, vw', vd', lw', ld', b1, b2, b3, b4, b5, b6, hq, ⟨k1, h2.r⟩, k2⟩
theorem two_take (h : Q2 W w ga gb ka kb qa qb) : Calls Try.prog 13 #[.pointer (some ⟨ga, 0, none⟩)] w fun e w' => e = .returned (.tuple #[.int .i64 (takeQ qa).2.1, .bool (takeQ qa).2.2]) ∧ Q2 W w' ga gb ka kb (takeQ qa).1 qb := by
 obtain ⟨a1, a2, a3, a4, a5, a6, b1, b2, b3, b4, b5, b6, h1, h2, h3⟩ := h.ex
 refine (qtake_calls W w _ _ _ _ _ _ _ _ h1 ka h.oa).mono ?_
 rintro e w' ⟨rfl, vw', vd', lw', ld', hq, hs⟩
 obtain ⟨k1, k2⟩ := h2.o.stay h1.o hs h3 hq.o.bel
 exact ⟨rfl, h.oa.take_, h.ob, a1, a2, vw', vd', lw', ld', b1, b2, b3, b4, b5, b6, hq, ⟨k1, h2.r⟩, k2⟩
theorem two_drop (h : Q2 W w ga gb ka kb qa qb) (no : Int) : Calls Try.prog 15 #[.pointer (some ⟨ga, 0, none⟩), .int .i64 no] w fun e w' => e = .returned (.int .i64 (dropQ qa no).2) ∧ Q2 W w' ga gb ka kb (dropQ qa no).1 qb := by
 obtain ⟨a1, a2, a3, a4, a5, a6, b1, b2, b3, b4, b5, b6, h1, h2, h3⟩ := h.ex
 refine (qdrop_calls W w _ _ _ _ _ _ _ _ h1 ka h.oa no).mono ?_
 rintro e w' ⟨rfl, vw', vd', lw', ld', hq, hs⟩
 obtain ⟨k1, k2⟩ := h2.o.stay h1.o hs h3 hq.o.bel
 exact ⟨rfl, h.oa.drop_ no, h.ob, a1, a2, vw', vd', lw', ld', b1, b2, b3, b4, b5, b6, hq, ⟨k1, h2.r⟩, k2⟩
theorem two_len (h : Q2 W w ga gb ka kb qa qb) : Calls Try.prog 14 #[.pointer (some ⟨ga, 0, none⟩)] w fun e w' => e = .returned (.int .i64 (qa.L.length : Int)) ∧ Q2 W w' ga gb ka kb qa qb := by
 obtain ⟨a1, a2, a3, a4, a5, a6, b1, b2, b3, b4, b5, b6, h1, h2, h3⟩ := h.ex
 have hl := h1.r.len
 refine (qlen_calls W w _ _ _ _ _ _ _ _ _ h1.o (by rw [hl]; have := h.oa.len; omega)).mono ?_
 rintro e w' ⟨rfl, hb⟩
 rw [hl]
 exact ⟨rfl, h.below hb⟩
/-- A second queue, made anew. -/
theorem two_new (h : QZ W w ga 0 ⟨[], 0, 0⟩) : Calls Try.prog 7 #[] w fun e w' => ∃ gb, e = .returned (.pointer (some ⟨gb, 0, none⟩)) ∧ Q2 W w' ga gb 0 0 ⟨[], 0, 0⟩ ⟨[], 0, 0⟩ := by
 obtain ⟨a1, a2, a3, a4, a5, a6, hx⟩ := h.ex
 refine (qnew_calls W w hx.o.bel).mono ?_
 rintro e w' ⟨gq, gw, gd, rfl, hy, l1, l2, l3, hb⟩
 have k1 := blk_lt hx.o.blk
 have k2 := blk_lt hx.o.wt.ht.blk
 have k3 := blk_lt hx.o.du.ht.blk
 have nl : ∀ v : Value, Ap v (.slice none 0 0) := fun v q _ e' => by cases e'
 exact ⟨gq, rfl, h.ok, Ok.empty, a1, a2, a3, a4, a5, a6, gw, gd, _, _, _, _, hx.below hb, hy, ⟨by omega, by omega, by omega, by omega, by omega, nl _, nl _, nl _, nl _⟩⟩
end
end Go.Proofs.Ytacceeefcelkhaa.Al

/- DueDrops in plain terms: two queues alike but for one task. -/
namespace Go.Proofs.Ytacceeefcelkhaa.DueSpec
set_option linter.unusedVariables false
set_option linter.unusedSimpArgs false
set_option linter.unusedSectionVars false
/-- Alike but for the numbers. -/
def Like (a b : Tk) : Prop := a.at_ = b.at_ ∧ a.urg = b.urg ∧ a.id = b.id
def LikeL (l m : List Tk) : Prop := l.length = m.length ∧ ∀ i, Like (l.getD i t0) (m.getD i t0)
def tkA (at_ urg : Nat → Int) (j : Nat) : Tk := ⟨at_ j, urg j, j, (j : Int) + 1⟩
def tkB (at_ urg : Nat → Int) (k j : Nat) : Tk := ⟨at_ j, urg j, j, if j < k then (j : Int) + 1 else (j : Int)⟩
def LA (at_ urg : Nat → Int) (n : Nat) : List Tk := (List.range n).map (tkA at_ urg)
def LB (at_ urg : Nat → Int) (k n : Nat) : List Tk := ((List.range n).filter (fun j => j != k)).map (tkB at_ urg k)
def LC (at_ urg : Nat → Int) (k n : Nat) : List Tk := ((List.range n).filter (fun j => j != k)).map (tkA at_ urg)
def qA (at_ urg : Nat → Int) (n : Nat) : Qs := ⟨LA at_ urg n, 0, n⟩
def qB (at_ urg : Nat → Int) (k n : Nat) : Qs := ⟨LB at_ urg k n, 0, if n ≤ k then (n : Int) else (n : Int) - 1⟩
section
variable {at_ urg : Nat → Int} (h0 : ∀ j, 0 ≤ at_ j) (h1 : ∀ j, at_ j < 1000)
theorem LA_len (n : Nat) : (LA at_ urg n).length = n := by simp [LA]
theorem LB_len {k n : Nat} : (LB at_ urg k n).length ≤ n := by
 have := List.length_filter_le (fun j => j != k) (List.range n)
 rw [List.length_range] at this
 simpa [LB] using this
include h0 h1
theorem dropA {n : Nat} (hn : n < 100) : putQ (qA at_ urg n) (at_ n) (urg n) n = (qA at_ urg (n + 1), (n : Int) + 1, 0) := by
 have := h0 n
 have := h1 n
 unfold putQ
 rw [if_neg (by omega), if_neg (by show ¬ 1024 ≤ (LA at_ urg n).length; rw [LA_len]; omega)]
 unfold qA LA
 rw [List.range_succ, List.map_append]
 rfl
theorem dropB {k n : Nat} (hn : n < 100) (hk : n ≠ k) : ∃ z, putQ (qB at_ urg k n) (at_ n) (urg n) n = (qB at_ urg k (n + 1), z, 0) := by
 have := h0 n
 have := h1 n
 have hl : (LB at_ urg k n).length ≤ n := LB_len
 refine ⟨(qB at_ urg k n).put + 1, ?_⟩
 unfold putQ
 rw [if_neg (by omega), if_neg (by show ¬ 1024 ≤ (LB at_ urg k n).length; omega)]
 have e : LB at_ urg k (n + 1) = LB at_ urg k n ++ [tkB at_ urg k n] := by
  unfold LB
  rw [List.range_succ, List.filter_append, List.filter_cons_of_pos (by simpa using hk), List.map_append]
  rfl
 have e2 : (if n ≤ k then (n : Int) else (n : Int) - 1) + 1 = (if n < k then (n : Int) + 1 else (n : Int)) := by split <;> split <;> omega
 have e3 : (if n + 1 ≤ k then ((n + 1 : Nat) : Int) else ((n + 1 : Nat) : Int) - 1) = (if n < k then (n : Int) + 1 else (n : Int)) := by split <;> split <;> omega
 unfold qB
 rw [e, e3]
 simp only [e2]
 rfl
theorem skipB {k : Nat} : qB at_ urg k (k + 1) = qB at_ urg k k := by
 unfold qB LB
 rw [List.range_succ, List.filter_append, List.filter_cons_of_neg (by simp), List.filter_nil, List.append_nil]
 congr 1
 split <;> split <;> omega
theorem startB {k : Nat} : qB at_ urg k 0 = ⟨[], 0, 0⟩ := by simp [qB, LB]
theorem erase_k {k n : Nat} (hk : k < n) : (LA at_ urg n).erase (tkA at_ urg k) = LC at_ urg k n := by
 have hinj : ∀ i j, tkA at_ urg i = tkA at_ urg j → i = j := fun i j e => by
  have : (i : Int) = (j : Int) := congrArg Tk.id e
  omega
 unfold LA LC
 have : ∀ (Q : List Nat), Q.Nodup → ((Q.map (tkA at_ urg)).erase (tkA at_ urg k)) = (Q.filter (fun j => j != k)).map (tkA at_ urg) := by
  intro Q
  induction Q with
  |nil => intro _; rfl
  |cons a Q ih =>
   intro hn
   rw [List.nodup_cons] at hn
   by_cases e : a = k
   ·subst e
    rw [List.map_cons, List.erase_cons_head, List.filter_cons_of_neg (by simp)]
    rw [List.filter_eq_self.2 (fun x hx => by
     have : x ≠ a := fun e => hn.1 (e ▸ hx)
     simpa using this)]
   ·rw [List.map_cons, List.erase_cons_tail (by
     have : tkA at_ urg a ≠ tkA at_ urg k := fun e' => e (hinj _ _ e')
     simpa using this), ih hn.2, List.filter_cons_of_pos (by simpa using e), List.map_cons]
 exact this _ List.nodup_range
theorem dropped {kk k n : Nat} (ho : Ok kk (qA at_ urg n)) (hk : k < n) : dropQ (qA at_ urg n) ((k : Int) + 1) = (⟨LC at_ urg k n, 0, n⟩, 0) := by
 have := dropQ_of ho (x := tkA at_ urg k) (List.mem_map.2 ⟨k, List.mem_range.2 hk, rfl⟩)
 rw [← erase_k h0 h1 hk]
 exact this
theorem again {k n : Nat} : dropQ ⟨LC at_ urg k n, 0, n⟩ ((k : Int) + 1) = (⟨LC at_ urg k n, 0, n⟩, 5) :=
 dropQ_none fun y hy => by
  obtain ⟨j, hj, rfl⟩ := List.mem_map.1 hy
  have h2 := (List.mem_filter.1 hj).2
  have : j ≠ k := by simpa using h2
  simp only [tkA]
  omega
theorem goA {k n : Nat} : goQ ⟨LC at_ urg k n, 0, n⟩ 1000 = (⟨LC at_ urg k n, 1000, n⟩, 0) := by
 unfold goQ
 rw [if_neg (by show ¬ ((1000 : Int) < 0 ∨ _); omega)]
theorem goB {k n : Nat} : goQ (qB at_ urg k n) 1000 = (⟨LB at_ urg k n, 1000, (qB at_ urg k n).put⟩, 0) := by
 unfold goQ
 rw [if_neg (by show ¬ ((1000 : Int) < 0 ∨ _); omega)]
 rfl
omit h0 h1 in
theorem likeCB {k n : Nat} : LikeL (LC at_ urg k n) (LB at_ urg k n) := by
 refine ⟨by simp [LC, LB], fun i => ?_⟩
 unfold LC LB
 simp only [List.getD_eq_getElem?_getD, List.getElem?_map]
 cases ((List.range n).filter (fun j => j != k))[i]? with
 |none => exact ⟨rfl, rfl, rfl⟩
 |some j => exact ⟨rfl, rfl, rfl⟩
end
/-- The state of the two queues as they are emptied. -/
structure Pair (k m : Nat) (a b : Qs) : Prop where
 like : LikeL a.L b.L
 na : a.now = 1000
 nb : b.now = 1000
 lo : ∀ x ∈ a.L, x.at_ ≤ 1000
 id : ∀ x ∈ a.L, x.id ≠ (k : Int)
 len : a.L.length ≤ m
theorem erase_idx {l : List Tk} (h : l.Pairwise (fun a b => a.no < b.no)) {i : Nat} (hi : i < l.length) : l.erase (l.getD i t0) = l.eraseIdx i := by
 rw [List.getD_eq_getElem?_getD, List.getElem?_eq_getElem hi]
 show l.erase l[i] = _
 rw [List.erase_eq_eraseIdx]
 have : l.idxOf? l[i] = some i := by
  rw [List.idxOf?, List.findIdx?_eq_some_iff_getElem]
  refine ⟨hi, by simp, fun j hj => ?_⟩
  have := List.pairwise_iff_getElem.1 h j i (by omega) hi hj
  have hne : l[j] ≠ l[i] := fun e => by rw [e] at this; omega
  simpa using hne
 rw [this]
theorem likeL_erase {l m : List Tk} (h : LikeL l m) (i : Nat) : LikeL (l.eraseIdx i) (m.eraseIdx i) := by
 refine ⟨by rw [List.length_eraseIdx, List.length_eraseIdx, h.1], fun j => ?_⟩
 simp only [List.getD_eq_getElem?_getD, List.getElem?_eraseIdx]
 have := h.2
 simp only [List.getD_eq_getElem?_getD] at this
 split
 ·exact this j
 ·exact this (j + 1)
/-- Both take the task at one place, or none. -/
theorem Pair.take {k m ka kb : Nat} {a b : Qs} (h : Pair k (m + 1) a b) (oa : Ok ka a) (ob : Ok kb b) :
  ∃ a' b' x ok, takeQ a = (a', x, ok) ∧ takeQ b = (b', x, ok) ∧ (ok = true → x ≠ (k : Int)) ∧ Pair k m a' b' := by
 by_cases hl : a.L.length = 0
 ·have ha : a.L = [] := List.eq_nil_of_length_eq_zero hl
  have hb : b.L = [] := List.eq_nil_of_length_eq_zero (by rw [← h.like.1]; exact hl)
  refine ⟨a, b, 0, false, takeQ_none (by rw [ha]; simp), takeQ_none (by rw [hb]; simp), fun h => (by cases h), ⟨h.like, h.na, h.nb, h.lo, h.id, by omega⟩⟩
 ·have hf : a.L.filter (dueB a.now) = a.L := List.filter_eq_self.2 fun x hx => decide_eq_true (by rw [h.na]; exact h.lo x hx)
  cases hb : bestOf (a.L.filter (dueB a.now)) with
  |none =>
   rw [hf] at hb
   have := bestOf_none.1 hb
   rw [this] at hl
   exact absurd rfl hl
  |some x =>
   rw [hf] at hb
   obtain ⟨hx, hm⟩ := bestOf_some hb
   have ta := takeQ_of oa hx (by rw [h.na]; exact h.lo x hx) (fun y hy _ => hm y hy)
   obtain ⟨i, hi, hxi⟩ := List.getElem_of_mem hx
   have hib : i < b.L.length := by rw [← h.like.1]; exact hi
   have ga : a.L.getD i t0 = x := by rw [List.getD_eq_getElem?_getD, List.getElem?_eq_getElem hi, Option.getD_some, hxi]
   obtain ⟨y, hy⟩ : ∃ y, y = b.L.getD i t0 := ⟨_, rfl⟩
   have hyl : b.L[i] = y := by rw [hy, List.getD_eq_getElem?_getD, List.getElem?_eq_getElem hib, Option.getD_some]
   have hyb : y ∈ b.L := by rw [← hyl]; exact List.getElem_mem _
   have hxy : Like x y := by rw [← ga, hy]; exact h.like.2 i
   have lo_b : ∀ z ∈ b.L, z.at_ ≤ 1000 := fun z hz => by
    obtain ⟨j, hj, rfl⟩ := List.getElem_of_mem hz
    have hja : j < a.L.length := by rw [h.like.1]; exact hj
    have := (h.like.2 j).1
    rw [List.getD_eq_getElem?_getD, List.getElem?_eq_getElem hja, List.getD_eq_getElem?_getD, List.getElem?_eq_getElem hj] at this
    simp only [Option.getD_some] at this
    rw [← this]
    exact h.lo _ (List.getElem_mem _)
   have tb := takeQ_of ob hyb (by rw [h.nb]; exact lo_b y hyb) (fun z hz _ => by
    obtain ⟨j, hj, rfl⟩ := List.getElem_of_mem hz
    have hja : j < a.L.length := by rw [h.like.1]; exact hj
    have hlj := h.like.2 j
    rw [List.getD_eq_getElem?_getD, List.getElem?_eq_getElem hja, List.getD_eq_getElem?_getD, List.getElem?_eq_getElem hj] at hlj
    simp only [Option.getD_some] at hlj
    have h1 := hm a.L[j] (List.getElem_mem _)
    unfold leU at h1 ⊢
    rw [urgent_not] at h1 ⊢
    obtain ⟨e1, e2, _⟩ := hlj
    obtain ⟨f1, f2, _⟩ := hxy
    have pa := List.pairwise_iff_getElem.1 oa.rise
    have pb := List.pairwise_iff_getElem.1 ob.rise
    rcases Nat.lt_trichotomy i j with hij | hij | hij
    ·have := pb i j hib hj hij
     rw [hyl] at this
     rw [← e1, ← e2, ← f1, ← f2]
     omega
    ·subst hij
     rw [hyl]
     omega
    ·have h2 := pa j i hja hi hij
     rw [hxi] at h2
     have h3 := pb j i hj hib hij
     rw [hyl] at h3
     rw [← e1, ← e2, ← f1, ← f2]
     omega)
   refine ⟨⟨a.L.erase x, a.now, a.put⟩, ⟨b.L.erase y, b.now, b.put⟩, x.id, true, ta, by rw [hxy.2.2]; exact tb, fun _ => h.id x hx, ⟨?_, h.na, h.nb, fun z hz => h.lo z (List.mem_of_mem_erase hz), fun z hz => h.id z (List.mem_of_mem_erase hz), ?_⟩⟩
   ·show LikeL (a.L.erase x) (b.L.erase y)
    rw [← ga, hy, erase_idx oa.rise hi, erase_idx ob.rise hib]
    exact likeL_erase h.like i
   ·show (a.L.erase x).length ≤ m
    rw [List.length_erase_of_mem hx]
    have := h.len
    omega
theorem pair_start {at_ urg : Nat → Int} (h1 : ∀ j, at_ j < 1000) {k n : Nat} (hk : k < n) (pb : Int) : Pair k n ⟨LC at_ urg k n, 1000, n⟩ ⟨LB at_ urg k n, 1000, pb⟩ := by
 refine ⟨likeCB, rfl, rfl, fun x hx => ?_, fun x hx => ?_, ?_⟩
 ·obtain ⟨j, _, rfl⟩ := List.mem_map.1 hx
  have := h1 j
  simp only [tkA]; omega
 ·obtain ⟨j, hj, rfl⟩ := List.mem_map.1 hx
  have : j ≠ k := by simpa using (List.mem_filter.1 hj).2
  simp only [tkA]; omega
 ·have := List.length_filter_le (fun j => j != k) (List.range n)
  rw [List.length_range] at this
  simpa [LC] using this
end Go.Proofs.Ytacceeefcelkhaa.DueSpec

/- DueAll in plain terms: tasks that are taken, told by a row of Bools. -/
namespace Go.Proofs.Ytacceeefcelkhaa.DueSpec
set_option linter.unusedVariables false
set_option linter.unusedSimpArgs false
set_option linter.unusedSectionVars false
def LT_ (at_ urg : Nat → Int) (n : Nat) (T : List Bool) : List Tk := ((List.range n).filter (fun j => !(T.getD j true))).map (tkA at_ urg)
section
variable {at_ urg : Nat → Int}
theorem tkA_inj {i j : Nat} (e : tkA at_ urg i = tkA at_ urg j) : i = j := by
 have : (i : Int) = (j : Int) := congrArg Tk.id e
 omega
theorem erase_map (k : Nat) : ∀ (Q : List Nat), Q.Nodup → ((Q.map (tkA at_ urg)).erase (tkA at_ urg k)) = (Q.filter (fun j => j != k)).map (tkA at_ urg)
 |[], _ => rfl
 |a :: Q, hn => by
  rw [List.nodup_cons] at hn
  by_cases e : a = k
  ·subst e
   rw [List.map_cons, List.erase_cons_head, List.filter_cons_of_neg (by simp)]
   rw [List.filter_eq_self.2 (fun x hx => by
    have : x ≠ a := fun e => hn.1 (e ▸ hx)
    simpa using this)]
  ·rw [List.map_cons, List.erase_cons_tail (by
    have : tkA at_ urg a ≠ tkA at_ urg k := fun e' => e (tkA_inj e')
    simpa using this), erase_map k Q hn.2, List.filter_cons_of_pos (by simpa using e), List.map_cons]
theorem LT_zero (n : Nat) : LT_ at_ urg n (List.replicate n false) = LA at_ urg n := by
 unfold LT_ LA
 rw [List.filter_eq_self.2]
 intro j hj
 have := List.mem_range.1 hj
 simp [List.getD_eq_getElem?_getD, List.getElem?_replicate, this]
theorem LT_mem {n : Nat} {T : List Bool} {x : Tk} (h : x ∈ LT_ at_ urg n T) : ∃ j, j < n ∧ T.getD j true = false ∧ x = tkA at_ urg j := by
 obtain ⟨j, hj, rfl⟩ := List.mem_map.1 h
 obtain ⟨h1, h2⟩ := List.mem_filter.1 hj
 exact ⟨j, List.mem_range.1 h1, by simpa using h2, rfl⟩
theorem LT_in {n j : Nat} {T : List Bool} (h : j < n) (hT : T.getD j true = false) : tkA at_ urg j ∈ LT_ at_ urg n T :=
 List.mem_map.2 ⟨j, List.mem_filter.2 ⟨List.mem_range.2 h, by rw [hT]; rfl⟩, rfl⟩
theorem LT_erase {n j : Nat} {T : List Bool} (hl : T.length = n) (h : j < n) : (LT_ at_ urg n T).erase (tkA at_ urg j) = LT_ at_ urg n (T.set j true) := by
 unfold LT_
 rw [erase_map j _ (List.Nodup.sublist List.filter_sublist List.nodup_range), List.filter_filter]
 congr 1
 refine List.filter_congr fun i hi => ?_
 have hi := List.mem_range.1 hi
 rw [List.getD_eq_getElem?_getD (l := T.set j true), List.getElem?_set]
 by_cases e : j = i
 ·subst e
  simp [hl, h]
 ·rw [if_neg e, ← List.getD_eq_getElem?_getD]
  have : (i != j) = true := by simpa using Ne.symm e
  rw [this, Bool.true_and]
theorem LT_len {n : Nat} {T : List Bool} : (LT_ at_ urg n T).length ≤ n := by
 have := List.length_filter_le (fun j => !(T.getD j true)) (List.range n)
 rw [List.length_range] at this
 simpa [LT_] using this
/-- What one Take comes to. -/
theorem all_take {n k : Nat} {T : List Bool} {q : Qs} (ho : Ok k q) (hq : q.L = LT_ at_ urg n T) (hl : T.length = n) :
  (takeQ q = (q, 0, false) ∧ ∀ j, j < n → T.getD j true = false → q.now < at_ j) ∨
  (∃ j, j < n ∧ T.getD j true = false ∧ at_ j ≤ q.now ∧ takeQ q = (⟨LT_ at_ urg n (T.set j true), q.now, q.put⟩, (j : Int), true) ∧ (∀ i, i < n → T.getD i true = false → at_ i ≤ q.now → leU (tkA at_ urg j) (tkA at_ urg i)) ∧ (LT_ at_ urg n (T.set j true)).length + 1 = q.L.length) := by
 cases hb : bestOf (q.L.filter (dueB q.now)) with
 |none =>
  have hf := bestOf_none.1 hb
  have hd : ∀ y ∈ q.L, q.now < y.at_ := fun y hy => by
   have := List.filter_eq_nil_iff.1 hf y hy
   unfold dueB at this
   rw [decide_eq_true_eq] at this
   omega
  exact .inl ⟨takeQ_none hd, fun j hj hT => hd (tkA at_ urg j) (by rw [hq]; exact LT_in hj hT)⟩
 |some x =>
  obtain ⟨h1, h2⟩ := bestOf_some hb
  obtain ⟨h3, h4⟩ := List.mem_filter.1 h1
  have h5 : x.at_ ≤ q.now := of_decide_eq_true h4
  have h6 := h3
  rw [hq] at h3
  obtain ⟨j, hj, hT, rfl⟩ := LT_mem h3
  have hmin : ∀ y ∈ q.L, y.at_ ≤ q.now → leU (tkA at_ urg j) y := fun y hy hd => h2 y (List.mem_filter.2 ⟨hy, decide_eq_true hd⟩)
  have ht := takeQ_of ho h6 h5 hmin
  refine .inr ⟨j, hj, hT, h5, ?_, fun i hi hTi hd => hmin _ (by rw [hq]; exact LT_in hi hTi) hd, ?_⟩
  ·rw [ht, hq, LT_erase hl hj]
   rfl
  ·rw [← LT_erase hl hj, ← hq, List.length_erase_of_mem h6]
   have := List.length_pos_of_mem h6
   omega
def mostOf (at_ : Nat → Int) : Nat → Int
 |0 => 0
 |i + 1 => max (mostOf at_ i) (at_ i)
theorem most_ge (at_ : Nat → Int) {j : Nat} : ∀ {n : Nat}, j < n → at_ j ≤ mostOf at_ n
 |0, h => absurd h (Nat.not_lt_zero _)
 |n + 1, h => by
  show at_ j ≤ max (mostOf at_ n) (at_ n)
  by_cases e : j = n
  ·subst e; omega
  ·have := most_ge at_ (j := j) (n := n) (by omega); omega
theorem most_b {at_ : Nat → Int} (h1 : ∀ j, at_ j < 1000) : ∀ n, 0 ≤ mostOf at_ n ∧ mostOf at_ n < 1000
 |0 => ⟨Int.le_refl _, by show (0 : Int) < 1000; omega⟩
 |n + 1 => by
  have := most_b h1 n
  have := h1 n
  show 0 ≤ max (mostOf at_ n) (at_ n) ∧ max (mostOf at_ n) (at_ n) < 1000
  omega
/-- Not more urgent than the one ahead. -/
theorem last_ok {i j : Nat} (h : leU (tkA at_ urg i) (tkA at_ urg j)) : ¬ urg i < urg j ∧ (urg j = urg i → ¬ at_ j < at_ i) := by
 unfold leU at h
 rw [urgent_not] at h
 simp only [tkA] at h
 omega
end
end Go.Proofs.Ytacceeefcelkhaa.DueSpec

/- A row of Bools beside a queue. -/
namespace Go.Proofs.Ytacceeefcelkhaa.Al
open Go.RowKit Go.Proofs.Ytacceeefcelkhaa.DueHeap Go.Proofs.Ytacceeefcelkhaa.DueSpec Go.Proofs.YtacceeefcelkhaaW.PrintWords Go.Proofs.YtacceeefcelkhaaW.PrintLast Go.Proofs.YtacceeefcelkhaaW.PrintMore
set_option linter.unusedVariables false
set_option linter.unusedSimpArgs false
def BR (W wr : World) (v : Value) (xs : List Bool) : Prop := Kd.bool.R 4 wr W.heap.size (fun _ => True) v xs
structure QB (W w : World) (gq k : Nat) (q : Qs) (v : Value) (T : List Bool) : Prop where
 q : QZ W w gq k q
 b : BR W w v T
section
variable {W w w1 : World} {gq k g c : Nat} {q : Qs} {v : Value} {T : List Bool}
theorem BR.form (h : BR W w v T) (hp : 0 < T.length) : ∃ g c, v = .slice (some ⟨g, 0, none⟩) T.length c ∧ W.heap.size ≤ g ∧ ∃ cells, w.heap[g]? = some (.cells cells 4 (0, 0)) := by
 obtain ⟨g, c, e, hg, _, hc⟩ := Kd.R_form h hp
 exact ⟨g, c, e, hg, hc⟩
theorem BR.celln {n : Nat} (h : BR W w (.slice (some ⟨g, 0, none⟩) n c) T) (hn : T.length = n) (i : Nat) (hi : i < n) : w.cell? ⟨g, i, none⟩ = some (.bool (T.getD i true)) ∧ w.frozen? ⟨g, i, none⟩ = false := by
 subst hn
 have := Kd.R_cell true h (i : Int) (by omega) (by omega)
 rw [Int.toNat_natCast] at this
 exact this
theorem BR.putn {n : Nat} (h : BR W w (.slice (some ⟨g, 0, none⟩) n c) T) (hn : T.length = n) (i : Nat) (x : Bool) : BR W (w.setCell ⟨g, i, none⟩ (.bool x)) (.slice (some ⟨g, 0, none⟩) n c) (T.set i x) := by
 subst hn
 have := (Kd.R_put h (i : Int) x).1
 rw [Int.toNat_natCast] at this
 exact this
theorem QB.bel (h : QB W w gq k q v T) : Below W.heap.size W w := h.q.bel
theorem QB.drew (h : QB W w gq k q v T) : QB W w.drew gq k q v T := ⟨h.q.below (below_drew (Below.refl _ _)), Kd.R_below h.b (below_drew (Below.refl _ _))⟩
theorem QB.below (h : QB W w gq k q v T) (hb : Below w.heap.size w w1) : QB W w1 gq k q v T := ⟨h.q.below hb, Kd.R_below h.b hb⟩
theorem HP.setT {g' fn t : Nat} {v' : Value} {l : List Tk} {cells : Array Value} (h : HP W w g' fn v' l) (hb : w.heap[g]? = some (.cells cells t (0, 0))) (ht : t ≠ 54 ∧ t ≠ 61) (hg : W.heap.size ≤ g) (j : Nat) (u : Value) : HP W (w.setCell ⟨g, j, none⟩ u) g' fn v' l :=
 ⟨⟨blk_far h.ht.blk (p := ⟨g, j, none⟩) (blk_ne h.ht.blk hb (Ne.symm ht.1)) u, h.ht.ge, Kd.R_grown1 h.ht.row rfl (due_grown w g j u) (Kd.R_ne h.ht.row hb (Ne.symm ht.2)), below_set h.ht.bel hg⟩, h.heap⟩
theorem QZ.setT {t : Nat} {cells : Array Value} (h : QZ W w gq k q) (hb : w.heap[g]? = some (.cells cells t (0, 0))) (ht : t ≠ 56 ∧ t ≠ 54 ∧ t ≠ 61) (hg : W.heap.size ≤ g) (j : Nat) (u : Value) : QZ W (w.setCell ⟨g, j, none⟩ u) gq k q := by
 obtain ⟨gw, gd, vw, vd, lw, ld, hx⟩ := h.ex
 exact ⟨h.ok, gw, gd, vw, vd, lw, ld, ⟨blk_far hx.o.blk (p := ⟨g, j, none⟩) (blk_ne hx.o.blk hb (Ne.symm ht.1)) u, hx.o.ge, hx.o.wt.setT hb ht.2 hg j u, hx.o.du.setT hb ht.2 hg j u, hx.o.ne, hx.o.ap⟩, hx.r⟩
theorem QB.set {n : Nat} (h : QB W w gq k q (.slice (some ⟨g, 0, none⟩) n c) T) (hn : T.length = n) (hp : 0 < n) (i : Nat) (x : Bool) : QB W (w.setCell ⟨g, i, none⟩ (.bool x)) gq k q (.slice (some ⟨g, 0, none⟩) n c) (T.set i x) := by
 obtain ⟨g', c', e, hg, cells, hc⟩ := h.b.form (by omega)
 injection e with e _ _
 injection e with e
 injection e with e
 subst e
 exact ⟨h.q.setT hc (by decide) hg _ _, h.b.putn hn i x⟩
theorem BR.stay {gw gd : Nat} {vw vd vw1 vd1 : Value} {lw ld : List Tk} {now put : Int} (h : BR W w v T) (k : QO W w gq gw gd now put vw vd lw ld) (hs : QStep w w1 gq gw gd vw vd vw1 vd1) : BR W w1 v T := by
 refine Kd.R_mono (Kd.R_move (Kd.R_bound (Kd.R_tight rfl h)) (fun j hj => ?_)) (fun _ _ => trivial)
 obtain ⟨h1, _, h3, q, hq, cells, hc⟩ := hj
 obtain rfl : q = 4 := by rcases List.mem_cons.1 hq with h | h; exact h; simp [Kd.bool, Kd.scalar] at h
 exact hs.keep j h3 (blk_ne hc k.blk (by decide)) (blk_ne hc k.wt.ht.blk (by decide)) (blk_ne hc k.du.ht.blk (by decide)) (Ne.symm (Kd.R_ne k.wt.ht.row hc (by decide))) (Ne.symm (Kd.R_ne k.du.ht.row hc (by decide)))
theorem b_go (h : QB W w gq k q v T) (tt : Int) : Calls Try.prog 12 #[.pointer (some ⟨gq, 0, none⟩), .int .i64 tt] w fun e w' => e = .returned (.int .i64 (goQ q tt).2) ∧ QB W w' gq k (goQ q tt).1 v T := by
 obtain ⟨gw, gd, vw, vd, lw, ld, hx⟩ := h.q.ex
 exact (qgo_calls W w gq gw gd q vw vd lw ld hx k h.q.ok tt).mono (by rintro e w' ⟨rfl, vw', vd', lw', ld', hq, hs⟩; exact ⟨rfl, ⟨h.q.ok.go_ tt, gw, gd, vw', vd', lw', ld', hq⟩, h.b.stay hx.o hs⟩)
theorem b_take (h : QB W w gq k q v T) : Calls Try.prog 13 #[.pointer (some ⟨gq, 0, none⟩)] w fun e w' => e = .returned (.tuple #[.int .i64 (takeQ q).2.1, .bool (takeQ q).2.2]) ∧ QB W w' gq k (takeQ q).1 v T := by
 obtain ⟨gw, gd, vw, vd, lw, ld, hx⟩ := h.q.ex
 exact (qtake_calls W w gq gw gd q vw vd lw ld hx k h.q.ok).mono (by rintro e w' ⟨rfl, vw', vd', lw', ld', hq, hs⟩; exact ⟨rfl, ⟨h.q.ok.take_, gw, gd, vw', vd', lw', ld', hq⟩, h.b.stay hx.o hs⟩)
theorem b_now (h : QB W w gq k q v T) : Calls Try.prog 11 #[.pointer (some ⟨gq, 0, none⟩)] w fun e w' => e = .returned (.int .i64 q.now) ∧ QB W w' gq k q v T ∧ Below w.heap.size w w' := by
 obtain ⟨gw, gd, vw, vd, lw, ld, hx⟩ := h.q.ex
 exact (qnow_calls W w gq gw gd q vw vd lw ld hx).mono (by rintro e w' ⟨rfl, hb⟩; exact ⟨rfl, h.below hb, hb⟩)
theorem QZ.grown0 (h : QZ W w gq k q) (hg : w.grownBy w1 none) (hb : Below W.heap.size W w1) : QZ W w1 gq k q := by
 obtain ⟨gw, gd, vw, vd, lw, ld, hx⟩ := h.ex
 have hH : ∀ {g fn : Nat} {v : Value} {l : List Tk}, HP W w g fn v l → HP W w1 g fn v l := fun {g fn v l} h => ⟨⟨(hg.block g (blk_lt h.ht.blk) (by simp)).trans h.ht.blk, h.ht.ge, Kd.R_grown h.ht.row hg (fun _ _ => by simp), hb⟩, h.heap⟩
 exact ⟨h.ok, gw, gd, vw, vd, lw, ld, ⟨(hg.block gq (blk_lt hx.o.blk) (by simp)).trans hx.o.blk, hx.o.ge, hH hx.o.wt, hH hx.o.du, hx.o.ne, hx.o.ap⟩, hx.r⟩
end
theorem cells29 {w : World} {ad : Addr} {n : Nat} {xs : List S29} (h : Kd.C k29 w (some ad) n xs) (i : Nat) (h1 : i < n) : w.cell? (ad.add (i * 2)) = some (.int .i64 (rd_T29 xs i).f0) ∧ w.cell? ⟨(ad.add (i * 2)).block, (ad.add (i * 2)).off + 1, none⟩ = some (.int .i64 (rd_T29 xs i).f1) := by
 obtain ⟨ad', e, h⟩ := at_T29 h i h1
 injection e with e
 subst e
 exact h
theorem info4 : (Try.prog.info? 4).map (fun i => (i.zero, i.size, i.bytes)) = some (some (.bool false), 1, 1) := by kernel_rfl
end Go.Proofs.Ytacceeefcelkhaa.Al

/- An argument of any shape that is read: what the walk's contracts ask of it, and its bounds by the row's own reach and by the second form's bulk. -/
namespace Go.Proofs.Ytacceeefcelkhaa.Open
open Go.RowKit Go.Proofs.YtacceeefcelkhaaW.PrintWords

/-- Whatever reads as data of type t is told by d: V always, L where each string and slice is within the reach, m is within the bulk. -/
structure Opens {α : Type} (P : Program) (t : TypeId) (d : Kd α) (V L : α → Prop) (m : α → Nat) : Prop where
 out : ∀ {H : Type} {enc : TypeId × Value → H} {w : World} {base : Nat} {spare : Nat → Bool} {held : Bool} {fuel : Nat} {cs : List Value} {x : DataW H × List MemPlace}, DataW.trod enc P w base spare held fuel t cs = some x →
  ∃ a : α, d.K w a cs ∧ V a ∧ ((DataW.weights P t x.1).all (· ≤ reachBytes) = true → L a) ∧ m a ≤ Rows.uptoBulk x.1

theorem opens_int {P : Program} {t : TypeId} {k : IntKind} (ht : P.underlying t = some (.int k)) : Opens P t (Kd.int k) (fun n => (Lit.int k n).wf = true) (fun _ => True) (fun _ => 1) where
 out h := by
  obtain ⟨n, rfl, rfl, hw⟩ := DataW.trod_int ht h
  exact ⟨n, rfl, hw, fun _ => trivial, Nat.le_refl _⟩
theorem opens_bool {P : Program} {t : TypeId} (ht : P.underlying t = some .bool) : Opens P t Kd.bool (fun _ => True) (fun _ => True) (fun _ => 1) where
 out h := by
  obtain ⟨n, rfl, rfl⟩ := DataW.trod_bool ht h
  exact ⟨n, rfl, trivial, fun _ => trivial, Nat.le_refl _⟩
theorem opens_string {P : Program} {t : TypeId} (ht : P.underlying t = some .string) : Opens P t Kd.string (fun s => s.size ≤ maxLen) (fun s => s.size ≤ 140737488351232) (fun s => s.size + 1) where
 out h := by
  obtain ⟨s, rfl, rfl, hw⟩ := DataW.trod_string ht h
  refine ⟨s, rfl, hw, fun hx => ?_, ?_⟩
  ·simp only [DataW.weights, List.all_cons, List.all_nil, Bool.and_true, decide_eq_true_eq, data_length] at hx
   exact hx
  ·simp [Rows.uptoBulk]

theorem add_add (a : Addr) (m j : Nat) : (a.add m).add j = a.add (m + j) := by
 unfold Addr.add
 by_cases hm : m = 0 <;> by_cases hj : j = 0 <;> simp [hm, hj, Nat.add_assoc]
theorem mapM_some {β γ : Type} {f : β → Option γ} : ∀ {l : List β} {r : List γ}, l.mapM f = some r → r.length = l.length ∧ ∀ i (h : i < l.length), f l[i] = r[i]?
 |[], r, h => by simp at h; subst h; simp
 |b :: l, r, h => by
  rw [List.mapM_cons] at h
  simp only [Option.bind_eq_bind, Option.bind_eq_some_iff, Option.pure_def, Option.some.injEq] at h
  obtain ⟨c, hc, q, hq, rfl⟩ := h
  obtain ⟨hl, hi⟩ := mapM_some hq
  refine ⟨by simp [hl], fun i h => ?_⟩
  cases i with
  |zero => simpa using hc
  |succ i => simpa using hi i (by simpa using h)
theorem cells_get {w : World} {base : Nat} {a : Addr} {n : Nat} {cs : List Value} (h : w.cells? base a n = some cs) : cs.length = n ∧ ∀ i u, cs[i]? = some u → w.cell? (a.add i) = some u := by
 unfold World.cells? at h
 split at h
 ·obtain ⟨hl, hi⟩ := mapM_some h
  simp at hl
  refine ⟨hl, fun i u hu => ?_⟩
  have hlt : i < cs.length := (List.getElem?_eq_some_iff.1 hu).1
  have := hi i (by simp; omega)
  simpa [hu] using this
 ·cases h

theorem list_of {α : Type} {Q : Nat → α → Prop} : ∀ n, (∀ i, i < n → ∃ a, Q i a) → ∃ l : List α, l.length = n ∧ ∀ i a, l[i]? = some a → Q i a
 |0, _ => ⟨[], rfl, fun i a h => by simp at h⟩
 |n + 1, h => by
  obtain ⟨l, hl, hq⟩ := list_of n (fun i hi => h i (by omega))
  obtain ⟨a, ha⟩ := h n (by omega)
  refine ⟨l ++ [a], by simp [hl], fun i b hb => ?_⟩
  by_cases hi : i < n
  ·rw [List.getElem?_append_left (by omega)] at hb
   exact hq i b hb
  ·have hlt := (List.getElem?_eq_some_iff.1 hb).1
   simp at hlt
   obtain rfl : i = n := by omega
   rw [List.getElem?_append_right (by omega), hl] at hb
   simp at hb
   exact hb ▸ ha
theorem all_append {l r : List Nat} {p : Nat → Bool} : (l ++ r).all p = true ↔ l.all p = true ∧ r.all p = true := by rw [List.all_append, Bool.and_eq_true]
theorem weights_all {H : Type} {P : Program} {e : TypeId} {p : Nat → Bool} : ∀ {ds : List (DataW H)}, (DataW.weightsAll P e ds).all p = true → ∀ d ∈ ds, (DataW.weights P e d).all p = true
 |[], _, d, hd => by simp at hd
 |d0 :: ds, h, d, hd => by
  rw [DataW.weightsAll, all_append] at h
  rcases List.mem_cons.1 hd with rfl | hd
  ·exact h.1
  ·exact weights_all h.2 d hd
theorem bulk_all {H α : Type} {m : α → Nat} : ∀ {l : List α} {ds : List (DataW H)}, l.length = ds.length → (∀ (i : Nat) (a : α) (y : DataW H), l[i]? = some a → ds[i]? = some y → m a ≤ Rows.uptoBulk y) → (l.map m).sum ≤ Rows.uptoBulkAll ds
 |[], [], _, _ => by simp [Rows.uptoBulkAll]
 |a :: l, d :: ds, hl, h => by
  have ih := bulk_all (l := l) (ds := ds) (by simpa using hl) (fun i a y h1 h2 => h (i + 1) a y (by simpa using h1) (by simpa using h2))
  have h0 := h 0 a d rfl rfl
  simp only [List.map_cons, List.sum_cons, Rows.uptoBulkAll]
  omega
 |[], _ :: _, hl, _ => by simp at hl
 |_ :: _, [], hl, _ => by simp at hl

theorem opens_slice {α : Type} {P : Program} {t e : TypeId} {d : Kd α} {V L : α → Prop} {m : α → Nat} (q : Nat) (b : Nat) (ht : P.underlying t = some (.slice e)) (hsz : P.cellsOf e = d.sz) (hb : P.bytesOf e = b) (ho : Opens P e d V L m) :
  Opens P t (Kd.slice q d) (fun l => ∀ a ∈ l, V a) (fun l => l.length * b ≤ 140737488351232 ∧ ∀ a ∈ l, L a) (fun l => (l.map m).sum + 1) where
 out {H enc w base spare held fuel cs x} h := by
  rcases DataW.trod_slice ht h with ⟨rfl, rfl⟩ | ⟨ad, len, cap, elems, rest, n, rfl, rfl, rfl, hbase, hlc, hcm, hlen, hel, hsp, hns⟩
  ·exact ⟨[], ⟨none, 0, rfl, Nat.le_refl _, rfl, by simp, fun h => absurd h (by simp)⟩, by simp, fun _ => by simp, by simp [Rows.uptoBulk]⟩
  obtain ⟨l, hl, hq⟩ := list_of (Q := fun i a => (∃ c, c.length = d.sz ∧ d.K w a c ∧ (∀ j u, c[j]? = some u → w.cell? (ad.add (i * d.sz + j)) = some u)) ∧ V a ∧ (∀ y, elems[i]? = some y → ((DataW.weights P e y.1).all (· ≤ reachBytes) = true → L a) ∧ m a ≤ Rows.uptoBulk y.1)) len (by
   intro i hi
   have hy : elems[i]? = some (elems[i]'(by omega)) := List.getElem?_eq_getElem (by omega)
   have h1 := hel i hi
   rw [hy, Option.bind_eq_some_iff] at h1
   obtain ⟨c, hc, hx⟩ := h1
   obtain ⟨a, hK, hV, hL, hm⟩ := ho.out hx
   obtain ⟨hcl, hcc⟩ := cells_get hc
   rw [hsz] at hcl hcc
   refine ⟨a, ⟨c, hcl, hK, fun j u hu => by rw [← add_add]; exact hcc j u hu⟩, hV, fun y hy' => ?_⟩
   rw [hy] at hy'
   obtain rfl := Option.some.inj hy'
   exact ⟨hL, hm⟩)
  have hmax : len ≤ 9223372036854775807 := by unfold maxLen at hcm; omega
  have mem : ∀ a ∈ l, ∃ i, l[i]? = some a := fun a ha => List.mem_iff_getElem?.1 ha
  refine ⟨l, ⟨some ad, cap, by rw [hl], by omega, rfl, by omega, fun _ => ⟨ad, rfl, fun j p hp => ?_⟩⟩, ?_, ?_, ?_⟩
  ·obtain ⟨⟨c, hcl, hK, hcc⟩, _⟩ := hq j p hp
   exact ⟨c, hcl, hK, hcc⟩
  ·intro a ha
   obtain ⟨i, hi⟩ := mem a ha
   exact (hq i a hi).2.1
  ·intro hw
   simp only [DataW.weights, ht, List.all_cons, Bool.and_eq_true, decide_eq_true_eq, all_append, List.length_map, hb] at hw
   obtain ⟨hw1, hw2, _⟩ := hw
   have hw1' : (elems.length + rest.length) * b ≤ 140737488351232 := hw1
   refine ⟨?_, ?_⟩
   ·rw [hl, ← hlen]
    exact Nat.le_trans (Nat.mul_le_mul_right b (Nat.le_add_right _ _)) hw1'
   ·intro a ha
    obtain ⟨i, hi⟩ := mem a ha
    have hlt : i < elems.length := by have := (List.getElem?_eq_some_iff.1 hi).1; omega
    refine ((hq i a hi).2.2 _ (List.getElem?_eq_getElem hlt)).1 (weights_all hw2 _ ?_)
    exact List.mem_map.2 ⟨_, List.getElem_mem hlt, rfl⟩
  ·have hbk : (l.map m).sum ≤ Rows.uptoBulkAll (elems.map (·.1)) := bulk_all (by rw [hl, List.length_map, hlen]) (fun i a y h1 h2 => by
    rw [List.getElem?_map, Option.map_eq_some_iff] at h2
    obtain ⟨z, hz, rfl⟩ := h2
    exact ((hq i a h1).2.2 z hz).2)
   simp only [Rows.uptoBulk]
   omega

/-- The fields of a struct, one behind the other, from a place on. -/
structure OpensF {α : Type} (P : Program) (off : Nat) (fs : List Field) (d : Kd α) (V L : α → Prop) (m : α → Nat) : Prop where
 out : ∀ {H : Type} {enc : TypeId × Value → H} {w : World} {base : Nat} {spare : Nat → Bool} {held : Bool} {fuel : Nat} {cs : List Value} {xs : List (DataW H × List MemPlace)},
  fs.mapM (fun f => DataW.trod enc P w base spare held fuel f.type ((cs.drop f.offset).take (P.cellsOf f.type))) = some xs → cs.length = off + d.sz →
  ∃ a : α, d.K w a (cs.drop off) ∧ V a ∧ ((DataW.weightsEach P (fs.map (·.type)) (xs.map (·.1))).all (· ≤ reachBytes) = true → L a) ∧ m a ≤ Rows.uptoBulkAll (xs.map (·.1))
theorem opensF_one {α : Type} {P : Program} {off : Nat} {f : Field} {d : Kd α} {V L : α → Prop} {m : α → Nat} (ho : Opens P f.type d V L m) (hoff : f.offset = off) (hsz : P.cellsOf f.type = d.sz) : OpensF P off [f] d V L m where
 out {H enc w base spare held fuel cs xs} h hl := by
  obtain ⟨h1, h2⟩ := mapM_some h
  have e : xs = [xs[0]'(by rw [h1]; simp)] := by
   apply List.ext_getElem
   ·simpa using h1
   ·intro i hi _
    have : i = 0 := by rw [h1] at hi; simpa using hi
    subst this
    rfl
  have h3 := h2 0 (by simp)
  rw [List.getElem?_eq_getElem (by rw [h1]; simp)] at h3
  simp only [List.getElem_cons_zero] at h3
  rw [hoff, hsz, List.take_of_length_le (by rw [List.length_drop]; omega)] at h3
  obtain ⟨a, hK, hV, hL, hm⟩ := ho.out h3
  refine ⟨a, hK, hV, fun hw => hL ?_, ?_⟩
  ·rw [e] at hw
   simpa [DataW.weightsEach] using hw
  ·rw [e]
   simpa [Rows.uptoBulkAll] using hm
theorem opensF_cons {α β : Type} {P : Program} {off : Nat} {f : Field} {fs : List Field} {d : Kd α} {V L : α → Prop} {m : α → Nat} {d' : Kd β} {V' L' : β → Prop} {m' : β → Nat}
  (ho : Opens P f.type d V L m) (hoff : f.offset = off) (hsz : P.cellsOf f.type = d.sz) (hr : OpensF P (off + d.sz) fs d' V' L' m') :
  OpensF P off (f :: fs) (Kd.pair d d') (fun a => V a.1 ∧ V' a.2) (fun a => L a.1 ∧ L' a.2) (fun a => m a.1 + m' a.2) where
 out {H enc w base spare held fuel cs xs} h hl := by
  rw [List.mapM_cons] at h
  simp only [Option.bind_eq_bind, Option.bind_eq_some_iff, Option.pure_def, Option.some.injEq] at h
  obtain ⟨x, hx, xs', hxs, rfl⟩ := h
  rw [hoff, hsz] at hx
  have hl' : cs.length = off + (d.sz + d'.sz) := hl
  obtain ⟨a, hK, hV, hL, hm⟩ := ho.out hx
  obtain ⟨b, hK', hV', hL', hm'⟩ := hr.out hxs (by omega)
  refine ⟨(a, b), ⟨_, _, ?_, hK, hK'⟩, ⟨hV, hV'⟩, fun hw => ?_, ?_⟩
  ·rw [← List.drop_drop, List.take_append_drop]
  ·simp only [List.map_cons, DataW.weightsEach, all_append] at hw
   exact ⟨hL hw.1, hL' hw.2⟩
  ·simp only [List.map_cons, Rows.uptoBulkAll]
   omega
theorem opens_struct {α β : Type} {P : Program} {t : TypeId} {fs : Array Field} {d : Kd α} {V L : α → Prop} {m : α → Nat} (f : β → α) (g : α → β) (hfg : ∀ a, f (g a) = a) (ht : P.underlying t = some (.struct fs)) (hsz : P.cellsOf t = d.sz) (hf : OpensF P 0 fs.toList d V L m) :
  Opens P t (Kd.iso d f) (fun b => V (f b)) (fun b => L (f b)) (fun b => m (f b) + 1) where
 out {H enc w base spare held fuel cs x} h := by
  cases fuel with
  |zero => simp [DataW.trod] at h
  |succ n =>
   unfold DataW.trod at h
   rw [ht] at h
   simp only at h
   split at h
   ·rename_i hl
    rw [Option.map_eq_some_iff] at h
    obtain ⟨xs, hxs, rfl⟩ := h
    obtain ⟨a, hK, hV, hL, hm⟩ := hf.out hxs (by omega)
    refine ⟨g a, ?_, ?_, ?_, ?_⟩
    ·show d.K w (f (g a)) cs
     rw [hfg]
     simpa using hK
    ·show V (f (g a))
     rw [hfg]; exact hV
    ·intro hw
     show L (f (g a))
     rw [hfg]
     simp only [DataW.weights, ht] at hw
     exact hL hw
    ·rw [hfg]
     simp only [Rows.uptoBulk]
     omega
   ·cases h
end Go.Proofs.Ytacceeefcelkhaa.Open
