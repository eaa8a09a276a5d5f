/- What the laws stand on, in one text: functions of the program by their contracts, the plain mathematics behind them, and such of the printed words as these use. It began as the kit's print and own texts; put together by a program (trim.py). -/
import Derived.Test.YtelgpkbnahgdoaaPre
import Derived.Deep.RegionHeld3
import Derived.IntWalk

namespace Go.Proofs.Ytelgpkbnahgdoaa.Al
open Go.RowKit Go.Proofs.YtelgpkbnahgdoaaW.PrintWords Go.Proofs.YtelgpkbnahgdoaaW.PrintLast Go.Proofs.YtelgpkbnahgdoaaW.PrintMore
attribute [local go_sem] max2_int min2_int max_two min_two max_three min_three max_four min_four   -- for this text's walks alone
set_option linter.unusedVariables false
set_option linter.unusedSimpArgs false
def corncribref07_Bytes.l0 : Nat → Int → Int → Int → Int → Int → Int → Int → ByteArray → List ByteArray → List (S49) → List Int → List ByteArray → Option (ByteArray)
 |0, _, _, _, _, _, _, _, _, _, _, _, _ => none
 |k + 1, x4, x203000, x203001, x203002, x203003, x203004, x203005, x203006, x203007, x203008, x210000, x210001 => if x4 < (x203008.length : Int) then (if 0 ≤ x4 then ((corncribref07_One.f ((rd_T49 x203008 x4).f2)).bind fun t214 => (if x210000.length < 17592186044416 then (if x210001.length < 8796093022208 then ((some (x210001 ++ [(rd_T49 x203008 x4).f0] : List ByteArray)).bind fun y219 => (if y219.length < 8796093022208 then (corncribref07_Bytes.l0 k (wrap64 (x4 + 1)) x203000 x203001 x203002 x203003 x203004 x203005 x203006 x203007 x203008 (x210000 ++ [t214]) (y219 ++ [(rd_T49 x203008 x4).f1])) else (none))) else (none)) else (none))) else (none)) else ((corncribref06_Bytes.f k x210000 x210001).bind fun t226 => (some t226))
def corncribref07_Bytes.f (k : Nat) (a0_0 : Int) (a0_1 : Int) (a0_2 : Int) (a0_3 : Int) (a0_4 : Int) (a0_5 : Int) (a0_6 : ByteArray) (l0_7 : List ByteArray) (l0_8 : List (S49)) : Option (ByteArray) := (some (([a0_6] : List ByteArray) : List ByteArray)).bind fun y206 => (if y206.length + l0_7.length < 8796093022208 then (corncribref07_Bytes.l0 k 0 a0_0 a0_1 a0_2 a0_3 a0_4 a0_5 a0_6 l0_7 l0_8 (([a0_0, a0_1, a0_2, a0_3, a0_4, a0_5, (l0_7.length : Int)] : List Int)) (y206 ++ l0_7)) else (none))
theorem corncribref07_Bytes.mono_l : ∀ k, (∀ y0 y1 y2 y3 y4 y5 y6 y7 y8 y9 y10 y11, LeO (corncribref07_Bytes.l0 k y0 y1 y2 y3 y4 y5 y6 y7 y8 y9 y10 y11) (corncribref07_Bytes.l0 (k + 1) y0 y1 y2 y3 y4 y5 y6 y7 y8 y9 y10 y11))
 |0 => fun _ _ _ _ _ _ _ _ _ _ _ _ r h => by simp [corncribref07_Bytes.l0] at h
 |k + 1 => by
  have ih0 := corncribref07_Bytes.mono_l k
  ·intro y0 y1 y2 y3 y4 y5 y6 y7 y8 y9 y10 y11
   unfold corncribref07_Bytes.l0
   repeat' first
   |(with_reducible exact ih0 _ _ _ _ _ _ _ _ _ _ _ _)
   |(with_reducible exact corncribref06_Bytes.mono _ _ _)
   |(with_reducible exact LeO.refl _)
   |(with_reducible exact LeO.none _)
   |(with_reducible refine LeO.ite ?_ ?_)
   |(with_reducible refine LeO.bind ?_ (fun _ => ?_))
   |exact ih0 _ _ _ _ _ _ _ _ _ _ _ _
   |exact corncribref06_Bytes.mono _ _ _
   |exact LeO.none _
   |refine LeO.ite ?_ ?_
   |refine LeO.bind ?_ (fun _ => ?_)
theorem corncribref07_Bytes.mono : ∀ a0 a1 a2 a3 a4 a5 a6 a7 a8 k, LeO (corncribref07_Bytes.f k a0 a1 a2 a3 a4 a5 a6 a7 a8) (corncribref07_Bytes.f (k + 1) a0 a1 a2 a3 a4 a5 a6 a7 a8) := by
 intro a0 a1 a2 a3 a4 a5 a6 a7 a8 k
 have ih0 := corncribref07_Bytes.mono_l k
 unfold corncribref07_Bytes.f
 repeat' first
   |(with_reducible exact ih0 _ _ _ _ _ _ _ _ _ _ _ _)
   |(with_reducible exact corncribref06_Bytes.mono _ _ _)
   |(with_reducible exact LeO.refl _)
   |(with_reducible exact LeO.none _)
   |(with_reducible refine LeO.ite ?_ ?_)
   |(with_reducible refine LeO.bind ?_ (fun _ => ?_))
   |exact ih0 _ _ _ _ _ _ _ _ _ _ _ _
   |exact corncribref06_Bytes.mono _ _ _
   |exact LeO.none _
   |refine LeO.ite ?_ ?_
   |refine LeO.bind ?_ (fun _ => ?_)
def corncribref07_Bytes.T6 : Bool × List (List Nat × List Nat) := (true, [([], []), ([0], [0]), ([], []), ([2], [2]), ([], []), ([3, 4], [3, 4]), ([5], [5]), ([6], [6]), ([7], [7]), ([8], [8]), ([1, 9, 8], [1, 9]), ([0, 1, 2, 3, 4, 5, 6, 7, 8, 9, 10], []), ([11, 10, 10, 0, 1, 2, 3, 4, 5, 6, 7, 8, 9, 10], [10, 11])])
def corncribref07_Bytes.B6 : List Nat := [0, 1, 0, 4, 0, 28, 60, 124, 252, 508, 1023, 2047, 4095]
theorem corncribref07_Bytes.tab6 : rtab .any (opsOf Try.f27 6) = corncribref07_Bytes.T6 := by kernel_rfl
theorem corncribref07_Bytes.bits6 : waitsOk corncribref07_Bytes.T6.2 corncribref07_Bytes.B6 = true := by kernel_rfl
def corncribref07_Bytes.T7 : Bool × List (List Nat × List Nat) := (true, [([], []), ([0], [0]), ([], []), ([2], [2]), ([], []), ([3, 4], [3, 4]), ([5], [5]), ([6], [6]), ([7], [7]), ([1, 8], [1, 8]), ([0, 1, 2, 3, 4, 5, 6, 7, 8, 9], []), ([10, 9, 9, 0, 1, 2, 3, 4, 5, 6, 7, 8, 9], [9, 10])])
def corncribref07_Bytes.B7 : List Nat := [0, 1, 0, 4, 0, 28, 60, 124, 252, 511, 1023, 2047]
theorem corncribref07_Bytes.tab7 : rtab .any (opsOf Try.f27 7) = corncribref07_Bytes.T7 := by kernel_rfl
theorem corncribref07_Bytes.bits7 : waitsOk corncribref07_Bytes.T7.2 corncribref07_Bytes.B7 = true := by kernel_rfl
def corncribref07_Bytes.T8 : Bool × List (List Nat × List Nat) := (true, [([], []), ([0], [0]), ([], []), ([2], [2]), ([], []), ([3, 4], [3, 4]), ([5], [5]), ([6], [6]), ([7], [7]), ([1, 8], [1, 8]), ([0, 1, 2, 3, 4, 5, 6, 7, 8, 9], []), ([10, 9, 9, 0, 1, 2, 3, 4, 5, 6, 7, 8, 9], [9, 10])])
def corncribref07_Bytes.B8 : List Nat := [0, 1, 0, 4, 0, 28, 60, 124, 252, 511, 1023, 2047]
theorem corncribref07_Bytes.tab8 : rtab .any (opsOf Try.f27 8) = corncribref07_Bytes.T8 := by kernel_rfl
theorem corncribref07_Bytes.bits8 : waitsOk corncribref07_Bytes.T8.2 corncribref07_Bytes.B8 = true := by kernel_rfl
set_option maxHeartbeats 8000000 in
set_option maxRecDepth 100000 in
theorem corncribref07_Bytes.calls (k : Nat) (a0_0 : Int) (a0_1 : Int) (a0_2 : Int) (a0_3 : Int) (a0_4 : Int) (a0_5 : Int) (a0_6 : ByteArray) (A0_7 : Option Addr) (c0_7 : Nat) (l0_7 : List ByteArray) (A0_8 : Option Addr) (c0_8 : Nat) (l0_8 : List (S49)) (r : ByteArray) (w : World) (hr0_7 : Kd.C Kd.string w A0_7 l0_7.length l0_7) (hc0_7 : l0_7.length ≤ c0_7) (hr0_8 : Kd.C k49 w A0_8 l0_8.length l0_8) (hc0_8 : l0_8.length ≤ c0_8) (h : corncribref07_Bytes.f k a0_0 a0_1 a0_2 a0_3 a0_4 a0_5 a0_6 l0_7 l0_8 = some r) :
  Calls Try.prog 27 #[.agg #[.int .i64 a0_0, .int .i64 a0_1, .int .i64 a0_2, .int .i64 a0_3, .int .i64 a0_4, .int .i64 a0_5, .string a0_6, .slice A0_7 l0_7.length c0_7, .slice A0_8 l0_8.length c0_8]] w fun e w' => e = .returned (.string r) ∧ Below w.heap.size w w' := by
 have hu25 := Try.underlying25
 have hu47 := Try.underlying47
 have HR0_7 := Aside0.mk hr0_7
 have HC0_7 := Aside0.mk hc0_7
 clear hr0_7 hc0_7
 have HR0_8 := Aside0.mk hr0_8
 have HC0_8 := Aside0.mk hc0_8
 clear hr0_8 hc0_8
 have HB := Aside0.mk (Below.refl w.heap.size w)
 have H : ((some (([a0_6] : List ByteArray) : List ByteArray)).bind fun y206 => (if y206.length + l0_7.length < 8796093022208 then (corncribref07_Bytes.l0 k 0 a0_0 a0_1 a0_2 a0_3 a0_4 a0_5 a0_6 l0_7 l0_8 (([a0_0, a0_1, a0_2, a0_3, a0_4, a0_5, (l0_7.length : Int)] : List Int)) (y206 ++ l0_7)) else (none))) = some r := h
 clear h
 obtain ⟨y203, hy203⟩ : ∃ y_ : List Int, y_ = (([a0_0, a0_1, a0_2, a0_3, a0_4, a0_5, (l0_7.length : Int)] : List Int)) := ⟨_, rfl⟩
 replace H : ((some (([a0_6] : List ByteArray) : List ByteArray)).bind fun y206 => (if y206.length + l0_7.length < 8796093022208 then (corncribref07_Bytes.l0 k 0 a0_0 a0_1 a0_2 a0_3 a0_4 a0_5 a0_6 l0_7 l0_8 y203 (y206 ++ l0_7)) else (none))) = some r := by first | (rw [hy203]; with_reducible exact H) | (have H2_ := (Option.bind_some _ _).symm.trans H; rw [hy203]; with_reducible exact H2_) | (have H2_ := (Option.bind_some _ _).symm.trans H; with_reducible exact H2_) | with_reducible exact H | (rw [hy203]; exact H) | exact H
 have Ny203 := Aside0.mk hy203
 clear hy203
 obtain ⟨y206, hy206⟩ : ∃ y_ : List ByteArray, y_ = (([a0_6] : List ByteArray)) := ⟨_, rfl⟩
 replace H : (if y206.length + l0_7.length < 8796093022208 then (corncribref07_Bytes.l0 k 0 a0_0 a0_1 a0_2 a0_3 a0_4 a0_5 a0_6 l0_7 l0_8 y203 (y206 ++ l0_7)) else (none)) = some r := by first | (rw [hy206]; with_reducible exact H) | (have H2_ := (Option.bind_some _ _).symm.trans H; rw [hy206]; with_reducible exact H2_) | (have H2_ := (Option.bind_some _ _).symm.trans H; with_reducible exact H2_) | with_reducible exact H | (rw [hy206]; exact H) | exact H
 have Ny206 := Aside0.mk hy206
 clear hy206
 by_cases c2 : y206.length + l0_7.length < 8796093022208
 ·rw [if_pos c2] at H
  have LMc2 := Aside0.mk c2
  clear c2
  obtain ⟨y210, hy210⟩ : ∃ y_ : List ByteArray, y_ = (y206 ++ l0_7) := ⟨_, rfl⟩
  replace H : (corncribref07_Bytes.l0 k 0 a0_0 a0_1 a0_2 a0_3 a0_4 a0_5 a0_6 l0_7 l0_8 y203 y210) = some r := by first | (rw [hy210]; with_reducible exact H) | (have H2_ := (Option.bind_some _ _).symm.trans H; rw [hy210]; with_reducible exact H2_) | (have H2_ := (Option.bind_some _ _).symm.trans H; with_reducible exact H2_) | with_reducible exact H | (rw [hy210]; exact H) | exact H
  have Ny210 := Aside0.mk hy210
  clear hy210
  have H' := Aside0.mk H
  clear H
  go_enter Try.func27, Try.ntmps27
  go_wp2_with (first | ((with_reducible refine gate_dst (N := 1) rfl ?_); refine box_event ?hg (N := 1) ?hd (cs := #[.int .i64 a0_0, .int .i64 a0_1, .int .i64 a0_2, .int .i64 a0_3, .int .i64 a0_4, .int .i64 a0_5, .string a0_6, .slice A0_7 l0_7.length c0_7, .slice A0_8 l0_8.length c0_8]) (t := 25) ?hr ?_; (case hd => rfl); (case hg => rfl); (case hr => first | (go_simp; done) | (go_simp; rfl)); intro gb202 hg w3 hbox hb; have n0_ := Aside0.mk (below_step (by repeat (first | (with_reducible first | exact HB.out | apply below_alloc | apply pw_below_drewN | apply below_drew1) | exact HB.out)) hb); have n1_ := Aside0.mk (hbox); have n2_ := Aside0.mk ((by rw [hg]; exact (below_size (by repeat (first | (with_reducible first | exact HB.out | apply below_alloc | apply pw_below_drewN | apply below_drew1) | exact HB.out))) : w.heap.size ≤ gb202)); have n3_ := Aside0.mk ((by rw [hg]; exact (below_size (by repeat (first | (with_reducible first | exact HB.out | apply below_alloc | apply pw_below_drewN | apply below_drew1) | exact HB.out))) : w.heap.size ≤ gb202)); clear HB; have HB := n0_; have BK202 := n1_; have GW202 := n2_; have GE202 := n3_; clear n0_ n1_ n2_ n3_; clear hb hbox hg; have hcz4_0 : w3.cell? ⟨gb202, 0, none⟩ = some (.int .i64 a0_0) := (blk_cell BK202.out 0).trans rfl; have hcz4_1 : w3.cell? ⟨gb202, 1, none⟩ = some (.int .i64 a0_1) := (blk_cell BK202.out 1).trans rfl; have hcz4_2 : w3.cell? ⟨gb202, 2, none⟩ = some (.int .i64 a0_2) := (blk_cell BK202.out 2).trans rfl; have hcz4_3 : w3.cell? ⟨gb202, 3, none⟩ = some (.int .i64 a0_3) := (blk_cell BK202.out 3).trans rfl; have hcz4_4 : w3.cell? ⟨gb202, 4, none⟩ = some (.int .i64 a0_4) := (blk_cell BK202.out 4).trans rfl; have hcz4_5 : w3.cell? ⟨gb202, 5, none⟩ = some (.int .i64 a0_5) := (blk_cell BK202.out 5).trans rfl; have hcz4_6 : w3.cell? ⟨gb202, 6, none⟩ = some (.string a0_6) := (blk_cell BK202.out 6).trans rfl; have hcz4_7 : w3.cell? ⟨gb202, 7, none⟩ = some (.slice A0_7 l0_7.length c0_7) := (blk_cell BK202.out 7).trans rfl; have hcz4_8 : w3.cell? ⟨gb202, 8, none⟩ = some (.slice A0_8 l0_8.length c0_8) := (blk_cell BK202.out 8).trans rfl; have hfz4_0 := blk_frozen BK202.out 0; have hfz4_1 := blk_frozen BK202.out 1; have hfz4_2 := blk_frozen BK202.out 2; have hfz4_3 := blk_frozen BK202.out 3; have hfz4_4 := blk_frozen BK202.out 4; have hfz4_5 := blk_frozen BK202.out 5; have hfz4_6 := blk_frozen BK202.out 6; have hfz4_7 := blk_frozen BK202.out 7; have hfz4_8 := blk_frozen BK202.out 8) | ((with_reducible refine gate_dst (N := 20) rfl ?_); refine Kd.R_lit (Kd.int .i64) _ 3 ?hg (N := 20) ?hd (xs := ([a0_0, a0_1, a0_2, a0_3, a0_4, a0_5, (l0_7.length : Int)] : List Int)) (inner := [.int .i64 a0_0, .int .i64 a0_1, .int .i64 a0_2, .int .i64 a0_3, .int .i64 a0_4, .int .i64 a0_5, .int .i64 (l0_7.length : Int)]) (ok := fun _ => True) (okp := fun _ => True) ?hr ?hp (fun _ hk => hk) trivial (Below.refl _ _) (Nat.le_refl _) (by simp) ?_; (case hd => rfl); (case hg => rfl); (case hr => first | (go_simp; done) | (go_simp; rfl)); (case hp => exact (Reps.one (show Kd.M (Kd.int .i64) _ _ _ a0_0 [.int .i64 a0_0] from rfl) (Reps.one (show Kd.M (Kd.int .i64) _ _ _ a0_1 [.int .i64 a0_1] from rfl) (Reps.one (show Kd.M (Kd.int .i64) _ _ _ a0_2 [.int .i64 a0_2] from rfl) (Reps.one (show Kd.M (Kd.int .i64) _ _ _ a0_3 [.int .i64 a0_3] from rfl) (Reps.one (show Kd.M (Kd.int .i64) _ _ _ a0_4 [.int .i64 a0_4] from rfl) (Reps.one (show Kd.M (Kd.int .i64) _ _ _ a0_5 [.int .i64 a0_5] from rfl) (Reps.one (show Kd.M (Kd.int .i64) _ _ _ (l0_7.length : Int) [.int .i64 (l0_7.length : Int)] from rfl) (Reps.none _ _))))))))); intro v204 w5 ho6 hb hg_ hnew_; clear hg_ hnew_; (first | rw [← Ny203.out] at ho6 | (simp only [Int.reduceToNat] at ho6; rw [← Ny203.out] at ho6)); have n0_ := Aside0.mk (Kd.R_lower ho6 (below_size (by repeat (first | (with_reducible first | exact HB.out | apply below_alloc | apply pw_below_drewN | apply below_drew1 | refine below_set ?_ GE202.out) | exact HB.out)))); have n1_ := Aside0.mk (blk_below (g := gb202) (o := .cells #[.int .i64 a0_0, .int .i64 a0_1, .int .i64 a0_2, .int .i64 a0_3, .int .i64 a0_4, .int .i64 a0_5, .string a0_6, .slice A0_7 l0_7.length c0_7, .slice A0_8 l0_8.length c0_8] 25 (0, 0)) (by (with_reducible repeat (first | refine blk_drewN ?_ _ | refine blk_drew ?_ | refine blk_alloc ?_ _)); exact BK202.out) hb); have n2_ := Aside0.mk (below_step (by repeat (first | (with_reducible first | exact HB.out | apply below_alloc | apply pw_below_drewN | apply below_drew1 | refine below_set ?_ GE202.out) | exact HB.out)) hb); clear BK202; clear HB; have HO205 := n0_; have BK202 := n1_; have HB := n2_; clear n0_ n1_ n2_; clear hb ho6; have hcz7_0 : w5.cell? ⟨gb202, 0, none⟩ = some (.int .i64 a0_0) := (blk_cell BK202.out 0).trans rfl; have hcz7_1 : w5.cell? ⟨gb202, 1, none⟩ = some (.int .i64 a0_1) := (blk_cell BK202.out 1).trans rfl; have hcz7_2 : w5.cell? ⟨gb202, 2, none⟩ = some (.int .i64 a0_2) := (blk_cell BK202.out 2).trans rfl; have hcz7_3 : w5.cell? ⟨gb202, 3, none⟩ = some (.int .i64 a0_3) := (blk_cell BK202.out 3).trans rfl; have hcz7_4 : w5.cell? ⟨gb202, 4, none⟩ = some (.int .i64 a0_4) := (blk_cell BK202.out 4).trans rfl; have hcz7_5 : w5.cell? ⟨gb202, 5, none⟩ = some (.int .i64 a0_5) := (blk_cell BK202.out 5).trans rfl; have hcz7_6 : w5.cell? ⟨gb202, 6, none⟩ = some (.string a0_6) := (blk_cell BK202.out 6).trans rfl; have hcz7_7 : w5.cell? ⟨gb202, 7, none⟩ = some (.slice A0_7 l0_7.length c0_7) := (blk_cell BK202.out 7).trans rfl; have hcz7_8 : w5.cell? ⟨gb202, 8, none⟩ = some (.slice A0_8 l0_8.length c0_8) := (blk_cell BK202.out 8).trans rfl; have hfz7_0 := blk_frozen BK202.out 0; have hfz7_1 := blk_frozen BK202.out 1; have hfz7_2 := blk_frozen BK202.out 2; have hfz7_3 := blk_frozen BK202.out 3; have hfz7_4 := blk_frozen BK202.out 4; have hfz7_5 := blk_frozen BK202.out 5; have hfz7_6 := blk_frozen BK202.out 6; have hfz7_7 := blk_frozen BK202.out 7; have hfz7_8 := blk_frozen BK202.out 8) | ((with_reducible refine gate_dst (N := 23) rfl ?_); refine Kd.R_lit Kd.string _ 9 ?hg (N := 23) ?hd (xs := ([a0_6] : List ByteArray)) (inner := [.string a0_6]) (ok := fun _ => True) (okp := fun _ => True) ?hr ?hp (fun _ hk => hk) trivial (Below.refl _ _) (Nat.le_refl _) (by simp) ?_; (case hd => rfl); (case hg => rfl); (case hr => first | (go_simp; done) | (go_simp; rfl)); (case hp => exact (Reps.one (show Kd.M Kd.string _ _ _ a0_6 [.string a0_6] from rfl) (Reps.none _ _))); intro v207 w8 ho9 hb hg_ hnew_; clear hg_ hnew_; (first | rw [← Ny206.out] at ho9 | (simp only [Int.reduceToNat] at ho9; rw [← Ny206.out] at ho9)); have n0_ := Aside0.mk (Kd.R_below (by (with_reducible repeat (first | apply Kd.R_alloc | apply Kd.R_drewN | apply Kd.R_drew)); exact HO205.out) hb); have n1_ := Aside0.mk (Kd.R_lower ho9 (below_size (by repeat (first | (with_reducible first | exact HB.out | apply below_alloc | apply pw_below_drewN | apply below_drew1 | refine below_set ?_ GE202.out) | exact HB.out)))); have n2_ := Aside0.mk (blk_below (g := gb202) (o := .cells #[.int .i64 a0_0, .int .i64 a0_1, .int .i64 a0_2, .int .i64 a0_3, .int .i64 a0_4, .int .i64 a0_5, .string a0_6, .slice A0_7 l0_7.length c0_7, .slice A0_8 l0_8.length c0_8] 25 (0, 0)) (by (with_reducible repeat (first | refine blk_drewN ?_ _ | refine blk_drew ?_ | refine blk_alloc ?_ _)); exact BK202.out) hb); have n3_ := Aside0.mk (below_step (by repeat (first | (with_reducible first | exact HB.out | apply below_alloc | apply pw_below_drewN | apply below_drew1 | refine below_set ?_ GE202.out) | exact HB.out)) hb); clear HO205; clear BK202; clear HB; have HO205 := n0_; have HO208 := n1_; have BK202 := n2_; have HB := n3_; clear n0_ n1_ n2_ n3_; clear hb ho9; obtain ⟨Ao10, co10, eo10⟩ := Kd.R_slice HO208.out; subst eo10; obtain ⟨Ao11, co11, eo11⟩ := Kd.R_slice HO205.out; subst eo11) | ((with_reducible refine gate_dst (N := 3) rfl ?_); refine box_event ?hg (N := 3) ?hd (cs := #[.slice none 0 0, .slice none 0 0]) (t := 47) ?hr ?_; (case hd => rfl); (case hg => rfl); (case hr => first | (go_simp; done) | (go_simp; rfl)); intro gb209 hg w12 hbox hb; have n0_ := Aside0.mk (Kd.R_below (by (with_reducible repeat (first | apply Kd.R_alloc | apply Kd.R_drewN | apply Kd.R_drew)); exact HO205.out) hb); have n1_ := Aside0.mk (Kd.R_below (by (with_reducible repeat (first | apply Kd.R_alloc | apply Kd.R_drewN | apply Kd.R_drew)); exact HO208.out) hb); have n2_ := Aside0.mk (blk_below (g := gb202) (o := .cells #[.int .i64 a0_0, .int .i64 a0_1, .int .i64 a0_2, .int .i64 a0_3, .int .i64 a0_4, .int .i64 a0_5, .string a0_6, .slice A0_7 l0_7.length c0_7, .slice A0_8 l0_8.length c0_8] 25 (0, 0)) (by (with_reducible repeat (first | refine blk_drewN ?_ _ | refine blk_drew ?_ | refine blk_alloc ?_ _)); exact BK202.out) hb); have n3_ := Aside0.mk (below_step (by repeat (first | (with_reducible first | exact HB.out | apply below_alloc | apply pw_below_drewN | apply below_drew1 | refine below_set ?_ GE202.out) | exact HB.out)) hb); have n4_ := Aside0.mk (hbox); have n5_ := Aside0.mk ((by rw [hg]; exact (below_size (by repeat (first | (with_reducible first | exact HB.out | apply below_alloc | apply pw_below_drewN | apply below_drew1 | refine below_set ?_ GE202.out) | exact HB.out))) : w.heap.size ≤ gb209)); have n6_ := Aside0.mk ((by rw [hg]; exact (below_size (by repeat (first | (with_reducible first | exact HB.out | apply below_alloc | apply pw_below_drewN | apply below_drew1 | refine below_set ?_ GE202.out) | exact HB.out))) : w.heap.size ≤ gb209)); have n7_ := Aside0.mk ((by rw [hg]; exact Nat.ne_of_lt (blk_lt (g := gb202) (o := .cells #[.int .i64 a0_0, .int .i64 a0_1, .int .i64 a0_2, .int .i64 a0_3, .int .i64 a0_4, .int .i64 a0_5, .string a0_6, .slice A0_7 l0_7.length c0_7, .slice A0_8 l0_8.length c0_8] 25 (0, 0)) (by (with_reducible repeat (first | refine blk_drewN ?_ _ | refine blk_drew ?_ | refine blk_alloc ?_ _)); exact BK202.out)) : gb202 ≠ gb209)); have n8_ := Aside0.mk ((by rw [hg]; exact Nat.ne_of_gt (blk_lt (g := gb202) (o := .cells #[.int .i64 a0_0, .int .i64 a0_1, .int .i64 a0_2, .int .i64 a0_3, .int .i64 a0_4, .int .i64 a0_5, .string a0_6, .slice A0_7 l0_7.length c0_7, .slice A0_8 l0_8.length c0_8] 25 (0, 0)) (by (with_reducible repeat (first | refine blk_drewN ?_ _ | refine blk_drew ?_ | refine blk_alloc ?_ _)); exact BK202.out)) : gb209 ≠ gb202)); clear HO205; clear HO208; clear BK202; clear HB; have HO205 := n0_; have HO208 := n1_; have BK202 := n2_; have HB := n3_; have BK209 := n4_; have GW209 := n5_; have GE209 := n6_; have NB202_209 := n7_; have NB209_202 := n8_; clear n0_ n1_ n2_ n3_ n4_ n5_ n6_ n7_ n8_; clear hb hbox hg; have hnb13 := NB209_202.out; have hnc13 := NB202_209.out; have hcz14_0 : w12.cell? ⟨gb209, 0, none⟩ = some (.slice none 0 0) := (blk_cell BK209.out 0).trans rfl; have hcz14_1 : w12.cell? ⟨gb209, 1, none⟩ = some (.slice none 0 0) := (blk_cell BK209.out 1).trans rfl; have hfz14_0 := blk_frozen BK209.out 0; have hfz14_1 := blk_frozen BK209.out 1; have hcz15_0 : w12.cell? ⟨gb202, 0, none⟩ = some (.int .i64 a0_0) := (blk_cell BK202.out 0).trans rfl; have hcz15_1 : w12.cell? ⟨gb202, 1, none⟩ = some (.int .i64 a0_1) := (blk_cell BK202.out 1).trans rfl; have hcz15_2 : w12.cell? ⟨gb202, 2, none⟩ = some (.int .i64 a0_2) := (blk_cell BK202.out 2).trans rfl; have hcz15_3 : w12.cell? ⟨gb202, 3, none⟩ = some (.int .i64 a0_3) := (blk_cell BK202.out 3).trans rfl; have hcz15_4 : w12.cell? ⟨gb202, 4, none⟩ = some (.int .i64 a0_4) := (blk_cell BK202.out 4).trans rfl; have hcz15_5 : w12.cell? ⟨gb202, 5, none⟩ = some (.int .i64 a0_5) := (blk_cell BK202.out 5).trans rfl; have hcz15_6 : w12.cell? ⟨gb202, 6, none⟩ = some (.string a0_6) := (blk_cell BK202.out 6).trans rfl; have hcz15_7 : w12.cell? ⟨gb202, 7, none⟩ = some (.slice A0_7 l0_7.length c0_7) := (blk_cell BK202.out 7).trans rfl; have hcz15_8 : w12.cell? ⟨gb202, 8, none⟩ = some (.slice A0_8 l0_8.length c0_8) := (blk_cell BK202.out 8).trans rfl; have hfz15_0 := blk_frozen BK202.out 0; have hfz15_1 := blk_frozen BK202.out 1; have hfz15_2 := blk_frozen BK202.out 2; have hfz15_3 := blk_frozen BK202.out 3; have hfz15_4 := blk_frozen BK202.out 4; have hfz15_5 := blk_frozen BK202.out 5; have hfz15_6 := blk_frozen BK202.out 6; have hfz15_7 := blk_frozen BK202.out 7; have hfz15_8 := blk_frozen BK202.out 8) | ((with_reducible refine gate_builtin (b := .append) (xs := #[.tmp 26, .tmp 28]) rfl ?_); at_builtin; refine Kd.R_append_rows Kd.string (w0 := w) w.heap.size rfl (.tmp 26) (.tmp 28) 22 9 (.string ⟨#[]⟩) 16 rfl Try.underlying22 info9 rfl (by decide) (by omega) (.slice Ao10 y206.length co10) y206 l0_7 _ _ _ (fun _ => True) (fun _ => False) rfl rfl ?aO ?aR (fun _ _ h => h) (fun _ h => h.elim) ?aF ?aB ?aS ?aL ?_; (case aR => exact Kd.C_below HR0_7.out (by repeat (first | (with_reducible first | exact HB.out | apply below_alloc | apply pw_below_drewN | apply below_drew1 | refine below_set ?_ GE202.out | refine below_set ?_ GE209.out) | exact HB.out))); (case aB => exact (by repeat (first | (with_reducible first | exact HB.out | apply below_alloc | apply pw_below_drewN | apply below_drew1 | refine below_set ?_ GE202.out | refine below_set ?_ GE209.out) | exact HB.out))); (case aF => exact (fun _ _ => trivial)); (case aO => exact (by (with_reducible repeat (first | apply Kd.R_alloc | apply Kd.R_drewN | apply Kd.R_drew)); exact Kd.R_mono (Kd.R_far (p := ⟨gb209, 1, none⟩) (Kd.R_far (p := ⟨gb209, 0, none⟩) (Kd.R_types HO208.out BK209.out (by decide)) (fun _ hk => hk.2) (.slice Ao11 y203.length co11)) (fun _ hk => hk.2) (.slice Ao10 y206.length co10)) (fun _ hk => trivial))); (case aS => exact (below_size (by repeat (first | (with_reducible first | exact HB.out | apply below_alloc | apply pw_below_drewN | apply below_drew1 | refine below_set ?_ GE202.out | refine below_set ?_ GE209.out) | exact HB.out)))); (case aL => have := LMc2.out; omega); intro v211 w16 ho hb hg hat; rw [← Ny210.out] at ho; have n0_ := Aside0.mk (blk_grown (g := gb202) (o := .cells #[.int .i64 a0_0, .int .i64 a0_1, .int .i64 a0_2, .int .i64 a0_3, .int .i64 a0_4, .int .i64 a0_5, .string a0_6, .slice A0_7 l0_7.length c0_7, .slice A0_8 l0_8.length c0_8] 25 (0, 0)) (by (with_reducible repeat (first | refine blk_drewN ?_ _ | refine blk_drew ?_ | refine blk_alloc ?_ _)); refine blk_far ?_ NB202_209.out _; (with_reducible repeat (first | refine blk_drewN ?_ _ | refine blk_drew ?_ | refine blk_alloc ?_ _)); refine blk_far ?_ NB202_209.out _; (with_reducible repeat (first | refine blk_drewN ?_ _ | refine blk_drew ?_ | refine blk_alloc ?_ _)); exact BK202.out) hg (Kd.R_ne HO208.out BK202.out (by decide))); have n1_ := Aside0.mk (Kd.R_over' (by (with_reducible repeat (first | apply Kd.R_alloc | apply Kd.R_drewN | apply Kd.R_drew)); exact (Kd.R_mono (Kd.R_far (p := ⟨gb209, 1, none⟩) (Kd.R_far (p := ⟨gb209, 0, none⟩) (Kd.R_types HO205.out BK209.out (by decide)) (fun _ hk => hk.2) (.slice Ao11 y203.length co11)) (fun _ hk => hk.2) (.slice Ao10 y206.length co10)) (fun _ h_ => h_.1))) (Kd.R_typed (by (with_reducible repeat (first | apply Kd.R_alloc | apply Kd.R_drewN | apply Kd.R_drew)); exact (Kd.R_mono (Kd.R_far (p := ⟨gb209, 1, none⟩) (Kd.R_far (p := ⟨gb209, 0, none⟩) (Kd.R_types HO208.out BK209.out (by decide)) (fun _ hk => hk.2) (.slice Ao11 y203.length co11)) (fun _ hk => hk.2) (.slice Ao10 y206.length co10)) (fun _ h_ => h_.1)))) (by decide) hg); have n2_ := Aside0.mk (blk_grown (g := gb209) (o := .cells #[.slice Ao11 y203.length co11, .slice Ao10 y206.length co10] 47 (0, 0)) (by (with_reducible repeat (first | refine blk_drewN ?_ _ | refine blk_drew ?_ | refine blk_alloc ?_ _)); refine blk_put (cs := #[.slice Ao11 y203.length co11, .slice none 0 0]) ?_ 1 _ rfl; (with_reducible repeat (first | refine blk_drewN ?_ _ | refine blk_drew ?_ | refine blk_alloc ?_ _)); refine blk_put (cs := #[.slice none 0 0, .slice none 0 0]) ?_ 0 _ rfl; (with_reducible repeat (first | refine blk_drewN ?_ _ | refine blk_drew ?_ | refine blk_alloc ?_ _)); exact BK209.out) hg (Kd.R_ne HO208.out BK209.out (by decide))); have n3_ := Aside0.mk (hb); have n4_ := Aside0.mk (ho); clear BK202; clear HO205; clear BK209; clear HB; clear HO208; have BK202 := n0_; have HO205 := n1_; have BK209 := n2_; have HB := n3_; have HO212 := n4_; clear n0_ n1_ n2_ n3_ n4_; clear ho hb hg hat; obtain ⟨Ao17, co17, eo17⟩ := Kd.R_slice HO212.out; subst eo17; have hcz18_0 : w16.cell? ⟨gb209, 0, none⟩ = some (.slice Ao11 y203.length co11) := (blk_cell BK209.out 0).trans rfl; have hcz18_1 : w16.cell? ⟨gb209, 1, none⟩ = some (.slice Ao10 y206.length co10) := (blk_cell BK209.out 1).trans rfl; have hfz18_0 := blk_frozen BK209.out 0; have hfz18_1 := blk_frozen BK209.out 1))
  go_loopg [4] k (fun kq v4 w' => ∃ (x4_1 : Int) (x210000_1 : List Int) (x210001_1 : List ByteArray) (u210000 : Value) (u210001 : Value), v4 = .int .i64 x4_1 ∧ Aside0 (corncribref07_Bytes.l0 kq x4_1 a0_0 a0_1 a0_2 a0_3 a0_4 a0_5 a0_6 l0_7 l0_8 x210000_1 x210001_1 = some r) ∧ Aside0 (kq ≤ k) ∧ Aside0 (Kd.R (Kd.int .i64) 3 w' w.heap.size (fun _ => True) u210000 x210000_1) ∧ Aside0 (Kd.R Kd.string 9 w' w.heap.size (fun _ => True) u210001 x210001_1) ∧ Aside0 (w'.heap[gb202]? = some (.cells #[.int .i64 a0_0, .int .i64 a0_1, .int .i64 a0_2, .int .i64 a0_3, .int .i64 a0_4, .int .i64 a0_5, .string a0_6, (.slice A0_7 l0_7.length c0_7), (.slice A0_8 l0_8.length c0_8)] 25 (0, 0))) ∧ Aside0 (w'.heap[gb209]? = some (.cells #[u210000, u210001] 47 (0, 0))) ∧ Aside0 (Below w.heap.size w w'))
  case atStart => exact ⟨(0), (y203), (y210), (.slice Ao11 y203.length co11), (.slice Ao17 y210.length co17), (by first | rfl | (simp; done) | (simp [*]; done)), H', ⟨Nat.le_refl _⟩, ⟨by (with_reducible repeat (first | apply Kd.R_alloc | apply Kd.R_drewN | apply Kd.R_drew)); exact Kd.R_mono (Kd.R_far (p := ⟨gb209, 1, none⟩) (Kd.R_types HO205.out BK209.out (by decide)) (fun _ hk => hk.2) (.slice Ao17 y210.length co17)) (fun _ hk => trivial)⟩, ⟨by (with_reducible repeat (first | apply Kd.R_alloc | apply Kd.R_drewN | apply Kd.R_drew)); exact Kd.R_mono (Kd.R_far (p := ⟨gb209, 1, none⟩) (Kd.R_types HO212.out BK209.out (by decide)) (fun _ hk => hk.2) (.slice Ao17 y210.length co17)) (fun _ hk => trivial)⟩, ⟨by (with_reducible repeat (first | refine blk_drewN ?_ _ | refine blk_drew ?_ | refine blk_alloc ?_ _)); refine blk_far ?_ NB202_209.out _; (with_reducible repeat (first | refine blk_drewN ?_ _ | refine blk_drew ?_ | refine blk_alloc ?_ _)); exact BK202.out⟩, ⟨by (with_reducible repeat (first | refine blk_drewN ?_ _ | refine blk_drew ?_ | refine blk_alloc ?_ _)); refine blk_put (cs := #[.slice Ao11 y203.length co11, .slice Ao10 y206.length co10]) ?_ 1 _ rfl; (with_reducible repeat (first | refine blk_drewN ?_ _ | refine blk_drew ?_ | refine blk_alloc ?_ _)); exact BK209.out⟩, ⟨by repeat (first | (with_reducible first | exact HB.out | apply below_alloc | apply pw_below_drewN | apply below_drew1 | refine below_set ?_ GE202.out | refine below_set ?_ GE209.out) | exact HB.out)⟩⟩
  case round =>
   clear H'
   (try clear c1); (try clear c2); (try clear p2); (try clear c13); (try clear hcz14_0); (try clear hcz14_1); (try clear hcz15_0); (try clear hcz15_1); (try clear hcz15_2); (try clear hcz15_3); (try clear hcz15_4); (try clear hcz15_5); (try clear hcz15_6); (try clear hcz15_7); (try clear hcz15_8); (try clear hcz18_0); (try clear hcz18_1); (try clear hcz4_0); (try clear hcz4_1); (try clear hcz4_2); (try clear hcz4_3); (try clear hcz4_4); (try clear hcz4_5); (try clear hcz4_6); (try clear hcz4_7); (try clear hcz4_8); (try clear hcz7_0); (try clear hcz7_1); (try clear hcz7_2); (try clear hcz7_3); (try clear hcz7_4); (try clear hcz7_5); (try clear hcz7_6); (try clear hcz7_7); (try clear hcz7_8); (try clear hfz14_0); (try clear hfz14_1); (try clear hfz15_0); (try clear hfz15_1); (try clear hfz15_2); (try clear hfz15_3); (try clear hfz15_4); (try clear hfz15_5); (try clear hfz15_6); (try clear hfz15_7); (try clear hfz15_8); (try clear hfz18_0); (try clear hfz18_1); (try clear hfz4_0); (try clear hfz4_1); (try clear hfz4_2); (try clear hfz4_3); (try clear hfz4_4); (try clear hfz4_5); (try clear hfz4_6); (try clear hfz4_7); (try clear hfz4_8); (try clear hfz7_0); (try clear hfz7_1); (try clear hfz7_2); (try clear hfz7_3); (try clear hfz7_4); (try clear hfz7_5); (try clear hfz7_6); (try clear hfz7_7); (try clear hfz7_8)
   obtain ⟨x4_1, x210000_1, x210001_1, u210000, u210001, rfl, HA, HK1, HO_210000, HO_210001, BK202, BK209, HB⟩ := hrel
   cases gk with
   |zero => exact absurd HA.out (by simp [corncribref07_Bytes.l0])
   |succ k1 =>
    have H := HA.out
    clear HA
    simp only [corncribref07_Bytes.l0] at H
    by_cases c19 : x4_1 < (l0_8.length : Int)
    ·rw [if_pos c19] at H
     have c19b0 : decide (x4_1 < (l0_8.length : Int)) = true := decide_eq_true c19
     clear c19
     by_cases c20 : 0 ≤ x4_1
     ·rw [if_pos c20] at H
      have c20b0 : decide (0 ≤ x4_1) = true := decide_eq_true c20
      clear c20
      replace H := Option.bind_eq_some_iff.mp H
      obtain ⟨t214, A210, H⟩ := H
      replace H : (if x210000_1.length < 17592186044416 then (if x210001_1.length < 8796093022208 then ((some (x210001_1 ++ [(rd_T49 l0_8 x4_1).f0] : List ByteArray)).bind fun y219 => (if y219.length < 8796093022208 then (corncribref07_Bytes.l0 k1 (wrap64 (x4_1 + 1)) a0_0 a0_1 a0_2 a0_3 a0_4 a0_5 a0_6 l0_7 l0_8 (x210000_1 ++ [t214]) (y219 ++ [(rd_T49 l0_8 x4_1).f1])) else (none))) else (none)) else (none)) = some r := H
      have A21 := Aside0.mk A210
      clear A210
      by_cases c22 : x210000_1.length < 17592186044416
      ·rw [if_pos c22] at H
       have LMc22 := Aside0.mk c22
       clear c22
       obtain ⟨y215, hy215⟩ : ∃ y_ : List Int, y_ = (x210000_1 ++ [t214]) := ⟨_, rfl⟩
       replace H : (if x210001_1.length < 8796093022208 then ((some (x210001_1 ++ [(rd_T49 l0_8 x4_1).f0] : List ByteArray)).bind fun y219 => (if y219.length < 8796093022208 then (corncribref07_Bytes.l0 k1 (wrap64 (x4_1 + 1)) a0_0 a0_1 a0_2 a0_3 a0_4 a0_5 a0_6 l0_7 l0_8 y215 (y219 ++ [(rd_T49 l0_8 x4_1).f1])) else (none))) else (none)) = some r := by first | (rw [hy215]; with_reducible exact H) | (have H2_ := (Option.bind_some _ _).symm.trans H; rw [hy215]; with_reducible exact H2_) | (have H2_ := (Option.bind_some _ _).symm.trans H; with_reducible exact H2_) | with_reducible exact H | (rw [hy215]; exact H) | exact H
       have Ny215 := Aside0.mk hy215
       clear hy215
       by_cases c23 : x210001_1.length < 8796093022208
       ·rw [if_pos c23] at H
        have LMc23 := Aside0.mk c23
        clear c23
        obtain ⟨y219, hy219⟩ : ∃ y_ : List ByteArray, y_ = (x210001_1 ++ [(rd_T49 l0_8 x4_1).f0]) := ⟨_, rfl⟩
        replace H : (if y219.length < 8796093022208 then (corncribref07_Bytes.l0 k1 (wrap64 (x4_1 + 1)) a0_0 a0_1 a0_2 a0_3 a0_4 a0_5 a0_6 l0_7 l0_8 y215 (y219 ++ [(rd_T49 l0_8 x4_1).f1])) else (none)) = some r := by first | (rw [hy219]; with_reducible exact H) | (have H2_ := (Option.bind_some _ _).symm.trans H; rw [hy219]; with_reducible exact H2_) | (have H2_ := (Option.bind_some _ _).symm.trans H; with_reducible exact H2_) | with_reducible exact H | (rw [hy219]; exact H) | exact H
        have Ny219 := Aside0.mk hy219
        clear hy219
        by_cases c24 : y219.length < 8796093022208
        ·rw [if_pos c24] at H
         have LMc24 := Aside0.mk c24
         clear c24
         obtain ⟨y223, hy223⟩ : ∃ y_ : List ByteArray, y_ = (y219 ++ [(rd_T49 l0_8 x4_1).f1]) := ⟨_, rfl⟩
         replace H : (corncribref07_Bytes.l0 k1 (wrap64 (x4_1 + 1)) a0_0 a0_1 a0_2 a0_3 a0_4 a0_5 a0_6 l0_7 l0_8 y215 y223) = some r := by first | (rw [hy223]; with_reducible exact H) | (have H2_ := (Option.bind_some _ _).symm.trans H; rw [hy223]; with_reducible exact H2_) | (have H2_ := (Option.bind_some _ _).symm.trans H; with_reducible exact H2_) | with_reducible exact H | (rw [hy223]; exact H) | exact H
         have Ny223 := Aside0.mk hy223
         clear hy223
         have H' := Aside0.mk H
         clear H
         have hnb25 := NB202_209.out
         have hnc25 := NB209_202.out
         obtain ⟨hcz26_0, hfz26_0, hcz26_1, hfz26_1, hcz26_2, hfz26_2, hcz26_3, hfz26_3, hcz26_4, hfz26_4, hcz26_5, hfz26_5, hcz26_6, hfz26_6, hcz26_7, hfz26_7, hcz26_8, hfz26_8⟩ := cfz9 BK202.out
         try go_wp2
         have n0_ := Aside0.mk (Kd.R_drew HO_210000.out)
         have n1_ := Aside0.mk (Kd.R_drew HO_210001.out)
         have n2_ := Aside0.mk (blk_drew BK202.out)
         have n3_ := Aside0.mk (blk_drew BK209.out)
         have n4_ := Aside0.mk (below_drew1 HB.out)
         clear HO_210000
         clear HO_210001
         clear BK202
         clear BK209
         clear HB
         have HO_210000 := n0_
         have HO_210001 := n1_
         have BK202 := n2_
         have BK209 := n3_
         have HB := n4_
         clear n0_ n1_ n2_ n3_ n4_
         have p213 : 0 ≤ (x4_1 : Int) := of_decide_eq_true (by first | (with_reducible assumption) | assumption)
         have q213 : x4_1 < (l0_8.length : Int) := of_decide_eq_true (by first | (with_reducible assumption) | assumption)
         obtain ⟨ad213, e213, hx213_0, hx213_1, hx213_2⟩ := at_T49 HR0_8.out x4_1 p213 q213
         have hw213_2 := hx213_2
         have hw213_1 := hx213_1
         have hw213_0 := hx213_0
         cases e213
         replace hx213_0 := (HB.out.cell (World.block_lt_of_cell? w _ hx213_0)).trans hx213_0
         replace hx213_1 := (HB.out.cell (World.block_lt_of_cell? w _ hx213_1)).trans hx213_1
         replace hx213_2 := (HB.out.cell (World.block_lt_of_cell? w _ hx213_2)).trans hx213_2
         replace p213 := eq_true p213
         replace q213 := eq_true q213
         refine start_ (n := 13) (S := fun w' => w'.cell? ⟨gb209, 0, none⟩ = some (u210000) ∧ w'.cell? ⟨gb209, 1, none⟩ = some (u210001) ∧ w'.cell? ⟨gb202, 0, none⟩ = some (.int .i64 a0_0) ∧ w'.cell? ⟨gb202, 1, none⟩ = some (.int .i64 a0_1) ∧ w'.cell? ⟨gb202, 2, none⟩ = some (.int .i64 a0_2) ∧ w'.cell? ⟨gb202, 3, none⟩ = some (.int .i64 a0_3) ∧ w'.cell? ⟨gb202, 4, none⟩ = some (.int .i64 a0_4) ∧ w'.cell? ⟨gb202, 5, none⟩ = some (.int .i64 a0_5) ∧ w'.cell? ⟨gb202, 6, none⟩ = some (.string a0_6) ∧ w'.cell? ⟨gb202, 7, none⟩ = some (.slice A0_7 l0_7.length c0_7) ∧ w'.cell? ⟨gb202, 8, none⟩ = some (.slice (some ad213) l0_8.length c0_8) ∧ w'.cell? (ad213.add ((x4_1).toNat * 3)) = some (.string ((rd_T49 l0_8 x4_1).f0)) ∧ w'.cell? ⟨(ad213.add ((x4_1).toNat * 3)).block, (ad213.add ((x4_1).toNat * 3)).off + 1, none⟩ = some (.string ((rd_T49 l0_8 x4_1).f1)) ∧ w'.cell? ⟨(ad213.add ((x4_1).toNat * 3)).block, (ad213.add ((x4_1).toNat * 3)).off + 2, none⟩ = some (.bool ((rd_T49 l0_8 x4_1).f2))) (ds := [12]) #[false, false, false, false, false, false, false, false, false, false, false, false, false] (by kernel_rfl) rfl rfl ⟨(blk_cell BK209.out 0).trans rfl, (blk_cell BK209.out 1).trans rfl, (blk_cell BK202.out 0).trans rfl, (blk_cell BK202.out 1).trans rfl, (blk_cell BK202.out 2).trans rfl, (blk_cell BK202.out 3).trans rfl, (blk_cell BK202.out 4).trans rfl, (blk_cell BK202.out 5).trans rfl, (blk_cell BK202.out 6).trans rfl, (blk_cell BK202.out 7).trans rfl, (blk_cell BK202.out 8).trans rfl, ((HB.out.cell (World.block_lt_of_cell? w _ hw213_0)).trans hw213_0), ((HB.out.cell (World.block_lt_of_cell? w _ hw213_1)).trans hw213_1), ((HB.out.cell (World.block_lt_of_cell? w _ hw213_2)).trans hw213_2)⟩ (fun hHeld => ?_); refine with_tabW corncribref07_Bytes.tab6 corncribref07_Bytes.bits6 (fun HT_ HW_ => ?_)
         generalize wr.drew = w27 at HO_210000 HO_210001 BK202 BK209 HB hx213_0 hx213_1 hx213_2 hHeld ⊢
         refine pure_ (i := 0) (N := some 38) (v := ?_) (a' := ?_) #[true, false, false, false, false, false, false, false, false, false, false, false, false] rfl rfl (any_of HT_.out (by kernel_rfl)) (fun _ _ _ h => h) (Or.inl ⟨by rfl, ?_⟩) ?_ ?_
         rotate_left
         ·intro w'
          go_simp
          with_reducible rfl
         rotate_left
         ·simp only [Act.put, List.setIfInBounds_toArray, List.set_cons_zero, List.set_cons_succ, i64_w, i32_w]
          rfl
         refine pure_ (i := 2) (N := some 40) (v := ?_) (a' := ?_) #[true, false, true, false, false, false, false, false, false, false, false, false, false] rfl rfl (any_of HT_.out (by kernel_rfl)) (fun _ _ _ h => h) (Or.inl ⟨by rfl, ?_⟩) ?_ ?_
         rotate_left
         ·intro w'
          go_simp
          with_reducible rfl
         rotate_left
         ·simp only [Act.put, List.setIfInBounds_toArray, List.set_cons_zero, List.set_cons_succ, i64_w, i32_w]
          rfl
         refine pure_ (i := 4) (N := some 42) (v := ?_) (a' := ?_) #[true, false, true, false, true, false, false, false, false, false, false, false, false] rfl rfl (any_of HT_.out (by kernel_rfl)) (fun _ _ _ h => h) (Or.inl ⟨by rfl, ?_⟩) ?_ ?_
         rotate_left
         ·intro w'
          go_simp
          with_reducible rfl
         rotate_left
         ·simp only [Act.put, List.setIfInBounds_toArray, List.set_cons_zero, List.set_cons_succ, i64_w, i32_w]
          rfl
         refine take_ (i := 1) (N := some 39) (v := ?_) (a' := ?_) #[true, true, true, false, true, false, false, false, false, false, false, false, false] rfl rfl (take_ofW HT_.out HW_.out (by kernel_rfl)) (fun _ _ _ h => h) (Or.inl ⟨by rfl, ?_⟩) hHeld ?_ ?_
         rotate_left
         ·rintro w' ⟨s0, s1, s2, s3, s4, s5, s6, s7, s8, s9, s10, s11, s12, s13⟩
          go_simp
          with_reducible rfl
         rotate_left
         ·simp only [Act.put, List.setIfInBounds_toArray, List.set_cons_zero, List.set_cons_succ, i64_w, i32_w]
          rfl
         refine take_ (i := 3) (N := some 41) (v := ?_) (a' := ?_) #[true, true, true, true, true, false, false, false, false, false, false, false, false] rfl rfl (take_ofW HT_.out HW_.out (by kernel_rfl)) (fun _ _ _ h => h) (Or.inl ⟨by rfl, ?_⟩) hHeld ?_ ?_
         rotate_left
         ·rintro w' ⟨s0, s1, s2, s3, s4, s5, s6, s7, s8, s9, s10, s11, s12, s13⟩
          go_simp
          with_reducible rfl
         rotate_left
         ·simp only [Act.put, List.setIfInBounds_toArray, List.set_cons_zero, List.set_cons_succ, i64_w, i32_w]
          rfl
         refine pure_ (i := 5) (N := some 43) (v := ?_) (a' := ?_) #[true, true, true, true, true, true, false, false, false, false, false, false, false] rfl rfl (any_of HT_.out (by kernel_rfl)) (fun _ _ _ h => h) (Or.inl ⟨by rfl, ?_⟩) ?_ ?_
         rotate_left
         ·intro w'
          go_simp
          with_reducible rfl
         rotate_left
         ·simp only [Act.put, List.setIfInBounds_toArray, List.set_cons_zero, List.set_cons_succ, i64_w, i32_w]
          rfl
         refine pure_ (i := 6) (N := some 44) (v := ?_) (a' := ?_) #[true, true, true, true, true, true, true, false, false, false, false, false, false] rfl rfl (any_of HT_.out (by kernel_rfl)) (fun _ _ _ h => h) (Or.inl ⟨by rfl, ?_⟩) ?_ ?_
         rotate_left
         ·intro w'
          go_simp
          with_reducible rfl
         rotate_left
         ·simp only [Act.put, List.setIfInBounds_toArray, List.set_cons_zero, List.set_cons_succ, i64_w, i32_w]
          rfl
         refine take_ (i := 7) (N := some 45) (v := ?_) (a' := ?_) #[true, true, true, true, true, true, true, true, false, false, false, false, false] rfl rfl (take_ofW HT_.out HW_.out (by kernel_rfl)) (fun _ _ _ h => h) (Or.inl ⟨by rfl, ?_⟩) hHeld ?_ ?_
         rotate_left
         ·rintro w' ⟨s0, s1, s2, s3, s4, s5, s6, s7, s8, s9, s10, s11, s12, s13⟩
          go_simp
          with_reducible rfl
         rotate_left
         ·simp only [Act.put, List.setIfInBounds_toArray, List.set_cons_zero, List.set_cons_succ, i64_w, i32_w]
          rfl
         refine one_ (i := 8) (N := some 46) #[true, true, true, true, true, true, true, true, true, false, false, false, false] rfl rfl (one_of HT_.out (by kernel_rfl)) (by decide) (fun K hK => ?_)
         refine goes_ Try.func43 (by kernel_rfl) rfl #[.bool ((rd_T49 l0_8 x4_1).f2)] (by rfl) rfl rfl (by (try simp only [List.map_toArray, List.map_cons, List.map_nil]); first | done | rfl | (simp only [List.length_drop, List.length_take]; rfl)) ?_
         with_reducible refine (corncribref07_One.calls ((rd_T49 l0_8 x4_1).f2) t214 _ A21.out).mono ?_
         rintro e w' ⟨rfl, ⟨nd, rfl⟩⟩
         refine ⟨_, rfl, ?_⟩
         refine hK.out _ _ ⟨(blk_cell BK209.out 0).trans rfl, (blk_cell BK209.out 1).trans rfl, (blk_cell BK202.out 0).trans rfl, (blk_cell BK202.out 1).trans rfl, (blk_cell BK202.out 2).trans rfl, (blk_cell BK202.out 3).trans rfl, (blk_cell BK202.out 4).trans rfl, (blk_cell BK202.out 5).trans rfl, (blk_cell BK202.out 6).trans rfl, (blk_cell BK202.out 7).trans rfl, (blk_cell BK202.out 8).trans rfl, ((HB.out.cell (World.block_lt_of_cell? w _ hw213_0)).trans hw213_0), ((HB.out.cell (World.block_lt_of_cell? w _ hw213_1)).trans hw213_1), ((HB.out.cell (World.block_lt_of_cell? w _ hw213_2)).trans hw213_2)⟩ (fun hHeld => ?_)
         clear hK K
         refine norm_ (a' := ?_) ?_ ?_
         rotate_left
         ·show Act.put _ (some 46) _ = _
          simp only [Act.put, List.setIfInBounds_toArray, List.set_cons_zero, List.set_cons_succ, i64_w, i32_w]
          rfl
         refine one_ (i := 9) (N := some 47) #[true, true, true, true, true, true, true, true, true, true, false, false, false] rfl rfl (one_of HT_.out (by kernel_rfl)) (by decide) (fun K hK => ?_)
         refine value_ (w1 := ?_) (v := ?_) (by rfl) rfl ?_ ?_
         rotate_left 2
         ·go_simp
          constructor
          ·rfl
          ·rfl
         refine hK.out _ _ ⟨(blk_cell (blk_alloc BK209.out _) 0).trans rfl, (blk_cell (blk_alloc BK209.out _) 1).trans rfl, (blk_cell (blk_alloc BK202.out _) 0).trans rfl, (blk_cell (blk_alloc BK202.out _) 1).trans rfl, (blk_cell (blk_alloc BK202.out _) 2).trans rfl, (blk_cell (blk_alloc BK202.out _) 3).trans rfl, (blk_cell (blk_alloc BK202.out _) 4).trans rfl, (blk_cell (blk_alloc BK202.out _) 5).trans rfl, (blk_cell (blk_alloc BK202.out _) 6).trans rfl, (blk_cell (blk_alloc BK202.out _) 7).trans rfl, (blk_cell (blk_alloc BK202.out _) 8).trans rfl, (World.cell?_alloc_lt _ _ _ (World.block_lt_of_cell? _ _ (((HB.out.cell (World.block_lt_of_cell? w _ hw213_0)).trans hw213_0)))).trans (((HB.out.cell (World.block_lt_of_cell? w _ hw213_0)).trans hw213_0)), (World.cell?_alloc_lt _ _ _ (World.block_lt_of_cell? _ _ (((HB.out.cell (World.block_lt_of_cell? w _ hw213_1)).trans hw213_1)))).trans (((HB.out.cell (World.block_lt_of_cell? w _ hw213_1)).trans hw213_1)), (World.cell?_alloc_lt _ _ _ (World.block_lt_of_cell? _ _ (((HB.out.cell (World.block_lt_of_cell? w _ hw213_2)).trans hw213_2)))).trans (((HB.out.cell (World.block_lt_of_cell? w _ hw213_2)).trans hw213_2))⟩ (fun hHeld => ?_)
         clear hK K
         refine norm_ (a' := ?_) ?_ ?_
         rotate_left
         ·show Act.put _ (some 47) _ = _
          simp only [Act.put, List.setIfInBounds_toArray, List.set_cons_zero, List.set_cons_succ, i64_w, i32_w]
          rfl
         refine one_ (i := 10) (N := some 48) #[true, true, true, true, true, true, true, true, true, true, true, false, false] rfl rfl (one_of HT_.out (by kernel_rfl)) (by decide) (fun K hK => ?_)
         refine Kd.R_append_step (Kd.int .i64) (w0 := w) w.heap.size (by rfl) (.tmp 39) (.tmp 47) 45 3 (.int .i64 0) 8 rfl Try.underlying45 info3 rfl (by decide) (by omega) u210000 x210000_1 t214 [.int .i64 t214] (fun _ => True) (fun _ => False) rfl rfl ?aP (fun _ hk => hk.elim) ?aF ?aO ?aB ?aS ?aL ?_
         (case aP => exact rfl)
         (case aB => exact (by repeat (first | (with_reducible first | exact HB.out | apply below_alloc | apply pw_below_drewN | apply below_drew1 | refine below_set ?_ GE202.out | refine below_set ?_ GE209.out) | exact HB.out)))
         (case aF => exact (fun _ _ => trivial))
         (case aO => exact (by (with_reducible repeat (first | apply Kd.R_alloc | apply Kd.R_drewN | apply Kd.R_drew)); exact HO_210000.out))
         (case aS => exact (below_size (by repeat (first | (with_reducible first | exact HB.out | apply below_alloc | apply pw_below_drewN | apply below_drew1 | refine below_set ?_ GE202.out | refine below_set ?_ GE209.out) | exact HB.out))))
         (case aL => have := LMc22.out; omega)
         intro v216 w28 ho hb hg hat
         rw [← Ny215.out] at ho
         have n0_ := Aside0.mk (Kd.R_over' (by (with_reducible repeat (first | apply Kd.R_alloc | apply Kd.R_drewN | apply Kd.R_drew)); exact HO_210001.out) (Kd.R_typed (by (with_reducible repeat (first | apply Kd.R_alloc | apply Kd.R_drewN | apply Kd.R_drew)); exact HO_210000.out)) (by decide) hg)
         have n1_ := Aside0.mk (blk_grown (g := gb202) (o := .cells #[.int .i64 a0_0, .int .i64 a0_1, .int .i64 a0_2, .int .i64 a0_3, .int .i64 a0_4, .int .i64 a0_5, .string a0_6, .slice A0_7 l0_7.length c0_7, .slice (some ad213) l0_8.length c0_8] 25 (0, 0)) (by (with_reducible repeat (first | refine blk_drewN ?_ _ | refine blk_drew ?_ | refine blk_alloc ?_ _)); exact BK202.out) hg (Kd.R_ne HO_210000.out BK202.out (by decide)))
         have n2_ := Aside0.mk (blk_grown (g := gb209) (o := .cells #[u210000, u210001] 47 (0, 0)) (by (with_reducible repeat (first | refine blk_drewN ?_ _ | refine blk_drew ?_ | refine blk_alloc ?_ _)); exact BK209.out) hg (Kd.R_ne HO_210000.out BK209.out (by decide)))
         have n3_ := Aside0.mk (hb)
         have n4_ := Aside0.mk (ho)
         clear HO_210001
         clear BK202
         clear BK209
         clear HB
         clear HO_210000
         have HO_210001 := n0_
         have BK202 := n1_
         have BK209 := n2_
         have HB := n3_
         have HO217 := n4_
         clear n0_ n1_ n2_ n3_ n4_
         clear ho hb hg hat
         obtain ⟨Ao29, co29, eo29⟩ := Kd.R_slice HO217.out
         (first | subst eo29 | (injection eo29 with f1_ f2_ f3_; have f4_ := f1_.symm; have f5_ := f3_.symm; clear f1_ f2_ f3_; subst f4_; subst f5_))
         refine hK.out _ _ ⟨(blk_cell BK209.out 0).trans rfl, (blk_cell BK209.out 1).trans rfl, (blk_cell BK202.out 0).trans rfl, (blk_cell BK202.out 1).trans rfl, (blk_cell BK202.out 2).trans rfl, (blk_cell BK202.out 3).trans rfl, (blk_cell BK202.out 4).trans rfl, (blk_cell BK202.out 5).trans rfl, (blk_cell BK202.out 6).trans rfl, (blk_cell BK202.out 7).trans rfl, (blk_cell BK202.out 8).trans rfl, ((HB.out.cell (World.block_lt_of_cell? w _ hw213_0)).trans hw213_0), ((HB.out.cell (World.block_lt_of_cell? w _ hw213_1)).trans hw213_1), ((HB.out.cell (World.block_lt_of_cell? w _ hw213_2)).trans hw213_2)⟩ (fun hHeld => ?_)
         clear hK K
         refine norm_ (a' := ?_) ?_ ?_
         rotate_left
         ·show Act.put _ (some 48) _ = _
          simp only [Act.put, List.setIfInBounds_toArray, List.set_cons_zero, List.set_cons_succ, i64_w, i32_w]
          rfl
         refine pure_ (i := 11) (N := some 49) (v := ?_) (a' := ?_) #[true, true, true, true, true, true, true, true, true, true, true, true, false] rfl rfl (any_of HT_.out (by kernel_rfl)) (fun _ _ _ h => h) (Or.inl ⟨by rfl, ?_⟩) ?_ ?_
         rotate_left
         ·intro w'
          go_simp
          with_reducible rfl
         rotate_left
         ·simp only [Act.put, List.setIfInBounds_toArray, List.set_cons_zero, List.set_cons_succ, i64_w, i32_w]
          rfl
         refine last_ (i := 12) (N := none) #[true, true, true, true, true, true, true, true, true, true, true, true, true] rfl rfl (one_of HT_.out (by kernel_rfl)) (by decide) (fun K hK => ?_)
         have hs30 : w28.cell? ⟨gb209, 0, none⟩ = some (u210000) := (blk_cell BK209.out 0).trans rfl
         have hfs30 := blk_frozen BK209.out 0
         have hns30_0 := NB202_209.out
         have hms30_0 := NB209_202.out
         refine skip_ (w1 := ?_) (by rfl) rfl ?_ ?_
         rotate_left
         ·go_simp
          rfl
         refine hK.out _ _ ?_
         clear hK K
         refine done_ (done_of HT_.out (by kernel_rfl)) ?_
         try go_wp2
         have n0_ : Aside0 (Kd.R Kd.string 9 (w28.setCell ⟨gb209, 0, none⟩ (.slice Ao29 y215.length co29)) w.heap.size (fun _ => True) u210001 x210001_1) := ⟨by (with_reducible repeat (first | apply Kd.R_alloc | apply Kd.R_drewN | apply Kd.R_drew)); exact Kd.R_mono (Kd.R_far (p := ⟨gb209, 0, none⟩) (Kd.R_types HO_210001.out BK209.out (by decide)) (fun _ hk => hk.2) (.slice Ao29 y215.length co29)) (fun _ hk => trivial)⟩
         have n1_ : Aside0 (Kd.R (Kd.int .i64) 3 (w28.setCell ⟨gb209, 0, none⟩ (.slice Ao29 y215.length co29)) w.heap.size (fun _ => True) (.slice Ao29 y215.length co29) y215) := ⟨by (with_reducible repeat (first | apply Kd.R_alloc | apply Kd.R_drewN | apply Kd.R_drew)); exact Kd.R_mono (Kd.R_far (p := ⟨gb209, 0, none⟩) (Kd.R_types HO217.out BK209.out (by decide)) (fun _ hk => hk.2) (.slice Ao29 y215.length co29)) (fun _ hk => trivial)⟩
         have n2_ : Aside0 ((w28.setCell ⟨gb209, 0, none⟩ (.slice Ao29 y215.length co29)).heap[gb202]? = some (.cells #[.int .i64 a0_0, .int .i64 a0_1, .int .i64 a0_2, .int .i64 a0_3, .int .i64 a0_4, .int .i64 a0_5, .string a0_6, .slice A0_7 l0_7.length c0_7, .slice (some ad213) l0_8.length c0_8] 25 (0, 0))) := ⟨by (with_reducible repeat (first | refine blk_drewN ?_ _ | refine blk_drew ?_ | refine blk_alloc ?_ _)); refine blk_far ?_ NB202_209.out _; (with_reducible repeat (first | refine blk_drewN ?_ _ | refine blk_drew ?_ | refine blk_alloc ?_ _)); exact BK202.out⟩
         have n3_ : Aside0 ((w28.setCell ⟨gb209, 0, none⟩ (.slice Ao29 y215.length co29)).heap[gb209]? = some (.cells #[.slice Ao29 y215.length co29, u210001] 47 (0, 0))) := ⟨by (with_reducible repeat (first | refine blk_drewN ?_ _ | refine blk_drew ?_ | refine blk_alloc ?_ _)); refine blk_put (cs := #[u210000, u210001]) ?_ 0 _ rfl; (with_reducible repeat (first | refine blk_drewN ?_ _ | refine blk_drew ?_ | refine blk_alloc ?_ _)); exact BK209.out⟩
         have n4_ : Aside0 (Below w.heap.size w (w28.setCell ⟨gb209, 0, none⟩ (.slice Ao29 y215.length co29))) := ⟨by repeat (first | (with_reducible first | exact HB.out | apply below_alloc | apply pw_below_drewN | apply below_drew1 | refine below_set ?_ GE202.out | refine below_set ?_ GE209.out) | exact HB.out)⟩
         (try clear HO_210001)
         (try clear HO217)
         (try clear BK202)
         (try clear BK209)
         (try clear HB)
         generalize (w28.setCell ⟨gb209, 0, none⟩ (.slice Ao29 y215.length co29)) = w31 at n0_ n1_ n2_ n3_ n4_ ⊢
         have HO_210001 := n0_
         have HO217 := n1_
         have BK202 := n2_
         have BK209 := n3_
         have HB := n4_
         clear n0_ n1_ n2_ n3_ n4_
         have n0_ := Aside0.mk (Kd.R_drew HO_210001.out)
         have n1_ := Aside0.mk (Kd.R_drew HO217.out)
         have n2_ := Aside0.mk (blk_drew BK202.out)
         have n3_ := Aside0.mk (blk_drew BK209.out)
         have n4_ := Aside0.mk (below_drew1 HB.out)
         clear HO_210001
         clear HO217
         clear BK202
         clear BK209
         clear HB
         have HO_210001 := n0_
         have HO217 := n1_
         have BK202 := n2_
         have BK209 := n3_
         have HB := n4_
         clear n0_ n1_ n2_ n3_ n4_
         have p218 : 0 ≤ (x4_1 : Int) := of_decide_eq_true (by first | (with_reducible assumption) | assumption)
         have q218 : x4_1 < (l0_8.length : Int) := of_decide_eq_true (by first | (with_reducible assumption) | assumption)
         obtain ⟨ad218, e218, hx218_0, hx218_1, hx218_2⟩ := at_T49 HR0_8.out x4_1 p218 q218
         have hw218_2 := hx218_2
         have hw218_1 := hx218_1
         have hw218_0 := hx218_0
         obtain rfl : ad213 = ad218 := (by injection e218)
         replace hx218_0 := (HB.out.cell (World.block_lt_of_cell? w _ hx218_0)).trans hx218_0
         replace hx218_1 := (HB.out.cell (World.block_lt_of_cell? w _ hx218_1)).trans hx218_1
         replace hx218_2 := (HB.out.cell (World.block_lt_of_cell? w _ hx218_2)).trans hx218_2
         replace p218 := eq_true p218
         replace q218 := eq_true q218
         refine start_ (n := 12) (S := fun w' => w'.cell? ⟨gb209, 0, none⟩ = some (.slice Ao29 y215.length co29) ∧ w'.cell? ⟨gb209, 1, none⟩ = some (u210001) ∧ w'.cell? ⟨gb202, 0, none⟩ = some (.int .i64 a0_0) ∧ w'.cell? ⟨gb202, 1, none⟩ = some (.int .i64 a0_1) ∧ w'.cell? ⟨gb202, 2, none⟩ = some (.int .i64 a0_2) ∧ w'.cell? ⟨gb202, 3, none⟩ = some (.int .i64 a0_3) ∧ w'.cell? ⟨gb202, 4, none⟩ = some (.int .i64 a0_4) ∧ w'.cell? ⟨gb202, 5, none⟩ = some (.int .i64 a0_5) ∧ w'.cell? ⟨gb202, 6, none⟩ = some (.string a0_6) ∧ w'.cell? ⟨gb202, 7, none⟩ = some (.slice A0_7 l0_7.length c0_7) ∧ w'.cell? ⟨gb202, 8, none⟩ = some (.slice (some ad213) l0_8.length c0_8) ∧ w'.cell? (ad213.add ((x4_1).toNat * 3)) = some (.string ((rd_T49 l0_8 x4_1).f0)) ∧ w'.cell? ⟨(ad213.add ((x4_1).toNat * 3)).block, (ad213.add ((x4_1).toNat * 3)).off + 1, none⟩ = some (.string ((rd_T49 l0_8 x4_1).f1)) ∧ w'.cell? ⟨(ad213.add ((x4_1).toNat * 3)).block, (ad213.add ((x4_1).toNat * 3)).off + 2, none⟩ = some (.bool ((rd_T49 l0_8 x4_1).f2))) (ds := [11]) #[false, false, false, false, false, false, false, false, false, false, false, false] (by kernel_rfl) rfl rfl ⟨(blk_cell BK209.out 0).trans rfl, (blk_cell BK209.out 1).trans rfl, (blk_cell BK202.out 0).trans rfl, (blk_cell BK202.out 1).trans rfl, (blk_cell BK202.out 2).trans rfl, (blk_cell BK202.out 3).trans rfl, (blk_cell BK202.out 4).trans rfl, (blk_cell BK202.out 5).trans rfl, (blk_cell BK202.out 6).trans rfl, (blk_cell BK202.out 7).trans rfl, (blk_cell BK202.out 8).trans rfl, ((HB.out.cell (World.block_lt_of_cell? w _ hw218_0)).trans hw218_0), ((HB.out.cell (World.block_lt_of_cell? w _ hw218_1)).trans hw218_1), ((HB.out.cell (World.block_lt_of_cell? w _ hw218_2)).trans hw218_2)⟩ (fun hHeld => ?_); refine with_tabW corncribref07_Bytes.tab7 corncribref07_Bytes.bits7 (fun HT_ HW_ => ?_)
         generalize w31.drew = w32 at HO_210001 HO217 BK202 BK209 HB hx218_0 hx218_1 hx218_2 hHeld ⊢
         refine pure_ (i := 0) (N := some 50) (v := ?_) (a' := ?_) #[true, false, false, false, false, false, false, false, false, false, false, false] rfl rfl (any_of HT_.out (by kernel_rfl)) (fun _ _ _ h => h) (Or.inl ⟨by rfl, ?_⟩) ?_ ?_
         rotate_left
         ·intro w'
          go_simp
          with_reducible rfl
         rotate_left
         ·simp only [Act.put, List.setIfInBounds_toArray, List.set_cons_zero, List.set_cons_succ, i64_w, i32_w]
          rfl
         refine pure_ (i := 2) (N := some 52) (v := ?_) (a' := ?_) #[true, false, true, false, false, false, false, false, false, false, false, false] rfl rfl (any_of HT_.out (by kernel_rfl)) (fun _ _ _ h => h) (Or.inl ⟨by rfl, ?_⟩) ?_ ?_
         rotate_left
         ·intro w'
          go_simp
          with_reducible rfl
         rotate_left
         ·simp only [Act.put, List.setIfInBounds_toArray, List.set_cons_zero, List.set_cons_succ, i64_w, i32_w]
          rfl
         refine pure_ (i := 4) (N := some 54) (v := ?_) (a' := ?_) #[true, false, true, false, true, false, false, false, false, false, false, false] rfl rfl (any_of HT_.out (by kernel_rfl)) (fun _ _ _ h => h) (Or.inl ⟨by rfl, ?_⟩) ?_ ?_
         rotate_left
         ·intro w'
          go_simp
          with_reducible rfl
         rotate_left
         ·simp only [Act.put, List.setIfInBounds_toArray, List.set_cons_zero, List.set_cons_succ, i64_w, i32_w]
          rfl
         refine take_ (i := 1) (N := some 51) (v := ?_) (a' := ?_) #[true, true, true, false, true, false, false, false, false, false, false, false] rfl rfl (take_ofW HT_.out HW_.out (by kernel_rfl)) (fun _ _ _ h => h) (Or.inl ⟨by rfl, ?_⟩) hHeld ?_ ?_
         rotate_left
         ·rintro w' ⟨s0, s1, s2, s3, s4, s5, s6, s7, s8, s9, s10, s11, s12, s13⟩
          go_simp
          with_reducible rfl
         rotate_left
         ·simp only [Act.put, List.setIfInBounds_toArray, List.set_cons_zero, List.set_cons_succ, i64_w, i32_w]
          rfl
         refine take_ (i := 3) (N := some 53) (v := ?_) (a' := ?_) #[true, true, true, true, true, false, false, false, false, false, false, false] rfl rfl (take_ofW HT_.out HW_.out (by kernel_rfl)) (fun _ _ _ h => h) (Or.inl ⟨by rfl, ?_⟩) hHeld ?_ ?_
         rotate_left
         ·rintro w' ⟨s0, s1, s2, s3, s4, s5, s6, s7, s8, s9, s10, s11, s12, s13⟩
          go_simp
          with_reducible rfl
         rotate_left
         ·simp only [Act.put, List.setIfInBounds_toArray, List.set_cons_zero, List.set_cons_succ, i64_w, i32_w]
          rfl
         refine pure_ (i := 5) (N := some 55) (v := ?_) (a' := ?_) #[true, true, true, true, true, true, false, false, false, false, false, false] rfl rfl (any_of HT_.out (by kernel_rfl)) (fun _ _ _ h => h) (Or.inl ⟨by rfl, ?_⟩) ?_ ?_
         rotate_left
         ·intro w'
          go_simp
          with_reducible rfl
         rotate_left
         ·simp only [Act.put, List.setIfInBounds_toArray, List.set_cons_zero, List.set_cons_succ, i64_w, i32_w]
          rfl
         refine pure_ (i := 6) (N := some 56) (v := ?_) (a' := ?_) #[true, true, true, true, true, true, true, false, false, false, false, false] rfl rfl (any_of HT_.out (by kernel_rfl)) (fun _ _ _ h => h) (Or.inl ⟨by rfl, ?_⟩) ?_ ?_
         rotate_left
         ·intro w'
          go_simp
          with_reducible rfl
         rotate_left
         ·simp only [Act.put, List.setIfInBounds_toArray, List.set_cons_zero, List.set_cons_succ, i64_w, i32_w]
          rfl
         refine take_ (i := 7) (N := some 57) (v := ?_) (a' := ?_) #[true, true, true, true, true, true, true, true, false, false, false, false] rfl rfl (take_ofW HT_.out HW_.out (by kernel_rfl)) (fun _ _ _ h => h) (Or.inl ⟨by rfl, ?_⟩) hHeld ?_ ?_
         rotate_left
         ·rintro w' ⟨s0, s1, s2, s3, s4, s5, s6, s7, s8, s9, s10, s11, s12, s13⟩
          go_simp
          with_reducible rfl
         rotate_left
         ·simp only [Act.put, List.setIfInBounds_toArray, List.set_cons_zero, List.set_cons_succ, i64_w, i32_w]
          rfl
         refine one_ (i := 8) (N := some 58) #[true, true, true, true, true, true, true, true, true, false, false, false] rfl rfl (one_of HT_.out (by kernel_rfl)) (by decide) (fun K hK => ?_)
         refine value_ (w1 := ?_) (v := ?_) (by rfl) rfl ?_ ?_
         rotate_left 2
         ·go_simp
          constructor
          ·rfl
          ·rfl
         refine hK.out _ _ ⟨(blk_cell (blk_alloc BK209.out _) 0).trans rfl, (blk_cell (blk_alloc BK209.out _) 1).trans rfl, (blk_cell (blk_alloc BK202.out _) 0).trans rfl, (blk_cell (blk_alloc BK202.out _) 1).trans rfl, (blk_cell (blk_alloc BK202.out _) 2).trans rfl, (blk_cell (blk_alloc BK202.out _) 3).trans rfl, (blk_cell (blk_alloc BK202.out _) 4).trans rfl, (blk_cell (blk_alloc BK202.out _) 5).trans rfl, (blk_cell (blk_alloc BK202.out _) 6).trans rfl, (blk_cell (blk_alloc BK202.out _) 7).trans rfl, (blk_cell (blk_alloc BK202.out _) 8).trans rfl, (World.cell?_alloc_lt _ _ _ (World.block_lt_of_cell? _ _ (((HB.out.cell (World.block_lt_of_cell? w _ hw218_0)).trans hw218_0)))).trans (((HB.out.cell (World.block_lt_of_cell? w _ hw218_0)).trans hw218_0)), (World.cell?_alloc_lt _ _ _ (World.block_lt_of_cell? _ _ (((HB.out.cell (World.block_lt_of_cell? w _ hw218_1)).trans hw218_1)))).trans (((HB.out.cell (World.block_lt_of_cell? w _ hw218_1)).trans hw218_1)), (World.cell?_alloc_lt _ _ _ (World.block_lt_of_cell? _ _ (((HB.out.cell (World.block_lt_of_cell? w _ hw218_2)).trans hw218_2)))).trans (((HB.out.cell (World.block_lt_of_cell? w _ hw218_2)).trans hw218_2))⟩ (fun hHeld => ?_)
         clear hK K
         refine norm_ (a' := ?_) ?_ ?_
         rotate_left
         ·show Act.put _ (some 58) _ = _
          simp only [Act.put, List.setIfInBounds_toArray, List.set_cons_zero, List.set_cons_succ, i64_w, i32_w]
          rfl
         refine one_ (i := 9) (N := some 59) #[true, true, true, true, true, true, true, true, true, true, false, false] rfl rfl (one_of HT_.out (by kernel_rfl)) (by decide) (fun K hK => ?_)
         refine Kd.R_append_step Kd.string (w0 := w) w.heap.size (by rfl) (.tmp 51) (.tmp 58) 22 9 (.string ⟨#[]⟩) 16 rfl Try.underlying22 info9 rfl (by decide) (by omega) u210001 x210001_1 ((rd_T49 l0_8 x4_1).f0) [.string ((rd_T49 l0_8 x4_1).f0)] (fun _ => True) (fun _ => False) rfl rfl ?aP (fun _ hk => hk.elim) ?aF ?aO ?aB ?aS ?aL ?_
         (case aP => exact rfl)
         (case aB => exact (by repeat (first | (with_reducible first | exact HB.out | apply below_alloc | apply pw_below_drewN | apply below_drew1 | refine below_set ?_ GE202.out | refine below_set ?_ GE209.out) | exact HB.out)))
         (case aF => exact (fun _ _ => trivial))
         (case aO => exact (by (with_reducible repeat (first | apply Kd.R_alloc | apply Kd.R_drewN | apply Kd.R_drew)); exact HO_210001.out))
         (case aS => exact (below_size (by repeat (first | (with_reducible first | exact HB.out | apply below_alloc | apply pw_below_drewN | apply below_drew1 | refine below_set ?_ GE202.out | refine below_set ?_ GE209.out) | exact HB.out))))
         (case aL => have := LMc23.out; omega)
         intro v220 w33 ho hb hg hat
         rw [← Ny219.out] at ho
         have n0_ := Aside0.mk (blk_grown (g := gb202) (o := .cells #[.int .i64 a0_0, .int .i64 a0_1, .int .i64 a0_2, .int .i64 a0_3, .int .i64 a0_4, .int .i64 a0_5, .string a0_6, .slice A0_7 l0_7.length c0_7, .slice (some ad213) l0_8.length c0_8] 25 (0, 0)) (by (with_reducible repeat (first | refine blk_drewN ?_ _ | refine blk_drew ?_ | refine blk_alloc ?_ _)); exact BK202.out) hg (Kd.R_ne HO_210001.out BK202.out (by decide)))
         have n1_ := Aside0.mk (blk_grown (g := gb209) (o := .cells #[.slice Ao29 y215.length co29, u210001] 47 (0, 0)) (by (with_reducible repeat (first | refine blk_drewN ?_ _ | refine blk_drew ?_ | refine blk_alloc ?_ _)); exact BK209.out) hg (Kd.R_ne HO_210001.out BK209.out (by decide)))
         have n2_ := Aside0.mk (Kd.R_over' (by (with_reducible repeat (first | apply Kd.R_alloc | apply Kd.R_drewN | apply Kd.R_drew)); exact HO217.out) (Kd.R_typed (by (with_reducible repeat (first | apply Kd.R_alloc | apply Kd.R_drewN | apply Kd.R_drew)); exact HO_210001.out)) (by decide) hg)
         have n3_ := Aside0.mk (hb)
         have n4_ := Aside0.mk (ho)
         clear BK202
         clear BK209
         clear HO217
         clear HB
         clear HO_210001
         have BK202 := n0_
         have BK209 := n1_
         have HO217 := n2_
         have HB := n3_
         have HO221 := n4_
         clear n0_ n1_ n2_ n3_ n4_
         clear ho hb hg hat
         obtain ⟨Ao34, co34, eo34⟩ := Kd.R_slice HO221.out
         (first | subst eo34 | (injection eo34 with f1_ f2_ f3_; have f4_ := f1_.symm; have f5_ := f3_.symm; clear f1_ f2_ f3_; subst f4_; subst f5_))
         refine hK.out _ _ ⟨(blk_cell BK209.out 0).trans rfl, (blk_cell BK209.out 1).trans rfl, (blk_cell BK202.out 0).trans rfl, (blk_cell BK202.out 1).trans rfl, (blk_cell BK202.out 2).trans rfl, (blk_cell BK202.out 3).trans rfl, (blk_cell BK202.out 4).trans rfl, (blk_cell BK202.out 5).trans rfl, (blk_cell BK202.out 6).trans rfl, (blk_cell BK202.out 7).trans rfl, (blk_cell BK202.out 8).trans rfl, ((HB.out.cell (World.block_lt_of_cell? w _ hw218_0)).trans hw218_0), ((HB.out.cell (World.block_lt_of_cell? w _ hw218_1)).trans hw218_1), ((HB.out.cell (World.block_lt_of_cell? w _ hw218_2)).trans hw218_2)⟩ (fun hHeld => ?_)
         clear hK K
         refine norm_ (a' := ?_) ?_ ?_
         rotate_left
         ·show Act.put _ (some 59) _ = _
          simp only [Act.put, List.setIfInBounds_toArray, List.set_cons_zero, List.set_cons_succ, i64_w, i32_w]
          rfl
         refine pure_ (i := 10) (N := some 60) (v := ?_) (a' := ?_) #[true, true, true, true, true, true, true, true, true, true, true, false] rfl rfl (any_of HT_.out (by kernel_rfl)) (fun _ _ _ h => h) (Or.inl ⟨by rfl, ?_⟩) ?_ ?_
         rotate_left
         ·intro w'
          go_simp
          with_reducible rfl
         rotate_left
         ·simp only [Act.put, List.setIfInBounds_toArray, List.set_cons_zero, List.set_cons_succ, i64_w, i32_w]
          rfl
         refine last_ (i := 11) (N := none) #[true, true, true, true, true, true, true, true, true, true, true, true] rfl rfl (one_of HT_.out (by kernel_rfl)) (by decide) (fun K hK => ?_)
         have hs35 : w33.cell? ⟨gb209, 1, none⟩ = some (u210001) := (blk_cell BK209.out 1).trans rfl
         have hfs35 := blk_frozen BK209.out 1
         have hns35_0 := NB202_209.out
         have hms35_0 := NB209_202.out
         refine skip_ (w1 := ?_) (by rfl) rfl ?_ ?_
         rotate_left
         ·go_simp
          rfl
         refine hK.out _ _ ?_
         clear hK K
         refine done_ (done_of HT_.out (by kernel_rfl)) ?_
         try go_wp2
         have n0_ : Aside0 (Kd.R (Kd.int .i64) 3 (w33.setCell ⟨gb209, 1, none⟩ (.slice Ao34 y219.length co34)) w.heap.size (fun _ => True) (.slice Ao29 y215.length co29) y215) := ⟨by (with_reducible repeat (first | apply Kd.R_alloc | apply Kd.R_drewN | apply Kd.R_drew)); exact Kd.R_mono (Kd.R_far (p := ⟨gb209, 1, none⟩) (Kd.R_types HO217.out BK209.out (by decide)) (fun _ hk => hk.2) (.slice Ao34 y219.length co34)) (fun _ hk => trivial)⟩
         have n1_ : Aside0 (Kd.R Kd.string 9 (w33.setCell ⟨gb209, 1, none⟩ (.slice Ao34 y219.length co34)) w.heap.size (fun _ => True) (.slice Ao34 y219.length co34) y219) := ⟨by (with_reducible repeat (first | apply Kd.R_alloc | apply Kd.R_drewN | apply Kd.R_drew)); exact Kd.R_mono (Kd.R_far (p := ⟨gb209, 1, none⟩) (Kd.R_types HO221.out BK209.out (by decide)) (fun _ hk => hk.2) (.slice Ao34 y219.length co34)) (fun _ hk => trivial)⟩
         have n2_ : Aside0 ((w33.setCell ⟨gb209, 1, none⟩ (.slice Ao34 y219.length co34)).heap[gb202]? = some (.cells #[.int .i64 a0_0, .int .i64 a0_1, .int .i64 a0_2, .int .i64 a0_3, .int .i64 a0_4, .int .i64 a0_5, .string a0_6, .slice A0_7 l0_7.length c0_7, .slice (some ad213) l0_8.length c0_8] 25 (0, 0))) := ⟨by (with_reducible repeat (first | refine blk_drewN ?_ _ | refine blk_drew ?_ | refine blk_alloc ?_ _)); refine blk_far ?_ NB202_209.out _; (with_reducible repeat (first | refine blk_drewN ?_ _ | refine blk_drew ?_ | refine blk_alloc ?_ _)); exact BK202.out⟩
         have n3_ : Aside0 ((w33.setCell ⟨gb209, 1, none⟩ (.slice Ao34 y219.length co34)).heap[gb209]? = some (.cells #[.slice Ao29 y215.length co29, .slice Ao34 y219.length co34] 47 (0, 0))) := ⟨by (with_reducible repeat (first | refine blk_drewN ?_ _ | refine blk_drew ?_ | refine blk_alloc ?_ _)); refine blk_put (cs := #[.slice Ao29 y215.length co29, u210001]) ?_ 1 _ rfl; (with_reducible repeat (first | refine blk_drewN ?_ _ | refine blk_drew ?_ | refine blk_alloc ?_ _)); exact BK209.out⟩
         have n4_ : Aside0 (Below w.heap.size w (w33.setCell ⟨gb209, 1, none⟩ (.slice Ao34 y219.length co34))) := ⟨by repeat (first | (with_reducible first | exact HB.out | apply below_alloc | apply pw_below_drewN | apply below_drew1 | refine below_set ?_ GE202.out | refine below_set ?_ GE209.out) | exact HB.out)⟩
         (try clear HO217)
         (try clear HO221)
         (try clear BK202)
         (try clear BK209)
         (try clear HB)
         generalize (w33.setCell ⟨gb209, 1, none⟩ (.slice Ao34 y219.length co34)) = w36 at n0_ n1_ n2_ n3_ n4_ ⊢
         have HO217 := n0_
         have HO221 := n1_
         have BK202 := n2_
         have BK209 := n3_
         have HB := n4_
         clear n0_ n1_ n2_ n3_ n4_
         have n0_ := Aside0.mk (Kd.R_drew HO217.out)
         have n1_ := Aside0.mk (Kd.R_drew HO221.out)
         have n2_ := Aside0.mk (blk_drew BK202.out)
         have n3_ := Aside0.mk (blk_drew BK209.out)
         have n4_ := Aside0.mk (below_drew1 HB.out)
         clear HO217
         clear HO221
         clear BK202
         clear BK209
         clear HB
         have HO217 := n0_
         have HO221 := n1_
         have BK202 := n2_
         have BK209 := n3_
         have HB := n4_
         clear n0_ n1_ n2_ n3_ n4_
         have p222 : 0 ≤ (x4_1 : Int) := of_decide_eq_true (by first | (with_reducible assumption) | assumption)
         have q222 : x4_1 < (l0_8.length : Int) := of_decide_eq_true (by first | (with_reducible assumption) | assumption)
         obtain ⟨ad222, e222, hx222_0, hx222_1, hx222_2⟩ := at_T49 HR0_8.out x4_1 p222 q222
         have hw222_2 := hx222_2
         have hw222_1 := hx222_1
         have hw222_0 := hx222_0
         obtain rfl : ad213 = ad222 := (by injection e222)
         replace hx222_0 := (HB.out.cell (World.block_lt_of_cell? w _ hx222_0)).trans hx222_0
         replace hx222_1 := (HB.out.cell (World.block_lt_of_cell? w _ hx222_1)).trans hx222_1
         replace hx222_2 := (HB.out.cell (World.block_lt_of_cell? w _ hx222_2)).trans hx222_2
         replace p222 := eq_true p222
         replace q222 := eq_true q222
         refine start_ (n := 12) (S := fun w' => w'.cell? ⟨gb209, 0, none⟩ = some (.slice Ao29 y215.length co29) ∧ w'.cell? ⟨gb209, 1, none⟩ = some (.slice Ao34 y219.length co34) ∧ w'.cell? ⟨gb202, 0, none⟩ = some (.int .i64 a0_0) ∧ w'.cell? ⟨gb202, 1, none⟩ = some (.int .i64 a0_1) ∧ w'.cell? ⟨gb202, 2, none⟩ = some (.int .i64 a0_2) ∧ w'.cell? ⟨gb202, 3, none⟩ = some (.int .i64 a0_3) ∧ w'.cell? ⟨gb202, 4, none⟩ = some (.int .i64 a0_4) ∧ w'.cell? ⟨gb202, 5, none⟩ = some (.int .i64 a0_5) ∧ w'.cell? ⟨gb202, 6, none⟩ = some (.string a0_6) ∧ w'.cell? ⟨gb202, 7, none⟩ = some (.slice A0_7 l0_7.length c0_7) ∧ w'.cell? ⟨gb202, 8, none⟩ = some (.slice (some ad213) l0_8.length c0_8) ∧ w'.cell? (ad213.add ((x4_1).toNat * 3)) = some (.string ((rd_T49 l0_8 x4_1).f0)) ∧ w'.cell? ⟨(ad213.add ((x4_1).toNat * 3)).block, (ad213.add ((x4_1).toNat * 3)).off + 1, none⟩ = some (.string ((rd_T49 l0_8 x4_1).f1)) ∧ w'.cell? ⟨(ad213.add ((x4_1).toNat * 3)).block, (ad213.add ((x4_1).toNat * 3)).off + 2, none⟩ = some (.bool ((rd_T49 l0_8 x4_1).f2))) (ds := [11]) #[false, false, false, false, false, false, false, false, false, false, false, false] (by kernel_rfl) rfl rfl ⟨(blk_cell BK209.out 0).trans rfl, (blk_cell BK209.out 1).trans rfl, (blk_cell BK202.out 0).trans rfl, (blk_cell BK202.out 1).trans rfl, (blk_cell BK202.out 2).trans rfl, (blk_cell BK202.out 3).trans rfl, (blk_cell BK202.out 4).trans rfl, (blk_cell BK202.out 5).trans rfl, (blk_cell BK202.out 6).trans rfl, (blk_cell BK202.out 7).trans rfl, (blk_cell BK202.out 8).trans rfl, ((HB.out.cell (World.block_lt_of_cell? w _ hw222_0)).trans hw222_0), ((HB.out.cell (World.block_lt_of_cell? w _ hw222_1)).trans hw222_1), ((HB.out.cell (World.block_lt_of_cell? w _ hw222_2)).trans hw222_2)⟩ (fun hHeld => ?_); refine with_tabW corncribref07_Bytes.tab8 corncribref07_Bytes.bits8 (fun HT_ HW_ => ?_)
         generalize w36.drew = w37 at HO217 HO221 BK202 BK209 HB hx222_0 hx222_1 hx222_2 hHeld ⊢
         refine pure_ (i := 0) (N := some 61) (v := ?_) (a' := ?_) #[true, false, false, false, false, false, false, false, false, false, false, false] rfl rfl (any_of HT_.out (by kernel_rfl)) (fun _ _ _ h => h) (Or.inl ⟨by rfl, ?_⟩) ?_ ?_
         rotate_left
         ·intro w'
          go_simp
          with_reducible rfl
         rotate_left
         ·simp only [Act.put, List.setIfInBounds_toArray, List.set_cons_zero, List.set_cons_succ, i64_w, i32_w]
          rfl
         refine pure_ (i := 2) (N := some 63) (v := ?_) (a' := ?_) #[true, false, true, false, false, false, false, false, false, false, false, false] rfl rfl (any_of HT_.out (by kernel_rfl)) (fun _ _ _ h => h) (Or.inl ⟨by rfl, ?_⟩) ?_ ?_
         rotate_left
         ·intro w'
          go_simp
          with_reducible rfl
         rotate_left
         ·simp only [Act.put, List.setIfInBounds_toArray, List.set_cons_zero, List.set_cons_succ, i64_w, i32_w]
          rfl
         refine pure_ (i := 4) (N := some 65) (v := ?_) (a' := ?_) #[true, false, true, false, true, false, false, false, false, false, false, false] rfl rfl (any_of HT_.out (by kernel_rfl)) (fun _ _ _ h => h) (Or.inl ⟨by rfl, ?_⟩) ?_ ?_
         rotate_left
         ·intro w'
          go_simp
          with_reducible rfl
         rotate_left
         ·simp only [Act.put, List.setIfInBounds_toArray, List.set_cons_zero, List.set_cons_succ, i64_w, i32_w]
          rfl
         refine take_ (i := 1) (N := some 62) (v := ?_) (a' := ?_) #[true, true, true, false, true, false, false, false, false, false, false, false] rfl rfl (take_ofW HT_.out HW_.out (by kernel_rfl)) (fun _ _ _ h => h) (Or.inl ⟨by rfl, ?_⟩) hHeld ?_ ?_
         rotate_left
         ·rintro w' ⟨s0, s1, s2, s3, s4, s5, s6, s7, s8, s9, s10, s11, s12, s13⟩
          go_simp
          with_reducible rfl
         rotate_left
         ·simp only [Act.put, List.setIfInBounds_toArray, List.set_cons_zero, List.set_cons_succ, i64_w, i32_w]
          rfl
         refine take_ (i := 3) (N := some 64) (v := ?_) (a' := ?_) #[true, true, true, true, true, false, false, false, false, false, false, false] rfl rfl (take_ofW HT_.out HW_.out (by kernel_rfl)) (fun _ _ _ h => h) (Or.inl ⟨by rfl, ?_⟩) hHeld ?_ ?_
         rotate_left
         ·rintro w' ⟨s0, s1, s2, s3, s4, s5, s6, s7, s8, s9, s10, s11, s12, s13⟩
          go_simp
          with_reducible rfl
         rotate_left
         ·simp only [Act.put, List.setIfInBounds_toArray, List.set_cons_zero, List.set_cons_succ, i64_w, i32_w]
          rfl
         refine pure_ (i := 5) (N := some 66) (v := ?_) (a' := ?_) #[true, true, true, true, true, true, false, false, false, false, false, false] rfl rfl (any_of HT_.out (by kernel_rfl)) (fun _ _ _ h => h) (Or.inl ⟨by rfl, ?_⟩) ?_ ?_
         rotate_left
         ·intro w'
          go_simp
          with_reducible rfl
         rotate_left
         ·simp only [Act.put, List.setIfInBounds_toArray, List.set_cons_zero, List.set_cons_succ, i64_w, i32_w]
          rfl
         refine pure_ (i := 6) (N := some 67) (v := ?_) (a' := ?_) #[true, true, true, true, true, true, true, false, false, false, false, false] rfl rfl (any_of HT_.out (by kernel_rfl)) (fun _ _ _ h => h) (Or.inl ⟨by rfl, ?_⟩) ?_ ?_
         rotate_left
         ·intro w'
          go_simp
          with_reducible rfl
         rotate_left
         ·simp only [Act.put, List.setIfInBounds_toArray, List.set_cons_zero, List.set_cons_succ, i64_w, i32_w]
          rfl
         refine take_ (i := 7) (N := some 68) (v := ?_) (a' := ?_) #[true, true, true, true, true, true, true, true, false, false, false, false] rfl rfl (take_ofW HT_.out HW_.out (by kernel_rfl)) (fun _ _ _ h => h) (Or.inl ⟨by rfl, ?_⟩) hHeld ?_ ?_
         rotate_left
         ·rintro w' ⟨s0, s1, s2, s3, s4, s5, s6, s7, s8, s9, s10, s11, s12, s13⟩
          go_simp
          with_reducible rfl
         rotate_left
         ·simp only [Act.put, List.setIfInBounds_toArray, List.set_cons_zero, List.set_cons_succ, i64_w, i32_w]
          rfl
         refine one_ (i := 8) (N := some 69) #[true, true, true, true, true, true, true, true, true, false, false, false] rfl rfl (one_of HT_.out (by kernel_rfl)) (by decide) (fun K hK => ?_)
         refine value_ (w1 := ?_) (v := ?_) (by rfl) rfl ?_ ?_
         rotate_left 2
         ·go_simp
          constructor
          ·rfl
          ·rfl
         refine hK.out _ _ ⟨(blk_cell (blk_alloc BK209.out _) 0).trans rfl, (blk_cell (blk_alloc BK209.out _) 1).trans rfl, (blk_cell (blk_alloc BK202.out _) 0).trans rfl, (blk_cell (blk_alloc BK202.out _) 1).trans rfl, (blk_cell (blk_alloc BK202.out _) 2).trans rfl, (blk_cell (blk_alloc BK202.out _) 3).trans rfl, (blk_cell (blk_alloc BK202.out _) 4).trans rfl, (blk_cell (blk_alloc BK202.out _) 5).trans rfl, (blk_cell (blk_alloc BK202.out _) 6).trans rfl, (blk_cell (blk_alloc BK202.out _) 7).trans rfl, (blk_cell (blk_alloc BK202.out _) 8).trans rfl, (World.cell?_alloc_lt _ _ _ (World.block_lt_of_cell? _ _ (((HB.out.cell (World.block_lt_of_cell? w _ hw222_0)).trans hw222_0)))).trans (((HB.out.cell (World.block_lt_of_cell? w _ hw222_0)).trans hw222_0)), (World.cell?_alloc_lt _ _ _ (World.block_lt_of_cell? _ _ (((HB.out.cell (World.block_lt_of_cell? w _ hw222_1)).trans hw222_1)))).trans (((HB.out.cell (World.block_lt_of_cell? w _ hw222_1)).trans hw222_1)), (World.cell?_alloc_lt _ _ _ (World.block_lt_of_cell? _ _ (((HB.out.cell (World.block_lt_of_cell? w _ hw222_2)).trans hw222_2)))).trans (((HB.out.cell (World.block_lt_of_cell? w _ hw222_2)).trans hw222_2))⟩ (fun hHeld => ?_)
         clear hK K
         refine norm_ (a' := ?_) ?_ ?_
         rotate_left
         ·show Act.put _ (some 69) _ = _
          simp only [Act.put, List.setIfInBounds_toArray, List.set_cons_zero, List.set_cons_succ, i64_w, i32_w]
          rfl
         refine one_ (i := 9) (N := some 70) #[true, true, true, true, true, true, true, true, true, true, false, false] rfl rfl (one_of HT_.out (by kernel_rfl)) (by decide) (fun K hK => ?_)
         refine Kd.R_append_step Kd.string (w0 := w) w.heap.size (by rfl) (.tmp 62) (.tmp 69) 22 9 (.string ⟨#[]⟩) 16 rfl Try.underlying22 info9 rfl (by decide) (by omega) (.slice Ao34 y219.length co34) y219 ((rd_T49 l0_8 x4_1).f1) [.string ((rd_T49 l0_8 x4_1).f1)] (fun _ => True) (fun _ => False) rfl rfl ?aP (fun _ hk => hk.elim) ?aF ?aO ?aB ?aS ?aL ?_
         (case aP => exact rfl)
         (case aB => exact (by repeat (first | (with_reducible first | exact HB.out | apply below_alloc | apply pw_below_drewN | apply below_drew1 | refine below_set ?_ GE202.out | refine below_set ?_ GE209.out) | exact HB.out)))
         (case aF => exact (fun _ _ => trivial))
         (case aO => exact (by (with_reducible repeat (first | apply Kd.R_alloc | apply Kd.R_drewN | apply Kd.R_drew)); exact HO221.out))
         (case aS => exact (below_size (by repeat (first | (with_reducible first | exact HB.out | apply below_alloc | apply pw_below_drewN | apply below_drew1 | refine below_set ?_ GE202.out | refine below_set ?_ GE209.out) | exact HB.out))))
         (case aL => have := LMc24.out; omega)
         intro v224 w38 ho hb hg hat
         rw [← Ny223.out] at ho
         have n0_ := Aside0.mk (blk_grown (g := gb202) (o := .cells #[.int .i64 a0_0, .int .i64 a0_1, .int .i64 a0_2, .int .i64 a0_3, .int .i64 a0_4, .int .i64 a0_5, .string a0_6, .slice A0_7 l0_7.length c0_7, .slice (some ad213) l0_8.length c0_8] 25 (0, 0)) (by (with_reducible repeat (first | refine blk_drewN ?_ _ | refine blk_drew ?_ | refine blk_alloc ?_ _)); exact BK202.out) hg (Kd.R_ne HO221.out BK202.out (by decide)))
         have n1_ := Aside0.mk (blk_grown (g := gb209) (o := .cells #[.slice Ao29 y215.length co29, .slice Ao34 y219.length co34] 47 (0, 0)) (by (with_reducible repeat (first | refine blk_drewN ?_ _ | refine blk_drew ?_ | refine blk_alloc ?_ _)); exact BK209.out) hg (Kd.R_ne HO221.out BK209.out (by decide)))
         have n2_ := Aside0.mk (Kd.R_over' (by (with_reducible repeat (first | apply Kd.R_alloc | apply Kd.R_drewN | apply Kd.R_drew)); exact HO217.out) (Kd.R_typed (by (with_reducible repeat (first | apply Kd.R_alloc | apply Kd.R_drewN | apply Kd.R_drew)); exact HO221.out)) (by decide) hg)
         have n3_ := Aside0.mk (hb)
         have n4_ := Aside0.mk (ho)
         clear BK202
         clear BK209
         clear HO217
         clear HB
         clear HO221
         have BK202 := n0_
         have BK209 := n1_
         have HO217 := n2_
         have HB := n3_
         have HO225 := n4_
         clear n0_ n1_ n2_ n3_ n4_
         clear ho hb hg hat
         obtain ⟨Ao39, co39, eo39⟩ := Kd.R_slice HO225.out
         (first | subst eo39 | (injection eo39 with f1_ f2_ f3_; have f4_ := f1_.symm; have f5_ := f3_.symm; clear f1_ f2_ f3_; subst f4_; subst f5_))
         refine hK.out _ _ ⟨(blk_cell BK209.out 0).trans rfl, (blk_cell BK209.out 1).trans rfl, (blk_cell BK202.out 0).trans rfl, (blk_cell BK202.out 1).trans rfl, (blk_cell BK202.out 2).trans rfl, (blk_cell BK202.out 3).trans rfl, (blk_cell BK202.out 4).trans rfl, (blk_cell BK202.out 5).trans rfl, (blk_cell BK202.out 6).trans rfl, (blk_cell BK202.out 7).trans rfl, (blk_cell BK202.out 8).trans rfl, ((HB.out.cell (World.block_lt_of_cell? w _ hw222_0)).trans hw222_0), ((HB.out.cell (World.block_lt_of_cell? w _ hw222_1)).trans hw222_1), ((HB.out.cell (World.block_lt_of_cell? w _ hw222_2)).trans hw222_2)⟩ (fun hHeld => ?_)
         clear hK K
         refine norm_ (a' := ?_) ?_ ?_
         rotate_left
         ·show Act.put _ (some 70) _ = _
          simp only [Act.put, List.setIfInBounds_toArray, List.set_cons_zero, List.set_cons_succ, i64_w, i32_w]
          rfl
         refine pure_ (i := 10) (N := some 71) (v := ?_) (a' := ?_) #[true, true, true, true, true, true, true, true, true, true, true, false] rfl rfl (any_of HT_.out (by kernel_rfl)) (fun _ _ _ h => h) (Or.inl ⟨by rfl, ?_⟩) ?_ ?_
         rotate_left
         ·intro w'
          go_simp
          with_reducible rfl
         rotate_left
         ·simp only [Act.put, List.setIfInBounds_toArray, List.set_cons_zero, List.set_cons_succ, i64_w, i32_w]
          rfl
         refine last_ (i := 11) (N := none) #[true, true, true, true, true, true, true, true, true, true, true, true] rfl rfl (one_of HT_.out (by kernel_rfl)) (by decide) (fun K hK => ?_)
         have hs40 : w38.cell? ⟨gb209, 1, none⟩ = some (.slice Ao34 y219.length co34) := (blk_cell BK209.out 1).trans rfl
         have hfs40 := blk_frozen BK209.out 1
         have hns40_0 := NB202_209.out
         have hms40_0 := NB209_202.out
         refine skip_ (w1 := ?_) (by rfl) rfl ?_ ?_
         rotate_left
         ·go_simp
          rfl
         refine hK.out _ _ ?_
         clear hK K
         refine done_ (done_of HT_.out (by kernel_rfl)) ?_
         try go_wp2
         go_roundg k1
         case measure => have := HK1.out; omega
         case rel => exact ⟨(wrap64 (x4_1 + 1)), (y215), (y223), (.slice Ao29 y215.length co29), (.slice Ao39 y223.length co39), (by first | rfl | (simp; done) | (simp [*]; done)), H', ⟨by have := HK1.out; omega⟩, ⟨by (with_reducible repeat (first | apply Kd.R_alloc | apply Kd.R_drewN | apply Kd.R_drew)); exact Kd.R_mono (Kd.R_far (p := ⟨gb209, 1, none⟩) (Kd.R_types HO217.out BK209.out (by decide)) (fun _ hk => hk.2) (.slice Ao39 y223.length co39)) (fun _ hk => trivial)⟩, ⟨by (with_reducible repeat (first | apply Kd.R_alloc | apply Kd.R_drewN | apply Kd.R_drew)); exact Kd.R_mono (Kd.R_far (p := ⟨gb209, 1, none⟩) (Kd.R_types HO225.out BK209.out (by decide)) (fun _ hk => hk.2) (.slice Ao39 y223.length co39)) (fun _ hk => trivial)⟩, ⟨by (with_reducible repeat (first | refine blk_drewN ?_ _ | refine blk_drew ?_ | refine blk_alloc ?_ _)); refine blk_far ?_ NB202_209.out _; (with_reducible repeat (first | refine blk_drewN ?_ _ | refine blk_drew ?_ | refine blk_alloc ?_ _)); exact BK202.out⟩, ⟨by (with_reducible repeat (first | refine blk_drewN ?_ _ | refine blk_drew ?_ | refine blk_alloc ?_ _)); refine blk_put (cs := #[.slice Ao29 y215.length co29, .slice Ao34 y219.length co34]) ?_ 1 _ rfl; (with_reducible repeat (first | refine blk_drewN ?_ _ | refine blk_drew ?_ | refine blk_alloc ?_ _)); exact BK209.out⟩, ⟨by repeat (first | (with_reducible first | exact HB.out | apply below_alloc | apply pw_below_drewN | apply below_drew1 | refine below_set ?_ GE202.out | refine below_set ?_ GE209.out) | exact HB.out)⟩⟩
        ·rw [if_neg c24] at H
         exact absurd H (by simp)
       ·rw [if_neg c23] at H
        exact absurd H (by simp)
      ·rw [if_neg c22] at H
       exact absurd H (by simp)
     ·rw [if_neg c20] at H
      exact absurd H (by simp)
    ·rw [if_neg c19] at H
     have c19b0 : decide (x4_1 < (l0_8.length : Int)) = false := decide_eq_false c19
     clear c19
     replace H := Option.bind_eq_some_iff.mp H
     obtain ⟨t226, A410, H⟩ := H
     replace H : (some t226) = some r := H
     have A41 := Aside0.mk A410
     clear A410
     obtain rfl := Option.some.inj H
     have hnb42 := NB202_209.out
     have hnc42 := NB209_202.out
     obtain ⟨hcz43_0, hfz43_0, hcz43_1, hfz43_1, hcz43_2, hfz43_2, hcz43_3, hfz43_3, hcz43_4, hfz43_4, hcz43_5, hfz43_5, hcz43_6, hfz43_6, hcz43_7, hfz43_7, hcz43_8, hfz43_8⟩ := cfz9 BK202.out
     obtain ⟨hcz44_0, hfz44_0, hcz44_1, hfz44_1⟩ := cfz2 BK209.out
     obtain ⟨Ao45, co45, eo45⟩ := Kd.R_slice HO_210000.out
     subst eo45
     obtain ⟨Ao46, co46, eo46⟩ := Kd.R_slice HO_210001.out
     subst eo46
     go_wp2_with (first | ((with_reducible refine gate_callee (f := 44) rfl ?_); refine goesL_ (some 73) rfl rfl Try.func44 (by kernel_rfl) rfl #[.agg #[.slice Ao45 x210000_1.length co45, .slice Ao46 x210001_1.length co46]] rfl (by (try simp only [List.map_toArray, List.map_cons, List.map_nil]); first | done | rfl | (simp only [List.length_drop, List.length_take]; rfl)) ?_; (with_reducible refine (corncribref06_Bytes.calls k1 _ _ x210000_1 _ _ x210001_1 t226 _ ?side1 ?side2 ?side3 ?side4 A41.out).mono ?_); (case side1 => repeat (first | exact (Kd.R_reads' HO_210000.out).2.2 | (with_reducible refine Kd.C_alloc ?_ _) | (with_reducible refine Kd.C_drewN ?_ _) | (with_reducible refine Kd.C_drew ?_))); (case side2 => exact (Kd.R_reads' HO_210000.out).2.1); (case side3 => repeat (first | exact (Kd.R_reads' HO_210001.out).2.2 | (with_reducible refine Kd.C_alloc ?_ _) | (with_reducible refine Kd.C_drewN ?_ _) | (with_reducible refine Kd.C_drew ?_))); (case side4 => exact (Kd.R_reads' HO_210001.out).2.1); rintro e w47 ⟨rfl, hb⟩; refine ⟨_, rfl, ?_⟩; have n0_ := Aside0.mk (Kd.R_below (by (with_reducible repeat (first | apply Kd.R_alloc | apply Kd.R_drewN | apply Kd.R_drew)); exact HO_210000.out) hb); have n1_ := Aside0.mk (Kd.R_below (by (with_reducible repeat (first | apply Kd.R_alloc | apply Kd.R_drewN | apply Kd.R_drew)); exact HO_210001.out) hb); have n2_ := Aside0.mk (blk_below (g := gb202) (o := .cells #[.int .i64 a0_0, .int .i64 a0_1, .int .i64 a0_2, .int .i64 a0_3, .int .i64 a0_4, .int .i64 a0_5, .string a0_6, .slice A0_7 l0_7.length c0_7, .slice A0_8 l0_8.length c0_8] 25 (0, 0)) (by (with_reducible repeat (first | refine blk_drewN ?_ _ | refine blk_drew ?_ | refine blk_alloc ?_ _)); exact BK202.out) hb); have n3_ := Aside0.mk (blk_below (g := gb209) (o := .cells #[.slice Ao45 x210000_1.length co45, .slice Ao46 x210001_1.length co46] 47 (0, 0)) (by (with_reducible repeat (first | refine blk_drewN ?_ _ | refine blk_drew ?_ | refine blk_alloc ?_ _)); exact BK209.out) hb); have n4_ := Aside0.mk (below_step (by repeat (first | (with_reducible first | exact HB.out | apply below_alloc | apply pw_below_drewN | apply below_drew1 | refine below_set ?_ GE202.out | refine below_set ?_ GE209.out) | exact HB.out)) hb); clear HO_210000; clear HO_210001; clear BK202; clear BK209; clear HB; have HO_210000 := n0_; have HO_210001 := n1_; have BK202 := n2_; have BK209 := n3_; have HB := n4_; clear n0_ n1_ n2_ n3_ n4_; (try clear hb); (try clear hb2); (try clear hk); (try clear hi)))
     go_ret
     exact ⟨by first | rfl | (simp [errW_none, errW_some] <;> rfl) | (simp [*, errW_none, errW_some] <;> rfl), by repeat (first | (with_reducible first | exact HB.out | apply below_alloc | apply pw_below_drewN | apply below_drew1 | refine below_set ?_ GE202.out | refine below_set ?_ GE209.out) | exact HB.out)⟩
 ·rw [if_neg c2] at H
  exact absurd H (by simp)
end Go.Proofs.Ytelgpkbnahgdoaa.Al

namespace Go.Proofs.Ytelgpkbnahgdoaa.Al
open Go.RowKit Go.Proofs.Ytelgpkbnahgdoaa.Base Go.Proofs.YtelgpkbnahgdoaaW.PrintWords Go.Proofs.YtelgpkbnahgdoaaW.PrintLast Go.Proofs.YtelgpkbnahgdoaaW.PrintMore
set_option linter.unusedVariables false
set_option linter.unusedSimpArgs false
/-- A letter and what is said of it. -/
abbrev RLetR := Int × Int × Int × Int × Int × Int × ByteArray × List ByteArray × List S49 × Int
def noRef : RLetR := (0, 0, 0, 0, 0, 0, ⟨#[]⟩, [], [], 70)
/-- What a pack's numbers and texts are as a letter. -/
def rletOf (k : Nat) (s : ByteArray) (ns : List Int) (ts : List ByteArray) : Option RLetR :=
 if 0 ≤ rd ns 6 ∧ rd ns 6 ≤ (ts.length : Int) - 1 then
  (corncribref07_Pairs.f k (ns.drop 7) (ts.drop (1 + rd ns 6).toNat)).bind fun q =>
   if q.2 = true then
    (corncribref07_Check.f k (rd ns 0) (rd ns 1) (rd ns 2) (rd ns 3) (rd ns 4) (rd ns 5) (rdOf ByteArray.empty ts 0) ((ts.take (1 + rd ns 6).toNat).drop 1) q.1).bind fun c =>
     if c = 0 then
      (corncribref07_Bytes.f k (rd ns 0) (rd ns 1) (rd ns 2) (rd ns 3) (rd ns 4) (rd ns 5) (rdOf ByteArray.empty ts 0) ((ts.take (1 + rd ns 6).toNat).drop 1) q.1).bind fun b =>
       if b = s then some (rd ns 0, rd ns 1, rd ns 2, rd ns 3, rd ns 4, rd ns 5, rdOf ByteArray.empty ts 0, (ts.take (1 + rd ns 6).toNat).drop 1, q.1, 0) else some noRef
     else some noRef
   else some noRef
 else some noRef
def corncribref07_Decode.f (k : Nat) (s : ByteArray) : Option RLetR :=
 (corncribref06_Decode.f s).bind fun d => if d.2.2.2 = 0 ∧ 7 ≤ d.1.length ∧ 1 ≤ d.2.1.length then rletOf k s d.1 d.2.1 else some noRef
/-- The result's block gq, the pack's block gp. -/
structure QR (w0 W : World) (gq gp : Nat) (xs : List Int) (ts : List ByteArray) (vN vT : Value) : Prop where
 bq : W.heap[gq]? = some (.cells #[.int .i64 0, .int .i64 0, .int .i64 0, .int .i64 0, .int .i64 0, .int .i64 0, .string (⟨#[]⟩ : ByteArray), .slice none 0 0, .slice none 0 0] 25 (0, 0))
 bp : W.heap[gp]? = some (.cells #[vN, vT] 47 (0, 0))
 geq : w0.heap.size ≤ gq
 gep : w0.heap.size ≤ gp
 ns : (Kd.int .i64).R 3 W w0.heap.size (fun _ => True) vN xs
 ts : Kd.string.R 9 W w0.heap.size (fun _ => True) vT ts
 bel : Below w0.heap.size w0 W
section
variable {w0 W : World} {gq gp : Nat} {xs : List Int} {ts : List ByteArray} {vN vT : Value}
theorem QR.below {W1 : World} (h : QR w0 W gq gp xs ts vN vT) (hb : Below W.heap.size W W1) : QR w0 W1 gq gp xs ts vN vT where
 bq := blk_below h.bq hb
 bp := blk_below h.bp hb
 geq := h.geq
 gep := h.gep
 ns := Kd.R_below h.ns hb
 ts := Kd.R_below h.ts hb
 bel := below_step h.bel hb
theorem QR.alloc (h : QR w0 W gq gp xs ts vN vT) (o : Obj) : QR w0 (W.alloc o) gq gp xs ts vN vT := h.below (below_alloc (Below.refl _ _) o)
theorem QR.drewN (h : QR w0 W gq gp xs ts vN vT) (m : Nat) : QR w0 (W.drewN m) gq gp xs ts vN vT := h.below (pw_below_drewN (Below.refl _ _) m)
theorem QR.drew (h : QR w0 W gq gp xs ts vN vT) : QR w0 W.drew gq gp xs ts vN vT := h.below (below_drew (Below.refl _ _))
end
/-- The empty letter and 70 come back. -/
def NoLetE (w : World) (e : Ending) (w' : World) : Prop := e = .returned (.tuple #[.agg #[.int .i64 0, .int .i64 0, .int .i64 0, .int .i64 0, .int .i64 0, .int .i64 0, .string (⟨#[]⟩ : ByteArray), .slice none 0 0, .slice none 0 0], .int .i64 70]) ∧ Below w.heap.size w w'
theorem qr_of {w0 w2 w3 : World} {gq gp : Nat} {xs : List Int} {ts : List ByteArray} {vN vT : Value} (geq : w0.heap.size ≤ gq) (bq : w2.heap[gq]? = some (.cells #[.int .i64 0, .int .i64 0, .int .i64 0, .int .i64 0, .int .i64 0, .int .i64 0, .string (⟨#[]⟩ : ByteArray), .slice none 0 0, .slice none 0 0] 25 (0, 0))) (bp : w3.heap[gp]? = some (.cells #[.slice none 0 0, .slice none 0 0] 47 (0, 0))) (hgp : gp = w2.heap.size) (hns : (Kd.int .i64).R 3 w2 w0.heap.size (fun _ => True) vN xs) (hts : Kd.string.R 9 w2 w0.heap.size (fun _ => True) vT ts) (hb : Below w0.heap.size w0 w2) (hb3 : Below w2.heap.size w2 w3) :
  QR w0 ((w3.setCell ⟨gp, 0, none⟩ vN).setCell ⟨gp, 1, none⟩ vT) gq gp xs ts vN vT := by
 have ge : w0.heap.size ≤ gp := by have := hb.size; omega
 have ne : gq ≠ gp := by have := blk_lt bq; omega
 have bp1 := blk_set bp 0 vN
 exact ⟨blk_far (blk_far (blk_below bq hb3) (p := ⟨gp, 0, none⟩) ne vN) (p := ⟨gp, 1, none⟩) ne vT, by simpa using blk_set bp1 1 vT, geq, ge, Kd.R_set (Kd.R_set (Kd.R_below hns hb3) bp (by decide) 0 vN) bp1 (by decide) 1 vT, Kd.R_set (Kd.R_set (Kd.R_below hts hb3) bp (by decide) 0 vN) bp1 (by decide) 1 vT, below_set (below_set (below_step hb hb3) ge) ge⟩
theorem set9 {w : World} {g t : Nat} {z0 z1 z2 z3 z4 z5 z6 z7 z8 c0 c1 c2 c3 c4 c5 c6 c7 c8 : Value} (h : w.heap[g]? = some (.cells #[z0, z1, z2, z3, z4, z5, z6, z7, z8] t (0, 0))) : (((((((((w.setCell ⟨g, 0, none⟩ c0).setCell ⟨g, 1, none⟩ c1).setCell ⟨g, 2, none⟩ c2).setCell ⟨g, 3, none⟩ c3).setCell ⟨g, 4, none⟩ c4).setCell ⟨g, 5, none⟩ c5).setCell ⟨g, 6, none⟩ c6).setCell ⟨g, 7, none⟩ c7).setCell ⟨g, 8, none⟩ c8).heap[g]? = some (.cells #[c0, c1, c2, c3, c4, c5, c6, c7, c8] t (0, 0)) := by
 have := blk_set (blk_set (blk_set (blk_set (blk_set (blk_set (blk_set (blk_set (blk_set h 0 c0) 1 c1) 2 c2) 3 c3) 4 c4) 5 c5) 6 c6) 7 c7) 8 c8
 simpa using this
theorem below9 {w W : World} {g : Nat} {c0 c1 c2 c3 c4 c5 c6 c7 c8 : Value} (h : Below w.heap.size w W) (hg : w.heap.size ≤ g) : Below w.heap.size w (((((((((W.setCell ⟨g, 0, none⟩ c0).setCell ⟨g, 1, none⟩ c1).setCell ⟨g, 2, none⟩ c2).setCell ⟨g, 3, none⟩ c3).setCell ⟨g, 4, none⟩ c4).setCell ⟨g, 5, none⟩ c5).setCell ⟨g, 6, none⟩ c6).setCell ⟨g, 7, none⟩ c7).setCell ⟨g, 8, none⟩ c8) :=
 below_set (below_set (below_set (below_set (below_set (below_set (below_set (below_set (below_set h hg) hg) hg) hg) hg) hg) hg) hg) hg
theorem keep9 {W : World} {g : Nat} {c0 c1 c2 c3 c4 c5 c6 c7 c8 : Value} : KeepBut W (((((((((W.setCell ⟨g, 0, none⟩ c0).setCell ⟨g, 1, none⟩ c1).setCell ⟨g, 2, none⟩ c2).setCell ⟨g, 3, none⟩ c3).setCell ⟨g, 4, none⟩ c4).setCell ⟨g, 5, none⟩ c5).setCell ⟨g, 6, none⟩ c6).setCell ⟨g, 7, none⟩ c7).setCell ⟨g, 8, none⟩ c8) g none :=
 ((((((((((KeepBut.refl W g none).set_ 0 c0).set_ 1 c1).set_ 2 c2).set_ 3 c3).set_ 4 c4).set_ 5 c5).set_ 6 c6).set_ 7 c7).set_ 8 c8)
theorem QR.set {w0 W : World} {gq gp g : Nat} {xs : List Int} {ts : List ByteArray} {vN vT : Value} {cells : Array Value} (h : QR w0 W gq gp xs ts vN vT) (hb : W.heap[g]? = some (.cells cells 25 (0, 0))) (hg : w0.heap.size ≤ g) (hne : gq ≠ g) (hne' : gp ≠ g) (j : Nat) (u : Value) : QR w0 (W.setCell ⟨g, j, none⟩ u) gq gp xs ts vN vT :=
 ⟨blk_far h.bq (p := ⟨g, j, none⟩) hne u, blk_far h.bp (p := ⟨g, j, none⟩) hne' u, h.geq, h.gep, Kd.R_set h.ns hb (by decide) j u, Kd.R_set h.ts hb (by decide) j u, below_set h.bel hg⟩
theorem rpairs_len {k : Nat} {A0 : Option Addr} {c0 n0 : Nat} {l0 : List Int} {A1 : Option Addr} {c1 n1 : Nat} {l1 : List ByteArray} {r1 : List S49} {r2 : Bool} {w : World} (h0 : n0 = l0.length) (h1 : n1 = l1.length) (hr0 : Kd.C (Kd.int .i64) w A0 l0.length l0) (hc0 : l0.length ≤ c0) (hr1 : Kd.C Kd.string w A1 l1.length l1) (hc1 : l1.length ≤ c1) (h : corncribref07_Pairs.f k l0 l1 = some (r1, r2)) :
  Calls Try.prog 39 #[.slice A0 n0 c0, .slice A1 n1 c1] w fun e w' => ∃ v0_ : Value, e = .returned (.tuple #[v0_, .bool r2]) ∧ Kd.R k49 49 w' w.heap.size (fun _ => True) v0_ r1 ∧ Below w.heap.size w w' := by
 subst h0 h1
 exact corncribref07_Pairs.calls k A0 c0 l0 A1 c1 l1 r1 r2 w hr0 hc0 hr1 hc1 h
theorem rcheck_len {k : Nat} {x0 x1 x2 x3 x4 x5 : Int} {x6 : ByteArray} {A7 : Option Addr} {c7 n7 : Nat} {l7 : List ByteArray} {A8 : Option Addr} {c8 : Nat} {l8 : List S49} {r : Int} {w : World} (h7 : n7 = l7.length) (hr7 : Kd.C Kd.string w A7 l7.length l7) (hc7 : l7.length ≤ c7) (hr8 : Kd.C k49 w A8 l8.length l8) (hc8 : l8.length ≤ c8) (h : corncribref07_Check.f k x0 x1 x2 x3 x4 x5 x6 l7 l8 = some r) :
  Calls Try.prog 14 #[.agg #[.int .i64 x0, .int .i64 x1, .int .i64 x2, .int .i64 x3, .int .i64 x4, .int .i64 x5, .string x6, .slice A7 n7 c7, .slice A8 l8.length c8]] w fun e w' => e = .returned (.int .i64 r) ∧ Below w.heap.size w w' := by
 subst h7
 exact corncribref07_Check.calls k x0 x1 x2 x3 x4 x5 x6 A7 c7 l7 A8 c8 l8 r w hr7 hc7 hr8 hc8 h
theorem rbytes_len {k : Nat} {x0 x1 x2 x3 x4 x5 : Int} {x6 : ByteArray} {A7 : Option Addr} {c7 n7 : Nat} {l7 : List ByteArray} {A8 : Option Addr} {c8 : Nat} {l8 : List S49} {r : ByteArray} {w : World} (h7 : n7 = l7.length) (hr7 : Kd.C Kd.string w A7 l7.length l7) (hc7 : l7.length ≤ c7) (hr8 : Kd.C k49 w A8 l8.length l8) (hc8 : l8.length ≤ c8) (h : corncribref07_Bytes.f k x0 x1 x2 x3 x4 x5 x6 l7 l8 = some r) :
  Calls Try.prog 27 #[.agg #[.int .i64 x0, .int .i64 x1, .int .i64 x2, .int .i64 x3, .int .i64 x4, .int .i64 x5, .string x6, .slice A7 n7 c7, .slice A8 l8.length c8]] w fun e w' => e = .returned (.string r) ∧ Below w.heap.size w w' := by
 subst h7
 exact corncribref07_Bytes.calls k x0 x1 x2 x3 x4 x5 x6 A7 c7 l7 A8 c8 l8 r w hr7 hc7 hr8 hc8 h
set_option maxHeartbeats 1000000 in
set_option maxRecDepth 100000 in
theorem rdl_e (s : ByteArray) (ns : List Int) (ts : List ByteArray) (p e : Int) (w : World) (hf : corncribref06_Decode.f s = some (ns, ts, p, e)) (he : e ≠ 0) :
  Calls Try.prog 25 #[.string s] w (NoLetE w) := by
 have e1 : (e == 0) = false := beq_eq_false_iff_ne.2 he
 have e2 : (e != 0) = true := bne_iff_ne.2 he
 clear he
 have hu25 := Try.underlying25
 have hu47 := Try.underlying47
 have HF := Aside0.mk hf
 clear hf
 go_enter Try.func25, Try.ntmps25
 go_upto_region 2 with (first | ((with_reducible refine gate_dst (N := 2) rfl ?_); refine box_event ?hg (N := 2) ?hd (cs := #[.int .i64 0, .int .i64 0, .int .i64 0, .int .i64 0, .int .i64 0, .int .i64 0, .string (⟨#[]⟩ : ByteArray), .slice none 0 0, .slice none 0 0]) (t := 25) ?hr ?_; (case hd => rfl); (case hg => rfl); (case hr => first | (go_simp; done) | (go_simp; rfl)); intro gq hgg w1 hbox hb; have GQ := Aside0.mk (Nat.le_of_eq hgg.symm); have BQ := Aside0.mk hbox; have BA := Aside0.mk hb; clear hgg hbox hb) | (go_at_call 38; refine (corncribref06_Decode.calls s _ _ _ _ _ HF.out).mono ?_; rintro x w2 ⟨v0, v1, rfl, hN, hT, hb⟩; obtain ⟨AN, cN, eN⟩ := Kd.R_slice hN; subst eN; obtain ⟨AT, cT, eT⟩ := Kd.R_slice hT; subst eT; have GN := Aside0.mk (Kd.R_lower hN (below_size BA.out)); have GT := Aside0.mk (Kd.R_lower hT (below_size BA.out)); have BC := Aside0.mk (below_step BA.out hb); have BQ2 := Aside0.mk (blk_below BQ.out hb); clear hN hT hb) | ((with_reducible refine gate_dst (N := 4) rfl ?_); refine box_event ?hg (N := 4) ?hd (cs := #[.slice none 0 0, .slice none 0 0]) (t := 47) ?hr ?_; (case hd => rfl); (case hg => rfl); (case hr => first | (go_simp; done) | (go_simp; rfl)); intro gp hgp w3 hbox hb; have HQ := Aside0.mk (qr_of GQ.out BQ2.out hbox hgp GN.out GT.out BC.out hb); have hz0 : w3.cell? ⟨gp, 0, none⟩ = some (.slice none 0 0) := (blk_cell hbox 0).trans rfl; have hz1 : w3.cell? ⟨gp, 1, none⟩ = some (.slice none 0 0) := (blk_cell hbox 1).trans rfl; have hzf0 := blk_frozen hbox 0; have hzf1 := blk_frozen hbox 1; clear hgp hbox hb))
 generalize eW : (w3.setCell ⟨gp, 0, none⟩ (.slice AN ns.length cN)).setCell ⟨gp, 1, none⟩ (.slice AT ts.length cT) = W at HQ ⊢
 clear eW hz0 hz1 hzf0 hzf1 GN GT BC BQ2 BQ BA GQ
 have hP0 : W.cell? ⟨gp, 0, none⟩ = some (.slice AN ns.length cN) := (blk_cell HQ.out.bp 0).trans rfl
 have hP1 : W.cell? ⟨gp, 1, none⟩ = some (.slice AT ts.length cT) := (blk_cell HQ.out.bp 1).trans rfl
 have hq0 : W.cell? ⟨gq, 0, none⟩ = some (.int .i64 0) := (blk_cell HQ.out.bq 0).trans rfl
 have hqf0 := blk_frozen HQ.out.bq 0
 have hq1 : W.cell? ⟨gq, 1, none⟩ = some (.int .i64 0) := (blk_cell HQ.out.bq 1).trans rfl
 have hqf1 := blk_frozen HQ.out.bq 1
 have hq2 : W.cell? ⟨gq, 2, none⟩ = some (.int .i64 0) := (blk_cell HQ.out.bq 2).trans rfl
 have hqf2 := blk_frozen HQ.out.bq 2
 have hq3 : W.cell? ⟨gq, 3, none⟩ = some (.int .i64 0) := (blk_cell HQ.out.bq 3).trans rfl
 have hqf3 := blk_frozen HQ.out.bq 3
 have hq4 : W.cell? ⟨gq, 4, none⟩ = some (.int .i64 0) := (blk_cell HQ.out.bq 4).trans rfl
 have hqf4 := blk_frozen HQ.out.bq 4
 have hq5 : W.cell? ⟨gq, 5, none⟩ = some (.int .i64 0) := (blk_cell HQ.out.bq 5).trans rfl
 have hqf5 := blk_frozen HQ.out.bq 5
 have hq6 : W.cell? ⟨gq, 6, none⟩ = some (.string (⟨#[]⟩ : ByteArray)) := (blk_cell HQ.out.bq 6).trans rfl
 have hqf6 := blk_frozen HQ.out.bq 6
 have hq7 : W.cell? ⟨gq, 7, none⟩ = some (.slice none 0 0) := (blk_cell HQ.out.bq 7).trans rfl
 have hqf7 := blk_frozen HQ.out.bq 7
 have hq8 : W.cell? ⟨gq, 8, none⟩ = some (.slice none 0 0) := (blk_cell HQ.out.bq 8).trans rfl
 have hqf8 := blk_frozen HQ.out.bq 8
 go_wp2
 refine bodyPost_ret (results_ct rfl _ _ gq 25 #[.int .i64 0, .int .i64 0, .int .i64 0, .int .i64 0, .int .i64 0, .int .i64 0, .string (⟨#[]⟩ : ByteArray), .slice none 0 0, .slice none 0 0] (0, 0) _ rfl (set9 HQ.out.bq) Try.underlying25 rfl (by kernel_rfl)) rfl ?_
 exact ⟨rfl, below9 HQ.out.bel HQ.out.geq⟩
set_option maxHeartbeats 1000000 in
set_option maxRecDepth 100000 in
theorem rdl_n (s : ByteArray) (ns : List Int) (ts : List ByteArray) (p : Int) (w : World) (hf : corncribref06_Decode.f s = some (ns, ts, p, 0)) (hn : ns.length < 7) :
  Calls Try.prog 25 #[.string s] w (NoLetE w) := by
 have e1 : decide ((ns.length : Int) < 7) = true := decide_eq_true (by omega)
 have e2 : decide (ns.length < 7) = true := decide_eq_true hn
 clear hn
 have hu25 := Try.underlying25
 have hu47 := Try.underlying47
 have HF := Aside0.mk hf
 clear hf
 go_enter Try.func25, Try.ntmps25
 go_upto_region 2 with (first | ((with_reducible refine gate_dst (N := 2) rfl ?_); refine box_event ?hg (N := 2) ?hd (cs := #[.int .i64 0, .int .i64 0, .int .i64 0, .int .i64 0, .int .i64 0, .int .i64 0, .string (⟨#[]⟩ : ByteArray), .slice none 0 0, .slice none 0 0]) (t := 25) ?hr ?_; (case hd => rfl); (case hg => rfl); (case hr => first | (go_simp; done) | (go_simp; rfl)); intro gq hgg w1 hbox hb; have GQ := Aside0.mk (Nat.le_of_eq hgg.symm); have BQ := Aside0.mk hbox; have BA := Aside0.mk hb; clear hgg hbox hb) | (go_at_call 38; refine (corncribref06_Decode.calls s _ _ _ _ _ HF.out).mono ?_; rintro x w2 ⟨v0, v1, rfl, hN, hT, hb⟩; obtain ⟨AN, cN, eN⟩ := Kd.R_slice hN; subst eN; obtain ⟨AT, cT, eT⟩ := Kd.R_slice hT; subst eT; have GN := Aside0.mk (Kd.R_lower hN (below_size BA.out)); have GT := Aside0.mk (Kd.R_lower hT (below_size BA.out)); have BC := Aside0.mk (below_step BA.out hb); have BQ2 := Aside0.mk (blk_below BQ.out hb); clear hN hT hb) | ((with_reducible refine gate_dst (N := 4) rfl ?_); refine box_event ?hg (N := 4) ?hd (cs := #[.slice none 0 0, .slice none 0 0]) (t := 47) ?hr ?_; (case hd => rfl); (case hg => rfl); (case hr => first | (go_simp; done) | (go_simp; rfl)); intro gp hgp w3 hbox hb; have HQ := Aside0.mk (qr_of GQ.out BQ2.out hbox hgp GN.out GT.out BC.out hb); have hz0 : w3.cell? ⟨gp, 0, none⟩ = some (.slice none 0 0) := (blk_cell hbox 0).trans rfl; have hz1 : w3.cell? ⟨gp, 1, none⟩ = some (.slice none 0 0) := (blk_cell hbox 1).trans rfl; have hzf0 := blk_frozen hbox 0; have hzf1 := blk_frozen hbox 1; clear hgp hbox hb))
 generalize eW : (w3.setCell ⟨gp, 0, none⟩ (.slice AN ns.length cN)).setCell ⟨gp, 1, none⟩ (.slice AT ts.length cT) = W at HQ ⊢
 clear eW hz0 hz1 hzf0 hzf1 GN GT BC BQ2 BQ BA GQ
 have hP0 : W.cell? ⟨gp, 0, none⟩ = some (.slice AN ns.length cN) := (blk_cell HQ.out.bp 0).trans rfl
 have hP1 : W.cell? ⟨gp, 1, none⟩ = some (.slice AT ts.length cT) := (blk_cell HQ.out.bp 1).trans rfl
 have hq0 : W.cell? ⟨gq, 0, none⟩ = some (.int .i64 0) := (blk_cell HQ.out.bq 0).trans rfl
 have hqf0 := blk_frozen HQ.out.bq 0
 have hq1 : W.cell? ⟨gq, 1, none⟩ = some (.int .i64 0) := (blk_cell HQ.out.bq 1).trans rfl
 have hqf1 := blk_frozen HQ.out.bq 1
 have hq2 : W.cell? ⟨gq, 2, none⟩ = some (.int .i64 0) := (blk_cell HQ.out.bq 2).trans rfl
 have hqf2 := blk_frozen HQ.out.bq 2
 have hq3 : W.cell? ⟨gq, 3, none⟩ = some (.int .i64 0) := (blk_cell HQ.out.bq 3).trans rfl
 have hqf3 := blk_frozen HQ.out.bq 3
 have hq4 : W.cell? ⟨gq, 4, none⟩ = some (.int .i64 0) := (blk_cell HQ.out.bq 4).trans rfl
 have hqf4 := blk_frozen HQ.out.bq 4
 have hq5 : W.cell? ⟨gq, 5, none⟩ = some (.int .i64 0) := (blk_cell HQ.out.bq 5).trans rfl
 have hqf5 := blk_frozen HQ.out.bq 5
 have hq6 : W.cell? ⟨gq, 6, none⟩ = some (.string (⟨#[]⟩ : ByteArray)) := (blk_cell HQ.out.bq 6).trans rfl
 have hqf6 := blk_frozen HQ.out.bq 6
 have hq7 : W.cell? ⟨gq, 7, none⟩ = some (.slice none 0 0) := (blk_cell HQ.out.bq 7).trans rfl
 have hqf7 := blk_frozen HQ.out.bq 7
 have hq8 : W.cell? ⟨gq, 8, none⟩ = some (.slice none 0 0) := (blk_cell HQ.out.bq 8).trans rfl
 have hqf8 := blk_frozen HQ.out.bq 8
 go_wp2
 refine bodyPost_ret (results_ct rfl _ _ gq 25 #[.int .i64 0, .int .i64 0, .int .i64 0, .int .i64 0, .int .i64 0, .int .i64 0, .string (⟨#[]⟩ : ByteArray), .slice none 0 0, .slice none 0 0] (0, 0) _ rfl (set9 HQ.out.bq) Try.underlying25 rfl (by kernel_rfl)) rfl ?_
 exact ⟨rfl, below9 HQ.out.bel HQ.out.geq⟩
set_option maxHeartbeats 1000000 in
set_option maxRecDepth 100000 in
theorem rdl_t (s : ByteArray) (ns : List Int) (ts : List ByteArray) (p : Int) (w : World) (hf : corncribref06_Decode.f s = some (ns, ts, p, 0)) (hn : 7 ≤ ns.length) (ht : ts = []) :
  Calls Try.prog 25 #[.string s] w (NoLetE w) := by
 have e1 : decide ((ns.length : Int) < 7) = false := decide_eq_false (by omega)
 have e2 : decide (ns.length < 7) = false := decide_eq_false (by omega)
 have HT := Aside0.mk ht
 clear hn ht
 have hu25 := Try.underlying25
 have hu47 := Try.underlying47
 have HF := Aside0.mk hf
 clear hf
 go_enter Try.func25, Try.ntmps25
 go_upto_region 2 with (first | ((with_reducible refine gate_dst (N := 2) rfl ?_); refine box_event ?hg (N := 2) ?hd (cs := #[.int .i64 0, .int .i64 0, .int .i64 0, .int .i64 0, .int .i64 0, .int .i64 0, .string (⟨#[]⟩ : ByteArray), .slice none 0 0, .slice none 0 0]) (t := 25) ?hr ?_; (case hd => rfl); (case hg => rfl); (case hr => first | (go_simp; done) | (go_simp; rfl)); intro gq hgg w1 hbox hb; have GQ := Aside0.mk (Nat.le_of_eq hgg.symm); have BQ := Aside0.mk hbox; have BA := Aside0.mk hb; clear hgg hbox hb) | (go_at_call 38; refine (corncribref06_Decode.calls s _ _ _ _ _ HF.out).mono ?_; rintro x w2 ⟨v0, v1, rfl, hN, hT, hb⟩; obtain ⟨AN, cN, eN⟩ := Kd.R_slice hN; subst eN; obtain ⟨AT, cT, eT⟩ := Kd.R_slice hT; subst eT; have GN := Aside0.mk (Kd.R_lower hN (below_size BA.out)); have GT := Aside0.mk (Kd.R_lower hT (below_size BA.out)); have BC := Aside0.mk (below_step BA.out hb); have BQ2 := Aside0.mk (blk_below BQ.out hb); clear hN hT hb) | ((with_reducible refine gate_dst (N := 4) rfl ?_); refine box_event ?hg (N := 4) ?hd (cs := #[.slice none 0 0, .slice none 0 0]) (t := 47) ?hr ?_; (case hd => rfl); (case hg => rfl); (case hr => first | (go_simp; done) | (go_simp; rfl)); intro gp hgp w3 hbox hb; have HQ := Aside0.mk (qr_of GQ.out BQ2.out hbox hgp GN.out GT.out BC.out hb); have hz0 : w3.cell? ⟨gp, 0, none⟩ = some (.slice none 0 0) := (blk_cell hbox 0).trans rfl; have hz1 : w3.cell? ⟨gp, 1, none⟩ = some (.slice none 0 0) := (blk_cell hbox 1).trans rfl; have hzf0 := blk_frozen hbox 0; have hzf1 := blk_frozen hbox 1; clear hgp hbox hb))
 generalize eW : (w3.setCell ⟨gp, 0, none⟩ (.slice AN ns.length cN)).setCell ⟨gp, 1, none⟩ (.slice AT ts.length cT) = W at HQ ⊢
 clear eW hz0 hz1 hzf0 hzf1 GN GT BC BQ2 BQ BA GQ
 have hP0 : W.cell? ⟨gp, 0, none⟩ = some (.slice AN ns.length cN) := (blk_cell HQ.out.bp 0).trans rfl
 have hP1 : W.cell? ⟨gp, 1, none⟩ = some (.slice AT ts.length cT) := (blk_cell HQ.out.bp 1).trans rfl
 have hq0 : W.cell? ⟨gq, 0, none⟩ = some (.int .i64 0) := (blk_cell HQ.out.bq 0).trans rfl
 have hqf0 := blk_frozen HQ.out.bq 0
 have hq1 : W.cell? ⟨gq, 1, none⟩ = some (.int .i64 0) := (blk_cell HQ.out.bq 1).trans rfl
 have hqf1 := blk_frozen HQ.out.bq 1
 have hq2 : W.cell? ⟨gq, 2, none⟩ = some (.int .i64 0) := (blk_cell HQ.out.bq 2).trans rfl
 have hqf2 := blk_frozen HQ.out.bq 2
 have hq3 : W.cell? ⟨gq, 3, none⟩ = some (.int .i64 0) := (blk_cell HQ.out.bq 3).trans rfl
 have hqf3 := blk_frozen HQ.out.bq 3
 have hq4 : W.cell? ⟨gq, 4, none⟩ = some (.int .i64 0) := (blk_cell HQ.out.bq 4).trans rfl
 have hqf4 := blk_frozen HQ.out.bq 4
 have hq5 : W.cell? ⟨gq, 5, none⟩ = some (.int .i64 0) := (blk_cell HQ.out.bq 5).trans rfl
 have hqf5 := blk_frozen HQ.out.bq 5
 have hq6 : W.cell? ⟨gq, 6, none⟩ = some (.string (⟨#[]⟩ : ByteArray)) := (blk_cell HQ.out.bq 6).trans rfl
 have hqf6 := blk_frozen HQ.out.bq 6
 have hq7 : W.cell? ⟨gq, 7, none⟩ = some (.slice none 0 0) := (blk_cell HQ.out.bq 7).trans rfl
 have hqf7 := blk_frozen HQ.out.bq 7
 have hq8 : W.cell? ⟨gq, 8, none⟩ = some (.slice none 0 0) := (blk_cell HQ.out.bq 8).trans rfl
 have hqf8 := blk_frozen HQ.out.bq 8
 obtain rfl := HT.out
 simp only [List.length_nil] at hP1
 go_wp2
 refine bodyPost_ret (results_ct rfl _ _ gq 25 #[.int .i64 0, .int .i64 0, .int .i64 0, .int .i64 0, .int .i64 0, .int .i64 0, .string (⟨#[]⟩ : ByteArray), .slice none 0 0, .slice none 0 0] (0, 0) _ rfl (set9 HQ.out.bq) Try.underlying25 rfl (by kernel_rfl)) rfl ?_
 exact ⟨rfl, below9 HQ.out.bel HQ.out.geq⟩
set_option maxHeartbeats 1000000 in
set_option maxRecDepth 100000 in
theorem rdl_m1 (s : ByteArray) (ns : List Int) (ts : List ByteArray) (p : Int) (w : World) (hf : corncribref06_Decode.f s = some (ns, ts, p, 0)) (hn : 7 ≤ ns.length) (ht : 1 ≤ ts.length) (hm : rd ns 6 < 0) :
  Calls Try.prog 25 #[.string s] w (NoLetE w) := by
 have e1 : decide ((ns.length : Int) < 7) = false := decide_eq_false (by omega)
 have e2 : decide (ns.length < 7) = false := decide_eq_false (by omega)
 have e3 : decide ((ts.length : Int) < 1) = false := decide_eq_false (by omega)
 have e4 : decide (ts.length < 1) = false := decide_eq_false (by omega)
 have e5 : ¬ (ts.length = 0) := by omega
 have e6 : ¬ (ts = []) := fun h => by rw [h] at ht; exact absurd ht (by decide)
 have hl7 := hn
 have hl1 := ht
 have m1 : decide (rd ns 6 < 0) = true := decide_eq_true hm
 clear hn ht
 have hu25 := Try.underlying25
 have hu47 := Try.underlying47
 have HF := Aside0.mk hf
 clear hf
 go_enter Try.func25, Try.ntmps25
 go_upto_region 2 with (first | ((with_reducible refine gate_dst (N := 2) rfl ?_); refine box_event ?hg (N := 2) ?hd (cs := #[.int .i64 0, .int .i64 0, .int .i64 0, .int .i64 0, .int .i64 0, .int .i64 0, .string (⟨#[]⟩ : ByteArray), .slice none 0 0, .slice none 0 0]) (t := 25) ?hr ?_; (case hd => rfl); (case hg => rfl); (case hr => first | (go_simp; done) | (go_simp; rfl)); intro gq hgg w1 hbox hb; have GQ := Aside0.mk (Nat.le_of_eq hgg.symm); have BQ := Aside0.mk hbox; have BA := Aside0.mk hb; clear hgg hbox hb) | (go_at_call 38; refine (corncribref06_Decode.calls s _ _ _ _ _ HF.out).mono ?_; rintro x w2 ⟨v0, v1, rfl, hN, hT, hb⟩; obtain ⟨AN, cN, eN⟩ := Kd.R_slice hN; subst eN; obtain ⟨AT, cT, eT⟩ := Kd.R_slice hT; subst eT; have GN := Aside0.mk (Kd.R_lower hN (below_size BA.out)); have GT := Aside0.mk (Kd.R_lower hT (below_size BA.out)); have BC := Aside0.mk (below_step BA.out hb); have BQ2 := Aside0.mk (blk_below BQ.out hb); clear hN hT hb) | ((with_reducible refine gate_dst (N := 4) rfl ?_); refine box_event ?hg (N := 4) ?hd (cs := #[.slice none 0 0, .slice none 0 0]) (t := 47) ?hr ?_; (case hd => rfl); (case hg => rfl); (case hr => first | (go_simp; done) | (go_simp; rfl)); intro gp hgp w3 hbox hb; have HQ := Aside0.mk (qr_of GQ.out BQ2.out hbox hgp GN.out GT.out BC.out hb); have hz0 : w3.cell? ⟨gp, 0, none⟩ = some (.slice none 0 0) := (blk_cell hbox 0).trans rfl; have hz1 : w3.cell? ⟨gp, 1, none⟩ = some (.slice none 0 0) := (blk_cell hbox 1).trans rfl; have hzf0 := blk_frozen hbox 0; have hzf1 := blk_frozen hbox 1; clear hgp hbox hb))
 generalize eW : (w3.setCell ⟨gp, 0, none⟩ (.slice AN ns.length cN)).setCell ⟨gp, 1, none⟩ (.slice AT ts.length cT) = W at HQ ⊢
 clear eW hz0 hz1 hzf0 hzf1 GN GT BC BQ2 BQ BA GQ
 have hP0 : W.cell? ⟨gp, 0, none⟩ = some (.slice AN ns.length cN) := (blk_cell HQ.out.bp 0).trans rfl
 have hP1 : W.cell? ⟨gp, 1, none⟩ = some (.slice AT ts.length cT) := (blk_cell HQ.out.bp 1).trans rfl
 have hq0 : W.cell? ⟨gq, 0, none⟩ = some (.int .i64 0) := (blk_cell HQ.out.bq 0).trans rfl
 have hqf0 := blk_frozen HQ.out.bq 0
 have hq1 : W.cell? ⟨gq, 1, none⟩ = some (.int .i64 0) := (blk_cell HQ.out.bq 1).trans rfl
 have hqf1 := blk_frozen HQ.out.bq 1
 have hq2 : W.cell? ⟨gq, 2, none⟩ = some (.int .i64 0) := (blk_cell HQ.out.bq 2).trans rfl
 have hqf2 := blk_frozen HQ.out.bq 2
 have hq3 : W.cell? ⟨gq, 3, none⟩ = some (.int .i64 0) := (blk_cell HQ.out.bq 3).trans rfl
 have hqf3 := blk_frozen HQ.out.bq 3
 have hq4 : W.cell? ⟨gq, 4, none⟩ = some (.int .i64 0) := (blk_cell HQ.out.bq 4).trans rfl
 have hqf4 := blk_frozen HQ.out.bq 4
 have hq5 : W.cell? ⟨gq, 5, none⟩ = some (.int .i64 0) := (blk_cell HQ.out.bq 5).trans rfl
 have hqf5 := blk_frozen HQ.out.bq 5
 have hq6 : W.cell? ⟨gq, 6, none⟩ = some (.string (⟨#[]⟩ : ByteArray)) := (blk_cell HQ.out.bq 6).trans rfl
 have hqf6 := blk_frozen HQ.out.bq 6
 have hq7 : W.cell? ⟨gq, 7, none⟩ = some (.slice none 0 0) := (blk_cell HQ.out.bq 7).trans rfl
 have hqf7 := blk_frozen HQ.out.bq 7
 have hq8 : W.cell? ⟨gq, 8, none⟩ = some (.slice none 0 0) := (blk_cell HQ.out.bq 8).trans rfl
 have hqf8 := blk_frozen HQ.out.bq 8
 obtain ⟨gn, cn, eN, gnb, gnl, cellsN, hcN⟩ := Kd.R_form HQ.out.ns (by omega)
 obtain ⟨gt, ct, eT, gtb, gtl, cellsT, hcT⟩ := Kd.R_form HQ.out.ts (by omega)
 have eN' : AN = some ⟨gn, 0, none⟩ ∧ cN = cn := by simpa using eN
 have eT' : AT = some ⟨gt, 0, none⟩ ∧ cT = ct := by simpa using eT
 obtain ⟨rfl, rfl⟩ := eN'
 obtain ⟨rfl, rfl⟩ := eT'
 obtain ⟨_, hcapN, hCN⟩ := Kd.R_reads' HQ.out.ns
 obtain ⟨_, hcapT, hCT⟩ := Kd.R_reads' HQ.out.ts
 clear eN eT hcN hcT gnb gnl gtb gtl
 obtain ⟨_, eA, hn0⟩ := Kd.at_int hCN 0 (by decide) (by omega)
 cases eA
 replace hn0 : W.cell? ⟨gn, 0, none⟩ = some (.int .i64 (rd ns 0)) := by simpa [add_plain] using hn0
 obtain ⟨_, eA, hn1⟩ := Kd.at_int hCN 1 (by decide) (by omega)
 cases eA
 replace hn1 : W.cell? ⟨gn, 1, none⟩ = some (.int .i64 (rd ns 1)) := by simpa [add_plain] using hn1
 obtain ⟨_, eA, hn2⟩ := Kd.at_int hCN 2 (by decide) (by omega)
 cases eA
 replace hn2 : W.cell? ⟨gn, 2, none⟩ = some (.int .i64 (rd ns 2)) := by simpa [add_plain] using hn2
 obtain ⟨_, eA, hn3⟩ := Kd.at_int hCN 3 (by decide) (by omega)
 cases eA
 replace hn3 : W.cell? ⟨gn, 3, none⟩ = some (.int .i64 (rd ns 3)) := by simpa [add_plain] using hn3
 obtain ⟨_, eA, hn4⟩ := Kd.at_int hCN 4 (by decide) (by omega)
 cases eA
 replace hn4 : W.cell? ⟨gn, 4, none⟩ = some (.int .i64 (rd ns 4)) := by simpa [add_plain] using hn4
 obtain ⟨_, eA, hn5⟩ := Kd.at_int hCN 5 (by decide) (by omega)
 cases eA
 replace hn5 : W.cell? ⟨gn, 5, none⟩ = some (.int .i64 (rd ns 5)) := by simpa [add_plain] using hn5
 obtain ⟨_, eA, hn6⟩ := Kd.at_int hCN 6 (by decide) (by omega)
 cases eA
 replace hn6 : W.cell? ⟨gn, 6, none⟩ = some (.int .i64 (rd ns 6)) := by simpa [add_plain] using hn6
 obtain ⟨_, eA, ht0⟩ := Kd.at_string hCT 0 (by decide) (by omega)
 cases eA
 replace ht0 : W.cell? ⟨gt, 0, none⟩ = some (.string (rdOf ByteArray.empty ts 0)) := by simpa [add_plain] using ht0
 clear hCN hCT
 go_wp2
 refine bodyPost_ret (results_ct rfl _ _ gq 25 #[.int .i64 0, .int .i64 0, .int .i64 0, .int .i64 0, .int .i64 0, .int .i64 0, .string (⟨#[]⟩ : ByteArray), .slice none 0 0, .slice none 0 0] (0, 0) _ rfl (set9 HQ.out.bq) Try.underlying25 rfl (by kernel_rfl)) rfl ?_
 exact ⟨rfl, below9 HQ.out.bel HQ.out.geq⟩
set_option maxHeartbeats 1000000 in
set_option maxRecDepth 100000 in
theorem rdl_m2 (s : ByteArray) (ns : List Int) (ts : List ByteArray) (p : Int) (w : World) (hf : corncribref06_Decode.f s = some (ns, ts, p, 0)) (hn : 7 ≤ ns.length) (ht : 1 ≤ ts.length) (hb : ts.length ≤ 1024) (hm : 0 ≤ rd ns 6) (hm2 : (ts.length : Int) - 1 < rd ns 6) :
  Calls Try.prog 25 #[.string s] w (NoLetE w) := by
 have e1 : decide ((ns.length : Int) < 7) = false := decide_eq_false (by omega)
 have e2 : decide (ns.length < 7) = false := decide_eq_false (by omega)
 have e3 : decide ((ts.length : Int) < 1) = false := decide_eq_false (by omega)
 have e4 : decide (ts.length < 1) = false := decide_eq_false (by omega)
 have e5 : ¬ (ts.length = 0) := by omega
 have e6 : ¬ (ts = []) := fun h => by rw [h] at ht; exact absurd ht (by decide)
 have hl7 := hn
 have hl1 := ht
 have m1 : decide (rd ns 6 < 0) = false := decide_eq_false (by omega)
 have m2 : decide ((ts.length : Int) - 1 < rd ns 6) = true := decide_eq_true hm2
 clear hn ht
 have hu25 := Try.underlying25
 have hu47 := Try.underlying47
 have HF := Aside0.mk hf
 clear hf
 go_enter Try.func25, Try.ntmps25
 go_upto_region 2 with (first | ((with_reducible refine gate_dst (N := 2) rfl ?_); refine box_event ?hg (N := 2) ?hd (cs := #[.int .i64 0, .int .i64 0, .int .i64 0, .int .i64 0, .int .i64 0, .int .i64 0, .string (⟨#[]⟩ : ByteArray), .slice none 0 0, .slice none 0 0]) (t := 25) ?hr ?_; (case hd => rfl); (case hg => rfl); (case hr => first | (go_simp; done) | (go_simp; rfl)); intro gq hgg w1 hbox hb; have GQ := Aside0.mk (Nat.le_of_eq hgg.symm); have BQ := Aside0.mk hbox; have BA := Aside0.mk hb; clear hgg hbox hb) | (go_at_call 38; refine (corncribref06_Decode.calls s _ _ _ _ _ HF.out).mono ?_; rintro x w2 ⟨v0, v1, rfl, hN, hT, hb⟩; obtain ⟨AN, cN, eN⟩ := Kd.R_slice hN; subst eN; obtain ⟨AT, cT, eT⟩ := Kd.R_slice hT; subst eT; have GN := Aside0.mk (Kd.R_lower hN (below_size BA.out)); have GT := Aside0.mk (Kd.R_lower hT (below_size BA.out)); have BC := Aside0.mk (below_step BA.out hb); have BQ2 := Aside0.mk (blk_below BQ.out hb); clear hN hT hb) | ((with_reducible refine gate_dst (N := 4) rfl ?_); refine box_event ?hg (N := 4) ?hd (cs := #[.slice none 0 0, .slice none 0 0]) (t := 47) ?hr ?_; (case hd => rfl); (case hg => rfl); (case hr => first | (go_simp; done) | (go_simp; rfl)); intro gp hgp w3 hbox hb; have HQ := Aside0.mk (qr_of GQ.out BQ2.out hbox hgp GN.out GT.out BC.out hb); have hz0 : w3.cell? ⟨gp, 0, none⟩ = some (.slice none 0 0) := (blk_cell hbox 0).trans rfl; have hz1 : w3.cell? ⟨gp, 1, none⟩ = some (.slice none 0 0) := (blk_cell hbox 1).trans rfl; have hzf0 := blk_frozen hbox 0; have hzf1 := blk_frozen hbox 1; clear hgp hbox hb))
 generalize eW : (w3.setCell ⟨gp, 0, none⟩ (.slice AN ns.length cN)).setCell ⟨gp, 1, none⟩ (.slice AT ts.length cT) = W at HQ ⊢
 clear eW hz0 hz1 hzf0 hzf1 GN GT BC BQ2 BQ BA GQ
 have hP0 : W.cell? ⟨gp, 0, none⟩ = some (.slice AN ns.length cN) := (blk_cell HQ.out.bp 0).trans rfl
 have hP1 : W.cell? ⟨gp, 1, none⟩ = some (.slice AT ts.length cT) := (blk_cell HQ.out.bp 1).trans rfl
 have hq0 : W.cell? ⟨gq, 0, none⟩ = some (.int .i64 0) := (blk_cell HQ.out.bq 0).trans rfl
 have hqf0 := blk_frozen HQ.out.bq 0
 have hq1 : W.cell? ⟨gq, 1, none⟩ = some (.int .i64 0) := (blk_cell HQ.out.bq 1).trans rfl
 have hqf1 := blk_frozen HQ.out.bq 1
 have hq2 : W.cell? ⟨gq, 2, none⟩ = some (.int .i64 0) := (blk_cell HQ.out.bq 2).trans rfl
 have hqf2 := blk_frozen HQ.out.bq 2
 have hq3 : W.cell? ⟨gq, 3, none⟩ = some (.int .i64 0) := (blk_cell HQ.out.bq 3).trans rfl
 have hqf3 := blk_frozen HQ.out.bq 3
 have hq4 : W.cell? ⟨gq, 4, none⟩ = some (.int .i64 0) := (blk_cell HQ.out.bq 4).trans rfl
 have hqf4 := blk_frozen HQ.out.bq 4
 have hq5 : W.cell? ⟨gq, 5, none⟩ = some (.int .i64 0) := (blk_cell HQ.out.bq 5).trans rfl
 have hqf5 := blk_frozen HQ.out.bq 5
 have hq6 : W.cell? ⟨gq, 6, none⟩ = some (.string (⟨#[]⟩ : ByteArray)) := (blk_cell HQ.out.bq 6).trans rfl
 have hqf6 := blk_frozen HQ.out.bq 6
 have hq7 : W.cell? ⟨gq, 7, none⟩ = some (.slice none 0 0) := (blk_cell HQ.out.bq 7).trans rfl
 have hqf7 := blk_frozen HQ.out.bq 7
 have hq8 : W.cell? ⟨gq, 8, none⟩ = some (.slice none 0 0) := (blk_cell HQ.out.bq 8).trans rfl
 have hqf8 := blk_frozen HQ.out.bq 8
 obtain ⟨gn, cn, eN, gnb, gnl, cellsN, hcN⟩ := Kd.R_form HQ.out.ns (by omega)
 obtain ⟨gt, ct, eT, gtb, gtl, cellsT, hcT⟩ := Kd.R_form HQ.out.ts (by omega)
 have eN' : AN = some ⟨gn, 0, none⟩ ∧ cN = cn := by simpa using eN
 have eT' : AT = some ⟨gt, 0, none⟩ ∧ cT = ct := by simpa using eT
 obtain ⟨rfl, rfl⟩ := eN'
 obtain ⟨rfl, rfl⟩ := eT'
 obtain ⟨_, hcapN, hCN⟩ := Kd.R_reads' HQ.out.ns
 obtain ⟨_, hcapT, hCT⟩ := Kd.R_reads' HQ.out.ts
 clear eN eT hcN hcT gnb gnl gtb gtl
 obtain ⟨_, eA, hn0⟩ := Kd.at_int hCN 0 (by decide) (by omega)
 cases eA
 replace hn0 : W.cell? ⟨gn, 0, none⟩ = some (.int .i64 (rd ns 0)) := by simpa [add_plain] using hn0
 obtain ⟨_, eA, hn1⟩ := Kd.at_int hCN 1 (by decide) (by omega)
 cases eA
 replace hn1 : W.cell? ⟨gn, 1, none⟩ = some (.int .i64 (rd ns 1)) := by simpa [add_plain] using hn1
 obtain ⟨_, eA, hn2⟩ := Kd.at_int hCN 2 (by decide) (by omega)
 cases eA
 replace hn2 : W.cell? ⟨gn, 2, none⟩ = some (.int .i64 (rd ns 2)) := by simpa [add_plain] using hn2
 obtain ⟨_, eA, hn3⟩ := Kd.at_int hCN 3 (by decide) (by omega)
 cases eA
 replace hn3 : W.cell? ⟨gn, 3, none⟩ = some (.int .i64 (rd ns 3)) := by simpa [add_plain] using hn3
 obtain ⟨_, eA, hn4⟩ := Kd.at_int hCN 4 (by decide) (by omega)
 cases eA
 replace hn4 : W.cell? ⟨gn, 4, none⟩ = some (.int .i64 (rd ns 4)) := by simpa [add_plain] using hn4
 obtain ⟨_, eA, hn5⟩ := Kd.at_int hCN 5 (by decide) (by omega)
 cases eA
 replace hn5 : W.cell? ⟨gn, 5, none⟩ = some (.int .i64 (rd ns 5)) := by simpa [add_plain] using hn5
 obtain ⟨_, eA, hn6⟩ := Kd.at_int hCN 6 (by decide) (by omega)
 cases eA
 replace hn6 : W.cell? ⟨gn, 6, none⟩ = some (.int .i64 (rd ns 6)) := by simpa [add_plain] using hn6
 obtain ⟨_, eA, ht0⟩ := Kd.at_string hCT 0 (by decide) (by omega)
 cases eA
 replace ht0 : W.cell? ⟨gt, 0, none⟩ = some (.string (rdOf ByteArray.empty ts 0)) := by simpa [add_plain] using ht0
 clear hCN hCT
 go_wp2
 refine bodyPost_ret (results_ct rfl _ _ gq 25 #[.int .i64 0, .int .i64 0, .int .i64 0, .int .i64 0, .int .i64 0, .int .i64 0, .string (⟨#[]⟩ : ByteArray), .slice none 0 0, .slice none 0 0] (0, 0) _ rfl (set9 HQ.out.bq) Try.underlying25 rfl (by kernel_rfl)) rfl ?_
 exact ⟨rfl, below9 HQ.out.bel HQ.out.geq⟩
set_option maxHeartbeats 1000000 in
set_option maxRecDepth 100000 in
theorem rdl_p (s : ByteArray) (ns : List Int) (ts : List ByteArray) (p : Int) (w : World) (hf : corncribref06_Decode.f s = some (ns, ts, p, 0)) (hn : 7 ≤ ns.length) (ht : 1 ≤ ts.length) (hb : ts.length ≤ 1024) (hm : 0 ≤ rd ns 6) (hm2 : rd ns 6 ≤ (ts.length : Int) - 1) (k : Nat) (qs : List S49) (hpr : corncribref07_Pairs.f k (ns.drop 7) (ts.drop (1 + rd ns 6).toNat) = some (qs, false)) :
  Calls Try.prog 25 #[.string s] w (NoLetE w) := by
 have e1 : decide ((ns.length : Int) < 7) = false := decide_eq_false (by omega)
 have e2 : decide (ns.length < 7) = false := decide_eq_false (by omega)
 have e3 : decide ((ts.length : Int) < 1) = false := decide_eq_false (by omega)
 have e4 : decide (ts.length < 1) = false := decide_eq_false (by omega)
 have e5 : ¬ (ts.length = 0) := by omega
 have e6 : ¬ (ts = []) := fun h => by rw [h] at ht; exact absurd ht (by decide)
 have hl7 := hn
 have hl1 := ht
 have m1 : decide (rd ns 6 < 0) = false := decide_eq_false (by omega)
 have m2 : decide ((ts.length : Int) - 1 < rd ns 6) = false := decide_eq_false (by omega)
 have HPR := Aside0.mk hpr
 clear hpr
 clear hn ht
 have hu25 := Try.underlying25
 have hu47 := Try.underlying47
 have HF := Aside0.mk hf
 clear hf
 go_enter Try.func25, Try.ntmps25
 go_upto_region 2 with (first | ((with_reducible refine gate_dst (N := 2) rfl ?_); refine box_event ?hg (N := 2) ?hd (cs := #[.int .i64 0, .int .i64 0, .int .i64 0, .int .i64 0, .int .i64 0, .int .i64 0, .string (⟨#[]⟩ : ByteArray), .slice none 0 0, .slice none 0 0]) (t := 25) ?hr ?_; (case hd => rfl); (case hg => rfl); (case hr => first | (go_simp; done) | (go_simp; rfl)); intro gq hgg w1 hbox hb; have GQ := Aside0.mk (Nat.le_of_eq hgg.symm); have BQ := Aside0.mk hbox; have BA := Aside0.mk hb; clear hgg hbox hb) | (go_at_call 38; refine (corncribref06_Decode.calls s _ _ _ _ _ HF.out).mono ?_; rintro x w2 ⟨v0, v1, rfl, hN, hT, hb⟩; obtain ⟨AN, cN, eN⟩ := Kd.R_slice hN; subst eN; obtain ⟨AT, cT, eT⟩ := Kd.R_slice hT; subst eT; have GN := Aside0.mk (Kd.R_lower hN (below_size BA.out)); have GT := Aside0.mk (Kd.R_lower hT (below_size BA.out)); have BC := Aside0.mk (below_step BA.out hb); have BQ2 := Aside0.mk (blk_below BQ.out hb); clear hN hT hb) | ((with_reducible refine gate_dst (N := 4) rfl ?_); refine box_event ?hg (N := 4) ?hd (cs := #[.slice none 0 0, .slice none 0 0]) (t := 47) ?hr ?_; (case hd => rfl); (case hg => rfl); (case hr => first | (go_simp; done) | (go_simp; rfl)); intro gp hgp w3 hbox hb; have HQ := Aside0.mk (qr_of GQ.out BQ2.out hbox hgp GN.out GT.out BC.out hb); have hz0 : w3.cell? ⟨gp, 0, none⟩ = some (.slice none 0 0) := (blk_cell hbox 0).trans rfl; have hz1 : w3.cell? ⟨gp, 1, none⟩ = some (.slice none 0 0) := (blk_cell hbox 1).trans rfl; have hzf0 := blk_frozen hbox 0; have hzf1 := blk_frozen hbox 1; clear hgp hbox hb))
 generalize eW : (w3.setCell ⟨gp, 0, none⟩ (.slice AN ns.length cN)).setCell ⟨gp, 1, none⟩ (.slice AT ts.length cT) = W at HQ ⊢
 clear eW hz0 hz1 hzf0 hzf1 GN GT BC BQ2 BQ BA GQ
 have hP0 : W.cell? ⟨gp, 0, none⟩ = some (.slice AN ns.length cN) := (blk_cell HQ.out.bp 0).trans rfl
 have hP1 : W.cell? ⟨gp, 1, none⟩ = some (.slice AT ts.length cT) := (blk_cell HQ.out.bp 1).trans rfl
 have hq0 : W.cell? ⟨gq, 0, none⟩ = some (.int .i64 0) := (blk_cell HQ.out.bq 0).trans rfl
 have hqf0 := blk_frozen HQ.out.bq 0
 have hq1 : W.cell? ⟨gq, 1, none⟩ = some (.int .i64 0) := (blk_cell HQ.out.bq 1).trans rfl
 have hqf1 := blk_frozen HQ.out.bq 1
 have hq2 : W.cell? ⟨gq, 2, none⟩ = some (.int .i64 0) := (blk_cell HQ.out.bq 2).trans rfl
 have hqf2 := blk_frozen HQ.out.bq 2
 have hq3 : W.cell? ⟨gq, 3, none⟩ = some (.int .i64 0) := (blk_cell HQ.out.bq 3).trans rfl
 have hqf3 := blk_frozen HQ.out.bq 3
 have hq4 : W.cell? ⟨gq, 4, none⟩ = some (.int .i64 0) := (blk_cell HQ.out.bq 4).trans rfl
 have hqf4 := blk_frozen HQ.out.bq 4
 have hq5 : W.cell? ⟨gq, 5, none⟩ = some (.int .i64 0) := (blk_cell HQ.out.bq 5).trans rfl
 have hqf5 := blk_frozen HQ.out.bq 5
 have hq6 : W.cell? ⟨gq, 6, none⟩ = some (.string (⟨#[]⟩ : ByteArray)) := (blk_cell HQ.out.bq 6).trans rfl
 have hqf6 := blk_frozen HQ.out.bq 6
 have hq7 : W.cell? ⟨gq, 7, none⟩ = some (.slice none 0 0) := (blk_cell HQ.out.bq 7).trans rfl
 have hqf7 := blk_frozen HQ.out.bq 7
 have hq8 : W.cell? ⟨gq, 8, none⟩ = some (.slice none 0 0) := (blk_cell HQ.out.bq 8).trans rfl
 have hqf8 := blk_frozen HQ.out.bq 8
 obtain ⟨gn, cn, eN, gnb, gnl, cellsN, hcN⟩ := Kd.R_form HQ.out.ns (by omega)
 obtain ⟨gt, ct, eT, gtb, gtl, cellsT, hcT⟩ := Kd.R_form HQ.out.ts (by omega)
 have eN' : AN = some ⟨gn, 0, none⟩ ∧ cN = cn := by simpa using eN
 have eT' : AT = some ⟨gt, 0, none⟩ ∧ cT = ct := by simpa using eT
 obtain ⟨rfl, rfl⟩ := eN'
 obtain ⟨rfl, rfl⟩ := eT'
 obtain ⟨_, hcapN, hCN⟩ := Kd.R_reads' HQ.out.ns
 obtain ⟨_, hcapT, hCT⟩ := Kd.R_reads' HQ.out.ts
 clear eN eT hcN hcT gnb gnl gtb gtl
 obtain ⟨_, eA, hn0⟩ := Kd.at_int hCN 0 (by decide) (by omega)
 cases eA
 replace hn0 : W.cell? ⟨gn, 0, none⟩ = some (.int .i64 (rd ns 0)) := by simpa [add_plain] using hn0
 obtain ⟨_, eA, hn1⟩ := Kd.at_int hCN 1 (by decide) (by omega)
 cases eA
 replace hn1 : W.cell? ⟨gn, 1, none⟩ = some (.int .i64 (rd ns 1)) := by simpa [add_plain] using hn1
 obtain ⟨_, eA, hn2⟩ := Kd.at_int hCN 2 (by decide) (by omega)
 cases eA
 replace hn2 : W.cell? ⟨gn, 2, none⟩ = some (.int .i64 (rd ns 2)) := by simpa [add_plain] using hn2
 obtain ⟨_, eA, hn3⟩ := Kd.at_int hCN 3 (by decide) (by omega)
 cases eA
 replace hn3 : W.cell? ⟨gn, 3, none⟩ = some (.int .i64 (rd ns 3)) := by simpa [add_plain] using hn3
 obtain ⟨_, eA, hn4⟩ := Kd.at_int hCN 4 (by decide) (by omega)
 cases eA
 replace hn4 : W.cell? ⟨gn, 4, none⟩ = some (.int .i64 (rd ns 4)) := by simpa [add_plain] using hn4
 obtain ⟨_, eA, hn5⟩ := Kd.at_int hCN 5 (by decide) (by omega)
 cases eA
 replace hn5 : W.cell? ⟨gn, 5, none⟩ = some (.int .i64 (rd ns 5)) := by simpa [add_plain] using hn5
 obtain ⟨_, eA, hn6⟩ := Kd.at_int hCN 6 (by decide) (by omega)
 cases eA
 replace hn6 : W.cell? ⟨gn, 6, none⟩ = some (.int .i64 (rd ns 6)) := by simpa [add_plain] using hn6
 obtain ⟨_, eA, ht0⟩ := Kd.at_string hCT 0 (by decide) (by omega)
 cases eA
 replace ht0 : W.cell? ⟨gt, 0, none⟩ = some (.string (rdOf ByteArray.empty ts 0)) := by simpa [add_plain] using ht0
 go_wp2
 obtain ⟨i9, hi9, hz9⟩ := Option.map_eq_some_iff.1 info9
 have hs9 : i9.size = 1 := by simpa using congrArg (fun x => x.2.1) hz9
 have hcut := fun W => cut_mid (P := Try.prog) 22 9 .i64 .i64 Try.underlying22 hi9 1 hs9 (some ⟨gt, 0, none⟩) ts.length cT 1 (1 + rd ns 6) (by decide) (by omega) (by omega) hcapT W
 have hC7 := Kd.C_mid (lo := 1) (hi := (1 + rd ns 6).toNat) hCT (by omega) (by omega) hcapT
 have hk7 : ((ts.take (1 + rd ns 6).toNat).drop 1).length = (1 + rd ns 6).toNat - (1 : Int).toNat := by rw [List.length_drop, List.length_take]; omega
 rw [← hk7] at hcut
 have hsame : (if cT = (1 : Int).toNat then (some ⟨gt, 0, none⟩ : Option Addr) else (some ⟨gt, 0, none⟩ : Option Addr).map (·.add ((1 : Int).toNat * 1))) = (if cT = 1 then (some ⟨gt, 0, none⟩ : Option Addr) else (some ⟨gt, 0, none⟩ : Option Addr).map (·.add (1 * Kd.string.sz))) := rfl
 rw [hsame] at hcut
 obtain ⟨A7, hA7⟩ : ∃ A, A = (if cT = 1 then (some ⟨gt, 0, none⟩ : Option Addr) else (some ⟨gt, 0, none⟩ : Option Addr).map (·.add (1 * Kd.string.sz))) := ⟨_, rfl⟩
 rw [← hA7] at hcut hC7
 have HC7 := Aside0.mk hC7
 have HCAP := Aside0.mk hcapT
 have HCN := Aside0.mk hCN
 have HCT := Aside0.mk hCT
 have HK7 := Aside0.mk hk7
 obtain ⟨i3, hi3, hz3⟩ := Option.map_eq_some_iff.1 info3
 have hs3 : i3.size = 1 := by simpa using congrArg (fun x => x.2.1) hz3
 have hcutN := fun W => cut_from (P := Try.prog) 45 3 .i64 Try.underlying45 hi3 1 hs3 (some ⟨gn, 0, none⟩) ns.length cN 7 (by decide) (by omega) W
 have hcutT := fun W => cut_from (P := Try.prog) 22 9 .i64 Try.underlying22 hi9 1 hs9 (some ⟨gt, 0, none⟩) ts.length cT (1 + rd ns 6) (by omega) (by omega) W
 have hCF := Kd.C_drop (m := 7) hCN (by omega) hcapN
 have hCR := Kd.C_drop (m := (1 + rd ns 6).toNat) hCT (by omega) hcapT
 have hsameN : (if cN = (7 : Int).toNat then (some ⟨gn, 0, none⟩ : Option Addr) else (some ⟨gn, 0, none⟩ : Option Addr).map (·.add ((7 : Int).toNat * 1))) = (if cN = 7 then (some ⟨gn, 0, none⟩ : Option Addr) else (some ⟨gn, 0, none⟩ : Option Addr).map (·.add (7 * (Kd.int .i64).sz))) := rfl
 rw [hsameN] at hcutN
 obtain ⟨AF, hAF⟩ : ∃ A, A = (if cN = 7 then (some ⟨gn, 0, none⟩ : Option Addr) else (some ⟨gn, 0, none⟩ : Option Addr).map (·.add (7 * (Kd.int .i64).sz))) := ⟨_, rfl⟩
 have hsameT : (if cT = (1 + rd ns 6).toNat then (some ⟨gt, 0, none⟩ : Option Addr) else (some ⟨gt, 0, none⟩ : Option Addr).map (·.add ((1 + rd ns 6).toNat * 1))) = (if cT = (1 + rd ns 6).toNat then (some ⟨gt, 0, none⟩ : Option Addr) else (some ⟨gt, 0, none⟩ : Option Addr).map (·.add ((1 + rd ns 6).toNat * Kd.string.sz))) := rfl
 rw [hsameT] at hcutT
 obtain ⟨AR, hAR⟩ : ∃ A, A = (if cT = (1 + rd ns 6).toNat then (some ⟨gt, 0, none⟩ : Option Addr) else (some ⟨gt, 0, none⟩ : Option Addr).map (·.add ((1 + rd ns 6).toNat * Kd.string.sz))) := ⟨_, rfl⟩
 rw [← hAF] at hcutN hCF
 rw [← hAR] at hcutT hCR
 have HM7 : Aside0 (∀ W', Kd.C Kd.string W' (some ⟨gt, 0, none⟩) ts.length ts → Kd.C Kd.string W' A7 ((ts.take (1 + rd ns 6).toNat).drop 1).length ((ts.take (1 + rd ns 6).toNat).drop 1)) := ⟨fun W' h => by rw [hA7]; exact Kd.C_mid (lo := 1) (hi := (1 + rd ns 6).toNat) h (by omega) (by omega) hcapT⟩
 have HCF := Aside0.mk hCF
 have HCR := Aside0.mk hCR
 have HCAPN := Aside0.mk hcapN
 have LF := Aside0.mk (show ns.length - 7 = (ns.drop 7).length from List.length_drop.symm)
 have LR := Aside0.mk (show ts.length - (1 + rd ns 6).toNat = (ts.drop (1 + rd ns 6).toNat).length from List.length_drop.symm)
 have L7 := Aside0.mk (show (1 + rd ns 6).toNat - 1 = ((ts.take (1 + rd ns 6).toNat).drop 1).length from by rw [List.length_drop, List.length_take]; omega)
 have K7 := Aside0.mk (show ((ts.take (1 + rd ns 6).toNat).drop 1).length ≤ cT - 1 from by rw [List.length_drop, List.length_take]; omega)
 have KF := Aside0.mk (show (ns.drop 7).length ≤ cN - 7 from by rw [List.length_drop]; omega)
 have KR := Aside0.mk (show (ts.drop (1 + rd ns 6).toNat).length ≤ cT - (1 + rd ns 6).toNat from by rw [List.length_drop]; omega)
 have q5 : (7 : Int) ≤ (ns.length : Int) := by omega
 clear hsameN hsameT hAF hAR hCF hCR hs3 hz3
 have q1 : IntKind.i64.wrap (1 + rd ns 6) = 1 + rd ns 6 := IntWalk.i64_in _ (by omega)
 have q2 : (0 : Int) ≤ 1 + rd ns 6 := by omega
 have q3 : (1 : Int) ≤ 1 + rd ns 6 := by omega
 have q4 : 1 + rd ns 6 ≤ (ts.length : Int) := by omega
 have j0 : (0 : Int) < (ns.length : Int) := by omega
 have jj0 : 0 < ns.length := by omega
 have j1 : (1 : Int) < (ns.length : Int) := by omega
 have jj1 : 1 < ns.length := by omega
 have j2 : (2 : Int) < (ns.length : Int) := by omega
 have jj2 : 2 < ns.length := by omega
 have j3 : (3 : Int) < (ns.length : Int) := by omega
 have jj3 : 3 < ns.length := by omega
 have j4 : (4 : Int) < (ns.length : Int) := by omega
 have jj4 : 4 < ns.length := by omega
 have j5 : (5 : Int) < (ns.length : Int) := by omega
 have jj5 : 5 < ns.length := by omega
 have jt : (0 : Int) < (ts.length : Int) := by omega
 have jjt : 0 < ts.length := by omega
 have jn : ¬ (ns = []) := fun h => by rw [h] at hl7; exact absurd hl7 (by decide)
 clear hi3 hA7 hsame hC7 hcapT hcapN hCN hCT hk7 hz9 hs9 hi9
 go_region_held3 (fun W => W.cell? ⟨gn, 0, none⟩ = some (.int .i64 (rd ns 0)) ∧ W.cell? ⟨gn, 1, none⟩ = some (.int .i64 (rd ns 1)) ∧ W.cell? ⟨gn, 2, none⟩ = some (.int .i64 (rd ns 2)) ∧ W.cell? ⟨gn, 3, none⟩ = some (.int .i64 (rd ns 3)) ∧ W.cell? ⟨gn, 4, none⟩ = some (.int .i64 (rd ns 4)) ∧ W.cell? ⟨gn, 5, none⟩ = some (.int .i64 (rd ns 5)) ∧ W.cell? ⟨gp, 1, none⟩ = some (.slice (some ⟨gt, 0, none⟩) ts.length cT) ∧ W.cell? ⟨gt, 0, none⟩ = some (.string (rdOf ByteArray.empty ts 0))) (go_keep) (fail)
 have GL : Aside0 (w.heap.size ≤ W.heap.size) := ⟨HQ.out.bel.size⟩
 have NQ : Aside0 (gq ≠ W.heap.size) := ⟨by have := blk_lt HQ.out.bq; omega⟩
 have NP : Aside0 (gp ≠ W.heap.size) := ⟨by have := blk_lt HQ.out.bp; omega⟩
 have BL := Aside0.mk (blk_drew (blk_new W (.cells #[.int .i64 (rd ns 0), .int .i64 (rd ns 1), .int .i64 (rd ns 2), .int .i64 (rd ns 3), .int .i64 (rd ns 4), .int .i64 (rd ns 5), .string (rdOf ByteArray.empty ts 0), .slice A7 ((1 + rd ns 6).toNat - 1) (cT - 1), .slice none 0 0] 25)))
 have HQ4 := Aside0.mk (HQ.out.alloc (.cells #[.int .i64 (rd ns 0), .int .i64 (rd ns 1), .int .i64 (rd ns 2), .int .i64 (rd ns 3), .int .i64 (rd ns 4), .int .i64 (rd ns 5), .string (rdOf ByteArray.empty ts 0), .slice A7 ((1 + rd ns 6).toNat - 1) (cT - 1), .slice none 0 0] 25)).drew
 have BW : Aside0 (Below W.heap.size W (W.alloc (.cells #[.int .i64 (rd ns 0), .int .i64 (rd ns 1), .int .i64 (rd ns 2), .int .i64 (rd ns 3), .int .i64 (rd ns 4), .int .i64 (rd ns 5), .string (rdOf ByteArray.empty ts 0), .slice A7 ((1 + rd ns 6).toNat - 1) (cT - 1), .slice none 0 0] 25)).drew) := ⟨below_drew (below_alloc (Below.refl _ _) _)⟩
 have HC7' := Aside0.mk (Kd.C_below HC7.out BW.out)
 have HCF' := Aside0.mk (Kd.C_below HCF.out BW.out)
 have HCR' := Aside0.mk (Kd.C_below HCR.out BW.out)
 generalize eG : W.heap.size = gl at GL NQ NP BL ⊢
 generalize eW : (W.alloc (.cells #[.int .i64 (rd ns 0), .int .i64 (rd ns 1), .int .i64 (rd ns 2), .int .i64 (rd ns 3), .int .i64 (rd ns 4), .int .i64 (rd ns 5), .string (rdOf ByteArray.empty ts 0), .slice A7 ((1 + rd ns 6).toNat - 1) (cT - 1), .slice none 0 0] 25)).drew = W4 at BL HQ4 HC7' HCF' HCR' ⊢
 clear eG eW BW HC7 HCF HCR hP0 hP1 hn0 hn1 hn2 hn3 hn4 hn5 hn6 ht0 hcut HQ hq0 hqf0 hq1 hqf1 hq2 hqf2 hq3 hqf3 hq4 hqf4 hq5 hqf5 hq6 hqf6 hq7 hqf7 hq8 hqf8
 have hP1 : W4.cell? ⟨gp, 1, none⟩ = some (.slice (some ⟨gt, 0, none⟩) ts.length cT) := (blk_cell HQ4.out.bp 1).trans rfl
 go_wp2
 go_region_held3 (fun W => W.cell? ⟨gp, 1, none⟩ = some (.slice (some ⟨gt, 0, none⟩) ts.length cT)) (go_keep) ((go_at_call 39; (with_reducible refine (rpairs_len LF.out LR.out (Kd.C_below HCF'.out (by (with_reducible repeat (first | exact Below.refl _ _ | apply below_drew | apply pw_below_drewN)))) KF.out (Kd.C_below HCR'.out (by (with_reducible repeat (first | exact Below.refl _ _ | apply below_drew | apply pw_below_drewN)))) KR.out HPR.out).mono ?_); rintro e w5 ⟨v8, rfl, ho, hb⟩; obtain ⟨A8, c8, e8⟩ := Kd.R_slice ho; subst e8; have HQ5 : Aside0 (QR w w5 gq gp ns ts (.slice (some ⟨gn, 0, none⟩) ns.length cN) (.slice (some ⟨gt, 0, none⟩) ts.length cT)) := ⟨QR.below (by (with_reducible repeat (first | exact HQ4.out | apply QR.drew | apply QR.drewN))) hb⟩; have hP5 : w5.cell? ⟨gp, 1, none⟩ = some (.slice (some ⟨gt, 0, none⟩) ts.length cT) := (blk_cell HQ5.out.bp 1).trans rfl; have BL5 : Aside0 (w5.heap[gl]? = some (.cells #[.int .i64 (rd ns 0), .int .i64 (rd ns 1), .int .i64 (rd ns 2), .int .i64 (rd ns 3), .int .i64 (rd ns 4), .int .i64 (rd ns 5), .string (rdOf ByteArray.empty ts 0), .slice A7 ((1 + rd ns 6).toNat - 1) (cT - 1), .slice none 0 0] 25 (0, 0))) := ⟨blk_below (by (with_reducible repeat (first | exact BL.out | apply blk_drew | apply blk_drewN))) hb⟩; have HC75 : Aside0 (Kd.C Kd.string w5 A7 ((ts.take (1 + rd ns 6).toNat).drop 1).length ((ts.take (1 + rd ns 6).toNat).drop 1)) := ⟨Kd.C_below (by (with_reducible repeat (first | exact HC7'.out | apply Kd.C_drew | apply Kd.C_drewN))) hb⟩; have HO5 : Aside0 (Kd.R k49 49 w5 w.heap.size (fun _ => True) (.slice A8 qs.length c8) qs) := ⟨Kd.R_lower ho HQ4.out.bel.size⟩; clear ho hb))
 have hl8 : w5.cell? ⟨gl, 8, none⟩ = some (.slice none 0 0) := (blk_cell BL5.out 8).trans rfl
 have hlf8 := blk_frozen BL5.out 8
 go_upto_region 11 with (fail)
 have BL6 : Aside0 ((w5.setCell ⟨gl, 8, none⟩ (.slice A8 qs.length c8)).heap[gl]? = some (.cells #[.int .i64 (rd ns 0), .int .i64 (rd ns 1), .int .i64 (rd ns 2), .int .i64 (rd ns 3), .int .i64 (rd ns 4), .int .i64 (rd ns 5), .string (rdOf ByteArray.empty ts 0), .slice A7 ((1 + rd ns 6).toNat - 1) (cT - 1), .slice A8 qs.length c8] 25 (0, 0))) := ⟨by simpa using blk_set BL5.out 8 (.slice A8 qs.length c8)⟩
 have HQ6 := Aside0.mk (HQ5.out.set BL5.out GL.out NQ.out NP.out 8 (.slice A8 qs.length c8))
 have HO6 := Aside0.mk (Kd.R_set HO5.out BL5.out (by decide) 8 (.slice A8 qs.length c8))
 generalize eW : w5.setCell ⟨gl, 8, none⟩ (.slice A8 qs.length c8) = W6 at BL6 HQ6 HO6 ⊢
 clear eW hl8 hlf8 hP5 HQ5 BL5 HO5 HC75 HQ4 BL hP1 hcutN hcutT HC7' HCF' HCR'
 have hq0 : W6.cell? ⟨gq, 0, none⟩ = some (.int .i64 0) := (blk_cell HQ6.out.bq 0).trans rfl
 have hqf0 := blk_frozen HQ6.out.bq 0
 have hq1 : W6.cell? ⟨gq, 1, none⟩ = some (.int .i64 0) := (blk_cell HQ6.out.bq 1).trans rfl
 have hqf1 := blk_frozen HQ6.out.bq 1
 have hq2 : W6.cell? ⟨gq, 2, none⟩ = some (.int .i64 0) := (blk_cell HQ6.out.bq 2).trans rfl
 have hqf2 := blk_frozen HQ6.out.bq 2
 have hq3 : W6.cell? ⟨gq, 3, none⟩ = some (.int .i64 0) := (blk_cell HQ6.out.bq 3).trans rfl
 have hqf3 := blk_frozen HQ6.out.bq 3
 have hq4 : W6.cell? ⟨gq, 4, none⟩ = some (.int .i64 0) := (blk_cell HQ6.out.bq 4).trans rfl
 have hqf4 := blk_frozen HQ6.out.bq 4
 have hq5 : W6.cell? ⟨gq, 5, none⟩ = some (.int .i64 0) := (blk_cell HQ6.out.bq 5).trans rfl
 have hqf5 := blk_frozen HQ6.out.bq 5
 have hq6 : W6.cell? ⟨gq, 6, none⟩ = some (.string (⟨#[]⟩ : ByteArray)) := (blk_cell HQ6.out.bq 6).trans rfl
 have hqf6 := blk_frozen HQ6.out.bq 6
 have hq7 : W6.cell? ⟨gq, 7, none⟩ = some (.slice none 0 0) := (blk_cell HQ6.out.bq 7).trans rfl
 have hqf7 := blk_frozen HQ6.out.bq 7
 have hq8 : W6.cell? ⟨gq, 8, none⟩ = some (.slice none 0 0) := (blk_cell HQ6.out.bq 8).trans rfl
 have hqf8 := blk_frozen HQ6.out.bq 8
 have hl0 : W6.cell? ⟨gl, 0, none⟩ = some (.int .i64 (rd ns 0)) := (blk_cell BL6.out 0).trans rfl
 have hl1 : W6.cell? ⟨gl, 1, none⟩ = some (.int .i64 (rd ns 1)) := (blk_cell BL6.out 1).trans rfl
 have hl2 : W6.cell? ⟨gl, 2, none⟩ = some (.int .i64 (rd ns 2)) := (blk_cell BL6.out 2).trans rfl
 have hl3 : W6.cell? ⟨gl, 3, none⟩ = some (.int .i64 (rd ns 3)) := (blk_cell BL6.out 3).trans rfl
 have hl4 : W6.cell? ⟨gl, 4, none⟩ = some (.int .i64 (rd ns 4)) := (blk_cell BL6.out 4).trans rfl
 have hl5 : W6.cell? ⟨gl, 5, none⟩ = some (.int .i64 (rd ns 5)) := (blk_cell BL6.out 5).trans rfl
 have hl6 : W6.cell? ⟨gl, 6, none⟩ = some (.string (rdOf ByteArray.empty ts 0)) := (blk_cell BL6.out 6).trans rfl
 have hl7 : W6.cell? ⟨gl, 7, none⟩ = some (.slice A7 ((1 + rd ns 6).toNat - 1) (cT - 1)) := (blk_cell BL6.out 7).trans rfl
 have hl8 : W6.cell? ⟨gl, 8, none⟩ = some (.slice A8 qs.length c8) := (blk_cell BL6.out 8).trans rfl
 go_wp2
 refine bodyPost_ret (results_ct rfl _ _ gq 25 #[.int .i64 0, .int .i64 0, .int .i64 0, .int .i64 0, .int .i64 0, .int .i64 0, .string (⟨#[]⟩ : ByteArray), .slice none 0 0, .slice none 0 0] (0, 0) _ rfl (set9 HQ6.out.bq) Try.underlying25 rfl (by kernel_rfl)) rfl ?_
 exact ⟨rfl, below9 HQ6.out.bel HQ6.out.geq⟩
set_option maxHeartbeats 1000000 in
set_option maxRecDepth 100000 in
theorem rdl_c (s : ByteArray) (ns : List Int) (ts : List ByteArray) (p : Int) (w : World) (hf : corncribref06_Decode.f s = some (ns, ts, p, 0)) (hn : 7 ≤ ns.length) (ht : 1 ≤ ts.length) (hb : ts.length ≤ 1024) (hm : 0 ≤ rd ns 6) (hm2 : rd ns 6 ≤ (ts.length : Int) - 1) (k : Nat) (qs : List S49) (hpr : corncribref07_Pairs.f k (ns.drop 7) (ts.drop (1 + rd ns 6).toNat) = some (qs, true)) (c : Int) (hck : corncribref07_Check.f k (rd ns 0) (rd ns 1) (rd ns 2) (rd ns 3) (rd ns 4) (rd ns 5) (rdOf ByteArray.empty ts 0) ((ts.take (1 + rd ns 6).toNat).drop 1) qs = some c) (hc : c ≠ 0) :
  Calls Try.prog 25 #[.string s] w (NoLetE w) := by
 have e1 : decide ((ns.length : Int) < 7) = false := decide_eq_false (by omega)
 have e2 : decide (ns.length < 7) = false := decide_eq_false (by omega)
 have e3 : decide ((ts.length : Int) < 1) = false := decide_eq_false (by omega)
 have e4 : decide (ts.length < 1) = false := decide_eq_false (by omega)
 have e5 : ¬ (ts.length = 0) := by omega
 have e6 : ¬ (ts = []) := fun h => by rw [h] at ht; exact absurd ht (by decide)
 have hl7 := hn
 have hl1 := ht
 have m1 : decide (rd ns 6 < 0) = false := decide_eq_false (by omega)
 have m2 : decide ((ts.length : Int) - 1 < rd ns 6) = false := decide_eq_false (by omega)
 have HPR := Aside0.mk hpr
 clear hpr
 have HCK := Aside0.mk hck
 clear hck
 have c1 : (c == 0) = false := beq_eq_false_iff_ne.2 hc
 have c2 : (c != 0) = true := bne_iff_ne.2 hc
 clear hn ht hc
 have hu25 := Try.underlying25
 have hu47 := Try.underlying47
 have HF := Aside0.mk hf
 clear hf
 go_enter Try.func25, Try.ntmps25
 go_upto_region 2 with (first | ((with_reducible refine gate_dst (N := 2) rfl ?_); refine box_event ?hg (N := 2) ?hd (cs := #[.int .i64 0, .int .i64 0, .int .i64 0, .int .i64 0, .int .i64 0, .int .i64 0, .string (⟨#[]⟩ : ByteArray), .slice none 0 0, .slice none 0 0]) (t := 25) ?hr ?_; (case hd => rfl); (case hg => rfl); (case hr => first | (go_simp; done) | (go_simp; rfl)); intro gq hgg w1 hbox hb; have GQ := Aside0.mk (Nat.le_of_eq hgg.symm); have BQ := Aside0.mk hbox; have BA := Aside0.mk hb; clear hgg hbox hb) | (go_at_call 38; refine (corncribref06_Decode.calls s _ _ _ _ _ HF.out).mono ?_; rintro x w2 ⟨v0, v1, rfl, hN, hT, hb⟩; obtain ⟨AN, cN, eN⟩ := Kd.R_slice hN; subst eN; obtain ⟨AT, cT, eT⟩ := Kd.R_slice hT; subst eT; have GN := Aside0.mk (Kd.R_lower hN (below_size BA.out)); have GT := Aside0.mk (Kd.R_lower hT (below_size BA.out)); have BC := Aside0.mk (below_step BA.out hb); have BQ2 := Aside0.mk (blk_below BQ.out hb); clear hN hT hb) | ((with_reducible refine gate_dst (N := 4) rfl ?_); refine box_event ?hg (N := 4) ?hd (cs := #[.slice none 0 0, .slice none 0 0]) (t := 47) ?hr ?_; (case hd => rfl); (case hg => rfl); (case hr => first | (go_simp; done) | (go_simp; rfl)); intro gp hgp w3 hbox hb; have HQ := Aside0.mk (qr_of GQ.out BQ2.out hbox hgp GN.out GT.out BC.out hb); have hz0 : w3.cell? ⟨gp, 0, none⟩ = some (.slice none 0 0) := (blk_cell hbox 0).trans rfl; have hz1 : w3.cell? ⟨gp, 1, none⟩ = some (.slice none 0 0) := (blk_cell hbox 1).trans rfl; have hzf0 := blk_frozen hbox 0; have hzf1 := blk_frozen hbox 1; clear hgp hbox hb))
 generalize eW : (w3.setCell ⟨gp, 0, none⟩ (.slice AN ns.length cN)).setCell ⟨gp, 1, none⟩ (.slice AT ts.length cT) = W at HQ ⊢
 clear eW hz0 hz1 hzf0 hzf1 GN GT BC BQ2 BQ BA GQ
 have hP0 : W.cell? ⟨gp, 0, none⟩ = some (.slice AN ns.length cN) := (blk_cell HQ.out.bp 0).trans rfl
 have hP1 : W.cell? ⟨gp, 1, none⟩ = some (.slice AT ts.length cT) := (blk_cell HQ.out.bp 1).trans rfl
 have hq0 : W.cell? ⟨gq, 0, none⟩ = some (.int .i64 0) := (blk_cell HQ.out.bq 0).trans rfl
 have hqf0 := blk_frozen HQ.out.bq 0
 have hq1 : W.cell? ⟨gq, 1, none⟩ = some (.int .i64 0) := (blk_cell HQ.out.bq 1).trans rfl
 have hqf1 := blk_frozen HQ.out.bq 1
 have hq2 : W.cell? ⟨gq, 2, none⟩ = some (.int .i64 0) := (blk_cell HQ.out.bq 2).trans rfl
 have hqf2 := blk_frozen HQ.out.bq 2
 have hq3 : W.cell? ⟨gq, 3, none⟩ = some (.int .i64 0) := (blk_cell HQ.out.bq 3).trans rfl
 have hqf3 := blk_frozen HQ.out.bq 3
 have hq4 : W.cell? ⟨gq, 4, none⟩ = some (.int .i64 0) := (blk_cell HQ.out.bq 4).trans rfl
 have hqf4 := blk_frozen HQ.out.bq 4
 have hq5 : W.cell? ⟨gq, 5, none⟩ = some (.int .i64 0) := (blk_cell HQ.out.bq 5).trans rfl
 have hqf5 := blk_frozen HQ.out.bq 5
 have hq6 : W.cell? ⟨gq, 6, none⟩ = some (.string (⟨#[]⟩ : ByteArray)) := (blk_cell HQ.out.bq 6).trans rfl
 have hqf6 := blk_frozen HQ.out.bq 6
 have hq7 : W.cell? ⟨gq, 7, none⟩ = some (.slice none 0 0) := (blk_cell HQ.out.bq 7).trans rfl
 have hqf7 := blk_frozen HQ.out.bq 7
 have hq8 : W.cell? ⟨gq, 8, none⟩ = some (.slice none 0 0) := (blk_cell HQ.out.bq 8).trans rfl
 have hqf8 := blk_frozen HQ.out.bq 8
 obtain ⟨gn, cn, eN, gnb, gnl, cellsN, hcN⟩ := Kd.R_form HQ.out.ns (by omega)
 obtain ⟨gt, ct, eT, gtb, gtl, cellsT, hcT⟩ := Kd.R_form HQ.out.ts (by omega)
 have eN' : AN = some ⟨gn, 0, none⟩ ∧ cN = cn := by simpa using eN
 have eT' : AT = some ⟨gt, 0, none⟩ ∧ cT = ct := by simpa using eT
 obtain ⟨rfl, rfl⟩ := eN'
 obtain ⟨rfl, rfl⟩ := eT'
 obtain ⟨_, hcapN, hCN⟩ := Kd.R_reads' HQ.out.ns
 obtain ⟨_, hcapT, hCT⟩ := Kd.R_reads' HQ.out.ts
 clear eN eT hcN hcT gnb gnl gtb gtl
 obtain ⟨_, eA, hn0⟩ := Kd.at_int hCN 0 (by decide) (by omega)
 cases eA
 replace hn0 : W.cell? ⟨gn, 0, none⟩ = some (.int .i64 (rd ns 0)) := by simpa [add_plain] using hn0
 obtain ⟨_, eA, hn1⟩ := Kd.at_int hCN 1 (by decide) (by omega)
 cases eA
 replace hn1 : W.cell? ⟨gn, 1, none⟩ = some (.int .i64 (rd ns 1)) := by simpa [add_plain] using hn1
 obtain ⟨_, eA, hn2⟩ := Kd.at_int hCN 2 (by decide) (by omega)
 cases eA
 replace hn2 : W.cell? ⟨gn, 2, none⟩ = some (.int .i64 (rd ns 2)) := by simpa [add_plain] using hn2
 obtain ⟨_, eA, hn3⟩ := Kd.at_int hCN 3 (by decide) (by omega)
 cases eA
 replace hn3 : W.cell? ⟨gn, 3, none⟩ = some (.int .i64 (rd ns 3)) := by simpa [add_plain] using hn3
 obtain ⟨_, eA, hn4⟩ := Kd.at_int hCN 4 (by decide) (by omega)
 cases eA
 replace hn4 : W.cell? ⟨gn, 4, none⟩ = some (.int .i64 (rd ns 4)) := by simpa [add_plain] using hn4
 obtain ⟨_, eA, hn5⟩ := Kd.at_int hCN 5 (by decide) (by omega)
 cases eA
 replace hn5 : W.cell? ⟨gn, 5, none⟩ = some (.int .i64 (rd ns 5)) := by simpa [add_plain] using hn5
 obtain ⟨_, eA, hn6⟩ := Kd.at_int hCN 6 (by decide) (by omega)
 cases eA
 replace hn6 : W.cell? ⟨gn, 6, none⟩ = some (.int .i64 (rd ns 6)) := by simpa [add_plain] using hn6
 obtain ⟨_, eA, ht0⟩ := Kd.at_string hCT 0 (by decide) (by omega)
 cases eA
 replace ht0 : W.cell? ⟨gt, 0, none⟩ = some (.string (rdOf ByteArray.empty ts 0)) := by simpa [add_plain] using ht0
 go_wp2
 obtain ⟨i9, hi9, hz9⟩ := Option.map_eq_some_iff.1 info9
 have hs9 : i9.size = 1 := by simpa using congrArg (fun x => x.2.1) hz9
 have hcut := fun W => cut_mid (P := Try.prog) 22 9 .i64 .i64 Try.underlying22 hi9 1 hs9 (some ⟨gt, 0, none⟩) ts.length cT 1 (1 + rd ns 6) (by decide) (by omega) (by omega) hcapT W
 have hC7 := Kd.C_mid (lo := 1) (hi := (1 + rd ns 6).toNat) hCT (by omega) (by omega) hcapT
 have hk7 : ((ts.take (1 + rd ns 6).toNat).drop 1).length = (1 + rd ns 6).toNat - (1 : Int).toNat := by rw [List.length_drop, List.length_take]; omega
 rw [← hk7] at hcut
 have hsame : (if cT = (1 : Int).toNat then (some ⟨gt, 0, none⟩ : Option Addr) else (some ⟨gt, 0, none⟩ : Option Addr).map (·.add ((1 : Int).toNat * 1))) = (if cT = 1 then (some ⟨gt, 0, none⟩ : Option Addr) else (some ⟨gt, 0, none⟩ : Option Addr).map (·.add (1 * Kd.string.sz))) := rfl
 rw [hsame] at hcut
 obtain ⟨A7, hA7⟩ : ∃ A, A = (if cT = 1 then (some ⟨gt, 0, none⟩ : Option Addr) else (some ⟨gt, 0, none⟩ : Option Addr).map (·.add (1 * Kd.string.sz))) := ⟨_, rfl⟩
 rw [← hA7] at hcut hC7
 have HC7 := Aside0.mk hC7
 have HCAP := Aside0.mk hcapT
 have HCN := Aside0.mk hCN
 have HCT := Aside0.mk hCT
 have HK7 := Aside0.mk hk7
 obtain ⟨i3, hi3, hz3⟩ := Option.map_eq_some_iff.1 info3
 have hs3 : i3.size = 1 := by simpa using congrArg (fun x => x.2.1) hz3
 have hcutN := fun W => cut_from (P := Try.prog) 45 3 .i64 Try.underlying45 hi3 1 hs3 (some ⟨gn, 0, none⟩) ns.length cN 7 (by decide) (by omega) W
 have hcutT := fun W => cut_from (P := Try.prog) 22 9 .i64 Try.underlying22 hi9 1 hs9 (some ⟨gt, 0, none⟩) ts.length cT (1 + rd ns 6) (by omega) (by omega) W
 have hCF := Kd.C_drop (m := 7) hCN (by omega) hcapN
 have hCR := Kd.C_drop (m := (1 + rd ns 6).toNat) hCT (by omega) hcapT
 have hsameN : (if cN = (7 : Int).toNat then (some ⟨gn, 0, none⟩ : Option Addr) else (some ⟨gn, 0, none⟩ : Option Addr).map (·.add ((7 : Int).toNat * 1))) = (if cN = 7 then (some ⟨gn, 0, none⟩ : Option Addr) else (some ⟨gn, 0, none⟩ : Option Addr).map (·.add (7 * (Kd.int .i64).sz))) := rfl
 rw [hsameN] at hcutN
 obtain ⟨AF, hAF⟩ : ∃ A, A = (if cN = 7 then (some ⟨gn, 0, none⟩ : Option Addr) else (some ⟨gn, 0, none⟩ : Option Addr).map (·.add (7 * (Kd.int .i64).sz))) := ⟨_, rfl⟩
 have hsameT : (if cT = (1 + rd ns 6).toNat then (some ⟨gt, 0, none⟩ : Option Addr) else (some ⟨gt, 0, none⟩ : Option Addr).map (·.add ((1 + rd ns 6).toNat * 1))) = (if cT = (1 + rd ns 6).toNat then (some ⟨gt, 0, none⟩ : Option Addr) else (some ⟨gt, 0, none⟩ : Option Addr).map (·.add ((1 + rd ns 6).toNat * Kd.string.sz))) := rfl
 rw [hsameT] at hcutT
 obtain ⟨AR, hAR⟩ : ∃ A, A = (if cT = (1 + rd ns 6).toNat then (some ⟨gt, 0, none⟩ : Option Addr) else (some ⟨gt, 0, none⟩ : Option Addr).map (·.add ((1 + rd ns 6).toNat * Kd.string.sz))) := ⟨_, rfl⟩
 rw [← hAF] at hcutN hCF
 rw [← hAR] at hcutT hCR
 have HM7 : Aside0 (∀ W', Kd.C Kd.string W' (some ⟨gt, 0, none⟩) ts.length ts → Kd.C Kd.string W' A7 ((ts.take (1 + rd ns 6).toNat).drop 1).length ((ts.take (1 + rd ns 6).toNat).drop 1)) := ⟨fun W' h => by rw [hA7]; exact Kd.C_mid (lo := 1) (hi := (1 + rd ns 6).toNat) h (by omega) (by omega) hcapT⟩
 have HCF := Aside0.mk hCF
 have HCR := Aside0.mk hCR
 have HCAPN := Aside0.mk hcapN
 have LF := Aside0.mk (show ns.length - 7 = (ns.drop 7).length from List.length_drop.symm)
 have LR := Aside0.mk (show ts.length - (1 + rd ns 6).toNat = (ts.drop (1 + rd ns 6).toNat).length from List.length_drop.symm)
 have L7 := Aside0.mk (show (1 + rd ns 6).toNat - 1 = ((ts.take (1 + rd ns 6).toNat).drop 1).length from by rw [List.length_drop, List.length_take]; omega)
 have K7 := Aside0.mk (show ((ts.take (1 + rd ns 6).toNat).drop 1).length ≤ cT - 1 from by rw [List.length_drop, List.length_take]; omega)
 have KF := Aside0.mk (show (ns.drop 7).length ≤ cN - 7 from by rw [List.length_drop]; omega)
 have KR := Aside0.mk (show (ts.drop (1 + rd ns 6).toNat).length ≤ cT - (1 + rd ns 6).toNat from by rw [List.length_drop]; omega)
 have q5 : (7 : Int) ≤ (ns.length : Int) := by omega
 clear hsameN hsameT hAF hAR hCF hCR hs3 hz3
 have q1 : IntKind.i64.wrap (1 + rd ns 6) = 1 + rd ns 6 := IntWalk.i64_in _ (by omega)
 have q2 : (0 : Int) ≤ 1 + rd ns 6 := by omega
 have q3 : (1 : Int) ≤ 1 + rd ns 6 := by omega
 have q4 : 1 + rd ns 6 ≤ (ts.length : Int) := by omega
 have j0 : (0 : Int) < (ns.length : Int) := by omega
 have jj0 : 0 < ns.length := by omega
 have j1 : (1 : Int) < (ns.length : Int) := by omega
 have jj1 : 1 < ns.length := by omega
 have j2 : (2 : Int) < (ns.length : Int) := by omega
 have jj2 : 2 < ns.length := by omega
 have j3 : (3 : Int) < (ns.length : Int) := by omega
 have jj3 : 3 < ns.length := by omega
 have j4 : (4 : Int) < (ns.length : Int) := by omega
 have jj4 : 4 < ns.length := by omega
 have j5 : (5 : Int) < (ns.length : Int) := by omega
 have jj5 : 5 < ns.length := by omega
 have jt : (0 : Int) < (ts.length : Int) := by omega
 have jjt : 0 < ts.length := by omega
 have jn : ¬ (ns = []) := fun h => by rw [h] at hl7; exact absurd hl7 (by decide)
 clear hi3 hA7 hsame hC7 hcapT hcapN hCN hCT hk7 hz9 hs9 hi9
 go_region_held3 (fun W => W.cell? ⟨gn, 0, none⟩ = some (.int .i64 (rd ns 0)) ∧ W.cell? ⟨gn, 1, none⟩ = some (.int .i64 (rd ns 1)) ∧ W.cell? ⟨gn, 2, none⟩ = some (.int .i64 (rd ns 2)) ∧ W.cell? ⟨gn, 3, none⟩ = some (.int .i64 (rd ns 3)) ∧ W.cell? ⟨gn, 4, none⟩ = some (.int .i64 (rd ns 4)) ∧ W.cell? ⟨gn, 5, none⟩ = some (.int .i64 (rd ns 5)) ∧ W.cell? ⟨gp, 1, none⟩ = some (.slice (some ⟨gt, 0, none⟩) ts.length cT) ∧ W.cell? ⟨gt, 0, none⟩ = some (.string (rdOf ByteArray.empty ts 0))) (go_keep) (fail)
 have GL : Aside0 (w.heap.size ≤ W.heap.size) := ⟨HQ.out.bel.size⟩
 have NQ : Aside0 (gq ≠ W.heap.size) := ⟨by have := blk_lt HQ.out.bq; omega⟩
 have NP : Aside0 (gp ≠ W.heap.size) := ⟨by have := blk_lt HQ.out.bp; omega⟩
 have BL := Aside0.mk (blk_drew (blk_new W (.cells #[.int .i64 (rd ns 0), .int .i64 (rd ns 1), .int .i64 (rd ns 2), .int .i64 (rd ns 3), .int .i64 (rd ns 4), .int .i64 (rd ns 5), .string (rdOf ByteArray.empty ts 0), .slice A7 ((1 + rd ns 6).toNat - 1) (cT - 1), .slice none 0 0] 25)))
 have HQ4 := Aside0.mk (HQ.out.alloc (.cells #[.int .i64 (rd ns 0), .int .i64 (rd ns 1), .int .i64 (rd ns 2), .int .i64 (rd ns 3), .int .i64 (rd ns 4), .int .i64 (rd ns 5), .string (rdOf ByteArray.empty ts 0), .slice A7 ((1 + rd ns 6).toNat - 1) (cT - 1), .slice none 0 0] 25)).drew
 have BW : Aside0 (Below W.heap.size W (W.alloc (.cells #[.int .i64 (rd ns 0), .int .i64 (rd ns 1), .int .i64 (rd ns 2), .int .i64 (rd ns 3), .int .i64 (rd ns 4), .int .i64 (rd ns 5), .string (rdOf ByteArray.empty ts 0), .slice A7 ((1 + rd ns 6).toNat - 1) (cT - 1), .slice none 0 0] 25)).drew) := ⟨below_drew (below_alloc (Below.refl _ _) _)⟩
 have HC7' := Aside0.mk (Kd.C_below HC7.out BW.out)
 have HCF' := Aside0.mk (Kd.C_below HCF.out BW.out)
 have HCR' := Aside0.mk (Kd.C_below HCR.out BW.out)
 generalize eG : W.heap.size = gl at GL NQ NP BL ⊢
 generalize eW : (W.alloc (.cells #[.int .i64 (rd ns 0), .int .i64 (rd ns 1), .int .i64 (rd ns 2), .int .i64 (rd ns 3), .int .i64 (rd ns 4), .int .i64 (rd ns 5), .string (rdOf ByteArray.empty ts 0), .slice A7 ((1 + rd ns 6).toNat - 1) (cT - 1), .slice none 0 0] 25)).drew = W4 at BL HQ4 HC7' HCF' HCR' ⊢
 clear eG eW BW HC7 HCF HCR hP0 hP1 hn0 hn1 hn2 hn3 hn4 hn5 hn6 ht0 hcut HQ hq0 hqf0 hq1 hqf1 hq2 hqf2 hq3 hqf3 hq4 hqf4 hq5 hqf5 hq6 hqf6 hq7 hqf7 hq8 hqf8
 have hP1 : W4.cell? ⟨gp, 1, none⟩ = some (.slice (some ⟨gt, 0, none⟩) ts.length cT) := (blk_cell HQ4.out.bp 1).trans rfl
 go_wp2
 go_region_held3 (fun W => W.cell? ⟨gp, 1, none⟩ = some (.slice (some ⟨gt, 0, none⟩) ts.length cT)) (go_keep) ((go_at_call 39; (with_reducible refine (rpairs_len LF.out LR.out (Kd.C_below HCF'.out (by (with_reducible repeat (first | exact Below.refl _ _ | apply below_drew | apply pw_below_drewN)))) KF.out (Kd.C_below HCR'.out (by (with_reducible repeat (first | exact Below.refl _ _ | apply below_drew | apply pw_below_drewN)))) KR.out HPR.out).mono ?_); rintro e w5 ⟨v8, rfl, ho, hb⟩; obtain ⟨A8, c8, e8⟩ := Kd.R_slice ho; subst e8; have HQ5 : Aside0 (QR w w5 gq gp ns ts (.slice (some ⟨gn, 0, none⟩) ns.length cN) (.slice (some ⟨gt, 0, none⟩) ts.length cT)) := ⟨QR.below (by (with_reducible repeat (first | exact HQ4.out | apply QR.drew | apply QR.drewN))) hb⟩; have hP5 : w5.cell? ⟨gp, 1, none⟩ = some (.slice (some ⟨gt, 0, none⟩) ts.length cT) := (blk_cell HQ5.out.bp 1).trans rfl; have BL5 : Aside0 (w5.heap[gl]? = some (.cells #[.int .i64 (rd ns 0), .int .i64 (rd ns 1), .int .i64 (rd ns 2), .int .i64 (rd ns 3), .int .i64 (rd ns 4), .int .i64 (rd ns 5), .string (rdOf ByteArray.empty ts 0), .slice A7 ((1 + rd ns 6).toNat - 1) (cT - 1), .slice none 0 0] 25 (0, 0))) := ⟨blk_below (by (with_reducible repeat (first | exact BL.out | apply blk_drew | apply blk_drewN))) hb⟩; have HC75 : Aside0 (Kd.C Kd.string w5 A7 ((ts.take (1 + rd ns 6).toNat).drop 1).length ((ts.take (1 + rd ns 6).toNat).drop 1)) := ⟨Kd.C_below (by (with_reducible repeat (first | exact HC7'.out | apply Kd.C_drew | apply Kd.C_drewN))) hb⟩; have HO5 : Aside0 (Kd.R k49 49 w5 w.heap.size (fun _ => True) (.slice A8 qs.length c8) qs) := ⟨Kd.R_lower ho HQ4.out.bel.size⟩; clear ho hb))
 have hl8 : w5.cell? ⟨gl, 8, none⟩ = some (.slice none 0 0) := (blk_cell BL5.out 8).trans rfl
 have hlf8 := blk_frozen BL5.out 8
 go_upto_region 11 with (fail)
 have BL6 : Aside0 ((w5.setCell ⟨gl, 8, none⟩ (.slice A8 qs.length c8)).heap[gl]? = some (.cells #[.int .i64 (rd ns 0), .int .i64 (rd ns 1), .int .i64 (rd ns 2), .int .i64 (rd ns 3), .int .i64 (rd ns 4), .int .i64 (rd ns 5), .string (rdOf ByteArray.empty ts 0), .slice A7 ((1 + rd ns 6).toNat - 1) (cT - 1), .slice A8 qs.length c8] 25 (0, 0))) := ⟨by simpa using blk_set BL5.out 8 (.slice A8 qs.length c8)⟩
 have HQ6 := Aside0.mk (HQ5.out.set BL5.out GL.out NQ.out NP.out 8 (.slice A8 qs.length c8))
 have HO6 := Aside0.mk (Kd.R_set HO5.out BL5.out (by decide) 8 (.slice A8 qs.length c8))
 generalize eW : w5.setCell ⟨gl, 8, none⟩ (.slice A8 qs.length c8) = W6 at BL6 HQ6 HO6 ⊢
 clear eW hl8 hlf8 hP5 HQ5 BL5 HO5 HC75 HQ4 BL hP1 hcutN hcutT HC7' HCF' HCR'
 have hq0 : W6.cell? ⟨gq, 0, none⟩ = some (.int .i64 0) := (blk_cell HQ6.out.bq 0).trans rfl
 have hqf0 := blk_frozen HQ6.out.bq 0
 have hq1 : W6.cell? ⟨gq, 1, none⟩ = some (.int .i64 0) := (blk_cell HQ6.out.bq 1).trans rfl
 have hqf1 := blk_frozen HQ6.out.bq 1
 have hq2 : W6.cell? ⟨gq, 2, none⟩ = some (.int .i64 0) := (blk_cell HQ6.out.bq 2).trans rfl
 have hqf2 := blk_frozen HQ6.out.bq 2
 have hq3 : W6.cell? ⟨gq, 3, none⟩ = some (.int .i64 0) := (blk_cell HQ6.out.bq 3).trans rfl
 have hqf3 := blk_frozen HQ6.out.bq 3
 have hq4 : W6.cell? ⟨gq, 4, none⟩ = some (.int .i64 0) := (blk_cell HQ6.out.bq 4).trans rfl
 have hqf4 := blk_frozen HQ6.out.bq 4
 have hq5 : W6.cell? ⟨gq, 5, none⟩ = some (.int .i64 0) := (blk_cell HQ6.out.bq 5).trans rfl
 have hqf5 := blk_frozen HQ6.out.bq 5
 have hq6 : W6.cell? ⟨gq, 6, none⟩ = some (.string (⟨#[]⟩ : ByteArray)) := (blk_cell HQ6.out.bq 6).trans rfl
 have hqf6 := blk_frozen HQ6.out.bq 6
 have hq7 : W6.cell? ⟨gq, 7, none⟩ = some (.slice none 0 0) := (blk_cell HQ6.out.bq 7).trans rfl
 have hqf7 := blk_frozen HQ6.out.bq 7
 have hq8 : W6.cell? ⟨gq, 8, none⟩ = some (.slice none 0 0) := (blk_cell HQ6.out.bq 8).trans rfl
 have hqf8 := blk_frozen HQ6.out.bq 8
 have hl0 : W6.cell? ⟨gl, 0, none⟩ = some (.int .i64 (rd ns 0)) := (blk_cell BL6.out 0).trans rfl
 have hl1 : W6.cell? ⟨gl, 1, none⟩ = some (.int .i64 (rd ns 1)) := (blk_cell BL6.out 1).trans rfl
 have hl2 : W6.cell? ⟨gl, 2, none⟩ = some (.int .i64 (rd ns 2)) := (blk_cell BL6.out 2).trans rfl
 have hl3 : W6.cell? ⟨gl, 3, none⟩ = some (.int .i64 (rd ns 3)) := (blk_cell BL6.out 3).trans rfl
 have hl4 : W6.cell? ⟨gl, 4, none⟩ = some (.int .i64 (rd ns 4)) := (blk_cell BL6.out 4).trans rfl
 have hl5 : W6.cell? ⟨gl, 5, none⟩ = some (.int .i64 (rd ns 5)) := (blk_cell BL6.out 5).trans rfl
 have hl6 : W6.cell? ⟨gl, 6, none⟩ = some (.string (rdOf ByteArray.empty ts 0)) := (blk_cell BL6.out 6).trans rfl
 have hl7 : W6.cell? ⟨gl, 7, none⟩ = some (.slice A7 ((1 + rd ns 6).toNat - 1) (cT - 1)) := (blk_cell BL6.out 7).trans rfl
 have hl8 : W6.cell? ⟨gl, 8, none⟩ = some (.slice A8 qs.length c8) := (blk_cell BL6.out 8).trans rfl
 go_wp2_with (go_at_call 14; (with_reducible refine (rcheck_len L7.out (HM7.out _ (Kd.R_reads' HQ6.out.ts).2.2) K7.out (Kd.R_reads' HO6.out).2.2 (Kd.R_reads' HO6.out).2.1 HCK.out).mono ?_); rintro e w7 ⟨rfl, hb⟩; have HQ7 := Aside0.mk (HQ6.out.below hb); have BL7 := Aside0.mk (blk_below BL6.out hb); have HO7 := Aside0.mk (Kd.R_below HO6.out hb); have hq0 : w7.cell? ⟨gq, 0, none⟩ = some (.int .i64 0) := (blk_cell HQ7.out.bq 0).trans rfl; have hqf0 := blk_frozen HQ7.out.bq 0; have hq1 : w7.cell? ⟨gq, 1, none⟩ = some (.int .i64 0) := (blk_cell HQ7.out.bq 1).trans rfl; have hqf1 := blk_frozen HQ7.out.bq 1; have hq2 : w7.cell? ⟨gq, 2, none⟩ = some (.int .i64 0) := (blk_cell HQ7.out.bq 2).trans rfl; have hqf2 := blk_frozen HQ7.out.bq 2; have hq3 : w7.cell? ⟨gq, 3, none⟩ = some (.int .i64 0) := (blk_cell HQ7.out.bq 3).trans rfl; have hqf3 := blk_frozen HQ7.out.bq 3; have hq4 : w7.cell? ⟨gq, 4, none⟩ = some (.int .i64 0) := (blk_cell HQ7.out.bq 4).trans rfl; have hqf4 := blk_frozen HQ7.out.bq 4; have hq5 : w7.cell? ⟨gq, 5, none⟩ = some (.int .i64 0) := (blk_cell HQ7.out.bq 5).trans rfl; have hqf5 := blk_frozen HQ7.out.bq 5; have hq6 : w7.cell? ⟨gq, 6, none⟩ = some (.string (⟨#[]⟩ : ByteArray)) := (blk_cell HQ7.out.bq 6).trans rfl; have hqf6 := blk_frozen HQ7.out.bq 6; have hq7 : w7.cell? ⟨gq, 7, none⟩ = some (.slice none 0 0) := (blk_cell HQ7.out.bq 7).trans rfl; have hqf7 := blk_frozen HQ7.out.bq 7; have hq8 : w7.cell? ⟨gq, 8, none⟩ = some (.slice none 0 0) := (blk_cell HQ7.out.bq 8).trans rfl; have hqf8 := blk_frozen HQ7.out.bq 8;  have hl0 : w7.cell? ⟨gl, 0, none⟩ = some (.int .i64 (rd ns 0)) := (blk_cell BL7.out 0).trans rfl; have hl1 : w7.cell? ⟨gl, 1, none⟩ = some (.int .i64 (rd ns 1)) := (blk_cell BL7.out 1).trans rfl; have hl2 : w7.cell? ⟨gl, 2, none⟩ = some (.int .i64 (rd ns 2)) := (blk_cell BL7.out 2).trans rfl; have hl3 : w7.cell? ⟨gl, 3, none⟩ = some (.int .i64 (rd ns 3)) := (blk_cell BL7.out 3).trans rfl; have hl4 : w7.cell? ⟨gl, 4, none⟩ = some (.int .i64 (rd ns 4)) := (blk_cell BL7.out 4).trans rfl; have hl5 : w7.cell? ⟨gl, 5, none⟩ = some (.int .i64 (rd ns 5)) := (blk_cell BL7.out 5).trans rfl; have hl6 : w7.cell? ⟨gl, 6, none⟩ = some (.string (rdOf ByteArray.empty ts 0)) := (blk_cell BL7.out 6).trans rfl; have hl7 : w7.cell? ⟨gl, 7, none⟩ = some (.slice A7 ((1 + rd ns 6).toNat - 1) (cT - 1)) := (blk_cell BL7.out 7).trans rfl; have hl8 : w7.cell? ⟨gl, 8, none⟩ = some (.slice A8 qs.length c8) := (blk_cell BL7.out 8).trans rfl;  clear hb)
 refine bodyPost_ret (results_ct rfl _ _ gq 25 #[.int .i64 0, .int .i64 0, .int .i64 0, .int .i64 0, .int .i64 0, .int .i64 0, .string (⟨#[]⟩ : ByteArray), .slice none 0 0, .slice none 0 0] (0, 0) _ rfl (set9 HQ7.out.bq) Try.underlying25 rfl (by kernel_rfl)) rfl ?_
 exact ⟨rfl, below9 HQ7.out.bel HQ7.out.geq⟩
set_option maxHeartbeats 1000000 in
set_option maxRecDepth 100000 in
theorem rdl_b (s : ByteArray) (ns : List Int) (ts : List ByteArray) (p : Int) (w : World) (hf : corncribref06_Decode.f s = some (ns, ts, p, 0)) (hn : 7 ≤ ns.length) (ht : 1 ≤ ts.length) (hb : ts.length ≤ 1024) (hm : 0 ≤ rd ns 6) (hm2 : rd ns 6 ≤ (ts.length : Int) - 1) (k : Nat) (qs : List S49) (hpr : corncribref07_Pairs.f k (ns.drop 7) (ts.drop (1 + rd ns 6).toNat) = some (qs, true)) (hck : corncribref07_Check.f k (rd ns 0) (rd ns 1) (rd ns 2) (rd ns 3) (rd ns 4) (rd ns 5) (rdOf ByteArray.empty ts 0) ((ts.take (1 + rd ns 6).toNat).drop 1) qs = some 0) (b : ByteArray) (hby : corncribref07_Bytes.f k (rd ns 0) (rd ns 1) (rd ns 2) (rd ns 3) (rd ns 4) (rd ns 5) (rdOf ByteArray.empty ts 0) ((ts.take (1 + rd ns 6).toNat).drop 1) qs = some b) (hb2 : b.toList ≠ s.toList) :
  Calls Try.prog 25 #[.string s] w (NoLetE w) := by
 have e1 : decide ((ns.length : Int) < 7) = false := decide_eq_false (by omega)
 have e2 : decide (ns.length < 7) = false := decide_eq_false (by omega)
 have e3 : decide ((ts.length : Int) < 1) = false := decide_eq_false (by omega)
 have e4 : decide (ts.length < 1) = false := decide_eq_false (by omega)
 have e5 : ¬ (ts.length = 0) := by omega
 have e6 : ¬ (ts = []) := fun h => by rw [h] at ht; exact absurd ht (by decide)
 have hl7 := hn
 have hl1 := ht
 have m1 : decide (rd ns 6 < 0) = false := decide_eq_false (by omega)
 have m2 : decide ((ts.length : Int) - 1 < rd ns 6) = false := decide_eq_false (by omega)
 have HPR := Aside0.mk hpr
 clear hpr
 have HCK := Aside0.mk hck
 clear hck
 have HBY := Aside0.mk hby
 clear hby
 have c1 : (b.toList == s.toList) = false := beq_eq_false_iff_ne.2 hb2
 have c2 : (b.toList != s.toList) = true := bne_iff_ne.2 hb2
 clear hn ht hb2
 have hu25 := Try.underlying25
 have hu47 := Try.underlying47
 have HF := Aside0.mk hf
 clear hf
 go_enter Try.func25, Try.ntmps25
 go_upto_region 2 with (first | ((with_reducible refine gate_dst (N := 2) rfl ?_); refine box_event ?hg (N := 2) ?hd (cs := #[.int .i64 0, .int .i64 0, .int .i64 0, .int .i64 0, .int .i64 0, .int .i64 0, .string (⟨#[]⟩ : ByteArray), .slice none 0 0, .slice none 0 0]) (t := 25) ?hr ?_; (case hd => rfl); (case hg => rfl); (case hr => first | (go_simp; done) | (go_simp; rfl)); intro gq hgg w1 hbox hb; have GQ := Aside0.mk (Nat.le_of_eq hgg.symm); have BQ := Aside0.mk hbox; have BA := Aside0.mk hb; clear hgg hbox hb) | (go_at_call 38; refine (corncribref06_Decode.calls s _ _ _ _ _ HF.out).mono ?_; rintro x w2 ⟨v0, v1, rfl, hN, hT, hb⟩; obtain ⟨AN, cN, eN⟩ := Kd.R_slice hN; subst eN; obtain ⟨AT, cT, eT⟩ := Kd.R_slice hT; subst eT; have GN := Aside0.mk (Kd.R_lower hN (below_size BA.out)); have GT := Aside0.mk (Kd.R_lower hT (below_size BA.out)); have BC := Aside0.mk (below_step BA.out hb); have BQ2 := Aside0.mk (blk_below BQ.out hb); clear hN hT hb) | ((with_reducible refine gate_dst (N := 4) rfl ?_); refine box_event ?hg (N := 4) ?hd (cs := #[.slice none 0 0, .slice none 0 0]) (t := 47) ?hr ?_; (case hd => rfl); (case hg => rfl); (case hr => first | (go_simp; done) | (go_simp; rfl)); intro gp hgp w3 hbox hb; have HQ := Aside0.mk (qr_of GQ.out BQ2.out hbox hgp GN.out GT.out BC.out hb); have hz0 : w3.cell? ⟨gp, 0, none⟩ = some (.slice none 0 0) := (blk_cell hbox 0).trans rfl; have hz1 : w3.cell? ⟨gp, 1, none⟩ = some (.slice none 0 0) := (blk_cell hbox 1).trans rfl; have hzf0 := blk_frozen hbox 0; have hzf1 := blk_frozen hbox 1; clear hgp hbox hb))
 generalize eW : (w3.setCell ⟨gp, 0, none⟩ (.slice AN ns.length cN)).setCell ⟨gp, 1, none⟩ (.slice AT ts.length cT) = W at HQ ⊢
 clear eW hz0 hz1 hzf0 hzf1 GN GT BC BQ2 BQ BA GQ
 have hP0 : W.cell? ⟨gp, 0, none⟩ = some (.slice AN ns.length cN) := (blk_cell HQ.out.bp 0).trans rfl
 have hP1 : W.cell? ⟨gp, 1, none⟩ = some (.slice AT ts.length cT) := (blk_cell HQ.out.bp 1).trans rfl
 have hq0 : W.cell? ⟨gq, 0, none⟩ = some (.int .i64 0) := (blk_cell HQ.out.bq 0).trans rfl
 have hqf0 := blk_frozen HQ.out.bq 0
 have hq1 : W.cell? ⟨gq, 1, none⟩ = some (.int .i64 0) := (blk_cell HQ.out.bq 1).trans rfl
 have hqf1 := blk_frozen HQ.out.bq 1
 have hq2 : W.cell? ⟨gq, 2, none⟩ = some (.int .i64 0) := (blk_cell HQ.out.bq 2).trans rfl
 have hqf2 := blk_frozen HQ.out.bq 2
 have hq3 : W.cell? ⟨gq, 3, none⟩ = some (.int .i64 0) := (blk_cell HQ.out.bq 3).trans rfl
 have hqf3 := blk_frozen HQ.out.bq 3
 have hq4 : W.cell? ⟨gq, 4, none⟩ = some (.int .i64 0) := (blk_cell HQ.out.bq 4).trans rfl
 have hqf4 := blk_frozen HQ.out.bq 4
 have hq5 : W.cell? ⟨gq, 5, none⟩ = some (.int .i64 0) := (blk_cell HQ.out.bq 5).trans rfl
 have hqf5 := blk_frozen HQ.out.bq 5
 have hq6 : W.cell? ⟨gq, 6, none⟩ = some (.string (⟨#[]⟩ : ByteArray)) := (blk_cell HQ.out.bq 6).trans rfl
 have hqf6 := blk_frozen HQ.out.bq 6
 have hq7 : W.cell? ⟨gq, 7, none⟩ = some (.slice none 0 0) := (blk_cell HQ.out.bq 7).trans rfl
 have hqf7 := blk_frozen HQ.out.bq 7
 have hq8 : W.cell? ⟨gq, 8, none⟩ = some (.slice none 0 0) := (blk_cell HQ.out.bq 8).trans rfl
 have hqf8 := blk_frozen HQ.out.bq 8
 obtain ⟨gn, cn, eN, gnb, gnl, cellsN, hcN⟩ := Kd.R_form HQ.out.ns (by omega)
 obtain ⟨gt, ct, eT, gtb, gtl, cellsT, hcT⟩ := Kd.R_form HQ.out.ts (by omega)
 have eN' : AN = some ⟨gn, 0, none⟩ ∧ cN = cn := by simpa using eN
 have eT' : AT = some ⟨gt, 0, none⟩ ∧ cT = ct := by simpa using eT
 obtain ⟨rfl, rfl⟩ := eN'
 obtain ⟨rfl, rfl⟩ := eT'
 obtain ⟨_, hcapN, hCN⟩ := Kd.R_reads' HQ.out.ns
 obtain ⟨_, hcapT, hCT⟩ := Kd.R_reads' HQ.out.ts
 clear eN eT hcN hcT gnb gnl gtb gtl
 obtain ⟨_, eA, hn0⟩ := Kd.at_int hCN 0 (by decide) (by omega)
 cases eA
 replace hn0 : W.cell? ⟨gn, 0, none⟩ = some (.int .i64 (rd ns 0)) := by simpa [add_plain] using hn0
 obtain ⟨_, eA, hn1⟩ := Kd.at_int hCN 1 (by decide) (by omega)
 cases eA
 replace hn1 : W.cell? ⟨gn, 1, none⟩ = some (.int .i64 (rd ns 1)) := by simpa [add_plain] using hn1
 obtain ⟨_, eA, hn2⟩ := Kd.at_int hCN 2 (by decide) (by omega)
 cases eA
 replace hn2 : W.cell? ⟨gn, 2, none⟩ = some (.int .i64 (rd ns 2)) := by simpa [add_plain] using hn2
 obtain ⟨_, eA, hn3⟩ := Kd.at_int hCN 3 (by decide) (by omega)
 cases eA
 replace hn3 : W.cell? ⟨gn, 3, none⟩ = some (.int .i64 (rd ns 3)) := by simpa [add_plain] using hn3
 obtain ⟨_, eA, hn4⟩ := Kd.at_int hCN 4 (by decide) (by omega)
 cases eA
 replace hn4 : W.cell? ⟨gn, 4, none⟩ = some (.int .i64 (rd ns 4)) := by simpa [add_plain] using hn4
 obtain ⟨_, eA, hn5⟩ := Kd.at_int hCN 5 (by decide) (by omega)
 cases eA
 replace hn5 : W.cell? ⟨gn, 5, none⟩ = some (.int .i64 (rd ns 5)) := by simpa [add_plain] using hn5
 obtain ⟨_, eA, hn6⟩ := Kd.at_int hCN 6 (by decide) (by omega)
 cases eA
 replace hn6 : W.cell? ⟨gn, 6, none⟩ = some (.int .i64 (rd ns 6)) := by simpa [add_plain] using hn6
 obtain ⟨_, eA, ht0⟩ := Kd.at_string hCT 0 (by decide) (by omega)
 cases eA
 replace ht0 : W.cell? ⟨gt, 0, none⟩ = some (.string (rdOf ByteArray.empty ts 0)) := by simpa [add_plain] using ht0
 go_wp2
 obtain ⟨i9, hi9, hz9⟩ := Option.map_eq_some_iff.1 info9
 have hs9 : i9.size = 1 := by simpa using congrArg (fun x => x.2.1) hz9
 have hcut := fun W => cut_mid (P := Try.prog) 22 9 .i64 .i64 Try.underlying22 hi9 1 hs9 (some ⟨gt, 0, none⟩) ts.length cT 1 (1 + rd ns 6) (by decide) (by omega) (by omega) hcapT W
 have hC7 := Kd.C_mid (lo := 1) (hi := (1 + rd ns 6).toNat) hCT (by omega) (by omega) hcapT
 have hk7 : ((ts.take (1 + rd ns 6).toNat).drop 1).length = (1 + rd ns 6).toNat - (1 : Int).toNat := by rw [List.length_drop, List.length_take]; omega
 rw [← hk7] at hcut
 have hsame : (if cT = (1 : Int).toNat then (some ⟨gt, 0, none⟩ : Option Addr) else (some ⟨gt, 0, none⟩ : Option Addr).map (·.add ((1 : Int).toNat * 1))) = (if cT = 1 then (some ⟨gt, 0, none⟩ : Option Addr) else (some ⟨gt, 0, none⟩ : Option Addr).map (·.add (1 * Kd.string.sz))) := rfl
 rw [hsame] at hcut
 obtain ⟨A7, hA7⟩ : ∃ A, A = (if cT = 1 then (some ⟨gt, 0, none⟩ : Option Addr) else (some ⟨gt, 0, none⟩ : Option Addr).map (·.add (1 * Kd.string.sz))) := ⟨_, rfl⟩
 rw [← hA7] at hcut hC7
 have HC7 := Aside0.mk hC7
 have HCAP := Aside0.mk hcapT
 have HCN := Aside0.mk hCN
 have HCT := Aside0.mk hCT
 have HK7 := Aside0.mk hk7
 obtain ⟨i3, hi3, hz3⟩ := Option.map_eq_some_iff.1 info3
 have hs3 : i3.size = 1 := by simpa using congrArg (fun x => x.2.1) hz3
 have hcutN := fun W => cut_from (P := Try.prog) 45 3 .i64 Try.underlying45 hi3 1 hs3 (some ⟨gn, 0, none⟩) ns.length cN 7 (by decide) (by omega) W
 have hcutT := fun W => cut_from (P := Try.prog) 22 9 .i64 Try.underlying22 hi9 1 hs9 (some ⟨gt, 0, none⟩) ts.length cT (1 + rd ns 6) (by omega) (by omega) W
 have hCF := Kd.C_drop (m := 7) hCN (by omega) hcapN
 have hCR := Kd.C_drop (m := (1 + rd ns 6).toNat) hCT (by omega) hcapT
 have hsameN : (if cN = (7 : Int).toNat then (some ⟨gn, 0, none⟩ : Option Addr) else (some ⟨gn, 0, none⟩ : Option Addr).map (·.add ((7 : Int).toNat * 1))) = (if cN = 7 then (some ⟨gn, 0, none⟩ : Option Addr) else (some ⟨gn, 0, none⟩ : Option Addr).map (·.add (7 * (Kd.int .i64).sz))) := rfl
 rw [hsameN] at hcutN
 obtain ⟨AF, hAF⟩ : ∃ A, A = (if cN = 7 then (some ⟨gn, 0, none⟩ : Option Addr) else (some ⟨gn, 0, none⟩ : Option Addr).map (·.add (7 * (Kd.int .i64).sz))) := ⟨_, rfl⟩
 have hsameT : (if cT = (1 + rd ns 6).toNat then (some ⟨gt, 0, none⟩ : Option Addr) else (some ⟨gt, 0, none⟩ : Option Addr).map (·.add ((1 + rd ns 6).toNat * 1))) = (if cT = (1 + rd ns 6).toNat then (some ⟨gt, 0, none⟩ : Option Addr) else (some ⟨gt, 0, none⟩ : Option Addr).map (·.add ((1 + rd ns 6).toNat * Kd.string.sz))) := rfl
 rw [hsameT] at hcutT
 obtain ⟨AR, hAR⟩ : ∃ A, A = (if cT = (1 + rd ns 6).toNat then (some ⟨gt, 0, none⟩ : Option Addr) else (some ⟨gt, 0, none⟩ : Option Addr).map (·.add ((1 + rd ns 6).toNat * Kd.string.sz))) := ⟨_, rfl⟩
 rw [← hAF] at hcutN hCF
 rw [← hAR] at hcutT hCR
 have HM7 : Aside0 (∀ W', Kd.C Kd.string W' (some ⟨gt, 0, none⟩) ts.length ts → Kd.C Kd.string W' A7 ((ts.take (1 + rd ns 6).toNat).drop 1).length ((ts.take (1 + rd ns 6).toNat).drop 1)) := ⟨fun W' h => by rw [hA7]; exact Kd.C_mid (lo := 1) (hi := (1 + rd ns 6).toNat) h (by omega) (by omega) hcapT⟩
 have HCF := Aside0.mk hCF
 have HCR := Aside0.mk hCR
 have HCAPN := Aside0.mk hcapN
 have LF := Aside0.mk (show ns.length - 7 = (ns.drop 7).length from List.length_drop.symm)
 have LR := Aside0.mk (show ts.length - (1 + rd ns 6).toNat = (ts.drop (1 + rd ns 6).toNat).length from List.length_drop.symm)
 have L7 := Aside0.mk (show (1 + rd ns 6).toNat - 1 = ((ts.take (1 + rd ns 6).toNat).drop 1).length from by rw [List.length_drop, List.length_take]; omega)
 have K7 := Aside0.mk (show ((ts.take (1 + rd ns 6).toNat).drop 1).length ≤ cT - 1 from by rw [List.length_drop, List.length_take]; omega)
 have KF := Aside0.mk (show (ns.drop 7).length ≤ cN - 7 from by rw [List.length_drop]; omega)
 have KR := Aside0.mk (show (ts.drop (1 + rd ns 6).toNat).length ≤ cT - (1 + rd ns 6).toNat from by rw [List.length_drop]; omega)
 have q5 : (7 : Int) ≤ (ns.length : Int) := by omega
 clear hsameN hsameT hAF hAR hCF hCR hs3 hz3
 have q1 : IntKind.i64.wrap (1 + rd ns 6) = 1 + rd ns 6 := IntWalk.i64_in _ (by omega)
 have q2 : (0 : Int) ≤ 1 + rd ns 6 := by omega
 have q3 : (1 : Int) ≤ 1 + rd ns 6 := by omega
 have q4 : 1 + rd ns 6 ≤ (ts.length : Int) := by omega
 have j0 : (0 : Int) < (ns.length : Int) := by omega
 have jj0 : 0 < ns.length := by omega
 have j1 : (1 : Int) < (ns.length : Int) := by omega
 have jj1 : 1 < ns.length := by omega
 have j2 : (2 : Int) < (ns.length : Int) := by omega
 have jj2 : 2 < ns.length := by omega
 have j3 : (3 : Int) < (ns.length : Int) := by omega
 have jj3 : 3 < ns.length := by omega
 have j4 : (4 : Int) < (ns.length : Int) := by omega
 have jj4 : 4 < ns.length := by omega
 have j5 : (5 : Int) < (ns.length : Int) := by omega
 have jj5 : 5 < ns.length := by omega
 have jt : (0 : Int) < (ts.length : Int) := by omega
 have jjt : 0 < ts.length := by omega
 have jn : ¬ (ns = []) := fun h => by rw [h] at hl7; exact absurd hl7 (by decide)
 clear hi3 hA7 hsame hC7 hcapT hcapN hCN hCT hk7 hz9 hs9 hi9
 go_region_held3 (fun W => W.cell? ⟨gn, 0, none⟩ = some (.int .i64 (rd ns 0)) ∧ W.cell? ⟨gn, 1, none⟩ = some (.int .i64 (rd ns 1)) ∧ W.cell? ⟨gn, 2, none⟩ = some (.int .i64 (rd ns 2)) ∧ W.cell? ⟨gn, 3, none⟩ = some (.int .i64 (rd ns 3)) ∧ W.cell? ⟨gn, 4, none⟩ = some (.int .i64 (rd ns 4)) ∧ W.cell? ⟨gn, 5, none⟩ = some (.int .i64 (rd ns 5)) ∧ W.cell? ⟨gp, 1, none⟩ = some (.slice (some ⟨gt, 0, none⟩) ts.length cT) ∧ W.cell? ⟨gt, 0, none⟩ = some (.string (rdOf ByteArray.empty ts 0))) (go_keep) (fail)
 have GL : Aside0 (w.heap.size ≤ W.heap.size) := ⟨HQ.out.bel.size⟩
 have NQ : Aside0 (gq ≠ W.heap.size) := ⟨by have := blk_lt HQ.out.bq; omega⟩
 have NP : Aside0 (gp ≠ W.heap.size) := ⟨by have := blk_lt HQ.out.bp; omega⟩
 have BL := Aside0.mk (blk_drew (blk_new W (.cells #[.int .i64 (rd ns 0), .int .i64 (rd ns 1), .int .i64 (rd ns 2), .int .i64 (rd ns 3), .int .i64 (rd ns 4), .int .i64 (rd ns 5), .string (rdOf ByteArray.empty ts 0), .slice A7 ((1 + rd ns 6).toNat - 1) (cT - 1), .slice none 0 0] 25)))
 have HQ4 := Aside0.mk (HQ.out.alloc (.cells #[.int .i64 (rd ns 0), .int .i64 (rd ns 1), .int .i64 (rd ns 2), .int .i64 (rd ns 3), .int .i64 (rd ns 4), .int .i64 (rd ns 5), .string (rdOf ByteArray.empty ts 0), .slice A7 ((1 + rd ns 6).toNat - 1) (cT - 1), .slice none 0 0] 25)).drew
 have BW : Aside0 (Below W.heap.size W (W.alloc (.cells #[.int .i64 (rd ns 0), .int .i64 (rd ns 1), .int .i64 (rd ns 2), .int .i64 (rd ns 3), .int .i64 (rd ns 4), .int .i64 (rd ns 5), .string (rdOf ByteArray.empty ts 0), .slice A7 ((1 + rd ns 6).toNat - 1) (cT - 1), .slice none 0 0] 25)).drew) := ⟨below_drew (below_alloc (Below.refl _ _) _)⟩
 have HC7' := Aside0.mk (Kd.C_below HC7.out BW.out)
 have HCF' := Aside0.mk (Kd.C_below HCF.out BW.out)
 have HCR' := Aside0.mk (Kd.C_below HCR.out BW.out)
 generalize eG : W.heap.size = gl at GL NQ NP BL ⊢
 generalize eW : (W.alloc (.cells #[.int .i64 (rd ns 0), .int .i64 (rd ns 1), .int .i64 (rd ns 2), .int .i64 (rd ns 3), .int .i64 (rd ns 4), .int .i64 (rd ns 5), .string (rdOf ByteArray.empty ts 0), .slice A7 ((1 + rd ns 6).toNat - 1) (cT - 1), .slice none 0 0] 25)).drew = W4 at BL HQ4 HC7' HCF' HCR' ⊢
 clear eG eW BW HC7 HCF HCR hP0 hP1 hn0 hn1 hn2 hn3 hn4 hn5 hn6 ht0 hcut HQ hq0 hqf0 hq1 hqf1 hq2 hqf2 hq3 hqf3 hq4 hqf4 hq5 hqf5 hq6 hqf6 hq7 hqf7 hq8 hqf8
 have hP1 : W4.cell? ⟨gp, 1, none⟩ = some (.slice (some ⟨gt, 0, none⟩) ts.length cT) := (blk_cell HQ4.out.bp 1).trans rfl
 go_wp2
 go_region_held3 (fun W => W.cell? ⟨gp, 1, none⟩ = some (.slice (some ⟨gt, 0, none⟩) ts.length cT)) (go_keep) ((go_at_call 39; (with_reducible refine (rpairs_len LF.out LR.out (Kd.C_below HCF'.out (by (with_reducible repeat (first | exact Below.refl _ _ | apply below_drew | apply pw_below_drewN)))) KF.out (Kd.C_below HCR'.out (by (with_reducible repeat (first | exact Below.refl _ _ | apply below_drew | apply pw_below_drewN)))) KR.out HPR.out).mono ?_); rintro e w5 ⟨v8, rfl, ho, hb⟩; obtain ⟨A8, c8, e8⟩ := Kd.R_slice ho; subst e8; have HQ5 : Aside0 (QR w w5 gq gp ns ts (.slice (some ⟨gn, 0, none⟩) ns.length cN) (.slice (some ⟨gt, 0, none⟩) ts.length cT)) := ⟨QR.below (by (with_reducible repeat (first | exact HQ4.out | apply QR.drew | apply QR.drewN))) hb⟩; have hP5 : w5.cell? ⟨gp, 1, none⟩ = some (.slice (some ⟨gt, 0, none⟩) ts.length cT) := (blk_cell HQ5.out.bp 1).trans rfl; have BL5 : Aside0 (w5.heap[gl]? = some (.cells #[.int .i64 (rd ns 0), .int .i64 (rd ns 1), .int .i64 (rd ns 2), .int .i64 (rd ns 3), .int .i64 (rd ns 4), .int .i64 (rd ns 5), .string (rdOf ByteArray.empty ts 0), .slice A7 ((1 + rd ns 6).toNat - 1) (cT - 1), .slice none 0 0] 25 (0, 0))) := ⟨blk_below (by (with_reducible repeat (first | exact BL.out | apply blk_drew | apply blk_drewN))) hb⟩; have HC75 : Aside0 (Kd.C Kd.string w5 A7 ((ts.take (1 + rd ns 6).toNat).drop 1).length ((ts.take (1 + rd ns 6).toNat).drop 1)) := ⟨Kd.C_below (by (with_reducible repeat (first | exact HC7'.out | apply Kd.C_drew | apply Kd.C_drewN))) hb⟩; have HO5 : Aside0 (Kd.R k49 49 w5 w.heap.size (fun _ => True) (.slice A8 qs.length c8) qs) := ⟨Kd.R_lower ho HQ4.out.bel.size⟩; clear ho hb))
 have hl8 : w5.cell? ⟨gl, 8, none⟩ = some (.slice none 0 0) := (blk_cell BL5.out 8).trans rfl
 have hlf8 := blk_frozen BL5.out 8
 go_upto_region 11 with (fail)
 have BL6 : Aside0 ((w5.setCell ⟨gl, 8, none⟩ (.slice A8 qs.length c8)).heap[gl]? = some (.cells #[.int .i64 (rd ns 0), .int .i64 (rd ns 1), .int .i64 (rd ns 2), .int .i64 (rd ns 3), .int .i64 (rd ns 4), .int .i64 (rd ns 5), .string (rdOf ByteArray.empty ts 0), .slice A7 ((1 + rd ns 6).toNat - 1) (cT - 1), .slice A8 qs.length c8] 25 (0, 0))) := ⟨by simpa using blk_set BL5.out 8 (.slice A8 qs.length c8)⟩
 have HQ6 := Aside0.mk (HQ5.out.set BL5.out GL.out NQ.out NP.out 8 (.slice A8 qs.length c8))
 have HO6 := Aside0.mk (Kd.R_set HO5.out BL5.out (by decide) 8 (.slice A8 qs.length c8))
 generalize eW : w5.setCell ⟨gl, 8, none⟩ (.slice A8 qs.length c8) = W6 at BL6 HQ6 HO6 ⊢
 clear eW hl8 hlf8 hP5 HQ5 BL5 HO5 HC75 HQ4 BL hP1 hcutN hcutT HC7' HCF' HCR'
 have hq0 : W6.cell? ⟨gq, 0, none⟩ = some (.int .i64 0) := (blk_cell HQ6.out.bq 0).trans rfl
 have hqf0 := blk_frozen HQ6.out.bq 0
 have hq1 : W6.cell? ⟨gq, 1, none⟩ = some (.int .i64 0) := (blk_cell HQ6.out.bq 1).trans rfl
 have hqf1 := blk_frozen HQ6.out.bq 1
 have hq2 : W6.cell? ⟨gq, 2, none⟩ = some (.int .i64 0) := (blk_cell HQ6.out.bq 2).trans rfl
 have hqf2 := blk_frozen HQ6.out.bq 2
 have hq3 : W6.cell? ⟨gq, 3, none⟩ = some (.int .i64 0) := (blk_cell HQ6.out.bq 3).trans rfl
 have hqf3 := blk_frozen HQ6.out.bq 3
 have hq4 : W6.cell? ⟨gq, 4, none⟩ = some (.int .i64 0) := (blk_cell HQ6.out.bq 4).trans rfl
 have hqf4 := blk_frozen HQ6.out.bq 4
 have hq5 : W6.cell? ⟨gq, 5, none⟩ = some (.int .i64 0) := (blk_cell HQ6.out.bq 5).trans rfl
 have hqf5 := blk_frozen HQ6.out.bq 5
 have hq6 : W6.cell? ⟨gq, 6, none⟩ = some (.string (⟨#[]⟩ : ByteArray)) := (blk_cell HQ6.out.bq 6).trans rfl
 have hqf6 := blk_frozen HQ6.out.bq 6
 have hq7 : W6.cell? ⟨gq, 7, none⟩ = some (.slice none 0 0) := (blk_cell HQ6.out.bq 7).trans rfl
 have hqf7 := blk_frozen HQ6.out.bq 7
 have hq8 : W6.cell? ⟨gq, 8, none⟩ = some (.slice none 0 0) := (blk_cell HQ6.out.bq 8).trans rfl
 have hqf8 := blk_frozen HQ6.out.bq 8
 have hl0 : W6.cell? ⟨gl, 0, none⟩ = some (.int .i64 (rd ns 0)) := (blk_cell BL6.out 0).trans rfl
 have hl1 : W6.cell? ⟨gl, 1, none⟩ = some (.int .i64 (rd ns 1)) := (blk_cell BL6.out 1).trans rfl
 have hl2 : W6.cell? ⟨gl, 2, none⟩ = some (.int .i64 (rd ns 2)) := (blk_cell BL6.out 2).trans rfl
 have hl3 : W6.cell? ⟨gl, 3, none⟩ = some (.int .i64 (rd ns 3)) := (blk_cell BL6.out 3).trans rfl
 have hl4 : W6.cell? ⟨gl, 4, none⟩ = some (.int .i64 (rd ns 4)) := (blk_cell BL6.out 4).trans rfl
 have hl5 : W6.cell? ⟨gl, 5, none⟩ = some (.int .i64 (rd ns 5)) := (blk_cell BL6.out 5).trans rfl
 have hl6 : W6.cell? ⟨gl, 6, none⟩ = some (.string (rdOf ByteArray.empty ts 0)) := (blk_cell BL6.out 6).trans rfl
 have hl7 : W6.cell? ⟨gl, 7, none⟩ = some (.slice A7 ((1 + rd ns 6).toNat - 1) (cT - 1)) := (blk_cell BL6.out 7).trans rfl
 have hl8 : W6.cell? ⟨gl, 8, none⟩ = some (.slice A8 qs.length c8) := (blk_cell BL6.out 8).trans rfl
 go_wp2_with (first | (go_at_call 14; (with_reducible refine (rcheck_len L7.out (HM7.out _ (Kd.R_reads' HQ6.out.ts).2.2) K7.out (Kd.R_reads' HO6.out).2.2 (Kd.R_reads' HO6.out).2.1 HCK.out).mono ?_); rintro e w7 ⟨rfl, hb⟩; have HQ7 := Aside0.mk (HQ6.out.below hb); have BL7 := Aside0.mk (blk_below BL6.out hb); have HO7 := Aside0.mk (Kd.R_below HO6.out hb); have hq0 : w7.cell? ⟨gq, 0, none⟩ = some (.int .i64 0) := (blk_cell HQ7.out.bq 0).trans rfl; have hqf0 := blk_frozen HQ7.out.bq 0; have hq1 : w7.cell? ⟨gq, 1, none⟩ = some (.int .i64 0) := (blk_cell HQ7.out.bq 1).trans rfl; have hqf1 := blk_frozen HQ7.out.bq 1; have hq2 : w7.cell? ⟨gq, 2, none⟩ = some (.int .i64 0) := (blk_cell HQ7.out.bq 2).trans rfl; have hqf2 := blk_frozen HQ7.out.bq 2; have hq3 : w7.cell? ⟨gq, 3, none⟩ = some (.int .i64 0) := (blk_cell HQ7.out.bq 3).trans rfl; have hqf3 := blk_frozen HQ7.out.bq 3; have hq4 : w7.cell? ⟨gq, 4, none⟩ = some (.int .i64 0) := (blk_cell HQ7.out.bq 4).trans rfl; have hqf4 := blk_frozen HQ7.out.bq 4; have hq5 : w7.cell? ⟨gq, 5, none⟩ = some (.int .i64 0) := (blk_cell HQ7.out.bq 5).trans rfl; have hqf5 := blk_frozen HQ7.out.bq 5; have hq6 : w7.cell? ⟨gq, 6, none⟩ = some (.string (⟨#[]⟩ : ByteArray)) := (blk_cell HQ7.out.bq 6).trans rfl; have hqf6 := blk_frozen HQ7.out.bq 6; have hq7 : w7.cell? ⟨gq, 7, none⟩ = some (.slice none 0 0) := (blk_cell HQ7.out.bq 7).trans rfl; have hqf7 := blk_frozen HQ7.out.bq 7; have hq8 : w7.cell? ⟨gq, 8, none⟩ = some (.slice none 0 0) := (blk_cell HQ7.out.bq 8).trans rfl; have hqf8 := blk_frozen HQ7.out.bq 8;  have hl0 : w7.cell? ⟨gl, 0, none⟩ = some (.int .i64 (rd ns 0)) := (blk_cell BL7.out 0).trans rfl; have hl1 : w7.cell? ⟨gl, 1, none⟩ = some (.int .i64 (rd ns 1)) := (blk_cell BL7.out 1).trans rfl; have hl2 : w7.cell? ⟨gl, 2, none⟩ = some (.int .i64 (rd ns 2)) := (blk_cell BL7.out 2).trans rfl; have hl3 : w7.cell? ⟨gl, 3, none⟩ = some (.int .i64 (rd ns 3)) := (blk_cell BL7.out 3).trans rfl; have hl4 : w7.cell? ⟨gl, 4, none⟩ = some (.int .i64 (rd ns 4)) := (blk_cell BL7.out 4).trans rfl; have hl5 : w7.cell? ⟨gl, 5, none⟩ = some (.int .i64 (rd ns 5)) := (blk_cell BL7.out 5).trans rfl; have hl6 : w7.cell? ⟨gl, 6, none⟩ = some (.string (rdOf ByteArray.empty ts 0)) := (blk_cell BL7.out 6).trans rfl; have hl7 : w7.cell? ⟨gl, 7, none⟩ = some (.slice A7 ((1 + rd ns 6).toNat - 1) (cT - 1)) := (blk_cell BL7.out 7).trans rfl; have hl8 : w7.cell? ⟨gl, 8, none⟩ = some (.slice A8 qs.length c8) := (blk_cell BL7.out 8).trans rfl;  clear hb) | (go_at_call 27; (with_reducible refine (rbytes_len L7.out (HM7.out _ (Kd.R_reads' HQ7.out.ts).2.2) K7.out (Kd.R_reads' HO7.out).2.2 (Kd.R_reads' HO7.out).2.1 HBY.out).mono ?_); rintro e w8 ⟨rfl, hb⟩; have HQ8 := Aside0.mk (HQ7.out.below hb); have BL8 := Aside0.mk (blk_below BL7.out hb); have HO8 := Aside0.mk (Kd.R_below HO7.out hb); have hq0 : w8.cell? ⟨gq, 0, none⟩ = some (.int .i64 0) := (blk_cell HQ8.out.bq 0).trans rfl; have hqf0 := blk_frozen HQ8.out.bq 0; have hq1 : w8.cell? ⟨gq, 1, none⟩ = some (.int .i64 0) := (blk_cell HQ8.out.bq 1).trans rfl; have hqf1 := blk_frozen HQ8.out.bq 1; have hq2 : w8.cell? ⟨gq, 2, none⟩ = some (.int .i64 0) := (blk_cell HQ8.out.bq 2).trans rfl; have hqf2 := blk_frozen HQ8.out.bq 2; have hq3 : w8.cell? ⟨gq, 3, none⟩ = some (.int .i64 0) := (blk_cell HQ8.out.bq 3).trans rfl; have hqf3 := blk_frozen HQ8.out.bq 3; have hq4 : w8.cell? ⟨gq, 4, none⟩ = some (.int .i64 0) := (blk_cell HQ8.out.bq 4).trans rfl; have hqf4 := blk_frozen HQ8.out.bq 4; have hq5 : w8.cell? ⟨gq, 5, none⟩ = some (.int .i64 0) := (blk_cell HQ8.out.bq 5).trans rfl; have hqf5 := blk_frozen HQ8.out.bq 5; have hq6 : w8.cell? ⟨gq, 6, none⟩ = some (.string (⟨#[]⟩ : ByteArray)) := (blk_cell HQ8.out.bq 6).trans rfl; have hqf6 := blk_frozen HQ8.out.bq 6; have hq7 : w8.cell? ⟨gq, 7, none⟩ = some (.slice none 0 0) := (blk_cell HQ8.out.bq 7).trans rfl; have hqf7 := blk_frozen HQ8.out.bq 7; have hq8 : w8.cell? ⟨gq, 8, none⟩ = some (.slice none 0 0) := (blk_cell HQ8.out.bq 8).trans rfl; have hqf8 := blk_frozen HQ8.out.bq 8;  have hl0 : w8.cell? ⟨gl, 0, none⟩ = some (.int .i64 (rd ns 0)) := (blk_cell BL8.out 0).trans rfl; have hl1 : w8.cell? ⟨gl, 1, none⟩ = some (.int .i64 (rd ns 1)) := (blk_cell BL8.out 1).trans rfl; have hl2 : w8.cell? ⟨gl, 2, none⟩ = some (.int .i64 (rd ns 2)) := (blk_cell BL8.out 2).trans rfl; have hl3 : w8.cell? ⟨gl, 3, none⟩ = some (.int .i64 (rd ns 3)) := (blk_cell BL8.out 3).trans rfl; have hl4 : w8.cell? ⟨gl, 4, none⟩ = some (.int .i64 (rd ns 4)) := (blk_cell BL8.out 4).trans rfl; have hl5 : w8.cell? ⟨gl, 5, none⟩ = some (.int .i64 (rd ns 5)) := (blk_cell BL8.out 5).trans rfl; have hl6 : w8.cell? ⟨gl, 6, none⟩ = some (.string (rdOf ByteArray.empty ts 0)) := (blk_cell BL8.out 6).trans rfl; have hl7 : w8.cell? ⟨gl, 7, none⟩ = some (.slice A7 ((1 + rd ns 6).toNat - 1) (cT - 1)) := (blk_cell BL8.out 7).trans rfl; have hl8 : w8.cell? ⟨gl, 8, none⟩ = some (.slice A8 qs.length c8) := (blk_cell BL8.out 8).trans rfl;  clear hb))
 refine bodyPost_ret (results_ct rfl _ _ gq 25 #[.int .i64 0, .int .i64 0, .int .i64 0, .int .i64 0, .int .i64 0, .int .i64 0, .string (⟨#[]⟩ : ByteArray), .slice none 0 0, .slice none 0 0] (0, 0) _ rfl (set9 HQ8.out.bq) Try.underlying25 rfl (by kernel_rfl)) rfl ?_
 exact ⟨rfl, below9 HQ8.out.bel HQ8.out.geq⟩
set_option maxHeartbeats 1000000 in
set_option maxRecDepth 100000 in
theorem rdl_ok (s : ByteArray) (ns : List Int) (ts : List ByteArray) (p : Int) (w : World) (hf : corncribref06_Decode.f s = some (ns, ts, p, 0)) (hn : 7 ≤ ns.length) (ht : 1 ≤ ts.length) (hb : ts.length ≤ 1024) (hm : 0 ≤ rd ns 6) (hm2 : rd ns 6 ≤ (ts.length : Int) - 1) (k : Nat) (qs : List S49) (hpr : corncribref07_Pairs.f k (ns.drop 7) (ts.drop (1 + rd ns 6).toNat) = some (qs, true)) (hck : corncribref07_Check.f k (rd ns 0) (rd ns 1) (rd ns 2) (rd ns 3) (rd ns 4) (rd ns 5) (rdOf ByteArray.empty ts 0) ((ts.take (1 + rd ns 6).toNat).drop 1) qs = some 0) (hby : corncribref07_Bytes.f k (rd ns 0) (rd ns 1) (rd ns 2) (rd ns 3) (rd ns 4) (rd ns 5) (rdOf ByteArray.empty ts 0) ((ts.take (1 + rd ns 6).toNat).drop 1) qs = some s) :
  Calls Try.prog 25 #[.string s] w (fun e w' => ∃ (A7 : Option Addr) (c7 : Nat) (v8 : Value), e = .returned (.tuple #[.agg #[.int .i64 (rd ns 0), .int .i64 (rd ns 1), .int .i64 (rd ns 2), .int .i64 (rd ns 3), .int .i64 (rd ns 4), .int .i64 (rd ns 5), .string (rdOf ByteArray.empty ts 0), .slice A7 ((ts.take (1 + rd ns 6).toNat).drop 1).length c7, v8], .int .i64 0]) ∧ Kd.C Kd.string w' A7 ((ts.take (1 + rd ns 6).toNat).drop 1).length ((ts.take (1 + rd ns 6).toNat).drop 1) ∧ ((ts.take (1 + rd ns 6).toNat).drop 1).length ≤ c7 ∧ Kd.R k49 49 w' w.heap.size (fun _ => True) v8 qs ∧ Below w.heap.size w w') := by
 have e1 : decide ((ns.length : Int) < 7) = false := decide_eq_false (by omega)
 have e2 : decide (ns.length < 7) = false := decide_eq_false (by omega)
 have e3 : decide ((ts.length : Int) < 1) = false := decide_eq_false (by omega)
 have e4 : decide (ts.length < 1) = false := decide_eq_false (by omega)
 have e5 : ¬ (ts.length = 0) := by omega
 have e6 : ¬ (ts = []) := fun h => by rw [h] at ht; exact absurd ht (by decide)
 have hl7 := hn
 have hl1 := ht
 have m1 : decide (rd ns 6 < 0) = false := decide_eq_false (by omega)
 have m2 : decide ((ts.length : Int) - 1 < rd ns 6) = false := decide_eq_false (by omega)
 have HPR := Aside0.mk hpr
 clear hpr
 have HCK := Aside0.mk hck
 clear hck
 have HBY := Aside0.mk hby
 clear hby
 clear hn ht
 have hu25 := Try.underlying25
 have hu47 := Try.underlying47
 have HF := Aside0.mk hf
 clear hf
 go_enter Try.func25, Try.ntmps25
 go_upto_region 2 with (first | ((with_reducible refine gate_dst (N := 2) rfl ?_); refine box_event ?hg (N := 2) ?hd (cs := #[.int .i64 0, .int .i64 0, .int .i64 0, .int .i64 0, .int .i64 0, .int .i64 0, .string (⟨#[]⟩ : ByteArray), .slice none 0 0, .slice none 0 0]) (t := 25) ?hr ?_; (case hd => rfl); (case hg => rfl); (case hr => first | (go_simp; done) | (go_simp; rfl)); intro gq hgg w1 hbox hb; have GQ := Aside0.mk (Nat.le_of_eq hgg.symm); have BQ := Aside0.mk hbox; have BA := Aside0.mk hb; clear hgg hbox hb) | (go_at_call 38; refine (corncribref06_Decode.calls s _ _ _ _ _ HF.out).mono ?_; rintro x w2 ⟨v0, v1, rfl, hN, hT, hb⟩; obtain ⟨AN, cN, eN⟩ := Kd.R_slice hN; subst eN; obtain ⟨AT, cT, eT⟩ := Kd.R_slice hT; subst eT; have GN := Aside0.mk (Kd.R_lower hN (below_size BA.out)); have GT := Aside0.mk (Kd.R_lower hT (below_size BA.out)); have BC := Aside0.mk (below_step BA.out hb); have BQ2 := Aside0.mk (blk_below BQ.out hb); clear hN hT hb) | ((with_reducible refine gate_dst (N := 4) rfl ?_); refine box_event ?hg (N := 4) ?hd (cs := #[.slice none 0 0, .slice none 0 0]) (t := 47) ?hr ?_; (case hd => rfl); (case hg => rfl); (case hr => first | (go_simp; done) | (go_simp; rfl)); intro gp hgp w3 hbox hb; have HQ := Aside0.mk (qr_of GQ.out BQ2.out hbox hgp GN.out GT.out BC.out hb); have hz0 : w3.cell? ⟨gp, 0, none⟩ = some (.slice none 0 0) := (blk_cell hbox 0).trans rfl; have hz1 : w3.cell? ⟨gp, 1, none⟩ = some (.slice none 0 0) := (blk_cell hbox 1).trans rfl; have hzf0 := blk_frozen hbox 0; have hzf1 := blk_frozen hbox 1; clear hgp hbox hb))
 generalize eW : (w3.setCell ⟨gp, 0, none⟩ (.slice AN ns.length cN)).setCell ⟨gp, 1, none⟩ (.slice AT ts.length cT) = W at HQ ⊢
 clear eW hz0 hz1 hzf0 hzf1 GN GT BC BQ2 BQ BA GQ
 have hP0 : W.cell? ⟨gp, 0, none⟩ = some (.slice AN ns.length cN) := (blk_cell HQ.out.bp 0).trans rfl
 have hP1 : W.cell? ⟨gp, 1, none⟩ = some (.slice AT ts.length cT) := (blk_cell HQ.out.bp 1).trans rfl
 have hq0 : W.cell? ⟨gq, 0, none⟩ = some (.int .i64 0) := (blk_cell HQ.out.bq 0).trans rfl
 have hqf0 := blk_frozen HQ.out.bq 0
 have hq1 : W.cell? ⟨gq, 1, none⟩ = some (.int .i64 0) := (blk_cell HQ.out.bq 1).trans rfl
 have hqf1 := blk_frozen HQ.out.bq 1
 have hq2 : W.cell? ⟨gq, 2, none⟩ = some (.int .i64 0) := (blk_cell HQ.out.bq 2).trans rfl
 have hqf2 := blk_frozen HQ.out.bq 2
 have hq3 : W.cell? ⟨gq, 3, none⟩ = some (.int .i64 0) := (blk_cell HQ.out.bq 3).trans rfl
 have hqf3 := blk_frozen HQ.out.bq 3
 have hq4 : W.cell? ⟨gq, 4, none⟩ = some (.int .i64 0) := (blk_cell HQ.out.bq 4).trans rfl
 have hqf4 := blk_frozen HQ.out.bq 4
 have hq5 : W.cell? ⟨gq, 5, none⟩ = some (.int .i64 0) := (blk_cell HQ.out.bq 5).trans rfl
 have hqf5 := blk_frozen HQ.out.bq 5
 have hq6 : W.cell? ⟨gq, 6, none⟩ = some (.string (⟨#[]⟩ : ByteArray)) := (blk_cell HQ.out.bq 6).trans rfl
 have hqf6 := blk_frozen HQ.out.bq 6
 have hq7 : W.cell? ⟨gq, 7, none⟩ = some (.slice none 0 0) := (blk_cell HQ.out.bq 7).trans rfl
 have hqf7 := blk_frozen HQ.out.bq 7
 have hq8 : W.cell? ⟨gq, 8, none⟩ = some (.slice none 0 0) := (blk_cell HQ.out.bq 8).trans rfl
 have hqf8 := blk_frozen HQ.out.bq 8
 obtain ⟨gn, cn, eN, gnb, gnl, cellsN, hcN⟩ := Kd.R_form HQ.out.ns (by omega)
 obtain ⟨gt, ct, eT, gtb, gtl, cellsT, hcT⟩ := Kd.R_form HQ.out.ts (by omega)
 have eN' : AN = some ⟨gn, 0, none⟩ ∧ cN = cn := by simpa using eN
 have eT' : AT = some ⟨gt, 0, none⟩ ∧ cT = ct := by simpa using eT
 obtain ⟨rfl, rfl⟩ := eN'
 obtain ⟨rfl, rfl⟩ := eT'
 obtain ⟨_, hcapN, hCN⟩ := Kd.R_reads' HQ.out.ns
 obtain ⟨_, hcapT, hCT⟩ := Kd.R_reads' HQ.out.ts
 clear eN eT hcN hcT gnb gnl gtb gtl
 obtain ⟨_, eA, hn0⟩ := Kd.at_int hCN 0 (by decide) (by omega)
 cases eA
 replace hn0 : W.cell? ⟨gn, 0, none⟩ = some (.int .i64 (rd ns 0)) := by simpa [add_plain] using hn0
 obtain ⟨_, eA, hn1⟩ := Kd.at_int hCN 1 (by decide) (by omega)
 cases eA
 replace hn1 : W.cell? ⟨gn, 1, none⟩ = some (.int .i64 (rd ns 1)) := by simpa [add_plain] using hn1
 obtain ⟨_, eA, hn2⟩ := Kd.at_int hCN 2 (by decide) (by omega)
 cases eA
 replace hn2 : W.cell? ⟨gn, 2, none⟩ = some (.int .i64 (rd ns 2)) := by simpa [add_plain] using hn2
 obtain ⟨_, eA, hn3⟩ := Kd.at_int hCN 3 (by decide) (by omega)
 cases eA
 replace hn3 : W.cell? ⟨gn, 3, none⟩ = some (.int .i64 (rd ns 3)) := by simpa [add_plain] using hn3
 obtain ⟨_, eA, hn4⟩ := Kd.at_int hCN 4 (by decide) (by omega)
 cases eA
 replace hn4 : W.cell? ⟨gn, 4, none⟩ = some (.int .i64 (rd ns 4)) := by simpa [add_plain] using hn4
 obtain ⟨_, eA, hn5⟩ := Kd.at_int hCN 5 (by decide) (by omega)
 cases eA
 replace hn5 : W.cell? ⟨gn, 5, none⟩ = some (.int .i64 (rd ns 5)) := by simpa [add_plain] using hn5
 obtain ⟨_, eA, hn6⟩ := Kd.at_int hCN 6 (by decide) (by omega)
 cases eA
 replace hn6 : W.cell? ⟨gn, 6, none⟩ = some (.int .i64 (rd ns 6)) := by simpa [add_plain] using hn6
 obtain ⟨_, eA, ht0⟩ := Kd.at_string hCT 0 (by decide) (by omega)
 cases eA
 replace ht0 : W.cell? ⟨gt, 0, none⟩ = some (.string (rdOf ByteArray.empty ts 0)) := by simpa [add_plain] using ht0
 go_wp2
 obtain ⟨i9, hi9, hz9⟩ := Option.map_eq_some_iff.1 info9
 have hs9 : i9.size = 1 := by simpa using congrArg (fun x => x.2.1) hz9
 have hcut := fun W => cut_mid (P := Try.prog) 22 9 .i64 .i64 Try.underlying22 hi9 1 hs9 (some ⟨gt, 0, none⟩) ts.length cT 1 (1 + rd ns 6) (by decide) (by omega) (by omega) hcapT W
 have hC7 := Kd.C_mid (lo := 1) (hi := (1 + rd ns 6).toNat) hCT (by omega) (by omega) hcapT
 have hk7 : ((ts.take (1 + rd ns 6).toNat).drop 1).length = (1 + rd ns 6).toNat - (1 : Int).toNat := by rw [List.length_drop, List.length_take]; omega
 rw [← hk7] at hcut
 have hsame : (if cT = (1 : Int).toNat then (some ⟨gt, 0, none⟩ : Option Addr) else (some ⟨gt, 0, none⟩ : Option Addr).map (·.add ((1 : Int).toNat * 1))) = (if cT = 1 then (some ⟨gt, 0, none⟩ : Option Addr) else (some ⟨gt, 0, none⟩ : Option Addr).map (·.add (1 * Kd.string.sz))) := rfl
 rw [hsame] at hcut
 obtain ⟨A7, hA7⟩ : ∃ A, A = (if cT = 1 then (some ⟨gt, 0, none⟩ : Option Addr) else (some ⟨gt, 0, none⟩ : Option Addr).map (·.add (1 * Kd.string.sz))) := ⟨_, rfl⟩
 rw [← hA7] at hcut hC7
 have HC7 := Aside0.mk hC7
 have HCAP := Aside0.mk hcapT
 have HCN := Aside0.mk hCN
 have HCT := Aside0.mk hCT
 have HK7 := Aside0.mk hk7
 obtain ⟨i3, hi3, hz3⟩ := Option.map_eq_some_iff.1 info3
 have hs3 : i3.size = 1 := by simpa using congrArg (fun x => x.2.1) hz3
 have hcutN := fun W => cut_from (P := Try.prog) 45 3 .i64 Try.underlying45 hi3 1 hs3 (some ⟨gn, 0, none⟩) ns.length cN 7 (by decide) (by omega) W
 have hcutT := fun W => cut_from (P := Try.prog) 22 9 .i64 Try.underlying22 hi9 1 hs9 (some ⟨gt, 0, none⟩) ts.length cT (1 + rd ns 6) (by omega) (by omega) W
 have hCF := Kd.C_drop (m := 7) hCN (by omega) hcapN
 have hCR := Kd.C_drop (m := (1 + rd ns 6).toNat) hCT (by omega) hcapT
 have hsameN : (if cN = (7 : Int).toNat then (some ⟨gn, 0, none⟩ : Option Addr) else (some ⟨gn, 0, none⟩ : Option Addr).map (·.add ((7 : Int).toNat * 1))) = (if cN = 7 then (some ⟨gn, 0, none⟩ : Option Addr) else (some ⟨gn, 0, none⟩ : Option Addr).map (·.add (7 * (Kd.int .i64).sz))) := rfl
 rw [hsameN] at hcutN
 obtain ⟨AF, hAF⟩ : ∃ A, A = (if cN = 7 then (some ⟨gn, 0, none⟩ : Option Addr) else (some ⟨gn, 0, none⟩ : Option Addr).map (·.add (7 * (Kd.int .i64).sz))) := ⟨_, rfl⟩
 have hsameT : (if cT = (1 + rd ns 6).toNat then (some ⟨gt, 0, none⟩ : Option Addr) else (some ⟨gt, 0, none⟩ : Option Addr).map (·.add ((1 + rd ns 6).toNat * 1))) = (if cT = (1 + rd ns 6).toNat then (some ⟨gt, 0, none⟩ : Option Addr) else (some ⟨gt, 0, none⟩ : Option Addr).map (·.add ((1 + rd ns 6).toNat * Kd.string.sz))) := rfl
 rw [hsameT] at hcutT
 obtain ⟨AR, hAR⟩ : ∃ A, A = (if cT = (1 + rd ns 6).toNat then (some ⟨gt, 0, none⟩ : Option Addr) else (some ⟨gt, 0, none⟩ : Option Addr).map (·.add ((1 + rd ns 6).toNat * Kd.string.sz))) := ⟨_, rfl⟩
 rw [← hAF] at hcutN hCF
 rw [← hAR] at hcutT hCR
 have HM7 : Aside0 (∀ W', Kd.C Kd.string W' (some ⟨gt, 0, none⟩) ts.length ts → Kd.C Kd.string W' A7 ((ts.take (1 + rd ns 6).toNat).drop 1).length ((ts.take (1 + rd ns 6).toNat).drop 1)) := ⟨fun W' h => by rw [hA7]; exact Kd.C_mid (lo := 1) (hi := (1 + rd ns 6).toNat) h (by omega) (by omega) hcapT⟩
 have HCF := Aside0.mk hCF
 have HCR := Aside0.mk hCR
 have HCAPN := Aside0.mk hcapN
 have LF := Aside0.mk (show ns.length - 7 = (ns.drop 7).length from List.length_drop.symm)
 have LR := Aside0.mk (show ts.length - (1 + rd ns 6).toNat = (ts.drop (1 + rd ns 6).toNat).length from List.length_drop.symm)
 have L7 := Aside0.mk (show (1 + rd ns 6).toNat - 1 = ((ts.take (1 + rd ns 6).toNat).drop 1).length from by rw [List.length_drop, List.length_take]; omega)
 have K7 := Aside0.mk (show ((ts.take (1 + rd ns 6).toNat).drop 1).length ≤ cT - 1 from by rw [List.length_drop, List.length_take]; omega)
 have KF := Aside0.mk (show (ns.drop 7).length ≤ cN - 7 from by rw [List.length_drop]; omega)
 have KR := Aside0.mk (show (ts.drop (1 + rd ns 6).toNat).length ≤ cT - (1 + rd ns 6).toNat from by rw [List.length_drop]; omega)
 have q5 : (7 : Int) ≤ (ns.length : Int) := by omega
 clear hsameN hsameT hAF hAR hCF hCR hs3 hz3
 have q1 : IntKind.i64.wrap (1 + rd ns 6) = 1 + rd ns 6 := IntWalk.i64_in _ (by omega)
 have q2 : (0 : Int) ≤ 1 + rd ns 6 := by omega
 have q3 : (1 : Int) ≤ 1 + rd ns 6 := by omega
 have q4 : 1 + rd ns 6 ≤ (ts.length : Int) := by omega
 have j0 : (0 : Int) < (ns.length : Int) := by omega
 have jj0 : 0 < ns.length := by omega
 have j1 : (1 : Int) < (ns.length : Int) := by omega
 have jj1 : 1 < ns.length := by omega
 have j2 : (2 : Int) < (ns.length : Int) := by omega
 have jj2 : 2 < ns.length := by omega
 have j3 : (3 : Int) < (ns.length : Int) := by omega
 have jj3 : 3 < ns.length := by omega
 have j4 : (4 : Int) < (ns.length : Int) := by omega
 have jj4 : 4 < ns.length := by omega
 have j5 : (5 : Int) < (ns.length : Int) := by omega
 have jj5 : 5 < ns.length := by omega
 have jt : (0 : Int) < (ts.length : Int) := by omega
 have jjt : 0 < ts.length := by omega
 have jn : ¬ (ns = []) := fun h => by rw [h] at hl7; exact absurd hl7 (by decide)
 clear hi3 hA7 hsame hC7 hcapT hcapN hCN hCT hk7 hz9 hs9 hi9
 go_region_held3 (fun W => W.cell? ⟨gn, 0, none⟩ = some (.int .i64 (rd ns 0)) ∧ W.cell? ⟨gn, 1, none⟩ = some (.int .i64 (rd ns 1)) ∧ W.cell? ⟨gn, 2, none⟩ = some (.int .i64 (rd ns 2)) ∧ W.cell? ⟨gn, 3, none⟩ = some (.int .i64 (rd ns 3)) ∧ W.cell? ⟨gn, 4, none⟩ = some (.int .i64 (rd ns 4)) ∧ W.cell? ⟨gn, 5, none⟩ = some (.int .i64 (rd ns 5)) ∧ W.cell? ⟨gp, 1, none⟩ = some (.slice (some ⟨gt, 0, none⟩) ts.length cT) ∧ W.cell? ⟨gt, 0, none⟩ = some (.string (rdOf ByteArray.empty ts 0))) (go_keep) (fail)
 have GL : Aside0 (w.heap.size ≤ W.heap.size) := ⟨HQ.out.bel.size⟩
 have NQ : Aside0 (gq ≠ W.heap.size) := ⟨by have := blk_lt HQ.out.bq; omega⟩
 have NP : Aside0 (gp ≠ W.heap.size) := ⟨by have := blk_lt HQ.out.bp; omega⟩
 have BL := Aside0.mk (blk_drew (blk_new W (.cells #[.int .i64 (rd ns 0), .int .i64 (rd ns 1), .int .i64 (rd ns 2), .int .i64 (rd ns 3), .int .i64 (rd ns 4), .int .i64 (rd ns 5), .string (rdOf ByteArray.empty ts 0), .slice A7 ((1 + rd ns 6).toNat - 1) (cT - 1), .slice none 0 0] 25)))
 have HQ4 := Aside0.mk (HQ.out.alloc (.cells #[.int .i64 (rd ns 0), .int .i64 (rd ns 1), .int .i64 (rd ns 2), .int .i64 (rd ns 3), .int .i64 (rd ns 4), .int .i64 (rd ns 5), .string (rdOf ByteArray.empty ts 0), .slice A7 ((1 + rd ns 6).toNat - 1) (cT - 1), .slice none 0 0] 25)).drew
 have BW : Aside0 (Below W.heap.size W (W.alloc (.cells #[.int .i64 (rd ns 0), .int .i64 (rd ns 1), .int .i64 (rd ns 2), .int .i64 (rd ns 3), .int .i64 (rd ns 4), .int .i64 (rd ns 5), .string (rdOf ByteArray.empty ts 0), .slice A7 ((1 + rd ns 6).toNat - 1) (cT - 1), .slice none 0 0] 25)).drew) := ⟨below_drew (below_alloc (Below.refl _ _) _)⟩
 have HC7' := Aside0.mk (Kd.C_below HC7.out BW.out)
 have HCF' := Aside0.mk (Kd.C_below HCF.out BW.out)
 have HCR' := Aside0.mk (Kd.C_below HCR.out BW.out)
 generalize eG : W.heap.size = gl at GL NQ NP BL ⊢
 generalize eW : (W.alloc (.cells #[.int .i64 (rd ns 0), .int .i64 (rd ns 1), .int .i64 (rd ns 2), .int .i64 (rd ns 3), .int .i64 (rd ns 4), .int .i64 (rd ns 5), .string (rdOf ByteArray.empty ts 0), .slice A7 ((1 + rd ns 6).toNat - 1) (cT - 1), .slice none 0 0] 25)).drew = W4 at BL HQ4 HC7' HCF' HCR' ⊢
 clear eG eW BW HC7 HCF HCR hP0 hP1 hn0 hn1 hn2 hn3 hn4 hn5 hn6 ht0 hcut HQ hq0 hqf0 hq1 hqf1 hq2 hqf2 hq3 hqf3 hq4 hqf4 hq5 hqf5 hq6 hqf6 hq7 hqf7 hq8 hqf8
 have hP1 : W4.cell? ⟨gp, 1, none⟩ = some (.slice (some ⟨gt, 0, none⟩) ts.length cT) := (blk_cell HQ4.out.bp 1).trans rfl
 go_wp2
 go_region_held3 (fun W => W.cell? ⟨gp, 1, none⟩ = some (.slice (some ⟨gt, 0, none⟩) ts.length cT)) (go_keep) ((go_at_call 39; (with_reducible refine (rpairs_len LF.out LR.out (Kd.C_below HCF'.out (by (with_reducible repeat (first | exact Below.refl _ _ | apply below_drew | apply pw_below_drewN)))) KF.out (Kd.C_below HCR'.out (by (with_reducible repeat (first | exact Below.refl _ _ | apply below_drew | apply pw_below_drewN)))) KR.out HPR.out).mono ?_); rintro e w5 ⟨v8, rfl, ho, hb⟩; obtain ⟨A8, c8, e8⟩ := Kd.R_slice ho; subst e8; have HQ5 : Aside0 (QR w w5 gq gp ns ts (.slice (some ⟨gn, 0, none⟩) ns.length cN) (.slice (some ⟨gt, 0, none⟩) ts.length cT)) := ⟨QR.below (by (with_reducible repeat (first | exact HQ4.out | apply QR.drew | apply QR.drewN))) hb⟩; have hP5 : w5.cell? ⟨gp, 1, none⟩ = some (.slice (some ⟨gt, 0, none⟩) ts.length cT) := (blk_cell HQ5.out.bp 1).trans rfl; have BL5 : Aside0 (w5.heap[gl]? = some (.cells #[.int .i64 (rd ns 0), .int .i64 (rd ns 1), .int .i64 (rd ns 2), .int .i64 (rd ns 3), .int .i64 (rd ns 4), .int .i64 (rd ns 5), .string (rdOf ByteArray.empty ts 0), .slice A7 ((1 + rd ns 6).toNat - 1) (cT - 1), .slice none 0 0] 25 (0, 0))) := ⟨blk_below (by (with_reducible repeat (first | exact BL.out | apply blk_drew | apply blk_drewN))) hb⟩; have HC75 : Aside0 (Kd.C Kd.string w5 A7 ((ts.take (1 + rd ns 6).toNat).drop 1).length ((ts.take (1 + rd ns 6).toNat).drop 1)) := ⟨Kd.C_below (by (with_reducible repeat (first | exact HC7'.out | apply Kd.C_drew | apply Kd.C_drewN))) hb⟩; have HO5 : Aside0 (Kd.R k49 49 w5 w.heap.size (fun _ => True) (.slice A8 qs.length c8) qs) := ⟨Kd.R_lower ho HQ4.out.bel.size⟩; clear ho hb))
 have hl8 : w5.cell? ⟨gl, 8, none⟩ = some (.slice none 0 0) := (blk_cell BL5.out 8).trans rfl
 have hlf8 := blk_frozen BL5.out 8
 go_upto_region 11 with (fail)
 have BL6 : Aside0 ((w5.setCell ⟨gl, 8, none⟩ (.slice A8 qs.length c8)).heap[gl]? = some (.cells #[.int .i64 (rd ns 0), .int .i64 (rd ns 1), .int .i64 (rd ns 2), .int .i64 (rd ns 3), .int .i64 (rd ns 4), .int .i64 (rd ns 5), .string (rdOf ByteArray.empty ts 0), .slice A7 ((1 + rd ns 6).toNat - 1) (cT - 1), .slice A8 qs.length c8] 25 (0, 0))) := ⟨by simpa using blk_set BL5.out 8 (.slice A8 qs.length c8)⟩
 have HQ6 := Aside0.mk (HQ5.out.set BL5.out GL.out NQ.out NP.out 8 (.slice A8 qs.length c8))
 have HO6 := Aside0.mk (Kd.R_set HO5.out BL5.out (by decide) 8 (.slice A8 qs.length c8))
 generalize eW : w5.setCell ⟨gl, 8, none⟩ (.slice A8 qs.length c8) = W6 at BL6 HQ6 HO6 ⊢
 clear eW hl8 hlf8 hP5 HQ5 BL5 HO5 HC75 HQ4 BL hP1 hcutN hcutT HC7' HCF' HCR'
 have hq0 : W6.cell? ⟨gq, 0, none⟩ = some (.int .i64 0) := (blk_cell HQ6.out.bq 0).trans rfl
 have hqf0 := blk_frozen HQ6.out.bq 0
 have hq1 : W6.cell? ⟨gq, 1, none⟩ = some (.int .i64 0) := (blk_cell HQ6.out.bq 1).trans rfl
 have hqf1 := blk_frozen HQ6.out.bq 1
 have hq2 : W6.cell? ⟨gq, 2, none⟩ = some (.int .i64 0) := (blk_cell HQ6.out.bq 2).trans rfl
 have hqf2 := blk_frozen HQ6.out.bq 2
 have hq3 : W6.cell? ⟨gq, 3, none⟩ = some (.int .i64 0) := (blk_cell HQ6.out.bq 3).trans rfl
 have hqf3 := blk_frozen HQ6.out.bq 3
 have hq4 : W6.cell? ⟨gq, 4, none⟩ = some (.int .i64 0) := (blk_cell HQ6.out.bq 4).trans rfl
 have hqf4 := blk_frozen HQ6.out.bq 4
 have hq5 : W6.cell? ⟨gq, 5, none⟩ = some (.int .i64 0) := (blk_cell HQ6.out.bq 5).trans rfl
 have hqf5 := blk_frozen HQ6.out.bq 5
 have hq6 : W6.cell? ⟨gq, 6, none⟩ = some (.string (⟨#[]⟩ : ByteArray)) := (blk_cell HQ6.out.bq 6).trans rfl
 have hqf6 := blk_frozen HQ6.out.bq 6
 have hq7 : W6.cell? ⟨gq, 7, none⟩ = some (.slice none 0 0) := (blk_cell HQ6.out.bq 7).trans rfl
 have hqf7 := blk_frozen HQ6.out.bq 7
 have hq8 : W6.cell? ⟨gq, 8, none⟩ = some (.slice none 0 0) := (blk_cell HQ6.out.bq 8).trans rfl
 have hqf8 := blk_frozen HQ6.out.bq 8
 have hl0 : W6.cell? ⟨gl, 0, none⟩ = some (.int .i64 (rd ns 0)) := (blk_cell BL6.out 0).trans rfl
 have hl1 : W6.cell? ⟨gl, 1, none⟩ = some (.int .i64 (rd ns 1)) := (blk_cell BL6.out 1).trans rfl
 have hl2 : W6.cell? ⟨gl, 2, none⟩ = some (.int .i64 (rd ns 2)) := (blk_cell BL6.out 2).trans rfl
 have hl3 : W6.cell? ⟨gl, 3, none⟩ = some (.int .i64 (rd ns 3)) := (blk_cell BL6.out 3).trans rfl
 have hl4 : W6.cell? ⟨gl, 4, none⟩ = some (.int .i64 (rd ns 4)) := (blk_cell BL6.out 4).trans rfl
 have hl5 : W6.cell? ⟨gl, 5, none⟩ = some (.int .i64 (rd ns 5)) := (blk_cell BL6.out 5).trans rfl
 have hl6 : W6.cell? ⟨gl, 6, none⟩ = some (.string (rdOf ByteArray.empty ts 0)) := (blk_cell BL6.out 6).trans rfl
 have hl7 : W6.cell? ⟨gl, 7, none⟩ = some (.slice A7 ((1 + rd ns 6).toNat - 1) (cT - 1)) := (blk_cell BL6.out 7).trans rfl
 have hl8 : W6.cell? ⟨gl, 8, none⟩ = some (.slice A8 qs.length c8) := (blk_cell BL6.out 8).trans rfl
 go_wp2_with (first | (go_at_call 14; (with_reducible refine (rcheck_len L7.out (HM7.out _ (Kd.R_reads' HQ6.out.ts).2.2) K7.out (Kd.R_reads' HO6.out).2.2 (Kd.R_reads' HO6.out).2.1 HCK.out).mono ?_); rintro e w7 ⟨rfl, hb⟩; have HQ7 := Aside0.mk (HQ6.out.below hb); have BL7 := Aside0.mk (blk_below BL6.out hb); have HO7 := Aside0.mk (Kd.R_below HO6.out hb); have hq0 : w7.cell? ⟨gq, 0, none⟩ = some (.int .i64 0) := (blk_cell HQ7.out.bq 0).trans rfl; have hqf0 := blk_frozen HQ7.out.bq 0; have hq1 : w7.cell? ⟨gq, 1, none⟩ = some (.int .i64 0) := (blk_cell HQ7.out.bq 1).trans rfl; have hqf1 := blk_frozen HQ7.out.bq 1; have hq2 : w7.cell? ⟨gq, 2, none⟩ = some (.int .i64 0) := (blk_cell HQ7.out.bq 2).trans rfl; have hqf2 := blk_frozen HQ7.out.bq 2; have hq3 : w7.cell? ⟨gq, 3, none⟩ = some (.int .i64 0) := (blk_cell HQ7.out.bq 3).trans rfl; have hqf3 := blk_frozen HQ7.out.bq 3; have hq4 : w7.cell? ⟨gq, 4, none⟩ = some (.int .i64 0) := (blk_cell HQ7.out.bq 4).trans rfl; have hqf4 := blk_frozen HQ7.out.bq 4; have hq5 : w7.cell? ⟨gq, 5, none⟩ = some (.int .i64 0) := (blk_cell HQ7.out.bq 5).trans rfl; have hqf5 := blk_frozen HQ7.out.bq 5; have hq6 : w7.cell? ⟨gq, 6, none⟩ = some (.string (⟨#[]⟩ : ByteArray)) := (blk_cell HQ7.out.bq 6).trans rfl; have hqf6 := blk_frozen HQ7.out.bq 6; have hq7 : w7.cell? ⟨gq, 7, none⟩ = some (.slice none 0 0) := (blk_cell HQ7.out.bq 7).trans rfl; have hqf7 := blk_frozen HQ7.out.bq 7; have hq8 : w7.cell? ⟨gq, 8, none⟩ = some (.slice none 0 0) := (blk_cell HQ7.out.bq 8).trans rfl; have hqf8 := blk_frozen HQ7.out.bq 8;  have hl0 : w7.cell? ⟨gl, 0, none⟩ = some (.int .i64 (rd ns 0)) := (blk_cell BL7.out 0).trans rfl; have hl1 : w7.cell? ⟨gl, 1, none⟩ = some (.int .i64 (rd ns 1)) := (blk_cell BL7.out 1).trans rfl; have hl2 : w7.cell? ⟨gl, 2, none⟩ = some (.int .i64 (rd ns 2)) := (blk_cell BL7.out 2).trans rfl; have hl3 : w7.cell? ⟨gl, 3, none⟩ = some (.int .i64 (rd ns 3)) := (blk_cell BL7.out 3).trans rfl; have hl4 : w7.cell? ⟨gl, 4, none⟩ = some (.int .i64 (rd ns 4)) := (blk_cell BL7.out 4).trans rfl; have hl5 : w7.cell? ⟨gl, 5, none⟩ = some (.int .i64 (rd ns 5)) := (blk_cell BL7.out 5).trans rfl; have hl6 : w7.cell? ⟨gl, 6, none⟩ = some (.string (rdOf ByteArray.empty ts 0)) := (blk_cell BL7.out 6).trans rfl; have hl7 : w7.cell? ⟨gl, 7, none⟩ = some (.slice A7 ((1 + rd ns 6).toNat - 1) (cT - 1)) := (blk_cell BL7.out 7).trans rfl; have hl8 : w7.cell? ⟨gl, 8, none⟩ = some (.slice A8 qs.length c8) := (blk_cell BL7.out 8).trans rfl;  clear hb) | (go_at_call 27; (with_reducible refine (rbytes_len L7.out (HM7.out _ (Kd.R_reads' HQ7.out.ts).2.2) K7.out (Kd.R_reads' HO7.out).2.2 (Kd.R_reads' HO7.out).2.1 HBY.out).mono ?_); rintro e w8 ⟨rfl, hb⟩; have HQ8 := Aside0.mk (HQ7.out.below hb); have BL8 := Aside0.mk (blk_below BL7.out hb); have HO8 := Aside0.mk (Kd.R_below HO7.out hb); have hq0 : w8.cell? ⟨gq, 0, none⟩ = some (.int .i64 0) := (blk_cell HQ8.out.bq 0).trans rfl; have hqf0 := blk_frozen HQ8.out.bq 0; have hq1 : w8.cell? ⟨gq, 1, none⟩ = some (.int .i64 0) := (blk_cell HQ8.out.bq 1).trans rfl; have hqf1 := blk_frozen HQ8.out.bq 1; have hq2 : w8.cell? ⟨gq, 2, none⟩ = some (.int .i64 0) := (blk_cell HQ8.out.bq 2).trans rfl; have hqf2 := blk_frozen HQ8.out.bq 2; have hq3 : w8.cell? ⟨gq, 3, none⟩ = some (.int .i64 0) := (blk_cell HQ8.out.bq 3).trans rfl; have hqf3 := blk_frozen HQ8.out.bq 3; have hq4 : w8.cell? ⟨gq, 4, none⟩ = some (.int .i64 0) := (blk_cell HQ8.out.bq 4).trans rfl; have hqf4 := blk_frozen HQ8.out.bq 4; have hq5 : w8.cell? ⟨gq, 5, none⟩ = some (.int .i64 0) := (blk_cell HQ8.out.bq 5).trans rfl; have hqf5 := blk_frozen HQ8.out.bq 5; have hq6 : w8.cell? ⟨gq, 6, none⟩ = some (.string (⟨#[]⟩ : ByteArray)) := (blk_cell HQ8.out.bq 6).trans rfl; have hqf6 := blk_frozen HQ8.out.bq 6; have hq7 : w8.cell? ⟨gq, 7, none⟩ = some (.slice none 0 0) := (blk_cell HQ8.out.bq 7).trans rfl; have hqf7 := blk_frozen HQ8.out.bq 7; have hq8 : w8.cell? ⟨gq, 8, none⟩ = some (.slice none 0 0) := (blk_cell HQ8.out.bq 8).trans rfl; have hqf8 := blk_frozen HQ8.out.bq 8;  have hl0 : w8.cell? ⟨gl, 0, none⟩ = some (.int .i64 (rd ns 0)) := (blk_cell BL8.out 0).trans rfl; have hl1 : w8.cell? ⟨gl, 1, none⟩ = some (.int .i64 (rd ns 1)) := (blk_cell BL8.out 1).trans rfl; have hl2 : w8.cell? ⟨gl, 2, none⟩ = some (.int .i64 (rd ns 2)) := (blk_cell BL8.out 2).trans rfl; have hl3 : w8.cell? ⟨gl, 3, none⟩ = some (.int .i64 (rd ns 3)) := (blk_cell BL8.out 3).trans rfl; have hl4 : w8.cell? ⟨gl, 4, none⟩ = some (.int .i64 (rd ns 4)) := (blk_cell BL8.out 4).trans rfl; have hl5 : w8.cell? ⟨gl, 5, none⟩ = some (.int .i64 (rd ns 5)) := (blk_cell BL8.out 5).trans rfl; have hl6 : w8.cell? ⟨gl, 6, none⟩ = some (.string (rdOf ByteArray.empty ts 0)) := (blk_cell BL8.out 6).trans rfl; have hl7 : w8.cell? ⟨gl, 7, none⟩ = some (.slice A7 ((1 + rd ns 6).toNat - 1) (cT - 1)) := (blk_cell BL8.out 7).trans rfl; have hl8 : w8.cell? ⟨gl, 8, none⟩ = some (.slice A8 qs.length c8) := (blk_cell BL8.out 8).trans rfl;  clear hb))
 have hr8 := Kd.R_keep (Kd.R_types HO8.out HQ8.out.bq (by decide)) (keep9 (W := w8) (g := gq) (c0 := .int .i64 (rd ns 0)) (c1 := .int .i64 (rd ns 1)) (c2 := .int .i64 (rd ns 2)) (c3 := .int .i64 (rd ns 3)) (c4 := .int .i64 (rd ns 4)) (c5 := .int .i64 (rd ns 5)) (c6 := .string (rdOf ByteArray.empty ts 0)) (c7 := .slice A7 ((1 + rd ns 6).toNat - 1) (cT - 1)) (c8 := .slice A8 qs.length c8)) (fun _ hk => hk.2)
 have hc8 := HM7.out _ (Kd.R_reads' (Kd.R_keep (Kd.R_types HQ8.out.ts HQ8.out.bq (by decide)) (keep9 (W := w8) (g := gq) (c0 := .int .i64 (rd ns 0)) (c1 := .int .i64 (rd ns 1)) (c2 := .int .i64 (rd ns 2)) (c3 := .int .i64 (rd ns 3)) (c4 := .int .i64 (rd ns 4)) (c5 := .int .i64 (rd ns 5)) (c6 := .string (rdOf ByteArray.empty ts 0)) (c7 := .slice A7 ((1 + rd ns 6).toNat - 1) (cT - 1)) (c8 := .slice A8 qs.length c8)) (fun _ hk => hk.2))).2.2
 refine bodyPost_ret (results_ct rfl _ _ gq 25 #[.int .i64 (rd ns 0), .int .i64 (rd ns 1), .int .i64 (rd ns 2), .int .i64 (rd ns 3), .int .i64 (rd ns 4), .int .i64 (rd ns 5), .string (rdOf ByteArray.empty ts 0), .slice A7 ((1 + rd ns 6).toNat - 1) (cT - 1), .slice A8 qs.length c8] (0, 0) _ rfl (set9 HQ8.out.bq) Try.underlying25 rfl (by kernel_rfl)) rfl ?_
 exact ⟨A7, cT - 1, _, by rw [← L7.out]; rfl, hc8, K7.out, Kd.R_mono hr8 (fun _ _ => trivial), below9 HQ8.out.bel HQ8.out.geq⟩
/-- What comes back, with its memory. -/
def RLetE (w : World) (r : RLetR) (e : Ending) (w' : World) : Prop := ∃ (A7 : Option Addr) (c7 : Nat) (v8 : Value), e = .returned (.tuple #[.agg #[.int .i64 r.1, .int .i64 r.2.1, .int .i64 r.2.2.1, .int .i64 r.2.2.2.1, .int .i64 r.2.2.2.2.1, .int .i64 r.2.2.2.2.2.1, .string r.2.2.2.2.2.2.1, .slice A7 r.2.2.2.2.2.2.2.1.length c7, v8], .int .i64 r.2.2.2.2.2.2.2.2.2]) ∧ Kd.C Kd.string w' A7 r.2.2.2.2.2.2.2.1.length r.2.2.2.2.2.2.2.1 ∧ r.2.2.2.2.2.2.2.1.length ≤ c7 ∧ Kd.R k49 49 w' w.heap.size (fun _ => True) v8 r.2.2.2.2.2.2.2.2.1 ∧ Below w.heap.size w w'
theorem nolet_E {w : World} {e : Ending} {w' : World} (h : NoLetE w e w') : RLetE w noRef e w' := ⟨none, 0, .slice none 0 0, h.1, Kd.C_nil _ _, Nat.le_refl _, Kd.R_nil _ _ _ _ _, h.2⟩
theorem corncribref07_Decode.calls (k : Nat) (s : ByteArray) (r : RLetR) (w : World) (h : corncribref07_Decode.f k s = some r) : Calls Try.prog 25 #[.string s] w (RLetE w r) := by
 unfold corncribref07_Decode.f at h
 cases hd : corncribref06_Decode.f s with
 |none => rw [hd] at h; cases h
 |some d =>
  obtain ⟨ns, ts, p, e⟩ := d
  rw [hd, Option.bind_some] at h
  have hl : ts.length ≤ 1024 := by
   unfold corncribref06_Decode.f at hd
   split at hd
   ·simp only [Option.some.injEq, Prod.mk.injEq] at hd
    rw [← hd.2.1]; exact (DecLen.dec_len s).2
   ·cases hd
  have no : ∀ (_ : Calls Try.prog 25 #[.string s] w (NoLetE w)) (_ : some noRef = some r), Calls Try.prog 25 #[.string s] w (RLetE w r) := fun hc hr => by
   obtain rfl := Option.some.inj hr
   exact hc.mono fun e w' he => nolet_E he
  by_cases c : e = 0 ∧ 7 ≤ ns.length ∧ 1 ≤ ts.length
  ·rw [if_pos c] at h
   obtain ⟨he, hn, ht⟩ := c
   have he' : e = 0 := he
   subst he'
   unfold rletOf at h
   by_cases m : 0 ≤ rd ns 6 ∧ rd ns 6 ≤ (ts.length : Int) - 1
   ·rw [if_pos m] at h
    cases hp : corncribref07_Pairs.f k (ns.drop 7) (ts.drop (1 + rd ns 6).toNat) with
    |none => rw [hp] at h; cases h
    |some q =>
     obtain ⟨qs, b⟩ := q
     rw [hp, Option.bind_some] at h
     cases b with
     |false => exact no (rdl_p s ns ts p w hd hn ht hl m.1 m.2 k qs hp) h
     |true =>
      rw [if_pos rfl] at h
      cases hc : corncribref07_Check.f k (rd ns 0) (rd ns 1) (rd ns 2) (rd ns 3) (rd ns 4) (rd ns 5) (rdOf ByteArray.empty ts 0) ((ts.take (1 + rd ns 6).toNat).drop 1) qs with
      |none => rw [hc] at h; cases h
      |some c =>
       rw [hc, Option.bind_some] at h
       by_cases c0 : c = 0
       ·subst c0
        rw [if_pos rfl] at h
        cases hb : corncribref07_Bytes.f k (rd ns 0) (rd ns 1) (rd ns 2) (rd ns 3) (rd ns 4) (rd ns 5) (rdOf ByteArray.empty ts 0) ((ts.take (1 + rd ns 6).toNat).drop 1) qs with
        |none => rw [hb] at h; cases h
        |some b =>
         rw [hb, Option.bind_some] at h
         by_cases hbs : b = s
         ·subst hbs
          rw [if_pos rfl] at h
          obtain rfl := Option.some.inj h
          exact rdl_ok b ns ts p w hd hn ht hl m.1 m.2 k qs hp hc hb
         ·rw [if_neg hbs] at h
          exact no (rdl_b s ns ts p w hd hn ht hl m.1 m.2 k qs hp hc b hb (fun ht => hbs (B_inj (by rw [← toList_eq, ← toList_eq, ht])))) h
       ·rw [if_neg c0] at h
        exact no (rdl_c s ns ts p w hd hn ht hl m.1 m.2 k qs hp c hc c0) h
   ·rw [if_neg m] at h
    by_cases m0 : rd ns 6 < 0
    ·exact no (rdl_m1 s ns ts p w hd hn ht m0) h
    ·exact no (rdl_m2 s ns ts p w hd hn ht hl (by omega) (by omega)) h
  ·rw [if_neg c] at h
   by_cases he : e = 0
   ·subst he
    by_cases hn : ns.length < 7
    ·exact no (rdl_n s ns ts p w hd hn) h
    ·have : ts = [] := by
      cases ts with
      |nil => rfl
      |cons t r => exact absurd ⟨rfl, by omega, by simp⟩ c
     exact no (rdl_t s ns ts p w hd (by omega) this) h
   ·exact no (rdl_e s ns ts p e w hd he) h
end Go.Proofs.Ytelgpkbnahgdoaa.Al

namespace Go.Proofs.Ytelgpkbnahgdoaa.Al
open Go.RowKit Go.Proofs.YtelgpkbnahgdoaaW.PrintWords Go.Proofs.YtelgpkbnahgdoaaW.PrintLast Go.Proofs.YtelgpkbnahgdoaaW.PrintMore
attribute [local go_sem] max2_int min2_int max_two min_two max_three min_three max_four min_four   -- for this text's walks alone
set_option linter.unusedVariables false
set_option linter.unusedSimpArgs false
attribute [local go_sem high] eqA49
def corncribbook_SameTexts.l0 : Nat → List ByteArray → List ByteArray → Int → Option (Bool)
 |0, _, _, _ => none
 |k + 1, x0, x1, x5 => if x5 < (x0.length : Int) then (if 0 ≤ x5 then (if x5 < (x1.length : Int) then (if (rdOf ByteArray.empty x0 x5).toList = (rdOf ByteArray.empty x1 x5).toList then (corncribbook_SameTexts.l0 k x0 x1 (wrap64 (x5 + 1))) else (some false)) else (none)) else (none)) else (some true)
def corncribbook_SameTexts.f (k : Nat) (l0 : List ByteArray) (l1 : List ByteArray) : Option (Bool) := if (l0.length : Int) = (l1.length : Int) then (corncribbook_SameTexts.l0 k l0 l1 0) else (some false)
theorem corncribbook_SameTexts.mono_l : ∀ k, (∀ y0 y1 y2, LeO (corncribbook_SameTexts.l0 k y0 y1 y2) (corncribbook_SameTexts.l0 (k + 1) y0 y1 y2))
 |0 => fun _ _ _ r h => by simp [corncribbook_SameTexts.l0] at h
 |k + 1 => by
  have ih0 := corncribbook_SameTexts.mono_l k
  ·intro y0 y1 y2
   unfold corncribbook_SameTexts.l0
   repeat' first
   |(with_reducible exact ih0 _ _ _)
   |(with_reducible exact LeO.refl _)
   |(with_reducible exact LeO.none _)
   |(with_reducible refine LeO.ite ?_ ?_)
   |(with_reducible refine LeO.bind ?_ (fun _ => ?_))
   |exact ih0 _ _ _
   |exact LeO.none _
   |refine LeO.ite ?_ ?_
   |refine LeO.bind ?_ (fun _ => ?_)
theorem corncribbook_SameTexts.mono : ∀ a0 a1 k, LeO (corncribbook_SameTexts.f k a0 a1) (corncribbook_SameTexts.f (k + 1) a0 a1) := by
 intro a0 a1 k
 have ih0 := corncribbook_SameTexts.mono_l k
 unfold corncribbook_SameTexts.f
 repeat' first
   |(with_reducible exact ih0 _ _ _)
   |(with_reducible exact LeO.refl _)
   |(with_reducible exact LeO.none _)
   |(with_reducible refine LeO.ite ?_ ?_)
   |(with_reducible refine LeO.bind ?_ (fun _ => ?_))
   |exact ih0 _ _ _
   |exact LeO.none _
   |refine LeO.ite ?_ ?_
   |refine LeO.bind ?_ (fun _ => ?_)
set_option maxHeartbeats 8000000 in
set_option maxRecDepth 100000 in
theorem corncribbook_SameTexts.calls (k : Nat) (A0 : Option Addr) (c0 : Nat) (l0 : List ByteArray) (A1 : Option Addr) (c1 : Nat) (l1 : List ByteArray) (r : Bool) (w : World) (hr0 : Kd.C Kd.string w A0 l0.length l0) (hc0 : l0.length ≤ c0) (hr1 : Kd.C Kd.string w A1 l1.length l1) (hc1 : l1.length ≤ c1) (h : corncribbook_SameTexts.f k l0 l1 = some r) :
  Calls Try.prog 34 #[.slice A0 l0.length c0, .slice A1 l1.length c1] w fun e w' => e = .returned (.bool r) ∧ Drawn0 w w' := by
 have HR0 := Aside0.mk hr0
 have HC0 := Aside0.mk hc0
 clear hr0 hc0
 have HR1 := Aside0.mk hr1
 have HC1 := Aside0.mk hc1
 clear hr1 hc1
 have H : (if (l0.length : Int) = (l1.length : Int) then (corncribbook_SameTexts.l0 k l0 l1 0) else (some false)) = some r := h
 clear h
 by_cases c3 : (l0.length : Int) = (l1.length : Int)
 ·rw [if_pos c3] at H
  have c3b0 : ((l0.length : Int) == (l1.length : Int)) = true := beq_iff_eq.mpr c3
  have c3b1 : ((l0.length : Int) != (l1.length : Int)) = false := bne_eq_false_iff_eq.mpr c3
  have c3b2 : (l0.length == l1.length) = true := by first | simpa using c3 | (simp at c3 ⊢; omega)
  clear c3
  have H' := Aside0.mk H
  clear H
  go_enter Try.func34, Try.ntmps34
  go_wp2
  repeat (go_quiet (fail); try go_wp2)
  go_loopg [5] k (fun kq v5 w' => ∃ (x5_1 : Int), v5 = .int .i64 x5_1 ∧ Aside0 (corncribbook_SameTexts.l0 kq l0 l1 x5_1 = some r) ∧ Aside0 (kq ≤ k) ∧ Drawn0 w w')
  case atStart => exact ⟨(0), (by first | rfl | (simp; done) | (simp [*]; done) | (simp [bne_nil_]; done)), H', ⟨Nat.le_refl _⟩, by repeat (first | exact Drawn0.refl _ | apply Drawn0.step)⟩
  case round =>
   clear H'
   (try clear c1); (try clear p2); (try clear c3); (try clear c3b0); (try clear c3b1); (try clear c3b2)
   obtain ⟨x5_1, rfl, HA, HK1, ⟨m1, rfl⟩⟩ := hrel
   cases gk with
   |zero => exact absurd HA.out (by simp [corncribbook_SameTexts.l0])
   |succ k1 =>
    have H := HA.out
    clear HA
    simp only [corncribbook_SameTexts.l0] at H
    by_cases c4 : x5_1 < (l0.length : Int)
    ·rw [if_pos c4] at H
     have c4b0 : decide (x5_1 < (l0.length : Int)) = true := decide_eq_true c4
     clear c4
     by_cases c5 : 0 ≤ x5_1
     ·rw [if_pos c5] at H
      have c5b0 : decide (0 ≤ x5_1) = true := decide_eq_true c5
      clear c5
      by_cases c6 : x5_1 < (l1.length : Int)
      ·rw [if_pos c6] at H
       have c6b0 : decide (x5_1 < (l1.length : Int)) = true := decide_eq_true c6
       clear c6
       by_cases c7 : (rdOf ByteArray.empty l0 x5_1).toList = (rdOf ByteArray.empty l1 x5_1).toList
       ·rw [if_pos c7] at H
        have c7b0 : ((rdOf ByteArray.empty l0 x5_1).toList == (rdOf ByteArray.empty l1 x5_1).toList) = true := beq_iff_eq.mpr c7
        have c7b1 : ((rdOf ByteArray.empty l0 x5_1).toList != (rdOf ByteArray.empty l1 x5_1).toList) = false := bne_eq_false_iff_eq.mpr c7
        clear c7
        have H' := Aside0.mk H
        clear H
        have p230 : 0 ≤ (x5_1 : Int) := of_decide_eq_true (by first | (with_reducible assumption) | assumption)
        have q230 : x5_1 < (l0.length : Int) := of_decide_eq_true (by first | (with_reducible assumption) | assumption)
        obtain ⟨ad230, e230, hx230_0⟩ := Kd.at_string HR0.out x5_1 p230 q230
        cases e230
        replace p230 := eq_true p230
        replace q230 := eq_true q230
        have p231 : 0 ≤ (x5_1 : Int) := of_decide_eq_true (by first | (with_reducible assumption) | assumption)
        have q231 : x5_1 < (l1.length : Int) := of_decide_eq_true (by first | (with_reducible assumption) | assumption)
        obtain ⟨ad231, e231, hx231_0⟩ := Kd.at_string HR1.out x5_1 p231 q231
        cases e231
        replace p231 := eq_true p231
        replace q231 := eq_true q231
        go_wp2
        repeat (go_quiet (fail); try go_wp2)
        go_roundg k1
        case measure => have := HK1.out; omega
        case rel => exact ⟨(wrap64 (x5_1 + 1)), (by first | rfl | (simp; done) | (simp [*]; done) | (simp [bne_nil_]; done)), H', ⟨by have := HK1.out; omega⟩, by repeat (first | exact Drawn0.refl _ | apply Drawn0.step)⟩
       ·rw [if_neg c7] at H
        have c7b0 : ((rdOf ByteArray.empty l0 x5_1).toList == (rdOf ByteArray.empty l1 x5_1).toList) = false := beq_eq_false_iff_ne.mpr c7
        have c7b1 : ((rdOf ByteArray.empty l0 x5_1).toList != (rdOf ByteArray.empty l1 x5_1).toList) = true := bne_iff_ne.mpr c7
        obtain rfl := Option.some.inj H
        have p230 : 0 ≤ (x5_1 : Int) := of_decide_eq_true (by first | (with_reducible assumption) | assumption)
        have q230 : x5_1 < (l0.length : Int) := of_decide_eq_true (by first | (with_reducible assumption) | assumption)
        obtain ⟨ad230, e230, hx230_0⟩ := Kd.at_string HR0.out x5_1 p230 q230
        cases e230
        replace p230 := eq_true p230
        replace q230 := eq_true q230
        have p231 : 0 ≤ (x5_1 : Int) := of_decide_eq_true (by first | (with_reducible assumption) | assumption)
        have q231 : x5_1 < (l1.length : Int) := of_decide_eq_true (by first | (with_reducible assumption) | assumption)
        obtain ⟨ad231, e231, hx231_0⟩ := Kd.at_string HR1.out x5_1 p231 q231
        cases e231
        replace p231 := eq_true p231
        replace q231 := eq_true q231
        go_wp2
        repeat (go_quiet (fail); try go_wp2)
        go_ret
        exact ⟨by first | rfl | (simp; done) | (simp [*]; done) | (simp [bne_nil_]; done), by repeat (first | exact Drawn0.refl _ | apply Drawn0.step)⟩
      ·rw [if_neg c6] at H
       exact absurd H (by simp)
     ·rw [if_neg c5] at H
      exact absurd H (by simp)
    ·rw [if_neg c4] at H
     have c4b0 : decide (x5_1 < (l0.length : Int)) = false := decide_eq_false c4
     clear c4
     obtain rfl := Option.some.inj H
     go_wp2
     repeat (go_quiet (fail); try go_wp2)
     go_ret
     exact ⟨by first | rfl | (simp; done) | (simp [*]; done) | (simp [bne_nil_]; done), by repeat (first | exact Drawn0.refl _ | apply Drawn0.step)⟩
 ·rw [if_neg c3] at H
  have c3b0 : ((l0.length : Int) == (l1.length : Int)) = false := beq_eq_false_iff_ne.mpr c3
  have c3b1 : ((l0.length : Int) != (l1.length : Int)) = true := bne_iff_ne.mpr c3
  have c3b2 : (l0.length == l1.length) = false := by first | simpa using c3 | (simp at c3 ⊢; omega)
  obtain rfl := Option.some.inj H
  go_enter Try.func34, Try.ntmps34
  go_wp2
  repeat (go_quiet (fail); try go_wp2)
  go_ret
  exact ⟨by first | rfl | (simp; done) | (simp [*]; done) | (simp [bne_nil_]; done), by repeat (first | exact Drawn0.refl _ | apply Drawn0.step)⟩
end Go.Proofs.Ytelgpkbnahgdoaa.Al

namespace Go.Proofs.Ytelgpkbnahgdoaa.Al
open Go.RowKit Go.Proofs.YtelgpkbnahgdoaaW.PrintWords Go.Proofs.YtelgpkbnahgdoaaW.PrintLast Go.Proofs.YtelgpkbnahgdoaaW.PrintMore
attribute [local go_sem] max2_int min2_int max_two min_two max_three min_three max_four min_four   -- for this text's walks alone
set_option linter.unusedVariables false
set_option linter.unusedSimpArgs false
attribute [local go_sem high] eqA49
def corncribbook_SameWrites.l0 : Nat → List (S49) → List (S49) → Int → Option (Bool)
 |0, _, _, _ => none
 |k + 1, x0, x1, x5 => if x5 < (x0.length : Int) then (if 0 ≤ x5 then (if x5 < (x1.length : Int) then (if (!((((rd_T49 x0 x5).f0).toList) == (((rd_T49 x1 x5).f0).toList)) || (!((((rd_T49 x0 x5).f1).toList) == (((rd_T49 x1 x5).f1).toList)) || (!(((rd_T49 x0 x5).f2) == ((rd_T49 x1 x5).f2))))) = true then (some false) else (corncribbook_SameWrites.l0 k x0 x1 (wrap64 (x5 + 1)))) else (none)) else (none)) else (some true)
def corncribbook_SameWrites.f (k : Nat) (l0 : List (S49)) (l1 : List (S49)) : Option (Bool) := if (l0.length : Int) = (l1.length : Int) then (corncribbook_SameWrites.l0 k l0 l1 0) else (some false)
theorem corncribbook_SameWrites.mono_l : ∀ k, (∀ y0 y1 y2, LeO (corncribbook_SameWrites.l0 k y0 y1 y2) (corncribbook_SameWrites.l0 (k + 1) y0 y1 y2))
 |0 => fun _ _ _ r h => by simp [corncribbook_SameWrites.l0] at h
 |k + 1 => by
  have ih0 := corncribbook_SameWrites.mono_l k
  ·intro y0 y1 y2
   unfold corncribbook_SameWrites.l0
   repeat' first
   |(with_reducible exact ih0 _ _ _)
   |(with_reducible exact LeO.refl _)
   |(with_reducible exact LeO.none _)
   |(with_reducible refine LeO.ite ?_ ?_)
   |(with_reducible refine LeO.bind ?_ (fun _ => ?_))
   |exact ih0 _ _ _
   |exact LeO.none _
   |refine LeO.ite ?_ ?_
   |refine LeO.bind ?_ (fun _ => ?_)
theorem corncribbook_SameWrites.mono : ∀ a0 a1 k, LeO (corncribbook_SameWrites.f k a0 a1) (corncribbook_SameWrites.f (k + 1) a0 a1) := by
 intro a0 a1 k
 have ih0 := corncribbook_SameWrites.mono_l k
 unfold corncribbook_SameWrites.f
 repeat' first
   |(with_reducible exact ih0 _ _ _)
   |(with_reducible exact LeO.refl _)
   |(with_reducible exact LeO.none _)
   |(with_reducible refine LeO.ite ?_ ?_)
   |(with_reducible refine LeO.bind ?_ (fun _ => ?_))
   |exact ih0 _ _ _
   |exact LeO.none _
   |refine LeO.ite ?_ ?_
   |refine LeO.bind ?_ (fun _ => ?_)
set_option maxHeartbeats 8000000 in
set_option maxRecDepth 100000 in
theorem corncribbook_SameWrites.calls (k : Nat) (A0 : Option Addr) (c0 : Nat) (l0 : List (S49)) (A1 : Option Addr) (c1 : Nat) (l1 : List (S49)) (r : Bool) (w : World) (hr0 : Kd.C k49 w A0 l0.length l0) (hc0 : l0.length ≤ c0) (hr1 : Kd.C k49 w A1 l1.length l1) (hc1 : l1.length ≤ c1) (h : corncribbook_SameWrites.f k l0 l1 = some r) :
  Calls Try.prog 35 #[.slice A0 l0.length c0, .slice A1 l1.length c1] w fun e w' => e = .returned (.bool r) ∧ Drawn0 w w' := by
 have hu49 := Try.underlying49
 have HR0 := Aside0.mk hr0
 have HC0 := Aside0.mk hc0
 clear hr0 hc0
 have HR1 := Aside0.mk hr1
 have HC1 := Aside0.mk hc1
 clear hr1 hc1
 have H : (if (l0.length : Int) = (l1.length : Int) then (corncribbook_SameWrites.l0 k l0 l1 0) else (some false)) = some r := h
 clear h
 by_cases c3 : (l0.length : Int) = (l1.length : Int)
 ·rw [if_pos c3] at H
  have c3b0 : ((l0.length : Int) == (l1.length : Int)) = true := beq_iff_eq.mpr c3
  have c3b1 : ((l0.length : Int) != (l1.length : Int)) = false := bne_eq_false_iff_eq.mpr c3
  have c3b2 : (l0.length == l1.length) = true := by first | simpa using c3 | (simp at c3 ⊢; omega)
  clear c3
  have H' := Aside0.mk H
  clear H
  go_enter Try.func35, Try.ntmps35
  go_wp2
  repeat (go_quiet (fail); try go_wp2)
  go_loopg [5] k (fun kq v5 w' => ∃ (x5_1 : Int), v5 = .int .i64 x5_1 ∧ Aside0 (corncribbook_SameWrites.l0 kq l0 l1 x5_1 = some r) ∧ Aside0 (kq ≤ k) ∧ Drawn0 w w')
  case atStart => exact ⟨(0), (by first | rfl | (simp; done) | (simp [*]; done) | (simp [bne_nil_]; done)), H', ⟨Nat.le_refl _⟩, by repeat (first | exact Drawn0.refl _ | apply Drawn0.step)⟩
  case round =>
   clear H'
   (try clear c1); (try clear p2); (try clear c3); (try clear c3b0); (try clear c3b1); (try clear c3b2)
   obtain ⟨x5_1, rfl, HA, HK1, ⟨m1, rfl⟩⟩ := hrel
   cases gk with
   |zero => exact absurd HA.out (by simp [corncribbook_SameWrites.l0])
   |succ k1 =>
    have H := HA.out
    clear HA
    simp only [corncribbook_SameWrites.l0] at H
    by_cases c4 : x5_1 < (l0.length : Int)
    ·rw [if_pos c4] at H
     have c4b0 : decide (x5_1 < (l0.length : Int)) = true := decide_eq_true c4
     clear c4
     by_cases c5 : 0 ≤ x5_1
     ·rw [if_pos c5] at H
      have c5b0 : decide (0 ≤ x5_1) = true := decide_eq_true c5
      clear c5
      by_cases c6 : x5_1 < (l1.length : Int)
      ·rw [if_pos c6] at H
       have c6b0 : decide (x5_1 < (l1.length : Int)) = true := decide_eq_true c6
       clear c6
       by_cases c7 : (!((((rd_T49 l0 x5_1).f0).toList) == (((rd_T49 l1 x5_1).f0).toList)) || (!((((rd_T49 l0 x5_1).f1).toList) == (((rd_T49 l1 x5_1).f1).toList)) || (!(((rd_T49 l0 x5_1).f2) == ((rd_T49 l1 x5_1).f2))))) = true
       ·rw [if_pos c7] at H
        have c7b0 : (!((((rd_T49 l0 x5_1).f0).toList) == (((rd_T49 l1 x5_1).f0).toList)) || (!((((rd_T49 l0 x5_1).f1).toList) == (((rd_T49 l1 x5_1).f1).toList)) || (!(((rd_T49 l0 x5_1).f2) == ((rd_T49 l1 x5_1).f2))))) = true := c7
        clear c7
        obtain rfl := Option.some.inj H
        have p232 : 0 ≤ (x5_1 : Int) := of_decide_eq_true (by first | (with_reducible assumption) | assumption)
        have q232 : x5_1 < (l0.length : Int) := of_decide_eq_true (by first | (with_reducible assumption) | assumption)
        obtain ⟨ad232, e232, hx232_0, hx232_1, hx232_2⟩ := at_T49 HR0.out x5_1 p232 q232
        cases e232
        replace p232 := eq_true p232
        replace q232 := eq_true q232
        have p233 : 0 ≤ (x5_1 : Int) := of_decide_eq_true (by first | (with_reducible assumption) | assumption)
        have q233 : x5_1 < (l1.length : Int) := of_decide_eq_true (by first | (with_reducible assumption) | assumption)
        obtain ⟨ad233, e233, hx233_0, hx233_1, hx233_2⟩ := at_T49 HR1.out x5_1 p233 q233
        cases e233
        replace p233 := eq_true p233
        replace q233 := eq_true q233
        go_wp2
        repeat (go_quiet (fail); try go_wp2)
        go_ret
        exact ⟨by first | rfl | (simp; done) | (simp [*]; done) | (simp [bne_nil_]; done), by repeat (first | exact Drawn0.refl _ | apply Drawn0.step)⟩
       ·rw [if_neg c7] at H
        have c7b0 : (!((((rd_T49 l0 x5_1).f0).toList) == (((rd_T49 l1 x5_1).f0).toList)) || (!((((rd_T49 l0 x5_1).f1).toList) == (((rd_T49 l1 x5_1).f1).toList)) || (!(((rd_T49 l0 x5_1).f2) == ((rd_T49 l1 x5_1).f2))))) = false := by simpa using c7
        clear c7
        have H' := Aside0.mk H
        clear H
        have p232 : 0 ≤ (x5_1 : Int) := of_decide_eq_true (by first | (with_reducible assumption) | assumption)
        have q232 : x5_1 < (l0.length : Int) := of_decide_eq_true (by first | (with_reducible assumption) | assumption)
        obtain ⟨ad232, e232, hx232_0, hx232_1, hx232_2⟩ := at_T49 HR0.out x5_1 p232 q232
        cases e232
        replace p232 := eq_true p232
        replace q232 := eq_true q232
        have p233 : 0 ≤ (x5_1 : Int) := of_decide_eq_true (by first | (with_reducible assumption) | assumption)
        have q233 : x5_1 < (l1.length : Int) := of_decide_eq_true (by first | (with_reducible assumption) | assumption)
        obtain ⟨ad233, e233, hx233_0, hx233_1, hx233_2⟩ := at_T49 HR1.out x5_1 p233 q233
        cases e233
        replace p233 := eq_true p233
        replace q233 := eq_true q233
        go_wp2
        repeat (go_quiet (fail); try go_wp2)
        go_roundg k1
        case measure => have := HK1.out; omega
        case rel => exact ⟨(wrap64 (x5_1 + 1)), (by first | rfl | (simp; done) | (simp [*]; done) | (simp [bne_nil_]; done)), H', ⟨by have := HK1.out; omega⟩, by repeat (first | exact Drawn0.refl _ | apply Drawn0.step)⟩
      ·rw [if_neg c6] at H
       exact absurd H (by simp)
     ·rw [if_neg c5] at H
      exact absurd H (by simp)
    ·rw [if_neg c4] at H
     have c4b0 : decide (x5_1 < (l0.length : Int)) = false := decide_eq_false c4
     clear c4
     obtain rfl := Option.some.inj H
     go_wp2
     repeat (go_quiet (fail); try go_wp2)
     go_ret
     exact ⟨by first | rfl | (simp; done) | (simp [*]; done) | (simp [bne_nil_]; done), by repeat (first | exact Drawn0.refl _ | apply Drawn0.step)⟩
 ·rw [if_neg c3] at H
  have c3b0 : ((l0.length : Int) == (l1.length : Int)) = false := beq_eq_false_iff_ne.mpr c3
  have c3b1 : ((l0.length : Int) != (l1.length : Int)) = true := bne_iff_ne.mpr c3
  have c3b2 : (l0.length == l1.length) = false := by first | simpa using c3 | (simp at c3 ⊢; omega)
  obtain rfl := Option.some.inj H
  go_enter Try.func35, Try.ntmps35
  go_wp2
  repeat (go_quiet (fail); try go_wp2)
  go_ret
  exact ⟨by first | rfl | (simp; done) | (simp [*]; done) | (simp [bne_nil_]; done), by repeat (first | exact Drawn0.refl _ | apply Drawn0.step)⟩
end Go.Proofs.Ytelgpkbnahgdoaa.Al
