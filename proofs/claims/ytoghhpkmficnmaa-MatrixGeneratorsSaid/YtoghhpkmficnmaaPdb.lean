/- What the laws stand on, in one text: functions of the program by their contracts, and the plain mathematics behind them (13 of them). -/
import Derived.Test.YtoghhpkmficnmaaPda
import Derived.Lib.SlBuf

/- One function of the program comes to what its plain twin says. This text began as the kit's own print (print.py, made by cprint.sh) and was turned by split.py: it is no printed file. -/
namespace Go.Proofs.Ytoghhpkmficnmaa.Al
open Go.RowKit Go.Proofs.YtoghhpkmficnmaaW.PrintWords Go.Proofs.YtoghhpkmficnmaaW.PrintLast Go.Proofs.YtoghhpkmficnmaaW.PrintMore
attribute [local go_sem] max2_int min2_int max_two min_two max_three min_three max_four min_four   -- for this text's walks alone
set_option linter.unusedVariables false
set_option linter.unusedSimpArgs false

/-! ### corncribref02_Pick: function 15 -/
mutual
def corncribref02_Pick.l0 : Nat → List Int → Int → Int → Int → ByteArray → Option (Int × Int × ByteArray × Int)
 |0, _, _, _, _, _ => none
 |k + 1, x1, x6, x157000, x157001, x157002 => if x6 < (x1.length : Int) then (if 0 ≤ x6 then (if (rd x1 x6) < 0 then (some (0, 0, (⟨#[]⟩ : ByteArray), 1)) else (if (rd x1 x6) ≥ x157000 then (some (0, 0, (⟨#[]⟩ : ByteArray), 1)) else (corncribref02_Pick.l0 k x1 (wrap64 (x6 + 1)) x157000 x157001 x157002))) else (none)) else (if (x1.length : Int) > 255 then (some (0, 0, (⟨#[]⟩ : ByteArray), 2)) else (if (x1.length : Int) = 0 then (some (0, 0, (⟨#[]⟩ : ByteArray), 1)) else (corncribref02_Pick.l1 k x1 (⟨#[]⟩ : ByteArray) 0 x157000 x157001 x157002)))
def corncribref02_Pick.l1 : Nat → List Int → ByteArray → Int → Int → Int → ByteArray → Option (Int × Int × ByteArray × Int)
 |0, _, _, _, _, _, _ => none
 |k + 1, x1, x7, x8, x157000, x157001, x157002 => if x8 < (x1.length : Int) then ((corncribref02_rows.f k x157000 x157001 x157002).bind fun t161 => (if 0 ≤ x8 then (if 0 ≤ (rd x1 x8) then (if (rd x1 x8) < (t161.length : Int) then (if x7.size + (rdOf ByteArray.empty t161 (rd x1 x8)).size ≤ 9223372036854775807 then (corncribref02_Pick.l1 k x1 (x7 ++ (rdOf ByteArray.empty t161 (rd x1 x8))) (wrap64 (x8 + 1)) x157000 x157001 x157002) else (none)) else (none)) else (none)) else (none))) else (some ((x1.length : Int), x157001, x7, 0))
end
def corncribref02_Pick.f (k : Nat) (a0_0 : Int) (a0_1 : Int) (a0_2 : ByteArray) (l1 : List Int) : Option (Int × Int × ByteArray × Int) := (corncribref02_Check.f a0_0 a0_1 a0_2).bind fun t158 => (if t158 = 0 then (corncribref02_Pick.l0 k l1 0 a0_0 a0_1 a0_2) else (some (0, 0, (⟨#[]⟩ : ByteArray), 4)))
theorem corncribref02_Pick.mono_l : ∀ k, (∀ y0 y1 y2 y3 y4, LeO (corncribref02_Pick.l0 k y0 y1 y2 y3 y4) (corncribref02_Pick.l0 (k + 1) y0 y1 y2 y3 y4)) ∧ (∀ y0 y1 y2 y3 y4 y5, LeO (corncribref02_Pick.l1 k y0 y1 y2 y3 y4 y5) (corncribref02_Pick.l1 (k + 1) y0 y1 y2 y3 y4 y5))
 |0 => ⟨fun _ _ _ _ _ r h => by simp [corncribref02_Pick.l0] at h, fun _ _ _ _ _ _ r h => by simp [corncribref02_Pick.l1] at h⟩
 |k + 1 => by
  obtain ⟨ih0, ih1⟩ := corncribref02_Pick.mono_l k
  refine ⟨?_, ?_⟩
  ·intro y0 y1 y2 y3 y4
   unfold corncribref02_Pick.l0
   repeat' first
   |(with_reducible exact ih0 _ _ _ _ _)
   |(with_reducible exact ih1 _ _ _ _ _ _)
   |(with_reducible exact corncribref02_rows.mono _ _ _ _)
   |(with_reducible exact LeO.refl _)
   |(with_reducible exact LeO.none _)
   |(with_reducible refine LeO.ite ?_ ?_)
   |(with_reducible refine LeO.bind ?_ (fun _ => ?_))
   |exact ih0 _ _ _ _ _
   |exact ih1 _ _ _ _ _ _
   |exact corncribref02_rows.mono _ _ _ _
   |exact LeO.none _
   |refine LeO.ite ?_ ?_
   |refine LeO.bind ?_ (fun _ => ?_)
  ·intro y0 y1 y2 y3 y4 y5
   unfold corncribref02_Pick.l1
   repeat' first
   |(with_reducible exact ih0 _ _ _ _ _)
   |(with_reducible exact ih1 _ _ _ _ _ _)
   |(with_reducible exact corncribref02_rows.mono _ _ _ _)
   |(with_reducible exact LeO.refl _)
   |(with_reducible exact LeO.none _)
   |(with_reducible refine LeO.ite ?_ ?_)
   |(with_reducible refine LeO.bind ?_ (fun _ => ?_))
   |exact ih0 _ _ _ _ _
   |exact ih1 _ _ _ _ _ _
   |exact corncribref02_rows.mono _ _ _ _
   |exact LeO.none _
   |refine LeO.ite ?_ ?_
   |refine LeO.bind ?_ (fun _ => ?_)
theorem corncribref02_Pick.mono : ∀ a0 a1 a2 a3 k, LeO (corncribref02_Pick.f k a0 a1 a2 a3) (corncribref02_Pick.f (k + 1) a0 a1 a2 a3) := by
 intro a0 a1 a2 a3 k
 obtain ⟨ih0, ih1⟩ := corncribref02_Pick.mono_l k
 unfold corncribref02_Pick.f
 repeat' first
   |(with_reducible exact ih0 _ _ _ _ _)
   |(with_reducible exact ih1 _ _ _ _ _ _)
   |(with_reducible exact corncribref02_rows.mono _ _ _ _)
   |(with_reducible exact LeO.refl _)
   |(with_reducible exact LeO.none _)
   |(with_reducible refine LeO.ite ?_ ?_)
   |(with_reducible refine LeO.bind ?_ (fun _ => ?_))
   |exact ih0 _ _ _ _ _
   |exact ih1 _ _ _ _ _ _
   |exact corncribref02_rows.mono _ _ _ _
   |exact LeO.none _
   |refine LeO.ite ?_ ?_
   |refine LeO.bind ?_ (fun _ => ?_)
def corncribref02_Pick.T6 : Bool × List (List Nat × List Nat) := (true, [([], []), ([], []), ([0, 1], [0, 1]), ([2], [2]), ([3], [3]), ([4], [4]), ([5], [5]), ([5], [5]), ([6, 7, 5], [5, 6, 7]), ([8, 5], [5, 8]), ([5], [5]), ([10, 5], [5, 10]), ([9, 11, 5], [5, 9, 11]), ([5, 12], [5, 12])])
def corncribref02_Pick.B6 : List Nat := [0, 0, 3, 7, 15, 31, 63, 63, 255, 511, 63, 1087, 4095, 8191]
theorem corncribref02_Pick.tab6 : rtab .any (opsOf Try.f15 6) = corncribref02_Pick.T6 := by kernel_rfl
theorem corncribref02_Pick.bits6 : waitsOk corncribref02_Pick.T6.2 corncribref02_Pick.B6 = true := by kernel_rfl
def corncribref02_Pick.T16 : Bool × List (List Nat × List Nat) := (true, [([], []), ([], []), ([1], [1]), ([], []), ([], []), ([3, 4], [3, 4]), ([5], [5]), ([2, 6], [2, 6]), ([7], [7]), ([0, 8], [0, 8]), ([9, 2, 0, 1, 2, 3, 4, 5, 6, 7, 8, 9], [0, 9])])
def corncribref02_Pick.B16 : List Nat := [0, 0, 2, 0, 0, 24, 56, 126, 254, 511, 1023]
theorem corncribref02_Pick.tab16 : rtab .any (opsOf Try.f15 16) = corncribref02_Pick.T16 := by kernel_rfl
theorem corncribref02_Pick.bits16 : waitsOk corncribref02_Pick.T16.2 corncribref02_Pick.B16 = true := by kernel_rfl
set_option maxHeartbeats 8000000 in
set_option maxRecDepth 100000 in
theorem corncribref02_Pick.calls (k : Nat) (a0_0 : Int) (a0_1 : Int) (a0_2 : ByteArray) (A1 : Option Addr) (c1 : Nat) (l1 : List Int) (r1 : Int) (r2 : Int) (r3 : ByteArray) (r4 : Int) (w : World) (hr1 : Kd.C (Kd.int .i64) w A1 l1.length l1) (hc1 : l1.length ≤ c1) (h : corncribref02_Pick.f k a0_0 a0_1 a0_2 l1 = some (r1, r2, r3, r4)) :
  Calls Try.prog 15 #[.agg #[.int .i64 a0_0, .int .i64 a0_1, .string a0_2], .slice A1 l1.length c1] w fun e w' => e = .returned (.tuple #[.agg #[.int .i64 r1, .int .i64 r2, .string r3], .int .i64 r4]) ∧ Below w.heap.size w w' := by
 have hu24 := Try.underlying24
 have HR1 := Aside0.mk hr1
 have HC1 := Aside0.mk hc1
 clear hr1 hc1
 have HB := Aside0.mk (Below.refl w.heap.size w)
 have H : ((corncribref02_Check.f a0_0 a0_1 a0_2).bind fun t158 => (if t158 = 0 then (corncribref02_Pick.l0 k l1 0 a0_0 a0_1 a0_2) else (some (0, 0, (⟨#[]⟩ : ByteArray), 4)))) = some (r1, r2, r3, r4) := h
 clear h
 replace H := Option.bind_eq_some_iff.mp H
 obtain ⟨t158, A30, H⟩ := H
 replace H : (if t158 = 0 then (corncribref02_Pick.l0 k l1 0 a0_0 a0_1 a0_2) else (some (0, 0, (⟨#[]⟩ : ByteArray), 4))) = some (r1, r2, r3, r4) := H
 have A3 := Aside0.mk A30
 clear A30
 by_cases c4 : t158 = 0
 ·rw [if_pos c4] at H
  have c4b0 : (t158 == 0) = true := beq_iff_eq.mpr c4
  have c4b1 : (t158 != 0) = false := bne_eq_false_iff_eq.mpr c4
  clear c4
  have H' := Aside0.mk H
  clear H
  go_enter Try.func15, Try.ntmps15
  go_wp2_with (first | ((with_reducible refine gate_dst (N := 2) rfl ?_); refine box_event ?hg (N := 2) ?hd (cs := #[.int .i64 a0_0, .int .i64 a0_1, .string a0_2]) (t := 24) ?hr ?_; (case hd => rfl); (case hg => rfl); (case hr => first | (go_simp; done) | (go_simp; rfl)); intro gb156 hg w5 hbox hb; have n0_ := Aside0.mk (below_step (by repeat (first | (with_reducible first | exact HB.out | apply below_alloc | apply pw_below_drewN | apply below_drew1) | exact HB.out)) hb); have n1_ := Aside0.mk (hbox); have n2_ := Aside0.mk ((by rw [hg]; exact (below_size (by repeat (first | (with_reducible first | exact HB.out | apply below_alloc | apply pw_below_drewN | apply below_drew1) | exact HB.out))) : w.heap.size ≤ gb156)); have n3_ := Aside0.mk ((by rw [hg]; exact (below_size (by repeat (first | (with_reducible first | exact HB.out | apply below_alloc | apply pw_below_drewN | apply below_drew1) | exact HB.out))) : w.heap.size ≤ gb156)); clear HB; have HB := n0_; have BK156 := n1_; have GW156 := n2_; have GE156 := n3_; clear n0_ n1_ n2_ n3_; clear hb hbox hg) | ((with_reducible refine gate_dst (N := 4) rfl ?_); refine box_event ?hg (N := 4) ?hd (cs := #[.int .i64 0, .int .i64 0, .string (⟨#[]⟩ : ByteArray)]) (t := 24) ?hr ?_; (case hd => rfl); (case hg => rfl); (case hr => first | (go_simp; done) | (go_simp; rfl)); intro gb157 hg w6 hbox hb; have n0_ := Aside0.mk (blk_below (g := gb156) (o := .cells #[.int .i64 a0_0, .int .i64 a0_1, .string a0_2] 24 (0, 0)) (by (with_reducible repeat (first | refine blk_drewN ?_ _ | refine blk_drew ?_ | refine blk_alloc ?_ _)); exact BK156.out) hb); have n1_ := Aside0.mk (below_step (by repeat (first | (with_reducible first | exact HB.out | apply below_alloc | apply pw_below_drewN | apply below_drew1 | refine below_set ?_ GE156.out) | exact HB.out)) hb); have n2_ := Aside0.mk (hbox); have n3_ := Aside0.mk ((by rw [hg]; exact (below_size (by repeat (first | (with_reducible first | exact HB.out | apply below_alloc | apply pw_below_drewN | apply below_drew1 | refine below_set ?_ GE156.out) | exact HB.out))) : w.heap.size ≤ gb157)); have n4_ := Aside0.mk ((by rw [hg]; exact (below_size (by repeat (first | (with_reducible first | exact HB.out | apply below_alloc | apply pw_below_drewN | apply below_drew1 | refine below_set ?_ GE156.out) | exact HB.out))) : w.heap.size ≤ gb157)); have n5_ := Aside0.mk ((by rw [hg]; exact Nat.ne_of_lt (blk_lt (g := gb156) (o := .cells #[.int .i64 a0_0, .int .i64 a0_1, .string a0_2] 24 (0, 0)) (by (with_reducible repeat (first | refine blk_drewN ?_ _ | refine blk_drew ?_ | refine blk_alloc ?_ _)); exact BK156.out)) : gb156 ≠ gb157)); have n6_ := Aside0.mk ((by rw [hg]; exact Nat.ne_of_gt (blk_lt (g := gb156) (o := .cells #[.int .i64 a0_0, .int .i64 a0_1, .string a0_2] 24 (0, 0)) (by (with_reducible repeat (first | refine blk_drewN ?_ _ | refine blk_drew ?_ | refine blk_alloc ?_ _)); exact BK156.out)) : gb157 ≠ gb156)); clear BK156; clear HB; have BK156 := n0_; have HB := n1_; have BK157 := n2_; have GW157 := n3_; have GE157 := n4_; have NB156_157 := n5_; have NB157_156 := n6_; clear n0_ n1_ n2_ n3_ n4_ n5_ n6_; clear hb hbox hg; have hnb7 := NB156_157.out; have hnc7 := NB157_156.out; have hcz8_0 : w6.cell? ⟨gb156, 0, none⟩ = some (.int .i64 a0_0) := (blk_cell BK156.out 0).trans rfl; have hcz8_1 : w6.cell? ⟨gb156, 1, none⟩ = some (.int .i64 a0_1) := (blk_cell BK156.out 1).trans rfl; have hcz8_2 : w6.cell? ⟨gb156, 2, none⟩ = some (.string a0_2) := (blk_cell BK156.out 2).trans rfl; have hfz8_0 := blk_frozen BK156.out 0; have hfz8_1 := blk_frozen BK156.out 1; have hfz8_2 := blk_frozen BK156.out 2) | ((with_reducible refine gate_callee (f := 19) rfl ?_); refine goesL_ (some 10) rfl rfl Try.func19 (by kernel_rfl) rfl #[.agg #[.int .i64 a0_0, .int .i64 a0_1, .string a0_2]] rfl (by (try simp only [List.map_toArray, List.map_cons, List.map_nil]); first | done | rfl | (simp only [List.length_drop, List.length_take]; rfl)) ?_; (with_reducible refine (corncribref02_Check.calls a0_0 a0_1 a0_2 t158 _ A3.out).mono ?_); rintro e w9 ⟨rfl, hb⟩; refine ⟨_, rfl, ?_⟩; have n0_ := Aside0.mk (blk_below (g := gb156) (o := .cells #[.int .i64 a0_0, .int .i64 a0_1, .string a0_2] 24 (0, 0)) (by (with_reducible repeat (first | refine blk_drewN ?_ _ | refine blk_drew ?_ | refine blk_alloc ?_ _)); exact BK156.out) hb); have n1_ := Aside0.mk (blk_below (g := gb157) (o := .cells #[.int .i64 0, .int .i64 0, .string (⟨#[]⟩ : ByteArray)] 24 (0, 0)) (by (with_reducible repeat (first | refine blk_drewN ?_ _ | refine blk_drew ?_ | refine blk_alloc ?_ _)); exact BK157.out) hb); have n2_ := Aside0.mk (below_step (by repeat (first | (with_reducible first | exact HB.out | apply below_alloc | apply pw_below_drewN | apply below_drew1 | refine below_set ?_ GE156.out | refine below_set ?_ GE157.out) | exact HB.out)) hb); clear BK156; clear BK157; clear HB; have BK156 := n0_; have BK157 := n1_; have HB := n2_; clear n0_ n1_ n2_; (try clear hb); (try clear hb2); (try clear hk); (try clear hi)))
  go_loopg [6] k (fun kq v6 w' => ∃ (x6_1 : Int) (x158000_1 : Int) (x158001_1 : Int) (x158002_1 : ByteArray), v6 = .int .i64 x6_1 ∧ Aside0 (corncribref02_Pick.l0 kq l1 x6_1 a0_0 a0_1 a0_2 = some (r1, r2, r3, r4)) ∧ Aside0 (kq ≤ k) ∧ Aside0 (w'.heap[gb156]? = some (.cells #[.int .i64 a0_0, .int .i64 a0_1, .string a0_2] 24 (0, 0))) ∧ Aside0 (w'.heap[gb157]? = some (.cells #[.int .i64 x158000_1, .int .i64 x158001_1, .string x158002_1] 24 (0, 0))) ∧ Aside0 (Below w.heap.size w w'))
  case atStart => exact ⟨(0), (0), (0), ((⟨#[]⟩ : ByteArray)), (by first | rfl | (simp; done) | (simp [*]; done)), H', ⟨Nat.le_refl _⟩, ⟨by (with_reducible repeat (first | refine blk_drewN ?_ _ | refine blk_drew ?_ | refine blk_alloc ?_ _)); exact BK156.out⟩, ⟨by (with_reducible repeat (first | refine blk_drewN ?_ _ | refine blk_drew ?_ | refine blk_alloc ?_ _)); exact BK157.out⟩, ⟨by repeat (first | (with_reducible first | exact HB.out | apply below_alloc | apply pw_below_drewN | apply below_drew1 | refine below_set ?_ GE156.out | refine below_set ?_ GE157.out) | exact HB.out)⟩⟩
  case round =>
   clear H'
   (try clear c1); (try clear p2); (try clear c4); (try clear c4b0); (try clear c4b1); (try clear c7); (try clear hcz8_0); (try clear hcz8_1); (try clear hcz8_2); (try clear hfz8_0); (try clear hfz8_1); (try clear hfz8_2)
   obtain ⟨x6_1, x158000_1, x158001_1, x158002_1, rfl, HA, HK1, BK156, BK157, HB⟩ := hrel
   cases gk with
   |zero => exact absurd HA.out (by simp [corncribref02_Pick.l0])
   |succ k1 =>
    have H := HA.out
    clear HA
    simp only [corncribref02_Pick.l0] at H
    by_cases c10 : x6_1 < (l1.length : Int)
    ·rw [if_pos c10] at H
     have c10b0 : decide (x6_1 < (l1.length : Int)) = true := decide_eq_true c10
     clear c10
     by_cases c11 : 0 ≤ x6_1
     ·rw [if_pos c11] at H
      have c11b0 : decide (0 ≤ x6_1) = true := decide_eq_true c11
      clear c11
      by_cases c12 : (rd l1 x6_1) < 0
      ·rw [if_pos c12] at H
       have c12b0 : decide ((rd l1 x6_1) < 0) = true := decide_eq_true c12
       clear c12
       simp only [Option.some.injEq, Prod.mk.injEq] at H
       obtain ⟨rfl, rfl, rfl, rfl⟩ := H
       try go_wp2
       have n0_ := Aside0.mk (blk_drew BK156.out)
       have n1_ := Aside0.mk (blk_drew BK157.out)
       have n2_ := Aside0.mk (below_drew1 HB.out)
       clear BK156
       clear BK157
       clear HB
       have BK156 := n0_
       have BK157 := n1_
       have HB := n2_
       clear n0_ n1_ n2_
       have p159 : 0 ≤ (x6_1 : Int) := of_decide_eq_true (by first | (with_reducible assumption) | assumption)
       have q159 : x6_1 < (l1.length : Int) := of_decide_eq_true (by first | (with_reducible assumption) | assumption)
       obtain ⟨ad159, e159, hx159_0⟩ := Kd.at_int HR1.out x6_1 p159 q159
       have hw159_0 := hx159_0
       cases e159
       replace hx159_0 := (HB.out.cell (World.block_lt_of_cell? w _ hx159_0)).trans hx159_0
       replace p159 := eq_true p159
       replace q159 := eq_true q159
       refine start_ (n := 14) (S := fun w' => w'.cell? (ad159.add (x6_1).toNat) = some (.int .i64 (rd l1 x6_1))) (ds := []) #[false, false, false, false, false, false, false, false, false, false, false, false, false, false] (by kernel_rfl) rfl rfl (((HB.out.cell (World.block_lt_of_cell? w _ hw159_0)).trans hw159_0)) (fun hHeld => ?_); refine with_tabW corncribref02_Pick.tab6 corncribref02_Pick.bits6 (fun HT_ HW_ => ?_)
       generalize wr.drew = w13 at BK156 BK157 HB hx159_0 hHeld ⊢
       refine pure_ (i := 0) (N := some 19) (v := ?_) (a' := ?_) #[true, false, false, false, false, false, false, false, false, false, false, false, false, false] rfl rfl (any_of HT_.out (by kernel_rfl)) (fun _ _ _ h => h) (Or.inl ⟨by rfl, ?_⟩) ?_ ?_
       rotate_left
       ·intro w'
        go_simp
        with_reducible rfl
       rotate_left
       ·simp only [Act.put, List.setIfInBounds_toArray, List.set_cons_zero, List.set_cons_succ, i64_w, i32_w]
        rfl
       refine pure_ (i := 1) (N := some 20) (v := ?_) (a' := ?_) #[true, true, false, false, false, false, false, false, false, false, false, false, false, false] rfl rfl (any_of HT_.out (by kernel_rfl)) (fun _ _ _ h => h) (Or.inl ⟨by rfl, ?_⟩) ?_ ?_
       rotate_left
       ·intro w'
        go_simp
        with_reducible rfl
       rotate_left
       ·simp only [Act.put, List.setIfInBounds_toArray, List.set_cons_zero, List.set_cons_succ, i64_w, i32_w]
        rfl
       refine pure_ (i := 2) (N := some 21) (v := ?_) (a' := ?_) #[true, true, true, false, false, false, false, false, false, false, false, false, false, false] rfl rfl (any_of HT_.out (by kernel_rfl)) (fun _ _ _ h => h) (Or.inl ⟨by rfl, ?_⟩) ?_ ?_
       rotate_left
       ·intro w'
        go_simp
        with_reducible rfl
       rotate_left
       ·simp only [Act.put, List.setIfInBounds_toArray, List.set_cons_zero, List.set_cons_succ, i64_w, i32_w]
        rfl
       refine take_ (i := 3) (N := some 22) (v := ?_) (a' := ?_) #[true, true, true, true, false, false, false, false, false, false, false, false, false, false] rfl rfl (take_ofW HT_.out HW_.out (by kernel_rfl)) (fun _ _ _ h => h) (Or.inl ⟨by rfl, ?_⟩) hHeld ?_ ?_
       rotate_left
       ·intro w' s0
        go_simp
        with_reducible rfl
       rotate_left
       ·simp only [Act.put, List.setIfInBounds_toArray, List.set_cons_zero, List.set_cons_succ, i64_w, i32_w]
        rfl
       refine pure_ (i := 4) (N := some 23) (v := ?_) (a' := ?_) #[true, true, true, true, true, false, false, false, false, false, false, false, false, false] rfl rfl (any_of HT_.out (by kernel_rfl)) (fun _ _ _ h => h) (Or.inl ⟨by rfl, ?_⟩) ?_ ?_
       rotate_left
       ·intro w'
        go_simp
        with_reducible rfl
       rotate_left
       ·simp only [Act.put, List.setIfInBounds_toArray, List.set_cons_zero, List.set_cons_succ, i64_w, i32_w]
        rfl
       refine pure_ (i := 5) (N := some 24) (v := ?_) (a' := ?_) #[true, true, true, true, true, true, false, false, false, false, false, false, false, false] rfl rfl (any_of HT_.out (by kernel_rfl)) (fun _ _ _ h => h) (Or.inl ⟨by rfl, ?_⟩) ?_ ?_
       rotate_left
       ·intro w'
        go_simp
        with_reducible rfl
       rotate_left
       ·simp only [Act.put, List.setIfInBounds_toArray, List.set_cons_zero, List.set_cons_succ, i64_w, i32_w]
        rfl
       refine pure_ (i := 6) (N := some 25) (v := undef) (a' := ?_) #[true, true, true, true, true, true, true, false, false, false, false, false, false, false] rfl rfl (any_of HT_.out (by kernel_rfl)) (fun _ _ _ h => h) (Or.inr ⟨by rfl, rfl⟩) ?_ ?_
       rotate_left
       ·simp only [Act.put, List.setIfInBounds_toArray, List.set_cons_zero, List.set_cons_succ, i64_w, i32_w]
        rfl
       refine pure_ (i := 7) (N := some 26) (v := undef) (a' := ?_) #[true, true, true, true, true, true, true, true, false, false, false, false, false, false] rfl rfl (any_of HT_.out (by kernel_rfl)) (fun _ _ _ h => h) (Or.inr ⟨by rfl, rfl⟩) ?_ ?_
       rotate_left
       ·simp only [Act.put, List.setIfInBounds_toArray, List.set_cons_zero, List.set_cons_succ, i64_w, i32_w]
        rfl
       refine pure_ (i := 8) (N := some 27) (v := undef) (a' := ?_) #[true, true, true, true, true, true, true, true, true, false, false, false, false, false] rfl rfl (any_of HT_.out (by kernel_rfl)) (fun _ _ _ h => h) (Or.inr ⟨by rfl, rfl⟩) ?_ ?_
       rotate_left
       ·simp only [Act.put, List.setIfInBounds_toArray, List.set_cons_zero, List.set_cons_succ, i64_w, i32_w]
        rfl
       refine pure_ (i := 9) (N := some 28) (v := undef) (a' := ?_) #[true, true, true, true, true, true, true, true, true, true, false, false, false, false] rfl rfl (any_of HT_.out (by kernel_rfl)) (fun _ _ _ h => h) (Or.inr ⟨by rfl, rfl⟩) ?_ ?_
       rotate_left
       ·simp only [Act.put, List.setIfInBounds_toArray, List.set_cons_zero, List.set_cons_succ, i64_w, i32_w]
        rfl
       refine pure_ (i := 10) (N := some 29) (v := undef) (a' := ?_) #[true, true, true, true, true, true, true, true, true, true, true, false, false, false] rfl rfl (any_of HT_.out (by kernel_rfl)) (fun _ _ _ h => h) (Or.inr ⟨by rfl, rfl⟩) ?_ ?_
       rotate_left
       ·simp only [Act.put, List.setIfInBounds_toArray, List.set_cons_zero, List.set_cons_succ, i64_w, i32_w]
        rfl
       refine pure_ (i := 11) (N := some 30) (v := undef) (a' := ?_) #[true, true, true, true, true, true, true, true, true, true, true, true, false, false] rfl rfl (any_of HT_.out (by kernel_rfl)) (fun _ _ _ h => h) (Or.inr ⟨by rfl, rfl⟩) ?_ ?_
       rotate_left
       ·simp only [Act.put, List.setIfInBounds_toArray, List.set_cons_zero, List.set_cons_succ, i64_w, i32_w]
        rfl
       refine pure_ (i := 12) (N := some 31) (v := undef) (a' := ?_) #[true, true, true, true, true, true, true, true, true, true, true, true, true, false] rfl rfl (any_of HT_.out (by kernel_rfl)) (fun _ _ _ h => h) (Or.inr ⟨by rfl, rfl⟩) ?_ ?_
       rotate_left
       ·simp only [Act.put, List.setIfInBounds_toArray, List.set_cons_zero, List.set_cons_succ, i64_w, i32_w]
        rfl
       refine pure_ (i := 13) (N := some 32) (v := ?_) (a' := ?_) #[true, true, true, true, true, true, true, true, true, true, true, true, true, true] rfl rfl (any_of HT_.out (by kernel_rfl)) (fun _ _ _ h => h) (Or.inl ⟨by rfl, ?_⟩) ?_ ?_
       rotate_left
       ·intro w'
        go_simp
        with_reducible rfl
       rotate_left
       ·simp only [Act.put, List.setIfInBounds_toArray, List.set_cons_zero, List.set_cons_succ, i64_w, i32_w]
        rfl
       refine done_ (done_of HT_.out (by kernel_rfl)) ?_
       have hnb14 := NB157_156.out
       have hnc14 := NB156_157.out
       obtain ⟨hcz15_0, hfz15_0, hcz15_1, hfz15_1, hcz15_2, hfz15_2⟩ := cfz3 BK157.out
       try go_wp2
       refine bodyPost_ret (results_ct rfl _ _ gb157 24 #[.int .i64 0, .int .i64 0, .string (⟨#[]⟩ : ByteArray)] (0, 0) _ rfl (by (with_reducible repeat (first | refine blk_drewN ?_ _ | refine blk_drew ?_ | refine blk_alloc ?_ _)); refine blk_put (cs := #[.int .i64 0, .int .i64 0, .string x158002_1]) ?_ 2 _ rfl; (with_reducible repeat (first | refine blk_drewN ?_ _ | refine blk_drew ?_ | refine blk_alloc ?_ _)); refine blk_put (cs := #[.int .i64 0, .int .i64 x158001_1, .string x158002_1]) ?_ 1 _ rfl; (with_reducible repeat (first | refine blk_drewN ?_ _ | refine blk_drew ?_ | refine blk_alloc ?_ _)); refine blk_put (cs := #[.int .i64 x158000_1, .int .i64 x158001_1, .string x158002_1]) ?_ 0 _ rfl; (with_reducible repeat (first | refine blk_drewN ?_ _ | refine blk_drew ?_ | refine blk_alloc ?_ _)); exact BK157.out) Try.underlying24 rfl (by kernel_rfl)) rfl ?_
       exact ⟨by first | rfl | (simp [errW_none, errW_some] <;> rfl) | (simp [*, errW_none, errW_some] <;> rfl), by repeat (first | (with_reducible first | exact HB.out | apply below_alloc | apply pw_below_drewN | apply below_drew1 | refine below_set ?_ GE156.out | refine below_set ?_ GE157.out) | exact HB.out)⟩
      ·rw [if_neg c12] at H
       have c12b0 : decide ((rd l1 x6_1) < 0) = false := decide_eq_false c12
       clear c12
       by_cases c16 : (rd l1 x6_1) ≥ a0_0
       ·rw [if_pos c16] at H
        have c16b0 : decide (a0_0 ≤ (rd l1 x6_1)) = true := decide_eq_true c16
        clear c16
        simp only [Option.some.injEq, Prod.mk.injEq] at H
        obtain ⟨rfl, rfl, rfl, rfl⟩ := H
        try go_wp2
        have n0_ := Aside0.mk (blk_drew BK156.out)
        have n1_ := Aside0.mk (blk_drew BK157.out)
        have n2_ := Aside0.mk (below_drew1 HB.out)
        clear BK156
        clear BK157
        clear HB
        have BK156 := n0_
        have BK157 := n1_
        have HB := n2_
        clear n0_ n1_ n2_
        have p159 : 0 ≤ (x6_1 : Int) := of_decide_eq_true (by first | (with_reducible assumption) | assumption)
        have q159 : x6_1 < (l1.length : Int) := of_decide_eq_true (by first | (with_reducible assumption) | assumption)
        obtain ⟨ad159, e159, hx159_0⟩ := Kd.at_int HR1.out x6_1 p159 q159
        have hw159_0 := hx159_0
        cases e159
        replace hx159_0 := (HB.out.cell (World.block_lt_of_cell? w _ hx159_0)).trans hx159_0
        replace p159 := eq_true p159
        replace q159 := eq_true q159
        have p160 : 0 ≤ (x6_1 : Int) := of_decide_eq_true (by first | (with_reducible assumption) | assumption)
        have q160 : x6_1 < (l1.length : Int) := of_decide_eq_true (by first | (with_reducible assumption) | assumption)
        obtain ⟨ad160, e160, hx160_0⟩ := Kd.at_int HR1.out x6_1 p160 q160
        have hw160_0 := hx160_0
        obtain rfl : ad159 = ad160 := (by injection e160)
        replace hx160_0 := (HB.out.cell (World.block_lt_of_cell? w _ hx160_0)).trans hx160_0
        replace p160 := eq_true p160
        replace q160 := eq_true q160
        refine start_ (n := 14) (S := fun w' => w'.cell? ⟨gb156, 0, none⟩ = some (.int .i64 a0_0) ∧ w'.cell? ⟨gb156, 1, none⟩ = some (.int .i64 a0_1) ∧ w'.cell? ⟨gb156, 2, none⟩ = some (.string a0_2) ∧ w'.cell? (ad159.add (x6_1).toNat) = some (.int .i64 (rd l1 x6_1)) ∧ w'.cell? (ad159.add (x6_1).toNat) = some (.int .i64 (rd l1 x6_1))) (ds := []) #[false, false, false, false, false, false, false, false, false, false, false, false, false, false] (by kernel_rfl) rfl rfl ⟨(blk_cell BK156.out 0).trans rfl, (blk_cell BK156.out 1).trans rfl, (blk_cell BK156.out 2).trans rfl, ((HB.out.cell (World.block_lt_of_cell? w _ hw159_0)).trans hw159_0), ((HB.out.cell (World.block_lt_of_cell? w _ hw160_0)).trans hw160_0)⟩ (fun hHeld => ?_); refine with_tabW corncribref02_Pick.tab6 corncribref02_Pick.bits6 (fun HT_ HW_ => ?_)
        generalize wr.drew = w17 at BK156 BK157 HB hx159_0 hx160_0 hHeld ⊢
        refine pure_ (i := 0) (N := some 19) (v := ?_) (a' := ?_) #[true, false, false, false, false, false, false, false, false, false, false, false, false, false] rfl rfl (any_of HT_.out (by kernel_rfl)) (fun _ _ _ h => h) (Or.inl ⟨by rfl, ?_⟩) ?_ ?_
        rotate_left
        ·intro w'
         go_simp
         with_reducible rfl
        rotate_left
        ·simp only [Act.put, List.setIfInBounds_toArray, List.set_cons_zero, List.set_cons_succ, i64_w, i32_w]
         rfl
        refine pure_ (i := 1) (N := some 20) (v := ?_) (a' := ?_) #[true, true, false, false, false, false, false, false, false, false, false, false, false, false] rfl rfl (any_of HT_.out (by kernel_rfl)) (fun _ _ _ h => h) (Or.inl ⟨by rfl, ?_⟩) ?_ ?_
        rotate_left
        ·intro w'
         go_simp
         with_reducible rfl
        rotate_left
        ·simp only [Act.put, List.setIfInBounds_toArray, List.set_cons_zero, List.set_cons_succ, i64_w, i32_w]
         rfl
        refine pure_ (i := 2) (N := some 21) (v := ?_) (a' := ?_) #[true, true, true, false, false, false, false, false, false, false, false, false, false, false] rfl rfl (any_of HT_.out (by kernel_rfl)) (fun _ _ _ h => h) (Or.inl ⟨by rfl, ?_⟩) ?_ ?_
        rotate_left
        ·intro w'
         go_simp
         with_reducible rfl
        rotate_left
        ·simp only [Act.put, List.setIfInBounds_toArray, List.set_cons_zero, List.set_cons_succ, i64_w, i32_w]
         rfl
        refine take_ (i := 3) (N := some 22) (v := ?_) (a' := ?_) #[true, true, true, true, false, false, false, false, false, false, false, false, false, false] rfl rfl (take_ofW HT_.out HW_.out (by kernel_rfl)) (fun _ _ _ h => h) (Or.inl ⟨by rfl, ?_⟩) hHeld ?_ ?_
        rotate_left
        ·rintro w' ⟨s0, s1, s2, s3, s4⟩
         go_simp
         with_reducible rfl
        rotate_left
        ·simp only [Act.put, List.setIfInBounds_toArray, List.set_cons_zero, List.set_cons_succ, i64_w, i32_w]
         rfl
        refine pure_ (i := 4) (N := some 23) (v := ?_) (a' := ?_) #[true, true, true, true, true, false, false, false, false, false, false, false, false, false] rfl rfl (any_of HT_.out (by kernel_rfl)) (fun _ _ _ h => h) (Or.inl ⟨by rfl, ?_⟩) ?_ ?_
        rotate_left
        ·intro w'
         go_simp
         with_reducible rfl
        rotate_left
        ·simp only [Act.put, List.setIfInBounds_toArray, List.set_cons_zero, List.set_cons_succ, i64_w, i32_w]
         rfl
        refine pure_ (i := 5) (N := some 24) (v := ?_) (a' := ?_) #[true, true, true, true, true, true, false, false, false, false, false, false, false, false] rfl rfl (any_of HT_.out (by kernel_rfl)) (fun _ _ _ h => h) (Or.inl ⟨by rfl, ?_⟩) ?_ ?_
        rotate_left
        ·intro w'
         go_simp
         with_reducible rfl
        rotate_left
        ·simp only [Act.put, List.setIfInBounds_toArray, List.set_cons_zero, List.set_cons_succ, i64_w, i32_w]
         rfl
        refine pure_ (i := 6) (N := some 25) (v := ?_) (a' := ?_) #[true, true, true, true, true, true, true, false, false, false, false, false, false, false] rfl rfl (any_of HT_.out (by kernel_rfl)) (fun _ _ _ h => h) (Or.inl ⟨by rfl, ?_⟩) ?_ ?_
        rotate_left
        ·intro w'
         go_simp
         with_reducible rfl
        rotate_left
        ·simp only [Act.put, List.setIfInBounds_toArray, List.set_cons_zero, List.set_cons_succ, i64_w, i32_w]
         rfl
        refine pure_ (i := 7) (N := some 26) (v := ?_) (a' := ?_) #[true, true, true, true, true, true, true, true, false, false, false, false, false, false] rfl rfl (any_of HT_.out (by kernel_rfl)) (fun _ _ _ h => h) (Or.inl ⟨by rfl, ?_⟩) ?_ ?_
        rotate_left
        ·intro w'
         go_simp
         with_reducible rfl
        rotate_left
        ·simp only [Act.put, List.setIfInBounds_toArray, List.set_cons_zero, List.set_cons_succ, i64_w, i32_w]
         rfl
        refine pure_ (i := 8) (N := some 27) (v := ?_) (a' := ?_) #[true, true, true, true, true, true, true, true, true, false, false, false, false, false] rfl rfl (any_of HT_.out (by kernel_rfl)) (fun _ _ _ h => h) (Or.inl ⟨by rfl, ?_⟩) ?_ ?_
        rotate_left
        ·intro w'
         go_simp
         with_reducible rfl
        rotate_left
        ·simp only [Act.put, List.setIfInBounds_toArray, List.set_cons_zero, List.set_cons_succ, i64_w, i32_w]
         rfl
        refine pure_ (i := 10) (N := some 29) (v := ?_) (a' := ?_) #[true, true, true, true, true, true, true, true, true, false, true, false, false, false] rfl rfl (any_of HT_.out (by kernel_rfl)) (fun _ _ _ h => h) (Or.inl ⟨by rfl, ?_⟩) ?_ ?_
        rotate_left
        ·intro w'
         go_simp
         with_reducible rfl
        rotate_left
        ·simp only [Act.put, List.setIfInBounds_toArray, List.set_cons_zero, List.set_cons_succ, i64_w, i32_w]
         rfl
        refine take_ (i := 9) (N := some 28) (v := ?_) (a' := ?_) #[true, true, true, true, true, true, true, true, true, true, true, false, false, false] rfl rfl (take_ofW HT_.out HW_.out (by kernel_rfl)) (fun _ _ _ h => h) (Or.inl ⟨by rfl, ?_⟩) hHeld ?_ ?_
        rotate_left
        ·rintro w' ⟨s0, s1, s2, s3, s4⟩
         go_simp
         with_reducible rfl
        rotate_left
        ·simp only [Act.put, List.setIfInBounds_toArray, List.set_cons_zero, List.set_cons_succ, i64_w, i32_w]
         rfl
        refine take_ (i := 11) (N := some 30) (v := ?_) (a' := ?_) #[true, true, true, true, true, true, true, true, true, true, true, true, false, false] rfl rfl (take_ofW HT_.out HW_.out (by kernel_rfl)) (fun _ _ _ h => h) (Or.inl ⟨by rfl, ?_⟩) hHeld ?_ ?_
        rotate_left
        ·rintro w' ⟨s0, s1, s2, s3, s4⟩
         go_simp
         with_reducible rfl
        rotate_left
        ·simp only [Act.put, List.setIfInBounds_toArray, List.set_cons_zero, List.set_cons_succ, i64_w, i32_w]
         rfl
        refine pure_ (i := 12) (N := some 31) (v := ?_) (a' := ?_) #[true, true, true, true, true, true, true, true, true, true, true, true, true, false] rfl rfl (any_of HT_.out (by kernel_rfl)) (fun _ _ _ h => h) (Or.inl ⟨by rfl, ?_⟩) ?_ ?_
        rotate_left
        ·intro w'
         go_simp
         with_reducible rfl
        rotate_left
        ·simp only [Act.put, List.setIfInBounds_toArray, List.set_cons_zero, List.set_cons_succ, i64_w, i32_w]
         rfl
        refine pure_ (i := 13) (N := some 32) (v := ?_) (a' := ?_) #[true, true, true, true, true, true, true, true, true, true, true, true, true, true] rfl rfl (any_of HT_.out (by kernel_rfl)) (fun _ _ _ h => h) (Or.inl ⟨by rfl, ?_⟩) ?_ ?_
        rotate_left
        ·intro w'
         go_simp
         with_reducible rfl
        rotate_left
        ·simp only [Act.put, List.setIfInBounds_toArray, List.set_cons_zero, List.set_cons_succ, i64_w, i32_w]
         rfl
        refine done_ (done_of HT_.out (by kernel_rfl)) ?_
        have hnb18 := NB157_156.out
        have hnc18 := NB156_157.out
        obtain ⟨hcz19_0, hfz19_0, hcz19_1, hfz19_1, hcz19_2, hfz19_2⟩ := cfz3 BK157.out
        try go_wp2
        refine bodyPost_ret (results_ct rfl _ _ gb157 24 #[.int .i64 0, .int .i64 0, .string (⟨#[]⟩ : ByteArray)] (0, 0) _ rfl (by (with_reducible repeat (first | refine blk_drewN ?_ _ | refine blk_drew ?_ | refine blk_alloc ?_ _)); refine blk_put (cs := #[.int .i64 0, .int .i64 0, .string x158002_1]) ?_ 2 _ rfl; (with_reducible repeat (first | refine blk_drewN ?_ _ | refine blk_drew ?_ | refine blk_alloc ?_ _)); refine blk_put (cs := #[.int .i64 0, .int .i64 x158001_1, .string x158002_1]) ?_ 1 _ rfl; (with_reducible repeat (first | refine blk_drewN ?_ _ | refine blk_drew ?_ | refine blk_alloc ?_ _)); refine blk_put (cs := #[.int .i64 x158000_1, .int .i64 x158001_1, .string x158002_1]) ?_ 0 _ rfl; (with_reducible repeat (first | refine blk_drewN ?_ _ | refine blk_drew ?_ | refine blk_alloc ?_ _)); exact BK157.out) Try.underlying24 rfl (by kernel_rfl)) rfl ?_
        exact ⟨by first | rfl | (simp [errW_none, errW_some] <;> rfl) | (simp [*, errW_none, errW_some] <;> rfl), by repeat (first | (with_reducible first | exact HB.out | apply below_alloc | apply pw_below_drewN | apply below_drew1 | refine below_set ?_ GE156.out | refine below_set ?_ GE157.out) | exact HB.out)⟩
       ·rw [if_neg c16] at H
        have c16b0 : decide (a0_0 ≤ (rd l1 x6_1)) = false := decide_eq_false c16
        clear c16
        have H' := Aside0.mk H
        clear H
        try go_wp2
        have n0_ := Aside0.mk (blk_drew BK156.out)
        have n1_ := Aside0.mk (blk_drew BK157.out)
        have n2_ := Aside0.mk (below_drew1 HB.out)
        clear BK156
        clear BK157
        clear HB
        have BK156 := n0_
        have BK157 := n1_
        have HB := n2_
        clear n0_ n1_ n2_
        have p159 : 0 ≤ (x6_1 : Int) := of_decide_eq_true (by first | (with_reducible assumption) | assumption)
        have q159 : x6_1 < (l1.length : Int) := of_decide_eq_true (by first | (with_reducible assumption) | assumption)
        obtain ⟨ad159, e159, hx159_0⟩ := Kd.at_int HR1.out x6_1 p159 q159
        have hw159_0 := hx159_0
        cases e159
        replace hx159_0 := (HB.out.cell (World.block_lt_of_cell? w _ hx159_0)).trans hx159_0
        replace p159 := eq_true p159
        replace q159 := eq_true q159
        have p160 : 0 ≤ (x6_1 : Int) := of_decide_eq_true (by first | (with_reducible assumption) | assumption)
        have q160 : x6_1 < (l1.length : Int) := of_decide_eq_true (by first | (with_reducible assumption) | assumption)
        obtain ⟨ad160, e160, hx160_0⟩ := Kd.at_int HR1.out x6_1 p160 q160
        have hw160_0 := hx160_0
        obtain rfl : ad159 = ad160 := (by injection e160)
        replace hx160_0 := (HB.out.cell (World.block_lt_of_cell? w _ hx160_0)).trans hx160_0
        replace p160 := eq_true p160
        replace q160 := eq_true q160
        refine start_ (n := 14) (S := fun w' => w'.cell? ⟨gb156, 0, none⟩ = some (.int .i64 a0_0) ∧ w'.cell? ⟨gb156, 1, none⟩ = some (.int .i64 a0_1) ∧ w'.cell? ⟨gb156, 2, none⟩ = some (.string a0_2) ∧ w'.cell? (ad159.add (x6_1).toNat) = some (.int .i64 (rd l1 x6_1)) ∧ w'.cell? (ad159.add (x6_1).toNat) = some (.int .i64 (rd l1 x6_1))) (ds := []) #[false, false, false, false, false, false, false, false, false, false, false, false, false, false] (by kernel_rfl) rfl rfl ⟨(blk_cell BK156.out 0).trans rfl, (blk_cell BK156.out 1).trans rfl, (blk_cell BK156.out 2).trans rfl, ((HB.out.cell (World.block_lt_of_cell? w _ hw159_0)).trans hw159_0), ((HB.out.cell (World.block_lt_of_cell? w _ hw160_0)).trans hw160_0)⟩ (fun hHeld => ?_); refine with_tabW corncribref02_Pick.tab6 corncribref02_Pick.bits6 (fun HT_ HW_ => ?_)
        generalize wr.drew = w20 at BK156 BK157 HB hx159_0 hx160_0 hHeld ⊢
        refine pure_ (i := 0) (N := some 19) (v := ?_) (a' := ?_) #[true, false, false, false, false, false, false, false, false, false, false, false, false, false] rfl rfl (any_of HT_.out (by kernel_rfl)) (fun _ _ _ h => h) (Or.inl ⟨by rfl, ?_⟩) ?_ ?_
        rotate_left
        ·intro w'
         go_simp
         with_reducible rfl
        rotate_left
        ·simp only [Act.put, List.setIfInBounds_toArray, List.set_cons_zero, List.set_cons_succ, i64_w, i32_w]
         rfl
        refine pure_ (i := 1) (N := some 20) (v := ?_) (a' := ?_) #[true, true, false, false, false, false, false, false, false, false, false, false, false, false] rfl rfl (any_of HT_.out (by kernel_rfl)) (fun _ _ _ h => h) (Or.inl ⟨by rfl, ?_⟩) ?_ ?_
        rotate_left
        ·intro w'
         go_simp
         with_reducible rfl
        rotate_left
        ·simp only [Act.put, List.setIfInBounds_toArray, List.set_cons_zero, List.set_cons_succ, i64_w, i32_w]
         rfl
        refine pure_ (i := 2) (N := some 21) (v := ?_) (a' := ?_) #[true, true, true, false, false, false, false, false, false, false, false, false, false, false] rfl rfl (any_of HT_.out (by kernel_rfl)) (fun _ _ _ h => h) (Or.inl ⟨by rfl, ?_⟩) ?_ ?_
        rotate_left
        ·intro w'
         go_simp
         with_reducible rfl
        rotate_left
        ·simp only [Act.put, List.setIfInBounds_toArray, List.set_cons_zero, List.set_cons_succ, i64_w, i32_w]
         rfl
        refine take_ (i := 3) (N := some 22) (v := ?_) (a' := ?_) #[true, true, true, true, false, false, false, false, false, false, false, false, false, false] rfl rfl (take_ofW HT_.out HW_.out (by kernel_rfl)) (fun _ _ _ h => h) (Or.inl ⟨by rfl, ?_⟩) hHeld ?_ ?_
        rotate_left
        ·rintro w' ⟨s0, s1, s2, s3, s4⟩
         go_simp
         with_reducible rfl
        rotate_left
        ·simp only [Act.put, List.setIfInBounds_toArray, List.set_cons_zero, List.set_cons_succ, i64_w, i32_w]
         rfl
        refine pure_ (i := 4) (N := some 23) (v := ?_) (a' := ?_) #[true, true, true, true, true, false, false, false, false, false, false, false, false, false] rfl rfl (any_of HT_.out (by kernel_rfl)) (fun _ _ _ h => h) (Or.inl ⟨by rfl, ?_⟩) ?_ ?_
        rotate_left
        ·intro w'
         go_simp
         with_reducible rfl
        rotate_left
        ·simp only [Act.put, List.setIfInBounds_toArray, List.set_cons_zero, List.set_cons_succ, i64_w, i32_w]
         rfl
        refine pure_ (i := 5) (N := some 24) (v := ?_) (a' := ?_) #[true, true, true, true, true, true, false, false, false, false, false, false, false, false] rfl rfl (any_of HT_.out (by kernel_rfl)) (fun _ _ _ h => h) (Or.inl ⟨by rfl, ?_⟩) ?_ ?_
        rotate_left
        ·intro w'
         go_simp
         with_reducible rfl
        rotate_left
        ·simp only [Act.put, List.setIfInBounds_toArray, List.set_cons_zero, List.set_cons_succ, i64_w, i32_w]
         rfl
        refine pure_ (i := 6) (N := some 25) (v := ?_) (a' := ?_) #[true, true, true, true, true, true, true, false, false, false, false, false, false, false] rfl rfl (any_of HT_.out (by kernel_rfl)) (fun _ _ _ h => h) (Or.inl ⟨by rfl, ?_⟩) ?_ ?_
        rotate_left
        ·intro w'
         go_simp
         with_reducible rfl
        rotate_left
        ·simp only [Act.put, List.setIfInBounds_toArray, List.set_cons_zero, List.set_cons_succ, i64_w, i32_w]
         rfl
        refine pure_ (i := 7) (N := some 26) (v := ?_) (a' := ?_) #[true, true, true, true, true, true, true, true, false, false, false, false, false, false] rfl rfl (any_of HT_.out (by kernel_rfl)) (fun _ _ _ h => h) (Or.inl ⟨by rfl, ?_⟩) ?_ ?_
        rotate_left
        ·intro w'
         go_simp
         with_reducible rfl
        rotate_left
        ·simp only [Act.put, List.setIfInBounds_toArray, List.set_cons_zero, List.set_cons_succ, i64_w, i32_w]
         rfl
        refine pure_ (i := 8) (N := some 27) (v := ?_) (a' := ?_) #[true, true, true, true, true, true, true, true, true, false, false, false, false, false] rfl rfl (any_of HT_.out (by kernel_rfl)) (fun _ _ _ h => h) (Or.inl ⟨by rfl, ?_⟩) ?_ ?_
        rotate_left
        ·intro w'
         go_simp
         with_reducible rfl
        rotate_left
        ·simp only [Act.put, List.setIfInBounds_toArray, List.set_cons_zero, List.set_cons_succ, i64_w, i32_w]
         rfl
        refine pure_ (i := 10) (N := some 29) (v := ?_) (a' := ?_) #[true, true, true, true, true, true, true, true, true, false, true, false, false, false] rfl rfl (any_of HT_.out (by kernel_rfl)) (fun _ _ _ h => h) (Or.inl ⟨by rfl, ?_⟩) ?_ ?_
        rotate_left
        ·intro w'
         go_simp
         with_reducible rfl
        rotate_left
        ·simp only [Act.put, List.setIfInBounds_toArray, List.set_cons_zero, List.set_cons_succ, i64_w, i32_w]
         rfl
        refine take_ (i := 9) (N := some 28) (v := ?_) (a' := ?_) #[true, true, true, true, true, true, true, true, true, true, true, false, false, false] rfl rfl (take_ofW HT_.out HW_.out (by kernel_rfl)) (fun _ _ _ h => h) (Or.inl ⟨by rfl, ?_⟩) hHeld ?_ ?_
        rotate_left
        ·rintro w' ⟨s0, s1, s2, s3, s4⟩
         go_simp
         with_reducible rfl
        rotate_left
        ·simp only [Act.put, List.setIfInBounds_toArray, List.set_cons_zero, List.set_cons_succ, i64_w, i32_w]
         rfl
        refine take_ (i := 11) (N := some 30) (v := ?_) (a' := ?_) #[true, true, true, true, true, true, true, true, true, true, true, true, false, false] rfl rfl (take_ofW HT_.out HW_.out (by kernel_rfl)) (fun _ _ _ h => h) (Or.inl ⟨by rfl, ?_⟩) hHeld ?_ ?_
        rotate_left
        ·rintro w' ⟨s0, s1, s2, s3, s4⟩
         go_simp
         with_reducible rfl
        rotate_left
        ·simp only [Act.put, List.setIfInBounds_toArray, List.set_cons_zero, List.set_cons_succ, i64_w, i32_w]
         rfl
        refine pure_ (i := 12) (N := some 31) (v := ?_) (a' := ?_) #[true, true, true, true, true, true, true, true, true, true, true, true, true, false] rfl rfl (any_of HT_.out (by kernel_rfl)) (fun _ _ _ h => h) (Or.inl ⟨by rfl, ?_⟩) ?_ ?_
        rotate_left
        ·intro w'
         go_simp
         with_reducible rfl
        rotate_left
        ·simp only [Act.put, List.setIfInBounds_toArray, List.set_cons_zero, List.set_cons_succ, i64_w, i32_w]
         rfl
        refine pure_ (i := 13) (N := some 32) (v := ?_) (a' := ?_) #[true, true, true, true, true, true, true, true, true, true, true, true, true, true] rfl rfl (any_of HT_.out (by kernel_rfl)) (fun _ _ _ h => h) (Or.inl ⟨by rfl, ?_⟩) ?_ ?_
        rotate_left
        ·intro w'
         go_simp
         with_reducible rfl
        rotate_left
        ·simp only [Act.put, List.setIfInBounds_toArray, List.set_cons_zero, List.set_cons_succ, i64_w, i32_w]
         rfl
        refine done_ (done_of HT_.out (by kernel_rfl)) ?_
        try go_wp2
        go_roundg k1
        case measure => have := HK1.out; omega
        case rel => exact ⟨(wrap64 (x6_1 + 1)), (x158000_1), (x158001_1), (x158002_1), (by first | rfl | (simp; done) | (simp [*]; done)), H', ⟨by have := HK1.out; omega⟩, ⟨by (with_reducible repeat (first | refine blk_drewN ?_ _ | refine blk_drew ?_ | refine blk_alloc ?_ _)); exact BK156.out⟩, ⟨by (with_reducible repeat (first | refine blk_drewN ?_ _ | refine blk_drew ?_ | refine blk_alloc ?_ _)); exact BK157.out⟩, ⟨by repeat (first | (with_reducible first | exact HB.out | apply below_alloc | apply pw_below_drewN | apply below_drew1 | refine below_set ?_ GE156.out | refine below_set ?_ GE157.out) | exact HB.out)⟩⟩
     ·rw [if_neg c11] at H
      exact absurd H (by simp)
    ·rw [if_neg c10] at H
     have c10b0 : decide (x6_1 < (l1.length : Int)) = false := decide_eq_false c10
     clear c10
     by_cases c21 : (l1.length : Int) > 255
     ·rw [if_pos c21] at H
      have c21b0 : decide (255 < (l1.length : Int)) = true := decide_eq_true c21
      have c21b1 : decide (255 < l1.length) = true := decide_eq_true (by omega)
      clear c21
      simp only [Option.some.injEq, Prod.mk.injEq] at H
      obtain ⟨rfl, rfl, rfl, rfl⟩ := H
      have hnb22 := NB157_156.out
      have hnc22 := NB156_157.out
      obtain ⟨hcz23_0, hfz23_0, hcz23_1, hfz23_1, hcz23_2, hfz23_2⟩ := cfz3 BK157.out
      go_wp2
      refine bodyPost_ret (results_ct rfl _ _ gb157 24 #[.int .i64 0, .int .i64 0, .string (⟨#[]⟩ : ByteArray)] (0, 0) _ rfl (by (with_reducible repeat (first | refine blk_drewN ?_ _ | refine blk_drew ?_ | refine blk_alloc ?_ _)); refine blk_put (cs := #[.int .i64 0, .int .i64 0, .string x158002_1]) ?_ 2 _ rfl; (with_reducible repeat (first | refine blk_drewN ?_ _ | refine blk_drew ?_ | refine blk_alloc ?_ _)); refine blk_put (cs := #[.int .i64 0, .int .i64 x158001_1, .string x158002_1]) ?_ 1 _ rfl; (with_reducible repeat (first | refine blk_drewN ?_ _ | refine blk_drew ?_ | refine blk_alloc ?_ _)); refine blk_put (cs := #[.int .i64 x158000_1, .int .i64 x158001_1, .string x158002_1]) ?_ 0 _ rfl; (with_reducible repeat (first | refine blk_drewN ?_ _ | refine blk_drew ?_ | refine blk_alloc ?_ _)); exact BK157.out) Try.underlying24 rfl (by kernel_rfl)) rfl ?_
      exact ⟨by first | rfl | (simp [errW_none, errW_some] <;> rfl) | (simp [*, errW_none, errW_some] <;> rfl), by repeat (first | (with_reducible first | exact HB.out | apply below_alloc | apply pw_below_drewN | apply below_drew1 | refine below_set ?_ GE156.out | refine below_set ?_ GE157.out) | exact HB.out)⟩
     ·rw [if_neg c21] at H
      have c21b0 : decide (255 < (l1.length : Int)) = false := decide_eq_false c21
      have c21b1 : decide (255 < l1.length) = false := decide_eq_false (by omega)
      clear c21
      by_cases c24 : (l1.length : Int) = 0
      ·rw [if_pos c24] at H
       have c24b0 : ((l1.length : Int) == 0) = true := beq_iff_eq.mpr c24
       have c24b1 : ((l1.length : Int) != 0) = false := bne_eq_false_iff_eq.mpr c24
       clear c24
       simp only [Option.some.injEq, Prod.mk.injEq] at H
       obtain ⟨rfl, rfl, rfl, rfl⟩ := H
       have hnb25 := NB157_156.out
       have hnc25 := NB156_157.out
       obtain ⟨hcz26_0, hfz26_0, hcz26_1, hfz26_1, hcz26_2, hfz26_2⟩ := cfz3 BK157.out
       go_wp2
       refine bodyPost_ret (results_ct rfl _ _ gb157 24 #[.int .i64 0, .int .i64 0, .string (⟨#[]⟩ : ByteArray)] (0, 0) _ rfl (by (with_reducible repeat (first | refine blk_drewN ?_ _ | refine blk_drew ?_ | refine blk_alloc ?_ _)); refine blk_put (cs := #[.int .i64 0, .int .i64 0, .string x158002_1]) ?_ 2 _ rfl; (with_reducible repeat (first | refine blk_drewN ?_ _ | refine blk_drew ?_ | refine blk_alloc ?_ _)); refine blk_put (cs := #[.int .i64 0, .int .i64 x158001_1, .string x158002_1]) ?_ 1 _ rfl; (with_reducible repeat (first | refine blk_drewN ?_ _ | refine blk_drew ?_ | refine blk_alloc ?_ _)); refine blk_put (cs := #[.int .i64 x158000_1, .int .i64 x158001_1, .string x158002_1]) ?_ 0 _ rfl; (with_reducible repeat (first | refine blk_drewN ?_ _ | refine blk_drew ?_ | refine blk_alloc ?_ _)); exact BK157.out) Try.underlying24 rfl (by kernel_rfl)) rfl ?_
       exact ⟨by first | rfl | (simp [errW_none, errW_some] <;> rfl) | (simp [*, errW_none, errW_some] <;> rfl), by repeat (first | (with_reducible first | exact HB.out | apply below_alloc | apply pw_below_drewN | apply below_drew1 | refine below_set ?_ GE156.out | refine below_set ?_ GE157.out) | exact HB.out)⟩
      ·rw [if_neg c24] at H
       have c24b0 : ((l1.length : Int) == 0) = false := beq_eq_false_iff_ne.mpr c24
       have c24b1 : ((l1.length : Int) != 0) = true := bne_iff_ne.mpr c24
       have c24b2 : ¬ (l1 = []) := fun h_ => c24 (by rw [h_]; rfl)
       have H' := Aside0.mk H
       clear H
       go_wp2
       go_loopg [7, 8] k1 (fun kq v7 v8 w' => ∃ (x7_2 : ByteArray) (x8_2 : Int), v7 = .string x7_2 ∧ v8 = .int .i64 x8_2 ∧ Aside0 (corncribref02_Pick.l1 kq l1 x7_2 x8_2 a0_0 a0_1 a0_2 = some (r1, r2, r3, r4)) ∧ Aside0 (kq ≤ k1) ∧ Aside0 (w'.heap[gb156]? = some (.cells #[.int .i64 a0_0, .int .i64 a0_1, .string a0_2] 24 (0, 0))) ∧ Aside0 (w'.heap[gb157]? = some (.cells #[.int .i64 x158000_1, .int .i64 x158001_1, .string x158002_1] 24 (0, 0))) ∧ Aside0 (Below w.heap.size w w'))
       case atStart => exact ⟨((⟨#[]⟩ : ByteArray)), (0), (by first | rfl | (simp; done) | (simp [*]; done)), (by first | rfl | (simp; done) | (simp [*]; done)), H', ⟨Nat.le_refl _⟩, ⟨by (with_reducible repeat (first | refine blk_drewN ?_ _ | refine blk_drew ?_ | refine blk_alloc ?_ _)); exact BK156.out⟩, ⟨by (with_reducible repeat (first | refine blk_drewN ?_ _ | refine blk_drew ?_ | refine blk_alloc ?_ _)); exact BK157.out⟩, ⟨by repeat (first | (with_reducible first | exact HB.out | apply below_alloc | apply pw_below_drewN | apply below_drew1 | refine below_set ?_ GE156.out | refine below_set ?_ GE157.out) | exact HB.out)⟩⟩
       case round =>
        clear H'
        (try clear c1); (try clear p1); (try clear q1); (try clear hx1); (try clear c2); (try clear p2); (try clear c4); (try clear c4b0); (try clear c4b1); (try clear p6); (try clear c7); (try clear c10); (try clear c10b0); (try clear c11); (try clear c11b0); (try clear c12); (try clear c12b0); (try clear c14); (try clear c15); (try clear p15); (try clear q15); (try clear hx15); (try clear c16); (try clear c16b0); (try clear p16); (try clear q16); (try clear hx16); (try clear c18); (try clear c19); (try clear c21); (try clear c21b0); (try clear c21b1); (try clear c22); (try clear c24); (try clear c24b0); (try clear c24b1); (try clear c24b2); (try clear c25); (try clear hcz15_0); (try clear hcz15_1); (try clear hcz15_2); (try clear hcz19_0); (try clear hcz19_1); (try clear hcz19_2); (try clear hcz23_0); (try clear hcz23_1); (try clear hcz23_2); (try clear hcz26_0); (try clear hcz26_1); (try clear hcz26_2); (try clear hcz8_0); (try clear hcz8_1); (try clear hcz8_2); (try clear hfz15_0); (try clear hfz15_1); (try clear hfz15_2); (try clear hfz19_0); (try clear hfz19_1); (try clear hfz19_2); (try clear hfz23_0); (try clear hfz23_1); (try clear hfz23_2); (try clear hfz26_0); (try clear hfz26_1); (try clear hfz26_2); (try clear hfz8_0); (try clear hfz8_1); (try clear hfz8_2); (try clear hx159_0); (try clear hx160_0); (try clear p159); (try clear p160); (try clear p2); (try clear q159); (try clear q160)
        obtain ⟨x7_2, x8_2, rfl, rfl, HA, HK2, BK156, BK157, HB⟩ := hrel
        cases gk with
        |zero => exact absurd HA.out (by simp [corncribref02_Pick.l1])
        |succ k2 =>
         have H := HA.out
         clear HA
         simp only [corncribref02_Pick.l1] at H
         by_cases c27 : x8_2 < (l1.length : Int)
         ·rw [if_pos c27] at H
          have c27b0 : decide (x8_2 < (l1.length : Int)) = true := decide_eq_true c27
          clear c27
          replace H := Option.bind_eq_some_iff.mp H
          obtain ⟨t161, A280, H⟩ := H
          replace H : (if 0 ≤ x8_2 then (if 0 ≤ (rd l1 x8_2) then (if (rd l1 x8_2) < (t161.length : Int) then (if x7_2.size + (rdOf ByteArray.empty t161 (rd l1 x8_2)).size ≤ 9223372036854775807 then (corncribref02_Pick.l1 k2 l1 (x7_2 ++ (rdOf ByteArray.empty t161 (rd l1 x8_2))) (wrap64 (x8_2 + 1)) a0_0 a0_1 a0_2) else (none)) else (none)) else (none)) else (none)) = some (r1, r2, r3, r4) := H
          have A28 := Aside0.mk A280
          clear A280
          by_cases c29 : 0 ≤ x8_2
          ·rw [if_pos c29] at H
           have c29b0 : decide (0 ≤ x8_2) = true := decide_eq_true c29
           clear c29
           by_cases c30 : 0 ≤ (rd l1 x8_2)
           ·rw [if_pos c30] at H
            have c30b0 : decide (0 ≤ (rd l1 x8_2)) = true := decide_eq_true c30
            clear c30
            by_cases c31 : (rd l1 x8_2) < (t161.length : Int)
            ·rw [if_pos c31] at H
             have c31b0 : decide ((rd l1 x8_2) < (t161.length : Int)) = true := decide_eq_true c31
             clear c31
             by_cases c32 : x7_2.size + (rdOf ByteArray.empty t161 (rd l1 x8_2)).size ≤ 9223372036854775807
             ·rw [if_pos c32] at H
              have c32b0 := eq_true c32
              have c32b1 : decide (x7_2.size + (rdOf ByteArray.empty t161 (rd l1 x8_2)).size ≤ 9223372036854775807) = true := decide_eq_true c32
              try have c32b2 : (9223372036854775807 < x7_2.size + (rdOf ByteArray.empty t161 (rd l1 x8_2)).size) = False := eq_false (Nat.not_lt.2 c32)
              have H' := Aside0.mk H
              clear H
              try go_wp2
              have n0_ := Aside0.mk (blk_drew BK156.out)
              have n1_ := Aside0.mk (blk_drew BK157.out)
              have n2_ := Aside0.mk (below_drew1 HB.out)
              clear BK156
              clear BK157
              clear HB
              have BK156 := n0_
              have BK157 := n1_
              have HB := n2_
              clear n0_ n1_ n2_
              have p164 : 0 ≤ (x8_2 : Int) := of_decide_eq_true (by first | (with_reducible assumption) | assumption)
              have q164 : x8_2 < (l1.length : Int) := of_decide_eq_true (by first | (with_reducible assumption) | assumption)
              obtain ⟨ad164, e164, hx164_0⟩ := Kd.at_int HR1.out x8_2 p164 q164
              have hw164_0 := hx164_0
              cases e164
              replace hx164_0 := (HB.out.cell (World.block_lt_of_cell? w _ hx164_0)).trans hx164_0
              replace p164 := eq_true p164
              replace q164 := eq_true q164
              refine start_ (n := 11) (S := fun w' => w'.cell? ⟨gb156, 0, none⟩ = some (.int .i64 a0_0) ∧ w'.cell? ⟨gb156, 1, none⟩ = some (.int .i64 a0_1) ∧ w'.cell? ⟨gb156, 2, none⟩ = some (.string a0_2) ∧ w'.cell? (ad164.add (x8_2).toNat) = some (.int .i64 (rd l1 x8_2))) (ds := []) #[false, false, false, false, false, false, false, false, false, false, false] (by kernel_rfl) rfl rfl ⟨(blk_cell BK156.out 0).trans rfl, (blk_cell BK156.out 1).trans rfl, (blk_cell BK156.out 2).trans rfl, ((HB.out.cell (World.block_lt_of_cell? w _ hw164_0)).trans hw164_0)⟩ (fun hHeld => ?_); refine with_tabW corncribref02_Pick.tab16 corncribref02_Pick.bits16 (fun HT_ HW_ => ?_)
              generalize wr.drew = w33 at BK156 BK157 HB hx164_0 hHeld ⊢
              refine pure_ (i := 0) (N := some 48) (v := ?_) (a' := ?_) #[true, false, false, false, false, false, false, false, false, false, false] rfl rfl (any_of HT_.out (by kernel_rfl)) (fun _ _ _ h => h) (Or.inl ⟨by rfl, ?_⟩) ?_ ?_
              rotate_left
              ·intro w'
               go_simp
               with_reducible rfl
              rotate_left
              ·simp only [Act.put, List.setIfInBounds_toArray, List.set_cons_zero, List.set_cons_succ, i64_w, i32_w]
               rfl
              refine pure_ (i := 3) (N := some 51) (v := ?_) (a' := ?_) #[true, false, false, true, false, false, false, false, false, false, false] rfl rfl (any_of HT_.out (by kernel_rfl)) (fun _ _ _ h => h) (Or.inl ⟨by rfl, ?_⟩) ?_ ?_
              rotate_left
              ·intro w'
               go_simp
               with_reducible rfl
              rotate_left
              ·simp only [Act.put, List.setIfInBounds_toArray, List.set_cons_zero, List.set_cons_succ, i64_w, i32_w]
               rfl
              refine pure_ (i := 4) (N := some 52) (v := ?_) (a' := ?_) #[true, false, false, true, true, false, false, false, false, false, false] rfl rfl (any_of HT_.out (by kernel_rfl)) (fun _ _ _ h => h) (Or.inl ⟨by rfl, ?_⟩) ?_ ?_
              rotate_left
              ·intro w'
               go_simp
               with_reducible rfl
              rotate_left
              ·simp only [Act.put, List.setIfInBounds_toArray, List.set_cons_zero, List.set_cons_succ, i64_w, i32_w]
               rfl
              refine pure_ (i := 5) (N := some 53) (v := ?_) (a' := ?_) #[true, false, false, true, true, true, false, false, false, false, false] rfl rfl (any_of HT_.out (by kernel_rfl)) (fun _ _ _ h => h) (Or.inl ⟨by rfl, ?_⟩) ?_ ?_
              rotate_left
              ·intro w'
               go_simp
               with_reducible rfl
              rotate_left
              ·simp only [Act.put, List.setIfInBounds_toArray, List.set_cons_zero, List.set_cons_succ, i64_w, i32_w]
               rfl
              refine take_ (i := 1) (N := some 49) (v := ?_) (a' := ?_) #[true, true, false, true, true, true, false, false, false, false, false] rfl rfl (take_ofW HT_.out HW_.out (by kernel_rfl)) (fun _ _ _ h => h) (Or.inl ⟨by rfl, ?_⟩) hHeld ?_ ?_
              rotate_left
              ·rintro w' ⟨s0, s1, s2, s3⟩
               go_simp
               with_reducible rfl
              rotate_left
              ·simp only [Act.put, List.setIfInBounds_toArray, List.set_cons_zero, List.set_cons_succ, i64_w, i32_w]
               rfl
              refine take_ (i := 6) (N := some 54) (v := ?_) (a' := ?_) #[true, true, false, true, true, true, true, false, false, false, false] rfl rfl (take_ofW HT_.out HW_.out (by kernel_rfl)) (fun _ _ _ h => h) (Or.inl ⟨by rfl, ?_⟩) hHeld ?_ ?_
              rotate_left
              ·rintro w' ⟨s0, s1, s2, s3⟩
               go_simp
               with_reducible rfl
              rotate_left
              ·simp only [Act.put, List.setIfInBounds_toArray, List.set_cons_zero, List.set_cons_succ, i64_w, i32_w]
               rfl
              refine one_ (i := 2) (N := some 50) #[true, true, true, true, true, true, true, false, false, false, false] rfl rfl (one_of HT_.out (by kernel_rfl)) (by decide) (fun K hK => ?_)
              refine goes_ Try.func34 (by kernel_rfl) rfl #[.agg #[.int .i64 a0_0, .int .i64 a0_1, .string a0_2]] (by rfl) rfl rfl (by (try simp only [List.map_toArray, List.map_cons, List.map_nil]); first | done | rfl | (simp only [List.length_drop, List.length_take]; rfl)) ?_
              with_reducible refine (corncribref02_rows.calls k2 a0_0 a0_1 a0_2 t161 _ A28.out).mono ?_
              rintro e w34 ⟨v162, rfl, ho0, hb⟩
              refine ⟨_, rfl, ?_⟩
              have n0_ := Aside0.mk (Kd.R_lower ho0 (below_size (by repeat (first | (with_reducible first | exact HB.out | apply below_alloc | apply pw_below_drewN | apply below_drew1 | refine below_set ?_ GE156.out | refine below_set ?_ GE157.out) | exact HB.out))))
              have n1_ := Aside0.mk (blk_below (g := gb156) (o := .cells #[.int .i64 a0_0, .int .i64 a0_1, .string a0_2] 24 (0, 0)) (by (with_reducible repeat (first | refine blk_drewN ?_ _ | refine blk_drew ?_ | refine blk_alloc ?_ _)); exact BK156.out) hb)
              have n2_ := Aside0.mk (blk_below (g := gb157) (o := .cells #[.int .i64 x158000_1, .int .i64 x158001_1, .string x158002_1] 24 (0, 0)) (by (with_reducible repeat (first | refine blk_drewN ?_ _ | refine blk_drew ?_ | refine blk_alloc ?_ _)); exact BK157.out) hb)
              have n3_ := Aside0.mk (below_step (by repeat (first | (with_reducible first | exact HB.out | apply below_alloc | apply pw_below_drewN | apply below_drew1 | refine below_set ?_ GE156.out | refine below_set ?_ GE157.out) | exact HB.out)) hb)
              clear BK156
              clear BK157
              clear HB
              have HO163 := n0_
              have BK156 := n1_
              have BK157 := n2_
              have HB := n3_
              clear n0_ n1_ n2_ n3_
              (try clear hb)
              (try clear hb2)
              (try clear hk)
              (try clear hi)
              (try clear ho0)
              obtain ⟨Ao35, co35, eo35⟩ := Kd.R_slice HO163.out
              (first | subst eo35 | (injection eo35 with f1_ f2_ f3_; have f4_ := f1_.symm; have f5_ := f3_.symm; clear f1_ f2_ f3_; subst f4_; subst f5_))
              have p165 : 0 ≤ ((rd l1 x8_2) : Int) := of_decide_eq_true (by first | (with_reducible assumption) | assumption)
              have q165 : (rd l1 x8_2) < (t161.length : Int) := of_decide_eq_true (by first | (with_reducible assumption) | assumption)
              obtain ⟨ad165, e165, hx165_0⟩ := Kd.at_string (Kd.R_reads' HO163.out).2.2 (rd l1 x8_2) p165 q165
              cases e165
              replace p165 := eq_true p165
              replace q165 := eq_true q165
              refine hK.out _ _ ⟨(blk_cell BK156.out 0).trans rfl, (blk_cell BK156.out 1).trans rfl, (blk_cell BK156.out 2).trans rfl, ((HB.out.cell (World.block_lt_of_cell? w _ hw164_0)).trans hw164_0)⟩ (fun hHeld => ?_)
              clear hK K
              refine norm_ (a' := ?_) ?_ ?_
              rotate_left
              ·show Act.put _ (some 50) _ = _
               simp only [Act.put, List.setIfInBounds_toArray, List.set_cons_zero, List.set_cons_succ, i64_w, i32_w]
               rfl
              refine pure_ (i := 7) (N := some 55) (v := ?_) (a' := ?_) #[true, true, true, true, true, true, true, true, false, false, false] rfl rfl (any_of HT_.out (by kernel_rfl)) (fun _ _ _ h => h) (Or.inl ⟨by rfl, ?_⟩) ?_ ?_
              rotate_left
              ·intro w'
               go_simp
               with_reducible rfl
              rotate_left
              ·simp only [Act.put, List.setIfInBounds_toArray, List.set_cons_zero, List.set_cons_succ, i64_w, i32_w]
               rfl
              refine one_ (i := 8) (N := some 56) #[true, true, true, true, true, true, true, true, true, false, false] rfl rfl (one_of HT_.out (by kernel_rfl)) (by decide) (fun K hK => ?_)
              go_simp
              refine hK.out _ _ hHeld (fun hHeld => ?_)
              clear hK K
              try simp only [Act.put, List.setIfInBounds_toArray, List.set_cons_zero, List.set_cons_succ, i64_w, i32_w]
              refine pure_ (i := 9) (N := some 57) (v := ?_) (a' := ?_) #[true, true, true, true, true, true, true, true, true, true, false] rfl rfl (any_of HT_.out (by kernel_rfl)) (fun _ _ _ h => h) (Or.inl ⟨by rfl, ?_⟩) ?_ ?_
              rotate_left
              ·intro w'
               go_simp
               with_reducible rfl
              rotate_left
              ·simp only [Act.put, List.setIfInBounds_toArray, List.set_cons_zero, List.set_cons_succ, i64_w, i32_w]
               rfl
              refine pure_ (i := 10) (N := some 7) (v := ?_) (a' := ?_) #[true, true, true, true, true, true, true, true, true, true, true] rfl rfl (any_of HT_.out (by kernel_rfl)) (fun _ _ _ h => h) (Or.inl ⟨by rfl, ?_⟩) ?_ ?_
              rotate_left
              ·intro w'
               go_simp
               with_reducible rfl
              rotate_left
              ·simp only [Act.put, List.setIfInBounds_toArray, List.set_cons_zero, List.set_cons_succ, i64_w, i32_w]
               rfl
              refine done_ (done_of HT_.out (by kernel_rfl)) ?_
              try go_wp2
              go_roundg k2
              case measure => have := HK1.out; have := HK2.out; omega
              case rel => exact ⟨(x7_2 ++ (rdOf ByteArray.empty t161 (rd l1 x8_2))), (wrap64 (x8_2 + 1)), (by first | rfl | (simp; done) | (simp [*]; done)), (by first | rfl | (simp; done) | (simp [*]; done)), H', ⟨by have := HK1.out; have := HK2.out; omega⟩, ⟨by (with_reducible repeat (first | refine blk_drewN ?_ _ | refine blk_drew ?_ | refine blk_alloc ?_ _)); exact BK156.out⟩, ⟨by (with_reducible repeat (first | refine blk_drewN ?_ _ | refine blk_drew ?_ | refine blk_alloc ?_ _)); exact BK157.out⟩, ⟨by repeat (first | (with_reducible first | exact HB.out | apply below_alloc | apply pw_below_drewN | apply below_drew1 | refine below_set ?_ GE156.out | refine below_set ?_ GE157.out) | exact HB.out)⟩⟩
             ·rw [if_neg c32] at H
              exact absurd H (by simp)
            ·rw [if_neg c31] at H
             exact absurd H (by simp)
           ·rw [if_neg c30] at H
            exact absurd H (by simp)
          ·rw [if_neg c29] at H
           exact absurd H (by simp)
         ·rw [if_neg c27] at H
          have c27b0 : decide (x8_2 < (l1.length : Int)) = false := decide_eq_false c27
          clear c27
          simp only [Option.some.injEq, Prod.mk.injEq] at H
          obtain ⟨rfl, rfl, rfl, rfl⟩ := H
          have hnb36 := NB156_157.out
          have hnc36 := NB157_156.out
          obtain ⟨hcz37_0, hfz37_0, hcz37_1, hfz37_1, hcz37_2, hfz37_2⟩ := cfz3 BK156.out
          obtain ⟨hcz38_0, hfz38_0, hcz38_1, hfz38_1, hcz38_2, hfz38_2⟩ := cfz3 BK157.out
          go_wp2
          refine bodyPost_ret (results_ct rfl _ _ gb157 24 #[.int .i64 (l1.length : Int), .int .i64 a0_1, .string x7_2] (0, 0) _ rfl (by (with_reducible repeat (first | refine blk_drewN ?_ _ | refine blk_drew ?_ | refine blk_alloc ?_ _)); refine blk_put (cs := #[.int .i64 (l1.length : Int), .int .i64 a0_1, .string x158002_1]) ?_ 2 _ rfl; (with_reducible repeat (first | refine blk_drewN ?_ _ | refine blk_drew ?_ | refine blk_alloc ?_ _)); refine blk_put (cs := #[.int .i64 (l1.length : Int), .int .i64 x158001_1, .string x158002_1]) ?_ 1 _ rfl; (with_reducible repeat (first | refine blk_drewN ?_ _ | refine blk_drew ?_ | refine blk_alloc ?_ _)); refine blk_put (cs := #[.int .i64 x158000_1, .int .i64 x158001_1, .string x158002_1]) ?_ 0 _ rfl; (with_reducible repeat (first | refine blk_drewN ?_ _ | refine blk_drew ?_ | refine blk_alloc ?_ _)); exact BK157.out) Try.underlying24 rfl (by kernel_rfl)) rfl ?_
          exact ⟨by first | rfl | (simp [errW_none, errW_some] <;> rfl) | (simp [*, errW_none, errW_some] <;> rfl), by repeat (first | (with_reducible first | exact HB.out | apply below_alloc | apply pw_below_drewN | apply below_drew1 | refine below_set ?_ GE156.out | refine below_set ?_ GE157.out) | exact HB.out)⟩
 ·rw [if_neg c4] at H
  have c4b0 : (t158 == 0) = false := beq_eq_false_iff_ne.mpr c4
  have c4b1 : (t158 != 0) = true := bne_iff_ne.mpr c4
  simp only [Option.some.injEq, Prod.mk.injEq] at H
  obtain ⟨rfl, rfl, rfl, rfl⟩ := H
  go_enter Try.func15, Try.ntmps15
  go_wp2_with (first | ((with_reducible refine gate_dst (N := 2) rfl ?_); refine box_event ?hg (N := 2) ?hd (cs := #[.int .i64 a0_0, .int .i64 a0_1, .string a0_2]) (t := 24) ?hr ?_; (case hd => rfl); (case hg => rfl); (case hr => first | (go_simp; done) | (go_simp; rfl)); intro gb156 hg w39 hbox hb; have n0_ := Aside0.mk (below_step (by repeat (first | (with_reducible first | exact HB.out | apply below_alloc | apply pw_below_drewN | apply below_drew1) | exact HB.out)) hb); have n1_ := Aside0.mk (hbox); have n2_ := Aside0.mk ((by rw [hg]; exact (below_size (by repeat (first | (with_reducible first | exact HB.out | apply below_alloc | apply pw_below_drewN | apply below_drew1) | exact HB.out))) : w.heap.size ≤ gb156)); have n3_ := Aside0.mk ((by rw [hg]; exact (below_size (by repeat (first | (with_reducible first | exact HB.out | apply below_alloc | apply pw_below_drewN | apply below_drew1) | exact HB.out))) : w.heap.size ≤ gb156)); clear HB; have HB := n0_; have BK156 := n1_; have GW156 := n2_; have GE156 := n3_; clear n0_ n1_ n2_ n3_; clear hb hbox hg) | ((with_reducible refine gate_dst (N := 4) rfl ?_); refine box_event ?hg (N := 4) ?hd (cs := #[.int .i64 0, .int .i64 0, .string (⟨#[]⟩ : ByteArray)]) (t := 24) ?hr ?_; (case hd => rfl); (case hg => rfl); (case hr => first | (go_simp; done) | (go_simp; rfl)); intro gb157 hg w40 hbox hb; have n0_ := Aside0.mk (blk_below (g := gb156) (o := .cells #[.int .i64 a0_0, .int .i64 a0_1, .string a0_2] 24 (0, 0)) (by (with_reducible repeat (first | refine blk_drewN ?_ _ | refine blk_drew ?_ | refine blk_alloc ?_ _)); exact BK156.out) hb); have n1_ := Aside0.mk (below_step (by repeat (first | (with_reducible first | exact HB.out | apply below_alloc | apply pw_below_drewN | apply below_drew1 | refine below_set ?_ GE156.out) | exact HB.out)) hb); have n2_ := Aside0.mk (hbox); have n3_ := Aside0.mk ((by rw [hg]; exact (below_size (by repeat (first | (with_reducible first | exact HB.out | apply below_alloc | apply pw_below_drewN | apply below_drew1 | refine below_set ?_ GE156.out) | exact HB.out))) : w.heap.size ≤ gb157)); have n4_ := Aside0.mk ((by rw [hg]; exact (below_size (by repeat (first | (with_reducible first | exact HB.out | apply below_alloc | apply pw_below_drewN | apply below_drew1 | refine below_set ?_ GE156.out) | exact HB.out))) : w.heap.size ≤ gb157)); have n5_ := Aside0.mk ((by rw [hg]; exact Nat.ne_of_lt (blk_lt (g := gb156) (o := .cells #[.int .i64 a0_0, .int .i64 a0_1, .string a0_2] 24 (0, 0)) (by (with_reducible repeat (first | refine blk_drewN ?_ _ | refine blk_drew ?_ | refine blk_alloc ?_ _)); exact BK156.out)) : gb156 ≠ gb157)); have n6_ := Aside0.mk ((by rw [hg]; exact Nat.ne_of_gt (blk_lt (g := gb156) (o := .cells #[.int .i64 a0_0, .int .i64 a0_1, .string a0_2] 24 (0, 0)) (by (with_reducible repeat (first | refine blk_drewN ?_ _ | refine blk_drew ?_ | refine blk_alloc ?_ _)); exact BK156.out)) : gb157 ≠ gb156)); clear BK156; clear HB; have BK156 := n0_; have HB := n1_; have BK157 := n2_; have GW157 := n3_; have GE157 := n4_; have NB156_157 := n5_; have NB157_156 := n6_; clear n0_ n1_ n2_ n3_ n4_ n5_ n6_; clear hb hbox hg; have hnb41 := NB156_157.out; have hnc41 := NB157_156.out; have hcz42_0 : w40.cell? ⟨gb156, 0, none⟩ = some (.int .i64 a0_0) := (blk_cell BK156.out 0).trans rfl; have hcz42_1 : w40.cell? ⟨gb156, 1, none⟩ = some (.int .i64 a0_1) := (blk_cell BK156.out 1).trans rfl; have hcz42_2 : w40.cell? ⟨gb156, 2, none⟩ = some (.string a0_2) := (blk_cell BK156.out 2).trans rfl; have hfz42_0 := blk_frozen BK156.out 0; have hfz42_1 := blk_frozen BK156.out 1; have hfz42_2 := blk_frozen BK156.out 2) | ((with_reducible refine gate_callee (f := 19) rfl ?_); refine goesL_ (some 10) rfl rfl Try.func19 (by kernel_rfl) rfl #[.agg #[.int .i64 a0_0, .int .i64 a0_1, .string a0_2]] rfl (by (try simp only [List.map_toArray, List.map_cons, List.map_nil]); first | done | rfl | (simp only [List.length_drop, List.length_take]; rfl)) ?_; (with_reducible refine (corncribref02_Check.calls a0_0 a0_1 a0_2 t158 _ A3.out).mono ?_); rintro e w43 ⟨rfl, hb⟩; refine ⟨_, rfl, ?_⟩; have n0_ := Aside0.mk (blk_below (g := gb156) (o := .cells #[.int .i64 a0_0, .int .i64 a0_1, .string a0_2] 24 (0, 0)) (by (with_reducible repeat (first | refine blk_drewN ?_ _ | refine blk_drew ?_ | refine blk_alloc ?_ _)); exact BK156.out) hb); have n1_ := Aside0.mk (blk_below (g := gb157) (o := .cells #[.int .i64 0, .int .i64 0, .string (⟨#[]⟩ : ByteArray)] 24 (0, 0)) (by (with_reducible repeat (first | refine blk_drewN ?_ _ | refine blk_drew ?_ | refine blk_alloc ?_ _)); exact BK157.out) hb); have n2_ := Aside0.mk (below_step (by repeat (first | (with_reducible first | exact HB.out | apply below_alloc | apply pw_below_drewN | apply below_drew1 | refine below_set ?_ GE156.out | refine below_set ?_ GE157.out) | exact HB.out)) hb); clear BK156; clear BK157; clear HB; have BK156 := n0_; have BK157 := n1_; have HB := n2_; clear n0_ n1_ n2_; (try clear hb); (try clear hb2); (try clear hk); (try clear hi); have hcz44_0 : w43.cell? ⟨gb157, 0, none⟩ = some (.int .i64 0) := (blk_cell BK157.out 0).trans rfl; have hcz44_1 : w43.cell? ⟨gb157, 1, none⟩ = some (.int .i64 0) := (blk_cell BK157.out 1).trans rfl; have hcz44_2 : w43.cell? ⟨gb157, 2, none⟩ = some (.string (⟨#[]⟩ : ByteArray)) := (blk_cell BK157.out 2).trans rfl; have hfz44_0 := blk_frozen BK157.out 0; have hfz44_1 := blk_frozen BK157.out 1; have hfz44_2 := blk_frozen BK157.out 2))
  refine bodyPost_ret (results_ct rfl _ _ gb157 24 #[.int .i64 0, .int .i64 0, .string (⟨#[]⟩ : ByteArray)] (0, 0) _ rfl (by (with_reducible repeat (first | refine blk_drewN ?_ _ | refine blk_drew ?_ | refine blk_alloc ?_ _)); refine blk_put (cs := #[.int .i64 0, .int .i64 0, .string (⟨#[]⟩ : ByteArray)]) ?_ 2 _ rfl; (with_reducible repeat (first | refine blk_drewN ?_ _ | refine blk_drew ?_ | refine blk_alloc ?_ _)); refine blk_put (cs := #[.int .i64 0, .int .i64 0, .string (⟨#[]⟩ : ByteArray)]) ?_ 1 _ rfl; (with_reducible repeat (first | refine blk_drewN ?_ _ | refine blk_drew ?_ | refine blk_alloc ?_ _)); refine blk_put (cs := #[.int .i64 0, .int .i64 0, .string (⟨#[]⟩ : ByteArray)]) ?_ 0 _ rfl; (with_reducible repeat (first | refine blk_drewN ?_ _ | refine blk_drew ?_ | refine blk_alloc ?_ _)); exact BK157.out) Try.underlying24 rfl (by kernel_rfl)) rfl ?_
  exact ⟨by first | rfl | (simp [errW_none, errW_some] <;> rfl) | (simp [*, errW_none, errW_some] <;> rfl), by repeat (first | (with_reducible first | exact HB.out | apply below_alloc | apply pw_below_drewN | apply below_drew1 | refine below_set ?_ GE156.out | refine below_set ?_ GE157.out) | exact HB.out)⟩

end Go.Proofs.Ytoghhpkmficnmaa.Al

/- matrix.grid's add and scale by their contracts: a row's bytes, each with another's product, or times an element. -/
namespace Go.Proofs.Ytoghhpkmficnmaa.Al
open Go.RowKit Go.Proofs.Ytoghhpkmficnmaa.GfMath Go.Proofs.Ytoghhpkmficnmaa.GfRef Go.Proofs.Ytoghhpkmficnmaa.Base Go.Proofs.Ytoghhpkmficnmaa.Bytes Go.Proofs.Ytoghhpkmficnmaa.Grid Go.Proofs.YtoghhpkmficnmaaW.PrintWords Go.Proofs.YtoghhpkmficnmaaW.PrintLast Go.Proofs.YtoghhpkmficnmaaW.PrintMore
set_option linter.unusedVariables false
set_option linter.unusedSimpArgs false
def ByF (f : Nat → Nat → Int) : Prop := ∀ i j, Byte (f i j)
def scaleI (c : Nat) (b : Int) (f : Nat → Nat → Int) (i j : Nat) : Int := if i = c then mulI b (f c j) else f i j
def scaleK (c : Nat) (b : Int) (f : Nat → Nat → Int) (k i j : Nat) : Int := if i = c ∧ j < k then mulI b (f c j) else f i j
def addI (t c : Nat) (b : Int) (f : Nat → Nat → Int) (i j : Nat) : Int := if i = t then Go.bits .xor .u8 (f t j) (mulI b (f c j)) else f i j
def addK (t c : Nat) (b : Int) (f : Nat → Nat → Int) (k i j : Nat) : Int := if i = t ∧ j < k then Go.bits .xor .u8 (f t j) (mulI b (f c j)) else f i j
theorem scaleI_by {c : Nat} {b : Int} {f : Nat → Nat → Int} (hf : ByF f) : ByF (scaleI c b f) := fun i j => by unfold scaleI; split; exact byte_mul _ _; exact hf _ _
theorem addI_by {t c : Nat} {b : Int} {f : Nat → Nat → Int} (hf : ByF f) : ByF (addI t c b f) := fun i j => by unfold addI; split; exact (byte_xor (hf _ _) (byte_mul _ _)).1; exact hf _ _
theorem gcell {W : World} {B g0 cap n m : Nat} {rs : List (Nat × Nat)} {f : Nat → Nat → Int} (h : Grid B W (.slice (some ⟨g0, 0, none⟩) n cap) m (rs.map some) rs f) (hn : rs.length = n) {i : Nat} (hi : i < n) : ∃ rb c, rs[i]? = some (rb, c) ∧ W.cell? ⟨g0, i, none⟩ = some (.slice (some ⟨rb, 0, none⟩) m c) ∧ Br W rb m (f i) := by
 have h2 : rs[i]? = some (rs[i]'(by omega)) := List.getElem?_eq_getElem (by omega)
 refine ⟨(rs[i]'(by omega)).1, (rs[i]'(by omega)).2, h2, ?_, (h.row i _ h2).1⟩
 rw [(h.outer hi).1]
 simp [rowV, List.getD_eq_getElem?_getD, h2]
/-- What a world keeps of another one, but for a grid's rows. -/
def KeepR (rs : List (Nat × Nat)) (w w' : World) : Prop := w.heap.size ≤ w'.heap.size ∧ ∀ i, i < w.heap.size → (∀ p, p ∈ rs → p.1 ≠ i) → w'.heap[i]? = w.heap[i]?
theorem KeepR.refl (rs : List (Nat × Nat)) (w : World) : KeepR rs w w := ⟨Nat.le_refl _, fun _ _ _ => rfl⟩
theorem KeepR.drewN {rs : List (Nat × Nat)} {w w' : World} (h : KeepR rs w w') (n : Nat) : KeepR rs w (w'.drewN n) := h
theorem KeepR.drew {rs : List (Nat × Nat)} {w w' : World} (h : KeepR rs w w') : KeepR rs w w'.drew := h
theorem KeepR.set {rs : List (Nat × Nat)} {w w' : World} (h : KeepR rs w w') {i : Nat} {p : Nat × Nat} (hp : rs[i]? = some p) (j : Nat) (u : Value) : KeepR rs w (w'.setCell ⟨p.1, j, none⟩ u) :=
 ⟨by simpa [World.setCell] using h.1, fun k hk hr => (Below.heap_setCell w' ⟨p.1, j, none⟩ u k (fun e => hr p (List.mem_of_getElem? hp) e.symm)).trans (h.2 k hk hr)⟩
theorem KeepR.trans {rs : List (Nat × Nat)} {w w1 w2 : World} (h : KeepR rs w w1) (k : KeepR rs w1 w2) : KeepR rs w w2 :=
 ⟨Nat.le_trans h.1 k.1, fun i hi hr => (k.2 i (Nat.lt_of_lt_of_le hi h.1) hr).trans (h.2 i hi hr)⟩
def rg39_3_T : Bool × List (List Nat × List Nat) := (true, [([], []), ([], []), ([0, 1], [0, 1]), ([2], [2]), ([], []), ([], []), ([], []), ([], []), ([5, 6, 7], [5, 6, 7]), ([3, 4, 0, 1, 2, 3, 4, 5, 6, 7, 8], [3, 4]), ([9, 8, 8, 0, 1, 2, 3, 4, 5, 6, 7, 8], [8, 9])])
def rg39_3_B : List Nat := [0, 0, 3, 7, 0, 0, 0, 0, 224, 511, 1023]
theorem rg39_3_tab : rtab .any (opsOf Try.f39 3) = rg39_3_T := by kernel_rfl
theorem rg39_3_bits : waitsOk rg39_3_T.2 rg39_3_B = true := by kernel_rfl
def rg40_3_T : Bool × List (List Nat × List Nat) := (true, [([], []), ([], []), ([0, 1], [0, 1]), ([2], [2]), ([], []), ([3, 4], [3, 4]), ([5], [5]), ([], []), ([], []), ([], []), ([7, 8, 9], [7, 8, 9]), ([6, 10], [6, 10]), ([3, 4, 0, 1, 2, 3, 4, 5, 6, 7, 8, 9, 10, 11], [3, 4]), ([12, 11, 10, 0, 1, 2, 3, 4, 5, 6, 7, 8, 9, 10, 11], [11, 12])])
def rg40_3_B : List Nat := [0, 0, 3, 7, 0, 31, 63, 0, 0, 0, 896, 2047, 4095, 8191]
theorem rg40_3_tab : rtab .any (opsOf Try.f40 3) = rg40_3_T := by kernel_rfl
theorem rg40_3_bits : waitsOk rg40_3_T.2 rg40_3_B = true := by kernel_rfl
set_option maxHeartbeats 8000000 in
set_option maxRecDepth 100000 in
theorem scale_calls (w0 : World) (gf g0 cap n m : Nat) (rs : List (Nat × Nat)) (f : Nat → Nat → Int) (c : Nat) (b : Int) (W : World) (ht : Tab W gf) (hG : Grid w0.heap.size W (.slice (some ⟨g0, 0, none⟩) n cap) m (rs.map some) rs f) (hrs : rs.length = n) (hc : c < n) (hm : m ≤ 255) (hb : Byte b) (hf : ByF f) (hB : Below w0.heap.size w0 W) :
  Calls Try.prog 39 #[.slice (some ⟨g0, 0, none⟩) n cap, .pointer (some ⟨gf, 0, none⟩), .int .i64 c, .int .u8 b] W fun e W' => e = .returned (.tuple #[]) ∧ Grid w0.heap.size W' (.slice (some ⟨g0, 0, none⟩) n cap) m (rs.map some) rs (scaleI c b f) ∧ KeepR rs W W' ∧ Below w0.heap.size w0 W' := by
 obtain ⟨rb, cb, hrb, ho, hr⟩ := gcell hG hrs hc
 have HT := Aside0.mk ht
 have HBB := Aside0.mk hB
 clear hB
 have HG := Aside0.mk hG
 have HRB := Aside0.mk hrb
 have HF := Aside0.mk hf
 have HO := Aside0.mk ho
 have c1 : decide ((c : Int) < (n : Int)) = true := decide_eq_true (by omega)
 have c2 : decide (c < n) = true := decide_eq_true hc
 clear ht hG hrb hf hr
 go_enter Try.func39, Try.ntmps39
 go_wp2
 clear ho
 go_loopw [8, 9, 15] (fun v8 v9 v15 wr => ∃ k : Nat, v15 = .int .i64 k ∧ k ≤ m ∧ Aside0 (Grid w0.heap.size wr (.slice (some ⟨g0, 0, none⟩) n cap) m (rs.map some) rs (scaleK c b f k)) ∧ Aside0 (KeepR rs W wr) ∧ Aside0 (Below w0.heap.size w0 wr)) (fun _ _ v15 _ => m - (intOf v15).toNat)
 case atStart => exact ⟨0, rfl, Nat.zero_le _, ⟨HG.out.congr fun i j _ _ => by simp [scaleK]⟩, ⟨KeepR.refl _ _⟩, HBB⟩
 case round =>
  obtain ⟨k, rfl, hk, HGr, HK, HBr⟩ := hrel
  by_cases hlt : k < m
  ·obtain ⟨hrow, _⟩ := HGr.out.row c _ HRB.out
   have hx : wr.cell? ⟨rb, k, none⟩ = some (.int .u8 (f c k)) := by have := hrow.cell hlt; rwa [show scaleK c b f k c k = f c k from by simp [scaleK]] at this
   have hz := hrow.frozen hlt
   have ho := (HK.out.2 g0 (World.block_lt_of_cell? W ⟨g0, 0 + c, none⟩ (by simpa using HO.out)) (fun p hp he => by
    obtain ⟨i, hi⟩ := List.mem_iff_getElem?.1 hp
    obtain ⟨cells, hcc⟩ := Kd.R_typed HG.out.out g0 (by simp [Value.ownBlock])
    exact (HG.out.row i p hi).1.ne hcc (by decide) he))
   have hoc : wr.cell? ⟨g0, c, none⟩ = some (.slice (some ⟨rb, 0, none⟩) m cb) := by
    have h1 := HO.out
    unfold World.cell? at h1 ⊢
    rw [show (⟨g0, c, none⟩ : Addr).block = g0 from rfl] at h1 ⊢
    rw [ho]; exact h1
   have HT1 : Aside0 (Tab wr gf) := ⟨by
    obtain ⟨cs, hcs, hok⟩ := HT.out
    refine ⟨cs, (HK.out.2 gf (blk_lt hcs) (fun p hp he => ?_)).trans hcs, hok⟩
    obtain ⟨i, hi⟩ := List.mem_iff_getElem?.1 hp
    exact (HG.out.row i p hi).1.ne hcs (by decide) he⟩
   have hby := HF.out c k
   have HBY := Aside0.mk hby
   have HGd := HGr.out.below (below_drew (Below.refl _ wr))
   have HTd := HT1.out.below (below_drew (Below.refl _ wr))
   have HKd := HK.out.drew
   have HBd := below_drew1 HBr.out
   have hxd : wr.drew.cell? ⟨g0, c, none⟩ = some (.slice (some ⟨rb, 0, none⟩) m cb) := hoc
   have hzd : wr.drew.cell? ⟨rb, k, none⟩ = some (.int .u8 (f c k)) := hx
   have hfd : wr.drew.frozen? ⟨rb, k, none⟩ = false := hz
   have c3 : decide ((k : Int) < (m : Int)) = true := decide_eq_true (by omega)
   have c4 : (0 : Int) ≤ (k : Int) := by omega
   clear ho hrow hby
   go_wp2
   refine start_ (n := 11) (S := fun w' => w'.cell? ⟨g0, c, none⟩ = some (.slice (some ⟨rb, 0, none⟩) m cb)) (ds := [10]) #[false, false, false, false, false, false, false, false, false, false, false] (by kernel_rfl) rfl rfl hxd (fun hHeld => ?_)
   refine with_tabW rg39_3_tab rg39_3_bits (fun HT_ HW_ => ?_)
   obtain ⟨W1, hW1⟩ : ∃ W, W = wr.drew := ⟨_, rfl⟩
   rw [← hW1] at hHeld HGd HTd HKd HBd hzd hfd ⊢
   have HG1 := Aside0.mk HGd
   have HT2 := Aside0.mk HTd
   have HK1 := Aside0.mk HKd
   have HB1 := Aside0.mk HBd
   clear hW1 hxd HGd HTd HKd HBd hx hz hoc
   refine pure_ (i := 0) (N := some 20) (v := ?_) (a' := ?_) #[true, false, false, false, false, false, false, false, false, false, false] rfl rfl (any_of HT_.out (by kernel_rfl)) (fun _ _ _ h => h) (Or.inl ⟨by rfl, ?_⟩) ?_ ?_
   rotate_left
   ·intro w'
    go_simp
    with_reducible rfl
   rotate_left
   ·simp only [Act.put, List.setIfInBounds_toArray, List.set_cons_zero, List.set_cons_succ, i64_w, i32_w]
    rfl
   refine pure_ (i := 1) (N := some 21) (v := ?_) (a' := ?_) #[true, true, false, false, false, false, false, false, false, false, false] rfl rfl (any_of HT_.out (by kernel_rfl)) (fun _ _ _ h => h) (Or.inl ⟨by rfl, ?_⟩) ?_ ?_
   rotate_left
   ·intro w'
    go_simp
    with_reducible rfl
   rotate_left
   ·simp only [Act.put, List.setIfInBounds_toArray, List.set_cons_zero, List.set_cons_succ, i64_w, i32_w]
    rfl
   refine pure_ (i := 2) (N := some 22) (v := ?_) (a' := ?_) #[true, true, true, false, false, false, false, false, false, false, false] rfl rfl (any_of HT_.out (by kernel_rfl)) (fun _ _ _ h => h) (Or.inl ⟨by rfl, ?_⟩) ?_ ?_
   rotate_left
   ·intro w'
    go_simp
    with_reducible rfl
   rotate_left
   ·simp only [Act.put, List.setIfInBounds_toArray, List.set_cons_zero, List.set_cons_succ, i64_w, i32_w]
    rfl
   refine take_ (i := 3) (N := some 23) (v := ?_) (a' := ?_) #[true, true, true, true, false, false, false, false, false, false, false] rfl rfl (take_ofW HT_.out HW_.out (by kernel_rfl)) (fun _ _ _ h => h) (Or.inl ⟨by rfl, ?_⟩) hHeld ?_ ?_
   rotate_left
   ·rintro w' s0
    go_simp
    with_reducible rfl
   rotate_left
   ·simp only [Act.put, List.setIfInBounds_toArray, List.set_cons_zero, List.set_cons_succ, i64_w, i32_w]
    rfl
   refine pure_ (i := 4) (N := some 24) (v := ?_) (a' := ?_) #[true, true, true, true, true, false, false, false, false, false, false] rfl rfl (any_of HT_.out (by kernel_rfl)) (fun _ _ _ h => h) (Or.inl ⟨by rfl, ?_⟩) ?_ ?_
   rotate_left
   ·intro w'
    go_simp
    with_reducible rfl
   rotate_left
   ·simp only [Act.put, List.setIfInBounds_toArray, List.set_cons_zero, List.set_cons_succ, i64_w, i32_w]
    rfl
   refine pure_ (i := 5) (N := some 25) (v := ?_) (a' := ?_) #[true, true, true, true, true, true, false, false, false, false, false] rfl rfl (any_of HT_.out (by kernel_rfl)) (fun _ _ _ h => h) (Or.inl ⟨by rfl, ?_⟩) ?_ ?_
   rotate_left
   ·intro w'
    go_simp
    with_reducible rfl
   rotate_left
   ·simp only [Act.put, List.setIfInBounds_toArray, List.set_cons_zero, List.set_cons_succ, i64_w, i32_w]
    rfl
   refine pure_ (i := 6) (N := some 26) (v := ?_) (a' := ?_) #[true, true, true, true, true, true, true, false, false, false, false] rfl rfl (any_of HT_.out (by kernel_rfl)) (fun _ _ _ h => h) (Or.inl ⟨by rfl, ?_⟩) ?_ ?_
   rotate_left
   ·intro w'
    go_simp
    with_reducible rfl
   rotate_left
   ·simp only [Act.put, List.setIfInBounds_toArray, List.set_cons_zero, List.set_cons_succ, i64_w, i32_w]
    rfl
   refine pure_ (i := 7) (N := some 27) (v := ?_) (a' := ?_) #[true, true, true, true, true, true, true, true, false, false, false] rfl rfl (any_of HT_.out (by kernel_rfl)) (fun _ _ _ h => h) (Or.inl ⟨by rfl, ?_⟩) ?_ ?_
   rotate_left
   ·intro w'
    go_simp
    with_reducible rfl
   rotate_left
   ·simp only [Act.put, List.setIfInBounds_toArray, List.set_cons_zero, List.set_cons_succ, i64_w, i32_w]
    rfl
   refine one_ (i := 8) (N := some 28) #[true, true, true, true, true, true, true, true, true, false, false] rfl rfl (one_of HT_.out (by kernel_rfl)) (by decide) (fun K hK => ?_)
   (refine goes_ Try.func36 (by kernel_rfl) rfl #[.pointer (some ⟨gf, 0, none⟩), .int .u8 b, .int .u8 (f c k)] (by rfl) rfl rfl (by (try simp only [List.map_toArray, List.map_cons, List.map_nil]); first | done | rfl) ?_; refine (gMul gf b (f c k) _ HT2.out hb HBY.out).mono ?_; rintro e w' ⟨rfl, nd, rfl⟩; refine ⟨_, rfl, ?_⟩)
   refine hK.out _ _ hHeld (fun hHeld => ?_)
   clear hK K
   try simp only [Act.put, List.setIfInBounds_toArray, List.set_cons_zero, List.set_cons_succ, i64_w, i32_w]
   refine pure_ (i := 9) (N := some 29) (v := ?_) (a' := ?_) #[true, true, true, true, true, true, true, true, true, true, false] rfl rfl (any_of HT_.out (by kernel_rfl)) (fun _ _ _ h => h) (Or.inl ⟨by rfl, ?_⟩) ?_ ?_
   rotate_left
   ·intro w'
    go_simp
    with_reducible rfl
   rotate_left
   ·simp only [Act.put, List.setIfInBounds_toArray, List.set_cons_zero, List.set_cons_succ, i64_w, i32_w]
    rfl
   have hzn : (W1.drewN nd).cell? ⟨rb, k, none⟩ = some (.int .u8 (f c k)) := hzd
   have hfn : (W1.drewN nd).frozen? ⟨rb, k, none⟩ = false := hfd
   have HG2 := Aside0.mk (HG1.out.drewN nd)
   have HK2 := Aside0.mk (HK1.out.drewN nd)
   have HB2 := Aside0.mk (pw_below_drewN HB1.out nd)
   clear hzd hfd
   generalize W1.drewN nd = W2 at *
   refine last_ (i := 10) (N := none) #[true, true, true, true, true, true, true, true, true, true, true] rfl rfl (one_of HT_.out (by kernel_rfl)) (by decide) (fun K hK => ?_)
   (refine skip_ (w1 := ?_) (by rfl) rfl ?_ ?_; rotate_left; · (go_simp; rfl))
   refine hK.out _ _ ?_
   clear hK K
   try simp only [Act.put, List.setIfInBounds_toArray, List.set_cons_zero, List.set_cons_succ, i64_w, i32_w]
   refine done_ (done_of HT_.out (by kernel_rfl)) ?_
   go_wp2
   go_roundw
   case rel =>
    refine ⟨k + 1, by go_num, hlt, ⟨(HG2.out.set HRB.out hlt _).congr fun i j _ _ => ?_⟩, ⟨HK2.out.set HRB.out k _⟩, ⟨below_set HB2.out (HG2.out.row c _ HRB.out).2⟩⟩
    unfold scaleK
    by_cases e1 : i = c
    ·by_cases e2 : j = k
     ·rw [if_pos ⟨e1, e2⟩, if_pos ⟨e1, by omega⟩, e2]
     ·rw [if_neg (fun h => e2 h.2)]
      by_cases e3 : j < k
      ·rw [if_pos ⟨e1, e3⟩, if_pos ⟨e1, by omega⟩]
      ·rw [if_neg (fun h => e3 h.2), if_neg (fun h => by have := h.2; omega)]
    ·rw [if_neg (fun h => e1 h.1), if_neg (fun h => e1 h.1), if_neg (fun h => e1 h.1)]
   case measure => simp [intOf]; omega
  ·obtain rfl : k = m := by omega
   go_wp2
   go_end0
   refine ⟨rfl, HGr.out.congr (fun i j _ hj => ?_), HK.out, HBr.out⟩
   unfold scaleK scaleI
   by_cases e : i = c
   ·rw [if_pos ⟨e, hj⟩, if_pos e]
   ·rw [if_neg (fun h => e h.1), if_neg e]
set_option maxHeartbeats 8000000 in
set_option maxRecDepth 100000 in
theorem add_calls (w0 : World) (gf g0 cap n m : Nat) (rs : List (Nat × Nat)) (f : Nat → Nat → Int) (t c : Nat) (b : Int) (W : World) (ht : Tab W gf) (hG : Grid w0.heap.size W (.slice (some ⟨g0, 0, none⟩) n cap) m (rs.map some) rs f) (hrs : rs.length = n) (hc : c < n) (htn : t < n) (hne : t ≠ c) (hm : m ≤ 255) (hb : Byte b) (hf : ByF f) (hB : Below w0.heap.size w0 W) :
  Calls Try.prog 40 #[.slice (some ⟨g0, 0, none⟩) n cap, .pointer (some ⟨gf, 0, none⟩), .int .i64 t, .int .u8 b, .int .i64 c] W fun e W' => e = .returned (.tuple #[]) ∧ Grid w0.heap.size W' (.slice (some ⟨g0, 0, none⟩) n cap) m (rs.map some) rs (addI t c b f) ∧ KeepR rs W W' ∧ Below w0.heap.size w0 W' := by
 obtain ⟨rb, cb, hrb, ho, hr⟩ := gcell hG hrs hc
 obtain ⟨rt, ct, hrt, hot, hr2⟩ := gcell hG hrs htn
 have HT := Aside0.mk ht
 have HBB := Aside0.mk hB
 clear hB
 have HG := Aside0.mk hG
 have HRB := Aside0.mk hrb
 have HRT := Aside0.mk hrt
 have HF := Aside0.mk hf
 have HOT := Aside0.mk hot
 have c1 : decide ((c : Int) < (n : Int)) = true := decide_eq_true (by omega)
 have c2 : decide (c < n) = true := decide_eq_true hc
 have c5 : decide ((t : Int) < (n : Int)) = true := decide_eq_true (by omega)
 have c6 : decide (t < n) = true := decide_eq_true htn
 have HNE := Aside0.mk hne
 clear ht hG hrb hf hr hrt hr2 hot hne
 go_enter Try.func40, Try.ntmps40
 go_wp2
 clear ho
 go_loopw [10, 11, 17] (fun v10 v11 v17 wr => ∃ k : Nat, v17 = .int .i64 k ∧ k ≤ m ∧ Aside0 (Grid w0.heap.size wr (.slice (some ⟨g0, 0, none⟩) n cap) m (rs.map some) rs (addK t c b f k)) ∧ Aside0 (KeepR rs W wr) ∧ Aside0 (Below w0.heap.size w0 wr)) (fun _ _ v17 _ => m - (intOf v17).toNat)
 case atStart => exact ⟨0, rfl, Nat.zero_le _, ⟨HG.out.congr fun i j _ _ => by simp [addK]⟩, ⟨KeepR.refl _ _⟩, HBB⟩
 case round =>
  obtain ⟨k, rfl, hk, HGr, HK, HBr⟩ := hrel
  by_cases hlt : k < m
  ·obtain ⟨hrow, _⟩ := HGr.out.row c _ HRB.out
   obtain ⟨hrow2, _⟩ := HGr.out.row t _ HRT.out
   have hne := HNE.out
   have hx : wr.cell? ⟨rb, k, none⟩ = some (.int .u8 (f c k)) := by have := hrow.cell hlt; rwa [show addK t c b f k c k = f c k from by unfold addK; rw [if_neg (fun h => hne h.1.symm)]] at this
   have hx2 : wr.cell? ⟨rt, k, none⟩ = some (.int .u8 (f t k)) := by have := hrow2.cell hlt; rwa [show addK t c b f k t k = f t k from by unfold addK; rw [if_neg (fun h => by have := h.2; omega)]] at this
   have hz := hrow2.frozen hlt
   have ho := (HK.out.2 g0 (World.block_lt_of_cell? W ⟨g0, 0 + t, none⟩ (by simpa using HOT.out)) (fun p hp he => by
    obtain ⟨i, hi⟩ := List.mem_iff_getElem?.1 hp
    obtain ⟨cells, hcc⟩ := Kd.R_typed HG.out.out g0 (by simp [Value.ownBlock])
    exact (HG.out.row i p hi).1.ne hcc (by decide) he))
   have hot : wr.cell? ⟨g0, t, none⟩ = some (.slice (some ⟨rt, 0, none⟩) m ct) := by
    have h1 := HOT.out
    unfold World.cell? at h1 ⊢
    rw [show (⟨g0, t, none⟩ : Addr).block = g0 from rfl] at h1 ⊢
    rw [ho]; exact h1
   have HT1 : Aside0 (Tab wr gf) := ⟨by
    obtain ⟨cs, hcs, hok⟩ := HT.out
    refine ⟨cs, (HK.out.2 gf (blk_lt hcs) (fun p hp he => ?_)).trans hcs, hok⟩
    obtain ⟨i, hi⟩ := List.mem_iff_getElem?.1 hp
    exact (HG.out.row i p hi).1.ne hcs (by decide) he⟩
   have HBY := Aside0.mk (HF.out c k)
   have HBY2 := Aside0.mk (HF.out t k)
   have HGd := HGr.out.below (below_drew (Below.refl _ wr))
   have HTd := HT1.out.below (below_drew (Below.refl _ wr))
   have HKd := HK.out.drew
   have HBd := below_drew1 HBr.out
   have hxd : wr.drew.cell? ⟨g0, t, none⟩ = some (.slice (some ⟨rt, 0, none⟩) m ct) := hot
   have hzd : wr.drew.cell? ⟨rt, k, none⟩ = some (.int .u8 (f t k)) := hx2
   have hfd : wr.drew.frozen? ⟨rt, k, none⟩ = false := hz
   have c3 : decide ((k : Int) < (m : Int)) = true := decide_eq_true (by omega)
   have c4 : (0 : Int) ≤ (k : Int) := by omega
   clear ho hrow hrow2 hne hz
   go_wp2
   refine start_ (n := 14) (S := fun w' => w'.cell? ⟨g0, t, none⟩ = some (.slice (some ⟨rt, 0, none⟩) m ct) ∧ w'.cell? ⟨rt, k, none⟩ = some (.int .u8 (f t k))) (ds := [13]) #[false, false, false, false, false, false, false, false, false, false, false, false, false, false] (by kernel_rfl) rfl rfl ⟨hxd, hzd⟩ (fun hHeld => ?_)
   refine with_tabW rg40_3_tab rg40_3_bits (fun HT_ HW_ => ?_)
   obtain ⟨W1, hW1⟩ : ∃ W, W = wr.drew := ⟨_, rfl⟩
   rw [← hW1] at hHeld HGd HTd HKd HBd hzd hfd ⊢
   have HG1 := Aside0.mk HGd
   have HT2 := Aside0.mk HTd
   have HK1 := Aside0.mk HKd
   have HB1 := Aside0.mk HBd
   clear hW1 hxd HGd HTd HKd HBd hx hx2 hot
   refine pure_ (i := 0) (N := some 22) (v := ?_) (a' := ?_) #[true, false, false, false, false, false, false, false, false, false, false, false, false, false] rfl rfl (any_of HT_.out (by kernel_rfl)) (fun _ _ _ h => h) (Or.inl ⟨by rfl, ?_⟩) ?_ ?_
   rotate_left
   ·intro w'
    go_simp
    with_reducible rfl
   rotate_left
   ·simp only [Act.put, List.setIfInBounds_toArray, List.set_cons_zero, List.set_cons_succ, i64_w, i32_w]
    rfl
   refine pure_ (i := 1) (N := some 23) (v := ?_) (a' := ?_) #[true, true, false, false, false, false, false, false, false, false, false, false, false, false] rfl rfl (any_of HT_.out (by kernel_rfl)) (fun _ _ _ h => h) (Or.inl ⟨by rfl, ?_⟩) ?_ ?_
   rotate_left
   ·intro w'
    go_simp
    with_reducible rfl
   rotate_left
   ·simp only [Act.put, List.setIfInBounds_toArray, List.set_cons_zero, List.set_cons_succ, i64_w, i32_w]
    rfl
   refine pure_ (i := 2) (N := some 24) (v := ?_) (a' := ?_) #[true, true, true, false, false, false, false, false, false, false, false, false, false, false] rfl rfl (any_of HT_.out (by kernel_rfl)) (fun _ _ _ h => h) (Or.inl ⟨by rfl, ?_⟩) ?_ ?_
   rotate_left
   ·intro w'
    go_simp
    with_reducible rfl
   rotate_left
   ·simp only [Act.put, List.setIfInBounds_toArray, List.set_cons_zero, List.set_cons_succ, i64_w, i32_w]
    rfl
   refine take_ (i := 3) (N := some 25) (v := ?_) (a' := ?_) #[true, true, true, true, false, false, false, false, false, false, false, false, false, false] rfl rfl (take_ofW HT_.out HW_.out (by kernel_rfl)) (fun _ _ _ h => h) (Or.inl ⟨by rfl, ?_⟩) hHeld ?_ ?_
   rotate_left
   ·rintro w' ⟨s0, s1⟩
    go_simp
    with_reducible rfl
   rotate_left
   ·simp only [Act.put, List.setIfInBounds_toArray, List.set_cons_zero, List.set_cons_succ, i64_w, i32_w]
    rfl
   refine pure_ (i := 4) (N := some 26) (v := ?_) (a' := ?_) #[true, true, true, true, true, false, false, false, false, false, false, false, false, false] rfl rfl (any_of HT_.out (by kernel_rfl)) (fun _ _ _ h => h) (Or.inl ⟨by rfl, ?_⟩) ?_ ?_
   rotate_left
   ·intro w'
    go_simp
    with_reducible rfl
   rotate_left
   ·simp only [Act.put, List.setIfInBounds_toArray, List.set_cons_zero, List.set_cons_succ, i64_w, i32_w]
    rfl
   refine pure_ (i := 5) (N := some 27) (v := ?_) (a' := ?_) #[true, true, true, true, true, true, false, false, false, false, false, false, false, false] rfl rfl (any_of HT_.out (by kernel_rfl)) (fun _ _ _ h => h) (Or.inl ⟨by rfl, ?_⟩) ?_ ?_
   rotate_left
   ·intro w'
    go_simp
    with_reducible rfl
   rotate_left
   ·simp only [Act.put, List.setIfInBounds_toArray, List.set_cons_zero, List.set_cons_succ, i64_w, i32_w]
    rfl
   refine take_ (i := 6) (N := some 28) (v := ?_) (a' := ?_) #[true, true, true, true, true, true, true, false, false, false, false, false, false, false] rfl rfl (take_ofW HT_.out HW_.out (by kernel_rfl)) (fun _ _ _ h => h) (Or.inl ⟨by rfl, ?_⟩) hHeld ?_ ?_
   rotate_left
   ·rintro w' ⟨s0, s1⟩
    go_simp
    with_reducible rfl
   rotate_left
   ·simp only [Act.put, List.setIfInBounds_toArray, List.set_cons_zero, List.set_cons_succ, i64_w, i32_w]
    rfl
   refine pure_ (i := 7) (N := some 29) (v := ?_) (a' := ?_) #[true, true, true, true, true, true, true, true, false, false, false, false, false, false] rfl rfl (any_of HT_.out (by kernel_rfl)) (fun _ _ _ h => h) (Or.inl ⟨by rfl, ?_⟩) ?_ ?_
   rotate_left
   ·intro w'
    go_simp
    with_reducible rfl
   rotate_left
   ·simp only [Act.put, List.setIfInBounds_toArray, List.set_cons_zero, List.set_cons_succ, i64_w, i32_w]
    rfl
   refine pure_ (i := 8) (N := some 30) (v := ?_) (a' := ?_) #[true, true, true, true, true, true, true, true, true, false, false, false, false, false] rfl rfl (any_of HT_.out (by kernel_rfl)) (fun _ _ _ h => h) (Or.inl ⟨by rfl, ?_⟩) ?_ ?_
   rotate_left
   ·intro w'
    go_simp
    with_reducible rfl
   rotate_left
   ·simp only [Act.put, List.setIfInBounds_toArray, List.set_cons_zero, List.set_cons_succ, i64_w, i32_w]
    rfl
   refine pure_ (i := 9) (N := some 31) (v := ?_) (a' := ?_) #[true, true, true, true, true, true, true, true, true, true, false, false, false, false] rfl rfl (any_of HT_.out (by kernel_rfl)) (fun _ _ _ h => h) (Or.inl ⟨by rfl, ?_⟩) ?_ ?_
   rotate_left
   ·intro w'
    go_simp
    with_reducible rfl
   rotate_left
   ·simp only [Act.put, List.setIfInBounds_toArray, List.set_cons_zero, List.set_cons_succ, i64_w, i32_w]
    rfl
   refine one_ (i := 10) (N := some 32) #[true, true, true, true, true, true, true, true, true, true, true, false, false, false] rfl rfl (one_of HT_.out (by kernel_rfl)) (by decide) (fun K hK => ?_)
   (refine goes_ Try.func36 (by kernel_rfl) rfl #[.pointer (some ⟨gf, 0, none⟩), .int .u8 b, .int .u8 (f c k)] (by rfl) rfl rfl (by (try simp only [List.map_toArray, List.map_cons, List.map_nil]); first | done | rfl) ?_; refine (gMul gf b (f c k) _ HT2.out hb HBY.out).mono ?_; rintro e w' ⟨rfl, nd, rfl⟩; refine ⟨_, rfl, ?_⟩)
   refine hK.out _ _ hHeld (fun hHeld => ?_)
   clear hK K
   try simp only [Act.put, List.setIfInBounds_toArray, List.set_cons_zero, List.set_cons_succ, i64_w, i32_w]
   refine pure_ (i := 11) (N := some 33) (v := ?_) (a' := ?_) #[true, true, true, true, true, true, true, true, true, true, true, true, false, false] rfl rfl (any_of HT_.out (by kernel_rfl)) (fun _ _ _ h => h) (Or.inl ⟨by rfl, ?_⟩) ?_ ?_
   rotate_left
   ·intro w'
    go_simp
    with_reducible rfl
   rotate_left
   ·simp only [Act.put, List.setIfInBounds_toArray, List.set_cons_zero, List.set_cons_succ, i64_w, i32_w]
    rfl
   refine pure_ (i := 12) (N := some 34) (v := ?_) (a' := ?_) #[true, true, true, true, true, true, true, true, true, true, true, true, true, false] rfl rfl (any_of HT_.out (by kernel_rfl)) (fun _ _ _ h => h) (Or.inl ⟨by rfl, ?_⟩) ?_ ?_
   rotate_left
   ·intro w'
    go_simp
    with_reducible rfl
   rotate_left
   ·simp only [Act.put, List.setIfInBounds_toArray, List.set_cons_zero, List.set_cons_succ, i64_w, i32_w]
    rfl
   have hzn : (W1.drewN nd).cell? ⟨rt, k, none⟩ = some (.int .u8 (f t k)) := hzd
   have hfn : (W1.drewN nd).frozen? ⟨rt, k, none⟩ = false := hfd
   have HG2 := Aside0.mk (HG1.out.drewN nd)
   have HK2 := Aside0.mk (HK1.out.drewN nd)
   have HB2 := Aside0.mk (pw_below_drewN HB1.out nd)
   clear hzd hfd
   generalize W1.drewN nd = W2 at *
   refine last_ (i := 13) (N := none) #[true, true, true, true, true, true, true, true, true, true, true, true, true, true] rfl rfl (one_of HT_.out (by kernel_rfl)) (by decide) (fun K hK => ?_)
   (refine skip_ (w1 := ?_) (by rfl) rfl ?_ ?_; rotate_left; · (go_simp; rfl))
   refine hK.out _ _ ?_
   clear hK K
   try simp only [Act.put, List.setIfInBounds_toArray, List.set_cons_zero, List.set_cons_succ, i64_w, i32_w]
   refine done_ (done_of HT_.out (by kernel_rfl)) ?_
   go_wp2
   go_roundw
   case rel =>
    refine ⟨k + 1, by go_num, hlt, ⟨(HG2.out.set HRT.out hlt _).congr fun i j _ _ => ?_⟩, ⟨HK2.out.set HRT.out k _⟩, ⟨below_set HB2.out (HG2.out.row t _ HRT.out).2⟩⟩
    unfold addK
    by_cases e1 : i = t
    ·by_cases e2 : j = k
     ·rw [if_pos ⟨e1, e2⟩, if_pos ⟨e1, by omega⟩, e2]
     ·rw [if_neg (fun h => e2 h.2)]
      by_cases e3 : j < k
      ·rw [if_pos ⟨e1, e3⟩, if_pos ⟨e1, by omega⟩]
      ·rw [if_neg (fun h => e3 h.2), if_neg (fun h => by have := h.2; omega)]
    ·rw [if_neg (fun h => e1 h.1), if_neg (fun h => e1 h.1), if_neg (fun h => e1 h.1)]
   case measure => simp [intOf]; omega
  ·obtain rfl : k = m := by omega
   go_wp2
   go_end0
   refine ⟨rfl, HGr.out.congr (fun i j _ hj => ?_), HK.out, HBr.out⟩
   unfold addK addI
   by_cases e : i = t
   ·rw [if_pos ⟨e, hj⟩, if_pos e]
   ·rw [if_neg (fun h => e h.1), if_neg e]
end Go.Proofs.Ytoghhpkmficnmaa.Al

/- matrix.grid's swap by its contract: two rows change places. -/
namespace Go.Proofs.Ytoghhpkmficnmaa.Al
open Go.RowKit Go.Proofs.Ytoghhpkmficnmaa.GfMath Go.Proofs.Ytoghhpkmficnmaa.GfRef Go.Proofs.Ytoghhpkmficnmaa.Base Go.Proofs.Ytoghhpkmficnmaa.Bytes Go.Proofs.Ytoghhpkmficnmaa.Grid Go.Proofs.YtoghhpkmficnmaaW.PrintWords Go.Proofs.YtoghhpkmficnmaaW.PrintLast Go.Proofs.YtoghhpkmficnmaaW.PrintMore
set_option linter.unusedVariables false
set_option linter.unusedSimpArgs false
def swapI (a b : Nat) (f : Nat → Nat → Int) (i j : Nat) : Int := if i = a then f b j else if i = b then f a j else f i j
theorem swapI_by {a b : Nat} {f : Nat → Nat → Int} (hf : ByF f) : ByF (swapI a b f) := fun i j => by unfold swapI; split; exact hf _ _; split <;> exact hf _ _
def swapL (a b : Nat) (rs : List (Nat × Nat)) : List (Nat × Nat) := (rs.set a (rs.getD b (0, 0))).set b (rs.getD a (0, 0))
theorem swapL_len (a b : Nat) (rs : List (Nat × Nat)) : (swapL a b rs).length = rs.length := by simp [swapL]
theorem swapL_get {a b : Nat} {rs : List (Nat × Nat)} (ha : a < rs.length) (hb : b < rs.length) (i : Nat) : (swapL a b rs)[i]? = if i = a then rs[b]? else if i = b then rs[a]? else rs[i]? := by
 have ga : rs[a]? = some (rs.getD a (0, 0)) := by rw [List.getD_eq_getElem?_getD, List.getElem?_eq_getElem ha]; rfl
 have gb : rs[b]? = some (rs.getD b (0, 0)) := by rw [List.getD_eq_getElem?_getD, List.getElem?_eq_getElem hb]; rfl
 unfold swapL
 by_cases e2 : i = b
 ·subst e2
  rw [List.getElem?_set_self (by simpa using hb)]
  by_cases e1 : i = a
  ·subst e1; rw [if_pos rfl, ga]
  ·rw [if_neg e1, if_pos rfl, ga]
 ·rw [List.getElem?_set_ne (Ne.symm e2)]
  by_cases e1 : i = a
  ·subst e1
   rw [List.getElem?_set_self ha, if_pos rfl, gb]
  ·rw [List.getElem?_set_ne (Ne.symm e1), if_neg e1, if_neg e2]
theorem nodup_inj {rs : List (Nat × Nat)} (h : (rs.map (·.1)).Nodup) {i j : Nat} {p q : Nat × Nat} (hi : rs[i]? = some p) (hj : rs[j]? = some q) (he : p.1 = q.1) : i = j := by
 obtain ⟨li, ei⟩ := List.getElem?_eq_some_iff.1 hi
 obtain ⟨lj, ej⟩ := List.getElem?_eq_some_iff.1 hj
 exact (List.getElem_inj (i := i) (j := j) (h₀ := by simpa using li) (h₁ := by simpa using lj) h).1 (by simp [ei, ej, he])
theorem inj_nodup {rs : List (Nat × Nat)} (h : ∀ (i j : Nat) (p q : Nat × Nat), rs[i]? = some p → rs[j]? = some q → p.1 = q.1 → i = j) : (rs.map (·.1)).Nodup := by
 refine List.pairwise_iff_getElem.2 fun i j hi hj hlt he => ?_
 have hi' : i < rs.length := by simpa using hi
 have hj' : j < rs.length := by simpa using hj
 have := h i j _ _ (List.getElem?_eq_getElem hi') (List.getElem?_eq_getElem hj') (by simpa using he)
 omega
theorem swap_nodup {a b : Nat} {rs : List (Nat × Nat)} (ha : a < rs.length) (hb : b < rs.length) (h : (rs.map (·.1)).Nodup) : ((swapL a b rs).map (·.1)).Nodup := by
 refine inj_nodup fun i j p q hi hj he => ?_
 rw [swapL_get ha hb] at hi hj
 have key : ∀ i : Nat, (if i = a then rs[b]? else if i = b then rs[a]? else rs[i]?) = rs[if i = a then b else if i = b then a else i]? := fun i => by split; rfl; split <;> rfl
 rw [key] at hi hj
 have := nodup_inj h hi hj he
 have inv : ∀ i : Nat, (if (if i = a then b else if i = b then a else i) = a then b else if (if i = a then b else if i = b then a else i) = b then a else (if i = a then b else if i = b then a else i)) = i := fun i => by
  by_cases e1 : i = a
  ·rw [if_pos e1]
   by_cases e2 : b = a
   ·rw [if_pos e2, e2, e1]
   ·rw [if_neg e2, if_pos rfl, e1]
  ·rw [if_neg e1]
   by_cases e2 : i = b
   ·rw [if_pos e2, if_pos rfl, e2]
   ·rw [if_neg e2, if_neg e1, if_neg e2]
 have h1 := inv i
 rw [this, inv j] at h1
 exact h1.symm
theorem grid_swapped {B : Nat} {W : World} {g0 cap n m : Nat} {rs : List (Nat × Nat)} {f : Nat → Nat → Int} (h : Grid B W (.slice (some ⟨g0, 0, none⟩) n cap) m (rs.map some) rs f) (hrs : rs.length = n) {a b : Nat} {pa pb : Nat × Nat} (ha : rs[a]? = some pa) (hb : rs[b]? = some pb) :
  Grid B ((W.setCell ⟨g0, a, none⟩ (.slice (some ⟨pb.1, 0, none⟩) m pb.2)).setCell ⟨g0, b, none⟩ (.slice (some ⟨pa.1, 0, none⟩) m pa.2)) (.slice (some ⟨g0, 0, none⟩) n cap) m ((swapL a b rs).map some) (swapL a b rs) (swapI a b f) := by
 have la := (List.getElem?_eq_some_iff.1 ha).1
 have lb := (List.getElem?_eq_some_iff.1 hb).1
 have ga : rs.getD a (0, 0) = pa := by rw [List.getD_eq_getElem?_getD, ha]; rfl
 have gb : rs.getD b (0, 0) = pb := by rw [List.getD_eq_getElem?_getD, hb]; rfl
 have h1 := Kd.R_putn h.out (a : Int) (some pb)
 rw [Int.toNat_natCast] at h1
 have h2 := Kd.R_putn h1 (b : Int) (some pa)
 rw [Int.toNat_natCast] at h2
 obtain ⟨cells, hc⟩ := Kd.R_typed h.out g0 (by simp [Value.ownBlock])
 have hos : ((rs.map some).set a (some pb)).set b (some pa) = (swapL a b rs).map some := by
  unfold swapL
  rw [ga, gb, List.map_set, List.map_set]
 rw [hos] at h2
 refine ⟨h2, fun i p hp => ?_, swap_nodup la lb h.nd⟩
 have far : ∀ {g' : Nat} {f' : Nat → Int}, Br W g' m f' → Br ((W.setCell ⟨g0, a, none⟩ (.slice (some ⟨pb.1, 0, none⟩) m pb.2)).setCell ⟨g0, b, none⟩ (.slice (some ⟨pa.1, 0, none⟩) m pa.2)) g' m f' := fun hb => hb.keep ((Below.heap_setCell _ ⟨g0, b, none⟩ _ _ (hb.ne hc (by decide))).trans (Below.heap_setCell W ⟨g0, a, none⟩ _ _ (hb.ne hc (by decide))))
 rw [swapL_get la lb] at hp
 unfold swapI
 by_cases e1 : i = a
 ·rw [if_pos e1] at hp
  obtain ⟨r1, r2⟩ := h.row b p hp
  exact ⟨(far r1).congr fun j _ => by rw [if_pos e1], r2⟩
 ·rw [if_neg e1] at hp
  by_cases e2 : i = b
  ·rw [if_pos e2] at hp
   obtain ⟨r1, r2⟩ := h.row a p hp
   exact ⟨(far r1).congr fun j _ => by rw [if_neg e1, if_pos e2], r2⟩
  ·rw [if_neg e2] at hp
   obtain ⟨r1, r2⟩ := h.row i p hp
   exact ⟨(far r1).congr fun j _ => by rw [if_neg e1, if_neg e2], r2⟩
def rg38_0_T : Bool × List (List Nat × List Nat) := (true, [([], []), ([], []), ([], []), ([], []), ([], []), ([], []), ([4, 5], [4, 5]), ([6], [6]), ([], []), ([], []), ([8, 9], [8, 9]), ([10], [10]), ([0, 1, 0, 1, 4, 5, 6, 7, 11], [0, 1]), ([12, 7, 0, 1, 4, 5, 6, 7, 11], [7, 12]), ([2, 3, 0, 1, 2, 3, 4, 5, 6, 7, 8, 9, 10, 11, 12, 13], [2, 3]), ([14, 11, 13, 0, 1, 2, 3, 4, 5, 6, 7, 8, 9, 10, 11, 12, 13], [11, 14])])
def rg38_0_B : List Nat := [0, 0, 0, 0, 0, 0, 48, 112, 0, 0, 768, 1792, 4083, 8179, 16383, 32767]
theorem rg38_0_tab : rtab .any (opsOf Try.f38 0) = rg38_0_T := by kernel_rfl
theorem rg38_0_bits : waitsOk rg38_0_T.2 rg38_0_B = true := by kernel_rfl
set_option maxHeartbeats 8000000 in
set_option maxRecDepth 100000 in
theorem swap_calls (w0 : World) (g0 cap n m : Nat) (rs : List (Nat × Nat)) (f : Nat → Nat → Int) (a b : Nat) (W : World) (hG : Grid w0.heap.size W (.slice (some ⟨g0, 0, none⟩) n cap) m (rs.map some) rs f) (hrs : rs.length = n) (ha : a < n) (hb : b < n) (hn : n ≤ 255) (hB : Below w0.heap.size w0 W) :
  Calls Try.prog 38 #[.slice (some ⟨g0, 0, none⟩) n cap, .int .i64 a, .int .i64 b] W fun e W' => e = .returned (.tuple #[]) ∧ Grid w0.heap.size W' (.slice (some ⟨g0, 0, none⟩) n cap) m ((swapL a b rs).map some) (swapL a b rs) (swapI a b f) ∧ KeepBut W W' g0 none ∧ Below w0.heap.size w0 W' := by
 obtain ⟨ra, ca, hra, hoa, _⟩ := gcell hG hrs ha
 obtain ⟨rb, cb, hrb, hob, _⟩ := gcell hG hrs hb
 have HG := Aside0.mk (hG.below (below_drew (Below.refl _ W)))
 have hfa := (hG.outer ha).2
 have hfb := (hG.outer hb).2
 have HRA := Aside0.mk hra
 have HRB := Aside0.mk hrb
 have HRS := Aside0.mk hrs
 have HGE := Aside0.mk (Kd.R_base hG.out g0 (by simp [Value.ownBlock]))
 have HB := Aside0.mk (below_drew1 hB)
 clear hB
 have c1 : decide ((a : Int) < (n : Int)) = true := decide_eq_true (by omega)
 have c2 : decide (a < n) = true := decide_eq_true ha
 have c3 : decide ((b : Int) < (n : Int)) = true := decide_eq_true (by omega)
 have c4 : decide (b < n) = true := decide_eq_true hb
 have hoad : W.drew.cell? ⟨g0, a, none⟩ = some (.slice (some ⟨ra, 0, none⟩) m ca) := hoa
 have hobd : W.drew.cell? ⟨g0, b, none⟩ = some (.slice (some ⟨rb, 0, none⟩) m cb) := hob
 have hfad : W.drew.frozen? ⟨g0, a, none⟩ = false := hfa
 have hfbd : W.drew.frozen? ⟨g0, b, none⟩ = false := hfb
 clear hG hra hrb hrs hoa hob hfa hfb
 go_enter Try.func38, Try.ntmps38
 go_wp2
 refine start_ (n := 16) (S := fun w' => w'.cell? ⟨g0, a, none⟩ = some (.slice (some ⟨ra, 0, none⟩) m ca) ∧ w'.cell? ⟨g0, b, none⟩ = some (.slice (some ⟨rb, 0, none⟩) m cb)) (ds := [13, 15]) #[false, false, false, false, false, false, false, false, false, false, false, false, false, false, false, false] (by kernel_rfl) rfl rfl ⟨hoad, hobd⟩ (fun hHeld => ?_)
 refine with_tabW rg38_0_tab rg38_0_bits (fun HT_ HW_ => ?_)
 obtain ⟨W1, hW1⟩ : ∃ W1, W1 = W.drew := ⟨_, rfl⟩
 rw [← hW1] at hHeld HG HB hoad hobd hfad hfbd ⊢
 have HK := Aside0.mk (show KeepBut W W1 g0 none from by rw [hW1]; exact KeepBut.of_below (below_drew (Below.refl _ W)) g0 none)
 clear hW1
 refine pure_ (i := 0) (N := some 6) (v := ?_) (a' := ?_) #[true, false, false, false, false, false, false, false, false, false, false, false, false, false, false, false] rfl rfl (any_of HT_.out (by kernel_rfl)) (fun _ _ _ h => h) (Or.inl ⟨by rfl, ?_⟩) ?_ ?_
 rotate_left
 ·intro w'
  go_simp
  with_reducible rfl
 rotate_left
 ·simp only [Act.put, List.setIfInBounds_toArray, List.set_cons_zero, List.set_cons_succ, i64_w, i32_w]
  rfl
 refine pure_ (i := 1) (N := some 7) (v := ?_) (a' := ?_) #[true, true, false, false, false, false, false, false, false, false, false, false, false, false, false, false] rfl rfl (any_of HT_.out (by kernel_rfl)) (fun _ _ _ h => h) (Or.inl ⟨by rfl, ?_⟩) ?_ ?_
 rotate_left
 ·intro w'
  go_simp
  with_reducible rfl
 rotate_left
 ·simp only [Act.put, List.setIfInBounds_toArray, List.set_cons_zero, List.set_cons_succ, i64_w, i32_w]
  rfl
 refine pure_ (i := 2) (N := some 8) (v := ?_) (a' := ?_) #[true, true, true, false, false, false, false, false, false, false, false, false, false, false, false, false] rfl rfl (any_of HT_.out (by kernel_rfl)) (fun _ _ _ h => h) (Or.inl ⟨by rfl, ?_⟩) ?_ ?_
 rotate_left
 ·intro w'
  go_simp
  with_reducible rfl
 rotate_left
 ·simp only [Act.put, List.setIfInBounds_toArray, List.set_cons_zero, List.set_cons_succ, i64_w, i32_w]
  rfl
 refine pure_ (i := 3) (N := some 9) (v := ?_) (a' := ?_) #[true, true, true, true, false, false, false, false, false, false, false, false, false, false, false, false] rfl rfl (any_of HT_.out (by kernel_rfl)) (fun _ _ _ h => h) (Or.inl ⟨by rfl, ?_⟩) ?_ ?_
 rotate_left
 ·intro w'
  go_simp
  with_reducible rfl
 rotate_left
 ·simp only [Act.put, List.setIfInBounds_toArray, List.set_cons_zero, List.set_cons_succ, i64_w, i32_w]
  rfl
 refine pure_ (i := 4) (N := some 10) (v := ?_) (a' := ?_) #[true, true, true, true, true, false, false, false, false, false, false, false, false, false, false, false] rfl rfl (any_of HT_.out (by kernel_rfl)) (fun _ _ _ h => h) (Or.inl ⟨by rfl, ?_⟩) ?_ ?_
 rotate_left
 ·intro w'
  go_simp
  with_reducible rfl
 rotate_left
 ·simp only [Act.put, List.setIfInBounds_toArray, List.set_cons_zero, List.set_cons_succ, i64_w, i32_w]
  rfl
 refine pure_ (i := 5) (N := some 11) (v := ?_) (a' := ?_) #[true, true, true, true, true, true, false, false, false, false, false, false, false, false, false, false] rfl rfl (any_of HT_.out (by kernel_rfl)) (fun _ _ _ h => h) (Or.inl ⟨by rfl, ?_⟩) ?_ ?_
 rotate_left
 ·intro w'
  go_simp
  with_reducible rfl
 rotate_left
 ·simp only [Act.put, List.setIfInBounds_toArray, List.set_cons_zero, List.set_cons_succ, i64_w, i32_w]
  rfl
 refine pure_ (i := 6) (N := some 12) (v := ?_) (a' := ?_) #[true, true, true, true, true, true, true, false, false, false, false, false, false, false, false, false] rfl rfl (any_of HT_.out (by kernel_rfl)) (fun _ _ _ h => h) (Or.inl ⟨by rfl, ?_⟩) ?_ ?_
 rotate_left
 ·intro w'
  go_simp
  with_reducible rfl
 rotate_left
 ·simp only [Act.put, List.setIfInBounds_toArray, List.set_cons_zero, List.set_cons_succ, i64_w, i32_w]
  rfl
 refine take_ (i := 7) (N := some 13) (v := ?_) (a' := ?_) #[true, true, true, true, true, true, true, true, false, false, false, false, false, false, false, false] rfl rfl (take_ofW HT_.out HW_.out (by kernel_rfl)) (fun _ _ _ h => h) (Or.inl ⟨by rfl, ?_⟩) hHeld ?_ ?_
 rotate_left
 ·rintro w' ⟨s0, s1⟩
  go_simp
  with_reducible rfl
 rotate_left
 ·simp only [Act.put, List.setIfInBounds_toArray, List.set_cons_zero, List.set_cons_succ, i64_w, i32_w]
  rfl
 refine pure_ (i := 8) (N := some 14) (v := ?_) (a' := ?_) #[true, true, true, true, true, true, true, true, true, false, false, false, false, false, false, false] rfl rfl (any_of HT_.out (by kernel_rfl)) (fun _ _ _ h => h) (Or.inl ⟨by rfl, ?_⟩) ?_ ?_
 rotate_left
 ·intro w'
  go_simp
  with_reducible rfl
 rotate_left
 ·simp only [Act.put, List.setIfInBounds_toArray, List.set_cons_zero, List.set_cons_succ, i64_w, i32_w]
  rfl
 refine pure_ (i := 9) (N := some 15) (v := ?_) (a' := ?_) #[true, true, true, true, true, true, true, true, true, true, false, false, false, false, false, false] rfl rfl (any_of HT_.out (by kernel_rfl)) (fun _ _ _ h => h) (Or.inl ⟨by rfl, ?_⟩) ?_ ?_
 rotate_left
 ·intro w'
  go_simp
  with_reducible rfl
 rotate_left
 ·simp only [Act.put, List.setIfInBounds_toArray, List.set_cons_zero, List.set_cons_succ, i64_w, i32_w]
  rfl
 refine pure_ (i := 10) (N := some 16) (v := ?_) (a' := ?_) #[true, true, true, true, true, true, true, true, true, true, true, false, false, false, false, false] rfl rfl (any_of HT_.out (by kernel_rfl)) (fun _ _ _ h => h) (Or.inl ⟨by rfl, ?_⟩) ?_ ?_
 rotate_left
 ·intro w'
  go_simp
  with_reducible rfl
 rotate_left
 ·simp only [Act.put, List.setIfInBounds_toArray, List.set_cons_zero, List.set_cons_succ, i64_w, i32_w]
  rfl
 refine take_ (i := 11) (N := some 17) (v := ?_) (a' := ?_) #[true, true, true, true, true, true, true, true, true, true, true, true, false, false, false, false] rfl rfl (take_ofW HT_.out HW_.out (by kernel_rfl)) (fun _ _ _ h => h) (Or.inl ⟨by rfl, ?_⟩) hHeld ?_ ?_
 rotate_left
 ·rintro w' ⟨s0, s1⟩
  go_simp
  with_reducible rfl
 rotate_left
 ·simp only [Act.put, List.setIfInBounds_toArray, List.set_cons_zero, List.set_cons_succ, i64_w, i32_w]
  rfl
 refine pure_ (i := 12) (N := some 18) (v := ?_) (a' := ?_) #[true, true, true, true, true, true, true, true, true, true, true, true, true, false, false, false] rfl rfl (any_of HT_.out (by kernel_rfl)) (fun _ _ _ h => h) (Or.inl ⟨by rfl, ?_⟩) ?_ ?_
 rotate_left
 ·intro w'
  go_simp
  with_reducible rfl
 rotate_left
 ·simp only [Act.put, List.setIfInBounds_toArray, List.set_cons_zero, List.set_cons_succ, i64_w, i32_w]
  rfl
 refine last_ (i := 13) (N := none) #[true, true, true, true, true, true, true, true, true, true, true, true, true, true, false, false] rfl rfl (one_of HT_.out (by kernel_rfl)) (by decide) (fun K hK => ?_)
 (refine skip_ (w1 := ?_) (by rfl) rfl ?_ ?_; rotate_left; · (go_simp; rfl))
 refine hK.out _ _ ?_
 clear hK K
 try simp only [Act.put, List.setIfInBounds_toArray, List.set_cons_zero, List.set_cons_succ, i64_w, i32_w]
 refine pure_ (i := 14) (N := some 19) (v := ?_) (a' := ?_) #[true, true, true, true, true, true, true, true, true, true, true, true, true, true, true, false] rfl rfl (any_of HT_.out (by kernel_rfl)) (fun _ _ _ h => h) (Or.inl ⟨by rfl, ?_⟩) ?_ ?_
 rotate_left
 ·intro w'
  go_simp
  with_reducible rfl
 rotate_left
 ·simp only [Act.put, List.setIfInBounds_toArray, List.set_cons_zero, List.set_cons_succ, i64_w, i32_w]
  rfl
 have hsb : (W1.setCell ⟨g0, a, none⟩ (.slice (some ⟨rb, 0, none⟩) m cb)).frozen? ⟨g0, b, none⟩ = false := by simpa using hfbd
 obtain ⟨vb, hvb⟩ : ∃ v, (W1.setCell ⟨g0, a, none⟩ (.slice (some ⟨rb, 0, none⟩) m cb)).cell? ⟨g0, b, none⟩ = some v := cell?_setCell_some (p := ⟨g0, a, none⟩) (x := .slice (some ⟨rb, 0, none⟩) m cb) (q := ⟨g0, b, none⟩) hobd
 refine last_ (i := 15) (N := none) #[true, true, true, true, true, true, true, true, true, true, true, true, true, true, true, true] rfl rfl (one_of HT_.out (by kernel_rfl)) (by decide) (fun K hK => ?_)
 (refine skip_ (w1 := ?_) (by rfl) rfl ?_ ?_; rotate_left; · (go_simp; rfl))
 refine hK.out _ _ ?_
 clear hK K
 try simp only [Act.put, List.setIfInBounds_toArray, List.set_cons_zero, List.set_cons_succ, i64_w, i32_w]
 refine done_ (done_of HT_.out (by kernel_rfl)) ?_
 go_wp2
 go_end0
 refine ⟨rfl, grid_swapped HG.out HRS.out HRA.out HRB.out, ?_⟩
 exact ⟨KeepBut.set_ (KeepBut.set_ HK.out a _) b _, below_set (below_set HB.out HGE.out) HGE.out⟩
end Go.Proofs.Ytoghhpkmficnmaa.Al

/- Matrices over the field, as functions of a row and a column: products, what the moves of rows do, and what the elimination tells. Plain mathematics. -/
namespace Go.Proofs.Ytoghhpkmficnmaa.GfMath
abbrev Mx := Nat → Nat → Nat
def By2 (A : Mx) : Prop := ∀ i j, A i j < 256
/-- The sum of the first n. -/
def xs : Nat → (Nat → Nat) → Nat
 |0, _ => 0
 |n + 1, f => xs n f ^^^ f n
theorem xs_lt {n : Nat} {f : Nat → Nat} (h : ∀ i, i < n → f i < 256) : xs n f < 256 := by
 induction n with
 |zero => show 0 < 256; omega
 |succ n ih => exact xor_lt (ih fun i hi => h i (by omega)) (h n (by omega))
theorem xs_congr {n : Nat} {f g : Nat → Nat} (h : ∀ i, i < n → f i = g i) : xs n f = xs n g := by
 induction n with
 |zero => rfl
 |succ n ih => rw [xs, xs, ih fun i hi => h i (by omega), h n (by omega)]
theorem xs_xor (n : Nat) (f g : Nat → Nat) : xs n (fun i => f i ^^^ g i) = xs n f ^^^ xs n g := by
 induction n with
 |zero => exact (Nat.xor_self 0).symm
 |succ n ih => rw [xs, xs, xs, ih, xor4]
theorem xs_zero (n : Nat) : xs n (fun _ => 0) = 0 := by
 induction n with
 |zero => rfl
 |succ n ih => rw [xs, ih]; rfl
theorem mul_xs {n a : Nat} {f : Nat → Nat} (ha : a < 256) (hf : ∀ i, i < n → f i < 256) : mulN a (xs n f) = xs n (fun i => mulN a (f i)) := by
 induction n with
 |zero => exact mul_zero a
 |succ n ih => rw [xs, xs, mul_xor ha (xs_lt fun i hi => hf i (by omega)) (hf n (by omega)), ih fun i hi => hf i (by omega)]
theorem xs_mul {n a : Nat} {f : Nat → Nat} (ha : a < 256) (hf : ∀ i, i < n → f i < 256) : mulN (xs n f) a = xs n (fun i => mulN (f i) a) := by
 rw [mul_comm, mul_xs ha hf]
 exact xs_congr fun i _ => mul_comm _ _
theorem xs_comm (n m : Nat) (f : Mx) : xs n (fun i => xs m (fun j => f i j)) = xs m (fun j => xs n (fun i => f i j)) := by
 induction n with
 |zero => exact (xs_zero m).symm
 |succ n ih => simp only [xs]; rw [xs_xor, ih]
theorem xs_none {n : Nat} {f : Nat → Nat} (h : ∀ i, i < n → f i = 0) : xs n f = 0 := (xs_congr h).trans (xs_zero n)
theorem xs_one {n c : Nat} {f : Nat → Nat} (hc : c < n) (h : ∀ i, i < n → i ≠ c → f i = 0) : xs n f = f c := by
 induction n with
 |zero => omega
 |succ n ih =>
  by_cases e : c = n
  ·subst e
   rw [xs, xs_none fun i hi => h i (by omega) (by omega)]
   exact Nat.zero_xor _
  ·rw [xs, ih (by omega) fun i hi hn => h i (by omega) hn, h n (by omega) (by omega)]
   exact Nat.xor_zero _
def mm (n : Nat) (A B : Mx) : Mx := fun i j => xs n (fun k => mulN (A i k) (B k j))
def Ix : Mx := fun i j => if i = j then 1 else 0
theorem Ix_by : By2 Ix := fun i j => by unfold Ix; split <;> omega
theorem mm_by (n : Nat) (A B : Mx) : By2 (mm n A B) := fun _ _ => xs_lt fun _ _ => mul_lt _ _
theorem mm_congr {n : Nat} {A A' B B' : Mx} {i j : Nat} (ha : ∀ k, k < n → A i k = A' i k) (hb : ∀ k, k < n → B k j = B' k j) : mm n A B i j = mm n A' B' i j :=
 xs_congr fun k hk => by rw [ha k hk, hb k hk]
theorem mm_assoc {n m : Nat} {A B C : Mx} (ha : By2 A) (hb : By2 B) (hc : By2 C) (i j : Nat) : mm n (mm m A B) C i j = mm m A (mm n B C) i j := by
 have h1 : mm n (mm m A B) C i j = xs n (fun k => xs m (fun l => mulN (mulN (A i l) (B l k)) (C k j))) := xs_congr fun k _ => xs_mul (hc k j) fun l _ => mul_lt _ _
 have h2 : mm m A (mm n B C) i j = xs m (fun l => xs n (fun k => mulN (A i l) (mulN (B l k) (C k j)))) := xs_congr fun l _ => mul_xs (ha i l) fun k _ => mul_lt _ _
 rw [h1, h2, xs_comm]
 exact xs_congr fun l _ => xs_congr fun k _ => mul_assoc (ha i l) (hb l k) (hc k j)
theorem one_mul {a : Nat} (ha : a < 256) : mulN 1 a = a := by rw [mul_comm]; exact mul_one ha
theorem mm_one_left {n : Nat} {A : Mx} (ha : By2 A) {i j : Nat} (hi : i < n) : mm n Ix A i j = A i j := by
 have : mm n Ix A i j = (fun k => mulN (Ix i k) (A k j)) i := xs_one hi fun k _ hk => by unfold Ix; rw [if_neg (Ne.symm hk)]; exact zero_mul _
 rw [this]
 simp only [Ix, if_true]
 exact one_mul (ha i j)
theorem mm_one_right {n : Nat} {A : Mx} (ha : By2 A) {i j : Nat} (hj : j < n) : mm n A Ix i j = A i j := by
 have : mm n A Ix i j = (fun k => mulN (A i k) (Ix k j)) j := xs_one hj fun k _ hk => by unfold Ix; rw [if_neg hk]; exact mul_zero _
 rw [this]
 simp only [Ix, if_true]
 exact mul_one (ha i j)
/-- A move of rows. -/
structure RowOp (n : Nat) (op : Mx → Mx) : Prop where
 by_ : ∀ A, By2 A → By2 (op A)
 lin : ∀ A B i j, By2 A → By2 B → i < n → mm n (op A) B i j = op (mm n A B) i j
 cong : ∀ A B j, (∀ i, i < n → A i j = B i j) → ∀ i, i < n → op A i j = op B i j
def swapR (a b : Nat) (A : Mx) : Mx := fun i => if i = a then A b else if i = b then A a else A i
def scaleR (c b : Nat) (A : Mx) : Mx := fun i j => if i = c then mulN b (A c j) else A i j
def elimR (c : Nat) (x : Nat → Nat) (A : Mx) : Mx := fun i j => if i = c then A i j else A i j ^^^ mulN (x i) (A c j)
theorem swap_op {n a b : Nat} (ha : a < n) (hb : b < n) : RowOp n (swapR a b) where
 by_ A h i j := by unfold swapR; split; exact h _ _; split <;> exact h _ _
 lin A B i j _ _ _ := by
  by_cases h1 : i = a
  ·simp only [swapR, mm, if_pos h1]
  ·by_cases h2 : i = b
   ·simp only [swapR, mm, if_neg h1, if_pos h2]
   ·simp only [swapR, mm, if_neg h1, if_neg h2]
 cong A B j h i hi := by unfold swapR; split; exact h _ hb; split; exact h _ ha; exact h _ hi
theorem scale_op {n c b : Nat} (hc : c < n) (hb : b < 256) : RowOp n (scaleR c b) where
 by_ A h i j := by unfold scaleR; split; exact mul_lt _ _; exact h _ _
 lin A B i j hA hB _ := by
  by_cases h1 : i = c
  ·subst h1
   simp only [scaleR, mm, if_true]
   rw [mul_xs hb fun k _ => mul_lt _ _]
   exact xs_congr fun k _ => mul_assoc hb (hA _ _) (hB _ _)
  ·simp only [scaleR, mm, if_neg h1]
 cong A B j h i hi := by unfold scaleR; split; rw [h c hc]; exact h _ hi
theorem elim_op {n c : Nat} {x : Nat → Nat} (hc : c < n) (hx : ∀ i, x i < 256) : RowOp n (elimR c x) where
 by_ A h i j := by unfold elimR; split; exact h _ _; exact xor_lt (h _ _) (mul_lt _ _)
 lin A B i j hA hB _ := by
  by_cases h1 : i = c
  ·simp only [elimR, mm, if_pos h1]
  ·simp only [elimR, mm, if_neg h1]
   rw [mul_xs (hx i) fun k _ => mul_lt _ _, ← xs_xor]
   exact xs_congr fun k _ => by rw [mul_xor_left (hA _ _) (mul_lt _ _) (hB _ _), mul_assoc (hx i) (hA _ _) (hB _ _)]
 cong A B j h i hi := by unfold elimR; split; exact h _ hi; rw [h i hi, h c hc]
/-- What stands behind moves: R takes M to L, and R has an inverse. -/
structure GI (n : Nat) (M L R : Mx) : Prop where
 bL : By2 L
 bR : By2 R
 a : ∀ i j, i < n → j < n → mm n R M i j = L i j
 s : ∃ S, By2 S ∧ (∀ i j, i < n → j < n → mm n S R i j = Ix i j) ∧ (∀ i j, i < n → j < n → mm n R S i j = Ix i j)
theorem GI.step {n : Nat} {M L R : Mx} {op op' : Mx → Mx} (h : GI n M L R) (hM : By2 M) (ho : RowOp n op) (ho' : RowOp n op') (e1 : ∀ A, By2 A → ∀ i j, i < n → op' (op A) i j = A i j) (e2 : ∀ A, By2 A → ∀ i j, i < n → op (op' A) i j = A i j) : GI n M (op L) (op R) := by
 obtain ⟨S, bS, s1, s2⟩ := h.s
 have bI := ho'.by_ Ix Ix_by
 have bO := ho.by_ R h.bR
 refine ⟨ho.by_ L h.bL, bO, fun i j hi hj => ?_, mm n S (op' Ix), mm_by _ _ _, fun i j hi hj => ?_, fun i j hi hj => ?_⟩
 ·rw [ho.lin R M i j h.bR hM hi]
  exact ho.cong _ _ j (fun i' hi' => h.a i' j hi' hj) i hi
 ·rw [mm_assoc bS bI bO, ← s1 i j hi hj]
  refine mm_congr (fun _ _ => rfl) fun k hk => ?_
  rw [ho'.lin Ix (op R) k j Ix_by bO hk]
  rw [ho'.cong _ (op R) j (fun i' hi' => mm_one_left bO hi') k hk]
  exact e1 R h.bR k j hk
 ·rw [ho.lin R _ i j h.bR (mm_by _ _ _) hi]
  have : ∀ i', i' < n → mm n R (mm n S (op' Ix)) i' j = op' Ix i' j := fun i' hi' => by
   rw [← mm_assoc h.bR bS bI, ← mm_one_left bI hi' (j := j)]
   exact mm_congr (fun k hk => s2 i' k hi' hk) fun _ _ => rfl
  rw [ho.cong _ (op' Ix) j this i hi]
  exact e2 Ix Ix_by i j hi
theorem swap_swap {a b : Nat} (A : Mx) (i j : Nat) : swapR a b (swapR a b A) i j = A i j := by
 unfold swapR
 by_cases h1 : i = a
 ·subst h1
  by_cases h2 : b = i
  ·subst h2; simp
  ·simp [h2]
 ·by_cases h2 : i = b
  ·subst h2; simp [h1]
  ·simp [h1, h2]
theorem xor_self_right (a b : Nat) : a ^^^ b ^^^ b = a := by rw [Nat.xor_assoc, Nat.xor_self, Nat.xor_zero]
theorem elim_elim {c : Nat} {x : Nat → Nat} (A : Mx) (i j : Nat) : elimR c x (elimR c x A) i j = A i j := by
 unfold elimR
 by_cases h : i = c
 ·simp [h]
 ·simp only [if_neg h, if_true]
  exact xor_self_right _ _
def inv1 (a : Nat) : Nat := E (L 1 + 255 - L a)
theorem inv1_lt (a : Nat) : inv1 a < 256 := (E_lt _).2
theorem mul_inv1 {a : Nat} (ha : a < 256) (h0 : a ≠ 0) : mulN a (inv1 a) = 1 := by
 obtain ⟨h1, h2⟩ := E_L a ha h0
 have h3 : mulN a (inv1 a) = mulN (E (L a)) (inv1 a) := by rw [h2]
 rw [h3, inv1, mul_EE, L_one, show L a + (0 + 255 - L a) = 255 by omega, E_255]
theorem inv1_mul {a : Nat} (ha : a < 256) (h0 : a ≠ 0) : mulN (inv1 a) a = 1 := by rw [mul_comm]; exact mul_inv1 ha h0
theorem scale_scale {c a b : Nat} (ha : a < 256) (hb : b < 256) (h : mulN a b = 1) (A : Mx) (hA : By2 A) (i j : Nat) : scaleR c a (scaleR c b A) i j = A i j := by
 unfold scaleR
 by_cases e : i = c
 ·subst e
  simp only [if_true]
  rw [← mul_assoc ha hb (hA _ _), h, one_mul (hA _ _)]
 ·simp only [if_neg e]
/-- The first place from 'at' on (d of them) at which column c is not 0; behind the last one where there is none. -/
def piv (A : Mx) (c : Nat) : Nat → Nat → Nat
 |0, p => p
 |d + 1, p => if A p c = 0 then piv A c d (p + 1) else p
theorem piv_spec (A : Mx) (c : Nat) : ∀ d p, p ≤ piv A c d p ∧ piv A c d p ≤ p + d ∧ (∀ i, p ≤ i → i < piv A c d p → A i c = 0) ∧ (piv A c d p < p + d → A (piv A c d p) c ≠ 0)
 |0, p => ⟨Nat.le_refl _, Nat.le_refl _, fun i h1 h2 => by simp only [piv] at h2; omega, fun h => by simp only [piv] at h; omega⟩
 |d + 1, p => by
  simp only [piv]
  split
  ·rename_i h
   obtain ⟨h1, h2, h3, h4⟩ := piv_spec A c d (p + 1)
   refine ⟨by omega, by omega, fun i hi hlt => ?_, fun hlt => h4 (by omega)⟩
   by_cases e : i = p
   ·rw [e]; exact h
   ·exact h3 i (by omega) hlt
  ·rename_i h
   exact ⟨Nat.le_refl _, by omega, fun i h1 h2 => by omega, fun _ => h⟩
theorem piv_uniq {A : Mx} {c d p r : Nat} (h1 : p ≤ r) (h2 : r ≤ p + d) (h3 : ∀ i, p ≤ i → i < r → A i c = 0) (h4 : r < p + d → A r c ≠ 0) : r = piv A c d p := by
 obtain ⟨k1, k2, k3, k4⟩ := piv_spec A c d p
 rcases Nat.lt_trichotomy r (piv A c d p) with h | h | h
 ·exact absurd (k3 r h1 h) (h4 (by omega))
 ·exact h
 ·exact absurd (h3 _ k1 h) (k4 (by omega))
def stepL (c p : Nat) (A : Mx) : Mx := scaleR c (inv1 (swapR c p A c c)) (swapR c p A)
def stepR (c p : Nat) (A B : Mx) : Mx := scaleR c (inv1 (swapR c p A c c)) (swapR c p B)
def gstep (n c : Nat) (q : Mx × Mx) : Option (Mx × Mx) :=
 if piv q.1 c (n - c) c < n then
  some (elimR c (fun i => stepL c (piv q.1 c (n - c) c) q.1 i c) (stepL c (piv q.1 c (n - c) c) q.1), elimR c (fun i => stepL c (piv q.1 c (n - c) c) q.1 i c) (stepR c (piv q.1 c (n - c) c) q.1 q.2))
 else none
def gj (n : Nat) (M : Mx) : Nat → Option (Mx × Mx)
 |0 => some (M, Ix)
 |c + 1 => (gj n M c).bind (gstep n c)
structure GJ (n c : Nat) (M : Mx) (q : Mx × Mx) : Prop where
 gi : GI n M q.1 q.2
 u : ∀ i j, i < n → j < c → q.1 i j = Ix i j
theorem GJ.start {n : Nat} {M : Mx} (hM : By2 M) : GJ n 0 M (M, Ix) :=
 ⟨⟨hM, Ix_by, fun i j hi _ => mm_one_left hM hi, Ix, Ix_by, fun i j hi _ => mm_one_left Ix_by hi, fun i j hi _ => mm_one_left Ix_by hi⟩, fun i j _ hj => absurd hj (by omega)⟩
theorem GJ.next {n c : Nat} {M : Mx} {q q' : Mx × Mx} (h : GJ n c M q) (hM : By2 M) (hc : c < n) (hs : gstep n c q = some q') : GJ n (c + 1) M q' := by
 unfold gstep at hs
 split at hs
 case isFalse => cases hs
 rename_i hp
 obtain ⟨p1, p2, p3, p4⟩ := piv_spec q.1 c (n - c) c
 generalize piv q.1 c (n - c) c = p at hs hp p1 p2 p3 p4
 obtain ⟨A, B⟩ := q
 simp only at *
 obtain rfl := Option.some.inj hs
 have hA := h.gi.bL
 have g1 := h.gi.step hM (swap_op hc hp) (swap_op hc hp) (fun A _ i j _ => swap_swap A i j) (fun A _ i j _ => swap_swap A i j)
 have e0 : swapR c p A c c = A p c := by simp [swapR]
 have hv0 : A p c ≠ 0 := p4 (by omega)
 have hvb : A p c < 256 := hA p c
 have i1 := mul_inv1 hvb hv0
 have i2 := inv1_mul hvb hv0
 have ib := inv1_lt (A p c)
 have g2 := g1.step hM (scale_op hc ib) (scale_op hc hvb) (fun A hA i j _ => scale_scale hvb ib i1 A hA i j) (fun A hA i j _ => scale_scale ib hvb i2 A hA i j)
 have g3 := g2.step hM (elim_op (x := fun i => stepL c p A i c) hc (fun i => by unfold stepL; rw [e0]; exact g2.bL i c)) (elim_op (x := fun i => stepL c p A i c) hc (fun i => by unfold stepL; rw [e0]; exact g2.bL i c)) (fun A _ i j _ => elim_elim A i j) (fun A _ i j _ => elim_elim A i j)
 have g3' := g3
 refine ⟨?_, fun i j hi hj => ?_⟩
 ·unfold stepR; unfold stepL at g3' ⊢; rw [e0] at g3' ⊢; exact g3'
 ·have s2 : ∀ i', i' < n → ∀ j', j' < c → stepL c p A i' j' = Ix i' j' := fun i' hi' j' hj' => by
   have u1 := h.u c j' hc hj'
   have u2 := h.u p j' hp hj'
   have u3 := h.u i' j' hi' hj'
   simp only at u1 u2 u3
   have z1 : Ix c j' = 0 := by unfold Ix; rw [if_neg (by omega)]
   have z2 : Ix p j' = 0 := by unfold Ix; rw [if_neg (by omega)]
   unfold stepL scaleR swapR
   simp only [if_true]
   by_cases q1 : i' = c
   ·rw [if_pos q1, u2, z2, q1, z1]; exact mul_zero _
   ·rw [if_neg q1, if_neg q1]
    by_cases q2 : i' = p
    ·rw [if_pos q2, u1, z1, q2, z2]
    ·rw [if_neg q2]; exact u3
  have s3 : stepL c p A c c = 1 := by unfold stepL; rw [e0]; simp [scaleR, swapR]; exact i2
  have bS : ∀ i' j', stepL c p A i' j' < 256 := fun i' j' => by unfold stepL; rw [e0]; exact g2.bL i' j'
  show elimR c (fun i => stepL c p A i c) (stepL c p A) i j = Ix i j
  unfold elimR
  by_cases e : j = c
  ·subst e
   by_cases q1 : i = j
   ·rw [if_pos q1, q1, s3]; simp [Ix]
   ·rw [if_neg q1, s3, mul_one (bS _ _), Nat.xor_self]; unfold Ix; rw [if_neg q1]
  ·have hj' : j < c := by omega
   by_cases q1 : i = c
   ·rw [if_pos q1]; exact s2 i hi j hj'
   ·rw [if_neg q1, s2 i hi j hj', s2 c hc j hj', show Ix c j = 0 from by unfold Ix; rw [if_neg (by omega)], mul_zero]; exact Nat.xor_zero _
theorem gj_inv {n : Nat} {M : Mx} (hM : By2 M) : ∀ c, c ≤ n → ∀ q, gj n M c = some q → GJ n c M q
 |0, _, q, h => by obtain rfl := Option.some.inj h; exact GJ.start hM
 |c + 1, hc, q, h => by
  rw [gj, Option.bind_eq_some_iff] at h
  obtain ⟨q0, h0, h1⟩ := h
  exact (gj_inv hM c (by omega) q0 h0).next hM (by omega) h1
theorem kernel {n c : Nat} {M : Mx} {q : Mx × Mx} (h : GJ n c M q) (hM : By2 M) (hc : c < n) (hs : gstep n c q = none) :
  ∃ v : Nat → Nat, (∀ j, v j < 256) ∧ (∃ j, j < n ∧ v j ≠ 0) ∧ ∀ i, i < n → xs n (fun j => mulN (M i j) (v j)) = 0 := by
 unfold gstep at hs
 split at hs
 ·cases hs
 rename_i hp
 obtain ⟨p1, p2, p3, p4⟩ := piv_spec q.1 c (n - c) c
 have hz : ∀ i, c ≤ i → i < n → q.1 i c = 0 := fun i h1 h2 => p3 i h1 (by omega)
 obtain ⟨S, bS, s1, s2⟩ := h.gi.s
 obtain ⟨v, hv⟩ : ∃ v : Nat → Nat, v = fun j => if j < c then q.1 j c else if j = c then 1 else 0 := ⟨_, rfl⟩
 have bv : ∀ j, v j < 256 := fun j => by rw [hv]; simp only; split; exact h.gi.bL _ _; split <;> omega
 have hL : ∀ i, i < n → xs n (fun j => mulN (q.1 i j) (v j)) = 0 := fun i hi => by
  have hsplit : xs n (fun j => mulN (q.1 i j) (v j)) = xs n (fun j => (if j < c then mulN (Ix i j) (q.1 j c) else 0) ^^^ (if j = c then q.1 i c else 0)) := xs_congr fun j hj => by
   rw [hv]
   simp only
   by_cases q1 : j < c
   ·rw [if_pos q1, if_pos q1, if_neg (by omega), h.u i j hi q1]; exact (Nat.xor_zero _).symm
   ·rw [if_neg q1, if_neg q1]
    by_cases q2 : j = c
    ·rw [if_pos q2, if_pos q2, q2, mul_one (h.gi.bL _ _)]; exact (Nat.zero_xor _).symm
    ·rw [if_neg q2, if_neg q2, mul_zero]; rfl
  rw [hsplit, xs_xor, xs_one (c := c) (f := fun j => if j = c then q.1 i c else 0) hc (fun j _ hj => if_neg hj)]
  simp only [if_true]
  by_cases q1 : i < c
  ·rw [xs_one (c := i) hi (fun j _ hj => by split; unfold Ix; rw [if_neg (Ne.symm hj)]; exact zero_mul _; rfl)]
   rw [if_pos q1]
   unfold Ix
   rw [if_pos rfl, one_mul (h.gi.bL _ _)]
   exact Nat.xor_self _
  ·rw [xs_none (fun j _ => by
    by_cases q2 : j < c
    ·rw [if_pos q2]; unfold Ix; rw [if_neg (by omega)]; exact zero_mul _
    ·rw [if_neg q2]), hz i (by omega) hi]
   rfl
 refine ⟨v, bv, ⟨c, hc, by rw [hv]; simp⟩, fun i hi => ?_⟩
 -- M v = S (R M) v = S (L v) = 0
 have hcol : ∀ (A : Mx) (i : Nat), xs n (fun j => mulN (A i j) (v j)) = mm n A (fun k _ => v k) i 0 := fun A i => rfl
 have bV : By2 (fun k _ => v k) := fun k _ => bv k
 rw [hcol, ← mm_one_left (n := n) (mm_by n M _) hi]
 rw [mm_congr (A' := mm n S q.2) (B' := mm n M (fun k _ => v k)) (fun k hk => (s1 i k hi hk).symm) (fun _ _ => rfl)]
 rw [mm_assoc bS h.gi.bR (mm_by _ _ _)]
 refine xs_none fun k hk => ?_
 rw [← mm_assoc h.gi.bR hM bV, mm_congr (A' := q.1) (B' := fun k _ => v k) (fun j hj => h.gi.a k j hk hj) (fun _ _ => rfl), ← hcol, hL k hk]
 exact mul_zero _
theorem gj_none {n : Nat} {M : Mx} (hM : By2 M) : ∀ c, c ≤ n → gj n M c = none → ∃ v : Nat → Nat, (∀ j, v j < 256) ∧ (∃ j, j < n ∧ v j ≠ 0) ∧ ∀ i, i < n → xs n (fun j => mulN (M i j) (v j)) = 0
 |0, _, h => by cases h
 |c + 1, hc, h => by
  rw [gj, Option.bind_eq_none_iff] at h
  rcases hq : gj n M c with _ | q0
  ·exact gj_none hM c (by omega) hq
  ·exact kernel (gj_inv hM c (by omega) q0 hq) hM (by omega) (h q0 hq)
/-- What the elimination tells: an inverse from both sides, or columns that go together to nothing. -/
theorem gauss {n : Nat} {M : Mx} (hM : By2 M) : (∃ q, gj n M n = some q ∧ By2 q.2 ∧ (∀ i j, i < n → j < n → mm n q.2 M i j = Ix i j) ∧ (∀ i j, i < n → j < n → mm n M q.2 i j = Ix i j)) ∨
  (gj n M n = none ∧ ∃ v : Nat → Nat, (∀ j, v j < 256) ∧ (∃ j, j < n ∧ v j ≠ 0) ∧ ∀ i, i < n → xs n (fun j => mulN (M i j) (v j)) = 0) := by
 rcases hq : gj n M n with _ | q
 ·exact .inr ⟨rfl, gj_none hM n (Nat.le_refl _) hq⟩
 ·have h := gj_inv hM n (Nat.le_refl _) q hq
  obtain ⟨S, bS, s1, s2⟩ := h.gi.s
  have r1 : ∀ i j, i < n → j < n → mm n q.2 M i j = Ix i j := fun i j hi hj => (h.gi.a i j hi hj).trans (h.u i j hi hj)
  -- M = S (R M) = S
  have r2 : ∀ i j, i < n → j < n → M i j = S i j := fun i j hi hj => by
   rw [← mm_one_left (n := n) hM hi, mm_congr (A' := mm n S q.2) (B' := M) (fun k hk => (s1 i k hi hk).symm) (fun _ _ => rfl), mm_assoc bS h.gi.bR hM, mm_congr (A' := S) (B' := Ix) (fun _ _ => rfl) (fun k hk => r1 k j hk hj)]
   exact mm_one_right bS hj
  refine .inl ⟨q, rfl, h.gi.bR, r1, fun i j hi hj => ?_⟩
  rw [mm_congr (A' := S) (B' := q.2) (fun k hk => r2 i k hi hk) (fun _ _ => rfl)]
  exact s1 i j hi hj
end Go.Proofs.Ytoghhpkmficnmaa.GfMath

/- What an elimination works on: two grids, the field's table, the result's block; what each step leaves. -/
namespace Go.Proofs.Ytoghhpkmficnmaa.Al
open Go.RowKit Go.Proofs.Ytoghhpkmficnmaa.GfMath Go.Proofs.Ytoghhpkmficnmaa.GfRef Go.Proofs.Ytoghhpkmficnmaa.Base Go.Proofs.Ytoghhpkmficnmaa.Bytes Go.Proofs.Ytoghhpkmficnmaa.Grid Go.Proofs.YtoghhpkmficnmaaW.PrintWords Go.Proofs.YtoghhpkmficnmaaW.PrintLast Go.Proofs.YtoghhpkmficnmaaW.PrintMore
set_option linter.unusedVariables false
set_option linter.unusedSimpArgs false
def toI (A : Mx) (i j : Nat) : Int := ((A i j : Nat) : Int)
theorem toI_by {A : Mx} (h : By2 A) : ByF (toI A) := fun i j => by have := h i j; unfold toI Byte; omega
def entN (c : Nat) (s : ByteArray) : Mx := fun i j => (bt s ((i * c + j : Nat) : Int)).toNat
theorem entN_by (c : Nat) (s : ByteArray) : By2 (entN c s) := fun i j => by have := bt_range s ((i * c + j : Nat) : Int); unfold entN; omega
theorem toI_ent (c : Nat) (s : ByteArray) (i j : Nat) : toI (entN c s) i j = bt s ((i * c + j : Nat) : Int) := by
 have := bt_range s ((i * c + j : Nat) : Int)
 unfold toI entN; omega
theorem toI_Ix (i j : Nat) : toI Ix i j = ixI i j := by unfold toI Ix ixI; split <;> rfl
theorem grid_keepR {B : Nat} {W W' : World} {v : Value} {m : Nat} {os : List (Option (Nat × Nat))} {rs rs' : List (Nat × Nat)} {f f' : Nat → Nat → Int} {v' : Value} {os' : List (Option (Nat × Nat))} {m' : Nat} (h : Grid B W v m os rs f) (h' : Grid B W v' m' os' rs' f') (hk : KeepR rs' W W') (hs : ∀ p, p ∈ rs' → ∀ q, q ∈ rs → p.1 ≠ q.1) : Grid B W' v m os rs f := by
 refine ⟨Kd.R_mono (Kd.R_move (Kd.R_bound h.out) (fun k hk' => ?_)) (fun _ _ => trivial), fun i p hp => ⟨(h.row i p hp).1.keep (hk.2 p.1 (h.row i p hp).1.lt (fun q hq => hs q hq p (List.mem_of_getElem? hp))), (h.row i p hp).2⟩, h.nd⟩
 obtain ⟨_, _, hlt, q, hq, cells, hc⟩ := hk'
 refine hk.2 k hlt (fun p hp he => ?_)
 obtain ⟨i, hi⟩ := List.mem_iff_getElem?.1 hp
 have hq' : q = 54 := by simpa [kG, Kd.scalar] using hq
 subst hq'
 exact (h'.row i p hi).1.ne hc (by decide) he
theorem grid_keepB {B : Nat} {W W' : World} {g0 n cap : Nat} {m : Nat} {os : List (Option (Nat × Nat))} {rs rs' : List (Nat × Nat)} {f f' : Nat → Nat → Int} {g' n' cap' : Nat} {os' : List (Option (Nat × Nat))} {m' : Nat} (h : Grid B W (.slice (some ⟨g0, 0, none⟩) n cap) m os rs f) (h' : Grid B W (.slice (some ⟨g', 0, none⟩) n' cap') m' os' rs' f') (hk : KeepBut W W' g' none) (hs : g0 ≠ g') : Grid B W' (.slice (some ⟨g0, 0, none⟩) n cap) m os rs f := by
 obtain ⟨cells', hc'⟩ := Kd.R_typed h'.out g' (by simp [Value.ownBlock])
 refine ⟨?_, fun i p hp => ⟨(h.row i p hp).1.keep (hk.2 p.1 (h.row i p hp).1.lt ((h.row i p hp).1.ne hc' (by decide)) (by simp)), (h.row i p hp).2⟩, h.nd⟩
 obtain ⟨ho, inner, how, hr⟩ := h.out
 have hlt := (Array.getElem?_eq_some_iff.1 (Kd.R_typed h.out g0 (by simp [Value.ownBlock])).choose_spec).1
 refine ⟨ho, inner, own_move how (fun k hk' => ?_), hr.imp_ (fun _ _ hp => hp)⟩
 obtain rfl : g0 = k := by simpa [Value.ownBlock] using hk'
 exact hk.2 g0 hlt hs (by simp)
theorem keepR_blk {B : Nat} {W W' : World} {v : Value} {m : Nat} {os : List (Option (Nat × Nat))} {rs : List (Nat × Nat)} {f : Nat → Nat → Int} (h : Grid B W v m os rs f) (hk : KeepR rs W W') {g t : Nat} {cs : Array Value} (hb : W.heap[g]? = some (.cells cs t (0, 0))) (ht : t ≠ 5) : W'.heap[g]? = some (.cells cs t (0, 0)) :=
 (hk.2 g (blk_lt hb) (fun p hp he => by
  obtain ⟨i, hi⟩ := List.mem_iff_getElem?.1 hp
  exact (h.row i p hi).1.ne hb ht he)).trans hb
theorem keepB_blk {B : Nat} {W W' : World} {g0 n cap : Nat} {m : Nat} {os : List (Option (Nat × Nat))} {rs : List (Nat × Nat)} {f : Nat → Nat → Int} (h : Grid B W (.slice (some ⟨g0, 0, none⟩) n cap) m os rs f) (hk : KeepBut W W' g0 none) {g t : Nat} {cs : Array Value} (hb : W.heap[g]? = some (.cells cs t (0, 0))) (ht : t ≠ 54) : W'.heap[g]? = some (.cells cs t (0, 0)) := by
 obtain ⟨cells, hc⟩ := Kd.R_typed h.out g0 (by simp [Value.ownBlock])
 exact (hk.2 g (blk_lt hb) (blk_ne hb hc ht) (by simp)).trans hb
/-- The function value of a grid's swap. -/
def fv (g n c : Nat) : Value := .func (.func 38) #[.slice (some ⟨g, 0, none⟩) n c] #[]
structure IS (w0 W : World) (n gf gq gs gL cL gR cR : Nat) (rL rR : List (Nat × Nat)) (A B : Mx) : Prop where
 tab : Tab W gf
 bq : W.heap[gq]? = some (.cells #[.int .i64 0, .int .i64 0, .string ⟨#[]⟩] 24 (0, 0))
 bs : W.heap[gs]? = some (.cells #[fv gL n cL, fv gR n cR] 65 (0, 0))
 L : Grid w0.heap.size W (.slice (some ⟨gL, 0, none⟩) n cL) n (rL.map some) rL (toI A)
 R : Grid w0.heap.size W (.slice (some ⟨gR, 0, none⟩) n cR) n (rR.map some) rR (toI B)
 nL : rL.length = n
 nR : rR.length = n
 ne : gL ≠ gR
 sep : ∀ p, p ∈ rL → ∀ q, q ∈ rR → p.1 ≠ q.1
 bA : By2 A
 bB : By2 B
 bel : Below w0.heap.size w0 W
 geq : w0.heap.size ≤ gq
section
variable {w0 W W' : World} {n gf gq gs gL cL gR cR : Nat} {rL rR : List (Nat × Nat)} {A B : Mx}
theorem IS.below (h : IS w0 W n gf gq gs gL cL gR cR rL rR A B) (hb : Below W.heap.size W W') : IS w0 W' n gf gq gs gL cL gR cR rL rR A B :=
 ⟨h.tab.below hb, blk_below h.bq hb, blk_below h.bs hb, h.L.below hb, h.R.below hb, h.nL, h.nR, h.ne, h.sep, h.bA, h.bB, below_step h.bel hb, h.geq⟩
theorem IS.drewN (h : IS w0 W n gf gq gs gL cL gR cR rL rR A B) (k : Nat) : IS w0 (W.drewN k) n gf gq gs gL cL gR cR rL rR A B := h.below (pw_below_drewN (Below.refl _ _) k)
theorem IS.congr (h : IS w0 W n gf gq gs gL cL gR cR rL rR A B) {A' B' : Mx} (ba : By2 A') (bb : By2 B') (ha : ∀ i j, i < n → j < n → A i j = A' i j) (hb : ∀ i j, i < n → j < n → B i j = B' i j) : IS w0 W n gf gq gs gL cL gR cR rL rR A' B' :=
 { h with L := h.L.congr (fun i j hi hj => by unfold toI; rw [ha i j (by rw [← h.nL]; exact hi) hj]), R := h.R.congr (fun i j hi hj => by unfold toI; rw [hb i j (by rw [← h.nR]; exact hi) hj]), bA := ba, bB := bb }
theorem tab_keepR (h : IS w0 W n gf gq gs gL cL gR cR rL rR A B) (hk : KeepR rL W W') : Tab W' gf := by
 obtain ⟨cs, hcs, hok⟩ := h.tab
 exact ⟨cs, keepR_blk h.L hk hcs (by decide), hok⟩
theorem IS.rowsL (h : IS w0 W n gf gq gs gL cL gR cR rL rR A B) {f : Nat → Nat → Int} {A' : Mx} (hG : Grid w0.heap.size W' (.slice (some ⟨gL, 0, none⟩) n cL) n (rL.map some) rL f) (hf : ∀ i j, f i j = toI A' i j) (ba : By2 A') (hk : KeepR rL W W') (hb : Below w0.heap.size w0 W') : IS w0 W' n gf gq gs gL cL gR cR rL rR A' B :=
 ⟨tab_keepR h hk, keepR_blk h.L hk h.bq (by decide), keepR_blk h.L hk h.bs (by decide), hG.congr (fun i j _ _ => hf i j), grid_keepR h.R h.L hk h.sep, h.nL, h.nR, h.ne, h.sep, ba, h.bB, hb, h.geq⟩
theorem IS.rowsR (h : IS w0 W n gf gq gs gL cL gR cR rL rR A B) {f : Nat → Nat → Int} {B' : Mx} (hG : Grid w0.heap.size W' (.slice (some ⟨gR, 0, none⟩) n cR) n (rR.map some) rR f) (hf : ∀ i j, f i j = toI B' i j) (bb : By2 B') (hk : KeepR rR W W') (hb : Below w0.heap.size w0 W') : IS w0 W' n gf gq gs gL cL gR cR rL rR A B' := by
 obtain ⟨cs, hcs, hok⟩ := h.tab
 exact ⟨⟨cs, keepR_blk h.R hk hcs (by decide), hok⟩, keepR_blk h.R hk h.bq (by decide), keepR_blk h.R hk h.bs (by decide), grid_keepR h.L h.R hk (fun p hp q hq he => h.sep q hq p hp he.symm), hG.congr (fun i j _ _ => hf i j), h.nL, h.nR, h.ne, h.sep, h.bA, bb, hb, h.geq⟩
theorem swapL_mem {a b : Nat} {rs : List (Nat × Nat)} (ha : a < rs.length) (hb : b < rs.length) {p : Nat × Nat} (hp : p ∈ swapL a b rs) : p ∈ rs := by
 obtain ⟨i, hi⟩ := List.mem_iff_getElem?.1 hp
 rw [swapL_get ha hb] at hi
 split at hi
 ·exact List.mem_of_getElem? hi
 ·split at hi <;> exact List.mem_of_getElem? hi
theorem IS.swL (h : IS w0 W n gf gq gs gL cL gR cR rL rR A B) {a b : Nat} (ha : a < n) (hb : b < n) (hG : Grid w0.heap.size W' (.slice (some ⟨gL, 0, none⟩) n cL) n ((swapL a b rL).map some) (swapL a b rL) (swapI a b (toI A))) (hk : KeepBut W W' gL none) (hbl : Below w0.heap.size w0 W') : IS w0 W' n gf gq gs gL cL gR cR (swapL a b rL) rR (swapR a b A) B := by
 obtain ⟨cs, hcs, hok⟩ := h.tab
 have hn := h.nL
 exact ⟨⟨cs, keepB_blk h.L hk hcs (by decide), hok⟩, keepB_blk h.L hk h.bq (by decide), keepB_blk h.L hk h.bs (by decide), hG.congr (fun i j _ _ => by unfold swapI toI swapR; split; rfl; split <;> rfl), grid_keepB h.R h.L hk (Ne.symm h.ne), by rw [swapL_len]; exact hn, h.nR, h.ne, fun p hp => h.sep p (swapL_mem (by omega) (by omega) hp), (swap_op ha hb).by_ A h.bA, h.bB, hbl, h.geq⟩
theorem IS.swR (h : IS w0 W n gf gq gs gL cL gR cR rL rR A B) {a b : Nat} (ha : a < n) (hb : b < n) (hG : Grid w0.heap.size W' (.slice (some ⟨gR, 0, none⟩) n cR) n ((swapL a b rR).map some) (swapL a b rR) (swapI a b (toI B))) (hk : KeepBut W W' gR none) (hbl : Below w0.heap.size w0 W') : IS w0 W' n gf gq gs gL cL gR cR rL (swapL a b rR) A (swapR a b B) := by
 obtain ⟨cs, hcs, hok⟩ := h.tab
 have hn := h.nR
 exact ⟨⟨cs, keepB_blk h.R hk hcs (by decide), hok⟩, keepB_blk h.R hk h.bq (by decide), keepB_blk h.R hk h.bs (by decide), grid_keepB h.L h.R hk h.ne, hG.congr (fun i j _ _ => by unfold swapI toI swapR; split; rfl; split <;> rfl), h.nL, by rw [swapL_len]; exact hn, h.ne, fun p hp q hq => h.sep p hp q (swapL_mem (by omega) (by omega) hq), h.bA, (swap_op ha hb).by_ B h.bB, hbl, h.geq⟩
end
/-- The elimination of column c, rows below i done. -/
def elimK (c : Nat) (x : Nat → Nat) (i : Nat) (A : Mx) : Mx := fun r j => if r < i then elimR c x A r j else A r j
theorem elimK_zero (c : Nat) (x : Nat → Nat) (A : Mx) : elimK c x 0 A = A := by funext r j; simp [elimK]
theorem elimK_by {c : Nat} {x : Nat → Nat} {A : Mx} (h : By2 A) (i : Nat) : By2 (elimK c x i A) := fun r j => by
 unfold elimK elimR; split
 ·split; exact h _ _; exact xor_lt (h _ _) (mul_lt _ _)
 ·exact h _ _
theorem elimK_skip {c : Nat} {x : Nat → Nat} {A : Mx} {i : Nat} (h : i = c ∨ x i = 0) : elimK c x (i + 1) A = elimK c x i A := by
 funext r j
 unfold elimK
 by_cases e : r = i
 ·subst e
  rw [if_pos (by omega), if_neg (by omega)]
  unfold elimR
  rcases h with h | h
  ·rw [if_pos h]
  ·split
   ·rfl
   ·rw [h, zero_mul]; exact Nat.xor_zero _
 ·by_cases e2 : r < i
  ·rw [if_pos (by omega), if_pos e2]
  ·rw [if_neg (by omega), if_neg e2]
theorem elimK_self {c : Nat} {x : Nat → Nat} {A : Mx} {i j : Nat} : elimK c x i A c j = A c j := by unfold elimK elimR; split; rw [if_pos rfl]; rfl
theorem elimK_at {c : Nat} {x : Nat → Nat} {A : Mx} {i j : Nat} : elimK c x i A i j = A i j := by unfold elimK; rw [if_neg (by omega)]
theorem elimK_add {c : Nat} {x : Nat → Nat} {A : Mx} {i : Nat} (h : i ≠ c) (hA : By2 A) (r j : Nat) : addI i c ((x i : Nat) : Int) (toI (elimK c x i A)) r j = toI (elimK c x (i + 1) A) r j := by
 have hb := elimK_by (c := c) (x := x) hA i
 unfold addI
 by_cases e : r = i
 ·rw [if_pos e]
  have h1 : Byte (toI (elimK c x i A) i j) := toI_by hb i j
  have h2 : Byte (mulI ((x i : Nat) : Int) (toI (elimK c x i A) c j)) := byte_mul _ _
  rw [(byte_xor h1 h2).2, e]
  unfold toI mulI
  rw [elimK_at, elimK_self]
  simp only [Int.toNat_natCast]
  rw [show elimK c x (i + 1) A i j = A i j ^^^ mulN (x i) (A c j) from by unfold elimK elimR; rw [if_pos (by omega), if_neg h]]
 ·rw [if_neg e]
  unfold toI elimK
  by_cases e2 : r < i
  ·rw [if_pos e2, if_pos (by omega)]
  ·rw [if_neg e2, if_neg (by omega)]
theorem scale_toI {c b : Nat} {A : Mx} (i j : Nat) : scaleI c ((b : Nat) : Int) (toI A) i j = toI (scaleR c b A) i j := by
 show scaleI c ((b : Nat) : Int) (toI A) i j = ((if i = c then mulN b (A c j) else A i j : Nat) : Int)
 unfold scaleI toI mulI
 split
 ·simp only [Int.toNat_natCast]
 ·rfl
theorem gj_stay {n : Nat} {M : Mx} {c : Nat} (h : gj n M c = none) : ∀ d, gj n M (c + d) = none
 |0 => h
 |d + 1 => by rw [← Nat.add_assoc, gj, gj_stay h d]; rfl
def invV (r c : Int) (s : ByteArray) : MR :=
 if okM r c s ∧ r = c then (match gj c.toNat (entN c.toNat s) c.toNat with | some q => (c, c, cellsOf c.toNat c.toNat (toI q.2), 0) | none => errM 20) else errM 4
theorem divI_inv {a : Nat} (h : a ≠ 0) : divI 1 (a : Int) = ((inv1 a : Nat) : Int) := by
 unfold divI divN inv1
 simp only [Int.toNat_natCast]
 rw [if_neg h, if_neg (by decide)]
 rfl
end Go.Proofs.Ytoghhpkmficnmaa.Al

/- matrix.Mul by its contract. -/
namespace Go.Proofs.Ytoghhpkmficnmaa.Al
open Go.RowKit Go.Proofs.Ytoghhpkmficnmaa.GfMath Go.Proofs.Ytoghhpkmficnmaa.GfRef Go.Proofs.Ytoghhpkmficnmaa.Base Go.Proofs.Ytoghhpkmficnmaa.Bytes Go.Proofs.Ytoghhpkmficnmaa.Grid Go.Proofs.YtoghhpkmficnmaaW.PrintWords Go.Proofs.YtoghhpkmficnmaaW.PrintLast Go.Proofs.YtoghhpkmficnmaaW.PrintMore
set_option linter.unusedVariables false
set_option linter.unusedSimpArgs false
def mulV (ra ca : Int) (sa : ByteArray) (rb cb : Int) (sb : ByteArray) : MR :=
 if okM ra ca sa ∧ okM rb cb sb ∧ ca = rb then (ra, cb, cellsOf ra.toNat cb.toNat (toI (mm ca.toNat (entN ca.toNat sa) (entN cb.toNat sb))), 0) else errM 4
set_option maxHeartbeats 8000000 in
set_option maxRecDepth 100000 in
theorem mul_bad (ra ca : Int) (sa : ByteArray) (rb cb : Int) (sb : ByteArray) (w : World) (h : ¬ (okM ra ca sa ∧ okM rb cb sb ∧ ca = rb)) :
  Calls Try.prog 21 #[.agg #[.int .i64 ra, .int .i64 ca, .string sa], .agg #[.int .i64 rb, .int .i64 cb, .string sb]] w fun e w' => e = .returned (mrV (errM 4)) ∧ Below w.heap.size w w' := by
 by_cases h1 : okM ra ca sa
 ·have HCA := Aside0.mk (show chkE ra ca sa = 0 from if_pos h1)
  by_cases h2 : okM rb cb sb
  ·have HCB := Aside0.mk (show chkE rb cb sb = 0 from if_pos h2)
   have h3 : ca ≠ rb := fun e => h ⟨h1, h2, e⟩
   have n1 : (ca == rb) = false := beq_eq_false_iff_ne.2 h3
   have n2 : (ca != rb) = true := bne_iff_ne.2 h3
   clear h h1 h2 h3
   go_enter Try.func21, Try.ntmps21
   go_wp2_with (first | ((with_reducible refine gate_dst (N := 2) rfl ?_); refine box_event ?hg (N := 2) ?hd (cs := #[.int .i64 ra, .int .i64 ca, .string sa]) (t := 24) ?hr ?_; (case hd => rfl); (case hg => rfl); (case hr => first | (go_simp; done) | (go_simp; rfl)); intro ga hg w1 hbox hb; have HA1 := Aside0.mk hbox; have HB1 := Aside0.mk hb; clear hg hbox hb) | ((with_reducible refine gate_dst (N := 3) rfl ?_); refine box_event ?hg (N := 3) ?hd (cs := #[.int .i64 rb, .int .i64 cb, .string sb]) (t := 24) ?hr ?_; (case hd => rfl); (case hg => rfl); (case hr => first | (go_simp; done) | (go_simp; rfl)); intro gb hg w2 hbox hb; have HA2 := Aside0.mk (blk_below HA1.out hb); have HX2 := Aside0.mk hbox; have HB2 := Aside0.mk (below_step HB1.out hb); clear hg hbox hb) | ((with_reducible refine gate_dst (N := 4) rfl ?_); refine box_event ?hg (N := 4) ?hd (cs := #[.int .i64 0, .int .i64 0, .string ⟨#[]⟩]) (t := 24) ?hr ?_; (case hd => rfl); (case hg => rfl); (case hr => first | (go_simp; done) | (go_simp; rfl)); intro gq hg w3 hbox hb; have HQ := Aside0.mk (show w.heap.size ≤ gq from by have := HB2.out.size; omega); have hA := blk_below HA2.out hb; have hX := blk_below HX2.out hb; have fa0 : w3.cell? ⟨ga, 0, none⟩ = some (.int .i64 ra) := (blk_cell hA 0).trans rfl; have fa1 : w3.cell? ⟨ga, 1, none⟩ = some (.int .i64 ca) := (blk_cell hA 1).trans rfl; have fa2 : w3.cell? ⟨ga, 2, none⟩ = some (.string sa) := (blk_cell hA 2).trans rfl; have HA3 := Aside0.mk hA; have HX3 := Aside0.mk hX; have HQ3 := Aside0.mk hbox; have HB3 := Aside0.mk (below_step HB2.out hb); clear hA hX hg hbox hb) | (go_at_call 18; (with_reducible refine (check_calls ra ca sa w3).mono ?_); rintro e w4 ⟨rfl, hb⟩; rw [HCA.out]; have hq := blk_below HQ3.out hb; have q0 : w4.cell? ⟨gq, 0, none⟩ = some (.int .i64 0) := (blk_cell hq 0).trans rfl; have q1 : w4.cell? ⟨gq, 1, none⟩ = some (.int .i64 0) := (blk_cell hq 1).trans rfl; have q2 : w4.cell? ⟨gq, 2, none⟩ = some (.string ⟨#[]⟩) := (blk_cell hq 2).trans rfl; have z0 := blk_frozen hq 0; have z1 := blk_frozen hq 1; have z2 := blk_frozen hq 2; have hA := blk_below HA3.out hb; have hX := blk_below HX3.out hb; have ga0 : w4.cell? ⟨ga, 0, none⟩ = some (.int .i64 ra) := (blk_cell hA 0).trans rfl; have ga1 : w4.cell? ⟨ga, 1, none⟩ = some (.int .i64 ca) := (blk_cell hA 1).trans rfl; have ga2 : w4.cell? ⟨ga, 2, none⟩ = some (.string sa) := (blk_cell hA 2).trans rfl; have gb0 : w4.cell? ⟨gb, 0, none⟩ = some (.int .i64 rb) := (blk_cell hX 0).trans rfl; have gb1 : w4.cell? ⟨gb, 1, none⟩ = some (.int .i64 cb) := (blk_cell hX 1).trans rfl; have gb2 : w4.cell? ⟨gb, 2, none⟩ = some (.string sb) := (blk_cell hX 2).trans rfl; have HA4 := Aside0.mk hA; have HX4 := Aside0.mk hX; have HQ4 := Aside0.mk hq; have HB4 := Aside0.mk (below_step HB3.out hb); clear hb hA hX hq) | (go_at_call 18; (with_reducible refine (check_calls rb cb sb w4).mono ?_); rintro e w5 ⟨rfl, hb⟩; rw [HCB.out]; clear q0 q1 q2 z0 z1 z2; have hq := blk_below HQ4.out hb; have q0 : w5.cell? ⟨gq, 0, none⟩ = some (.int .i64 0) := (blk_cell hq 0).trans rfl; have q1 : w5.cell? ⟨gq, 1, none⟩ = some (.int .i64 0) := (blk_cell hq 1).trans rfl; have q2 : w5.cell? ⟨gq, 2, none⟩ = some (.string ⟨#[]⟩) := (blk_cell hq 2).trans rfl; have z0 := blk_frozen hq 0; have z1 := blk_frozen hq 1; have z2 := blk_frozen hq 2; have hA := blk_below HA4.out hb; have hX := blk_below HX4.out hb; have ka0 : w5.cell? ⟨ga, 0, none⟩ = some (.int .i64 ra) := (blk_cell hA 0).trans rfl; have ka1 : w5.cell? ⟨ga, 1, none⟩ = some (.int .i64 ca) := (blk_cell hA 1).trans rfl; have kb0 : w5.cell? ⟨gb, 0, none⟩ = some (.int .i64 rb) := (blk_cell hX 0).trans rfl; have kb1 : w5.cell? ⟨gb, 1, none⟩ = some (.int .i64 cb) := (blk_cell hX 1).trans rfl; have HA5 := Aside0.mk hA; have HX5 := Aside0.mk hX; have HQ5 := Aside0.mk hq; have HB5 := Aside0.mk (below_step HB4.out hb); clear hb hA hX hq))
   exact mr_end 0 0 ⟨#[]⟩ 4 rfl rfl rfl HQ5.out (by kernel_rfl) ⟨rfl, below_set (below_set (below_set HB5.out HQ.out) HQ.out) HQ.out⟩
  ·have HCB := Aside0.mk (show chkE rb cb sb = 4 from if_neg h2)
   clear h h1 h2
   go_enter Try.func21, Try.ntmps21
   go_wp2_with (first | ((with_reducible refine gate_dst (N := 2) rfl ?_); refine box_event ?hg (N := 2) ?hd (cs := #[.int .i64 ra, .int .i64 ca, .string sa]) (t := 24) ?hr ?_; (case hd => rfl); (case hg => rfl); (case hr => first | (go_simp; done) | (go_simp; rfl)); intro ga hg w1 hbox hb; have HA1 := Aside0.mk hbox; have HB1 := Aside0.mk hb; clear hg hbox hb) | ((with_reducible refine gate_dst (N := 3) rfl ?_); refine box_event ?hg (N := 3) ?hd (cs := #[.int .i64 rb, .int .i64 cb, .string sb]) (t := 24) ?hr ?_; (case hd => rfl); (case hg => rfl); (case hr => first | (go_simp; done) | (go_simp; rfl)); intro gb hg w2 hbox hb; have HA2 := Aside0.mk (blk_below HA1.out hb); have HX2 := Aside0.mk hbox; have HB2 := Aside0.mk (below_step HB1.out hb); clear hg hbox hb) | ((with_reducible refine gate_dst (N := 4) rfl ?_); refine box_event ?hg (N := 4) ?hd (cs := #[.int .i64 0, .int .i64 0, .string ⟨#[]⟩]) (t := 24) ?hr ?_; (case hd => rfl); (case hg => rfl); (case hr => first | (go_simp; done) | (go_simp; rfl)); intro gq hg w3 hbox hb; have HQ := Aside0.mk (show w.heap.size ≤ gq from by have := HB2.out.size; omega); have hA := blk_below HA2.out hb; have hX := blk_below HX2.out hb; have fa0 : w3.cell? ⟨ga, 0, none⟩ = some (.int .i64 ra) := (blk_cell hA 0).trans rfl; have fa1 : w3.cell? ⟨ga, 1, none⟩ = some (.int .i64 ca) := (blk_cell hA 1).trans rfl; have fa2 : w3.cell? ⟨ga, 2, none⟩ = some (.string sa) := (blk_cell hA 2).trans rfl; have HA3 := Aside0.mk hA; have HX3 := Aside0.mk hX; have HQ3 := Aside0.mk hbox; have HB3 := Aside0.mk (below_step HB2.out hb); clear hA hX hg hbox hb) | (go_at_call 18; (with_reducible refine (check_calls ra ca sa w3).mono ?_); rintro e w4 ⟨rfl, hb⟩; rw [HCA.out]; have hq := blk_below HQ3.out hb; have q0 : w4.cell? ⟨gq, 0, none⟩ = some (.int .i64 0) := (blk_cell hq 0).trans rfl; have q1 : w4.cell? ⟨gq, 1, none⟩ = some (.int .i64 0) := (blk_cell hq 1).trans rfl; have q2 : w4.cell? ⟨gq, 2, none⟩ = some (.string ⟨#[]⟩) := (blk_cell hq 2).trans rfl; have z0 := blk_frozen hq 0; have z1 := blk_frozen hq 1; have z2 := blk_frozen hq 2; have hA := blk_below HA3.out hb; have hX := blk_below HX3.out hb; have ga0 : w4.cell? ⟨ga, 0, none⟩ = some (.int .i64 ra) := (blk_cell hA 0).trans rfl; have ga1 : w4.cell? ⟨ga, 1, none⟩ = some (.int .i64 ca) := (blk_cell hA 1).trans rfl; have ga2 : w4.cell? ⟨ga, 2, none⟩ = some (.string sa) := (blk_cell hA 2).trans rfl; have gb0 : w4.cell? ⟨gb, 0, none⟩ = some (.int .i64 rb) := (blk_cell hX 0).trans rfl; have gb1 : w4.cell? ⟨gb, 1, none⟩ = some (.int .i64 cb) := (blk_cell hX 1).trans rfl; have gb2 : w4.cell? ⟨gb, 2, none⟩ = some (.string sb) := (blk_cell hX 2).trans rfl; have HA4 := Aside0.mk hA; have HX4 := Aside0.mk hX; have HQ4 := Aside0.mk hq; have HB4 := Aside0.mk (below_step HB3.out hb); clear hb hA hX hq) | (go_at_call 18; (with_reducible refine (check_calls rb cb sb w4).mono ?_); rintro e w5 ⟨rfl, hb⟩; rw [HCB.out]; clear q0 q1 q2 z0 z1 z2; have hq := blk_below HQ4.out hb; have q0 : w5.cell? ⟨gq, 0, none⟩ = some (.int .i64 0) := (blk_cell hq 0).trans rfl; have q1 : w5.cell? ⟨gq, 1, none⟩ = some (.int .i64 0) := (blk_cell hq 1).trans rfl; have q2 : w5.cell? ⟨gq, 2, none⟩ = some (.string ⟨#[]⟩) := (blk_cell hq 2).trans rfl; have z0 := blk_frozen hq 0; have z1 := blk_frozen hq 1; have z2 := blk_frozen hq 2; have hA := blk_below HA4.out hb; have hX := blk_below HX4.out hb; have ka0 : w5.cell? ⟨ga, 0, none⟩ = some (.int .i64 ra) := (blk_cell hA 0).trans rfl; have ka1 : w5.cell? ⟨ga, 1, none⟩ = some (.int .i64 ca) := (blk_cell hA 1).trans rfl; have kb0 : w5.cell? ⟨gb, 0, none⟩ = some (.int .i64 rb) := (blk_cell hX 0).trans rfl; have kb1 : w5.cell? ⟨gb, 1, none⟩ = some (.int .i64 cb) := (blk_cell hX 1).trans rfl; have HA5 := Aside0.mk hA; have HX5 := Aside0.mk hX; have HQ5 := Aside0.mk hq; have HB5 := Aside0.mk (below_step HB4.out hb); clear hb hA hX hq))
   exact mr_end 0 0 ⟨#[]⟩ 4 rfl rfl rfl HQ5.out (by kernel_rfl) ⟨rfl, below_set (below_set (below_set HB5.out HQ.out) HQ.out) HQ.out⟩
 ·have HCA := Aside0.mk (show chkE ra ca sa = 4 from if_neg h1)
  clear h h1
  go_enter Try.func21, Try.ntmps21
  go_wp2_with (first | ((with_reducible refine gate_dst (N := 2) rfl ?_); refine box_event ?hg (N := 2) ?hd (cs := #[.int .i64 ra, .int .i64 ca, .string sa]) (t := 24) ?hr ?_; (case hd => rfl); (case hg => rfl); (case hr => first | (go_simp; done) | (go_simp; rfl)); intro ga hg w1 hbox hb; have HA1 := Aside0.mk hbox; have HB1 := Aside0.mk hb; clear hg hbox hb) | ((with_reducible refine gate_dst (N := 3) rfl ?_); refine box_event ?hg (N := 3) ?hd (cs := #[.int .i64 rb, .int .i64 cb, .string sb]) (t := 24) ?hr ?_; (case hd => rfl); (case hg => rfl); (case hr => first | (go_simp; done) | (go_simp; rfl)); intro gb hg w2 hbox hb; have HA2 := Aside0.mk (blk_below HA1.out hb); have HX2 := Aside0.mk hbox; have HB2 := Aside0.mk (below_step HB1.out hb); clear hg hbox hb) | ((with_reducible refine gate_dst (N := 4) rfl ?_); refine box_event ?hg (N := 4) ?hd (cs := #[.int .i64 0, .int .i64 0, .string ⟨#[]⟩]) (t := 24) ?hr ?_; (case hd => rfl); (case hg => rfl); (case hr => first | (go_simp; done) | (go_simp; rfl)); intro gq hg w3 hbox hb; have HQ := Aside0.mk (show w.heap.size ≤ gq from by have := HB2.out.size; omega); have hA := blk_below HA2.out hb; have hX := blk_below HX2.out hb; have fa0 : w3.cell? ⟨ga, 0, none⟩ = some (.int .i64 ra) := (blk_cell hA 0).trans rfl; have fa1 : w3.cell? ⟨ga, 1, none⟩ = some (.int .i64 ca) := (blk_cell hA 1).trans rfl; have fa2 : w3.cell? ⟨ga, 2, none⟩ = some (.string sa) := (blk_cell hA 2).trans rfl; have HA3 := Aside0.mk hA; have HX3 := Aside0.mk hX; have HQ3 := Aside0.mk hbox; have HB3 := Aside0.mk (below_step HB2.out hb); clear hA hX hg hbox hb) | (go_at_call 18; (with_reducible refine (check_calls ra ca sa w3).mono ?_); rintro e w4 ⟨rfl, hb⟩; rw [HCA.out]; have hq := blk_below HQ3.out hb; have q0 : w4.cell? ⟨gq, 0, none⟩ = some (.int .i64 0) := (blk_cell hq 0).trans rfl; have q1 : w4.cell? ⟨gq, 1, none⟩ = some (.int .i64 0) := (blk_cell hq 1).trans rfl; have q2 : w4.cell? ⟨gq, 2, none⟩ = some (.string ⟨#[]⟩) := (blk_cell hq 2).trans rfl; have z0 := blk_frozen hq 0; have z1 := blk_frozen hq 1; have z2 := blk_frozen hq 2; have hA := blk_below HA3.out hb; have hX := blk_below HX3.out hb; have ga0 : w4.cell? ⟨ga, 0, none⟩ = some (.int .i64 ra) := (blk_cell hA 0).trans rfl; have ga1 : w4.cell? ⟨ga, 1, none⟩ = some (.int .i64 ca) := (blk_cell hA 1).trans rfl; have ga2 : w4.cell? ⟨ga, 2, none⟩ = some (.string sa) := (blk_cell hA 2).trans rfl; have gb0 : w4.cell? ⟨gb, 0, none⟩ = some (.int .i64 rb) := (blk_cell hX 0).trans rfl; have gb1 : w4.cell? ⟨gb, 1, none⟩ = some (.int .i64 cb) := (blk_cell hX 1).trans rfl; have gb2 : w4.cell? ⟨gb, 2, none⟩ = some (.string sb) := (blk_cell hX 2).trans rfl; have HA4 := Aside0.mk hA; have HX4 := Aside0.mk hX; have HQ4 := Aside0.mk hq; have HB4 := Aside0.mk (below_step HB3.out hb); clear hb hA hX hq))
  exact mr_end 0 0 ⟨#[]⟩ 4 rfl rfl rfl HQ4.out (by kernel_rfl) ⟨rfl, below_set (below_set (below_set HB4.out HQ.out) HQ.out) HQ.out⟩
theorem tab_grown {w w' : World} {g : Nat} (h : Tab w g) (hg : w.grownBy w' none) : Tab w' g := by
 obtain ⟨cs, hcs, hok⟩ := h
 exact ⟨cs, blk_grown hcs hg (by simp), hok⟩
theorem keep_blk {w w' : World} {g0 g t : Nat} {cs cells : Array Value} (hk : KeepBut w w' g0 none) (h0 : w.heap[g0]? = some (.cells cells 54 (0, 0))) (hb : w.heap[g]? = some (.cells cs t (0, 0))) (ht : t ≠ 54) : w'.heap[g]? = some (.cells cs t (0, 0)) := (hk.2 g (blk_lt hb) (blk_ne hb h0 ht) (by simp)).trans hb
theorem keep_tab {w w' : World} {g0 g : Nat} {cells : Array Value} (hk : KeepBut w w' g0 none) (h0 : w.heap[g0]? = some (.cells cells 54 (0, 0))) (hb : Tab w g) : Tab w' g := by
 obtain ⟨cs, hcs, hok⟩ := hb
 exact ⟨cs, keep_blk hk h0 hcs (by decide), hok⟩
theorem keep_rows {w w' : World} {g0 gR n m : Nat} {f : Nat → Nat → Int} {cells : Array Value} (hk : KeepBut w w' g0 none) (h0 : w.heap[g0]? = some (.cells cells 54 (0, 0))) (hne : gR ≠ g0) (hb : RowsC w gR n m f) : RowsC w' gR n m f := fun i hi => by
 obtain ⟨rb, c, h1, h2⟩ := hb i hi
 refine ⟨rb, c, ?_, h2.keep (hk.2 rb h2.lt (h2.ne h0 (by decide)) (by simp))⟩
 have h3 := hk.2 gR (World.block_lt_of_cell? w ⟨gR, i, none⟩ h1) hne (by simp)
 unfold World.cell? at h1 ⊢
 rw [show (⟨gR, i, none⟩ : Addr).block = gR from rfl] at h1 ⊢
 rw [h3]; exact h1
/-- Product's rows: below i done, row i up to term k, column j of term k. -/
def fJ (A B : Mx) (ca i k j a b : Nat) : Int := if a = i then (if b < j then ((xs (k + 1) (fun l => mulN (A i l) (B l b)) : Nat) : Int) else ((xs k (fun l => mulN (A i l) (B l b)) : Nat) : Int)) else toI (mm ca A B) a b
theorem fJ_by (A B : Mx) (ca i k j a b : Nat) : Byte (fJ A B ca i k j a b) := by
 unfold fJ
 split
 ·split
  ·have := xs_lt (n := k + 1) (f := fun l => mulN (A i l) (B l b)) (fun _ _ => mul_lt _ _); unfold Byte; omega
  ·have := xs_lt (n := k) (f := fun l => mulN (A i l) (B l b)) (fun _ _ => mul_lt _ _); unfold Byte; omega
 ·exact toI_by (mm_by _ _ _) a b
theorem fJ_step {A B : Mx} {ca i k j : Nat} : Go.bits .xor .u8 (fJ A B ca i k j i j) (mulI ((A i k : Nat) : Int) ((B k j : Nat) : Int)) = ((xs (k + 1) (fun l => mulN (A i l) (B l j)) : Nat) : Int) := by
 rw [(byte_xor (fJ_by A B ca i k j i j) (byte_mul _ _)).2]
 unfold fJ
 rw [if_pos rfl, if_neg (by omega)]
 simp only [Int.toNat_natCast, mulI]
 rfl
theorem fJ_next {A B : Mx} {ca i k j a b : Nat} : (if a = i ∧ b = j then ((xs (k + 1) (fun l => mulN (A i l) (B l j)) : Nat) : Int) else fJ A B ca i k j a b) = fJ A B ca i k (j + 1) a b := by
 unfold fJ
 by_cases e1 : a = i
 ·by_cases e2 : b = j
  ·rw [if_pos ⟨e1, e2⟩, if_pos e1, if_pos (by omega), e2]
  ·rw [if_neg (fun h => e2 h.2), if_pos e1, if_pos e1]
   by_cases e3 : b < j
   ·rw [if_pos e3, if_pos (by omega)]
   ·rw [if_neg e3, if_neg (by omega)]
 ·rw [if_neg (fun h => e1 h.1), if_neg e1, if_neg e1]
theorem fJ_all {A B : Mx} {ca i k m a b : Nat} (hb : b < m) : fJ A B ca i k m a b = fJ A B ca i (k + 1) 0 a b := by
 unfold fJ
 by_cases e1 : a = i
 ·rw [if_pos e1, if_pos e1, if_pos hb, if_neg (by omega)]
 ·rw [if_neg e1, if_neg e1]
theorem fJ_end {A B : Mx} {ca i a b : Nat} : fJ A B ca i ca 0 a b = toI (mm ca A B) a b := by
 unfold fJ
 by_cases e1 : a = i
 ·rw [if_pos e1, if_neg (by omega), e1]; rfl
 ·rw [if_neg e1]
def rg21_17_T : Bool × List (List Nat × List Nat) := (true, [([], []), ([], []), ([0, 1], [0, 1]), ([2], [2]), ([], []), ([3, 4], [3, 4]), ([5], [5]), ([], []), ([], []), ([], []), ([7, 8, 9], [7, 8, 9]), ([6, 10], [6, 10]), ([3, 4, 0, 1, 2, 3, 4, 5, 6, 7, 8, 9, 10, 11], [3, 4]), ([12, 11, 10, 0, 1, 2, 3, 4, 5, 6, 7, 8, 9, 10, 11], [11, 12])])
def rg21_17_B : List Nat := [0, 0, 3, 7, 0, 31, 63, 0, 0, 0, 896, 2047, 4095, 8191]
theorem rg21_17_tab : rtab .any (opsOf Try.f21 17) = rg21_17_T := by kernel_rfl
theorem rg21_17_bits : waitsOk rg21_17_T.2 rg21_17_B = true := by kernel_rfl
set_option maxHeartbeats 8000000 in
set_option maxRecDepth 100000 in
theorem mul_good (ra ca : Nat) (sa : ByteArray) (cb : Nat) (sb : ByteArray) (w : World) (h1 : okM ra ca sa) (h2 : okM ca cb sb) :
  Calls Try.prog 21 #[.agg #[.int .i64 ra, .int .i64 ca, .string sa], .agg #[.int .i64 ca, .int .i64 cb, .string sb]] w fun e w' => e = .returned (mrV (ra, cb, cellsOf ra cb (toI (mm ca (entN ca sa) (entN cb sb))), 0)) ∧ Below w.heap.size w w' := by
 have HCA := Aside0.mk (show chkE ra ca sa = 0 from if_pos h1)
 have HCB := Aside0.mk (show chkE ca cb sb = 0 from if_pos h2)
 have hra0 : 1 ≤ ra := by have := h1.1; omega
 have hra1 : ra ≤ 255 := by have := h1.2.1; omega
 have hca0 : 1 ≤ ca := by have := h1.2.2.1; omega
 have hca1 : ca ≤ 255 := by have := h1.2.2.2.1; omega
 have hcb0 : 1 ≤ cb := by have := h2.2.2.1; omega
 have hcb1 : cb ≤ 255 := by have := h2.2.2.2.1; omega
 have HSA := Aside0.mk (show sa.size = ra * ca by have := h1.2.2.2.2; rw [← Int.natCast_mul] at this; omega)
 have HSB := Aside0.mk (show sb.size = ca * cb by have := h2.2.2.2.2; rw [← Int.natCast_mul] at this; omega)
 have n1 : ((ca : Int) == (ca : Int)) = true := by simp
 have n2 : ((ca : Int) != (ca : Int)) = false := by simp
 have hmk := print_make (P := Try.prog) 54 5 .u8 1 Try.underlying54 info5 (by decide) cb (by omega)
 have HMK := Aside0.mk hmk
 clear h1 h2 hmk
 go_enter Try.func21, Try.ntmps21
 go_wp2_with (first | ((with_reducible refine gate_dst (N := 2) rfl ?_); refine box_event ?hg (N := 2) ?hd (cs := #[.int .i64 ra, .int .i64 ca, .string sa]) (t := 24) ?hr ?_; (case hd => rfl); (case hg => rfl); (case hr => first | (go_simp; done) | (go_simp; rfl)); intro ga hg w1 hbox hb; have HA1 := Aside0.mk hbox; have HB1 := Aside0.mk hb; clear hg hbox hb) | ((with_reducible refine gate_dst (N := 3) rfl ?_); refine box_event ?hg (N := 3) ?hd (cs := #[.int .i64 ca, .int .i64 cb, .string sb]) (t := 24) ?hr ?_; (case hd => rfl); (case hg => rfl); (case hr => first | (go_simp; done) | (go_simp; rfl)); intro gb hg w2 hbox hb; have HA2 := Aside0.mk (blk_below HA1.out hb); have HX2 := Aside0.mk hbox; have HB2 := Aside0.mk (below_step HB1.out hb); clear hg hbox hb) | ((with_reducible refine gate_dst (N := 4) rfl ?_); refine box_event ?hg (N := 4) ?hd (cs := #[.int .i64 0, .int .i64 0, .string ⟨#[]⟩]) (t := 24) ?hr ?_; (case hd => rfl); (case hg => rfl); (case hr => first | (go_simp; done) | (go_simp; rfl)); intro gq hg w3 hbox hb; have HQ := Aside0.mk (show w.heap.size ≤ gq from by have := HB2.out.size; omega); have hA := blk_below HA2.out hb; have hX := blk_below HX2.out hb; have fa0 : w3.cell? ⟨ga, 0, none⟩ = some (.int .i64 ra) := (blk_cell hA 0).trans rfl; have fa1 : w3.cell? ⟨ga, 1, none⟩ = some (.int .i64 ca) := (blk_cell hA 1).trans rfl; have fa2 : w3.cell? ⟨ga, 2, none⟩ = some (.string sa) := (blk_cell hA 2).trans rfl; have HA3 := Aside0.mk hA; have HX3 := Aside0.mk hX; have HQ3 := Aside0.mk hbox; have HB3 := Aside0.mk (below_step HB2.out hb); clear hA hX hg hbox hb) | (go_at_call 18; (with_reducible refine (check_calls ra ca sa w3).mono ?_); rintro e w4 ⟨rfl, hb⟩; rw [HCA.out]; have hq := blk_below HQ3.out hb; have q0 : w4.cell? ⟨gq, 0, none⟩ = some (.int .i64 0) := (blk_cell hq 0).trans rfl; have q1 : w4.cell? ⟨gq, 1, none⟩ = some (.int .i64 0) := (blk_cell hq 1).trans rfl; have q2 : w4.cell? ⟨gq, 2, none⟩ = some (.string ⟨#[]⟩) := (blk_cell hq 2).trans rfl; have z0 := blk_frozen hq 0; have z1 := blk_frozen hq 1; have z2 := blk_frozen hq 2; have hA := blk_below HA3.out hb; have hX := blk_below HX3.out hb; have ga0 : w4.cell? ⟨ga, 0, none⟩ = some (.int .i64 ra) := (blk_cell hA 0).trans rfl; have ga1 : w4.cell? ⟨ga, 1, none⟩ = some (.int .i64 ca) := (blk_cell hA 1).trans rfl; have ga2 : w4.cell? ⟨ga, 2, none⟩ = some (.string sa) := (blk_cell hA 2).trans rfl; have gb0 : w4.cell? ⟨gb, 0, none⟩ = some (.int .i64 ca) := (blk_cell hX 0).trans rfl; have gb1 : w4.cell? ⟨gb, 1, none⟩ = some (.int .i64 cb) := (blk_cell hX 1).trans rfl; have gb2 : w4.cell? ⟨gb, 2, none⟩ = some (.string sb) := (blk_cell hX 2).trans rfl; have HA4 := Aside0.mk hA; have HX4 := Aside0.mk hX; have HQ4 := Aside0.mk hq; have HB4 := Aside0.mk (below_step HB3.out hb); clear hb hA hX hq) | (go_at_call 18; (with_reducible refine (check_calls ca cb sb w4).mono ?_); rintro e w5 ⟨rfl, hb⟩; rw [HCB.out]; clear q0 q1 q2 z0 z1 z2; have hq := blk_below HQ4.out hb; have q0 : w5.cell? ⟨gq, 0, none⟩ = some (.int .i64 0) := (blk_cell hq 0).trans rfl; have q1 : w5.cell? ⟨gq, 1, none⟩ = some (.int .i64 0) := (blk_cell hq 1).trans rfl; have q2 : w5.cell? ⟨gq, 2, none⟩ = some (.string ⟨#[]⟩) := (blk_cell hq 2).trans rfl; have z0 := blk_frozen hq 0; have z1 := blk_frozen hq 1; have z2 := blk_frozen hq 2; have hA := blk_below HA4.out hb; have hX := blk_below HX4.out hb; have ka0 : w5.cell? ⟨ga, 0, none⟩ = some (.int .i64 ra) := (blk_cell hA 0).trans rfl; have ka1 : w5.cell? ⟨ga, 1, none⟩ = some (.int .i64 ca) := (blk_cell hA 1).trans rfl; have kb0 : w5.cell? ⟨gb, 0, none⟩ = some (.int .i64 ca) := (blk_cell hX 0).trans rfl; have kb1 : w5.cell? ⟨gb, 1, none⟩ = some (.int .i64 cb) := (blk_cell hX 1).trans rfl; have HA5 := Aside0.mk hA; have HX5 := Aside0.mk hX; have HQ5 := Aside0.mk hq; have HB5 := Aside0.mk (below_step HB4.out hb); clear hb hA hX hq) | (go_at_call 28; refine (gf_New.calls _).mono ?_; rintro e w6 ⟨gf, rfl, hge, ht, hb⟩; clear q0 q1 q2 z0 z1 z2 ka0 ka1 kb0 kb1; have HT6 := Aside0.mk ht; have HA6 := Aside0.mk (blk_below HA5.out hb); have HX6 := Aside0.mk (blk_below HX5.out hb); have HQ6 := Aside0.mk (blk_below HQ5.out hb); have HB6 := Aside0.mk (below_step HB5.out hb); have fa6 : w6.cell? ⟨ga, 0, none⟩ = some (.int .i64 ra) := (blk_cell HA6.out 0).trans rfl; clear hge ht hb) | ((with_reducible refine gate_dst (N := 33) rfl ?_); refine Kd.R_make (kG cb) (w0 := w) w.heap.size 54 rfl (N := 33) rfl 52 (.tmp 32) (.tmp 32) rfl (ra : Int) rfl rfl Try.underlying52 (.slice none 0 0) 24 info54 rfl Nat.one_pos (by omega) none (okp := fun _ => False) (ok := fun _ => True) ?hz (fun _ h => h.elim) trivial (by omega) ?hl HB6.out HB6.out.size ?_; (case hz => exact rfl); (case hl => omega); intro v7 w7 ho hb7 hgr hat; obtain ⟨g0, cap0, e0, hge, hlt, cells, hcc⟩ := Kd.R_form ho (by simp; omega); subst e0; simp only [List.length_replicate, Int.toNat_natCast] at ho ⊢; have HGE := Aside0.mk hge; have HO7 := Aside0.mk ho; have HB7 := Aside0.mk hb7; have HT7 := Aside0.mk (tab_grown HT6.out hgr); have HA7 := Aside0.mk (blk_grown HA6.out hgr (by simp)); have hX := blk_grown HX6.out hgr (by simp); have HQ7 := Aside0.mk (blk_grown HQ6.out hgr (by simp)); have fb0 : w7.cell? ⟨gb, 0, none⟩ = some (.int .i64 ca) := (blk_cell hX 0).trans rfl; have fb1 : w7.cell? ⟨gb, 1, none⟩ = some (.int .i64 cb) := (blk_cell hX 1).trans rfl; have fb2 : w7.cell? ⟨gb, 2, none⟩ = some (.string sb) := (blk_cell hX 2).trans rfl; have HX7 := Aside0.mk hX; clear hge hlt hcc ho hb7 hgr hat hX) | (go_at_call 33; refine (of_calls ca cb sb _ hca0 hca1 hcb0 hcb1 HSB.out).mono ?_; rintro e w8 ⟨vR, rR, rfl, hrl, hG, hb⟩; obtain ⟨gR, cR, egR, hgR, _, _, _⟩ := hG.form (by simp only [List.length_map]; omega); rw [List.length_map, hrl] at egR; subst egR; have HNE := Aside0.mk (show gR ≠ g0 from by have := blk_lt (Kd.R_typed HO7.out g0 (by simp [Value.ownBlock])).choose_spec; omega); have HR8 := Aside0.mk (hG.rows hrl); have HO8 := Aside0.mk (Kd.R_below HO7.out hb); have HT8 := Aside0.mk (HT7.out.below hb); have HA8 := Aside0.mk (blk_below HA7.out hb); have HX8 := Aside0.mk (blk_below HX7.out hb); have HQ8 := Aside0.mk (blk_below HQ7.out hb); have HB8 := Aside0.mk (below_step HB7.out hb); clear hgR hrl hG hb))
 have HZ8 := Aside0.mk (Kd.R_typed HO8.out g0 (by simp [Value.ownBlock]))
 go_loopw [9, 10, 11, 12, 13, 38] (fun v9 v10 v11 v12 v13 v38 wr => ∃ (i : Nat) (rs : List (Nat × Nat)), v38 = .int .i64 i ∧ i ≤ ra ∧ Aside0 (rs.length = i) ∧ Aside0 (Grid w.heap.size wr (.slice (some ⟨g0, 0, none⟩) ra cap0) cb (gpart rs ra) rs (toI (mm ca (entN ca sa) (entN cb sb)))) ∧ Aside0 (KeepBut w8 wr g0 none) ∧ Aside0 (Below w.heap.size w wr) ∧ Aside0 (∀ p, p ∈ rs → w8.heap.size ≤ p.1)) (fun _ _ _ _ _ v38 _ => ra - (intOf v38).toNat)
 case atStart => exact ⟨0, [], rfl, Nat.zero_le _, ⟨rfl⟩, ⟨⟨by rw [gpart_nil]; exact HO8.out, fun i p hp => by simp at hp, by simp⟩⟩, ⟨KeepBut.refl _ _ _⟩, HB8, ⟨fun p hp => by simp at hp⟩⟩
 case round =>
  obtain ⟨i, rs, rfl, hi, HL, HG, HK, HB, HNW⟩ := hrel
  obtain ⟨wo, rfl⟩ : ∃ wo : World, wo = wr := ⟨_, rfl⟩
  obtain ⟨zc, hz8⟩ := HZ8.out
  have HZC := Aside0.mk hz8
  clear hz8
  by_cases hlt : i < ra
  ·have hmk := HMK.out
   have fb1 : wo.cell? ⟨gb, 1, none⟩ = some (.int .i64 cb) := (blk_cell (keep_blk HK.out HZC.out HX8.out (by decide)) 1).trans rfl
   have HG1 := Aside0.mk (HG.out.alloc (.cells (madeCells #[.int .u8 0] cb) 5))
   obtain ⟨hoc, hof⟩ := HG1.out.outer hlt
   go_upto_region 10 with (fail)
   have HG2 := HG1.out.put HG.out.lt (br_lit wo (madeCells #[.int .u8 0] cb) cb (fun j hj => made_get _ _ _ hj)) HB.out.size i cb
   have HB2 := Aside0.mk (below_set (j := i) (v := .slice (some ⟨wo.heap.size, 0, none⟩) cb cb) (HB.out.alloc HB.out.size (.cells (madeCells #[.int .u8 0] cb) 5)) HGE.out)
   have HK2 := Aside0.mk (KeepBut.set_ (g := g0) (row := none) (keep_alloc HK.out (.cells (madeCells #[.int .u8 0] cb) 5)) i (.slice (some ⟨wo.heap.size, 0, none⟩) cb cb))
   obtain ⟨W1, hW1⟩ : ∃ W, W = ((wo.alloc (.cells (madeCells #[.int .u8 0] cb) 5)).setCell ⟨g0, i, none⟩ (.slice (some ⟨wo.heap.size, 0, none⟩) cb cb)) := ⟨_, rfl⟩
   rw [← hW1] at HG2 HB2 HK2 ⊢
   have hL := HL.out
   have hp := gpart_set (rs := rs) (n := ra) (by omega) (wo.heap.size, cb)
   rw [hL] at hp
   rw [hp] at HG2
   have hri : (rs ++ [(wo.heap.size, cb)])[i]? = some (wo.heap.size, cb) := by rw [← hL]; simp
   have HRI := Aside0.mk hri
   have HNB := Aside0.mk HK.out.1
   obtain ⟨rs2, hrs2⟩ : ∃ l, l = rs ++ [(wo.heap.size, cb)] := ⟨_, rfl⟩
   have HL2 : Aside0 (rs2.length = i + 1) := ⟨by rw [hrs2, List.length_append, hL]; rfl⟩
   have HNW2 : Aside0 (∀ p, p ∈ rs2 → w8.heap.size ≤ p.1) := ⟨fun p hp => by
    rw [hrs2] at hp
    rcases List.mem_append.1 hp with hp | hp
    ·exact HNW.out p hp
    ·rw [List.mem_singleton.1 hp]; exact HNB.out⟩
   rw [← hrs2] at HG2 HRI
   obtain ⟨rw_, hrw⟩ : ∃ g, g = wo.heap.size := ⟨_, rfl⟩
   rw [← hrw] at HRI
   have HG3 : Aside0 (Grid w.heap.size W1 (.slice (some ⟨g0, 0, none⟩) ra cap0) cb (gpart rs2 ra) rs2 (fJ (entN ca sa) (entN cb sb) ca i 0 0)) := ⟨HG2.congr fun a b ha hb => by
    unfold fJ
    by_cases e : a = i
    ·rw [if_pos (by rw [hL]; exact e), if_pos e, if_neg (by omega)]; rfl
    ·rw [if_neg (by rw [hL]; exact e), if_neg e]⟩
   have HO2 := Aside0.mk (HG2.outer hlt).1
   have HO3 : Aside0 (rowV cb ((gpart rs2 ra).getD i none) = .slice (some ⟨rw_, 0, none⟩) cb cb) := ⟨by
    have hr := HRI.out
    have hl := HL2.out
    rw [List.getD_eq_getElem?_getD, gpart, List.getElem?_append_left (by simp; omega), List.getElem?_map, hr]; rfl⟩
   clear hW1 hL hp HG2 hri hoc hof hmk hrs2 hrw HG HG1 HB HK HNW fb1
   have fa1 : W1.cell? ⟨ga, 1, none⟩ = some (.int .i64 ca) := (blk_cell (keep_blk HK2.out HZC.out HA8.out (by decide)) 1).trans rfl
   go_wp2
   clear fa1
   go_loopw [10, 11, 12, 13, 49] (fun v10 v11 v12 v13 v49 wr => ∃ k : Nat, v49 = .int .i64 k ∧ k ≤ ca ∧ Aside0 (Grid w.heap.size wr (.slice (some ⟨g0, 0, none⟩) ra cap0) cb (gpart rs2 ra) rs2 (fJ (entN ca sa) (entN cb sb) ca i k 0)) ∧ Aside0 (KeepBut w8 wr g0 none) ∧ Aside0 (Below w.heap.size w wr)) (fun _ _ _ _ v49 _ => ca - (intOf v49).toNat)
   case atStart => exact ⟨0, rfl, Nat.zero_le _, HG3, HK2, HB2⟩
   case round =>
    obtain ⟨k, rfl, hk, HG4, HK4, HB4⟩ := hrel
    obtain ⟨wm, rfl⟩ : ∃ wm : World, wm = wr := ⟨_, rfl⟩
    clear HG3 HK2 HB2
    by_cases hkl : k < ca
    ·have hA := keep_blk HK4.out HZC.out HA8.out (by decide)
     have fa1 : wm.cell? ⟨ga, 1, none⟩ = some (.int .i64 ca) := (blk_cell hA 1).trans rfl
     have fa2 : wm.cell? ⟨ga, 2, none⟩ = some (.string sa) := (blk_cell hA 2).trans rfl
     obtain ⟨rk, ck, hrk8, hbk8⟩ := HR8.out k hkl
     have hbk : Br wm rk cb _ := hbk8.keep (HK4.out.2 rk hbk8.lt (hbk8.ne HZC.out (by decide)) (by simp))
     have HRLT := Aside0.mk hbk8.lt
     have hrk : wm.cell? ⟨gR, k, none⟩ = some (.slice (some ⟨rk, 0, none⟩) cb ck) := keep_cell HK4.out hrk8 HNE.out
     clear hrk8 hbk8
     have HBK := Aside0.mk hbk
     have h1 : (i + 1) * ca ≤ ra * ca := Nat.mul_le_mul_right _ hlt
     have h2 : (i + 1) * ca = i * ca + ca := Nat.succ_mul _ _
     have h3 : ra * ca ≤ 255 * 255 := Nat.mul_le_mul hra1 hca1
     have hsz := HSA.out
     obtain ⟨P, hP⟩ : ∃ P : Int, P = ((i * ca : Nat) : Int) := ⟨_, rfl⟩
     have e1 : IntKind.i64.wrap ((i : Int) * (ca : Int)) = P := by rw [hP, IntKind.wrap_i64, ← Int.natCast_mul]; omega
     have b1 : 0 ≤ P := by omega
     have b2 : P ≤ 65025 := by omega
     have d1 : decide (0 ≤ P + (k : Int)) = true := decide_eq_true (by omega)
     have d2 : decide (P + (k : Int) < (sa.size : Int)) = true := decide_eq_true (by omega)
     have p1 : (0 ≤ P + (k : Int)) = True := eq_true (by omega)
     have p2 : (P + (k : Int) < (sa.size : Int)) = True := eq_true (by omega)
     have hx := bt_at sa (P + (k : Int))
     rw [show bt sa (P + (k : Int)) = ((entN ca sa i k : Nat) : Int) from by rw [hP, ← Int.natCast_add]; exact (toI_ent ca sa i k).symm] at hx
     have i1 : decide ((k : Int) < (ca : Int)) = true := decide_eq_true (by omega)
     clear hA hbk h1 h2 h3 hsz hP
     go_wp2
     clear hx p1 p2 d1 d2 e1 b1 b2 fa1 fa2 hrk
     go_loopw [12, 13, 66] (fun v12 v13 v66 wr => ∃ j : Nat, v66 = .int .i64 j ∧ j ≤ cb ∧ Aside0 (Grid w.heap.size wr (.slice (some ⟨g0, 0, none⟩) ra cap0) cb (gpart rs2 ra) rs2 (fJ (entN ca sa) (entN cb sb) ca i k j)) ∧ Aside0 (KeepBut w8 wr g0 none) ∧ Aside0 (Below w.heap.size w wr) ∧ Aside0 (Br wr rk cb (toI (entN cb sb) k))) (fun _ _ v66 _ => cb - (intOf v66).toNat)
     case atStart => exact ⟨0, rfl, Nat.zero_le _, HG4, HK4, HB4, ⟨HBK.out.congr fun j _ => (toI_ent cb sb k j).symm⟩⟩
     case round =>
      obtain ⟨j, rfl, hj, HG5, HK5, HB5, HR5⟩ := hrel
      clear HG4 HK4 HB4 HBK
      by_cases hjl : j < cb
      ·have hy := HR5.out.cell hjl
       have ho := (HG5.out.outer hlt).1
       rw [HO3.out] at ho
       obtain ⟨hrow, hrg⟩ := HG5.out.row i _ HRI.out
       have hcur := hrow.cell hjl
       have hfr := hrow.frozen hjl
       have HBY1 : Aside0 (Byte ((entN ca sa i k : Nat) : Int)) := ⟨by have := entN_by ca sa i k; unfold Byte; omega⟩
       have HBY2 : Aside0 (Byte (toI (entN cb sb) k j)) := ⟨toI_by (entN_by cb sb) k j⟩
       have HTd := (keep_tab HK5.out HZC.out HT8.out).below (below_drew (Below.refl _ wr))
       have HGd := HG5.out.below (below_drew (Below.refl _ wr))
       have HKd : KeepBut w8 wr.drew g0 none := HK5.out
       have HBd := below_drew1 HB5.out
       have HRd : Br wr.drew rk cb (toI (entN cb sb) k) := HR5.out
       have hod : wr.drew.cell? ⟨g0, i, none⟩ = some (.slice (some ⟨rw_, 0, none⟩) cb cb) := ho
       have hcd : wr.drew.cell? ⟨rw_, j, none⟩ = some (.int .u8 (fJ (entN ca sa) (entN cb sb) ca i k j i j)) := hcur
       have hfd : wr.drew.frozen? ⟨rw_, j, none⟩ = false := hfr
       have i2 : decide ((j : Int) < (cb : Int)) = true := decide_eq_true (by omega)
       have i3 : decide ((i : Int) < (ra : Int)) = true := decide_eq_true (by omega)
       have i4 : (0 : Int) ≤ (j : Int) := by omega
       have HSTEP := Aside0.mk (fJ_step (A := entN ca sa) (B := entN cb sb) (ca := ca) (i := i) (k := k) (j := j))
       have HRG := Aside0.mk hrg
       obtain ⟨cur, hcu⟩ : ∃ cur, cur = fJ (entN ca sa) (entN cb sb) ca i k j i j := ⟨_, rfl⟩
       rw [← hcu] at hcd HSTEP
       have HCU := Aside0.mk hcu
       clear hrow hcur hfr ho hcu hrg
       go_wp2
       refine start_ (n := 14) (S := fun w' => w'.cell? ⟨g0, i, none⟩ = some (.slice (some ⟨rw_, 0, none⟩) cb cb) ∧ w'.cell? ⟨rw_, j, none⟩ = some (.int .u8 cur)) (ds := [13]) #[false, false, false, false, false, false, false, false, false, false, false, false, false, false] (by kernel_rfl) rfl rfl ⟨hod, hcd⟩ (fun hHeld => ?_)
       refine with_tabW rg21_17_tab rg21_17_bits (fun HT_ HW_ => ?_)
       obtain ⟨W2, hW2⟩ : ∃ W, W = wr.drew := ⟨_, rfl⟩
       rw [← hW2] at hHeld HGd HTd HKd HBd HRd hod hcd hfd ⊢
       have HG6 := Aside0.mk HGd
       have HT6 := Aside0.mk HTd
       have HK6 := Aside0.mk HKd
       have HB6 := Aside0.mk HBd
       have HR6 := Aside0.mk HRd
       clear hW2 HGd HTd HKd HBd HRd hod hy
       refine pure_ (i := 0) (N := some 71) (v := ?_) (a' := ?_) #[true, false, false, false, false, false, false, false, false, false, false, false, false, false] rfl rfl (any_of HT_.out (by kernel_rfl)) (fun _ _ _ h => h) (Or.inl ⟨by rfl, ?_⟩) ?_ ?_
       rotate_left
       ·intro w'
        go_simp
        with_reducible rfl
       rotate_left
       ·simp only [Act.put, List.setIfInBounds_toArray, List.set_cons_zero, List.set_cons_succ, i64_w, i32_w]
        rfl
       refine pure_ (i := 1) (N := some 72) (v := ?_) (a' := ?_) #[true, true, false, false, false, false, false, false, false, false, false, false, false, false] rfl rfl (any_of HT_.out (by kernel_rfl)) (fun _ _ _ h => h) (Or.inl ⟨by rfl, ?_⟩) ?_ ?_
       rotate_left
       ·intro w'
        go_simp
        with_reducible rfl
       rotate_left
       ·simp only [Act.put, List.setIfInBounds_toArray, List.set_cons_zero, List.set_cons_succ, i64_w, i32_w]
        rfl
       refine pure_ (i := 2) (N := some 73) (v := ?_) (a' := ?_) #[true, true, true, false, false, false, false, false, false, false, false, false, false, false] rfl rfl (any_of HT_.out (by kernel_rfl)) (fun _ _ _ h => h) (Or.inl ⟨by rfl, ?_⟩) ?_ ?_
       rotate_left
       ·intro w'
        go_simp
        with_reducible rfl
       rotate_left
       ·simp only [Act.put, List.setIfInBounds_toArray, List.set_cons_zero, List.set_cons_succ, i64_w, i32_w]
        rfl
       refine take_ (i := 3) (N := some 74) (v := ?_) (a' := ?_) #[true, true, true, true, false, false, false, false, false, false, false, false, false, false] rfl rfl (take_ofW HT_.out HW_.out (by kernel_rfl)) (fun _ _ _ h => h) (Or.inl ⟨by rfl, ?_⟩) hHeld ?_ ?_
       rotate_left
       ·rintro w' ⟨s0, s1⟩
        go_simp
        with_reducible rfl
       rotate_left
       ·simp only [Act.put, List.setIfInBounds_toArray, List.set_cons_zero, List.set_cons_succ, i64_w, i32_w]
        rfl
       refine pure_ (i := 4) (N := some 75) (v := ?_) (a' := ?_) #[true, true, true, true, true, false, false, false, false, false, false, false, false, false] rfl rfl (any_of HT_.out (by kernel_rfl)) (fun _ _ _ h => h) (Or.inl ⟨by rfl, ?_⟩) ?_ ?_
       rotate_left
       ·intro w'
        go_simp
        with_reducible rfl
       rotate_left
       ·simp only [Act.put, List.setIfInBounds_toArray, List.set_cons_zero, List.set_cons_succ, i64_w, i32_w]
        rfl
       refine pure_ (i := 5) (N := some 76) (v := ?_) (a' := ?_) #[true, true, true, true, true, true, false, false, false, false, false, false, false, false] rfl rfl (any_of HT_.out (by kernel_rfl)) (fun _ _ _ h => h) (Or.inl ⟨by rfl, ?_⟩) ?_ ?_
       rotate_left
       ·intro w'
        go_simp
        with_reducible rfl
       rotate_left
       ·simp only [Act.put, List.setIfInBounds_toArray, List.set_cons_zero, List.set_cons_succ, i64_w, i32_w]
        rfl
       refine take_ (i := 6) (N := some 77) (v := ?_) (a' := ?_) #[true, true, true, true, true, true, true, false, false, false, false, false, false, false] rfl rfl (take_ofW HT_.out HW_.out (by kernel_rfl)) (fun _ _ _ h => h) (Or.inl ⟨by rfl, ?_⟩) hHeld ?_ ?_
       rotate_left
       ·rintro w' ⟨s0, s1⟩
        go_simp
        with_reducible rfl
       rotate_left
       ·simp only [Act.put, List.setIfInBounds_toArray, List.set_cons_zero, List.set_cons_succ, i64_w, i32_w]
        rfl
       refine pure_ (i := 7) (N := some 78) (v := ?_) (a' := ?_) #[true, true, true, true, true, true, true, true, false, false, false, false, false, false] rfl rfl (any_of HT_.out (by kernel_rfl)) (fun _ _ _ h => h) (Or.inl ⟨by rfl, ?_⟩) ?_ ?_
       rotate_left
       ·intro w'
        go_simp
        with_reducible rfl
       rotate_left
       ·simp only [Act.put, List.setIfInBounds_toArray, List.set_cons_zero, List.set_cons_succ, i64_w, i32_w]
        rfl
       refine pure_ (i := 8) (N := some 79) (v := ?_) (a' := ?_) #[true, true, true, true, true, true, true, true, true, false, false, false, false, false] rfl rfl (any_of HT_.out (by kernel_rfl)) (fun _ _ _ h => h) (Or.inl ⟨by rfl, ?_⟩) ?_ ?_
       rotate_left
       ·intro w'
        go_simp
        with_reducible rfl
       rotate_left
       ·simp only [Act.put, List.setIfInBounds_toArray, List.set_cons_zero, List.set_cons_succ, i64_w, i32_w]
        rfl
       refine pure_ (i := 9) (N := some 80) (v := ?_) (a' := ?_) #[true, true, true, true, true, true, true, true, true, true, false, false, false, false] rfl rfl (any_of HT_.out (by kernel_rfl)) (fun _ _ _ h => h) (Or.inl ⟨by rfl, ?_⟩) ?_ ?_
       rotate_left
       ·intro w'
        go_simp
        with_reducible rfl
       rotate_left
       ·simp only [Act.put, List.setIfInBounds_toArray, List.set_cons_zero, List.set_cons_succ, i64_w, i32_w]
        rfl
       refine one_ (i := 10) (N := some 81) #[true, true, true, true, true, true, true, true, true, true, true, false, false, false] rfl rfl (one_of HT_.out (by kernel_rfl)) (by decide) (fun K hK => ?_)
       (refine goes_ Try.func36 (by kernel_rfl) rfl #[.pointer (some ⟨gf, 0, none⟩), .int .u8 ((entN ca sa i k : Nat) : Int), .int .u8 (toI (entN cb sb) k j)] (by rfl) rfl rfl (by (try simp only [List.map_toArray, List.map_cons, List.map_nil]); first | done | rfl) ?_; refine (gMul gf _ _ _ HT6.out HBY1.out HBY2.out).mono ?_; rintro e w' ⟨rfl, nd, rfl⟩; refine ⟨_, rfl, ?_⟩)
       refine hK.out _ _ hHeld (fun hHeld => ?_)
       clear hK K
       try simp only [Act.put, List.setIfInBounds_toArray, List.set_cons_zero, List.set_cons_succ, i64_w, i32_w]
       refine pure_ (i := 11) (N := some 82) (v := ?_) (a' := ?_) #[true, true, true, true, true, true, true, true, true, true, true, true, false, false] rfl rfl (any_of HT_.out (by kernel_rfl)) (fun _ _ _ h => h) (Or.inl ⟨by rfl, ?_⟩) ?_ ?_
       rotate_left
       ·intro w'
        go_simp
        with_reducible rfl
       rotate_left
       ·simp only [Act.put, List.setIfInBounds_toArray, List.set_cons_zero, List.set_cons_succ, i64_w, i32_w]
        rfl
       refine pure_ (i := 12) (N := some 83) (v := ?_) (a' := ?_) #[true, true, true, true, true, true, true, true, true, true, true, true, true, false] rfl rfl (any_of HT_.out (by kernel_rfl)) (fun _ _ _ h => h) (Or.inl ⟨by rfl, ?_⟩) ?_ ?_
       rotate_left
       ·intro w'
        go_simp
        with_reducible rfl
       rotate_left
       ·simp only [Act.put, List.setIfInBounds_toArray, List.set_cons_zero, List.set_cons_succ, i64_w, i32_w]
        rfl
       have hzn : (W2.drewN nd).cell? ⟨rw_, j, none⟩ = some (.int .u8 cur) := hcd
       have hfn : (W2.drewN nd).frozen? ⟨rw_, j, none⟩ = false := hfd
       have HG7 := Aside0.mk (HG6.out.drewN nd)
       have HK7 : Aside0 (KeepBut w8 (W2.drewN nd) g0 none) := ⟨HK6.out⟩
       have HB7 := Aside0.mk (pw_below_drewN HB6.out nd)
       have HR7 : Aside0 (Br (W2.drewN nd) rk cb (toI (entN cb sb) k)) := ⟨HR6.out⟩
       clear hcd hfd
       generalize W2.drewN nd = W3 at *
       refine last_ (i := 13) (N := none) #[true, true, true, true, true, true, true, true, true, true, true, true, true, true] rfl rfl (one_of HT_.out (by kernel_rfl)) (by decide) (fun K hK => ?_)
       (refine skip_ (w1 := ?_) (by rfl) rfl ?_ ?_; rotate_left; · (go_simp; rfl))
       refine hK.out _ _ ?_
       clear hK K
       try simp only [Act.put, List.setIfInBounds_toArray, List.set_cons_zero, List.set_cons_succ, i64_w, i32_w]
       refine done_ (done_of HT_.out (by kernel_rfl)) ?_
       go_wp2
       go_roundw
       case rel =>
        refine ⟨j + 1, by go_num, hjl, ⟨(HG7.out.set HRI.out hjl _).congr fun a b _ _ => ?_⟩, ⟨?_⟩, ⟨below_set HB7.out HRG.out⟩, ⟨HR7.out.keep (Below.heap_setCell W3 ⟨rw_, j, none⟩ _ rk ?_)⟩⟩
        ·rw [← fJ_next]
         exact congrArg (fun z => if a = i ∧ b = j then z else _) HSTEP.out
        ·have hge := HNW2.out _ (List.mem_of_getElem? HRI.out)
         simp only at hge
         exact ⟨by simpa [World.setCell] using HK7.out.1, fun x hx hg hr => (Below.heap_setCell W3 ⟨rw_, j, none⟩ _ x (by simp only; omega)).trans (HK7.out.2 x hx hg hr)⟩
        ·have hge := HNW2.out _ (List.mem_of_getElem? HRI.out)
         have hlt8 := HRLT.out
         simp only at hge ⊢
         omega
       case measure => simp [intOf]; omega
      ·obtain rfl : j = cb := by omega
       go_wp2
       go_roundw
       case rel => exact ⟨k + 1, by go_num, hkl, ⟨HG5.out.congr fun a b _ hb => fJ_all hb⟩, HK5, HB5⟩
       case measure => simp [intOf]; omega
    ·obtain rfl : k = ca := by omega
     go_wp2
     go_roundw
     case rel => exact ⟨i + 1, rs2, by go_num, hlt, HL2, ⟨HG4.out.congr fun a b _ _ => fJ_end⟩, HK4, HB4, HNW2⟩
     case measure => simp [intOf]; omega
  ·obtain rfl : i = ra := by omega
   have hG := HG.out
   rw [gpart_full HL.out] at hG
   have HRW := Aside0.mk (hG.rows HL.out)
   have HCP := Aside0.mk (Kd.R_reads' hG.out).2.1
   have HQ9 := Aside0.mk (keep_blk HK.out HZC.out HQ8.out (by decide))
   clear hG
   go_wp2_with (go_at_call 31; refine (matrix_calls g0 i cb cap0 (toI (mm ca (entN ca sa) (entN cb sb))) _ hra0 hra1 hcb0 hcb1 HRW.out HCP.out (fun a b _ _ => toI_by (mm_by _ _ _) a b)).mono ?_; rintro e w9 ⟨rfl, hb⟩; have hq := blk_below HQ9.out hb; have q0 : w9.cell? ⟨gq, 0, none⟩ = some (.int .i64 0) := (blk_cell hq 0).trans rfl; have q1 : w9.cell? ⟨gq, 1, none⟩ = some (.int .i64 0) := (blk_cell hq 1).trans rfl; have q2 : w9.cell? ⟨gq, 2, none⟩ = some (.string ⟨#[]⟩) := (blk_cell hq 2).trans rfl; have z0 := blk_frozen hq 0; have z1 := blk_frozen hq 1; have z2 := blk_frozen hq 2; have HQf := Aside0.mk hq; have HBf := Aside0.mk (below_step HB.out hb); clear hq hb)
   exact mr_end i cb (cellsOf i cb (toI (mm ca (entN ca sa) (entN cb sb)))) 0 rfl rfl rfl HQf.out (by kernel_rfl) ⟨rfl, below_set (below_set (below_set HBf.out HQ.out) HQ.out) HQ.out⟩
end Go.Proofs.Ytoghhpkmficnmaa.Al

/- matrix.Mul in the printer's form. -/
namespace Go.Proofs.Ytoghhpkmficnmaa.Al
open Go.RowKit Go.Proofs.Ytoghhpkmficnmaa.GfRef Go.Proofs.Ytoghhpkmficnmaa.Base Go.Proofs.Ytoghhpkmficnmaa.Grid Go.Proofs.YtoghhpkmficnmaaW.PrintWords
set_option linter.unusedVariables false
def matrix_Mul.f (a0_0 a0_1 : Int) (a0_2 : ByteArray) (a1_0 a1_1 : Int) (a1_2 : ByteArray) : Option (Int × Int × ByteArray × Int) := some (mulV a0_0 a0_1 a0_2 a1_0 a1_1 a1_2)
theorem matrix_Mul.calls (a0_0 : Int) (a0_1 : Int) (a0_2 : ByteArray) (a1_0 : Int) (a1_1 : Int) (a1_2 : ByteArray) (r1 r2 : Int) (r3 : ByteArray) (r4 : Int) (w : World) (h : matrix_Mul.f a0_0 a0_1 a0_2 a1_0 a1_1 a1_2 = some (r1, r2, r3, r4)) :
  Calls Try.prog 21 #[.agg #[.int .i64 a0_0, .int .i64 a0_1, .string a0_2], .agg #[.int .i64 a1_0, .int .i64 a1_1, .string a1_2]] w fun e w' => e = .returned (.tuple #[.agg #[.int .i64 r1, .int .i64 r2, .string r3], .int .i64 r4]) ∧ Below w.heap.size w w' := by
 have h' := Option.some.inj h
 clear h
 unfold mulV at h'
 by_cases hc : okM a0_0 a0_1 a0_2 ∧ okM a1_0 a1_1 a1_2 ∧ a0_1 = a1_0
 ·rw [if_pos hc] at h'
  obtain ⟨h1, h2, rfl⟩ := hc
  obtain ⟨ra, rfl⟩ := Int.eq_ofNat_of_zero_le (show 0 ≤ a0_0 by have := h1.1; omega)
  obtain ⟨ca, rfl⟩ := Int.eq_ofNat_of_zero_le (show 0 ≤ a0_1 by have := h1.2.2.1; omega)
  obtain ⟨cb, rfl⟩ := Int.eq_ofNat_of_zero_le (show 0 ≤ a1_1 by have := h2.2.2.1; omega)
  injection h' with e1 h'
  injection h' with e2 h'
  injection h' with e3 e4
  subst e1 e2 e3 e4
  exact mul_good ra ca a0_2 cb a1_2 w h1 h2
 ·rw [if_neg hc] at h'
  injection h' with e1 h'
  injection h' with e2 h'
  injection h' with e3 e4
  subst e1 e2 e3 e4
  exact mul_bad a0_0 a0_1 a0_2 a1_0 a1_1 a1_2 w hc
end Go.Proofs.Ytoghhpkmficnmaa.Al

/- matrix.Inverse by its contract. -/
namespace Go.Proofs.Ytoghhpkmficnmaa.Al
open Go.RowKit Go.Proofs.Ytoghhpkmficnmaa.GfMath Go.Proofs.Ytoghhpkmficnmaa.GfRef Go.Proofs.Ytoghhpkmficnmaa.Base Go.Proofs.Ytoghhpkmficnmaa.Bytes Go.Proofs.Ytoghhpkmficnmaa.Grid Go.Proofs.YtoghhpkmficnmaaW.PrintWords Go.Proofs.YtoghhpkmficnmaaW.PrintLast Go.Proofs.YtoghhpkmficnmaaW.PrintMore
set_option linter.unusedVariables false
set_option linter.unusedSimpArgs false
set_option maxHeartbeats 8000000 in
set_option maxRecDepth 100000 in
theorem inv_bad (r c : Int) (s : ByteArray) (w : World) (h : ¬ (okM r c s ∧ r = c)) :
  Calls Try.prog 26 #[.agg #[.int .i64 r, .int .i64 c, .string s]] w fun e w' => e = .returned (mrV (errM 4)) ∧ Below w.heap.size w w' := by
 by_cases h1 : okM r c s
 ·have h2 : r ≠ c := fun e => h ⟨h1, e⟩
  have h4 : chkE r c s = 0 := if_pos h1
  have H4 := Aside0.mk h4
  have n1 : (r == c) = false := beq_eq_false_iff_ne.2 h2
  have n2 : (r != c) = true := bne_iff_ne.2 h2
  clear h h1 h2 h4
  go_enter Try.func26, Try.ntmps26
  go_wp2_with (first | ((with_reducible refine gate_dst (N := 1) rfl ?_); refine box_event ?hg (N := 1) ?hd (cs := #[.int .i64 r, .int .i64 c, .string s]) (t := 24) ?hr ?_; (case hd => rfl); (case hg => rfl); (case hr => first | (go_simp; done) | (go_simp; rfl)); intro gb hg w1 hbox hb; have f0 : w1.cell? ⟨gb, 0, none⟩ = some (.int .i64 r) := (blk_cell hbox 0).trans rfl; have f1 : w1.cell? ⟨gb, 1, none⟩ = some (.int .i64 c) := (blk_cell hbox 1).trans rfl; have f2 : w1.cell? ⟨gb, 2, none⟩ = some (.string s) := (blk_cell hbox 2).trans rfl; have HBX := Aside0.mk hbox; have HB1 := Aside0.mk hb; clear hg hbox hb) | ((with_reducible refine gate_dst (N := 2) rfl ?_); refine box_event ?hg (N := 2) ?hd (cs := #[.int .i64 0, .int .i64 0, .string ⟨#[]⟩]) (t := 24) ?hr ?_; (case hd => rfl); (case hg => rfl); (case hr => first | (go_simp; done) | (go_simp; rfl)); intro gq hg w2 hbox hb; have HQ := Aside0.mk (show w.heap.size ≤ gq from by have := HB1.out.size; omega); have HQX := Aside0.mk hbox; have HB2 := Aside0.mk (below_step HB1.out hb); have hbx := blk_below HBX.out hb; have f0 : w2.cell? ⟨gb, 0, none⟩ = some (.int .i64 r) := (blk_cell hbx 0).trans rfl; have f1 : w2.cell? ⟨gb, 1, none⟩ = some (.int .i64 c) := (blk_cell hbx 1).trans rfl; have f2 : w2.cell? ⟨gb, 2, none⟩ = some (.string s) := (blk_cell hbx 2).trans rfl; have HBX2 := Aside0.mk hbx; clear hg hbox hb hbx) | (go_at_call 18; refine (check_calls r c s _).mono ?_; rintro e w3 ⟨rfl, hb⟩; rw [H4.out]; have hq := blk_below HQX.out hb; have g0 : w3.cell? ⟨gb, 0, none⟩ = some (.int .i64 r) := (blk_cell (blk_below HBX2.out hb) 0).trans rfl; have g1 : w3.cell? ⟨gb, 1, none⟩ = some (.int .i64 c) := (blk_cell (blk_below HBX2.out hb) 1).trans rfl; have q0 : w3.cell? ⟨gq, 0, none⟩ = some (.int .i64 0) := (blk_cell hq 0).trans rfl; have q1 : w3.cell? ⟨gq, 1, none⟩ = some (.int .i64 0) := (blk_cell hq 1).trans rfl; have q2 : w3.cell? ⟨gq, 2, none⟩ = some (.string ⟨#[]⟩) := (blk_cell hq 2).trans rfl; have z0 := blk_frozen hq 0; have z1 := blk_frozen hq 1; have z2 := blk_frozen hq 2; have HQ3 := Aside0.mk hq; have HB3 := Aside0.mk (below_step HB2.out hb); clear hq hb))
  exact mr_end 0 0 ⟨#[]⟩ 4 rfl rfl rfl HQ3.out (by kernel_rfl) ⟨rfl, below_set (below_set (below_set HB3.out HQ.out) HQ.out) HQ.out⟩
 ·have h4 : chkE r c s = 4 := if_neg h1
  have H4 := Aside0.mk h4
  clear h h1 h4
  go_enter Try.func26, Try.ntmps26
  go_wp2_with (first | ((with_reducible refine gate_dst (N := 1) rfl ?_); refine box_event ?hg (N := 1) ?hd (cs := #[.int .i64 r, .int .i64 c, .string s]) (t := 24) ?hr ?_; (case hd => rfl); (case hg => rfl); (case hr => first | (go_simp; done) | (go_simp; rfl)); intro gb hg w1 hbox hb; have f0 : w1.cell? ⟨gb, 0, none⟩ = some (.int .i64 r) := (blk_cell hbox 0).trans rfl; have f1 : w1.cell? ⟨gb, 1, none⟩ = some (.int .i64 c) := (blk_cell hbox 1).trans rfl; have f2 : w1.cell? ⟨gb, 2, none⟩ = some (.string s) := (blk_cell hbox 2).trans rfl; have HBX := Aside0.mk hbox; have HB1 := Aside0.mk hb; clear hg hbox hb) | ((with_reducible refine gate_dst (N := 2) rfl ?_); refine box_event ?hg (N := 2) ?hd (cs := #[.int .i64 0, .int .i64 0, .string ⟨#[]⟩]) (t := 24) ?hr ?_; (case hd => rfl); (case hg => rfl); (case hr => first | (go_simp; done) | (go_simp; rfl)); intro gq hg w2 hbox hb; have HQ := Aside0.mk (show w.heap.size ≤ gq from by have := HB1.out.size; omega); have HQX := Aside0.mk hbox; have HB2 := Aside0.mk (below_step HB1.out hb); have hbx := blk_below HBX.out hb; have f0 : w2.cell? ⟨gb, 0, none⟩ = some (.int .i64 r) := (blk_cell hbx 0).trans rfl; have f1 : w2.cell? ⟨gb, 1, none⟩ = some (.int .i64 c) := (blk_cell hbx 1).trans rfl; have f2 : w2.cell? ⟨gb, 2, none⟩ = some (.string s) := (blk_cell hbx 2).trans rfl; have HBX2 := Aside0.mk hbx; clear hg hbox hb hbx) | (go_at_call 18; refine (check_calls r c s _).mono ?_; rintro e w3 ⟨rfl, hb⟩; rw [H4.out]; have hq := blk_below HQX.out hb; have q0 : w3.cell? ⟨gq, 0, none⟩ = some (.int .i64 0) := (blk_cell hq 0).trans rfl; have q1 : w3.cell? ⟨gq, 1, none⟩ = some (.int .i64 0) := (blk_cell hq 1).trans rfl; have q2 : w3.cell? ⟨gq, 2, none⟩ = some (.string ⟨#[]⟩) := (blk_cell hq 2).trans rfl; have z0 := blk_frozen hq 0; have z1 := blk_frozen hq 1; have z2 := blk_frozen hq 2; have HQ3 := Aside0.mk hq; have HB3 := Aside0.mk (below_step HB2.out hb); clear hq hb))
  exact mr_end 0 0 ⟨#[]⟩ 4 rfl rfl rfl HQ3.out (by kernel_rfl) ⟨rfl, below_set (below_set (below_set HB3.out HQ.out) HQ.out) HQ.out⟩
def rg26_4_T : Bool × List (List Nat × List Nat) := (true, [([], []), ([0], [0]), ([], []), ([2], [2]), ([3, 1], [3]), ([1, 4, 0, 1], [1]), ([4, 5, 0, 1, 2, 3, 4, 5], [4])])
def rg26_4_B : List Nat := [0, 1, 0, 4, 15, 31, 63]
theorem rg26_4_tab : rtab .any (opsOf Try.f26 4) = rg26_4_T := by kernel_rfl
theorem rg26_4_bits : waitsOk rg26_4_T.2 rg26_4_B = true := by kernel_rfl
set_option maxHeartbeats 8000000 in
set_option maxRecDepth 100000 in
theorem inv_good (n : Nat) (s : ByteArray) (w : World) (h : okM n n s) (R : MR) (hR : invV n n s = R) :
  Calls Try.prog 26 #[.agg #[.int .i64 n, .int .i64 n, .string s]] w fun e w' => e = .returned (mrV R) ∧ Below w.heap.size w w' := by
 have h4 : chkE n n s = 0 := if_pos h
 have H4 := Aside0.mk h4
 have HM := Aside0.mk h
 have hn1 : 1 ≤ n := by have := h.1; omega
 have hn2 : n ≤ 255 := by have := h.2.1; omega
 have hss : s.size = n * n := by have := h.2.2.2.2; rw [← Int.natCast_mul] at this; omega
 have HSS := Aside0.mk hss
 have hR1 : (match gj n (entN n s) n with | some q => ((n : Int), (n : Int), cellsOf n n (toI q.2), (0 : Int)) | none => errM 20) = R := by
  rw [← hR]; unfold invV; rw [if_pos ⟨h, rfl⟩, Int.toNat_natCast]; first | done | rfl
 have HR := Aside0.mk hR1
 have d1 : ((n : Int) == (n : Int)) = true := by simp
 have d2 : ((n : Int) != (n : Int)) = false := by simp
 clear h h4 hR hss hR1
 go_enter Try.func26, Try.ntmps26
 go_wp2_with (first | ((with_reducible refine gate_dst (N := 1) rfl ?_); refine box_event ?hg (N := 1) ?hd (cs := #[.int .i64 n, .int .i64 n, .string s]) (t := 24) ?hr ?_; (case hd => rfl); (case hg => rfl); (case hr => first | (go_simp; done) | (go_simp; rfl)); intro gb hg w1 hbox hb; have f0 : w1.cell? ⟨gb, 0, none⟩ = some (.int .i64 n) := (blk_cell hbox 0).trans rfl; have f1 : w1.cell? ⟨gb, 1, none⟩ = some (.int .i64 n) := (blk_cell hbox 1).trans rfl; have f2 : w1.cell? ⟨gb, 2, none⟩ = some (.string s) := (blk_cell hbox 2).trans rfl; have HBX := Aside0.mk hbox; have HB1 := Aside0.mk hb; clear hg hbox hb) | ((with_reducible refine gate_dst (N := 2) rfl ?_); refine box_event ?hg (N := 2) ?hd (cs := #[.int .i64 0, .int .i64 0, .string ⟨#[]⟩]) (t := 24) ?hr ?_; (case hd => rfl); (case hg => rfl); (case hr => first | (go_simp; done) | (go_simp; rfl)); intro gq hg w2 hbox hb; have HQ := Aside0.mk (show w.heap.size ≤ gq from by have := HB1.out.size; omega); have HQX := Aside0.mk hbox; have HB2 := Aside0.mk (below_step HB1.out hb); have hbx := blk_below HBX.out hb; have f0 : w2.cell? ⟨gb, 0, none⟩ = some (.int .i64 n) := (blk_cell hbx 0).trans rfl; have f1 : w2.cell? ⟨gb, 1, none⟩ = some (.int .i64 n) := (blk_cell hbx 1).trans rfl; have f2 : w2.cell? ⟨gb, 2, none⟩ = some (.string s) := (blk_cell hbx 2).trans rfl; have HBX2 := Aside0.mk hbx; clear hg hbox hb hbx) | (go_at_call 18; refine (check_calls n n s _).mono ?_; rintro e w3 ⟨rfl, hb⟩; rw [H4.out]; have HQ3 := Aside0.mk (blk_below HQX.out hb); have hbx3 := blk_below HBX2.out hb; have g0 : w3.cell? ⟨gb, 0, none⟩ = some (.int .i64 n) := (blk_cell hbx3 0).trans rfl; have g1 : w3.cell? ⟨gb, 1, none⟩ = some (.int .i64 n) := (blk_cell hbx3 1).trans rfl; have HBX3 := Aside0.mk hbx3; have HB3 := Aside0.mk (below_step HB2.out hb); clear hb hbx3) | (go_at_call 28; refine (gf_New.calls _).mono ?_; rintro e w4 ⟨gf, rfl, hge, ht, hb⟩; have HT4 := Aside0.mk ht; have HQ4 := Aside0.mk (blk_below HQ3.out hb); have HBX4 := Aside0.mk (blk_below HBX3.out hb); have HB4 := Aside0.mk (below_step HB3.out hb); clear hge ht hb))
 have HX4 := HBX4.out
 refine start_ (n := 7) (S := fun w' => w'.heap[gb]? = some (.cells #[.int .i64 n, .int .i64 n, .string s] 24 (0, 0))) (ds := []) #[false, false, false, false, false, false, false] (by kernel_rfl) rfl rfl HX4 (fun hHeld => ?_)
 refine with_tabW rg26_4_tab rg26_4_bits (fun HT_ HW_ => ?_)
 obtain ⟨W1, hW1⟩ : ∃ W1, W1 = w4.drew := ⟨_, rfl⟩
 have HB5 := Aside0.mk (show Below w.heap.size w W1 from by rw [hW1]; exact below_drew1 HB4.out)
 have HT5 := Aside0.mk (show Tab W1 gf from by rw [hW1]; exact HT4.out.below (below_drew (Below.refl _ _)))
 have HQ5 := Aside0.mk (show W1.heap[gq]? = some (.cells #[.int .i64 0, .int .i64 0, .string ⟨#[]⟩] 24 (0, 0)) from by rw [hW1]; exact HQ4.out)
 rw [← hW1] at hHeld ⊢
 clear hW1
 refine take_ (i := 0) (N := some 28) (v := ?_) (a' := ?_) #[true, false, false, false, false, false, false] rfl rfl (take_ofW HT_.out HW_.out (by kernel_rfl)) (fun _ _ _ h => h) (Or.inl ⟨by rfl, ?_⟩) hHeld ?_ ?_
 rotate_left
 ·rintro w' s0
  have y0 : w'.cell? ⟨gb, 0, none⟩ = some (.int .i64 n) := (blk_cell s0 0).trans rfl
  have y1 : w'.cell? ⟨gb, 1, none⟩ = some (.int .i64 n) := (blk_cell s0 1).trans rfl
  have y2 : w'.cell? ⟨gb, 2, none⟩ = some (.string s) := (blk_cell s0 2).trans rfl
  go_simp
  with_reducible rfl
 rotate_left
 ·simp only [Act.put, List.setIfInBounds_toArray, List.set_cons_zero, List.set_cons_succ, i64_w, i32_w]
  rfl
 refine pure_ (i := 2) (N := some 30) (v := ?_) (a' := ?_) #[true, false, true, false, false, false, false] rfl rfl (any_of HT_.out (by kernel_rfl)) (fun _ _ _ h => h) (Or.inl ⟨by rfl, ?_⟩) ?_ ?_
 rotate_left
 ·intro w'
  go_simp
  with_reducible rfl
 rotate_left
 ·simp only [Act.put, List.setIfInBounds_toArray, List.set_cons_zero, List.set_cons_succ, i64_w, i32_w]
  rfl
 refine take_ (i := 3) (N := some 31) (v := ?_) (a' := ?_) #[true, false, true, true, false, false, false] rfl rfl (take_ofW HT_.out HW_.out (by kernel_rfl)) (fun _ _ _ h => h) (Or.inl ⟨by rfl, ?_⟩) hHeld ?_ ?_
 rotate_left
 ·rintro w' s0
  have y0 : w'.cell? ⟨gb, 0, none⟩ = some (.int .i64 n) := (blk_cell s0 0).trans rfl
  go_simp
  with_reducible rfl
 rotate_left
 ·simp only [Act.put, List.setIfInBounds_toArray, List.set_cons_zero, List.set_cons_succ, i64_w, i32_w]
  rfl
 refine one_ (i := 1) (N := some 29) #[true, true, true, true, false, false, false] rfl rfl (one_of HT_.out (by kernel_rfl)) (by decide) (fun K hK => ?_)
 (refine goes_ Try.func33 (by kernel_rfl) rfl #[.agg #[.int .i64 n, .int .i64 n, .string s]] (by rfl) rfl rfl (by (try simp only [List.map_toArray, List.map_cons, List.map_nil]); first | done | rfl) ?_; refine (of_calls n n s _ hn1 hn2 hn1 hn2 HSS.out).mono ?_; rintro e w6 ⟨vL, rL, rfl, hrl, hG, hb⟩; refine ⟨_, rfl, ?_⟩; obtain ⟨gL, cL, egL, _, _, _, _⟩ := hG.form (by simp only [List.length_map]; omega); rw [List.length_map, hrl] at egL; subst egL; have HL6 := Aside0.mk (hG.lower HB5.out.size); have HRL := Aside0.mk hrl; have HT6 := Aside0.mk (HT5.out.below hb); have HQ6 := Aside0.mk (blk_below HQ5.out hb); have HB6 := Aside0.mk (below_step HB5.out hb); have hS6 := blk_below hHeld hb; clear hrl hG hb)
 refine hK.out _ _ hS6 (fun hHeld => ?_)
 clear hK K
 try simp only [Act.put, List.setIfInBounds_toArray, List.set_cons_zero, List.set_cons_succ, i64_w, i32_w]
 refine one_ (i := 4) (N := some 32) #[true, true, true, true, true, false, false] rfl rfl (one_of HT_.out (by kernel_rfl)) (by decide) (fun K hK => ?_)
 (refine goes_ Try.func29 (by kernel_rfl) rfl #[.int .i64 n] (by rfl) rfl rfl (by (try simp only [List.map_toArray, List.map_cons, List.map_nil]); first | done | rfl) ?_; refine (one_calls n _ hn1 hn2).mono ?_; rintro e w7 ⟨gR, cR, rR, rfl, hrl, hG, hb⟩; refine ⟨_, rfl, ?_⟩; have HR7 := Aside0.mk hG; have HRR := Aside0.mk hrl; have HL7 := Aside0.mk (HL6.out.below hb); have HLT := Aside0.mk HL6.out.lt; have HLO := Aside0.mk (Kd.R_typed HL6.out.out gL (by simp [Value.ownBlock])); have HT7 := Aside0.mk (HT6.out.below hb); have HQ7 := Aside0.mk (blk_below HQ6.out hb); have HB7 := Aside0.mk (below_step HB6.out hb); have HZ7 := Aside0.mk HB6.out.size; have hS7 := blk_below hS6 hb; clear hrl hG hb)
 refine hK.out _ _ hS7 (fun hHeld => ?_)
 clear hK K
 try simp only [Act.put, List.setIfInBounds_toArray, List.set_cons_zero, List.set_cons_succ, i64_w, i32_w]
 refine pure_ (i := 5) (N := some 5) (v := ?_) (a' := ?_) #[true, true, true, true, true, true, false] rfl rfl (any_of HT_.out (by kernel_rfl)) (fun _ _ _ h => h) (Or.inl ⟨by rfl, ?_⟩) ?_ ?_
 rotate_left
 ·intro w'
  go_simp
  with_reducible rfl
 rotate_left
 ·simp only [Act.put, List.setIfInBounds_toArray, List.set_cons_zero, List.set_cons_succ, i64_w, i32_w]
  rfl
 refine pure_ (i := 6) (N := some 6) (v := ?_) (a' := ?_) #[true, true, true, true, true, true, true] rfl rfl (any_of HT_.out (by kernel_rfl)) (fun _ _ _ h => h) (Or.inl ⟨by rfl, ?_⟩) ?_ ?_
 rotate_left
 ·intro w'
  go_simp
  with_reducible rfl
 rotate_left
 ·simp only [Act.put, List.setIfInBounds_toArray, List.set_cons_zero, List.set_cons_succ, i64_w, i32_w]
  rfl
 refine done_ (done_of HT_.out (by kernel_rfl)) ?_
 clear hHeld hS6 hS7 HX4
 go_upto_region 6 with (fail)
 have HIS : IS w (w7.alloc (.cells #[fv gL n cL, fv gR n cR] 65)) n gf gq w7.heap.size gL cL gR cR rL rR (entN n s) Ix := by
  have hb := below_alloc (Below.refl w7.heap.size w7) (.cells #[fv gL n cL, fv gR n cR] 65)
  have hgR := Kd.R_base HR7.out.out gR (by simp [Value.ownBlock])
  obtain ⟨cells, hcL⟩ := HLO.out
  have hgL := blk_lt hcL
  refine ⟨HT7.out.below hb, blk_below HQ7.out hb, blk_new w7 _, (HL7.out.below hb).congr (fun i j _ _ => (toI_ent n s i j).symm), ((HR7.out.lower HZ7.out).below hb).congr (fun i j _ _ => (toI_Ix i j).symm), HRL.out, HRR.out, by omega, fun p hp q hq he => ?_, entN_by n s, Ix_by, below_step HB7.out hb, HQ.out⟩
  obtain ⟨i, hi⟩ := List.mem_iff_getElem?.1 hp
  obtain ⟨j, hj⟩ := List.mem_iff_getElem?.1 hq
  have h1 := HLT.out i p hi
  have h2 := (HR7.out.row j q hj).2
  omega
 obtain ⟨gs, hgs⟩ : ∃ g, g = w7.heap.size := ⟨_, rfl⟩
 rw [← hgs] at HIS ⊢
 have HIS0 := Aside0.mk HIS
 clear HIS hgs
 change Code.wp _ _ _ _ (w7.alloc (.cells #[fv gL n cL, fv gR n cR] 65))
 generalize w7.alloc (.cells #[fv gL n cL, fv gR n cR] 65) = W8 at HIS0 ⊢
 clear HL7 HR7 HT7 HQ7 HB7 HL6 HRL HT6 HQ6 HB6 HRR HLT HLO HZ7 HT5 HQ5 HB5 HT4 HQ4 HB4 HBX4 HQ3 HBX3 HB3
 go_wp2
 go_loopw [8, 9, 11, 12, 13, 14, 15, 40] (fun v8 v9 v11 v12 v13 v14 v15 v40 wr => ∃ (c : Nat) (rL rR : List (Nat × Nat)) (q : Mx × Mx), v40 = .int .i64 c ∧ c ≤ n ∧ Aside0 (gj n (entN n s) c = some q) ∧ Aside0 (IS w wr n gf gq gs gL cL gR cR rL rR q.1 q.2)) (fun _ _ _ _ _ _ _ v40 _ => n - (intOf v40).toNat)
 case atStart => exact ⟨0, rL, rR, (entN n s, Ix), rfl, Nat.zero_le _, ⟨rfl⟩, HIS0⟩
 case round =>
  obtain ⟨c, rL, rR, q, rfl, hc, HJ, HI⟩ := hrel
  obtain ⟨wo, rfl⟩ : ∃ wo : World, wo = wr := ⟨_, rfl⟩
  clear HIS0
  by_cases hlt : c < n
  ·go_wp2
   go_loop [9] (fun v9 => ∃ p : Nat, v9 = .int .i64 p ∧ c ≤ p ∧ p ≤ n ∧ Aside0 (∀ i, c ≤ i → i < p → q.1 i c = 0)) (fun v9 => n - (intOf v9).toNat)
   case atStart => exact ⟨c, rfl, Nat.le_refl _, hc, ⟨fun i h1 h2 => absurd h1 (by omega)⟩⟩
   case round =>
    obtain ⟨p, rfl, hp1, hp2, HZ⟩ := hrel
    by_cases hpn : p < n
    ·obtain ⟨rb, cb, hrb, hob, hrow⟩ := gcell HI.out.L HI.out.nL hpn
     have hcell := hrow.cell hlt
     have HRW := Aside0.mk hrow
     have HRB := Aside0.mk hrb
     have d1 : decide ((p : Int) < (n : Int)) = true := decide_eq_true (by omega)
     have d2 : decide (p < n) = true := decide_eq_true hpn
     have e1 : decide ((c : Int) < (n : Int)) = true := decide_eq_true (by omega)
     have e2 : decide (c < n) = true := decide_eq_true hlt
     clear hrow hrb
     by_cases hz : q.1 p c = 0
     ·rw [show toI q.1 p c = 0 from by unfold toI; rw [hz]; rfl] at hcell
      have HZ' : Aside0 (∀ i, c ≤ i → i < p + 1 → q.1 i c = 0) := ⟨fun i h1 h2 => by
       by_cases e : i = p
       ·rw [e]; exact hz
       ·exact HZ.out i h1 (by omega)⟩
      clear hz
      go_wp2
      go_round
      case rel => exact ⟨p + 1, by go_num, by omega, hpn, HZ'⟩
      case measure => simp [intOf]; omega
     ·have hz1 : (toI q.1 p c == 0) = false := beq_eq_false_iff_ne.2 (by unfold toI; omega)
      have HNZ := Aside0.mk hz
      clear hz
      have HPV : Aside0 (piv q.1 c (n - c) c = p) := ⟨(piv_uniq hp1 (by omega) HZ.out (fun _ => HNZ.out)).symm⟩
      go_wp2
      go_loopw [11, 67] (fun v11 v67 wr => ∃ (k : Nat) (rL1 rR1 : List (Nat × Nat)) (A1 B1 : Mx), v67 = .int .i64 k ∧ k ≤ 2 ∧ Aside0 (IS w wr n gf gq gs gL cL gR cR rL1 rR1 A1 B1) ∧ Aside0 (A1 = if 1 ≤ k then swapR c p q.1 else q.1) ∧ Aside0 (B1 = if 2 ≤ k then swapR c p q.2 else q.2)) (fun _ v67 _ => 2 - (intOf v67).toNat)
      case atStart => exact ⟨0, rL, rR, q.1, q.2, rfl, by omega, HI, ⟨rfl⟩, ⟨rfl⟩⟩
      case round =>
       obtain ⟨k, rL1, rR1, A1, B1, rfl, hk, HI1, HA1, HB1'⟩ := hrel
       clear hob hcell
       by_cases hk2 : k < 2
       ·have c1 : (k : Int) < 2 := by omega
        have c2 : (0 : Int) ≤ (k : Int) := by omega
        by_cases hk0 : k = 0
        ·have hcl : wr.cell? ⟨gs, k, none⟩ = some (.func (.func 38) #[.slice (some ⟨gL, 0, none⟩) n cL] #[]) := (blk_cell HI1.out.bs k).trans (by rw [hk0]; rfl)
         have HK0 := Aside0.mk hk0
         clear hk0
         go_wp2_with (go_at_call 38; refine (swap_calls w gL cL n n rL1 (toI A1) c p _ HI1.out.L HI1.out.nL hlt hpn hn2 HI1.out.bel).mono ?_; rintro e w' ⟨rfl, hG, hkb, hb⟩; have HI2 := Aside0.mk (HI1.out.swL hlt hpn hG hkb hb); clear hG hkb hb)
         go_roundw
         case rel =>
          have h0 := HK0.out
          refine ⟨k + 1, _, _, _, _, by go_num, by omega, HI2, ⟨?_⟩, ⟨?_⟩⟩
          ·rw [HA1.out, if_neg (by omega), if_pos (by omega)]
          ·rw [HB1'.out, if_neg (by omega), if_neg (by omega)]
         case measure => simp [intOf]; omega
        ·have hcl : wr.cell? ⟨gs, k, none⟩ = some (.func (.func 38) #[.slice (some ⟨gR, 0, none⟩) n cR] #[]) := (blk_cell HI1.out.bs k).trans (by rw [show k = 1 by omega]; rfl)
         have HK0 := Aside0.mk hk0
         clear hk0
         go_wp2_with (go_at_call 38; refine (swap_calls w gR cR n n rR1 (toI B1) c p _ HI1.out.R HI1.out.nR hlt hpn hn2 HI1.out.bel).mono ?_; rintro e w' ⟨rfl, hG, hkb, hb⟩; have HI2 := Aside0.mk (HI1.out.swR hlt hpn hG hkb hb); clear hG hkb hb)
         go_roundw
         case rel =>
          have h0 := HK0.out
          refine ⟨k + 1, _, _, _, _, by go_num, by omega, HI2, ⟨?_⟩, ⟨?_⟩⟩
          ·rw [HA1.out, if_pos (by omega), if_pos (by omega)]
          ·rw [HB1'.out, if_neg (by omega), if_pos (by omega)]
         case measure => simp [intOf]; omega
       ·have h2 : k = 2 := by omega
        have hA := HA1.out
        have hB := HB1'.out
        rw [if_pos (by omega)] at hA hB
        subst hA hB
        have HK2 := Aside0.mk h2
        have c1 : decide ((k : Int) < 2) = false := decide_eq_false (by omega)
        clear h2 HA1 HB1' hk
        obtain ⟨b, hb⟩ : ∃ b, b = inv1 (swapR c p q.1 c c) := ⟨_, rfl⟩
        have hnz : swapR c p q.1 c c ≠ 0 := by simp only [swapR, if_true]; exact HNZ.out
        have HDV : Aside0 (divI 1 (toI (swapR c p q.1) c c) = (b : Int)) := ⟨by rw [hb]; exact divI_inv hnz⟩
        have HBD := Aside0.mk hb
        have HBB : Aside0 (b < 256) := ⟨by rw [hb]; exact inv1_lt _⟩
        obtain ⟨rb2, cb2, hrb2, hob2, hrow2⟩ := gcell HI1.out.L HI1.out.nL hlt
        have hcell2 := hrow2.cell hlt
        clear hb hnz hrb2 hrow2
        go_wp2_with (first | (go_at_call 30; refine (gInv gf (toI (swapR c p q.1) c c) _ HI1.out.tab (toI_by HI1.out.bA c c)).mono ?_; rintro e w' ⟨rfl, nd, rfl⟩; rw [HDV.out]; have HI3 := Aside0.mk (HI1.out.drewN nd); clear HI1) | (go_at_call 39; refine (scale_calls w gf gL cL n n rL1 (toI (swapR c p q.1)) c b _ HI3.out.tab HI3.out.L HI3.out.nL hlt hn2 (by have := HBB.out; unfold Byte; omega) (toI_by HI3.out.bA) HI3.out.bel).mono ?_; rintro e w' ⟨rfl, hG, hkb, hbw⟩; have HI4 := Aside0.mk (HI3.out.rowsL hG (fun i j => scale_toI i j) ((scale_op hlt HBB.out).by_ _ HI3.out.bA) hkb hbw); clear HI3 hG hkb hbw) | (go_at_call 39; refine (scale_calls w gf gR cR n n rR1 (toI (swapR c p q.2)) c b _ HI4.out.tab HI4.out.R HI4.out.nR hlt hn2 (by have := HBB.out; unfold Byte; omega) (toI_by HI4.out.bB) HI4.out.bel).mono ?_; rintro e w' ⟨rfl, hG, hkb, hbw⟩; have HI5 := Aside0.mk (HI4.out.rowsR hG (fun i j => scale_toI i j) ((scale_op hlt HBB.out).by_ _ HI4.out.bB) hkb hbw); clear HI4 hG hkb hbw))
        obtain ⟨L2, hL2⟩ : ∃ L2, L2 = scaleR c b (swapR c p q.1) := ⟨_, rfl⟩
        obtain ⟨R2, hR2⟩ : ∃ R2, R2 = scaleR c b (swapR c p q.2) := ⟨_, rfl⟩
        have HI6 : Aside0 (IS w w' n gf gq gs gL cL gR cR rL1 rR1 (elimK c (fun r => L2 r c) 0 L2) (elimK c (fun r => L2 r c) 0 R2)) := ⟨by rw [elimK_zero, elimK_zero, hL2, hR2]; exact HI5.out⟩
        have HL2 := Aside0.mk hL2
        have HR2 := Aside0.mk hR2
        have BL2 : Aside0 (By2 L2) := ⟨by rw [hL2]; exact HI5.out.bA⟩
        have BR2 : Aside0 (By2 R2) := ⟨by rw [hR2]; exact HI5.out.bB⟩
        clear hL2 hR2 HI5 hob2 hcell2
        go_loopw [14, 15, 100] (fun v14 v15 v100 wr => ∃ i : Nat, v100 = .int .i64 i ∧ i ≤ n ∧ Aside0 (IS w wr n gf gq gs gL cL gR cR rL1 rR1 (elimK c (fun r => L2 r c) i L2) (elimK c (fun r => L2 r c) i R2))) (fun _ _ v100 _ => n - (intOf v100).toNat)
        case atStart => exact ⟨0, rfl, Nat.zero_le _, HI6⟩
        case round =>
         obtain ⟨i, rfl, hi, HI7⟩ := hrel
         clear HI6
         by_cases hin : i < n
         ·obtain ⟨rb3, cb3, hrb3, hob3, hrow3⟩ := gcell HI7.out.L HI7.out.nL hin
          have hcell3 := hrow3.cell hlt
          rw [show toI (elimK c (fun r => L2 r c) i L2) i c = ((L2 i c : Nat) : Int) from by unfold toI; rw [elimK_at]] at hcell3
          clear hrb3 hrow3
          have i1 : decide ((i : Int) < (n : Int)) = true := decide_eq_true (by omega)
          have i2 : decide (i < n) = true := decide_eq_true hin
          by_cases hic : i = c
          ·have j1 : ((i : Int) == (c : Int)) = true := by rw [hic]; simp
           have j2 : ((i : Int) != (c : Int)) = false := by rw [hic]; simp
           have j3 : (i == c) = true := by rw [hic]; simp
           have HI8 : Aside0 (IS w wr n gf gq gs gL cL gR cR rL1 rR1 (elimK c (fun r => L2 r c) (i + 1) L2) (elimK c (fun r => L2 r c) (i + 1) R2)) := ⟨by rw [elimK_skip (.inl hic), elimK_skip (.inl hic)]; exact HI7.out⟩
           clear hic
           go_wp2
           go_roundw
           case rel => exact ⟨i + 1, by go_num, hin, HI8⟩
           case measure => simp [intOf]; omega
          ·have j1 : ((i : Int) == (c : Int)) = false := beq_eq_false_iff_ne.2 (by omega)
           have j2 : ((i : Int) != (c : Int)) = true := bne_iff_ne.2 (by omega)
           have j3 : (i == c) = false := beq_eq_false_iff_ne.2 hic
           by_cases hx0 : L2 i c = 0
           ·have HI8 : Aside0 (IS w wr n gf gq gs gL cL gR cR rL1 rR1 (elimK c (fun r => L2 r c) (i + 1) L2) (elimK c (fun r => L2 r c) (i + 1) R2)) := ⟨by rw [elimK_skip (x := fun r => L2 r c) (.inr hx0), elimK_skip (x := fun r => L2 r c) (.inr hx0)]; exact HI7.out⟩
            rw [show ((L2 i c : Nat) : Int) = 0 from by rw [hx0]; rfl] at hcell3
            clear hic hx0
            go_wp2
            go_roundw
            case rel => exact ⟨i + 1, by go_num, hin, HI8⟩
            case measure => simp [intOf]; omega
           ·have k1 : (((L2 i c : Nat) : Int) == 0) = false := beq_eq_false_iff_ne.2 (by omega)
            have k2 : (((L2 i c : Nat) : Int) != 0) = true := bne_iff_ne.2 (by omega)
            have k3 : (L2 i c == 0) = false := beq_eq_false_iff_ne.2 hx0
            have HIC := Aside0.mk hic
            have HXB : Aside0 (Byte ((L2 i c : Nat) : Int)) := ⟨by have := BL2.out i c; unfold Byte; omega⟩
            clear hic hx0
            go_wp2_with (first | (go_at_call 40; refine (add_calls w gf gL cL n n rL1 (toI (elimK c (fun r => L2 r c) i L2)) i c ((L2 i c : Nat) : Int) _ HI7.out.tab HI7.out.L HI7.out.nL hlt hin HIC.out hn2 HXB.out (toI_by HI7.out.bA) HI7.out.bel).mono ?_; rintro e w' ⟨rfl, hG, hkb, hbw⟩; have HI8 := Aside0.mk (HI7.out.rowsL hG (fun a b => elimK_add (x := fun r => L2 r c) HIC.out BL2.out a b) (elimK_by BL2.out (i + 1)) hkb hbw); clear HI7 hG hkb hbw) | (go_at_call 40; refine (add_calls w gf gR cR n n rR1 (toI (elimK c (fun r => L2 r c) i R2)) i c ((L2 i c : Nat) : Int) _ HI8.out.tab HI8.out.R HI8.out.nR hlt hin HIC.out hn2 HXB.out (toI_by HI8.out.bB) HI8.out.bel).mono ?_; rintro e w' ⟨rfl, hG, hkb, hbw⟩; have HI9 := Aside0.mk (HI8.out.rowsR hG (fun a b => elimK_add (x := fun r => L2 r c) HIC.out BR2.out a b) (elimK_by BR2.out (i + 1)) hkb hbw); clear HI8 hG hkb hbw))
            go_roundw
            case rel => exact ⟨i + 1, by go_num, hin, HI9⟩
            case measure => simp [intOf]; omega
         ·obtain rfl : i = n := by omega
          have HEND : Aside0 (gj i (entN i s) (c + 1) = some (elimR c (fun r => L2 r c) L2, elimR c (fun r => L2 r c) R2) ∧ IS w wr i gf gq gs gL cL gR cR rL1 rR1 (elimR c (fun r => L2 r c) L2) (elimR c (fun r => L2 r c) R2)) := ⟨by
           refine ⟨?_, HI7.out.congr ((elim_op hlt (fun r => BL2.out r c)).by_ _ BL2.out) ((elim_op hlt (fun r => BL2.out r c)).by_ _ BR2.out) (fun r j hr _ => by unfold elimK; rw [if_pos hr]) (fun r j hr _ => by unfold elimK; rw [if_pos hr])⟩
           have e1 : L2 = stepL c p q.1 := by rw [HL2.out, HBD.out]; rfl
           have e2 : R2 = stepR c p q.1 q.2 := by rw [HR2.out, HBD.out]; rfl
           rw [gj, HJ.out, Option.bind_some, gstep, HPV.out, if_pos hpn, e1, e2]⟩
          clear HI7
          go_wp2
          go_roundw
          case rel => exact ⟨c + 1, rL1, rR1, _, by go_num, hlt, ⟨HEND.out.1⟩, ⟨HEND.out.2⟩⟩
          case measure => simp [intOf]; omega
    ·obtain rfl : p = n := by omega
     have HNO : Aside0 (errM 20 = R) := ⟨by
      have hpv : piv q.1 c (p - c) c = p := (piv_uniq hp1 (by omega) HZ.out (fun h => absurd h (by omega))).symm
      have hnone : gj p (entN p s) (c + 1) = none := by rw [gj, HJ.out, Option.bind_some, gstep, hpv, if_neg (by omega)]
      have := gj_stay hnone (p - (c + 1))
      rw [show c + 1 + (p - (c + 1)) = p by omega] at this
      have hr := HR.out
      rw [this] at hr
      exact hr⟩
     have d3 : decide ((p : Int) < (p : Int)) = false := decide_eq_false (by omega)
     have q0 : wo.cell? ⟨gq, 0, none⟩ = some (.int .i64 0) := (blk_cell HI.out.bq 0).trans rfl
     have q1 : wo.cell? ⟨gq, 1, none⟩ = some (.int .i64 0) := (blk_cell HI.out.bq 1).trans rfl
     have q2 : wo.cell? ⟨gq, 2, none⟩ = some (.string ⟨#[]⟩) := (blk_cell HI.out.bq 2).trans rfl
     have z0 := blk_frozen HI.out.bq 0
     have z1 := blk_frozen HI.out.bq 1
     have z2 := blk_frozen HI.out.bq 2
     go_wp2
     exact mr_end 0 0 ⟨#[]⟩ 20 rfl rfl rfl HI.out.bq (by kernel_rfl) ⟨by rw [← HNO.out]; rfl, below_set (below_set (below_set HI.out.bel HQ.out) HQ.out) HQ.out⟩
  ·obtain rfl : c = n := by omega
   have HE : Aside0 (((c : Int), (c : Int), cellsOf c c (toI q.2), (0 : Int)) = R) := ⟨by
    have hr := HR.out
    rw [HJ.out] at hr
    exact hr⟩
   have HRW := Aside0.mk (HI.out.R.rows HI.out.nR)
   have HCP := Aside0.mk (Kd.R_reads' HI.out.R.out).2.1
   go_wp2_with (go_at_call 31; refine (matrix_calls gR c c cR (toI q.2) _ hn1 hn2 hn1 hn2 HRW.out HCP.out (fun i j _ _ => toI_by HI.out.bB i j)).mono ?_; rintro e w9 ⟨rfl, hb⟩; have hq := blk_below HI.out.bq hb; have q0 : w9.cell? ⟨gq, 0, none⟩ = some (.int .i64 0) := (blk_cell hq 0).trans rfl; have q1 : w9.cell? ⟨gq, 1, none⟩ = some (.int .i64 0) := (blk_cell hq 1).trans rfl; have q2 : w9.cell? ⟨gq, 2, none⟩ = some (.string ⟨#[]⟩) := (blk_cell hq 2).trans rfl; have z0 := blk_frozen hq 0; have z1 := blk_frozen hq 1; have z2 := blk_frozen hq 2; have HQf := Aside0.mk hq; have HBf := Aside0.mk (below_step HI.out.bel hb); clear hq hb)
   exact mr_end c c (cellsOf c c (toI q.2)) 0 rfl rfl rfl HQf.out (by kernel_rfl) ⟨by rw [← HE.out]; rfl, below_set (below_set (below_set HBf.out HQ.out) HQ.out) HQ.out⟩
end Go.Proofs.Ytoghhpkmficnmaa.Al

/- matrix.Inverse in the printer's form. -/
namespace Go.Proofs.Ytoghhpkmficnmaa.Al
open Go.RowKit Go.Proofs.Ytoghhpkmficnmaa.GfRef Go.Proofs.Ytoghhpkmficnmaa.Base Go.Proofs.Ytoghhpkmficnmaa.Grid Go.Proofs.YtoghhpkmficnmaaW.PrintWords
set_option linter.unusedVariables false
def matrix_Inverse.f (a0_0 a0_1 : Int) (a0_2 : ByteArray) : Option (Int × Int × ByteArray × Int) := some (invV a0_0 a0_1 a0_2)
theorem matrix_Inverse.calls (a0_0 : Int) (a0_1 : Int) (a0_2 : ByteArray) (r1 r2 : Int) (r3 : ByteArray) (r4 : Int) (w : World) (h : matrix_Inverse.f a0_0 a0_1 a0_2 = some (r1, r2, r3, r4)) :
  Calls Try.prog 26 #[.agg #[.int .i64 a0_0, .int .i64 a0_1, .string a0_2]] w fun e w' => e = .returned (.tuple #[.agg #[.int .i64 r1, .int .i64 r2, .string r3], .int .i64 r4]) ∧ Below w.heap.size w w' := by
 have h' := Option.some.inj h
 clear h
 by_cases hc : okM a0_0 a0_1 a0_2 ∧ a0_0 = a0_1
 ·obtain ⟨h1, rfl⟩ := hc
  obtain ⟨n, rfl⟩ := Int.eq_ofNat_of_zero_le (show 0 ≤ a0_0 by have := h1.1; omega)
  exact inv_good n a0_2 w h1 (r1, r2, r3, r4) h'
 ·unfold invV at h'
  rw [if_neg hc] at h'
  injection h' with e1 h'
  injection h' with e2 h'
  injection h' with e3 e4
  subst e1 e2 e3 e4
  exact inv_bad a0_0 a0_1 a0_2 w hc
end Go.Proofs.Ytoghhpkmficnmaa.Al

/- matrix.Identity in the printer's form. -/
namespace Go.Proofs.Ytoghhpkmficnmaa.Al
open Go.RowKit Go.Proofs.Ytoghhpkmficnmaa.GfRef Go.Proofs.Ytoghhpkmficnmaa.Base Go.Proofs.Ytoghhpkmficnmaa.Grid Go.Proofs.YtoghhpkmficnmaaW.PrintWords
set_option linter.unusedVariables false
def idV (n : Int) : MR := if 1 ≤ n ∧ n ≤ 255 then (n, n, cellsOf n.toNat n.toNat ixI, 0) else errM 1
def matrix_Identity.f (a0 : Int) : Option (Int × Int × ByteArray × Int) := some (idV a0)
theorem matrix_Identity.calls (a0 : Int) (r1 r2 : Int) (r3 : ByteArray) (r4 : Int) (w : World) (h : matrix_Identity.f a0 = some (r1, r2, r3, r4)) :
  Calls Try.prog 16 #[.int .i64 a0] w fun e w' => e = .returned (.tuple #[.agg #[.int .i64 r1, .int .i64 r2, .string r3], .int .i64 r4]) ∧ Below w.heap.size w w' := by
 have h' := Option.some.inj h
 clear h
 have hi := ident_calls a0 w
 unfold idV at h'
 by_cases hc : 1 ≤ a0 ∧ a0 ≤ 255
 ·rw [if_pos hc] at h' hi
  injection h' with e1 h'
  injection h' with e2 h'
  injection h' with e3 e4
  subst e1 e2 e3 e4
  exact hi
 ·rw [if_neg hc] at h' hi
  injection h' with e1 h'
  injection h' with e2 h'
  injection h' with e3 e4
  subst e1 e2 e3 e4
  exact hi
end Go.Proofs.Ytoghhpkmficnmaa.Al

/- made: a matrix of some rows and columns, of a text's bytes (missing ones are 0), by its contract. -/
namespace Go.Proofs.Ytoghhpkmficnmaa.Al
open Go.RowKit Go.Proofs.Ytoghhpkmficnmaa.GfRef Go.Proofs.Ytoghhpkmficnmaa.Base Go.Proofs.Ytoghhpkmficnmaa.Bytes Go.Proofs.Ytoghhpkmficnmaa.Grid Go.Proofs.YtoghhpkmficnmaaW.PrintWords Go.Proofs.YtoghhpkmficnmaaW.PrintLast Go.Proofs.YtoghhpkmficnmaaW.PrintMore
set_option linter.unusedVariables false
set_option linter.unusedSimpArgs false
def madeB (s : ByteArray) (k : Nat) : Int := if k < s.size then bt s k else 0
def madeS (n : Nat) (s : ByteArray) : ByteArray := strOfNums (listOf n (madeB s))
theorem madeB_by (s : ByteArray) (k : Nat) : Byte (madeB s k) := by unfold madeB; split; exact byte_bt s _; unfold Byte; omega
/-- copy(dst, s): as many bytes as both have. -/
theorem run_copy_min {P : Program} (w : World) (dT sT ty elem : TypeId) (b dLen dCap : Nat) (t : ByteArray)
  (hu : P.underlying dT = some (.slice elem)) (hz : ∀ w, (Go.sizeOf elem).run P w = .ok 1 w)
  (hc : ∀ j, j < dLen → (w.cell? ⟨b, 0 + j, none⟩).isSome = true) (hf : ∀ j, j < dLen → w.frozen? ⟨b, 0 + j, none⟩ = false) :
  (Builtin.copy_ #[dT, sT] ty #[.slice (some ⟨b, 0, none⟩) dLen dCap, .string t]).run P w = .ok (goInt (min t.size dLen : Nat)) (w.setCells b 0 ((t.data.toList.map fun x => Value.int .u8 (x.toNat : Int)).take (min t.size dLen))) := by
 have hl : ((t.data.toList.map fun x => Value.int .u8 (x.toNat : Int)).take (min t.size dLen)).length = min t.size dLen := by
  rw [List.length_take, List.length_map]
  have : t.data.toList.length = t.size := data_length t
  omega
 have hst := run_storeCells_cells (P := P) b 0 ((t.data.toList.map fun x => Value.int .u8 (x.toNat : Int)).take (min t.size dLen)) 0 w (by rw [hl]; intro j hj; simpa using hc j (by omega)) (by rw [hl]; intro j hj; simpa using hf j (by omega)) (by
  intro v hv
  obtain ⟨x, _, rfl⟩ := List.mem_map.1 (List.mem_of_mem_take hv)
  rfl)
 have hm : Nat.min t.size dLen = min t.size dLen := rfl
 simp [Builtin.copy_, run_underlying hu, Builtin.lenOf, Builtin.firstCells, hz]
 simp at hst
 rw [hst]
 rfl
theorem br_copied {W : World} {g n : Nat} {cs : Array Value} (h : W.heap[g]? = some (.cells cs 5 (0, 0))) (hn : cs.size = n) (h0 : ∀ j, j < n → cs[j]? = some (.int .u8 0)) (t : ByteArray) :
  Br (W.setCells g 0 ((t.data.toList.map fun x => Value.int .u8 (x.toNat : Int)).take (min t.size n))) g n (madeB t) := by
 have hl : ((t.data.toList.map fun x => Value.int .u8 (x.toNat : Int)).take (min t.size n)).length = min t.size n := by
  rw [List.length_take, List.length_map]
  have : t.data.toList.length = t.size := data_length t
  omega
 obtain ⟨cur, h3, h4, h5⟩ := setCells_row ((t.data.toList.map fun x => Value.int .u8 (x.toNat : Int)).take (min t.size n)) 0 W cs h (by rw [hl]; omega)
 refine ⟨cur, (0, 0), h3, fun j hj => ?_, fun j _ hc => by omega⟩
 rw [← Array.getElem?_toList, h5, List.take_zero, List.nil_append, Nat.zero_add]
 unfold madeB
 have hd : t.data.toList.length = t.size := data_length t
 by_cases hjt : j < t.size
 ·rw [if_pos hjt, List.getElem?_append_left (by rw [hl]; omega), List.getElem?_take, if_pos (by omega), List.getElem?_map]
  have h1 : j < (B t).length := by rw [B_len]; exact hjt
  rw [bt_B t j h1]
  rw [show t.data.toList = B t from rfl, List.getElem?_eq_getElem h1]
  rfl
 ·rw [if_neg hjt, List.getElem?_append_right (by rw [hl]; omega), hl, List.getElem?_drop, Array.getElem?_toList]
  rw [show min t.size n + (j - min t.size n) = j by omega]
  exact h0 j hj
def corncriblaw02_made.f (a0 a1 : Int) (a2 : ByteArray) : Option (Int × Int × ByteArray) := if 1 ≤ a0 ∧ a0 ≤ 6 ∧ 1 ≤ a1 ∧ a1 ≤ 6 then some (a0, a1, madeS (a0.toNat * a1.toNat) a2) else none
set_option maxHeartbeats 8000000 in
set_option maxRecDepth 100000 in
theorem made_calls (r c : Nat) (s : ByteArray) (w : World) (hr0 : 1 ≤ r) (hr1 : r ≤ 6) (hc0 : 1 ≤ c) (hc1 : c ≤ 6) :
  Calls Try.prog 23 #[.int .i64 r, .int .i64 c, .string s] w fun e w' => e = .returned (.agg #[.int .i64 r, .int .i64 c, .string (madeS (r * c) s)]) ∧ Below w.heap.size w w' := by
 have hrc : r * c ≤ 6 * 6 := Nat.mul_le_mul hr1 hc1
 have hmk := print_make (P := Try.prog) 54 5 .u8 1 Try.underlying54 info5 (by decide) (r * c) (by omega)
 have e1 : IntKind.i64.wrap ((r : Int) * (c : Int)) = ((r * c : Nat) : Int) := by rw [IntKind.wrap_i64, ← Int.natCast_mul]; omega
 obtain ⟨n, hn⟩ : ∃ n, n = r * c := ⟨_, rfl⟩
 rw [← hn] at hmk e1 hrc ⊢
 have HN := Aside0.mk hn
 clear hn
 go_enter Try.func23, Try.ntmps23
 go_upto_region 2 with ((with_reducible refine gate_dst (N := 6) rfl ?_); refine box_event ?hg (N := 6) ?hd (cs := #[.int .i64 0, .int .i64 0, .string ⟨#[]⟩]) (t := 24) ?hr ?_; (case hd => rfl); (case hg => rfl); (case hr => first | (go_simp; done) | (go_simp; rfl)); intro gq hg w1 hbox hb; have HQ := Aside0.mk (Nat.le_of_eq hg.symm); have HK1 := Aside0.mk hbox; have HB1 := Aside0.mk hb; clear hg hbox hb)
 have hblk := blk_new w1 (.cells (madeCells #[.int .u8 0] n) 5 (0, 0))
 have HB2 := Aside0.mk (HB1.out.alloc HB1.out.size (.cells (madeCells #[.int .u8 0] n) 5))
 have HK2 := Aside0.mk (blk_alloc HK1.out (.cells (madeCells #[.int .u8 0] n) 5))
 have hms : (madeCells #[Value.int .u8 0] n).size = n := by simp [madeCells]
 have hcopy := run_copy_min (P := Try.prog) (w1.alloc (.cells (madeCells #[.int .u8 0] n) 5)) 54 9 3 5 w1.heap.size n n s Try.underlying54 (by first | exact Try.sizeOf5 | (intro w; simp [Go.sizeOf]; done)) (fun j hj => by rw [Nat.zero_add, cell_of_row _ _ _ _ _ _ hblk, made_get _ _ _ hj]; rfl) (fun j hj => blk_frozen hblk _)
 have hbr := br_copied hblk hms (fun j hj => made_get _ _ _ hj) s
 have HB3 := Aside0.mk (show Below w.heap.size w ((w1.alloc (.cells (madeCells #[.int .u8 0] n) 5)).setCells w1.heap.size 0 ((s.data.toList.map fun x => Value.int .u8 (x.toNat : Int)).take (min s.size n))) from by
  obtain ⟨s1, s2, s3, s4⟩ := setCells_same w1.heap.size ((s.data.toList.map fun x => Value.int .u8 (x.toNat : Int)).take (min s.size n)) 0 (w1.alloc (.cells (madeCells #[.int .u8 0] n) 5))
  refine HB2.out.trans ⟨s1, s2, s3, by rw [s4]; exact Nat.le_refl _, fun k hk => setCells_far _ _ k (by have := HB1.out.size; omega)⟩)
 have HK3 := Aside0.mk ((setCells_far (w := w1.alloc (.cells (madeCells #[.int .u8 0] n) 5)) ((s.data.toList.map fun x => Value.int .u8 (x.toNat : Int)).take (min s.size n)) 0 gq (Nat.ne_of_lt (blk_lt HK1.out))).trans HK2.out)
 have HBR := Aside0.mk hbr
 clear hbr hms hblk
 go_upto_region 3 with ((with_reducible refine gate_dst (N := 14) rfl ?_); refine Lib.wpList_copy_run _ rfl _ _ 54 9 rfl _ _ rfl rfl hcopy ?_)
 obtain ⟨W2, hW2⟩ : ∃ W, W = (w1.alloc (.cells (madeCells #[.int .u8 0] n) 5)).setCells w1.heap.size 0 ((s.data.toList.map fun x => Value.int .u8 (x.toNat : Int)).take (min s.size n)) := ⟨_, rfl⟩
 rw [← hW2] at HB3 HK3 HBR ⊢
 have hst := Bc.string (c := n) Try.underlying54 Try.underlying5 Try.underlying9 HBR.out.bc (by omega)
 have q0 : W2.cell? ⟨gq, 0, none⟩ = some (.int .i64 0) := (blk_cell HK3.out 0).trans rfl
 have q1 : W2.cell? ⟨gq, 1, none⟩ = some (.int .i64 0) := (blk_cell HK3.out 1).trans rfl
 have q2 : W2.cell? ⟨gq, 2, none⟩ = some (.string ⟨#[]⟩) := (blk_cell HK3.out 2).trans rfl
 have z0 := blk_frozen HK3.out 0
 have z1 := blk_frozen HK3.out 1
 have z2 := blk_frozen HK3.out 2
 clear hW2 hcopy hmk e1
 go_wp2
 have hb1 := blk_set (blk_set (blk_set HK3.out 0 (.int .i64 r)) 1 (.int .i64 c)) 2 (.string (madeS n s))
 exact bodyPost_ret (results_cell_row rfl _ _ gq 24 #[.int .i64 r, .int .i64 c, .string (madeS n s)] (0, 0) _ rfl hb1 Try.underlying24 rfl (by kernel_rfl)) rfl ⟨rfl, below_set (below_set (below_set HB3.out HQ.out) HQ.out) HQ.out⟩
theorem corncriblaw02_made.calls (a0 a1 : Int) (a2 : ByteArray) (r1 r2 : Int) (r3 : ByteArray) (w : World) (h : corncriblaw02_made.f a0 a1 a2 = some (r1, r2, r3)) :
  Calls Try.prog 23 #[.int .i64 a0, .int .i64 a1, .string a2] w fun e w' => e = .returned (.agg #[.int .i64 r1, .int .i64 r2, .string r3]) ∧ Below w.heap.size w w' := by
 unfold corncriblaw02_made.f at h
 split at h
 case isFalse => cases h
 rename_i hc
 obtain ⟨h1, h2, h3, h4⟩ := hc
 have h' := Option.some.inj h
 injection h' with e1 h'
 injection h' with e2 e3
 subst e1 e2 e3
 obtain ⟨r, rfl⟩ := Int.eq_ofNat_of_zero_le (show 0 ≤ a0 by omega)
 obtain ⟨c, rfl⟩ := Int.eq_ofNat_of_zero_le (show 0 ≤ a1 by omega)
 rw [Int.toNat_natCast, Int.toNat_natCast]
 exact made_calls r c a2 w (by omega) (by omega) (by omega) (by omega)
end Go.Proofs.Ytoghhpkmficnmaa.Al

/- One function of the program comes to what its plain twin says. This text began as the kit's own print (print.py, made by cprint.sh) and was turned by split.py: it is no printed file. -/
namespace Go.Proofs.Ytoghhpkmficnmaa.Al
open Go.RowKit Go.Proofs.YtoghhpkmficnmaaW.PrintWords Go.Proofs.YtoghhpkmficnmaaW.PrintLast Go.Proofs.YtoghhpkmficnmaaW.PrintMore
attribute [local go_sem] max2_int min2_int max_two min_two max_three min_three max_four min_four   -- for this text's walks alone
set_option linter.unusedVariables false
set_option linter.unusedSimpArgs false

/-! ### corncriblaw02_side: function 24 -/
def corncriblaw02_side.f (a0 : Int) : Option (Int) := some (wrap64 (1 + (wrap64 (Int.tmod (IntKind.u64.wrap (a0)) 6))))
set_option maxHeartbeats 8000000 in
set_option maxRecDepth 100000 in
theorem corncriblaw02_side.calls (a0 : Int) (r : Int) (w : World) (h : corncriblaw02_side.f a0 = some r) :
  Calls Try.prog 24 #[.int .i64 a0] w fun e w' => e = .returned (.int .i64 r) ∧ Drawn0 w w' := by
 have H : (some (wrap64 (1 + (wrap64 (Int.tmod (IntKind.u64.wrap (a0)) 6))))) = some r := h
 clear h
 obtain rfl := Option.some.inj H
 go_enter Try.func24, Try.ntmps24
 go_wp2
 go_ret
 exact ⟨by first | rfl | (simp; done) | (simp [*]; done), by repeat (first | exact Drawn0.refl _ | apply Drawn0.step)⟩

-- NOT PRINTED: function 6 (corncriblaw02_MatrixRing)

end Go.Proofs.Ytoghhpkmficnmaa.Al

/- The program's matrices as plain functions: what the laws lean on. -/
namespace Go.Proofs.Ytoghhpkmficnmaa.Al
open Go.RowKit Go.Proofs.Ytoghhpkmficnmaa.GfMath Go.Proofs.Ytoghhpkmficnmaa.GfRef Go.Proofs.Ytoghhpkmficnmaa.Base Go.Proofs.Ytoghhpkmficnmaa.Bytes Go.Proofs.Ytoghhpkmficnmaa.Grid Go.Proofs.YtoghhpkmficnmaaW.PrintWords Go.Proofs.YtoghhpkmficnmaaW.PrintMore
set_option linter.unusedVariables false
def sideN (a : Int) : Nat := 1 + (a % 18446744073709551616 % 6).toNat
theorem sideN_b (a : Int) : 1 ≤ sideN a ∧ sideN a ≤ 6 := by unfold sideN; omega
theorem u64_wrap (a : Int) : IntKind.u64.wrap a = a % 18446744073709551616 := by unfold IntKind.wrap; simp [IntKind.signed, IntKind.bits]
theorem side_f (a : Int) : corncriblaw02_side.f a = some ((sideN a : Nat) : Int) := by
 unfold corncriblaw02_side.f sideN
 rw [u64_wrap, Int.tmod_eq_emod_of_nonneg (by omega), wrap_id (n := a % 18446744073709551616 % 6) (by omega) (by omega), wrap_id (by omega) (by omega)]
 congr 1
 omega
theorem works_f : corncriblaw02_works.f = some true := by
 unfold corncriblaw02_works.f matrix_Generator.f
 decide +kernel
theorem cellsOf_congr {n m : Nat} {f g : Nat → Nat → Int} (h : ∀ i j, i < n → j < m → f i j = g i j) : cellsOf n m f = cellsOf n m g := by
 unfold cellsOf
 congr 1
 refine listOf_congr fun k hk => ?_
 have hm : 0 < m := by
  rcases Nat.eq_zero_or_pos m with e | e
  ·rw [e, Nat.mul_zero] at hk; omega
  ·exact e
 exact h _ _ (by rw [Nat.div_lt_iff_lt_mul hm]; exact hk) (Nat.mod_lt _ hm)
theorem ent_cells {n m : Nat} {f : Nat → Nat → Int} (hb : ∀ i j, i < n → j < m → Byte (f i j)) {i j : Nat} (hi : i < n) (hj : j < m) : entN m (cellsOf n m f) i j = (f i j).toNat := by
 unfold entN
 rw [bt_cellsOf hb i j hi hj]
theorem ent_toI {n m : Nat} {A : Mx} (hA : By2 A) {i j : Nat} (hi : i < n) (hj : j < m) : entN m (cellsOf n m (toI A)) i j = A i j := by
 rw [ent_cells (fun i j _ _ => toI_by hA i j) hi hj]; rfl
theorem cells_ent {n m : Nat} {s : ByteArray} (hs : s.size = n * m) : cellsOf n m (toI (entN m s)) = s := by
 refine B_inj (List.ext_getElem (by rw [B_len, B_len, cellsOf_size, hs]) fun k h1 h2 => ?_)
 have hk : k < n * m := by rw [B_len, cellsOf_size] at h1; exact h1
 have hm : 0 < m := by
  rcases Nat.eq_zero_or_pos m with e | e
  ·rw [e, Nat.mul_zero] at hk; omega
  ·exact e
 have hi : k / m < n := by rw [Nat.div_lt_iff_lt_mul hm]; exact hk
 have e := bt_cellsOf (n := n) (m := m) (f := toI (entN m s)) (fun i j _ _ => toI_by (entN_by m s) i j) (k / m) (k % m) hi (Nat.mod_lt _ hm)
 have hkk : k / m * m + k % m = k := by rw [Nat.mul_comm]; exact Nat.div_add_mod k m
 rw [toI_ent, hkk, bt_B _ k h1, bt_B _ k h2] at e
 exact UInt8.toNat_inj.1 (by omega)
theorem ok_cells {n m : Nat} (f : Nat → Nat → Int) (hn : 1 ≤ n) (hn1 : n ≤ 255) (hm : 1 ≤ m) (hm1 : m ≤ 255) : okM n m (cellsOf n m f) :=
 ⟨by omega, by omega, by omega, by omega, by rw [cellsOf_size, Int.natCast_mul]⟩
theorem made_size (n : Nat) (s : ByteArray) : (madeS n s).size = n := by rw [madeS, strOfNums_size, listOf_length]
theorem ok_made {n m : Nat} (s : ByteArray) (hn : 1 ≤ n) (hn1 : n ≤ 6) (hm : 1 ≤ m) (hm1 : m ≤ 6) : okM n m (madeS (n * m) s) :=
 ⟨by omega, by omega, by omega, by omega, by rw [made_size, Int.natCast_mul]⟩
theorem made_f (a b : Int) (s : ByteArray) : corncriblaw02_made.f ((sideN a : Nat) : Int) ((sideN b : Nat) : Int) s = some (((sideN a : Nat) : Int), ((sideN b : Nat) : Int), madeS (sideN a * sideN b) s) := by
 have h1 := sideN_b a
 have h2 := sideN_b b
 unfold corncriblaw02_made.f
 rw [if_pos (by omega), Int.toNat_natCast, Int.toNat_natCast]
theorem mul_f {n m p : Nat} {s t : ByteArray} (h1 : okM n m s) (h2 : okM m p t) : matrix_Mul.f n m s m p t = some ((n : Int), (p : Int), cellsOf n p (toI (mm m (entN m s) (entN p t))), 0) := by
 unfold matrix_Mul.f mulV
 rw [if_pos ⟨h1, h2, rfl⟩]
 simp only [Int.toNat_natCast]
theorem pick_f {n m : Nat} {s : ByteArray} (h : okM n m s) {l : List Int} (ha : ∀ x, x ∈ l → 0 ≤ x ∧ x < n) (h1 : l ≠ []) (h2 : l.length ≤ 255) : matrix_Pick.f n m s l = some ((l.length : Int), (m : Int), cellsOf l.length m (pickF m s l), 0) := by
 unfold matrix_Pick.f pickV
 rw [if_pos h, if_neg (fun ⟨x, hx, hb⟩ => by have := ha x hx; omega), if_neg (by omega), if_neg h1, Int.toNat_natCast]
theorem getD_mem {l : List Int} {i : Nat} (h : i < l.length) : l.getD i 0 ∈ l := by
 rw [List.getD_eq_getElem?_getD, List.getElem?_eq_getElem h]; exact List.getElem_mem h
/-- What is picked, entry by entry. -/
theorem ent_pick {n m : Nat} {s : ByteArray} {l : List Int} {i j : Nat} (hi : i < l.length) (hj : j < m) : entN m (cellsOf l.length m (pickF m s l)) i j = entN m s (l.getD i 0).toNat j := by
 rw [ent_cells (fun i j _ _ => by unfold pickF; exact byte_bt s _) hi hj]
 rfl
/-- Of squares: a product with an inverse. -/
theorem inv_f {n : Nat} {s : ByteArray} (h : okM n n s) :
  (matrix_Inverse.f n n s = some (0, 0, ⟨#[]⟩, 20) ∧ ∃ v : Nat → Nat, (∀ j, v j < 256) ∧ (∃ j, j < n ∧ v j ≠ 0) ∧ ∀ i, i < n → xs n (fun j => mulN (entN n s i j) (v j)) = 0) ∨
  ∃ R : Mx, By2 R ∧ matrix_Inverse.f n n s = some ((n : Int), (n : Int), cellsOf n n (toI R), 0) ∧ (∀ i j, i < n → j < n → mm n R (entN n s) i j = Ix i j) ∧ (∀ i j, i < n → j < n → mm n (entN n s) R i j = Ix i j) := by
 unfold matrix_Inverse.f invV
 rw [if_pos ⟨h, rfl⟩]
 simp only [Int.toNat_natCast]
 rcases gauss (n := n) (entN_by n s) with ⟨q, hq, hb, h1, h2⟩ | ⟨hq, hv⟩
 ·right
  exact ⟨q.2, hb, by rw [hq], h1, h2⟩
 ·left
  exact ⟨by rw [hq]; rfl, hv⟩
end Go.Proofs.Ytoghhpkmficnmaa.Al
