/- One function of the program comes to what its plain twin says. This text began as the kit's own print (print.py, made by cprint.sh) and was turned by split.py: it is no printed file. -/
import Derived.Test.YtoghhpkmficnmaaPac
namespace Go.Proofs.Ytoghhpkmficnmaa.Al
open Go.RowKit Go.Proofs.YtoghhpkmficnmaaW.PrintWords Go.Proofs.YtoghhpkmficnmaaW.PrintLast Go.Proofs.YtoghhpkmficnmaaW.PrintMore
attribute [local go_sem] max2_int min2_int max_two min_two max_three min_three max_four min_four   -- for this text's walks alone
set_option linter.unusedVariables false
set_option linter.unusedSimpArgs false

/-! ### corncriblaw02_MatrixAny: function 9 -/
mutual
def corncriblaw02_MatrixAny.l0 : Nat → Int → List Int → List Int → Int → Int → Int → Int → ByteArray → Option (Bool)
  | 0, _, _, _, _, _, _, _, _ => none
  | k + 1, x0, x2, x9, x35, x36, x360000, x360001, x360002 => if x36 < x35 then (if x9.length < 17592186044416 then (corncriblaw02_MatrixAny.l0 k x0 x2 (x9 ++ [x36]) x35 (wrap64 (x36 + 1)) x360000 x360001 x360002) else (none)) else (corncriblaw02_MatrixAny.l1 k x0 x2 x9 0 x360000 x360001 x360002)
def corncriblaw02_MatrixAny.l1 : Nat → Int → List Int → List Int → Int → Int → Int → ByteArray → Option (Bool)
  | 0, _, _, _, _, _, _, _ => none
  | k + 1, x0, x2, x9, x11, x360000, x360001, x360002 => if (x9.length : Int) > x0 then (if x11 < (x2.length : Int) then (if 0 ≤ x11 then (if (IntKind.u64.wrap ((x9.length : Int))) = 0 then (none) else ((some (([] : List Int) : List Int)).bind fun y364 => (if 0 ≤ (wrap64 (Int.tmod (IntKind.u64.wrap (rd x2 x11)) (IntKind.u64.wrap ((x9.length : Int))))) then (if (wrap64 (Int.tmod (IntKind.u64.wrap (rd x2 x11)) (IntKind.u64.wrap ((x9.length : Int))))) ≤ (x9.length : Int) then ((some (x9.take ((wrap64 (Int.tmod (IntKind.u64.wrap (rd x2 x11)) (IntKind.u64.wrap ((x9.length : Int))))) : Int).toNat : List Int)).bind fun y367 => (if y364.length + y367.length < 17592186044416 then ((some (y364 ++ y367 : List Int)).bind fun y371 => (if 0 ≤ (wrap64 ((wrap64 (Int.tmod (IntKind.u64.wrap (rd x2 x11)) (IntKind.u64.wrap ((x9.length : Int))))) + 1)) then (if (wrap64 ((wrap64 (Int.tmod (IntKind.u64.wrap (rd x2 x11)) (IntKind.u64.wrap ((x9.length : Int))))) + 1)) ≤ (x9.length : Int) then ((some (x9.drop ((wrap64 ((wrap64 (Int.tmod (IntKind.u64.wrap (rd x2 x11)) (IntKind.u64.wrap ((x9.length : Int))))) + 1)) : Int).toNat : List Int)).bind fun y374 => (if y371.length + y374.length < 17592186044416 then (corncriblaw02_MatrixAny.l1 k x0 x2 (y371 ++ y374) (wrap64 (x11 + 1)) x360000 x360001 x360002) else (none))) else (none)) else (none))) else (none))) else (none)) else (none)))) else (none)) else ((some (([] : List Int) : List Int)).bind fun y381 => (if 0 ≤ (x9.length : Int) then ((some (x9.take 0 : List Int)).bind fun y384 => (if y381.length + y384.length < 17592186044416 then ((some (y381 ++ y384 : List Int)).bind fun y388 => (if 0 ≤ (0 + 1 : Int) then (if (0 + 1 : Int) ≤ (x9.length : Int) then ((some (x9.drop ((0 + 1) : Int).toNat : List Int)).bind fun y391 => (if y388.length + y391.length < 17592186044416 then (corncriblaw02_MatrixAny.l1 k x0 x2 (y388 ++ y391) (wrap64 (x11 + 1)) x360000 x360001 x360002) else (none))) else (none)) else (none))) else (none))) else (none)))) else ((matrix_Pick.f x360000 x360001 x360002 x9).bind fun bt398 => ((matrix_Inverse.f bt398.1 bt398.2.1 bt398.2.2.1).bind fun bt403 => (if bt398.2.2.2 = 0 then (some (bt403.2.2.2 == 0)) else (some false))))
end
def corncriblaw02_MatrixAny.f (k : Nat) (a0 : Int) (a1 : Int) (l2 : List Int) : Option (Bool) := (corncriblaw02_works.f).bind fun t353 => (if t353 = true then ((corncriblaw02_side.f a0).bind fun t354 => ((matrix_Generator.f t354 (wrap64 (Int.tmod (IntKind.u64.wrap (a1)) 8))).bind fun bt355 => (if bt355.2.2.2 = 0 then (corncriblaw02_MatrixAny.l0 k t354 l2 ([] : List Int) (wrap64 (t354 + (wrap64 (Int.tmod (IntKind.u64.wrap (a1)) 8)))) 0 bt355.1 bt355.2.1 bt355.2.2.1) else (some false)))) else (some false))
theorem corncriblaw02_MatrixAny.mono_l : ∀ k, (∀ y0 y1 y2 y3 y4 y5 y6 y7, LeO (corncriblaw02_MatrixAny.l0 k y0 y1 y2 y3 y4 y5 y6 y7) (corncriblaw02_MatrixAny.l0 (k + 1) y0 y1 y2 y3 y4 y5 y6 y7)) ∧ (∀ y0 y1 y2 y3 y4 y5 y6, LeO (corncriblaw02_MatrixAny.l1 k y0 y1 y2 y3 y4 y5 y6) (corncriblaw02_MatrixAny.l1 (k + 1) y0 y1 y2 y3 y4 y5 y6))
  | 0 => ⟨fun _ _ _ _ _ _ _ _ r h => by simp [corncriblaw02_MatrixAny.l0] at h, fun _ _ _ _ _ _ _ r h => by simp [corncriblaw02_MatrixAny.l1] at h⟩
  | k + 1 => by
    obtain ⟨ih0, ih1⟩ := corncriblaw02_MatrixAny.mono_l k
    refine ⟨?_, ?_⟩
    · intro y0 y1 y2 y3 y4 y5 y6 y7
      unfold corncriblaw02_MatrixAny.l0
      repeat' first
      | (with_reducible exact ih0 _ _ _ _ _ _ _ _)
      | (with_reducible exact ih1 _ _ _ _ _ _ _)
      | (with_reducible exact LeO.refl _)
      | (with_reducible exact LeO.none _)
      | (with_reducible refine LeO.ite ?_ ?_)
      | (with_reducible refine LeO.bind ?_ (fun _ => ?_))
      | exact ih0 _ _ _ _ _ _ _ _
      | exact ih1 _ _ _ _ _ _ _
      | exact LeO.none _
      | refine LeO.ite ?_ ?_
      | refine LeO.bind ?_ (fun _ => ?_)
    · intro y0 y1 y2 y3 y4 y5 y6
      unfold corncriblaw02_MatrixAny.l1
      repeat' first
      | (with_reducible exact ih0 _ _ _ _ _ _ _ _)
      | (with_reducible exact ih1 _ _ _ _ _ _ _)
      | (with_reducible exact LeO.refl _)
      | (with_reducible exact LeO.none _)
      | (with_reducible refine LeO.ite ?_ ?_)
      | (with_reducible refine LeO.bind ?_ (fun _ => ?_))
      | exact ih0 _ _ _ _ _ _ _ _
      | exact ih1 _ _ _ _ _ _ _
      | exact LeO.none _
      | refine LeO.ite ?_ ?_
      | refine LeO.bind ?_ (fun _ => ?_)
theorem corncriblaw02_MatrixAny.mono : ∀ a0 a1 a2 k, LeO (corncriblaw02_MatrixAny.f k a0 a1 a2) (corncriblaw02_MatrixAny.f (k + 1) a0 a1 a2) := by
  intro a0 a1 a2 k
  obtain ⟨ih0, ih1⟩ := corncriblaw02_MatrixAny.mono_l k
  unfold corncriblaw02_MatrixAny.f
  repeat' first
      | (with_reducible exact ih0 _ _ _ _ _ _ _ _)
      | (with_reducible exact ih1 _ _ _ _ _ _ _)
      | (with_reducible exact LeO.refl _)
      | (with_reducible exact LeO.none _)
      | (with_reducible refine LeO.ite ?_ ?_)
      | (with_reducible refine LeO.bind ?_ (fun _ => ?_))
      | exact ih0 _ _ _ _ _ _ _ _
      | exact ih1 _ _ _ _ _ _ _
      | exact LeO.none _
      | refine LeO.ite ?_ ?_
      | refine LeO.bind ?_ (fun _ => ?_)
def corncriblaw02_MatrixAny.T19 : Bool × List (List Nat × List Nat) := (true, [([], []), ([], []), ([], []), ([1, 2], [1, 2]), ([0, 3], [0, 3]), ([], []), ([], []), ([6], [6]), ([5, 7], [5, 7]), ([4, 8, 4], [4, 8]), ([9, 9, 0, 1, 2, 3, 4, 5, 6, 7, 8, 9], [1, 5, 9])])
def corncriblaw02_MatrixAny.B19 : List Nat := [0, 0, 0, 6, 15, 0, 0, 64, 224, 511, 1023]
theorem corncriblaw02_MatrixAny.tab19 : rtab .any (opsOf Try.f9 19) = corncriblaw02_MatrixAny.T19 := by kernel_rfl
theorem corncriblaw02_MatrixAny.bits19 : waitsOk corncriblaw02_MatrixAny.T19.2 corncriblaw02_MatrixAny.B19 = true := by kernel_rfl
set_option maxHeartbeats 8000000 in
set_option maxRecDepth 100000 in
theorem corncriblaw02_MatrixAny.calls (k : Nat) (a0 : Int) (a1 : Int) (A2 : Option Addr) (c2 : Nat) (l2 : List Int) (r : Bool) (w : World) (hr2 : Kd.C (Kd.int .i64) w A2 l2.length l2) (hc2 : l2.length ≤ c2) (h : corncriblaw02_MatrixAny.f k a0 a1 l2 = some r) (hr_ : r = true) :
    Calls Try.prog 9 #[.int .i64 a0, .int .i64 a1, .slice A2 l2.length c2] w fun e w' => e = .returned (.bool r) ∧ Below w.heap.size w w' := by
  have HRT := Aside0.mk hr_
  clear hr_
  have hu24 := Try.underlying24
  have HR2 := Aside0.mk hr2
  have HC2 := Aside0.mk hc2
  clear hr2 hc2
  have HB := Aside0.mk (Below.refl w.heap.size w)
  have H : ((corncriblaw02_works.f).bind fun t353 => (if t353 = true then ((corncriblaw02_side.f a0).bind fun t354 => ((matrix_Generator.f t354 (wrap64 (Int.tmod (IntKind.u64.wrap (a1)) 8))).bind fun bt355 => (if bt355.2.2.2 = 0 then (corncriblaw02_MatrixAny.l0 k t354 l2 ([] : List Int) (wrap64 (t354 + (wrap64 (Int.tmod (IntKind.u64.wrap (a1)) 8)))) 0 bt355.1 bt355.2.1 bt355.2.2.1) else (some false)))) else (some false))) = some r := h
  clear h
  replace H := Option.bind_eq_some_iff.mp H
  obtain ⟨t353, A40, H⟩ := H
  replace H : (if t353 = true then ((corncriblaw02_side.f a0).bind fun t354 => ((matrix_Generator.f t354 (wrap64 (Int.tmod (IntKind.u64.wrap (a1)) 8))).bind fun bt355 => (if bt355.2.2.2 = 0 then (corncriblaw02_MatrixAny.l0 k t354 l2 ([] : List Int) (wrap64 (t354 + (wrap64 (Int.tmod (IntKind.u64.wrap (a1)) 8)))) 0 bt355.1 bt355.2.1 bt355.2.2.1) else (some false)))) else (some false)) = some r := H
  have A4 := Aside0.mk A40
  clear A40
  by_cases c5 : t353 = true
  · subst c5
    have H1 : ((corncriblaw02_side.f a0).bind fun t354 => ((matrix_Generator.f t354 (wrap64 (Int.tmod (IntKind.u64.wrap (a1)) 8))).bind fun bt355 => (if bt355.2.2.2 = 0 then (corncriblaw02_MatrixAny.l0 k t354 l2 ([] : List Int) (wrap64 (t354 + (wrap64 (Int.tmod (IntKind.u64.wrap (a1)) 8)))) 0 bt355.1 bt355.2.1 bt355.2.2.1) else (some false)))) = some r := by rw [if_pos rfl] at H; exact H
    clear H
    have H := H1
    clear H1
    replace H := Option.bind_eq_some_iff.mp H
    obtain ⟨t354, A60, H⟩ := H
    replace H : ((matrix_Generator.f t354 (wrap64 (Int.tmod (IntKind.u64.wrap (a1)) 8))).bind fun bt355 => (if bt355.2.2.2 = 0 then (corncriblaw02_MatrixAny.l0 k t354 l2 ([] : List Int) (wrap64 (t354 + (wrap64 (Int.tmod (IntKind.u64.wrap (a1)) 8)))) 0 bt355.1 bt355.2.1 bt355.2.2.1) else (some false))) = some r := H
    have A6 := Aside0.mk A60
    clear A60
    replace H := Option.bind_eq_some_iff.mp H
    obtain ⟨⟨t355, t356, t357, t358⟩, A70, H⟩ := H
    replace H : (if t358 = 0 then (corncriblaw02_MatrixAny.l0 k t354 l2 ([] : List Int) (wrap64 (t354 + (wrap64 (Int.tmod (IntKind.u64.wrap (a1)) 8)))) 0 t355 t356 t357) else (some false)) = some r := H
    have A7 := Aside0.mk A70
    clear A70
    by_cases c8 : t358 = 0
    · rw [if_pos c8] at H
      have c8b0 : (t358 == 0) = true := beq_iff_eq.mpr c8
      have c8b1 : (t358 != 0) = false := bne_eq_false_iff_eq.mpr c8
      clear c8
      have H' := Aside0.mk H
      clear H
      go_enter Try.func9, Try.ntmps9
      go_wp2_with (first | ((with_reducible refine gate_callee (f := 11) rfl ?_); refine goesL_ (some 17) rfl rfl Try.func11 (by kernel_rfl) rfl #[] rfl (by (try simp only [List.map_toArray, List.map_cons, List.map_nil]); first | done | rfl | (simp only [List.length_drop, List.length_take]; rfl)) ?_; (with_reducible refine (corncriblaw02_works.calls  true _ A4.out).mono ?_); rintro e w9 ⟨rfl, hb⟩; refine ⟨_, rfl, ?_⟩; have n0_ := Aside0.mk (below_step (by repeat (first | (with_reducible first | exact HB.out | apply below_alloc | apply pw_below_drewN | apply below_drew1) | exact HB.out)) hb); clear HB; have HB := n0_; clear n0_; (try clear hb); (try clear hb2); (try clear hk); (try clear hi)) | ((with_reducible refine gate_callee (f := 24) rfl ?_); refine goesL_ (some 20) rfl rfl Try.func24 (by kernel_rfl) rfl #[.int .i64 a0] rfl (by (try simp only [List.map_toArray, List.map_cons, List.map_nil]); first | done | rfl | (simp only [List.length_drop, List.length_take]; rfl)) ?_; (with_reducible refine (corncriblaw02_side.calls a0 t354 _ A6.out).mono ?_); rintro e w' ⟨rfl, ⟨nd, rfl⟩⟩; refine ⟨_, rfl, ?_⟩; (try (rw [drewN_self w9]; generalize hq_ : World.drewN w9 _ = w9; have n0_ : Aside0 (Below w.heap.size w w9) := ⟨by rw [← hq_]; exact (by repeat (first | (with_reducible first | exact HB.out | apply below_alloc | apply pw_below_drewN | apply below_drew1) | exact HB.out))⟩; clear HB hq_; have HB := n0_; clear n0_))) | ((with_reducible refine gate_callee (f := 12) rfl ?_); refine goesL_ (some 28) rfl rfl Try.func12 (by kernel_rfl) rfl #[.int .i64 t354, .int .i64 (wrap64 (Int.tmod (IntKind.u64.wrap (a1)) 8))] rfl (by (try simp only [List.map_toArray, List.map_cons, List.map_nil]); first | done | rfl | (simp only [List.length_drop, List.length_take]; rfl)) ?_; (with_reducible refine (matrix_Generator.calls t354 (wrap64 (Int.tmod (IntKind.u64.wrap (a1)) 8)) t355 t356 t357 t358 _ A7.out).mono ?_); rintro e w10 ⟨rfl, hb⟩; refine ⟨_, rfl, ?_⟩; have n0_ := Aside0.mk (below_step (by repeat (first | (with_reducible first | exact HB.out | apply below_alloc | apply pw_below_drewN | apply below_drew1) | exact HB.out)) hb); clear HB; have HB := n0_; clear n0_; (try clear hb); (try clear hb2); (try clear hk); (try clear hi)) | ((with_reducible refine gate_dst (N := 7) rfl ?_); refine box_event ?hg (N := 7) ?hd (cs := #[.int .i64 0, .int .i64 0, .string (⟨#[]⟩ : ByteArray)]) (t := 24) ?hr ?_; (case hd => rfl); (case hg => rfl); (case hr => first | (go_simp; done) | (go_simp; rfl)); intro gb359 hg w11 hbox hb; have n0_ := Aside0.mk (below_step (by repeat (first | (with_reducible first | exact HB.out | apply below_alloc | apply pw_below_drewN | apply below_drew1) | exact HB.out)) hb); have n1_ := Aside0.mk (hbox); have n2_ := Aside0.mk ((by rw [hg]; exact (below_size (by repeat (first | (with_reducible first | exact HB.out | apply below_alloc | apply pw_below_drewN | apply below_drew1) | exact HB.out))) : w.heap.size ≤ gb359)); have n3_ := Aside0.mk ((by rw [hg]; exact (below_size (by repeat (first | (with_reducible first | exact HB.out | apply below_alloc | apply pw_below_drewN | apply below_drew1) | exact HB.out))) : w.heap.size ≤ gb359)); clear HB; have HB := n0_; have BK359 := n1_; have GW359 := n2_; have GE359 := n3_; clear n0_ n1_ n2_ n3_; clear hb hbox hg; have hcz12_0 : w11.cell? ⟨gb359, 0, none⟩ = some (.int .i64 0) := (blk_cell BK359.out 0).trans rfl; have hcz12_1 : w11.cell? ⟨gb359, 1, none⟩ = some (.int .i64 0) := (blk_cell BK359.out 1).trans rfl; have hcz12_2 : w11.cell? ⟨gb359, 2, none⟩ = some (.string (⟨#[]⟩ : ByteArray)) := (blk_cell BK359.out 2).trans rfl; have hfz12_0 := blk_frozen BK359.out 0; have hfz12_1 := blk_frozen BK359.out 1; have hfz12_2 := blk_frozen BK359.out 2))
      go_loopg [9, 36] k (fun kq v9 v36 w' => ∃ (x9_1 : List Int) (x36_1 : Int), v36 = .int .i64 x36_1 ∧ Aside0 (corncriblaw02_MatrixAny.l0 kq t354 l2 x9_1 (wrap64 (t354 + (wrap64 (Int.tmod (IntKind.u64.wrap (a1)) 8)))) x36_1 t355 t356 t357 = some r) ∧ Aside0 (kq ≤ k) ∧ Aside0 (Kd.R (Kd.int .i64) 3 w' w.heap.size (fun _ => True) v9 x9_1) ∧ Aside0 (w'.heap[gb359]? = some (.cells #[.int .i64 t355, .int .i64 t356, .string t357] 24 (0, 0))) ∧ Aside0 (Below w.heap.size w w'))
      case atStart => exact ⟨(([] : List Int)), (0), (by first | rfl | (simp; done) | (simp [*]; done)), H', ⟨Nat.le_refl _⟩, ⟨by first | exact Kd.R_nil _ _ _ _ _ | exact Kd.N_nil _ _ _ _ _ | exact Kd.V_nil _ _ _ _ _ | exact Kd.Q_nil _ _ _ _ _ | exact Kd.S_nil _ _ _ _ _⟩, ⟨by (with_reducible repeat (first | refine blk_drewN ?_ _ | refine blk_drew ?_ | refine blk_alloc ?_ _)); refine blk_put (cs := #[.int .i64 t355, .int .i64 t356, .string (⟨#[]⟩ : ByteArray)]) ?_ 2 _ rfl; (with_reducible repeat (first | refine blk_drewN ?_ _ | refine blk_drew ?_ | refine blk_alloc ?_ _)); refine blk_put (cs := #[.int .i64 t355, .int .i64 0, .string (⟨#[]⟩ : ByteArray)]) ?_ 1 _ rfl; (with_reducible repeat (first | refine blk_drewN ?_ _ | refine blk_drew ?_ | refine blk_alloc ?_ _)); refine blk_put (cs := #[.int .i64 0, .int .i64 0, .string (⟨#[]⟩ : ByteArray)]) ?_ 0 _ rfl; (with_reducible repeat (first | refine blk_drewN ?_ _ | refine blk_drew ?_ | refine blk_alloc ?_ _)); exact BK359.out⟩, ⟨by repeat (first | (with_reducible first | exact HB.out | apply below_alloc | apply pw_below_drewN | apply below_drew1 | refine below_set ?_ GE359.out) | exact HB.out)⟩⟩
      case round =>
        clear H'
        try clear c1
        try clear c2
        try clear p2
        try clear c5
        try clear p6
        try clear c8
        try clear c8b0
        try clear c8b1
        try clear c9
        try clear c11
        try clear c12
        try clear hcz12_0
        try clear hcz12_1
        try clear hcz12_2
        try clear hfz12_0
        try clear hfz12_1
        try clear hfz12_2
        obtain ⟨x9_1, x36_1, rfl, HA, HK1, HO_9, BK359, HB⟩ := hrel
        cases gk with
        | zero => exact absurd HA.out (by simp [corncriblaw02_MatrixAny.l0])
        | succ k1 =>
          have H := HA.out
          clear HA
          simp only [corncriblaw02_MatrixAny.l0] at H
          by_cases c13 : x36_1 < (wrap64 (t354 + (wrap64 (Int.tmod (IntKind.u64.wrap (a1)) 8))))
          · rw [if_pos c13] at H
            have c13b0 : decide (x36_1 < (wrap64 (t354 + (wrap64 (Int.tmod (IntKind.u64.wrap (a1)) 8))))) = true := decide_eq_true c13
            clear c13
            by_cases c14 : x9_1.length < 17592186044416
            · rw [if_pos c14] at H
              have LMc14 := Aside0.mk c14
              clear c14
              obtain ⟨y360, hy360⟩ : ∃ y_ : List Int, y_ = (x9_1 ++ [x36_1]) := ⟨_, rfl⟩
              replace H : (corncriblaw02_MatrixAny.l0 k1 t354 l2 y360 (wrap64 (t354 + (wrap64 (Int.tmod (IntKind.u64.wrap (a1)) 8)))) (wrap64 (x36_1 + 1)) t355 t356 t357) = some r := by first | (rw [hy360]; with_reducible exact H) | (have H2_ := (Option.bind_some _ _).symm.trans H; rw [hy360]; with_reducible exact H2_) | (have H2_ := (Option.bind_some _ _).symm.trans H; with_reducible exact H2_) | with_reducible exact H | (rw [hy360]; exact H) | exact H
              have Ny360 := Aside0.mk hy360
              clear hy360
              have H' := Aside0.mk H
              clear H
              go_wp2_with (first | ((with_reducible refine gate_builtin (b := .append) (xs := #[.tmp 39, .tmp 41]) rfl ?_); at_builtin; refine Kd.R_append (Kd.int .i64) (w0 := w) w.heap.size rfl (.tmp 39) (.tmp 41) 29 3 (.int .i64 0) 8 rfl Try.underlying29 info3 rfl (by decide) (by omega) u9 x9_1 x36_1 [.int .i64 x36_1] (fun _ => True) (fun _ => False) rfl rfl ?aP (fun _ hk => hk.elim) ?aF ?aO ?aB ?aS ?aL ?_; (case aP => exact rfl); (case aB => exact (by repeat (first | (with_reducible first | exact HB.out | apply below_alloc | apply pw_below_drewN | apply below_drew1 | refine below_set ?_ GE359.out) | exact HB.out))); (case aF => exact (fun _ _ => trivial)); (case aO => exact (by (with_reducible repeat (first | apply Kd.R_alloc | apply Kd.R_drewN | apply Kd.R_drew)); exact HO_9.out)); (case aS => exact (below_size (by repeat (first | (with_reducible first | exact HB.out | apply below_alloc | apply pw_below_drewN | apply below_drew1 | refine below_set ?_ GE359.out) | exact HB.out)))); (case aL => have := LMc14.out; omega); intro v361 w15 ho hb hg hat; rw [← Ny360.out] at ho; have n0_ := Aside0.mk (blk_grown (g := gb359) (o := .cells #[.int .i64 t355, .int .i64 t356, .string t357] 24 (0, 0)) (by (with_reducible repeat (first | refine blk_drewN ?_ _ | refine blk_drew ?_ | refine blk_alloc ?_ _)); exact BK359.out) hg (Kd.R_ne HO_9.out BK359.out (by decide))); have n1_ := Aside0.mk (hb); have n2_ := Aside0.mk (ho); clear BK359; clear HB; clear HO_9; have BK359 := n0_; have HB := n1_; have HO362 := n2_; clear n0_ n1_ n2_; clear ho hb hg hat))
              go_roundg k1
              case measure => have := HK1.out; omega
              case rel => exact ⟨(y360), (wrap64 (x36_1 + 1)), (by first | rfl | (simp; done) | (simp [*]; done)), H', ⟨by have := HK1.out; omega⟩, ⟨by (with_reducible repeat (first | apply Kd.R_alloc | apply Kd.R_drewN | apply Kd.R_drew)); exact HO362.out⟩, ⟨by (with_reducible repeat (first | refine blk_drewN ?_ _ | refine blk_drew ?_ | refine blk_alloc ?_ _)); exact BK359.out⟩, ⟨by repeat (first | (with_reducible first | exact HB.out | apply below_alloc | apply pw_below_drewN | apply below_drew1 | refine below_set ?_ GE359.out) | exact HB.out)⟩⟩
            · rw [if_neg c14] at H
              exact absurd H (by simp)
          · rw [if_neg c13] at H
            have c13b0 : decide (x36_1 < (wrap64 (t354 + (wrap64 (Int.tmod (IntKind.u64.wrap (a1)) 8))))) = false := decide_eq_false c13
            clear c13
            have H' := Aside0.mk H
            clear H
            go_wp2
            go_loopg [9, 11] k1 (fun kq v9 v11 w' => ∃ (x9_2 : List Int) (x11_2 : Int), v11 = .int .i64 x11_2 ∧ Aside0 (corncriblaw02_MatrixAny.l1 kq t354 l2 x9_2 x11_2 t355 t356 t357 = some r) ∧ Aside0 (kq ≤ k1) ∧ Aside0 (Kd.R (Kd.int .i64) 3 w' w.heap.size (fun _ => True) v9 x9_2) ∧ Aside0 (w'.heap[gb359]? = some (.cells #[.int .i64 t355, .int .i64 t356, .string t357] 24 (0, 0))) ∧ Aside0 (Below w.heap.size w w'))
            case atStart => exact ⟨(x9_1), (0), (by first | rfl | (simp; done) | (simp [*]; done)), H', ⟨Nat.le_refl _⟩, ⟨by (with_reducible repeat (first | apply Kd.R_alloc | apply Kd.R_drewN | apply Kd.R_drew)); exact HO_9.out⟩, ⟨by (with_reducible repeat (first | refine blk_drewN ?_ _ | refine blk_drew ?_ | refine blk_alloc ?_ _)); exact BK359.out⟩, ⟨by repeat (first | (with_reducible first | exact HB.out | apply below_alloc | apply pw_below_drewN | apply below_drew1 | refine below_set ?_ GE359.out) | exact HB.out)⟩⟩
            case round =>
              clear H'
              try clear c1
              try clear c2
              try clear p2
              try clear c5
              try clear p6
              try clear c8
              try clear c8b0
              try clear c8b1
              try clear c9
              try clear c11
              try clear c12
              try clear c13
              try clear c13b0
              try clear c14
              try clear hcz12_0
              try clear hcz12_1
              try clear hcz12_2
              try clear hfz12_0
              try clear hfz12_1
              try clear hfz12_2
              try clear p2
              try clear p6
              obtain ⟨x9_2, x11_2, rfl, HA, HK2, HO_9, BK359, HB⟩ := hrel
              cases gk with
              | zero => exact absurd HA.out (by simp [corncriblaw02_MatrixAny.l1])
              | succ k2 =>
                have H := HA.out
                clear HA
                simp only [corncriblaw02_MatrixAny.l1] at H
                by_cases c16 : (x9_2.length : Int) > t354
                · rw [if_pos c16] at H
                  have c16b0 : decide (t354 < (x9_2.length : Int)) = true := decide_eq_true c16
                  clear c16
                  by_cases c17 : x11_2 < (l2.length : Int)
                  · rw [if_pos c17] at H
                    have c17b0 : decide (x11_2 < (l2.length : Int)) = true := decide_eq_true c17
                    clear c17
                    by_cases c18 : 0 ≤ x11_2
                    · rw [if_pos c18] at H
                      have c18b0 : decide (0 ≤ x11_2) = true := decide_eq_true c18
                      clear c18
                      by_cases c19 : (IntKind.u64.wrap ((x9_2.length : Int))) = 0
                      · rw [if_pos c19] at H
                        exact absurd H (by simp)
                      · rw [if_neg c19] at H
                        have c19b0 : ((IntKind.u64.wrap ((x9_2.length : Int))) == 0) = false := beq_eq_false_iff_ne.mpr c19
                        have c19b1 : ((IntKind.u64.wrap ((x9_2.length : Int))) != 0) = true := bne_iff_ne.mpr c19
                        obtain ⟨y364, hy364⟩ : ∃ y_ : List Int, y_ = (([] : List Int)) := ⟨_, rfl⟩
                        replace H : (if 0 ≤ (wrap64 (Int.tmod (IntKind.u64.wrap (rd l2 x11_2)) (IntKind.u64.wrap ((x9_2.length : Int))))) then (if (wrap64 (Int.tmod (IntKind.u64.wrap (rd l2 x11_2)) (IntKind.u64.wrap ((x9_2.length : Int))))) ≤ (x9_2.length : Int) then ((some (x9_2.take ((wrap64 (Int.tmod (IntKind.u64.wrap (rd l2 x11_2)) (IntKind.u64.wrap ((x9_2.length : Int))))) : Int).toNat : List Int)).bind fun y367 => (if y364.length + y367.length < 17592186044416 then ((some (y364 ++ y367 : List Int)).bind fun y371 => (if 0 ≤ (wrap64 ((wrap64 (Int.tmod (IntKind.u64.wrap (rd l2 x11_2)) (IntKind.u64.wrap ((x9_2.length : Int))))) + 1)) then (if (wrap64 ((wrap64 (Int.tmod (IntKind.u64.wrap (rd l2 x11_2)) (IntKind.u64.wrap ((x9_2.length : Int))))) + 1)) ≤ (x9_2.length : Int) then ((some (x9_2.drop ((wrap64 ((wrap64 (Int.tmod (IntKind.u64.wrap (rd l2 x11_2)) (IntKind.u64.wrap ((x9_2.length : Int))))) + 1)) : Int).toNat : List Int)).bind fun y374 => (if y371.length + y374.length < 17592186044416 then (corncriblaw02_MatrixAny.l1 k2 t354 l2 (y371 ++ y374) (wrap64 (x11_2 + 1)) t355 t356 t357) else (none))) else (none)) else (none))) else (none))) else (none)) else (none)) = some r := by first | (rw [hy364]; with_reducible exact H) | (have H2_ := (Option.bind_some _ _).symm.trans H; rw [hy364]; with_reducible exact H2_) | (have H2_ := (Option.bind_some _ _).symm.trans H; with_reducible exact H2_) | with_reducible exact H | (rw [hy364]; exact H) | exact H
                        have Ny364 := Aside0.mk hy364
                        clear hy364
                        obtain ⟨ji20, hji20⟩ : ∃ j_ : Int, (wrap64 (Int.tmod (IntKind.u64.wrap (rd l2 x11_2)) (IntKind.u64.wrap ((x9_2.length : Int))))) = j_ := ⟨_, rfl⟩
                        replace H : (if 0 ≤ (ji20) then (if (ji20) ≤ (x9_2.length : Int) then ((some (x9_2.take ((ji20) : Int).toNat : List Int)).bind fun y367 => (if y364.length + y367.length < 17592186044416 then ((some (y364 ++ y367 : List Int)).bind fun y371 => (if 0 ≤ (wrap64 ((ji20) + 1)) then (if (wrap64 ((ji20) + 1)) ≤ (x9_2.length : Int) then ((some (x9_2.drop ((wrap64 ((ji20) + 1)) : Int).toNat : List Int)).bind fun y374 => (if y371.length + y374.length < 17592186044416 then (corncriblaw02_MatrixAny.l1 k2 t354 l2 (y371 ++ y374) (wrap64 (x11_2 + 1)) t355 t356 t357) else (none))) else (none)) else (none))) else (none))) else (none)) else (none)) = some r := by first | (rw [hji20] at H; exact H) | (simp only [hji20] at H ⊢; exact H)
                        have hji20w : (IntKind.i64.wrap (Int.tmod (IntKind.u64.wrap (rd l2 x11_2)) (IntKind.u64.wrap ((x9_2.length : Int))))) = ji20 := (i64_w _).trans hji20
                        by_cases c21 : 0 ≤ (ji20)
                        · rw [if_pos c21] at H
                          have c21b0 := eq_true c21
                          have c21b1 : decide (0 ≤ (ji20)) = true := decide_eq_true c21
                          clear c21
                          by_cases c22 : (ji20) ≤ (x9_2.length : Int)
                          · rw [if_pos c22] at H
                            have c22b0 := eq_true c22
                            have c22b1 : decide ((ji20) ≤ (x9_2.length : Int)) = true := decide_eq_true c22
                            clear c22
                            obtain ⟨y367, hy367⟩ : ∃ y_ : List Int, y_ = (x9_2.take ((ji20) : Int).toNat) := ⟨_, rfl⟩
                            replace H : (if y364.length + y367.length < 17592186044416 then ((some (y364 ++ y367 : List Int)).bind fun y371 => (if 0 ≤ (wrap64 ((ji20) + 1)) then (if (wrap64 ((ji20) + 1)) ≤ (x9_2.length : Int) then ((some (x9_2.drop ((wrap64 ((ji20) + 1)) : Int).toNat : List Int)).bind fun y374 => (if y371.length + y374.length < 17592186044416 then (corncriblaw02_MatrixAny.l1 k2 t354 l2 (y371 ++ y374) (wrap64 (x11_2 + 1)) t355 t356 t357) else (none))) else (none)) else (none))) else (none)) = some r := by first | (rw [hy367]; with_reducible exact H) | (have H2_ := (Option.bind_some _ _).symm.trans H; rw [hy367]; with_reducible exact H2_) | (have H2_ := (Option.bind_some _ _).symm.trans H; with_reducible exact H2_) | with_reducible exact H | (rw [hy367]; exact H) | exact H
                            have Ny367 := Aside0.mk hy367
                            clear hy367
                            by_cases c23 : y364.length + y367.length < 17592186044416
                            · rw [if_pos c23] at H
                              have LMc23 := Aside0.mk c23
                              clear c23
                              obtain ⟨y371, hy371⟩ : ∃ y_ : List Int, y_ = (y364 ++ y367) := ⟨_, rfl⟩
                              replace H : (if 0 ≤ (wrap64 ((ji20) + 1)) then (if (wrap64 ((ji20) + 1)) ≤ (x9_2.length : Int) then ((some (x9_2.drop ((wrap64 ((ji20) + 1)) : Int).toNat : List Int)).bind fun y374 => (if y371.length + y374.length < 17592186044416 then (corncriblaw02_MatrixAny.l1 k2 t354 l2 (y371 ++ y374) (wrap64 (x11_2 + 1)) t355 t356 t357) else (none))) else (none)) else (none)) = some r := by first | (rw [hy371]; with_reducible exact H) | (have H2_ := (Option.bind_some _ _).symm.trans H; rw [hy371]; with_reducible exact H2_) | (have H2_ := (Option.bind_some _ _).symm.trans H; with_reducible exact H2_) | with_reducible exact H | (rw [hy371]; exact H) | exact H
                              have Ny371 := Aside0.mk hy371
                              clear hy371
                              obtain ⟨ji24, hji24⟩ : ∃ j_ : Int, (wrap64 ((ji20) + 1)) = j_ := ⟨_, rfl⟩
                              replace H : (if 0 ≤ (ji24) then (if (ji24) ≤ (x9_2.length : Int) then ((some (x9_2.drop ((ji24) : Int).toNat : List Int)).bind fun y374 => (if y371.length + y374.length < 17592186044416 then (corncriblaw02_MatrixAny.l1 k2 t354 l2 (y371 ++ y374) (wrap64 (x11_2 + 1)) t355 t356 t357) else (none))) else (none)) else (none)) = some r := by first | (rw [hji24] at H; exact H) | (simp only [hji24] at H ⊢; exact H)
                              have hji24w : (IntKind.i64.wrap ((ji20) + 1)) = ji24 := (i64_w _).trans hji24
                              by_cases c25 : 0 ≤ (ji24)
                              · rw [if_pos c25] at H
                                have c25b0 := eq_true c25
                                have c25b1 : decide (0 ≤ (ji24)) = true := decide_eq_true c25
                                clear c25
                                by_cases c26 : (ji24) ≤ (x9_2.length : Int)
                                · rw [if_pos c26] at H
                                  have c26b0 := eq_true c26
                                  have c26b1 : decide ((ji24) ≤ (x9_2.length : Int)) = true := decide_eq_true c26
                                  clear c26
                                  obtain ⟨y374, hy374⟩ : ∃ y_ : List Int, y_ = (x9_2.drop ((ji24) : Int).toNat) := ⟨_, rfl⟩
                                  replace H : (if y371.length + y374.length < 17592186044416 then (corncriblaw02_MatrixAny.l1 k2 t354 l2 (y371 ++ y374) (wrap64 (x11_2 + 1)) t355 t356 t357) else (none)) = some r := by first | (rw [hy374]; with_reducible exact H) | (have H2_ := (Option.bind_some _ _).symm.trans H; rw [hy374]; with_reducible exact H2_) | (have H2_ := (Option.bind_some _ _).symm.trans H; with_reducible exact H2_) | with_reducible exact H | (rw [hy374]; exact H) | exact H
                                  have Ny374 := Aside0.mk hy374
                                  clear hy374
                                  by_cases c27 : y371.length + y374.length < 17592186044416
                                  · rw [if_pos c27] at H
                                    have LMc27 := Aside0.mk c27
                                    clear c27
                                    obtain ⟨y378, hy378⟩ : ∃ y_ : List Int, y_ = (y371 ++ y374) := ⟨_, rfl⟩
                                    replace H : (corncriblaw02_MatrixAny.l1 k2 t354 l2 y378 (wrap64 (x11_2 + 1)) t355 t356 t357) = some r := by first | (rw [hy378]; with_reducible exact H) | (have H2_ := (Option.bind_some _ _).symm.trans H; rw [hy378]; with_reducible exact H2_) | (have H2_ := (Option.bind_some _ _).symm.trans H; with_reducible exact H2_) | with_reducible exact H | (rw [hy378]; exact H) | exact H
                                    have Ny378 := Aside0.mk hy378
                                    clear hy378
                                    have H' := Aside0.mk H
                                    clear H
                                    obtain ⟨Ao28, co28, eo28⟩ := Kd.R_slice HO_9.out
                                    subst eo28
                                    have p363 : 0 ≤ (x11_2 : Int) := of_decide_eq_true (by first | (with_reducible assumption) | assumption)
                                    have q363 : x11_2 < (l2.length : Int) := of_decide_eq_true (by first | (with_reducible assumption) | assumption)
                                    obtain ⟨ad363, e363, hx363_0⟩ := Kd.at_int HR2.out x11_2 p363 q363
                                    cases e363
                                    replace hx363_0 := (HB.out.cell (World.block_lt_of_cell? w _ hx363_0)).trans hx363_0
                                    replace p363 := eq_true p363
                                    replace q363 := eq_true q363
                                    try go_wp2
                                    have n0_ := Aside0.mk (Kd.R_drew HO_9.out)
                                    have n1_ := Aside0.mk (blk_drew BK359.out)
                                    have n2_ := Aside0.mk (below_drew1 HB.out)
                                    clear HO_9
                                    clear BK359
                                    clear HB
                                    have HO_9 := n0_
                                    have BK359 := n1_
                                    have HB := n2_
                                    clear n0_ n1_ n2_
                                    have q30 : ((ji20) : Int) ≤ ((x9_2.length : Int) : Int) := of_decide_eq_true (by first | (with_reducible assumption) | assumption)
                                    obtain ⟨i030, hi030, _, hsz30, _⟩ := info_parts info3
                                    have hroom30 : x9_2.length ≤ co28 := (Kd.R_reads' HO_9.out).2.1
                                    have hC30 : Kd.C (Kd.int .i64) _ Ao28 x9_2.length x9_2 := (Kd.R_reads' HO_9.out).2.2
                                    have hcut30 := cut_to (P := Try.prog) 29 3 .i64 Try.underlying29 hi030 Ao28 x9_2.length co28 (ji20) (of_decide_eq_true (by first | (with_reducible assumption) | assumption)) q30 hroom30
                                    have hr30 := Kd.C_take (m := ((ji20) : Int).toNat) hC30 (by omega)
                                    have hy30 : y367.length = ((ji20) : Int).toNat := (by rw [Ny367.out, List.length_take]; omega)
                                    rw [← Ny367.out] at hr30
                                    rw [← hy30] at hcut30
                                    have HR370 := Aside0.mk hr30
                                    have HC370 := Aside0.mk (show y367.length ≤ co28 from by omega)
                                    clear hr30 hC30 hroom30 hi030 hsz30
                                    have KY30 := Aside0.mk hy30
                                    clear hy30
                                    have KL30 := Aside0.mk (show ((ji20) : Int).toNat ≤ x9_2.length from by omega)
                                    replace q30 := eq_true q30
                                    have q31 : ((ji24) : Int) ≤ ((x9_2.length : Int) : Int) := of_decide_eq_true (by first | (with_reducible assumption) | assumption)
                                    obtain ⟨i031, hi031, _, hsz31, _⟩ := info_parts info3
                                    have hroom31 : x9_2.length ≤ co28 := (Kd.R_reads' HO_9.out).2.1
                                    have hC31 : Kd.C (Kd.int .i64) _ Ao28 x9_2.length x9_2 := (Kd.R_reads' HO_9.out).2.2
                                    have q031 : (0 : Int) ≤ ((ji24) : Int) := of_decide_eq_true (by first | (with_reducible assumption) | assumption)
                                    have hcut31 := cut_from (P := Try.prog) 29 3 .i64 Try.underlying29 hi031 1 hsz31 Ao28 x9_2.length co28 (ji24) q031 q31
                                    have hr31 := Kd.C_drop (m := ((ji24) : Int).toNat) (c := co28) hC31 (by omega) hroom31
                                    obtain ⟨A31, hA31⟩ : ∃ A1, A1 = (if co28 = ((ji24) : Int).toNat then Ao28 else (Ao28 : Option Addr).map (·.add (((ji24) : Int).toNat * 1))) := ⟨_, rfl⟩
                                    obtain ⟨c31, hc31⟩ : ∃ c1, c1 = co28 - ((ji24) : Int).toNat := ⟨_, rfl⟩
                                    have hy31 : y374.length = x9_2.length - ((ji24) : Int).toNat := (by rw [Ny374.out, List.length_drop] <;> omega)
                                    rw [show (x9_2).drop ((ji24) : Int).toNat = y374 from Ny374.out.symm] at hr31
                                    replace hr31 : Kd.C (Kd.int .i64) _ A31 y374.length y374 := (by rw [hA31]; exact hr31)
                                    rw [← hy31, ← hA31, ← hc31] at hcut31
                                    have HR377 := Aside0.mk hr31
                                    have HC377 := Aside0.mk (show y374.length ≤ c31 from by rw [hy31, hc31]; exact Nat.sub_le_sub_right hroom31 _)
                                    clear hr31 hC31 hroom31 hi031 hsz31 hc31
                                    have KY31 := Aside0.mk hy31
                                    have KA31 := Aside0.mk hA31
                                    clear hy31 hA31
                                    have KL31 := Aside0.mk (show ((ji24) : Int).toNat ≤ x9_2.length from by omega)
                                    replace q31 := eq_true q31
                                    refine start_ (n := 11) (S := fun w' => True) (ds := []) #[false, false, false, false, false, false, false, false, false, false, false] (by kernel_rfl) rfl rfl trivial (fun hHeld => ?_); refine with_tabW corncriblaw02_MatrixAny.tab19 corncriblaw02_MatrixAny.bits19 (fun HT_ HW_ => ?_)
                                    generalize wr.drew = w29 at HO_9 BK359 HB HR370 HR377 hHeld ⊢
                                    refine pure_ (i := 1) (N := some 65) (v := ?_) (a' := ?_) #[false, true, false, false, false, false, false, false, false, false, false] rfl rfl (any_of HT_.out (by kernel_rfl)) (fun _ _ _ h => h) (Or.inl ⟨by rfl, ?_⟩) ?_ ?_
                                    rotate_left
                                    · intro w'
                                      go_simp
                                      with_reducible rfl
                                    rotate_left
                                    · simp only [Act.put, List.setIfInBounds_toArray, List.set_cons_zero, List.set_cons_succ, i64_w, i32_w]
                                      rfl
                                    refine pure_ (i := 2) (N := some 66) (v := ?_) (a' := ?_) #[false, true, true, false, false, false, false, false, false, false, false] rfl rfl (any_of HT_.out (by kernel_rfl)) (fun _ _ _ h => h) (Or.inl ⟨by rfl, ?_⟩) ?_ ?_
                                    rotate_left
                                    · intro w'
                                      go_simp
                                      with_reducible rfl
                                    rotate_left
                                    · simp only [Act.put, List.setIfInBounds_toArray, List.set_cons_zero, List.set_cons_succ, i64_w, i32_w]
                                      rfl
                                    refine pure_ (i := 3) (N := some 67) (v := ?_) (a' := ?_) #[false, true, true, true, false, false, false, false, false, false, false] rfl rfl (any_of HT_.out (by kernel_rfl)) (fun _ _ _ h => h) (Or.inl ⟨by rfl, ?_⟩) ?_ ?_
                                    rotate_left
                                    · intro w'
                                      go_simp
                                      with_reducible rfl
                                    rotate_left
                                    · simp only [Act.put, List.setIfInBounds_toArray, List.set_cons_zero, List.set_cons_succ, i64_w, i32_w]
                                      rfl
                                    refine pure_ (i := 5) (N := some 69) (v := ?_) (a' := ?_) #[false, true, true, true, false, true, false, false, false, false, false] rfl rfl (any_of HT_.out (by kernel_rfl)) (fun _ _ _ h => h) (Or.inl ⟨by rfl, ?_⟩) ?_ ?_
                                    rotate_left
                                    · intro w'
                                      go_simp
                                      with_reducible rfl
                                    rotate_left
                                    · simp only [Act.put, List.setIfInBounds_toArray, List.set_cons_zero, List.set_cons_succ, i64_w, i32_w]
                                      rfl
                                    refine pure_ (i := 6) (N := some 70) (v := ?_) (a' := ?_) #[false, true, true, true, false, true, true, false, false, false, false] rfl rfl (any_of HT_.out (by kernel_rfl)) (fun _ _ _ h => h) (Or.inl ⟨by rfl, ?_⟩) ?_ ?_
                                    rotate_left
                                    · intro w'
                                      go_simp
                                      with_reducible rfl
                                    rotate_left
                                    · simp only [Act.put, List.setIfInBounds_toArray, List.set_cons_zero, List.set_cons_succ, i64_w, i32_w]
                                      rfl
                                    refine pure_ (i := 7) (N := some 71) (v := ?_) (a' := ?_) #[false, true, true, true, false, true, true, true, false, false, false] rfl rfl (any_of HT_.out (by kernel_rfl)) (fun _ _ _ h => h) (Or.inl ⟨by rfl, ?_⟩) ?_ ?_
                                    rotate_left
                                    · intro w'
                                      go_simp
                                      with_reducible rfl
                                    rotate_left
                                    · simp only [Act.put, List.setIfInBounds_toArray, List.set_cons_zero, List.set_cons_succ, i64_w, i32_w]
                                      rfl
                                    refine pure_ (i := 8) (N := some 72) (v := ?_) (a' := ?_) #[false, true, true, true, false, true, true, true, true, false, false] rfl rfl (any_of HT_.out (by kernel_rfl)) (fun _ _ _ h => h) (Or.inl ⟨by rfl, ?_⟩) ?_ ?_
                                    rotate_left
                                    · intro w'
                                      go_simp
                                      with_reducible rfl
                                    rotate_left
                                    · simp only [Act.put, List.setIfInBounds_toArray, List.set_cons_zero, List.set_cons_succ, i64_w, i32_w]
                                      rfl
                                    refine one_ (i := 0) (N := some 64) #[true, true, true, true, false, true, true, true, true, false, false] rfl rfl (one_of HT_.out (by kernel_rfl)) (by decide) (fun K hK => ?_)
                                    refine Kd.R_lit_step (Kd.int .i64) _ 3 ?hg (N := 64) ?hd (xs := ([] : List Int)) (inner := []) (ok := fun _ => True) (okp := fun _ => True) ?hr ?hp (fun _ hk => hk) trivial (Below.refl _ _) (Nat.le_refl _) (by simp) ?_; (case hd => rfl); (case hg => rfl); (case hr => first | (go_simp; done) | (go_simp; rfl)); (case hp => exact (Reps.none _ _))
                                    intro v365 w32 ho33 hb hg_ hnew_
                                    clear hg_ hnew_
                                    (first | rw [← Ny364.out] at ho33 | (simp only [Int.reduceToNat] at ho33; rw [← Ny364.out] at ho33))
                                    have n0_ := Aside0.mk (Kd.R_elder' (by (with_reducible repeat (first | apply Kd.R_alloc | apply Kd.R_drewN | apply Kd.R_drew)); exact HO_9.out) (Kd.R_base ho33) hb)
                                    have n1_ := Aside0.mk (Kd.R_lower (Kd.R_new' ho33 (Kd.R_lt (by (with_reducible repeat (first | apply Kd.R_alloc | apply Kd.R_drewN | apply Kd.R_drew)); exact HO_9.out))) (below_size (by repeat (first | (with_reducible first | exact HB.out | apply below_alloc | apply pw_below_drewN | apply below_drew1 | refine below_set ?_ GE359.out) | exact HB.out))))
                                    have n2_ := Aside0.mk (blk_below (g := gb359) (o := .cells #[.int .i64 t355, .int .i64 t356, .string t357] 24 (0, 0)) (by (with_reducible repeat (first | refine blk_drewN ?_ _ | refine blk_drew ?_ | refine blk_alloc ?_ _)); exact BK359.out) hb)
                                    have n3_ := Aside0.mk (Kd.C_below (by repeat (first | (with_reducible exact HR370.out) | (with_reducible refine Kd.C_alloc ?_ _) | (with_reducible refine Kd.C_drewN ?_ _) | (with_reducible refine Kd.C_drew ?_) | exact HR370.out)) hb)
                                    have n4_ := Aside0.mk (Kd.C_below (by repeat (first | (with_reducible exact HR377.out) | (with_reducible refine Kd.C_alloc ?_ _) | (with_reducible refine Kd.C_drewN ?_ _) | (with_reducible refine Kd.C_drew ?_) | exact HR377.out)) hb)
                                    have n5_ := Aside0.mk (below_step (by repeat (first | (with_reducible first | exact HB.out | apply below_alloc | apply pw_below_drewN | apply below_drew1 | refine below_set ?_ GE359.out) | exact HB.out)) hb)
                                    clear HO_9
                                    clear BK359
                                    clear HR370
                                    clear HR377
                                    clear HB
                                    have HO_9 := n0_
                                    have HO366 := n1_
                                    have BK359 := n2_
                                    have HR370 := n3_
                                    have HR377 := n4_
                                    have HB := n5_
                                    clear n0_ n1_ n2_ n3_ n4_ n5_
                                    clear hb ho33
                                    refine hK.out _ _ trivial (fun hHeld => ?_)
                                    clear hK K
                                    refine norm_ (a' := ?_) ?_ ?_
                                    rotate_left
                                    · show Act.put _ (some 64) _ = _
                                      simp only [Act.put, List.setIfInBounds_toArray, List.set_cons_zero, List.set_cons_succ, i64_w, i32_w]
                                      rfl
                                    refine one_ (i := 4) (N := some 68) #[true, true, true, true, true, true, true, true, true, false, false] rfl rfl (one_of HT_.out (by kernel_rfl)) (by decide) (fun K hK => ?_)
                                    refine Kd.R_append_rows_step (Kd.int .i64) (w0 := w) w.heap.size (by rfl) (.tmp 64) (.tmp 67) 29 3 (.int .i64 0) 8 rfl Try.underlying29 info3 rfl (by decide) (by omega) v365 y364 y367 _ _ _ (fun k_ => some k_ ≠ (.slice Ao28 x9_2.length co28 : Value).ownBlock) (fun _ => False) rfl rfl ?aO ?aR (fun _ _ h => h) (fun _ h => h.elim) ?aF ?aB ?aS ?aL ?_
                                    (case aR => repeat (first | exact (by repeat (first | (with_reducible exact HR370.out) | (with_reducible refine Kd.C_alloc ?_ _) | (with_reducible refine Kd.C_drewN ?_ _) | (with_reducible refine Kd.C_drew ?_) | exact HR370.out)) | (with_reducible refine Kd.C_alloc ?_ _) | (with_reducible refine Kd.C_drewN ?_ _) | (with_reducible refine Kd.C_drew ?_)))
                                    (case aB => exact (by repeat (first | (with_reducible first | exact HB.out | apply below_alloc | apply pw_below_drewN | apply below_drew1 | refine below_set ?_ GE359.out) | exact HB.out)))
                                    (case aF => exact (fun k_ hk => Kd.fresh' (Kd.R_lt (by (with_reducible repeat (first | apply Kd.R_alloc | apply Kd.R_drewN | apply Kd.R_drew)); exact HO_9.out)) k_ hk))
                                    (case aO => exact (by (with_reducible repeat (first | apply Kd.R_alloc | apply Kd.R_drewN | apply Kd.R_drew)); exact Kd.R_mono HO366.out (fun _ hk => hk.2)))
                                    (case aS => exact (below_size (by repeat (first | (with_reducible first | exact HB.out | apply below_alloc | apply pw_below_drewN | apply below_drew1 | refine below_set ?_ GE359.out) | exact HB.out))))
                                    (case aL => have := LMc23.out; omega)
                                    intro v372 w34 ho hb hg hat
                                    rw [← Ny371.out] at ho
                                    have n0_ := Aside0.mk (Kd.R_after (ok := (fun _ => True)) (by (with_reducible repeat (first | apply Kd.R_alloc | apply Kd.R_drewN | apply Kd.R_drew)); exact HO_9.out) hg hat)
                                    have n1_ := Aside0.mk (blk_grown (g := gb359) (o := .cells #[.int .i64 t355, .int .i64 t356, .string t357] 24 (0, 0)) (by (with_reducible repeat (first | refine blk_drewN ?_ _ | refine blk_drew ?_ | refine blk_alloc ?_ _)); exact BK359.out) hg (Kd.R_ne HO366.out BK359.out (by decide)))
                                    have n2_ := Aside0.mk (hb)
                                    have n3_ := Aside0.mk ((show Kd.C (Kd.int .i64) w34 Ao28 y367.length y367 from by rw [Ny367.out]; exact Kd.C_take (m := ((ji20) : Int).toNat) ((Kd.R_reads' (Kd.R_after (ok := (fun _ => True)) (by (with_reducible repeat (first | apply Kd.R_alloc | apply Kd.R_drewN | apply Kd.R_drew)); exact HO_9.out) hg hat)).2.2) KL30.out))
                                    have n4_ := Aside0.mk ((show Kd.C (Kd.int .i64) w34 A31 y374.length y374 from by rw [Ny374.out, KA31.out]; exact Kd.C_drop (m := ((ji24) : Int).toNat) (c := co28) ((Kd.R_reads' (Kd.R_after (ok := (fun _ => True)) (by (with_reducible repeat (first | apply Kd.R_alloc | apply Kd.R_drewN | apply Kd.R_drew)); exact HO_9.out) hg hat)).2.2) KL31.out ((Kd.R_reads' (Kd.R_after (ok := (fun _ => True)) (by (with_reducible repeat (first | apply Kd.R_alloc | apply Kd.R_drewN | apply Kd.R_drew)); exact HO_9.out) hg hat)).2.1)))
                                    have n5_ := Aside0.mk (ho)
                                    clear HO_9
                                    clear BK359
                                    clear HB
                                    clear HR370
                                    clear HR377
                                    clear HO366
                                    have HO_9 := n0_
                                    have BK359 := n1_
                                    have HB := n2_
                                    have HR370 := n3_
                                    have HR377 := n4_
                                    have HO373 := n5_
                                    clear n0_ n1_ n2_ n3_ n4_ n5_
                                    clear ho hb hg hat
                                    refine hK.out _ _ trivial (fun hHeld => ?_)
                                    clear hK K
                                    refine norm_ (a' := ?_) ?_ ?_
                                    rotate_left
                                    · show Act.put _ (some 68) _ = _
                                      simp only [Act.put, List.setIfInBounds_toArray, List.set_cons_zero, List.set_cons_succ, i64_w, i32_w]
                                      rfl
                                    refine one_ (i := 9) (N := some 73) #[true, true, true, true, true, true, true, true, true, true, false] rfl rfl (one_of HT_.out (by kernel_rfl)) (by decide) (fun K hK => ?_)
                                    refine Kd.R_append_rows_step (Kd.int .i64) (w0 := w) w.heap.size (by rfl) (.tmp 68) (.tmp 72) 29 3 (.int .i64 0) 8 rfl Try.underlying29 info3 rfl (by decide) (by omega) v372 y371 y374 _ _ _ (fun k_ => some k_ ≠ (.slice Ao28 x9_2.length co28 : Value).ownBlock) (fun _ => False) rfl rfl ?aO ?aR (fun _ _ h => h) (fun _ h => h.elim) ?aF ?aB ?aS ?aL ?_
                                    (case aR => repeat (first | exact (by repeat (first | (with_reducible exact HR377.out) | (with_reducible refine Kd.C_alloc ?_ _) | (with_reducible refine Kd.C_drewN ?_ _) | (with_reducible refine Kd.C_drew ?_) | exact HR377.out)) | (with_reducible refine Kd.C_alloc ?_ _) | (with_reducible refine Kd.C_drewN ?_ _) | (with_reducible refine Kd.C_drew ?_)))
                                    (case aB => exact (by repeat (first | (with_reducible first | exact HB.out | apply below_alloc | apply pw_below_drewN | apply below_drew1 | refine below_set ?_ GE359.out) | exact HB.out)))
                                    (case aF => exact (fun k_ hk => Kd.fresh' (Kd.R_lt (by (with_reducible repeat (first | apply Kd.R_alloc | apply Kd.R_drewN | apply Kd.R_drew)); exact HO_9.out)) k_ hk))
                                    (case aO => exact (by (with_reducible repeat (first | apply Kd.R_alloc | apply Kd.R_drewN | apply Kd.R_drew)); exact HO373.out))
                                    (case aS => exact (below_size (by repeat (first | (with_reducible first | exact HB.out | apply below_alloc | apply pw_below_drewN | apply below_drew1 | refine below_set ?_ GE359.out) | exact HB.out))))
                                    (case aL => have := LMc27.out; omega)
                                    intro v379 w35 ho hb hg hat
                                    rw [← Ny378.out] at ho
                                    have n0_ := Aside0.mk (Kd.R_after (ok := (fun _ => True)) (by (with_reducible repeat (first | apply Kd.R_alloc | apply Kd.R_drewN | apply Kd.R_drew)); exact HO_9.out) hg hat)
                                    have n1_ := Aside0.mk (blk_grown (g := gb359) (o := .cells #[.int .i64 t355, .int .i64 t356, .string t357] 24 (0, 0)) (by (with_reducible repeat (first | refine blk_drewN ?_ _ | refine blk_drew ?_ | refine blk_alloc ?_ _)); exact BK359.out) hg (Kd.R_ne HO373.out BK359.out (by decide)))
                                    have n2_ := Aside0.mk (hb)
                                    have n3_ := Aside0.mk ((show Kd.C (Kd.int .i64) w35 Ao28 y367.length y367 from by rw [Ny367.out]; exact Kd.C_take (m := ((ji20) : Int).toNat) ((Kd.R_reads' (Kd.R_after (ok := (fun _ => True)) (by (with_reducible repeat (first | apply Kd.R_alloc | apply Kd.R_drewN | apply Kd.R_drew)); exact HO_9.out) hg hat)).2.2) KL30.out))
                                    have n4_ := Aside0.mk ((show Kd.C (Kd.int .i64) w35 A31 y374.length y374 from by rw [Ny374.out, KA31.out]; exact Kd.C_drop (m := ((ji24) : Int).toNat) (c := co28) ((Kd.R_reads' (Kd.R_after (ok := (fun _ => True)) (by (with_reducible repeat (first | apply Kd.R_alloc | apply Kd.R_drewN | apply Kd.R_drew)); exact HO_9.out) hg hat)).2.2) KL31.out ((Kd.R_reads' (Kd.R_after (ok := (fun _ => True)) (by (with_reducible repeat (first | apply Kd.R_alloc | apply Kd.R_drewN | apply Kd.R_drew)); exact HO_9.out) hg hat)).2.1)))
                                    have n5_ := Aside0.mk (ho)
                                    clear HO_9
                                    clear BK359
                                    clear HB
                                    clear HR370
                                    clear HR377
                                    clear HO373
                                    have HO_9 := n0_
                                    have BK359 := n1_
                                    have HB := n2_
                                    have HR370 := n3_
                                    have HR377 := n4_
                                    have HO380 := n5_
                                    clear n0_ n1_ n2_ n3_ n4_ n5_
                                    clear ho hb hg hat
                                    refine hK.out _ _ trivial (fun hHeld => ?_)
                                    clear hK K
                                    refine norm_ (a' := ?_) ?_ ?_
                                    rotate_left
                                    · show Act.put _ (some 73) _ = _
                                      simp only [Act.put, List.setIfInBounds_toArray, List.set_cons_zero, List.set_cons_succ, i64_w, i32_w]
                                      rfl
                                    refine pure_ (i := 10) (N := some 9) (v := ?_) (a' := ?_) #[true, true, true, true, true, true, true, true, true, true, true] rfl rfl (any_of HT_.out (by kernel_rfl)) (fun _ _ _ h => h) (Or.inl ⟨by rfl, ?_⟩) ?_ ?_
                                    rotate_left
                                    · intro w'
                                      go_simp
                                      with_reducible rfl
                                    rotate_left
                                    · simp only [Act.put, List.setIfInBounds_toArray, List.set_cons_zero, List.set_cons_succ, i64_w, i32_w]
                                      rfl
                                    refine done_ (done_of HT_.out (by kernel_rfl)) ?_
                                    try go_wp2
                                    go_roundg k2
                                    case measure => have := HK1.out; have := HK2.out; omega
                                    case rel => exact ⟨(y378), (wrap64 (x11_2 + 1)), (by first | rfl | (simp; done) | (simp [*]; done)), H', ⟨by have := HK1.out; have := HK2.out; omega⟩, ⟨by (with_reducible repeat (first | apply Kd.R_alloc | apply Kd.R_drewN | apply Kd.R_drew)); exact Kd.R_mono HO380.out (fun _ hk => trivial)⟩, ⟨by (with_reducible repeat (first | refine blk_drewN ?_ _ | refine blk_drew ?_ | refine blk_alloc ?_ _)); exact BK359.out⟩, ⟨by repeat (first | (with_reducible first | exact HB.out | apply below_alloc | apply pw_below_drewN | apply below_drew1 | refine below_set ?_ GE359.out) | exact HB.out)⟩⟩
                                  · rw [if_neg c27] at H
                                    exact absurd H (by simp)
                                · rw [if_neg c26] at H
                                  exact absurd H (by simp)
                              · rw [if_neg c25] at H
                                exact absurd H (by simp)
                            · rw [if_neg c23] at H
                              exact absurd H (by simp)
                          · rw [if_neg c22] at H
                            exact absurd H (by simp)
                        · rw [if_neg c21] at H
                          exact absurd H (by simp)
                    · rw [if_neg c18] at H
                      exact absurd H (by simp)
                  · rw [if_neg c17] at H
                    have c17b0 : decide (x11_2 < (l2.length : Int)) = false := decide_eq_false c17
                    clear c17
                    obtain ⟨y381, hy381⟩ : ∃ y_ : List Int, y_ = (([] : List Int)) := ⟨_, rfl⟩
                    replace H : (if 0 ≤ (x9_2.length : Int) then ((some (x9_2.take 0 : List Int)).bind fun y384 => (if y381.length + y384.length < 17592186044416 then ((some (y381 ++ y384 : List Int)).bind fun y388 => (if 0 ≤ (0 + 1 : Int) then (if (0 + 1 : Int) ≤ (x9_2.length : Int) then ((some (x9_2.drop ((0 + 1) : Int).toNat : List Int)).bind fun y391 => (if y388.length + y391.length < 17592186044416 then (corncriblaw02_MatrixAny.l1 k2 t354 l2 (y388 ++ y391) (wrap64 (x11_2 + 1)) t355 t356 t357) else (none))) else (none)) else (none))) else (none))) else (none)) = some r := by first | (rw [hy381]; with_reducible exact H) | (have H2_ := (Option.bind_some _ _).symm.trans H; rw [hy381]; with_reducible exact H2_) | (have H2_ := (Option.bind_some _ _).symm.trans H; with_reducible exact H2_) | with_reducible exact H | (rw [hy381]; exact H) | exact H
                    have Ny381 := Aside0.mk hy381
                    clear hy381
                    by_cases c36 : 0 ≤ (x9_2.length : Int)
                    · rw [if_pos c36] at H
                      have c36b0 := eq_true c36
                      have c36b1 : decide (0 ≤ (x9_2.length : Int)) = true := decide_eq_true c36
                      clear c36
                      obtain ⟨y384, hy384⟩ : ∃ y_ : List Int, y_ = (x9_2.take 0) := ⟨_, rfl⟩
                      replace H : (if y381.length + y384.length < 17592186044416 then ((some (y381 ++ y384 : List Int)).bind fun y388 => (if 0 ≤ (0 + 1 : Int) then (if (0 + 1 : Int) ≤ (x9_2.length : Int) then ((some (x9_2.drop ((0 + 1) : Int).toNat : List Int)).bind fun y391 => (if y388.length + y391.length < 17592186044416 then (corncriblaw02_MatrixAny.l1 k2 t354 l2 (y388 ++ y391) (wrap64 (x11_2 + 1)) t355 t356 t357) else (none))) else (none)) else (none))) else (none)) = some r := by first | (rw [hy384]; with_reducible exact H) | (have H2_ := (Option.bind_some _ _).symm.trans H; rw [hy384]; with_reducible exact H2_) | (have H2_ := (Option.bind_some _ _).symm.trans H; with_reducible exact H2_) | with_reducible exact H | (rw [hy384]; exact H) | exact H
                      have Ny384 := Aside0.mk hy384
                      clear hy384
                      by_cases c37 : y381.length + y384.length < 17592186044416
                      · rw [if_pos c37] at H
                        have LMc37 := Aside0.mk c37
                        clear c37
                        obtain ⟨y388, hy388⟩ : ∃ y_ : List Int, y_ = (y381 ++ y384) := ⟨_, rfl⟩
                        replace H : (if 0 ≤ (0 + 1 : Int) then (if (0 + 1 : Int) ≤ (x9_2.length : Int) then ((some (x9_2.drop ((0 + 1) : Int).toNat : List Int)).bind fun y391 => (if y388.length + y391.length < 17592186044416 then (corncriblaw02_MatrixAny.l1 k2 t354 l2 (y388 ++ y391) (wrap64 (x11_2 + 1)) t355 t356 t357) else (none))) else (none)) else (none)) = some r := by first | (rw [hy388]; with_reducible exact H) | (have H2_ := (Option.bind_some _ _).symm.trans H; rw [hy388]; with_reducible exact H2_) | (have H2_ := (Option.bind_some _ _).symm.trans H; with_reducible exact H2_) | with_reducible exact H | (rw [hy388]; exact H) | exact H
                        have Ny388 := Aside0.mk hy388
                        clear hy388
                        obtain ⟨ji38, hji38⟩ : ∃ j_ : Int, (0 + 1 : Int) = j_ := ⟨_, rfl⟩
                        replace H : (if 0 ≤ (ji38) then (if (ji38) ≤ (x9_2.length : Int) then ((some (x9_2.drop ((ji38) : Int).toNat : List Int)).bind fun y391 => (if y388.length + y391.length < 17592186044416 then (corncriblaw02_MatrixAny.l1 k2 t354 l2 (y388 ++ y391) (wrap64 (x11_2 + 1)) t355 t356 t357) else (none))) else (none)) else (none)) = some r := by first | (rw [hji38] at H; exact H) | (simp only [hji38] at H ⊢; exact H)
                        have hji38v : wrap64 ji38 = ji38 := by rw [← hji38]; unfold wrap64; omega
                        have hji38w : IntKind.i64.wrap ji38 = ji38 := by rw [← hji38, IntKind.wrap_i64]; omega
                        by_cases c39 : 0 ≤ (ji38)
                        · rw [if_pos c39] at H
                          have c39b0 := eq_true c39
                          have c39b1 : decide (0 ≤ (ji38)) = true := decide_eq_true c39
                          clear c39
                          by_cases c40 : (ji38) ≤ (x9_2.length : Int)
                          · rw [if_pos c40] at H
                            have c40b0 := eq_true c40
                            have c40b1 : decide ((ji38) ≤ (x9_2.length : Int)) = true := decide_eq_true c40
                            clear c40
                            obtain ⟨y391, hy391⟩ : ∃ y_ : List Int, y_ = (x9_2.drop ((ji38) : Int).toNat) := ⟨_, rfl⟩
                            replace H : (if y388.length + y391.length < 17592186044416 then (corncriblaw02_MatrixAny.l1 k2 t354 l2 (y388 ++ y391) (wrap64 (x11_2 + 1)) t355 t356 t357) else (none)) = some r := by first | (rw [hy391]; with_reducible exact H) | (have H2_ := (Option.bind_some _ _).symm.trans H; rw [hy391]; with_reducible exact H2_) | (have H2_ := (Option.bind_some _ _).symm.trans H; with_reducible exact H2_) | with_reducible exact H | (rw [hy391]; exact H) | exact H
                            have Ny391 := Aside0.mk hy391
                            clear hy391
                            by_cases c41 : y388.length + y391.length < 17592186044416
                            · rw [if_pos c41] at H
                              have LMc41 := Aside0.mk c41
                              clear c41
                              obtain ⟨y395, hy395⟩ : ∃ y_ : List Int, y_ = (y388 ++ y391) := ⟨_, rfl⟩
                              replace H : (corncriblaw02_MatrixAny.l1 k2 t354 l2 y395 (wrap64 (x11_2 + 1)) t355 t356 t357) = some r := by first | (rw [hy395]; with_reducible exact H) | (have H2_ := (Option.bind_some _ _).symm.trans H; rw [hy395]; with_reducible exact H2_) | (have H2_ := (Option.bind_some _ _).symm.trans H; with_reducible exact H2_) | with_reducible exact H | (rw [hy395]; exact H) | exact H
                              have Ny395 := Aside0.mk hy395
                              clear hy395
                              have H' := Aside0.mk H
                              clear H
                              obtain ⟨Ao42, co42, eo42⟩ := Kd.R_slice HO_9.out
                              subst eo42
                              try go_wp2
                              have n0_ := Aside0.mk (Kd.R_drew HO_9.out)
                              have n1_ := Aside0.mk (blk_drew BK359.out)
                              have n2_ := Aside0.mk (below_drew1 HB.out)
                              clear HO_9
                              clear BK359
                              clear HB
                              have HO_9 := n0_
                              have BK359 := n1_
                              have HB := n2_
                              clear n0_ n1_ n2_
                              have q44 : (0 : Int) ≤ ((x9_2.length : Int) : Int) := of_decide_eq_true (by first | (with_reducible assumption) | assumption)
                              obtain ⟨i044, hi044, _, hsz44, _⟩ := info_parts info3
                              have hroom44 : x9_2.length ≤ co42 := (Kd.R_reads' HO_9.out).2.1
                              have hC44 : Kd.C (Kd.int .i64) _ Ao42 x9_2.length x9_2 := (Kd.R_reads' HO_9.out).2.2
                              have hcut44 := cut_to (P := Try.prog) 29 3 .i64 Try.underlying29 hi044 Ao42 x9_2.length co42 0 (by omega) q44 hroom44
                              have hr44 := Kd.C_take (m := 0) hC44 (by omega)
                              have hy44 : y384.length = (0 : Int).toNat := (by rw [Ny384.out, List.length_take]; omega)
                              rw [← Ny384.out] at hr44
                              rw [← hy44] at hcut44
                              have HR387 := Aside0.mk hr44
                              have HC387 := Aside0.mk (show y384.length ≤ co42 from by omega)
                              clear hr44 hC44 hroom44 hi044 hsz44
                              have KY44 := Aside0.mk hy44
                              clear hy44
                              have KL44 := Aside0.mk (show 0 ≤ x9_2.length from by omega)
                              replace q44 := eq_true q44
                              have q45 : ((ji38) : Int) ≤ ((x9_2.length : Int) : Int) := of_decide_eq_true (by first | (with_reducible assumption) | assumption)
                              obtain ⟨i045, hi045, _, hsz45, _⟩ := info_parts info3
                              have hroom45 : x9_2.length ≤ co42 := (Kd.R_reads' HO_9.out).2.1
                              have hC45 : Kd.C (Kd.int .i64) _ Ao42 x9_2.length x9_2 := (Kd.R_reads' HO_9.out).2.2
                              have q045 : (0 : Int) ≤ ((ji38) : Int) := of_decide_eq_true (by first | (with_reducible assumption) | assumption)
                              have hcut45 := cut_from (P := Try.prog) 29 3 .i64 Try.underlying29 hi045 1 hsz45 Ao42 x9_2.length co42 (ji38) q045 q45
                              have hr45 := Kd.C_drop (m := ((ji38) : Int).toNat) (c := co42) hC45 (by omega) hroom45
                              obtain ⟨A45, hA45⟩ : ∃ A1, A1 = (if co42 = ((ji38) : Int).toNat then Ao42 else (Ao42 : Option Addr).map (·.add (((ji38) : Int).toNat * 1))) := ⟨_, rfl⟩
                              obtain ⟨c45, hc45⟩ : ∃ c1, c1 = co42 - ((ji38) : Int).toNat := ⟨_, rfl⟩
                              have hy45 : y391.length = x9_2.length - ((ji38) : Int).toNat := (by rw [Ny391.out, List.length_drop] <;> omega)
                              rw [show (x9_2).drop ((ji38) : Int).toNat = y391 from Ny391.out.symm] at hr45
                              replace hr45 : Kd.C (Kd.int .i64) _ A45 y391.length y391 := (by rw [hA45]; exact hr45)
                              rw [← hy45, ← hA45, ← hc45] at hcut45
                              have HR394 := Aside0.mk hr45
                              have HC394 := Aside0.mk (show y391.length ≤ c45 from by rw [hy45, hc45]; exact Nat.sub_le_sub_right hroom45 _)
                              clear hr45 hC45 hroom45 hi045 hsz45 hc45
                              have KY45 := Aside0.mk hy45
                              have KA45 := Aside0.mk hA45
                              clear hy45 hA45
                              have KL45 := Aside0.mk (show ((ji38) : Int).toNat ≤ x9_2.length from by omega)
                              replace q45 := eq_true q45
                              refine start_ (n := 11) (S := fun w' => True) (ds := []) #[false, false, false, false, false, false, false, false, false, false, false] (by kernel_rfl) rfl rfl trivial (fun hHeld => ?_); refine with_tabW corncriblaw02_MatrixAny.tab19 corncriblaw02_MatrixAny.bits19 (fun HT_ HW_ => ?_)
                              generalize wr.drew = w43 at HO_9 BK359 HB HR387 HR394 hHeld ⊢
                              refine pure_ (i := 1) (N := some 65) (v := ?_) (a' := ?_) #[false, true, false, false, false, false, false, false, false, false, false] rfl rfl (any_of HT_.out (by kernel_rfl)) (fun _ _ _ h => h) (Or.inl ⟨by rfl, ?_⟩) ?_ ?_
                              rotate_left
                              · intro w'
                                go_simp
                                with_reducible rfl
                              rotate_left
                              · simp only [Act.put, List.setIfInBounds_toArray, List.set_cons_zero, List.set_cons_succ, i64_w, i32_w]
                                rfl
                              refine pure_ (i := 2) (N := some 66) (v := ?_) (a' := ?_) #[false, true, true, false, false, false, false, false, false, false, false] rfl rfl (any_of HT_.out (by kernel_rfl)) (fun _ _ _ h => h) (Or.inl ⟨by rfl, ?_⟩) ?_ ?_
                              rotate_left
                              · intro w'
                                go_simp
                                with_reducible rfl
                              rotate_left
                              · simp only [Act.put, List.setIfInBounds_toArray, List.set_cons_zero, List.set_cons_succ, i64_w, i32_w]
                                rfl
                              refine pure_ (i := 3) (N := some 67) (v := ?_) (a' := ?_) #[false, true, true, true, false, false, false, false, false, false, false] rfl rfl (any_of HT_.out (by kernel_rfl)) (fun _ _ _ h => h) (Or.inl ⟨by rfl, ?_⟩) ?_ ?_
                              rotate_left
                              · intro w'
                                go_simp
                                with_reducible rfl
                              rotate_left
                              · simp only [Act.put, List.setIfInBounds_toArray, List.set_cons_zero, List.set_cons_succ, i64_w, i32_w]
                                rfl
                              refine pure_ (i := 5) (N := some 69) (v := ?_) (a' := ?_) #[false, true, true, true, false, true, false, false, false, false, false] rfl rfl (any_of HT_.out (by kernel_rfl)) (fun _ _ _ h => h) (Or.inl ⟨by rfl, ?_⟩) ?_ ?_
                              rotate_left
                              · intro w'
                                go_simp
                                with_reducible rfl
                              rotate_left
                              · simp only [Act.put, List.setIfInBounds_toArray, List.set_cons_zero, List.set_cons_succ, i64_w, i32_w]
                                rfl
                              refine pure_ (i := 6) (N := some 70) (v := ?_) (a' := ?_) #[false, true, true, true, false, true, true, false, false, false, false] rfl rfl (any_of HT_.out (by kernel_rfl)) (fun _ _ _ h => h) (Or.inl ⟨by rfl, ?_⟩) ?_ ?_
                              rotate_left
                              · intro w'
                                go_simp
                                with_reducible rfl
                              rotate_left
                              · simp only [Act.put, List.setIfInBounds_toArray, List.set_cons_zero, List.set_cons_succ, i64_w, i32_w]
                                rfl
                              refine pure_ (i := 7) (N := some 71) (v := ?_) (a' := ?_) #[false, true, true, true, false, true, true, true, false, false, false] rfl rfl (any_of HT_.out (by kernel_rfl)) (fun _ _ _ h => h) (Or.inl ⟨by rfl, ?_⟩) ?_ ?_
                              rotate_left
                              · intro w'
                                go_simp
                                with_reducible rfl
                              rotate_left
                              · simp only [Act.put, List.setIfInBounds_toArray, List.set_cons_zero, List.set_cons_succ, i64_w, i32_w]
                                rfl
                              refine pure_ (i := 8) (N := some 72) (v := ?_) (a' := ?_) #[false, true, true, true, false, true, true, true, true, false, false] rfl rfl (any_of HT_.out (by kernel_rfl)) (fun _ _ _ h => h) (Or.inl ⟨by rfl, ?_⟩) ?_ ?_
                              rotate_left
                              · intro w'
                                go_simp
                                with_reducible rfl
                              rotate_left
                              · simp only [Act.put, List.setIfInBounds_toArray, List.set_cons_zero, List.set_cons_succ, i64_w, i32_w]
                                rfl
                              refine one_ (i := 0) (N := some 64) #[true, true, true, true, false, true, true, true, true, false, false] rfl rfl (one_of HT_.out (by kernel_rfl)) (by decide) (fun K hK => ?_)
                              refine Kd.R_lit_step (Kd.int .i64) _ 3 ?hg (N := 64) ?hd (xs := ([] : List Int)) (inner := []) (ok := fun _ => True) (okp := fun _ => True) ?hr ?hp (fun _ hk => hk) trivial (Below.refl _ _) (Nat.le_refl _) (by simp) ?_; (case hd => rfl); (case hg => rfl); (case hr => first | (go_simp; done) | (go_simp; rfl)); (case hp => exact (Reps.none _ _))
                              intro v382 w46 ho47 hb hg_ hnew_
                              clear hg_ hnew_
                              (first | rw [← Ny381.out] at ho47 | (simp only [Int.reduceToNat] at ho47; rw [← Ny381.out] at ho47))
                              have n0_ := Aside0.mk (Kd.R_elder' (by (with_reducible repeat (first | apply Kd.R_alloc | apply Kd.R_drewN | apply Kd.R_drew)); exact HO_9.out) (Kd.R_base ho47) hb)
                              have n1_ := Aside0.mk (Kd.R_lower (Kd.R_new' ho47 (Kd.R_lt (by (with_reducible repeat (first | apply Kd.R_alloc | apply Kd.R_drewN | apply Kd.R_drew)); exact HO_9.out))) (below_size (by repeat (first | (with_reducible first | exact HB.out | apply below_alloc | apply pw_below_drewN | apply below_drew1 | refine below_set ?_ GE359.out) | exact HB.out))))
                              have n2_ := Aside0.mk (blk_below (g := gb359) (o := .cells #[.int .i64 t355, .int .i64 t356, .string t357] 24 (0, 0)) (by (with_reducible repeat (first | refine blk_drewN ?_ _ | refine blk_drew ?_ | refine blk_alloc ?_ _)); exact BK359.out) hb)
                              have n3_ := Aside0.mk (Kd.C_below (by repeat (first | (with_reducible exact HR387.out) | (with_reducible refine Kd.C_alloc ?_ _) | (with_reducible refine Kd.C_drewN ?_ _) | (with_reducible refine Kd.C_drew ?_) | exact HR387.out)) hb)
                              have n4_ := Aside0.mk (Kd.C_below (by repeat (first | (with_reducible exact HR394.out) | (with_reducible refine Kd.C_alloc ?_ _) | (with_reducible refine Kd.C_drewN ?_ _) | (with_reducible refine Kd.C_drew ?_) | exact HR394.out)) hb)
                              have n5_ := Aside0.mk (below_step (by repeat (first | (with_reducible first | exact HB.out | apply below_alloc | apply pw_below_drewN | apply below_drew1 | refine below_set ?_ GE359.out) | exact HB.out)) hb)
                              clear HO_9
                              clear BK359
                              clear HR387
                              clear HR394
                              clear HB
                              have HO_9 := n0_
                              have HO383 := n1_
                              have BK359 := n2_
                              have HR387 := n3_
                              have HR394 := n4_
                              have HB := n5_
                              clear n0_ n1_ n2_ n3_ n4_ n5_
                              clear hb ho47
                              refine hK.out _ _ trivial (fun hHeld => ?_)
                              clear hK K
                              refine norm_ (a' := ?_) ?_ ?_
                              rotate_left
                              · show Act.put _ (some 64) _ = _
                                simp only [Act.put, List.setIfInBounds_toArray, List.set_cons_zero, List.set_cons_succ, i64_w, i32_w]
                                rfl
                              refine one_ (i := 4) (N := some 68) #[true, true, true, true, true, true, true, true, true, false, false] rfl rfl (one_of HT_.out (by kernel_rfl)) (by decide) (fun K hK => ?_)
                              refine Kd.R_append_rows_step (Kd.int .i64) (w0 := w) w.heap.size (by rfl) (.tmp 64) (.tmp 67) 29 3 (.int .i64 0) 8 rfl Try.underlying29 info3 rfl (by decide) (by omega) v382 y381 y384 _ _ _ (fun k_ => some k_ ≠ (.slice Ao42 x9_2.length co42 : Value).ownBlock) (fun _ => False) rfl rfl ?aO ?aR (fun _ _ h => h) (fun _ h => h.elim) ?aF ?aB ?aS ?aL ?_
                              (case aR => repeat (first | exact (by repeat (first | (with_reducible exact HR387.out) | (with_reducible refine Kd.C_alloc ?_ _) | (with_reducible refine Kd.C_drewN ?_ _) | (with_reducible refine Kd.C_drew ?_) | exact HR387.out)) | (with_reducible refine Kd.C_alloc ?_ _) | (with_reducible refine Kd.C_drewN ?_ _) | (with_reducible refine Kd.C_drew ?_)))
                              (case aB => exact (by repeat (first | (with_reducible first | exact HB.out | apply below_alloc | apply pw_below_drewN | apply below_drew1 | refine below_set ?_ GE359.out) | exact HB.out)))
                              (case aF => exact (fun k_ hk => Kd.fresh' (Kd.R_lt (by (with_reducible repeat (first | apply Kd.R_alloc | apply Kd.R_drewN | apply Kd.R_drew)); exact HO_9.out)) k_ hk))
                              (case aO => exact (by (with_reducible repeat (first | apply Kd.R_alloc | apply Kd.R_drewN | apply Kd.R_drew)); exact Kd.R_mono HO383.out (fun _ hk => hk.2)))
                              (case aS => exact (below_size (by repeat (first | (with_reducible first | exact HB.out | apply below_alloc | apply pw_below_drewN | apply below_drew1 | refine below_set ?_ GE359.out) | exact HB.out))))
                              (case aL => have := LMc37.out; omega)
                              intro v389 w48 ho hb hg hat
                              rw [← Ny388.out] at ho
                              have n0_ := Aside0.mk (Kd.R_after (ok := (fun _ => True)) (by (with_reducible repeat (first | apply Kd.R_alloc | apply Kd.R_drewN | apply Kd.R_drew)); exact HO_9.out) hg hat)
                              have n1_ := Aside0.mk (blk_grown (g := gb359) (o := .cells #[.int .i64 t355, .int .i64 t356, .string t357] 24 (0, 0)) (by (with_reducible repeat (first | refine blk_drewN ?_ _ | refine blk_drew ?_ | refine blk_alloc ?_ _)); exact BK359.out) hg (Kd.R_ne HO383.out BK359.out (by decide)))
                              have n2_ := Aside0.mk (hb)
                              have n3_ := Aside0.mk ((show Kd.C (Kd.int .i64) w48 Ao42 y384.length y384 from by rw [Ny384.out]; exact Kd.C_take (m := 0) ((Kd.R_reads' (Kd.R_after (ok := (fun _ => True)) (by (with_reducible repeat (first | apply Kd.R_alloc | apply Kd.R_drewN | apply Kd.R_drew)); exact HO_9.out) hg hat)).2.2) KL44.out))
                              have n4_ := Aside0.mk ((show Kd.C (Kd.int .i64) w48 A45 y391.length y391 from by rw [Ny391.out, KA45.out]; exact Kd.C_drop (m := ((ji38) : Int).toNat) (c := co42) ((Kd.R_reads' (Kd.R_after (ok := (fun _ => True)) (by (with_reducible repeat (first | apply Kd.R_alloc | apply Kd.R_drewN | apply Kd.R_drew)); exact HO_9.out) hg hat)).2.2) KL45.out ((Kd.R_reads' (Kd.R_after (ok := (fun _ => True)) (by (with_reducible repeat (first | apply Kd.R_alloc | apply Kd.R_drewN | apply Kd.R_drew)); exact HO_9.out) hg hat)).2.1)))
                              have n5_ := Aside0.mk (ho)
                              clear HO_9
                              clear BK359
                              clear HB
                              clear HR387
                              clear HR394
                              clear HO383
                              have HO_9 := n0_
                              have BK359 := n1_
                              have HB := n2_
                              have HR387 := n3_
                              have HR394 := n4_
                              have HO390 := n5_
                              clear n0_ n1_ n2_ n3_ n4_ n5_
                              clear ho hb hg hat
                              refine hK.out _ _ trivial (fun hHeld => ?_)
                              clear hK K
                              refine norm_ (a' := ?_) ?_ ?_
                              rotate_left
                              · show Act.put _ (some 68) _ = _
                                simp only [Act.put, List.setIfInBounds_toArray, List.set_cons_zero, List.set_cons_succ, i64_w, i32_w]
                                rfl
                              refine one_ (i := 9) (N := some 73) #[true, true, true, true, true, true, true, true, true, true, false] rfl rfl (one_of HT_.out (by kernel_rfl)) (by decide) (fun K hK => ?_)
                              refine Kd.R_append_rows_step (Kd.int .i64) (w0 := w) w.heap.size (by rfl) (.tmp 68) (.tmp 72) 29 3 (.int .i64 0) 8 rfl Try.underlying29 info3 rfl (by decide) (by omega) v389 y388 y391 _ _ _ (fun k_ => some k_ ≠ (.slice Ao42 x9_2.length co42 : Value).ownBlock) (fun _ => False) rfl rfl ?aO ?aR (fun _ _ h => h) (fun _ h => h.elim) ?aF ?aB ?aS ?aL ?_
                              (case aR => repeat (first | exact (by repeat (first | (with_reducible exact HR394.out) | (with_reducible refine Kd.C_alloc ?_ _) | (with_reducible refine Kd.C_drewN ?_ _) | (with_reducible refine Kd.C_drew ?_) | exact HR394.out)) | (with_reducible refine Kd.C_alloc ?_ _) | (with_reducible refine Kd.C_drewN ?_ _) | (with_reducible refine Kd.C_drew ?_)))
                              (case aB => exact (by repeat (first | (with_reducible first | exact HB.out | apply below_alloc | apply pw_below_drewN | apply below_drew1 | refine below_set ?_ GE359.out) | exact HB.out)))
                              (case aF => exact (fun k_ hk => Kd.fresh' (Kd.R_lt (by (with_reducible repeat (first | apply Kd.R_alloc | apply Kd.R_drewN | apply Kd.R_drew)); exact HO_9.out)) k_ hk))
                              (case aO => exact (by (with_reducible repeat (first | apply Kd.R_alloc | apply Kd.R_drewN | apply Kd.R_drew)); exact HO390.out))
                              (case aS => exact (below_size (by repeat (first | (with_reducible first | exact HB.out | apply below_alloc | apply pw_below_drewN | apply below_drew1 | refine below_set ?_ GE359.out) | exact HB.out))))
                              (case aL => have := LMc41.out; omega)
                              intro v396 w49 ho hb hg hat
                              rw [← Ny395.out] at ho
                              have n0_ := Aside0.mk (Kd.R_after (ok := (fun _ => True)) (by (with_reducible repeat (first | apply Kd.R_alloc | apply Kd.R_drewN | apply Kd.R_drew)); exact HO_9.out) hg hat)
                              have n1_ := Aside0.mk (blk_grown (g := gb359) (o := .cells #[.int .i64 t355, .int .i64 t356, .string t357] 24 (0, 0)) (by (with_reducible repeat (first | refine blk_drewN ?_ _ | refine blk_drew ?_ | refine blk_alloc ?_ _)); exact BK359.out) hg (Kd.R_ne HO390.out BK359.out (by decide)))
                              have n2_ := Aside0.mk (hb)
                              have n3_ := Aside0.mk ((show Kd.C (Kd.int .i64) w49 Ao42 y384.length y384 from by rw [Ny384.out]; exact Kd.C_take (m := 0) ((Kd.R_reads' (Kd.R_after (ok := (fun _ => True)) (by (with_reducible repeat (first | apply Kd.R_alloc | apply Kd.R_drewN | apply Kd.R_drew)); exact HO_9.out) hg hat)).2.2) KL44.out))
                              have n4_ := Aside0.mk ((show Kd.C (Kd.int .i64) w49 A45 y391.length y391 from by rw [Ny391.out, KA45.out]; exact Kd.C_drop (m := ((ji38) : Int).toNat) (c := co42) ((Kd.R_reads' (Kd.R_after (ok := (fun _ => True)) (by (with_reducible repeat (first | apply Kd.R_alloc | apply Kd.R_drewN | apply Kd.R_drew)); exact HO_9.out) hg hat)).2.2) KL45.out ((Kd.R_reads' (Kd.R_after (ok := (fun _ => True)) (by (with_reducible repeat (first | apply Kd.R_alloc | apply Kd.R_drewN | apply Kd.R_drew)); exact HO_9.out) hg hat)).2.1)))
                              have n5_ := Aside0.mk (ho)
                              clear HO_9
                              clear BK359
                              clear HB
                              clear HR387
                              clear HR394
                              clear HO390
                              have HO_9 := n0_
                              have BK359 := n1_
                              have HB := n2_
                              have HR387 := n3_
                              have HR394 := n4_
                              have HO397 := n5_
                              clear n0_ n1_ n2_ n3_ n4_ n5_
                              clear ho hb hg hat
                              refine hK.out _ _ trivial (fun hHeld => ?_)
                              clear hK K
                              refine norm_ (a' := ?_) ?_ ?_
                              rotate_left
                              · show Act.put _ (some 73) _ = _
                                simp only [Act.put, List.setIfInBounds_toArray, List.set_cons_zero, List.set_cons_succ, i64_w, i32_w]
                                rfl
                              refine pure_ (i := 10) (N := some 9) (v := ?_) (a' := ?_) #[true, true, true, true, true, true, true, true, true, true, true] rfl rfl (any_of HT_.out (by kernel_rfl)) (fun _ _ _ h => h) (Or.inl ⟨by rfl, ?_⟩) ?_ ?_
                              rotate_left
                              · intro w'
                                go_simp
                                with_reducible rfl
                              rotate_left
                              · simp only [Act.put, List.setIfInBounds_toArray, List.set_cons_zero, List.set_cons_succ, i64_w, i32_w]
                                rfl
                              refine done_ (done_of HT_.out (by kernel_rfl)) ?_
                              try go_wp2
                              go_roundg k2
                              case measure => have := HK1.out; have := HK2.out; omega
                              case rel => exact ⟨(y395), (wrap64 (x11_2 + 1)), (by first | rfl | (simp; done) | (simp [*]; done)), H', ⟨by have := HK1.out; have := HK2.out; omega⟩, ⟨by (with_reducible repeat (first | apply Kd.R_alloc | apply Kd.R_drewN | apply Kd.R_drew)); exact Kd.R_mono HO397.out (fun _ hk => trivial)⟩, ⟨by (with_reducible repeat (first | refine blk_drewN ?_ _ | refine blk_drew ?_ | refine blk_alloc ?_ _)); exact BK359.out⟩, ⟨by repeat (first | (with_reducible first | exact HB.out | apply below_alloc | apply pw_below_drewN | apply below_drew1 | refine below_set ?_ GE359.out) | exact HB.out)⟩⟩
                            · rw [if_neg c41] at H
                              exact absurd H (by simp)
                          · rw [if_neg c40] at H
                            exact absurd H (by simp)
                        · rw [if_neg c39] at H
                          exact absurd H (by simp)
                      · rw [if_neg c37] at H
                        exact absurd H (by simp)
                    · rw [if_neg c36] at H
                      exact absurd H (by simp)
                · rw [if_neg c16] at H
                  have c16b0 : decide (t354 < (x9_2.length : Int)) = false := decide_eq_false c16
                  clear c16
                  replace H := Option.bind_eq_some_iff.mp H
                  obtain ⟨⟨t398, t399, t400, t401⟩, A500, H⟩ := H
                  replace H : ((matrix_Inverse.f t398 t399 t400).bind fun bt403 => (if t401 = 0 then (some (bt403.2.2.2 == 0)) else (some false))) = some r := H
                  have A50 := Aside0.mk A500
                  clear A500
                  replace H := Option.bind_eq_some_iff.mp H
                  obtain ⟨⟨t403, t404, t405, t406⟩, A510, H⟩ := H
                  replace H : (if t401 = 0 then (some (t406 == 0)) else (some false)) = some r := H
                  have A51 := Aside0.mk A510
                  clear A510
                  by_cases c52 : t401 = 0
                  · rw [if_pos c52] at H
                    have c52b0 : (t401 == 0) = true := beq_iff_eq.mpr c52
                    have c52b1 : (t401 != 0) = false := bne_eq_false_iff_eq.mpr c52
                    clear c52
                    obtain rfl := Option.some.inj H
                    obtain ⟨Ao53, co53, eo53⟩ := Kd.R_slice HO_9.out
                    subst eo53
                    have hcz54_0 : wr.cell? ⟨gb359, 0, none⟩ = some (.int .i64 t355) := (blk_cell BK359.out 0).trans rfl
                    have hcz54_1 : wr.cell? ⟨gb359, 1, none⟩ = some (.int .i64 t356) := (blk_cell BK359.out 1).trans rfl
                    have hcz54_2 : wr.cell? ⟨gb359, 2, none⟩ = some (.string t357) := (blk_cell BK359.out 2).trans rfl
                    have hfz54_0 := blk_frozen BK359.out 0
                    have hfz54_1 := blk_frozen BK359.out 1
                    have hfz54_2 := blk_frozen BK359.out 2
                    go_wp2_with (first | ((with_reducible refine gate_callee (f := 14) rfl ?_); refine goesL_ (some 77) rfl rfl Try.func14 (by kernel_rfl) rfl #[.agg #[.int .i64 t355, .int .i64 t356, .string t357], .slice Ao53 x9_2.length co53] rfl (by (try simp only [List.map_toArray, List.map_cons, List.map_nil]); first | done | rfl | (simp only [List.length_drop, List.length_take]; rfl)) ?_; (with_reducible refine (matrix_Pick.calls t355 t356 t357 _ _ x9_2 t398 t399 t400 t401 _ ?side1 ?side2 A50.out).mono ?_); (case side1 => repeat (first | exact (Kd.R_reads' HO_9.out).2.2 | (with_reducible refine Kd.C_alloc ?_ _) | (with_reducible refine Kd.C_drewN ?_ _) | (with_reducible refine Kd.C_drew ?_))); (case side2 => exact (Kd.R_reads' HO_9.out).2.1); rintro e w55 ⟨rfl, hb⟩; refine ⟨_, rfl, ?_⟩; have n0_ := Aside0.mk (Kd.R_below (by (with_reducible repeat (first | apply Kd.R_alloc | apply Kd.R_drewN | apply Kd.R_drew)); exact HO_9.out) hb); have n1_ := Aside0.mk (blk_below (g := gb359) (o := .cells #[.int .i64 t355, .int .i64 t356, .string t357] 24 (0, 0)) (by (with_reducible repeat (first | refine blk_drewN ?_ _ | refine blk_drew ?_ | refine blk_alloc ?_ _)); exact BK359.out) hb); have n2_ := Aside0.mk (below_step (by repeat (first | (with_reducible first | exact HB.out | apply below_alloc | apply pw_below_drewN | apply below_drew1 | refine below_set ?_ GE359.out) | exact HB.out)) hb); clear HO_9; clear BK359; clear HB; have HO_9 := n0_; have BK359 := n1_; have HB := n2_; clear n0_ n1_ n2_; (try clear hb); (try clear hb2); (try clear hk); (try clear hi)) | ((with_reducible refine gate_dst (N := 13) rfl ?_); refine box_event ?hg (N := 13) ?hd (cs := #[.int .i64 0, .int .i64 0, .string (⟨#[]⟩ : ByteArray)]) (t := 24) ?hr ?_; (case hd => rfl); (case hg => rfl); (case hr => first | (go_simp; done) | (go_simp; rfl)); intro gb402 hg w56 hbox hb; have n0_ := Aside0.mk (Kd.R_below (by (with_reducible repeat (first | apply Kd.R_alloc | apply Kd.R_drewN | apply Kd.R_drew)); exact HO_9.out) hb); have n1_ := Aside0.mk (blk_below (g := gb359) (o := .cells #[.int .i64 t355, .int .i64 t356, .string t357] 24 (0, 0)) (by (with_reducible repeat (first | refine blk_drewN ?_ _ | refine blk_drew ?_ | refine blk_alloc ?_ _)); exact BK359.out) hb); have n2_ := Aside0.mk (below_step (by repeat (first | (with_reducible first | exact HB.out | apply below_alloc | apply pw_below_drewN | apply below_drew1 | refine below_set ?_ GE359.out) | exact HB.out)) hb); have n3_ := Aside0.mk (hbox); have n4_ := Aside0.mk ((by rw [hg]; exact (below_size (by repeat (first | (with_reducible first | exact HB.out | apply below_alloc | apply pw_below_drewN | apply below_drew1 | refine below_set ?_ GE359.out) | exact HB.out))) : w.heap.size ≤ gb402)); have n5_ := Aside0.mk ((by rw [hg]; exact (below_size (by repeat (first | (with_reducible first | exact HB.out | apply below_alloc | apply pw_below_drewN | apply below_drew1 | refine below_set ?_ GE359.out) | exact HB.out))) : w.heap.size ≤ gb402)); have n6_ := Aside0.mk ((by rw [hg]; exact Nat.ne_of_lt (blk_lt (g := gb359) (o := .cells #[.int .i64 t355, .int .i64 t356, .string t357] 24 (0, 0)) (by (with_reducible repeat (first | refine blk_drewN ?_ _ | refine blk_drew ?_ | refine blk_alloc ?_ _)); exact BK359.out)) : gb359 ≠ gb402)); have n7_ := Aside0.mk ((by rw [hg]; exact Nat.ne_of_gt (blk_lt (g := gb359) (o := .cells #[.int .i64 t355, .int .i64 t356, .string t357] 24 (0, 0)) (by (with_reducible repeat (first | refine blk_drewN ?_ _ | refine blk_drew ?_ | refine blk_alloc ?_ _)); exact BK359.out)) : gb402 ≠ gb359)); clear HO_9; clear BK359; clear HB; have HO_9 := n0_; have BK359 := n1_; have HB := n2_; have BK402 := n3_; have GW402 := n4_; have GE402 := n5_; have NB359_402 := n6_; have NB402_359 := n7_; clear n0_ n1_ n2_ n3_ n4_ n5_ n6_ n7_; clear hb hbox hg; have hnb57 := NB402_359.out; have hnc57 := NB359_402.out; have hcz58_0 : w56.cell? ⟨gb402, 0, none⟩ = some (.int .i64 0) := (blk_cell BK402.out 0).trans rfl; have hcz58_1 : w56.cell? ⟨gb402, 1, none⟩ = some (.int .i64 0) := (blk_cell BK402.out 1).trans rfl; have hcz58_2 : w56.cell? ⟨gb402, 2, none⟩ = some (.string (⟨#[]⟩ : ByteArray)) := (blk_cell BK402.out 2).trans rfl; have hfz58_0 := blk_frozen BK402.out 0; have hfz58_1 := blk_frozen BK402.out 1; have hfz58_2 := blk_frozen BK402.out 2) | ((with_reducible refine gate_callee (f := 26) rfl ?_); refine goesL_ (some 82) rfl rfl Try.func26 (by kernel_rfl) rfl #[.agg #[.int .i64 t398, .int .i64 t399, .string t400]] rfl (by (try simp only [List.map_toArray, List.map_cons, List.map_nil]); first | done | rfl | (simp only [List.length_drop, List.length_take]; rfl)) ?_; (with_reducible refine (matrix_Inverse.calls t398 t399 t400 t403 t404 t405 t406 _ A51.out).mono ?_); rintro e w59 ⟨rfl, hb⟩; refine ⟨_, rfl, ?_⟩; have n0_ := Aside0.mk (Kd.R_below (by (with_reducible repeat (first | apply Kd.R_alloc | apply Kd.R_drewN | apply Kd.R_drew)); exact (Kd.R_mono (Kd.R_far (p := ⟨gb402, 2, none⟩) (Kd.R_far (p := ⟨gb402, 1, none⟩) (Kd.R_far (p := ⟨gb402, 0, none⟩) (Kd.R_types HO_9.out BK402.out (by decide)) (fun _ hk => hk.2) (.int .i64 t398)) (fun _ hk => hk.2) (.int .i64 t399)) (fun _ hk => hk.2) (.string t400)) (fun _ h_ => h_.1))) hb); have n1_ := Aside0.mk (blk_below (g := gb359) (o := .cells #[.int .i64 t355, .int .i64 t356, .string t357] 24 (0, 0)) (by (with_reducible repeat (first | refine blk_drewN ?_ _ | refine blk_drew ?_ | refine blk_alloc ?_ _)); refine blk_far ?_ NB359_402.out _; (with_reducible repeat (first | refine blk_drewN ?_ _ | refine blk_drew ?_ | refine blk_alloc ?_ _)); refine blk_far ?_ NB359_402.out _; (with_reducible repeat (first | refine blk_drewN ?_ _ | refine blk_drew ?_ | refine blk_alloc ?_ _)); refine blk_far ?_ NB359_402.out _; (with_reducible repeat (first | refine blk_drewN ?_ _ | refine blk_drew ?_ | refine blk_alloc ?_ _)); exact BK359.out) hb); have n2_ := Aside0.mk (blk_below (g := gb402) (o := .cells #[.int .i64 t398, .int .i64 t399, .string t400] 24 (0, 0)) (by (with_reducible repeat (first | refine blk_drewN ?_ _ | refine blk_drew ?_ | refine blk_alloc ?_ _)); refine blk_put (cs := #[.int .i64 t398, .int .i64 t399, .string (⟨#[]⟩ : ByteArray)]) ?_ 2 _ rfl; (with_reducible repeat (first | refine blk_drewN ?_ _ | refine blk_drew ?_ | refine blk_alloc ?_ _)); refine blk_put (cs := #[.int .i64 t398, .int .i64 0, .string (⟨#[]⟩ : ByteArray)]) ?_ 1 _ rfl; (with_reducible repeat (first | refine blk_drewN ?_ _ | refine blk_drew ?_ | refine blk_alloc ?_ _)); refine blk_put (cs := #[.int .i64 0, .int .i64 0, .string (⟨#[]⟩ : ByteArray)]) ?_ 0 _ rfl; (with_reducible repeat (first | refine blk_drewN ?_ _ | refine blk_drew ?_ | refine blk_alloc ?_ _)); exact BK402.out) hb); have n3_ := Aside0.mk (below_step (by repeat (first | (with_reducible first | exact HB.out | apply below_alloc | apply pw_below_drewN | apply below_drew1 | refine below_set ?_ GE359.out | refine below_set ?_ GE402.out) | exact HB.out)) hb); clear HO_9; clear BK359; clear BK402; clear HB; have HO_9 := n0_; have BK359 := n1_; have BK402 := n2_; have HB := n3_; clear n0_ n1_ n2_ n3_; (try clear hb); (try clear hb2); (try clear hk); (try clear hi)) | ((with_reducible refine gate_dst (N := 15) rfl ?_); refine box_event ?hg (N := 15) ?hd (cs := #[.int .i64 0, .int .i64 0, .string (⟨#[]⟩ : ByteArray)]) (t := 24) ?hr ?_; (case hd => rfl); (case hg => rfl); (case hr => first | (go_simp; done) | (go_simp; rfl)); intro gb407 hg w60 hbox hb; have n0_ := Aside0.mk (Kd.R_below (by (with_reducible repeat (first | apply Kd.R_alloc | apply Kd.R_drewN | apply Kd.R_drew)); exact HO_9.out) hb); have n1_ := Aside0.mk (blk_below (g := gb359) (o := .cells #[.int .i64 t355, .int .i64 t356, .string t357] 24 (0, 0)) (by (with_reducible repeat (first | refine blk_drewN ?_ _ | refine blk_drew ?_ | refine blk_alloc ?_ _)); exact BK359.out) hb); have n2_ := Aside0.mk (blk_below (g := gb402) (o := .cells #[.int .i64 t398, .int .i64 t399, .string t400] 24 (0, 0)) (by (with_reducible repeat (first | refine blk_drewN ?_ _ | refine blk_drew ?_ | refine blk_alloc ?_ _)); exact BK402.out) hb); have n3_ := Aside0.mk (below_step (by repeat (first | (with_reducible first | exact HB.out | apply below_alloc | apply pw_below_drewN | apply below_drew1 | refine below_set ?_ GE359.out | refine below_set ?_ GE402.out) | exact HB.out)) hb); have n4_ := Aside0.mk (hbox); have n5_ := Aside0.mk ((by rw [hg]; exact (below_size (by repeat (first | (with_reducible first | exact HB.out | apply below_alloc | apply pw_below_drewN | apply below_drew1 | refine below_set ?_ GE359.out | refine below_set ?_ GE402.out) | exact HB.out))) : w.heap.size ≤ gb407)); have n6_ := Aside0.mk ((by rw [hg]; exact (below_size (by repeat (first | (with_reducible first | exact HB.out | apply below_alloc | apply pw_below_drewN | apply below_drew1 | refine below_set ?_ GE359.out | refine below_set ?_ GE402.out) | exact HB.out))) : w.heap.size ≤ gb407)); have n7_ := Aside0.mk ((by rw [hg]; exact Nat.ne_of_lt (blk_lt (g := gb359) (o := .cells #[.int .i64 t355, .int .i64 t356, .string t357] 24 (0, 0)) (by (with_reducible repeat (first | refine blk_drewN ?_ _ | refine blk_drew ?_ | refine blk_alloc ?_ _)); exact BK359.out)) : gb359 ≠ gb407)); have n8_ := Aside0.mk ((by rw [hg]; exact Nat.ne_of_gt (blk_lt (g := gb359) (o := .cells #[.int .i64 t355, .int .i64 t356, .string t357] 24 (0, 0)) (by (with_reducible repeat (first | refine blk_drewN ?_ _ | refine blk_drew ?_ | refine blk_alloc ?_ _)); exact BK359.out)) : gb407 ≠ gb359)); have n9_ := Aside0.mk ((by rw [hg]; exact Nat.ne_of_lt (blk_lt (g := gb402) (o := .cells #[.int .i64 t398, .int .i64 t399, .string t400] 24 (0, 0)) (by (with_reducible repeat (first | refine blk_drewN ?_ _ | refine blk_drew ?_ | refine blk_alloc ?_ _)); exact BK402.out)) : gb402 ≠ gb407)); have n10_ := Aside0.mk ((by rw [hg]; exact Nat.ne_of_gt (blk_lt (g := gb402) (o := .cells #[.int .i64 t398, .int .i64 t399, .string t400] 24 (0, 0)) (by (with_reducible repeat (first | refine blk_drewN ?_ _ | refine blk_drew ?_ | refine blk_alloc ?_ _)); exact BK402.out)) : gb407 ≠ gb402)); clear HO_9; clear BK359; clear BK402; clear HB; have HO_9 := n0_; have BK359 := n1_; have BK402 := n2_; have HB := n3_; have BK407 := n4_; have GW407 := n5_; have GE407 := n6_; have NB359_407 := n7_; have NB407_359 := n8_; have NB402_407 := n9_; have NB407_402 := n10_; clear n0_ n1_ n2_ n3_ n4_ n5_ n6_ n7_ n8_ n9_ n10_; clear hb hbox hg; have hnb61 := NB407_359.out; have hnc61 := NB359_407.out; have hnb62 := NB407_402.out; have hnc62 := NB402_407.out; have hcz63_0 : w60.cell? ⟨gb407, 0, none⟩ = some (.int .i64 0) := (blk_cell BK407.out 0).trans rfl; have hcz63_1 : w60.cell? ⟨gb407, 1, none⟩ = some (.int .i64 0) := (blk_cell BK407.out 1).trans rfl; have hcz63_2 : w60.cell? ⟨gb407, 2, none⟩ = some (.string (⟨#[]⟩ : ByteArray)) := (blk_cell BK407.out 2).trans rfl; have hfz63_0 := blk_frozen BK407.out 0; have hfz63_1 := blk_frozen BK407.out 1; have hfz63_2 := blk_frozen BK407.out 2))
                    go_ret
                    exact ⟨by first | rfl | (simp [errW_none, errW_some] <;> rfl) | (simp [*, errW_none, errW_some] <;> rfl), by repeat (first | (with_reducible first | exact HB.out | apply below_alloc | apply pw_below_drewN | apply below_drew1 | refine below_set ?_ GE359.out | refine below_set ?_ GE402.out | refine below_set ?_ GE407.out) | exact HB.out)⟩
                  · rw [if_neg c52] at H
                    have c52b0 : (t401 == 0) = false := beq_eq_false_iff_ne.mpr c52
                    have c52b1 : (t401 != 0) = true := bne_iff_ne.mpr c52
                    exact absurd (H.trans (congrArg some HRT.out)) (by simp)
    · rw [if_neg c8] at H
      have c8b0 : (t358 == 0) = false := beq_eq_false_iff_ne.mpr c8
      have c8b1 : (t358 != 0) = true := bne_iff_ne.mpr c8
      exact absurd (H.trans (congrArg some HRT.out)) (by simp)
  · replace c5 := Bool.eq_false_iff.mpr c5
    subst c5
    have H1 : (some false) = some r := by rw [if_neg (show ¬ (false = true) by decide)] at H; exact H
    clear H
    have H := H1
    clear H1
    exact absurd (H.trans (congrArg some HRT.out)) (by simp)
/-- THE ONE PURE STATEMENT of corncriblaw02_MatrixAny: yours. -/
def corncriblaw02_MatrixAny.Pure : Prop := ∀ (a0 : Int) (a1 : Int) (l2 : List Int), (Lit.int .i64 a0).wf = true → (Lit.int .i64 a1).wf = true → l2.length ≤ maxLen → l2.length * 8 ≤ 140737488351232 → (∀ x ∈ l2, (Lit.int .i64 x).wf = true) → ∃ k, corncriblaw02_MatrixAny.f k a0 a1 l2 = some true
theorem corncriblaw02_MatrixAny.walk (P : corncriblaw02_MatrixAny.Pure) (a0 : Int) (a1 : Int) (a2 : Option Addr) (len2 cap2 : Nat) (z2 : List Int) (w : World) (w0 : (Lit.int .i64 a0).wf = true) (w1 : (Lit.int .i64 a1).wf = true) (w2 : (a2 = none ∧ len2 = 0 ∧ cap2 = 0 ∧ z2 = []) ∨ ∃ x, a2 = some x ∧ len2 ≤ cap2 ∧ cap2 ≤ maxLen ∧ z2.length = cap2 ∧ (∀ i, i < z2.length → w.cell? (x.add i) = some (.int .i64 (z2.getD i 0))) ∧ ∀ n ∈ z2, (Lit.int .i64 n).wf = true) (y2 : len2 * 8 ≤ 140737488351232) :
    Calls Try.prog 9 #[.int .i64 a0, .int .i64 a1, .slice a2 len2 cap2] w fun e w' => e = .returned (.bool true) ∧ Below w.heap.size w w' := by
  obtain ⟨l2, rfl, hr2, hm2, hw2, hc2⟩ := ReadsInt.ofRowC w2
  obtain ⟨k, h⟩ := P a0 a1 l2 w0 w1 hm2 y2 hw2
  refine (corncriblaw02_MatrixAny.calls k a0 a1 _ _ l2 true w (Kd.C_of_reads (d := (0 : Int)) (h1 := fun _ => rfl) hr2) hc2 h rfl).mono ?_
  rintro e w' ⟨rfl, hd⟩
  exact ⟨rfl, hd⟩

end Go.Proofs.Ytoghhpkmficnmaa.Al
