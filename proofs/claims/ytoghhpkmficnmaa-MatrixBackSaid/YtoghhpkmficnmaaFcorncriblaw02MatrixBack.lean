/- One function of the program comes to what its plain twin says. This text began as the kit's own print (print.py, made by cprint.sh) and was turned by split.py: it is no printed file. -/
import Derived.Test.YtoghhpkmficnmaaPrb
namespace Go.Proofs.Ytoghhpkmficnmaa.Al
open Go.RowKit Go.Proofs.YtoghhpkmficnmaaW.PrintWords Go.Proofs.YtoghhpkmficnmaaW.PrintLast Go.Proofs.YtoghhpkmficnmaaW.PrintMore
attribute [local go_sem] max2_int min2_int max_two min_two max_three min_three max_four min_four   -- for this text's walks alone
set_option linter.unusedVariables false
set_option linter.unusedSimpArgs false

attribute [local go_sem high] eqA24
/-! ### corncriblaw02_MatrixBack: function 10 -/
def corncriblaw02_MatrixBack.j0 : Nat → Int → Int → Int → ByteArray → Int → Int → ByteArray → Option (Bool)
  | 0, _, _, _, _, _, _, _ => none
  | k + 1, x7, x415000, x415001, x415002, x420000, x420001, x420002 => if x7 = 20 then (some (x420000 == 0 && (x420001 == 0 && (x420002.toList == ([] : List UInt8))))) else ((matrix_Identity.f x415000).bind fun bt426 => ((matrix_Mul.f x420000 x420001 x420002 x415000 x415001 x415002).bind fun bt431 => ((matrix_Mul.f x415000 x415001 x415002 x420000 x420001 x420002).bind fun bt436 => ((matrix_Inverse.f x420000 x420001 x420002).bind fun bt441 => (if x7 = 0 then (if bt426.2.2.2 = 0 then (if bt431.2.2.2 = 0 then (if bt436.2.2.2 = 0 then (if bt441.2.2.2 = 0 then (if (bt431.1 == bt426.1 && (bt431.2.1 == bt426.2.1 && (bt431.2.2.1.toList == bt426.2.2.1.toList))) = true then (if (bt436.1 == bt426.1 && (bt436.2.1 == bt426.2.1 && (bt436.2.2.1.toList == bt426.2.2.1.toList))) = true then (some (bt441.1 == x415000 && (bt441.2.1 == x415001 && (bt441.2.2.1.toList == x415002.toList)))) else (some false)) else (some false)) else (some false)) else (some false)) else (some false)) else (some false)) else (some false))))))
def corncriblaw02_MatrixBack.f (k : Nat) (a0 : Int) (a1 : ByteArray) : Option (Bool) := (corncriblaw02_works.f).bind fun t408 => (if t408 = true then ((corncriblaw02_side.f a0).bind fun t409 => ((corncriblaw02_side.f a0).bind fun t410 => ((corncriblaw02_made.f t409 t410 a1).bind fun bt411 => ((matrix_Inverse.f bt411.1 bt411.2.1 bt411.2.2).bind fun bt415 => (if bt411.1 > 1 then (if 0 ≤ bt411.2.1 then (if bt411.2.1 ≤ (bt411.2.2.size : Int) then (if bt411.2.1 ≤ (wrap64 (2 * bt411.2.1)) then (if (wrap64 (2 * bt411.2.1)) ≤ (bt411.2.2.size : Int) then (if (bt411.2.2.extract (bt411.2.1 : Int).toNat bt411.2.2.size).size + (bt411.2.2.extract (bt411.2.1 : Int).toNat ((wrap64 (2 * bt411.2.1)) : Int).toNat).size ≤ 9223372036854775807 then ((matrix_Inverse.f bt411.1 bt411.2.1 ((bt411.2.2.extract (bt411.2.1 : Int).toNat bt411.2.2.size) ++ (bt411.2.2.extract (bt411.2.1 : Int).toNat ((wrap64 (2 * bt411.2.1)) : Int).toNat))).bind fun bt421 => (if bt421.2.2.2 = 20 then (corncriblaw02_MatrixBack.j0 k bt415.2.2.2 bt411.1 bt411.2.1 bt411.2.2 bt415.1 bt415.2.1 bt415.2.2.1) else (some false))) else (none)) else (none)) else (none)) else (none)) else (none)) else (corncriblaw02_MatrixBack.j0 k bt415.2.2.2 bt411.1 bt411.2.1 bt411.2.2 bt415.1 bt415.2.1 bt415.2.2.1)))))) else (some false))
theorem corncriblaw02_MatrixBack.mono_l : ∀ k, (∀ y0 y1 y2 y3 y4 y5 y6, LeO (corncriblaw02_MatrixBack.j0 k y0 y1 y2 y3 y4 y5 y6) (corncriblaw02_MatrixBack.j0 (k + 1) y0 y1 y2 y3 y4 y5 y6))
  | 0 => fun _ _ _ _ _ _ _ r h => by simp [corncriblaw02_MatrixBack.j0] at h
  | k + 1 => by
    have ih0 := corncriblaw02_MatrixBack.mono_l k
    · intro y0 y1 y2 y3 y4 y5 y6
      unfold corncriblaw02_MatrixBack.j0
      repeat' first
      | (with_reducible exact ih0 _ _ _ _ _ _ _)
      | (with_reducible exact LeO.refl _)
      | (with_reducible exact LeO.none _)
      | (with_reducible refine LeO.ite ?_ ?_)
      | (with_reducible refine LeO.bind ?_ (fun _ => ?_))
      | exact ih0 _ _ _ _ _ _ _
      | exact LeO.none _
      | refine LeO.ite ?_ ?_
      | refine LeO.bind ?_ (fun _ => ?_)
theorem corncriblaw02_MatrixBack.mono : ∀ a0 a1 k, LeO (corncriblaw02_MatrixBack.f k a0 a1) (corncriblaw02_MatrixBack.f (k + 1) a0 a1) := by
  intro a0 a1 k
  have ih0 := corncriblaw02_MatrixBack.mono_l k
  unfold corncriblaw02_MatrixBack.f
  repeat' first
      | (with_reducible exact ih0 _ _ _ _ _ _ _)
      | (with_reducible exact LeO.refl _)
      | (with_reducible exact LeO.none _)
      | (with_reducible refine LeO.ite ?_ ?_)
      | (with_reducible refine LeO.bind ?_ (fun _ => ?_))
      | exact ih0 _ _ _ _ _ _ _
      | exact LeO.none _
      | refine LeO.ite ?_ ?_
      | refine LeO.bind ?_ (fun _ => ?_)
def corncriblaw02_MatrixBack.T6 : Bool × List (List Nat × List Nat) := (true, [([], []), ([0], [0]), ([], []), ([2], [2]), ([], []), ([4], [4]), ([], []), ([6], [6]), ([5, 7], [5, 7]), ([], []), ([9], [9]), ([], []), ([11], [11]), ([], []), ([13], [13]), ([14], [14]), ([10, 12, 15], [10, 12, 15]), ([8, 16], [8, 16]), ([1, 3, 17], [1, 3, 17]), ([], []), ([19, 18, 0, 1, 2, 3, 4, 5, 6, 7, 8, 9, 10, 11, 12, 13, 14, 15, 16, 17, 18, 19], [18, 19])])
def corncriblaw02_MatrixBack.B6 : List Nat := [0, 1, 0, 4, 0, 16, 0, 64, 240, 0, 512, 0, 2048, 0, 8192, 24576, 65024, 131056, 262143, 0, 1048575]
theorem corncriblaw02_MatrixBack.tab6 : rtab .any (opsOf Try.f10 6) = corncriblaw02_MatrixBack.T6 := by kernel_rfl
theorem corncriblaw02_MatrixBack.bits6 : waitsOk corncriblaw02_MatrixBack.T6.2 corncriblaw02_MatrixBack.B6 = true := by kernel_rfl
set_option maxHeartbeats 8000000 in
set_option maxRecDepth 100000 in
theorem corncriblaw02_MatrixBack.calls (k : Nat) (a0 : Int) (a1 : ByteArray) (r : Bool) (w : World) (h : corncriblaw02_MatrixBack.f k a0 a1 = some r) (hr_ : r = true) :
    Calls Try.prog 10 #[.int .i64 a0, .string a1] w fun e w' => e = .returned (.bool r) ∧ Below w.heap.size w w' := by
  have HRT := Aside0.mk hr_
  clear hr_
  have hu24 := Try.underlying24
  have HB := Aside0.mk (Below.refl w.heap.size w)
  have H : ((corncriblaw02_works.f).bind fun t408 => (if t408 = true then ((corncriblaw02_side.f a0).bind fun t409 => ((corncriblaw02_side.f a0).bind fun t410 => ((corncriblaw02_made.f t409 t410 a1).bind fun bt411 => ((matrix_Inverse.f bt411.1 bt411.2.1 bt411.2.2).bind fun bt415 => (if bt411.1 > 1 then (if 0 ≤ bt411.2.1 then (if bt411.2.1 ≤ (bt411.2.2.size : Int) then (if bt411.2.1 ≤ (wrap64 (2 * bt411.2.1)) then (if (wrap64 (2 * bt411.2.1)) ≤ (bt411.2.2.size : Int) then (if (bt411.2.2.extract (bt411.2.1 : Int).toNat bt411.2.2.size).size + (bt411.2.2.extract (bt411.2.1 : Int).toNat ((wrap64 (2 * bt411.2.1)) : Int).toNat).size ≤ 9223372036854775807 then ((matrix_Inverse.f bt411.1 bt411.2.1 ((bt411.2.2.extract (bt411.2.1 : Int).toNat bt411.2.2.size) ++ (bt411.2.2.extract (bt411.2.1 : Int).toNat ((wrap64 (2 * bt411.2.1)) : Int).toNat))).bind fun bt421 => (if bt421.2.2.2 = 20 then (corncriblaw02_MatrixBack.j0 k bt415.2.2.2 bt411.1 bt411.2.1 bt411.2.2 bt415.1 bt415.2.1 bt415.2.2.1) else (some false))) else (none)) else (none)) else (none)) else (none)) else (none)) else (corncriblaw02_MatrixBack.j0 k bt415.2.2.2 bt411.1 bt411.2.1 bt411.2.2 bt415.1 bt415.2.1 bt415.2.2.1)))))) else (some false))) = some r := h
  clear h
  replace H := Option.bind_eq_some_iff.mp H
  obtain ⟨t408, A30, H⟩ := H
  replace H : (if t408 = true then ((corncriblaw02_side.f a0).bind fun t409 => ((corncriblaw02_side.f a0).bind fun t410 => ((corncriblaw02_made.f t409 t410 a1).bind fun bt411 => ((matrix_Inverse.f bt411.1 bt411.2.1 bt411.2.2).bind fun bt415 => (if bt411.1 > 1 then (if 0 ≤ bt411.2.1 then (if bt411.2.1 ≤ (bt411.2.2.size : Int) then (if bt411.2.1 ≤ (wrap64 (2 * bt411.2.1)) then (if (wrap64 (2 * bt411.2.1)) ≤ (bt411.2.2.size : Int) then (if (bt411.2.2.extract (bt411.2.1 : Int).toNat bt411.2.2.size).size + (bt411.2.2.extract (bt411.2.1 : Int).toNat ((wrap64 (2 * bt411.2.1)) : Int).toNat).size ≤ 9223372036854775807 then ((matrix_Inverse.f bt411.1 bt411.2.1 ((bt411.2.2.extract (bt411.2.1 : Int).toNat bt411.2.2.size) ++ (bt411.2.2.extract (bt411.2.1 : Int).toNat ((wrap64 (2 * bt411.2.1)) : Int).toNat))).bind fun bt421 => (if bt421.2.2.2 = 20 then (corncriblaw02_MatrixBack.j0 k bt415.2.2.2 bt411.1 bt411.2.1 bt411.2.2 bt415.1 bt415.2.1 bt415.2.2.1) else (some false))) else (none)) else (none)) else (none)) else (none)) else (none)) else (corncriblaw02_MatrixBack.j0 k bt415.2.2.2 bt411.1 bt411.2.1 bt411.2.2 bt415.1 bt415.2.1 bt415.2.2.1)))))) else (some false)) = some r := H
  have A3 := Aside0.mk A30
  clear A30
  by_cases c4 : t408 = true
  · subst c4
    have H1 : ((corncriblaw02_side.f a0).bind fun t409 => ((corncriblaw02_side.f a0).bind fun t410 => ((corncriblaw02_made.f t409 t410 a1).bind fun bt411 => ((matrix_Inverse.f bt411.1 bt411.2.1 bt411.2.2).bind fun bt415 => (if bt411.1 > 1 then (if 0 ≤ bt411.2.1 then (if bt411.2.1 ≤ (bt411.2.2.size : Int) then (if bt411.2.1 ≤ (wrap64 (2 * bt411.2.1)) then (if (wrap64 (2 * bt411.2.1)) ≤ (bt411.2.2.size : Int) then (if (bt411.2.2.extract (bt411.2.1 : Int).toNat bt411.2.2.size).size + (bt411.2.2.extract (bt411.2.1 : Int).toNat ((wrap64 (2 * bt411.2.1)) : Int).toNat).size ≤ 9223372036854775807 then ((matrix_Inverse.f bt411.1 bt411.2.1 ((bt411.2.2.extract (bt411.2.1 : Int).toNat bt411.2.2.size) ++ (bt411.2.2.extract (bt411.2.1 : Int).toNat ((wrap64 (2 * bt411.2.1)) : Int).toNat))).bind fun bt421 => (if bt421.2.2.2 = 20 then (corncriblaw02_MatrixBack.j0 k bt415.2.2.2 bt411.1 bt411.2.1 bt411.2.2 bt415.1 bt415.2.1 bt415.2.2.1) else (some false))) else (none)) else (none)) else (none)) else (none)) else (none)) else (corncriblaw02_MatrixBack.j0 k bt415.2.2.2 bt411.1 bt411.2.1 bt411.2.2 bt415.1 bt415.2.1 bt415.2.2.1)))))) = some r := by rw [if_pos rfl] at H; exact H
    clear H
    have H := H1
    clear H1
    replace H := Option.bind_eq_some_iff.mp H
    obtain ⟨t409, A50, H⟩ := H
    replace H : ((corncriblaw02_side.f a0).bind fun t410 => ((corncriblaw02_made.f t409 t410 a1).bind fun bt411 => ((matrix_Inverse.f bt411.1 bt411.2.1 bt411.2.2).bind fun bt415 => (if bt411.1 > 1 then (if 0 ≤ bt411.2.1 then (if bt411.2.1 ≤ (bt411.2.2.size : Int) then (if bt411.2.1 ≤ (wrap64 (2 * bt411.2.1)) then (if (wrap64 (2 * bt411.2.1)) ≤ (bt411.2.2.size : Int) then (if (bt411.2.2.extract (bt411.2.1 : Int).toNat bt411.2.2.size).size + (bt411.2.2.extract (bt411.2.1 : Int).toNat ((wrap64 (2 * bt411.2.1)) : Int).toNat).size ≤ 9223372036854775807 then ((matrix_Inverse.f bt411.1 bt411.2.1 ((bt411.2.2.extract (bt411.2.1 : Int).toNat bt411.2.2.size) ++ (bt411.2.2.extract (bt411.2.1 : Int).toNat ((wrap64 (2 * bt411.2.1)) : Int).toNat))).bind fun bt421 => (if bt421.2.2.2 = 20 then (corncriblaw02_MatrixBack.j0 k bt415.2.2.2 bt411.1 bt411.2.1 bt411.2.2 bt415.1 bt415.2.1 bt415.2.2.1) else (some false))) else (none)) else (none)) else (none)) else (none)) else (none)) else (corncriblaw02_MatrixBack.j0 k bt415.2.2.2 bt411.1 bt411.2.1 bt411.2.2 bt415.1 bt415.2.1 bt415.2.2.1))))) = some r := H
    have A5 := Aside0.mk A50
    clear A50
    replace H := Option.bind_eq_some_iff.mp H
    obtain ⟨t410, A60, H⟩ := H
    replace H : ((corncriblaw02_made.f t409 t410 a1).bind fun bt411 => ((matrix_Inverse.f bt411.1 bt411.2.1 bt411.2.2).bind fun bt415 => (if bt411.1 > 1 then (if 0 ≤ bt411.2.1 then (if bt411.2.1 ≤ (bt411.2.2.size : Int) then (if bt411.2.1 ≤ (wrap64 (2 * bt411.2.1)) then (if (wrap64 (2 * bt411.2.1)) ≤ (bt411.2.2.size : Int) then (if (bt411.2.2.extract (bt411.2.1 : Int).toNat bt411.2.2.size).size + (bt411.2.2.extract (bt411.2.1 : Int).toNat ((wrap64 (2 * bt411.2.1)) : Int).toNat).size ≤ 9223372036854775807 then ((matrix_Inverse.f bt411.1 bt411.2.1 ((bt411.2.2.extract (bt411.2.1 : Int).toNat bt411.2.2.size) ++ (bt411.2.2.extract (bt411.2.1 : Int).toNat ((wrap64 (2 * bt411.2.1)) : Int).toNat))).bind fun bt421 => (if bt421.2.2.2 = 20 then (corncriblaw02_MatrixBack.j0 k bt415.2.2.2 bt411.1 bt411.2.1 bt411.2.2 bt415.1 bt415.2.1 bt415.2.2.1) else (some false))) else (none)) else (none)) else (none)) else (none)) else (none)) else (corncriblaw02_MatrixBack.j0 k bt415.2.2.2 bt411.1 bt411.2.1 bt411.2.2 bt415.1 bt415.2.1 bt415.2.2.1)))) = some r := H
    have A6 := Aside0.mk A60
    clear A60
    replace H := Option.bind_eq_some_iff.mp H
    obtain ⟨⟨t411, t412, t413⟩, A70, H⟩ := H
    replace H : ((matrix_Inverse.f t411 t412 t413).bind fun bt415 => (if t411 > 1 then (if 0 ≤ t412 then (if t412 ≤ (t413.size : Int) then (if t412 ≤ (wrap64 (2 * t412)) then (if (wrap64 (2 * t412)) ≤ (t413.size : Int) then (if (t413.extract (t412 : Int).toNat t413.size).size + (t413.extract (t412 : Int).toNat ((wrap64 (2 * t412)) : Int).toNat).size ≤ 9223372036854775807 then ((matrix_Inverse.f t411 t412 ((t413.extract (t412 : Int).toNat t413.size) ++ (t413.extract (t412 : Int).toNat ((wrap64 (2 * t412)) : Int).toNat))).bind fun bt421 => (if bt421.2.2.2 = 20 then (corncriblaw02_MatrixBack.j0 k bt415.2.2.2 t411 t412 t413 bt415.1 bt415.2.1 bt415.2.2.1) else (some false))) else (none)) else (none)) else (none)) else (none)) else (none)) else (corncriblaw02_MatrixBack.j0 k bt415.2.2.2 t411 t412 t413 bt415.1 bt415.2.1 bt415.2.2.1))) = some r := H
    have A7 := Aside0.mk A70
    clear A70
    replace H := Option.bind_eq_some_iff.mp H
    obtain ⟨⟨t415, t416, t417, t418⟩, A80, H⟩ := H
    replace H : (if t411 > 1 then (if 0 ≤ t412 then (if t412 ≤ (t413.size : Int) then (if t412 ≤ (wrap64 (2 * t412)) then (if (wrap64 (2 * t412)) ≤ (t413.size : Int) then (if (t413.extract (t412 : Int).toNat t413.size).size + (t413.extract (t412 : Int).toNat ((wrap64 (2 * t412)) : Int).toNat).size ≤ 9223372036854775807 then ((matrix_Inverse.f t411 t412 ((t413.extract (t412 : Int).toNat t413.size) ++ (t413.extract (t412 : Int).toNat ((wrap64 (2 * t412)) : Int).toNat))).bind fun bt421 => (if bt421.2.2.2 = 20 then (corncriblaw02_MatrixBack.j0 k t418 t411 t412 t413 t415 t416 t417) else (some false))) else (none)) else (none)) else (none)) else (none)) else (none)) else (corncriblaw02_MatrixBack.j0 k t418 t411 t412 t413 t415 t416 t417)) = some r := H
    have A8 := Aside0.mk A80
    clear A80
    have HC9 := Aside0.mk H
    clear H
    go_enter Try.func10, Try.ntmps10
    go_upto_if 34 with (first | ((with_reducible refine gate_callee (f := 11) rfl ?_); refine goesL_ (some 19) rfl rfl Try.func11 (by kernel_rfl) rfl #[] rfl (by (try simp only [List.map_toArray, List.map_cons, List.map_nil]); first | done | rfl | (simp only [List.length_drop, List.length_take]; rfl)) ?_; (with_reducible refine (corncriblaw02_works.calls  true _ A3.out).mono ?_); rintro e w10 ⟨rfl, hb⟩; refine ⟨_, rfl, ?_⟩; have n0_ := Aside0.mk (below_step (by repeat (first | (with_reducible first | exact HB.out | apply below_alloc | apply pw_below_drewN | apply below_drew1) | exact HB.out)) hb); clear HB; have HB := n0_; clear n0_; (try clear hb); (try clear hb2); (try clear hk); (try clear hi)) | ((with_reducible refine gate_callee (f := 24) rfl ?_); refine goesL_ (some 22) rfl rfl Try.func24 (by kernel_rfl) rfl #[.int .i64 a0] rfl (by (try simp only [List.map_toArray, List.map_cons, List.map_nil]); first | done | rfl | (simp only [List.length_drop, List.length_take]; rfl)) ?_; (with_reducible refine (corncriblaw02_side.calls a0 t409 _ A5.out).mono ?_); rintro e w' ⟨rfl, ⟨nd, rfl⟩⟩; refine ⟨_, rfl, ?_⟩; (try (rw [drewN_self w10]; generalize hq_ : World.drewN w10 _ = w10; have n0_ : Aside0 (Below w.heap.size w w10) := ⟨by rw [← hq_]; exact (by repeat (first | (with_reducible first | exact HB.out | apply below_alloc | apply pw_below_drewN | apply below_drew1) | exact HB.out))⟩; clear HB hq_; have HB := n0_; clear n0_))) | ((with_reducible refine gate_callee (f := 24) rfl ?_); refine goesL_ (some 24) rfl rfl Try.func24 (by kernel_rfl) rfl #[.int .i64 a0] rfl (by (try simp only [List.map_toArray, List.map_cons, List.map_nil]); first | done | rfl | (simp only [List.length_drop, List.length_take]; rfl)) ?_; (with_reducible refine (corncriblaw02_side.calls a0 t410 _ A6.out).mono ?_); rintro e w' ⟨rfl, ⟨nd, rfl⟩⟩; refine ⟨_, rfl, ?_⟩; (try (rw [drewN_self w10]; generalize hq_ : World.drewN w10 _ = w10; have n0_ : Aside0 (Below w.heap.size w w10) := ⟨by rw [← hq_]; exact (by repeat (first | (with_reducible first | exact HB.out | apply below_alloc | apply pw_below_drewN | apply below_drew1) | exact HB.out))⟩; clear HB hq_; have HB := n0_; clear n0_))) | ((with_reducible refine gate_callee (f := 23) rfl ?_); refine goesL_ (some 26) rfl rfl Try.func23 (by kernel_rfl) rfl #[.int .i64 t409, .int .i64 t410, .string a1] rfl (by (try simp only [List.map_toArray, List.map_cons, List.map_nil]); first | done | rfl | (simp only [List.length_drop, List.length_take]; rfl)) ?_; (with_reducible refine (corncriblaw02_made.calls t409 t410 a1 t411 t412 t413 _ A7.out).mono ?_); rintro e w11 ⟨rfl, hb⟩; refine ⟨_, rfl, ?_⟩; have n0_ := Aside0.mk (below_step (by repeat (first | (with_reducible first | exact HB.out | apply below_alloc | apply pw_below_drewN | apply below_drew1) | exact HB.out)) hb); clear HB; have HB := n0_; clear n0_; (try clear hb); (try clear hb2); (try clear hk); (try clear hi)) | ((with_reducible refine gate_dst (N := 5) rfl ?_); refine box_event ?hg (N := 5) ?hd (cs := #[.int .i64 0, .int .i64 0, .string (⟨#[]⟩ : ByteArray)]) (t := 24) ?hr ?_; (case hd => rfl); (case hg => rfl); (case hr => first | (go_simp; done) | (go_simp; rfl)); intro gb414 hg w12 hbox hb; have n0_ := Aside0.mk (below_step (by repeat (first | (with_reducible first | exact HB.out | apply below_alloc | apply pw_below_drewN | apply below_drew1) | exact HB.out)) hb); have n1_ := Aside0.mk (hbox); have n2_ := Aside0.mk ((by rw [hg]; exact (below_size (by repeat (first | (with_reducible first | exact HB.out | apply below_alloc | apply pw_below_drewN | apply below_drew1) | exact HB.out))) : w.heap.size ≤ gb414)); have n3_ := Aside0.mk ((by rw [hg]; exact (below_size (by repeat (first | (with_reducible first | exact HB.out | apply below_alloc | apply pw_below_drewN | apply below_drew1) | exact HB.out))) : w.heap.size ≤ gb414)); clear HB; have HB := n0_; have BK414 := n1_; have GW414 := n2_; have GE414 := n3_; clear n0_ n1_ n2_ n3_; clear hb hbox hg; have hcz13_0 : w12.cell? ⟨gb414, 0, none⟩ = some (.int .i64 0) := (blk_cell BK414.out 0).trans rfl; have hcz13_1 : w12.cell? ⟨gb414, 1, none⟩ = some (.int .i64 0) := (blk_cell BK414.out 1).trans rfl; have hcz13_2 : w12.cell? ⟨gb414, 2, none⟩ = some (.string (⟨#[]⟩ : ByteArray)) := (blk_cell BK414.out 2).trans rfl; have hfz13_0 := blk_frozen BK414.out 0; have hfz13_1 := blk_frozen BK414.out 1; have hfz13_2 := blk_frozen BK414.out 2) | ((with_reducible refine gate_callee (f := 26) rfl ?_); refine goesL_ (some 29) rfl rfl Try.func26 (by kernel_rfl) rfl #[.agg #[.int .i64 t411, .int .i64 t412, .string t413]] rfl (by (try simp only [List.map_toArray, List.map_cons, List.map_nil]); first | done | rfl | (simp only [List.length_drop, List.length_take]; rfl)) ?_; (with_reducible refine (matrix_Inverse.calls t411 t412 t413 t415 t416 t417 t418 _ A8.out).mono ?_); rintro e w14 ⟨rfl, hb⟩; refine ⟨_, rfl, ?_⟩; have n0_ := Aside0.mk (blk_below (g := gb414) (o := .cells #[.int .i64 t411, .int .i64 t412, .string t413] 24 (0, 0)) (by (with_reducible repeat (first | refine blk_drewN ?_ _ | refine blk_drew ?_ | refine blk_alloc ?_ _)); refine blk_put (cs := #[.int .i64 t411, .int .i64 t412, .string (⟨#[]⟩ : ByteArray)]) ?_ 2 _ rfl; (with_reducible repeat (first | refine blk_drewN ?_ _ | refine blk_drew ?_ | refine blk_alloc ?_ _)); refine blk_put (cs := #[.int .i64 t411, .int .i64 0, .string (⟨#[]⟩ : ByteArray)]) ?_ 1 _ rfl; (with_reducible repeat (first | refine blk_drewN ?_ _ | refine blk_drew ?_ | refine blk_alloc ?_ _)); refine blk_put (cs := #[.int .i64 0, .int .i64 0, .string (⟨#[]⟩ : ByteArray)]) ?_ 0 _ rfl; (with_reducible repeat (first | refine blk_drewN ?_ _ | refine blk_drew ?_ | refine blk_alloc ?_ _)); exact BK414.out) hb); have n1_ := Aside0.mk (below_step (by repeat (first | (with_reducible first | exact HB.out | apply below_alloc | apply pw_below_drewN | apply below_drew1 | refine below_set ?_ GE414.out) | exact HB.out)) hb); clear BK414; clear HB; have BK414 := n0_; have HB := n1_; clear n0_ n1_; (try clear hb); (try clear hb2); (try clear hk); (try clear hi)) | ((with_reducible refine gate_dst (N := 6) rfl ?_); refine box_event ?hg (N := 6) ?hd (cs := #[.int .i64 0, .int .i64 0, .string (⟨#[]⟩ : ByteArray)]) (t := 24) ?hr ?_; (case hd => rfl); (case hg => rfl); (case hr => first | (go_simp; done) | (go_simp; rfl)); intro gb419 hg w15 hbox hb; have n0_ := Aside0.mk (blk_below (g := gb414) (o := .cells #[.int .i64 t411, .int .i64 t412, .string t413] 24 (0, 0)) (by (with_reducible repeat (first | refine blk_drewN ?_ _ | refine blk_drew ?_ | refine blk_alloc ?_ _)); exact BK414.out) hb); have n1_ := Aside0.mk (below_step (by repeat (first | (with_reducible first | exact HB.out | apply below_alloc | apply pw_below_drewN | apply below_drew1 | refine below_set ?_ GE414.out) | exact HB.out)) hb); have n2_ := Aside0.mk (hbox); have n3_ := Aside0.mk ((by rw [hg]; exact (below_size (by repeat (first | (with_reducible first | exact HB.out | apply below_alloc | apply pw_below_drewN | apply below_drew1 | refine below_set ?_ GE414.out) | exact HB.out))) : w.heap.size ≤ gb419)); have n4_ := Aside0.mk ((by rw [hg]; exact (below_size (by repeat (first | (with_reducible first | exact HB.out | apply below_alloc | apply pw_below_drewN | apply below_drew1 | refine below_set ?_ GE414.out) | exact HB.out))) : w.heap.size ≤ gb419)); have n5_ := Aside0.mk ((by rw [hg]; exact Nat.ne_of_lt (blk_lt (g := gb414) (o := .cells #[.int .i64 t411, .int .i64 t412, .string t413] 24 (0, 0)) (by (with_reducible repeat (first | refine blk_drewN ?_ _ | refine blk_drew ?_ | refine blk_alloc ?_ _)); exact BK414.out)) : gb414 ≠ gb419)); have n6_ := Aside0.mk ((by rw [hg]; exact Nat.ne_of_gt (blk_lt (g := gb414) (o := .cells #[.int .i64 t411, .int .i64 t412, .string t413] 24 (0, 0)) (by (with_reducible repeat (first | refine blk_drewN ?_ _ | refine blk_drew ?_ | refine blk_alloc ?_ _)); exact BK414.out)) : gb419 ≠ gb414)); clear BK414; clear HB; have BK414 := n0_; have HB := n1_; have BK419 := n2_; have GW419 := n3_; have GE419 := n4_; have NB414_419 := n5_; have NB419_414 := n6_; clear n0_ n1_ n2_ n3_ n4_ n5_ n6_; clear hb hbox hg; have hnb16 := NB419_414.out; have hnc16 := NB414_419.out; have hcz17_0 : w15.cell? ⟨gb419, 0, none⟩ = some (.int .i64 0) := (blk_cell BK419.out 0).trans rfl; have hcz17_1 : w15.cell? ⟨gb419, 1, none⟩ = some (.int .i64 0) := (blk_cell BK419.out 1).trans rfl; have hcz17_2 : w15.cell? ⟨gb419, 2, none⟩ = some (.string (⟨#[]⟩ : ByteArray)) := (blk_cell BK419.out 2).trans rfl; have hfz17_0 := blk_frozen BK419.out 0; have hfz17_1 := blk_frozen BK419.out 1; have hfz17_2 := blk_frozen BK419.out 2; have hcz18_0 : w15.cell? ⟨gb414, 0, none⟩ = some (.int .i64 t411) := (blk_cell BK414.out 0).trans rfl; have hcz18_1 : w15.cell? ⟨gb414, 1, none⟩ = some (.int .i64 t412) := (blk_cell BK414.out 1).trans rfl; have hcz18_2 : w15.cell? ⟨gb414, 2, none⟩ = some (.string t413) := (blk_cell BK414.out 2).trans rfl; have hfz18_0 := blk_frozen BK414.out 0; have hfz18_1 := blk_frozen BK414.out 1; have hfz18_2 := blk_frozen BK414.out 2))
    (try simp only [Act.put, List.setIfInBounds_toArray, List.set_cons_zero, List.set_cons_succ])
    go_cut [] (fun wc => ∃ (kq : Nat), Aside0 (corncriblaw02_MatrixBack.j0 kq t418 t411 t412 t413 t415 t416 t417 = some r) ∧ Aside0 (kq ≤ k) ∧ Aside0 (wc.heap[gb414]? = some (.cells #[.int .i64 t411, .int .i64 t412, .string t413] 24 (0, 0))) ∧ Aside0 (wc.heap[gb419]? = some (.cells #[.int .i64 t415, .int .i64 t416, .string t417] 24 (0, 0))) ∧ Aside0 (Below w.heap.size w wc))
    case first =>
      have H := HC9.out
      clear HC9
      by_cases c19 : t411 > 1
      · rw [if_pos c19] at H
        have c19b0 : decide (1 < t411) = true := decide_eq_true c19
        clear c19
        (first | rw [c19b0] | (simp only [i64_w, i32_w]; rw [c19b0]) | skip)
        by_cases c20 : 0 ≤ t412
        · rw [if_pos c20] at H
          have c20b0 := eq_true c20
          have c20b1 : decide (0 ≤ t412) = true := decide_eq_true c20
          clear c20
          by_cases c21 : t412 ≤ (t413.size : Int)
          · rw [if_pos c21] at H
            have c21b0 := eq_true c21
            have c21b1 : decide (t412 ≤ (t413.size : Int)) = true := decide_eq_true c21
            clear c21
            have c22b0 := eq_true (of_decide_eq_true (by first | (with_reducible assumption) | assumption) : 0 ≤ t412)
            by_cases c23 : t412 ≤ (wrap64 (2 * t412))
            · rw [if_pos c23] at H
              have c23b0 := eq_true c23
              have c23b1 : decide (t412 ≤ (wrap64 (2 * t412))) = true := decide_eq_true c23
              clear c23
              by_cases c24 : (wrap64 (2 * t412)) ≤ (t413.size : Int)
              · rw [if_pos c24] at H
                have c24b0 := eq_true c24
                have c24b1 : decide ((wrap64 (2 * t412)) ≤ (t413.size : Int)) = true := decide_eq_true c24
                clear c24
                by_cases c25 : (t413.extract (t412 : Int).toNat t413.size).size + (t413.extract (t412 : Int).toNat ((wrap64 (2 * t412)) : Int).toNat).size ≤ 9223372036854775807
                · rw [if_pos c25] at H
                  have c25b0 := eq_true c25
                  try have c25b0z : ((t413.size - (t412 : Int).toNat : Nat) + (min ((wrap64 (2 * t412)) : Int).toNat t413.size - (t412 : Int).toNat : Nat) ≤ 9223372036854775807) = True := eq_true (by simpa only [ByteArray.size_extract, ByteArray.size_append, Nat.min_self] using of_eq_true c25b0)
                  have c25b1 : decide ((t413.extract (t412 : Int).toNat t413.size).size + (t413.extract (t412 : Int).toNat ((wrap64 (2 * t412)) : Int).toNat).size ≤ 9223372036854775807) = true := decide_eq_true c25
                  try have c25b1z : decide ((t413.size - (t412 : Int).toNat : Nat) + (min ((wrap64 (2 * t412)) : Int).toNat t413.size - (t412 : Int).toNat : Nat) ≤ 9223372036854775807) = true := by simpa only [ByteArray.size_extract, ByteArray.size_append, Nat.min_self] using c25b1
                  try have c25b2 : (9223372036854775807 < (t413.extract (t412 : Int).toNat t413.size).size + (t413.extract (t412 : Int).toNat ((wrap64 (2 * t412)) : Int).toNat).size) = False := eq_false (Nat.not_lt.2 c25)
                  try have c25b2z : (9223372036854775807 < (t413.size - (t412 : Int).toNat : Nat) + (min ((wrap64 (2 * t412)) : Int).toNat t413.size - (t412 : Int).toNat : Nat)) = False := by simpa only [ByteArray.size_extract, ByteArray.size_append, Nat.min_self] using c25b2
                  have c25b2y : (9223372036854775807 < t413.size - (t412 : Int).toNat + ((wrap64 (2 * t412)).toNat - (t412 : Int).toNat)) = False := eq_false (by have h1 := of_eq_true c25b0z; have h2 := of_eq_true c24b0; omega)
                  replace H := Option.bind_eq_some_iff.mp H
                  obtain ⟨⟨t421, t422, t423, t424⟩, A260, H⟩ := H
                  replace H : (if t424 = 20 then (corncriblaw02_MatrixBack.j0 k t418 t411 t412 t413 t415 t416 t417) else (some false)) = some r := H
                  have A26 := Aside0.mk A260
                  clear A260
                  by_cases c27 : t424 = 20
                  · rw [if_pos c27] at H
                    have c27b0 : (t424 == 20) = true := beq_iff_eq.mpr c27
                    have c27b1 : (t424 != 20) = false := bne_eq_false_iff_eq.mpr c27
                    clear c27
                    have H' := Aside0.mk H
                    clear H
                    try go_wp2
                    have n0_ : Aside0 ((((w15.setCell ⟨gb419, 0, none⟩ (.int .i64 t415)).setCell ⟨gb419, 1, none⟩ (.int .i64 t416)).setCell ⟨gb419, 2, none⟩ (.string t417)).heap[gb414]? = some (.cells #[.int .i64 t411, .int .i64 t412, .string t413] 24 (0, 0))) := ⟨by (with_reducible repeat (first | refine blk_drewN ?_ _ | refine blk_drew ?_ | refine blk_alloc ?_ _)); refine blk_far ?_ NB414_419.out _; (with_reducible repeat (first | refine blk_drewN ?_ _ | refine blk_drew ?_ | refine blk_alloc ?_ _)); refine blk_far ?_ NB414_419.out _; (with_reducible repeat (first | refine blk_drewN ?_ _ | refine blk_drew ?_ | refine blk_alloc ?_ _)); refine blk_far ?_ NB414_419.out _; (with_reducible repeat (first | refine blk_drewN ?_ _ | refine blk_drew ?_ | refine blk_alloc ?_ _)); exact BK414.out⟩
                    have n1_ : Aside0 ((((w15.setCell ⟨gb419, 0, none⟩ (.int .i64 t415)).setCell ⟨gb419, 1, none⟩ (.int .i64 t416)).setCell ⟨gb419, 2, none⟩ (.string t417)).heap[gb419]? = some (.cells #[.int .i64 t415, .int .i64 t416, .string t417] 24 (0, 0))) := ⟨by (with_reducible repeat (first | refine blk_drewN ?_ _ | refine blk_drew ?_ | refine blk_alloc ?_ _)); refine blk_put (cs := #[.int .i64 t415, .int .i64 t416, .string (⟨#[]⟩ : ByteArray)]) ?_ 2 _ rfl; (with_reducible repeat (first | refine blk_drewN ?_ _ | refine blk_drew ?_ | refine blk_alloc ?_ _)); refine blk_put (cs := #[.int .i64 t415, .int .i64 0, .string (⟨#[]⟩ : ByteArray)]) ?_ 1 _ rfl; (with_reducible repeat (first | refine blk_drewN ?_ _ | refine blk_drew ?_ | refine blk_alloc ?_ _)); refine blk_put (cs := #[.int .i64 0, .int .i64 0, .string (⟨#[]⟩ : ByteArray)]) ?_ 0 _ rfl; (with_reducible repeat (first | refine blk_drewN ?_ _ | refine blk_drew ?_ | refine blk_alloc ?_ _)); exact BK419.out⟩
                    have n2_ : Aside0 (Below w.heap.size w (((w15.setCell ⟨gb419, 0, none⟩ (.int .i64 t415)).setCell ⟨gb419, 1, none⟩ (.int .i64 t416)).setCell ⟨gb419, 2, none⟩ (.string t417))) := ⟨by repeat (first | (with_reducible first | exact HB.out | apply below_alloc | apply pw_below_drewN | apply below_drew1 | refine below_set ?_ GE414.out | refine below_set ?_ GE419.out) | exact HB.out)⟩
                    (try clear BK414)
                    (try clear BK419)
                    (try clear HB)
                    generalize (((w15.setCell ⟨gb419, 0, none⟩ (.int .i64 t415)).setCell ⟨gb419, 1, none⟩ (.int .i64 t416)).setCell ⟨gb419, 2, none⟩ (.string t417)) = w28 at n0_ n1_ n2_ ⊢
                    have BK414 := n0_
                    have BK419 := n1_
                    have HB := n2_
                    clear n0_ n1_ n2_
                    have n0_ := Aside0.mk (blk_drew BK414.out)
                    have n1_ := Aside0.mk (blk_drew BK419.out)
                    have n2_ := Aside0.mk (below_drew1 HB.out)
                    clear BK414
                    clear BK419
                    clear HB
                    have BK414 := n0_
                    have BK419 := n1_
                    have HB := n2_
                    clear n0_ n1_ n2_
                    refine start_ (n := 21) (S := fun w' => w'.cell? ⟨gb414, 0, none⟩ = some (.int .i64 t411) ∧ w'.cell? ⟨gb414, 1, none⟩ = some (.int .i64 t412) ∧ w'.cell? ⟨gb414, 2, none⟩ = some (.string t413)) (ds := []) #[false, false, false, false, false, false, false, false, false, false, false, false, false, false, false, false, false, false, false, false, false] (by kernel_rfl) rfl rfl ⟨(blk_cell BK414.out 0).trans rfl, (blk_cell BK414.out 1).trans rfl, (blk_cell BK414.out 2).trans rfl⟩ (fun hHeld => ?_); refine with_tabW corncriblaw02_MatrixBack.tab6 corncriblaw02_MatrixBack.bits6 (fun HT_ HW_ => ?_)
                    generalize w28.drew = w29 at BK414 BK419 HB hHeld ⊢
                    refine pure_ (i := 0) (N := some 35) (v := ?_) (a' := ?_) #[true, false, false, false, false, false, false, false, false, false, false, false, false, false, false, false, false, false, false, false, false] rfl rfl (any_of HT_.out (by kernel_rfl)) (fun _ _ _ h => h) (Or.inl ⟨by rfl, ?_⟩) ?_ ?_
                    rotate_left
                    · intro w'
                      go_simp
                      with_reducible rfl
                    rotate_left
                    · simp only [Act.put, List.setIfInBounds_toArray, List.set_cons_zero, List.set_cons_succ, i64_w, i32_w]
                      rfl
                    refine pure_ (i := 2) (N := some 37) (v := ?_) (a' := ?_) #[true, false, true, false, false, false, false, false, false, false, false, false, false, false, false, false, false, false, false, false, false] rfl rfl (any_of HT_.out (by kernel_rfl)) (fun _ _ _ h => h) (Or.inl ⟨by rfl, ?_⟩) ?_ ?_
                    rotate_left
                    · intro w'
                      go_simp
                      with_reducible rfl
                    rotate_left
                    · simp only [Act.put, List.setIfInBounds_toArray, List.set_cons_zero, List.set_cons_succ, i64_w, i32_w]
                      rfl
                    refine pure_ (i := 4) (N := some 39) (v := ?_) (a' := ?_) #[true, false, true, false, true, false, false, false, false, false, false, false, false, false, false, false, false, false, false, false, false] rfl rfl (any_of HT_.out (by kernel_rfl)) (fun _ _ _ h => h) (Or.inl ⟨by rfl, ?_⟩) ?_ ?_
                    rotate_left
                    · intro w'
                      go_simp
                      with_reducible rfl
                    rotate_left
                    · simp only [Act.put, List.setIfInBounds_toArray, List.set_cons_zero, List.set_cons_succ, i64_w, i32_w]
                      rfl
                    refine pure_ (i := 6) (N := some 41) (v := ?_) (a' := ?_) #[true, false, true, false, true, false, true, false, false, false, false, false, false, false, false, false, false, false, false, false, false] rfl rfl (any_of HT_.out (by kernel_rfl)) (fun _ _ _ h => h) (Or.inl ⟨by rfl, ?_⟩) ?_ ?_
                    rotate_left
                    · intro w'
                      go_simp
                      with_reducible rfl
                    rotate_left
                    · simp only [Act.put, List.setIfInBounds_toArray, List.set_cons_zero, List.set_cons_succ, i64_w, i32_w]
                      rfl
                    refine pure_ (i := 9) (N := some 44) (v := ?_) (a' := ?_) #[true, false, true, false, true, false, true, false, false, true, false, false, false, false, false, false, false, false, false, false, false] rfl rfl (any_of HT_.out (by kernel_rfl)) (fun _ _ _ h => h) (Or.inl ⟨by rfl, ?_⟩) ?_ ?_
                    rotate_left
                    · intro w'
                      go_simp
                      with_reducible rfl
                    rotate_left
                    · simp only [Act.put, List.setIfInBounds_toArray, List.set_cons_zero, List.set_cons_succ, i64_w, i32_w]
                      rfl
                    refine pure_ (i := 11) (N := some 46) (v := ?_) (a' := ?_) #[true, false, true, false, true, false, true, false, false, true, false, true, false, false, false, false, false, false, false, false, false] rfl rfl (any_of HT_.out (by kernel_rfl)) (fun _ _ _ h => h) (Or.inl ⟨by rfl, ?_⟩) ?_ ?_
                    rotate_left
                    · intro w'
                      go_simp
                      with_reducible rfl
                    rotate_left
                    · simp only [Act.put, List.setIfInBounds_toArray, List.set_cons_zero, List.set_cons_succ, i64_w, i32_w]
                      rfl
                    refine pure_ (i := 13) (N := some 48) (v := ?_) (a' := ?_) #[true, false, true, false, true, false, true, false, false, true, false, true, false, true, false, false, false, false, false, false, false] rfl rfl (any_of HT_.out (by kernel_rfl)) (fun _ _ _ h => h) (Or.inl ⟨by rfl, ?_⟩) ?_ ?_
                    rotate_left
                    · intro w'
                      go_simp
                      with_reducible rfl
                    rotate_left
                    · simp only [Act.put, List.setIfInBounds_toArray, List.set_cons_zero, List.set_cons_succ, i64_w, i32_w]
                      rfl
                    refine take_ (i := 1) (N := some 36) (v := ?_) (a' := ?_) #[true, true, true, false, true, false, true, false, false, true, false, true, false, true, false, false, false, false, false, false, false] rfl rfl (take_ofW HT_.out HW_.out (by kernel_rfl)) (fun _ _ _ h => h) (Or.inl ⟨by rfl, ?_⟩) hHeld ?_ ?_
                    rotate_left
                    · rintro w' ⟨s0, s1, s2⟩
                      go_simp
                      with_reducible rfl
                    rotate_left
                    · simp only [Act.put, List.setIfInBounds_toArray, List.set_cons_zero, List.set_cons_succ, i64_w, i32_w]
                      rfl
                    refine take_ (i := 3) (N := some 38) (v := ?_) (a' := ?_) #[true, true, true, true, true, false, true, false, false, true, false, true, false, true, false, false, false, false, false, false, false] rfl rfl (take_ofW HT_.out HW_.out (by kernel_rfl)) (fun _ _ _ h => h) (Or.inl ⟨by rfl, ?_⟩) hHeld ?_ ?_
                    rotate_left
                    · rintro w' ⟨s0, s1, s2⟩
                      go_simp
                      with_reducible rfl
                    rotate_left
                    · simp only [Act.put, List.setIfInBounds_toArray, List.set_cons_zero, List.set_cons_succ, i64_w, i32_w]
                      rfl
                    refine take_ (i := 5) (N := some 40) (v := ?_) (a' := ?_) #[true, true, true, true, true, true, true, false, false, true, false, true, false, true, false, false, false, false, false, false, false] rfl rfl (take_ofW HT_.out HW_.out (by kernel_rfl)) (fun _ _ _ h => h) (Or.inl ⟨by rfl, ?_⟩) hHeld ?_ ?_
                    rotate_left
                    · rintro w' ⟨s0, s1, s2⟩
                      go_simp
                      with_reducible rfl
                    rotate_left
                    · simp only [Act.put, List.setIfInBounds_toArray, List.set_cons_zero, List.set_cons_succ, i64_w, i32_w]
                      rfl
                    refine take_ (i := 7) (N := some 42) (v := ?_) (a' := ?_) #[true, true, true, true, true, true, true, true, false, true, false, true, false, true, false, false, false, false, false, false, false] rfl rfl (take_ofW HT_.out HW_.out (by kernel_rfl)) (fun _ _ _ h => h) (Or.inl ⟨by rfl, ?_⟩) hHeld ?_ ?_
                    rotate_left
                    · rintro w' ⟨s0, s1, s2⟩
                      go_simp
                      with_reducible rfl
                    rotate_left
                    · simp only [Act.put, List.setIfInBounds_toArray, List.set_cons_zero, List.set_cons_succ, i64_w, i32_w]
                      rfl
                    refine pure_ (i := 8) (N := some 43) (v := ?_) (a' := ?_) #[true, true, true, true, true, true, true, true, true, true, false, true, false, true, false, false, false, false, false, false, false] rfl rfl (any_of HT_.out (by kernel_rfl)) (fun _ _ _ h => h) (Or.inl ⟨by rfl, ?_⟩) ?_ ?_
                    rotate_left
                    · intro w'
                      go_simp
                      with_reducible rfl
                    rotate_left
                    · simp only [Act.put, List.setIfInBounds_toArray, List.set_cons_zero, List.set_cons_succ, i64_w, i32_w]
                      rfl
                    refine take_ (i := 10) (N := some 45) (v := ?_) (a' := ?_) #[true, true, true, true, true, true, true, true, true, true, true, true, false, true, false, false, false, false, false, false, false] rfl rfl (take_ofW HT_.out HW_.out (by kernel_rfl)) (fun _ _ _ h => h) (Or.inl ⟨by rfl, ?_⟩) hHeld ?_ ?_
                    rotate_left
                    · rintro w' ⟨s0, s1, s2⟩
                      go_simp
                      with_reducible rfl
                    rotate_left
                    · simp only [Act.put, List.setIfInBounds_toArray, List.set_cons_zero, List.set_cons_succ, i64_w, i32_w]
                      rfl
                    refine take_ (i := 12) (N := some 47) (v := ?_) (a' := ?_) #[true, true, true, true, true, true, true, true, true, true, true, true, true, true, false, false, false, false, false, false, false] rfl rfl (take_ofW HT_.out HW_.out (by kernel_rfl)) (fun _ _ _ h => h) (Or.inl ⟨by rfl, ?_⟩) hHeld ?_ ?_
                    rotate_left
                    · rintro w' ⟨s0, s1, s2⟩
                      go_simp
                      with_reducible rfl
                    rotate_left
                    · simp only [Act.put, List.setIfInBounds_toArray, List.set_cons_zero, List.set_cons_succ, i64_w, i32_w]
                      rfl
                    refine take_ (i := 14) (N := some 49) (v := ?_) (a' := ?_) #[true, true, true, true, true, true, true, true, true, true, true, true, true, true, true, false, false, false, false, false, false] rfl rfl (take_ofW HT_.out HW_.out (by kernel_rfl)) (fun _ _ _ h => h) (Or.inl ⟨by rfl, ?_⟩) hHeld ?_ ?_
                    rotate_left
                    · rintro w' ⟨s0, s1, s2⟩
                      go_simp
                      with_reducible rfl
                    rotate_left
                    · simp only [Act.put, List.setIfInBounds_toArray, List.set_cons_zero, List.set_cons_succ, i64_w, i32_w]
                      rfl
                    refine pure_ (i := 15) (N := some 50) (v := ?_) (a' := ?_) #[true, true, true, true, true, true, true, true, true, true, true, true, true, true, true, true, false, false, false, false, false] rfl rfl (any_of HT_.out (by kernel_rfl)) (fun _ _ _ h => h) (Or.inl ⟨by rfl, ?_⟩) ?_ ?_
                    rotate_left
                    · intro w'
                      go_simp
                      with_reducible rfl
                    rotate_left
                    · simp only [Act.put, List.setIfInBounds_toArray, List.set_cons_zero, List.set_cons_succ, i64_w, i32_w]
                      rfl
                    refine pure_ (i := 16) (N := some 51) (v := ?_) (a' := ?_) #[true, true, true, true, true, true, true, true, true, true, true, true, true, true, true, true, true, false, false, false, false] rfl rfl (any_of HT_.out (by kernel_rfl)) (fun _ _ _ h => h) (Or.inl ⟨by rfl, ?_⟩) ?_ ?_
                    rotate_left
                    · intro w'
                      go_simp
                      with_reducible rfl
                    rotate_left
                    · simp only [Act.put, List.setIfInBounds_toArray, List.set_cons_zero, List.set_cons_succ, i64_w, i32_w]
                      rfl
                    refine pure_ (i := 17) (N := some 52) (v := ?_) (a' := ?_) #[true, true, true, true, true, true, true, true, true, true, true, true, true, true, true, true, true, true, false, false, false] rfl rfl (any_of HT_.out (by kernel_rfl)) (fun _ _ _ h => h) (Or.inl ⟨by rfl, ?_⟩) ?_ ?_
                    rotate_left
                    · intro w'
                      go_simp
                      with_reducible rfl
                    rotate_left
                    · simp only [Act.put, List.setIfInBounds_toArray, List.set_cons_zero, List.set_cons_succ, i64_w, i32_w]
                      rfl
                    refine pure_ (i := 18) (N := some 53) (v := ?_) (a' := ?_) #[true, true, true, true, true, true, true, true, true, true, true, true, true, true, true, true, true, true, true, false, false] rfl rfl (any_of HT_.out (by kernel_rfl)) (fun _ _ _ h => h) (Or.inl ⟨by rfl, ?_⟩) ?_ ?_
                    rotate_left
                    · intro w'
                      go_simp
                      with_reducible rfl
                    rotate_left
                    · simp only [Act.put, List.setIfInBounds_toArray, List.set_cons_zero, List.set_cons_succ, i64_w, i32_w]
                      rfl
                    refine one_ (i := 19) (N := some 8) #[true, true, true, true, true, true, true, true, true, true, true, true, true, true, true, true, true, true, true, true, false] rfl rfl (one_of HT_.out (by kernel_rfl)) (by decide) (fun K hK => ?_)
                    refine box_step ?hg (N := 8) ?hd (cs := #[.int .i64 0, .int .i64 0, .string (⟨#[]⟩ : ByteArray)]) (t := 24) ?hr ?_; (case hd => rfl); (case hg => rfl); (case hr => first | (go_simp; done) | (go_simp; rfl))
                    intro gb420 hg w30 hbox hb
                    have n0_ := Aside0.mk (blk_below (g := gb414) (o := .cells #[.int .i64 t411, .int .i64 t412, .string t413] 24 (0, 0)) (by (with_reducible repeat (first | refine blk_drewN ?_ _ | refine blk_drew ?_ | refine blk_alloc ?_ _)); exact BK414.out) hb)
                    have n1_ := Aside0.mk (blk_below (g := gb419) (o := .cells #[.int .i64 t415, .int .i64 t416, .string t417] 24 (0, 0)) (by (with_reducible repeat (first | refine blk_drewN ?_ _ | refine blk_drew ?_ | refine blk_alloc ?_ _)); exact BK419.out) hb)
                    have n2_ := Aside0.mk (below_step (by repeat (first | (with_reducible first | exact HB.out | apply below_alloc | apply pw_below_drewN | apply below_drew1 | refine below_set ?_ GE414.out | refine below_set ?_ GE419.out) | exact HB.out)) hb)
                    have n3_ := Aside0.mk (hbox)
                    have n4_ := Aside0.mk ((by rw [hg]; exact (below_size (by repeat (first | (with_reducible first | exact HB.out | apply below_alloc | apply pw_below_drewN | apply below_drew1 | refine below_set ?_ GE414.out | refine below_set ?_ GE419.out) | exact HB.out))) : w.heap.size ≤ gb420))
                    have n5_ := Aside0.mk ((by rw [hg]; exact (below_size (by repeat (first | (with_reducible first | exact HB.out | apply below_alloc | apply pw_below_drewN | apply below_drew1 | refine below_set ?_ GE414.out | refine below_set ?_ GE419.out) | exact HB.out))) : w.heap.size ≤ gb420))
                    have n6_ := Aside0.mk ((by rw [hg]; exact Nat.ne_of_lt (blk_lt (g := gb414) (o := .cells #[.int .i64 t411, .int .i64 t412, .string t413] 24 (0, 0)) (by (with_reducible repeat (first | refine blk_drewN ?_ _ | refine blk_drew ?_ | refine blk_alloc ?_ _)); exact BK414.out)) : gb414 ≠ gb420))
                    have n7_ := Aside0.mk ((by rw [hg]; exact Nat.ne_of_gt (blk_lt (g := gb414) (o := .cells #[.int .i64 t411, .int .i64 t412, .string t413] 24 (0, 0)) (by (with_reducible repeat (first | refine blk_drewN ?_ _ | refine blk_drew ?_ | refine blk_alloc ?_ _)); exact BK414.out)) : gb420 ≠ gb414))
                    have n8_ := Aside0.mk ((by rw [hg]; exact Nat.ne_of_lt (blk_lt (g := gb419) (o := .cells #[.int .i64 t415, .int .i64 t416, .string t417] 24 (0, 0)) (by (with_reducible repeat (first | refine blk_drewN ?_ _ | refine blk_drew ?_ | refine blk_alloc ?_ _)); exact BK419.out)) : gb419 ≠ gb420))
                    have n9_ := Aside0.mk ((by rw [hg]; exact Nat.ne_of_gt (blk_lt (g := gb419) (o := .cells #[.int .i64 t415, .int .i64 t416, .string t417] 24 (0, 0)) (by (with_reducible repeat (first | refine blk_drewN ?_ _ | refine blk_drew ?_ | refine blk_alloc ?_ _)); exact BK419.out)) : gb420 ≠ gb419))
                    clear BK414
                    clear BK419
                    clear HB
                    have BK414 := n0_
                    have BK419 := n1_
                    have HB := n2_
                    have BK420 := n3_
                    have GW420 := n4_
                    have GE420 := n5_
                    have NB414_420 := n6_
                    have NB420_414 := n7_
                    have NB419_420 := n8_
                    have NB420_419 := n9_
                    clear n0_ n1_ n2_ n3_ n4_ n5_ n6_ n7_ n8_ n9_
                    clear hb hbox hg
                    refine hK.out _ _ ⟨(blk_cell BK414.out 0).trans rfl, (blk_cell BK414.out 1).trans rfl, (blk_cell BK414.out 2).trans rfl⟩ (fun hHeld => ?_)
                    clear hK K
                    refine norm_ (a' := ?_) ?_ ?_
                    rotate_left
                    · show Act.put _ (some 8) _ = _
                      simp only [Act.put, List.setIfInBounds_toArray, List.set_cons_zero, List.set_cons_succ, i64_w, i32_w]
                      rfl
                    refine one_ (i := 20) (N := none) #[true, true, true, true, true, true, true, true, true, true, true, true, true, true, true, true, true, true, true, true, true] rfl rfl (one_of HT_.out (by kernel_rfl)) (by decide) (fun K hK => ?_)
                    have hs31 : w30.cell? ⟨gb420, 0, none⟩ = some (.int .i64 0) := (blk_cell BK420.out 0).trans rfl
                    have hfs31 := blk_frozen BK420.out 0
                    have hns31_0 := NB414_420.out
                    have hns31_1 := NB419_420.out
                    have hms31_0 := NB420_414.out
                    have hms31_1 := NB420_419.out
                    have hs32 : w30.cell? ⟨gb420, 1, none⟩ = some (.int .i64 0) := (blk_cell BK420.out 1).trans rfl
                    have hfs32 := blk_frozen BK420.out 1
                    have hns32_0 := NB414_420.out
                    have hns32_1 := NB419_420.out
                    have hms32_0 := NB420_414.out
                    have hms32_1 := NB420_419.out
                    have hs33 : w30.cell? ⟨gb420, 2, none⟩ = some (.string (⟨#[]⟩ : ByteArray)) := (blk_cell BK420.out 2).trans rfl
                    have hfs33 := blk_frozen BK420.out 2
                    have hns33_0 := NB414_420.out
                    have hns33_1 := NB419_420.out
                    have hms33_0 := NB420_414.out
                    have hms33_1 := NB420_419.out
                    refine skip_ (w1 := ?_) (by rfl) rfl ?_ ?_
                    rotate_left
                    · go_simp
                      rfl
                    refine hK.out _ _ ⟨((cell_far (p := ⟨gb420, _, none⟩) NB414_420.out _).trans (((cell_far (p := ⟨gb420, _, none⟩) NB414_420.out _).trans (((cell_far (p := ⟨gb420, _, none⟩) NB414_420.out _).trans (hHeld.1)))))), ((cell_far (p := ⟨gb420, _, none⟩) NB414_420.out _).trans (((cell_far (p := ⟨gb420, _, none⟩) NB414_420.out _).trans (((cell_far (p := ⟨gb420, _, none⟩) NB414_420.out _).trans (hHeld.2.1)))))), ((cell_far (p := ⟨gb420, _, none⟩) NB414_420.out _).trans (((cell_far (p := ⟨gb420, _, none⟩) NB414_420.out _).trans (((cell_far (p := ⟨gb420, _, none⟩) NB414_420.out _).trans (hHeld.2.2))))))⟩ (fun hHeld => ?_)
                    clear hK K
                    refine done_ (done_of HT_.out (by kernel_rfl)) ?_
                    have hnb34 := NB420_414.out
                    have hnc34 := NB414_420.out
                    have hnb35 := NB420_419.out
                    have hnc35 := NB419_420.out
                    have hcz36_0 : w30.cell? ⟨gb420, 0, none⟩ = some (.int .i64 0) := (blk_cell BK420.out 0).trans rfl
                    have hcz36_1 : w30.cell? ⟨gb420, 1, none⟩ = some (.int .i64 0) := (blk_cell BK420.out 1).trans rfl
                    have hcz36_2 : w30.cell? ⟨gb420, 2, none⟩ = some (.string (⟨#[]⟩ : ByteArray)) := (blk_cell BK420.out 2).trans rfl
                    have hfz36_0 := blk_frozen BK420.out 0
                    have hfz36_1 := blk_frozen BK420.out 1
                    have hfz36_2 := blk_frozen BK420.out 2
                    try go_wp2_with (first | ((with_reducible refine gate_callee (f := 26) rfl ?_); refine goesL_ (some 56) rfl rfl Try.func26 (by kernel_rfl) rfl #[.agg #[.int .i64 t411, .int .i64 t412, .string ((t413.extract (t412 : Int).toNat t413.size) ++ (t413.extract (t412 : Int).toNat ((wrap64 (2 * t412)) : Int).toNat))]] rfl (by (try simp only [List.map_toArray, List.map_cons, List.map_nil]); first | done | rfl | (simp only [List.length_drop, List.length_take]; rfl)) ?_; (with_reducible refine (matrix_Inverse.calls t411 t412 ((t413.extract (t412 : Int).toNat t413.size) ++ (t413.extract (t412 : Int).toNat ((wrap64 (2 * t412)) : Int).toNat)) t421 t422 t423 t424 _ A26.out).mono ?_); rintro e w37 ⟨rfl, hb⟩; refine ⟨_, rfl, ?_⟩; have n0_ := Aside0.mk (blk_below (g := gb414) (o := .cells #[.int .i64 t411, .int .i64 t412, .string t413] 24 (0, 0)) (by (with_reducible repeat (first | refine blk_drewN ?_ _ | refine blk_drew ?_ | refine blk_alloc ?_ _)); refine blk_far ?_ NB414_420.out _; (with_reducible repeat (first | refine blk_drewN ?_ _ | refine blk_drew ?_ | refine blk_alloc ?_ _)); refine blk_far ?_ NB414_420.out _; (with_reducible repeat (first | refine blk_drewN ?_ _ | refine blk_drew ?_ | refine blk_alloc ?_ _)); refine blk_far ?_ NB414_420.out _; (with_reducible repeat (first | refine blk_drewN ?_ _ | refine blk_drew ?_ | refine blk_alloc ?_ _)); exact BK414.out) hb); have n1_ := Aside0.mk (blk_below (g := gb419) (o := .cells #[.int .i64 t415, .int .i64 t416, .string t417] 24 (0, 0)) (by (with_reducible repeat (first | refine blk_drewN ?_ _ | refine blk_drew ?_ | refine blk_alloc ?_ _)); refine blk_far ?_ NB419_420.out _; (with_reducible repeat (first | refine blk_drewN ?_ _ | refine blk_drew ?_ | refine blk_alloc ?_ _)); refine blk_far ?_ NB419_420.out _; (with_reducible repeat (first | refine blk_drewN ?_ _ | refine blk_drew ?_ | refine blk_alloc ?_ _)); refine blk_far ?_ NB419_420.out _; (with_reducible repeat (first | refine blk_drewN ?_ _ | refine blk_drew ?_ | refine blk_alloc ?_ _)); exact BK419.out) hb); have n2_ := Aside0.mk (blk_below (g := gb420) (o := .cells #[.int .i64 t411, .int .i64 t412, .string ((t413.extract (t412 : Int).toNat t413.size) ++ (t413.extract (t412 : Int).toNat ((wrap64 (2 * t412)) : Int).toNat))] 24 (0, 0)) (by (with_reducible repeat (first | refine blk_drewN ?_ _ | refine blk_drew ?_ | refine blk_alloc ?_ _)); refine blk_put (cs := #[.int .i64 t411, .int .i64 t412, .string (⟨#[]⟩ : ByteArray)]) ?_ 2 _ rfl; (with_reducible repeat (first | refine blk_drewN ?_ _ | refine blk_drew ?_ | refine blk_alloc ?_ _)); refine blk_put (cs := #[.int .i64 t411, .int .i64 0, .string (⟨#[]⟩ : ByteArray)]) ?_ 1 _ rfl; (with_reducible repeat (first | refine blk_drewN ?_ _ | refine blk_drew ?_ | refine blk_alloc ?_ _)); refine blk_put (cs := #[.int .i64 0, .int .i64 0, .string (⟨#[]⟩ : ByteArray)]) ?_ 0 _ rfl; (with_reducible repeat (first | refine blk_drewN ?_ _ | refine blk_drew ?_ | refine blk_alloc ?_ _)); exact BK420.out) hb); have n3_ := Aside0.mk (below_step (by repeat (first | (with_reducible first | exact HB.out | apply below_alloc | apply pw_below_drewN | apply below_drew1 | refine below_set ?_ GE414.out | refine below_set ?_ GE419.out | refine below_set ?_ GE420.out) | exact HB.out)) hb); clear BK414; clear BK419; clear BK420; clear HB; have BK414 := n0_; have BK419 := n1_; have BK420 := n2_; have HB := n3_; clear n0_ n1_ n2_ n3_; (try clear hb); (try clear hb2); (try clear hk); (try clear hi)) | ((with_reducible refine gate_dst (N := 9) rfl ?_); refine box_event ?hg (N := 9) ?hd (cs := #[.int .i64 0, .int .i64 0, .string (⟨#[]⟩ : ByteArray)]) (t := 24) ?hr ?_; (case hd => rfl); (case hg => rfl); (case hr => first | (go_simp; done) | (go_simp; rfl)); intro gb425 hg w38 hbox hb; have n0_ := Aside0.mk (blk_below (g := gb414) (o := .cells #[.int .i64 t411, .int .i64 t412, .string t413] 24 (0, 0)) (by (with_reducible repeat (first | refine blk_drewN ?_ _ | refine blk_drew ?_ | refine blk_alloc ?_ _)); exact BK414.out) hb); have n1_ := Aside0.mk (blk_below (g := gb419) (o := .cells #[.int .i64 t415, .int .i64 t416, .string t417] 24 (0, 0)) (by (with_reducible repeat (first | refine blk_drewN ?_ _ | refine blk_drew ?_ | refine blk_alloc ?_ _)); exact BK419.out) hb); have n2_ := Aside0.mk (blk_below (g := gb420) (o := .cells #[.int .i64 t411, .int .i64 t412, .string ((t413.extract (t412 : Int).toNat t413.size) ++ (t413.extract (t412 : Int).toNat ((wrap64 (2 * t412)) : Int).toNat))] 24 (0, 0)) (by (with_reducible repeat (first | refine blk_drewN ?_ _ | refine blk_drew ?_ | refine blk_alloc ?_ _)); exact BK420.out) hb); have n3_ := Aside0.mk (below_step (by repeat (first | (with_reducible first | exact HB.out | apply below_alloc | apply pw_below_drewN | apply below_drew1 | refine below_set ?_ GE414.out | refine below_set ?_ GE419.out | refine below_set ?_ GE420.out) | exact HB.out)) hb); have n4_ := Aside0.mk (hbox); have n5_ := Aside0.mk ((by rw [hg]; exact (below_size (by repeat (first | (with_reducible first | exact HB.out | apply below_alloc | apply pw_below_drewN | apply below_drew1 | refine below_set ?_ GE414.out | refine below_set ?_ GE419.out | refine below_set ?_ GE420.out) | exact HB.out))) : w.heap.size ≤ gb425)); have n6_ := Aside0.mk ((by rw [hg]; exact (below_size (by repeat (first | (with_reducible first | exact HB.out | apply below_alloc | apply pw_below_drewN | apply below_drew1 | refine below_set ?_ GE414.out | refine below_set ?_ GE419.out | refine below_set ?_ GE420.out) | exact HB.out))) : w.heap.size ≤ gb425)); have n7_ := Aside0.mk ((by rw [hg]; exact Nat.ne_of_lt (blk_lt (g := gb414) (o := .cells #[.int .i64 t411, .int .i64 t412, .string t413] 24 (0, 0)) (by (with_reducible repeat (first | refine blk_drewN ?_ _ | refine blk_drew ?_ | refine blk_alloc ?_ _)); exact BK414.out)) : gb414 ≠ gb425)); have n8_ := Aside0.mk ((by rw [hg]; exact Nat.ne_of_gt (blk_lt (g := gb414) (o := .cells #[.int .i64 t411, .int .i64 t412, .string t413] 24 (0, 0)) (by (with_reducible repeat (first | refine blk_drewN ?_ _ | refine blk_drew ?_ | refine blk_alloc ?_ _)); exact BK414.out)) : gb425 ≠ gb414)); have n9_ := Aside0.mk ((by rw [hg]; exact Nat.ne_of_lt (blk_lt (g := gb419) (o := .cells #[.int .i64 t415, .int .i64 t416, .string t417] 24 (0, 0)) (by (with_reducible repeat (first | refine blk_drewN ?_ _ | refine blk_drew ?_ | refine blk_alloc ?_ _)); exact BK419.out)) : gb419 ≠ gb425)); have n10_ := Aside0.mk ((by rw [hg]; exact Nat.ne_of_gt (blk_lt (g := gb419) (o := .cells #[.int .i64 t415, .int .i64 t416, .string t417] 24 (0, 0)) (by (with_reducible repeat (first | refine blk_drewN ?_ _ | refine blk_drew ?_ | refine blk_alloc ?_ _)); exact BK419.out)) : gb425 ≠ gb419)); have n11_ := Aside0.mk ((by rw [hg]; exact Nat.ne_of_lt (blk_lt (g := gb420) (o := .cells #[.int .i64 t411, .int .i64 t412, .string ((t413.extract (t412 : Int).toNat t413.size) ++ (t413.extract (t412 : Int).toNat ((wrap64 (2 * t412)) : Int).toNat))] 24 (0, 0)) (by (with_reducible repeat (first | refine blk_drewN ?_ _ | refine blk_drew ?_ | refine blk_alloc ?_ _)); exact BK420.out)) : gb420 ≠ gb425)); have n12_ := Aside0.mk ((by rw [hg]; exact Nat.ne_of_gt (blk_lt (g := gb420) (o := .cells #[.int .i64 t411, .int .i64 t412, .string ((t413.extract (t412 : Int).toNat t413.size) ++ (t413.extract (t412 : Int).toNat ((wrap64 (2 * t412)) : Int).toNat))] 24 (0, 0)) (by (with_reducible repeat (first | refine blk_drewN ?_ _ | refine blk_drew ?_ | refine blk_alloc ?_ _)); exact BK420.out)) : gb425 ≠ gb420)); clear BK414; clear BK419; clear BK420; clear HB; have BK414 := n0_; have BK419 := n1_; have BK420 := n2_; have HB := n3_; have BK425 := n4_; have GW425 := n5_; have GE425 := n6_; have NB414_425 := n7_; have NB425_414 := n8_; have NB419_425 := n9_; have NB425_419 := n10_; have NB420_425 := n11_; have NB425_420 := n12_; clear n0_ n1_ n2_ n3_ n4_ n5_ n6_ n7_ n8_ n9_ n10_ n11_ n12_; clear hb hbox hg; have hnb39 := NB425_414.out; have hnc39 := NB414_425.out; have hnb40 := NB425_419.out; have hnc40 := NB419_425.out; have hnb41 := NB425_420.out; have hnc41 := NB420_425.out; have hcz42_0 : w38.cell? ⟨gb425, 0, none⟩ = some (.int .i64 0) := (blk_cell BK425.out 0).trans rfl; have hcz42_1 : w38.cell? ⟨gb425, 1, none⟩ = some (.int .i64 0) := (blk_cell BK425.out 1).trans rfl; have hcz42_2 : w38.cell? ⟨gb425, 2, none⟩ = some (.string (⟨#[]⟩ : ByteArray)) := (blk_cell BK425.out 2).trans rfl; have hfz42_0 := blk_frozen BK425.out 0; have hfz42_1 := blk_frozen BK425.out 1; have hfz42_2 := blk_frozen BK425.out 2))
                    go_meet
                    case rel => exact ⟨_, H', ⟨by first | omega | exact Nat.le_refl _⟩, ⟨by (with_reducible repeat (first | refine blk_drewN ?_ _ | refine blk_drew ?_ | refine blk_alloc ?_ _)); refine blk_far ?_ NB414_425.out _; (with_reducible repeat (first | refine blk_drewN ?_ _ | refine blk_drew ?_ | refine blk_alloc ?_ _)); refine blk_far ?_ NB414_425.out _; (with_reducible repeat (first | refine blk_drewN ?_ _ | refine blk_drew ?_ | refine blk_alloc ?_ _)); refine blk_far ?_ NB414_425.out _; (with_reducible repeat (first | refine blk_drewN ?_ _ | refine blk_drew ?_ | refine blk_alloc ?_ _)); exact BK414.out⟩, ⟨by (with_reducible repeat (first | refine blk_drewN ?_ _ | refine blk_drew ?_ | refine blk_alloc ?_ _)); refine blk_far ?_ NB419_425.out _; (with_reducible repeat (first | refine blk_drewN ?_ _ | refine blk_drew ?_ | refine blk_alloc ?_ _)); refine blk_far ?_ NB419_425.out _; (with_reducible repeat (first | refine blk_drewN ?_ _ | refine blk_drew ?_ | refine blk_alloc ?_ _)); refine blk_far ?_ NB419_425.out _; (with_reducible repeat (first | refine blk_drewN ?_ _ | refine blk_drew ?_ | refine blk_alloc ?_ _)); exact BK419.out⟩, ⟨by repeat (first | (with_reducible first | exact HB.out | apply below_alloc | apply pw_below_drewN | apply below_drew1 | refine below_set ?_ GE414.out | refine below_set ?_ GE419.out | refine below_set ?_ GE420.out | refine below_set ?_ GE425.out) | exact HB.out)⟩⟩
                  · rw [if_neg c27] at H
                    have c27b0 : (t424 == 20) = false := beq_eq_false_iff_ne.mpr c27
                    have c27b1 : (t424 != 20) = true := bne_iff_ne.mpr c27
                    exact absurd (H.trans (congrArg some HRT.out)) (by simp)
                · rw [if_neg c25] at H
                  exact absurd H (by simp)
              · rw [if_neg c24] at H
                exact absurd H (by simp)
            · rw [if_neg c23] at H
              exact absurd H (by simp)
          · rw [if_neg c21] at H
            exact absurd H (by simp)
        · rw [if_neg c20] at H
          exact absurd H (by simp)
      · rw [if_neg c19] at H
        have c19b0 : decide (1 < t411) = false := decide_eq_false c19
        clear c19
        (first | rw [c19b0] | (simp only [i64_w, i32_w]; rw [c19b0]) | skip)
        have H' := Aside0.mk H
        clear H
        go_wp2
        go_meet
        case rel => exact ⟨_, H', ⟨by first | omega | exact Nat.le_refl _⟩, ⟨by (with_reducible repeat (first | refine blk_drewN ?_ _ | refine blk_drew ?_ | refine blk_alloc ?_ _)); refine blk_far ?_ NB414_419.out _; (with_reducible repeat (first | refine blk_drewN ?_ _ | refine blk_drew ?_ | refine blk_alloc ?_ _)); refine blk_far ?_ NB414_419.out _; (with_reducible repeat (first | refine blk_drewN ?_ _ | refine blk_drew ?_ | refine blk_alloc ?_ _)); refine blk_far ?_ NB414_419.out _; (with_reducible repeat (first | refine blk_drewN ?_ _ | refine blk_drew ?_ | refine blk_alloc ?_ _)); exact BK414.out⟩, ⟨by (with_reducible repeat (first | refine blk_drewN ?_ _ | refine blk_drew ?_ | refine blk_alloc ?_ _)); refine blk_put (cs := #[.int .i64 t415, .int .i64 t416, .string (⟨#[]⟩ : ByteArray)]) ?_ 2 _ rfl; (with_reducible repeat (first | refine blk_drewN ?_ _ | refine blk_drew ?_ | refine blk_alloc ?_ _)); refine blk_put (cs := #[.int .i64 t415, .int .i64 0, .string (⟨#[]⟩ : ByteArray)]) ?_ 1 _ rfl; (with_reducible repeat (first | refine blk_drewN ?_ _ | refine blk_drew ?_ | refine blk_alloc ?_ _)); refine blk_put (cs := #[.int .i64 0, .int .i64 0, .string (⟨#[]⟩ : ByteArray)]) ?_ 0 _ rfl; (with_reducible repeat (first | refine blk_drewN ?_ _ | refine blk_drew ?_ | refine blk_alloc ?_ _)); exact BK419.out⟩, ⟨by repeat (first | (with_reducible first | exact HB.out | apply below_alloc | apply pw_below_drewN | apply below_drew1 | refine below_set ?_ GE414.out | refine below_set ?_ GE419.out) | exact HB.out)⟩⟩
    case rest =>
      clear HC9
      try clear c1
      try clear c2
      try clear p2
      try clear c3
      try clear c4
      try clear c5
      try clear p6
      try clear c10
      try clear c11
      try clear c16
      try clear c19
      try clear c19b0
      try clear c20
      try clear c20b0
      try clear c20b1
      try clear c21
      try clear c21b0
      try clear c21b1
      try clear c22
      try clear c22b0
      try clear c23
      try clear c23b0
      try clear c23b1
      try clear c24
      try clear c24b0
      try clear c24b1
      try clear c25
      try clear c25b0
      try clear c25b1
      try clear c25b2
      try clear c26
      try clear c27
      try clear c27b0
      try clear c27b1
      try clear c34
      try clear c35
      try clear c39
      try clear c40
      try clear c41
      try clear c49
      try clear c50
      try clear c54
      try clear c55
      try clear c56
      try clear hcz13_0
      try clear hcz13_1
      try clear hcz13_2
      try clear hcz17_0
      try clear hcz17_1
      try clear hcz17_2
      try clear hcz18_0
      try clear hcz18_1
      try clear hcz18_2
      try clear hcz36_0
      try clear hcz36_1
      try clear hcz36_2
      try clear hcz42_0
      try clear hcz42_1
      try clear hcz42_2
      try clear hcz51_0
      try clear hcz51_1
      try clear hcz51_2
      try clear hcz57_0
      try clear hcz57_1
      try clear hcz57_2
      try clear hfz13_0
      try clear hfz13_1
      try clear hfz13_2
      try clear hfz17_0
      try clear hfz17_1
      try clear hfz17_2
      try clear hfz18_0
      try clear hfz18_1
      try clear hfz18_2
      try clear hfz36_0
      try clear hfz36_1
      try clear hfz36_2
      try clear hfz42_0
      try clear hfz42_1
      try clear hfz42_2
      try clear hfz51_0
      try clear hfz51_1
      try clear hfz51_2
      try clear hfz57_0
      try clear hfz57_1
      try clear hfz57_2
      obtain ⟨kq, HA, HJ8, BK414, BK419, HB⟩ := hcut
      cases kq with
      | zero => exact absurd HA.out (by simp [corncriblaw02_MatrixBack.j0])
      | succ kj8 =>
        have H := HA.out
        clear HA
        simp only [corncriblaw02_MatrixBack.j0] at H
        by_cases c58 : t418 = 20
        · rw [if_pos c58] at H
          have c58b0 : (t418 == 20) = true := beq_iff_eq.mpr c58
          have c58b1 : (t418 != 20) = false := bne_eq_false_iff_eq.mpr c58
          clear c58
          obtain rfl := Option.some.inj H
          have hnb59 := NB419_414.out
          have hnc59 := NB414_419.out
          have hcz60_0 : wc.cell? ⟨gb419, 0, none⟩ = some (.int .i64 t415) := (blk_cell BK419.out 0).trans rfl
          have hcz60_1 : wc.cell? ⟨gb419, 1, none⟩ = some (.int .i64 t416) := (blk_cell BK419.out 1).trans rfl
          have hcz60_2 : wc.cell? ⟨gb419, 2, none⟩ = some (.string t417) := (blk_cell BK419.out 2).trans rfl
          have hfz60_0 := blk_frozen BK419.out 0
          have hfz60_1 := blk_frozen BK419.out 1
          have hfz60_2 := blk_frozen BK419.out 2
          go_wp2
          go_ret
          exact ⟨by first | rfl | (simp [errW_none, errW_some] <;> rfl) | (simp [*, errW_none, errW_some] <;> rfl), by repeat (first | (with_reducible first | exact HB.out | apply below_alloc | apply pw_below_drewN | apply below_drew1 | refine below_set ?_ GE414.out | refine below_set ?_ GE419.out) | exact HB.out)⟩
        · rw [if_neg c58] at H
          have c58b0 : (t418 == 20) = false := beq_eq_false_iff_ne.mpr c58
          have c58b1 : (t418 != 20) = true := bne_iff_ne.mpr c58
          replace H := Option.bind_eq_some_iff.mp H
          obtain ⟨⟨t426, t427, t428, t429⟩, A610, H⟩ := H
          replace H : ((matrix_Mul.f t415 t416 t417 t411 t412 t413).bind fun bt431 => ((matrix_Mul.f t411 t412 t413 t415 t416 t417).bind fun bt436 => ((matrix_Inverse.f t415 t416 t417).bind fun bt441 => (if t418 = 0 then (if t429 = 0 then (if bt431.2.2.2 = 0 then (if bt436.2.2.2 = 0 then (if bt441.2.2.2 = 0 then (if (bt431.1 == t426 && (bt431.2.1 == t427 && (bt431.2.2.1.toList == t428.toList))) = true then (if (bt436.1 == t426 && (bt436.2.1 == t427 && (bt436.2.2.1.toList == t428.toList))) = true then (some (bt441.1 == t411 && (bt441.2.1 == t412 && (bt441.2.2.1.toList == t413.toList)))) else (some false)) else (some false)) else (some false)) else (some false)) else (some false)) else (some false)) else (some false))))) = some r := H
          have A61 := Aside0.mk A610
          clear A610
          replace H := Option.bind_eq_some_iff.mp H
          obtain ⟨⟨t431, t432, t433, t434⟩, A620, H⟩ := H
          replace H : ((matrix_Mul.f t411 t412 t413 t415 t416 t417).bind fun bt436 => ((matrix_Inverse.f t415 t416 t417).bind fun bt441 => (if t418 = 0 then (if t429 = 0 then (if t434 = 0 then (if bt436.2.2.2 = 0 then (if bt441.2.2.2 = 0 then (if (t431 == t426 && (t432 == t427 && (t433.toList == t428.toList))) = true then (if (bt436.1 == t426 && (bt436.2.1 == t427 && (bt436.2.2.1.toList == t428.toList))) = true then (some (bt441.1 == t411 && (bt441.2.1 == t412 && (bt441.2.2.1.toList == t413.toList)))) else (some false)) else (some false)) else (some false)) else (some false)) else (some false)) else (some false)) else (some false)))) = some r := H
          have A62 := Aside0.mk A620
          clear A620
          replace H := Option.bind_eq_some_iff.mp H
          obtain ⟨⟨t436, t437, t438, t439⟩, A630, H⟩ := H
          replace H : ((matrix_Inverse.f t415 t416 t417).bind fun bt441 => (if t418 = 0 then (if t429 = 0 then (if t434 = 0 then (if t439 = 0 then (if bt441.2.2.2 = 0 then (if (t431 == t426 && (t432 == t427 && (t433.toList == t428.toList))) = true then (if (t436 == t426 && (t437 == t427 && (t438.toList == t428.toList))) = true then (some (bt441.1 == t411 && (bt441.2.1 == t412 && (bt441.2.2.1.toList == t413.toList)))) else (some false)) else (some false)) else (some false)) else (some false)) else (some false)) else (some false)) else (some false))) = some r := H
          have A63 := Aside0.mk A630
          clear A630
          replace H := Option.bind_eq_some_iff.mp H
          obtain ⟨⟨t441, t442, t443, t444⟩, A640, H⟩ := H
          replace H : (if t418 = 0 then (if t429 = 0 then (if t434 = 0 then (if t439 = 0 then (if t444 = 0 then (if (t431 == t426 && (t432 == t427 && (t433.toList == t428.toList))) = true then (if (t436 == t426 && (t437 == t427 && (t438.toList == t428.toList))) = true then (some (t441 == t411 && (t442 == t412 && (t443.toList == t413.toList)))) else (some false)) else (some false)) else (some false)) else (some false)) else (some false)) else (some false)) else (some false)) = some r := H
          have A64 := Aside0.mk A640
          clear A640
          by_cases c65 : t418 = 0
          · rw [if_pos c65] at H
            have c65b0 : (t418 == 0) = true := beq_iff_eq.mpr c65
            have c65b1 : (t418 != 0) = false := bne_eq_false_iff_eq.mpr c65
            clear c65
            by_cases c66 : t429 = 0
            · rw [if_pos c66] at H
              have c66b0 : (t429 == 0) = true := beq_iff_eq.mpr c66
              have c66b1 : (t429 != 0) = false := bne_eq_false_iff_eq.mpr c66
              clear c66
              by_cases c67 : t434 = 0
              · rw [if_pos c67] at H
                have c67b0 : (t434 == 0) = true := beq_iff_eq.mpr c67
                have c67b1 : (t434 != 0) = false := bne_eq_false_iff_eq.mpr c67
                clear c67
                by_cases c68 : t439 = 0
                · rw [if_pos c68] at H
                  have c68b0 : (t439 == 0) = true := beq_iff_eq.mpr c68
                  have c68b1 : (t439 != 0) = false := bne_eq_false_iff_eq.mpr c68
                  clear c68
                  by_cases c69 : t444 = 0
                  · rw [if_pos c69] at H
                    have c69b0 : (t444 == 0) = true := beq_iff_eq.mpr c69
                    have c69b1 : (t444 != 0) = false := bne_eq_false_iff_eq.mpr c69
                    clear c69
                    by_cases c70 : (t431 == t426 && (t432 == t427 && (t433.toList == t428.toList))) = true
                    · rw [if_pos c70] at H
                      have c70b0 : (t431 == t426 && (t432 == t427 && (t433.toList == t428.toList))) = true := c70
                      (try (have c70b1 : decide (t431 = t426 && (t432 == t427 && (t433.toList == t428.toList))) = true := by simpa using c70))
                      (try (have c70b2 : (t431 == t426 && (t432 == t427 && (t433.toList == t428.toList))) = true := by simpa using c70))
                      clear c70
                      by_cases c71 : (t436 == t426 && (t437 == t427 && (t438.toList == t428.toList))) = true
                      · rw [if_pos c71] at H
                        have c71b0 : (t436 == t426 && (t437 == t427 && (t438.toList == t428.toList))) = true := c71
                        (try (have c71b1 : decide (t436 = t426 && (t437 == t427 && (t438.toList == t428.toList))) = true := by simpa using c71))
                        (try (have c71b2 : (t436 == t426 && (t437 == t427 && (t438.toList == t428.toList))) = true := by simpa using c71))
                        clear c71
                        obtain rfl := Option.some.inj H
                        have hnb72 := NB414_419.out
                        have hnc72 := NB419_414.out
                        have hcz73_0 : wc.cell? ⟨gb414, 0, none⟩ = some (.int .i64 t411) := (blk_cell BK414.out 0).trans rfl
                        have hcz73_1 : wc.cell? ⟨gb414, 1, none⟩ = some (.int .i64 t412) := (blk_cell BK414.out 1).trans rfl
                        have hcz73_2 : wc.cell? ⟨gb414, 2, none⟩ = some (.string t413) := (blk_cell BK414.out 2).trans rfl
                        have hfz73_0 := blk_frozen BK414.out 0
                        have hfz73_1 := blk_frozen BK414.out 1
                        have hfz73_2 := blk_frozen BK414.out 2
                        go_wp2_with (first | ((with_reducible refine gate_callee (f := 16) rfl ?_); refine goesL_ (some 69) rfl rfl Try.func16 (by kernel_rfl) rfl #[.int .i64 t411] rfl (by (try simp only [List.map_toArray, List.map_cons, List.map_nil]); first | done | rfl | (simp only [List.length_drop, List.length_take]; rfl)) ?_; (with_reducible refine (matrix_Identity.calls t411 t426 t427 t428 t429 _ A61.out).mono ?_); rintro e w74 ⟨rfl, hb⟩; refine ⟨_, rfl, ?_⟩; have n0_ := Aside0.mk (blk_below (g := gb414) (o := .cells #[.int .i64 t411, .int .i64 t412, .string t413] 24 (0, 0)) (by (with_reducible repeat (first | refine blk_drewN ?_ _ | refine blk_drew ?_ | refine blk_alloc ?_ _)); exact BK414.out) hb); have n1_ := Aside0.mk (blk_below (g := gb419) (o := .cells #[.int .i64 t415, .int .i64 t416, .string t417] 24 (0, 0)) (by (with_reducible repeat (first | refine blk_drewN ?_ _ | refine blk_drew ?_ | refine blk_alloc ?_ _)); exact BK419.out) hb); have n2_ := Aside0.mk (below_step (by repeat (first | (with_reducible first | exact HB.out | apply below_alloc | apply pw_below_drewN | apply below_drew1 | refine below_set ?_ GE414.out | refine below_set ?_ GE419.out) | exact HB.out)) hb); clear BK414; clear BK419; clear HB; have BK414 := n0_; have BK419 := n1_; have HB := n2_; clear n0_ n1_ n2_; (try clear hb); (try clear hb2); (try clear hk); (try clear hi)) | ((with_reducible refine gate_dst (N := 11) rfl ?_); refine box_event ?hg (N := 11) ?hd (cs := #[.int .i64 0, .int .i64 0, .string (⟨#[]⟩ : ByteArray)]) (t := 24) ?hr ?_; (case hd => rfl); (case hg => rfl); (case hr => first | (go_simp; done) | (go_simp; rfl)); intro gb430 hg w75 hbox hb; have n0_ := Aside0.mk (blk_below (g := gb414) (o := .cells #[.int .i64 t411, .int .i64 t412, .string t413] 24 (0, 0)) (by (with_reducible repeat (first | refine blk_drewN ?_ _ | refine blk_drew ?_ | refine blk_alloc ?_ _)); exact BK414.out) hb); have n1_ := Aside0.mk (blk_below (g := gb419) (o := .cells #[.int .i64 t415, .int .i64 t416, .string t417] 24 (0, 0)) (by (with_reducible repeat (first | refine blk_drewN ?_ _ | refine blk_drew ?_ | refine blk_alloc ?_ _)); exact BK419.out) hb); have n2_ := Aside0.mk (below_step (by repeat (first | (with_reducible first | exact HB.out | apply below_alloc | apply pw_below_drewN | apply below_drew1 | refine below_set ?_ GE414.out | refine below_set ?_ GE419.out) | exact HB.out)) hb); have n3_ := Aside0.mk (hbox); have n4_ := Aside0.mk ((by rw [hg]; exact (below_size (by repeat (first | (with_reducible first | exact HB.out | apply below_alloc | apply pw_below_drewN | apply below_drew1 | refine below_set ?_ GE414.out | refine below_set ?_ GE419.out) | exact HB.out))) : w.heap.size ≤ gb430)); have n5_ := Aside0.mk ((by rw [hg]; exact (below_size (by repeat (first | (with_reducible first | exact HB.out | apply below_alloc | apply pw_below_drewN | apply below_drew1 | refine below_set ?_ GE414.out | refine below_set ?_ GE419.out) | exact HB.out))) : w.heap.size ≤ gb430)); have n6_ := Aside0.mk ((by rw [hg]; exact Nat.ne_of_lt (blk_lt (g := gb414) (o := .cells #[.int .i64 t411, .int .i64 t412, .string t413] 24 (0, 0)) (by (with_reducible repeat (first | refine blk_drewN ?_ _ | refine blk_drew ?_ | refine blk_alloc ?_ _)); exact BK414.out)) : gb414 ≠ gb430)); have n7_ := Aside0.mk ((by rw [hg]; exact Nat.ne_of_gt (blk_lt (g := gb414) (o := .cells #[.int .i64 t411, .int .i64 t412, .string t413] 24 (0, 0)) (by (with_reducible repeat (first | refine blk_drewN ?_ _ | refine blk_drew ?_ | refine blk_alloc ?_ _)); exact BK414.out)) : gb430 ≠ gb414)); have n8_ := Aside0.mk ((by rw [hg]; exact Nat.ne_of_lt (blk_lt (g := gb419) (o := .cells #[.int .i64 t415, .int .i64 t416, .string t417] 24 (0, 0)) (by (with_reducible repeat (first | refine blk_drewN ?_ _ | refine blk_drew ?_ | refine blk_alloc ?_ _)); exact BK419.out)) : gb419 ≠ gb430)); have n9_ := Aside0.mk ((by rw [hg]; exact Nat.ne_of_gt (blk_lt (g := gb419) (o := .cells #[.int .i64 t415, .int .i64 t416, .string t417] 24 (0, 0)) (by (with_reducible repeat (first | refine blk_drewN ?_ _ | refine blk_drew ?_ | refine blk_alloc ?_ _)); exact BK419.out)) : gb430 ≠ gb419)); clear BK414; clear BK419; clear HB; have BK414 := n0_; have BK419 := n1_; have HB := n2_; have BK430 := n3_; have GW430 := n4_; have GE430 := n5_; have NB414_430 := n6_; have NB430_414 := n7_; have NB419_430 := n8_; have NB430_419 := n9_; clear n0_ n1_ n2_ n3_ n4_ n5_ n6_ n7_ n8_ n9_; clear hb hbox hg; have hnb76 := NB430_414.out; have hnc76 := NB414_430.out; have hnb77 := NB430_419.out; have hnc77 := NB419_430.out; have hcz78_0 : w75.cell? ⟨gb430, 0, none⟩ = some (.int .i64 0) := (blk_cell BK430.out 0).trans rfl; have hcz78_1 : w75.cell? ⟨gb430, 1, none⟩ = some (.int .i64 0) := (blk_cell BK430.out 1).trans rfl; have hcz78_2 : w75.cell? ⟨gb430, 2, none⟩ = some (.string (⟨#[]⟩ : ByteArray)) := (blk_cell BK430.out 2).trans rfl; have hfz78_0 := blk_frozen BK430.out 0; have hfz78_1 := blk_frozen BK430.out 1; have hfz78_2 := blk_frozen BK430.out 2; have hcz79_0 : w75.cell? ⟨gb419, 0, none⟩ = some (.int .i64 t415) := (blk_cell BK419.out 0).trans rfl; have hcz79_1 : w75.cell? ⟨gb419, 1, none⟩ = some (.int .i64 t416) := (blk_cell BK419.out 1).trans rfl; have hcz79_2 : w75.cell? ⟨gb419, 2, none⟩ = some (.string t417) := (blk_cell BK419.out 2).trans rfl; have hfz79_0 := blk_frozen BK419.out 0; have hfz79_1 := blk_frozen BK419.out 1; have hfz79_2 := blk_frozen BK419.out 2; have hcz80_0 : w75.cell? ⟨gb414, 0, none⟩ = some (.int .i64 t411) := (blk_cell BK414.out 0).trans rfl; have hcz80_1 : w75.cell? ⟨gb414, 1, none⟩ = some (.int .i64 t412) := (blk_cell BK414.out 1).trans rfl; have hcz80_2 : w75.cell? ⟨gb414, 2, none⟩ = some (.string t413) := (blk_cell BK414.out 2).trans rfl; have hfz80_0 := blk_frozen BK414.out 0; have hfz80_1 := blk_frozen BK414.out 1; have hfz80_2 := blk_frozen BK414.out 2) | ((with_reducible refine gate_callee (f := 21) rfl ?_); refine goesL_ (some 75) rfl rfl Try.func21 (by kernel_rfl) rfl #[.agg #[.int .i64 t415, .int .i64 t416, .string t417], .agg #[.int .i64 t411, .int .i64 t412, .string t413]] rfl (by (try simp only [List.map_toArray, List.map_cons, List.map_nil]); first | done | rfl | (simp only [List.length_drop, List.length_take]; rfl)) ?_; (with_reducible refine (matrix_Mul.calls t415 t416 t417 t411 t412 t413 t431 t432 t433 t434 _ A62.out).mono ?_); rintro e w81 ⟨rfl, hb⟩; refine ⟨_, rfl, ?_⟩; have n0_ := Aside0.mk (blk_below (g := gb414) (o := .cells #[.int .i64 t411, .int .i64 t412, .string t413] 24 (0, 0)) (by (with_reducible repeat (first | refine blk_drewN ?_ _ | refine blk_drew ?_ | refine blk_alloc ?_ _)); refine blk_far ?_ NB414_430.out _; (with_reducible repeat (first | refine blk_drewN ?_ _ | refine blk_drew ?_ | refine blk_alloc ?_ _)); refine blk_far ?_ NB414_430.out _; (with_reducible repeat (first | refine blk_drewN ?_ _ | refine blk_drew ?_ | refine blk_alloc ?_ _)); refine blk_far ?_ NB414_430.out _; (with_reducible repeat (first | refine blk_drewN ?_ _ | refine blk_drew ?_ | refine blk_alloc ?_ _)); exact BK414.out) hb); have n1_ := Aside0.mk (blk_below (g := gb419) (o := .cells #[.int .i64 t415, .int .i64 t416, .string t417] 24 (0, 0)) (by (with_reducible repeat (first | refine blk_drewN ?_ _ | refine blk_drew ?_ | refine blk_alloc ?_ _)); refine blk_far ?_ NB419_430.out _; (with_reducible repeat (first | refine blk_drewN ?_ _ | refine blk_drew ?_ | refine blk_alloc ?_ _)); refine blk_far ?_ NB419_430.out _; (with_reducible repeat (first | refine blk_drewN ?_ _ | refine blk_drew ?_ | refine blk_alloc ?_ _)); refine blk_far ?_ NB419_430.out _; (with_reducible repeat (first | refine blk_drewN ?_ _ | refine blk_drew ?_ | refine blk_alloc ?_ _)); exact BK419.out) hb); have n2_ := Aside0.mk (blk_below (g := gb430) (o := .cells #[.int .i64 t426, .int .i64 t427, .string t428] 24 (0, 0)) (by (with_reducible repeat (first | refine blk_drewN ?_ _ | refine blk_drew ?_ | refine blk_alloc ?_ _)); refine blk_put (cs := #[.int .i64 t426, .int .i64 t427, .string (⟨#[]⟩ : ByteArray)]) ?_ 2 _ rfl; (with_reducible repeat (first | refine blk_drewN ?_ _ | refine blk_drew ?_ | refine blk_alloc ?_ _)); refine blk_put (cs := #[.int .i64 t426, .int .i64 0, .string (⟨#[]⟩ : ByteArray)]) ?_ 1 _ rfl; (with_reducible repeat (first | refine blk_drewN ?_ _ | refine blk_drew ?_ | refine blk_alloc ?_ _)); refine blk_put (cs := #[.int .i64 0, .int .i64 0, .string (⟨#[]⟩ : ByteArray)]) ?_ 0 _ rfl; (with_reducible repeat (first | refine blk_drewN ?_ _ | refine blk_drew ?_ | refine blk_alloc ?_ _)); exact BK430.out) hb); have n3_ := Aside0.mk (below_step (by repeat (first | (with_reducible first | exact HB.out | apply below_alloc | apply pw_below_drewN | apply below_drew1 | refine below_set ?_ GE414.out | refine below_set ?_ GE419.out | refine below_set ?_ GE430.out) | exact HB.out)) hb); clear BK414; clear BK419; clear BK430; clear HB; have BK414 := n0_; have BK419 := n1_; have BK430 := n2_; have HB := n3_; clear n0_ n1_ n2_ n3_; (try clear hb); (try clear hb2); (try clear hk); (try clear hi)) | ((with_reducible refine gate_dst (N := 13) rfl ?_); refine box_event ?hg (N := 13) ?hd (cs := #[.int .i64 0, .int .i64 0, .string (⟨#[]⟩ : ByteArray)]) (t := 24) ?hr ?_; (case hd => rfl); (case hg => rfl); (case hr => first | (go_simp; done) | (go_simp; rfl)); intro gb435 hg w82 hbox hb; have n0_ := Aside0.mk (blk_below (g := gb414) (o := .cells #[.int .i64 t411, .int .i64 t412, .string t413] 24 (0, 0)) (by (with_reducible repeat (first | refine blk_drewN ?_ _ | refine blk_drew ?_ | refine blk_alloc ?_ _)); exact BK414.out) hb); have n1_ := Aside0.mk (blk_below (g := gb419) (o := .cells #[.int .i64 t415, .int .i64 t416, .string t417] 24 (0, 0)) (by (with_reducible repeat (first | refine blk_drewN ?_ _ | refine blk_drew ?_ | refine blk_alloc ?_ _)); exact BK419.out) hb); have n2_ := Aside0.mk (blk_below (g := gb430) (o := .cells #[.int .i64 t426, .int .i64 t427, .string t428] 24 (0, 0)) (by (with_reducible repeat (first | refine blk_drewN ?_ _ | refine blk_drew ?_ | refine blk_alloc ?_ _)); exact BK430.out) hb); have n3_ := Aside0.mk (below_step (by repeat (first | (with_reducible first | exact HB.out | apply below_alloc | apply pw_below_drewN | apply below_drew1 | refine below_set ?_ GE414.out | refine below_set ?_ GE419.out | refine below_set ?_ GE430.out) | exact HB.out)) hb); have n4_ := Aside0.mk (hbox); have n5_ := Aside0.mk ((by rw [hg]; exact (below_size (by repeat (first | (with_reducible first | exact HB.out | apply below_alloc | apply pw_below_drewN | apply below_drew1 | refine below_set ?_ GE414.out | refine below_set ?_ GE419.out | refine below_set ?_ GE430.out) | exact HB.out))) : w.heap.size ≤ gb435)); have n6_ := Aside0.mk ((by rw [hg]; exact (below_size (by repeat (first | (with_reducible first | exact HB.out | apply below_alloc | apply pw_below_drewN | apply below_drew1 | refine below_set ?_ GE414.out | refine below_set ?_ GE419.out | refine below_set ?_ GE430.out) | exact HB.out))) : w.heap.size ≤ gb435)); have n7_ := Aside0.mk ((by rw [hg]; exact Nat.ne_of_lt (blk_lt (g := gb414) (o := .cells #[.int .i64 t411, .int .i64 t412, .string t413] 24 (0, 0)) (by (with_reducible repeat (first | refine blk_drewN ?_ _ | refine blk_drew ?_ | refine blk_alloc ?_ _)); exact BK414.out)) : gb414 ≠ gb435)); have n8_ := Aside0.mk ((by rw [hg]; exact Nat.ne_of_gt (blk_lt (g := gb414) (o := .cells #[.int .i64 t411, .int .i64 t412, .string t413] 24 (0, 0)) (by (with_reducible repeat (first | refine blk_drewN ?_ _ | refine blk_drew ?_ | refine blk_alloc ?_ _)); exact BK414.out)) : gb435 ≠ gb414)); have n9_ := Aside0.mk ((by rw [hg]; exact Nat.ne_of_lt (blk_lt (g := gb419) (o := .cells #[.int .i64 t415, .int .i64 t416, .string t417] 24 (0, 0)) (by (with_reducible repeat (first | refine blk_drewN ?_ _ | refine blk_drew ?_ | refine blk_alloc ?_ _)); exact BK419.out)) : gb419 ≠ gb435)); have n10_ := Aside0.mk ((by rw [hg]; exact Nat.ne_of_gt (blk_lt (g := gb419) (o := .cells #[.int .i64 t415, .int .i64 t416, .string t417] 24 (0, 0)) (by (with_reducible repeat (first | refine blk_drewN ?_ _ | refine blk_drew ?_ | refine blk_alloc ?_ _)); exact BK419.out)) : gb435 ≠ gb419)); have n11_ := Aside0.mk ((by rw [hg]; exact Nat.ne_of_lt (blk_lt (g := gb430) (o := .cells #[.int .i64 t426, .int .i64 t427, .string t428] 24 (0, 0)) (by (with_reducible repeat (first | refine blk_drewN ?_ _ | refine blk_drew ?_ | refine blk_alloc ?_ _)); exact BK430.out)) : gb430 ≠ gb435)); have n12_ := Aside0.mk ((by rw [hg]; exact Nat.ne_of_gt (blk_lt (g := gb430) (o := .cells #[.int .i64 t426, .int .i64 t427, .string t428] 24 (0, 0)) (by (with_reducible repeat (first | refine blk_drewN ?_ _ | refine blk_drew ?_ | refine blk_alloc ?_ _)); exact BK430.out)) : gb435 ≠ gb430)); clear BK414; clear BK419; clear BK430; clear HB; have BK414 := n0_; have BK419 := n1_; have BK430 := n2_; have HB := n3_; have BK435 := n4_; have GW435 := n5_; have GE435 := n6_; have NB414_435 := n7_; have NB435_414 := n8_; have NB419_435 := n9_; have NB435_419 := n10_; have NB430_435 := n11_; have NB435_430 := n12_; clear n0_ n1_ n2_ n3_ n4_ n5_ n6_ n7_ n8_ n9_ n10_ n11_ n12_; clear hb hbox hg; have hnb83 := NB435_414.out; have hnc83 := NB414_435.out; have hnb84 := NB435_419.out; have hnc84 := NB419_435.out; have hnb85 := NB435_430.out; have hnc85 := NB430_435.out; have hcz86_0 : w82.cell? ⟨gb435, 0, none⟩ = some (.int .i64 0) := (blk_cell BK435.out 0).trans rfl; have hcz86_1 : w82.cell? ⟨gb435, 1, none⟩ = some (.int .i64 0) := (blk_cell BK435.out 1).trans rfl; have hcz86_2 : w82.cell? ⟨gb435, 2, none⟩ = some (.string (⟨#[]⟩ : ByteArray)) := (blk_cell BK435.out 2).trans rfl; have hfz86_0 := blk_frozen BK435.out 0; have hfz86_1 := blk_frozen BK435.out 1; have hfz86_2 := blk_frozen BK435.out 2; have hcz87_0 : w82.cell? ⟨gb414, 0, none⟩ = some (.int .i64 t411) := (blk_cell BK414.out 0).trans rfl; have hcz87_1 : w82.cell? ⟨gb414, 1, none⟩ = some (.int .i64 t412) := (blk_cell BK414.out 1).trans rfl; have hcz87_2 : w82.cell? ⟨gb414, 2, none⟩ = some (.string t413) := (blk_cell BK414.out 2).trans rfl; have hfz87_0 := blk_frozen BK414.out 0; have hfz87_1 := blk_frozen BK414.out 1; have hfz87_2 := blk_frozen BK414.out 2; have hcz88_0 : w82.cell? ⟨gb419, 0, none⟩ = some (.int .i64 t415) := (blk_cell BK419.out 0).trans rfl; have hcz88_1 : w82.cell? ⟨gb419, 1, none⟩ = some (.int .i64 t416) := (blk_cell BK419.out 1).trans rfl; have hcz88_2 : w82.cell? ⟨gb419, 2, none⟩ = some (.string t417) := (blk_cell BK419.out 2).trans rfl; have hfz88_0 := blk_frozen BK419.out 0; have hfz88_1 := blk_frozen BK419.out 1; have hfz88_2 := blk_frozen BK419.out 2) | ((with_reducible refine gate_callee (f := 21) rfl ?_); refine goesL_ (some 81) rfl rfl Try.func21 (by kernel_rfl) rfl #[.agg #[.int .i64 t411, .int .i64 t412, .string t413], .agg #[.int .i64 t415, .int .i64 t416, .string t417]] rfl (by (try simp only [List.map_toArray, List.map_cons, List.map_nil]); first | done | rfl | (simp only [List.length_drop, List.length_take]; rfl)) ?_; (with_reducible refine (matrix_Mul.calls t411 t412 t413 t415 t416 t417 t436 t437 t438 t439 _ A63.out).mono ?_); rintro e w89 ⟨rfl, hb⟩; refine ⟨_, rfl, ?_⟩; have n0_ := Aside0.mk (blk_below (g := gb414) (o := .cells #[.int .i64 t411, .int .i64 t412, .string t413] 24 (0, 0)) (by (with_reducible repeat (first | refine blk_drewN ?_ _ | refine blk_drew ?_ | refine blk_alloc ?_ _)); refine blk_far ?_ NB414_435.out _; (with_reducible repeat (first | refine blk_drewN ?_ _ | refine blk_drew ?_ | refine blk_alloc ?_ _)); refine blk_far ?_ NB414_435.out _; (with_reducible repeat (first | refine blk_drewN ?_ _ | refine blk_drew ?_ | refine blk_alloc ?_ _)); refine blk_far ?_ NB414_435.out _; (with_reducible repeat (first | refine blk_drewN ?_ _ | refine blk_drew ?_ | refine blk_alloc ?_ _)); exact BK414.out) hb); have n1_ := Aside0.mk (blk_below (g := gb419) (o := .cells #[.int .i64 t415, .int .i64 t416, .string t417] 24 (0, 0)) (by (with_reducible repeat (first | refine blk_drewN ?_ _ | refine blk_drew ?_ | refine blk_alloc ?_ _)); refine blk_far ?_ NB419_435.out _; (with_reducible repeat (first | refine blk_drewN ?_ _ | refine blk_drew ?_ | refine blk_alloc ?_ _)); refine blk_far ?_ NB419_435.out _; (with_reducible repeat (first | refine blk_drewN ?_ _ | refine blk_drew ?_ | refine blk_alloc ?_ _)); refine blk_far ?_ NB419_435.out _; (with_reducible repeat (first | refine blk_drewN ?_ _ | refine blk_drew ?_ | refine blk_alloc ?_ _)); exact BK419.out) hb); have n2_ := Aside0.mk (blk_below (g := gb430) (o := .cells #[.int .i64 t426, .int .i64 t427, .string t428] 24 (0, 0)) (by (with_reducible repeat (first | refine blk_drewN ?_ _ | refine blk_drew ?_ | refine blk_alloc ?_ _)); refine blk_far ?_ NB430_435.out _; (with_reducible repeat (first | refine blk_drewN ?_ _ | refine blk_drew ?_ | refine blk_alloc ?_ _)); refine blk_far ?_ NB430_435.out _; (with_reducible repeat (first | refine blk_drewN ?_ _ | refine blk_drew ?_ | refine blk_alloc ?_ _)); refine blk_far ?_ NB430_435.out _; (with_reducible repeat (first | refine blk_drewN ?_ _ | refine blk_drew ?_ | refine blk_alloc ?_ _)); exact BK430.out) hb); have n3_ := Aside0.mk (blk_below (g := gb435) (o := .cells #[.int .i64 t431, .int .i64 t432, .string t433] 24 (0, 0)) (by (with_reducible repeat (first | refine blk_drewN ?_ _ | refine blk_drew ?_ | refine blk_alloc ?_ _)); refine blk_put (cs := #[.int .i64 t431, .int .i64 t432, .string (⟨#[]⟩ : ByteArray)]) ?_ 2 _ rfl; (with_reducible repeat (first | refine blk_drewN ?_ _ | refine blk_drew ?_ | refine blk_alloc ?_ _)); refine blk_put (cs := #[.int .i64 t431, .int .i64 0, .string (⟨#[]⟩ : ByteArray)]) ?_ 1 _ rfl; (with_reducible repeat (first | refine blk_drewN ?_ _ | refine blk_drew ?_ | refine blk_alloc ?_ _)); refine blk_put (cs := #[.int .i64 0, .int .i64 0, .string (⟨#[]⟩ : ByteArray)]) ?_ 0 _ rfl; (with_reducible repeat (first | refine blk_drewN ?_ _ | refine blk_drew ?_ | refine blk_alloc ?_ _)); exact BK435.out) hb); have n4_ := Aside0.mk (below_step (by repeat (first | (with_reducible first | exact HB.out | apply below_alloc | apply pw_below_drewN | apply below_drew1 | refine below_set ?_ GE414.out | refine below_set ?_ GE419.out | refine below_set ?_ GE430.out | refine below_set ?_ GE435.out) | exact HB.out)) hb); clear BK414; clear BK419; clear BK430; clear BK435; clear HB; have BK414 := n0_; have BK419 := n1_; have BK430 := n2_; have BK435 := n3_; have HB := n4_; clear n0_ n1_ n2_ n3_ n4_; (try clear hb); (try clear hb2); (try clear hk); (try clear hi)) | ((with_reducible refine gate_dst (N := 15) rfl ?_); refine box_event ?hg (N := 15) ?hd (cs := #[.int .i64 0, .int .i64 0, .string (⟨#[]⟩ : ByteArray)]) (t := 24) ?hr ?_; (case hd => rfl); (case hg => rfl); (case hr => first | (go_simp; done) | (go_simp; rfl)); intro gb440 hg w90 hbox hb; have n0_ := Aside0.mk (blk_below (g := gb414) (o := .cells #[.int .i64 t411, .int .i64 t412, .string t413] 24 (0, 0)) (by (with_reducible repeat (first | refine blk_drewN ?_ _ | refine blk_drew ?_ | refine blk_alloc ?_ _)); exact BK414.out) hb); have n1_ := Aside0.mk (blk_below (g := gb419) (o := .cells #[.int .i64 t415, .int .i64 t416, .string t417] 24 (0, 0)) (by (with_reducible repeat (first | refine blk_drewN ?_ _ | refine blk_drew ?_ | refine blk_alloc ?_ _)); exact BK419.out) hb); have n2_ := Aside0.mk (blk_below (g := gb430) (o := .cells #[.int .i64 t426, .int .i64 t427, .string t428] 24 (0, 0)) (by (with_reducible repeat (first | refine blk_drewN ?_ _ | refine blk_drew ?_ | refine blk_alloc ?_ _)); exact BK430.out) hb); have n3_ := Aside0.mk (blk_below (g := gb435) (o := .cells #[.int .i64 t431, .int .i64 t432, .string t433] 24 (0, 0)) (by (with_reducible repeat (first | refine blk_drewN ?_ _ | refine blk_drew ?_ | refine blk_alloc ?_ _)); exact BK435.out) hb); have n4_ := Aside0.mk (below_step (by repeat (first | (with_reducible first | exact HB.out | apply below_alloc | apply pw_below_drewN | apply below_drew1 | refine below_set ?_ GE414.out | refine below_set ?_ GE419.out | refine below_set ?_ GE430.out | refine below_set ?_ GE435.out) | exact HB.out)) hb); have n5_ := Aside0.mk (hbox); have n6_ := Aside0.mk ((by rw [hg]; exact (below_size (by repeat (first | (with_reducible first | exact HB.out | apply below_alloc | apply pw_below_drewN | apply below_drew1 | refine below_set ?_ GE414.out | refine below_set ?_ GE419.out | refine below_set ?_ GE430.out | refine below_set ?_ GE435.out) | exact HB.out))) : w.heap.size ≤ gb440)); have n7_ := Aside0.mk ((by rw [hg]; exact (below_size (by repeat (first | (with_reducible first | exact HB.out | apply below_alloc | apply pw_below_drewN | apply below_drew1 | refine below_set ?_ GE414.out | refine below_set ?_ GE419.out | refine below_set ?_ GE430.out | refine below_set ?_ GE435.out) | exact HB.out))) : w.heap.size ≤ gb440)); have n8_ := Aside0.mk ((by rw [hg]; exact Nat.ne_of_lt (blk_lt (g := gb414) (o := .cells #[.int .i64 t411, .int .i64 t412, .string t413] 24 (0, 0)) (by (with_reducible repeat (first | refine blk_drewN ?_ _ | refine blk_drew ?_ | refine blk_alloc ?_ _)); exact BK414.out)) : gb414 ≠ gb440)); have n9_ := Aside0.mk ((by rw [hg]; exact Nat.ne_of_gt (blk_lt (g := gb414) (o := .cells #[.int .i64 t411, .int .i64 t412, .string t413] 24 (0, 0)) (by (with_reducible repeat (first | refine blk_drewN ?_ _ | refine blk_drew ?_ | refine blk_alloc ?_ _)); exact BK414.out)) : gb440 ≠ gb414)); have n10_ := Aside0.mk ((by rw [hg]; exact Nat.ne_of_lt (blk_lt (g := gb419) (o := .cells #[.int .i64 t415, .int .i64 t416, .string t417] 24 (0, 0)) (by (with_reducible repeat (first | refine blk_drewN ?_ _ | refine blk_drew ?_ | refine blk_alloc ?_ _)); exact BK419.out)) : gb419 ≠ gb440)); have n11_ := Aside0.mk ((by rw [hg]; exact Nat.ne_of_gt (blk_lt (g := gb419) (o := .cells #[.int .i64 t415, .int .i64 t416, .string t417] 24 (0, 0)) (by (with_reducible repeat (first | refine blk_drewN ?_ _ | refine blk_drew ?_ | refine blk_alloc ?_ _)); exact BK419.out)) : gb440 ≠ gb419)); have n12_ := Aside0.mk ((by rw [hg]; exact Nat.ne_of_lt (blk_lt (g := gb430) (o := .cells #[.int .i64 t426, .int .i64 t427, .string t428] 24 (0, 0)) (by (with_reducible repeat (first | refine blk_drewN ?_ _ | refine blk_drew ?_ | refine blk_alloc ?_ _)); exact BK430.out)) : gb430 ≠ gb440)); have n13_ := Aside0.mk ((by rw [hg]; exact Nat.ne_of_gt (blk_lt (g := gb430) (o := .cells #[.int .i64 t426, .int .i64 t427, .string t428] 24 (0, 0)) (by (with_reducible repeat (first | refine blk_drewN ?_ _ | refine blk_drew ?_ | refine blk_alloc ?_ _)); exact BK430.out)) : gb440 ≠ gb430)); have n14_ := Aside0.mk ((by rw [hg]; exact Nat.ne_of_lt (blk_lt (g := gb435) (o := .cells #[.int .i64 t431, .int .i64 t432, .string t433] 24 (0, 0)) (by (with_reducible repeat (first | refine blk_drewN ?_ _ | refine blk_drew ?_ | refine blk_alloc ?_ _)); exact BK435.out)) : gb435 ≠ gb440)); have n15_ := Aside0.mk ((by rw [hg]; exact Nat.ne_of_gt (blk_lt (g := gb435) (o := .cells #[.int .i64 t431, .int .i64 t432, .string t433] 24 (0, 0)) (by (with_reducible repeat (first | refine blk_drewN ?_ _ | refine blk_drew ?_ | refine blk_alloc ?_ _)); exact BK435.out)) : gb440 ≠ gb435)); clear BK414; clear BK419; clear BK430; clear BK435; clear HB; have BK414 := n0_; have BK419 := n1_; have BK430 := n2_; have BK435 := n3_; have HB := n4_; have BK440 := n5_; have GW440 := n6_; have GE440 := n7_; have NB414_440 := n8_; have NB440_414 := n9_; have NB419_440 := n10_; have NB440_419 := n11_; have NB430_440 := n12_; have NB440_430 := n13_; have NB435_440 := n14_; have NB440_435 := n15_; clear n0_ n1_ n2_ n3_ n4_ n5_ n6_ n7_ n8_ n9_ n10_ n11_ n12_ n13_ n14_ n15_; clear hb hbox hg; have hnb91 := NB440_414.out; have hnc91 := NB414_440.out; have hnb92 := NB440_419.out; have hnc92 := NB419_440.out; have hnb93 := NB440_430.out; have hnc93 := NB430_440.out; have hnb94 := NB440_435.out; have hnc94 := NB435_440.out; have hcz95_0 : w90.cell? ⟨gb440, 0, none⟩ = some (.int .i64 0) := (blk_cell BK440.out 0).trans rfl; have hcz95_1 : w90.cell? ⟨gb440, 1, none⟩ = some (.int .i64 0) := (blk_cell BK440.out 1).trans rfl; have hcz95_2 : w90.cell? ⟨gb440, 2, none⟩ = some (.string (⟨#[]⟩ : ByteArray)) := (blk_cell BK440.out 2).trans rfl; have hfz95_0 := blk_frozen BK440.out 0; have hfz95_1 := blk_frozen BK440.out 1; have hfz95_2 := blk_frozen BK440.out 2; have hcz96_0 : w90.cell? ⟨gb419, 0, none⟩ = some (.int .i64 t415) := (blk_cell BK419.out 0).trans rfl; have hcz96_1 : w90.cell? ⟨gb419, 1, none⟩ = some (.int .i64 t416) := (blk_cell BK419.out 1).trans rfl; have hcz96_2 : w90.cell? ⟨gb419, 2, none⟩ = some (.string t417) := (blk_cell BK419.out 2).trans rfl; have hfz96_0 := blk_frozen BK419.out 0; have hfz96_1 := blk_frozen BK419.out 1; have hfz96_2 := blk_frozen BK419.out 2) | ((with_reducible refine gate_callee (f := 26) rfl ?_); refine goesL_ (some 86) rfl rfl Try.func26 (by kernel_rfl) rfl #[.agg #[.int .i64 t415, .int .i64 t416, .string t417]] rfl (by (try simp only [List.map_toArray, List.map_cons, List.map_nil]); first | done | rfl | (simp only [List.length_drop, List.length_take]; rfl)) ?_; (with_reducible refine (matrix_Inverse.calls t415 t416 t417 t441 t442 t443 t444 _ A64.out).mono ?_); rintro e w97 ⟨rfl, hb⟩; refine ⟨_, rfl, ?_⟩; have n0_ := Aside0.mk (blk_below (g := gb414) (o := .cells #[.int .i64 t411, .int .i64 t412, .string t413] 24 (0, 0)) (by (with_reducible repeat (first | refine blk_drewN ?_ _ | refine blk_drew ?_ | refine blk_alloc ?_ _)); refine blk_far ?_ NB414_440.out _; (with_reducible repeat (first | refine blk_drewN ?_ _ | refine blk_drew ?_ | refine blk_alloc ?_ _)); refine blk_far ?_ NB414_440.out _; (with_reducible repeat (first | refine blk_drewN ?_ _ | refine blk_drew ?_ | refine blk_alloc ?_ _)); refine blk_far ?_ NB414_440.out _; (with_reducible repeat (first | refine blk_drewN ?_ _ | refine blk_drew ?_ | refine blk_alloc ?_ _)); exact BK414.out) hb); have n1_ := Aside0.mk (blk_below (g := gb419) (o := .cells #[.int .i64 t415, .int .i64 t416, .string t417] 24 (0, 0)) (by (with_reducible repeat (first | refine blk_drewN ?_ _ | refine blk_drew ?_ | refine blk_alloc ?_ _)); refine blk_far ?_ NB419_440.out _; (with_reducible repeat (first | refine blk_drewN ?_ _ | refine blk_drew ?_ | refine blk_alloc ?_ _)); refine blk_far ?_ NB419_440.out _; (with_reducible repeat (first | refine blk_drewN ?_ _ | refine blk_drew ?_ | refine blk_alloc ?_ _)); refine blk_far ?_ NB419_440.out _; (with_reducible repeat (first | refine blk_drewN ?_ _ | refine blk_drew ?_ | refine blk_alloc ?_ _)); exact BK419.out) hb); have n2_ := Aside0.mk (blk_below (g := gb430) (o := .cells #[.int .i64 t426, .int .i64 t427, .string t428] 24 (0, 0)) (by (with_reducible repeat (first | refine blk_drewN ?_ _ | refine blk_drew ?_ | refine blk_alloc ?_ _)); refine blk_far ?_ NB430_440.out _; (with_reducible repeat (first | refine blk_drewN ?_ _ | refine blk_drew ?_ | refine blk_alloc ?_ _)); refine blk_far ?_ NB430_440.out _; (with_reducible repeat (first | refine blk_drewN ?_ _ | refine blk_drew ?_ | refine blk_alloc ?_ _)); refine blk_far ?_ NB430_440.out _; (with_reducible repeat (first | refine blk_drewN ?_ _ | refine blk_drew ?_ | refine blk_alloc ?_ _)); exact BK430.out) hb); have n3_ := Aside0.mk (blk_below (g := gb435) (o := .cells #[.int .i64 t431, .int .i64 t432, .string t433] 24 (0, 0)) (by (with_reducible repeat (first | refine blk_drewN ?_ _ | refine blk_drew ?_ | refine blk_alloc ?_ _)); refine blk_far ?_ NB435_440.out _; (with_reducible repeat (first | refine blk_drewN ?_ _ | refine blk_drew ?_ | refine blk_alloc ?_ _)); refine blk_far ?_ NB435_440.out _; (with_reducible repeat (first | refine blk_drewN ?_ _ | refine blk_drew ?_ | refine blk_alloc ?_ _)); refine blk_far ?_ NB435_440.out _; (with_reducible repeat (first | refine blk_drewN ?_ _ | refine blk_drew ?_ | refine blk_alloc ?_ _)); exact BK435.out) hb); have n4_ := Aside0.mk (blk_below (g := gb440) (o := .cells #[.int .i64 t436, .int .i64 t437, .string t438] 24 (0, 0)) (by (with_reducible repeat (first | refine blk_drewN ?_ _ | refine blk_drew ?_ | refine blk_alloc ?_ _)); refine blk_put (cs := #[.int .i64 t436, .int .i64 t437, .string (⟨#[]⟩ : ByteArray)]) ?_ 2 _ rfl; (with_reducible repeat (first | refine blk_drewN ?_ _ | refine blk_drew ?_ | refine blk_alloc ?_ _)); refine blk_put (cs := #[.int .i64 t436, .int .i64 0, .string (⟨#[]⟩ : ByteArray)]) ?_ 1 _ rfl; (with_reducible repeat (first | refine blk_drewN ?_ _ | refine blk_drew ?_ | refine blk_alloc ?_ _)); refine blk_put (cs := #[.int .i64 0, .int .i64 0, .string (⟨#[]⟩ : ByteArray)]) ?_ 0 _ rfl; (with_reducible repeat (first | refine blk_drewN ?_ _ | refine blk_drew ?_ | refine blk_alloc ?_ _)); exact BK440.out) hb); have n5_ := Aside0.mk (below_step (by repeat (first | (with_reducible first | exact HB.out | apply below_alloc | apply pw_below_drewN | apply below_drew1 | refine below_set ?_ GE414.out | refine below_set ?_ GE419.out | refine below_set ?_ GE430.out | refine below_set ?_ GE435.out | refine below_set ?_ GE440.out) | exact HB.out)) hb); clear BK414; clear BK419; clear BK430; clear BK435; clear BK440; clear HB; have BK414 := n0_; have BK419 := n1_; have BK430 := n2_; have BK435 := n3_; have BK440 := n4_; have HB := n5_; clear n0_ n1_ n2_ n3_ n4_ n5_; (try clear hb); (try clear hb2); (try clear hk); (try clear hi)) | ((with_reducible refine gate_dst (N := 17) rfl ?_); refine box_event ?hg (N := 17) ?hd (cs := #[.int .i64 0, .int .i64 0, .string (⟨#[]⟩ : ByteArray)]) (t := 24) ?hr ?_; (case hd => rfl); (case hg => rfl); (case hr => first | (go_simp; done) | (go_simp; rfl)); intro gb445 hg w98 hbox hb; have n0_ := Aside0.mk (blk_below (g := gb414) (o := .cells #[.int .i64 t411, .int .i64 t412, .string t413] 24 (0, 0)) (by (with_reducible repeat (first | refine blk_drewN ?_ _ | refine blk_drew ?_ | refine blk_alloc ?_ _)); exact BK414.out) hb); have n1_ := Aside0.mk (blk_below (g := gb419) (o := .cells #[.int .i64 t415, .int .i64 t416, .string t417] 24 (0, 0)) (by (with_reducible repeat (first | refine blk_drewN ?_ _ | refine blk_drew ?_ | refine blk_alloc ?_ _)); exact BK419.out) hb); have n2_ := Aside0.mk (blk_below (g := gb430) (o := .cells #[.int .i64 t426, .int .i64 t427, .string t428] 24 (0, 0)) (by (with_reducible repeat (first | refine blk_drewN ?_ _ | refine blk_drew ?_ | refine blk_alloc ?_ _)); exact BK430.out) hb); have n3_ := Aside0.mk (blk_below (g := gb435) (o := .cells #[.int .i64 t431, .int .i64 t432, .string t433] 24 (0, 0)) (by (with_reducible repeat (first | refine blk_drewN ?_ _ | refine blk_drew ?_ | refine blk_alloc ?_ _)); exact BK435.out) hb); have n4_ := Aside0.mk (blk_below (g := gb440) (o := .cells #[.int .i64 t436, .int .i64 t437, .string t438] 24 (0, 0)) (by (with_reducible repeat (first | refine blk_drewN ?_ _ | refine blk_drew ?_ | refine blk_alloc ?_ _)); exact BK440.out) hb); have n5_ := Aside0.mk (below_step (by repeat (first | (with_reducible first | exact HB.out | apply below_alloc | apply pw_below_drewN | apply below_drew1 | refine below_set ?_ GE414.out | refine below_set ?_ GE419.out | refine below_set ?_ GE430.out | refine below_set ?_ GE435.out | refine below_set ?_ GE440.out) | exact HB.out)) hb); have n6_ := Aside0.mk (hbox); have n7_ := Aside0.mk ((by rw [hg]; exact (below_size (by repeat (first | (with_reducible first | exact HB.out | apply below_alloc | apply pw_below_drewN | apply below_drew1 | refine below_set ?_ GE414.out | refine below_set ?_ GE419.out | refine below_set ?_ GE430.out | refine below_set ?_ GE435.out | refine below_set ?_ GE440.out) | exact HB.out))) : w.heap.size ≤ gb445)); have n8_ := Aside0.mk ((by rw [hg]; exact (below_size (by repeat (first | (with_reducible first | exact HB.out | apply below_alloc | apply pw_below_drewN | apply below_drew1 | refine below_set ?_ GE414.out | refine below_set ?_ GE419.out | refine below_set ?_ GE430.out | refine below_set ?_ GE435.out | refine below_set ?_ GE440.out) | exact HB.out))) : w.heap.size ≤ gb445)); have n9_ := Aside0.mk ((by rw [hg]; exact Nat.ne_of_lt (blk_lt (g := gb414) (o := .cells #[.int .i64 t411, .int .i64 t412, .string t413] 24 (0, 0)) (by (with_reducible repeat (first | refine blk_drewN ?_ _ | refine blk_drew ?_ | refine blk_alloc ?_ _)); exact BK414.out)) : gb414 ≠ gb445)); have n10_ := Aside0.mk ((by rw [hg]; exact Nat.ne_of_gt (blk_lt (g := gb414) (o := .cells #[.int .i64 t411, .int .i64 t412, .string t413] 24 (0, 0)) (by (with_reducible repeat (first | refine blk_drewN ?_ _ | refine blk_drew ?_ | refine blk_alloc ?_ _)); exact BK414.out)) : gb445 ≠ gb414)); have n11_ := Aside0.mk ((by rw [hg]; exact Nat.ne_of_lt (blk_lt (g := gb419) (o := .cells #[.int .i64 t415, .int .i64 t416, .string t417] 24 (0, 0)) (by (with_reducible repeat (first | refine blk_drewN ?_ _ | refine blk_drew ?_ | refine blk_alloc ?_ _)); exact BK419.out)) : gb419 ≠ gb445)); have n12_ := Aside0.mk ((by rw [hg]; exact Nat.ne_of_gt (blk_lt (g := gb419) (o := .cells #[.int .i64 t415, .int .i64 t416, .string t417] 24 (0, 0)) (by (with_reducible repeat (first | refine blk_drewN ?_ _ | refine blk_drew ?_ | refine blk_alloc ?_ _)); exact BK419.out)) : gb445 ≠ gb419)); have n13_ := Aside0.mk ((by rw [hg]; exact Nat.ne_of_lt (blk_lt (g := gb430) (o := .cells #[.int .i64 t426, .int .i64 t427, .string t428] 24 (0, 0)) (by (with_reducible repeat (first | refine blk_drewN ?_ _ | refine blk_drew ?_ | refine blk_alloc ?_ _)); exact BK430.out)) : gb430 ≠ gb445)); have n14_ := Aside0.mk ((by rw [hg]; exact Nat.ne_of_gt (blk_lt (g := gb430) (o := .cells #[.int .i64 t426, .int .i64 t427, .string t428] 24 (0, 0)) (by (with_reducible repeat (first | refine blk_drewN ?_ _ | refine blk_drew ?_ | refine blk_alloc ?_ _)); exact BK430.out)) : gb445 ≠ gb430)); have n15_ := Aside0.mk ((by rw [hg]; exact Nat.ne_of_lt (blk_lt (g := gb435) (o := .cells #[.int .i64 t431, .int .i64 t432, .string t433] 24 (0, 0)) (by (with_reducible repeat (first | refine blk_drewN ?_ _ | refine blk_drew ?_ | refine blk_alloc ?_ _)); exact BK435.out)) : gb435 ≠ gb445)); have n16_ := Aside0.mk ((by rw [hg]; exact Nat.ne_of_gt (blk_lt (g := gb435) (o := .cells #[.int .i64 t431, .int .i64 t432, .string t433] 24 (0, 0)) (by (with_reducible repeat (first | refine blk_drewN ?_ _ | refine blk_drew ?_ | refine blk_alloc ?_ _)); exact BK435.out)) : gb445 ≠ gb435)); have n17_ := Aside0.mk ((by rw [hg]; exact Nat.ne_of_lt (blk_lt (g := gb440) (o := .cells #[.int .i64 t436, .int .i64 t437, .string t438] 24 (0, 0)) (by (with_reducible repeat (first | refine blk_drewN ?_ _ | refine blk_drew ?_ | refine blk_alloc ?_ _)); exact BK440.out)) : gb440 ≠ gb445)); have n18_ := Aside0.mk ((by rw [hg]; exact Nat.ne_of_gt (blk_lt (g := gb440) (o := .cells #[.int .i64 t436, .int .i64 t437, .string t438] 24 (0, 0)) (by (with_reducible repeat (first | refine blk_drewN ?_ _ | refine blk_drew ?_ | refine blk_alloc ?_ _)); exact BK440.out)) : gb445 ≠ gb440)); clear BK414; clear BK419; clear BK430; clear BK435; clear BK440; clear HB; have BK414 := n0_; have BK419 := n1_; have BK430 := n2_; have BK435 := n3_; have BK440 := n4_; have HB := n5_; have BK445 := n6_; have GW445 := n7_; have GE445 := n8_; have NB414_445 := n9_; have NB445_414 := n10_; have NB419_445 := n11_; have NB445_419 := n12_; have NB430_445 := n13_; have NB445_430 := n14_; have NB435_445 := n15_; have NB445_435 := n16_; have NB440_445 := n17_; have NB445_440 := n18_; clear n0_ n1_ n2_ n3_ n4_ n5_ n6_ n7_ n8_ n9_ n10_ n11_ n12_ n13_ n14_ n15_ n16_ n17_ n18_; clear hb hbox hg; have hnb99 := NB445_414.out; have hnc99 := NB414_445.out; have hnb100 := NB445_419.out; have hnc100 := NB419_445.out; have hnb101 := NB445_430.out; have hnc101 := NB430_445.out; have hnb102 := NB445_435.out; have hnc102 := NB435_445.out; have hnb103 := NB445_440.out; have hnc103 := NB440_445.out; have hcz104_0 : w98.cell? ⟨gb445, 0, none⟩ = some (.int .i64 0) := (blk_cell BK445.out 0).trans rfl; have hcz104_1 : w98.cell? ⟨gb445, 1, none⟩ = some (.int .i64 0) := (blk_cell BK445.out 1).trans rfl; have hcz104_2 : w98.cell? ⟨gb445, 2, none⟩ = some (.string (⟨#[]⟩ : ByteArray)) := (blk_cell BK445.out 2).trans rfl; have hfz104_0 := blk_frozen BK445.out 0; have hfz104_1 := blk_frozen BK445.out 1; have hfz104_2 := blk_frozen BK445.out 2; have hcz105_0 : w98.cell? ⟨gb435, 0, none⟩ = some (.int .i64 t431) := (blk_cell BK435.out 0).trans rfl; have hcz105_1 : w98.cell? ⟨gb435, 1, none⟩ = some (.int .i64 t432) := (blk_cell BK435.out 1).trans rfl; have hcz105_2 : w98.cell? ⟨gb435, 2, none⟩ = some (.string t433) := (blk_cell BK435.out 2).trans rfl; have hfz105_0 := blk_frozen BK435.out 0; have hfz105_1 := blk_frozen BK435.out 1; have hfz105_2 := blk_frozen BK435.out 2; have hcz106_0 : w98.cell? ⟨gb430, 0, none⟩ = some (.int .i64 t426) := (blk_cell BK430.out 0).trans rfl; have hcz106_1 : w98.cell? ⟨gb430, 1, none⟩ = some (.int .i64 t427) := (blk_cell BK430.out 1).trans rfl; have hcz106_2 : w98.cell? ⟨gb430, 2, none⟩ = some (.string t428) := (blk_cell BK430.out 2).trans rfl; have hfz106_0 := blk_frozen BK430.out 0; have hfz106_1 := blk_frozen BK430.out 1; have hfz106_2 := blk_frozen BK430.out 2; have hcz107_0 : w98.cell? ⟨gb440, 0, none⟩ = some (.int .i64 t436) := (blk_cell BK440.out 0).trans rfl; have hcz107_1 : w98.cell? ⟨gb440, 1, none⟩ = some (.int .i64 t437) := (blk_cell BK440.out 1).trans rfl; have hcz107_2 : w98.cell? ⟨gb440, 2, none⟩ = some (.string t438) := (blk_cell BK440.out 2).trans rfl; have hfz107_0 := blk_frozen BK440.out 0; have hfz107_1 := blk_frozen BK440.out 1; have hfz107_2 := blk_frozen BK440.out 2; have hcz108_0 : w98.cell? ⟨gb414, 0, none⟩ = some (.int .i64 t411) := (blk_cell BK414.out 0).trans rfl; have hcz108_1 : w98.cell? ⟨gb414, 1, none⟩ = some (.int .i64 t412) := (blk_cell BK414.out 1).trans rfl; have hcz108_2 : w98.cell? ⟨gb414, 2, none⟩ = some (.string t413) := (blk_cell BK414.out 2).trans rfl; have hfz108_0 := blk_frozen BK414.out 0; have hfz108_1 := blk_frozen BK414.out 1; have hfz108_2 := blk_frozen BK414.out 2))
                        go_ret
                        exact ⟨by first | rfl | (simp [errW_none, errW_some] <;> rfl) | (simp [*, errW_none, errW_some] <;> rfl), by repeat (first | (with_reducible first | exact HB.out | apply below_alloc | apply pw_below_drewN | apply below_drew1 | refine below_set ?_ GE414.out | refine below_set ?_ GE419.out | refine below_set ?_ GE430.out | refine below_set ?_ GE435.out | refine below_set ?_ GE440.out | refine below_set ?_ GE445.out) | exact HB.out)⟩
                      · rw [if_neg c71] at H
                        have c71b0 : (t436 == t426 && (t437 == t427 && (t438.toList == t428.toList))) = false := by simpa using c71
                        (try (have c71b1 : decide (t436 = t426 && (t437 == t427 && (t438.toList == t428.toList))) = false := by simpa using c71))
                        (try (have c71b2 : (t436 == t426 && (t437 == t427 && (t438.toList == t428.toList))) = false := by simpa using c71))
                        (try (have c71b3 : ¬ (t436 = t426 && (t437 == t427 && (t438.toList == t428.toList))) := by simpa using c71))
                        clear c71
                        exact absurd (H.trans (congrArg some HRT.out)) (by simp)
                    · rw [if_neg c70] at H
                      have c70b0 : (t431 == t426 && (t432 == t427 && (t433.toList == t428.toList))) = false := by simpa using c70
                      (try (have c70b1 : decide (t431 = t426 && (t432 == t427 && (t433.toList == t428.toList))) = false := by simpa using c70))
                      (try (have c70b2 : (t431 == t426 && (t432 == t427 && (t433.toList == t428.toList))) = false := by simpa using c70))
                      (try (have c70b3 : ¬ (t431 = t426 && (t432 == t427 && (t433.toList == t428.toList))) := by simpa using c70))
                      clear c70
                      exact absurd (H.trans (congrArg some HRT.out)) (by simp)
                  · rw [if_neg c69] at H
                    have c69b0 : (t444 == 0) = false := beq_eq_false_iff_ne.mpr c69
                    have c69b1 : (t444 != 0) = true := bne_iff_ne.mpr c69
                    exact absurd (H.trans (congrArg some HRT.out)) (by simp)
                · rw [if_neg c68] at H
                  have c68b0 : (t439 == 0) = false := beq_eq_false_iff_ne.mpr c68
                  have c68b1 : (t439 != 0) = true := bne_iff_ne.mpr c68
                  exact absurd (H.trans (congrArg some HRT.out)) (by simp)
              · rw [if_neg c67] at H
                have c67b0 : (t434 == 0) = false := beq_eq_false_iff_ne.mpr c67
                have c67b1 : (t434 != 0) = true := bne_iff_ne.mpr c67
                exact absurd (H.trans (congrArg some HRT.out)) (by simp)
            · rw [if_neg c66] at H
              have c66b0 : (t429 == 0) = false := beq_eq_false_iff_ne.mpr c66
              have c66b1 : (t429 != 0) = true := bne_iff_ne.mpr c66
              exact absurd (H.trans (congrArg some HRT.out)) (by simp)
          · rw [if_neg c65] at H
            have c65b0 : (t418 == 0) = false := beq_eq_false_iff_ne.mpr c65
            have c65b1 : (t418 != 0) = true := bne_iff_ne.mpr c65
            exact absurd (H.trans (congrArg some HRT.out)) (by simp)
  · replace c4 := Bool.eq_false_iff.mpr c4
    subst c4
    have H1 : (some false) = some r := by rw [if_neg (show ¬ (false = true) by decide)] at H; exact H
    clear H
    have H := H1
    clear H1
    exact absurd (H.trans (congrArg some HRT.out)) (by simp)
/-- THE ONE PURE STATEMENT of corncriblaw02_MatrixBack: yours. -/
def corncriblaw02_MatrixBack.Pure : Prop := ∀ (a0 : Int) (a1 : ByteArray), (Lit.int .i64 a0).wf = true → a1.size ≤ 140737488351232 → ∃ k, corncriblaw02_MatrixBack.f k a0 a1 = some true
theorem corncriblaw02_MatrixBack.walk (P : corncriblaw02_MatrixBack.Pure) (a0 : Int) (a1 : ByteArray) (w : World) (w0 : (Lit.int .i64 a0).wf = true) (w1 : a1.size ≤ 140737488351232) :
    Calls Try.prog 10 #[.int .i64 a0, .string a1] w fun e w' => e = .returned (.bool true) ∧ Below w.heap.size w w' := by
  obtain ⟨k, h⟩ := P a0 a1 w0 w1
  refine (corncriblaw02_MatrixBack.calls k a0 a1 true w h rfl).mono ?_
  rintro e w' ⟨rfl, hd⟩
  exact ⟨rfl, hd⟩

end Go.Proofs.Ytoghhpkmficnmaa.Al
