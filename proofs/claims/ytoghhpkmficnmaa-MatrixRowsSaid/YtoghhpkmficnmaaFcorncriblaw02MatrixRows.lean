/- One function of the program comes to what its plain twin says. This text began as the kit's own print (print.py, made by cprint.sh) and was turned by split.py: it is no printed file. -/
import Derived.Test.YtoghhpkmficnmaaPrb
namespace Go.Proofs.Ytoghhpkmficnmaa.Al
open Go.RowKit Go.Proofs.YtoghhpkmficnmaaW.PrintWords
theorem cfz3 {w : World} {g t : Nat} {c0 c1 c2 : Value} (h : w.heap[g]? = some (.cells #[c0, c1, c2] t (0, 0))) : w.cell? ⟨g, 0, none⟩ = some c0 ∧ w.frozen? ⟨g, 0, none⟩ = false ∧ w.cell? ⟨g, 1, none⟩ = some c1 ∧ w.frozen? ⟨g, 1, none⟩ = false ∧ w.cell? ⟨g, 2, none⟩ = some c2 ∧ w.frozen? ⟨g, 2, none⟩ = false := ⟨(blk_cell h 0).trans rfl, blk_frozen h 0, (blk_cell h 1).trans rfl, blk_frozen h 1, (blk_cell h 2).trans rfl, blk_frozen h 2⟩
end Go.Proofs.Ytoghhpkmficnmaa.Al
namespace Go.Proofs.Ytoghhpkmficnmaa.Al
open Go.RowKit Go.Proofs.YtoghhpkmficnmaaW.PrintWords Go.Proofs.YtoghhpkmficnmaaW.PrintLast Go.Proofs.YtoghhpkmficnmaaW.PrintMore
attribute [local go_sem] max2_int min2_int max_two min_two max_three min_three max_four min_four   -- for this text's walks alone
set_option linter.unusedVariables false
set_option linter.unusedSimpArgs false
/-- A block's fact, through the layers laid upon the world since. -/
theorem peel_ {P Q : Prop} (h : Q) (f : Q → P := by intro h; (with_reducible repeat (first | refine blk_drewN ?_ _ | refine blk_drew ?_ | refine blk_alloc ?_ _)); exact h) : P := f h
theorem s1_ {α : Type _} (l : List α) (i : Nat) (a : α) : l.toArray.setIfInBounds i a = (l.set i a).toArray := List.setIfInBounds_toArray ..
theorem s2_ {α : Type _} (x : α) (xs : List α) (a : α) : (x :: xs).set 0 a = a :: xs := rfl
theorem s3_ {α : Type _} (x : α) (xs : List α) (n : Nat) (a : α) : (x :: xs).set (n + 1) a = x :: xs.set n a := rfl
theorem bA_ {w W : World} (h : Below w.heap.size w W) (o : Obj) : Below w.heap.size w (W.alloc o) := below_alloc h o
theorem bN_ {B : Nat} {w W : World} (h : Below B w W) (n : Nat) : Below B w (W.drewN n) := pw_below_drewN h n
theorem bD_ {base : Nat} {w W : World} (h : Below base w W) : Below base w W.drew := below_drew1 h
theorem bS_ {w W : World} {g j : Nat} {v : Value} (h : Below w.heap.size w W) (hg : w.heap.size ≤ g) : Below w.heap.size w (W.setCell ⟨g, j, none⟩ v) := below_set h hg

attribute [local go_sem high] eqA24
/-! ### corncriblaw02_MatrixRows: function 7 -/
mutual
def corncriblaw02_MatrixRows.j1 : Nat → List Int → Int → Int → ByteArray → Int → Int → ByteArray → Option (Bool)
 |0, _, _, _, _, _, _, _ => none
 |k + 1, x9, x304000, x304001, x304002, x305000, x305001, x305002 => if (x9.length : Int) = 0 then (some true) else ((matrix_Mul.f x304000 x304001 x304002 x305000 x305001 x305002).bind fun bt310 => ((matrix_Pick.f bt310.1 bt310.2.1 bt310.2.2.1 x9).bind fun bt315 => ((matrix_Pick.f x304000 x304001 x304002 x9).bind fun bt320 => ((matrix_Mul.f bt320.1 bt320.2.1 bt320.2.2.1 x305000 x305001 x305002).bind fun bt325 => (if bt310.2.2.2 = 0 then (if bt315.2.2.2 = 0 then (if bt320.2.2.2 = 0 then (if bt325.2.2.2 = 0 then (some (bt315.1 == bt325.1 && (bt315.2.1 == bt325.2.1 && (bt315.2.2.1.toList == bt325.2.2.1.toList)))) else (some false)) else (some false)) else (some false)) else (some false))))))
def corncriblaw02_MatrixRows.l0 : Nat → List Int → List Int → Int → Int → Int → ByteArray → Int → Int → ByteArray → Option (Bool)
 |0, _, _, _, _, _, _, _, _, _ => none
 |k + 1, x2, x9, x10, x304000, x304001, x304002, x305000, x305001, x305002 => if x10 < (x2.length : Int) then (if x10 < 10 then (if 0 ≤ x10 then ((corncribbook_Among.f (rd x2 x10) x304000).bind fun t306 => (if x9.length < 17592186044416 then (corncriblaw02_MatrixRows.l0 k x2 (x9 ++ [t306]) (wrap64 (x10 + 1)) x304000 x304001 x304002 x305000 x305001 x305002) else (none))) else (none)) else (corncriblaw02_MatrixRows.j1 k x9 x304000 x304001 x304002 x305000 x305001 x305002)) else (corncriblaw02_MatrixRows.j1 k x9 x304000 x304001 x304002 x305000 x305001 x305002)
end
def corncriblaw02_MatrixRows.f (k : Nat) (a0_0 : Int) (a0_1 : Int) (a0_2 : Int) (a1 : ByteArray) (l2 : List Int) : Option (Bool) := (corncriblaw02_works.f).bind fun t292 => (if t292 = true then ((corncriblaw02_side.f a0_0).bind fun t293 => ((corncriblaw02_side.f a0_1).bind fun t294 => ((corncriblaw02_made.f t293 t294 a1).bind fun bt295 => ((corncriblaw02_side.f a0_1).bind fun t298 => ((corncriblaw02_side.f a0_2).bind fun t299 => (if a1.size + 4 ≤ 9223372036854775807 then ((corncriblaw02_made.f t298 t299 (a1 ++ (⟨#[109, 111, 114, 101]⟩ : ByteArray))).bind fun bt300 => (corncriblaw02_MatrixRows.l0 k l2 ([] : List Int) 0 bt295.1 bt295.2.1 bt295.2.2 bt300.1 bt300.2.1 bt300.2.2)) else (none))))))) else (some false))
theorem corncriblaw02_MatrixRows.mono_l : ∀ k, (∀ y0 y1 y2 y3 y4 y5 y6, LeO (corncriblaw02_MatrixRows.j1 k y0 y1 y2 y3 y4 y5 y6) (corncriblaw02_MatrixRows.j1 (k + 1) y0 y1 y2 y3 y4 y5 y6)) ∧ (∀ y0 y1 y2 y3 y4 y5 y6 y7 y8, LeO (corncriblaw02_MatrixRows.l0 k y0 y1 y2 y3 y4 y5 y6 y7 y8) (corncriblaw02_MatrixRows.l0 (k + 1) y0 y1 y2 y3 y4 y5 y6 y7 y8))
 |0 => ⟨fun _ _ _ _ _ _ _ r h => by simp [corncriblaw02_MatrixRows.j1] at h, fun _ _ _ _ _ _ _ _ _ r h => by simp [corncriblaw02_MatrixRows.l0] at h⟩
 |k + 1 => by
  obtain ⟨ih0, ih1⟩ := corncriblaw02_MatrixRows.mono_l k
  refine ⟨?_, ?_⟩
  ·intro y0 y1 y2 y3 y4 y5 y6
   unfold corncriblaw02_MatrixRows.j1
   repeat' first
   |(with_reducible exact ih0 _ _ _ _ _ _ _)
   |(with_reducible exact ih1 _ _ _ _ _ _ _ _ _)
   |(with_reducible exact LeO.refl _)
   |(with_reducible exact LeO.none _)
   |(with_reducible refine LeO.ite ?_ ?_)
   |(with_reducible refine LeO.bind ?_ (fun _ => ?_))
   |exact ih0 _ _ _ _ _ _ _
   |exact ih1 _ _ _ _ _ _ _ _ _
   |exact LeO.none _
   |refine LeO.ite ?_ ?_
   |refine LeO.bind ?_ (fun _ => ?_)
  ·intro y0 y1 y2 y3 y4 y5 y6 y7 y8
   unfold corncriblaw02_MatrixRows.l0
   repeat' first
   |(with_reducible exact ih0 _ _ _ _ _ _ _)
   |(with_reducible exact ih1 _ _ _ _ _ _ _ _ _)
   |(with_reducible exact LeO.refl _)
   |(with_reducible exact LeO.none _)
   |(with_reducible refine LeO.ite ?_ ?_)
   |(with_reducible refine LeO.bind ?_ (fun _ => ?_))
   |exact ih0 _ _ _ _ _ _ _
   |exact ih1 _ _ _ _ _ _ _ _ _
   |exact LeO.none _
   |refine LeO.ite ?_ ?_
   |refine LeO.bind ?_ (fun _ => ?_)
theorem corncriblaw02_MatrixRows.mono : ∀ a0 a1 a2 a3 a4 k, LeO (corncriblaw02_MatrixRows.f k a0 a1 a2 a3 a4) (corncriblaw02_MatrixRows.f (k + 1) a0 a1 a2 a3 a4) := by
 intro a0 a1 a2 a3 a4 k
 obtain ⟨ih0, ih1⟩ := corncriblaw02_MatrixRows.mono_l k
 unfold corncriblaw02_MatrixRows.f
 repeat' first
   |(with_reducible exact ih0 _ _ _ _ _ _ _)
   |(with_reducible exact ih1 _ _ _ _ _ _ _ _ _)
   |(with_reducible exact LeO.refl _)
   |(with_reducible exact LeO.none _)
   |(with_reducible refine LeO.ite ?_ ?_)
   |(with_reducible refine LeO.bind ?_ (fun _ => ?_))
   |exact ih0 _ _ _ _ _ _ _
   |exact ih1 _ _ _ _ _ _ _ _ _
   |exact LeO.none _
   |refine LeO.ite ?_ ?_
   |refine LeO.bind ?_ (fun _ => ?_)
def corncriblaw02_MatrixRows.T3 : Bool × List (List Nat × List Nat) := (true, [([], []), ([0], [0]), ([1], [1]), ([], []), ([3], [3]), ([4, 2], [4]), ([], []), ([2, 5, 6, 5], [2, 5, 6]), ([], []), ([8], [8]), ([9, 7], [9]), ([], []), ([11], [11]), ([12, 10], [12]), ([], []), ([14], [14]), ([10, 13, 15, 13], [10, 13, 15]), ([], []), ([], []), ([17, 7, 16, 0, 1, 2, 3, 4, 5, 6, 7, 17, 18], [7, 17]), ([18, 16, 19, 0, 1, 2, 3, 4, 5, 6, 7, 8, 9, 10, 11, 12, 13, 14, 15, 16, 17, 18, 19], [16, 18])])
def corncriblaw02_MatrixRows.B3 : List Nat := [0, 1, 3, 0, 8, 31, 0, 127, 0, 256, 1023, 0, 2048, 8191, 0, 16384, 65535, 0, 0, 524287, 1048575]
theorem corncriblaw02_MatrixRows.tab3 : rtab .any (opsOf Try.f7 3) = corncriblaw02_MatrixRows.T3 := by kernel_rfl
theorem corncriblaw02_MatrixRows.bits3 : waitsOk corncriblaw02_MatrixRows.T3.2 corncriblaw02_MatrixRows.B3 = true := by kernel_rfl
def corncriblaw02_MatrixRows.T8 : Bool × List (List Nat × List Nat) := (true, [([], []), ([], []), ([], []), ([1, 2], [1, 2]), ([3], [3]), ([], []), ([5], [5]), ([4, 6], [4, 6]), ([7], [7]), ([0, 8, 7], [0, 8]), ([9, 9, 0, 1, 2, 3, 4, 5, 6, 7, 8, 9], [0, 9])])
def corncriblaw02_MatrixRows.B8 : List Nat := [0, 0, 0, 6, 14, 0, 32, 126, 254, 511, 1023]
theorem corncriblaw02_MatrixRows.tab8 : rtab .any (opsOf Try.f7 8) = corncriblaw02_MatrixRows.T8 := by kernel_rfl
theorem corncriblaw02_MatrixRows.bits8 : waitsOk corncriblaw02_MatrixRows.T8.2 corncriblaw02_MatrixRows.B8 = true := by kernel_rfl
set_option maxHeartbeats 8000000 in
set_option maxRecDepth 100000 in
theorem corncriblaw02_MatrixRows.calls (k : Nat) (a0_0 : Int) (a0_1 : Int) (a0_2 : Int) (a1 : ByteArray) (A2 : Option Addr) (c2 : Nat) (l2 : List Int) (r : Bool) (w : World) (hr2 : Kd.C (Kd.int .i64) w A2 l2.length l2) (hc2 : l2.length ≤ c2) (h : corncriblaw02_MatrixRows.f k a0_0 a0_1 a0_2 a1 l2 = some r) (hr_ : r = true) :
  Calls Try.prog 7 #[.agg #[.int .i64 a0_0, .int .i64 a0_1, .int .i64 a0_2], .string a1, .slice A2 l2.length c2] w fun e w' => e = .returned (.bool r) ∧ Below w.heap.size w w' := by
 have HRT := Aside0.mk hr_
 clear hr_
 have hu39 := Try.underlying39
 have hu24 := Try.underlying24
 have HR2 := Aside0.mk hr2
 have HC2 := Aside0.mk hc2
 clear hr2 hc2
 have HB := Aside0.mk (Below.refl w.heap.size w)
 have H : ((corncriblaw02_works.f).bind fun t292 => (if t292 = true then ((corncriblaw02_side.f a0_0).bind fun t293 => ((corncriblaw02_side.f a0_1).bind fun t294 => ((corncriblaw02_made.f t293 t294 a1).bind fun bt295 => ((corncriblaw02_side.f a0_1).bind fun t298 => ((corncriblaw02_side.f a0_2).bind fun t299 => (if a1.size + 4 ≤ 9223372036854775807 then ((corncriblaw02_made.f t298 t299 (a1 ++ (⟨#[109, 111, 114, 101]⟩ : ByteArray))).bind fun bt300 => (corncriblaw02_MatrixRows.l0 k l2 ([] : List Int) 0 bt295.1 bt295.2.1 bt295.2.2 bt300.1 bt300.2.1 bt300.2.2)) else (none))))))) else (some false))) = some r := h
 clear h
 replace H := Option.bind_eq_some_iff.mp H
 obtain ⟨t292, A40, H⟩ := H
 replace H : (if t292 = true then ((corncriblaw02_side.f a0_0).bind fun t293 => ((corncriblaw02_side.f a0_1).bind fun t294 => ((corncriblaw02_made.f t293 t294 a1).bind fun bt295 => ((corncriblaw02_side.f a0_1).bind fun t298 => ((corncriblaw02_side.f a0_2).bind fun t299 => (if a1.size + 4 ≤ 9223372036854775807 then ((corncriblaw02_made.f t298 t299 (a1 ++ (⟨#[109, 111, 114, 101]⟩ : ByteArray))).bind fun bt300 => (corncriblaw02_MatrixRows.l0 k l2 ([] : List Int) 0 bt295.1 bt295.2.1 bt295.2.2 bt300.1 bt300.2.1 bt300.2.2)) else (none))))))) else (some false)) = some r := H
 have A4 := Aside0.mk A40
 clear A40
 by_cases c5 : t292 = true
 ·subst c5
  have H1 : ((corncriblaw02_side.f a0_0).bind fun t293 => ((corncriblaw02_side.f a0_1).bind fun t294 => ((corncriblaw02_made.f t293 t294 a1).bind fun bt295 => ((corncriblaw02_side.f a0_1).bind fun t298 => ((corncriblaw02_side.f a0_2).bind fun t299 => (if a1.size + 4 ≤ 9223372036854775807 then ((corncriblaw02_made.f t298 t299 (a1 ++ (⟨#[109, 111, 114, 101]⟩ : ByteArray))).bind fun bt300 => (corncriblaw02_MatrixRows.l0 k l2 ([] : List Int) 0 bt295.1 bt295.2.1 bt295.2.2 bt300.1 bt300.2.1 bt300.2.2)) else (none))))))) = some r := by rw [if_pos rfl] at H; exact H
  clear H
  have H := H1
  clear H1
  replace H := Option.bind_eq_some_iff.mp H
  obtain ⟨t293, A60, H⟩ := H
  replace H : ((corncriblaw02_side.f a0_1).bind fun t294 => ((corncriblaw02_made.f t293 t294 a1).bind fun bt295 => ((corncriblaw02_side.f a0_1).bind fun t298 => ((corncriblaw02_side.f a0_2).bind fun t299 => (if a1.size + 4 ≤ 9223372036854775807 then ((corncriblaw02_made.f t298 t299 (a1 ++ (⟨#[109, 111, 114, 101]⟩ : ByteArray))).bind fun bt300 => (corncriblaw02_MatrixRows.l0 k l2 ([] : List Int) 0 bt295.1 bt295.2.1 bt295.2.2 bt300.1 bt300.2.1 bt300.2.2)) else (none)))))) = some r := H
  have A6 := Aside0.mk A60
  clear A60
  replace H := Option.bind_eq_some_iff.mp H
  obtain ⟨t294, A70, H⟩ := H
  replace H : ((corncriblaw02_made.f t293 t294 a1).bind fun bt295 => ((corncriblaw02_side.f a0_1).bind fun t298 => ((corncriblaw02_side.f a0_2).bind fun t299 => (if a1.size + 4 ≤ 9223372036854775807 then ((corncriblaw02_made.f t298 t299 (a1 ++ (⟨#[109, 111, 114, 101]⟩ : ByteArray))).bind fun bt300 => (corncriblaw02_MatrixRows.l0 k l2 ([] : List Int) 0 bt295.1 bt295.2.1 bt295.2.2 bt300.1 bt300.2.1 bt300.2.2)) else (none))))) = some r := H
  have A7 := Aside0.mk A70
  clear A70
  replace H := Option.bind_eq_some_iff.mp H
  obtain ⟨⟨t295, t296, t297⟩, A80, H⟩ := H
  replace H : ((corncriblaw02_side.f a0_1).bind fun t298 => ((corncriblaw02_side.f a0_2).bind fun t299 => (if a1.size + 4 ≤ 9223372036854775807 then ((corncriblaw02_made.f t298 t299 (a1 ++ (⟨#[109, 111, 114, 101]⟩ : ByteArray))).bind fun bt300 => (corncriblaw02_MatrixRows.l0 k l2 ([] : List Int) 0 t295 t296 t297 bt300.1 bt300.2.1 bt300.2.2)) else (none)))) = some r := H
  have A8 := Aside0.mk A80
  clear A80
  replace H := Option.bind_eq_some_iff.mp H
  obtain ⟨t298, A90, H⟩ := H
  replace H : ((corncriblaw02_side.f a0_2).bind fun t299 => (if a1.size + 4 ≤ 9223372036854775807 then ((corncriblaw02_made.f t298 t299 (a1 ++ (⟨#[109, 111, 114, 101]⟩ : ByteArray))).bind fun bt300 => (corncriblaw02_MatrixRows.l0 k l2 ([] : List Int) 0 t295 t296 t297 bt300.1 bt300.2.1 bt300.2.2)) else (none))) = some r := H
  have A9 := Aside0.mk A90
  clear A90
  replace H := Option.bind_eq_some_iff.mp H
  obtain ⟨t299, A100, H⟩ := H
  replace H : (if a1.size + 4 ≤ 9223372036854775807 then ((corncriblaw02_made.f t298 t299 (a1 ++ (⟨#[109, 111, 114, 101]⟩ : ByteArray))).bind fun bt300 => (corncriblaw02_MatrixRows.l0 k l2 ([] : List Int) 0 t295 t296 t297 bt300.1 bt300.2.1 bt300.2.2)) else (none)) = some r := H
  have A10 := Aside0.mk A100
  clear A100
  by_cases c11 : a1.size + 4 ≤ 9223372036854775807
  ·rw [if_pos c11] at H
   have c11b0 := eq_true c11
   have c11b1 : decide (a1.size + 4 ≤ 9223372036854775807) = true := decide_eq_true c11
   try have c11b2 : (9223372036854775807 < a1.size + 4) = False := eq_false (Nat.not_lt.2 c11)
   replace H := Option.bind_eq_some_iff.mp H
   obtain ⟨⟨t300, t301, t302⟩, A120, H⟩ := H
   replace H : (corncriblaw02_MatrixRows.l0 k l2 ([] : List Int) 0 t295 t296 t297 t300 t301 t302) = some r := H
   have A12 := Aside0.mk A120
   clear A120
   have HC13 := Aside0.mk H
   clear H
   go_enter Try.func7, Try.ntmps7
   try go_wp2_with (first | ((with_reducible refine gate_dst (N := 3) rfl ?_); refine box_event ?hg (N := 3) ?hd (cs := #[.int .i64 a0_0, .int .i64 a0_1, .int .i64 a0_2]) (t := 39) ?hr ?_; (case hd => rfl); (case hg => rfl); (case hr => first | (go_simp; done) | (go_simp; rfl)); intro gb291 hg w14 hbox hb; have n0_ := Aside0.mk (below_step (by repeat (with_reducible (first | exact HB.out | apply bA_ | apply bN_ | apply bD_))) hb); have n1_ := Aside0.mk (hbox); have n2_ := Aside0.mk ((by rw [hg]; exact (below_size (by repeat (with_reducible (first | exact HB.out | apply bA_ | apply bN_ | apply bD_)))) : w.heap.size ≤ gb291)); have n3_ := Aside0.mk ((by rw [hg]; exact (below_size (by repeat (with_reducible (first | exact HB.out | apply bA_ | apply bN_ | apply bD_)))) : w.heap.size ≤ gb291)); clear HB; have HB := n0_; have BK291 := n1_; have GW291 := n2_; have GE291 := n3_; clear n0_ n1_ n2_ n3_; clear hb hbox hg) | ((with_reducible refine gate_callee (f := 11) rfl ?_); refine goesL_ (some 19) rfl rfl Try.func11 (by kernel_rfl) rfl #[] rfl (by (try simp only [List.map_toArray, List.map_cons, List.map_nil]); first | done | rfl | (simp only [List.length_drop, List.length_take]; rfl)) ?_; (with_reducible refine (corncriblaw02_works.calls  true _ A4.out).mono ?_); rintro e w15 ⟨rfl, hb⟩; refine ⟨_, rfl, ?_⟩; have n0_ := Aside0.mk (blk_below (g := gb291) (o := .cells #[.int .i64 a0_0, .int .i64 a0_1, .int .i64 a0_2] 39 (0, 0)) (peel_ BK291.out) hb); have n1_ := Aside0.mk (below_step (by repeat (with_reducible (first | exact HB.out | apply bA_ | apply bN_ | apply bD_ | refine bS_ ?_ GE291.out))) hb); clear BK291; clear HB; have BK291 := n0_; have HB := n1_; clear n0_ n1_; (try clear hb); (try clear hb2); (try clear hk); (try clear hi)))
   have n0_ := Aside0.mk (blk_drew BK291.out)
   have n1_ := Aside0.mk (below_drew1 HB.out)
   clear BK291
   clear HB
   have BK291 := n0_
   have HB := n1_
   clear n0_ n1_
   refine start_ (n := 21) (S := fun w' => w'.cell? ⟨gb291, 0, none⟩ = some (.int .i64 a0_0) ∧ w'.cell? ⟨gb291, 1, none⟩ = some (.int .i64 a0_1) ∧ w'.cell? ⟨gb291, 2, none⟩ = some (.int .i64 a0_2)) (ds := []) #[false, false, false, false, false, false, false, false, false, false, false, false, false, false, false, false, false, false, false, false, false] (by kernel_rfl) rfl rfl ⟨(blk_cell BK291.out 0).trans rfl, (blk_cell BK291.out 1).trans rfl, (blk_cell BK291.out 2).trans rfl⟩ (fun hHeld => ?_); refine with_tabW corncriblaw02_MatrixRows.tab3 corncriblaw02_MatrixRows.bits3 (fun HT_ HW_ => ?_)
   generalize w15.drew = w16 at BK291 HB hHeld ⊢
   refine pure_ (i := 0) (N := some 21) (v := ?_) (a' := ?_) #[true, false, false, false, false, false, false, false, false, false, false, false, false, false, false, false, false, false, false, false, false] rfl rfl (any_of HT_.out (by kernel_rfl)) (fun _ _ _ h => h) (Or.inl ⟨by rfl, ?_⟩) ?_ ?_
   rotate_left
   ·intro w'
    go_simp
    with_reducible rfl
   rotate_left
   ·simp only [Act.put, s1_, s2_, s3_, i64_w, i32_w]
    rfl
   refine pure_ (i := 3) (N := some 24) (v := ?_) (a' := ?_) #[true, false, false, true, false, false, false, false, false, false, false, false, false, false, false, false, false, false, false, false, false] rfl rfl (any_of HT_.out (by kernel_rfl)) (fun _ _ _ h => h) (Or.inl ⟨by rfl, ?_⟩) ?_ ?_
   rotate_left
   ·intro w'
    go_simp
    with_reducible rfl
   rotate_left
   ·simp only [Act.put, s1_, s2_, s3_, i64_w, i32_w]
    rfl
   refine pure_ (i := 6) (N := some 27) (v := ?_) (a' := ?_) #[true, false, false, true, false, false, true, false, false, false, false, false, false, false, false, false, false, false, false, false, false] rfl rfl (any_of HT_.out (by kernel_rfl)) (fun _ _ _ h => h) (Or.inl ⟨by rfl, ?_⟩) ?_ ?_
   rotate_left
   ·intro w'
    go_simp
    with_reducible rfl
   rotate_left
   ·simp only [Act.put, s1_, s2_, s3_, i64_w, i32_w]
    rfl
   refine pure_ (i := 8) (N := some 29) (v := ?_) (a' := ?_) #[true, false, false, true, false, false, true, false, true, false, false, false, false, false, false, false, false, false, false, false, false] rfl rfl (any_of HT_.out (by kernel_rfl)) (fun _ _ _ h => h) (Or.inl ⟨by rfl, ?_⟩) ?_ ?_
   rotate_left
   ·intro w'
    go_simp
    with_reducible rfl
   rotate_left
   ·simp only [Act.put, s1_, s2_, s3_, i64_w, i32_w]
    rfl
   refine pure_ (i := 11) (N := some 32) (v := ?_) (a' := ?_) #[true, false, false, true, false, false, true, false, true, false, false, true, false, false, false, false, false, false, false, false, false] rfl rfl (any_of HT_.out (by kernel_rfl)) (fun _ _ _ h => h) (Or.inl ⟨by rfl, ?_⟩) ?_ ?_
   rotate_left
   ·intro w'
    go_simp
    with_reducible rfl
   rotate_left
   ·simp only [Act.put, s1_, s2_, s3_, i64_w, i32_w]
    rfl
   refine pure_ (i := 14) (N := some 35) (v := ?_) (a' := ?_) #[true, false, false, true, false, false, true, false, true, false, false, true, false, false, true, false, false, false, false, false, false] rfl rfl (any_of HT_.out (by kernel_rfl)) (fun _ _ _ h => h) (Or.inl ⟨by rfl, ?_⟩) ?_ ?_
   rotate_left
   ·intro w'
    go_simp
    with_reducible rfl
   rotate_left
   ·simp only [Act.put, s1_, s2_, s3_, i64_w, i32_w]
    rfl
   refine pure_ (i := 15) (N := some 36) (v := ?_) (a' := ?_) #[true, false, false, true, false, false, true, false, true, false, false, true, false, false, true, true, false, false, false, false, false] rfl rfl (any_of HT_.out (by kernel_rfl)) (fun _ _ _ h => h) (Or.inl ⟨by rfl, ?_⟩) ?_ ?_
   rotate_left
   ·intro w'
    go_simp
    with_reducible rfl
   rotate_left
   ·simp only [Act.put, s1_, s2_, s3_, i64_w, i32_w]
    rfl
   refine take_ (i := 1) (N := some 22) (v := ?_) (a' := ?_) #[true, true, false, true, false, false, true, false, true, false, false, true, false, false, true, true, false, false, false, false, false] rfl rfl (take_ofW HT_.out HW_.out (by kernel_rfl)) (fun _ _ _ h => h) (Or.inl ⟨by rfl, ?_⟩) hHeld ?_ ?_
   rotate_left
   ·rintro w' ⟨s0, s1, s2⟩
    go_simp
    with_reducible rfl
   rotate_left
   ·simp only [Act.put, s1_, s2_, s3_, i64_w, i32_w]
    rfl
   refine take_ (i := 4) (N := some 25) (v := ?_) (a' := ?_) #[true, true, false, true, true, false, true, false, true, false, false, true, false, false, true, true, false, false, false, false, false] rfl rfl (take_ofW HT_.out HW_.out (by kernel_rfl)) (fun _ _ _ h => h) (Or.inl ⟨by rfl, ?_⟩) hHeld ?_ ?_
   rotate_left
   ·rintro w' ⟨s0, s1, s2⟩
    go_simp
    with_reducible rfl
   rotate_left
   ·simp only [Act.put, s1_, s2_, s3_, i64_w, i32_w]
    rfl
   refine take_ (i := 9) (N := some 30) (v := ?_) (a' := ?_) #[true, true, false, true, true, false, true, false, true, true, false, true, false, false, true, true, false, false, false, false, false] rfl rfl (take_ofW HT_.out HW_.out (by kernel_rfl)) (fun _ _ _ h => h) (Or.inl ⟨by rfl, ?_⟩) hHeld ?_ ?_
   rotate_left
   ·rintro w' ⟨s0, s1, s2⟩
    go_simp
    with_reducible rfl
   rotate_left
   ·simp only [Act.put, s1_, s2_, s3_, i64_w, i32_w]
    rfl
   refine take_ (i := 12) (N := some 33) (v := ?_) (a' := ?_) #[true, true, false, true, true, false, true, false, true, true, false, true, true, false, true, true, false, false, false, false, false] rfl rfl (take_ofW HT_.out HW_.out (by kernel_rfl)) (fun _ _ _ h => h) (Or.inl ⟨by rfl, ?_⟩) hHeld ?_ ?_
   rotate_left
   ·rintro w' ⟨s0, s1, s2⟩
    go_simp
    with_reducible rfl
   rotate_left
   ·simp only [Act.put, s1_, s2_, s3_, i64_w, i32_w]
    rfl
   refine join_ (σ := Nat × Nat) 2 #[true, true, true, true, true, true, true, true, true, true, true, true, true, true, true, true, true, true, true, false, false] (fun s_ => [(23, .int .i64 t293), (26, .int .i64 t294), (28, .agg #[.int .i64 t295, .int .i64 t296, .string t297]), (31, .int .i64 t298), (34, .int .i64 t299), (37, .agg #[.int .i64 t300, .int .i64 t301, .string t302]), (7, .pointer (some ⟨s_.1, 0, none⟩)), (8, .pointer (some ⟨s_.2, 0, none⟩))]) (fun s_ w' => (w'.cell? ⟨gb291, 0, none⟩ = some (.int .i64 a0_0) ∧ w'.cell? ⟨gb291, 1, none⟩ = some (.int .i64 a0_1) ∧ w'.cell? ⟨gb291, 2, none⟩ = some (.int .i64 a0_2)) ∧ (w'.heap[gb291]? = some (.cells #[.int .i64 a0_0, .int .i64 a0_1, .int .i64 a0_2] 39 (0, 0))) ∧ (w'.heap[s_.1]? = some (.cells #[.int .i64 0, .int .i64 0, .string (⟨#[]⟩ : ByteArray)] 24 (0, 0))) ∧ (w'.heap[s_.2]? = some (.cells #[.int .i64 0, .int .i64 0, .string (⟨#[]⟩ : ByteArray)] 24 (0, 0))) ∧ (w.heap.size ≤ s_.1) ∧ (w.heap.size ≤ s_.1) ∧ (gb291 ≠ s_.1) ∧ (s_.1 ≠ gb291) ∧ (s_.2 ≠ s_.1) ∧ (s_.1 ≠ s_.2) ∧ (w.heap.size ≤ s_.2) ∧ (w.heap.size ≤ s_.2) ∧ (gb291 ≠ s_.2) ∧ (s_.2 ≠ gb291) ∧ (Below w.heap.size w w')) ?_ ?_
   rotate_left
   ·intro hJ2_5_7_10_13_16_17_18
    refine join_ (σ := Nat) 3 #[true, true, true, true, true, true, true, true, true, true, true, true, true, true, true, true, true, true, false, false, false] (fun s_ => [(23, .int .i64 t293), (26, .int .i64 t294), (28, .agg #[.int .i64 t295, .int .i64 t296, .string t297]), (31, .int .i64 t298), (34, .int .i64 t299), (37, .agg #[.int .i64 t300, .int .i64 t301, .string t302]), (7, .pointer (some ⟨s_, 0, none⟩))]) (fun s_ w' => (w'.cell? ⟨gb291, 0, none⟩ = some (.int .i64 a0_0) ∧ w'.cell? ⟨gb291, 1, none⟩ = some (.int .i64 a0_1) ∧ w'.cell? ⟨gb291, 2, none⟩ = some (.int .i64 a0_2)) ∧ (w'.heap[gb291]? = some (.cells #[.int .i64 a0_0, .int .i64 a0_1, .int .i64 a0_2] 39 (0, 0))) ∧ (w'.heap[s_]? = some (.cells #[.int .i64 0, .int .i64 0, .string (⟨#[]⟩ : ByteArray)] 24 (0, 0))) ∧ (w.heap.size ≤ s_) ∧ (w.heap.size ≤ s_) ∧ (gb291 ≠ s_) ∧ (s_ ≠ gb291) ∧ (Below w.heap.size w w')) ?_ ?_
    rotate_left
    ·intro hJ2_5_7_10_13_16_17
     refine join_ (σ := Nat) 3 #[true, true, true, true, true, true, true, true, true, true, true, true, true, true, true, true, true, false, true, false, false] (fun s_ => [(23, .int .i64 t293), (26, .int .i64 t294), (28, .agg #[.int .i64 t295, .int .i64 t296, .string t297]), (31, .int .i64 t298), (34, .int .i64 t299), (37, .agg #[.int .i64 t300, .int .i64 t301, .string t302]), (8, .pointer (some ⟨s_, 0, none⟩))]) (fun s_ w' => (w'.cell? ⟨gb291, 0, none⟩ = some (.int .i64 a0_0) ∧ w'.cell? ⟨gb291, 1, none⟩ = some (.int .i64 a0_1) ∧ w'.cell? ⟨gb291, 2, none⟩ = some (.int .i64 a0_2)) ∧ (w'.heap[gb291]? = some (.cells #[.int .i64 a0_0, .int .i64 a0_1, .int .i64 a0_2] 39 (0, 0))) ∧ (w'.heap[s_]? = some (.cells #[.int .i64 0, .int .i64 0, .string (⟨#[]⟩ : ByteArray)] 24 (0, 0))) ∧ (w.heap.size ≤ s_) ∧ (w.heap.size ≤ s_) ∧ (gb291 ≠ s_) ∧ (s_ ≠ gb291) ∧ (Below w.heap.size w w')) ?_ ?_
     rotate_left
     ·intro hJ2_5_7_10_13_16_18
      refine join_ (σ := Nat × Nat) 3 #[true, true, true, true, true, true, true, true, true, true, true, true, true, true, true, true, false, true, true, false, false] (fun s_ => [(23, .int .i64 t293), (26, .int .i64 t294), (28, .agg #[.int .i64 t295, .int .i64 t296, .string t297]), (31, .int .i64 t298), (34, .int .i64 t299), (7, .pointer (some ⟨s_.1, 0, none⟩)), (8, .pointer (some ⟨s_.2, 0, none⟩))]) (fun s_ w' => (w'.cell? ⟨gb291, 0, none⟩ = some (.int .i64 a0_0) ∧ w'.cell? ⟨gb291, 1, none⟩ = some (.int .i64 a0_1) ∧ w'.cell? ⟨gb291, 2, none⟩ = some (.int .i64 a0_2)) ∧ (w'.heap[gb291]? = some (.cells #[.int .i64 a0_0, .int .i64 a0_1, .int .i64 a0_2] 39 (0, 0))) ∧ (w'.heap[s_.1]? = some (.cells #[.int .i64 0, .int .i64 0, .string (⟨#[]⟩ : ByteArray)] 24 (0, 0))) ∧ (w'.heap[s_.2]? = some (.cells #[.int .i64 0, .int .i64 0, .string (⟨#[]⟩ : ByteArray)] 24 (0, 0))) ∧ (w.heap.size ≤ s_.1) ∧ (w.heap.size ≤ s_.1) ∧ (gb291 ≠ s_.1) ∧ (s_.1 ≠ gb291) ∧ (s_.2 ≠ s_.1) ∧ (s_.1 ≠ s_.2) ∧ (w.heap.size ≤ s_.2) ∧ (w.heap.size ≤ s_.2) ∧ (gb291 ≠ s_.2) ∧ (s_.2 ≠ gb291) ∧ (Below w.heap.size w w')) ?_ ?_
      rotate_left
      ·intro hJ2_5_7_10_13_17_18
       refine join_ (σ := Unit) 4 #[true, true, true, true, true, true, true, true, true, true, true, true, true, true, true, true, true, false, false, false, false] (fun s_ => [(23, .int .i64 t293), (26, .int .i64 t294), (28, .agg #[.int .i64 t295, .int .i64 t296, .string t297]), (31, .int .i64 t298), (34, .int .i64 t299), (37, .agg #[.int .i64 t300, .int .i64 t301, .string t302])]) (fun s_ w' => (w'.cell? ⟨gb291, 0, none⟩ = some (.int .i64 a0_0) ∧ w'.cell? ⟨gb291, 1, none⟩ = some (.int .i64 a0_1) ∧ w'.cell? ⟨gb291, 2, none⟩ = some (.int .i64 a0_2)) ∧ (w'.heap[gb291]? = some (.cells #[.int .i64 a0_0, .int .i64 a0_1, .int .i64 a0_2] 39 (0, 0))) ∧ (Below w.heap.size w w')) ?_ ?_
       rotate_left
       ·intro hJ2_5_7_10_13_16
        refine join_ (σ := Nat) 4 #[true, true, true, true, true, true, true, true, true, true, true, true, true, true, true, true, false, true, false, false, false] (fun s_ => [(23, .int .i64 t293), (26, .int .i64 t294), (28, .agg #[.int .i64 t295, .int .i64 t296, .string t297]), (31, .int .i64 t298), (34, .int .i64 t299), (7, .pointer (some ⟨s_, 0, none⟩))]) (fun s_ w' => (w'.cell? ⟨gb291, 0, none⟩ = some (.int .i64 a0_0) ∧ w'.cell? ⟨gb291, 1, none⟩ = some (.int .i64 a0_1) ∧ w'.cell? ⟨gb291, 2, none⟩ = some (.int .i64 a0_2)) ∧ (w'.heap[gb291]? = some (.cells #[.int .i64 a0_0, .int .i64 a0_1, .int .i64 a0_2] 39 (0, 0))) ∧ (w'.heap[s_]? = some (.cells #[.int .i64 0, .int .i64 0, .string (⟨#[]⟩ : ByteArray)] 24 (0, 0))) ∧ (w.heap.size ≤ s_) ∧ (w.heap.size ≤ s_) ∧ (gb291 ≠ s_) ∧ (s_ ≠ gb291) ∧ (Below w.heap.size w w')) ?_ ?_
        rotate_left
        ·intro hJ2_5_7_10_13_17
         refine join_ (σ := Nat) 4 #[true, true, true, true, true, true, true, true, true, true, true, true, true, true, true, true, false, false, true, false, false] (fun s_ => [(23, .int .i64 t293), (26, .int .i64 t294), (28, .agg #[.int .i64 t295, .int .i64 t296, .string t297]), (31, .int .i64 t298), (34, .int .i64 t299), (8, .pointer (some ⟨s_, 0, none⟩))]) (fun s_ w' => (w'.cell? ⟨gb291, 0, none⟩ = some (.int .i64 a0_0) ∧ w'.cell? ⟨gb291, 1, none⟩ = some (.int .i64 a0_1) ∧ w'.cell? ⟨gb291, 2, none⟩ = some (.int .i64 a0_2)) ∧ (w'.heap[gb291]? = some (.cells #[.int .i64 a0_0, .int .i64 a0_1, .int .i64 a0_2] 39 (0, 0))) ∧ (w'.heap[s_]? = some (.cells #[.int .i64 0, .int .i64 0, .string (⟨#[]⟩ : ByteArray)] 24 (0, 0))) ∧ (w.heap.size ≤ s_) ∧ (w.heap.size ≤ s_) ∧ (gb291 ≠ s_) ∧ (s_ ≠ gb291) ∧ (Below w.heap.size w w')) ?_ ?_
         rotate_left
         ·intro hJ2_5_7_10_13_18
          refine join_ (σ := Nat × Nat) 4 #[true, true, true, true, true, true, true, true, true, true, true, true, true, false, true, true, false, true, true, false, false] (fun s_ => [(23, .int .i64 t293), (26, .int .i64 t294), (28, .agg #[.int .i64 t295, .int .i64 t296, .string t297]), (31, .int .i64 t298), (7, .pointer (some ⟨s_.1, 0, none⟩)), (8, .pointer (some ⟨s_.2, 0, none⟩))]) (fun s_ w' => (w'.cell? ⟨gb291, 0, none⟩ = some (.int .i64 a0_0) ∧ w'.cell? ⟨gb291, 1, none⟩ = some (.int .i64 a0_1) ∧ w'.cell? ⟨gb291, 2, none⟩ = some (.int .i64 a0_2)) ∧ (w'.heap[gb291]? = some (.cells #[.int .i64 a0_0, .int .i64 a0_1, .int .i64 a0_2] 39 (0, 0))) ∧ (w'.heap[s_.1]? = some (.cells #[.int .i64 0, .int .i64 0, .string (⟨#[]⟩ : ByteArray)] 24 (0, 0))) ∧ (w'.heap[s_.2]? = some (.cells #[.int .i64 0, .int .i64 0, .string (⟨#[]⟩ : ByteArray)] 24 (0, 0))) ∧ (w.heap.size ≤ s_.1) ∧ (w.heap.size ≤ s_.1) ∧ (gb291 ≠ s_.1) ∧ (s_.1 ≠ gb291) ∧ (s_.2 ≠ s_.1) ∧ (s_.1 ≠ s_.2) ∧ (w.heap.size ≤ s_.2) ∧ (w.heap.size ≤ s_.2) ∧ (gb291 ≠ s_.2) ∧ (s_.2 ≠ gb291) ∧ (Below w.heap.size w w')) ?_ ?_
          rotate_left
          ·intro hJ2_5_7_10_17_18
           refine join_ (σ := Unit) 5 #[true, true, true, true, true, true, true, true, true, true, true, true, true, true, true, true, false, false, false, false, false] (fun s_ => [(23, .int .i64 t293), (26, .int .i64 t294), (28, .agg #[.int .i64 t295, .int .i64 t296, .string t297]), (31, .int .i64 t298), (34, .int .i64 t299)]) (fun s_ w' => (w'.cell? ⟨gb291, 0, none⟩ = some (.int .i64 a0_0) ∧ w'.cell? ⟨gb291, 1, none⟩ = some (.int .i64 a0_1) ∧ w'.cell? ⟨gb291, 2, none⟩ = some (.int .i64 a0_2)) ∧ (w'.heap[gb291]? = some (.cells #[.int .i64 a0_0, .int .i64 a0_1, .int .i64 a0_2] 39 (0, 0))) ∧ (Below w.heap.size w w')) ?_ ?_
           rotate_left
           ·intro hJ2_5_7_10_13
            refine join_ (σ := Nat) 5 #[true, true, true, true, true, true, true, true, true, true, true, true, true, false, true, true, false, true, false, false, false] (fun s_ => [(23, .int .i64 t293), (26, .int .i64 t294), (28, .agg #[.int .i64 t295, .int .i64 t296, .string t297]), (31, .int .i64 t298), (7, .pointer (some ⟨s_, 0, none⟩))]) (fun s_ w' => (w'.cell? ⟨gb291, 0, none⟩ = some (.int .i64 a0_0) ∧ w'.cell? ⟨gb291, 1, none⟩ = some (.int .i64 a0_1) ∧ w'.cell? ⟨gb291, 2, none⟩ = some (.int .i64 a0_2)) ∧ (w'.heap[gb291]? = some (.cells #[.int .i64 a0_0, .int .i64 a0_1, .int .i64 a0_2] 39 (0, 0))) ∧ (w'.heap[s_]? = some (.cells #[.int .i64 0, .int .i64 0, .string (⟨#[]⟩ : ByteArray)] 24 (0, 0))) ∧ (w.heap.size ≤ s_) ∧ (w.heap.size ≤ s_) ∧ (gb291 ≠ s_) ∧ (s_ ≠ gb291) ∧ (Below w.heap.size w w')) ?_ ?_
            rotate_left
            ·intro hJ2_5_7_10_17
             refine join_ (σ := Nat) 5 #[true, true, true, true, true, true, true, true, true, true, true, true, true, false, true, true, false, false, true, false, false] (fun s_ => [(23, .int .i64 t293), (26, .int .i64 t294), (28, .agg #[.int .i64 t295, .int .i64 t296, .string t297]), (31, .int .i64 t298), (8, .pointer (some ⟨s_, 0, none⟩))]) (fun s_ w' => (w'.cell? ⟨gb291, 0, none⟩ = some (.int .i64 a0_0) ∧ w'.cell? ⟨gb291, 1, none⟩ = some (.int .i64 a0_1) ∧ w'.cell? ⟨gb291, 2, none⟩ = some (.int .i64 a0_2)) ∧ (w'.heap[gb291]? = some (.cells #[.int .i64 a0_0, .int .i64 a0_1, .int .i64 a0_2] 39 (0, 0))) ∧ (w'.heap[s_]? = some (.cells #[.int .i64 0, .int .i64 0, .string (⟨#[]⟩ : ByteArray)] 24 (0, 0))) ∧ (w.heap.size ≤ s_) ∧ (w.heap.size ≤ s_) ∧ (gb291 ≠ s_) ∧ (s_ ≠ gb291) ∧ (Below w.heap.size w w')) ?_ ?_
             rotate_left
             ·intro hJ2_5_7_10_18
              refine join_ (σ := Nat × Nat) 5 #[true, true, true, true, true, true, true, true, true, true, false, true, true, false, true, true, false, true, true, false, false] (fun s_ => [(23, .int .i64 t293), (26, .int .i64 t294), (28, .agg #[.int .i64 t295, .int .i64 t296, .string t297]), (7, .pointer (some ⟨s_.1, 0, none⟩)), (8, .pointer (some ⟨s_.2, 0, none⟩))]) (fun s_ w' => (w'.cell? ⟨gb291, 0, none⟩ = some (.int .i64 a0_0) ∧ w'.cell? ⟨gb291, 1, none⟩ = some (.int .i64 a0_1) ∧ w'.cell? ⟨gb291, 2, none⟩ = some (.int .i64 a0_2)) ∧ (w'.heap[gb291]? = some (.cells #[.int .i64 a0_0, .int .i64 a0_1, .int .i64 a0_2] 39 (0, 0))) ∧ (w'.heap[s_.1]? = some (.cells #[.int .i64 0, .int .i64 0, .string (⟨#[]⟩ : ByteArray)] 24 (0, 0))) ∧ (w'.heap[s_.2]? = some (.cells #[.int .i64 0, .int .i64 0, .string (⟨#[]⟩ : ByteArray)] 24 (0, 0))) ∧ (w.heap.size ≤ s_.1) ∧ (w.heap.size ≤ s_.1) ∧ (gb291 ≠ s_.1) ∧ (s_.1 ≠ gb291) ∧ (s_.2 ≠ s_.1) ∧ (s_.1 ≠ s_.2) ∧ (w.heap.size ≤ s_.2) ∧ (w.heap.size ≤ s_.2) ∧ (gb291 ≠ s_.2) ∧ (s_.2 ≠ gb291) ∧ (Below w.heap.size w w')) ?_ ?_
              rotate_left
              ·intro hJ2_5_7_17_18
               refine join_ (σ := Unit) 6 #[true, true, true, true, true, true, true, true, true, true, true, true, true, false, true, true, false, false, false, false, false] (fun s_ => [(23, .int .i64 t293), (26, .int .i64 t294), (28, .agg #[.int .i64 t295, .int .i64 t296, .string t297]), (31, .int .i64 t298)]) (fun s_ w' => (w'.cell? ⟨gb291, 0, none⟩ = some (.int .i64 a0_0) ∧ w'.cell? ⟨gb291, 1, none⟩ = some (.int .i64 a0_1) ∧ w'.cell? ⟨gb291, 2, none⟩ = some (.int .i64 a0_2)) ∧ (w'.heap[gb291]? = some (.cells #[.int .i64 a0_0, .int .i64 a0_1, .int .i64 a0_2] 39 (0, 0))) ∧ (Below w.heap.size w w')) ?_ ?_
               rotate_left
               ·intro hJ2_5_7_10
                refine join_ (σ := Nat) 6 #[true, true, true, true, true, true, true, true, true, true, false, true, true, false, true, true, false, true, false, false, false] (fun s_ => [(23, .int .i64 t293), (26, .int .i64 t294), (28, .agg #[.int .i64 t295, .int .i64 t296, .string t297]), (7, .pointer (some ⟨s_, 0, none⟩))]) (fun s_ w' => (w'.cell? ⟨gb291, 0, none⟩ = some (.int .i64 a0_0) ∧ w'.cell? ⟨gb291, 1, none⟩ = some (.int .i64 a0_1) ∧ w'.cell? ⟨gb291, 2, none⟩ = some (.int .i64 a0_2)) ∧ (w'.heap[gb291]? = some (.cells #[.int .i64 a0_0, .int .i64 a0_1, .int .i64 a0_2] 39 (0, 0))) ∧ (w'.heap[s_]? = some (.cells #[.int .i64 0, .int .i64 0, .string (⟨#[]⟩ : ByteArray)] 24 (0, 0))) ∧ (w.heap.size ≤ s_) ∧ (w.heap.size ≤ s_) ∧ (gb291 ≠ s_) ∧ (s_ ≠ gb291) ∧ (Below w.heap.size w w')) ?_ ?_
                rotate_left
                ·intro hJ2_5_7_17
                 refine join_ (σ := Nat) 6 #[true, true, true, true, true, true, true, true, true, true, false, true, true, false, true, true, false, false, true, false, false] (fun s_ => [(23, .int .i64 t293), (26, .int .i64 t294), (28, .agg #[.int .i64 t295, .int .i64 t296, .string t297]), (8, .pointer (some ⟨s_, 0, none⟩))]) (fun s_ w' => (w'.cell? ⟨gb291, 0, none⟩ = some (.int .i64 a0_0) ∧ w'.cell? ⟨gb291, 1, none⟩ = some (.int .i64 a0_1) ∧ w'.cell? ⟨gb291, 2, none⟩ = some (.int .i64 a0_2)) ∧ (w'.heap[gb291]? = some (.cells #[.int .i64 a0_0, .int .i64 a0_1, .int .i64 a0_2] 39 (0, 0))) ∧ (w'.heap[s_]? = some (.cells #[.int .i64 0, .int .i64 0, .string (⟨#[]⟩ : ByteArray)] 24 (0, 0))) ∧ (w.heap.size ≤ s_) ∧ (w.heap.size ≤ s_) ∧ (gb291 ≠ s_) ∧ (s_ ≠ gb291) ∧ (Below w.heap.size w w')) ?_ ?_
                 rotate_left
                 ·intro hJ2_5_7_18
                  refine join_ (σ := Nat × Nat) 6 #[true, true, true, true, true, true, true, false, true, true, false, true, true, false, true, true, false, true, true, false, false] (fun s_ => [(23, .int .i64 t293), (26, .int .i64 t294), (7, .pointer (some ⟨s_.1, 0, none⟩)), (8, .pointer (some ⟨s_.2, 0, none⟩))]) (fun s_ w' => (w'.cell? ⟨gb291, 0, none⟩ = some (.int .i64 a0_0) ∧ w'.cell? ⟨gb291, 1, none⟩ = some (.int .i64 a0_1) ∧ w'.cell? ⟨gb291, 2, none⟩ = some (.int .i64 a0_2)) ∧ (w'.heap[gb291]? = some (.cells #[.int .i64 a0_0, .int .i64 a0_1, .int .i64 a0_2] 39 (0, 0))) ∧ (w'.heap[s_.1]? = some (.cells #[.int .i64 0, .int .i64 0, .string (⟨#[]⟩ : ByteArray)] 24 (0, 0))) ∧ (w'.heap[s_.2]? = some (.cells #[.int .i64 0, .int .i64 0, .string (⟨#[]⟩ : ByteArray)] 24 (0, 0))) ∧ (w.heap.size ≤ s_.1) ∧ (w.heap.size ≤ s_.1) ∧ (gb291 ≠ s_.1) ∧ (s_.1 ≠ gb291) ∧ (s_.2 ≠ s_.1) ∧ (s_.1 ≠ s_.2) ∧ (w.heap.size ≤ s_.2) ∧ (w.heap.size ≤ s_.2) ∧ (gb291 ≠ s_.2) ∧ (s_.2 ≠ gb291) ∧ (Below w.heap.size w w')) ?_ ?_
                  rotate_left
                  ·intro hJ2_5_17_18
                   refine join_ (σ := Unit) 7 #[true, true, true, true, true, true, true, true, true, true, false, true, true, false, true, true, false, false, false, false, false] (fun s_ => [(23, .int .i64 t293), (26, .int .i64 t294), (28, .agg #[.int .i64 t295, .int .i64 t296, .string t297])]) (fun s_ w' => (w'.cell? ⟨gb291, 0, none⟩ = some (.int .i64 a0_0) ∧ w'.cell? ⟨gb291, 1, none⟩ = some (.int .i64 a0_1) ∧ w'.cell? ⟨gb291, 2, none⟩ = some (.int .i64 a0_2)) ∧ (w'.heap[gb291]? = some (.cells #[.int .i64 a0_0, .int .i64 a0_1, .int .i64 a0_2] 39 (0, 0))) ∧ (Below w.heap.size w w')) ?_ ?_
                   rotate_left
                   ·intro hJ2_5_7
                    refine join_ (σ := Nat) 7 #[true, true, true, true, true, true, true, false, true, true, false, true, true, false, true, true, false, true, false, false, false] (fun s_ => [(23, .int .i64 t293), (26, .int .i64 t294), (7, .pointer (some ⟨s_, 0, none⟩))]) (fun s_ w' => (w'.cell? ⟨gb291, 0, none⟩ = some (.int .i64 a0_0) ∧ w'.cell? ⟨gb291, 1, none⟩ = some (.int .i64 a0_1) ∧ w'.cell? ⟨gb291, 2, none⟩ = some (.int .i64 a0_2)) ∧ (w'.heap[gb291]? = some (.cells #[.int .i64 a0_0, .int .i64 a0_1, .int .i64 a0_2] 39 (0, 0))) ∧ (w'.heap[s_]? = some (.cells #[.int .i64 0, .int .i64 0, .string (⟨#[]⟩ : ByteArray)] 24 (0, 0))) ∧ (w.heap.size ≤ s_) ∧ (w.heap.size ≤ s_) ∧ (gb291 ≠ s_) ∧ (s_ ≠ gb291) ∧ (Below w.heap.size w w')) ?_ ?_
                    rotate_left
                    ·intro hJ2_5_17
                     refine join_ (σ := Nat) 7 #[true, true, true, true, true, true, true, false, true, true, false, true, true, false, true, true, false, false, true, false, false] (fun s_ => [(23, .int .i64 t293), (26, .int .i64 t294), (8, .pointer (some ⟨s_, 0, none⟩))]) (fun s_ w' => (w'.cell? ⟨gb291, 0, none⟩ = some (.int .i64 a0_0) ∧ w'.cell? ⟨gb291, 1, none⟩ = some (.int .i64 a0_1) ∧ w'.cell? ⟨gb291, 2, none⟩ = some (.int .i64 a0_2)) ∧ (w'.heap[gb291]? = some (.cells #[.int .i64 a0_0, .int .i64 a0_1, .int .i64 a0_2] 39 (0, 0))) ∧ (w'.heap[s_]? = some (.cells #[.int .i64 0, .int .i64 0, .string (⟨#[]⟩ : ByteArray)] 24 (0, 0))) ∧ (w.heap.size ≤ s_) ∧ (w.heap.size ≤ s_) ∧ (gb291 ≠ s_) ∧ (s_ ≠ gb291) ∧ (Below w.heap.size w w')) ?_ ?_
                     rotate_left
                     ·intro hJ2_5_18
                      refine join_ (σ := Nat × Nat) 7 #[true, true, true, true, true, false, true, false, true, true, false, true, true, false, true, true, false, true, true, false, false] (fun s_ => [(23, .int .i64 t293), (7, .pointer (some ⟨s_.1, 0, none⟩)), (8, .pointer (some ⟨s_.2, 0, none⟩))]) (fun s_ w' => (w'.cell? ⟨gb291, 0, none⟩ = some (.int .i64 a0_0) ∧ w'.cell? ⟨gb291, 1, none⟩ = some (.int .i64 a0_1) ∧ w'.cell? ⟨gb291, 2, none⟩ = some (.int .i64 a0_2)) ∧ (w'.heap[gb291]? = some (.cells #[.int .i64 a0_0, .int .i64 a0_1, .int .i64 a0_2] 39 (0, 0))) ∧ (w'.heap[s_.1]? = some (.cells #[.int .i64 0, .int .i64 0, .string (⟨#[]⟩ : ByteArray)] 24 (0, 0))) ∧ (w'.heap[s_.2]? = some (.cells #[.int .i64 0, .int .i64 0, .string (⟨#[]⟩ : ByteArray)] 24 (0, 0))) ∧ (w.heap.size ≤ s_.1) ∧ (w.heap.size ≤ s_.1) ∧ (gb291 ≠ s_.1) ∧ (s_.1 ≠ gb291) ∧ (s_.2 ≠ s_.1) ∧ (s_.1 ≠ s_.2) ∧ (w.heap.size ≤ s_.2) ∧ (w.heap.size ≤ s_.2) ∧ (gb291 ≠ s_.2) ∧ (s_.2 ≠ gb291) ∧ (Below w.heap.size w w')) ?_ ?_
                      rotate_left
                      ·intro hJ2_17_18
                       refine join_ (σ := Unit) 8 #[true, true, true, true, true, true, true, false, true, true, false, true, true, false, true, true, false, false, false, false, false] (fun s_ => [(23, .int .i64 t293), (26, .int .i64 t294)]) (fun s_ w' => (w'.cell? ⟨gb291, 0, none⟩ = some (.int .i64 a0_0) ∧ w'.cell? ⟨gb291, 1, none⟩ = some (.int .i64 a0_1) ∧ w'.cell? ⟨gb291, 2, none⟩ = some (.int .i64 a0_2)) ∧ (w'.heap[gb291]? = some (.cells #[.int .i64 a0_0, .int .i64 a0_1, .int .i64 a0_2] 39 (0, 0))) ∧ (Below w.heap.size w w')) ?_ ?_
                       rotate_left
                       ·intro hJ2_5
                        refine join_ (σ := Nat) 8 #[true, true, true, true, true, false, true, false, true, true, false, true, true, false, true, true, false, true, false, false, false] (fun s_ => [(23, .int .i64 t293), (7, .pointer (some ⟨s_, 0, none⟩))]) (fun s_ w' => (w'.cell? ⟨gb291, 0, none⟩ = some (.int .i64 a0_0) ∧ w'.cell? ⟨gb291, 1, none⟩ = some (.int .i64 a0_1) ∧ w'.cell? ⟨gb291, 2, none⟩ = some (.int .i64 a0_2)) ∧ (w'.heap[gb291]? = some (.cells #[.int .i64 a0_0, .int .i64 a0_1, .int .i64 a0_2] 39 (0, 0))) ∧ (w'.heap[s_]? = some (.cells #[.int .i64 0, .int .i64 0, .string (⟨#[]⟩ : ByteArray)] 24 (0, 0))) ∧ (w.heap.size ≤ s_) ∧ (w.heap.size ≤ s_) ∧ (gb291 ≠ s_) ∧ (s_ ≠ gb291) ∧ (Below w.heap.size w w')) ?_ ?_
                        rotate_left
                        ·intro hJ2_17
                         refine join_ (σ := Nat) 8 #[true, true, true, true, true, false, true, false, true, true, false, true, true, false, true, true, false, false, true, false, false] (fun s_ => [(23, .int .i64 t293), (8, .pointer (some ⟨s_, 0, none⟩))]) (fun s_ w' => (w'.cell? ⟨gb291, 0, none⟩ = some (.int .i64 a0_0) ∧ w'.cell? ⟨gb291, 1, none⟩ = some (.int .i64 a0_1) ∧ w'.cell? ⟨gb291, 2, none⟩ = some (.int .i64 a0_2)) ∧ (w'.heap[gb291]? = some (.cells #[.int .i64 a0_0, .int .i64 a0_1, .int .i64 a0_2] 39 (0, 0))) ∧ (w'.heap[s_]? = some (.cells #[.int .i64 0, .int .i64 0, .string (⟨#[]⟩ : ByteArray)] 24 (0, 0))) ∧ (w.heap.size ≤ s_) ∧ (w.heap.size ≤ s_) ∧ (gb291 ≠ s_) ∧ (s_ ≠ gb291) ∧ (Below w.heap.size w w')) ?_ ?_
                         rotate_left
                         ·intro hJ2_18
                          refine join_ (σ := Nat × Nat) 8 #[true, true, false, true, true, false, true, false, true, true, false, true, true, false, true, true, false, true, true, false, false] (fun s_ => [(7, .pointer (some ⟨s_.1, 0, none⟩)), (8, .pointer (some ⟨s_.2, 0, none⟩))]) (fun s_ w' => (w'.cell? ⟨gb291, 0, none⟩ = some (.int .i64 a0_0) ∧ w'.cell? ⟨gb291, 1, none⟩ = some (.int .i64 a0_1) ∧ w'.cell? ⟨gb291, 2, none⟩ = some (.int .i64 a0_2)) ∧ (w'.heap[gb291]? = some (.cells #[.int .i64 a0_0, .int .i64 a0_1, .int .i64 a0_2] 39 (0, 0))) ∧ (w'.heap[s_.1]? = some (.cells #[.int .i64 0, .int .i64 0, .string (⟨#[]⟩ : ByteArray)] 24 (0, 0))) ∧ (w'.heap[s_.2]? = some (.cells #[.int .i64 0, .int .i64 0, .string (⟨#[]⟩ : ByteArray)] 24 (0, 0))) ∧ (w.heap.size ≤ s_.1) ∧ (w.heap.size ≤ s_.1) ∧ (gb291 ≠ s_.1) ∧ (s_.1 ≠ gb291) ∧ (s_.2 ≠ s_.1) ∧ (s_.1 ≠ s_.2) ∧ (w.heap.size ≤ s_.2) ∧ (w.heap.size ≤ s_.2) ∧ (gb291 ≠ s_.2) ∧ (s_.2 ≠ gb291) ∧ (Below w.heap.size w w')) ?_ ?_
                          rotate_left
                          ·intro hJ17_18
                           refine join_ (σ := Unit) 9 #[true, true, true, true, true, false, true, false, true, true, false, true, true, false, true, true, false, false, false, false, false] (fun s_ => [(23, .int .i64 t293)]) (fun s_ w' => (w'.cell? ⟨gb291, 0, none⟩ = some (.int .i64 a0_0) ∧ w'.cell? ⟨gb291, 1, none⟩ = some (.int .i64 a0_1) ∧ w'.cell? ⟨gb291, 2, none⟩ = some (.int .i64 a0_2)) ∧ (w'.heap[gb291]? = some (.cells #[.int .i64 a0_0, .int .i64 a0_1, .int .i64 a0_2] 39 (0, 0))) ∧ (Below w.heap.size w w')) ?_ ?_
                           rotate_left
                           ·intro hJ2
                            refine join_ (σ := Nat) 9 #[true, true, false, true, true, false, true, false, true, true, false, true, true, false, true, true, false, true, false, false, false] (fun s_ => [(7, .pointer (some ⟨s_, 0, none⟩))]) (fun s_ w' => (w'.cell? ⟨gb291, 0, none⟩ = some (.int .i64 a0_0) ∧ w'.cell? ⟨gb291, 1, none⟩ = some (.int .i64 a0_1) ∧ w'.cell? ⟨gb291, 2, none⟩ = some (.int .i64 a0_2)) ∧ (w'.heap[gb291]? = some (.cells #[.int .i64 a0_0, .int .i64 a0_1, .int .i64 a0_2] 39 (0, 0))) ∧ (w'.heap[s_]? = some (.cells #[.int .i64 0, .int .i64 0, .string (⟨#[]⟩ : ByteArray)] 24 (0, 0))) ∧ (w.heap.size ≤ s_) ∧ (w.heap.size ≤ s_) ∧ (gb291 ≠ s_) ∧ (s_ ≠ gb291) ∧ (Below w.heap.size w w')) ?_ ?_
                            rotate_left
                            ·intro hJ17
                             refine join_ (σ := Nat) 9 #[true, true, false, true, true, false, true, false, true, true, false, true, true, false, true, true, false, false, true, false, false] (fun s_ => [(8, .pointer (some ⟨s_, 0, none⟩))]) (fun s_ w' => (w'.cell? ⟨gb291, 0, none⟩ = some (.int .i64 a0_0) ∧ w'.cell? ⟨gb291, 1, none⟩ = some (.int .i64 a0_1) ∧ w'.cell? ⟨gb291, 2, none⟩ = some (.int .i64 a0_2)) ∧ (w'.heap[gb291]? = some (.cells #[.int .i64 a0_0, .int .i64 a0_1, .int .i64 a0_2] 39 (0, 0))) ∧ (w'.heap[s_]? = some (.cells #[.int .i64 0, .int .i64 0, .string (⟨#[]⟩ : ByteArray)] 24 (0, 0))) ∧ (w.heap.size ≤ s_) ∧ (w.heap.size ≤ s_) ∧ (gb291 ≠ s_) ∧ (s_ ≠ gb291) ∧ (Below w.heap.size w w')) ?_ ?_
                             rotate_left
                             ·intro hJ18
                              refine three_ (i := 2) (j := 17) (k := 18) (Ni := some 23) (Nj := some 7) (Nk := some 8) #[true, true, true, true, true, false, true, false, true, true, false, true, true, false, true, true, false, false, false, false, false] #[true, true, false, true, true, false, true, false, true, true, false, true, true, false, true, true, false, true, false, false, false] #[true, true, false, true, true, false, true, false, true, true, false, true, true, false, true, true, false, false, true, false, false] rfl rfl rfl rfl rfl rfl (three_of HT_.out (by kernel_rfl)) (by decide) (by decide) (by decide) (fun K hK => ?_) (fun K hK => ?_) (fun K hK => ?_)
                              ·skip
                               refine goes_ Try.func24 (by kernel_rfl) rfl #[.int .i64 a0_0] (by rfl) rfl rfl (by (try simp only [List.map_toArray, List.map_cons, List.map_nil]); first | done | rfl | (simp only [List.length_drop, List.length_take]; rfl)) ?_
                               with_reducible refine (corncriblaw02_side.calls a0_0 t293 _ A6.out).mono ?_
                               rintro e w' ⟨rfl, ⟨nd, rfl⟩⟩
                               refine ⟨_, rfl, ?_⟩
                               refine hK.out _ _ ⟨(blk_cell BK291.out 0).trans rfl, (blk_cell BK291.out 1).trans rfl, (blk_cell BK291.out 2).trans rfl⟩ (fun hHeld => ?_)
                               clear hK K
                               refine norm_ (a' := ?_) ?_ ?_
                               rotate_left
                               ·show Act.put _ (some 23) _ = _
                                simp only [Act.put, s1_, s2_, s3_, i64_w, i32_w]
                                rfl
                               exact norm_ (by simp only [putAll, Act.put, s1_, s2_, s3_] <;> rfl) (hJ2 () _ ⟨hHeld, (peel_ BK291.out), (by repeat (with_reducible (first | exact HB.out | apply bA_ | apply bN_ | apply bD_ | refine bS_ ?_ GE291.out)))⟩)
                              ·skip
                               refine box_step ?hg (N := 7) ?hd (cs := #[.int .i64 0, .int .i64 0, .string (⟨#[]⟩ : ByteArray)]) (t := 24) ?hr ?_; (case hd => rfl); (case hg => rfl); (case hr => first | (go_simp; done) | (go_simp; rfl))
                               intro gb303 hg w17 hbox hb
                               have n0_ := Aside0.mk (blk_below (g := gb291) (o := .cells #[.int .i64 a0_0, .int .i64 a0_1, .int .i64 a0_2] 39 (0, 0)) (peel_ BK291.out) hb)
                               have n1_ := Aside0.mk (below_step (by repeat (with_reducible (first | exact HB.out | apply bA_ | apply bN_ | apply bD_ | refine bS_ ?_ GE291.out))) hb)
                               have n2_ := Aside0.mk (hbox)
                               have n3_ := Aside0.mk ((by rw [hg]; exact (below_size (by repeat (with_reducible (first | exact HB.out | apply bA_ | apply bN_ | apply bD_ | refine bS_ ?_ GE291.out)))) : w.heap.size ≤ gb303))
                               have n4_ := Aside0.mk ((by rw [hg]; exact (below_size (by repeat (with_reducible (first | exact HB.out | apply bA_ | apply bN_ | apply bD_ | refine bS_ ?_ GE291.out)))) : w.heap.size ≤ gb303))
                               have n5_ := Aside0.mk ((by rw [hg]; exact Nat.ne_of_lt (blk_lt (g := gb291) (o := .cells #[.int .i64 a0_0, .int .i64 a0_1, .int .i64 a0_2] 39 (0, 0)) (peel_ BK291.out)) : gb291 ≠ gb303))
                               have n6_ := Aside0.mk ((by rw [hg]; exact Nat.ne_of_gt (blk_lt (g := gb291) (o := .cells #[.int .i64 a0_0, .int .i64 a0_1, .int .i64 a0_2] 39 (0, 0)) (peel_ BK291.out)) : gb303 ≠ gb291))
                               clear BK291
                               clear HB
                               have BK291 := n0_
                               have HB := n1_
                               have BK303 := n2_
                               have GW303 := n3_
                               have GE303 := n4_
                               have NB291_303 := n5_
                               have NB303_291 := n6_
                               clear n0_ n1_ n2_ n3_ n4_ n5_ n6_
                               clear hb hbox hg
                               refine hK.out _ _ ⟨(blk_cell BK291.out 0).trans rfl, (blk_cell BK291.out 1).trans rfl, (blk_cell BK291.out 2).trans rfl⟩ (fun hHeld => ?_)
                               clear hK K
                               refine norm_ (a' := ?_) ?_ ?_
                               rotate_left
                               ·show Act.put _ (some 7) _ = _
                                simp only [Act.put, s1_, s2_, s3_, i64_w, i32_w]
                                rfl
                               exact norm_ (by simp only [putAll, Act.put, s1_, s2_, s3_] <;> rfl) (hJ17 (gb303) _ ⟨hHeld, (peel_ BK291.out), (peel_ BK303.out), GW303.out, GE303.out, NB291_303.out, NB303_291.out, (by repeat (with_reducible (first | exact HB.out | apply bA_ | apply bN_ | apply bD_ | refine bS_ ?_ GE291.out | refine bS_ ?_ GE303.out)))⟩)
                              ·skip
                               refine box_step ?hg (N := 8) ?hd (cs := #[.int .i64 0, .int .i64 0, .string (⟨#[]⟩ : ByteArray)]) (t := 24) ?hr ?_; (case hd => rfl); (case hg => rfl); (case hr => first | (go_simp; done) | (go_simp; rfl))
                               intro gb304 hg w17 hbox hb
                               have n0_ := Aside0.mk (blk_below (g := gb291) (o := .cells #[.int .i64 a0_0, .int .i64 a0_1, .int .i64 a0_2] 39 (0, 0)) (peel_ BK291.out) hb)
                               have n1_ := Aside0.mk (below_step (by repeat (with_reducible (first | exact HB.out | apply bA_ | apply bN_ | apply bD_ | refine bS_ ?_ GE291.out))) hb)
                               have n2_ := Aside0.mk (hbox)
                               have n3_ := Aside0.mk ((by rw [hg]; exact (below_size (by repeat (with_reducible (first | exact HB.out | apply bA_ | apply bN_ | apply bD_ | refine bS_ ?_ GE291.out)))) : w.heap.size ≤ gb304))
                               have n4_ := Aside0.mk ((by rw [hg]; exact (below_size (by repeat (with_reducible (first | exact HB.out | apply bA_ | apply bN_ | apply bD_ | refine bS_ ?_ GE291.out)))) : w.heap.size ≤ gb304))
                               have n5_ := Aside0.mk ((by rw [hg]; exact Nat.ne_of_lt (blk_lt (g := gb291) (o := .cells #[.int .i64 a0_0, .int .i64 a0_1, .int .i64 a0_2] 39 (0, 0)) (peel_ BK291.out)) : gb291 ≠ gb304))
                               have n6_ := Aside0.mk ((by rw [hg]; exact Nat.ne_of_gt (blk_lt (g := gb291) (o := .cells #[.int .i64 a0_0, .int .i64 a0_1, .int .i64 a0_2] 39 (0, 0)) (peel_ BK291.out)) : gb304 ≠ gb291))
                               clear BK291
                               clear HB
                               have BK291 := n0_
                               have HB := n1_
                               have BK304 := n2_
                               have GW304 := n3_
                               have GE304 := n4_
                               have NB291_304 := n5_
                               have NB304_291 := n6_
                               clear n0_ n1_ n2_ n3_ n4_ n5_ n6_
                               clear hb hbox hg
                               refine hK.out _ _ ⟨(blk_cell BK291.out 0).trans rfl, (blk_cell BK291.out 1).trans rfl, (blk_cell BK291.out 2).trans rfl⟩ (fun hHeld => ?_)
                               clear hK K
                               refine norm_ (a' := ?_) ?_ ?_
                               rotate_left
                               ·show Act.put _ (some 8) _ = _
                                simp only [Act.put, s1_, s2_, s3_, i64_w, i32_w]
                                rfl
                               exact norm_ (by simp only [putAll, Act.put, s1_, s2_, s3_] <;> rfl) (hJ18 (gb304) _ ⟨hHeld, (peel_ BK291.out), (peel_ BK304.out), GW304.out, GE304.out, NB291_304.out, NB304_291.out, (by repeat (with_reducible (first | exact HB.out | apply bA_ | apply bN_ | apply bD_ | refine bS_ ?_ GE291.out | refine bS_ ?_ GE304.out)))⟩)
                             ·skip
                              rintro gb304 w18 ⟨hS_, h0_, h1_, h2_, h3_, h4_, h5_, h6_⟩
                              have n0_ : Aside0 (w18.heap[gb291]? = some (.cells #[.int .i64 a0_0, .int .i64 a0_1, .int .i64 a0_2] 39 (0, 0))) := ⟨h0_⟩
                              have n1_ : Aside0 (w18.heap[gb304]? = some (.cells #[.int .i64 0, .int .i64 0, .string (⟨#[]⟩ : ByteArray)] 24 (0, 0))) := ⟨h1_⟩
                              have n2_ : Aside0 (w.heap.size ≤ gb304) := ⟨h2_⟩
                              have n3_ : Aside0 (w.heap.size ≤ gb304) := ⟨h3_⟩
                              have n4_ : Aside0 (gb291 ≠ gb304) := ⟨h4_⟩
                              have n5_ : Aside0 (gb304 ≠ gb291) := ⟨h5_⟩
                              have n6_ : Aside0 (Below w.heap.size w w18) := ⟨h6_⟩
                              clear BK291
                              clear HB
                              clear h0_ h1_ h2_ h3_ h4_ h5_ h6_
                              have BK291 := n0_
                              have BK304 := n1_
                              have GW304 := n2_
                              have GE304 := n3_
                              have NB291_304 := n4_
                              have NB304_291 := n5_
                              have HB := n6_
                              clear n0_ n1_ n2_ n3_ n4_ n5_ n6_
                              have hHeld : w18.cell? ⟨gb291, 0, none⟩ = some (.int .i64 a0_0) ∧ w18.cell? ⟨gb291, 1, none⟩ = some (.int .i64 a0_1) ∧ w18.cell? ⟨gb291, 2, none⟩ = some (.int .i64 a0_2) := hS_
                              refine norm_ (a' := ?_) ?_ ?_
                              rotate_left
                              ·simp only [putAll, Act.put, s1_, s2_, s3_]
                               rfl
                              refine two_ (i := 2) (j := 17) (Ni := some 23) (Nj := some 7) #[true, true, true, true, true, false, true, false, true, true, false, true, true, false, true, true, false, false, true, false, false] #[true, true, false, true, true, false, true, false, true, true, false, true, true, false, true, true, false, true, true, false, false] rfl rfl rfl rfl (two_of HT_.out (by kernel_rfl)) (by decide) (by decide) (fun K hK => ?_) (fun K hK => ?_)
                              ·skip
                               refine goes_ Try.func24 (by kernel_rfl) rfl #[.int .i64 a0_0] (by rfl) rfl rfl (by (try simp only [List.map_toArray, List.map_cons, List.map_nil]); first | done | rfl | (simp only [List.length_drop, List.length_take]; rfl)) ?_
                               with_reducible refine (corncriblaw02_side.calls a0_0 t293 _ A6.out).mono ?_
                               rintro e w' ⟨rfl, ⟨nd, rfl⟩⟩
                               refine ⟨_, rfl, ?_⟩
                               refine hK.out _ _ ⟨(blk_cell BK291.out 0).trans rfl, (blk_cell BK291.out 1).trans rfl, (blk_cell BK291.out 2).trans rfl⟩ (fun hHeld => ?_)
                               clear hK K
                               refine norm_ (a' := ?_) ?_ ?_
                               rotate_left
                               ·show Act.put _ (some 23) _ = _
                                simp only [Act.put, s1_, s2_, s3_, i64_w, i32_w]
                                rfl
                               exact norm_ (by simp only [putAll, Act.put, s1_, s2_, s3_] <;> rfl) (hJ2_18 (gb304) _ ⟨hHeld, (peel_ BK291.out), (peel_ BK304.out), GW304.out, GE304.out, NB291_304.out, NB304_291.out, (by repeat (with_reducible (first | exact HB.out | apply bA_ | apply bN_ | apply bD_ | refine bS_ ?_ GE291.out | refine bS_ ?_ GE304.out)))⟩)
                              ·skip
                               refine box_step ?hg (N := 7) ?hd (cs := #[.int .i64 0, .int .i64 0, .string (⟨#[]⟩ : ByteArray)]) (t := 24) ?hr ?_; (case hd => rfl); (case hg => rfl); (case hr => first | (go_simp; done) | (go_simp; rfl))
                               intro gb303 hg w19 hbox hb
                               have n0_ := Aside0.mk (blk_below (g := gb291) (o := .cells #[.int .i64 a0_0, .int .i64 a0_1, .int .i64 a0_2] 39 (0, 0)) (peel_ BK291.out) hb)
                               have n1_ := Aside0.mk (blk_below (g := gb304) (o := .cells #[.int .i64 0, .int .i64 0, .string (⟨#[]⟩ : ByteArray)] 24 (0, 0)) (peel_ BK304.out) hb)
                               have n2_ := Aside0.mk (below_step (by repeat (with_reducible (first | exact HB.out | apply bA_ | apply bN_ | apply bD_ | refine bS_ ?_ GE291.out | refine bS_ ?_ GE304.out))) hb)
                               have n3_ := Aside0.mk (hbox)
                               have n4_ := Aside0.mk ((by rw [hg]; exact (below_size (by repeat (with_reducible (first | exact HB.out | apply bA_ | apply bN_ | apply bD_ | refine bS_ ?_ GE291.out | refine bS_ ?_ GE304.out)))) : w.heap.size ≤ gb303))
                               have n5_ := Aside0.mk ((by rw [hg]; exact (below_size (by repeat (with_reducible (first | exact HB.out | apply bA_ | apply bN_ | apply bD_ | refine bS_ ?_ GE291.out | refine bS_ ?_ GE304.out)))) : w.heap.size ≤ gb303))
                               have n6_ := Aside0.mk ((by rw [hg]; exact Nat.ne_of_lt (blk_lt (g := gb291) (o := .cells #[.int .i64 a0_0, .int .i64 a0_1, .int .i64 a0_2] 39 (0, 0)) (peel_ BK291.out)) : gb291 ≠ gb303))
                               have n7_ := Aside0.mk ((by rw [hg]; exact Nat.ne_of_gt (blk_lt (g := gb291) (o := .cells #[.int .i64 a0_0, .int .i64 a0_1, .int .i64 a0_2] 39 (0, 0)) (peel_ BK291.out)) : gb303 ≠ gb291))
                               have n8_ := Aside0.mk ((by rw [hg]; exact Nat.ne_of_lt (blk_lt (g := gb304) (o := .cells #[.int .i64 0, .int .i64 0, .string (⟨#[]⟩ : ByteArray)] 24 (0, 0)) (peel_ BK304.out)) : gb304 ≠ gb303))
                               have n9_ := Aside0.mk ((by rw [hg]; exact Nat.ne_of_gt (blk_lt (g := gb304) (o := .cells #[.int .i64 0, .int .i64 0, .string (⟨#[]⟩ : ByteArray)] 24 (0, 0)) (peel_ BK304.out)) : gb303 ≠ gb304))
                               clear BK291
                               clear BK304
                               clear HB
                               have BK291 := n0_
                               have BK304 := n1_
                               have HB := n2_
                               have BK303 := n3_
                               have GW303 := n4_
                               have GE303 := n5_
                               have NB291_303 := n6_
                               have NB303_291 := n7_
                               have NB304_303 := n8_
                               have NB303_304 := n9_
                               clear n0_ n1_ n2_ n3_ n4_ n5_ n6_ n7_ n8_ n9_
                               clear hb hbox hg
                               refine hK.out _ _ ⟨(blk_cell BK291.out 0).trans rfl, (blk_cell BK291.out 1).trans rfl, (blk_cell BK291.out 2).trans rfl⟩ (fun hHeld => ?_)
                               clear hK K
                               refine norm_ (a' := ?_) ?_ ?_
                               rotate_left
                               ·show Act.put _ (some 7) _ = _
                                simp only [Act.put, s1_, s2_, s3_, i64_w, i32_w]
                                rfl
                               exact norm_ (by simp only [putAll, Act.put, s1_, s2_, s3_] <;> rfl) (hJ17_18 (gb303, gb304) _ ⟨hHeld, (peel_ BK291.out), (peel_ BK303.out), (peel_ BK304.out), GW303.out, GE303.out, NB291_303.out, NB303_291.out, NB304_303.out, NB303_304.out, GW304.out, GE304.out, NB291_304.out, NB304_291.out, (by repeat (with_reducible (first | exact HB.out | apply bA_ | apply bN_ | apply bD_ | refine bS_ ?_ GE291.out | refine bS_ ?_ GE304.out | refine bS_ ?_ GE303.out)))⟩)
                            ·skip
                             rintro gb303 w18 ⟨hS_, h0_, h1_, h2_, h3_, h4_, h5_, h6_⟩
                             have n0_ : Aside0 (w18.heap[gb291]? = some (.cells #[.int .i64 a0_0, .int .i64 a0_1, .int .i64 a0_2] 39 (0, 0))) := ⟨h0_⟩
                             have n1_ : Aside0 (w18.heap[gb303]? = some (.cells #[.int .i64 0, .int .i64 0, .string (⟨#[]⟩ : ByteArray)] 24 (0, 0))) := ⟨h1_⟩
                             have n2_ : Aside0 (w.heap.size ≤ gb303) := ⟨h2_⟩
                             have n3_ : Aside0 (w.heap.size ≤ gb303) := ⟨h3_⟩
                             have n4_ : Aside0 (gb291 ≠ gb303) := ⟨h4_⟩
                             have n5_ : Aside0 (gb303 ≠ gb291) := ⟨h5_⟩
                             have n6_ : Aside0 (Below w.heap.size w w18) := ⟨h6_⟩
                             clear BK291
                             clear HB
                             clear h0_ h1_ h2_ h3_ h4_ h5_ h6_
                             have BK291 := n0_
                             have BK303 := n1_
                             have GW303 := n2_
                             have GE303 := n3_
                             have NB291_303 := n4_
                             have NB303_291 := n5_
                             have HB := n6_
                             clear n0_ n1_ n2_ n3_ n4_ n5_ n6_
                             have hHeld : w18.cell? ⟨gb291, 0, none⟩ = some (.int .i64 a0_0) ∧ w18.cell? ⟨gb291, 1, none⟩ = some (.int .i64 a0_1) ∧ w18.cell? ⟨gb291, 2, none⟩ = some (.int .i64 a0_2) := hS_
                             refine norm_ (a' := ?_) ?_ ?_
                             rotate_left
                             ·simp only [putAll, Act.put, s1_, s2_, s3_]
                              rfl
                             refine two_ (i := 2) (j := 18) (Ni := some 23) (Nj := some 8) #[true, true, true, true, true, false, true, false, true, true, false, true, true, false, true, true, false, true, false, false, false] #[true, true, false, true, true, false, true, false, true, true, false, true, true, false, true, true, false, true, true, false, false] rfl rfl rfl rfl (two_of HT_.out (by kernel_rfl)) (by decide) (by decide) (fun K hK => ?_) (fun K hK => ?_)
                             ·skip
                              refine goes_ Try.func24 (by kernel_rfl) rfl #[.int .i64 a0_0] (by rfl) rfl rfl (by (try simp only [List.map_toArray, List.map_cons, List.map_nil]); first | done | rfl | (simp only [List.length_drop, List.length_take]; rfl)) ?_
                              with_reducible refine (corncriblaw02_side.calls a0_0 t293 _ A6.out).mono ?_
                              rintro e w' ⟨rfl, ⟨nd, rfl⟩⟩
                              refine ⟨_, rfl, ?_⟩
                              refine hK.out _ _ ⟨(blk_cell BK291.out 0).trans rfl, (blk_cell BK291.out 1).trans rfl, (blk_cell BK291.out 2).trans rfl⟩ (fun hHeld => ?_)
                              clear hK K
                              refine norm_ (a' := ?_) ?_ ?_
                              rotate_left
                              ·show Act.put _ (some 23) _ = _
                               simp only [Act.put, s1_, s2_, s3_, i64_w, i32_w]
                               rfl
                              exact norm_ (by simp only [putAll, Act.put, s1_, s2_, s3_] <;> rfl) (hJ2_17 (gb303) _ ⟨hHeld, (peel_ BK291.out), (peel_ BK303.out), GW303.out, GE303.out, NB291_303.out, NB303_291.out, (by repeat (with_reducible (first | exact HB.out | apply bA_ | apply bN_ | apply bD_ | refine bS_ ?_ GE291.out | refine bS_ ?_ GE303.out)))⟩)
                             ·skip
                              refine box_step ?hg (N := 8) ?hd (cs := #[.int .i64 0, .int .i64 0, .string (⟨#[]⟩ : ByteArray)]) (t := 24) ?hr ?_; (case hd => rfl); (case hg => rfl); (case hr => first | (go_simp; done) | (go_simp; rfl))
                              intro gb304 hg w19 hbox hb
                              have n0_ := Aside0.mk (blk_below (g := gb291) (o := .cells #[.int .i64 a0_0, .int .i64 a0_1, .int .i64 a0_2] 39 (0, 0)) (peel_ BK291.out) hb)
                              have n1_ := Aside0.mk (blk_below (g := gb303) (o := .cells #[.int .i64 0, .int .i64 0, .string (⟨#[]⟩ : ByteArray)] 24 (0, 0)) (peel_ BK303.out) hb)
                              have n2_ := Aside0.mk (below_step (by repeat (with_reducible (first | exact HB.out | apply bA_ | apply bN_ | apply bD_ | refine bS_ ?_ GE291.out | refine bS_ ?_ GE303.out))) hb)
                              have n3_ := Aside0.mk (hbox)
                              have n4_ := Aside0.mk ((by rw [hg]; exact (below_size (by repeat (with_reducible (first | exact HB.out | apply bA_ | apply bN_ | apply bD_ | refine bS_ ?_ GE291.out | refine bS_ ?_ GE303.out)))) : w.heap.size ≤ gb304))
                              have n5_ := Aside0.mk ((by rw [hg]; exact (below_size (by repeat (with_reducible (first | exact HB.out | apply bA_ | apply bN_ | apply bD_ | refine bS_ ?_ GE291.out | refine bS_ ?_ GE303.out)))) : w.heap.size ≤ gb304))
                              have n6_ := Aside0.mk ((by rw [hg]; exact Nat.ne_of_lt (blk_lt (g := gb291) (o := .cells #[.int .i64 a0_0, .int .i64 a0_1, .int .i64 a0_2] 39 (0, 0)) (peel_ BK291.out)) : gb291 ≠ gb304))
                              have n7_ := Aside0.mk ((by rw [hg]; exact Nat.ne_of_gt (blk_lt (g := gb291) (o := .cells #[.int .i64 a0_0, .int .i64 a0_1, .int .i64 a0_2] 39 (0, 0)) (peel_ BK291.out)) : gb304 ≠ gb291))
                              have n8_ := Aside0.mk ((by rw [hg]; exact Nat.ne_of_lt (blk_lt (g := gb303) (o := .cells #[.int .i64 0, .int .i64 0, .string (⟨#[]⟩ : ByteArray)] 24 (0, 0)) (peel_ BK303.out)) : gb303 ≠ gb304))
                              have n9_ := Aside0.mk ((by rw [hg]; exact Nat.ne_of_gt (blk_lt (g := gb303) (o := .cells #[.int .i64 0, .int .i64 0, .string (⟨#[]⟩ : ByteArray)] 24 (0, 0)) (peel_ BK303.out)) : gb304 ≠ gb303))
                              clear BK291
                              clear BK303
                              clear HB
                              have BK291 := n0_
                              have BK303 := n1_
                              have HB := n2_
                              have BK304 := n3_
                              have GW304 := n4_
                              have GE304 := n5_
                              have NB291_304 := n6_
                              have NB304_291 := n7_
                              have NB303_304 := n8_
                              have NB304_303 := n9_
                              clear n0_ n1_ n2_ n3_ n4_ n5_ n6_ n7_ n8_ n9_
                              clear hb hbox hg
                              refine hK.out _ _ ⟨(blk_cell BK291.out 0).trans rfl, (blk_cell BK291.out 1).trans rfl, (blk_cell BK291.out 2).trans rfl⟩ (fun hHeld => ?_)
                              clear hK K
                              refine norm_ (a' := ?_) ?_ ?_
                              rotate_left
                              ·show Act.put _ (some 8) _ = _
                               simp only [Act.put, s1_, s2_, s3_, i64_w, i32_w]
                               rfl
                              exact norm_ (by simp only [putAll, Act.put, s1_, s2_, s3_] <;> rfl) (hJ17_18 (gb303, gb304) _ ⟨hHeld, (peel_ BK291.out), (peel_ BK303.out), (peel_ BK304.out), GW303.out, GE303.out, NB291_303.out, NB303_291.out, NB304_303.out, NB303_304.out, GW304.out, GE304.out, NB291_304.out, NB304_291.out, (by repeat (with_reducible (first | exact HB.out | apply bA_ | apply bN_ | apply bD_ | refine bS_ ?_ GE291.out | refine bS_ ?_ GE303.out | refine bS_ ?_ GE304.out)))⟩)
                           ·skip
                            rintro _ w17 ⟨hS_, h0_, h1_⟩
                            have n0_ : Aside0 (w17.heap[gb291]? = some (.cells #[.int .i64 a0_0, .int .i64 a0_1, .int .i64 a0_2] 39 (0, 0))) := ⟨h0_⟩
                            have n1_ : Aside0 (Below w.heap.size w w17) := ⟨h1_⟩
                            clear BK291
                            clear HB
                            clear h0_ h1_
                            have BK291 := n0_
                            have HB := n1_
                            clear n0_ n1_
                            have hHeld : w17.cell? ⟨gb291, 0, none⟩ = some (.int .i64 a0_0) ∧ w17.cell? ⟨gb291, 1, none⟩ = some (.int .i64 a0_1) ∧ w17.cell? ⟨gb291, 2, none⟩ = some (.int .i64 a0_2) := hS_
                            refine norm_ (a' := ?_) ?_ ?_
                            rotate_left
                            ·simp only [putAll, Act.put, s1_, s2_, s3_]
                             rfl
                            refine three_ (i := 5) (j := 17) (k := 18) (Ni := some 26) (Nj := some 7) (Nk := some 8) #[true, true, true, true, true, true, true, false, true, true, false, true, true, false, true, true, false, false, false, false, false] #[true, true, true, true, true, false, true, false, true, true, false, true, true, false, true, true, false, true, false, false, false] #[true, true, true, true, true, false, true, false, true, true, false, true, true, false, true, true, false, false, true, false, false] rfl rfl rfl rfl rfl rfl (three_of HT_.out (by kernel_rfl)) (by decide) (by decide) (by decide) (fun K hK => ?_) (fun K hK => ?_) (fun K hK => ?_)
                            ·skip
                             refine goes_ Try.func24 (by kernel_rfl) rfl #[.int .i64 a0_1] (by rfl) rfl rfl (by (try simp only [List.map_toArray, List.map_cons, List.map_nil]); first | done | rfl | (simp only [List.length_drop, List.length_take]; rfl)) ?_
                             with_reducible refine (corncriblaw02_side.calls a0_1 t294 _ A7.out).mono ?_
                             rintro e w' ⟨rfl, ⟨nd, rfl⟩⟩
                             refine ⟨_, rfl, ?_⟩
                             refine hK.out _ _ ⟨(blk_cell BK291.out 0).trans rfl, (blk_cell BK291.out 1).trans rfl, (blk_cell BK291.out 2).trans rfl⟩ (fun hHeld => ?_)
                             clear hK K
                             refine norm_ (a' := ?_) ?_ ?_
                             rotate_left
                             ·show Act.put _ (some 26) _ = _
                              simp only [Act.put, s1_, s2_, s3_, i64_w, i32_w]
                              rfl
                             exact norm_ (by simp only [putAll, Act.put, s1_, s2_, s3_] <;> rfl) (hJ2_5 () _ ⟨hHeld, (peel_ BK291.out), (by repeat (with_reducible (first | exact HB.out | apply bA_ | apply bN_ | apply bD_ | refine bS_ ?_ GE291.out)))⟩)
                            ·skip
                             refine box_step ?hg (N := 7) ?hd (cs := #[.int .i64 0, .int .i64 0, .string (⟨#[]⟩ : ByteArray)]) (t := 24) ?hr ?_; (case hd => rfl); (case hg => rfl); (case hr => first | (go_simp; done) | (go_simp; rfl))
                             intro gb303 hg w18 hbox hb
                             have n0_ := Aside0.mk (blk_below (g := gb291) (o := .cells #[.int .i64 a0_0, .int .i64 a0_1, .int .i64 a0_2] 39 (0, 0)) (peel_ BK291.out) hb)
                             have n1_ := Aside0.mk (below_step (by repeat (with_reducible (first | exact HB.out | apply bA_ | apply bN_ | apply bD_ | refine bS_ ?_ GE291.out))) hb)
                             have n2_ := Aside0.mk (hbox)
                             have n3_ := Aside0.mk ((by rw [hg]; exact (below_size (by repeat (with_reducible (first | exact HB.out | apply bA_ | apply bN_ | apply bD_ | refine bS_ ?_ GE291.out)))) : w.heap.size ≤ gb303))
                             have n4_ := Aside0.mk ((by rw [hg]; exact (below_size (by repeat (with_reducible (first | exact HB.out | apply bA_ | apply bN_ | apply bD_ | refine bS_ ?_ GE291.out)))) : w.heap.size ≤ gb303))
                             have n5_ := Aside0.mk ((by rw [hg]; exact Nat.ne_of_lt (blk_lt (g := gb291) (o := .cells #[.int .i64 a0_0, .int .i64 a0_1, .int .i64 a0_2] 39 (0, 0)) (peel_ BK291.out)) : gb291 ≠ gb303))
                             have n6_ := Aside0.mk ((by rw [hg]; exact Nat.ne_of_gt (blk_lt (g := gb291) (o := .cells #[.int .i64 a0_0, .int .i64 a0_1, .int .i64 a0_2] 39 (0, 0)) (peel_ BK291.out)) : gb303 ≠ gb291))
                             clear BK291
                             clear HB
                             have BK291 := n0_
                             have HB := n1_
                             have BK303 := n2_
                             have GW303 := n3_
                             have GE303 := n4_
                             have NB291_303 := n5_
                             have NB303_291 := n6_
                             clear n0_ n1_ n2_ n3_ n4_ n5_ n6_
                             clear hb hbox hg
                             refine hK.out _ _ ⟨(blk_cell BK291.out 0).trans rfl, (blk_cell BK291.out 1).trans rfl, (blk_cell BK291.out 2).trans rfl⟩ (fun hHeld => ?_)
                             clear hK K
                             refine norm_ (a' := ?_) ?_ ?_
                             rotate_left
                             ·show Act.put _ (some 7) _ = _
                              simp only [Act.put, s1_, s2_, s3_, i64_w, i32_w]
                              rfl
                             exact norm_ (by simp only [putAll, Act.put, s1_, s2_, s3_] <;> rfl) (hJ2_17 (gb303) _ ⟨hHeld, (peel_ BK291.out), (peel_ BK303.out), GW303.out, GE303.out, NB291_303.out, NB303_291.out, (by repeat (with_reducible (first | exact HB.out | apply bA_ | apply bN_ | apply bD_ | refine bS_ ?_ GE291.out | refine bS_ ?_ GE303.out)))⟩)
                            ·skip
                             refine box_step ?hg (N := 8) ?hd (cs := #[.int .i64 0, .int .i64 0, .string (⟨#[]⟩ : ByteArray)]) (t := 24) ?hr ?_; (case hd => rfl); (case hg => rfl); (case hr => first | (go_simp; done) | (go_simp; rfl))
                             intro gb304 hg w18 hbox hb
                             have n0_ := Aside0.mk (blk_below (g := gb291) (o := .cells #[.int .i64 a0_0, .int .i64 a0_1, .int .i64 a0_2] 39 (0, 0)) (peel_ BK291.out) hb)
                             have n1_ := Aside0.mk (below_step (by repeat (with_reducible (first | exact HB.out | apply bA_ | apply bN_ | apply bD_ | refine bS_ ?_ GE291.out))) hb)
                             have n2_ := Aside0.mk (hbox)
                             have n3_ := Aside0.mk ((by rw [hg]; exact (below_size (by repeat (with_reducible (first | exact HB.out | apply bA_ | apply bN_ | apply bD_ | refine bS_ ?_ GE291.out)))) : w.heap.size ≤ gb304))
                             have n4_ := Aside0.mk ((by rw [hg]; exact (below_size (by repeat (with_reducible (first | exact HB.out | apply bA_ | apply bN_ | apply bD_ | refine bS_ ?_ GE291.out)))) : w.heap.size ≤ gb304))
                             have n5_ := Aside0.mk ((by rw [hg]; exact Nat.ne_of_lt (blk_lt (g := gb291) (o := .cells #[.int .i64 a0_0, .int .i64 a0_1, .int .i64 a0_2] 39 (0, 0)) (peel_ BK291.out)) : gb291 ≠ gb304))
                             have n6_ := Aside0.mk ((by rw [hg]; exact Nat.ne_of_gt (blk_lt (g := gb291) (o := .cells #[.int .i64 a0_0, .int .i64 a0_1, .int .i64 a0_2] 39 (0, 0)) (peel_ BK291.out)) : gb304 ≠ gb291))
                             clear BK291
                             clear HB
                             have BK291 := n0_
                             have HB := n1_
                             have BK304 := n2_
                             have GW304 := n3_
                             have GE304 := n4_
                             have NB291_304 := n5_
                             have NB304_291 := n6_
                             clear n0_ n1_ n2_ n3_ n4_ n5_ n6_
                             clear hb hbox hg
                             refine hK.out _ _ ⟨(blk_cell BK291.out 0).trans rfl, (blk_cell BK291.out 1).trans rfl, (blk_cell BK291.out 2).trans rfl⟩ (fun hHeld => ?_)
                             clear hK K
                             refine norm_ (a' := ?_) ?_ ?_
                             rotate_left
                             ·show Act.put _ (some 8) _ = _
                              simp only [Act.put, s1_, s2_, s3_, i64_w, i32_w]
                              rfl
                             exact norm_ (by simp only [putAll, Act.put, s1_, s2_, s3_] <;> rfl) (hJ2_18 (gb304) _ ⟨hHeld, (peel_ BK291.out), (peel_ BK304.out), GW304.out, GE304.out, NB291_304.out, NB304_291.out, (by repeat (with_reducible (first | exact HB.out | apply bA_ | apply bN_ | apply bD_ | refine bS_ ?_ GE291.out | refine bS_ ?_ GE304.out)))⟩)
                          ·skip
                           rintro ⟨gb303, gb304⟩ w19 ⟨hS_, h0_, h1_, h2_, h3_, h4_, h5_, h6_, h7_, h8_, h9_, h10_, h11_, h12_, h13_⟩
                           have n0_ : Aside0 (w19.heap[gb291]? = some (.cells #[.int .i64 a0_0, .int .i64 a0_1, .int .i64 a0_2] 39 (0, 0))) := ⟨h0_⟩
                           have n1_ : Aside0 (w19.heap[gb303]? = some (.cells #[.int .i64 0, .int .i64 0, .string (⟨#[]⟩ : ByteArray)] 24 (0, 0))) := ⟨h1_⟩
                           have n2_ : Aside0 (w19.heap[gb304]? = some (.cells #[.int .i64 0, .int .i64 0, .string (⟨#[]⟩ : ByteArray)] 24 (0, 0))) := ⟨h2_⟩
                           have n3_ : Aside0 (w.heap.size ≤ gb303) := ⟨h3_⟩
                           have n4_ : Aside0 (w.heap.size ≤ gb303) := ⟨h4_⟩
                           have n5_ : Aside0 (gb291 ≠ gb303) := ⟨h5_⟩
                           have n6_ : Aside0 (gb303 ≠ gb291) := ⟨h6_⟩
                           have n7_ : Aside0 (gb304 ≠ gb303) := ⟨h7_⟩
                           have n8_ : Aside0 (gb303 ≠ gb304) := ⟨h8_⟩
                           have n9_ : Aside0 (w.heap.size ≤ gb304) := ⟨h9_⟩
                           have n10_ : Aside0 (w.heap.size ≤ gb304) := ⟨h10_⟩
                           have n11_ : Aside0 (gb291 ≠ gb304) := ⟨h11_⟩
                           have n12_ : Aside0 (gb304 ≠ gb291) := ⟨h12_⟩
                           have n13_ : Aside0 (Below w.heap.size w w19) := ⟨h13_⟩
                           clear BK291
                           clear HB
                           clear h0_ h1_ h2_ h3_ h4_ h5_ h6_ h7_ h8_ h9_ h10_ h11_ h12_ h13_
                           have BK291 := n0_
                           have BK303 := n1_
                           have BK304 := n2_
                           have GW303 := n3_
                           have GE303 := n4_
                           have NB291_303 := n5_
                           have NB303_291 := n6_
                           have NB304_303 := n7_
                           have NB303_304 := n8_
                           have GW304 := n9_
                           have GE304 := n10_
                           have NB291_304 := n11_
                           have NB304_291 := n12_
                           have HB := n13_
                           clear n0_ n1_ n2_ n3_ n4_ n5_ n6_ n7_ n8_ n9_ n10_ n11_ n12_ n13_
                           have hHeld : w19.cell? ⟨gb291, 0, none⟩ = some (.int .i64 a0_0) ∧ w19.cell? ⟨gb291, 1, none⟩ = some (.int .i64 a0_1) ∧ w19.cell? ⟨gb291, 2, none⟩ = some (.int .i64 a0_2) := hS_
                           refine norm_ (a' := ?_) ?_ ?_
                           rotate_left
                           ·simp only [putAll, Act.put, s1_, s2_, s3_]
                            rfl
                           refine one_ (i := 2) (N := some 23) #[true, true, true, true, true, false, true, false, true, true, false, true, true, false, true, true, false, true, true, false, false] rfl rfl (one_of HT_.out (by kernel_rfl)) (by decide) (fun K hK => ?_)
                           refine goes_ Try.func24 (by kernel_rfl) rfl #[.int .i64 a0_0] (by rfl) rfl rfl (by (try simp only [List.map_toArray, List.map_cons, List.map_nil]); first | done | rfl | (simp only [List.length_drop, List.length_take]; rfl)) ?_
                           with_reducible refine (corncriblaw02_side.calls a0_0 t293 _ A6.out).mono ?_
                           rintro e w' ⟨rfl, ⟨nd, rfl⟩⟩
                           refine ⟨_, rfl, ?_⟩
                           refine hK.out _ _ ⟨(blk_cell BK291.out 0).trans rfl, (blk_cell BK291.out 1).trans rfl, (blk_cell BK291.out 2).trans rfl⟩ (fun hHeld => ?_)
                           clear hK K
                           refine norm_ (a' := ?_) ?_ ?_
                           rotate_left
                           ·show Act.put _ (some 23) _ = _
                            simp only [Act.put, s1_, s2_, s3_, i64_w, i32_w]
                            rfl
                           exact norm_ (by simp only [putAll, Act.put, s1_, s2_, s3_] <;> rfl) (hJ2_17_18 (gb303, gb304) _ ⟨hHeld, (peel_ BK291.out), (peel_ BK303.out), (peel_ BK304.out), GW303.out, GE303.out, NB291_303.out, NB303_291.out, NB304_303.out, NB303_304.out, GW304.out, GE304.out, NB291_304.out, NB304_291.out, (by repeat (with_reducible (first | exact HB.out | apply bA_ | apply bN_ | apply bD_ | refine bS_ ?_ GE291.out | refine bS_ ?_ GE303.out | refine bS_ ?_ GE304.out)))⟩)
                         ·skip
                          rintro gb304 w18 ⟨hS_, h0_, h1_, h2_, h3_, h4_, h5_, h6_⟩
                          have n0_ : Aside0 (w18.heap[gb291]? = some (.cells #[.int .i64 a0_0, .int .i64 a0_1, .int .i64 a0_2] 39 (0, 0))) := ⟨h0_⟩
                          have n1_ : Aside0 (w18.heap[gb304]? = some (.cells #[.int .i64 0, .int .i64 0, .string (⟨#[]⟩ : ByteArray)] 24 (0, 0))) := ⟨h1_⟩
                          have n2_ : Aside0 (w.heap.size ≤ gb304) := ⟨h2_⟩
                          have n3_ : Aside0 (w.heap.size ≤ gb304) := ⟨h3_⟩
                          have n4_ : Aside0 (gb291 ≠ gb304) := ⟨h4_⟩
                          have n5_ : Aside0 (gb304 ≠ gb291) := ⟨h5_⟩
                          have n6_ : Aside0 (Below w.heap.size w w18) := ⟨h6_⟩
                          clear BK291
                          clear HB
                          clear h0_ h1_ h2_ h3_ h4_ h5_ h6_
                          have BK291 := n0_
                          have BK304 := n1_
                          have GW304 := n2_
                          have GE304 := n3_
                          have NB291_304 := n4_
                          have NB304_291 := n5_
                          have HB := n6_
                          clear n0_ n1_ n2_ n3_ n4_ n5_ n6_
                          have hHeld : w18.cell? ⟨gb291, 0, none⟩ = some (.int .i64 a0_0) ∧ w18.cell? ⟨gb291, 1, none⟩ = some (.int .i64 a0_1) ∧ w18.cell? ⟨gb291, 2, none⟩ = some (.int .i64 a0_2) := hS_
                          refine norm_ (a' := ?_) ?_ ?_
                          rotate_left
                          ·simp only [putAll, Act.put, s1_, s2_, s3_]
                           rfl
                          refine two_ (i := 5) (j := 17) (Ni := some 26) (Nj := some 7) #[true, true, true, true, true, true, true, false, true, true, false, true, true, false, true, true, false, false, true, false, false] #[true, true, true, true, true, false, true, false, true, true, false, true, true, false, true, true, false, true, true, false, false] rfl rfl rfl rfl (two_of HT_.out (by kernel_rfl)) (by decide) (by decide) (fun K hK => ?_) (fun K hK => ?_)
                          ·skip
                           refine goes_ Try.func24 (by kernel_rfl) rfl #[.int .i64 a0_1] (by rfl) rfl rfl (by (try simp only [List.map_toArray, List.map_cons, List.map_nil]); first | done | rfl | (simp only [List.length_drop, List.length_take]; rfl)) ?_
                           with_reducible refine (corncriblaw02_side.calls a0_1 t294 _ A7.out).mono ?_
                           rintro e w' ⟨rfl, ⟨nd, rfl⟩⟩
                           refine ⟨_, rfl, ?_⟩
                           refine hK.out _ _ ⟨(blk_cell BK291.out 0).trans rfl, (blk_cell BK291.out 1).trans rfl, (blk_cell BK291.out 2).trans rfl⟩ (fun hHeld => ?_)
                           clear hK K
                           refine norm_ (a' := ?_) ?_ ?_
                           rotate_left
                           ·show Act.put _ (some 26) _ = _
                            simp only [Act.put, s1_, s2_, s3_, i64_w, i32_w]
                            rfl
                           exact norm_ (by simp only [putAll, Act.put, s1_, s2_, s3_] <;> rfl) (hJ2_5_18 (gb304) _ ⟨hHeld, (peel_ BK291.out), (peel_ BK304.out), GW304.out, GE304.out, NB291_304.out, NB304_291.out, (by repeat (with_reducible (first | exact HB.out | apply bA_ | apply bN_ | apply bD_ | refine bS_ ?_ GE291.out | refine bS_ ?_ GE304.out)))⟩)
                          ·skip
                           refine box_step ?hg (N := 7) ?hd (cs := #[.int .i64 0, .int .i64 0, .string (⟨#[]⟩ : ByteArray)]) (t := 24) ?hr ?_; (case hd => rfl); (case hg => rfl); (case hr => first | (go_simp; done) | (go_simp; rfl))
                           intro gb303 hg w19 hbox hb
                           have n0_ := Aside0.mk (blk_below (g := gb291) (o := .cells #[.int .i64 a0_0, .int .i64 a0_1, .int .i64 a0_2] 39 (0, 0)) (peel_ BK291.out) hb)
                           have n1_ := Aside0.mk (blk_below (g := gb304) (o := .cells #[.int .i64 0, .int .i64 0, .string (⟨#[]⟩ : ByteArray)] 24 (0, 0)) (peel_ BK304.out) hb)
                           have n2_ := Aside0.mk (below_step (by repeat (with_reducible (first | exact HB.out | apply bA_ | apply bN_ | apply bD_ | refine bS_ ?_ GE291.out | refine bS_ ?_ GE304.out))) hb)
                           have n3_ := Aside0.mk (hbox)
                           have n4_ := Aside0.mk ((by rw [hg]; exact (below_size (by repeat (with_reducible (first | exact HB.out | apply bA_ | apply bN_ | apply bD_ | refine bS_ ?_ GE291.out | refine bS_ ?_ GE304.out)))) : w.heap.size ≤ gb303))
                           have n5_ := Aside0.mk ((by rw [hg]; exact (below_size (by repeat (with_reducible (first | exact HB.out | apply bA_ | apply bN_ | apply bD_ | refine bS_ ?_ GE291.out | refine bS_ ?_ GE304.out)))) : w.heap.size ≤ gb303))
                           have n6_ := Aside0.mk ((by rw [hg]; exact Nat.ne_of_lt (blk_lt (g := gb291) (o := .cells #[.int .i64 a0_0, .int .i64 a0_1, .int .i64 a0_2] 39 (0, 0)) (peel_ BK291.out)) : gb291 ≠ gb303))
                           have n7_ := Aside0.mk ((by rw [hg]; exact Nat.ne_of_gt (blk_lt (g := gb291) (o := .cells #[.int .i64 a0_0, .int .i64 a0_1, .int .i64 a0_2] 39 (0, 0)) (peel_ BK291.out)) : gb303 ≠ gb291))
                           have n8_ := Aside0.mk ((by rw [hg]; exact Nat.ne_of_lt (blk_lt (g := gb304) (o := .cells #[.int .i64 0, .int .i64 0, .string (⟨#[]⟩ : ByteArray)] 24 (0, 0)) (peel_ BK304.out)) : gb304 ≠ gb303))
                           have n9_ := Aside0.mk ((by rw [hg]; exact Nat.ne_of_gt (blk_lt (g := gb304) (o := .cells #[.int .i64 0, .int .i64 0, .string (⟨#[]⟩ : ByteArray)] 24 (0, 0)) (peel_ BK304.out)) : gb303 ≠ gb304))
                           clear BK291
                           clear BK304
                           clear HB
                           have BK291 := n0_
                           have BK304 := n1_
                           have HB := n2_
                           have BK303 := n3_
                           have GW303 := n4_
                           have GE303 := n5_
                           have NB291_303 := n6_
                           have NB303_291 := n7_
                           have NB304_303 := n8_
                           have NB303_304 := n9_
                           clear n0_ n1_ n2_ n3_ n4_ n5_ n6_ n7_ n8_ n9_
                           clear hb hbox hg
                           refine hK.out _ _ ⟨(blk_cell BK291.out 0).trans rfl, (blk_cell BK291.out 1).trans rfl, (blk_cell BK291.out 2).trans rfl⟩ (fun hHeld => ?_)
                           clear hK K
                           refine norm_ (a' := ?_) ?_ ?_
                           rotate_left
                           ·show Act.put _ (some 7) _ = _
                            simp only [Act.put, s1_, s2_, s3_, i64_w, i32_w]
                            rfl
                           exact norm_ (by simp only [putAll, Act.put, s1_, s2_, s3_] <;> rfl) (hJ2_17_18 (gb303, gb304) _ ⟨hHeld, (peel_ BK291.out), (peel_ BK303.out), (peel_ BK304.out), GW303.out, GE303.out, NB291_303.out, NB303_291.out, NB304_303.out, NB303_304.out, GW304.out, GE304.out, NB291_304.out, NB304_291.out, (by repeat (with_reducible (first | exact HB.out | apply bA_ | apply bN_ | apply bD_ | refine bS_ ?_ GE291.out | refine bS_ ?_ GE304.out | refine bS_ ?_ GE303.out)))⟩)
                        ·skip
                         rintro gb303 w18 ⟨hS_, h0_, h1_, h2_, h3_, h4_, h5_, h6_⟩
                         have n0_ : Aside0 (w18.heap[gb291]? = some (.cells #[.int .i64 a0_0, .int .i64 a0_1, .int .i64 a0_2] 39 (0, 0))) := ⟨h0_⟩
                         have n1_ : Aside0 (w18.heap[gb303]? = some (.cells #[.int .i64 0, .int .i64 0, .string (⟨#[]⟩ : ByteArray)] 24 (0, 0))) := ⟨h1_⟩
                         have n2_ : Aside0 (w.heap.size ≤ gb303) := ⟨h2_⟩
                         have n3_ : Aside0 (w.heap.size ≤ gb303) := ⟨h3_⟩
                         have n4_ : Aside0 (gb291 ≠ gb303) := ⟨h4_⟩
                         have n5_ : Aside0 (gb303 ≠ gb291) := ⟨h5_⟩
                         have n6_ : Aside0 (Below w.heap.size w w18) := ⟨h6_⟩
                         clear BK291
                         clear HB
                         clear h0_ h1_ h2_ h3_ h4_ h5_ h6_
                         have BK291 := n0_
                         have BK303 := n1_
                         have GW303 := n2_
                         have GE303 := n3_
                         have NB291_303 := n4_
                         have NB303_291 := n5_
                         have HB := n6_
                         clear n0_ n1_ n2_ n3_ n4_ n5_ n6_
                         have hHeld : w18.cell? ⟨gb291, 0, none⟩ = some (.int .i64 a0_0) ∧ w18.cell? ⟨gb291, 1, none⟩ = some (.int .i64 a0_1) ∧ w18.cell? ⟨gb291, 2, none⟩ = some (.int .i64 a0_2) := hS_
                         refine norm_ (a' := ?_) ?_ ?_
                         rotate_left
                         ·simp only [putAll, Act.put, s1_, s2_, s3_]
                          rfl
                         refine two_ (i := 5) (j := 18) (Ni := some 26) (Nj := some 8) #[true, true, true, true, true, true, true, false, true, true, false, true, true, false, true, true, false, true, false, false, false] #[true, true, true, true, true, false, true, false, true, true, false, true, true, false, true, true, false, true, true, false, false] rfl rfl rfl rfl (two_of HT_.out (by kernel_rfl)) (by decide) (by decide) (fun K hK => ?_) (fun K hK => ?_)
                         ·skip
                          refine goes_ Try.func24 (by kernel_rfl) rfl #[.int .i64 a0_1] (by rfl) rfl rfl (by (try simp only [List.map_toArray, List.map_cons, List.map_nil]); first | done | rfl | (simp only [List.length_drop, List.length_take]; rfl)) ?_
                          with_reducible refine (corncriblaw02_side.calls a0_1 t294 _ A7.out).mono ?_
                          rintro e w' ⟨rfl, ⟨nd, rfl⟩⟩
                          refine ⟨_, rfl, ?_⟩
                          refine hK.out _ _ ⟨(blk_cell BK291.out 0).trans rfl, (blk_cell BK291.out 1).trans rfl, (blk_cell BK291.out 2).trans rfl⟩ (fun hHeld => ?_)
                          clear hK K
                          refine norm_ (a' := ?_) ?_ ?_
                          rotate_left
                          ·show Act.put _ (some 26) _ = _
                           simp only [Act.put, s1_, s2_, s3_, i64_w, i32_w]
                           rfl
                          exact norm_ (by simp only [putAll, Act.put, s1_, s2_, s3_] <;> rfl) (hJ2_5_17 (gb303) _ ⟨hHeld, (peel_ BK291.out), (peel_ BK303.out), GW303.out, GE303.out, NB291_303.out, NB303_291.out, (by repeat (with_reducible (first | exact HB.out | apply bA_ | apply bN_ | apply bD_ | refine bS_ ?_ GE291.out | refine bS_ ?_ GE303.out)))⟩)
                         ·skip
                          refine box_step ?hg (N := 8) ?hd (cs := #[.int .i64 0, .int .i64 0, .string (⟨#[]⟩ : ByteArray)]) (t := 24) ?hr ?_; (case hd => rfl); (case hg => rfl); (case hr => first | (go_simp; done) | (go_simp; rfl))
                          intro gb304 hg w19 hbox hb
                          have n0_ := Aside0.mk (blk_below (g := gb291) (o := .cells #[.int .i64 a0_0, .int .i64 a0_1, .int .i64 a0_2] 39 (0, 0)) (peel_ BK291.out) hb)
                          have n1_ := Aside0.mk (blk_below (g := gb303) (o := .cells #[.int .i64 0, .int .i64 0, .string (⟨#[]⟩ : ByteArray)] 24 (0, 0)) (peel_ BK303.out) hb)
                          have n2_ := Aside0.mk (below_step (by repeat (with_reducible (first | exact HB.out | apply bA_ | apply bN_ | apply bD_ | refine bS_ ?_ GE291.out | refine bS_ ?_ GE303.out))) hb)
                          have n3_ := Aside0.mk (hbox)
                          have n4_ := Aside0.mk ((by rw [hg]; exact (below_size (by repeat (with_reducible (first | exact HB.out | apply bA_ | apply bN_ | apply bD_ | refine bS_ ?_ GE291.out | refine bS_ ?_ GE303.out)))) : w.heap.size ≤ gb304))
                          have n5_ := Aside0.mk ((by rw [hg]; exact (below_size (by repeat (with_reducible (first | exact HB.out | apply bA_ | apply bN_ | apply bD_ | refine bS_ ?_ GE291.out | refine bS_ ?_ GE303.out)))) : w.heap.size ≤ gb304))
                          have n6_ := Aside0.mk ((by rw [hg]; exact Nat.ne_of_lt (blk_lt (g := gb291) (o := .cells #[.int .i64 a0_0, .int .i64 a0_1, .int .i64 a0_2] 39 (0, 0)) (peel_ BK291.out)) : gb291 ≠ gb304))
                          have n7_ := Aside0.mk ((by rw [hg]; exact Nat.ne_of_gt (blk_lt (g := gb291) (o := .cells #[.int .i64 a0_0, .int .i64 a0_1, .int .i64 a0_2] 39 (0, 0)) (peel_ BK291.out)) : gb304 ≠ gb291))
                          have n8_ := Aside0.mk ((by rw [hg]; exact Nat.ne_of_lt (blk_lt (g := gb303) (o := .cells #[.int .i64 0, .int .i64 0, .string (⟨#[]⟩ : ByteArray)] 24 (0, 0)) (peel_ BK303.out)) : gb303 ≠ gb304))
                          have n9_ := Aside0.mk ((by rw [hg]; exact Nat.ne_of_gt (blk_lt (g := gb303) (o := .cells #[.int .i64 0, .int .i64 0, .string (⟨#[]⟩ : ByteArray)] 24 (0, 0)) (peel_ BK303.out)) : gb304 ≠ gb303))
                          clear BK291
                          clear BK303
                          clear HB
                          have BK291 := n0_
                          have BK303 := n1_
                          have HB := n2_
                          have BK304 := n3_
                          have GW304 := n4_
                          have GE304 := n5_
                          have NB291_304 := n6_
                          have NB304_291 := n7_
                          have NB303_304 := n8_
                          have NB304_303 := n9_
                          clear n0_ n1_ n2_ n3_ n4_ n5_ n6_ n7_ n8_ n9_
                          clear hb hbox hg
                          refine hK.out _ _ ⟨(blk_cell BK291.out 0).trans rfl, (blk_cell BK291.out 1).trans rfl, (blk_cell BK291.out 2).trans rfl⟩ (fun hHeld => ?_)
                          clear hK K
                          refine norm_ (a' := ?_) ?_ ?_
                          rotate_left
                          ·show Act.put _ (some 8) _ = _
                           simp only [Act.put, s1_, s2_, s3_, i64_w, i32_w]
                           rfl
                          exact norm_ (by simp only [putAll, Act.put, s1_, s2_, s3_] <;> rfl) (hJ2_17_18 (gb303, gb304) _ ⟨hHeld, (peel_ BK291.out), (peel_ BK303.out), (peel_ BK304.out), GW303.out, GE303.out, NB291_303.out, NB303_291.out, NB304_303.out, NB303_304.out, GW304.out, GE304.out, NB291_304.out, NB304_291.out, (by repeat (with_reducible (first | exact HB.out | apply bA_ | apply bN_ | apply bD_ | refine bS_ ?_ GE291.out | refine bS_ ?_ GE303.out | refine bS_ ?_ GE304.out)))⟩)
                       ·skip
                        rintro _ w17 ⟨hS_, h0_, h1_⟩
                        have n0_ : Aside0 (w17.heap[gb291]? = some (.cells #[.int .i64 a0_0, .int .i64 a0_1, .int .i64 a0_2] 39 (0, 0))) := ⟨h0_⟩
                        have n1_ : Aside0 (Below w.heap.size w w17) := ⟨h1_⟩
                        clear BK291
                        clear HB
                        clear h0_ h1_
                        have BK291 := n0_
                        have HB := n1_
                        clear n0_ n1_
                        have hHeld : w17.cell? ⟨gb291, 0, none⟩ = some (.int .i64 a0_0) ∧ w17.cell? ⟨gb291, 1, none⟩ = some (.int .i64 a0_1) ∧ w17.cell? ⟨gb291, 2, none⟩ = some (.int .i64 a0_2) := hS_
                        refine norm_ (a' := ?_) ?_ ?_
                        rotate_left
                        ·simp only [putAll, Act.put, s1_, s2_, s3_]
                         rfl
                        refine three_ (i := 7) (j := 17) (k := 18) (Ni := some 28) (Nj := some 7) (Nk := some 8) #[true, true, true, true, true, true, true, true, true, true, false, true, true, false, true, true, false, false, false, false, false] #[true, true, true, true, true, true, true, false, true, true, false, true, true, false, true, true, false, true, false, false, false] #[true, true, true, true, true, true, true, false, true, true, false, true, true, false, true, true, false, false, true, false, false] rfl rfl rfl rfl rfl rfl (three_of HT_.out (by kernel_rfl)) (by decide) (by decide) (by decide) (fun K hK => ?_) (fun K hK => ?_) (fun K hK => ?_)
                        ·skip
                         refine goes_ Try.func23 (by kernel_rfl) rfl #[.int .i64 t293, .int .i64 t294, .string a1] (by rfl) rfl rfl (by (try simp only [List.map_toArray, List.map_cons, List.map_nil]); first | done | rfl | (simp only [List.length_drop, List.length_take]; rfl)) ?_
                         with_reducible refine (corncriblaw02_made.calls t293 t294 a1 t295 t296 t297 _ A8.out).mono ?_
                         rintro e w18 ⟨rfl, hb⟩
                         refine ⟨_, rfl, ?_⟩
                         have n0_ := Aside0.mk (blk_below (g := gb291) (o := .cells #[.int .i64 a0_0, .int .i64 a0_1, .int .i64 a0_2] 39 (0, 0)) (peel_ BK291.out) hb)
                         have n1_ := Aside0.mk (below_step (by repeat (with_reducible (first | exact HB.out | apply bA_ | apply bN_ | apply bD_ | refine bS_ ?_ GE291.out))) hb)
                         clear BK291
                         clear HB
                         have BK291 := n0_
                         have HB := n1_
                         clear n0_ n1_
                         (try clear hb)
                         (try clear hb2)
                         (try clear hk)
                         (try clear hi)
                         refine hK.out _ _ ⟨(blk_cell BK291.out 0).trans rfl, (blk_cell BK291.out 1).trans rfl, (blk_cell BK291.out 2).trans rfl⟩ (fun hHeld => ?_)
                         clear hK K
                         refine norm_ (a' := ?_) ?_ ?_
                         rotate_left
                         ·show Act.put _ (some 28) _ = _
                          simp only [Act.put, s1_, s2_, s3_, i64_w, i32_w]
                          rfl
                         exact norm_ (by simp only [putAll, Act.put, s1_, s2_, s3_] <;> rfl) (hJ2_5_7 () _ ⟨hHeld, (peel_ BK291.out), (by repeat (with_reducible (first | exact HB.out | apply bA_ | apply bN_ | apply bD_ | refine bS_ ?_ GE291.out)))⟩)
                        ·skip
                         refine box_step ?hg (N := 7) ?hd (cs := #[.int .i64 0, .int .i64 0, .string (⟨#[]⟩ : ByteArray)]) (t := 24) ?hr ?_; (case hd => rfl); (case hg => rfl); (case hr => first | (go_simp; done) | (go_simp; rfl))
                         intro gb303 hg w18 hbox hb
                         have n0_ := Aside0.mk (blk_below (g := gb291) (o := .cells #[.int .i64 a0_0, .int .i64 a0_1, .int .i64 a0_2] 39 (0, 0)) (peel_ BK291.out) hb)
                         have n1_ := Aside0.mk (below_step (by repeat (with_reducible (first | exact HB.out | apply bA_ | apply bN_ | apply bD_ | refine bS_ ?_ GE291.out))) hb)
                         have n2_ := Aside0.mk (hbox)
                         have n3_ := Aside0.mk ((by rw [hg]; exact (below_size (by repeat (with_reducible (first | exact HB.out | apply bA_ | apply bN_ | apply bD_ | refine bS_ ?_ GE291.out)))) : w.heap.size ≤ gb303))
                         have n4_ := Aside0.mk ((by rw [hg]; exact (below_size (by repeat (with_reducible (first | exact HB.out | apply bA_ | apply bN_ | apply bD_ | refine bS_ ?_ GE291.out)))) : w.heap.size ≤ gb303))
                         have n5_ := Aside0.mk ((by rw [hg]; exact Nat.ne_of_lt (blk_lt (g := gb291) (o := .cells #[.int .i64 a0_0, .int .i64 a0_1, .int .i64 a0_2] 39 (0, 0)) (peel_ BK291.out)) : gb291 ≠ gb303))
                         have n6_ := Aside0.mk ((by rw [hg]; exact Nat.ne_of_gt (blk_lt (g := gb291) (o := .cells #[.int .i64 a0_0, .int .i64 a0_1, .int .i64 a0_2] 39 (0, 0)) (peel_ BK291.out)) : gb303 ≠ gb291))
                         clear BK291
                         clear HB
                         have BK291 := n0_
                         have HB := n1_
                         have BK303 := n2_
                         have GW303 := n3_
                         have GE303 := n4_
                         have NB291_303 := n5_
                         have NB303_291 := n6_
                         clear n0_ n1_ n2_ n3_ n4_ n5_ n6_
                         clear hb hbox hg
                         refine hK.out _ _ ⟨(blk_cell BK291.out 0).trans rfl, (blk_cell BK291.out 1).trans rfl, (blk_cell BK291.out 2).trans rfl⟩ (fun hHeld => ?_)
                         clear hK K
                         refine norm_ (a' := ?_) ?_ ?_
                         rotate_left
                         ·show Act.put _ (some 7) _ = _
                          simp only [Act.put, s1_, s2_, s3_, i64_w, i32_w]
                          rfl
                         exact norm_ (by simp only [putAll, Act.put, s1_, s2_, s3_] <;> rfl) (hJ2_5_17 (gb303) _ ⟨hHeld, (peel_ BK291.out), (peel_ BK303.out), GW303.out, GE303.out, NB291_303.out, NB303_291.out, (by repeat (with_reducible (first | exact HB.out | apply bA_ | apply bN_ | apply bD_ | refine bS_ ?_ GE291.out | refine bS_ ?_ GE303.out)))⟩)
                        ·skip
                         refine box_step ?hg (N := 8) ?hd (cs := #[.int .i64 0, .int .i64 0, .string (⟨#[]⟩ : ByteArray)]) (t := 24) ?hr ?_; (case hd => rfl); (case hg => rfl); (case hr => first | (go_simp; done) | (go_simp; rfl))
                         intro gb304 hg w18 hbox hb
                         have n0_ := Aside0.mk (blk_below (g := gb291) (o := .cells #[.int .i64 a0_0, .int .i64 a0_1, .int .i64 a0_2] 39 (0, 0)) (peel_ BK291.out) hb)
                         have n1_ := Aside0.mk (below_step (by repeat (with_reducible (first | exact HB.out | apply bA_ | apply bN_ | apply bD_ | refine bS_ ?_ GE291.out))) hb)
                         have n2_ := Aside0.mk (hbox)
                         have n3_ := Aside0.mk ((by rw [hg]; exact (below_size (by repeat (with_reducible (first | exact HB.out | apply bA_ | apply bN_ | apply bD_ | refine bS_ ?_ GE291.out)))) : w.heap.size ≤ gb304))
                         have n4_ := Aside0.mk ((by rw [hg]; exact (below_size (by repeat (with_reducible (first | exact HB.out | apply bA_ | apply bN_ | apply bD_ | refine bS_ ?_ GE291.out)))) : w.heap.size ≤ gb304))
                         have n5_ := Aside0.mk ((by rw [hg]; exact Nat.ne_of_lt (blk_lt (g := gb291) (o := .cells #[.int .i64 a0_0, .int .i64 a0_1, .int .i64 a0_2] 39 (0, 0)) (peel_ BK291.out)) : gb291 ≠ gb304))
                         have n6_ := Aside0.mk ((by rw [hg]; exact Nat.ne_of_gt (blk_lt (g := gb291) (o := .cells #[.int .i64 a0_0, .int .i64 a0_1, .int .i64 a0_2] 39 (0, 0)) (peel_ BK291.out)) : gb304 ≠ gb291))
                         clear BK291
                         clear HB
                         have BK291 := n0_
                         have HB := n1_
                         have BK304 := n2_
                         have GW304 := n3_
                         have GE304 := n4_
                         have NB291_304 := n5_
                         have NB304_291 := n6_
                         clear n0_ n1_ n2_ n3_ n4_ n5_ n6_
                         clear hb hbox hg
                         refine hK.out _ _ ⟨(blk_cell BK291.out 0).trans rfl, (blk_cell BK291.out 1).trans rfl, (blk_cell BK291.out 2).trans rfl⟩ (fun hHeld => ?_)
                         clear hK K
                         refine norm_ (a' := ?_) ?_ ?_
                         rotate_left
                         ·show Act.put _ (some 8) _ = _
                          simp only [Act.put, s1_, s2_, s3_, i64_w, i32_w]
                          rfl
                         exact norm_ (by simp only [putAll, Act.put, s1_, s2_, s3_] <;> rfl) (hJ2_5_18 (gb304) _ ⟨hHeld, (peel_ BK291.out), (peel_ BK304.out), GW304.out, GE304.out, NB291_304.out, NB304_291.out, (by repeat (with_reducible (first | exact HB.out | apply bA_ | apply bN_ | apply bD_ | refine bS_ ?_ GE291.out | refine bS_ ?_ GE304.out)))⟩)
                      ·skip
                       rintro ⟨gb303, gb304⟩ w19 ⟨hS_, h0_, h1_, h2_, h3_, h4_, h5_, h6_, h7_, h8_, h9_, h10_, h11_, h12_, h13_⟩
                       have n0_ : Aside0 (w19.heap[gb291]? = some (.cells #[.int .i64 a0_0, .int .i64 a0_1, .int .i64 a0_2] 39 (0, 0))) := ⟨h0_⟩
                       have n1_ : Aside0 (w19.heap[gb303]? = some (.cells #[.int .i64 0, .int .i64 0, .string (⟨#[]⟩ : ByteArray)] 24 (0, 0))) := ⟨h1_⟩
                       have n2_ : Aside0 (w19.heap[gb304]? = some (.cells #[.int .i64 0, .int .i64 0, .string (⟨#[]⟩ : ByteArray)] 24 (0, 0))) := ⟨h2_⟩
                       have n3_ : Aside0 (w.heap.size ≤ gb303) := ⟨h3_⟩
                       have n4_ : Aside0 (w.heap.size ≤ gb303) := ⟨h4_⟩
                       have n5_ : Aside0 (gb291 ≠ gb303) := ⟨h5_⟩
                       have n6_ : Aside0 (gb303 ≠ gb291) := ⟨h6_⟩
                       have n7_ : Aside0 (gb304 ≠ gb303) := ⟨h7_⟩
                       have n8_ : Aside0 (gb303 ≠ gb304) := ⟨h8_⟩
                       have n9_ : Aside0 (w.heap.size ≤ gb304) := ⟨h9_⟩
                       have n10_ : Aside0 (w.heap.size ≤ gb304) := ⟨h10_⟩
                       have n11_ : Aside0 (gb291 ≠ gb304) := ⟨h11_⟩
                       have n12_ : Aside0 (gb304 ≠ gb291) := ⟨h12_⟩
                       have n13_ : Aside0 (Below w.heap.size w w19) := ⟨h13_⟩
                       clear BK291
                       clear HB
                       clear h0_ h1_ h2_ h3_ h4_ h5_ h6_ h7_ h8_ h9_ h10_ h11_ h12_ h13_
                       have BK291 := n0_
                       have BK303 := n1_
                       have BK304 := n2_
                       have GW303 := n3_
                       have GE303 := n4_
                       have NB291_303 := n5_
                       have NB303_291 := n6_
                       have NB304_303 := n7_
                       have NB303_304 := n8_
                       have GW304 := n9_
                       have GE304 := n10_
                       have NB291_304 := n11_
                       have NB304_291 := n12_
                       have HB := n13_
                       clear n0_ n1_ n2_ n3_ n4_ n5_ n6_ n7_ n8_ n9_ n10_ n11_ n12_ n13_
                       have hHeld : w19.cell? ⟨gb291, 0, none⟩ = some (.int .i64 a0_0) ∧ w19.cell? ⟨gb291, 1, none⟩ = some (.int .i64 a0_1) ∧ w19.cell? ⟨gb291, 2, none⟩ = some (.int .i64 a0_2) := hS_
                       refine norm_ (a' := ?_) ?_ ?_
                       rotate_left
                       ·simp only [putAll, Act.put, s1_, s2_, s3_]
                        rfl
                       refine one_ (i := 5) (N := some 26) #[true, true, true, true, true, true, true, false, true, true, false, true, true, false, true, true, false, true, true, false, false] rfl rfl (one_of HT_.out (by kernel_rfl)) (by decide) (fun K hK => ?_)
                       refine goes_ Try.func24 (by kernel_rfl) rfl #[.int .i64 a0_1] (by rfl) rfl rfl (by (try simp only [List.map_toArray, List.map_cons, List.map_nil]); first | done | rfl | (simp only [List.length_drop, List.length_take]; rfl)) ?_
                       with_reducible refine (corncriblaw02_side.calls a0_1 t294 _ A7.out).mono ?_
                       rintro e w' ⟨rfl, ⟨nd, rfl⟩⟩
                       refine ⟨_, rfl, ?_⟩
                       refine hK.out _ _ ⟨(blk_cell BK291.out 0).trans rfl, (blk_cell BK291.out 1).trans rfl, (blk_cell BK291.out 2).trans rfl⟩ (fun hHeld => ?_)
                       clear hK K
                       refine norm_ (a' := ?_) ?_ ?_
                       rotate_left
                       ·show Act.put _ (some 26) _ = _
                        simp only [Act.put, s1_, s2_, s3_, i64_w, i32_w]
                        rfl
                       exact norm_ (by simp only [putAll, Act.put, s1_, s2_, s3_] <;> rfl) (hJ2_5_17_18 (gb303, gb304) _ ⟨hHeld, (peel_ BK291.out), (peel_ BK303.out), (peel_ BK304.out), GW303.out, GE303.out, NB291_303.out, NB303_291.out, NB304_303.out, NB303_304.out, GW304.out, GE304.out, NB291_304.out, NB304_291.out, (by repeat (with_reducible (first | exact HB.out | apply bA_ | apply bN_ | apply bD_ | refine bS_ ?_ GE291.out | refine bS_ ?_ GE303.out | refine bS_ ?_ GE304.out)))⟩)
                     ·skip
                      rintro gb304 w18 ⟨hS_, h0_, h1_, h2_, h3_, h4_, h5_, h6_⟩
                      have n0_ : Aside0 (w18.heap[gb291]? = some (.cells #[.int .i64 a0_0, .int .i64 a0_1, .int .i64 a0_2] 39 (0, 0))) := ⟨h0_⟩
                      have n1_ : Aside0 (w18.heap[gb304]? = some (.cells #[.int .i64 0, .int .i64 0, .string (⟨#[]⟩ : ByteArray)] 24 (0, 0))) := ⟨h1_⟩
                      have n2_ : Aside0 (w.heap.size ≤ gb304) := ⟨h2_⟩
                      have n3_ : Aside0 (w.heap.size ≤ gb304) := ⟨h3_⟩
                      have n4_ : Aside0 (gb291 ≠ gb304) := ⟨h4_⟩
                      have n5_ : Aside0 (gb304 ≠ gb291) := ⟨h5_⟩
                      have n6_ : Aside0 (Below w.heap.size w w18) := ⟨h6_⟩
                      clear BK291
                      clear HB
                      clear h0_ h1_ h2_ h3_ h4_ h5_ h6_
                      have BK291 := n0_
                      have BK304 := n1_
                      have GW304 := n2_
                      have GE304 := n3_
                      have NB291_304 := n4_
                      have NB304_291 := n5_
                      have HB := n6_
                      clear n0_ n1_ n2_ n3_ n4_ n5_ n6_
                      have hHeld : w18.cell? ⟨gb291, 0, none⟩ = some (.int .i64 a0_0) ∧ w18.cell? ⟨gb291, 1, none⟩ = some (.int .i64 a0_1) ∧ w18.cell? ⟨gb291, 2, none⟩ = some (.int .i64 a0_2) := hS_
                      refine norm_ (a' := ?_) ?_ ?_
                      rotate_left
                      ·simp only [putAll, Act.put, s1_, s2_, s3_]
                       rfl
                      refine two_ (i := 7) (j := 17) (Ni := some 28) (Nj := some 7) #[true, true, true, true, true, true, true, true, true, true, false, true, true, false, true, true, false, false, true, false, false] #[true, true, true, true, true, true, true, false, true, true, false, true, true, false, true, true, false, true, true, false, false] rfl rfl rfl rfl (two_of HT_.out (by kernel_rfl)) (by decide) (by decide) (fun K hK => ?_) (fun K hK => ?_)
                      ·skip
                       refine goes_ Try.func23 (by kernel_rfl) rfl #[.int .i64 t293, .int .i64 t294, .string a1] (by rfl) rfl rfl (by (try simp only [List.map_toArray, List.map_cons, List.map_nil]); first | done | rfl | (simp only [List.length_drop, List.length_take]; rfl)) ?_
                       with_reducible refine (corncriblaw02_made.calls t293 t294 a1 t295 t296 t297 _ A8.out).mono ?_
                       rintro e w19 ⟨rfl, hb⟩
                       refine ⟨_, rfl, ?_⟩
                       have n0_ := Aside0.mk (blk_below (g := gb291) (o := .cells #[.int .i64 a0_0, .int .i64 a0_1, .int .i64 a0_2] 39 (0, 0)) (peel_ BK291.out) hb)
                       have n1_ := Aside0.mk (blk_below (g := gb304) (o := .cells #[.int .i64 0, .int .i64 0, .string (⟨#[]⟩ : ByteArray)] 24 (0, 0)) (peel_ BK304.out) hb)
                       have n2_ := Aside0.mk (below_step (by repeat (with_reducible (first | exact HB.out | apply bA_ | apply bN_ | apply bD_ | refine bS_ ?_ GE291.out | refine bS_ ?_ GE304.out))) hb)
                       clear BK291
                       clear BK304
                       clear HB
                       have BK291 := n0_
                       have BK304 := n1_
                       have HB := n2_
                       clear n0_ n1_ n2_
                       (try clear hb)
                       (try clear hb2)
                       (try clear hk)
                       (try clear hi)
                       refine hK.out _ _ ⟨(blk_cell BK291.out 0).trans rfl, (blk_cell BK291.out 1).trans rfl, (blk_cell BK291.out 2).trans rfl⟩ (fun hHeld => ?_)
                       clear hK K
                       refine norm_ (a' := ?_) ?_ ?_
                       rotate_left
                       ·show Act.put _ (some 28) _ = _
                        simp only [Act.put, s1_, s2_, s3_, i64_w, i32_w]
                        rfl
                       exact norm_ (by simp only [putAll, Act.put, s1_, s2_, s3_] <;> rfl) (hJ2_5_7_18 (gb304) _ ⟨hHeld, (peel_ BK291.out), (peel_ BK304.out), GW304.out, GE304.out, NB291_304.out, NB304_291.out, (by repeat (with_reducible (first | exact HB.out | apply bA_ | apply bN_ | apply bD_ | refine bS_ ?_ GE291.out | refine bS_ ?_ GE304.out)))⟩)
                      ·skip
                       refine box_step ?hg (N := 7) ?hd (cs := #[.int .i64 0, .int .i64 0, .string (⟨#[]⟩ : ByteArray)]) (t := 24) ?hr ?_; (case hd => rfl); (case hg => rfl); (case hr => first | (go_simp; done) | (go_simp; rfl))
                       intro gb303 hg w19 hbox hb
                       have n0_ := Aside0.mk (blk_below (g := gb291) (o := .cells #[.int .i64 a0_0, .int .i64 a0_1, .int .i64 a0_2] 39 (0, 0)) (peel_ BK291.out) hb)
                       have n1_ := Aside0.mk (blk_below (g := gb304) (o := .cells #[.int .i64 0, .int .i64 0, .string (⟨#[]⟩ : ByteArray)] 24 (0, 0)) (peel_ BK304.out) hb)
                       have n2_ := Aside0.mk (below_step (by repeat (with_reducible (first | exact HB.out | apply bA_ | apply bN_ | apply bD_ | refine bS_ ?_ GE291.out | refine bS_ ?_ GE304.out))) hb)
                       have n3_ := Aside0.mk (hbox)
                       have n4_ := Aside0.mk ((by rw [hg]; exact (below_size (by repeat (with_reducible (first | exact HB.out | apply bA_ | apply bN_ | apply bD_ | refine bS_ ?_ GE291.out | refine bS_ ?_ GE304.out)))) : w.heap.size ≤ gb303))
                       have n5_ := Aside0.mk ((by rw [hg]; exact (below_size (by repeat (with_reducible (first | exact HB.out | apply bA_ | apply bN_ | apply bD_ | refine bS_ ?_ GE291.out | refine bS_ ?_ GE304.out)))) : w.heap.size ≤ gb303))
                       have n6_ := Aside0.mk ((by rw [hg]; exact Nat.ne_of_lt (blk_lt (g := gb291) (o := .cells #[.int .i64 a0_0, .int .i64 a0_1, .int .i64 a0_2] 39 (0, 0)) (peel_ BK291.out)) : gb291 ≠ gb303))
                       have n7_ := Aside0.mk ((by rw [hg]; exact Nat.ne_of_gt (blk_lt (g := gb291) (o := .cells #[.int .i64 a0_0, .int .i64 a0_1, .int .i64 a0_2] 39 (0, 0)) (peel_ BK291.out)) : gb303 ≠ gb291))
                       have n8_ := Aside0.mk ((by rw [hg]; exact Nat.ne_of_lt (blk_lt (g := gb304) (o := .cells #[.int .i64 0, .int .i64 0, .string (⟨#[]⟩ : ByteArray)] 24 (0, 0)) (peel_ BK304.out)) : gb304 ≠ gb303))
                       have n9_ := Aside0.mk ((by rw [hg]; exact Nat.ne_of_gt (blk_lt (g := gb304) (o := .cells #[.int .i64 0, .int .i64 0, .string (⟨#[]⟩ : ByteArray)] 24 (0, 0)) (peel_ BK304.out)) : gb303 ≠ gb304))
                       clear BK291
                       clear BK304
                       clear HB
                       have BK291 := n0_
                       have BK304 := n1_
                       have HB := n2_
                       have BK303 := n3_
                       have GW303 := n4_
                       have GE303 := n5_
                       have NB291_303 := n6_
                       have NB303_291 := n7_
                       have NB304_303 := n8_
                       have NB303_304 := n9_
                       clear n0_ n1_ n2_ n3_ n4_ n5_ n6_ n7_ n8_ n9_
                       clear hb hbox hg
                       refine hK.out _ _ ⟨(blk_cell BK291.out 0).trans rfl, (blk_cell BK291.out 1).trans rfl, (blk_cell BK291.out 2).trans rfl⟩ (fun hHeld => ?_)
                       clear hK K
                       refine norm_ (a' := ?_) ?_ ?_
                       rotate_left
                       ·show Act.put _ (some 7) _ = _
                        simp only [Act.put, s1_, s2_, s3_, i64_w, i32_w]
                        rfl
                       exact norm_ (by simp only [putAll, Act.put, s1_, s2_, s3_] <;> rfl) (hJ2_5_17_18 (gb303, gb304) _ ⟨hHeld, (peel_ BK291.out), (peel_ BK303.out), (peel_ BK304.out), GW303.out, GE303.out, NB291_303.out, NB303_291.out, NB304_303.out, NB303_304.out, GW304.out, GE304.out, NB291_304.out, NB304_291.out, (by repeat (with_reducible (first | exact HB.out | apply bA_ | apply bN_ | apply bD_ | refine bS_ ?_ GE291.out | refine bS_ ?_ GE304.out | refine bS_ ?_ GE303.out)))⟩)
                    ·skip
                     rintro gb303 w18 ⟨hS_, h0_, h1_, h2_, h3_, h4_, h5_, h6_⟩
                     have n0_ : Aside0 (w18.heap[gb291]? = some (.cells #[.int .i64 a0_0, .int .i64 a0_1, .int .i64 a0_2] 39 (0, 0))) := ⟨h0_⟩
                     have n1_ : Aside0 (w18.heap[gb303]? = some (.cells #[.int .i64 0, .int .i64 0, .string (⟨#[]⟩ : ByteArray)] 24 (0, 0))) := ⟨h1_⟩
                     have n2_ : Aside0 (w.heap.size ≤ gb303) := ⟨h2_⟩
                     have n3_ : Aside0 (w.heap.size ≤ gb303) := ⟨h3_⟩
                     have n4_ : Aside0 (gb291 ≠ gb303) := ⟨h4_⟩
                     have n5_ : Aside0 (gb303 ≠ gb291) := ⟨h5_⟩
                     have n6_ : Aside0 (Below w.heap.size w w18) := ⟨h6_⟩
                     clear BK291
                     clear HB
                     clear h0_ h1_ h2_ h3_ h4_ h5_ h6_
                     have BK291 := n0_
                     have BK303 := n1_
                     have GW303 := n2_
                     have GE303 := n3_
                     have NB291_303 := n4_
                     have NB303_291 := n5_
                     have HB := n6_
                     clear n0_ n1_ n2_ n3_ n4_ n5_ n6_
                     have hHeld : w18.cell? ⟨gb291, 0, none⟩ = some (.int .i64 a0_0) ∧ w18.cell? ⟨gb291, 1, none⟩ = some (.int .i64 a0_1) ∧ w18.cell? ⟨gb291, 2, none⟩ = some (.int .i64 a0_2) := hS_
                     refine norm_ (a' := ?_) ?_ ?_
                     rotate_left
                     ·simp only [putAll, Act.put, s1_, s2_, s3_]
                      rfl
                     refine two_ (i := 7) (j := 18) (Ni := some 28) (Nj := some 8) #[true, true, true, true, true, true, true, true, true, true, false, true, true, false, true, true, false, true, false, false, false] #[true, true, true, true, true, true, true, false, true, true, false, true, true, false, true, true, false, true, true, false, false] rfl rfl rfl rfl (two_of HT_.out (by kernel_rfl)) (by decide) (by decide) (fun K hK => ?_) (fun K hK => ?_)
                     ·skip
                      refine goes_ Try.func23 (by kernel_rfl) rfl #[.int .i64 t293, .int .i64 t294, .string a1] (by rfl) rfl rfl (by (try simp only [List.map_toArray, List.map_cons, List.map_nil]); first | done | rfl | (simp only [List.length_drop, List.length_take]; rfl)) ?_
                      with_reducible refine (corncriblaw02_made.calls t293 t294 a1 t295 t296 t297 _ A8.out).mono ?_
                      rintro e w19 ⟨rfl, hb⟩
                      refine ⟨_, rfl, ?_⟩
                      have n0_ := Aside0.mk (blk_below (g := gb291) (o := .cells #[.int .i64 a0_0, .int .i64 a0_1, .int .i64 a0_2] 39 (0, 0)) (peel_ BK291.out) hb)
                      have n1_ := Aside0.mk (blk_below (g := gb303) (o := .cells #[.int .i64 0, .int .i64 0, .string (⟨#[]⟩ : ByteArray)] 24 (0, 0)) (peel_ BK303.out) hb)
                      have n2_ := Aside0.mk (below_step (by repeat (with_reducible (first | exact HB.out | apply bA_ | apply bN_ | apply bD_ | refine bS_ ?_ GE291.out | refine bS_ ?_ GE303.out))) hb)
                      clear BK291
                      clear BK303
                      clear HB
                      have BK291 := n0_
                      have BK303 := n1_
                      have HB := n2_
                      clear n0_ n1_ n2_
                      (try clear hb)
                      (try clear hb2)
                      (try clear hk)
                      (try clear hi)
                      refine hK.out _ _ ⟨(blk_cell BK291.out 0).trans rfl, (blk_cell BK291.out 1).trans rfl, (blk_cell BK291.out 2).trans rfl⟩ (fun hHeld => ?_)
                      clear hK K
                      refine norm_ (a' := ?_) ?_ ?_
                      rotate_left
                      ·show Act.put _ (some 28) _ = _
                       simp only [Act.put, s1_, s2_, s3_, i64_w, i32_w]
                       rfl
                      exact norm_ (by simp only [putAll, Act.put, s1_, s2_, s3_] <;> rfl) (hJ2_5_7_17 (gb303) _ ⟨hHeld, (peel_ BK291.out), (peel_ BK303.out), GW303.out, GE303.out, NB291_303.out, NB303_291.out, (by repeat (with_reducible (first | exact HB.out | apply bA_ | apply bN_ | apply bD_ | refine bS_ ?_ GE291.out | refine bS_ ?_ GE303.out)))⟩)
                     ·skip
                      refine box_step ?hg (N := 8) ?hd (cs := #[.int .i64 0, .int .i64 0, .string (⟨#[]⟩ : ByteArray)]) (t := 24) ?hr ?_; (case hd => rfl); (case hg => rfl); (case hr => first | (go_simp; done) | (go_simp; rfl))
                      intro gb304 hg w19 hbox hb
                      have n0_ := Aside0.mk (blk_below (g := gb291) (o := .cells #[.int .i64 a0_0, .int .i64 a0_1, .int .i64 a0_2] 39 (0, 0)) (peel_ BK291.out) hb)
                      have n1_ := Aside0.mk (blk_below (g := gb303) (o := .cells #[.int .i64 0, .int .i64 0, .string (⟨#[]⟩ : ByteArray)] 24 (0, 0)) (peel_ BK303.out) hb)
                      have n2_ := Aside0.mk (below_step (by repeat (with_reducible (first | exact HB.out | apply bA_ | apply bN_ | apply bD_ | refine bS_ ?_ GE291.out | refine bS_ ?_ GE303.out))) hb)
                      have n3_ := Aside0.mk (hbox)
                      have n4_ := Aside0.mk ((by rw [hg]; exact (below_size (by repeat (with_reducible (first | exact HB.out | apply bA_ | apply bN_ | apply bD_ | refine bS_ ?_ GE291.out | refine bS_ ?_ GE303.out)))) : w.heap.size ≤ gb304))
                      have n5_ := Aside0.mk ((by rw [hg]; exact (below_size (by repeat (with_reducible (first | exact HB.out | apply bA_ | apply bN_ | apply bD_ | refine bS_ ?_ GE291.out | refine bS_ ?_ GE303.out)))) : w.heap.size ≤ gb304))
                      have n6_ := Aside0.mk ((by rw [hg]; exact Nat.ne_of_lt (blk_lt (g := gb291) (o := .cells #[.int .i64 a0_0, .int .i64 a0_1, .int .i64 a0_2] 39 (0, 0)) (peel_ BK291.out)) : gb291 ≠ gb304))
                      have n7_ := Aside0.mk ((by rw [hg]; exact Nat.ne_of_gt (blk_lt (g := gb291) (o := .cells #[.int .i64 a0_0, .int .i64 a0_1, .int .i64 a0_2] 39 (0, 0)) (peel_ BK291.out)) : gb304 ≠ gb291))
                      have n8_ := Aside0.mk ((by rw [hg]; exact Nat.ne_of_lt (blk_lt (g := gb303) (o := .cells #[.int .i64 0, .int .i64 0, .string (⟨#[]⟩ : ByteArray)] 24 (0, 0)) (peel_ BK303.out)) : gb303 ≠ gb304))
                      have n9_ := Aside0.mk ((by rw [hg]; exact Nat.ne_of_gt (blk_lt (g := gb303) (o := .cells #[.int .i64 0, .int .i64 0, .string (⟨#[]⟩ : ByteArray)] 24 (0, 0)) (peel_ BK303.out)) : gb304 ≠ gb303))
                      clear BK291
                      clear BK303
                      clear HB
                      have BK291 := n0_
                      have BK303 := n1_
                      have HB := n2_
                      have BK304 := n3_
                      have GW304 := n4_
                      have GE304 := n5_
                      have NB291_304 := n6_
                      have NB304_291 := n7_
                      have NB303_304 := n8_
                      have NB304_303 := n9_
                      clear n0_ n1_ n2_ n3_ n4_ n5_ n6_ n7_ n8_ n9_
                      clear hb hbox hg
                      refine hK.out _ _ ⟨(blk_cell BK291.out 0).trans rfl, (blk_cell BK291.out 1).trans rfl, (blk_cell BK291.out 2).trans rfl⟩ (fun hHeld => ?_)
                      clear hK K
                      refine norm_ (a' := ?_) ?_ ?_
                      rotate_left
                      ·show Act.put _ (some 8) _ = _
                       simp only [Act.put, s1_, s2_, s3_, i64_w, i32_w]
                       rfl
                      exact norm_ (by simp only [putAll, Act.put, s1_, s2_, s3_] <;> rfl) (hJ2_5_17_18 (gb303, gb304) _ ⟨hHeld, (peel_ BK291.out), (peel_ BK303.out), (peel_ BK304.out), GW303.out, GE303.out, NB291_303.out, NB303_291.out, NB304_303.out, NB303_304.out, GW304.out, GE304.out, NB291_304.out, NB304_291.out, (by repeat (with_reducible (first | exact HB.out | apply bA_ | apply bN_ | apply bD_ | refine bS_ ?_ GE291.out | refine bS_ ?_ GE303.out | refine bS_ ?_ GE304.out)))⟩)
                   ·skip
                    rintro _ w18 ⟨hS_, h0_, h1_⟩
                    have n0_ : Aside0 (w18.heap[gb291]? = some (.cells #[.int .i64 a0_0, .int .i64 a0_1, .int .i64 a0_2] 39 (0, 0))) := ⟨h0_⟩
                    have n1_ : Aside0 (Below w.heap.size w w18) := ⟨h1_⟩
                    clear BK291
                    clear HB
                    clear h0_ h1_
                    have BK291 := n0_
                    have HB := n1_
                    clear n0_ n1_
                    have hHeld : w18.cell? ⟨gb291, 0, none⟩ = some (.int .i64 a0_0) ∧ w18.cell? ⟨gb291, 1, none⟩ = some (.int .i64 a0_1) ∧ w18.cell? ⟨gb291, 2, none⟩ = some (.int .i64 a0_2) := hS_
                    refine norm_ (a' := ?_) ?_ ?_
                    rotate_left
                    ·simp only [putAll, Act.put, s1_, s2_, s3_]
                     rfl
                    refine three_ (i := 10) (j := 17) (k := 18) (Ni := some 31) (Nj := some 7) (Nk := some 8) #[true, true, true, true, true, true, true, true, true, true, true, true, true, false, true, true, false, false, false, false, false] #[true, true, true, true, true, true, true, true, true, true, false, true, true, false, true, true, false, true, false, false, false] #[true, true, true, true, true, true, true, true, true, true, false, true, true, false, true, true, false, false, true, false, false] rfl rfl rfl rfl rfl rfl (three_of HT_.out (by kernel_rfl)) (by decide) (by decide) (by decide) (fun K hK => ?_) (fun K hK => ?_) (fun K hK => ?_)
                    ·skip
                     refine goes_ Try.func24 (by kernel_rfl) rfl #[.int .i64 a0_1] (by rfl) rfl rfl (by (try simp only [List.map_toArray, List.map_cons, List.map_nil]); first | done | rfl | (simp only [List.length_drop, List.length_take]; rfl)) ?_
                     with_reducible refine (corncriblaw02_side.calls a0_1 t298 _ A9.out).mono ?_
                     rintro e w' ⟨rfl, ⟨nd, rfl⟩⟩
                     refine ⟨_, rfl, ?_⟩
                     refine hK.out _ _ ⟨(blk_cell BK291.out 0).trans rfl, (blk_cell BK291.out 1).trans rfl, (blk_cell BK291.out 2).trans rfl⟩ (fun hHeld => ?_)
                     clear hK K
                     refine norm_ (a' := ?_) ?_ ?_
                     rotate_left
                     ·show Act.put _ (some 31) _ = _
                      simp only [Act.put, s1_, s2_, s3_, i64_w, i32_w]
                      rfl
                     exact norm_ (by simp only [putAll, Act.put, s1_, s2_, s3_] <;> rfl) (hJ2_5_7_10 () _ ⟨hHeld, (peel_ BK291.out), (by repeat (with_reducible (first | exact HB.out | apply bA_ | apply bN_ | apply bD_ | refine bS_ ?_ GE291.out)))⟩)
                    ·skip
                     refine box_step ?hg (N := 7) ?hd (cs := #[.int .i64 0, .int .i64 0, .string (⟨#[]⟩ : ByteArray)]) (t := 24) ?hr ?_; (case hd => rfl); (case hg => rfl); (case hr => first | (go_simp; done) | (go_simp; rfl))
                     intro gb303 hg w19 hbox hb
                     have n0_ := Aside0.mk (blk_below (g := gb291) (o := .cells #[.int .i64 a0_0, .int .i64 a0_1, .int .i64 a0_2] 39 (0, 0)) (peel_ BK291.out) hb)
                     have n1_ := Aside0.mk (below_step (by repeat (with_reducible (first | exact HB.out | apply bA_ | apply bN_ | apply bD_ | refine bS_ ?_ GE291.out))) hb)
                     have n2_ := Aside0.mk (hbox)
                     have n3_ := Aside0.mk ((by rw [hg]; exact (below_size (by repeat (with_reducible (first | exact HB.out | apply bA_ | apply bN_ | apply bD_ | refine bS_ ?_ GE291.out)))) : w.heap.size ≤ gb303))
                     have n4_ := Aside0.mk ((by rw [hg]; exact (below_size (by repeat (with_reducible (first | exact HB.out | apply bA_ | apply bN_ | apply bD_ | refine bS_ ?_ GE291.out)))) : w.heap.size ≤ gb303))
                     have n5_ := Aside0.mk ((by rw [hg]; exact Nat.ne_of_lt (blk_lt (g := gb291) (o := .cells #[.int .i64 a0_0, .int .i64 a0_1, .int .i64 a0_2] 39 (0, 0)) (peel_ BK291.out)) : gb291 ≠ gb303))
                     have n6_ := Aside0.mk ((by rw [hg]; exact Nat.ne_of_gt (blk_lt (g := gb291) (o := .cells #[.int .i64 a0_0, .int .i64 a0_1, .int .i64 a0_2] 39 (0, 0)) (peel_ BK291.out)) : gb303 ≠ gb291))
                     clear BK291
                     clear HB
                     have BK291 := n0_
                     have HB := n1_
                     have BK303 := n2_
                     have GW303 := n3_
                     have GE303 := n4_
                     have NB291_303 := n5_
                     have NB303_291 := n6_
                     clear n0_ n1_ n2_ n3_ n4_ n5_ n6_
                     clear hb hbox hg
                     refine hK.out _ _ ⟨(blk_cell BK291.out 0).trans rfl, (blk_cell BK291.out 1).trans rfl, (blk_cell BK291.out 2).trans rfl⟩ (fun hHeld => ?_)
                     clear hK K
                     refine norm_ (a' := ?_) ?_ ?_
                     rotate_left
                     ·show Act.put _ (some 7) _ = _
                      simp only [Act.put, s1_, s2_, s3_, i64_w, i32_w]
                      rfl
                     exact norm_ (by simp only [putAll, Act.put, s1_, s2_, s3_] <;> rfl) (hJ2_5_7_17 (gb303) _ ⟨hHeld, (peel_ BK291.out), (peel_ BK303.out), GW303.out, GE303.out, NB291_303.out, NB303_291.out, (by repeat (with_reducible (first | exact HB.out | apply bA_ | apply bN_ | apply bD_ | refine bS_ ?_ GE291.out | refine bS_ ?_ GE303.out)))⟩)
                    ·skip
                     refine box_step ?hg (N := 8) ?hd (cs := #[.int .i64 0, .int .i64 0, .string (⟨#[]⟩ : ByteArray)]) (t := 24) ?hr ?_; (case hd => rfl); (case hg => rfl); (case hr => first | (go_simp; done) | (go_simp; rfl))
                     intro gb304 hg w19 hbox hb
                     have n0_ := Aside0.mk (blk_below (g := gb291) (o := .cells #[.int .i64 a0_0, .int .i64 a0_1, .int .i64 a0_2] 39 (0, 0)) (peel_ BK291.out) hb)
                     have n1_ := Aside0.mk (below_step (by repeat (with_reducible (first | exact HB.out | apply bA_ | apply bN_ | apply bD_ | refine bS_ ?_ GE291.out))) hb)
                     have n2_ := Aside0.mk (hbox)
                     have n3_ := Aside0.mk ((by rw [hg]; exact (below_size (by repeat (with_reducible (first | exact HB.out | apply bA_ | apply bN_ | apply bD_ | refine bS_ ?_ GE291.out)))) : w.heap.size ≤ gb304))
                     have n4_ := Aside0.mk ((by rw [hg]; exact (below_size (by repeat (with_reducible (first | exact HB.out | apply bA_ | apply bN_ | apply bD_ | refine bS_ ?_ GE291.out)))) : w.heap.size ≤ gb304))
                     have n5_ := Aside0.mk ((by rw [hg]; exact Nat.ne_of_lt (blk_lt (g := gb291) (o := .cells #[.int .i64 a0_0, .int .i64 a0_1, .int .i64 a0_2] 39 (0, 0)) (peel_ BK291.out)) : gb291 ≠ gb304))
                     have n6_ := Aside0.mk ((by rw [hg]; exact Nat.ne_of_gt (blk_lt (g := gb291) (o := .cells #[.int .i64 a0_0, .int .i64 a0_1, .int .i64 a0_2] 39 (0, 0)) (peel_ BK291.out)) : gb304 ≠ gb291))
                     clear BK291
                     clear HB
                     have BK291 := n0_
                     have HB := n1_
                     have BK304 := n2_
                     have GW304 := n3_
                     have GE304 := n4_
                     have NB291_304 := n5_
                     have NB304_291 := n6_
                     clear n0_ n1_ n2_ n3_ n4_ n5_ n6_
                     clear hb hbox hg
                     refine hK.out _ _ ⟨(blk_cell BK291.out 0).trans rfl, (blk_cell BK291.out 1).trans rfl, (blk_cell BK291.out 2).trans rfl⟩ (fun hHeld => ?_)
                     clear hK K
                     refine norm_ (a' := ?_) ?_ ?_
                     rotate_left
                     ·show Act.put _ (some 8) _ = _
                      simp only [Act.put, s1_, s2_, s3_, i64_w, i32_w]
                      rfl
                     exact norm_ (by simp only [putAll, Act.put, s1_, s2_, s3_] <;> rfl) (hJ2_5_7_18 (gb304) _ ⟨hHeld, (peel_ BK291.out), (peel_ BK304.out), GW304.out, GE304.out, NB291_304.out, NB304_291.out, (by repeat (with_reducible (first | exact HB.out | apply bA_ | apply bN_ | apply bD_ | refine bS_ ?_ GE291.out | refine bS_ ?_ GE304.out)))⟩)
                  ·skip
                   rintro ⟨gb303, gb304⟩ w19 ⟨hS_, h0_, h1_, h2_, h3_, h4_, h5_, h6_, h7_, h8_, h9_, h10_, h11_, h12_, h13_⟩
                   have n0_ : Aside0 (w19.heap[gb291]? = some (.cells #[.int .i64 a0_0, .int .i64 a0_1, .int .i64 a0_2] 39 (0, 0))) := ⟨h0_⟩
                   have n1_ : Aside0 (w19.heap[gb303]? = some (.cells #[.int .i64 0, .int .i64 0, .string (⟨#[]⟩ : ByteArray)] 24 (0, 0))) := ⟨h1_⟩
                   have n2_ : Aside0 (w19.heap[gb304]? = some (.cells #[.int .i64 0, .int .i64 0, .string (⟨#[]⟩ : ByteArray)] 24 (0, 0))) := ⟨h2_⟩
                   have n3_ : Aside0 (w.heap.size ≤ gb303) := ⟨h3_⟩
                   have n4_ : Aside0 (w.heap.size ≤ gb303) := ⟨h4_⟩
                   have n5_ : Aside0 (gb291 ≠ gb303) := ⟨h5_⟩
                   have n6_ : Aside0 (gb303 ≠ gb291) := ⟨h6_⟩
                   have n7_ : Aside0 (gb304 ≠ gb303) := ⟨h7_⟩
                   have n8_ : Aside0 (gb303 ≠ gb304) := ⟨h8_⟩
                   have n9_ : Aside0 (w.heap.size ≤ gb304) := ⟨h9_⟩
                   have n10_ : Aside0 (w.heap.size ≤ gb304) := ⟨h10_⟩
                   have n11_ : Aside0 (gb291 ≠ gb304) := ⟨h11_⟩
                   have n12_ : Aside0 (gb304 ≠ gb291) := ⟨h12_⟩
                   have n13_ : Aside0 (Below w.heap.size w w19) := ⟨h13_⟩
                   clear BK291
                   clear HB
                   clear h0_ h1_ h2_ h3_ h4_ h5_ h6_ h7_ h8_ h9_ h10_ h11_ h12_ h13_
                   have BK291 := n0_
                   have BK303 := n1_
                   have BK304 := n2_
                   have GW303 := n3_
                   have GE303 := n4_
                   have NB291_303 := n5_
                   have NB303_291 := n6_
                   have NB304_303 := n7_
                   have NB303_304 := n8_
                   have GW304 := n9_
                   have GE304 := n10_
                   have NB291_304 := n11_
                   have NB304_291 := n12_
                   have HB := n13_
                   clear n0_ n1_ n2_ n3_ n4_ n5_ n6_ n7_ n8_ n9_ n10_ n11_ n12_ n13_
                   have hHeld : w19.cell? ⟨gb291, 0, none⟩ = some (.int .i64 a0_0) ∧ w19.cell? ⟨gb291, 1, none⟩ = some (.int .i64 a0_1) ∧ w19.cell? ⟨gb291, 2, none⟩ = some (.int .i64 a0_2) := hS_
                   refine norm_ (a' := ?_) ?_ ?_
                   rotate_left
                   ·simp only [putAll, Act.put, s1_, s2_, s3_]
                    rfl
                   refine one_ (i := 7) (N := some 28) #[true, true, true, true, true, true, true, true, true, true, false, true, true, false, true, true, false, true, true, false, false] rfl rfl (one_of HT_.out (by kernel_rfl)) (by decide) (fun K hK => ?_)
                   refine goes_ Try.func23 (by kernel_rfl) rfl #[.int .i64 t293, .int .i64 t294, .string a1] (by rfl) rfl rfl (by (try simp only [List.map_toArray, List.map_cons, List.map_nil]); first | done | rfl | (simp only [List.length_drop, List.length_take]; rfl)) ?_
                   with_reducible refine (corncriblaw02_made.calls t293 t294 a1 t295 t296 t297 _ A8.out).mono ?_
                   rintro e w20 ⟨rfl, hb⟩
                   refine ⟨_, rfl, ?_⟩
                   have n0_ := Aside0.mk (blk_below (g := gb291) (o := .cells #[.int .i64 a0_0, .int .i64 a0_1, .int .i64 a0_2] 39 (0, 0)) (peel_ BK291.out) hb)
                   have n1_ := Aside0.mk (blk_below (g := gb303) (o := .cells #[.int .i64 0, .int .i64 0, .string (⟨#[]⟩ : ByteArray)] 24 (0, 0)) (peel_ BK303.out) hb)
                   have n2_ := Aside0.mk (blk_below (g := gb304) (o := .cells #[.int .i64 0, .int .i64 0, .string (⟨#[]⟩ : ByteArray)] 24 (0, 0)) (peel_ BK304.out) hb)
                   have n3_ := Aside0.mk (below_step (by repeat (with_reducible (first | exact HB.out | apply bA_ | apply bN_ | apply bD_ | refine bS_ ?_ GE291.out | refine bS_ ?_ GE303.out | refine bS_ ?_ GE304.out))) hb)
                   clear BK291
                   clear BK303
                   clear BK304
                   clear HB
                   have BK291 := n0_
                   have BK303 := n1_
                   have BK304 := n2_
                   have HB := n3_
                   clear n0_ n1_ n2_ n3_
                   (try clear hb)
                   (try clear hb2)
                   (try clear hk)
                   (try clear hi)
                   refine hK.out _ _ ⟨(blk_cell BK291.out 0).trans rfl, (blk_cell BK291.out 1).trans rfl, (blk_cell BK291.out 2).trans rfl⟩ (fun hHeld => ?_)
                   clear hK K
                   refine norm_ (a' := ?_) ?_ ?_
                   rotate_left
                   ·show Act.put _ (some 28) _ = _
                    simp only [Act.put, s1_, s2_, s3_, i64_w, i32_w]
                    rfl
                   exact norm_ (by simp only [putAll, Act.put, s1_, s2_, s3_] <;> rfl) (hJ2_5_7_17_18 (gb303, gb304) _ ⟨hHeld, (peel_ BK291.out), (peel_ BK303.out), (peel_ BK304.out), GW303.out, GE303.out, NB291_303.out, NB303_291.out, NB304_303.out, NB303_304.out, GW304.out, GE304.out, NB291_304.out, NB304_291.out, (by repeat (with_reducible (first | exact HB.out | apply bA_ | apply bN_ | apply bD_ | refine bS_ ?_ GE291.out | refine bS_ ?_ GE303.out | refine bS_ ?_ GE304.out)))⟩)
                 ·skip
                  rintro gb304 w19 ⟨hS_, h0_, h1_, h2_, h3_, h4_, h5_, h6_⟩
                  have n0_ : Aside0 (w19.heap[gb291]? = some (.cells #[.int .i64 a0_0, .int .i64 a0_1, .int .i64 a0_2] 39 (0, 0))) := ⟨h0_⟩
                  have n1_ : Aside0 (w19.heap[gb304]? = some (.cells #[.int .i64 0, .int .i64 0, .string (⟨#[]⟩ : ByteArray)] 24 (0, 0))) := ⟨h1_⟩
                  have n2_ : Aside0 (w.heap.size ≤ gb304) := ⟨h2_⟩
                  have n3_ : Aside0 (w.heap.size ≤ gb304) := ⟨h3_⟩
                  have n4_ : Aside0 (gb291 ≠ gb304) := ⟨h4_⟩
                  have n5_ : Aside0 (gb304 ≠ gb291) := ⟨h5_⟩
                  have n6_ : Aside0 (Below w.heap.size w w19) := ⟨h6_⟩
                  clear BK291
                  clear HB
                  clear h0_ h1_ h2_ h3_ h4_ h5_ h6_
                  have BK291 := n0_
                  have BK304 := n1_
                  have GW304 := n2_
                  have GE304 := n3_
                  have NB291_304 := n4_
                  have NB304_291 := n5_
                  have HB := n6_
                  clear n0_ n1_ n2_ n3_ n4_ n5_ n6_
                  have hHeld : w19.cell? ⟨gb291, 0, none⟩ = some (.int .i64 a0_0) ∧ w19.cell? ⟨gb291, 1, none⟩ = some (.int .i64 a0_1) ∧ w19.cell? ⟨gb291, 2, none⟩ = some (.int .i64 a0_2) := hS_
                  refine norm_ (a' := ?_) ?_ ?_
                  rotate_left
                  ·simp only [putAll, Act.put, s1_, s2_, s3_]
                   rfl
                  refine two_ (i := 10) (j := 17) (Ni := some 31) (Nj := some 7) #[true, true, true, true, true, true, true, true, true, true, true, true, true, false, true, true, false, false, true, false, false] #[true, true, true, true, true, true, true, true, true, true, false, true, true, false, true, true, false, true, true, false, false] rfl rfl rfl rfl (two_of HT_.out (by kernel_rfl)) (by decide) (by decide) (fun K hK => ?_) (fun K hK => ?_)
                  ·skip
                   refine goes_ Try.func24 (by kernel_rfl) rfl #[.int .i64 a0_1] (by rfl) rfl rfl (by (try simp only [List.map_toArray, List.map_cons, List.map_nil]); first | done | rfl | (simp only [List.length_drop, List.length_take]; rfl)) ?_
                   with_reducible refine (corncriblaw02_side.calls a0_1 t298 _ A9.out).mono ?_
                   rintro e w' ⟨rfl, ⟨nd, rfl⟩⟩
                   refine ⟨_, rfl, ?_⟩
                   refine hK.out _ _ ⟨(blk_cell BK291.out 0).trans rfl, (blk_cell BK291.out 1).trans rfl, (blk_cell BK291.out 2).trans rfl⟩ (fun hHeld => ?_)
                   clear hK K
                   refine norm_ (a' := ?_) ?_ ?_
                   rotate_left
                   ·show Act.put _ (some 31) _ = _
                    simp only [Act.put, s1_, s2_, s3_, i64_w, i32_w]
                    rfl
                   exact norm_ (by simp only [putAll, Act.put, s1_, s2_, s3_] <;> rfl) (hJ2_5_7_10_18 (gb304) _ ⟨hHeld, (peel_ BK291.out), (peel_ BK304.out), GW304.out, GE304.out, NB291_304.out, NB304_291.out, (by repeat (with_reducible (first | exact HB.out | apply bA_ | apply bN_ | apply bD_ | refine bS_ ?_ GE291.out | refine bS_ ?_ GE304.out)))⟩)
                  ·skip
                   refine box_step ?hg (N := 7) ?hd (cs := #[.int .i64 0, .int .i64 0, .string (⟨#[]⟩ : ByteArray)]) (t := 24) ?hr ?_; (case hd => rfl); (case hg => rfl); (case hr => first | (go_simp; done) | (go_simp; rfl))
                   intro gb303 hg w20 hbox hb
                   have n0_ := Aside0.mk (blk_below (g := gb291) (o := .cells #[.int .i64 a0_0, .int .i64 a0_1, .int .i64 a0_2] 39 (0, 0)) (peel_ BK291.out) hb)
                   have n1_ := Aside0.mk (blk_below (g := gb304) (o := .cells #[.int .i64 0, .int .i64 0, .string (⟨#[]⟩ : ByteArray)] 24 (0, 0)) (peel_ BK304.out) hb)
                   have n2_ := Aside0.mk (below_step (by repeat (with_reducible (first | exact HB.out | apply bA_ | apply bN_ | apply bD_ | refine bS_ ?_ GE291.out | refine bS_ ?_ GE304.out))) hb)
                   have n3_ := Aside0.mk (hbox)
                   have n4_ := Aside0.mk ((by rw [hg]; exact (below_size (by repeat (with_reducible (first | exact HB.out | apply bA_ | apply bN_ | apply bD_ | refine bS_ ?_ GE291.out | refine bS_ ?_ GE304.out)))) : w.heap.size ≤ gb303))
                   have n5_ := Aside0.mk ((by rw [hg]; exact (below_size (by repeat (with_reducible (first | exact HB.out | apply bA_ | apply bN_ | apply bD_ | refine bS_ ?_ GE291.out | refine bS_ ?_ GE304.out)))) : w.heap.size ≤ gb303))
                   have n6_ := Aside0.mk ((by rw [hg]; exact Nat.ne_of_lt (blk_lt (g := gb291) (o := .cells #[.int .i64 a0_0, .int .i64 a0_1, .int .i64 a0_2] 39 (0, 0)) (peel_ BK291.out)) : gb291 ≠ gb303))
                   have n7_ := Aside0.mk ((by rw [hg]; exact Nat.ne_of_gt (blk_lt (g := gb291) (o := .cells #[.int .i64 a0_0, .int .i64 a0_1, .int .i64 a0_2] 39 (0, 0)) (peel_ BK291.out)) : gb303 ≠ gb291))
                   have n8_ := Aside0.mk ((by rw [hg]; exact Nat.ne_of_lt (blk_lt (g := gb304) (o := .cells #[.int .i64 0, .int .i64 0, .string (⟨#[]⟩ : ByteArray)] 24 (0, 0)) (peel_ BK304.out)) : gb304 ≠ gb303))
                   have n9_ := Aside0.mk ((by rw [hg]; exact Nat.ne_of_gt (blk_lt (g := gb304) (o := .cells #[.int .i64 0, .int .i64 0, .string (⟨#[]⟩ : ByteArray)] 24 (0, 0)) (peel_ BK304.out)) : gb303 ≠ gb304))
                   clear BK291
                   clear BK304
                   clear HB
                   have BK291 := n0_
                   have BK304 := n1_
                   have HB := n2_
                   have BK303 := n3_
                   have GW303 := n4_
                   have GE303 := n5_
                   have NB291_303 := n6_
                   have NB303_291 := n7_
                   have NB304_303 := n8_
                   have NB303_304 := n9_
                   clear n0_ n1_ n2_ n3_ n4_ n5_ n6_ n7_ n8_ n9_
                   clear hb hbox hg
                   refine hK.out _ _ ⟨(blk_cell BK291.out 0).trans rfl, (blk_cell BK291.out 1).trans rfl, (blk_cell BK291.out 2).trans rfl⟩ (fun hHeld => ?_)
                   clear hK K
                   refine norm_ (a' := ?_) ?_ ?_
                   rotate_left
                   ·show Act.put _ (some 7) _ = _
                    simp only [Act.put, s1_, s2_, s3_, i64_w, i32_w]
                    rfl
                   exact norm_ (by simp only [putAll, Act.put, s1_, s2_, s3_] <;> rfl) (hJ2_5_7_17_18 (gb303, gb304) _ ⟨hHeld, (peel_ BK291.out), (peel_ BK303.out), (peel_ BK304.out), GW303.out, GE303.out, NB291_303.out, NB303_291.out, NB304_303.out, NB303_304.out, GW304.out, GE304.out, NB291_304.out, NB304_291.out, (by repeat (with_reducible (first | exact HB.out | apply bA_ | apply bN_ | apply bD_ | refine bS_ ?_ GE291.out | refine bS_ ?_ GE304.out | refine bS_ ?_ GE303.out)))⟩)
                ·skip
                 rintro gb303 w19 ⟨hS_, h0_, h1_, h2_, h3_, h4_, h5_, h6_⟩
                 have n0_ : Aside0 (w19.heap[gb291]? = some (.cells #[.int .i64 a0_0, .int .i64 a0_1, .int .i64 a0_2] 39 (0, 0))) := ⟨h0_⟩
                 have n1_ : Aside0 (w19.heap[gb303]? = some (.cells #[.int .i64 0, .int .i64 0, .string (⟨#[]⟩ : ByteArray)] 24 (0, 0))) := ⟨h1_⟩
                 have n2_ : Aside0 (w.heap.size ≤ gb303) := ⟨h2_⟩
                 have n3_ : Aside0 (w.heap.size ≤ gb303) := ⟨h3_⟩
                 have n4_ : Aside0 (gb291 ≠ gb303) := ⟨h4_⟩
                 have n5_ : Aside0 (gb303 ≠ gb291) := ⟨h5_⟩
                 have n6_ : Aside0 (Below w.heap.size w w19) := ⟨h6_⟩
                 clear BK291
                 clear HB
                 clear h0_ h1_ h2_ h3_ h4_ h5_ h6_
                 have BK291 := n0_
                 have BK303 := n1_
                 have GW303 := n2_
                 have GE303 := n3_
                 have NB291_303 := n4_
                 have NB303_291 := n5_
                 have HB := n6_
                 clear n0_ n1_ n2_ n3_ n4_ n5_ n6_
                 have hHeld : w19.cell? ⟨gb291, 0, none⟩ = some (.int .i64 a0_0) ∧ w19.cell? ⟨gb291, 1, none⟩ = some (.int .i64 a0_1) ∧ w19.cell? ⟨gb291, 2, none⟩ = some (.int .i64 a0_2) := hS_
                 refine norm_ (a' := ?_) ?_ ?_
                 rotate_left
                 ·simp only [putAll, Act.put, s1_, s2_, s3_]
                  rfl
                 refine two_ (i := 10) (j := 18) (Ni := some 31) (Nj := some 8) #[true, true, true, true, true, true, true, true, true, true, true, true, true, false, true, true, false, true, false, false, false] #[true, true, true, true, true, true, true, true, true, true, false, true, true, false, true, true, false, true, true, false, false] rfl rfl rfl rfl (two_of HT_.out (by kernel_rfl)) (by decide) (by decide) (fun K hK => ?_) (fun K hK => ?_)
                 ·skip
                  refine goes_ Try.func24 (by kernel_rfl) rfl #[.int .i64 a0_1] (by rfl) rfl rfl (by (try simp only [List.map_toArray, List.map_cons, List.map_nil]); first | done | rfl | (simp only [List.length_drop, List.length_take]; rfl)) ?_
                  with_reducible refine (corncriblaw02_side.calls a0_1 t298 _ A9.out).mono ?_
                  rintro e w' ⟨rfl, ⟨nd, rfl⟩⟩
                  refine ⟨_, rfl, ?_⟩
                  refine hK.out _ _ ⟨(blk_cell BK291.out 0).trans rfl, (blk_cell BK291.out 1).trans rfl, (blk_cell BK291.out 2).trans rfl⟩ (fun hHeld => ?_)
                  clear hK K
                  refine norm_ (a' := ?_) ?_ ?_
                  rotate_left
                  ·show Act.put _ (some 31) _ = _
                   simp only [Act.put, s1_, s2_, s3_, i64_w, i32_w]
                   rfl
                  exact norm_ (by simp only [putAll, Act.put, s1_, s2_, s3_] <;> rfl) (hJ2_5_7_10_17 (gb303) _ ⟨hHeld, (peel_ BK291.out), (peel_ BK303.out), GW303.out, GE303.out, NB291_303.out, NB303_291.out, (by repeat (with_reducible (first | exact HB.out | apply bA_ | apply bN_ | apply bD_ | refine bS_ ?_ GE291.out | refine bS_ ?_ GE303.out)))⟩)
                 ·skip
                  refine box_step ?hg (N := 8) ?hd (cs := #[.int .i64 0, .int .i64 0, .string (⟨#[]⟩ : ByteArray)]) (t := 24) ?hr ?_; (case hd => rfl); (case hg => rfl); (case hr => first | (go_simp; done) | (go_simp; rfl))
                  intro gb304 hg w20 hbox hb
                  have n0_ := Aside0.mk (blk_below (g := gb291) (o := .cells #[.int .i64 a0_0, .int .i64 a0_1, .int .i64 a0_2] 39 (0, 0)) (peel_ BK291.out) hb)
                  have n1_ := Aside0.mk (blk_below (g := gb303) (o := .cells #[.int .i64 0, .int .i64 0, .string (⟨#[]⟩ : ByteArray)] 24 (0, 0)) (peel_ BK303.out) hb)
                  have n2_ := Aside0.mk (below_step (by repeat (with_reducible (first | exact HB.out | apply bA_ | apply bN_ | apply bD_ | refine bS_ ?_ GE291.out | refine bS_ ?_ GE303.out))) hb)
                  have n3_ := Aside0.mk (hbox)
                  have n4_ := Aside0.mk ((by rw [hg]; exact (below_size (by repeat (with_reducible (first | exact HB.out | apply bA_ | apply bN_ | apply bD_ | refine bS_ ?_ GE291.out | refine bS_ ?_ GE303.out)))) : w.heap.size ≤ gb304))
                  have n5_ := Aside0.mk ((by rw [hg]; exact (below_size (by repeat (with_reducible (first | exact HB.out | apply bA_ | apply bN_ | apply bD_ | refine bS_ ?_ GE291.out | refine bS_ ?_ GE303.out)))) : w.heap.size ≤ gb304))
                  have n6_ := Aside0.mk ((by rw [hg]; exact Nat.ne_of_lt (blk_lt (g := gb291) (o := .cells #[.int .i64 a0_0, .int .i64 a0_1, .int .i64 a0_2] 39 (0, 0)) (peel_ BK291.out)) : gb291 ≠ gb304))
                  have n7_ := Aside0.mk ((by rw [hg]; exact Nat.ne_of_gt (blk_lt (g := gb291) (o := .cells #[.int .i64 a0_0, .int .i64 a0_1, .int .i64 a0_2] 39 (0, 0)) (peel_ BK291.out)) : gb304 ≠ gb291))
                  have n8_ := Aside0.mk ((by rw [hg]; exact Nat.ne_of_lt (blk_lt (g := gb303) (o := .cells #[.int .i64 0, .int .i64 0, .string (⟨#[]⟩ : ByteArray)] 24 (0, 0)) (peel_ BK303.out)) : gb303 ≠ gb304))
                  have n9_ := Aside0.mk ((by rw [hg]; exact Nat.ne_of_gt (blk_lt (g := gb303) (o := .cells #[.int .i64 0, .int .i64 0, .string (⟨#[]⟩ : ByteArray)] 24 (0, 0)) (peel_ BK303.out)) : gb304 ≠ gb303))
                  clear BK291
                  clear BK303
                  clear HB
                  have BK291 := n0_
                  have BK303 := n1_
                  have HB := n2_
                  have BK304 := n3_
                  have GW304 := n4_
                  have GE304 := n5_
                  have NB291_304 := n6_
                  have NB304_291 := n7_
                  have NB303_304 := n8_
                  have NB304_303 := n9_
                  clear n0_ n1_ n2_ n3_ n4_ n5_ n6_ n7_ n8_ n9_
                  clear hb hbox hg
                  refine hK.out _ _ ⟨(blk_cell BK291.out 0).trans rfl, (blk_cell BK291.out 1).trans rfl, (blk_cell BK291.out 2).trans rfl⟩ (fun hHeld => ?_)
                  clear hK K
                  refine norm_ (a' := ?_) ?_ ?_
                  rotate_left
                  ·show Act.put _ (some 8) _ = _
                   simp only [Act.put, s1_, s2_, s3_, i64_w, i32_w]
                   rfl
                  exact norm_ (by simp only [putAll, Act.put, s1_, s2_, s3_] <;> rfl) (hJ2_5_7_17_18 (gb303, gb304) _ ⟨hHeld, (peel_ BK291.out), (peel_ BK303.out), (peel_ BK304.out), GW303.out, GE303.out, NB291_303.out, NB303_291.out, NB304_303.out, NB303_304.out, GW304.out, GE304.out, NB291_304.out, NB304_291.out, (by repeat (with_reducible (first | exact HB.out | apply bA_ | apply bN_ | apply bD_ | refine bS_ ?_ GE291.out | refine bS_ ?_ GE303.out | refine bS_ ?_ GE304.out)))⟩)
               ·skip
                rintro _ w18 ⟨hS_, h0_, h1_⟩
                have n0_ : Aside0 (w18.heap[gb291]? = some (.cells #[.int .i64 a0_0, .int .i64 a0_1, .int .i64 a0_2] 39 (0, 0))) := ⟨h0_⟩
                have n1_ : Aside0 (Below w.heap.size w w18) := ⟨h1_⟩
                clear BK291
                clear HB
                clear h0_ h1_
                have BK291 := n0_
                have HB := n1_
                clear n0_ n1_
                have hHeld : w18.cell? ⟨gb291, 0, none⟩ = some (.int .i64 a0_0) ∧ w18.cell? ⟨gb291, 1, none⟩ = some (.int .i64 a0_1) ∧ w18.cell? ⟨gb291, 2, none⟩ = some (.int .i64 a0_2) := hS_
                refine norm_ (a' := ?_) ?_ ?_
                rotate_left
                ·simp only [putAll, Act.put, s1_, s2_, s3_]
                 rfl
                refine three_ (i := 13) (j := 17) (k := 18) (Ni := some 34) (Nj := some 7) (Nk := some 8) #[true, true, true, true, true, true, true, true, true, true, true, true, true, true, true, true, false, false, false, false, false] #[true, true, true, true, true, true, true, true, true, true, true, true, true, false, true, true, false, true, false, false, false] #[true, true, true, true, true, true, true, true, true, true, true, true, true, false, true, true, false, false, true, false, false] rfl rfl rfl rfl rfl rfl (three_of HT_.out (by kernel_rfl)) (by decide) (by decide) (by decide) (fun K hK => ?_) (fun K hK => ?_) (fun K hK => ?_)
                ·skip
                 refine goes_ Try.func24 (by kernel_rfl) rfl #[.int .i64 a0_2] (by rfl) rfl rfl (by (try simp only [List.map_toArray, List.map_cons, List.map_nil]); first | done | rfl | (simp only [List.length_drop, List.length_take]; rfl)) ?_
                 with_reducible refine (corncriblaw02_side.calls a0_2 t299 _ A10.out).mono ?_
                 rintro e w' ⟨rfl, ⟨nd, rfl⟩⟩
                 refine ⟨_, rfl, ?_⟩
                 refine hK.out _ _ ⟨(blk_cell BK291.out 0).trans rfl, (blk_cell BK291.out 1).trans rfl, (blk_cell BK291.out 2).trans rfl⟩ (fun hHeld => ?_)
                 clear hK K
                 refine norm_ (a' := ?_) ?_ ?_
                 rotate_left
                 ·show Act.put _ (some 34) _ = _
                  simp only [Act.put, s1_, s2_, s3_, i64_w, i32_w]
                  rfl
                 exact norm_ (by simp only [putAll, Act.put, s1_, s2_, s3_] <;> rfl) (hJ2_5_7_10_13 () _ ⟨hHeld, (peel_ BK291.out), (by repeat (with_reducible (first | exact HB.out | apply bA_ | apply bN_ | apply bD_ | refine bS_ ?_ GE291.out)))⟩)
                ·skip
                 refine box_step ?hg (N := 7) ?hd (cs := #[.int .i64 0, .int .i64 0, .string (⟨#[]⟩ : ByteArray)]) (t := 24) ?hr ?_; (case hd => rfl); (case hg => rfl); (case hr => first | (go_simp; done) | (go_simp; rfl))
                 intro gb303 hg w19 hbox hb
                 have n0_ := Aside0.mk (blk_below (g := gb291) (o := .cells #[.int .i64 a0_0, .int .i64 a0_1, .int .i64 a0_2] 39 (0, 0)) (peel_ BK291.out) hb)
                 have n1_ := Aside0.mk (below_step (by repeat (with_reducible (first | exact HB.out | apply bA_ | apply bN_ | apply bD_ | refine bS_ ?_ GE291.out))) hb)
                 have n2_ := Aside0.mk (hbox)
                 have n3_ := Aside0.mk ((by rw [hg]; exact (below_size (by repeat (with_reducible (first | exact HB.out | apply bA_ | apply bN_ | apply bD_ | refine bS_ ?_ GE291.out)))) : w.heap.size ≤ gb303))
                 have n4_ := Aside0.mk ((by rw [hg]; exact (below_size (by repeat (with_reducible (first | exact HB.out | apply bA_ | apply bN_ | apply bD_ | refine bS_ ?_ GE291.out)))) : w.heap.size ≤ gb303))
                 have n5_ := Aside0.mk ((by rw [hg]; exact Nat.ne_of_lt (blk_lt (g := gb291) (o := .cells #[.int .i64 a0_0, .int .i64 a0_1, .int .i64 a0_2] 39 (0, 0)) (peel_ BK291.out)) : gb291 ≠ gb303))
                 have n6_ := Aside0.mk ((by rw [hg]; exact Nat.ne_of_gt (blk_lt (g := gb291) (o := .cells #[.int .i64 a0_0, .int .i64 a0_1, .int .i64 a0_2] 39 (0, 0)) (peel_ BK291.out)) : gb303 ≠ gb291))
                 clear BK291
                 clear HB
                 have BK291 := n0_
                 have HB := n1_
                 have BK303 := n2_
                 have GW303 := n3_
                 have GE303 := n4_
                 have NB291_303 := n5_
                 have NB303_291 := n6_
                 clear n0_ n1_ n2_ n3_ n4_ n5_ n6_
                 clear hb hbox hg
                 refine hK.out _ _ ⟨(blk_cell BK291.out 0).trans rfl, (blk_cell BK291.out 1).trans rfl, (blk_cell BK291.out 2).trans rfl⟩ (fun hHeld => ?_)
                 clear hK K
                 refine norm_ (a' := ?_) ?_ ?_
                 rotate_left
                 ·show Act.put _ (some 7) _ = _
                  simp only [Act.put, s1_, s2_, s3_, i64_w, i32_w]
                  rfl
                 exact norm_ (by simp only [putAll, Act.put, s1_, s2_, s3_] <;> rfl) (hJ2_5_7_10_17 (gb303) _ ⟨hHeld, (peel_ BK291.out), (peel_ BK303.out), GW303.out, GE303.out, NB291_303.out, NB303_291.out, (by repeat (with_reducible (first | exact HB.out | apply bA_ | apply bN_ | apply bD_ | refine bS_ ?_ GE291.out | refine bS_ ?_ GE303.out)))⟩)
                ·skip
                 refine box_step ?hg (N := 8) ?hd (cs := #[.int .i64 0, .int .i64 0, .string (⟨#[]⟩ : ByteArray)]) (t := 24) ?hr ?_; (case hd => rfl); (case hg => rfl); (case hr => first | (go_simp; done) | (go_simp; rfl))
                 intro gb304 hg w19 hbox hb
                 have n0_ := Aside0.mk (blk_below (g := gb291) (o := .cells #[.int .i64 a0_0, .int .i64 a0_1, .int .i64 a0_2] 39 (0, 0)) (peel_ BK291.out) hb)
                 have n1_ := Aside0.mk (below_step (by repeat (with_reducible (first | exact HB.out | apply bA_ | apply bN_ | apply bD_ | refine bS_ ?_ GE291.out))) hb)
                 have n2_ := Aside0.mk (hbox)
                 have n3_ := Aside0.mk ((by rw [hg]; exact (below_size (by repeat (with_reducible (first | exact HB.out | apply bA_ | apply bN_ | apply bD_ | refine bS_ ?_ GE291.out)))) : w.heap.size ≤ gb304))
                 have n4_ := Aside0.mk ((by rw [hg]; exact (below_size (by repeat (with_reducible (first | exact HB.out | apply bA_ | apply bN_ | apply bD_ | refine bS_ ?_ GE291.out)))) : w.heap.size ≤ gb304))
                 have n5_ := Aside0.mk ((by rw [hg]; exact Nat.ne_of_lt (blk_lt (g := gb291) (o := .cells #[.int .i64 a0_0, .int .i64 a0_1, .int .i64 a0_2] 39 (0, 0)) (peel_ BK291.out)) : gb291 ≠ gb304))
                 have n6_ := Aside0.mk ((by rw [hg]; exact Nat.ne_of_gt (blk_lt (g := gb291) (o := .cells #[.int .i64 a0_0, .int .i64 a0_1, .int .i64 a0_2] 39 (0, 0)) (peel_ BK291.out)) : gb304 ≠ gb291))
                 clear BK291
                 clear HB
                 have BK291 := n0_
                 have HB := n1_
                 have BK304 := n2_
                 have GW304 := n3_
                 have GE304 := n4_
                 have NB291_304 := n5_
                 have NB304_291 := n6_
                 clear n0_ n1_ n2_ n3_ n4_ n5_ n6_
                 clear hb hbox hg
                 refine hK.out _ _ ⟨(blk_cell BK291.out 0).trans rfl, (blk_cell BK291.out 1).trans rfl, (blk_cell BK291.out 2).trans rfl⟩ (fun hHeld => ?_)
                 clear hK K
                 refine norm_ (a' := ?_) ?_ ?_
                 rotate_left
                 ·show Act.put _ (some 8) _ = _
                  simp only [Act.put, s1_, s2_, s3_, i64_w, i32_w]
                  rfl
                 exact norm_ (by simp only [putAll, Act.put, s1_, s2_, s3_] <;> rfl) (hJ2_5_7_10_18 (gb304) _ ⟨hHeld, (peel_ BK291.out), (peel_ BK304.out), GW304.out, GE304.out, NB291_304.out, NB304_291.out, (by repeat (with_reducible (first | exact HB.out | apply bA_ | apply bN_ | apply bD_ | refine bS_ ?_ GE291.out | refine bS_ ?_ GE304.out)))⟩)
              ·skip
               rintro ⟨gb303, gb304⟩ w20 ⟨hS_, h0_, h1_, h2_, h3_, h4_, h5_, h6_, h7_, h8_, h9_, h10_, h11_, h12_, h13_⟩
               have n0_ : Aside0 (w20.heap[gb291]? = some (.cells #[.int .i64 a0_0, .int .i64 a0_1, .int .i64 a0_2] 39 (0, 0))) := ⟨h0_⟩
               have n1_ : Aside0 (w20.heap[gb303]? = some (.cells #[.int .i64 0, .int .i64 0, .string (⟨#[]⟩ : ByteArray)] 24 (0, 0))) := ⟨h1_⟩
               have n2_ : Aside0 (w20.heap[gb304]? = some (.cells #[.int .i64 0, .int .i64 0, .string (⟨#[]⟩ : ByteArray)] 24 (0, 0))) := ⟨h2_⟩
               have n3_ : Aside0 (w.heap.size ≤ gb303) := ⟨h3_⟩
               have n4_ : Aside0 (w.heap.size ≤ gb303) := ⟨h4_⟩
               have n5_ : Aside0 (gb291 ≠ gb303) := ⟨h5_⟩
               have n6_ : Aside0 (gb303 ≠ gb291) := ⟨h6_⟩
               have n7_ : Aside0 (gb304 ≠ gb303) := ⟨h7_⟩
               have n8_ : Aside0 (gb303 ≠ gb304) := ⟨h8_⟩
               have n9_ : Aside0 (w.heap.size ≤ gb304) := ⟨h9_⟩
               have n10_ : Aside0 (w.heap.size ≤ gb304) := ⟨h10_⟩
               have n11_ : Aside0 (gb291 ≠ gb304) := ⟨h11_⟩
               have n12_ : Aside0 (gb304 ≠ gb291) := ⟨h12_⟩
               have n13_ : Aside0 (Below w.heap.size w w20) := ⟨h13_⟩
               clear BK291
               clear HB
               clear h0_ h1_ h2_ h3_ h4_ h5_ h6_ h7_ h8_ h9_ h10_ h11_ h12_ h13_
               have BK291 := n0_
               have BK303 := n1_
               have BK304 := n2_
               have GW303 := n3_
               have GE303 := n4_
               have NB291_303 := n5_
               have NB303_291 := n6_
               have NB304_303 := n7_
               have NB303_304 := n8_
               have GW304 := n9_
               have GE304 := n10_
               have NB291_304 := n11_
               have NB304_291 := n12_
               have HB := n13_
               clear n0_ n1_ n2_ n3_ n4_ n5_ n6_ n7_ n8_ n9_ n10_ n11_ n12_ n13_
               have hHeld : w20.cell? ⟨gb291, 0, none⟩ = some (.int .i64 a0_0) ∧ w20.cell? ⟨gb291, 1, none⟩ = some (.int .i64 a0_1) ∧ w20.cell? ⟨gb291, 2, none⟩ = some (.int .i64 a0_2) := hS_
               refine norm_ (a' := ?_) ?_ ?_
               rotate_left
               ·simp only [putAll, Act.put, s1_, s2_, s3_]
                rfl
               refine one_ (i := 10) (N := some 31) #[true, true, true, true, true, true, true, true, true, true, true, true, true, false, true, true, false, true, true, false, false] rfl rfl (one_of HT_.out (by kernel_rfl)) (by decide) (fun K hK => ?_)
               refine goes_ Try.func24 (by kernel_rfl) rfl #[.int .i64 a0_1] (by rfl) rfl rfl (by (try simp only [List.map_toArray, List.map_cons, List.map_nil]); first | done | rfl | (simp only [List.length_drop, List.length_take]; rfl)) ?_
               with_reducible refine (corncriblaw02_side.calls a0_1 t298 _ A9.out).mono ?_
               rintro e w' ⟨rfl, ⟨nd, rfl⟩⟩
               refine ⟨_, rfl, ?_⟩
               refine hK.out _ _ ⟨(blk_cell BK291.out 0).trans rfl, (blk_cell BK291.out 1).trans rfl, (blk_cell BK291.out 2).trans rfl⟩ (fun hHeld => ?_)
               clear hK K
               refine norm_ (a' := ?_) ?_ ?_
               rotate_left
               ·show Act.put _ (some 31) _ = _
                simp only [Act.put, s1_, s2_, s3_, i64_w, i32_w]
                rfl
               exact norm_ (by simp only [putAll, Act.put, s1_, s2_, s3_] <;> rfl) (hJ2_5_7_10_17_18 (gb303, gb304) _ ⟨hHeld, (peel_ BK291.out), (peel_ BK303.out), (peel_ BK304.out), GW303.out, GE303.out, NB291_303.out, NB303_291.out, NB304_303.out, NB303_304.out, GW304.out, GE304.out, NB291_304.out, NB304_291.out, (by repeat (with_reducible (first | exact HB.out | apply bA_ | apply bN_ | apply bD_ | refine bS_ ?_ GE291.out | refine bS_ ?_ GE303.out | refine bS_ ?_ GE304.out)))⟩)
             ·skip
              rintro gb304 w19 ⟨hS_, h0_, h1_, h2_, h3_, h4_, h5_, h6_⟩
              have n0_ : Aside0 (w19.heap[gb291]? = some (.cells #[.int .i64 a0_0, .int .i64 a0_1, .int .i64 a0_2] 39 (0, 0))) := ⟨h0_⟩
              have n1_ : Aside0 (w19.heap[gb304]? = some (.cells #[.int .i64 0, .int .i64 0, .string (⟨#[]⟩ : ByteArray)] 24 (0, 0))) := ⟨h1_⟩
              have n2_ : Aside0 (w.heap.size ≤ gb304) := ⟨h2_⟩
              have n3_ : Aside0 (w.heap.size ≤ gb304) := ⟨h3_⟩
              have n4_ : Aside0 (gb291 ≠ gb304) := ⟨h4_⟩
              have n5_ : Aside0 (gb304 ≠ gb291) := ⟨h5_⟩
              have n6_ : Aside0 (Below w.heap.size w w19) := ⟨h6_⟩
              clear BK291
              clear HB
              clear h0_ h1_ h2_ h3_ h4_ h5_ h6_
              have BK291 := n0_
              have BK304 := n1_
              have GW304 := n2_
              have GE304 := n3_
              have NB291_304 := n4_
              have NB304_291 := n5_
              have HB := n6_
              clear n0_ n1_ n2_ n3_ n4_ n5_ n6_
              have hHeld : w19.cell? ⟨gb291, 0, none⟩ = some (.int .i64 a0_0) ∧ w19.cell? ⟨gb291, 1, none⟩ = some (.int .i64 a0_1) ∧ w19.cell? ⟨gb291, 2, none⟩ = some (.int .i64 a0_2) := hS_
              refine norm_ (a' := ?_) ?_ ?_
              rotate_left
              ·simp only [putAll, Act.put, s1_, s2_, s3_]
               rfl
              refine two_ (i := 13) (j := 17) (Ni := some 34) (Nj := some 7) #[true, true, true, true, true, true, true, true, true, true, true, true, true, true, true, true, false, false, true, false, false] #[true, true, true, true, true, true, true, true, true, true, true, true, true, false, true, true, false, true, true, false, false] rfl rfl rfl rfl (two_of HT_.out (by kernel_rfl)) (by decide) (by decide) (fun K hK => ?_) (fun K hK => ?_)
              ·skip
               refine goes_ Try.func24 (by kernel_rfl) rfl #[.int .i64 a0_2] (by rfl) rfl rfl (by (try simp only [List.map_toArray, List.map_cons, List.map_nil]); first | done | rfl | (simp only [List.length_drop, List.length_take]; rfl)) ?_
               with_reducible refine (corncriblaw02_side.calls a0_2 t299 _ A10.out).mono ?_
               rintro e w' ⟨rfl, ⟨nd, rfl⟩⟩
               refine ⟨_, rfl, ?_⟩
               refine hK.out _ _ ⟨(blk_cell BK291.out 0).trans rfl, (blk_cell BK291.out 1).trans rfl, (blk_cell BK291.out 2).trans rfl⟩ (fun hHeld => ?_)
               clear hK K
               refine norm_ (a' := ?_) ?_ ?_
               rotate_left
               ·show Act.put _ (some 34) _ = _
                simp only [Act.put, s1_, s2_, s3_, i64_w, i32_w]
                rfl
               exact norm_ (by simp only [putAll, Act.put, s1_, s2_, s3_] <;> rfl) (hJ2_5_7_10_13_18 (gb304) _ ⟨hHeld, (peel_ BK291.out), (peel_ BK304.out), GW304.out, GE304.out, NB291_304.out, NB304_291.out, (by repeat (with_reducible (first | exact HB.out | apply bA_ | apply bN_ | apply bD_ | refine bS_ ?_ GE291.out | refine bS_ ?_ GE304.out)))⟩)
              ·skip
               refine box_step ?hg (N := 7) ?hd (cs := #[.int .i64 0, .int .i64 0, .string (⟨#[]⟩ : ByteArray)]) (t := 24) ?hr ?_; (case hd => rfl); (case hg => rfl); (case hr => first | (go_simp; done) | (go_simp; rfl))
               intro gb303 hg w20 hbox hb
               have n0_ := Aside0.mk (blk_below (g := gb291) (o := .cells #[.int .i64 a0_0, .int .i64 a0_1, .int .i64 a0_2] 39 (0, 0)) (peel_ BK291.out) hb)
               have n1_ := Aside0.mk (blk_below (g := gb304) (o := .cells #[.int .i64 0, .int .i64 0, .string (⟨#[]⟩ : ByteArray)] 24 (0, 0)) (peel_ BK304.out) hb)
               have n2_ := Aside0.mk (below_step (by repeat (with_reducible (first | exact HB.out | apply bA_ | apply bN_ | apply bD_ | refine bS_ ?_ GE291.out | refine bS_ ?_ GE304.out))) hb)
               have n3_ := Aside0.mk (hbox)
               have n4_ := Aside0.mk ((by rw [hg]; exact (below_size (by repeat (with_reducible (first | exact HB.out | apply bA_ | apply bN_ | apply bD_ | refine bS_ ?_ GE291.out | refine bS_ ?_ GE304.out)))) : w.heap.size ≤ gb303))
               have n5_ := Aside0.mk ((by rw [hg]; exact (below_size (by repeat (with_reducible (first | exact HB.out | apply bA_ | apply bN_ | apply bD_ | refine bS_ ?_ GE291.out | refine bS_ ?_ GE304.out)))) : w.heap.size ≤ gb303))
               have n6_ := Aside0.mk ((by rw [hg]; exact Nat.ne_of_lt (blk_lt (g := gb291) (o := .cells #[.int .i64 a0_0, .int .i64 a0_1, .int .i64 a0_2] 39 (0, 0)) (peel_ BK291.out)) : gb291 ≠ gb303))
               have n7_ := Aside0.mk ((by rw [hg]; exact Nat.ne_of_gt (blk_lt (g := gb291) (o := .cells #[.int .i64 a0_0, .int .i64 a0_1, .int .i64 a0_2] 39 (0, 0)) (peel_ BK291.out)) : gb303 ≠ gb291))
               have n8_ := Aside0.mk ((by rw [hg]; exact Nat.ne_of_lt (blk_lt (g := gb304) (o := .cells #[.int .i64 0, .int .i64 0, .string (⟨#[]⟩ : ByteArray)] 24 (0, 0)) (peel_ BK304.out)) : gb304 ≠ gb303))
               have n9_ := Aside0.mk ((by rw [hg]; exact Nat.ne_of_gt (blk_lt (g := gb304) (o := .cells #[.int .i64 0, .int .i64 0, .string (⟨#[]⟩ : ByteArray)] 24 (0, 0)) (peel_ BK304.out)) : gb303 ≠ gb304))
               clear BK291
               clear BK304
               clear HB
               have BK291 := n0_
               have BK304 := n1_
               have HB := n2_
               have BK303 := n3_
               have GW303 := n4_
               have GE303 := n5_
               have NB291_303 := n6_
               have NB303_291 := n7_
               have NB304_303 := n8_
               have NB303_304 := n9_
               clear n0_ n1_ n2_ n3_ n4_ n5_ n6_ n7_ n8_ n9_
               clear hb hbox hg
               refine hK.out _ _ ⟨(blk_cell BK291.out 0).trans rfl, (blk_cell BK291.out 1).trans rfl, (blk_cell BK291.out 2).trans rfl⟩ (fun hHeld => ?_)
               clear hK K
               refine norm_ (a' := ?_) ?_ ?_
               rotate_left
               ·show Act.put _ (some 7) _ = _
                simp only [Act.put, s1_, s2_, s3_, i64_w, i32_w]
                rfl
               exact norm_ (by simp only [putAll, Act.put, s1_, s2_, s3_] <;> rfl) (hJ2_5_7_10_17_18 (gb303, gb304) _ ⟨hHeld, (peel_ BK291.out), (peel_ BK303.out), (peel_ BK304.out), GW303.out, GE303.out, NB291_303.out, NB303_291.out, NB304_303.out, NB303_304.out, GW304.out, GE304.out, NB291_304.out, NB304_291.out, (by repeat (with_reducible (first | exact HB.out | apply bA_ | apply bN_ | apply bD_ | refine bS_ ?_ GE291.out | refine bS_ ?_ GE304.out | refine bS_ ?_ GE303.out)))⟩)
            ·skip
             rintro gb303 w19 ⟨hS_, h0_, h1_, h2_, h3_, h4_, h5_, h6_⟩
             have n0_ : Aside0 (w19.heap[gb291]? = some (.cells #[.int .i64 a0_0, .int .i64 a0_1, .int .i64 a0_2] 39 (0, 0))) := ⟨h0_⟩
             have n1_ : Aside0 (w19.heap[gb303]? = some (.cells #[.int .i64 0, .int .i64 0, .string (⟨#[]⟩ : ByteArray)] 24 (0, 0))) := ⟨h1_⟩
             have n2_ : Aside0 (w.heap.size ≤ gb303) := ⟨h2_⟩
             have n3_ : Aside0 (w.heap.size ≤ gb303) := ⟨h3_⟩
             have n4_ : Aside0 (gb291 ≠ gb303) := ⟨h4_⟩
             have n5_ : Aside0 (gb303 ≠ gb291) := ⟨h5_⟩
             have n6_ : Aside0 (Below w.heap.size w w19) := ⟨h6_⟩
             clear BK291
             clear HB
             clear h0_ h1_ h2_ h3_ h4_ h5_ h6_
             have BK291 := n0_
             have BK303 := n1_
             have GW303 := n2_
             have GE303 := n3_
             have NB291_303 := n4_
             have NB303_291 := n5_
             have HB := n6_
             clear n0_ n1_ n2_ n3_ n4_ n5_ n6_
             have hHeld : w19.cell? ⟨gb291, 0, none⟩ = some (.int .i64 a0_0) ∧ w19.cell? ⟨gb291, 1, none⟩ = some (.int .i64 a0_1) ∧ w19.cell? ⟨gb291, 2, none⟩ = some (.int .i64 a0_2) := hS_
             refine norm_ (a' := ?_) ?_ ?_
             rotate_left
             ·simp only [putAll, Act.put, s1_, s2_, s3_]
              rfl
             refine two_ (i := 13) (j := 18) (Ni := some 34) (Nj := some 8) #[true, true, true, true, true, true, true, true, true, true, true, true, true, true, true, true, false, true, false, false, false] #[true, true, true, true, true, true, true, true, true, true, true, true, true, false, true, true, false, true, true, false, false] rfl rfl rfl rfl (two_of HT_.out (by kernel_rfl)) (by decide) (by decide) (fun K hK => ?_) (fun K hK => ?_)
             ·skip
              refine goes_ Try.func24 (by kernel_rfl) rfl #[.int .i64 a0_2] (by rfl) rfl rfl (by (try simp only [List.map_toArray, List.map_cons, List.map_nil]); first | done | rfl | (simp only [List.length_drop, List.length_take]; rfl)) ?_
              with_reducible refine (corncriblaw02_side.calls a0_2 t299 _ A10.out).mono ?_
              rintro e w' ⟨rfl, ⟨nd, rfl⟩⟩
              refine ⟨_, rfl, ?_⟩
              refine hK.out _ _ ⟨(blk_cell BK291.out 0).trans rfl, (blk_cell BK291.out 1).trans rfl, (blk_cell BK291.out 2).trans rfl⟩ (fun hHeld => ?_)
              clear hK K
              refine norm_ (a' := ?_) ?_ ?_
              rotate_left
              ·show Act.put _ (some 34) _ = _
               simp only [Act.put, s1_, s2_, s3_, i64_w, i32_w]
               rfl
              exact norm_ (by simp only [putAll, Act.put, s1_, s2_, s3_] <;> rfl) (hJ2_5_7_10_13_17 (gb303) _ ⟨hHeld, (peel_ BK291.out), (peel_ BK303.out), GW303.out, GE303.out, NB291_303.out, NB303_291.out, (by repeat (with_reducible (first | exact HB.out | apply bA_ | apply bN_ | apply bD_ | refine bS_ ?_ GE291.out | refine bS_ ?_ GE303.out)))⟩)
             ·skip
              refine box_step ?hg (N := 8) ?hd (cs := #[.int .i64 0, .int .i64 0, .string (⟨#[]⟩ : ByteArray)]) (t := 24) ?hr ?_; (case hd => rfl); (case hg => rfl); (case hr => first | (go_simp; done) | (go_simp; rfl))
              intro gb304 hg w20 hbox hb
              have n0_ := Aside0.mk (blk_below (g := gb291) (o := .cells #[.int .i64 a0_0, .int .i64 a0_1, .int .i64 a0_2] 39 (0, 0)) (peel_ BK291.out) hb)
              have n1_ := Aside0.mk (blk_below (g := gb303) (o := .cells #[.int .i64 0, .int .i64 0, .string (⟨#[]⟩ : ByteArray)] 24 (0, 0)) (peel_ BK303.out) hb)
              have n2_ := Aside0.mk (below_step (by repeat (with_reducible (first | exact HB.out | apply bA_ | apply bN_ | apply bD_ | refine bS_ ?_ GE291.out | refine bS_ ?_ GE303.out))) hb)
              have n3_ := Aside0.mk (hbox)
              have n4_ := Aside0.mk ((by rw [hg]; exact (below_size (by repeat (with_reducible (first | exact HB.out | apply bA_ | apply bN_ | apply bD_ | refine bS_ ?_ GE291.out | refine bS_ ?_ GE303.out)))) : w.heap.size ≤ gb304))
              have n5_ := Aside0.mk ((by rw [hg]; exact (below_size (by repeat (with_reducible (first | exact HB.out | apply bA_ | apply bN_ | apply bD_ | refine bS_ ?_ GE291.out | refine bS_ ?_ GE303.out)))) : w.heap.size ≤ gb304))
              have n6_ := Aside0.mk ((by rw [hg]; exact Nat.ne_of_lt (blk_lt (g := gb291) (o := .cells #[.int .i64 a0_0, .int .i64 a0_1, .int .i64 a0_2] 39 (0, 0)) (peel_ BK291.out)) : gb291 ≠ gb304))
              have n7_ := Aside0.mk ((by rw [hg]; exact Nat.ne_of_gt (blk_lt (g := gb291) (o := .cells #[.int .i64 a0_0, .int .i64 a0_1, .int .i64 a0_2] 39 (0, 0)) (peel_ BK291.out)) : gb304 ≠ gb291))
              have n8_ := Aside0.mk ((by rw [hg]; exact Nat.ne_of_lt (blk_lt (g := gb303) (o := .cells #[.int .i64 0, .int .i64 0, .string (⟨#[]⟩ : ByteArray)] 24 (0, 0)) (peel_ BK303.out)) : gb303 ≠ gb304))
              have n9_ := Aside0.mk ((by rw [hg]; exact Nat.ne_of_gt (blk_lt (g := gb303) (o := .cells #[.int .i64 0, .int .i64 0, .string (⟨#[]⟩ : ByteArray)] 24 (0, 0)) (peel_ BK303.out)) : gb304 ≠ gb303))
              clear BK291
              clear BK303
              clear HB
              have BK291 := n0_
              have BK303 := n1_
              have HB := n2_
              have BK304 := n3_
              have GW304 := n4_
              have GE304 := n5_
              have NB291_304 := n6_
              have NB304_291 := n7_
              have NB303_304 := n8_
              have NB304_303 := n9_
              clear n0_ n1_ n2_ n3_ n4_ n5_ n6_ n7_ n8_ n9_
              clear hb hbox hg
              refine hK.out _ _ ⟨(blk_cell BK291.out 0).trans rfl, (blk_cell BK291.out 1).trans rfl, (blk_cell BK291.out 2).trans rfl⟩ (fun hHeld => ?_)
              clear hK K
              refine norm_ (a' := ?_) ?_ ?_
              rotate_left
              ·show Act.put _ (some 8) _ = _
               simp only [Act.put, s1_, s2_, s3_, i64_w, i32_w]
               rfl
              exact norm_ (by simp only [putAll, Act.put, s1_, s2_, s3_] <;> rfl) (hJ2_5_7_10_17_18 (gb303, gb304) _ ⟨hHeld, (peel_ BK291.out), (peel_ BK303.out), (peel_ BK304.out), GW303.out, GE303.out, NB291_303.out, NB303_291.out, NB304_303.out, NB303_304.out, GW304.out, GE304.out, NB291_304.out, NB304_291.out, (by repeat (with_reducible (first | exact HB.out | apply bA_ | apply bN_ | apply bD_ | refine bS_ ?_ GE291.out | refine bS_ ?_ GE303.out | refine bS_ ?_ GE304.out)))⟩)
           ·skip
            rintro _ w18 ⟨hS_, h0_, h1_⟩
            have n0_ : Aside0 (w18.heap[gb291]? = some (.cells #[.int .i64 a0_0, .int .i64 a0_1, .int .i64 a0_2] 39 (0, 0))) := ⟨h0_⟩
            have n1_ : Aside0 (Below w.heap.size w w18) := ⟨h1_⟩
            clear BK291
            clear HB
            clear h0_ h1_
            have BK291 := n0_
            have HB := n1_
            clear n0_ n1_
            have hHeld : w18.cell? ⟨gb291, 0, none⟩ = some (.int .i64 a0_0) ∧ w18.cell? ⟨gb291, 1, none⟩ = some (.int .i64 a0_1) ∧ w18.cell? ⟨gb291, 2, none⟩ = some (.int .i64 a0_2) := hS_
            refine norm_ (a' := ?_) ?_ ?_
            rotate_left
            ·simp only [putAll, Act.put, s1_, s2_, s3_]
             rfl
            refine three_ (i := 16) (j := 17) (k := 18) (Ni := some 37) (Nj := some 7) (Nk := some 8) #[true, true, true, true, true, true, true, true, true, true, true, true, true, true, true, true, true, false, false, false, false] #[true, true, true, true, true, true, true, true, true, true, true, true, true, true, true, true, false, true, false, false, false] #[true, true, true, true, true, true, true, true, true, true, true, true, true, true, true, true, false, false, true, false, false] rfl rfl rfl rfl rfl rfl (three_of HT_.out (by kernel_rfl)) (by decide) (by decide) (by decide) (fun K hK => ?_) (fun K hK => ?_) (fun K hK => ?_)
            ·skip
             refine goes_ Try.func23 (by kernel_rfl) rfl #[.int .i64 t298, .int .i64 t299, .string (a1 ++ (⟨#[109, 111, 114, 101]⟩ : ByteArray))] (by rfl) rfl rfl (by (try simp only [List.map_toArray, List.map_cons, List.map_nil]); first | done | rfl | (simp only [List.length_drop, List.length_take]; rfl)) ?_
             with_reducible refine (corncriblaw02_made.calls t298 t299 (a1 ++ (⟨#[109, 111, 114, 101]⟩ : ByteArray)) t300 t301 t302 _ A12.out).mono ?_
             rintro e w19 ⟨rfl, hb⟩
             refine ⟨_, rfl, ?_⟩
             have n0_ := Aside0.mk (blk_below (g := gb291) (o := .cells #[.int .i64 a0_0, .int .i64 a0_1, .int .i64 a0_2] 39 (0, 0)) (peel_ BK291.out) hb)
             have n1_ := Aside0.mk (below_step (by repeat (with_reducible (first | exact HB.out | apply bA_ | apply bN_ | apply bD_ | refine bS_ ?_ GE291.out))) hb)
             clear BK291
             clear HB
             have BK291 := n0_
             have HB := n1_
             clear n0_ n1_
             (try clear hb)
             (try clear hb2)
             (try clear hk)
             (try clear hi)
             refine hK.out _ _ ⟨(blk_cell BK291.out 0).trans rfl, (blk_cell BK291.out 1).trans rfl, (blk_cell BK291.out 2).trans rfl⟩ (fun hHeld => ?_)
             clear hK K
             refine norm_ (a' := ?_) ?_ ?_
             rotate_left
             ·show Act.put _ (some 37) _ = _
              simp only [Act.put, s1_, s2_, s3_, i64_w, i32_w]
              rfl
             exact norm_ (by simp only [putAll, Act.put, s1_, s2_, s3_] <;> rfl) (hJ2_5_7_10_13_16 () _ ⟨hHeld, (peel_ BK291.out), (by repeat (with_reducible (first | exact HB.out | apply bA_ | apply bN_ | apply bD_ | refine bS_ ?_ GE291.out)))⟩)
            ·skip
             refine box_step ?hg (N := 7) ?hd (cs := #[.int .i64 0, .int .i64 0, .string (⟨#[]⟩ : ByteArray)]) (t := 24) ?hr ?_; (case hd => rfl); (case hg => rfl); (case hr => first | (go_simp; done) | (go_simp; rfl))
             intro gb303 hg w19 hbox hb
             have n0_ := Aside0.mk (blk_below (g := gb291) (o := .cells #[.int .i64 a0_0, .int .i64 a0_1, .int .i64 a0_2] 39 (0, 0)) (peel_ BK291.out) hb)
             have n1_ := Aside0.mk (below_step (by repeat (with_reducible (first | exact HB.out | apply bA_ | apply bN_ | apply bD_ | refine bS_ ?_ GE291.out))) hb)
             have n2_ := Aside0.mk (hbox)
             have n3_ := Aside0.mk ((by rw [hg]; exact (below_size (by repeat (with_reducible (first | exact HB.out | apply bA_ | apply bN_ | apply bD_ | refine bS_ ?_ GE291.out)))) : w.heap.size ≤ gb303))
             have n4_ := Aside0.mk ((by rw [hg]; exact (below_size (by repeat (with_reducible (first | exact HB.out | apply bA_ | apply bN_ | apply bD_ | refine bS_ ?_ GE291.out)))) : w.heap.size ≤ gb303))
             have n5_ := Aside0.mk ((by rw [hg]; exact Nat.ne_of_lt (blk_lt (g := gb291) (o := .cells #[.int .i64 a0_0, .int .i64 a0_1, .int .i64 a0_2] 39 (0, 0)) (peel_ BK291.out)) : gb291 ≠ gb303))
             have n6_ := Aside0.mk ((by rw [hg]; exact Nat.ne_of_gt (blk_lt (g := gb291) (o := .cells #[.int .i64 a0_0, .int .i64 a0_1, .int .i64 a0_2] 39 (0, 0)) (peel_ BK291.out)) : gb303 ≠ gb291))
             clear BK291
             clear HB
             have BK291 := n0_
             have HB := n1_
             have BK303 := n2_
             have GW303 := n3_
             have GE303 := n4_
             have NB291_303 := n5_
             have NB303_291 := n6_
             clear n0_ n1_ n2_ n3_ n4_ n5_ n6_
             clear hb hbox hg
             refine hK.out _ _ ⟨(blk_cell BK291.out 0).trans rfl, (blk_cell BK291.out 1).trans rfl, (blk_cell BK291.out 2).trans rfl⟩ (fun hHeld => ?_)
             clear hK K
             refine norm_ (a' := ?_) ?_ ?_
             rotate_left
             ·show Act.put _ (some 7) _ = _
              simp only [Act.put, s1_, s2_, s3_, i64_w, i32_w]
              rfl
             exact norm_ (by simp only [putAll, Act.put, s1_, s2_, s3_] <;> rfl) (hJ2_5_7_10_13_17 (gb303) _ ⟨hHeld, (peel_ BK291.out), (peel_ BK303.out), GW303.out, GE303.out, NB291_303.out, NB303_291.out, (by repeat (with_reducible (first | exact HB.out | apply bA_ | apply bN_ | apply bD_ | refine bS_ ?_ GE291.out | refine bS_ ?_ GE303.out)))⟩)
            ·skip
             refine box_step ?hg (N := 8) ?hd (cs := #[.int .i64 0, .int .i64 0, .string (⟨#[]⟩ : ByteArray)]) (t := 24) ?hr ?_; (case hd => rfl); (case hg => rfl); (case hr => first | (go_simp; done) | (go_simp; rfl))
             intro gb304 hg w19 hbox hb
             have n0_ := Aside0.mk (blk_below (g := gb291) (o := .cells #[.int .i64 a0_0, .int .i64 a0_1, .int .i64 a0_2] 39 (0, 0)) (peel_ BK291.out) hb)
             have n1_ := Aside0.mk (below_step (by repeat (with_reducible (first | exact HB.out | apply bA_ | apply bN_ | apply bD_ | refine bS_ ?_ GE291.out))) hb)
             have n2_ := Aside0.mk (hbox)
             have n3_ := Aside0.mk ((by rw [hg]; exact (below_size (by repeat (with_reducible (first | exact HB.out | apply bA_ | apply bN_ | apply bD_ | refine bS_ ?_ GE291.out)))) : w.heap.size ≤ gb304))
             have n4_ := Aside0.mk ((by rw [hg]; exact (below_size (by repeat (with_reducible (first | exact HB.out | apply bA_ | apply bN_ | apply bD_ | refine bS_ ?_ GE291.out)))) : w.heap.size ≤ gb304))
             have n5_ := Aside0.mk ((by rw [hg]; exact Nat.ne_of_lt (blk_lt (g := gb291) (o := .cells #[.int .i64 a0_0, .int .i64 a0_1, .int .i64 a0_2] 39 (0, 0)) (peel_ BK291.out)) : gb291 ≠ gb304))
             have n6_ := Aside0.mk ((by rw [hg]; exact Nat.ne_of_gt (blk_lt (g := gb291) (o := .cells #[.int .i64 a0_0, .int .i64 a0_1, .int .i64 a0_2] 39 (0, 0)) (peel_ BK291.out)) : gb304 ≠ gb291))
             clear BK291
             clear HB
             have BK291 := n0_
             have HB := n1_
             have BK304 := n2_
             have GW304 := n3_
             have GE304 := n4_
             have NB291_304 := n5_
             have NB304_291 := n6_
             clear n0_ n1_ n2_ n3_ n4_ n5_ n6_
             clear hb hbox hg
             refine hK.out _ _ ⟨(blk_cell BK291.out 0).trans rfl, (blk_cell BK291.out 1).trans rfl, (blk_cell BK291.out 2).trans rfl⟩ (fun hHeld => ?_)
             clear hK K
             refine norm_ (a' := ?_) ?_ ?_
             rotate_left
             ·show Act.put _ (some 8) _ = _
              simp only [Act.put, s1_, s2_, s3_, i64_w, i32_w]
              rfl
             exact norm_ (by simp only [putAll, Act.put, s1_, s2_, s3_] <;> rfl) (hJ2_5_7_10_13_18 (gb304) _ ⟨hHeld, (peel_ BK291.out), (peel_ BK304.out), GW304.out, GE304.out, NB291_304.out, NB304_291.out, (by repeat (with_reducible (first | exact HB.out | apply bA_ | apply bN_ | apply bD_ | refine bS_ ?_ GE291.out | refine bS_ ?_ GE304.out)))⟩)
          ·skip
           rintro ⟨gb303, gb304⟩ w20 ⟨hS_, h0_, h1_, h2_, h3_, h4_, h5_, h6_, h7_, h8_, h9_, h10_, h11_, h12_, h13_⟩
           have n0_ : Aside0 (w20.heap[gb291]? = some (.cells #[.int .i64 a0_0, .int .i64 a0_1, .int .i64 a0_2] 39 (0, 0))) := ⟨h0_⟩
           have n1_ : Aside0 (w20.heap[gb303]? = some (.cells #[.int .i64 0, .int .i64 0, .string (⟨#[]⟩ : ByteArray)] 24 (0, 0))) := ⟨h1_⟩
           have n2_ : Aside0 (w20.heap[gb304]? = some (.cells #[.int .i64 0, .int .i64 0, .string (⟨#[]⟩ : ByteArray)] 24 (0, 0))) := ⟨h2_⟩
           have n3_ : Aside0 (w.heap.size ≤ gb303) := ⟨h3_⟩
           have n4_ : Aside0 (w.heap.size ≤ gb303) := ⟨h4_⟩
           have n5_ : Aside0 (gb291 ≠ gb303) := ⟨h5_⟩
           have n6_ : Aside0 (gb303 ≠ gb291) := ⟨h6_⟩
           have n7_ : Aside0 (gb304 ≠ gb303) := ⟨h7_⟩
           have n8_ : Aside0 (gb303 ≠ gb304) := ⟨h8_⟩
           have n9_ : Aside0 (w.heap.size ≤ gb304) := ⟨h9_⟩
           have n10_ : Aside0 (w.heap.size ≤ gb304) := ⟨h10_⟩
           have n11_ : Aside0 (gb291 ≠ gb304) := ⟨h11_⟩
           have n12_ : Aside0 (gb304 ≠ gb291) := ⟨h12_⟩
           have n13_ : Aside0 (Below w.heap.size w w20) := ⟨h13_⟩
           clear BK291
           clear HB
           clear h0_ h1_ h2_ h3_ h4_ h5_ h6_ h7_ h8_ h9_ h10_ h11_ h12_ h13_
           have BK291 := n0_
           have BK303 := n1_
           have BK304 := n2_
           have GW303 := n3_
           have GE303 := n4_
           have NB291_303 := n5_
           have NB303_291 := n6_
           have NB304_303 := n7_
           have NB303_304 := n8_
           have GW304 := n9_
           have GE304 := n10_
           have NB291_304 := n11_
           have NB304_291 := n12_
           have HB := n13_
           clear n0_ n1_ n2_ n3_ n4_ n5_ n6_ n7_ n8_ n9_ n10_ n11_ n12_ n13_
           have hHeld : w20.cell? ⟨gb291, 0, none⟩ = some (.int .i64 a0_0) ∧ w20.cell? ⟨gb291, 1, none⟩ = some (.int .i64 a0_1) ∧ w20.cell? ⟨gb291, 2, none⟩ = some (.int .i64 a0_2) := hS_
           refine norm_ (a' := ?_) ?_ ?_
           rotate_left
           ·simp only [putAll, Act.put, s1_, s2_, s3_]
            rfl
           refine one_ (i := 13) (N := some 34) #[true, true, true, true, true, true, true, true, true, true, true, true, true, true, true, true, false, true, true, false, false] rfl rfl (one_of HT_.out (by kernel_rfl)) (by decide) (fun K hK => ?_)
           refine goes_ Try.func24 (by kernel_rfl) rfl #[.int .i64 a0_2] (by rfl) rfl rfl (by (try simp only [List.map_toArray, List.map_cons, List.map_nil]); first | done | rfl | (simp only [List.length_drop, List.length_take]; rfl)) ?_
           with_reducible refine (corncriblaw02_side.calls a0_2 t299 _ A10.out).mono ?_
           rintro e w' ⟨rfl, ⟨nd, rfl⟩⟩
           refine ⟨_, rfl, ?_⟩
           refine hK.out _ _ ⟨(blk_cell BK291.out 0).trans rfl, (blk_cell BK291.out 1).trans rfl, (blk_cell BK291.out 2).trans rfl⟩ (fun hHeld => ?_)
           clear hK K
           refine norm_ (a' := ?_) ?_ ?_
           rotate_left
           ·show Act.put _ (some 34) _ = _
            simp only [Act.put, s1_, s2_, s3_, i64_w, i32_w]
            rfl
           exact norm_ (by simp only [putAll, Act.put, s1_, s2_, s3_] <;> rfl) (hJ2_5_7_10_13_17_18 (gb303, gb304) _ ⟨hHeld, (peel_ BK291.out), (peel_ BK303.out), (peel_ BK304.out), GW303.out, GE303.out, NB291_303.out, NB303_291.out, NB304_303.out, NB303_304.out, GW304.out, GE304.out, NB291_304.out, NB304_291.out, (by repeat (with_reducible (first | exact HB.out | apply bA_ | apply bN_ | apply bD_ | refine bS_ ?_ GE291.out | refine bS_ ?_ GE303.out | refine bS_ ?_ GE304.out)))⟩)
         ·skip
          rintro gb304 w19 ⟨hS_, h0_, h1_, h2_, h3_, h4_, h5_, h6_⟩
          have n0_ : Aside0 (w19.heap[gb291]? = some (.cells #[.int .i64 a0_0, .int .i64 a0_1, .int .i64 a0_2] 39 (0, 0))) := ⟨h0_⟩
          have n1_ : Aside0 (w19.heap[gb304]? = some (.cells #[.int .i64 0, .int .i64 0, .string (⟨#[]⟩ : ByteArray)] 24 (0, 0))) := ⟨h1_⟩
          have n2_ : Aside0 (w.heap.size ≤ gb304) := ⟨h2_⟩
          have n3_ : Aside0 (w.heap.size ≤ gb304) := ⟨h3_⟩
          have n4_ : Aside0 (gb291 ≠ gb304) := ⟨h4_⟩
          have n5_ : Aside0 (gb304 ≠ gb291) := ⟨h5_⟩
          have n6_ : Aside0 (Below w.heap.size w w19) := ⟨h6_⟩
          clear BK291
          clear HB
          clear h0_ h1_ h2_ h3_ h4_ h5_ h6_
          have BK291 := n0_
          have BK304 := n1_
          have GW304 := n2_
          have GE304 := n3_
          have NB291_304 := n4_
          have NB304_291 := n5_
          have HB := n6_
          clear n0_ n1_ n2_ n3_ n4_ n5_ n6_
          have hHeld : w19.cell? ⟨gb291, 0, none⟩ = some (.int .i64 a0_0) ∧ w19.cell? ⟨gb291, 1, none⟩ = some (.int .i64 a0_1) ∧ w19.cell? ⟨gb291, 2, none⟩ = some (.int .i64 a0_2) := hS_
          refine norm_ (a' := ?_) ?_ ?_
          rotate_left
          ·simp only [putAll, Act.put, s1_, s2_, s3_]
           rfl
          refine two_ (i := 16) (j := 17) (Ni := some 37) (Nj := some 7) #[true, true, true, true, true, true, true, true, true, true, true, true, true, true, true, true, true, false, true, false, false] #[true, true, true, true, true, true, true, true, true, true, true, true, true, true, true, true, false, true, true, false, false] rfl rfl rfl rfl (two_of HT_.out (by kernel_rfl)) (by decide) (by decide) (fun K hK => ?_) (fun K hK => ?_)
          ·skip
           refine goes_ Try.func23 (by kernel_rfl) rfl #[.int .i64 t298, .int .i64 t299, .string (a1 ++ (⟨#[109, 111, 114, 101]⟩ : ByteArray))] (by rfl) rfl rfl (by (try simp only [List.map_toArray, List.map_cons, List.map_nil]); first | done | rfl | (simp only [List.length_drop, List.length_take]; rfl)) ?_
           with_reducible refine (corncriblaw02_made.calls t298 t299 (a1 ++ (⟨#[109, 111, 114, 101]⟩ : ByteArray)) t300 t301 t302 _ A12.out).mono ?_
           rintro e w20 ⟨rfl, hb⟩
           refine ⟨_, rfl, ?_⟩
           have n0_ := Aside0.mk (blk_below (g := gb291) (o := .cells #[.int .i64 a0_0, .int .i64 a0_1, .int .i64 a0_2] 39 (0, 0)) (peel_ BK291.out) hb)
           have n1_ := Aside0.mk (blk_below (g := gb304) (o := .cells #[.int .i64 0, .int .i64 0, .string (⟨#[]⟩ : ByteArray)] 24 (0, 0)) (peel_ BK304.out) hb)
           have n2_ := Aside0.mk (below_step (by repeat (with_reducible (first | exact HB.out | apply bA_ | apply bN_ | apply bD_ | refine bS_ ?_ GE291.out | refine bS_ ?_ GE304.out))) hb)
           clear BK291
           clear BK304
           clear HB
           have BK291 := n0_
           have BK304 := n1_
           have HB := n2_
           clear n0_ n1_ n2_
           (try clear hb)
           (try clear hb2)
           (try clear hk)
           (try clear hi)
           refine hK.out _ _ ⟨(blk_cell BK291.out 0).trans rfl, (blk_cell BK291.out 1).trans rfl, (blk_cell BK291.out 2).trans rfl⟩ (fun hHeld => ?_)
           clear hK K
           refine norm_ (a' := ?_) ?_ ?_
           rotate_left
           ·show Act.put _ (some 37) _ = _
            simp only [Act.put, s1_, s2_, s3_, i64_w, i32_w]
            rfl
           exact norm_ (by simp only [putAll, Act.put, s1_, s2_, s3_] <;> rfl) (hJ2_5_7_10_13_16_18 (gb304) _ ⟨hHeld, (peel_ BK291.out), (peel_ BK304.out), GW304.out, GE304.out, NB291_304.out, NB304_291.out, (by repeat (with_reducible (first | exact HB.out | apply bA_ | apply bN_ | apply bD_ | refine bS_ ?_ GE291.out | refine bS_ ?_ GE304.out)))⟩)
          ·skip
           refine box_step ?hg (N := 7) ?hd (cs := #[.int .i64 0, .int .i64 0, .string (⟨#[]⟩ : ByteArray)]) (t := 24) ?hr ?_; (case hd => rfl); (case hg => rfl); (case hr => first | (go_simp; done) | (go_simp; rfl))
           intro gb303 hg w20 hbox hb
           have n0_ := Aside0.mk (blk_below (g := gb291) (o := .cells #[.int .i64 a0_0, .int .i64 a0_1, .int .i64 a0_2] 39 (0, 0)) (peel_ BK291.out) hb)
           have n1_ := Aside0.mk (blk_below (g := gb304) (o := .cells #[.int .i64 0, .int .i64 0, .string (⟨#[]⟩ : ByteArray)] 24 (0, 0)) (peel_ BK304.out) hb)
           have n2_ := Aside0.mk (below_step (by repeat (with_reducible (first | exact HB.out | apply bA_ | apply bN_ | apply bD_ | refine bS_ ?_ GE291.out | refine bS_ ?_ GE304.out))) hb)
           have n3_ := Aside0.mk (hbox)
           have n4_ := Aside0.mk ((by rw [hg]; exact (below_size (by repeat (with_reducible (first | exact HB.out | apply bA_ | apply bN_ | apply bD_ | refine bS_ ?_ GE291.out | refine bS_ ?_ GE304.out)))) : w.heap.size ≤ gb303))
           have n5_ := Aside0.mk ((by rw [hg]; exact (below_size (by repeat (with_reducible (first | exact HB.out | apply bA_ | apply bN_ | apply bD_ | refine bS_ ?_ GE291.out | refine bS_ ?_ GE304.out)))) : w.heap.size ≤ gb303))
           have n6_ := Aside0.mk ((by rw [hg]; exact Nat.ne_of_lt (blk_lt (g := gb291) (o := .cells #[.int .i64 a0_0, .int .i64 a0_1, .int .i64 a0_2] 39 (0, 0)) (peel_ BK291.out)) : gb291 ≠ gb303))
           have n7_ := Aside0.mk ((by rw [hg]; exact Nat.ne_of_gt (blk_lt (g := gb291) (o := .cells #[.int .i64 a0_0, .int .i64 a0_1, .int .i64 a0_2] 39 (0, 0)) (peel_ BK291.out)) : gb303 ≠ gb291))
           have n8_ := Aside0.mk ((by rw [hg]; exact Nat.ne_of_lt (blk_lt (g := gb304) (o := .cells #[.int .i64 0, .int .i64 0, .string (⟨#[]⟩ : ByteArray)] 24 (0, 0)) (peel_ BK304.out)) : gb304 ≠ gb303))
           have n9_ := Aside0.mk ((by rw [hg]; exact Nat.ne_of_gt (blk_lt (g := gb304) (o := .cells #[.int .i64 0, .int .i64 0, .string (⟨#[]⟩ : ByteArray)] 24 (0, 0)) (peel_ BK304.out)) : gb303 ≠ gb304))
           clear BK291
           clear BK304
           clear HB
           have BK291 := n0_
           have BK304 := n1_
           have HB := n2_
           have BK303 := n3_
           have GW303 := n4_
           have GE303 := n5_
           have NB291_303 := n6_
           have NB303_291 := n7_
           have NB304_303 := n8_
           have NB303_304 := n9_
           clear n0_ n1_ n2_ n3_ n4_ n5_ n6_ n7_ n8_ n9_
           clear hb hbox hg
           refine hK.out _ _ ⟨(blk_cell BK291.out 0).trans rfl, (blk_cell BK291.out 1).trans rfl, (blk_cell BK291.out 2).trans rfl⟩ (fun hHeld => ?_)
           clear hK K
           refine norm_ (a' := ?_) ?_ ?_
           rotate_left
           ·show Act.put _ (some 7) _ = _
            simp only [Act.put, s1_, s2_, s3_, i64_w, i32_w]
            rfl
           exact norm_ (by simp only [putAll, Act.put, s1_, s2_, s3_] <;> rfl) (hJ2_5_7_10_13_17_18 (gb303, gb304) _ ⟨hHeld, (peel_ BK291.out), (peel_ BK303.out), (peel_ BK304.out), GW303.out, GE303.out, NB291_303.out, NB303_291.out, NB304_303.out, NB303_304.out, GW304.out, GE304.out, NB291_304.out, NB304_291.out, (by repeat (with_reducible (first | exact HB.out | apply bA_ | apply bN_ | apply bD_ | refine bS_ ?_ GE291.out | refine bS_ ?_ GE304.out | refine bS_ ?_ GE303.out)))⟩)
        ·skip
         rintro gb303 w19 ⟨hS_, h0_, h1_, h2_, h3_, h4_, h5_, h6_⟩
         have n0_ : Aside0 (w19.heap[gb291]? = some (.cells #[.int .i64 a0_0, .int .i64 a0_1, .int .i64 a0_2] 39 (0, 0))) := ⟨h0_⟩
         have n1_ : Aside0 (w19.heap[gb303]? = some (.cells #[.int .i64 0, .int .i64 0, .string (⟨#[]⟩ : ByteArray)] 24 (0, 0))) := ⟨h1_⟩
         have n2_ : Aside0 (w.heap.size ≤ gb303) := ⟨h2_⟩
         have n3_ : Aside0 (w.heap.size ≤ gb303) := ⟨h3_⟩
         have n4_ : Aside0 (gb291 ≠ gb303) := ⟨h4_⟩
         have n5_ : Aside0 (gb303 ≠ gb291) := ⟨h5_⟩
         have n6_ : Aside0 (Below w.heap.size w w19) := ⟨h6_⟩
         clear BK291
         clear HB
         clear h0_ h1_ h2_ h3_ h4_ h5_ h6_
         have BK291 := n0_
         have BK303 := n1_
         have GW303 := n2_
         have GE303 := n3_
         have NB291_303 := n4_
         have NB303_291 := n5_
         have HB := n6_
         clear n0_ n1_ n2_ n3_ n4_ n5_ n6_
         have hHeld : w19.cell? ⟨gb291, 0, none⟩ = some (.int .i64 a0_0) ∧ w19.cell? ⟨gb291, 1, none⟩ = some (.int .i64 a0_1) ∧ w19.cell? ⟨gb291, 2, none⟩ = some (.int .i64 a0_2) := hS_
         refine norm_ (a' := ?_) ?_ ?_
         rotate_left
         ·simp only [putAll, Act.put, s1_, s2_, s3_]
          rfl
         refine two_ (i := 16) (j := 18) (Ni := some 37) (Nj := some 8) #[true, true, true, true, true, true, true, true, true, true, true, true, true, true, true, true, true, true, false, false, false] #[true, true, true, true, true, true, true, true, true, true, true, true, true, true, true, true, false, true, true, false, false] rfl rfl rfl rfl (two_of HT_.out (by kernel_rfl)) (by decide) (by decide) (fun K hK => ?_) (fun K hK => ?_)
         ·skip
          refine goes_ Try.func23 (by kernel_rfl) rfl #[.int .i64 t298, .int .i64 t299, .string (a1 ++ (⟨#[109, 111, 114, 101]⟩ : ByteArray))] (by rfl) rfl rfl (by (try simp only [List.map_toArray, List.map_cons, List.map_nil]); first | done | rfl | (simp only [List.length_drop, List.length_take]; rfl)) ?_
          with_reducible refine (corncriblaw02_made.calls t298 t299 (a1 ++ (⟨#[109, 111, 114, 101]⟩ : ByteArray)) t300 t301 t302 _ A12.out).mono ?_
          rintro e w20 ⟨rfl, hb⟩
          refine ⟨_, rfl, ?_⟩
          have n0_ := Aside0.mk (blk_below (g := gb291) (o := .cells #[.int .i64 a0_0, .int .i64 a0_1, .int .i64 a0_2] 39 (0, 0)) (peel_ BK291.out) hb)
          have n1_ := Aside0.mk (blk_below (g := gb303) (o := .cells #[.int .i64 0, .int .i64 0, .string (⟨#[]⟩ : ByteArray)] 24 (0, 0)) (peel_ BK303.out) hb)
          have n2_ := Aside0.mk (below_step (by repeat (with_reducible (first | exact HB.out | apply bA_ | apply bN_ | apply bD_ | refine bS_ ?_ GE291.out | refine bS_ ?_ GE303.out))) hb)
          clear BK291
          clear BK303
          clear HB
          have BK291 := n0_
          have BK303 := n1_
          have HB := n2_
          clear n0_ n1_ n2_
          (try clear hb)
          (try clear hb2)
          (try clear hk)
          (try clear hi)
          refine hK.out _ _ ⟨(blk_cell BK291.out 0).trans rfl, (blk_cell BK291.out 1).trans rfl, (blk_cell BK291.out 2).trans rfl⟩ (fun hHeld => ?_)
          clear hK K
          refine norm_ (a' := ?_) ?_ ?_
          rotate_left
          ·show Act.put _ (some 37) _ = _
           simp only [Act.put, s1_, s2_, s3_, i64_w, i32_w]
           rfl
          exact norm_ (by simp only [putAll, Act.put, s1_, s2_, s3_] <;> rfl) (hJ2_5_7_10_13_16_17 (gb303) _ ⟨hHeld, (peel_ BK291.out), (peel_ BK303.out), GW303.out, GE303.out, NB291_303.out, NB303_291.out, (by repeat (with_reducible (first | exact HB.out | apply bA_ | apply bN_ | apply bD_ | refine bS_ ?_ GE291.out | refine bS_ ?_ GE303.out)))⟩)
         ·skip
          refine box_step ?hg (N := 8) ?hd (cs := #[.int .i64 0, .int .i64 0, .string (⟨#[]⟩ : ByteArray)]) (t := 24) ?hr ?_; (case hd => rfl); (case hg => rfl); (case hr => first | (go_simp; done) | (go_simp; rfl))
          intro gb304 hg w20 hbox hb
          have n0_ := Aside0.mk (blk_below (g := gb291) (o := .cells #[.int .i64 a0_0, .int .i64 a0_1, .int .i64 a0_2] 39 (0, 0)) (peel_ BK291.out) hb)
          have n1_ := Aside0.mk (blk_below (g := gb303) (o := .cells #[.int .i64 0, .int .i64 0, .string (⟨#[]⟩ : ByteArray)] 24 (0, 0)) (peel_ BK303.out) hb)
          have n2_ := Aside0.mk (below_step (by repeat (with_reducible (first | exact HB.out | apply bA_ | apply bN_ | apply bD_ | refine bS_ ?_ GE291.out | refine bS_ ?_ GE303.out))) hb)
          have n3_ := Aside0.mk (hbox)
          have n4_ := Aside0.mk ((by rw [hg]; exact (below_size (by repeat (with_reducible (first | exact HB.out | apply bA_ | apply bN_ | apply bD_ | refine bS_ ?_ GE291.out | refine bS_ ?_ GE303.out)))) : w.heap.size ≤ gb304))
          have n5_ := Aside0.mk ((by rw [hg]; exact (below_size (by repeat (with_reducible (first | exact HB.out | apply bA_ | apply bN_ | apply bD_ | refine bS_ ?_ GE291.out | refine bS_ ?_ GE303.out)))) : w.heap.size ≤ gb304))
          have n6_ := Aside0.mk ((by rw [hg]; exact Nat.ne_of_lt (blk_lt (g := gb291) (o := .cells #[.int .i64 a0_0, .int .i64 a0_1, .int .i64 a0_2] 39 (0, 0)) (peel_ BK291.out)) : gb291 ≠ gb304))
          have n7_ := Aside0.mk ((by rw [hg]; exact Nat.ne_of_gt (blk_lt (g := gb291) (o := .cells #[.int .i64 a0_0, .int .i64 a0_1, .int .i64 a0_2] 39 (0, 0)) (peel_ BK291.out)) : gb304 ≠ gb291))
          have n8_ := Aside0.mk ((by rw [hg]; exact Nat.ne_of_lt (blk_lt (g := gb303) (o := .cells #[.int .i64 0, .int .i64 0, .string (⟨#[]⟩ : ByteArray)] 24 (0, 0)) (peel_ BK303.out)) : gb303 ≠ gb304))
          have n9_ := Aside0.mk ((by rw [hg]; exact Nat.ne_of_gt (blk_lt (g := gb303) (o := .cells #[.int .i64 0, .int .i64 0, .string (⟨#[]⟩ : ByteArray)] 24 (0, 0)) (peel_ BK303.out)) : gb304 ≠ gb303))
          clear BK291
          clear BK303
          clear HB
          have BK291 := n0_
          have BK303 := n1_
          have HB := n2_
          have BK304 := n3_
          have GW304 := n4_
          have GE304 := n5_
          have NB291_304 := n6_
          have NB304_291 := n7_
          have NB303_304 := n8_
          have NB304_303 := n9_
          clear n0_ n1_ n2_ n3_ n4_ n5_ n6_ n7_ n8_ n9_
          clear hb hbox hg
          refine hK.out _ _ ⟨(blk_cell BK291.out 0).trans rfl, (blk_cell BK291.out 1).trans rfl, (blk_cell BK291.out 2).trans rfl⟩ (fun hHeld => ?_)
          clear hK K
          refine norm_ (a' := ?_) ?_ ?_
          rotate_left
          ·show Act.put _ (some 8) _ = _
           simp only [Act.put, s1_, s2_, s3_, i64_w, i32_w]
           rfl
          exact norm_ (by simp only [putAll, Act.put, s1_, s2_, s3_] <;> rfl) (hJ2_5_7_10_13_17_18 (gb303, gb304) _ ⟨hHeld, (peel_ BK291.out), (peel_ BK303.out), (peel_ BK304.out), GW303.out, GE303.out, NB291_303.out, NB303_291.out, NB304_303.out, NB303_304.out, GW304.out, GE304.out, NB291_304.out, NB304_291.out, (by repeat (with_reducible (first | exact HB.out | apply bA_ | apply bN_ | apply bD_ | refine bS_ ?_ GE291.out | refine bS_ ?_ GE303.out | refine bS_ ?_ GE304.out)))⟩)
       ·skip
        rintro _ w19 ⟨hS_, h0_, h1_⟩
        have n0_ : Aside0 (w19.heap[gb291]? = some (.cells #[.int .i64 a0_0, .int .i64 a0_1, .int .i64 a0_2] 39 (0, 0))) := ⟨h0_⟩
        have n1_ : Aside0 (Below w.heap.size w w19) := ⟨h1_⟩
        clear BK291
        clear HB
        clear h0_ h1_
        have BK291 := n0_
        have HB := n1_
        clear n0_ n1_
        have hHeld : w19.cell? ⟨gb291, 0, none⟩ = some (.int .i64 a0_0) ∧ w19.cell? ⟨gb291, 1, none⟩ = some (.int .i64 a0_1) ∧ w19.cell? ⟨gb291, 2, none⟩ = some (.int .i64 a0_2) := hS_
        refine norm_ (a' := ?_) ?_ ?_
        rotate_left
        ·simp only [putAll, Act.put, s1_, s2_, s3_]
         rfl
        refine two_ (i := 17) (j := 18) (Ni := some 7) (Nj := some 8) #[true, true, true, true, true, true, true, true, true, true, true, true, true, true, true, true, true, true, false, false, false] #[true, true, true, true, true, true, true, true, true, true, true, true, true, true, true, true, true, false, true, false, false] rfl rfl rfl rfl (two_of HT_.out (by kernel_rfl)) (by decide) (by decide) (fun K hK => ?_) (fun K hK => ?_)
        ·skip
         refine box_step ?hg (N := 7) ?hd (cs := #[.int .i64 0, .int .i64 0, .string (⟨#[]⟩ : ByteArray)]) (t := 24) ?hr ?_; (case hd => rfl); (case hg => rfl); (case hr => first | (go_simp; done) | (go_simp; rfl))
         intro gb303 hg w20 hbox hb
         have n0_ := Aside0.mk (blk_below (g := gb291) (o := .cells #[.int .i64 a0_0, .int .i64 a0_1, .int .i64 a0_2] 39 (0, 0)) (peel_ BK291.out) hb)
         have n1_ := Aside0.mk (below_step (by repeat (with_reducible (first | exact HB.out | apply bA_ | apply bN_ | apply bD_ | refine bS_ ?_ GE291.out))) hb)
         have n2_ := Aside0.mk (hbox)
         have n3_ := Aside0.mk ((by rw [hg]; exact (below_size (by repeat (with_reducible (first | exact HB.out | apply bA_ | apply bN_ | apply bD_ | refine bS_ ?_ GE291.out)))) : w.heap.size ≤ gb303))
         have n4_ := Aside0.mk ((by rw [hg]; exact (below_size (by repeat (with_reducible (first | exact HB.out | apply bA_ | apply bN_ | apply bD_ | refine bS_ ?_ GE291.out)))) : w.heap.size ≤ gb303))
         have n5_ := Aside0.mk ((by rw [hg]; exact Nat.ne_of_lt (blk_lt (g := gb291) (o := .cells #[.int .i64 a0_0, .int .i64 a0_1, .int .i64 a0_2] 39 (0, 0)) (peel_ BK291.out)) : gb291 ≠ gb303))
         have n6_ := Aside0.mk ((by rw [hg]; exact Nat.ne_of_gt (blk_lt (g := gb291) (o := .cells #[.int .i64 a0_0, .int .i64 a0_1, .int .i64 a0_2] 39 (0, 0)) (peel_ BK291.out)) : gb303 ≠ gb291))
         clear BK291
         clear HB
         have BK291 := n0_
         have HB := n1_
         have BK303 := n2_
         have GW303 := n3_
         have GE303 := n4_
         have NB291_303 := n5_
         have NB303_291 := n6_
         clear n0_ n1_ n2_ n3_ n4_ n5_ n6_
         clear hb hbox hg
         refine hK.out _ _ ⟨(blk_cell BK291.out 0).trans rfl, (blk_cell BK291.out 1).trans rfl, (blk_cell BK291.out 2).trans rfl⟩ (fun hHeld => ?_)
         clear hK K
         refine norm_ (a' := ?_) ?_ ?_
         rotate_left
         ·show Act.put _ (some 7) _ = _
          simp only [Act.put, s1_, s2_, s3_, i64_w, i32_w]
          rfl
         exact norm_ (by simp only [putAll, Act.put, s1_, s2_, s3_] <;> rfl) (hJ2_5_7_10_13_16_17 (gb303) _ ⟨hHeld, (peel_ BK291.out), (peel_ BK303.out), GW303.out, GE303.out, NB291_303.out, NB303_291.out, (by repeat (with_reducible (first | exact HB.out | apply bA_ | apply bN_ | apply bD_ | refine bS_ ?_ GE291.out | refine bS_ ?_ GE303.out)))⟩)
        ·skip
         refine box_step ?hg (N := 8) ?hd (cs := #[.int .i64 0, .int .i64 0, .string (⟨#[]⟩ : ByteArray)]) (t := 24) ?hr ?_; (case hd => rfl); (case hg => rfl); (case hr => first | (go_simp; done) | (go_simp; rfl))
         intro gb304 hg w20 hbox hb
         have n0_ := Aside0.mk (blk_below (g := gb291) (o := .cells #[.int .i64 a0_0, .int .i64 a0_1, .int .i64 a0_2] 39 (0, 0)) (peel_ BK291.out) hb)
         have n1_ := Aside0.mk (below_step (by repeat (with_reducible (first | exact HB.out | apply bA_ | apply bN_ | apply bD_ | refine bS_ ?_ GE291.out))) hb)
         have n2_ := Aside0.mk (hbox)
         have n3_ := Aside0.mk ((by rw [hg]; exact (below_size (by repeat (with_reducible (first | exact HB.out | apply bA_ | apply bN_ | apply bD_ | refine bS_ ?_ GE291.out)))) : w.heap.size ≤ gb304))
         have n4_ := Aside0.mk ((by rw [hg]; exact (below_size (by repeat (with_reducible (first | exact HB.out | apply bA_ | apply bN_ | apply bD_ | refine bS_ ?_ GE291.out)))) : w.heap.size ≤ gb304))
         have n5_ := Aside0.mk ((by rw [hg]; exact Nat.ne_of_lt (blk_lt (g := gb291) (o := .cells #[.int .i64 a0_0, .int .i64 a0_1, .int .i64 a0_2] 39 (0, 0)) (peel_ BK291.out)) : gb291 ≠ gb304))
         have n6_ := Aside0.mk ((by rw [hg]; exact Nat.ne_of_gt (blk_lt (g := gb291) (o := .cells #[.int .i64 a0_0, .int .i64 a0_1, .int .i64 a0_2] 39 (0, 0)) (peel_ BK291.out)) : gb304 ≠ gb291))
         clear BK291
         clear HB
         have BK291 := n0_
         have HB := n1_
         have BK304 := n2_
         have GW304 := n3_
         have GE304 := n4_
         have NB291_304 := n5_
         have NB304_291 := n6_
         clear n0_ n1_ n2_ n3_ n4_ n5_ n6_
         clear hb hbox hg
         refine hK.out _ _ ⟨(blk_cell BK291.out 0).trans rfl, (blk_cell BK291.out 1).trans rfl, (blk_cell BK291.out 2).trans rfl⟩ (fun hHeld => ?_)
         clear hK K
         refine norm_ (a' := ?_) ?_ ?_
         rotate_left
         ·show Act.put _ (some 8) _ = _
          simp only [Act.put, s1_, s2_, s3_, i64_w, i32_w]
          rfl
         exact norm_ (by simp only [putAll, Act.put, s1_, s2_, s3_] <;> rfl) (hJ2_5_7_10_13_16_18 (gb304) _ ⟨hHeld, (peel_ BK291.out), (peel_ BK304.out), GW304.out, GE304.out, NB291_304.out, NB304_291.out, (by repeat (with_reducible (first | exact HB.out | apply bA_ | apply bN_ | apply bD_ | refine bS_ ?_ GE291.out | refine bS_ ?_ GE304.out)))⟩)
      ·skip
       rintro ⟨gb303, gb304⟩ w20 ⟨hS_, h0_, h1_, h2_, h3_, h4_, h5_, h6_, h7_, h8_, h9_, h10_, h11_, h12_, h13_⟩
       have n0_ : Aside0 (w20.heap[gb291]? = some (.cells #[.int .i64 a0_0, .int .i64 a0_1, .int .i64 a0_2] 39 (0, 0))) := ⟨h0_⟩
       have n1_ : Aside0 (w20.heap[gb303]? = some (.cells #[.int .i64 0, .int .i64 0, .string (⟨#[]⟩ : ByteArray)] 24 (0, 0))) := ⟨h1_⟩
       have n2_ : Aside0 (w20.heap[gb304]? = some (.cells #[.int .i64 0, .int .i64 0, .string (⟨#[]⟩ : ByteArray)] 24 (0, 0))) := ⟨h2_⟩
       have n3_ : Aside0 (w.heap.size ≤ gb303) := ⟨h3_⟩
       have n4_ : Aside0 (w.heap.size ≤ gb303) := ⟨h4_⟩
       have n5_ : Aside0 (gb291 ≠ gb303) := ⟨h5_⟩
       have n6_ : Aside0 (gb303 ≠ gb291) := ⟨h6_⟩
       have n7_ : Aside0 (gb304 ≠ gb303) := ⟨h7_⟩
       have n8_ : Aside0 (gb303 ≠ gb304) := ⟨h8_⟩
       have n9_ : Aside0 (w.heap.size ≤ gb304) := ⟨h9_⟩
       have n10_ : Aside0 (w.heap.size ≤ gb304) := ⟨h10_⟩
       have n11_ : Aside0 (gb291 ≠ gb304) := ⟨h11_⟩
       have n12_ : Aside0 (gb304 ≠ gb291) := ⟨h12_⟩
       have n13_ : Aside0 (Below w.heap.size w w20) := ⟨h13_⟩
       clear BK291
       clear HB
       clear h0_ h1_ h2_ h3_ h4_ h5_ h6_ h7_ h8_ h9_ h10_ h11_ h12_ h13_
       have BK291 := n0_
       have BK303 := n1_
       have BK304 := n2_
       have GW303 := n3_
       have GE303 := n4_
       have NB291_303 := n5_
       have NB303_291 := n6_
       have NB304_303 := n7_
       have NB303_304 := n8_
       have GW304 := n9_
       have GE304 := n10_
       have NB291_304 := n11_
       have NB304_291 := n12_
       have HB := n13_
       clear n0_ n1_ n2_ n3_ n4_ n5_ n6_ n7_ n8_ n9_ n10_ n11_ n12_ n13_
       have hHeld : w20.cell? ⟨gb291, 0, none⟩ = some (.int .i64 a0_0) ∧ w20.cell? ⟨gb291, 1, none⟩ = some (.int .i64 a0_1) ∧ w20.cell? ⟨gb291, 2, none⟩ = some (.int .i64 a0_2) := hS_
       refine norm_ (a' := ?_) ?_ ?_
       rotate_left
       ·simp only [putAll, Act.put, s1_, s2_, s3_]
        rfl
       refine one_ (i := 16) (N := some 37) #[true, true, true, true, true, true, true, true, true, true, true, true, true, true, true, true, true, true, true, false, false] rfl rfl (one_of HT_.out (by kernel_rfl)) (by decide) (fun K hK => ?_)
       refine goes_ Try.func23 (by kernel_rfl) rfl #[.int .i64 t298, .int .i64 t299, .string (a1 ++ (⟨#[109, 111, 114, 101]⟩ : ByteArray))] (by rfl) rfl rfl (by (try simp only [List.map_toArray, List.map_cons, List.map_nil]); first | done | rfl | (simp only [List.length_drop, List.length_take]; rfl)) ?_
       with_reducible refine (corncriblaw02_made.calls t298 t299 (a1 ++ (⟨#[109, 111, 114, 101]⟩ : ByteArray)) t300 t301 t302 _ A12.out).mono ?_
       rintro e w21 ⟨rfl, hb⟩
       refine ⟨_, rfl, ?_⟩
       have n0_ := Aside0.mk (blk_below (g := gb291) (o := .cells #[.int .i64 a0_0, .int .i64 a0_1, .int .i64 a0_2] 39 (0, 0)) (peel_ BK291.out) hb)
       have n1_ := Aside0.mk (blk_below (g := gb303) (o := .cells #[.int .i64 0, .int .i64 0, .string (⟨#[]⟩ : ByteArray)] 24 (0, 0)) (peel_ BK303.out) hb)
       have n2_ := Aside0.mk (blk_below (g := gb304) (o := .cells #[.int .i64 0, .int .i64 0, .string (⟨#[]⟩ : ByteArray)] 24 (0, 0)) (peel_ BK304.out) hb)
       have n3_ := Aside0.mk (below_step (by repeat (with_reducible (first | exact HB.out | apply bA_ | apply bN_ | apply bD_ | refine bS_ ?_ GE291.out | refine bS_ ?_ GE303.out | refine bS_ ?_ GE304.out))) hb)
       clear BK291
       clear BK303
       clear BK304
       clear HB
       have BK291 := n0_
       have BK303 := n1_
       have BK304 := n2_
       have HB := n3_
       clear n0_ n1_ n2_ n3_
       (try clear hb)
       (try clear hb2)
       (try clear hk)
       (try clear hi)
       refine hK.out _ _ ⟨(blk_cell BK291.out 0).trans rfl, (blk_cell BK291.out 1).trans rfl, (blk_cell BK291.out 2).trans rfl⟩ (fun hHeld => ?_)
       clear hK K
       refine norm_ (a' := ?_) ?_ ?_
       rotate_left
       ·show Act.put _ (some 37) _ = _
        simp only [Act.put, s1_, s2_, s3_, i64_w, i32_w]
        rfl
       exact norm_ (by simp only [putAll, Act.put, s1_, s2_, s3_] <;> rfl) (hJ2_5_7_10_13_16_17_18 (gb303, gb304) _ ⟨hHeld, (peel_ BK291.out), (peel_ BK303.out), (peel_ BK304.out), GW303.out, GE303.out, NB291_303.out, NB303_291.out, NB304_303.out, NB303_304.out, GW304.out, GE304.out, NB291_304.out, NB304_291.out, (by repeat (with_reducible (first | exact HB.out | apply bA_ | apply bN_ | apply bD_ | refine bS_ ?_ GE291.out | refine bS_ ?_ GE303.out | refine bS_ ?_ GE304.out)))⟩)
     ·skip
      rintro gb304 w20 ⟨hS_, h0_, h1_, h2_, h3_, h4_, h5_, h6_⟩
      have n0_ : Aside0 (w20.heap[gb291]? = some (.cells #[.int .i64 a0_0, .int .i64 a0_1, .int .i64 a0_2] 39 (0, 0))) := ⟨h0_⟩
      have n1_ : Aside0 (w20.heap[gb304]? = some (.cells #[.int .i64 0, .int .i64 0, .string (⟨#[]⟩ : ByteArray)] 24 (0, 0))) := ⟨h1_⟩
      have n2_ : Aside0 (w.heap.size ≤ gb304) := ⟨h2_⟩
      have n3_ : Aside0 (w.heap.size ≤ gb304) := ⟨h3_⟩
      have n4_ : Aside0 (gb291 ≠ gb304) := ⟨h4_⟩
      have n5_ : Aside0 (gb304 ≠ gb291) := ⟨h5_⟩
      have n6_ : Aside0 (Below w.heap.size w w20) := ⟨h6_⟩
      clear BK291
      clear HB
      clear h0_ h1_ h2_ h3_ h4_ h5_ h6_
      have BK291 := n0_
      have BK304 := n1_
      have GW304 := n2_
      have GE304 := n3_
      have NB291_304 := n4_
      have NB304_291 := n5_
      have HB := n6_
      clear n0_ n1_ n2_ n3_ n4_ n5_ n6_
      have hHeld : w20.cell? ⟨gb291, 0, none⟩ = some (.int .i64 a0_0) ∧ w20.cell? ⟨gb291, 1, none⟩ = some (.int .i64 a0_1) ∧ w20.cell? ⟨gb291, 2, none⟩ = some (.int .i64 a0_2) := hS_
      refine norm_ (a' := ?_) ?_ ?_
      rotate_left
      ·simp only [putAll, Act.put, s1_, s2_, s3_]
       rfl
      refine one_ (i := 17) (N := some 7) #[true, true, true, true, true, true, true, true, true, true, true, true, true, true, true, true, true, true, true, false, false] rfl rfl (one_of HT_.out (by kernel_rfl)) (by decide) (fun K hK => ?_)
      refine box_step ?hg (N := 7) ?hd (cs := #[.int .i64 0, .int .i64 0, .string (⟨#[]⟩ : ByteArray)]) (t := 24) ?hr ?_; (case hd => rfl); (case hg => rfl); (case hr => first | (go_simp; done) | (go_simp; rfl))
      intro gb303 hg w21 hbox hb
      have n0_ := Aside0.mk (blk_below (g := gb291) (o := .cells #[.int .i64 a0_0, .int .i64 a0_1, .int .i64 a0_2] 39 (0, 0)) (peel_ BK291.out) hb)
      have n1_ := Aside0.mk (blk_below (g := gb304) (o := .cells #[.int .i64 0, .int .i64 0, .string (⟨#[]⟩ : ByteArray)] 24 (0, 0)) (peel_ BK304.out) hb)
      have n2_ := Aside0.mk (below_step (by repeat (with_reducible (first | exact HB.out | apply bA_ | apply bN_ | apply bD_ | refine bS_ ?_ GE291.out | refine bS_ ?_ GE304.out))) hb)
      have n3_ := Aside0.mk (hbox)
      have n4_ := Aside0.mk ((by rw [hg]; exact (below_size (by repeat (with_reducible (first | exact HB.out | apply bA_ | apply bN_ | apply bD_ | refine bS_ ?_ GE291.out | refine bS_ ?_ GE304.out)))) : w.heap.size ≤ gb303))
      have n5_ := Aside0.mk ((by rw [hg]; exact (below_size (by repeat (with_reducible (first | exact HB.out | apply bA_ | apply bN_ | apply bD_ | refine bS_ ?_ GE291.out | refine bS_ ?_ GE304.out)))) : w.heap.size ≤ gb303))
      have n6_ := Aside0.mk ((by rw [hg]; exact Nat.ne_of_lt (blk_lt (g := gb291) (o := .cells #[.int .i64 a0_0, .int .i64 a0_1, .int .i64 a0_2] 39 (0, 0)) (peel_ BK291.out)) : gb291 ≠ gb303))
      have n7_ := Aside0.mk ((by rw [hg]; exact Nat.ne_of_gt (blk_lt (g := gb291) (o := .cells #[.int .i64 a0_0, .int .i64 a0_1, .int .i64 a0_2] 39 (0, 0)) (peel_ BK291.out)) : gb303 ≠ gb291))
      have n8_ := Aside0.mk ((by rw [hg]; exact Nat.ne_of_lt (blk_lt (g := gb304) (o := .cells #[.int .i64 0, .int .i64 0, .string (⟨#[]⟩ : ByteArray)] 24 (0, 0)) (peel_ BK304.out)) : gb304 ≠ gb303))
      have n9_ := Aside0.mk ((by rw [hg]; exact Nat.ne_of_gt (blk_lt (g := gb304) (o := .cells #[.int .i64 0, .int .i64 0, .string (⟨#[]⟩ : ByteArray)] 24 (0, 0)) (peel_ BK304.out)) : gb303 ≠ gb304))
      clear BK291
      clear BK304
      clear HB
      have BK291 := n0_
      have BK304 := n1_
      have HB := n2_
      have BK303 := n3_
      have GW303 := n4_
      have GE303 := n5_
      have NB291_303 := n6_
      have NB303_291 := n7_
      have NB304_303 := n8_
      have NB303_304 := n9_
      clear n0_ n1_ n2_ n3_ n4_ n5_ n6_ n7_ n8_ n9_
      clear hb hbox hg
      refine hK.out _ _ ⟨(blk_cell BK291.out 0).trans rfl, (blk_cell BK291.out 1).trans rfl, (blk_cell BK291.out 2).trans rfl⟩ (fun hHeld => ?_)
      clear hK K
      refine norm_ (a' := ?_) ?_ ?_
      rotate_left
      ·show Act.put _ (some 7) _ = _
       simp only [Act.put, s1_, s2_, s3_, i64_w, i32_w]
       rfl
      exact norm_ (by simp only [putAll, Act.put, s1_, s2_, s3_] <;> rfl) (hJ2_5_7_10_13_16_17_18 (gb303, gb304) _ ⟨hHeld, (peel_ BK291.out), (peel_ BK303.out), (peel_ BK304.out), GW303.out, GE303.out, NB291_303.out, NB303_291.out, NB304_303.out, NB303_304.out, GW304.out, GE304.out, NB291_304.out, NB304_291.out, (by repeat (with_reducible (first | exact HB.out | apply bA_ | apply bN_ | apply bD_ | refine bS_ ?_ GE291.out | refine bS_ ?_ GE304.out | refine bS_ ?_ GE303.out)))⟩)
    ·skip
     rintro gb303 w20 ⟨hS_, h0_, h1_, h2_, h3_, h4_, h5_, h6_⟩
     have n0_ : Aside0 (w20.heap[gb291]? = some (.cells #[.int .i64 a0_0, .int .i64 a0_1, .int .i64 a0_2] 39 (0, 0))) := ⟨h0_⟩
     have n1_ : Aside0 (w20.heap[gb303]? = some (.cells #[.int .i64 0, .int .i64 0, .string (⟨#[]⟩ : ByteArray)] 24 (0, 0))) := ⟨h1_⟩
     have n2_ : Aside0 (w.heap.size ≤ gb303) := ⟨h2_⟩
     have n3_ : Aside0 (w.heap.size ≤ gb303) := ⟨h3_⟩
     have n4_ : Aside0 (gb291 ≠ gb303) := ⟨h4_⟩
     have n5_ : Aside0 (gb303 ≠ gb291) := ⟨h5_⟩
     have n6_ : Aside0 (Below w.heap.size w w20) := ⟨h6_⟩
     clear BK291
     clear HB
     clear h0_ h1_ h2_ h3_ h4_ h5_ h6_
     have BK291 := n0_
     have BK303 := n1_
     have GW303 := n2_
     have GE303 := n3_
     have NB291_303 := n4_
     have NB303_291 := n5_
     have HB := n6_
     clear n0_ n1_ n2_ n3_ n4_ n5_ n6_
     have hHeld : w20.cell? ⟨gb291, 0, none⟩ = some (.int .i64 a0_0) ∧ w20.cell? ⟨gb291, 1, none⟩ = some (.int .i64 a0_1) ∧ w20.cell? ⟨gb291, 2, none⟩ = some (.int .i64 a0_2) := hS_
     refine norm_ (a' := ?_) ?_ ?_
     rotate_left
     ·simp only [putAll, Act.put, s1_, s2_, s3_]
      rfl
     refine one_ (i := 18) (N := some 8) #[true, true, true, true, true, true, true, true, true, true, true, true, true, true, true, true, true, true, true, false, false] rfl rfl (one_of HT_.out (by kernel_rfl)) (by decide) (fun K hK => ?_)
     refine box_step ?hg (N := 8) ?hd (cs := #[.int .i64 0, .int .i64 0, .string (⟨#[]⟩ : ByteArray)]) (t := 24) ?hr ?_; (case hd => rfl); (case hg => rfl); (case hr => first | (go_simp; done) | (go_simp; rfl))
     intro gb304 hg w21 hbox hb
     have n0_ := Aside0.mk (blk_below (g := gb291) (o := .cells #[.int .i64 a0_0, .int .i64 a0_1, .int .i64 a0_2] 39 (0, 0)) (peel_ BK291.out) hb)
     have n1_ := Aside0.mk (blk_below (g := gb303) (o := .cells #[.int .i64 0, .int .i64 0, .string (⟨#[]⟩ : ByteArray)] 24 (0, 0)) (peel_ BK303.out) hb)
     have n2_ := Aside0.mk (below_step (by repeat (with_reducible (first | exact HB.out | apply bA_ | apply bN_ | apply bD_ | refine bS_ ?_ GE291.out | refine bS_ ?_ GE303.out))) hb)
     have n3_ := Aside0.mk (hbox)
     have n4_ := Aside0.mk ((by rw [hg]; exact (below_size (by repeat (with_reducible (first | exact HB.out | apply bA_ | apply bN_ | apply bD_ | refine bS_ ?_ GE291.out | refine bS_ ?_ GE303.out)))) : w.heap.size ≤ gb304))
     have n5_ := Aside0.mk ((by rw [hg]; exact (below_size (by repeat (with_reducible (first | exact HB.out | apply bA_ | apply bN_ | apply bD_ | refine bS_ ?_ GE291.out | refine bS_ ?_ GE303.out)))) : w.heap.size ≤ gb304))
     have n6_ := Aside0.mk ((by rw [hg]; exact Nat.ne_of_lt (blk_lt (g := gb291) (o := .cells #[.int .i64 a0_0, .int .i64 a0_1, .int .i64 a0_2] 39 (0, 0)) (peel_ BK291.out)) : gb291 ≠ gb304))
     have n7_ := Aside0.mk ((by rw [hg]; exact Nat.ne_of_gt (blk_lt (g := gb291) (o := .cells #[.int .i64 a0_0, .int .i64 a0_1, .int .i64 a0_2] 39 (0, 0)) (peel_ BK291.out)) : gb304 ≠ gb291))
     have n8_ := Aside0.mk ((by rw [hg]; exact Nat.ne_of_lt (blk_lt (g := gb303) (o := .cells #[.int .i64 0, .int .i64 0, .string (⟨#[]⟩ : ByteArray)] 24 (0, 0)) (peel_ BK303.out)) : gb303 ≠ gb304))
     have n9_ := Aside0.mk ((by rw [hg]; exact Nat.ne_of_gt (blk_lt (g := gb303) (o := .cells #[.int .i64 0, .int .i64 0, .string (⟨#[]⟩ : ByteArray)] 24 (0, 0)) (peel_ BK303.out)) : gb304 ≠ gb303))
     clear BK291
     clear BK303
     clear HB
     have BK291 := n0_
     have BK303 := n1_
     have HB := n2_
     have BK304 := n3_
     have GW304 := n4_
     have GE304 := n5_
     have NB291_304 := n6_
     have NB304_291 := n7_
     have NB303_304 := n8_
     have NB304_303 := n9_
     clear n0_ n1_ n2_ n3_ n4_ n5_ n6_ n7_ n8_ n9_
     clear hb hbox hg
     refine hK.out _ _ ⟨(blk_cell BK291.out 0).trans rfl, (blk_cell BK291.out 1).trans rfl, (blk_cell BK291.out 2).trans rfl⟩ (fun hHeld => ?_)
     clear hK K
     refine norm_ (a' := ?_) ?_ ?_
     rotate_left
     ·show Act.put _ (some 8) _ = _
      simp only [Act.put, s1_, s2_, s3_, i64_w, i32_w]
      rfl
     exact norm_ (by simp only [putAll, Act.put, s1_, s2_, s3_] <;> rfl) (hJ2_5_7_10_13_16_17_18 (gb303, gb304) _ ⟨hHeld, (peel_ BK291.out), (peel_ BK303.out), (peel_ BK304.out), GW303.out, GE303.out, NB291_303.out, NB303_291.out, NB304_303.out, NB303_304.out, GW304.out, GE304.out, NB291_304.out, NB304_291.out, (by repeat (with_reducible (first | exact HB.out | apply bA_ | apply bN_ | apply bD_ | refine bS_ ?_ GE291.out | refine bS_ ?_ GE303.out | refine bS_ ?_ GE304.out)))⟩)
   rintro ⟨gb303, gb304⟩ w21 ⟨hS_, h0_, h1_, h2_, h3_, h4_, h5_, h6_, h7_, h8_, h9_, h10_, h11_, h12_, h13_⟩
   have n0_ : Aside0 (w21.heap[gb291]? = some (.cells #[.int .i64 a0_0, .int .i64 a0_1, .int .i64 a0_2] 39 (0, 0))) := ⟨h0_⟩
   have n1_ : Aside0 (w21.heap[gb303]? = some (.cells #[.int .i64 0, .int .i64 0, .string (⟨#[]⟩ : ByteArray)] 24 (0, 0))) := ⟨h1_⟩
   have n2_ : Aside0 (w21.heap[gb304]? = some (.cells #[.int .i64 0, .int .i64 0, .string (⟨#[]⟩ : ByteArray)] 24 (0, 0))) := ⟨h2_⟩
   have n3_ : Aside0 (w.heap.size ≤ gb303) := ⟨h3_⟩
   have n4_ : Aside0 (w.heap.size ≤ gb303) := ⟨h4_⟩
   have n5_ : Aside0 (gb291 ≠ gb303) := ⟨h5_⟩
   have n6_ : Aside0 (gb303 ≠ gb291) := ⟨h6_⟩
   have n7_ : Aside0 (gb304 ≠ gb303) := ⟨h7_⟩
   have n8_ : Aside0 (gb303 ≠ gb304) := ⟨h8_⟩
   have n9_ : Aside0 (w.heap.size ≤ gb304) := ⟨h9_⟩
   have n10_ : Aside0 (w.heap.size ≤ gb304) := ⟨h10_⟩
   have n11_ : Aside0 (gb291 ≠ gb304) := ⟨h11_⟩
   have n12_ : Aside0 (gb304 ≠ gb291) := ⟨h12_⟩
   have n13_ : Aside0 (Below w.heap.size w w21) := ⟨h13_⟩
   clear BK291
   clear HB
   clear h0_ h1_ h2_ h3_ h4_ h5_ h6_ h7_ h8_ h9_ h10_ h11_ h12_ h13_
   have BK291 := n0_
   have BK303 := n1_
   have BK304 := n2_
   have GW303 := n3_
   have GE303 := n4_
   have NB291_303 := n5_
   have NB303_291 := n6_
   have NB304_303 := n7_
   have NB303_304 := n8_
   have GW304 := n9_
   have GE304 := n10_
   have NB291_304 := n11_
   have NB304_291 := n12_
   have HB := n13_
   clear n0_ n1_ n2_ n3_ n4_ n5_ n6_ n7_ n8_ n9_ n10_ n11_ n12_ n13_
   have hHeld : w21.cell? ⟨gb291, 0, none⟩ = some (.int .i64 a0_0) ∧ w21.cell? ⟨gb291, 1, none⟩ = some (.int .i64 a0_1) ∧ w21.cell? ⟨gb291, 2, none⟩ = some (.int .i64 a0_2) := hS_
   refine norm_ (a' := ?_) ?_ ?_
   rotate_left
   ·simp only [putAll, Act.put, s1_, s2_, s3_]
    rfl
   refine one_ (i := 19) (N := none) #[true, true, true, true, true, true, true, true, true, true, true, true, true, true, true, true, true, true, true, true, false] rfl rfl (one_of HT_.out (by kernel_rfl)) (by decide) (fun K hK => ?_)
   have hs22 : w21.cell? ⟨gb303, 0, none⟩ = some (.int .i64 0) := (blk_cell BK303.out 0).trans rfl
   have hfs22 := blk_frozen BK303.out 0
   have hns22_0 := NB291_303.out
   have hns22_2 := NB304_303.out
   have hms22_0 := NB303_291.out
   have hms22_2 := NB303_304.out
   have hs23 : w21.cell? ⟨gb303, 1, none⟩ = some (.int .i64 0) := (blk_cell BK303.out 1).trans rfl
   have hfs23 := blk_frozen BK303.out 1
   have hns23_0 := NB291_303.out
   have hns23_2 := NB304_303.out
   have hms23_0 := NB303_291.out
   have hms23_2 := NB303_304.out
   have hs24 : w21.cell? ⟨gb303, 2, none⟩ = some (.string (⟨#[]⟩ : ByteArray)) := (blk_cell BK303.out 2).trans rfl
   have hfs24 := blk_frozen BK303.out 2
   have hns24_0 := NB291_303.out
   have hns24_2 := NB304_303.out
   have hms24_0 := NB303_291.out
   have hms24_2 := NB303_304.out
   refine skip_ (w1 := ?_) (by rfl) rfl ?_ ?_
   rotate_left
   ·go_simp
    rfl
   refine hK.out _ _ ⟨((cell_far (p := ⟨gb303, _, none⟩) NB291_303.out _).trans (((cell_far (p := ⟨gb303, _, none⟩) NB291_303.out _).trans (((cell_far (p := ⟨gb303, _, none⟩) NB291_303.out _).trans (hHeld.1)))))), ((cell_far (p := ⟨gb303, _, none⟩) NB291_303.out _).trans (((cell_far (p := ⟨gb303, _, none⟩) NB291_303.out _).trans (((cell_far (p := ⟨gb303, _, none⟩) NB291_303.out _).trans (hHeld.2.1)))))), ((cell_far (p := ⟨gb303, _, none⟩) NB291_303.out _).trans (((cell_far (p := ⟨gb303, _, none⟩) NB291_303.out _).trans (((cell_far (p := ⟨gb303, _, none⟩) NB291_303.out _).trans (hHeld.2.2))))))⟩ (fun hHeld => ?_)
   clear hK K
   refine one_ (i := 20) (N := none) #[true, true, true, true, true, true, true, true, true, true, true, true, true, true, true, true, true, true, true, true, true] rfl rfl (one_of HT_.out (by kernel_rfl)) (by decide) (fun K hK => ?_)
   have hs25 : w21.cell? ⟨gb304, 0, none⟩ = some (.int .i64 0) := (blk_cell BK304.out 0).trans rfl
   have hfs25 := blk_frozen BK304.out 0
   have hns25_0 := NB291_304.out
   have hns25_1 := NB303_304.out
   have hms25_0 := NB304_291.out
   have hms25_1 := NB304_303.out
   have hs26 : w21.cell? ⟨gb304, 1, none⟩ = some (.int .i64 0) := (blk_cell BK304.out 1).trans rfl
   have hfs26 := blk_frozen BK304.out 1
   have hns26_0 := NB291_304.out
   have hns26_1 := NB303_304.out
   have hms26_0 := NB304_291.out
   have hms26_1 := NB304_303.out
   have hs27 : w21.cell? ⟨gb304, 2, none⟩ = some (.string (⟨#[]⟩ : ByteArray)) := (blk_cell BK304.out 2).trans rfl
   have hfs27 := blk_frozen BK304.out 2
   have hns27_0 := NB291_304.out
   have hns27_1 := NB303_304.out
   have hms27_0 := NB304_291.out
   have hms27_1 := NB304_303.out
   refine skip_ (w1 := ?_) (by rfl) rfl ?_ ?_
   rotate_left
   ·go_simp
    rfl
   refine hK.out _ _ ⟨((cell_far (p := ⟨gb304, _, none⟩) NB291_304.out _).trans (((cell_far (p := ⟨gb304, _, none⟩) NB291_304.out _).trans (((cell_far (p := ⟨gb304, _, none⟩) NB291_304.out _).trans (hHeld.1)))))), ((cell_far (p := ⟨gb304, _, none⟩) NB291_304.out _).trans (((cell_far (p := ⟨gb304, _, none⟩) NB291_304.out _).trans (((cell_far (p := ⟨gb304, _, none⟩) NB291_304.out _).trans (hHeld.2.1)))))), ((cell_far (p := ⟨gb304, _, none⟩) NB291_304.out _).trans (((cell_far (p := ⟨gb304, _, none⟩) NB291_304.out _).trans (((cell_far (p := ⟨gb304, _, none⟩) NB291_304.out _).trans (hHeld.2.2))))))⟩ (fun hHeld => ?_)
   clear hK K
   refine done_ (done_of HT_.out (by kernel_rfl)) ?_
   go_upto_block 0 with (fail)
   go_cut [9] (fun v9 wc => ∃ (kq : Nat) (x9_12 : List Int), Aside0 (corncriblaw02_MatrixRows.j1 kq x9_12 t295 t296 t297 t300 t301 t302 = some r) ∧ Aside0 (kq ≤ k) ∧ Aside0 (Kd.R (Kd.int .i64) 3 wc w.heap.size (fun _ => True) v9 x9_12) ∧ Aside0 (wc.heap[gb291]? = some (.cells #[.int .i64 a0_0, .int .i64 a0_1, .int .i64 a0_2] 39 (0, 0))) ∧ Aside0 (wc.heap[gb303]? = some (.cells #[.int .i64 t295, .int .i64 t296, .string t297] 24 (0, 0))) ∧ Aside0 (wc.heap[gb304]? = some (.cells #[.int .i64 t300, .int .i64 t301, .string t302] 24 (0, 0))) ∧ Aside0 (Below w.heap.size w wc))
   case first =>
    have H := HC13.out
    clear HC13
    have H' := Aside0.mk H
    clear H
    go_wp2
    go_loopg [9, 10] k (fun kq v9 v10 w' => ∃ (x9_1 : List Int) (x10_1 : Int), v10 = .int .i64 x10_1 ∧ Aside0 (corncriblaw02_MatrixRows.l0 kq l2 x9_1 x10_1 t295 t296 t297 t300 t301 t302 = some r) ∧ Aside0 (kq ≤ k) ∧ Aside0 (Kd.R (Kd.int .i64) 3 w' w.heap.size (fun _ => True) v9 x9_1) ∧ Aside0 (w'.heap[gb291]? = some (.cells #[.int .i64 a0_0, .int .i64 a0_1, .int .i64 a0_2] 39 (0, 0))) ∧ Aside0 (w'.heap[gb303]? = some (.cells #[.int .i64 t295, .int .i64 t296, .string t297] 24 (0, 0))) ∧ Aside0 (w'.heap[gb304]? = some (.cells #[.int .i64 t300, .int .i64 t301, .string t302] 24 (0, 0))) ∧ Aside0 (Below w.heap.size w w'))
    case atStart => exact ⟨(([] : List Int)), (0), (by first | rfl | (simp; done) | (simp [*]; done) | (simp [bne_nil_]; done)), H', ⟨Nat.le_refl _⟩, ⟨by first | exact Kd.R_nil _ _ _ _ _ | exact Kd.N_nil _ _ _ _ _ | exact Kd.V_nil _ _ _ _ _ | exact Kd.Q_nil _ _ _ _ _ | exact Kd.S_nil _ _ _ _ _⟩, ⟨by (with_reducible repeat (first | refine blk_drewN ?_ _ | refine blk_drew ?_ | refine blk_alloc ?_ _)); refine blk_far ?_ NB291_304.out _; (with_reducible repeat (first | refine blk_drewN ?_ _ | refine blk_drew ?_ | refine blk_alloc ?_ _)); refine blk_far ?_ NB291_304.out _; (with_reducible repeat (first | refine blk_drewN ?_ _ | refine blk_drew ?_ | refine blk_alloc ?_ _)); refine blk_far ?_ NB291_304.out _; (with_reducible repeat (first | refine blk_drewN ?_ _ | refine blk_drew ?_ | refine blk_alloc ?_ _)); refine blk_far ?_ NB291_303.out _; (with_reducible repeat (first | refine blk_drewN ?_ _ | refine blk_drew ?_ | refine blk_alloc ?_ _)); refine blk_far ?_ NB291_303.out _; (with_reducible repeat (first | refine blk_drewN ?_ _ | refine blk_drew ?_ | refine blk_alloc ?_ _)); refine blk_far ?_ NB291_303.out _; (with_reducible repeat (first | refine blk_drewN ?_ _ | refine blk_drew ?_ | refine blk_alloc ?_ _)); exact BK291.out⟩, ⟨by (with_reducible repeat (first | refine blk_drewN ?_ _ | refine blk_drew ?_ | refine blk_alloc ?_ _)); refine blk_far ?_ NB303_304.out _; (with_reducible repeat (first | refine blk_drewN ?_ _ | refine blk_drew ?_ | refine blk_alloc ?_ _)); refine blk_far ?_ NB303_304.out _; (with_reducible repeat (first | refine blk_drewN ?_ _ | refine blk_drew ?_ | refine blk_alloc ?_ _)); refine blk_far ?_ NB303_304.out _; (with_reducible repeat (first | refine blk_drewN ?_ _ | refine blk_drew ?_ | refine blk_alloc ?_ _)); refine blk_put (cs := #[.int .i64 t295, .int .i64 t296, .string (⟨#[]⟩ : ByteArray)]) ?_ 2 _ rfl; (with_reducible repeat (first | refine blk_drewN ?_ _ | refine blk_drew ?_ | refine blk_alloc ?_ _)); refine blk_put (cs := #[.int .i64 t295, .int .i64 0, .string (⟨#[]⟩ : ByteArray)]) ?_ 1 _ rfl; (with_reducible repeat (first | refine blk_drewN ?_ _ | refine blk_drew ?_ | refine blk_alloc ?_ _)); refine blk_put (cs := #[.int .i64 0, .int .i64 0, .string (⟨#[]⟩ : ByteArray)]) ?_ 0 _ rfl; (with_reducible repeat (first | refine blk_drewN ?_ _ | refine blk_drew ?_ | refine blk_alloc ?_ _)); exact BK303.out⟩, ⟨by (with_reducible repeat (first | refine blk_drewN ?_ _ | refine blk_drew ?_ | refine blk_alloc ?_ _)); refine blk_put (cs := #[.int .i64 t300, .int .i64 t301, .string (⟨#[]⟩ : ByteArray)]) ?_ 2 _ rfl; (with_reducible repeat (first | refine blk_drewN ?_ _ | refine blk_drew ?_ | refine blk_alloc ?_ _)); refine blk_put (cs := #[.int .i64 t300, .int .i64 0, .string (⟨#[]⟩ : ByteArray)]) ?_ 1 _ rfl; (with_reducible repeat (first | refine blk_drewN ?_ _ | refine blk_drew ?_ | refine blk_alloc ?_ _)); refine blk_put (cs := #[.int .i64 0, .int .i64 0, .string (⟨#[]⟩ : ByteArray)]) ?_ 0 _ rfl; (with_reducible repeat (first | refine blk_drewN ?_ _ | refine blk_drew ?_ | refine blk_alloc ?_ _)); refine blk_far ?_ NB304_303.out _; (with_reducible repeat (first | refine blk_drewN ?_ _ | refine blk_drew ?_ | refine blk_alloc ?_ _)); refine blk_far ?_ NB304_303.out _; (with_reducible repeat (first | refine blk_drewN ?_ _ | refine blk_drew ?_ | refine blk_alloc ?_ _)); refine blk_far ?_ NB304_303.out _; (with_reducible repeat (first | refine blk_drewN ?_ _ | refine blk_drew ?_ | refine blk_alloc ?_ _)); exact BK304.out⟩, ⟨by repeat (with_reducible (first | exact HB.out | apply bA_ | apply bN_ | apply bD_ | refine bS_ ?_ GE291.out | refine bS_ ?_ GE303.out | refine bS_ ?_ GE304.out))⟩⟩
    case round =>
     clear H'
     (try clear c2); (try clear p2); (try clear c23); (try clear c24)
     obtain ⟨x9_1, x10_1, rfl, HA, HK1, HO_9, BK291, BK303, BK304, HB⟩ := hrel
     cases gk with
     |zero => exact absurd HA.out (by simp [corncriblaw02_MatrixRows.l0])
     |succ k1 =>
      have H := HA.out
      clear HA
      simp only [corncriblaw02_MatrixRows.l0] at H
      by_cases c28 : x10_1 < (l2.length : Int)
      ·rw [if_pos c28] at H
       have c28b0 : decide (x10_1 < (l2.length : Int)) = true := decide_eq_true c28
       clear c28
       (first | rw [c28b0] | (simp only [i64_w, i32_w]; rw [c28b0]) | skip)
       by_cases c29 : x10_1 < 10
       ·rw [if_pos c29] at H
        have c29b0 : decide (x10_1 < 10) = true := decide_eq_true c29
        clear c29
        by_cases c30 : 0 ≤ x10_1
        ·rw [if_pos c30] at H
         have c30b0 : decide (0 ≤ x10_1) = true := decide_eq_true c30
         clear c30
         replace H := Option.bind_eq_some_iff.mp H
         obtain ⟨t306, A310, H⟩ := H
         replace H : (if x9_1.length < 17592186044416 then (corncriblaw02_MatrixRows.l0 k1 l2 (x9_1 ++ [t306]) (wrap64 (x10_1 + 1)) t295 t296 t297 t300 t301 t302) else (none)) = some r := H
         have A31 := Aside0.mk A310
         clear A310
         by_cases c32 : x9_1.length < 17592186044416
         ·rw [if_pos c32] at H
          have LMc32 := Aside0.mk c32
          clear c32
          obtain ⟨y307, hy307⟩ : ∃ y_ : List Int, y_ = (x9_1 ++ [t306]) := ⟨_, rfl⟩
          replace H : (corncriblaw02_MatrixRows.l0 k1 l2 y307 (wrap64 (x10_1 + 1)) t295 t296 t297 t300 t301 t302) = some r := by first | (rw [hy307]; with_reducible exact H) | (have H2_ := (Option.bind_some _ _).symm.trans H; rw [hy307]; with_reducible exact H2_) | (have H2_ := (Option.bind_some _ _).symm.trans H; with_reducible exact H2_) | with_reducible exact H | (rw [hy307]; exact H) | exact H
          have Ny307 := Aside0.mk hy307
          clear hy307
          have H' := Aside0.mk H
          clear H
          try go_wp2
          have n0_ := Aside0.mk (Kd.R_drew HO_9.out)
          have n1_ := Aside0.mk (blk_drew BK291.out)
          have n2_ := Aside0.mk (blk_drew BK303.out)
          have n3_ := Aside0.mk (blk_drew BK304.out)
          have n4_ := Aside0.mk (below_drew1 HB.out)
          clear HO_9
          clear BK291
          clear BK303
          clear BK304
          clear HB
          have HO_9 := n0_
          have BK291 := n1_
          have BK303 := n2_
          have BK304 := n3_
          have HB := n4_
          clear n0_ n1_ n2_ n3_ n4_
          have p305 : 0 ≤ (x10_1 : Int) := of_decide_eq_true (by first | (with_reducible assumption) | assumption)
          have q305 : x10_1 < (l2.length : Int) := of_decide_eq_true (by first | (with_reducible assumption) | assumption)
          obtain ⟨ad305, e305, hx305_0⟩ := Kd.at_int HR2.out x10_1 p305 q305
          have hw305_0 := hx305_0
          cases e305
          replace hx305_0 := (HB.out.cell (World.block_lt_of_cell? w _ hx305_0)).trans hx305_0
          replace p305 := eq_true p305
          replace q305 := eq_true q305
          refine start_ (n := 11) (S := fun w' => w'.cell? ⟨gb303, 0, none⟩ = some (.int .i64 t295) ∧ w'.cell? ⟨gb303, 1, none⟩ = some (.int .i64 t296) ∧ w'.cell? ⟨gb303, 2, none⟩ = some (.string t297) ∧ w'.cell? (ad305.add (x10_1).toNat) = some (.int .i64 (rd l2 x10_1))) (ds := []) #[false, false, false, false, false, false, false, false, false, false, false] (by kernel_rfl) rfl rfl ⟨(blk_cell BK303.out 0).trans rfl, (blk_cell BK303.out 1).trans rfl, (blk_cell BK303.out 2).trans rfl, ((HB.out.cell (World.block_lt_of_cell? w _ hw305_0)).trans hw305_0)⟩ (fun hHeld => ?_); refine with_tabW corncriblaw02_MatrixRows.tab8 corncriblaw02_MatrixRows.bits8 (fun HT_ HW_ => ?_)
          generalize wr.drew = w33 at HO_9 BK291 BK303 BK304 HB hx305_0 hHeld ⊢
          refine pure_ (i := 0) (N := some 48) (v := ?_) (a' := ?_) #[true, false, false, false, false, false, false, false, false, false, false] rfl rfl (any_of HT_.out (by kernel_rfl)) (fun _ _ _ h => h) (Or.inl ⟨by rfl, ?_⟩) ?_ ?_
          rotate_left
          ·intro w'
           go_simp
           with_reducible rfl
          rotate_left
          ·simp only [Act.put, s1_, s2_, s3_, i64_w, i32_w]
           rfl
          refine pure_ (i := 1) (N := some 49) (v := ?_) (a' := ?_) #[true, true, false, false, false, false, false, false, false, false, false] rfl rfl (any_of HT_.out (by kernel_rfl)) (fun _ _ _ h => h) (Or.inl ⟨by rfl, ?_⟩) ?_ ?_
          rotate_left
          ·intro w'
           go_simp
           with_reducible rfl
          rotate_left
          ·simp only [Act.put, s1_, s2_, s3_, i64_w, i32_w]
           rfl
          refine pure_ (i := 2) (N := some 50) (v := ?_) (a' := ?_) #[true, true, true, false, false, false, false, false, false, false, false] rfl rfl (any_of HT_.out (by kernel_rfl)) (fun _ _ _ h => h) (Or.inl ⟨by rfl, ?_⟩) ?_ ?_
          rotate_left
          ·intro w'
           go_simp
           with_reducible rfl
          rotate_left
          ·simp only [Act.put, s1_, s2_, s3_, i64_w, i32_w]
           rfl
          refine pure_ (i := 3) (N := some 51) (v := ?_) (a' := ?_) #[true, true, true, true, false, false, false, false, false, false, false] rfl rfl (any_of HT_.out (by kernel_rfl)) (fun _ _ _ h => h) (Or.inl ⟨by rfl, ?_⟩) ?_ ?_
          rotate_left
          ·intro w'
           go_simp
           with_reducible rfl
          rotate_left
          ·simp only [Act.put, s1_, s2_, s3_, i64_w, i32_w]
           rfl
          refine pure_ (i := 5) (N := some 53) (v := ?_) (a' := ?_) #[true, true, true, true, false, true, false, false, false, false, false] rfl rfl (any_of HT_.out (by kernel_rfl)) (fun _ _ _ h => h) (Or.inl ⟨by rfl, ?_⟩) ?_ ?_
          rotate_left
          ·intro w'
           go_simp
           with_reducible rfl
          rotate_left
          ·simp only [Act.put, s1_, s2_, s3_, i64_w, i32_w]
           rfl
          refine take_ (i := 4) (N := some 52) (v := ?_) (a' := ?_) #[true, true, true, true, true, true, false, false, false, false, false] rfl rfl (take_ofW HT_.out HW_.out (by kernel_rfl)) (fun _ _ _ h => h) (Or.inl ⟨by rfl, ?_⟩) hHeld ?_ ?_
          rotate_left
          ·rintro w' ⟨s0, s1, s2, s3⟩
           go_simp
           with_reducible rfl
          rotate_left
          ·simp only [Act.put, s1_, s2_, s3_, i64_w, i32_w]
           rfl
          refine take_ (i := 6) (N := some 54) (v := ?_) (a' := ?_) #[true, true, true, true, true, true, true, false, false, false, false] rfl rfl (take_ofW HT_.out HW_.out (by kernel_rfl)) (fun _ _ _ h => h) (Or.inl ⟨by rfl, ?_⟩) hHeld ?_ ?_
          rotate_left
          ·rintro w' ⟨s0, s1, s2, s3⟩
           go_simp
           with_reducible rfl
          rotate_left
          ·simp only [Act.put, s1_, s2_, s3_, i64_w, i32_w]
           rfl
          refine one_ (i := 7) (N := some 55) #[true, true, true, true, true, true, true, true, false, false, false] rfl rfl (one_of HT_.out (by kernel_rfl)) (by decide) (fun K hK => ?_)
          refine goes_ Try.func25 (by kernel_rfl) rfl #[.int .i64 (rd l2 x10_1), .int .i64 t295] (by rfl) rfl rfl (by (try simp only [List.map_toArray, List.map_cons, List.map_nil]); first | done | rfl | (simp only [List.length_drop, List.length_take]; rfl)) ?_
          with_reducible refine (corncribbook_Among.calls (rd l2 x10_1) t295 t306 _ A31.out).mono ?_
          rintro e w' ⟨rfl, ⟨nd, rfl⟩⟩
          refine ⟨_, rfl, ?_⟩
          refine hK.out _ _ ⟨(blk_cell BK303.out 0).trans rfl, (blk_cell BK303.out 1).trans rfl, (blk_cell BK303.out 2).trans rfl, ((HB.out.cell (World.block_lt_of_cell? w _ hw305_0)).trans hw305_0)⟩ (fun hHeld => ?_)
          clear hK K
          refine norm_ (a' := ?_) ?_ ?_
          rotate_left
          ·show Act.put _ (some 55) _ = _
           simp only [Act.put, s1_, s2_, s3_, i64_w, i32_w]
           rfl
          refine one_ (i := 8) (N := some 56) #[true, true, true, true, true, true, true, true, true, false, false] rfl rfl (one_of HT_.out (by kernel_rfl)) (by decide) (fun K hK => ?_)
          refine value_ (w1 := ?_) (v := ?_) (by rfl) rfl ?_ ?_
          rotate_left 2
          ·go_simp
           constructor
           ·rfl
           ·rfl
          refine hK.out _ _ ⟨(blk_cell (blk_alloc BK303.out _) 0).trans rfl, (blk_cell (blk_alloc BK303.out _) 1).trans rfl, (blk_cell (blk_alloc BK303.out _) 2).trans rfl, (World.cell?_alloc_lt _ _ _ (World.block_lt_of_cell? _ _ (((HB.out.cell (World.block_lt_of_cell? w _ hw305_0)).trans hw305_0)))).trans (((HB.out.cell (World.block_lt_of_cell? w _ hw305_0)).trans hw305_0))⟩ (fun hHeld => ?_)
          clear hK K
          refine norm_ (a' := ?_) ?_ ?_
          rotate_left
          ·show Act.put _ (some 56) _ = _
           simp only [Act.put, s1_, s2_, s3_, i64_w, i32_w]
           rfl
          refine one_ (i := 9) (N := some 57) #[true, true, true, true, true, true, true, true, true, true, false] rfl rfl (one_of HT_.out (by kernel_rfl)) (by decide) (fun K hK => ?_)
          refine Kd.R_append_step (Kd.int .i64) (w0 := w) w.heap.size (by rfl) (.tmp 48) (.tmp 56) 29 3 (.int .i64 0) 8 rfl Try.underlying29 info3 rfl (by decide) (by omega) u9 x9_1 t306 [.int .i64 t306] (fun _ => True) (fun _ => False) rfl rfl ?aP (fun _ hk => hk.elim) ?aF ?aO ?aB ?aS ?aL ?_
          (case aP => exact rfl)
          (case aB => exact (by repeat (with_reducible (first | exact HB.out | apply bA_ | apply bN_ | apply bD_ | refine bS_ ?_ GE291.out | refine bS_ ?_ GE303.out | refine bS_ ?_ GE304.out))))
          (case aF => exact (fun _ _ => trivial))
          (case aO => exact (by (with_reducible repeat (first | apply Kd.R_alloc | apply Kd.R_drewN | apply Kd.R_drew)); exact HO_9.out))
          (case aS => exact (below_size (by repeat (with_reducible (first | exact HB.out | apply bA_ | apply bN_ | apply bD_ | refine bS_ ?_ GE291.out | refine bS_ ?_ GE303.out | refine bS_ ?_ GE304.out)))))
          (case aL => have := LMc32.out; omega)
          intro v308 w34 ho hb hg hat
          rw [← Ny307.out] at ho
          have n0_ := Aside0.mk (blk_grown (g := gb291) (o := .cells #[.int .i64 a0_0, .int .i64 a0_1, .int .i64 a0_2] 39 (0, 0)) (peel_ BK291.out) hg (Kd.R_ne HO_9.out BK291.out (by decide)))
          have n1_ := Aside0.mk (blk_grown (g := gb303) (o := .cells #[.int .i64 t295, .int .i64 t296, .string t297] 24 (0, 0)) (peel_ BK303.out) hg (Kd.R_ne HO_9.out BK303.out (by decide)))
          have n2_ := Aside0.mk (blk_grown (g := gb304) (o := .cells #[.int .i64 t300, .int .i64 t301, .string t302] 24 (0, 0)) (peel_ BK304.out) hg (Kd.R_ne HO_9.out BK304.out (by decide)))
          have n3_ := Aside0.mk (hb)
          have n4_ := Aside0.mk (ho)
          clear BK291
          clear BK303
          clear BK304
          clear HB
          clear HO_9
          have BK291 := n0_
          have BK303 := n1_
          have BK304 := n2_
          have HB := n3_
          have HO309 := n4_
          clear n0_ n1_ n2_ n3_ n4_
          clear ho hb hg hat
          refine hK.out _ _ ⟨(blk_cell BK303.out 0).trans rfl, (blk_cell BK303.out 1).trans rfl, (blk_cell BK303.out 2).trans rfl, ((HB.out.cell (World.block_lt_of_cell? w _ hw305_0)).trans hw305_0)⟩ (fun hHeld => ?_)
          clear hK K
          refine norm_ (a' := ?_) ?_ ?_
          rotate_left
          ·show Act.put _ (some 57) _ = _
           simp only [Act.put, s1_, s2_, s3_, i64_w, i32_w]
           rfl
          refine pure_ (i := 10) (N := some 9) (v := ?_) (a' := ?_) #[true, true, true, true, true, true, true, true, true, true, true] rfl rfl (any_of HT_.out (by kernel_rfl)) (fun _ _ _ h => h) (Or.inl ⟨by rfl, ?_⟩) ?_ ?_
          rotate_left
          ·intro w'
           go_simp
           with_reducible rfl
          rotate_left
          ·simp only [Act.put, s1_, s2_, s3_, i64_w, i32_w]
           rfl
          refine done_ (done_of HT_.out (by kernel_rfl)) ?_
          try go_wp2
          go_roundg k1
          case measure => have := HK1.out; omega
          case rel => exact ⟨(y307), (wrap64 (x10_1 + 1)), (by first | rfl | (simp; done) | (simp [*]; done) | (simp [bne_nil_]; done)), H', ⟨by have := HK1.out; omega⟩, ⟨by (with_reducible repeat (first | apply Kd.R_alloc | apply Kd.R_drewN | apply Kd.R_drew)); exact HO309.out⟩, ⟨peel_ BK291.out⟩, ⟨peel_ BK303.out⟩, ⟨peel_ BK304.out⟩, ⟨by repeat (with_reducible (first | exact HB.out | apply bA_ | apply bN_ | apply bD_ | refine bS_ ?_ GE291.out | refine bS_ ?_ GE303.out | refine bS_ ?_ GE304.out))⟩⟩
         ·rw [if_neg c32] at H
          exact absurd H (by simp)
        ·rw [if_neg c30] at H
         exact absurd H (by simp)
       ·rw [if_neg c29] at H
        have c29b0 : decide (x10_1 < 10) = false := decide_eq_false c29
        clear c29
        have H' := Aside0.mk H
        clear H
        go_wp2
        go_meet
        case rel => exact ⟨_, (x9_1), H', ⟨by have := HK1.out; first | omega | exact Nat.le_refl _⟩, ⟨by (with_reducible repeat (first | apply Kd.R_alloc | apply Kd.R_drewN | apply Kd.R_drew)); exact HO_9.out⟩, ⟨peel_ BK291.out⟩, ⟨peel_ BK303.out⟩, ⟨peel_ BK304.out⟩, ⟨by repeat (with_reducible (first | exact HB.out | apply bA_ | apply bN_ | apply bD_ | refine bS_ ?_ GE291.out | refine bS_ ?_ GE303.out | refine bS_ ?_ GE304.out))⟩⟩
      ·rw [if_neg c28] at H
       have c28b0 : decide (x10_1 < (l2.length : Int)) = false := decide_eq_false c28
       clear c28
       (first | rw [c28b0] | (simp only [i64_w, i32_w]; rw [c28b0]) | skip)
       have H' := Aside0.mk H
       clear H
       go_wp2
       go_meet
       case rel => exact ⟨_, (x9_1), H', ⟨by have := HK1.out; first | omega | exact Nat.le_refl _⟩, ⟨by (with_reducible repeat (first | apply Kd.R_alloc | apply Kd.R_drewN | apply Kd.R_drew)); exact HO_9.out⟩, ⟨peel_ BK291.out⟩, ⟨peel_ BK303.out⟩, ⟨peel_ BK304.out⟩, ⟨by repeat (with_reducible (first | exact HB.out | apply bA_ | apply bN_ | apply bD_ | refine bS_ ?_ GE291.out | refine bS_ ?_ GE303.out | refine bS_ ?_ GE304.out))⟩⟩
   case rest =>
    clear HC13
    (try clear c2); (try clear p2); (try clear c3); (try clear p3); (try clear q3); (try clear hx3); (try clear p6); (try clear c23); (try clear c24); (try clear c25); (try clear c28); (try clear c28b0); (try clear c29); (try clear c29b0); (try clear c30); (try clear c30b0); (try clear p30); (try clear q30); (try clear hx30); (try clear c32); (try clear hx305_0); (try clear p2); (try clear p305); (try clear q305)
    obtain ⟨kq, x9_12, HA, HJ12, HO_9, BK291, BK303, BK304, HB⟩ := hcut
    cases kq with
    |zero => exact absurd HA.out (by simp [corncriblaw02_MatrixRows.j1])
    |succ kj12 =>
     have H := HA.out
     clear HA
     simp only [corncriblaw02_MatrixRows.j1] at H
     by_cases c35 : (x9_12.length : Int) = 0
     ·rw [if_pos c35] at H
      have c35b0 : ((x9_12.length : Int) == 0) = true := beq_iff_eq.mpr c35
      have c35b1 : ((x9_12.length : Int) != 0) = false := bne_eq_false_iff_eq.mpr c35
      clear c35
      obtain rfl := Option.some.inj H
      obtain ⟨Ao36, co36, eo36⟩ := Kd.R_slice HO_9.out
      subst eo36
      go_wp2
      go_ret
      exact ⟨by first | rfl | (simp [errW_none, errW_some] <;> rfl) | (simp [*, errW_none, errW_some] <;> rfl), by repeat (with_reducible (first | exact HB.out | apply bA_ | apply bN_ | apply bD_ | refine bS_ ?_ GE291.out | refine bS_ ?_ GE303.out | refine bS_ ?_ GE304.out))⟩
     ·rw [if_neg c35] at H
      have c35b0 : ((x9_12.length : Int) == 0) = false := beq_eq_false_iff_ne.mpr c35
      have c35b1 : ((x9_12.length : Int) != 0) = true := bne_iff_ne.mpr c35
      have c35b2 : ¬ (x9_12 = []) := fun h_ => c35 (by rw [h_]; rfl)
      replace H := Option.bind_eq_some_iff.mp H
      obtain ⟨⟨t310, t311, t312, t313⟩, A370, H⟩ := H
      replace H : ((matrix_Pick.f t310 t311 t312 x9_12).bind fun bt315 => ((matrix_Pick.f t295 t296 t297 x9_12).bind fun bt320 => ((matrix_Mul.f bt320.1 bt320.2.1 bt320.2.2.1 t300 t301 t302).bind fun bt325 => (if t313 = 0 then (if bt315.2.2.2 = 0 then (if bt320.2.2.2 = 0 then (if bt325.2.2.2 = 0 then (some (bt315.1 == bt325.1 && (bt315.2.1 == bt325.2.1 && (bt315.2.2.1.toList == bt325.2.2.1.toList)))) else (some false)) else (some false)) else (some false)) else (some false))))) = some r := H
      have A37 := Aside0.mk A370
      clear A370
      replace H := Option.bind_eq_some_iff.mp H
      obtain ⟨⟨t315, t316, t317, t318⟩, A380, H⟩ := H
      replace H : ((matrix_Pick.f t295 t296 t297 x9_12).bind fun bt320 => ((matrix_Mul.f bt320.1 bt320.2.1 bt320.2.2.1 t300 t301 t302).bind fun bt325 => (if t313 = 0 then (if t318 = 0 then (if bt320.2.2.2 = 0 then (if bt325.2.2.2 = 0 then (some (t315 == bt325.1 && (t316 == bt325.2.1 && (t317.toList == bt325.2.2.1.toList)))) else (some false)) else (some false)) else (some false)) else (some false)))) = some r := H
      have A38 := Aside0.mk A380
      clear A380
      replace H := Option.bind_eq_some_iff.mp H
      obtain ⟨⟨t320, t321, t322, t323⟩, A390, H⟩ := H
      replace H : ((matrix_Mul.f t320 t321 t322 t300 t301 t302).bind fun bt325 => (if t313 = 0 then (if t318 = 0 then (if t323 = 0 then (if bt325.2.2.2 = 0 then (some (t315 == bt325.1 && (t316 == bt325.2.1 && (t317.toList == bt325.2.2.1.toList)))) else (some false)) else (some false)) else (some false)) else (some false))) = some r := H
      have A39 := Aside0.mk A390
      clear A390
      replace H := Option.bind_eq_some_iff.mp H
      obtain ⟨⟨t325, t326, t327, t328⟩, A400, H⟩ := H
      replace H : (if t313 = 0 then (if t318 = 0 then (if t323 = 0 then (if t328 = 0 then (some (t315 == t325 && (t316 == t326 && (t317.toList == t327.toList)))) else (some false)) else (some false)) else (some false)) else (some false)) = some r := H
      have A40 := Aside0.mk A400
      clear A400
      by_cases c41 : t313 = 0
      ·rw [if_pos c41] at H
       have c41b0 : (t313 == 0) = true := beq_iff_eq.mpr c41
       have c41b1 : (t313 != 0) = false := bne_eq_false_iff_eq.mpr c41
       clear c41
       by_cases c42 : t318 = 0
       ·rw [if_pos c42] at H
        have c42b0 : (t318 == 0) = true := beq_iff_eq.mpr c42
        have c42b1 : (t318 != 0) = false := bne_eq_false_iff_eq.mpr c42
        clear c42
        by_cases c43 : t323 = 0
        ·rw [if_pos c43] at H
         have c43b0 : (t323 == 0) = true := beq_iff_eq.mpr c43
         have c43b1 : (t323 != 0) = false := bne_eq_false_iff_eq.mpr c43
         clear c43
         by_cases c44 : t328 = 0
         ·rw [if_pos c44] at H
          have c44b0 : (t328 == 0) = true := beq_iff_eq.mpr c44
          have c44b1 : (t328 != 0) = false := bne_eq_false_iff_eq.mpr c44
          clear c44
          obtain rfl := Option.some.inj H
          obtain ⟨Ao45, co45, eo45⟩ := Kd.R_slice HO_9.out
          subst eo45
          have hnb46 := NB303_291.out
          have hnc46 := NB291_303.out
          have hnb47 := NB303_304.out
          have hnc47 := NB304_303.out
          obtain ⟨hcz48_0, hfz48_0, hcz48_1, hfz48_1, hcz48_2, hfz48_2⟩ := cfz3 BK303.out
          have hnb49 := NB304_291.out
          have hnc49 := NB291_304.out
          obtain ⟨hcz50_0, hfz50_0, hcz50_1, hfz50_1, hcz50_2, hfz50_2⟩ := cfz3 BK304.out
          go_wp2_with (first | ((with_reducible refine gate_callee (f := 21) rfl ?_); refine goesL_ (some 64) rfl rfl Try.func21 (by kernel_rfl) rfl #[.agg #[.int .i64 t295, .int .i64 t296, .string t297], .agg #[.int .i64 t300, .int .i64 t301, .string t302]] rfl (by (try simp only [List.map_toArray, List.map_cons, List.map_nil]); first | done | rfl | (simp only [List.length_drop, List.length_take]; rfl)) ?_; (with_reducible refine (matrix_Mul.calls t295 t296 t297 t300 t301 t302 t310 t311 t312 t313 _ A37.out).mono ?_); rintro e w51 ⟨rfl, hb⟩; refine ⟨_, rfl, ?_⟩; have n0_ := Aside0.mk (Kd.R_below (by (with_reducible repeat (first | apply Kd.R_alloc | apply Kd.R_drewN | apply Kd.R_drew)); exact HO_9.out) hb); have n1_ := Aside0.mk (blk_below (g := gb291) (o := .cells #[.int .i64 a0_0, .int .i64 a0_1, .int .i64 a0_2] 39 (0, 0)) (peel_ BK291.out) hb); have n2_ := Aside0.mk (blk_below (g := gb303) (o := .cells #[.int .i64 t295, .int .i64 t296, .string t297] 24 (0, 0)) (peel_ BK303.out) hb); have n3_ := Aside0.mk (blk_below (g := gb304) (o := .cells #[.int .i64 t300, .int .i64 t301, .string t302] 24 (0, 0)) (peel_ BK304.out) hb); have n4_ := Aside0.mk (below_step (by repeat (with_reducible (first | exact HB.out | apply bA_ | apply bN_ | apply bD_ | refine bS_ ?_ GE291.out | refine bS_ ?_ GE303.out | refine bS_ ?_ GE304.out))) hb); clear HO_9; clear BK291; clear BK303; clear BK304; clear HB; have HO_9 := n0_; have BK291 := n1_; have BK303 := n2_; have BK304 := n3_; have HB := n4_; clear n0_ n1_ n2_ n3_ n4_; (try clear hb); (try clear hb2); (try clear hk); (try clear hi)) | ((with_reducible refine gate_dst (N := 11) rfl ?_); refine box_event ?hg (N := 11) ?hd (cs := #[.int .i64 0, .int .i64 0, .string (⟨#[]⟩ : ByteArray)]) (t := 24) ?hr ?_; (case hd => rfl); (case hg => rfl); (case hr => first | (go_simp; done) | (go_simp; rfl)); intro gb314 hg w52 hbox hb; have n0_ := Aside0.mk (Kd.R_below (by (with_reducible repeat (first | apply Kd.R_alloc | apply Kd.R_drewN | apply Kd.R_drew)); exact HO_9.out) hb); have n1_ := Aside0.mk (blk_below (g := gb291) (o := .cells #[.int .i64 a0_0, .int .i64 a0_1, .int .i64 a0_2] 39 (0, 0)) (peel_ BK291.out) hb); have n2_ := Aside0.mk (blk_below (g := gb303) (o := .cells #[.int .i64 t295, .int .i64 t296, .string t297] 24 (0, 0)) (peel_ BK303.out) hb); have n3_ := Aside0.mk (blk_below (g := gb304) (o := .cells #[.int .i64 t300, .int .i64 t301, .string t302] 24 (0, 0)) (peel_ BK304.out) hb); have n4_ := Aside0.mk (below_step (by repeat (with_reducible (first | exact HB.out | apply bA_ | apply bN_ | apply bD_ | refine bS_ ?_ GE291.out | refine bS_ ?_ GE303.out | refine bS_ ?_ GE304.out))) hb); have n5_ := Aside0.mk (hbox); have n6_ := Aside0.mk ((by rw [hg]; exact (below_size (by repeat (with_reducible (first | exact HB.out | apply bA_ | apply bN_ | apply bD_ | refine bS_ ?_ GE291.out | refine bS_ ?_ GE303.out | refine bS_ ?_ GE304.out)))) : w.heap.size ≤ gb314)); have n7_ := Aside0.mk ((by rw [hg]; exact (below_size (by repeat (with_reducible (first | exact HB.out | apply bA_ | apply bN_ | apply bD_ | refine bS_ ?_ GE291.out | refine bS_ ?_ GE303.out | refine bS_ ?_ GE304.out)))) : w.heap.size ≤ gb314)); have n8_ := Aside0.mk ((by rw [hg]; exact Nat.ne_of_lt (blk_lt (g := gb291) (o := .cells #[.int .i64 a0_0, .int .i64 a0_1, .int .i64 a0_2] 39 (0, 0)) (peel_ BK291.out)) : gb291 ≠ gb314)); have n9_ := Aside0.mk ((by rw [hg]; exact Nat.ne_of_gt (blk_lt (g := gb291) (o := .cells #[.int .i64 a0_0, .int .i64 a0_1, .int .i64 a0_2] 39 (0, 0)) (peel_ BK291.out)) : gb314 ≠ gb291)); have n10_ := Aside0.mk ((by rw [hg]; exact Nat.ne_of_lt (blk_lt (g := gb303) (o := .cells #[.int .i64 t295, .int .i64 t296, .string t297] 24 (0, 0)) (peel_ BK303.out)) : gb303 ≠ gb314)); have n11_ := Aside0.mk ((by rw [hg]; exact Nat.ne_of_gt (blk_lt (g := gb303) (o := .cells #[.int .i64 t295, .int .i64 t296, .string t297] 24 (0, 0)) (peel_ BK303.out)) : gb314 ≠ gb303)); have n12_ := Aside0.mk ((by rw [hg]; exact Nat.ne_of_lt (blk_lt (g := gb304) (o := .cells #[.int .i64 t300, .int .i64 t301, .string t302] 24 (0, 0)) (peel_ BK304.out)) : gb304 ≠ gb314)); have n13_ := Aside0.mk ((by rw [hg]; exact Nat.ne_of_gt (blk_lt (g := gb304) (o := .cells #[.int .i64 t300, .int .i64 t301, .string t302] 24 (0, 0)) (peel_ BK304.out)) : gb314 ≠ gb304)); clear HO_9; clear BK291; clear BK303; clear BK304; clear HB; have HO_9 := n0_; have BK291 := n1_; have BK303 := n2_; have BK304 := n3_; have HB := n4_; have BK314 := n5_; have GW314 := n6_; have GE314 := n7_; have NB291_314 := n8_; have NB314_291 := n9_; have NB303_314 := n10_; have NB314_303 := n11_; have NB304_314 := n12_; have NB314_304 := n13_; clear n0_ n1_ n2_ n3_ n4_ n5_ n6_ n7_ n8_ n9_ n10_ n11_ n12_ n13_; clear hb hbox hg; have hnb53 := NB314_291.out; have hnc53 := NB291_314.out; have hnb54 := NB314_303.out; have hnc54 := NB303_314.out; have hnb55 := NB314_304.out; have hnc55 := NB304_314.out; have hcz56_0 : w52.cell? ⟨gb314, 0, none⟩ = some (.int .i64 0) := (blk_cell BK314.out 0).trans rfl; have hcz56_1 : w52.cell? ⟨gb314, 1, none⟩ = some (.int .i64 0) := (blk_cell BK314.out 1).trans rfl; have hcz56_2 : w52.cell? ⟨gb314, 2, none⟩ = some (.string (⟨#[]⟩ : ByteArray)) := (blk_cell BK314.out 2).trans rfl; have hfz56_0 := blk_frozen BK314.out 0; have hfz56_1 := blk_frozen BK314.out 1; have hfz56_2 := blk_frozen BK314.out 2) | ((with_reducible refine gate_callee (f := 14) rfl ?_); refine goesL_ (some 70) rfl rfl Try.func14 (by kernel_rfl) rfl #[.agg #[.int .i64 t310, .int .i64 t311, .string t312], .slice Ao45 x9_12.length co45] rfl (by (try simp only [List.map_toArray, List.map_cons, List.map_nil]); first | done | rfl | (simp only [List.length_drop, List.length_take]; rfl)) ?_; (with_reducible refine (matrix_Pick.calls t310 t311 t312 _ _ x9_12 t315 t316 t317 t318 _ ?side1 ?side2 A38.out).mono ?_); (case side1 => refine (Kd.R_reads' (e := 3) (base := w.heap.size) (ok := fun k_ => True) (n := x9_12.length) (c := co45) ?_).2.2; exact (by (with_reducible repeat (first | apply Kd.R_alloc | apply Kd.R_drewN | apply Kd.R_drew)); exact (Kd.R_mono (Kd.R_far (p := ⟨gb314, 2, none⟩) (Kd.R_far (p := ⟨gb314, 1, none⟩) (Kd.R_far (p := ⟨gb314, 0, none⟩) (Kd.R_types HO_9.out BK314.out (by decide)) (fun _ hk => hk.2) (.int .i64 t310)) (fun _ hk => hk.2) (.int .i64 t311)) (fun _ hk => hk.2) (.string t312)) (fun _ h_ => h_.1)))); (case side2 => exact (Kd.R_reads' HO_9.out).2.1); rintro e w57 ⟨rfl, hb⟩; refine ⟨_, rfl, ?_⟩; have n0_ := Aside0.mk (Kd.R_below (by (with_reducible repeat (first | apply Kd.R_alloc | apply Kd.R_drewN | apply Kd.R_drew)); exact (Kd.R_mono (Kd.R_far (p := ⟨gb314, 2, none⟩) (Kd.R_far (p := ⟨gb314, 1, none⟩) (Kd.R_far (p := ⟨gb314, 0, none⟩) (Kd.R_types HO_9.out BK314.out (by decide)) (fun _ hk => hk.2) (.int .i64 t310)) (fun _ hk => hk.2) (.int .i64 t311)) (fun _ hk => hk.2) (.string t312)) (fun _ h_ => h_.1))) hb); have n1_ := Aside0.mk (blk_below (g := gb291) (o := .cells #[.int .i64 a0_0, .int .i64 a0_1, .int .i64 a0_2] 39 (0, 0)) (by (with_reducible repeat (first | refine blk_drewN ?_ _ | refine blk_drew ?_ | refine blk_alloc ?_ _)); refine blk_far ?_ NB291_314.out _; (with_reducible repeat (first | refine blk_drewN ?_ _ | refine blk_drew ?_ | refine blk_alloc ?_ _)); refine blk_far ?_ NB291_314.out _; (with_reducible repeat (first | refine blk_drewN ?_ _ | refine blk_drew ?_ | refine blk_alloc ?_ _)); refine blk_far ?_ NB291_314.out _; (with_reducible repeat (first | refine blk_drewN ?_ _ | refine blk_drew ?_ | refine blk_alloc ?_ _)); exact BK291.out) hb); have n2_ := Aside0.mk (blk_below (g := gb303) (o := .cells #[.int .i64 t295, .int .i64 t296, .string t297] 24 (0, 0)) (by (with_reducible repeat (first | refine blk_drewN ?_ _ | refine blk_drew ?_ | refine blk_alloc ?_ _)); refine blk_far ?_ NB303_314.out _; (with_reducible repeat (first | refine blk_drewN ?_ _ | refine blk_drew ?_ | refine blk_alloc ?_ _)); refine blk_far ?_ NB303_314.out _; (with_reducible repeat (first | refine blk_drewN ?_ _ | refine blk_drew ?_ | refine blk_alloc ?_ _)); refine blk_far ?_ NB303_314.out _; (with_reducible repeat (first | refine blk_drewN ?_ _ | refine blk_drew ?_ | refine blk_alloc ?_ _)); exact BK303.out) hb); have n3_ := Aside0.mk (blk_below (g := gb304) (o := .cells #[.int .i64 t300, .int .i64 t301, .string t302] 24 (0, 0)) (by (with_reducible repeat (first | refine blk_drewN ?_ _ | refine blk_drew ?_ | refine blk_alloc ?_ _)); refine blk_far ?_ NB304_314.out _; (with_reducible repeat (first | refine blk_drewN ?_ _ | refine blk_drew ?_ | refine blk_alloc ?_ _)); refine blk_far ?_ NB304_314.out _; (with_reducible repeat (first | refine blk_drewN ?_ _ | refine blk_drew ?_ | refine blk_alloc ?_ _)); refine blk_far ?_ NB304_314.out _; (with_reducible repeat (first | refine blk_drewN ?_ _ | refine blk_drew ?_ | refine blk_alloc ?_ _)); exact BK304.out) hb); have n4_ := Aside0.mk (blk_below (g := gb314) (o := .cells #[.int .i64 t310, .int .i64 t311, .string t312] 24 (0, 0)) (by (with_reducible repeat (first | refine blk_drewN ?_ _ | refine blk_drew ?_ | refine blk_alloc ?_ _)); refine blk_put (cs := #[.int .i64 t310, .int .i64 t311, .string (⟨#[]⟩ : ByteArray)]) ?_ 2 _ rfl; (with_reducible repeat (first | refine blk_drewN ?_ _ | refine blk_drew ?_ | refine blk_alloc ?_ _)); refine blk_put (cs := #[.int .i64 t310, .int .i64 0, .string (⟨#[]⟩ : ByteArray)]) ?_ 1 _ rfl; (with_reducible repeat (first | refine blk_drewN ?_ _ | refine blk_drew ?_ | refine blk_alloc ?_ _)); refine blk_put (cs := #[.int .i64 0, .int .i64 0, .string (⟨#[]⟩ : ByteArray)]) ?_ 0 _ rfl; (with_reducible repeat (first | refine blk_drewN ?_ _ | refine blk_drew ?_ | refine blk_alloc ?_ _)); exact BK314.out) hb); have n5_ := Aside0.mk (below_step (by repeat (with_reducible (first | exact HB.out | apply bA_ | apply bN_ | apply bD_ | refine bS_ ?_ GE291.out | refine bS_ ?_ GE303.out | refine bS_ ?_ GE304.out | refine bS_ ?_ GE314.out))) hb); clear HO_9; clear BK291; clear BK303; clear BK304; clear BK314; clear HB; have HO_9 := n0_; have BK291 := n1_; have BK303 := n2_; have BK304 := n3_; have BK314 := n4_; have HB := n5_; clear n0_ n1_ n2_ n3_ n4_ n5_; (try clear hb); (try clear hb2); (try clear hk); (try clear hi)) | ((with_reducible refine gate_dst (N := 13) rfl ?_); refine box_event ?hg (N := 13) ?hd (cs := #[.int .i64 0, .int .i64 0, .string (⟨#[]⟩ : ByteArray)]) (t := 24) ?hr ?_; (case hd => rfl); (case hg => rfl); (case hr => first | (go_simp; done) | (go_simp; rfl)); intro gb319 hg w58 hbox hb; have n0_ := Aside0.mk (Kd.R_below (by (with_reducible repeat (first | apply Kd.R_alloc | apply Kd.R_drewN | apply Kd.R_drew)); exact HO_9.out) hb); have n1_ := Aside0.mk (blk_below (g := gb291) (o := .cells #[.int .i64 a0_0, .int .i64 a0_1, .int .i64 a0_2] 39 (0, 0)) (peel_ BK291.out) hb); have n2_ := Aside0.mk (blk_below (g := gb303) (o := .cells #[.int .i64 t295, .int .i64 t296, .string t297] 24 (0, 0)) (peel_ BK303.out) hb); have n3_ := Aside0.mk (blk_below (g := gb304) (o := .cells #[.int .i64 t300, .int .i64 t301, .string t302] 24 (0, 0)) (peel_ BK304.out) hb); have n4_ := Aside0.mk (blk_below (g := gb314) (o := .cells #[.int .i64 t310, .int .i64 t311, .string t312] 24 (0, 0)) (peel_ BK314.out) hb); have n5_ := Aside0.mk (below_step (by repeat (with_reducible (first | exact HB.out | apply bA_ | apply bN_ | apply bD_ | refine bS_ ?_ GE291.out | refine bS_ ?_ GE303.out | refine bS_ ?_ GE304.out | refine bS_ ?_ GE314.out))) hb); have n6_ := Aside0.mk (hbox); have n7_ := Aside0.mk ((by rw [hg]; exact (below_size (by repeat (with_reducible (first | exact HB.out | apply bA_ | apply bN_ | apply bD_ | refine bS_ ?_ GE291.out | refine bS_ ?_ GE303.out | refine bS_ ?_ GE304.out | refine bS_ ?_ GE314.out)))) : w.heap.size ≤ gb319)); have n8_ := Aside0.mk ((by rw [hg]; exact (below_size (by repeat (with_reducible (first | exact HB.out | apply bA_ | apply bN_ | apply bD_ | refine bS_ ?_ GE291.out | refine bS_ ?_ GE303.out | refine bS_ ?_ GE304.out | refine bS_ ?_ GE314.out)))) : w.heap.size ≤ gb319)); have n9_ := Aside0.mk ((by rw [hg]; exact Nat.ne_of_lt (blk_lt (g := gb291) (o := .cells #[.int .i64 a0_0, .int .i64 a0_1, .int .i64 a0_2] 39 (0, 0)) (peel_ BK291.out)) : gb291 ≠ gb319)); have n10_ := Aside0.mk ((by rw [hg]; exact Nat.ne_of_gt (blk_lt (g := gb291) (o := .cells #[.int .i64 a0_0, .int .i64 a0_1, .int .i64 a0_2] 39 (0, 0)) (peel_ BK291.out)) : gb319 ≠ gb291)); have n11_ := Aside0.mk ((by rw [hg]; exact Nat.ne_of_lt (blk_lt (g := gb303) (o := .cells #[.int .i64 t295, .int .i64 t296, .string t297] 24 (0, 0)) (peel_ BK303.out)) : gb303 ≠ gb319)); have n12_ := Aside0.mk ((by rw [hg]; exact Nat.ne_of_gt (blk_lt (g := gb303) (o := .cells #[.int .i64 t295, .int .i64 t296, .string t297] 24 (0, 0)) (peel_ BK303.out)) : gb319 ≠ gb303)); have n13_ := Aside0.mk ((by rw [hg]; exact Nat.ne_of_lt (blk_lt (g := gb304) (o := .cells #[.int .i64 t300, .int .i64 t301, .string t302] 24 (0, 0)) (peel_ BK304.out)) : gb304 ≠ gb319)); have n14_ := Aside0.mk ((by rw [hg]; exact Nat.ne_of_gt (blk_lt (g := gb304) (o := .cells #[.int .i64 t300, .int .i64 t301, .string t302] 24 (0, 0)) (peel_ BK304.out)) : gb319 ≠ gb304)); have n15_ := Aside0.mk ((by rw [hg]; exact Nat.ne_of_lt (blk_lt (g := gb314) (o := .cells #[.int .i64 t310, .int .i64 t311, .string t312] 24 (0, 0)) (peel_ BK314.out)) : gb314 ≠ gb319)); have n16_ := Aside0.mk ((by rw [hg]; exact Nat.ne_of_gt (blk_lt (g := gb314) (o := .cells #[.int .i64 t310, .int .i64 t311, .string t312] 24 (0, 0)) (peel_ BK314.out)) : gb319 ≠ gb314)); clear HO_9; clear BK291; clear BK303; clear BK304; clear BK314; clear HB; have HO_9 := n0_; have BK291 := n1_; have BK303 := n2_; have BK304 := n3_; have BK314 := n4_; have HB := n5_; have BK319 := n6_; have GW319 := n7_; have GE319 := n8_; have NB291_319 := n9_; have NB319_291 := n10_; have NB303_319 := n11_; have NB319_303 := n12_; have NB304_319 := n13_; have NB319_304 := n14_; have NB314_319 := n15_; have NB319_314 := n16_; clear n0_ n1_ n2_ n3_ n4_ n5_ n6_ n7_ n8_ n9_ n10_ n11_ n12_ n13_ n14_ n15_ n16_; clear hb hbox hg; have hnb59 := NB319_291.out; have hnc59 := NB291_319.out; have hnb60 := NB319_303.out; have hnc60 := NB303_319.out; have hnb61 := NB319_304.out; have hnc61 := NB304_319.out; have hnb62 := NB319_314.out; have hnc62 := NB314_319.out; have hcz63_0 : w58.cell? ⟨gb319, 0, none⟩ = some (.int .i64 0) := (blk_cell BK319.out 0).trans rfl; have hcz63_1 : w58.cell? ⟨gb319, 1, none⟩ = some (.int .i64 0) := (blk_cell BK319.out 1).trans rfl; have hcz63_2 : w58.cell? ⟨gb319, 2, none⟩ = some (.string (⟨#[]⟩ : ByteArray)) := (blk_cell BK319.out 2).trans rfl; have hfz63_0 := blk_frozen BK319.out 0; have hfz63_1 := blk_frozen BK319.out 1; have hfz63_2 := blk_frozen BK319.out 2; have hcz64_0 : w58.cell? ⟨gb303, 0, none⟩ = some (.int .i64 t295) := (blk_cell BK303.out 0).trans rfl; have hcz64_1 : w58.cell? ⟨gb303, 1, none⟩ = some (.int .i64 t296) := (blk_cell BK303.out 1).trans rfl; have hcz64_2 : w58.cell? ⟨gb303, 2, none⟩ = some (.string t297) := (blk_cell BK303.out 2).trans rfl; have hfz64_0 := blk_frozen BK303.out 0; have hfz64_1 := blk_frozen BK303.out 1; have hfz64_2 := blk_frozen BK303.out 2) | ((with_reducible refine gate_callee (f := 14) rfl ?_); refine goesL_ (some 76) rfl rfl Try.func14 (by kernel_rfl) rfl #[.agg #[.int .i64 t295, .int .i64 t296, .string t297], .slice Ao45 x9_12.length co45] rfl (by (try simp only [List.map_toArray, List.map_cons, List.map_nil]); first | done | rfl | (simp only [List.length_drop, List.length_take]; rfl)) ?_; (with_reducible refine (matrix_Pick.calls t295 t296 t297 _ _ x9_12 t320 t321 t322 t323 _ ?side1 ?side2 A39.out).mono ?_); (case side1 => refine (Kd.R_reads' (e := 3) (base := w.heap.size) (ok := fun k_ => True) (n := x9_12.length) (c := co45) ?_).2.2; exact (by (with_reducible repeat (first | apply Kd.R_alloc | apply Kd.R_drewN | apply Kd.R_drew)); exact (Kd.R_mono (Kd.R_far (p := ⟨gb319, 2, none⟩) (Kd.R_far (p := ⟨gb319, 1, none⟩) (Kd.R_far (p := ⟨gb319, 0, none⟩) (Kd.R_types HO_9.out BK319.out (by decide)) (fun _ hk => hk.2) (.int .i64 t315)) (fun _ hk => hk.2) (.int .i64 t316)) (fun _ hk => hk.2) (.string t317)) (fun _ h_ => h_.1)))); (case side2 => exact (Kd.R_reads' HO_9.out).2.1); rintro e w65 ⟨rfl, hb⟩; refine ⟨_, rfl, ?_⟩; have n0_ := Aside0.mk (Kd.R_below (by (with_reducible repeat (first | apply Kd.R_alloc | apply Kd.R_drewN | apply Kd.R_drew)); exact (Kd.R_mono (Kd.R_far (p := ⟨gb319, 2, none⟩) (Kd.R_far (p := ⟨gb319, 1, none⟩) (Kd.R_far (p := ⟨gb319, 0, none⟩) (Kd.R_types HO_9.out BK319.out (by decide)) (fun _ hk => hk.2) (.int .i64 t315)) (fun _ hk => hk.2) (.int .i64 t316)) (fun _ hk => hk.2) (.string t317)) (fun _ h_ => h_.1))) hb); have n1_ := Aside0.mk (blk_below (g := gb291) (o := .cells #[.int .i64 a0_0, .int .i64 a0_1, .int .i64 a0_2] 39 (0, 0)) (by (with_reducible repeat (first | refine blk_drewN ?_ _ | refine blk_drew ?_ | refine blk_alloc ?_ _)); refine blk_far ?_ NB291_319.out _; (with_reducible repeat (first | refine blk_drewN ?_ _ | refine blk_drew ?_ | refine blk_alloc ?_ _)); refine blk_far ?_ NB291_319.out _; (with_reducible repeat (first | refine blk_drewN ?_ _ | refine blk_drew ?_ | refine blk_alloc ?_ _)); refine blk_far ?_ NB291_319.out _; (with_reducible repeat (first | refine blk_drewN ?_ _ | refine blk_drew ?_ | refine blk_alloc ?_ _)); exact BK291.out) hb); have n2_ := Aside0.mk (blk_below (g := gb303) (o := .cells #[.int .i64 t295, .int .i64 t296, .string t297] 24 (0, 0)) (by (with_reducible repeat (first | refine blk_drewN ?_ _ | refine blk_drew ?_ | refine blk_alloc ?_ _)); refine blk_far ?_ NB303_319.out _; (with_reducible repeat (first | refine blk_drewN ?_ _ | refine blk_drew ?_ | refine blk_alloc ?_ _)); refine blk_far ?_ NB303_319.out _; (with_reducible repeat (first | refine blk_drewN ?_ _ | refine blk_drew ?_ | refine blk_alloc ?_ _)); refine blk_far ?_ NB303_319.out _; (with_reducible repeat (first | refine blk_drewN ?_ _ | refine blk_drew ?_ | refine blk_alloc ?_ _)); exact BK303.out) hb); have n3_ := Aside0.mk (blk_below (g := gb304) (o := .cells #[.int .i64 t300, .int .i64 t301, .string t302] 24 (0, 0)) (by (with_reducible repeat (first | refine blk_drewN ?_ _ | refine blk_drew ?_ | refine blk_alloc ?_ _)); refine blk_far ?_ NB304_319.out _; (with_reducible repeat (first | refine blk_drewN ?_ _ | refine blk_drew ?_ | refine blk_alloc ?_ _)); refine blk_far ?_ NB304_319.out _; (with_reducible repeat (first | refine blk_drewN ?_ _ | refine blk_drew ?_ | refine blk_alloc ?_ _)); refine blk_far ?_ NB304_319.out _; (with_reducible repeat (first | refine blk_drewN ?_ _ | refine blk_drew ?_ | refine blk_alloc ?_ _)); exact BK304.out) hb); have n4_ := Aside0.mk (blk_below (g := gb314) (o := .cells #[.int .i64 t310, .int .i64 t311, .string t312] 24 (0, 0)) (by (with_reducible repeat (first | refine blk_drewN ?_ _ | refine blk_drew ?_ | refine blk_alloc ?_ _)); refine blk_far ?_ NB314_319.out _; (with_reducible repeat (first | refine blk_drewN ?_ _ | refine blk_drew ?_ | refine blk_alloc ?_ _)); refine blk_far ?_ NB314_319.out _; (with_reducible repeat (first | refine blk_drewN ?_ _ | refine blk_drew ?_ | refine blk_alloc ?_ _)); refine blk_far ?_ NB314_319.out _; (with_reducible repeat (first | refine blk_drewN ?_ _ | refine blk_drew ?_ | refine blk_alloc ?_ _)); exact BK314.out) hb); have n5_ := Aside0.mk (blk_below (g := gb319) (o := .cells #[.int .i64 t315, .int .i64 t316, .string t317] 24 (0, 0)) (by (with_reducible repeat (first | refine blk_drewN ?_ _ | refine blk_drew ?_ | refine blk_alloc ?_ _)); refine blk_put (cs := #[.int .i64 t315, .int .i64 t316, .string (⟨#[]⟩ : ByteArray)]) ?_ 2 _ rfl; (with_reducible repeat (first | refine blk_drewN ?_ _ | refine blk_drew ?_ | refine blk_alloc ?_ _)); refine blk_put (cs := #[.int .i64 t315, .int .i64 0, .string (⟨#[]⟩ : ByteArray)]) ?_ 1 _ rfl; (with_reducible repeat (first | refine blk_drewN ?_ _ | refine blk_drew ?_ | refine blk_alloc ?_ _)); refine blk_put (cs := #[.int .i64 0, .int .i64 0, .string (⟨#[]⟩ : ByteArray)]) ?_ 0 _ rfl; (with_reducible repeat (first | refine blk_drewN ?_ _ | refine blk_drew ?_ | refine blk_alloc ?_ _)); exact BK319.out) hb); have n6_ := Aside0.mk (below_step (by repeat (with_reducible (first | exact HB.out | apply bA_ | apply bN_ | apply bD_ | refine bS_ ?_ GE291.out | refine bS_ ?_ GE303.out | refine bS_ ?_ GE304.out | refine bS_ ?_ GE314.out | refine bS_ ?_ GE319.out))) hb); clear HO_9; clear BK291; clear BK303; clear BK304; clear BK314; clear BK319; clear HB; have HO_9 := n0_; have BK291 := n1_; have BK303 := n2_; have BK304 := n3_; have BK314 := n4_; have BK319 := n5_; have HB := n6_; clear n0_ n1_ n2_ n3_ n4_ n5_ n6_; (try clear hb); (try clear hb2); (try clear hk); (try clear hi)) | ((with_reducible refine gate_dst (N := 15) rfl ?_); refine box_event ?hg (N := 15) ?hd (cs := #[.int .i64 0, .int .i64 0, .string (⟨#[]⟩ : ByteArray)]) (t := 24) ?hr ?_; (case hd => rfl); (case hg => rfl); (case hr => first | (go_simp; done) | (go_simp; rfl)); intro gb324 hg w66 hbox hb; have n0_ := Aside0.mk (Kd.R_below (by (with_reducible repeat (first | apply Kd.R_alloc | apply Kd.R_drewN | apply Kd.R_drew)); exact HO_9.out) hb); have n1_ := Aside0.mk (blk_below (g := gb291) (o := .cells #[.int .i64 a0_0, .int .i64 a0_1, .int .i64 a0_2] 39 (0, 0)) (peel_ BK291.out) hb); have n2_ := Aside0.mk (blk_below (g := gb303) (o := .cells #[.int .i64 t295, .int .i64 t296, .string t297] 24 (0, 0)) (peel_ BK303.out) hb); have n3_ := Aside0.mk (blk_below (g := gb304) (o := .cells #[.int .i64 t300, .int .i64 t301, .string t302] 24 (0, 0)) (peel_ BK304.out) hb); have n4_ := Aside0.mk (blk_below (g := gb314) (o := .cells #[.int .i64 t310, .int .i64 t311, .string t312] 24 (0, 0)) (peel_ BK314.out) hb); have n5_ := Aside0.mk (blk_below (g := gb319) (o := .cells #[.int .i64 t315, .int .i64 t316, .string t317] 24 (0, 0)) (peel_ BK319.out) hb); have n6_ := Aside0.mk (below_step (by repeat (with_reducible (first | exact HB.out | apply bA_ | apply bN_ | apply bD_ | refine bS_ ?_ GE291.out | refine bS_ ?_ GE303.out | refine bS_ ?_ GE304.out | refine bS_ ?_ GE314.out | refine bS_ ?_ GE319.out))) hb); have n7_ := Aside0.mk (hbox); have n8_ := Aside0.mk ((by rw [hg]; exact (below_size (by repeat (with_reducible (first | exact HB.out | apply bA_ | apply bN_ | apply bD_ | refine bS_ ?_ GE291.out | refine bS_ ?_ GE303.out | refine bS_ ?_ GE304.out | refine bS_ ?_ GE314.out | refine bS_ ?_ GE319.out)))) : w.heap.size ≤ gb324)); have n9_ := Aside0.mk ((by rw [hg]; exact (below_size (by repeat (with_reducible (first | exact HB.out | apply bA_ | apply bN_ | apply bD_ | refine bS_ ?_ GE291.out | refine bS_ ?_ GE303.out | refine bS_ ?_ GE304.out | refine bS_ ?_ GE314.out | refine bS_ ?_ GE319.out)))) : w.heap.size ≤ gb324)); have n10_ := Aside0.mk ((by rw [hg]; exact Nat.ne_of_lt (blk_lt (g := gb291) (o := .cells #[.int .i64 a0_0, .int .i64 a0_1, .int .i64 a0_2] 39 (0, 0)) (peel_ BK291.out)) : gb291 ≠ gb324)); have n11_ := Aside0.mk ((by rw [hg]; exact Nat.ne_of_gt (blk_lt (g := gb291) (o := .cells #[.int .i64 a0_0, .int .i64 a0_1, .int .i64 a0_2] 39 (0, 0)) (peel_ BK291.out)) : gb324 ≠ gb291)); have n12_ := Aside0.mk ((by rw [hg]; exact Nat.ne_of_lt (blk_lt (g := gb303) (o := .cells #[.int .i64 t295, .int .i64 t296, .string t297] 24 (0, 0)) (peel_ BK303.out)) : gb303 ≠ gb324)); have n13_ := Aside0.mk ((by rw [hg]; exact Nat.ne_of_gt (blk_lt (g := gb303) (o := .cells #[.int .i64 t295, .int .i64 t296, .string t297] 24 (0, 0)) (peel_ BK303.out)) : gb324 ≠ gb303)); have n14_ := Aside0.mk ((by rw [hg]; exact Nat.ne_of_lt (blk_lt (g := gb304) (o := .cells #[.int .i64 t300, .int .i64 t301, .string t302] 24 (0, 0)) (peel_ BK304.out)) : gb304 ≠ gb324)); have n15_ := Aside0.mk ((by rw [hg]; exact Nat.ne_of_gt (blk_lt (g := gb304) (o := .cells #[.int .i64 t300, .int .i64 t301, .string t302] 24 (0, 0)) (peel_ BK304.out)) : gb324 ≠ gb304)); have n16_ := Aside0.mk ((by rw [hg]; exact Nat.ne_of_lt (blk_lt (g := gb314) (o := .cells #[.int .i64 t310, .int .i64 t311, .string t312] 24 (0, 0)) (peel_ BK314.out)) : gb314 ≠ gb324)); have n17_ := Aside0.mk ((by rw [hg]; exact Nat.ne_of_gt (blk_lt (g := gb314) (o := .cells #[.int .i64 t310, .int .i64 t311, .string t312] 24 (0, 0)) (peel_ BK314.out)) : gb324 ≠ gb314)); have n18_ := Aside0.mk ((by rw [hg]; exact Nat.ne_of_lt (blk_lt (g := gb319) (o := .cells #[.int .i64 t315, .int .i64 t316, .string t317] 24 (0, 0)) (peel_ BK319.out)) : gb319 ≠ gb324)); have n19_ := Aside0.mk ((by rw [hg]; exact Nat.ne_of_gt (blk_lt (g := gb319) (o := .cells #[.int .i64 t315, .int .i64 t316, .string t317] 24 (0, 0)) (peel_ BK319.out)) : gb324 ≠ gb319)); clear HO_9; clear BK291; clear BK303; clear BK304; clear BK314; clear BK319; clear HB; have HO_9 := n0_; have BK291 := n1_; have BK303 := n2_; have BK304 := n3_; have BK314 := n4_; have BK319 := n5_; have HB := n6_; have BK324 := n7_; have GW324 := n8_; have GE324 := n9_; have NB291_324 := n10_; have NB324_291 := n11_; have NB303_324 := n12_; have NB324_303 := n13_; have NB304_324 := n14_; have NB324_304 := n15_; have NB314_324 := n16_; have NB324_314 := n17_; have NB319_324 := n18_; have NB324_319 := n19_; clear n0_ n1_ n2_ n3_ n4_ n5_ n6_ n7_ n8_ n9_ n10_ n11_ n12_ n13_ n14_ n15_ n16_ n17_ n18_ n19_; clear hb hbox hg; have hnb67 := NB324_291.out; have hnc67 := NB291_324.out; have hnb68 := NB324_303.out; have hnc68 := NB303_324.out; have hnb69 := NB324_304.out; have hnc69 := NB304_324.out; have hnb70 := NB324_314.out; have hnc70 := NB314_324.out; have hnb71 := NB324_319.out; have hnc71 := NB319_324.out; have hcz72_0 : w66.cell? ⟨gb324, 0, none⟩ = some (.int .i64 0) := (blk_cell BK324.out 0).trans rfl; have hcz72_1 : w66.cell? ⟨gb324, 1, none⟩ = some (.int .i64 0) := (blk_cell BK324.out 1).trans rfl; have hcz72_2 : w66.cell? ⟨gb324, 2, none⟩ = some (.string (⟨#[]⟩ : ByteArray)) := (blk_cell BK324.out 2).trans rfl; have hfz72_0 := blk_frozen BK324.out 0; have hfz72_1 := blk_frozen BK324.out 1; have hfz72_2 := blk_frozen BK324.out 2; have hcz73_0 : w66.cell? ⟨gb304, 0, none⟩ = some (.int .i64 t300) := (blk_cell BK304.out 0).trans rfl; have hcz73_1 : w66.cell? ⟨gb304, 1, none⟩ = some (.int .i64 t301) := (blk_cell BK304.out 1).trans rfl; have hcz73_2 : w66.cell? ⟨gb304, 2, none⟩ = some (.string t302) := (blk_cell BK304.out 2).trans rfl; have hfz73_0 := blk_frozen BK304.out 0; have hfz73_1 := blk_frozen BK304.out 1; have hfz73_2 := blk_frozen BK304.out 2) | ((with_reducible refine gate_callee (f := 21) rfl ?_); refine goesL_ (some 82) rfl rfl Try.func21 (by kernel_rfl) rfl #[.agg #[.int .i64 t320, .int .i64 t321, .string t322], .agg #[.int .i64 t300, .int .i64 t301, .string t302]] rfl (by (try simp only [List.map_toArray, List.map_cons, List.map_nil]); first | done | rfl | (simp only [List.length_drop, List.length_take]; rfl)) ?_; (with_reducible refine (matrix_Mul.calls t320 t321 t322 t300 t301 t302 t325 t326 t327 t328 _ A40.out).mono ?_); rintro e w74 ⟨rfl, hb⟩; refine ⟨_, rfl, ?_⟩; have n0_ := Aside0.mk (Kd.R_below (by (with_reducible repeat (first | apply Kd.R_alloc | apply Kd.R_drewN | apply Kd.R_drew)); exact (Kd.R_mono (Kd.R_far (p := ⟨gb324, 2, none⟩) (Kd.R_far (p := ⟨gb324, 1, none⟩) (Kd.R_far (p := ⟨gb324, 0, none⟩) (Kd.R_types HO_9.out BK324.out (by decide)) (fun _ hk => hk.2) (.int .i64 t320)) (fun _ hk => hk.2) (.int .i64 t321)) (fun _ hk => hk.2) (.string t322)) (fun _ h_ => h_.1))) hb); have n1_ := Aside0.mk (blk_below (g := gb291) (o := .cells #[.int .i64 a0_0, .int .i64 a0_1, .int .i64 a0_2] 39 (0, 0)) (by (with_reducible repeat (first | refine blk_drewN ?_ _ | refine blk_drew ?_ | refine blk_alloc ?_ _)); refine blk_far ?_ NB291_324.out _; (with_reducible repeat (first | refine blk_drewN ?_ _ | refine blk_drew ?_ | refine blk_alloc ?_ _)); refine blk_far ?_ NB291_324.out _; (with_reducible repeat (first | refine blk_drewN ?_ _ | refine blk_drew ?_ | refine blk_alloc ?_ _)); refine blk_far ?_ NB291_324.out _; (with_reducible repeat (first | refine blk_drewN ?_ _ | refine blk_drew ?_ | refine blk_alloc ?_ _)); exact BK291.out) hb); have n2_ := Aside0.mk (blk_below (g := gb303) (o := .cells #[.int .i64 t295, .int .i64 t296, .string t297] 24 (0, 0)) (by (with_reducible repeat (first | refine blk_drewN ?_ _ | refine blk_drew ?_ | refine blk_alloc ?_ _)); refine blk_far ?_ NB303_324.out _; (with_reducible repeat (first | refine blk_drewN ?_ _ | refine blk_drew ?_ | refine blk_alloc ?_ _)); refine blk_far ?_ NB303_324.out _; (with_reducible repeat (first | refine blk_drewN ?_ _ | refine blk_drew ?_ | refine blk_alloc ?_ _)); refine blk_far ?_ NB303_324.out _; (with_reducible repeat (first | refine blk_drewN ?_ _ | refine blk_drew ?_ | refine blk_alloc ?_ _)); exact BK303.out) hb); have n3_ := Aside0.mk (blk_below (g := gb304) (o := .cells #[.int .i64 t300, .int .i64 t301, .string t302] 24 (0, 0)) (by (with_reducible repeat (first | refine blk_drewN ?_ _ | refine blk_drew ?_ | refine blk_alloc ?_ _)); refine blk_far ?_ NB304_324.out _; (with_reducible repeat (first | refine blk_drewN ?_ _ | refine blk_drew ?_ | refine blk_alloc ?_ _)); refine blk_far ?_ NB304_324.out _; (with_reducible repeat (first | refine blk_drewN ?_ _ | refine blk_drew ?_ | refine blk_alloc ?_ _)); refine blk_far ?_ NB304_324.out _; (with_reducible repeat (first | refine blk_drewN ?_ _ | refine blk_drew ?_ | refine blk_alloc ?_ _)); exact BK304.out) hb); have n4_ := Aside0.mk (blk_below (g := gb314) (o := .cells #[.int .i64 t310, .int .i64 t311, .string t312] 24 (0, 0)) (by (with_reducible repeat (first | refine blk_drewN ?_ _ | refine blk_drew ?_ | refine blk_alloc ?_ _)); refine blk_far ?_ NB314_324.out _; (with_reducible repeat (first | refine blk_drewN ?_ _ | refine blk_drew ?_ | refine blk_alloc ?_ _)); refine blk_far ?_ NB314_324.out _; (with_reducible repeat (first | refine blk_drewN ?_ _ | refine blk_drew ?_ | refine blk_alloc ?_ _)); refine blk_far ?_ NB314_324.out _; (with_reducible repeat (first | refine blk_drewN ?_ _ | refine blk_drew ?_ | refine blk_alloc ?_ _)); exact BK314.out) hb); have n5_ := Aside0.mk (blk_below (g := gb319) (o := .cells #[.int .i64 t315, .int .i64 t316, .string t317] 24 (0, 0)) (by (with_reducible repeat (first | refine blk_drewN ?_ _ | refine blk_drew ?_ | refine blk_alloc ?_ _)); refine blk_far ?_ NB319_324.out _; (with_reducible repeat (first | refine blk_drewN ?_ _ | refine blk_drew ?_ | refine blk_alloc ?_ _)); refine blk_far ?_ NB319_324.out _; (with_reducible repeat (first | refine blk_drewN ?_ _ | refine blk_drew ?_ | refine blk_alloc ?_ _)); refine blk_far ?_ NB319_324.out _; (with_reducible repeat (first | refine blk_drewN ?_ _ | refine blk_drew ?_ | refine blk_alloc ?_ _)); exact BK319.out) hb); have n6_ := Aside0.mk (blk_below (g := gb324) (o := .cells #[.int .i64 t320, .int .i64 t321, .string t322] 24 (0, 0)) (by (with_reducible repeat (first | refine blk_drewN ?_ _ | refine blk_drew ?_ | refine blk_alloc ?_ _)); refine blk_put (cs := #[.int .i64 t320, .int .i64 t321, .string (⟨#[]⟩ : ByteArray)]) ?_ 2 _ rfl; (with_reducible repeat (first | refine blk_drewN ?_ _ | refine blk_drew ?_ | refine blk_alloc ?_ _)); refine blk_put (cs := #[.int .i64 t320, .int .i64 0, .string (⟨#[]⟩ : ByteArray)]) ?_ 1 _ rfl; (with_reducible repeat (first | refine blk_drewN ?_ _ | refine blk_drew ?_ | refine blk_alloc ?_ _)); refine blk_put (cs := #[.int .i64 0, .int .i64 0, .string (⟨#[]⟩ : ByteArray)]) ?_ 0 _ rfl; (with_reducible repeat (first | refine blk_drewN ?_ _ | refine blk_drew ?_ | refine blk_alloc ?_ _)); exact BK324.out) hb); have n7_ := Aside0.mk (below_step (by repeat (with_reducible (first | exact HB.out | apply bA_ | apply bN_ | apply bD_ | refine bS_ ?_ GE291.out | refine bS_ ?_ GE303.out | refine bS_ ?_ GE304.out | refine bS_ ?_ GE314.out | refine bS_ ?_ GE319.out | refine bS_ ?_ GE324.out))) hb); clear HO_9; clear BK291; clear BK303; clear BK304; clear BK314; clear BK319; clear BK324; clear HB; have HO_9 := n0_; have BK291 := n1_; have BK303 := n2_; have BK304 := n3_; have BK314 := n4_; have BK319 := n5_; have BK324 := n6_; have HB := n7_; clear n0_ n1_ n2_ n3_ n4_ n5_ n6_ n7_; (try clear hb); (try clear hb2); (try clear hk); (try clear hi)) | ((with_reducible refine gate_dst (N := 17) rfl ?_); refine box_event ?hg (N := 17) ?hd (cs := #[.int .i64 0, .int .i64 0, .string (⟨#[]⟩ : ByteArray)]) (t := 24) ?hr ?_; (case hd => rfl); (case hg => rfl); (case hr => first | (go_simp; done) | (go_simp; rfl)); intro gb329 hg w75 hbox hb; have n0_ := Aside0.mk (Kd.R_below (by (with_reducible repeat (first | apply Kd.R_alloc | apply Kd.R_drewN | apply Kd.R_drew)); exact HO_9.out) hb); have n1_ := Aside0.mk (blk_below (g := gb291) (o := .cells #[.int .i64 a0_0, .int .i64 a0_1, .int .i64 a0_2] 39 (0, 0)) (peel_ BK291.out) hb); have n2_ := Aside0.mk (blk_below (g := gb303) (o := .cells #[.int .i64 t295, .int .i64 t296, .string t297] 24 (0, 0)) (peel_ BK303.out) hb); have n3_ := Aside0.mk (blk_below (g := gb304) (o := .cells #[.int .i64 t300, .int .i64 t301, .string t302] 24 (0, 0)) (peel_ BK304.out) hb); have n4_ := Aside0.mk (blk_below (g := gb314) (o := .cells #[.int .i64 t310, .int .i64 t311, .string t312] 24 (0, 0)) (peel_ BK314.out) hb); have n5_ := Aside0.mk (blk_below (g := gb319) (o := .cells #[.int .i64 t315, .int .i64 t316, .string t317] 24 (0, 0)) (peel_ BK319.out) hb); have n6_ := Aside0.mk (blk_below (g := gb324) (o := .cells #[.int .i64 t320, .int .i64 t321, .string t322] 24 (0, 0)) (peel_ BK324.out) hb); have n7_ := Aside0.mk (below_step (by repeat (with_reducible (first | exact HB.out | apply bA_ | apply bN_ | apply bD_ | refine bS_ ?_ GE291.out | refine bS_ ?_ GE303.out | refine bS_ ?_ GE304.out | refine bS_ ?_ GE314.out | refine bS_ ?_ GE319.out | refine bS_ ?_ GE324.out))) hb); have n8_ := Aside0.mk (hbox); have n9_ := Aside0.mk ((by rw [hg]; exact (below_size (by repeat (with_reducible (first | exact HB.out | apply bA_ | apply bN_ | apply bD_ | refine bS_ ?_ GE291.out | refine bS_ ?_ GE303.out | refine bS_ ?_ GE304.out | refine bS_ ?_ GE314.out | refine bS_ ?_ GE319.out | refine bS_ ?_ GE324.out)))) : w.heap.size ≤ gb329)); have n10_ := Aside0.mk ((by rw [hg]; exact (below_size (by repeat (with_reducible (first | exact HB.out | apply bA_ | apply bN_ | apply bD_ | refine bS_ ?_ GE291.out | refine bS_ ?_ GE303.out | refine bS_ ?_ GE304.out | refine bS_ ?_ GE314.out | refine bS_ ?_ GE319.out | refine bS_ ?_ GE324.out)))) : w.heap.size ≤ gb329)); have n11_ := Aside0.mk ((by rw [hg]; exact Nat.ne_of_lt (blk_lt (g := gb291) (o := .cells #[.int .i64 a0_0, .int .i64 a0_1, .int .i64 a0_2] 39 (0, 0)) (peel_ BK291.out)) : gb291 ≠ gb329)); have n12_ := Aside0.mk ((by rw [hg]; exact Nat.ne_of_gt (blk_lt (g := gb291) (o := .cells #[.int .i64 a0_0, .int .i64 a0_1, .int .i64 a0_2] 39 (0, 0)) (peel_ BK291.out)) : gb329 ≠ gb291)); have n13_ := Aside0.mk ((by rw [hg]; exact Nat.ne_of_lt (blk_lt (g := gb303) (o := .cells #[.int .i64 t295, .int .i64 t296, .string t297] 24 (0, 0)) (peel_ BK303.out)) : gb303 ≠ gb329)); have n14_ := Aside0.mk ((by rw [hg]; exact Nat.ne_of_gt (blk_lt (g := gb303) (o := .cells #[.int .i64 t295, .int .i64 t296, .string t297] 24 (0, 0)) (peel_ BK303.out)) : gb329 ≠ gb303)); have n15_ := Aside0.mk ((by rw [hg]; exact Nat.ne_of_lt (blk_lt (g := gb304) (o := .cells #[.int .i64 t300, .int .i64 t301, .string t302] 24 (0, 0)) (peel_ BK304.out)) : gb304 ≠ gb329)); have n16_ := Aside0.mk ((by rw [hg]; exact Nat.ne_of_gt (blk_lt (g := gb304) (o := .cells #[.int .i64 t300, .int .i64 t301, .string t302] 24 (0, 0)) (peel_ BK304.out)) : gb329 ≠ gb304)); have n17_ := Aside0.mk ((by rw [hg]; exact Nat.ne_of_lt (blk_lt (g := gb314) (o := .cells #[.int .i64 t310, .int .i64 t311, .string t312] 24 (0, 0)) (peel_ BK314.out)) : gb314 ≠ gb329)); have n18_ := Aside0.mk ((by rw [hg]; exact Nat.ne_of_gt (blk_lt (g := gb314) (o := .cells #[.int .i64 t310, .int .i64 t311, .string t312] 24 (0, 0)) (peel_ BK314.out)) : gb329 ≠ gb314)); have n19_ := Aside0.mk ((by rw [hg]; exact Nat.ne_of_lt (blk_lt (g := gb319) (o := .cells #[.int .i64 t315, .int .i64 t316, .string t317] 24 (0, 0)) (peel_ BK319.out)) : gb319 ≠ gb329)); have n20_ := Aside0.mk ((by rw [hg]; exact Nat.ne_of_gt (blk_lt (g := gb319) (o := .cells #[.int .i64 t315, .int .i64 t316, .string t317] 24 (0, 0)) (peel_ BK319.out)) : gb329 ≠ gb319)); have n21_ := Aside0.mk ((by rw [hg]; exact Nat.ne_of_lt (blk_lt (g := gb324) (o := .cells #[.int .i64 t320, .int .i64 t321, .string t322] 24 (0, 0)) (peel_ BK324.out)) : gb324 ≠ gb329)); have n22_ := Aside0.mk ((by rw [hg]; exact Nat.ne_of_gt (blk_lt (g := gb324) (o := .cells #[.int .i64 t320, .int .i64 t321, .string t322] 24 (0, 0)) (peel_ BK324.out)) : gb329 ≠ gb324)); clear HO_9; clear BK291; clear BK303; clear BK304; clear BK314; clear BK319; clear BK324; clear HB; have HO_9 := n0_; have BK291 := n1_; have BK303 := n2_; have BK304 := n3_; have BK314 := n4_; have BK319 := n5_; have BK324 := n6_; have HB := n7_; have BK329 := n8_; have GW329 := n9_; have GE329 := n10_; have NB291_329 := n11_; have NB329_291 := n12_; have NB303_329 := n13_; have NB329_303 := n14_; have NB304_329 := n15_; have NB329_304 := n16_; have NB314_329 := n17_; have NB329_314 := n18_; have NB319_329 := n19_; have NB329_319 := n20_; have NB324_329 := n21_; have NB329_324 := n22_; clear n0_ n1_ n2_ n3_ n4_ n5_ n6_ n7_ n8_ n9_ n10_ n11_ n12_ n13_ n14_ n15_ n16_ n17_ n18_ n19_ n20_ n21_ n22_; clear hb hbox hg; have hnb76 := NB329_291.out; have hnc76 := NB291_329.out; have hnb77 := NB329_303.out; have hnc77 := NB303_329.out; have hnb78 := NB329_304.out; have hnc78 := NB304_329.out; have hnb79 := NB329_314.out; have hnc79 := NB314_329.out; have hnb80 := NB329_319.out; have hnc80 := NB319_329.out; have hnb81 := NB329_324.out; have hnc81 := NB324_329.out; have hcz82_0 : w75.cell? ⟨gb329, 0, none⟩ = some (.int .i64 0) := (blk_cell BK329.out 0).trans rfl; have hcz82_1 : w75.cell? ⟨gb329, 1, none⟩ = some (.int .i64 0) := (blk_cell BK329.out 1).trans rfl; have hcz82_2 : w75.cell? ⟨gb329, 2, none⟩ = some (.string (⟨#[]⟩ : ByteArray)) := (blk_cell BK329.out 2).trans rfl; have hfz82_0 := blk_frozen BK329.out 0; have hfz82_1 := blk_frozen BK329.out 1; have hfz82_2 := blk_frozen BK329.out 2; have hcz83_0 : w75.cell? ⟨gb319, 0, none⟩ = some (.int .i64 t315) := (blk_cell BK319.out 0).trans rfl; have hcz83_1 : w75.cell? ⟨gb319, 1, none⟩ = some (.int .i64 t316) := (blk_cell BK319.out 1).trans rfl; have hcz83_2 : w75.cell? ⟨gb319, 2, none⟩ = some (.string t317) := (blk_cell BK319.out 2).trans rfl; have hfz83_0 := blk_frozen BK319.out 0; have hfz83_1 := blk_frozen BK319.out 1; have hfz83_2 := blk_frozen BK319.out 2))
          go_ret
          exact ⟨by first | rfl | (simp [errW_none, errW_some] <;> rfl) | (simp [*, errW_none, errW_some] <;> rfl), by repeat (with_reducible (first | exact HB.out | apply bA_ | apply bN_ | apply bD_ | refine bS_ ?_ GE291.out | refine bS_ ?_ GE303.out | refine bS_ ?_ GE304.out | refine bS_ ?_ GE314.out | refine bS_ ?_ GE319.out | refine bS_ ?_ GE324.out | refine bS_ ?_ GE329.out))⟩
         ·rw [if_neg c44] at H
          have c44b0 : (t328 == 0) = false := beq_eq_false_iff_ne.mpr c44
          have c44b1 : (t328 != 0) = true := bne_iff_ne.mpr c44
          exact absurd (H.trans (congrArg some HRT.out)) (by simp)
        ·rw [if_neg c43] at H
         have c43b0 : (t323 == 0) = false := beq_eq_false_iff_ne.mpr c43
         have c43b1 : (t323 != 0) = true := bne_iff_ne.mpr c43
         exact absurd (H.trans (congrArg some HRT.out)) (by simp)
       ·rw [if_neg c42] at H
        have c42b0 : (t318 == 0) = false := beq_eq_false_iff_ne.mpr c42
        have c42b1 : (t318 != 0) = true := bne_iff_ne.mpr c42
        exact absurd (H.trans (congrArg some HRT.out)) (by simp)
      ·rw [if_neg c41] at H
       have c41b0 : (t313 == 0) = false := beq_eq_false_iff_ne.mpr c41
       have c41b1 : (t313 != 0) = true := bne_iff_ne.mpr c41
       exact absurd (H.trans (congrArg some HRT.out)) (by simp)
  ·rw [if_neg c11] at H
   exact absurd H (by simp)
 ·replace c5 := Bool.eq_false_iff.mpr c5
  subst c5
  have H1 : (some false) = some r := by rw [if_neg (show ¬ (false = true) by decide)] at H; exact H
  clear H
  have H := H1
  clear H1
  exact absurd (H.trans (congrArg some HRT.out)) (by simp)

end Go.Proofs.Ytoghhpkmficnmaa.Al
