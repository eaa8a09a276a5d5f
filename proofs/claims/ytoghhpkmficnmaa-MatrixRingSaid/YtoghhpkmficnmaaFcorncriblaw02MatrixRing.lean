/- One function of the program comes to what its plain twin says. This text began as the kit's own print (print.py) and was turned by prune.py: it is no printed file. -/
import Derived.Test.YtoghhpkmficnmaaPcb
namespace Go.Proofs.Ytoghhpkmficnmaa.Al
open Go.RowKit Go.Proofs.YtoghhpkmficnmaaW.PrintWords
theorem cfz3 {w : World} {g t : Nat} {c0 c1 c2 : Value} (h : w.heap[g]? = some (.cells #[c0, c1, c2] t (0, 0))) : w.cell? ⟨g, 0, none⟩ = some c0 ∧ w.frozen? ⟨g, 0, none⟩ = false ∧ w.cell? ⟨g, 1, none⟩ = some c1 ∧ w.frozen? ⟨g, 1, none⟩ = false ∧ w.cell? ⟨g, 2, none⟩ = some c2 ∧ w.frozen? ⟨g, 2, none⟩ = false := ⟨(blk_cell h 0).trans rfl, blk_frozen h 0, (blk_cell h 1).trans rfl, blk_frozen h 1, (blk_cell h 2).trans rfl, blk_frozen h 2⟩
end Go.Proofs.Ytoghhpkmficnmaa.Al
namespace Go.Proofs.Ytoghhpkmficnmaa.Al
open Go.RowKit Go.Proofs.YtoghhpkmficnmaaW.PrintWords Go.Proofs.YtoghhpkmficnmaaW.PrintLast Go.Proofs.YtoghhpkmficnmaaW.PrintMore
attribute [local go_sem] max2_int min2_int max_two min_two max_three min_three max_four min_four   -- for this text's walks alone
set_option linter.unusedVariables false
set_option linter.unusedSimpArgs false
/-- A block's fact, through the layers laid upon the world since. -/
theorem peel_ {P Q : Prop} (h : Q) (f : Q → P := by intro h; (with_reducible repeat (first | refine blk_drewN ?_ _ | refine blk_drew ?_ | refine blk_alloc ?_ _)); exact h) : P := f h
theorem s1_ {α : Type _} (l : List α) (i : Nat) (a : α) : l.toArray.setIfInBounds i a = (l.set i a).toArray := List.setIfInBounds_toArray ..
theorem s2_ {α : Type _} (x : α) (xs : List α) (a : α) : (x :: xs).set 0 a = a :: xs := rfl
theorem s3_ {α : Type _} (x : α) (xs : List α) (n : Nat) (a : α) : (x :: xs).set (n + 1) a = x :: xs.set n a := rfl
theorem bA_ {w W : World} (h : Below w.heap.size w W) (o : Obj) : Below w.heap.size w (W.alloc o) := below_alloc h o
theorem bN_ {B : Nat} {w W : World} (h : Below B w W) (n : Nat) : Below B w (W.drewN n) := pw_below_drewN h n
theorem bD_ {base : Nat} {w W : World} (h : Below base w W) : Below base w W.drew := below_drew1 h
theorem bS_ {w W : World} {g j : Nat} {v : Value} (h : Below w.heap.size w W) (hg : w.heap.size ≤ g) : Below w.heap.size w (W.setCell ⟨g, j, none⟩ v) := below_set h hg
open Bool renaming true → T, false → F
/-- Below, through the layers laid upon the world since. -/
theorem bel_ {P Q : Prop} (h : Q) (f : Q → P := by intro h; repeat (first | (with_reducible first | exact h | apply below_alloc | apply pw_below_drewN | apply below_drew1 | refine bS_ ?_ (Aside0.out (by assumption))) | exact h)) : P := f h
theorem gl_ {P : Prop} (f : P := by (try simp only [List.map_toArray, List.map_cons, List.map_nil]); first | done | rfl | (simp only [List.length_drop, List.length_take]; rfl)) : P := f
theorem c3_ {w : World} {g t : Nat} {x y z : Value} (h : w.heap[g]? = some (.cells #[x, y, z] t (0, 0))) : w.cell? ⟨g, 0, none⟩ = some x ∧ w.cell? ⟨g, 1, none⟩ = some y ∧ w.cell? ⟨g, 2, none⟩ = some z := ⟨(blk_cell h 0).trans rfl, (blk_cell h 1).trans rfl, (blk_cell h 2).trans rfl⟩
theorem bz_ {w W : World} {g : Nat} (hg : g = W.heap.size) (h : Below w.heap.size w W) : w.heap.size ≤ g := by rw [hg]; exact below_size h
theorem ng_ {W0 W : World} {gX gA : Nat} {o : Obj} (hg : gX = W.heap.size) (h : W0.heap[gA]? = some o) (f : W0.heap[gA]? = some o → W.heap[gA]? = some o := by intro h; (with_reducible repeat (first | refine blk_drewN ?_ _ | refine blk_drew ?_ | refine blk_alloc ?_ _)); exact h) : gX ≠ gA := by rw [hg]; exact Nat.ne_of_gt (blk_lt (f h))
theorem nl_ {W0 W : World} {gX gA : Nat} {o : Obj} (hg : gX = W.heap.size) (h : W0.heap[gA]? = some o) (f : W0.heap[gA]? = some o → W.heap[gA]? = some o := by intro h; (with_reducible repeat (first | refine blk_drewN ?_ _ | refine blk_drew ?_ | refine blk_alloc ?_ _)); exact h) : gA ≠ gX := by rw [hg]; exact Nat.ne_of_lt (blk_lt (f h))
theorem bb_ {W0 W W' : World} {gA : Nat} {o : Obj} (h : W0.heap[gA]? = some o) (hb : Below W.heap.size W W') (f : W0.heap[gA]? = some o → W.heap[gA]? = some o := by intro h; (with_reducible repeat (first | refine blk_drewN ?_ _ | refine blk_drew ?_ | refine blk_alloc ?_ _)); exact h) : W'.heap[gA]? = some o := blk_below (f h) hb

attribute [local go_sem high] eqA24
/-! ### corncriblaw02_MatrixRing: function 6 -/
def corncriblaw02_MatrixRing.f (a0_0 : Int) (a0_1 : Int) (a0_2 : Int) (a1 : ByteArray) (a2 : ByteArray) : Option (Bool) := (corncriblaw02_works.f).bind fun t130 => (if t130 = true then ((corncriblaw02_side.f a0_0).bind fun t131 => ((corncriblaw02_side.f a0_1).bind fun t132 => ((corncriblaw02_made.f t131 t132 a1).bind fun bt133 => ((corncriblaw02_side.f a0_1).bind fun t136 => ((corncriblaw02_side.f a0_2).bind fun t137 => ((corncriblaw02_made.f t136 t137 a2).bind fun bt138 => ((corncriblaw02_side.f a0_2).bind fun t143 => ((corncriblaw02_side.f a0_0).bind fun t144 => (if a2.size + a1.size ≤ 9223372036854775807 then ((corncriblaw02_made.f t143 t144 (a2 ++ a1)).bind fun bt145 => ((matrix_Mul.f bt133.1 bt133.2.1 bt133.2.2 bt138.1 bt138.2.1 bt138.2.2).bind fun bt149 => ((matrix_Mul.f bt138.1 bt138.2.1 bt138.2.2 bt145.1 bt145.2.1 bt145.2.2).bind fun bt154 => ((matrix_Mul.f bt149.1 bt149.2.1 bt149.2.2.1 bt145.1 bt145.2.1 bt145.2.2).bind fun bt159 => ((matrix_Mul.f bt133.1 bt133.2.1 bt133.2.2 bt154.1 bt154.2.1 bt154.2.2.1).bind fun bt164 => ((matrix_Identity.f bt133.1).bind fun bt169 => ((matrix_Identity.f bt133.2.1).bind fun bt174 => ((matrix_Mul.f bt169.1 bt169.2.1 bt169.2.2.1 bt133.1 bt133.2.1 bt133.2.2).bind fun bt179 => ((matrix_Mul.f bt133.1 bt133.2.1 bt133.2.2 bt174.1 bt174.2.1 bt174.2.2.1).bind fun bt184 => (if bt149.2.2.2 = 0 then (if bt154.2.2.2 = 0 then (if bt159.2.2.2 = 0 then (if bt164.2.2.2 = 0 then (if bt169.2.2.2 = 0 then (if bt174.2.2.2 = 0 then (if bt179.2.2.2 = 0 then (if bt184.2.2.2 = 0 then (if (bt159.1 == bt164.1 && (bt159.2.1 == bt164.2.1 && (bt159.2.2.1.toList == bt164.2.2.1.toList))) = true then (if (bt179.1 == bt133.1 && (bt179.2.1 == bt133.2.1 && (bt179.2.2.1.toList == bt133.2.2.toList))) = true then (some (bt184.1 == bt133.1 && (bt184.2.1 == bt133.2.1 && (bt184.2.2.1.toList == bt133.2.2.toList)))) else (some false)) else (some false)) else (some false)) else (some false)) else (some false)) else (some false)) else (some false)) else (some false)) else (some false)) else (some false))))))))))) else (none)))))))))) else (some false))
def corncriblaw02_MatrixRing.T3 : Bool × List (List Nat × List Nat) := (true, [([], []), ([0], [0]), ([1], [1]), ([], []), ([3], [3]), ([4, 2], [4]), ([], []), ([2, 5, 6, 5], [2, 5, 6]), ([], []), ([8], [8]), ([9, 7], [9]), ([], []), ([11], [11]), ([12, 10], [12]), ([], []), ([10, 13, 14, 13], [10, 13, 14]), ([], []), ([], []), ([16, 7, 15, 0, 1, 2, 3, 4, 5, 6, 7, 16, 17], [7, 16]), ([17, 15, 18, 0, 1, 2, 3, 4, 5, 6, 7, 8, 9, 10, 11, 12, 13, 14, 15, 16, 17, 18], [15, 17])])
def corncriblaw02_MatrixRing.B3 : List Nat := [0, 1, 3, 0, 8, 31, 0, 127, 0, 256, 1023, 0, 2048, 8191, 0, 32767, 0, 0, 262143, 524287]
theorem corncriblaw02_MatrixRing.tab3 : rtab .any (opsOf Try.f6 3) = corncriblaw02_MatrixRing.T3 := by kernel_rfl
theorem corncriblaw02_MatrixRing.bits3 : waitsOk corncriblaw02_MatrixRing.T3.2 corncriblaw02_MatrixRing.B3 = true := by kernel_rfl
def corncriblaw02_MatrixRing.T4 : Bool × List (List Nat × List Nat) := (true, [([], []), ([0], [0]), ([1], [1]), ([], []), ([3], [3]), ([4, 2], [4]), ([], []), ([], []), ([6, 7], [6, 7]), ([2, 5, 8, 5], [2, 5, 8]), ([], []), ([10, 9, 9, 0, 1, 2, 3, 4, 5, 6, 7, 8, 9, 10], [9, 10])])
def corncriblaw02_MatrixRing.B4 : List Nat := [0, 1, 3, 0, 8, 31, 0, 0, 192, 511, 0, 2047]
theorem corncriblaw02_MatrixRing.tab4 : rtab .any (opsOf Try.f6 4) = corncriblaw02_MatrixRing.T4 := by kernel_rfl
theorem corncriblaw02_MatrixRing.bits4 : waitsOk corncriblaw02_MatrixRing.T4.2 corncriblaw02_MatrixRing.B4 = true := by kernel_rfl
set_option maxHeartbeats 8000000 in
set_option maxRecDepth 100000 in
theorem corncriblaw02_MatrixRing.calls (a0_0 : Int) (a0_1 : Int) (a0_2 : Int) (a1 : ByteArray) (a2 : ByteArray) (r : Bool) (w : World) (h : corncriblaw02_MatrixRing.f a0_0 a0_1 a0_2 a1 a2 = some r) (hr_ : r = true) :
  Calls Try.prog 6 #[.agg #[.int .i64 a0_0, .int .i64 a0_1, .int .i64 a0_2], .string a1, .string a2] w fun e w' => e = .returned (.bool r) ∧ Below w.heap.size w w' := by
 have HRT := Aside0.mk hr_
 clear hr_
 have hu39 := Try.underlying39
 have hu24 := Try.underlying24
 have HB := Aside0.mk (Below.refl w.heap.size w)
 have H : ((corncriblaw02_works.f).bind fun t130 => (if t130 = true then ((corncriblaw02_side.f a0_0).bind fun t131 => ((corncriblaw02_side.f a0_1).bind fun t132 => ((corncriblaw02_made.f t131 t132 a1).bind fun bt133 => ((corncriblaw02_side.f a0_1).bind fun t136 => ((corncriblaw02_side.f a0_2).bind fun t137 => ((corncriblaw02_made.f t136 t137 a2).bind fun bt138 => ((corncriblaw02_side.f a0_2).bind fun t143 => ((corncriblaw02_side.f a0_0).bind fun t144 => (if a2.size + a1.size ≤ 9223372036854775807 then ((corncriblaw02_made.f t143 t144 (a2 ++ a1)).bind fun bt145 => ((matrix_Mul.f bt133.1 bt133.2.1 bt133.2.2 bt138.1 bt138.2.1 bt138.2.2).bind fun bt149 => ((matrix_Mul.f bt138.1 bt138.2.1 bt138.2.2 bt145.1 bt145.2.1 bt145.2.2).bind fun bt154 => ((matrix_Mul.f bt149.1 bt149.2.1 bt149.2.2.1 bt145.1 bt145.2.1 bt145.2.2).bind fun bt159 => ((matrix_Mul.f bt133.1 bt133.2.1 bt133.2.2 bt154.1 bt154.2.1 bt154.2.2.1).bind fun bt164 => ((matrix_Identity.f bt133.1).bind fun bt169 => ((matrix_Identity.f bt133.2.1).bind fun bt174 => ((matrix_Mul.f bt169.1 bt169.2.1 bt169.2.2.1 bt133.1 bt133.2.1 bt133.2.2).bind fun bt179 => ((matrix_Mul.f bt133.1 bt133.2.1 bt133.2.2 bt174.1 bt174.2.1 bt174.2.2.1).bind fun bt184 => (if bt149.2.2.2 = 0 then (if bt154.2.2.2 = 0 then (if bt159.2.2.2 = 0 then (if bt164.2.2.2 = 0 then (if bt169.2.2.2 = 0 then (if bt174.2.2.2 = 0 then (if bt179.2.2.2 = 0 then (if bt184.2.2.2 = 0 then (if (bt159.1 == bt164.1 && (bt159.2.1 == bt164.2.1 && (bt159.2.2.1.toList == bt164.2.2.1.toList))) = true then (if (bt179.1 == bt133.1 && (bt179.2.1 == bt133.2.1 && (bt179.2.2.1.toList == bt133.2.2.toList))) = true then (some (bt184.1 == bt133.1 && (bt184.2.1 == bt133.2.1 && (bt184.2.2.1.toList == bt133.2.2.toList)))) else (some false)) else (some false)) else (some false)) else (some false)) else (some false)) else (some false)) else (some false)) else (some false)) else (some false)) else (some false))))))))))) else (none)))))))))) else (some false))) = some r := h
 clear h
 replace H := Option.bind_eq_some_iff.mp H
 obtain ⟨t130, A40, H⟩ := H
 try dsimp only at H
 have A4 := Aside0.mk A40
 clear A40
 by_cases c5 : t130 = true
 rotate_left
 ·replace c5 := Bool.eq_false_iff.mpr c5
  subst c5
  have H1 : (some false) = some r := by rw [if_neg (show ¬ (false = true) by decide)] at H; exact H
  clear H
  have H := H1
  clear H1
  obtain rfl := Option.some.inj H
  go_enter Try.func6, Try.ntmps6
  go_wp2_with (first | ((with_reducible refine gate_dst (N := 3) rfl ?_); refine box_event ?hg (N := 3) ?hd (cs := #[.int .i64 a0_0, .int .i64 a0_1, .int .i64 a0_2]) (t := 39) ?hr ?_; (case hd => rfl); (case hg => rfl); (case hr => first | (go_simp; done) | (go_simp; rfl)); intro gb129 hg w1430 hbox hb; have n0_ := Aside0.mk (below_step (bel_ HB.out) hb); have n1_ := Aside0.mk (hbox); have n2_ := Aside0.mk (bz_ hg (bel_ HB.out)); have n3_ := Aside0.mk (bz_ hg (bel_ HB.out)); clear HB; have HB := n0_; have BK129 := n1_; have GW129 := n2_; have GE129 := n3_; clear n0_ n1_ n2_ n3_; clear hb hbox hg) | ((with_reducible refine gate_callee (f := 11) rfl ?_); refine goesL_ (some 27) rfl rfl Try.func11 (by kernel_rfl) rfl #[] rfl gl_ ?_; (with_reducible refine (corncriblaw02_works.calls  false _ A4.out).mono ?_); rintro e w1431 ⟨rfl, hb⟩; refine ⟨_, rfl, ?_⟩; have n0_ := Aside0.mk (bb_ BK129.out hb); have n1_ := Aside0.mk (below_step (bel_ HB.out) hb); clear BK129; clear HB; have BK129 := n0_; have HB := n1_; clear n0_ n1_; (try clear hb); (try clear hb2); (try clear hk); (try clear hi)))
  go_ret
  exact ⟨by first | rfl | (simp [errW_none, errW_some] <;> rfl) | (simp [*, errW_none, errW_some] <;> rfl), bel_ HB.out⟩

 subst c5
 have H1 : ((corncriblaw02_side.f a0_0).bind fun t131 => ((corncriblaw02_side.f a0_1).bind fun t132 => ((corncriblaw02_made.f t131 t132 a1).bind fun bt133 => ((corncriblaw02_side.f a0_1).bind fun t136 => ((corncriblaw02_side.f a0_2).bind fun t137 => ((corncriblaw02_made.f t136 t137 a2).bind fun bt138 => ((corncriblaw02_side.f a0_2).bind fun t143 => ((corncriblaw02_side.f a0_0).bind fun t144 => (if a2.size + a1.size ≤ 9223372036854775807 then ((corncriblaw02_made.f t143 t144 (a2 ++ a1)).bind fun bt145 => ((matrix_Mul.f bt133.1 bt133.2.1 bt133.2.2 bt138.1 bt138.2.1 bt138.2.2).bind fun bt149 => ((matrix_Mul.f bt138.1 bt138.2.1 bt138.2.2 bt145.1 bt145.2.1 bt145.2.2).bind fun bt154 => ((matrix_Mul.f bt149.1 bt149.2.1 bt149.2.2.1 bt145.1 bt145.2.1 bt145.2.2).bind fun bt159 => ((matrix_Mul.f bt133.1 bt133.2.1 bt133.2.2 bt154.1 bt154.2.1 bt154.2.2.1).bind fun bt164 => ((matrix_Identity.f bt133.1).bind fun bt169 => ((matrix_Identity.f bt133.2.1).bind fun bt174 => ((matrix_Mul.f bt169.1 bt169.2.1 bt169.2.2.1 bt133.1 bt133.2.1 bt133.2.2).bind fun bt179 => ((matrix_Mul.f bt133.1 bt133.2.1 bt133.2.2 bt174.1 bt174.2.1 bt174.2.2.1).bind fun bt184 => (if bt149.2.2.2 = 0 then (if bt154.2.2.2 = 0 then (if bt159.2.2.2 = 0 then (if bt164.2.2.2 = 0 then (if bt169.2.2.2 = 0 then (if bt174.2.2.2 = 0 then (if bt179.2.2.2 = 0 then (if bt184.2.2.2 = 0 then (if (bt159.1 == bt164.1 && (bt159.2.1 == bt164.2.1 && (bt159.2.2.1.toList == bt164.2.2.1.toList))) = true then (if (bt179.1 == bt133.1 && (bt179.2.1 == bt133.2.1 && (bt179.2.2.1.toList == bt133.2.2.toList))) = true then (some (bt184.1 == bt133.1 && (bt184.2.1 == bt133.2.1 && (bt184.2.2.1.toList == bt133.2.2.toList)))) else (some false)) else (some false)) else (some false)) else (some false)) else (some false)) else (some false)) else (some false)) else (some false)) else (some false)) else (some false))))))))))) else (none)))))))))) = some r := by rw [if_pos rfl] at H; exact H
 clear H
 have H := H1
 clear H1
 replace H := Option.bind_eq_some_iff.mp H
 obtain ⟨t131, A60, H⟩ := H
 try dsimp only at H
 have A6 := Aside0.mk A60
 clear A60
 replace H := Option.bind_eq_some_iff.mp H
 obtain ⟨t132, A70, H⟩ := H
 try dsimp only at H
 have A7 := Aside0.mk A70
 clear A70
 replace H := Option.bind_eq_some_iff.mp H
 obtain ⟨⟨t133, t134, t135⟩, A80, H⟩ := H
 try dsimp only at H
 have A8 := Aside0.mk A80
 clear A80
 replace H := Option.bind_eq_some_iff.mp H
 obtain ⟨t136, A90, H⟩ := H
 try dsimp only at H
 have A9 := Aside0.mk A90
 clear A90
 replace H := Option.bind_eq_some_iff.mp H
 obtain ⟨t137, A100, H⟩ := H
 try dsimp only at H
 have A10 := Aside0.mk A100
 clear A100
 replace H := Option.bind_eq_some_iff.mp H
 obtain ⟨⟨t138, t139, t140⟩, A110, H⟩ := H
 try dsimp only at H
 have A11 := Aside0.mk A110
 clear A110
 replace H := Option.bind_eq_some_iff.mp H
 obtain ⟨t143, A120, H⟩ := H
 try dsimp only at H
 have A12 := Aside0.mk A120
 clear A120
 replace H := Option.bind_eq_some_iff.mp H
 obtain ⟨t144, A130, H⟩ := H
 try dsimp only at H
 have A13 := Aside0.mk A130
 clear A130
 by_cases c14 : a2.size + a1.size ≤ 9223372036854775807
 rotate_left
 ·rw [if_neg c14] at H
  exact absurd H (by simp)
 rw [if_pos c14] at H
 have c14b0 := eq_true c14
 have c14b1 : decide (a2.size + a1.size ≤ 9223372036854775807) = true := decide_eq_true c14
 try have c14b2 : (9223372036854775807 < a2.size + a1.size) = False := eq_false (Nat.not_lt.2 c14)
 replace H := Option.bind_eq_some_iff.mp H
 obtain ⟨⟨t145, t146, t147⟩, A150, H⟩ := H
 try dsimp only at H
 have A15 := Aside0.mk A150
 clear A150
 replace H := Option.bind_eq_some_iff.mp H
 obtain ⟨⟨t149, t150, t151, t152⟩, A160, H⟩ := H
 try dsimp only at H
 have A16 := Aside0.mk A160
 clear A160
 replace H := Option.bind_eq_some_iff.mp H
 obtain ⟨⟨t154, t155, t156, t157⟩, A170, H⟩ := H
 try dsimp only at H
 have A17 := Aside0.mk A170
 clear A170
 replace H := Option.bind_eq_some_iff.mp H
 obtain ⟨⟨t159, t160, t161, t162⟩, A180, H⟩ := H
 try dsimp only at H
 have A18 := Aside0.mk A180
 clear A180
 replace H := Option.bind_eq_some_iff.mp H
 obtain ⟨⟨t164, t165, t166, t167⟩, A190, H⟩ := H
 try dsimp only at H
 have A19 := Aside0.mk A190
 clear A190
 replace H := Option.bind_eq_some_iff.mp H
 obtain ⟨⟨t169, t170, t171, t172⟩, A200, H⟩ := H
 try dsimp only at H
 have A20 := Aside0.mk A200
 clear A200
 replace H := Option.bind_eq_some_iff.mp H
 obtain ⟨⟨t174, t175, t176, t177⟩, A210, H⟩ := H
 try dsimp only at H
 have A21 := Aside0.mk A210
 clear A210
 replace H := Option.bind_eq_some_iff.mp H
 obtain ⟨⟨t179, t180, t181, t182⟩, A220, H⟩ := H
 try dsimp only at H
 have A22 := Aside0.mk A220
 clear A220
 replace H := Option.bind_eq_some_iff.mp H
 obtain ⟨⟨t184, t185, t186, t187⟩, A230, H⟩ := H
 try dsimp only at H
 have A23 := Aside0.mk A230
 clear A230
 by_cases c24 : t152 = 0
 rotate_left
 ·rw [if_neg c24] at H
  exact absurd ((Option.some.inj H).trans HRT.out) (by decide)
 rw [if_pos c24] at H
 have c24b0 : (t152 == 0) = true := beq_iff_eq.mpr c24
 have c24b1 : (t152 != 0) = false := bne_eq_false_iff_eq.mpr c24
 clear c24
 by_cases c25 : t157 = 0
 rotate_left
 ·rw [if_neg c25] at H
  exact absurd ((Option.some.inj H).trans HRT.out) (by decide)
 rw [if_pos c25] at H
 have c25b0 : (t157 == 0) = true := beq_iff_eq.mpr c25
 have c25b1 : (t157 != 0) = false := bne_eq_false_iff_eq.mpr c25
 clear c25
 by_cases c26 : t162 = 0
 rotate_left
 ·rw [if_neg c26] at H
  exact absurd ((Option.some.inj H).trans HRT.out) (by decide)
 rw [if_pos c26] at H
 have c26b0 : (t162 == 0) = true := beq_iff_eq.mpr c26
 have c26b1 : (t162 != 0) = false := bne_eq_false_iff_eq.mpr c26
 clear c26
 by_cases c27 : t167 = 0
 rotate_left
 ·rw [if_neg c27] at H
  exact absurd ((Option.some.inj H).trans HRT.out) (by decide)
 rw [if_pos c27] at H
 have c27b0 : (t167 == 0) = true := beq_iff_eq.mpr c27
 have c27b1 : (t167 != 0) = false := bne_eq_false_iff_eq.mpr c27
 clear c27
 by_cases c28 : t172 = 0
 rotate_left
 ·rw [if_neg c28] at H
  exact absurd ((Option.some.inj H).trans HRT.out) (by decide)
 rw [if_pos c28] at H
 have c28b0 : (t172 == 0) = true := beq_iff_eq.mpr c28
 have c28b1 : (t172 != 0) = false := bne_eq_false_iff_eq.mpr c28
 clear c28
 by_cases c29 : t177 = 0
 rotate_left
 ·rw [if_neg c29] at H
  exact absurd ((Option.some.inj H).trans HRT.out) (by decide)
 rw [if_pos c29] at H
 have c29b0 : (t177 == 0) = true := beq_iff_eq.mpr c29
 have c29b1 : (t177 != 0) = false := bne_eq_false_iff_eq.mpr c29
 clear c29
 by_cases c30 : t182 = 0
 rotate_left
 ·rw [if_neg c30] at H
  exact absurd ((Option.some.inj H).trans HRT.out) (by decide)
 rw [if_pos c30] at H
 have c30b0 : (t182 == 0) = true := beq_iff_eq.mpr c30
 have c30b1 : (t182 != 0) = false := bne_eq_false_iff_eq.mpr c30
 clear c30
 by_cases c31 : t187 = 0
 rotate_left
 ·rw [if_neg c31] at H
  exact absurd ((Option.some.inj H).trans HRT.out) (by decide)
 rw [if_pos c31] at H
 have c31b0 : (t187 == 0) = true := beq_iff_eq.mpr c31
 have c31b1 : (t187 != 0) = false := bne_eq_false_iff_eq.mpr c31
 clear c31
 by_cases c32 : (t159 == t164 && (t160 == t165 && (t161.toList == t166.toList))) = true
 rotate_left
 ·rw [if_neg c32] at H
  exact absurd ((Option.some.inj H).trans HRT.out) (by decide)
 rw [if_pos c32] at H
 have c32b0 : (t159 == t164 && (t160 == t165 && (t161.toList == t166.toList))) = true := c32
 (try (have c32b1 : decide (t159 = t164 && (t160 == t165 && (t161.toList == t166.toList))) = true := by simpa using c32))
 (try (have c32b2 : (t159 == t164 && (t160 == t165 && (t161.toList == t166.toList))) = true := by simpa using c32))
 clear c32
 by_cases c33 : (t179 == t133 && (t180 == t134 && (t181.toList == t135.toList))) = true
 rotate_left
 ·rw [if_neg c33] at H
  exact absurd ((Option.some.inj H).trans HRT.out) (by decide)
 rw [if_pos c33] at H
 have c33b0 : (t179 == t133 && (t180 == t134 && (t181.toList == t135.toList))) = true := c33
 (try (have c33b1 : decide (t179 = t133 && (t180 == t134 && (t181.toList == t135.toList))) = true := by simpa using c33))
 (try (have c33b2 : (t179 == t133 && (t180 == t134 && (t181.toList == t135.toList))) = true := by simpa using c33))
 clear c33
 obtain rfl := Option.some.inj H
 go_enter Try.func6, Try.ntmps6
 try go_wp2_with (first | ((with_reducible refine gate_dst (N := 3) rfl ?_); refine box_event ?hg (N := 3) ?hd (cs := #[.int .i64 a0_0, .int .i64 a0_1, .int .i64 a0_2]) (t := 39) ?hr ?_; (case hd => rfl); (case hg => rfl); (case hr => first | (go_simp; done) | (go_simp; rfl)); intro gb129 hg w34 hbox hb; have n0_ := Aside0.mk (below_step (bel_ HB.out) hb); have n1_ := Aside0.mk (hbox); have n2_ := Aside0.mk (bz_ hg (bel_ HB.out)); have n3_ := Aside0.mk (bz_ hg (bel_ HB.out)); clear HB; have HB := n0_; have BK129 := n1_; have GW129 := n2_; have GE129 := n3_; clear n0_ n1_ n2_ n3_; clear hb hbox hg) | ((with_reducible refine gate_callee (f := 11) rfl ?_); refine goesL_ (some 27) rfl rfl Try.func11 (by kernel_rfl) rfl #[] rfl gl_ ?_; (with_reducible refine (corncriblaw02_works.calls  true _ A4.out).mono ?_); rintro e w35 ⟨rfl, hb⟩; refine ⟨_, rfl, ?_⟩; have n0_ := Aside0.mk (bb_ BK129.out hb); have n1_ := Aside0.mk (below_step (bel_ HB.out) hb); clear BK129; clear HB; have BK129 := n0_; have HB := n1_; clear n0_ n1_; (try clear hb); (try clear hb2); (try clear hk); (try clear hi)))
 have n0_ := Aside0.mk (blk_drew BK129.out)
 have n1_ := Aside0.mk (below_drew1 HB.out)
 clear BK129
 clear HB
 have BK129 := n0_
 have HB := n1_
 clear n0_ n1_
 refine start_ (n := 20) (S := fun w' => w'.cell? ⟨gb129, 0, none⟩ = some (.int .i64 a0_0) ∧ w'.cell? ⟨gb129, 1, none⟩ = some (.int .i64 a0_1) ∧ w'.cell? ⟨gb129, 2, none⟩ = some (.int .i64 a0_2)) (ds := []) #[F, F, F, F, F, F, F, F, F, F, F, F, F, F, F, F, F, F, F, F] (by kernel_rfl) rfl rfl (c3_ BK129.out) (fun hHeld => ?_); refine with_tabW corncriblaw02_MatrixRing.tab3 corncriblaw02_MatrixRing.bits3 (fun HT_ HW_ => ?_)
 generalize w35.drew = w36 at BK129 HB hHeld ⊢
 refine pure_ (i := 0) (N := some 29) (v := ?_) (a' := ?_) #[T, F, F, F, F, F, F, F, F, F, F, F, F, F, F, F, F, F, F, F] rfl rfl (any_of HT_.out (by kernel_rfl)) (fun _ _ _ h => h) (Or.inl ⟨by rfl, ?_⟩) ?_ ?_
 rotate_left
 ·intro w'
  go_simp
  with_reducible rfl
 rotate_left
 ·simp only [Act.put, s1_, s2_, s3_, i64_w, i32_w]
  rfl
 refine pure_ (i := 3) (N := some 32) (v := ?_) (a' := ?_) #[T, F, F, T, F, F, F, F, F, F, F, F, F, F, F, F, F, F, F, F] rfl rfl (any_of HT_.out (by kernel_rfl)) (fun _ _ _ h => h) (Or.inl ⟨by rfl, ?_⟩) ?_ ?_
 rotate_left
 ·intro w'
  go_simp
  with_reducible rfl
 rotate_left
 ·simp only [Act.put, s1_, s2_, s3_, i64_w, i32_w]
  rfl
 refine pure_ (i := 6) (N := some 35) (v := ?_) (a' := ?_) #[T, F, F, T, F, F, T, F, F, F, F, F, F, F, F, F, F, F, F, F] rfl rfl (any_of HT_.out (by kernel_rfl)) (fun _ _ _ h => h) (Or.inl ⟨by rfl, ?_⟩) ?_ ?_
 rotate_left
 ·intro w'
  go_simp
  with_reducible rfl
 rotate_left
 ·simp only [Act.put, s1_, s2_, s3_, i64_w, i32_w]
  rfl
 refine pure_ (i := 8) (N := some 37) (v := ?_) (a' := ?_) #[T, F, F, T, F, F, T, F, T, F, F, F, F, F, F, F, F, F, F, F] rfl rfl (any_of HT_.out (by kernel_rfl)) (fun _ _ _ h => h) (Or.inl ⟨by rfl, ?_⟩) ?_ ?_
 rotate_left
 ·intro w'
  go_simp
  with_reducible rfl
 rotate_left
 ·simp only [Act.put, s1_, s2_, s3_, i64_w, i32_w]
  rfl
 refine pure_ (i := 11) (N := some 40) (v := ?_) (a' := ?_) #[T, F, F, T, F, F, T, F, T, F, F, T, F, F, F, F, F, F, F, F] rfl rfl (any_of HT_.out (by kernel_rfl)) (fun _ _ _ h => h) (Or.inl ⟨by rfl, ?_⟩) ?_ ?_
 rotate_left
 ·intro w'
  go_simp
  with_reducible rfl
 rotate_left
 ·simp only [Act.put, s1_, s2_, s3_, i64_w, i32_w]
  rfl
 refine pure_ (i := 14) (N := some 43) (v := ?_) (a' := ?_) #[T, F, F, T, F, F, T, F, T, F, F, T, F, F, T, F, F, F, F, F] rfl rfl (any_of HT_.out (by kernel_rfl)) (fun _ _ _ h => h) (Or.inl ⟨by rfl, ?_⟩) ?_ ?_
 rotate_left
 ·intro w'
  go_simp
  with_reducible rfl
 rotate_left
 ·simp only [Act.put, s1_, s2_, s3_, i64_w, i32_w]
  rfl
 refine take_ (i := 1) (N := some 30) (v := ?_) (a' := ?_) #[T, T, F, T, F, F, T, F, T, F, F, T, F, F, T, F, F, F, F, F] rfl rfl (take_ofW HT_.out HW_.out (by kernel_rfl)) (fun _ _ _ h => h) (Or.inl ⟨by rfl, ?_⟩) hHeld ?_ ?_
 rotate_left
 ·rintro w' ⟨s0, s1, s2⟩
  go_simp
  with_reducible rfl
 rotate_left
 ·simp only [Act.put, s1_, s2_, s3_, i64_w, i32_w]
  rfl
 refine take_ (i := 4) (N := some 33) (v := ?_) (a' := ?_) #[T, T, F, T, T, F, T, F, T, F, F, T, F, F, T, F, F, F, F, F] rfl rfl (take_ofW HT_.out HW_.out (by kernel_rfl)) (fun _ _ _ h => h) (Or.inl ⟨by rfl, ?_⟩) hHeld ?_ ?_
 rotate_left
 ·rintro w' ⟨s0, s1, s2⟩
  go_simp
  with_reducible rfl
 rotate_left
 ·simp only [Act.put, s1_, s2_, s3_, i64_w, i32_w]
  rfl
 refine take_ (i := 9) (N := some 38) (v := ?_) (a' := ?_) #[T, T, F, T, T, F, T, F, T, T, F, T, F, F, T, F, F, F, F, F] rfl rfl (take_ofW HT_.out HW_.out (by kernel_rfl)) (fun _ _ _ h => h) (Or.inl ⟨by rfl, ?_⟩) hHeld ?_ ?_
 rotate_left
 ·rintro w' ⟨s0, s1, s2⟩
  go_simp
  with_reducible rfl
 rotate_left
 ·simp only [Act.put, s1_, s2_, s3_, i64_w, i32_w]
  rfl
 refine take_ (i := 12) (N := some 41) (v := ?_) (a' := ?_) #[T, T, F, T, T, F, T, F, T, T, F, T, T, F, T, F, F, F, F, F] rfl rfl (take_ofW HT_.out HW_.out (by kernel_rfl)) (fun _ _ _ h => h) (Or.inl ⟨by rfl, ?_⟩) hHeld ?_ ?_
 rotate_left
 ·rintro w' ⟨s0, s1, s2⟩
  go_simp
  with_reducible rfl
 rotate_left
 ·simp only [Act.put, s1_, s2_, s3_, i64_w, i32_w]
  rfl
 refine join_ (σ := Nat × Nat) 2 #[T, T, T, T, T, T, T, T, T, T, T, T, T, T, T, T, T, T, F, F] (fun s_ => [(31, .int .i64 t131), (34, .int .i64 t132), (36, .agg #[.int .i64 t133, .int .i64 t134, .string t135]), (39, .int .i64 t136), (42, .int .i64 t137), (44, .agg #[.int .i64 t138, .int .i64 t139, .string t140]), (7, .pointer (some ⟨s_.1, 0, none⟩)), (8, .pointer (some ⟨s_.2, 0, none⟩))]) (fun s_ w' => (w'.cell? ⟨gb129, 0, none⟩ = some (.int .i64 a0_0) ∧ w'.cell? ⟨gb129, 1, none⟩ = some (.int .i64 a0_1) ∧ w'.cell? ⟨gb129, 2, none⟩ = some (.int .i64 a0_2)) ∧ (w'.heap[gb129]? = some (.cells #[.int .i64 a0_0, .int .i64 a0_1, .int .i64 a0_2] 39 (0, 0))) ∧ (w'.heap[s_.1]? = some (.cells #[.int .i64 0, .int .i64 0, .string (⟨#[]⟩ : ByteArray)] 24 (0, 0))) ∧ (w'.heap[s_.2]? = some (.cells #[.int .i64 0, .int .i64 0, .string (⟨#[]⟩ : ByteArray)] 24 (0, 0))) ∧ (w.heap.size ≤ s_.1) ∧ (w.heap.size ≤ s_.1) ∧ (gb129 ≠ s_.1) ∧ (s_.1 ≠ gb129) ∧ (s_.2 ≠ s_.1) ∧ (s_.1 ≠ s_.2) ∧ (w.heap.size ≤ s_.2) ∧ (w.heap.size ≤ s_.2) ∧ (gb129 ≠ s_.2) ∧ (s_.2 ≠ gb129) ∧ (Below w.heap.size w w')) ?_ ?_
 rotate_left
 ·intro hJ2_5_7_10_13_15_16_17
  refine join_ (σ := Nat) 3 #[T, T, T, T, T, T, T, T, T, T, T, T, T, T, T, T, T, F, F, F] (fun s_ => [(31, .int .i64 t131), (34, .int .i64 t132), (36, .agg #[.int .i64 t133, .int .i64 t134, .string t135]), (39, .int .i64 t136), (42, .int .i64 t137), (44, .agg #[.int .i64 t138, .int .i64 t139, .string t140]), (7, .pointer (some ⟨s_, 0, none⟩))]) (fun s_ w' => (w'.cell? ⟨gb129, 0, none⟩ = some (.int .i64 a0_0) ∧ w'.cell? ⟨gb129, 1, none⟩ = some (.int .i64 a0_1) ∧ w'.cell? ⟨gb129, 2, none⟩ = some (.int .i64 a0_2)) ∧ (w'.heap[gb129]? = some (.cells #[.int .i64 a0_0, .int .i64 a0_1, .int .i64 a0_2] 39 (0, 0))) ∧ (w'.heap[s_]? = some (.cells #[.int .i64 0, .int .i64 0, .string (⟨#[]⟩ : ByteArray)] 24 (0, 0))) ∧ (w.heap.size ≤ s_) ∧ (w.heap.size ≤ s_) ∧ (gb129 ≠ s_) ∧ (s_ ≠ gb129) ∧ (Below w.heap.size w w')) ?_ ?_
  rotate_left
  ·intro hJ2_5_7_10_13_15_16
   refine join_ (σ := Nat) 3 #[T, T, T, T, T, T, T, T, T, T, T, T, T, T, T, T, F, T, F, F] (fun s_ => [(31, .int .i64 t131), (34, .int .i64 t132), (36, .agg #[.int .i64 t133, .int .i64 t134, .string t135]), (39, .int .i64 t136), (42, .int .i64 t137), (44, .agg #[.int .i64 t138, .int .i64 t139, .string t140]), (8, .pointer (some ⟨s_, 0, none⟩))]) (fun s_ w' => (w'.cell? ⟨gb129, 0, none⟩ = some (.int .i64 a0_0) ∧ w'.cell? ⟨gb129, 1, none⟩ = some (.int .i64 a0_1) ∧ w'.cell? ⟨gb129, 2, none⟩ = some (.int .i64 a0_2)) ∧ (w'.heap[gb129]? = some (.cells #[.int .i64 a0_0, .int .i64 a0_1, .int .i64 a0_2] 39 (0, 0))) ∧ (w'.heap[s_]? = some (.cells #[.int .i64 0, .int .i64 0, .string (⟨#[]⟩ : ByteArray)] 24 (0, 0))) ∧ (w.heap.size ≤ s_) ∧ (w.heap.size ≤ s_) ∧ (gb129 ≠ s_) ∧ (s_ ≠ gb129) ∧ (Below w.heap.size w w')) ?_ ?_
   rotate_left
   ·intro hJ2_5_7_10_13_15_17
    refine join_ (σ := Nat × Nat) 3 #[T, T, T, T, T, T, T, T, T, T, T, T, T, T, T, F, T, T, F, F] (fun s_ => [(31, .int .i64 t131), (34, .int .i64 t132), (36, .agg #[.int .i64 t133, .int .i64 t134, .string t135]), (39, .int .i64 t136), (42, .int .i64 t137), (7, .pointer (some ⟨s_.1, 0, none⟩)), (8, .pointer (some ⟨s_.2, 0, none⟩))]) (fun s_ w' => (w'.cell? ⟨gb129, 0, none⟩ = some (.int .i64 a0_0) ∧ w'.cell? ⟨gb129, 1, none⟩ = some (.int .i64 a0_1) ∧ w'.cell? ⟨gb129, 2, none⟩ = some (.int .i64 a0_2)) ∧ (w'.heap[gb129]? = some (.cells #[.int .i64 a0_0, .int .i64 a0_1, .int .i64 a0_2] 39 (0, 0))) ∧ (w'.heap[s_.1]? = some (.cells #[.int .i64 0, .int .i64 0, .string (⟨#[]⟩ : ByteArray)] 24 (0, 0))) ∧ (w'.heap[s_.2]? = some (.cells #[.int .i64 0, .int .i64 0, .string (⟨#[]⟩ : ByteArray)] 24 (0, 0))) ∧ (w.heap.size ≤ s_.1) ∧ (w.heap.size ≤ s_.1) ∧ (gb129 ≠ s_.1) ∧ (s_.1 ≠ gb129) ∧ (s_.2 ≠ s_.1) ∧ (s_.1 ≠ s_.2) ∧ (w.heap.size ≤ s_.2) ∧ (w.heap.size ≤ s_.2) ∧ (gb129 ≠ s_.2) ∧ (s_.2 ≠ gb129) ∧ (Below w.heap.size w w')) ?_ ?_
    rotate_left
    ·intro hJ2_5_7_10_13_16_17
     refine join_ (σ := Unit) 4 #[T, T, T, T, T, T, T, T, T, T, T, T, T, T, T, T, F, F, F, F] (fun s_ => [(31, .int .i64 t131), (34, .int .i64 t132), (36, .agg #[.int .i64 t133, .int .i64 t134, .string t135]), (39, .int .i64 t136), (42, .int .i64 t137), (44, .agg #[.int .i64 t138, .int .i64 t139, .string t140])]) (fun s_ w' => (w'.cell? ⟨gb129, 0, none⟩ = some (.int .i64 a0_0) ∧ w'.cell? ⟨gb129, 1, none⟩ = some (.int .i64 a0_1) ∧ w'.cell? ⟨gb129, 2, none⟩ = some (.int .i64 a0_2)) ∧ (w'.heap[gb129]? = some (.cells #[.int .i64 a0_0, .int .i64 a0_1, .int .i64 a0_2] 39 (0, 0))) ∧ (Below w.heap.size w w')) ?_ ?_
     rotate_left
     ·intro hJ2_5_7_10_13_15
      refine join_ (σ := Nat) 4 #[T, T, T, T, T, T, T, T, T, T, T, T, T, T, T, F, T, F, F, F] (fun s_ => [(31, .int .i64 t131), (34, .int .i64 t132), (36, .agg #[.int .i64 t133, .int .i64 t134, .string t135]), (39, .int .i64 t136), (42, .int .i64 t137), (7, .pointer (some ⟨s_, 0, none⟩))]) (fun s_ w' => (w'.cell? ⟨gb129, 0, none⟩ = some (.int .i64 a0_0) ∧ w'.cell? ⟨gb129, 1, none⟩ = some (.int .i64 a0_1) ∧ w'.cell? ⟨gb129, 2, none⟩ = some (.int .i64 a0_2)) ∧ (w'.heap[gb129]? = some (.cells #[.int .i64 a0_0, .int .i64 a0_1, .int .i64 a0_2] 39 (0, 0))) ∧ (w'.heap[s_]? = some (.cells #[.int .i64 0, .int .i64 0, .string (⟨#[]⟩ : ByteArray)] 24 (0, 0))) ∧ (w.heap.size ≤ s_) ∧ (w.heap.size ≤ s_) ∧ (gb129 ≠ s_) ∧ (s_ ≠ gb129) ∧ (Below w.heap.size w w')) ?_ ?_
      rotate_left
      ·intro hJ2_5_7_10_13_16
       refine join_ (σ := Nat) 4 #[T, T, T, T, T, T, T, T, T, T, T, T, T, T, T, F, F, T, F, F] (fun s_ => [(31, .int .i64 t131), (34, .int .i64 t132), (36, .agg #[.int .i64 t133, .int .i64 t134, .string t135]), (39, .int .i64 t136), (42, .int .i64 t137), (8, .pointer (some ⟨s_, 0, none⟩))]) (fun s_ w' => (w'.cell? ⟨gb129, 0, none⟩ = some (.int .i64 a0_0) ∧ w'.cell? ⟨gb129, 1, none⟩ = some (.int .i64 a0_1) ∧ w'.cell? ⟨gb129, 2, none⟩ = some (.int .i64 a0_2)) ∧ (w'.heap[gb129]? = some (.cells #[.int .i64 a0_0, .int .i64 a0_1, .int .i64 a0_2] 39 (0, 0))) ∧ (w'.heap[s_]? = some (.cells #[.int .i64 0, .int .i64 0, .string (⟨#[]⟩ : ByteArray)] 24 (0, 0))) ∧ (w.heap.size ≤ s_) ∧ (w.heap.size ≤ s_) ∧ (gb129 ≠ s_) ∧ (s_ ≠ gb129) ∧ (Below w.heap.size w w')) ?_ ?_
       rotate_left
       ·intro hJ2_5_7_10_13_17
        refine join_ (σ := Nat × Nat) 4 #[T, T, T, T, T, T, T, T, T, T, T, T, T, F, T, F, T, T, F, F] (fun s_ => [(31, .int .i64 t131), (34, .int .i64 t132), (36, .agg #[.int .i64 t133, .int .i64 t134, .string t135]), (39, .int .i64 t136), (7, .pointer (some ⟨s_.1, 0, none⟩)), (8, .pointer (some ⟨s_.2, 0, none⟩))]) (fun s_ w' => (w'.cell? ⟨gb129, 0, none⟩ = some (.int .i64 a0_0) ∧ w'.cell? ⟨gb129, 1, none⟩ = some (.int .i64 a0_1) ∧ w'.cell? ⟨gb129, 2, none⟩ = some (.int .i64 a0_2)) ∧ (w'.heap[gb129]? = some (.cells #[.int .i64 a0_0, .int .i64 a0_1, .int .i64 a0_2] 39 (0, 0))) ∧ (w'.heap[s_.1]? = some (.cells #[.int .i64 0, .int .i64 0, .string (⟨#[]⟩ : ByteArray)] 24 (0, 0))) ∧ (w'.heap[s_.2]? = some (.cells #[.int .i64 0, .int .i64 0, .string (⟨#[]⟩ : ByteArray)] 24 (0, 0))) ∧ (w.heap.size ≤ s_.1) ∧ (w.heap.size ≤ s_.1) ∧ (gb129 ≠ s_.1) ∧ (s_.1 ≠ gb129) ∧ (s_.2 ≠ s_.1) ∧ (s_.1 ≠ s_.2) ∧ (w.heap.size ≤ s_.2) ∧ (w.heap.size ≤ s_.2) ∧ (gb129 ≠ s_.2) ∧ (s_.2 ≠ gb129) ∧ (Below w.heap.size w w')) ?_ ?_
        rotate_left
        ·intro hJ2_5_7_10_16_17
         refine join_ (σ := Unit) 5 #[T, T, T, T, T, T, T, T, T, T, T, T, T, T, T, F, F, F, F, F] (fun s_ => [(31, .int .i64 t131), (34, .int .i64 t132), (36, .agg #[.int .i64 t133, .int .i64 t134, .string t135]), (39, .int .i64 t136), (42, .int .i64 t137)]) (fun s_ w' => (w'.cell? ⟨gb129, 0, none⟩ = some (.int .i64 a0_0) ∧ w'.cell? ⟨gb129, 1, none⟩ = some (.int .i64 a0_1) ∧ w'.cell? ⟨gb129, 2, none⟩ = some (.int .i64 a0_2)) ∧ (w'.heap[gb129]? = some (.cells #[.int .i64 a0_0, .int .i64 a0_1, .int .i64 a0_2] 39 (0, 0))) ∧ (Below w.heap.size w w')) ?_ ?_
         rotate_left
         ·intro hJ2_5_7_10_13
          refine join_ (σ := Nat) 5 #[T, T, T, T, T, T, T, T, T, T, T, T, T, F, T, F, T, F, F, F] (fun s_ => [(31, .int .i64 t131), (34, .int .i64 t132), (36, .agg #[.int .i64 t133, .int .i64 t134, .string t135]), (39, .int .i64 t136), (7, .pointer (some ⟨s_, 0, none⟩))]) (fun s_ w' => (w'.cell? ⟨gb129, 0, none⟩ = some (.int .i64 a0_0) ∧ w'.cell? ⟨gb129, 1, none⟩ = some (.int .i64 a0_1) ∧ w'.cell? ⟨gb129, 2, none⟩ = some (.int .i64 a0_2)) ∧ (w'.heap[gb129]? = some (.cells #[.int .i64 a0_0, .int .i64 a0_1, .int .i64 a0_2] 39 (0, 0))) ∧ (w'.heap[s_]? = some (.cells #[.int .i64 0, .int .i64 0, .string (⟨#[]⟩ : ByteArray)] 24 (0, 0))) ∧ (w.heap.size ≤ s_) ∧ (w.heap.size ≤ s_) ∧ (gb129 ≠ s_) ∧ (s_ ≠ gb129) ∧ (Below w.heap.size w w')) ?_ ?_
          rotate_left
          ·intro hJ2_5_7_10_16
           refine join_ (σ := Nat) 5 #[T, T, T, T, T, T, T, T, T, T, T, T, T, F, T, F, F, T, F, F] (fun s_ => [(31, .int .i64 t131), (34, .int .i64 t132), (36, .agg #[.int .i64 t133, .int .i64 t134, .string t135]), (39, .int .i64 t136), (8, .pointer (some ⟨s_, 0, none⟩))]) (fun s_ w' => (w'.cell? ⟨gb129, 0, none⟩ = some (.int .i64 a0_0) ∧ w'.cell? ⟨gb129, 1, none⟩ = some (.int .i64 a0_1) ∧ w'.cell? ⟨gb129, 2, none⟩ = some (.int .i64 a0_2)) ∧ (w'.heap[gb129]? = some (.cells #[.int .i64 a0_0, .int .i64 a0_1, .int .i64 a0_2] 39 (0, 0))) ∧ (w'.heap[s_]? = some (.cells #[.int .i64 0, .int .i64 0, .string (⟨#[]⟩ : ByteArray)] 24 (0, 0))) ∧ (w.heap.size ≤ s_) ∧ (w.heap.size ≤ s_) ∧ (gb129 ≠ s_) ∧ (s_ ≠ gb129) ∧ (Below w.heap.size w w')) ?_ ?_
           rotate_left
           ·intro hJ2_5_7_10_17
            refine join_ (σ := Nat × Nat) 5 #[T, T, T, T, T, T, T, T, T, T, F, T, T, F, T, F, T, T, F, F] (fun s_ => [(31, .int .i64 t131), (34, .int .i64 t132), (36, .agg #[.int .i64 t133, .int .i64 t134, .string t135]), (7, .pointer (some ⟨s_.1, 0, none⟩)), (8, .pointer (some ⟨s_.2, 0, none⟩))]) (fun s_ w' => (w'.cell? ⟨gb129, 0, none⟩ = some (.int .i64 a0_0) ∧ w'.cell? ⟨gb129, 1, none⟩ = some (.int .i64 a0_1) ∧ w'.cell? ⟨gb129, 2, none⟩ = some (.int .i64 a0_2)) ∧ (w'.heap[gb129]? = some (.cells #[.int .i64 a0_0, .int .i64 a0_1, .int .i64 a0_2] 39 (0, 0))) ∧ (w'.heap[s_.1]? = some (.cells #[.int .i64 0, .int .i64 0, .string (⟨#[]⟩ : ByteArray)] 24 (0, 0))) ∧ (w'.heap[s_.2]? = some (.cells #[.int .i64 0, .int .i64 0, .string (⟨#[]⟩ : ByteArray)] 24 (0, 0))) ∧ (w.heap.size ≤ s_.1) ∧ (w.heap.size ≤ s_.1) ∧ (gb129 ≠ s_.1) ∧ (s_.1 ≠ gb129) ∧ (s_.2 ≠ s_.1) ∧ (s_.1 ≠ s_.2) ∧ (w.heap.size ≤ s_.2) ∧ (w.heap.size ≤ s_.2) ∧ (gb129 ≠ s_.2) ∧ (s_.2 ≠ gb129) ∧ (Below w.heap.size w w')) ?_ ?_
            rotate_left
            ·intro hJ2_5_7_16_17
             refine join_ (σ := Unit) 6 #[T, T, T, T, T, T, T, T, T, T, T, T, T, F, T, F, F, F, F, F] (fun s_ => [(31, .int .i64 t131), (34, .int .i64 t132), (36, .agg #[.int .i64 t133, .int .i64 t134, .string t135]), (39, .int .i64 t136)]) (fun s_ w' => (w'.cell? ⟨gb129, 0, none⟩ = some (.int .i64 a0_0) ∧ w'.cell? ⟨gb129, 1, none⟩ = some (.int .i64 a0_1) ∧ w'.cell? ⟨gb129, 2, none⟩ = some (.int .i64 a0_2)) ∧ (w'.heap[gb129]? = some (.cells #[.int .i64 a0_0, .int .i64 a0_1, .int .i64 a0_2] 39 (0, 0))) ∧ (Below w.heap.size w w')) ?_ ?_
             rotate_left
             ·intro hJ2_5_7_10
              refine join_ (σ := Nat) 6 #[T, T, T, T, T, T, T, T, T, T, F, T, T, F, T, F, T, F, F, F] (fun s_ => [(31, .int .i64 t131), (34, .int .i64 t132), (36, .agg #[.int .i64 t133, .int .i64 t134, .string t135]), (7, .pointer (some ⟨s_, 0, none⟩))]) (fun s_ w' => (w'.cell? ⟨gb129, 0, none⟩ = some (.int .i64 a0_0) ∧ w'.cell? ⟨gb129, 1, none⟩ = some (.int .i64 a0_1) ∧ w'.cell? ⟨gb129, 2, none⟩ = some (.int .i64 a0_2)) ∧ (w'.heap[gb129]? = some (.cells #[.int .i64 a0_0, .int .i64 a0_1, .int .i64 a0_2] 39 (0, 0))) ∧ (w'.heap[s_]? = some (.cells #[.int .i64 0, .int .i64 0, .string (⟨#[]⟩ : ByteArray)] 24 (0, 0))) ∧ (w.heap.size ≤ s_) ∧ (w.heap.size ≤ s_) ∧ (gb129 ≠ s_) ∧ (s_ ≠ gb129) ∧ (Below w.heap.size w w')) ?_ ?_
              rotate_left
              ·intro hJ2_5_7_16
               refine join_ (σ := Nat) 6 #[T, T, T, T, T, T, T, T, T, T, F, T, T, F, T, F, F, T, F, F] (fun s_ => [(31, .int .i64 t131), (34, .int .i64 t132), (36, .agg #[.int .i64 t133, .int .i64 t134, .string t135]), (8, .pointer (some ⟨s_, 0, none⟩))]) (fun s_ w' => (w'.cell? ⟨gb129, 0, none⟩ = some (.int .i64 a0_0) ∧ w'.cell? ⟨gb129, 1, none⟩ = some (.int .i64 a0_1) ∧ w'.cell? ⟨gb129, 2, none⟩ = some (.int .i64 a0_2)) ∧ (w'.heap[gb129]? = some (.cells #[.int .i64 a0_0, .int .i64 a0_1, .int .i64 a0_2] 39 (0, 0))) ∧ (w'.heap[s_]? = some (.cells #[.int .i64 0, .int .i64 0, .string (⟨#[]⟩ : ByteArray)] 24 (0, 0))) ∧ (w.heap.size ≤ s_) ∧ (w.heap.size ≤ s_) ∧ (gb129 ≠ s_) ∧ (s_ ≠ gb129) ∧ (Below w.heap.size w w')) ?_ ?_
               rotate_left
               ·intro hJ2_5_7_17
                refine join_ (σ := Nat × Nat) 6 #[T, T, T, T, T, T, T, F, T, T, F, T, T, F, T, F, T, T, F, F] (fun s_ => [(31, .int .i64 t131), (34, .int .i64 t132), (7, .pointer (some ⟨s_.1, 0, none⟩)), (8, .pointer (some ⟨s_.2, 0, none⟩))]) (fun s_ w' => (w'.cell? ⟨gb129, 0, none⟩ = some (.int .i64 a0_0) ∧ w'.cell? ⟨gb129, 1, none⟩ = some (.int .i64 a0_1) ∧ w'.cell? ⟨gb129, 2, none⟩ = some (.int .i64 a0_2)) ∧ (w'.heap[gb129]? = some (.cells #[.int .i64 a0_0, .int .i64 a0_1, .int .i64 a0_2] 39 (0, 0))) ∧ (w'.heap[s_.1]? = some (.cells #[.int .i64 0, .int .i64 0, .string (⟨#[]⟩ : ByteArray)] 24 (0, 0))) ∧ (w'.heap[s_.2]? = some (.cells #[.int .i64 0, .int .i64 0, .string (⟨#[]⟩ : ByteArray)] 24 (0, 0))) ∧ (w.heap.size ≤ s_.1) ∧ (w.heap.size ≤ s_.1) ∧ (gb129 ≠ s_.1) ∧ (s_.1 ≠ gb129) ∧ (s_.2 ≠ s_.1) ∧ (s_.1 ≠ s_.2) ∧ (w.heap.size ≤ s_.2) ∧ (w.heap.size ≤ s_.2) ∧ (gb129 ≠ s_.2) ∧ (s_.2 ≠ gb129) ∧ (Below w.heap.size w w')) ?_ ?_
                rotate_left
                ·intro hJ2_5_16_17
                 refine join_ (σ := Unit) 7 #[T, T, T, T, T, T, T, T, T, T, F, T, T, F, T, F, F, F, F, F] (fun s_ => [(31, .int .i64 t131), (34, .int .i64 t132), (36, .agg #[.int .i64 t133, .int .i64 t134, .string t135])]) (fun s_ w' => (w'.cell? ⟨gb129, 0, none⟩ = some (.int .i64 a0_0) ∧ w'.cell? ⟨gb129, 1, none⟩ = some (.int .i64 a0_1) ∧ w'.cell? ⟨gb129, 2, none⟩ = some (.int .i64 a0_2)) ∧ (w'.heap[gb129]? = some (.cells #[.int .i64 a0_0, .int .i64 a0_1, .int .i64 a0_2] 39 (0, 0))) ∧ (Below w.heap.size w w')) ?_ ?_
                 rotate_left
                 ·intro hJ2_5_7
                  refine join_ (σ := Nat) 7 #[T, T, T, T, T, T, T, F, T, T, F, T, T, F, T, F, T, F, F, F] (fun s_ => [(31, .int .i64 t131), (34, .int .i64 t132), (7, .pointer (some ⟨s_, 0, none⟩))]) (fun s_ w' => (w'.cell? ⟨gb129, 0, none⟩ = some (.int .i64 a0_0) ∧ w'.cell? ⟨gb129, 1, none⟩ = some (.int .i64 a0_1) ∧ w'.cell? ⟨gb129, 2, none⟩ = some (.int .i64 a0_2)) ∧ (w'.heap[gb129]? = some (.cells #[.int .i64 a0_0, .int .i64 a0_1, .int .i64 a0_2] 39 (0, 0))) ∧ (w'.heap[s_]? = some (.cells #[.int .i64 0, .int .i64 0, .string (⟨#[]⟩ : ByteArray)] 24 (0, 0))) ∧ (w.heap.size ≤ s_) ∧ (w.heap.size ≤ s_) ∧ (gb129 ≠ s_) ∧ (s_ ≠ gb129) ∧ (Below w.heap.size w w')) ?_ ?_
                  rotate_left
                  ·intro hJ2_5_16
                   refine join_ (σ := Nat) 7 #[T, T, T, T, T, T, T, F, T, T, F, T, T, F, T, F, F, T, F, F] (fun s_ => [(31, .int .i64 t131), (34, .int .i64 t132), (8, .pointer (some ⟨s_, 0, none⟩))]) (fun s_ w' => (w'.cell? ⟨gb129, 0, none⟩ = some (.int .i64 a0_0) ∧ w'.cell? ⟨gb129, 1, none⟩ = some (.int .i64 a0_1) ∧ w'.cell? ⟨gb129, 2, none⟩ = some (.int .i64 a0_2)) ∧ (w'.heap[gb129]? = some (.cells #[.int .i64 a0_0, .int .i64 a0_1, .int .i64 a0_2] 39 (0, 0))) ∧ (w'.heap[s_]? = some (.cells #[.int .i64 0, .int .i64 0, .string (⟨#[]⟩ : ByteArray)] 24 (0, 0))) ∧ (w.heap.size ≤ s_) ∧ (w.heap.size ≤ s_) ∧ (gb129 ≠ s_) ∧ (s_ ≠ gb129) ∧ (Below w.heap.size w w')) ?_ ?_
                   rotate_left
                   ·intro hJ2_5_17
                    refine join_ (σ := Nat × Nat) 7 #[T, T, T, T, T, F, T, F, T, T, F, T, T, F, T, F, T, T, F, F] (fun s_ => [(31, .int .i64 t131), (7, .pointer (some ⟨s_.1, 0, none⟩)), (8, .pointer (some ⟨s_.2, 0, none⟩))]) (fun s_ w' => (w'.cell? ⟨gb129, 0, none⟩ = some (.int .i64 a0_0) ∧ w'.cell? ⟨gb129, 1, none⟩ = some (.int .i64 a0_1) ∧ w'.cell? ⟨gb129, 2, none⟩ = some (.int .i64 a0_2)) ∧ (w'.heap[gb129]? = some (.cells #[.int .i64 a0_0, .int .i64 a0_1, .int .i64 a0_2] 39 (0, 0))) ∧ (w'.heap[s_.1]? = some (.cells #[.int .i64 0, .int .i64 0, .string (⟨#[]⟩ : ByteArray)] 24 (0, 0))) ∧ (w'.heap[s_.2]? = some (.cells #[.int .i64 0, .int .i64 0, .string (⟨#[]⟩ : ByteArray)] 24 (0, 0))) ∧ (w.heap.size ≤ s_.1) ∧ (w.heap.size ≤ s_.1) ∧ (gb129 ≠ s_.1) ∧ (s_.1 ≠ gb129) ∧ (s_.2 ≠ s_.1) ∧ (s_.1 ≠ s_.2) ∧ (w.heap.size ≤ s_.2) ∧ (w.heap.size ≤ s_.2) ∧ (gb129 ≠ s_.2) ∧ (s_.2 ≠ gb129) ∧ (Below w.heap.size w w')) ?_ ?_
                    rotate_left
                    ·intro hJ2_16_17
                     refine join_ (σ := Unit) 8 #[T, T, T, T, T, T, T, F, T, T, F, T, T, F, T, F, F, F, F, F] (fun s_ => [(31, .int .i64 t131), (34, .int .i64 t132)]) (fun s_ w' => (w'.cell? ⟨gb129, 0, none⟩ = some (.int .i64 a0_0) ∧ w'.cell? ⟨gb129, 1, none⟩ = some (.int .i64 a0_1) ∧ w'.cell? ⟨gb129, 2, none⟩ = some (.int .i64 a0_2)) ∧ (w'.heap[gb129]? = some (.cells #[.int .i64 a0_0, .int .i64 a0_1, .int .i64 a0_2] 39 (0, 0))) ∧ (Below w.heap.size w w')) ?_ ?_
                     rotate_left
                     ·intro hJ2_5
                      refine join_ (σ := Nat) 8 #[T, T, T, T, T, F, T, F, T, T, F, T, T, F, T, F, T, F, F, F] (fun s_ => [(31, .int .i64 t131), (7, .pointer (some ⟨s_, 0, none⟩))]) (fun s_ w' => (w'.cell? ⟨gb129, 0, none⟩ = some (.int .i64 a0_0) ∧ w'.cell? ⟨gb129, 1, none⟩ = some (.int .i64 a0_1) ∧ w'.cell? ⟨gb129, 2, none⟩ = some (.int .i64 a0_2)) ∧ (w'.heap[gb129]? = some (.cells #[.int .i64 a0_0, .int .i64 a0_1, .int .i64 a0_2] 39 (0, 0))) ∧ (w'.heap[s_]? = some (.cells #[.int .i64 0, .int .i64 0, .string (⟨#[]⟩ : ByteArray)] 24 (0, 0))) ∧ (w.heap.size ≤ s_) ∧ (w.heap.size ≤ s_) ∧ (gb129 ≠ s_) ∧ (s_ ≠ gb129) ∧ (Below w.heap.size w w')) ?_ ?_
                      rotate_left
                      ·intro hJ2_16
                       refine join_ (σ := Nat) 8 #[T, T, T, T, T, F, T, F, T, T, F, T, T, F, T, F, F, T, F, F] (fun s_ => [(31, .int .i64 t131), (8, .pointer (some ⟨s_, 0, none⟩))]) (fun s_ w' => (w'.cell? ⟨gb129, 0, none⟩ = some (.int .i64 a0_0) ∧ w'.cell? ⟨gb129, 1, none⟩ = some (.int .i64 a0_1) ∧ w'.cell? ⟨gb129, 2, none⟩ = some (.int .i64 a0_2)) ∧ (w'.heap[gb129]? = some (.cells #[.int .i64 a0_0, .int .i64 a0_1, .int .i64 a0_2] 39 (0, 0))) ∧ (w'.heap[s_]? = some (.cells #[.int .i64 0, .int .i64 0, .string (⟨#[]⟩ : ByteArray)] 24 (0, 0))) ∧ (w.heap.size ≤ s_) ∧ (w.heap.size ≤ s_) ∧ (gb129 ≠ s_) ∧ (s_ ≠ gb129) ∧ (Below w.heap.size w w')) ?_ ?_
                       rotate_left
                       ·intro hJ2_17
                        refine join_ (σ := Nat × Nat) 8 #[T, T, F, T, T, F, T, F, T, T, F, T, T, F, T, F, T, T, F, F] (fun s_ => [(7, .pointer (some ⟨s_.1, 0, none⟩)), (8, .pointer (some ⟨s_.2, 0, none⟩))]) (fun s_ w' => (w'.cell? ⟨gb129, 0, none⟩ = some (.int .i64 a0_0) ∧ w'.cell? ⟨gb129, 1, none⟩ = some (.int .i64 a0_1) ∧ w'.cell? ⟨gb129, 2, none⟩ = some (.int .i64 a0_2)) ∧ (w'.heap[gb129]? = some (.cells #[.int .i64 a0_0, .int .i64 a0_1, .int .i64 a0_2] 39 (0, 0))) ∧ (w'.heap[s_.1]? = some (.cells #[.int .i64 0, .int .i64 0, .string (⟨#[]⟩ : ByteArray)] 24 (0, 0))) ∧ (w'.heap[s_.2]? = some (.cells #[.int .i64 0, .int .i64 0, .string (⟨#[]⟩ : ByteArray)] 24 (0, 0))) ∧ (w.heap.size ≤ s_.1) ∧ (w.heap.size ≤ s_.1) ∧ (gb129 ≠ s_.1) ∧ (s_.1 ≠ gb129) ∧ (s_.2 ≠ s_.1) ∧ (s_.1 ≠ s_.2) ∧ (w.heap.size ≤ s_.2) ∧ (w.heap.size ≤ s_.2) ∧ (gb129 ≠ s_.2) ∧ (s_.2 ≠ gb129) ∧ (Below w.heap.size w w')) ?_ ?_
                        rotate_left
                        ·intro hJ16_17
                         refine join_ (σ := Unit) 9 #[T, T, T, T, T, F, T, F, T, T, F, T, T, F, T, F, F, F, F, F] (fun s_ => [(31, .int .i64 t131)]) (fun s_ w' => (w'.cell? ⟨gb129, 0, none⟩ = some (.int .i64 a0_0) ∧ w'.cell? ⟨gb129, 1, none⟩ = some (.int .i64 a0_1) ∧ w'.cell? ⟨gb129, 2, none⟩ = some (.int .i64 a0_2)) ∧ (w'.heap[gb129]? = some (.cells #[.int .i64 a0_0, .int .i64 a0_1, .int .i64 a0_2] 39 (0, 0))) ∧ (Below w.heap.size w w')) ?_ ?_
                         rotate_left
                         ·intro hJ2
                          refine join_ (σ := Nat) 9 #[T, T, F, T, T, F, T, F, T, T, F, T, T, F, T, F, T, F, F, F] (fun s_ => [(7, .pointer (some ⟨s_, 0, none⟩))]) (fun s_ w' => (w'.cell? ⟨gb129, 0, none⟩ = some (.int .i64 a0_0) ∧ w'.cell? ⟨gb129, 1, none⟩ = some (.int .i64 a0_1) ∧ w'.cell? ⟨gb129, 2, none⟩ = some (.int .i64 a0_2)) ∧ (w'.heap[gb129]? = some (.cells #[.int .i64 a0_0, .int .i64 a0_1, .int .i64 a0_2] 39 (0, 0))) ∧ (w'.heap[s_]? = some (.cells #[.int .i64 0, .int .i64 0, .string (⟨#[]⟩ : ByteArray)] 24 (0, 0))) ∧ (w.heap.size ≤ s_) ∧ (w.heap.size ≤ s_) ∧ (gb129 ≠ s_) ∧ (s_ ≠ gb129) ∧ (Below w.heap.size w w')) ?_ ?_
                          rotate_left
                          ·intro hJ16
                           refine join_ (σ := Nat) 9 #[T, T, F, T, T, F, T, F, T, T, F, T, T, F, T, F, F, T, F, F] (fun s_ => [(8, .pointer (some ⟨s_, 0, none⟩))]) (fun s_ w' => (w'.cell? ⟨gb129, 0, none⟩ = some (.int .i64 a0_0) ∧ w'.cell? ⟨gb129, 1, none⟩ = some (.int .i64 a0_1) ∧ w'.cell? ⟨gb129, 2, none⟩ = some (.int .i64 a0_2)) ∧ (w'.heap[gb129]? = some (.cells #[.int .i64 a0_0, .int .i64 a0_1, .int .i64 a0_2] 39 (0, 0))) ∧ (w'.heap[s_]? = some (.cells #[.int .i64 0, .int .i64 0, .string (⟨#[]⟩ : ByteArray)] 24 (0, 0))) ∧ (w.heap.size ≤ s_) ∧ (w.heap.size ≤ s_) ∧ (gb129 ≠ s_) ∧ (s_ ≠ gb129) ∧ (Below w.heap.size w w')) ?_ ?_
                           rotate_left
                           ·intro hJ17
                            refine three_ (i := 2) (j := 16) (k := 17) (Ni := some 31) (Nj := some 7) (Nk := some 8) #[T, T, T, T, T, F, T, F, T, T, F, T, T, F, T, F, F, F, F, F] #[T, T, F, T, T, F, T, F, T, T, F, T, T, F, T, F, T, F, F, F] #[T, T, F, T, T, F, T, F, T, T, F, T, T, F, T, F, F, T, F, F] rfl rfl rfl rfl rfl rfl (three_of HT_.out (by kernel_rfl)) (by decide) (by decide) (by decide) (fun K hK => ?_) (fun K hK => ?_) (fun K hK => ?_)
                            ·skip
                             refine goes_ Try.func24 (by kernel_rfl) rfl #[.int .i64 a0_0] (by rfl) rfl rfl gl_ ?_
                             with_reducible refine (corncriblaw02_side.calls a0_0 t131 _ A6.out).mono ?_
                             rintro e w' ⟨rfl, ⟨nd, rfl⟩⟩
                             refine ⟨_, rfl, ?_⟩
                             refine hK.out _ _ (c3_ BK129.out) (fun hHeld => ?_)
                             clear hK K
                             refine norm_ (a' := ?_) ?_ ?_
                             rotate_left
                             ·show Act.put _ (some 31) _ = _
                              simp only [Act.put, s1_, s2_, s3_, i64_w, i32_w]
                              rfl
                             exact norm_ (by simp only [putAll, Act.put, s1_, s2_, s3_] <;> rfl) (hJ2 () _ ⟨hHeld, (peel_ BK129.out), (bel_ HB.out)⟩)
                            ·skip
                             refine box_step ?hg (N := 7) ?hd (cs := #[.int .i64 0, .int .i64 0, .string (⟨#[]⟩ : ByteArray)]) (t := 24) ?hr ?_; (case hd => rfl); (case hg => rfl); (case hr => first | (go_simp; done) | (go_simp; rfl))
                             intro gb141 hg w37 hbox hb
                             have n0_ := Aside0.mk (bb_ BK129.out hb)
                             have n1_ := Aside0.mk (below_step (bel_ HB.out) hb)
                             have n2_ := Aside0.mk (hbox)
                             have n3_ := Aside0.mk (bz_ hg (bel_ HB.out))
                             have n4_ := Aside0.mk (bz_ hg (bel_ HB.out))
                             have n5_ := Aside0.mk (nl_ hg BK129.out)
                             have n6_ := Aside0.mk (ng_ hg BK129.out)
                             clear BK129
                             clear HB
                             have BK129 := n0_
                             have HB := n1_
                             have BK141 := n2_
                             have GW141 := n3_
                             have GE141 := n4_
                             have NB129_141 := n5_
                             have NB141_129 := n6_
                             clear n0_ n1_ n2_ n3_ n4_ n5_ n6_
                             clear hb hbox hg
                             refine hK.out _ _ (c3_ BK129.out) (fun hHeld => ?_)
                             clear hK K
                             refine norm_ (a' := ?_) ?_ ?_
                             rotate_left
                             ·show Act.put _ (some 7) _ = _
                              simp only [Act.put, s1_, s2_, s3_, i64_w, i32_w]
                              rfl
                             exact norm_ (by simp only [putAll, Act.put, s1_, s2_, s3_] <;> rfl) (hJ16 (gb141) _ ⟨hHeld, (peel_ BK129.out), (peel_ BK141.out), GW141.out, GE141.out, NB129_141.out, NB141_129.out, (bel_ HB.out)⟩)
                            ·skip
                             refine box_step ?hg (N := 8) ?hd (cs := #[.int .i64 0, .int .i64 0, .string (⟨#[]⟩ : ByteArray)]) (t := 24) ?hr ?_; (case hd => rfl); (case hg => rfl); (case hr => first | (go_simp; done) | (go_simp; rfl))
                             intro gb142 hg w37 hbox hb
                             have n0_ := Aside0.mk (bb_ BK129.out hb)
                             have n1_ := Aside0.mk (below_step (bel_ HB.out) hb)
                             have n2_ := Aside0.mk (hbox)
                             have n3_ := Aside0.mk (bz_ hg (bel_ HB.out))
                             have n4_ := Aside0.mk (bz_ hg (bel_ HB.out))
                             have n5_ := Aside0.mk (nl_ hg BK129.out)
                             have n6_ := Aside0.mk (ng_ hg BK129.out)
                             clear BK129
                             clear HB
                             have BK129 := n0_
                             have HB := n1_
                             have BK142 := n2_
                             have GW142 := n3_
                             have GE142 := n4_
                             have NB129_142 := n5_
                             have NB142_129 := n6_
                             clear n0_ n1_ n2_ n3_ n4_ n5_ n6_
                             clear hb hbox hg
                             refine hK.out _ _ (c3_ BK129.out) (fun hHeld => ?_)
                             clear hK K
                             refine norm_ (a' := ?_) ?_ ?_
                             rotate_left
                             ·show Act.put _ (some 8) _ = _
                              simp only [Act.put, s1_, s2_, s3_, i64_w, i32_w]
                              rfl
                             exact norm_ (by simp only [putAll, Act.put, s1_, s2_, s3_] <;> rfl) (hJ17 (gb142) _ ⟨hHeld, (peel_ BK129.out), (peel_ BK142.out), GW142.out, GE142.out, NB129_142.out, NB142_129.out, (bel_ HB.out)⟩)
                           ·skip
                            rintro gb142 w38 ⟨hS_, h0_, h1_, h2_, h3_, h4_, h5_, h6_⟩
                            have n0_ : Aside0 (w38.heap[gb129]? = some (.cells #[.int .i64 a0_0, .int .i64 a0_1, .int .i64 a0_2] 39 (0, 0))) := ⟨h0_⟩
                            have n1_ : Aside0 (w38.heap[gb142]? = some (.cells #[.int .i64 0, .int .i64 0, .string (⟨#[]⟩ : ByteArray)] 24 (0, 0))) := ⟨h1_⟩
                            have n2_ : Aside0 (w.heap.size ≤ gb142) := ⟨h2_⟩
                            have n3_ : Aside0 (w.heap.size ≤ gb142) := ⟨h3_⟩
                            have n4_ : Aside0 (gb129 ≠ gb142) := ⟨h4_⟩
                            have n5_ : Aside0 (gb142 ≠ gb129) := ⟨h5_⟩
                            have n6_ : Aside0 (Below w.heap.size w w38) := ⟨h6_⟩
                            clear BK129
                            clear HB
                            clear h0_ h1_ h2_ h3_ h4_ h5_ h6_
                            have BK129 := n0_
                            have BK142 := n1_
                            have GW142 := n2_
                            have GE142 := n3_
                            have NB129_142 := n4_
                            have NB142_129 := n5_
                            have HB := n6_
                            clear n0_ n1_ n2_ n3_ n4_ n5_ n6_
                            have hHeld : w38.cell? ⟨gb129, 0, none⟩ = some (.int .i64 a0_0) ∧ w38.cell? ⟨gb129, 1, none⟩ = some (.int .i64 a0_1) ∧ w38.cell? ⟨gb129, 2, none⟩ = some (.int .i64 a0_2) := hS_
                            refine norm_ (a' := ?_) ?_ ?_
                            rotate_left
                            ·simp only [putAll, Act.put, s1_, s2_, s3_]
                             rfl
                            refine two_ (i := 2) (j := 16) (Ni := some 31) (Nj := some 7) #[T, T, T, T, T, F, T, F, T, T, F, T, T, F, T, F, F, T, F, F] #[T, T, F, T, T, F, T, F, T, T, F, T, T, F, T, F, T, T, F, F] rfl rfl rfl rfl (two_of HT_.out (by kernel_rfl)) (by decide) (by decide) (fun K hK => ?_) (fun K hK => ?_)
                            ·skip
                             refine goes_ Try.func24 (by kernel_rfl) rfl #[.int .i64 a0_0] (by rfl) rfl rfl gl_ ?_
                             with_reducible refine (corncriblaw02_side.calls a0_0 t131 _ A6.out).mono ?_
                             rintro e w' ⟨rfl, ⟨nd, rfl⟩⟩
                             refine ⟨_, rfl, ?_⟩
                             refine hK.out _ _ (c3_ BK129.out) (fun hHeld => ?_)
                             clear hK K
                             refine norm_ (a' := ?_) ?_ ?_
                             rotate_left
                             ·show Act.put _ (some 31) _ = _
                              simp only [Act.put, s1_, s2_, s3_, i64_w, i32_w]
                              rfl
                             exact norm_ (by simp only [putAll, Act.put, s1_, s2_, s3_] <;> rfl) (hJ2_17 (gb142) _ ⟨hHeld, (peel_ BK129.out), (peel_ BK142.out), GW142.out, GE142.out, NB129_142.out, NB142_129.out, (bel_ HB.out)⟩)
                            ·skip
                             refine box_step ?hg (N := 7) ?hd (cs := #[.int .i64 0, .int .i64 0, .string (⟨#[]⟩ : ByteArray)]) (t := 24) ?hr ?_; (case hd => rfl); (case hg => rfl); (case hr => first | (go_simp; done) | (go_simp; rfl))
                             intro gb141 hg w39 hbox hb
                             have n0_ := Aside0.mk (bb_ BK129.out hb)
                             have n1_ := Aside0.mk (bb_ BK142.out hb)
                             have n2_ := Aside0.mk (below_step (bel_ HB.out) hb)
                             have n3_ := Aside0.mk (hbox)
                             have n4_ := Aside0.mk (bz_ hg (bel_ HB.out))
                             have n5_ := Aside0.mk (bz_ hg (bel_ HB.out))
                             have n6_ := Aside0.mk (nl_ hg BK129.out)
                             have n7_ := Aside0.mk (ng_ hg BK129.out)
                             have n8_ := Aside0.mk (nl_ hg BK142.out)
                             have n9_ := Aside0.mk (ng_ hg BK142.out)
                             clear BK129
                             clear BK142
                             clear HB
                             have BK129 := n0_
                             have BK142 := n1_
                             have HB := n2_
                             have BK141 := n3_
                             have GW141 := n4_
                             have GE141 := n5_
                             have NB129_141 := n6_
                             have NB141_129 := n7_
                             have NB142_141 := n8_
                             have NB141_142 := n9_
                             clear n0_ n1_ n2_ n3_ n4_ n5_ n6_ n7_ n8_ n9_
                             clear hb hbox hg
                             refine hK.out _ _ (c3_ BK129.out) (fun hHeld => ?_)
                             clear hK K
                             refine norm_ (a' := ?_) ?_ ?_
                             rotate_left
                             ·show Act.put _ (some 7) _ = _
                              simp only [Act.put, s1_, s2_, s3_, i64_w, i32_w]
                              rfl
                             exact norm_ (by simp only [putAll, Act.put, s1_, s2_, s3_] <;> rfl) (hJ16_17 (gb141, gb142) _ ⟨hHeld, (peel_ BK129.out), (peel_ BK141.out), (peel_ BK142.out), GW141.out, GE141.out, NB129_141.out, NB141_129.out, NB142_141.out, NB141_142.out, GW142.out, GE142.out, NB129_142.out, NB142_129.out, (bel_ HB.out)⟩)
                          ·skip
                           rintro gb141 w38 ⟨hS_, h0_, h1_, h2_, h3_, h4_, h5_, h6_⟩
                           have n0_ : Aside0 (w38.heap[gb129]? = some (.cells #[.int .i64 a0_0, .int .i64 a0_1, .int .i64 a0_2] 39 (0, 0))) := ⟨h0_⟩
                           have n1_ : Aside0 (w38.heap[gb141]? = some (.cells #[.int .i64 0, .int .i64 0, .string (⟨#[]⟩ : ByteArray)] 24 (0, 0))) := ⟨h1_⟩
                           have n2_ : Aside0 (w.heap.size ≤ gb141) := ⟨h2_⟩
                           have n3_ : Aside0 (w.heap.size ≤ gb141) := ⟨h3_⟩
                           have n4_ : Aside0 (gb129 ≠ gb141) := ⟨h4_⟩
                           have n5_ : Aside0 (gb141 ≠ gb129) := ⟨h5_⟩
                           have n6_ : Aside0 (Below w.heap.size w w38) := ⟨h6_⟩
                           clear BK129
                           clear HB
                           clear h0_ h1_ h2_ h3_ h4_ h5_ h6_
                           have BK129 := n0_
                           have BK141 := n1_
                           have GW141 := n2_
                           have GE141 := n3_
                           have NB129_141 := n4_
                           have NB141_129 := n5_
                           have HB := n6_
                           clear n0_ n1_ n2_ n3_ n4_ n5_ n6_
                           have hHeld : w38.cell? ⟨gb129, 0, none⟩ = some (.int .i64 a0_0) ∧ w38.cell? ⟨gb129, 1, none⟩ = some (.int .i64 a0_1) ∧ w38.cell? ⟨gb129, 2, none⟩ = some (.int .i64 a0_2) := hS_
                           refine norm_ (a' := ?_) ?_ ?_
                           rotate_left
                           ·simp only [putAll, Act.put, s1_, s2_, s3_]
                            rfl
                           refine two_ (i := 2) (j := 17) (Ni := some 31) (Nj := some 8) #[T, T, T, T, T, F, T, F, T, T, F, T, T, F, T, F, T, F, F, F] #[T, T, F, T, T, F, T, F, T, T, F, T, T, F, T, F, T, T, F, F] rfl rfl rfl rfl (two_of HT_.out (by kernel_rfl)) (by decide) (by decide) (fun K hK => ?_) (fun K hK => ?_)
                           ·skip
                            refine goes_ Try.func24 (by kernel_rfl) rfl #[.int .i64 a0_0] (by rfl) rfl rfl gl_ ?_
                            with_reducible refine (corncriblaw02_side.calls a0_0 t131 _ A6.out).mono ?_
                            rintro e w' ⟨rfl, ⟨nd, rfl⟩⟩
                            refine ⟨_, rfl, ?_⟩
                            refine hK.out _ _ (c3_ BK129.out) (fun hHeld => ?_)
                            clear hK K
                            refine norm_ (a' := ?_) ?_ ?_
                            rotate_left
                            ·show Act.put _ (some 31) _ = _
                             simp only [Act.put, s1_, s2_, s3_, i64_w, i32_w]
                             rfl
                            exact norm_ (by simp only [putAll, Act.put, s1_, s2_, s3_] <;> rfl) (hJ2_16 (gb141) _ ⟨hHeld, (peel_ BK129.out), (peel_ BK141.out), GW141.out, GE141.out, NB129_141.out, NB141_129.out, (bel_ HB.out)⟩)
                           ·skip
                            refine box_step ?hg (N := 8) ?hd (cs := #[.int .i64 0, .int .i64 0, .string (⟨#[]⟩ : ByteArray)]) (t := 24) ?hr ?_; (case hd => rfl); (case hg => rfl); (case hr => first | (go_simp; done) | (go_simp; rfl))
                            intro gb142 hg w39 hbox hb
                            have n0_ := Aside0.mk (bb_ BK129.out hb)
                            have n1_ := Aside0.mk (bb_ BK141.out hb)
                            have n2_ := Aside0.mk (below_step (bel_ HB.out) hb)
                            have n3_ := Aside0.mk (hbox)
                            have n4_ := Aside0.mk (bz_ hg (bel_ HB.out))
                            have n5_ := Aside0.mk (bz_ hg (bel_ HB.out))
                            have n6_ := Aside0.mk (nl_ hg BK129.out)
                            have n7_ := Aside0.mk (ng_ hg BK129.out)
                            have n8_ := Aside0.mk (nl_ hg BK141.out)
                            have n9_ := Aside0.mk (ng_ hg BK141.out)
                            clear BK129
                            clear BK141
                            clear HB
                            have BK129 := n0_
                            have BK141 := n1_
                            have HB := n2_
                            have BK142 := n3_
                            have GW142 := n4_
                            have GE142 := n5_
                            have NB129_142 := n6_
                            have NB142_129 := n7_
                            have NB141_142 := n8_
                            have NB142_141 := n9_
                            clear n0_ n1_ n2_ n3_ n4_ n5_ n6_ n7_ n8_ n9_
                            clear hb hbox hg
                            refine hK.out _ _ (c3_ BK129.out) (fun hHeld => ?_)
                            clear hK K
                            refine norm_ (a' := ?_) ?_ ?_
                            rotate_left
                            ·show Act.put _ (some 8) _ = _
                             simp only [Act.put, s1_, s2_, s3_, i64_w, i32_w]
                             rfl
                            exact norm_ (by simp only [putAll, Act.put, s1_, s2_, s3_] <;> rfl) (hJ16_17 (gb141, gb142) _ ⟨hHeld, (peel_ BK129.out), (peel_ BK141.out), (peel_ BK142.out), GW141.out, GE141.out, NB129_141.out, NB141_129.out, NB142_141.out, NB141_142.out, GW142.out, GE142.out, NB129_142.out, NB142_129.out, (bel_ HB.out)⟩)
                         ·skip
                          rintro _ w37 ⟨hS_, h0_, h1_⟩
                          have n0_ : Aside0 (w37.heap[gb129]? = some (.cells #[.int .i64 a0_0, .int .i64 a0_1, .int .i64 a0_2] 39 (0, 0))) := ⟨h0_⟩
                          have n1_ : Aside0 (Below w.heap.size w w37) := ⟨h1_⟩
                          clear BK129
                          clear HB
                          clear h0_ h1_
                          have BK129 := n0_
                          have HB := n1_
                          clear n0_ n1_
                          have hHeld : w37.cell? ⟨gb129, 0, none⟩ = some (.int .i64 a0_0) ∧ w37.cell? ⟨gb129, 1, none⟩ = some (.int .i64 a0_1) ∧ w37.cell? ⟨gb129, 2, none⟩ = some (.int .i64 a0_2) := hS_
                          refine norm_ (a' := ?_) ?_ ?_
                          rotate_left
                          ·simp only [putAll, Act.put, s1_, s2_, s3_]
                           rfl
                          refine three_ (i := 5) (j := 16) (k := 17) (Ni := some 34) (Nj := some 7) (Nk := some 8) #[T, T, T, T, T, T, T, F, T, T, F, T, T, F, T, F, F, F, F, F] #[T, T, T, T, T, F, T, F, T, T, F, T, T, F, T, F, T, F, F, F] #[T, T, T, T, T, F, T, F, T, T, F, T, T, F, T, F, F, T, F, F] rfl rfl rfl rfl rfl rfl (three_of HT_.out (by kernel_rfl)) (by decide) (by decide) (by decide) (fun K hK => ?_) (fun K hK => ?_) (fun K hK => ?_)
                          ·skip
                           refine goes_ Try.func24 (by kernel_rfl) rfl #[.int .i64 a0_1] (by rfl) rfl rfl gl_ ?_
                           with_reducible refine (corncriblaw02_side.calls a0_1 t132 _ A7.out).mono ?_
                           rintro e w' ⟨rfl, ⟨nd, rfl⟩⟩
                           refine ⟨_, rfl, ?_⟩
                           refine hK.out _ _ (c3_ BK129.out) (fun hHeld => ?_)
                           clear hK K
                           refine norm_ (a' := ?_) ?_ ?_
                           rotate_left
                           ·show Act.put _ (some 34) _ = _
                            simp only [Act.put, s1_, s2_, s3_, i64_w, i32_w]
                            rfl
                           exact norm_ (by simp only [putAll, Act.put, s1_, s2_, s3_] <;> rfl) (hJ2_5 () _ ⟨hHeld, (peel_ BK129.out), (bel_ HB.out)⟩)
                          ·skip
                           refine box_step ?hg (N := 7) ?hd (cs := #[.int .i64 0, .int .i64 0, .string (⟨#[]⟩ : ByteArray)]) (t := 24) ?hr ?_; (case hd => rfl); (case hg => rfl); (case hr => first | (go_simp; done) | (go_simp; rfl))
                           intro gb141 hg w38 hbox hb
                           have n0_ := Aside0.mk (bb_ BK129.out hb)
                           have n1_ := Aside0.mk (below_step (bel_ HB.out) hb)
                           have n2_ := Aside0.mk (hbox)
                           have n3_ := Aside0.mk (bz_ hg (bel_ HB.out))
                           have n4_ := Aside0.mk (bz_ hg (bel_ HB.out))
                           have n5_ := Aside0.mk (nl_ hg BK129.out)
                           have n6_ := Aside0.mk (ng_ hg BK129.out)
                           clear BK129
                           clear HB
                           have BK129 := n0_
                           have HB := n1_
                           have BK141 := n2_
                           have GW141 := n3_
                           have GE141 := n4_
                           have NB129_141 := n5_
                           have NB141_129 := n6_
                           clear n0_ n1_ n2_ n3_ n4_ n5_ n6_
                           clear hb hbox hg
                           refine hK.out _ _ (c3_ BK129.out) (fun hHeld => ?_)
                           clear hK K
                           refine norm_ (a' := ?_) ?_ ?_
                           rotate_left
                           ·show Act.put _ (some 7) _ = _
                            simp only [Act.put, s1_, s2_, s3_, i64_w, i32_w]
                            rfl
                           exact norm_ (by simp only [putAll, Act.put, s1_, s2_, s3_] <;> rfl) (hJ2_16 (gb141) _ ⟨hHeld, (peel_ BK129.out), (peel_ BK141.out), GW141.out, GE141.out, NB129_141.out, NB141_129.out, (bel_ HB.out)⟩)
                          ·skip
                           refine box_step ?hg (N := 8) ?hd (cs := #[.int .i64 0, .int .i64 0, .string (⟨#[]⟩ : ByteArray)]) (t := 24) ?hr ?_; (case hd => rfl); (case hg => rfl); (case hr => first | (go_simp; done) | (go_simp; rfl))
                           intro gb142 hg w38 hbox hb
                           have n0_ := Aside0.mk (bb_ BK129.out hb)
                           have n1_ := Aside0.mk (below_step (bel_ HB.out) hb)
                           have n2_ := Aside0.mk (hbox)
                           have n3_ := Aside0.mk (bz_ hg (bel_ HB.out))
                           have n4_ := Aside0.mk (bz_ hg (bel_ HB.out))
                           have n5_ := Aside0.mk (nl_ hg BK129.out)
                           have n6_ := Aside0.mk (ng_ hg BK129.out)
                           clear BK129
                           clear HB
                           have BK129 := n0_
                           have HB := n1_
                           have BK142 := n2_
                           have GW142 := n3_
                           have GE142 := n4_
                           have NB129_142 := n5_
                           have NB142_129 := n6_
                           clear n0_ n1_ n2_ n3_ n4_ n5_ n6_
                           clear hb hbox hg
                           refine hK.out _ _ (c3_ BK129.out) (fun hHeld => ?_)
                           clear hK K
                           refine norm_ (a' := ?_) ?_ ?_
                           rotate_left
                           ·show Act.put _ (some 8) _ = _
                            simp only [Act.put, s1_, s2_, s3_, i64_w, i32_w]
                            rfl
                           exact norm_ (by simp only [putAll, Act.put, s1_, s2_, s3_] <;> rfl) (hJ2_17 (gb142) _ ⟨hHeld, (peel_ BK129.out), (peel_ BK142.out), GW142.out, GE142.out, NB129_142.out, NB142_129.out, (bel_ HB.out)⟩)
                        ·skip
                         rintro ⟨gb141, gb142⟩ w39 ⟨hS_, h0_, h1_, h2_, h3_, h4_, h5_, h6_, h7_, h8_, h9_, h10_, h11_, h12_, h13_⟩
                         have n0_ : Aside0 (w39.heap[gb129]? = some (.cells #[.int .i64 a0_0, .int .i64 a0_1, .int .i64 a0_2] 39 (0, 0))) := ⟨h0_⟩
                         have n1_ : Aside0 (w39.heap[gb141]? = some (.cells #[.int .i64 0, .int .i64 0, .string (⟨#[]⟩ : ByteArray)] 24 (0, 0))) := ⟨h1_⟩
                         have n2_ : Aside0 (w39.heap[gb142]? = some (.cells #[.int .i64 0, .int .i64 0, .string (⟨#[]⟩ : ByteArray)] 24 (0, 0))) := ⟨h2_⟩
                         have n3_ : Aside0 (w.heap.size ≤ gb141) := ⟨h3_⟩
                         have n4_ : Aside0 (w.heap.size ≤ gb141) := ⟨h4_⟩
                         have n5_ : Aside0 (gb129 ≠ gb141) := ⟨h5_⟩
                         have n6_ : Aside0 (gb141 ≠ gb129) := ⟨h6_⟩
                         have n7_ : Aside0 (gb142 ≠ gb141) := ⟨h7_⟩
                         have n8_ : Aside0 (gb141 ≠ gb142) := ⟨h8_⟩
                         have n9_ : Aside0 (w.heap.size ≤ gb142) := ⟨h9_⟩
                         have n10_ : Aside0 (w.heap.size ≤ gb142) := ⟨h10_⟩
                         have n11_ : Aside0 (gb129 ≠ gb142) := ⟨h11_⟩
                         have n12_ : Aside0 (gb142 ≠ gb129) := ⟨h12_⟩
                         have n13_ : Aside0 (Below w.heap.size w w39) := ⟨h13_⟩
                         clear BK129
                         clear HB
                         clear h0_ h1_ h2_ h3_ h4_ h5_ h6_ h7_ h8_ h9_ h10_ h11_ h12_ h13_
                         have BK129 := n0_
                         have BK141 := n1_
                         have BK142 := n2_
                         have GW141 := n3_
                         have GE141 := n4_
                         have NB129_141 := n5_
                         have NB141_129 := n6_
                         have NB142_141 := n7_
                         have NB141_142 := n8_
                         have GW142 := n9_
                         have GE142 := n10_
                         have NB129_142 := n11_
                         have NB142_129 := n12_
                         have HB := n13_
                         clear n0_ n1_ n2_ n3_ n4_ n5_ n6_ n7_ n8_ n9_ n10_ n11_ n12_ n13_
                         have hHeld : w39.cell? ⟨gb129, 0, none⟩ = some (.int .i64 a0_0) ∧ w39.cell? ⟨gb129, 1, none⟩ = some (.int .i64 a0_1) ∧ w39.cell? ⟨gb129, 2, none⟩ = some (.int .i64 a0_2) := hS_
                         refine norm_ (a' := ?_) ?_ ?_
                         rotate_left
                         ·simp only [putAll, Act.put, s1_, s2_, s3_]
                          rfl
                         refine one_ (i := 2) (N := some 31) #[T, T, T, T, T, F, T, F, T, T, F, T, T, F, T, F, T, T, F, F] rfl rfl (one_of HT_.out (by kernel_rfl)) (by decide) (fun K hK => ?_)
                         refine goes_ Try.func24 (by kernel_rfl) rfl #[.int .i64 a0_0] (by rfl) rfl rfl gl_ ?_
                         with_reducible refine (corncriblaw02_side.calls a0_0 t131 _ A6.out).mono ?_
                         rintro e w' ⟨rfl, ⟨nd, rfl⟩⟩
                         refine ⟨_, rfl, ?_⟩
                         refine hK.out _ _ (c3_ BK129.out) (fun hHeld => ?_)
                         clear hK K
                         refine norm_ (a' := ?_) ?_ ?_
                         rotate_left
                         ·show Act.put _ (some 31) _ = _
                          simp only [Act.put, s1_, s2_, s3_, i64_w, i32_w]
                          rfl
                         exact norm_ (by simp only [putAll, Act.put, s1_, s2_, s3_] <;> rfl) (hJ2_16_17 (gb141, gb142) _ ⟨hHeld, (peel_ BK129.out), (peel_ BK141.out), (peel_ BK142.out), GW141.out, GE141.out, NB129_141.out, NB141_129.out, NB142_141.out, NB141_142.out, GW142.out, GE142.out, NB129_142.out, NB142_129.out, (bel_ HB.out)⟩)
                       ·skip
                        rintro gb142 w38 ⟨hS_, h0_, h1_, h2_, h3_, h4_, h5_, h6_⟩
                        have n0_ : Aside0 (w38.heap[gb129]? = some (.cells #[.int .i64 a0_0, .int .i64 a0_1, .int .i64 a0_2] 39 (0, 0))) := ⟨h0_⟩
                        have n1_ : Aside0 (w38.heap[gb142]? = some (.cells #[.int .i64 0, .int .i64 0, .string (⟨#[]⟩ : ByteArray)] 24 (0, 0))) := ⟨h1_⟩
                        have n2_ : Aside0 (w.heap.size ≤ gb142) := ⟨h2_⟩
                        have n3_ : Aside0 (w.heap.size ≤ gb142) := ⟨h3_⟩
                        have n4_ : Aside0 (gb129 ≠ gb142) := ⟨h4_⟩
                        have n5_ : Aside0 (gb142 ≠ gb129) := ⟨h5_⟩
                        have n6_ : Aside0 (Below w.heap.size w w38) := ⟨h6_⟩
                        clear BK129
                        clear HB
                        clear h0_ h1_ h2_ h3_ h4_ h5_ h6_
                        have BK129 := n0_
                        have BK142 := n1_
                        have GW142 := n2_
                        have GE142 := n3_
                        have NB129_142 := n4_
                        have NB142_129 := n5_
                        have HB := n6_
                        clear n0_ n1_ n2_ n3_ n4_ n5_ n6_
                        have hHeld : w38.cell? ⟨gb129, 0, none⟩ = some (.int .i64 a0_0) ∧ w38.cell? ⟨gb129, 1, none⟩ = some (.int .i64 a0_1) ∧ w38.cell? ⟨gb129, 2, none⟩ = some (.int .i64 a0_2) := hS_
                        refine norm_ (a' := ?_) ?_ ?_
                        rotate_left
                        ·simp only [putAll, Act.put, s1_, s2_, s3_]
                         rfl
                        refine two_ (i := 5) (j := 16) (Ni := some 34) (Nj := some 7) #[T, T, T, T, T, T, T, F, T, T, F, T, T, F, T, F, F, T, F, F] #[T, T, T, T, T, F, T, F, T, T, F, T, T, F, T, F, T, T, F, F] rfl rfl rfl rfl (two_of HT_.out (by kernel_rfl)) (by decide) (by decide) (fun K hK => ?_) (fun K hK => ?_)
                        ·skip
                         refine goes_ Try.func24 (by kernel_rfl) rfl #[.int .i64 a0_1] (by rfl) rfl rfl gl_ ?_
                         with_reducible refine (corncriblaw02_side.calls a0_1 t132 _ A7.out).mono ?_
                         rintro e w' ⟨rfl, ⟨nd, rfl⟩⟩
                         refine ⟨_, rfl, ?_⟩
                         refine hK.out _ _ (c3_ BK129.out) (fun hHeld => ?_)
                         clear hK K
                         refine norm_ (a' := ?_) ?_ ?_
                         rotate_left
                         ·show Act.put _ (some 34) _ = _
                          simp only [Act.put, s1_, s2_, s3_, i64_w, i32_w]
                          rfl
                         exact norm_ (by simp only [putAll, Act.put, s1_, s2_, s3_] <;> rfl) (hJ2_5_17 (gb142) _ ⟨hHeld, (peel_ BK129.out), (peel_ BK142.out), GW142.out, GE142.out, NB129_142.out, NB142_129.out, (bel_ HB.out)⟩)
                        ·skip
                         refine box_step ?hg (N := 7) ?hd (cs := #[.int .i64 0, .int .i64 0, .string (⟨#[]⟩ : ByteArray)]) (t := 24) ?hr ?_; (case hd => rfl); (case hg => rfl); (case hr => first | (go_simp; done) | (go_simp; rfl))
                         intro gb141 hg w39 hbox hb
                         have n0_ := Aside0.mk (bb_ BK129.out hb)
                         have n1_ := Aside0.mk (bb_ BK142.out hb)
                         have n2_ := Aside0.mk (below_step (bel_ HB.out) hb)
                         have n3_ := Aside0.mk (hbox)
                         have n4_ := Aside0.mk (bz_ hg (bel_ HB.out))
                         have n5_ := Aside0.mk (bz_ hg (bel_ HB.out))
                         have n6_ := Aside0.mk (nl_ hg BK129.out)
                         have n7_ := Aside0.mk (ng_ hg BK129.out)
                         have n8_ := Aside0.mk (nl_ hg BK142.out)
                         have n9_ := Aside0.mk (ng_ hg BK142.out)
                         clear BK129
                         clear BK142
                         clear HB
                         have BK129 := n0_
                         have BK142 := n1_
                         have HB := n2_
                         have BK141 := n3_
                         have GW141 := n4_
                         have GE141 := n5_
                         have NB129_141 := n6_
                         have NB141_129 := n7_
                         have NB142_141 := n8_
                         have NB141_142 := n9_
                         clear n0_ n1_ n2_ n3_ n4_ n5_ n6_ n7_ n8_ n9_
                         clear hb hbox hg
                         refine hK.out _ _ (c3_ BK129.out) (fun hHeld => ?_)
                         clear hK K
                         refine norm_ (a' := ?_) ?_ ?_
                         rotate_left
                         ·show Act.put _ (some 7) _ = _
                          simp only [Act.put, s1_, s2_, s3_, i64_w, i32_w]
                          rfl
                         exact norm_ (by simp only [putAll, Act.put, s1_, s2_, s3_] <;> rfl) (hJ2_16_17 (gb141, gb142) _ ⟨hHeld, (peel_ BK129.out), (peel_ BK141.out), (peel_ BK142.out), GW141.out, GE141.out, NB129_141.out, NB141_129.out, NB142_141.out, NB141_142.out, GW142.out, GE142.out, NB129_142.out, NB142_129.out, (bel_ HB.out)⟩)
                      ·skip
                       rintro gb141 w38 ⟨hS_, h0_, h1_, h2_, h3_, h4_, h5_, h6_⟩
                       have n0_ : Aside0 (w38.heap[gb129]? = some (.cells #[.int .i64 a0_0, .int .i64 a0_1, .int .i64 a0_2] 39 (0, 0))) := ⟨h0_⟩
                       have n1_ : Aside0 (w38.heap[gb141]? = some (.cells #[.int .i64 0, .int .i64 0, .string (⟨#[]⟩ : ByteArray)] 24 (0, 0))) := ⟨h1_⟩
                       have n2_ : Aside0 (w.heap.size ≤ gb141) := ⟨h2_⟩
                       have n3_ : Aside0 (w.heap.size ≤ gb141) := ⟨h3_⟩
                       have n4_ : Aside0 (gb129 ≠ gb141) := ⟨h4_⟩
                       have n5_ : Aside0 (gb141 ≠ gb129) := ⟨h5_⟩
                       have n6_ : Aside0 (Below w.heap.size w w38) := ⟨h6_⟩
                       clear BK129
                       clear HB
                       clear h0_ h1_ h2_ h3_ h4_ h5_ h6_
                       have BK129 := n0_
                       have BK141 := n1_
                       have GW141 := n2_
                       have GE141 := n3_
                       have NB129_141 := n4_
                       have NB141_129 := n5_
                       have HB := n6_
                       clear n0_ n1_ n2_ n3_ n4_ n5_ n6_
                       have hHeld : w38.cell? ⟨gb129, 0, none⟩ = some (.int .i64 a0_0) ∧ w38.cell? ⟨gb129, 1, none⟩ = some (.int .i64 a0_1) ∧ w38.cell? ⟨gb129, 2, none⟩ = some (.int .i64 a0_2) := hS_
                       refine norm_ (a' := ?_) ?_ ?_
                       rotate_left
                       ·simp only [putAll, Act.put, s1_, s2_, s3_]
                        rfl
                       refine two_ (i := 5) (j := 17) (Ni := some 34) (Nj := some 8) #[T, T, T, T, T, T, T, F, T, T, F, T, T, F, T, F, T, F, F, F] #[T, T, T, T, T, F, T, F, T, T, F, T, T, F, T, F, T, T, F, F] rfl rfl rfl rfl (two_of HT_.out (by kernel_rfl)) (by decide) (by decide) (fun K hK => ?_) (fun K hK => ?_)
                       ·skip
                        refine goes_ Try.func24 (by kernel_rfl) rfl #[.int .i64 a0_1] (by rfl) rfl rfl gl_ ?_
                        with_reducible refine (corncriblaw02_side.calls a0_1 t132 _ A7.out).mono ?_
                        rintro e w' ⟨rfl, ⟨nd, rfl⟩⟩
                        refine ⟨_, rfl, ?_⟩
                        refine hK.out _ _ (c3_ BK129.out) (fun hHeld => ?_)
                        clear hK K
                        refine norm_ (a' := ?_) ?_ ?_
                        rotate_left
                        ·show Act.put _ (some 34) _ = _
                         simp only [Act.put, s1_, s2_, s3_, i64_w, i32_w]
                         rfl
                        exact norm_ (by simp only [putAll, Act.put, s1_, s2_, s3_] <;> rfl) (hJ2_5_16 (gb141) _ ⟨hHeld, (peel_ BK129.out), (peel_ BK141.out), GW141.out, GE141.out, NB129_141.out, NB141_129.out, (bel_ HB.out)⟩)
                       ·skip
                        refine box_step ?hg (N := 8) ?hd (cs := #[.int .i64 0, .int .i64 0, .string (⟨#[]⟩ : ByteArray)]) (t := 24) ?hr ?_; (case hd => rfl); (case hg => rfl); (case hr => first | (go_simp; done) | (go_simp; rfl))
                        intro gb142 hg w39 hbox hb
                        have n0_ := Aside0.mk (bb_ BK129.out hb)
                        have n1_ := Aside0.mk (bb_ BK141.out hb)
                        have n2_ := Aside0.mk (below_step (bel_ HB.out) hb)
                        have n3_ := Aside0.mk (hbox)
                        have n4_ := Aside0.mk (bz_ hg (bel_ HB.out))
                        have n5_ := Aside0.mk (bz_ hg (bel_ HB.out))
                        have n6_ := Aside0.mk (nl_ hg BK129.out)
                        have n7_ := Aside0.mk (ng_ hg BK129.out)
                        have n8_ := Aside0.mk (nl_ hg BK141.out)
                        have n9_ := Aside0.mk (ng_ hg BK141.out)
                        clear BK129
                        clear BK141
                        clear HB
                        have BK129 := n0_
                        have BK141 := n1_
                        have HB := n2_
                        have BK142 := n3_
                        have GW142 := n4_
                        have GE142 := n5_
                        have NB129_142 := n6_
                        have NB142_129 := n7_
                        have NB141_142 := n8_
                        have NB142_141 := n9_
                        clear n0_ n1_ n2_ n3_ n4_ n5_ n6_ n7_ n8_ n9_
                        clear hb hbox hg
                        refine hK.out _ _ (c3_ BK129.out) (fun hHeld => ?_)
                        clear hK K
                        refine norm_ (a' := ?_) ?_ ?_
                        rotate_left
                        ·show Act.put _ (some 8) _ = _
                         simp only [Act.put, s1_, s2_, s3_, i64_w, i32_w]
                         rfl
                        exact norm_ (by simp only [putAll, Act.put, s1_, s2_, s3_] <;> rfl) (hJ2_16_17 (gb141, gb142) _ ⟨hHeld, (peel_ BK129.out), (peel_ BK141.out), (peel_ BK142.out), GW141.out, GE141.out, NB129_141.out, NB141_129.out, NB142_141.out, NB141_142.out, GW142.out, GE142.out, NB129_142.out, NB142_129.out, (bel_ HB.out)⟩)
                     ·skip
                      rintro _ w37 ⟨hS_, h0_, h1_⟩
                      have n0_ : Aside0 (w37.heap[gb129]? = some (.cells #[.int .i64 a0_0, .int .i64 a0_1, .int .i64 a0_2] 39 (0, 0))) := ⟨h0_⟩
                      have n1_ : Aside0 (Below w.heap.size w w37) := ⟨h1_⟩
                      clear BK129
                      clear HB
                      clear h0_ h1_
                      have BK129 := n0_
                      have HB := n1_
                      clear n0_ n1_
                      have hHeld : w37.cell? ⟨gb129, 0, none⟩ = some (.int .i64 a0_0) ∧ w37.cell? ⟨gb129, 1, none⟩ = some (.int .i64 a0_1) ∧ w37.cell? ⟨gb129, 2, none⟩ = some (.int .i64 a0_2) := hS_
                      refine norm_ (a' := ?_) ?_ ?_
                      rotate_left
                      ·simp only [putAll, Act.put, s1_, s2_, s3_]
                       rfl
                      refine three_ (i := 7) (j := 16) (k := 17) (Ni := some 36) (Nj := some 7) (Nk := some 8) #[T, T, T, T, T, T, T, T, T, T, F, T, T, F, T, F, F, F, F, F] #[T, T, T, T, T, T, T, F, T, T, F, T, T, F, T, F, T, F, F, F] #[T, T, T, T, T, T, T, F, T, T, F, T, T, F, T, F, F, T, F, F] rfl rfl rfl rfl rfl rfl (three_of HT_.out (by kernel_rfl)) (by decide) (by decide) (by decide) (fun K hK => ?_) (fun K hK => ?_) (fun K hK => ?_)
                      ·skip
                       refine goes_ Try.func23 (by kernel_rfl) rfl #[.int .i64 t131, .int .i64 t132, .string a1] (by rfl) rfl rfl gl_ ?_
                       with_reducible refine (corncriblaw02_made.calls t131 t132 a1 t133 t134 t135 _ A8.out).mono ?_
                       rintro e w38 ⟨rfl, hb⟩
                       refine ⟨_, rfl, ?_⟩
                       have n0_ := Aside0.mk (bb_ BK129.out hb)
                       have n1_ := Aside0.mk (below_step (bel_ HB.out) hb)
                       clear BK129
                       clear HB
                       have BK129 := n0_
                       have HB := n1_
                       clear n0_ n1_
                       (try clear hb)
                       (try clear hb2)
                       (try clear hk)
                       (try clear hi)
                       refine hK.out _ _ (c3_ BK129.out) (fun hHeld => ?_)
                       clear hK K
                       refine norm_ (a' := ?_) ?_ ?_
                       rotate_left
                       ·show Act.put _ (some 36) _ = _
                        simp only [Act.put, s1_, s2_, s3_, i64_w, i32_w]
                        rfl
                       exact norm_ (by simp only [putAll, Act.put, s1_, s2_, s3_] <;> rfl) (hJ2_5_7 () _ ⟨hHeld, (peel_ BK129.out), (bel_ HB.out)⟩)
                      ·skip
                       refine box_step ?hg (N := 7) ?hd (cs := #[.int .i64 0, .int .i64 0, .string (⟨#[]⟩ : ByteArray)]) (t := 24) ?hr ?_; (case hd => rfl); (case hg => rfl); (case hr => first | (go_simp; done) | (go_simp; rfl))
                       intro gb141 hg w38 hbox hb
                       have n0_ := Aside0.mk (bb_ BK129.out hb)
                       have n1_ := Aside0.mk (below_step (bel_ HB.out) hb)
                       have n2_ := Aside0.mk (hbox)
                       have n3_ := Aside0.mk (bz_ hg (bel_ HB.out))
                       have n4_ := Aside0.mk (bz_ hg (bel_ HB.out))
                       have n5_ := Aside0.mk (nl_ hg BK129.out)
                       have n6_ := Aside0.mk (ng_ hg BK129.out)
                       clear BK129
                       clear HB
                       have BK129 := n0_
                       have HB := n1_
                       have BK141 := n2_
                       have GW141 := n3_
                       have GE141 := n4_
                       have NB129_141 := n5_
                       have NB141_129 := n6_
                       clear n0_ n1_ n2_ n3_ n4_ n5_ n6_
                       clear hb hbox hg
                       refine hK.out _ _ (c3_ BK129.out) (fun hHeld => ?_)
                       clear hK K
                       refine norm_ (a' := ?_) ?_ ?_
                       rotate_left
                       ·show Act.put _ (some 7) _ = _
                        simp only [Act.put, s1_, s2_, s3_, i64_w, i32_w]
                        rfl
                       exact norm_ (by simp only [putAll, Act.put, s1_, s2_, s3_] <;> rfl) (hJ2_5_16 (gb141) _ ⟨hHeld, (peel_ BK129.out), (peel_ BK141.out), GW141.out, GE141.out, NB129_141.out, NB141_129.out, (bel_ HB.out)⟩)
                      ·skip
                       refine box_step ?hg (N := 8) ?hd (cs := #[.int .i64 0, .int .i64 0, .string (⟨#[]⟩ : ByteArray)]) (t := 24) ?hr ?_; (case hd => rfl); (case hg => rfl); (case hr => first | (go_simp; done) | (go_simp; rfl))
                       intro gb142 hg w38 hbox hb
                       have n0_ := Aside0.mk (bb_ BK129.out hb)
                       have n1_ := Aside0.mk (below_step (bel_ HB.out) hb)
                       have n2_ := Aside0.mk (hbox)
                       have n3_ := Aside0.mk (bz_ hg (bel_ HB.out))
                       have n4_ := Aside0.mk (bz_ hg (bel_ HB.out))
                       have n5_ := Aside0.mk (nl_ hg BK129.out)
                       have n6_ := Aside0.mk (ng_ hg BK129.out)
                       clear BK129
                       clear HB
                       have BK129 := n0_
                       have HB := n1_
                       have BK142 := n2_
                       have GW142 := n3_
                       have GE142 := n4_
                       have NB129_142 := n5_
                       have NB142_129 := n6_
                       clear n0_ n1_ n2_ n3_ n4_ n5_ n6_
                       clear hb hbox hg
                       refine hK.out _ _ (c3_ BK129.out) (fun hHeld => ?_)
                       clear hK K
                       refine norm_ (a' := ?_) ?_ ?_
                       rotate_left
                       ·show Act.put _ (some 8) _ = _
                        simp only [Act.put, s1_, s2_, s3_, i64_w, i32_w]
                        rfl
                       exact norm_ (by simp only [putAll, Act.put, s1_, s2_, s3_] <;> rfl) (hJ2_5_17 (gb142) _ ⟨hHeld, (peel_ BK129.out), (peel_ BK142.out), GW142.out, GE142.out, NB129_142.out, NB142_129.out, (bel_ HB.out)⟩)
                    ·skip
                     rintro ⟨gb141, gb142⟩ w39 ⟨hS_, h0_, h1_, h2_, h3_, h4_, h5_, h6_, h7_, h8_, h9_, h10_, h11_, h12_, h13_⟩
                     have n0_ : Aside0 (w39.heap[gb129]? = some (.cells #[.int .i64 a0_0, .int .i64 a0_1, .int .i64 a0_2] 39 (0, 0))) := ⟨h0_⟩
                     have n1_ : Aside0 (w39.heap[gb141]? = some (.cells #[.int .i64 0, .int .i64 0, .string (⟨#[]⟩ : ByteArray)] 24 (0, 0))) := ⟨h1_⟩
                     have n2_ : Aside0 (w39.heap[gb142]? = some (.cells #[.int .i64 0, .int .i64 0, .string (⟨#[]⟩ : ByteArray)] 24 (0, 0))) := ⟨h2_⟩
                     have n3_ : Aside0 (w.heap.size ≤ gb141) := ⟨h3_⟩
                     have n4_ : Aside0 (w.heap.size ≤ gb141) := ⟨h4_⟩
                     have n5_ : Aside0 (gb129 ≠ gb141) := ⟨h5_⟩
                     have n6_ : Aside0 (gb141 ≠ gb129) := ⟨h6_⟩
                     have n7_ : Aside0 (gb142 ≠ gb141) := ⟨h7_⟩
                     have n8_ : Aside0 (gb141 ≠ gb142) := ⟨h8_⟩
                     have n9_ : Aside0 (w.heap.size ≤ gb142) := ⟨h9_⟩
                     have n10_ : Aside0 (w.heap.size ≤ gb142) := ⟨h10_⟩
                     have n11_ : Aside0 (gb129 ≠ gb142) := ⟨h11_⟩
                     have n12_ : Aside0 (gb142 ≠ gb129) := ⟨h12_⟩
                     have n13_ : Aside0 (Below w.heap.size w w39) := ⟨h13_⟩
                     clear BK129
                     clear HB
                     clear h0_ h1_ h2_ h3_ h4_ h5_ h6_ h7_ h8_ h9_ h10_ h11_ h12_ h13_
                     have BK129 := n0_
                     have BK141 := n1_
                     have BK142 := n2_
                     have GW141 := n3_
                     have GE141 := n4_
                     have NB129_141 := n5_
                     have NB141_129 := n6_
                     have NB142_141 := n7_
                     have NB141_142 := n8_
                     have GW142 := n9_
                     have GE142 := n10_
                     have NB129_142 := n11_
                     have NB142_129 := n12_
                     have HB := n13_
                     clear n0_ n1_ n2_ n3_ n4_ n5_ n6_ n7_ n8_ n9_ n10_ n11_ n12_ n13_
                     have hHeld : w39.cell? ⟨gb129, 0, none⟩ = some (.int .i64 a0_0) ∧ w39.cell? ⟨gb129, 1, none⟩ = some (.int .i64 a0_1) ∧ w39.cell? ⟨gb129, 2, none⟩ = some (.int .i64 a0_2) := hS_
                     refine norm_ (a' := ?_) ?_ ?_
                     rotate_left
                     ·simp only [putAll, Act.put, s1_, s2_, s3_]
                      rfl
                     refine one_ (i := 5) (N := some 34) #[T, T, T, T, T, T, T, F, T, T, F, T, T, F, T, F, T, T, F, F] rfl rfl (one_of HT_.out (by kernel_rfl)) (by decide) (fun K hK => ?_)
                     refine goes_ Try.func24 (by kernel_rfl) rfl #[.int .i64 a0_1] (by rfl) rfl rfl gl_ ?_
                     with_reducible refine (corncriblaw02_side.calls a0_1 t132 _ A7.out).mono ?_
                     rintro e w' ⟨rfl, ⟨nd, rfl⟩⟩
                     refine ⟨_, rfl, ?_⟩
                     refine hK.out _ _ (c3_ BK129.out) (fun hHeld => ?_)
                     clear hK K
                     refine norm_ (a' := ?_) ?_ ?_
                     rotate_left
                     ·show Act.put _ (some 34) _ = _
                      simp only [Act.put, s1_, s2_, s3_, i64_w, i32_w]
                      rfl
                     exact norm_ (by simp only [putAll, Act.put, s1_, s2_, s3_] <;> rfl) (hJ2_5_16_17 (gb141, gb142) _ ⟨hHeld, (peel_ BK129.out), (peel_ BK141.out), (peel_ BK142.out), GW141.out, GE141.out, NB129_141.out, NB141_129.out, NB142_141.out, NB141_142.out, GW142.out, GE142.out, NB129_142.out, NB142_129.out, (bel_ HB.out)⟩)
                   ·skip
                    rintro gb142 w38 ⟨hS_, h0_, h1_, h2_, h3_, h4_, h5_, h6_⟩
                    have n0_ : Aside0 (w38.heap[gb129]? = some (.cells #[.int .i64 a0_0, .int .i64 a0_1, .int .i64 a0_2] 39 (0, 0))) := ⟨h0_⟩
                    have n1_ : Aside0 (w38.heap[gb142]? = some (.cells #[.int .i64 0, .int .i64 0, .string (⟨#[]⟩ : ByteArray)] 24 (0, 0))) := ⟨h1_⟩
                    have n2_ : Aside0 (w.heap.size ≤ gb142) := ⟨h2_⟩
                    have n3_ : Aside0 (w.heap.size ≤ gb142) := ⟨h3_⟩
                    have n4_ : Aside0 (gb129 ≠ gb142) := ⟨h4_⟩
                    have n5_ : Aside0 (gb142 ≠ gb129) := ⟨h5_⟩
                    have n6_ : Aside0 (Below w.heap.size w w38) := ⟨h6_⟩
                    clear BK129
                    clear HB
                    clear h0_ h1_ h2_ h3_ h4_ h5_ h6_
                    have BK129 := n0_
                    have BK142 := n1_
                    have GW142 := n2_
                    have GE142 := n3_
                    have NB129_142 := n4_
                    have NB142_129 := n5_
                    have HB := n6_
                    clear n0_ n1_ n2_ n3_ n4_ n5_ n6_
                    have hHeld : w38.cell? ⟨gb129, 0, none⟩ = some (.int .i64 a0_0) ∧ w38.cell? ⟨gb129, 1, none⟩ = some (.int .i64 a0_1) ∧ w38.cell? ⟨gb129, 2, none⟩ = some (.int .i64 a0_2) := hS_
                    refine norm_ (a' := ?_) ?_ ?_
                    rotate_left
                    ·simp only [putAll, Act.put, s1_, s2_, s3_]
                     rfl
                    refine two_ (i := 7) (j := 16) (Ni := some 36) (Nj := some 7) #[T, T, T, T, T, T, T, T, T, T, F, T, T, F, T, F, F, T, F, F] #[T, T, T, T, T, T, T, F, T, T, F, T, T, F, T, F, T, T, F, F] rfl rfl rfl rfl (two_of HT_.out (by kernel_rfl)) (by decide) (by decide) (fun K hK => ?_) (fun K hK => ?_)
                    ·skip
                     refine goes_ Try.func23 (by kernel_rfl) rfl #[.int .i64 t131, .int .i64 t132, .string a1] (by rfl) rfl rfl gl_ ?_
                     with_reducible refine (corncriblaw02_made.calls t131 t132 a1 t133 t134 t135 _ A8.out).mono ?_
                     rintro e w39 ⟨rfl, hb⟩
                     refine ⟨_, rfl, ?_⟩
                     have n0_ := Aside0.mk (bb_ BK129.out hb)
                     have n1_ := Aside0.mk (bb_ BK142.out hb)
                     have n2_ := Aside0.mk (below_step (bel_ HB.out) hb)
                     clear BK129
                     clear BK142
                     clear HB
                     have BK129 := n0_
                     have BK142 := n1_
                     have HB := n2_
                     clear n0_ n1_ n2_
                     (try clear hb)
                     (try clear hb2)
                     (try clear hk)
                     (try clear hi)
                     refine hK.out _ _ (c3_ BK129.out) (fun hHeld => ?_)
                     clear hK K
                     refine norm_ (a' := ?_) ?_ ?_
                     rotate_left
                     ·show Act.put _ (some 36) _ = _
                      simp only [Act.put, s1_, s2_, s3_, i64_w, i32_w]
                      rfl
                     exact norm_ (by simp only [putAll, Act.put, s1_, s2_, s3_] <;> rfl) (hJ2_5_7_17 (gb142) _ ⟨hHeld, (peel_ BK129.out), (peel_ BK142.out), GW142.out, GE142.out, NB129_142.out, NB142_129.out, (bel_ HB.out)⟩)
                    ·skip
                     refine box_step ?hg (N := 7) ?hd (cs := #[.int .i64 0, .int .i64 0, .string (⟨#[]⟩ : ByteArray)]) (t := 24) ?hr ?_; (case hd => rfl); (case hg => rfl); (case hr => first | (go_simp; done) | (go_simp; rfl))
                     intro gb141 hg w39 hbox hb
                     have n0_ := Aside0.mk (bb_ BK129.out hb)
                     have n1_ := Aside0.mk (bb_ BK142.out hb)
                     have n2_ := Aside0.mk (below_step (bel_ HB.out) hb)
                     have n3_ := Aside0.mk (hbox)
                     have n4_ := Aside0.mk (bz_ hg (bel_ HB.out))
                     have n5_ := Aside0.mk (bz_ hg (bel_ HB.out))
                     have n6_ := Aside0.mk (nl_ hg BK129.out)
                     have n7_ := Aside0.mk (ng_ hg BK129.out)
                     have n8_ := Aside0.mk (nl_ hg BK142.out)
                     have n9_ := Aside0.mk (ng_ hg BK142.out)
                     clear BK129
                     clear BK142
                     clear HB
                     have BK129 := n0_
                     have BK142 := n1_
                     have HB := n2_
                     have BK141 := n3_
                     have GW141 := n4_
                     have GE141 := n5_
                     have NB129_141 := n6_
                     have NB141_129 := n7_
                     have NB142_141 := n8_
                     have NB141_142 := n9_
                     clear n0_ n1_ n2_ n3_ n4_ n5_ n6_ n7_ n8_ n9_
                     clear hb hbox hg
                     refine hK.out _ _ (c3_ BK129.out) (fun hHeld => ?_)
                     clear hK K
                     refine norm_ (a' := ?_) ?_ ?_
                     rotate_left
                     ·show Act.put _ (some 7) _ = _
                      simp only [Act.put, s1_, s2_, s3_, i64_w, i32_w]
                      rfl
                     exact norm_ (by simp only [putAll, Act.put, s1_, s2_, s3_] <;> rfl) (hJ2_5_16_17 (gb141, gb142) _ ⟨hHeld, (peel_ BK129.out), (peel_ BK141.out), (peel_ BK142.out), GW141.out, GE141.out, NB129_141.out, NB141_129.out, NB142_141.out, NB141_142.out, GW142.out, GE142.out, NB129_142.out, NB142_129.out, (bel_ HB.out)⟩)
                  ·skip
                   rintro gb141 w38 ⟨hS_, h0_, h1_, h2_, h3_, h4_, h5_, h6_⟩
                   have n0_ : Aside0 (w38.heap[gb129]? = some (.cells #[.int .i64 a0_0, .int .i64 a0_1, .int .i64 a0_2] 39 (0, 0))) := ⟨h0_⟩
                   have n1_ : Aside0 (w38.heap[gb141]? = some (.cells #[.int .i64 0, .int .i64 0, .string (⟨#[]⟩ : ByteArray)] 24 (0, 0))) := ⟨h1_⟩
                   have n2_ : Aside0 (w.heap.size ≤ gb141) := ⟨h2_⟩
                   have n3_ : Aside0 (w.heap.size ≤ gb141) := ⟨h3_⟩
                   have n4_ : Aside0 (gb129 ≠ gb141) := ⟨h4_⟩
                   have n5_ : Aside0 (gb141 ≠ gb129) := ⟨h5_⟩
                   have n6_ : Aside0 (Below w.heap.size w w38) := ⟨h6_⟩
                   clear BK129
                   clear HB
                   clear h0_ h1_ h2_ h3_ h4_ h5_ h6_
                   have BK129 := n0_
                   have BK141 := n1_
                   have GW141 := n2_
                   have GE141 := n3_
                   have NB129_141 := n4_
                   have NB141_129 := n5_
                   have HB := n6_
                   clear n0_ n1_ n2_ n3_ n4_ n5_ n6_
                   have hHeld : w38.cell? ⟨gb129, 0, none⟩ = some (.int .i64 a0_0) ∧ w38.cell? ⟨gb129, 1, none⟩ = some (.int .i64 a0_1) ∧ w38.cell? ⟨gb129, 2, none⟩ = some (.int .i64 a0_2) := hS_
                   refine norm_ (a' := ?_) ?_ ?_
                   rotate_left
                   ·simp only [putAll, Act.put, s1_, s2_, s3_]
                    rfl
                   refine two_ (i := 7) (j := 17) (Ni := some 36) (Nj := some 8) #[T, T, T, T, T, T, T, T, T, T, F, T, T, F, T, F, T, F, F, F] #[T, T, T, T, T, T, T, F, T, T, F, T, T, F, T, F, T, T, F, F] rfl rfl rfl rfl (two_of HT_.out (by kernel_rfl)) (by decide) (by decide) (fun K hK => ?_) (fun K hK => ?_)
                   ·skip
                    refine goes_ Try.func23 (by kernel_rfl) rfl #[.int .i64 t131, .int .i64 t132, .string a1] (by rfl) rfl rfl gl_ ?_
                    with_reducible refine (corncriblaw02_made.calls t131 t132 a1 t133 t134 t135 _ A8.out).mono ?_
                    rintro e w39 ⟨rfl, hb⟩
                    refine ⟨_, rfl, ?_⟩
                    have n0_ := Aside0.mk (bb_ BK129.out hb)
                    have n1_ := Aside0.mk (bb_ BK141.out hb)
                    have n2_ := Aside0.mk (below_step (bel_ HB.out) hb)
                    clear BK129
                    clear BK141
                    clear HB
                    have BK129 := n0_
                    have BK141 := n1_
                    have HB := n2_
                    clear n0_ n1_ n2_
                    (try clear hb)
                    (try clear hb2)
                    (try clear hk)
                    (try clear hi)
                    refine hK.out _ _ (c3_ BK129.out) (fun hHeld => ?_)
                    clear hK K
                    refine norm_ (a' := ?_) ?_ ?_
                    rotate_left
                    ·show Act.put _ (some 36) _ = _
                     simp only [Act.put, s1_, s2_, s3_, i64_w, i32_w]
                     rfl
                    exact norm_ (by simp only [putAll, Act.put, s1_, s2_, s3_] <;> rfl) (hJ2_5_7_16 (gb141) _ ⟨hHeld, (peel_ BK129.out), (peel_ BK141.out), GW141.out, GE141.out, NB129_141.out, NB141_129.out, (bel_ HB.out)⟩)
                   ·skip
                    refine box_step ?hg (N := 8) ?hd (cs := #[.int .i64 0, .int .i64 0, .string (⟨#[]⟩ : ByteArray)]) (t := 24) ?hr ?_; (case hd => rfl); (case hg => rfl); (case hr => first | (go_simp; done) | (go_simp; rfl))
                    intro gb142 hg w39 hbox hb
                    have n0_ := Aside0.mk (bb_ BK129.out hb)
                    have n1_ := Aside0.mk (bb_ BK141.out hb)
                    have n2_ := Aside0.mk (below_step (bel_ HB.out) hb)
                    have n3_ := Aside0.mk (hbox)
                    have n4_ := Aside0.mk (bz_ hg (bel_ HB.out))
                    have n5_ := Aside0.mk (bz_ hg (bel_ HB.out))
                    have n6_ := Aside0.mk (nl_ hg BK129.out)
                    have n7_ := Aside0.mk (ng_ hg BK129.out)
                    have n8_ := Aside0.mk (nl_ hg BK141.out)
                    have n9_ := Aside0.mk (ng_ hg BK141.out)
                    clear BK129
                    clear BK141
                    clear HB
                    have BK129 := n0_
                    have BK141 := n1_
                    have HB := n2_
                    have BK142 := n3_
                    have GW142 := n4_
                    have GE142 := n5_
                    have NB129_142 := n6_
                    have NB142_129 := n7_
                    have NB141_142 := n8_
                    have NB142_141 := n9_
                    clear n0_ n1_ n2_ n3_ n4_ n5_ n6_ n7_ n8_ n9_
                    clear hb hbox hg
                    refine hK.out _ _ (c3_ BK129.out) (fun hHeld => ?_)
                    clear hK K
                    refine norm_ (a' := ?_) ?_ ?_
                    rotate_left
                    ·show Act.put _ (some 8) _ = _
                     simp only [Act.put, s1_, s2_, s3_, i64_w, i32_w]
                     rfl
                    exact norm_ (by simp only [putAll, Act.put, s1_, s2_, s3_] <;> rfl) (hJ2_5_16_17 (gb141, gb142) _ ⟨hHeld, (peel_ BK129.out), (peel_ BK141.out), (peel_ BK142.out), GW141.out, GE141.out, NB129_141.out, NB141_129.out, NB142_141.out, NB141_142.out, GW142.out, GE142.out, NB129_142.out, NB142_129.out, (bel_ HB.out)⟩)
                 ·skip
                  rintro _ w38 ⟨hS_, h0_, h1_⟩
                  have n0_ : Aside0 (w38.heap[gb129]? = some (.cells #[.int .i64 a0_0, .int .i64 a0_1, .int .i64 a0_2] 39 (0, 0))) := ⟨h0_⟩
                  have n1_ : Aside0 (Below w.heap.size w w38) := ⟨h1_⟩
                  clear BK129
                  clear HB
                  clear h0_ h1_
                  have BK129 := n0_
                  have HB := n1_
                  clear n0_ n1_
                  have hHeld : w38.cell? ⟨gb129, 0, none⟩ = some (.int .i64 a0_0) ∧ w38.cell? ⟨gb129, 1, none⟩ = some (.int .i64 a0_1) ∧ w38.cell? ⟨gb129, 2, none⟩ = some (.int .i64 a0_2) := hS_
                  refine norm_ (a' := ?_) ?_ ?_
                  rotate_left
                  ·simp only [putAll, Act.put, s1_, s2_, s3_]
                   rfl
                  refine three_ (i := 10) (j := 16) (k := 17) (Ni := some 39) (Nj := some 7) (Nk := some 8) #[T, T, T, T, T, T, T, T, T, T, T, T, T, F, T, F, F, F, F, F] #[T, T, T, T, T, T, T, T, T, T, F, T, T, F, T, F, T, F, F, F] #[T, T, T, T, T, T, T, T, T, T, F, T, T, F, T, F, F, T, F, F] rfl rfl rfl rfl rfl rfl (three_of HT_.out (by kernel_rfl)) (by decide) (by decide) (by decide) (fun K hK => ?_) (fun K hK => ?_) (fun K hK => ?_)
                  ·skip
                   refine goes_ Try.func24 (by kernel_rfl) rfl #[.int .i64 a0_1] (by rfl) rfl rfl gl_ ?_
                   with_reducible refine (corncriblaw02_side.calls a0_1 t136 _ A9.out).mono ?_
                   rintro e w' ⟨rfl, ⟨nd, rfl⟩⟩
                   refine ⟨_, rfl, ?_⟩
                   refine hK.out _ _ (c3_ BK129.out) (fun hHeld => ?_)
                   clear hK K
                   refine norm_ (a' := ?_) ?_ ?_
                   rotate_left
                   ·show Act.put _ (some 39) _ = _
                    simp only [Act.put, s1_, s2_, s3_, i64_w, i32_w]
                    rfl
                   exact norm_ (by simp only [putAll, Act.put, s1_, s2_, s3_] <;> rfl) (hJ2_5_7_10 () _ ⟨hHeld, (peel_ BK129.out), (bel_ HB.out)⟩)
                  ·skip
                   refine box_step ?hg (N := 7) ?hd (cs := #[.int .i64 0, .int .i64 0, .string (⟨#[]⟩ : ByteArray)]) (t := 24) ?hr ?_; (case hd => rfl); (case hg => rfl); (case hr => first | (go_simp; done) | (go_simp; rfl))
                   intro gb141 hg w39 hbox hb
                   have n0_ := Aside0.mk (bb_ BK129.out hb)
                   have n1_ := Aside0.mk (below_step (bel_ HB.out) hb)
                   have n2_ := Aside0.mk (hbox)
                   have n3_ := Aside0.mk (bz_ hg (bel_ HB.out))
                   have n4_ := Aside0.mk (bz_ hg (bel_ HB.out))
                   have n5_ := Aside0.mk (nl_ hg BK129.out)
                   have n6_ := Aside0.mk (ng_ hg BK129.out)
                   clear BK129
                   clear HB
                   have BK129 := n0_
                   have HB := n1_
                   have BK141 := n2_
                   have GW141 := n3_
                   have GE141 := n4_
                   have NB129_141 := n5_
                   have NB141_129 := n6_
                   clear n0_ n1_ n2_ n3_ n4_ n5_ n6_
                   clear hb hbox hg
                   refine hK.out _ _ (c3_ BK129.out) (fun hHeld => ?_)
                   clear hK K
                   refine norm_ (a' := ?_) ?_ ?_
                   rotate_left
                   ·show Act.put _ (some 7) _ = _
                    simp only [Act.put, s1_, s2_, s3_, i64_w, i32_w]
                    rfl
                   exact norm_ (by simp only [putAll, Act.put, s1_, s2_, s3_] <;> rfl) (hJ2_5_7_16 (gb141) _ ⟨hHeld, (peel_ BK129.out), (peel_ BK141.out), GW141.out, GE141.out, NB129_141.out, NB141_129.out, (bel_ HB.out)⟩)
                  ·skip
                   refine box_step ?hg (N := 8) ?hd (cs := #[.int .i64 0, .int .i64 0, .string (⟨#[]⟩ : ByteArray)]) (t := 24) ?hr ?_; (case hd => rfl); (case hg => rfl); (case hr => first | (go_simp; done) | (go_simp; rfl))
                   intro gb142 hg w39 hbox hb
                   have n0_ := Aside0.mk (bb_ BK129.out hb)
                   have n1_ := Aside0.mk (below_step (bel_ HB.out) hb)
                   have n2_ := Aside0.mk (hbox)
                   have n3_ := Aside0.mk (bz_ hg (bel_ HB.out))
                   have n4_ := Aside0.mk (bz_ hg (bel_ HB.out))
                   have n5_ := Aside0.mk (nl_ hg BK129.out)
                   have n6_ := Aside0.mk (ng_ hg BK129.out)
                   clear BK129
                   clear HB
                   have BK129 := n0_
                   have HB := n1_
                   have BK142 := n2_
                   have GW142 := n3_
                   have GE142 := n4_
                   have NB129_142 := n5_
                   have NB142_129 := n6_
                   clear n0_ n1_ n2_ n3_ n4_ n5_ n6_
                   clear hb hbox hg
                   refine hK.out _ _ (c3_ BK129.out) (fun hHeld => ?_)
                   clear hK K
                   refine norm_ (a' := ?_) ?_ ?_
                   rotate_left
                   ·show Act.put _ (some 8) _ = _
                    simp only [Act.put, s1_, s2_, s3_, i64_w, i32_w]
                    rfl
                   exact norm_ (by simp only [putAll, Act.put, s1_, s2_, s3_] <;> rfl) (hJ2_5_7_17 (gb142) _ ⟨hHeld, (peel_ BK129.out), (peel_ BK142.out), GW142.out, GE142.out, NB129_142.out, NB142_129.out, (bel_ HB.out)⟩)
                ·skip
                 rintro ⟨gb141, gb142⟩ w39 ⟨hS_, h0_, h1_, h2_, h3_, h4_, h5_, h6_, h7_, h8_, h9_, h10_, h11_, h12_, h13_⟩
                 have n0_ : Aside0 (w39.heap[gb129]? = some (.cells #[.int .i64 a0_0, .int .i64 a0_1, .int .i64 a0_2] 39 (0, 0))) := ⟨h0_⟩
                 have n1_ : Aside0 (w39.heap[gb141]? = some (.cells #[.int .i64 0, .int .i64 0, .string (⟨#[]⟩ : ByteArray)] 24 (0, 0))) := ⟨h1_⟩
                 have n2_ : Aside0 (w39.heap[gb142]? = some (.cells #[.int .i64 0, .int .i64 0, .string (⟨#[]⟩ : ByteArray)] 24 (0, 0))) := ⟨h2_⟩
                 have n3_ : Aside0 (w.heap.size ≤ gb141) := ⟨h3_⟩
                 have n4_ : Aside0 (w.heap.size ≤ gb141) := ⟨h4_⟩
                 have n5_ : Aside0 (gb129 ≠ gb141) := ⟨h5_⟩
                 have n6_ : Aside0 (gb141 ≠ gb129) := ⟨h6_⟩
                 have n7_ : Aside0 (gb142 ≠ gb141) := ⟨h7_⟩
                 have n8_ : Aside0 (gb141 ≠ gb142) := ⟨h8_⟩
                 have n9_ : Aside0 (w.heap.size ≤ gb142) := ⟨h9_⟩
                 have n10_ : Aside0 (w.heap.size ≤ gb142) := ⟨h10_⟩
                 have n11_ : Aside0 (gb129 ≠ gb142) := ⟨h11_⟩
                 have n12_ : Aside0 (gb142 ≠ gb129) := ⟨h12_⟩
                 have n13_ : Aside0 (Below w.heap.size w w39) := ⟨h13_⟩
                 clear BK129
                 clear HB
                 clear h0_ h1_ h2_ h3_ h4_ h5_ h6_ h7_ h8_ h9_ h10_ h11_ h12_ h13_
                 have BK129 := n0_
                 have BK141 := n1_
                 have BK142 := n2_
                 have GW141 := n3_
                 have GE141 := n4_
                 have NB129_141 := n5_
                 have NB141_129 := n6_
                 have NB142_141 := n7_
                 have NB141_142 := n8_
                 have GW142 := n9_
                 have GE142 := n10_
                 have NB129_142 := n11_
                 have NB142_129 := n12_
                 have HB := n13_
                 clear n0_ n1_ n2_ n3_ n4_ n5_ n6_ n7_ n8_ n9_ n10_ n11_ n12_ n13_
                 have hHeld : w39.cell? ⟨gb129, 0, none⟩ = some (.int .i64 a0_0) ∧ w39.cell? ⟨gb129, 1, none⟩ = some (.int .i64 a0_1) ∧ w39.cell? ⟨gb129, 2, none⟩ = some (.int .i64 a0_2) := hS_
                 refine norm_ (a' := ?_) ?_ ?_
                 rotate_left
                 ·simp only [putAll, Act.put, s1_, s2_, s3_]
                  rfl
                 refine one_ (i := 7) (N := some 36) #[T, T, T, T, T, T, T, T, T, T, F, T, T, F, T, F, T, T, F, F] rfl rfl (one_of HT_.out (by kernel_rfl)) (by decide) (fun K hK => ?_)
                 refine goes_ Try.func23 (by kernel_rfl) rfl #[.int .i64 t131, .int .i64 t132, .string a1] (by rfl) rfl rfl gl_ ?_
                 with_reducible refine (corncriblaw02_made.calls t131 t132 a1 t133 t134 t135 _ A8.out).mono ?_
                 rintro e w40 ⟨rfl, hb⟩
                 refine ⟨_, rfl, ?_⟩
                 have n0_ := Aside0.mk (bb_ BK129.out hb)
                 have n1_ := Aside0.mk (bb_ BK141.out hb)
                 have n2_ := Aside0.mk (bb_ BK142.out hb)
                 have n3_ := Aside0.mk (below_step (bel_ HB.out) hb)
                 clear BK129
                 clear BK141
                 clear BK142
                 clear HB
                 have BK129 := n0_
                 have BK141 := n1_
                 have BK142 := n2_
                 have HB := n3_
                 clear n0_ n1_ n2_ n3_
                 (try clear hb)
                 (try clear hb2)
                 (try clear hk)
                 (try clear hi)
                 refine hK.out _ _ (c3_ BK129.out) (fun hHeld => ?_)
                 clear hK K
                 refine norm_ (a' := ?_) ?_ ?_
                 rotate_left
                 ·show Act.put _ (some 36) _ = _
                  simp only [Act.put, s1_, s2_, s3_, i64_w, i32_w]
                  rfl
                 exact norm_ (by simp only [putAll, Act.put, s1_, s2_, s3_] <;> rfl) (hJ2_5_7_16_17 (gb141, gb142) _ ⟨hHeld, (peel_ BK129.out), (peel_ BK141.out), (peel_ BK142.out), GW141.out, GE141.out, NB129_141.out, NB141_129.out, NB142_141.out, NB141_142.out, GW142.out, GE142.out, NB129_142.out, NB142_129.out, (bel_ HB.out)⟩)
               ·skip
                rintro gb142 w39 ⟨hS_, h0_, h1_, h2_, h3_, h4_, h5_, h6_⟩
                have n0_ : Aside0 (w39.heap[gb129]? = some (.cells #[.int .i64 a0_0, .int .i64 a0_1, .int .i64 a0_2] 39 (0, 0))) := ⟨h0_⟩
                have n1_ : Aside0 (w39.heap[gb142]? = some (.cells #[.int .i64 0, .int .i64 0, .string (⟨#[]⟩ : ByteArray)] 24 (0, 0))) := ⟨h1_⟩
                have n2_ : Aside0 (w.heap.size ≤ gb142) := ⟨h2_⟩
                have n3_ : Aside0 (w.heap.size ≤ gb142) := ⟨h3_⟩
                have n4_ : Aside0 (gb129 ≠ gb142) := ⟨h4_⟩
                have n5_ : Aside0 (gb142 ≠ gb129) := ⟨h5_⟩
                have n6_ : Aside0 (Below w.heap.size w w39) := ⟨h6_⟩
                clear BK129
                clear HB
                clear h0_ h1_ h2_ h3_ h4_ h5_ h6_
                have BK129 := n0_
                have BK142 := n1_
                have GW142 := n2_
                have GE142 := n3_
                have NB129_142 := n4_
                have NB142_129 := n5_
                have HB := n6_
                clear n0_ n1_ n2_ n3_ n4_ n5_ n6_
                have hHeld : w39.cell? ⟨gb129, 0, none⟩ = some (.int .i64 a0_0) ∧ w39.cell? ⟨gb129, 1, none⟩ = some (.int .i64 a0_1) ∧ w39.cell? ⟨gb129, 2, none⟩ = some (.int .i64 a0_2) := hS_
                refine norm_ (a' := ?_) ?_ ?_
                rotate_left
                ·simp only [putAll, Act.put, s1_, s2_, s3_]
                 rfl
                refine two_ (i := 10) (j := 16) (Ni := some 39) (Nj := some 7) #[T, T, T, T, T, T, T, T, T, T, T, T, T, F, T, F, F, T, F, F] #[T, T, T, T, T, T, T, T, T, T, F, T, T, F, T, F, T, T, F, F] rfl rfl rfl rfl (two_of HT_.out (by kernel_rfl)) (by decide) (by decide) (fun K hK => ?_) (fun K hK => ?_)
                ·skip
                 refine goes_ Try.func24 (by kernel_rfl) rfl #[.int .i64 a0_1] (by rfl) rfl rfl gl_ ?_
                 with_reducible refine (corncriblaw02_side.calls a0_1 t136 _ A9.out).mono ?_
                 rintro e w' ⟨rfl, ⟨nd, rfl⟩⟩
                 refine ⟨_, rfl, ?_⟩
                 refine hK.out _ _ (c3_ BK129.out) (fun hHeld => ?_)
                 clear hK K
                 refine norm_ (a' := ?_) ?_ ?_
                 rotate_left
                 ·show Act.put _ (some 39) _ = _
                  simp only [Act.put, s1_, s2_, s3_, i64_w, i32_w]
                  rfl
                 exact norm_ (by simp only [putAll, Act.put, s1_, s2_, s3_] <;> rfl) (hJ2_5_7_10_17 (gb142) _ ⟨hHeld, (peel_ BK129.out), (peel_ BK142.out), GW142.out, GE142.out, NB129_142.out, NB142_129.out, (bel_ HB.out)⟩)
                ·skip
                 refine box_step ?hg (N := 7) ?hd (cs := #[.int .i64 0, .int .i64 0, .string (⟨#[]⟩ : ByteArray)]) (t := 24) ?hr ?_; (case hd => rfl); (case hg => rfl); (case hr => first | (go_simp; done) | (go_simp; rfl))
                 intro gb141 hg w40 hbox hb
                 have n0_ := Aside0.mk (bb_ BK129.out hb)
                 have n1_ := Aside0.mk (bb_ BK142.out hb)
                 have n2_ := Aside0.mk (below_step (bel_ HB.out) hb)
                 have n3_ := Aside0.mk (hbox)
                 have n4_ := Aside0.mk (bz_ hg (bel_ HB.out))
                 have n5_ := Aside0.mk (bz_ hg (bel_ HB.out))
                 have n6_ := Aside0.mk (nl_ hg BK129.out)
                 have n7_ := Aside0.mk (ng_ hg BK129.out)
                 have n8_ := Aside0.mk (nl_ hg BK142.out)
                 have n9_ := Aside0.mk (ng_ hg BK142.out)
                 clear BK129
                 clear BK142
                 clear HB
                 have BK129 := n0_
                 have BK142 := n1_
                 have HB := n2_
                 have BK141 := n3_
                 have GW141 := n4_
                 have GE141 := n5_
                 have NB129_141 := n6_
                 have NB141_129 := n7_
                 have NB142_141 := n8_
                 have NB141_142 := n9_
                 clear n0_ n1_ n2_ n3_ n4_ n5_ n6_ n7_ n8_ n9_
                 clear hb hbox hg
                 refine hK.out _ _ (c3_ BK129.out) (fun hHeld => ?_)
                 clear hK K
                 refine norm_ (a' := ?_) ?_ ?_
                 rotate_left
                 ·show Act.put _ (some 7) _ = _
                  simp only [Act.put, s1_, s2_, s3_, i64_w, i32_w]
                  rfl
                 exact norm_ (by simp only [putAll, Act.put, s1_, s2_, s3_] <;> rfl) (hJ2_5_7_16_17 (gb141, gb142) _ ⟨hHeld, (peel_ BK129.out), (peel_ BK141.out), (peel_ BK142.out), GW141.out, GE141.out, NB129_141.out, NB141_129.out, NB142_141.out, NB141_142.out, GW142.out, GE142.out, NB129_142.out, NB142_129.out, (bel_ HB.out)⟩)
              ·skip
               rintro gb141 w39 ⟨hS_, h0_, h1_, h2_, h3_, h4_, h5_, h6_⟩
               have n0_ : Aside0 (w39.heap[gb129]? = some (.cells #[.int .i64 a0_0, .int .i64 a0_1, .int .i64 a0_2] 39 (0, 0))) := ⟨h0_⟩
               have n1_ : Aside0 (w39.heap[gb141]? = some (.cells #[.int .i64 0, .int .i64 0, .string (⟨#[]⟩ : ByteArray)] 24 (0, 0))) := ⟨h1_⟩
               have n2_ : Aside0 (w.heap.size ≤ gb141) := ⟨h2_⟩
               have n3_ : Aside0 (w.heap.size ≤ gb141) := ⟨h3_⟩
               have n4_ : Aside0 (gb129 ≠ gb141) := ⟨h4_⟩
               have n5_ : Aside0 (gb141 ≠ gb129) := ⟨h5_⟩
               have n6_ : Aside0 (Below w.heap.size w w39) := ⟨h6_⟩
               clear BK129
               clear HB
               clear h0_ h1_ h2_ h3_ h4_ h5_ h6_
               have BK129 := n0_
               have BK141 := n1_
               have GW141 := n2_
               have GE141 := n3_
               have NB129_141 := n4_
               have NB141_129 := n5_
               have HB := n6_
               clear n0_ n1_ n2_ n3_ n4_ n5_ n6_
               have hHeld : w39.cell? ⟨gb129, 0, none⟩ = some (.int .i64 a0_0) ∧ w39.cell? ⟨gb129, 1, none⟩ = some (.int .i64 a0_1) ∧ w39.cell? ⟨gb129, 2, none⟩ = some (.int .i64 a0_2) := hS_
               refine norm_ (a' := ?_) ?_ ?_
               rotate_left
               ·simp only [putAll, Act.put, s1_, s2_, s3_]
                rfl
               refine two_ (i := 10) (j := 17) (Ni := some 39) (Nj := some 8) #[T, T, T, T, T, T, T, T, T, T, T, T, T, F, T, F, T, F, F, F] #[T, T, T, T, T, T, T, T, T, T, F, T, T, F, T, F, T, T, F, F] rfl rfl rfl rfl (two_of HT_.out (by kernel_rfl)) (by decide) (by decide) (fun K hK => ?_) (fun K hK => ?_)
               ·skip
                refine goes_ Try.func24 (by kernel_rfl) rfl #[.int .i64 a0_1] (by rfl) rfl rfl gl_ ?_
                with_reducible refine (corncriblaw02_side.calls a0_1 t136 _ A9.out).mono ?_
                rintro e w' ⟨rfl, ⟨nd, rfl⟩⟩
                refine ⟨_, rfl, ?_⟩
                refine hK.out _ _ (c3_ BK129.out) (fun hHeld => ?_)
                clear hK K
                refine norm_ (a' := ?_) ?_ ?_
                rotate_left
                ·show Act.put _ (some 39) _ = _
                 simp only [Act.put, s1_, s2_, s3_, i64_w, i32_w]
                 rfl
                exact norm_ (by simp only [putAll, Act.put, s1_, s2_, s3_] <;> rfl) (hJ2_5_7_10_16 (gb141) _ ⟨hHeld, (peel_ BK129.out), (peel_ BK141.out), GW141.out, GE141.out, NB129_141.out, NB141_129.out, (bel_ HB.out)⟩)
               ·skip
                refine box_step ?hg (N := 8) ?hd (cs := #[.int .i64 0, .int .i64 0, .string (⟨#[]⟩ : ByteArray)]) (t := 24) ?hr ?_; (case hd => rfl); (case hg => rfl); (case hr => first | (go_simp; done) | (go_simp; rfl))
                intro gb142 hg w40 hbox hb
                have n0_ := Aside0.mk (bb_ BK129.out hb)
                have n1_ := Aside0.mk (bb_ BK141.out hb)
                have n2_ := Aside0.mk (below_step (bel_ HB.out) hb)
                have n3_ := Aside0.mk (hbox)
                have n4_ := Aside0.mk (bz_ hg (bel_ HB.out))
                have n5_ := Aside0.mk (bz_ hg (bel_ HB.out))
                have n6_ := Aside0.mk (nl_ hg BK129.out)
                have n7_ := Aside0.mk (ng_ hg BK129.out)
                have n8_ := Aside0.mk (nl_ hg BK141.out)
                have n9_ := Aside0.mk (ng_ hg BK141.out)
                clear BK129
                clear BK141
                clear HB
                have BK129 := n0_
                have BK141 := n1_
                have HB := n2_
                have BK142 := n3_
                have GW142 := n4_
                have GE142 := n5_
                have NB129_142 := n6_
                have NB142_129 := n7_
                have NB141_142 := n8_
                have NB142_141 := n9_
                clear n0_ n1_ n2_ n3_ n4_ n5_ n6_ n7_ n8_ n9_
                clear hb hbox hg
                refine hK.out _ _ (c3_ BK129.out) (fun hHeld => ?_)
                clear hK K
                refine norm_ (a' := ?_) ?_ ?_
                rotate_left
                ·show Act.put _ (some 8) _ = _
                 simp only [Act.put, s1_, s2_, s3_, i64_w, i32_w]
                 rfl
                exact norm_ (by simp only [putAll, Act.put, s1_, s2_, s3_] <;> rfl) (hJ2_5_7_16_17 (gb141, gb142) _ ⟨hHeld, (peel_ BK129.out), (peel_ BK141.out), (peel_ BK142.out), GW141.out, GE141.out, NB129_141.out, NB141_129.out, NB142_141.out, NB141_142.out, GW142.out, GE142.out, NB129_142.out, NB142_129.out, (bel_ HB.out)⟩)
             ·skip
              rintro _ w38 ⟨hS_, h0_, h1_⟩
              have n0_ : Aside0 (w38.heap[gb129]? = some (.cells #[.int .i64 a0_0, .int .i64 a0_1, .int .i64 a0_2] 39 (0, 0))) := ⟨h0_⟩
              have n1_ : Aside0 (Below w.heap.size w w38) := ⟨h1_⟩
              clear BK129
              clear HB
              clear h0_ h1_
              have BK129 := n0_
              have HB := n1_
              clear n0_ n1_
              have hHeld : w38.cell? ⟨gb129, 0, none⟩ = some (.int .i64 a0_0) ∧ w38.cell? ⟨gb129, 1, none⟩ = some (.int .i64 a0_1) ∧ w38.cell? ⟨gb129, 2, none⟩ = some (.int .i64 a0_2) := hS_
              refine norm_ (a' := ?_) ?_ ?_
              rotate_left
              ·simp only [putAll, Act.put, s1_, s2_, s3_]
               rfl
              refine three_ (i := 13) (j := 16) (k := 17) (Ni := some 42) (Nj := some 7) (Nk := some 8) #[T, T, T, T, T, T, T, T, T, T, T, T, T, T, T, F, F, F, F, F] #[T, T, T, T, T, T, T, T, T, T, T, T, T, F, T, F, T, F, F, F] #[T, T, T, T, T, T, T, T, T, T, T, T, T, F, T, F, F, T, F, F] rfl rfl rfl rfl rfl rfl (three_of HT_.out (by kernel_rfl)) (by decide) (by decide) (by decide) (fun K hK => ?_) (fun K hK => ?_) (fun K hK => ?_)
              ·skip
               refine goes_ Try.func24 (by kernel_rfl) rfl #[.int .i64 a0_2] (by rfl) rfl rfl gl_ ?_
               with_reducible refine (corncriblaw02_side.calls a0_2 t137 _ A10.out).mono ?_
               rintro e w' ⟨rfl, ⟨nd, rfl⟩⟩
               refine ⟨_, rfl, ?_⟩
               refine hK.out _ _ (c3_ BK129.out) (fun hHeld => ?_)
               clear hK K
               refine norm_ (a' := ?_) ?_ ?_
               rotate_left
               ·show Act.put _ (some 42) _ = _
                simp only [Act.put, s1_, s2_, s3_, i64_w, i32_w]
                rfl
               exact norm_ (by simp only [putAll, Act.put, s1_, s2_, s3_] <;> rfl) (hJ2_5_7_10_13 () _ ⟨hHeld, (peel_ BK129.out), (bel_ HB.out)⟩)
              ·skip
               refine box_step ?hg (N := 7) ?hd (cs := #[.int .i64 0, .int .i64 0, .string (⟨#[]⟩ : ByteArray)]) (t := 24) ?hr ?_; (case hd => rfl); (case hg => rfl); (case hr => first | (go_simp; done) | (go_simp; rfl))
               intro gb141 hg w39 hbox hb
               have n0_ := Aside0.mk (bb_ BK129.out hb)
               have n1_ := Aside0.mk (below_step (bel_ HB.out) hb)
               have n2_ := Aside0.mk (hbox)
               have n3_ := Aside0.mk (bz_ hg (bel_ HB.out))
               have n4_ := Aside0.mk (bz_ hg (bel_ HB.out))
               have n5_ := Aside0.mk (nl_ hg BK129.out)
               have n6_ := Aside0.mk (ng_ hg BK129.out)
               clear BK129
               clear HB
               have BK129 := n0_
               have HB := n1_
               have BK141 := n2_
               have GW141 := n3_
               have GE141 := n4_
               have NB129_141 := n5_
               have NB141_129 := n6_
               clear n0_ n1_ n2_ n3_ n4_ n5_ n6_
               clear hb hbox hg
               refine hK.out _ _ (c3_ BK129.out) (fun hHeld => ?_)
               clear hK K
               refine norm_ (a' := ?_) ?_ ?_
               rotate_left
               ·show Act.put _ (some 7) _ = _
                simp only [Act.put, s1_, s2_, s3_, i64_w, i32_w]
                rfl
               exact norm_ (by simp only [putAll, Act.put, s1_, s2_, s3_] <;> rfl) (hJ2_5_7_10_16 (gb141) _ ⟨hHeld, (peel_ BK129.out), (peel_ BK141.out), GW141.out, GE141.out, NB129_141.out, NB141_129.out, (bel_ HB.out)⟩)
              ·skip
               refine box_step ?hg (N := 8) ?hd (cs := #[.int .i64 0, .int .i64 0, .string (⟨#[]⟩ : ByteArray)]) (t := 24) ?hr ?_; (case hd => rfl); (case hg => rfl); (case hr => first | (go_simp; done) | (go_simp; rfl))
               intro gb142 hg w39 hbox hb
               have n0_ := Aside0.mk (bb_ BK129.out hb)
               have n1_ := Aside0.mk (below_step (bel_ HB.out) hb)
               have n2_ := Aside0.mk (hbox)
               have n3_ := Aside0.mk (bz_ hg (bel_ HB.out))
               have n4_ := Aside0.mk (bz_ hg (bel_ HB.out))
               have n5_ := Aside0.mk (nl_ hg BK129.out)
               have n6_ := Aside0.mk (ng_ hg BK129.out)
               clear BK129
               clear HB
               have BK129 := n0_
               have HB := n1_
               have BK142 := n2_
               have GW142 := n3_
               have GE142 := n4_
               have NB129_142 := n5_
               have NB142_129 := n6_
               clear n0_ n1_ n2_ n3_ n4_ n5_ n6_
               clear hb hbox hg
               refine hK.out _ _ (c3_ BK129.out) (fun hHeld => ?_)
               clear hK K
               refine norm_ (a' := ?_) ?_ ?_
               rotate_left
               ·show Act.put _ (some 8) _ = _
                simp only [Act.put, s1_, s2_, s3_, i64_w, i32_w]
                rfl
               exact norm_ (by simp only [putAll, Act.put, s1_, s2_, s3_] <;> rfl) (hJ2_5_7_10_17 (gb142) _ ⟨hHeld, (peel_ BK129.out), (peel_ BK142.out), GW142.out, GE142.out, NB129_142.out, NB142_129.out, (bel_ HB.out)⟩)
            ·skip
             rintro ⟨gb141, gb142⟩ w40 ⟨hS_, h0_, h1_, h2_, h3_, h4_, h5_, h6_, h7_, h8_, h9_, h10_, h11_, h12_, h13_⟩
             have n0_ : Aside0 (w40.heap[gb129]? = some (.cells #[.int .i64 a0_0, .int .i64 a0_1, .int .i64 a0_2] 39 (0, 0))) := ⟨h0_⟩
             have n1_ : Aside0 (w40.heap[gb141]? = some (.cells #[.int .i64 0, .int .i64 0, .string (⟨#[]⟩ : ByteArray)] 24 (0, 0))) := ⟨h1_⟩
             have n2_ : Aside0 (w40.heap[gb142]? = some (.cells #[.int .i64 0, .int .i64 0, .string (⟨#[]⟩ : ByteArray)] 24 (0, 0))) := ⟨h2_⟩
             have n3_ : Aside0 (w.heap.size ≤ gb141) := ⟨h3_⟩
             have n4_ : Aside0 (w.heap.size ≤ gb141) := ⟨h4_⟩
             have n5_ : Aside0 (gb129 ≠ gb141) := ⟨h5_⟩
             have n6_ : Aside0 (gb141 ≠ gb129) := ⟨h6_⟩
             have n7_ : Aside0 (gb142 ≠ gb141) := ⟨h7_⟩
             have n8_ : Aside0 (gb141 ≠ gb142) := ⟨h8_⟩
             have n9_ : Aside0 (w.heap.size ≤ gb142) := ⟨h9_⟩
             have n10_ : Aside0 (w.heap.size ≤ gb142) := ⟨h10_⟩
             have n11_ : Aside0 (gb129 ≠ gb142) := ⟨h11_⟩
             have n12_ : Aside0 (gb142 ≠ gb129) := ⟨h12_⟩
             have n13_ : Aside0 (Below w.heap.size w w40) := ⟨h13_⟩
             clear BK129
             clear HB
             clear h0_ h1_ h2_ h3_ h4_ h5_ h6_ h7_ h8_ h9_ h10_ h11_ h12_ h13_
             have BK129 := n0_
             have BK141 := n1_
             have BK142 := n2_
             have GW141 := n3_
             have GE141 := n4_
             have NB129_141 := n5_
             have NB141_129 := n6_
             have NB142_141 := n7_
             have NB141_142 := n8_
             have GW142 := n9_
             have GE142 := n10_
             have NB129_142 := n11_
             have NB142_129 := n12_
             have HB := n13_
             clear n0_ n1_ n2_ n3_ n4_ n5_ n6_ n7_ n8_ n9_ n10_ n11_ n12_ n13_
             have hHeld : w40.cell? ⟨gb129, 0, none⟩ = some (.int .i64 a0_0) ∧ w40.cell? ⟨gb129, 1, none⟩ = some (.int .i64 a0_1) ∧ w40.cell? ⟨gb129, 2, none⟩ = some (.int .i64 a0_2) := hS_
             refine norm_ (a' := ?_) ?_ ?_
             rotate_left
             ·simp only [putAll, Act.put, s1_, s2_, s3_]
              rfl
             refine one_ (i := 10) (N := some 39) #[T, T, T, T, T, T, T, T, T, T, T, T, T, F, T, F, T, T, F, F] rfl rfl (one_of HT_.out (by kernel_rfl)) (by decide) (fun K hK => ?_)
             refine goes_ Try.func24 (by kernel_rfl) rfl #[.int .i64 a0_1] (by rfl) rfl rfl gl_ ?_
             with_reducible refine (corncriblaw02_side.calls a0_1 t136 _ A9.out).mono ?_
             rintro e w' ⟨rfl, ⟨nd, rfl⟩⟩
             refine ⟨_, rfl, ?_⟩
             refine hK.out _ _ (c3_ BK129.out) (fun hHeld => ?_)
             clear hK K
             refine norm_ (a' := ?_) ?_ ?_
             rotate_left
             ·show Act.put _ (some 39) _ = _
              simp only [Act.put, s1_, s2_, s3_, i64_w, i32_w]
              rfl
             exact norm_ (by simp only [putAll, Act.put, s1_, s2_, s3_] <;> rfl) (hJ2_5_7_10_16_17 (gb141, gb142) _ ⟨hHeld, (peel_ BK129.out), (peel_ BK141.out), (peel_ BK142.out), GW141.out, GE141.out, NB129_141.out, NB141_129.out, NB142_141.out, NB141_142.out, GW142.out, GE142.out, NB129_142.out, NB142_129.out, (bel_ HB.out)⟩)
           ·skip
            rintro gb142 w39 ⟨hS_, h0_, h1_, h2_, h3_, h4_, h5_, h6_⟩
            have n0_ : Aside0 (w39.heap[gb129]? = some (.cells #[.int .i64 a0_0, .int .i64 a0_1, .int .i64 a0_2] 39 (0, 0))) := ⟨h0_⟩
            have n1_ : Aside0 (w39.heap[gb142]? = some (.cells #[.int .i64 0, .int .i64 0, .string (⟨#[]⟩ : ByteArray)] 24 (0, 0))) := ⟨h1_⟩
            have n2_ : Aside0 (w.heap.size ≤ gb142) := ⟨h2_⟩
            have n3_ : Aside0 (w.heap.size ≤ gb142) := ⟨h3_⟩
            have n4_ : Aside0 (gb129 ≠ gb142) := ⟨h4_⟩
            have n5_ : Aside0 (gb142 ≠ gb129) := ⟨h5_⟩
            have n6_ : Aside0 (Below w.heap.size w w39) := ⟨h6_⟩
            clear BK129
            clear HB
            clear h0_ h1_ h2_ h3_ h4_ h5_ h6_
            have BK129 := n0_
            have BK142 := n1_
            have GW142 := n2_
            have GE142 := n3_
            have NB129_142 := n4_
            have NB142_129 := n5_
            have HB := n6_
            clear n0_ n1_ n2_ n3_ n4_ n5_ n6_
            have hHeld : w39.cell? ⟨gb129, 0, none⟩ = some (.int .i64 a0_0) ∧ w39.cell? ⟨gb129, 1, none⟩ = some (.int .i64 a0_1) ∧ w39.cell? ⟨gb129, 2, none⟩ = some (.int .i64 a0_2) := hS_
            refine norm_ (a' := ?_) ?_ ?_
            rotate_left
            ·simp only [putAll, Act.put, s1_, s2_, s3_]
             rfl
            refine two_ (i := 13) (j := 16) (Ni := some 42) (Nj := some 7) #[T, T, T, T, T, T, T, T, T, T, T, T, T, T, T, F, F, T, F, F] #[T, T, T, T, T, T, T, T, T, T, T, T, T, F, T, F, T, T, F, F] rfl rfl rfl rfl (two_of HT_.out (by kernel_rfl)) (by decide) (by decide) (fun K hK => ?_) (fun K hK => ?_)
            ·skip
             refine goes_ Try.func24 (by kernel_rfl) rfl #[.int .i64 a0_2] (by rfl) rfl rfl gl_ ?_
             with_reducible refine (corncriblaw02_side.calls a0_2 t137 _ A10.out).mono ?_
             rintro e w' ⟨rfl, ⟨nd, rfl⟩⟩
             refine ⟨_, rfl, ?_⟩
             refine hK.out _ _ (c3_ BK129.out) (fun hHeld => ?_)
             clear hK K
             refine norm_ (a' := ?_) ?_ ?_
             rotate_left
             ·show Act.put _ (some 42) _ = _
              simp only [Act.put, s1_, s2_, s3_, i64_w, i32_w]
              rfl
             exact norm_ (by simp only [putAll, Act.put, s1_, s2_, s3_] <;> rfl) (hJ2_5_7_10_13_17 (gb142) _ ⟨hHeld, (peel_ BK129.out), (peel_ BK142.out), GW142.out, GE142.out, NB129_142.out, NB142_129.out, (bel_ HB.out)⟩)
            ·skip
             refine box_step ?hg (N := 7) ?hd (cs := #[.int .i64 0, .int .i64 0, .string (⟨#[]⟩ : ByteArray)]) (t := 24) ?hr ?_; (case hd => rfl); (case hg => rfl); (case hr => first | (go_simp; done) | (go_simp; rfl))
             intro gb141 hg w40 hbox hb
             have n0_ := Aside0.mk (bb_ BK129.out hb)
             have n1_ := Aside0.mk (bb_ BK142.out hb)
             have n2_ := Aside0.mk (below_step (bel_ HB.out) hb)
             have n3_ := Aside0.mk (hbox)
             have n4_ := Aside0.mk (bz_ hg (bel_ HB.out))
             have n5_ := Aside0.mk (bz_ hg (bel_ HB.out))
             have n6_ := Aside0.mk (nl_ hg BK129.out)
             have n7_ := Aside0.mk (ng_ hg BK129.out)
             have n8_ := Aside0.mk (nl_ hg BK142.out)
             have n9_ := Aside0.mk (ng_ hg BK142.out)
             clear BK129
             clear BK142
             clear HB
             have BK129 := n0_
             have BK142 := n1_
             have HB := n2_
             have BK141 := n3_
             have GW141 := n4_
             have GE141 := n5_
             have NB129_141 := n6_
             have NB141_129 := n7_
             have NB142_141 := n8_
             have NB141_142 := n9_
             clear n0_ n1_ n2_ n3_ n4_ n5_ n6_ n7_ n8_ n9_
             clear hb hbox hg
             refine hK.out _ _ (c3_ BK129.out) (fun hHeld => ?_)
             clear hK K
             refine norm_ (a' := ?_) ?_ ?_
             rotate_left
             ·show Act.put _ (some 7) _ = _
              simp only [Act.put, s1_, s2_, s3_, i64_w, i32_w]
              rfl
             exact norm_ (by simp only [putAll, Act.put, s1_, s2_, s3_] <;> rfl) (hJ2_5_7_10_16_17 (gb141, gb142) _ ⟨hHeld, (peel_ BK129.out), (peel_ BK141.out), (peel_ BK142.out), GW141.out, GE141.out, NB129_141.out, NB141_129.out, NB142_141.out, NB141_142.out, GW142.out, GE142.out, NB129_142.out, NB142_129.out, (bel_ HB.out)⟩)
          ·skip
           rintro gb141 w39 ⟨hS_, h0_, h1_, h2_, h3_, h4_, h5_, h6_⟩
           have n0_ : Aside0 (w39.heap[gb129]? = some (.cells #[.int .i64 a0_0, .int .i64 a0_1, .int .i64 a0_2] 39 (0, 0))) := ⟨h0_⟩
           have n1_ : Aside0 (w39.heap[gb141]? = some (.cells #[.int .i64 0, .int .i64 0, .string (⟨#[]⟩ : ByteArray)] 24 (0, 0))) := ⟨h1_⟩
           have n2_ : Aside0 (w.heap.size ≤ gb141) := ⟨h2_⟩
           have n3_ : Aside0 (w.heap.size ≤ gb141) := ⟨h3_⟩
           have n4_ : Aside0 (gb129 ≠ gb141) := ⟨h4_⟩
           have n5_ : Aside0 (gb141 ≠ gb129) := ⟨h5_⟩
           have n6_ : Aside0 (Below w.heap.size w w39) := ⟨h6_⟩
           clear BK129
           clear HB
           clear h0_ h1_ h2_ h3_ h4_ h5_ h6_
           have BK129 := n0_
           have BK141 := n1_
           have GW141 := n2_
           have GE141 := n3_
           have NB129_141 := n4_
           have NB141_129 := n5_
           have HB := n6_
           clear n0_ n1_ n2_ n3_ n4_ n5_ n6_
           have hHeld : w39.cell? ⟨gb129, 0, none⟩ = some (.int .i64 a0_0) ∧ w39.cell? ⟨gb129, 1, none⟩ = some (.int .i64 a0_1) ∧ w39.cell? ⟨gb129, 2, none⟩ = some (.int .i64 a0_2) := hS_
           refine norm_ (a' := ?_) ?_ ?_
           rotate_left
           ·simp only [putAll, Act.put, s1_, s2_, s3_]
            rfl
           refine two_ (i := 13) (j := 17) (Ni := some 42) (Nj := some 8) #[T, T, T, T, T, T, T, T, T, T, T, T, T, T, T, F, T, F, F, F] #[T, T, T, T, T, T, T, T, T, T, T, T, T, F, T, F, T, T, F, F] rfl rfl rfl rfl (two_of HT_.out (by kernel_rfl)) (by decide) (by decide) (fun K hK => ?_) (fun K hK => ?_)
           ·skip
            refine goes_ Try.func24 (by kernel_rfl) rfl #[.int .i64 a0_2] (by rfl) rfl rfl gl_ ?_
            with_reducible refine (corncriblaw02_side.calls a0_2 t137 _ A10.out).mono ?_
            rintro e w' ⟨rfl, ⟨nd, rfl⟩⟩
            refine ⟨_, rfl, ?_⟩
            refine hK.out _ _ (c3_ BK129.out) (fun hHeld => ?_)
            clear hK K
            refine norm_ (a' := ?_) ?_ ?_
            rotate_left
            ·show Act.put _ (some 42) _ = _
             simp only [Act.put, s1_, s2_, s3_, i64_w, i32_w]
             rfl
            exact norm_ (by simp only [putAll, Act.put, s1_, s2_, s3_] <;> rfl) (hJ2_5_7_10_13_16 (gb141) _ ⟨hHeld, (peel_ BK129.out), (peel_ BK141.out), GW141.out, GE141.out, NB129_141.out, NB141_129.out, (bel_ HB.out)⟩)
           ·skip
            refine box_step ?hg (N := 8) ?hd (cs := #[.int .i64 0, .int .i64 0, .string (⟨#[]⟩ : ByteArray)]) (t := 24) ?hr ?_; (case hd => rfl); (case hg => rfl); (case hr => first | (go_simp; done) | (go_simp; rfl))
            intro gb142 hg w40 hbox hb
            have n0_ := Aside0.mk (bb_ BK129.out hb)
            have n1_ := Aside0.mk (bb_ BK141.out hb)
            have n2_ := Aside0.mk (below_step (bel_ HB.out) hb)
            have n3_ := Aside0.mk (hbox)
            have n4_ := Aside0.mk (bz_ hg (bel_ HB.out))
            have n5_ := Aside0.mk (bz_ hg (bel_ HB.out))
            have n6_ := Aside0.mk (nl_ hg BK129.out)
            have n7_ := Aside0.mk (ng_ hg BK129.out)
            have n8_ := Aside0.mk (nl_ hg BK141.out)
            have n9_ := Aside0.mk (ng_ hg BK141.out)
            clear BK129
            clear BK141
            clear HB
            have BK129 := n0_
            have BK141 := n1_
            have HB := n2_
            have BK142 := n3_
            have GW142 := n4_
            have GE142 := n5_
            have NB129_142 := n6_
            have NB142_129 := n7_
            have NB141_142 := n8_
            have NB142_141 := n9_
            clear n0_ n1_ n2_ n3_ n4_ n5_ n6_ n7_ n8_ n9_
            clear hb hbox hg
            refine hK.out _ _ (c3_ BK129.out) (fun hHeld => ?_)
            clear hK K
            refine norm_ (a' := ?_) ?_ ?_
            rotate_left
            ·show Act.put _ (some 8) _ = _
             simp only [Act.put, s1_, s2_, s3_, i64_w, i32_w]
             rfl
            exact norm_ (by simp only [putAll, Act.put, s1_, s2_, s3_] <;> rfl) (hJ2_5_7_10_16_17 (gb141, gb142) _ ⟨hHeld, (peel_ BK129.out), (peel_ BK141.out), (peel_ BK142.out), GW141.out, GE141.out, NB129_141.out, NB141_129.out, NB142_141.out, NB141_142.out, GW142.out, GE142.out, NB129_142.out, NB142_129.out, (bel_ HB.out)⟩)
         ·skip
          rintro _ w38 ⟨hS_, h0_, h1_⟩
          have n0_ : Aside0 (w38.heap[gb129]? = some (.cells #[.int .i64 a0_0, .int .i64 a0_1, .int .i64 a0_2] 39 (0, 0))) := ⟨h0_⟩
          have n1_ : Aside0 (Below w.heap.size w w38) := ⟨h1_⟩
          clear BK129
          clear HB
          clear h0_ h1_
          have BK129 := n0_
          have HB := n1_
          clear n0_ n1_
          have hHeld : w38.cell? ⟨gb129, 0, none⟩ = some (.int .i64 a0_0) ∧ w38.cell? ⟨gb129, 1, none⟩ = some (.int .i64 a0_1) ∧ w38.cell? ⟨gb129, 2, none⟩ = some (.int .i64 a0_2) := hS_
          refine norm_ (a' := ?_) ?_ ?_
          rotate_left
          ·simp only [putAll, Act.put, s1_, s2_, s3_]
           rfl
          refine three_ (i := 15) (j := 16) (k := 17) (Ni := some 44) (Nj := some 7) (Nk := some 8) #[T, T, T, T, T, T, T, T, T, T, T, T, T, T, T, T, F, F, F, F] #[T, T, T, T, T, T, T, T, T, T, T, T, T, T, T, F, T, F, F, F] #[T, T, T, T, T, T, T, T, T, T, T, T, T, T, T, F, F, T, F, F] rfl rfl rfl rfl rfl rfl (three_of HT_.out (by kernel_rfl)) (by decide) (by decide) (by decide) (fun K hK => ?_) (fun K hK => ?_) (fun K hK => ?_)
          ·skip
           refine goes_ Try.func23 (by kernel_rfl) rfl #[.int .i64 t136, .int .i64 t137, .string a2] (by rfl) rfl rfl gl_ ?_
           with_reducible refine (corncriblaw02_made.calls t136 t137 a2 t138 t139 t140 _ A11.out).mono ?_
           rintro e w39 ⟨rfl, hb⟩
           refine ⟨_, rfl, ?_⟩
           have n0_ := Aside0.mk (bb_ BK129.out hb)
           have n1_ := Aside0.mk (below_step (bel_ HB.out) hb)
           clear BK129
           clear HB
           have BK129 := n0_
           have HB := n1_
           clear n0_ n1_
           (try clear hb)
           (try clear hb2)
           (try clear hk)
           (try clear hi)
           refine hK.out _ _ (c3_ BK129.out) (fun hHeld => ?_)
           clear hK K
           refine norm_ (a' := ?_) ?_ ?_
           rotate_left
           ·show Act.put _ (some 44) _ = _
            simp only [Act.put, s1_, s2_, s3_, i64_w, i32_w]
            rfl
           exact norm_ (by simp only [putAll, Act.put, s1_, s2_, s3_] <;> rfl) (hJ2_5_7_10_13_15 () _ ⟨hHeld, (peel_ BK129.out), (bel_ HB.out)⟩)
          ·skip
           refine box_step ?hg (N := 7) ?hd (cs := #[.int .i64 0, .int .i64 0, .string (⟨#[]⟩ : ByteArray)]) (t := 24) ?hr ?_; (case hd => rfl); (case hg => rfl); (case hr => first | (go_simp; done) | (go_simp; rfl))
           intro gb141 hg w39 hbox hb
           have n0_ := Aside0.mk (bb_ BK129.out hb)
           have n1_ := Aside0.mk (below_step (bel_ HB.out) hb)
           have n2_ := Aside0.mk (hbox)
           have n3_ := Aside0.mk (bz_ hg (bel_ HB.out))
           have n4_ := Aside0.mk (bz_ hg (bel_ HB.out))
           have n5_ := Aside0.mk (nl_ hg BK129.out)
           have n6_ := Aside0.mk (ng_ hg BK129.out)
           clear BK129
           clear HB
           have BK129 := n0_
           have HB := n1_
           have BK141 := n2_
           have GW141 := n3_
           have GE141 := n4_
           have NB129_141 := n5_
           have NB141_129 := n6_
           clear n0_ n1_ n2_ n3_ n4_ n5_ n6_
           clear hb hbox hg
           refine hK.out _ _ (c3_ BK129.out) (fun hHeld => ?_)
           clear hK K
           refine norm_ (a' := ?_) ?_ ?_
           rotate_left
           ·show Act.put _ (some 7) _ = _
            simp only [Act.put, s1_, s2_, s3_, i64_w, i32_w]
            rfl
           exact norm_ (by simp only [putAll, Act.put, s1_, s2_, s3_] <;> rfl) (hJ2_5_7_10_13_16 (gb141) _ ⟨hHeld, (peel_ BK129.out), (peel_ BK141.out), GW141.out, GE141.out, NB129_141.out, NB141_129.out, (bel_ HB.out)⟩)
          ·skip
           refine box_step ?hg (N := 8) ?hd (cs := #[.int .i64 0, .int .i64 0, .string (⟨#[]⟩ : ByteArray)]) (t := 24) ?hr ?_; (case hd => rfl); (case hg => rfl); (case hr => first | (go_simp; done) | (go_simp; rfl))
           intro gb142 hg w39 hbox hb
           have n0_ := Aside0.mk (bb_ BK129.out hb)
           have n1_ := Aside0.mk (below_step (bel_ HB.out) hb)
           have n2_ := Aside0.mk (hbox)
           have n3_ := Aside0.mk (bz_ hg (bel_ HB.out))
           have n4_ := Aside0.mk (bz_ hg (bel_ HB.out))
           have n5_ := Aside0.mk (nl_ hg BK129.out)
           have n6_ := Aside0.mk (ng_ hg BK129.out)
           clear BK129
           clear HB
           have BK129 := n0_
           have HB := n1_
           have BK142 := n2_
           have GW142 := n3_
           have GE142 := n4_
           have NB129_142 := n5_
           have NB142_129 := n6_
           clear n0_ n1_ n2_ n3_ n4_ n5_ n6_
           clear hb hbox hg
           refine hK.out _ _ (c3_ BK129.out) (fun hHeld => ?_)
           clear hK K
           refine norm_ (a' := ?_) ?_ ?_
           rotate_left
           ·show Act.put _ (some 8) _ = _
            simp only [Act.put, s1_, s2_, s3_, i64_w, i32_w]
            rfl
           exact norm_ (by simp only [putAll, Act.put, s1_, s2_, s3_] <;> rfl) (hJ2_5_7_10_13_17 (gb142) _ ⟨hHeld, (peel_ BK129.out), (peel_ BK142.out), GW142.out, GE142.out, NB129_142.out, NB142_129.out, (bel_ HB.out)⟩)
        ·skip
         rintro ⟨gb141, gb142⟩ w40 ⟨hS_, h0_, h1_, h2_, h3_, h4_, h5_, h6_, h7_, h8_, h9_, h10_, h11_, h12_, h13_⟩
         have n0_ : Aside0 (w40.heap[gb129]? = some (.cells #[.int .i64 a0_0, .int .i64 a0_1, .int .i64 a0_2] 39 (0, 0))) := ⟨h0_⟩
         have n1_ : Aside0 (w40.heap[gb141]? = some (.cells #[.int .i64 0, .int .i64 0, .string (⟨#[]⟩ : ByteArray)] 24 (0, 0))) := ⟨h1_⟩
         have n2_ : Aside0 (w40.heap[gb142]? = some (.cells #[.int .i64 0, .int .i64 0, .string (⟨#[]⟩ : ByteArray)] 24 (0, 0))) := ⟨h2_⟩
         have n3_ : Aside0 (w.heap.size ≤ gb141) := ⟨h3_⟩
         have n4_ : Aside0 (w.heap.size ≤ gb141) := ⟨h4_⟩
         have n5_ : Aside0 (gb129 ≠ gb141) := ⟨h5_⟩
         have n6_ : Aside0 (gb141 ≠ gb129) := ⟨h6_⟩
         have n7_ : Aside0 (gb142 ≠ gb141) := ⟨h7_⟩
         have n8_ : Aside0 (gb141 ≠ gb142) := ⟨h8_⟩
         have n9_ : Aside0 (w.heap.size ≤ gb142) := ⟨h9_⟩
         have n10_ : Aside0 (w.heap.size ≤ gb142) := ⟨h10_⟩
         have n11_ : Aside0 (gb129 ≠ gb142) := ⟨h11_⟩
         have n12_ : Aside0 (gb142 ≠ gb129) := ⟨h12_⟩
         have n13_ : Aside0 (Below w.heap.size w w40) := ⟨h13_⟩
         clear BK129
         clear HB
         clear h0_ h1_ h2_ h3_ h4_ h5_ h6_ h7_ h8_ h9_ h10_ h11_ h12_ h13_
         have BK129 := n0_
         have BK141 := n1_
         have BK142 := n2_
         have GW141 := n3_
         have GE141 := n4_
         have NB129_141 := n5_
         have NB141_129 := n6_
         have NB142_141 := n7_
         have NB141_142 := n8_
         have GW142 := n9_
         have GE142 := n10_
         have NB129_142 := n11_
         have NB142_129 := n12_
         have HB := n13_
         clear n0_ n1_ n2_ n3_ n4_ n5_ n6_ n7_ n8_ n9_ n10_ n11_ n12_ n13_
         have hHeld : w40.cell? ⟨gb129, 0, none⟩ = some (.int .i64 a0_0) ∧ w40.cell? ⟨gb129, 1, none⟩ = some (.int .i64 a0_1) ∧ w40.cell? ⟨gb129, 2, none⟩ = some (.int .i64 a0_2) := hS_
         refine norm_ (a' := ?_) ?_ ?_
         rotate_left
         ·simp only [putAll, Act.put, s1_, s2_, s3_]
          rfl
         refine one_ (i := 13) (N := some 42) #[T, T, T, T, T, T, T, T, T, T, T, T, T, T, T, F, T, T, F, F] rfl rfl (one_of HT_.out (by kernel_rfl)) (by decide) (fun K hK => ?_)
         refine goes_ Try.func24 (by kernel_rfl) rfl #[.int .i64 a0_2] (by rfl) rfl rfl gl_ ?_
         with_reducible refine (corncriblaw02_side.calls a0_2 t137 _ A10.out).mono ?_
         rintro e w' ⟨rfl, ⟨nd, rfl⟩⟩
         refine ⟨_, rfl, ?_⟩
         refine hK.out _ _ (c3_ BK129.out) (fun hHeld => ?_)
         clear hK K
         refine norm_ (a' := ?_) ?_ ?_
         rotate_left
         ·show Act.put _ (some 42) _ = _
          simp only [Act.put, s1_, s2_, s3_, i64_w, i32_w]
          rfl
         exact norm_ (by simp only [putAll, Act.put, s1_, s2_, s3_] <;> rfl) (hJ2_5_7_10_13_16_17 (gb141, gb142) _ ⟨hHeld, (peel_ BK129.out), (peel_ BK141.out), (peel_ BK142.out), GW141.out, GE141.out, NB129_141.out, NB141_129.out, NB142_141.out, NB141_142.out, GW142.out, GE142.out, NB129_142.out, NB142_129.out, (bel_ HB.out)⟩)
       ·skip
        rintro gb142 w39 ⟨hS_, h0_, h1_, h2_, h3_, h4_, h5_, h6_⟩
        have n0_ : Aside0 (w39.heap[gb129]? = some (.cells #[.int .i64 a0_0, .int .i64 a0_1, .int .i64 a0_2] 39 (0, 0))) := ⟨h0_⟩
        have n1_ : Aside0 (w39.heap[gb142]? = some (.cells #[.int .i64 0, .int .i64 0, .string (⟨#[]⟩ : ByteArray)] 24 (0, 0))) := ⟨h1_⟩
        have n2_ : Aside0 (w.heap.size ≤ gb142) := ⟨h2_⟩
        have n3_ : Aside0 (w.heap.size ≤ gb142) := ⟨h3_⟩
        have n4_ : Aside0 (gb129 ≠ gb142) := ⟨h4_⟩
        have n5_ : Aside0 (gb142 ≠ gb129) := ⟨h5_⟩
        have n6_ : Aside0 (Below w.heap.size w w39) := ⟨h6_⟩
        clear BK129
        clear HB
        clear h0_ h1_ h2_ h3_ h4_ h5_ h6_
        have BK129 := n0_
        have BK142 := n1_
        have GW142 := n2_
        have GE142 := n3_
        have NB129_142 := n4_
        have NB142_129 := n5_
        have HB := n6_
        clear n0_ n1_ n2_ n3_ n4_ n5_ n6_
        have hHeld : w39.cell? ⟨gb129, 0, none⟩ = some (.int .i64 a0_0) ∧ w39.cell? ⟨gb129, 1, none⟩ = some (.int .i64 a0_1) ∧ w39.cell? ⟨gb129, 2, none⟩ = some (.int .i64 a0_2) := hS_
        refine norm_ (a' := ?_) ?_ ?_
        rotate_left
        ·simp only [putAll, Act.put, s1_, s2_, s3_]
         rfl
        refine two_ (i := 15) (j := 16) (Ni := some 44) (Nj := some 7) #[T, T, T, T, T, T, T, T, T, T, T, T, T, T, T, T, F, T, F, F] #[T, T, T, T, T, T, T, T, T, T, T, T, T, T, T, F, T, T, F, F] rfl rfl rfl rfl (two_of HT_.out (by kernel_rfl)) (by decide) (by decide) (fun K hK => ?_) (fun K hK => ?_)
        ·skip
         refine goes_ Try.func23 (by kernel_rfl) rfl #[.int .i64 t136, .int .i64 t137, .string a2] (by rfl) rfl rfl gl_ ?_
         with_reducible refine (corncriblaw02_made.calls t136 t137 a2 t138 t139 t140 _ A11.out).mono ?_
         rintro e w40 ⟨rfl, hb⟩
         refine ⟨_, rfl, ?_⟩
         have n0_ := Aside0.mk (bb_ BK129.out hb)
         have n1_ := Aside0.mk (bb_ BK142.out hb)
         have n2_ := Aside0.mk (below_step (bel_ HB.out) hb)
         clear BK129
         clear BK142
         clear HB
         have BK129 := n0_
         have BK142 := n1_
         have HB := n2_
         clear n0_ n1_ n2_
         (try clear hb)
         (try clear hb2)
         (try clear hk)
         (try clear hi)
         refine hK.out _ _ (c3_ BK129.out) (fun hHeld => ?_)
         clear hK K
         refine norm_ (a' := ?_) ?_ ?_
         rotate_left
         ·show Act.put _ (some 44) _ = _
          simp only [Act.put, s1_, s2_, s3_, i64_w, i32_w]
          rfl
         exact norm_ (by simp only [putAll, Act.put, s1_, s2_, s3_] <;> rfl) (hJ2_5_7_10_13_15_17 (gb142) _ ⟨hHeld, (peel_ BK129.out), (peel_ BK142.out), GW142.out, GE142.out, NB129_142.out, NB142_129.out, (bel_ HB.out)⟩)
        ·skip
         refine box_step ?hg (N := 7) ?hd (cs := #[.int .i64 0, .int .i64 0, .string (⟨#[]⟩ : ByteArray)]) (t := 24) ?hr ?_; (case hd => rfl); (case hg => rfl); (case hr => first | (go_simp; done) | (go_simp; rfl))
         intro gb141 hg w40 hbox hb
         have n0_ := Aside0.mk (bb_ BK129.out hb)
         have n1_ := Aside0.mk (bb_ BK142.out hb)
         have n2_ := Aside0.mk (below_step (bel_ HB.out) hb)
         have n3_ := Aside0.mk (hbox)
         have n4_ := Aside0.mk (bz_ hg (bel_ HB.out))
         have n5_ := Aside0.mk (bz_ hg (bel_ HB.out))
         have n6_ := Aside0.mk (nl_ hg BK129.out)
         have n7_ := Aside0.mk (ng_ hg BK129.out)
         have n8_ := Aside0.mk (nl_ hg BK142.out)
         have n9_ := Aside0.mk (ng_ hg BK142.out)
         clear BK129
         clear BK142
         clear HB
         have BK129 := n0_
         have BK142 := n1_
         have HB := n2_
         have BK141 := n3_
         have GW141 := n4_
         have GE141 := n5_
         have NB129_141 := n6_
         have NB141_129 := n7_
         have NB142_141 := n8_
         have NB141_142 := n9_
         clear n0_ n1_ n2_ n3_ n4_ n5_ n6_ n7_ n8_ n9_
         clear hb hbox hg
         refine hK.out _ _ (c3_ BK129.out) (fun hHeld => ?_)
         clear hK K
         refine norm_ (a' := ?_) ?_ ?_
         rotate_left
         ·show Act.put _ (some 7) _ = _
          simp only [Act.put, s1_, s2_, s3_, i64_w, i32_w]
          rfl
         exact norm_ (by simp only [putAll, Act.put, s1_, s2_, s3_] <;> rfl) (hJ2_5_7_10_13_16_17 (gb141, gb142) _ ⟨hHeld, (peel_ BK129.out), (peel_ BK141.out), (peel_ BK142.out), GW141.out, GE141.out, NB129_141.out, NB141_129.out, NB142_141.out, NB141_142.out, GW142.out, GE142.out, NB129_142.out, NB142_129.out, (bel_ HB.out)⟩)
      ·skip
       rintro gb141 w39 ⟨hS_, h0_, h1_, h2_, h3_, h4_, h5_, h6_⟩
       have n0_ : Aside0 (w39.heap[gb129]? = some (.cells #[.int .i64 a0_0, .int .i64 a0_1, .int .i64 a0_2] 39 (0, 0))) := ⟨h0_⟩
       have n1_ : Aside0 (w39.heap[gb141]? = some (.cells #[.int .i64 0, .int .i64 0, .string (⟨#[]⟩ : ByteArray)] 24 (0, 0))) := ⟨h1_⟩
       have n2_ : Aside0 (w.heap.size ≤ gb141) := ⟨h2_⟩
       have n3_ : Aside0 (w.heap.size ≤ gb141) := ⟨h3_⟩
       have n4_ : Aside0 (gb129 ≠ gb141) := ⟨h4_⟩
       have n5_ : Aside0 (gb141 ≠ gb129) := ⟨h5_⟩
       have n6_ : Aside0 (Below w.heap.size w w39) := ⟨h6_⟩
       clear BK129
       clear HB
       clear h0_ h1_ h2_ h3_ h4_ h5_ h6_
       have BK129 := n0_
       have BK141 := n1_
       have GW141 := n2_
       have GE141 := n3_
       have NB129_141 := n4_
       have NB141_129 := n5_
       have HB := n6_
       clear n0_ n1_ n2_ n3_ n4_ n5_ n6_
       have hHeld : w39.cell? ⟨gb129, 0, none⟩ = some (.int .i64 a0_0) ∧ w39.cell? ⟨gb129, 1, none⟩ = some (.int .i64 a0_1) ∧ w39.cell? ⟨gb129, 2, none⟩ = some (.int .i64 a0_2) := hS_
       refine norm_ (a' := ?_) ?_ ?_
       rotate_left
       ·simp only [putAll, Act.put, s1_, s2_, s3_]
        rfl
       refine two_ (i := 15) (j := 17) (Ni := some 44) (Nj := some 8) #[T, T, T, T, T, T, T, T, T, T, T, T, T, T, T, T, T, F, F, F] #[T, T, T, T, T, T, T, T, T, T, T, T, T, T, T, F, T, T, F, F] rfl rfl rfl rfl (two_of HT_.out (by kernel_rfl)) (by decide) (by decide) (fun K hK => ?_) (fun K hK => ?_)
       ·skip
        refine goes_ Try.func23 (by kernel_rfl) rfl #[.int .i64 t136, .int .i64 t137, .string a2] (by rfl) rfl rfl gl_ ?_
        with_reducible refine (corncriblaw02_made.calls t136 t137 a2 t138 t139 t140 _ A11.out).mono ?_
        rintro e w40 ⟨rfl, hb⟩
        refine ⟨_, rfl, ?_⟩
        have n0_ := Aside0.mk (bb_ BK129.out hb)
        have n1_ := Aside0.mk (bb_ BK141.out hb)
        have n2_ := Aside0.mk (below_step (bel_ HB.out) hb)
        clear BK129
        clear BK141
        clear HB
        have BK129 := n0_
        have BK141 := n1_
        have HB := n2_
        clear n0_ n1_ n2_
        (try clear hb)
        (try clear hb2)
        (try clear hk)
        (try clear hi)
        refine hK.out _ _ (c3_ BK129.out) (fun hHeld => ?_)
        clear hK K
        refine norm_ (a' := ?_) ?_ ?_
        rotate_left
        ·show Act.put _ (some 44) _ = _
         simp only [Act.put, s1_, s2_, s3_, i64_w, i32_w]
         rfl
        exact norm_ (by simp only [putAll, Act.put, s1_, s2_, s3_] <;> rfl) (hJ2_5_7_10_13_15_16 (gb141) _ ⟨hHeld, (peel_ BK129.out), (peel_ BK141.out), GW141.out, GE141.out, NB129_141.out, NB141_129.out, (bel_ HB.out)⟩)
       ·skip
        refine box_step ?hg (N := 8) ?hd (cs := #[.int .i64 0, .int .i64 0, .string (⟨#[]⟩ : ByteArray)]) (t := 24) ?hr ?_; (case hd => rfl); (case hg => rfl); (case hr => first | (go_simp; done) | (go_simp; rfl))
        intro gb142 hg w40 hbox hb
        have n0_ := Aside0.mk (bb_ BK129.out hb)
        have n1_ := Aside0.mk (bb_ BK141.out hb)
        have n2_ := Aside0.mk (below_step (bel_ HB.out) hb)
        have n3_ := Aside0.mk (hbox)
        have n4_ := Aside0.mk (bz_ hg (bel_ HB.out))
        have n5_ := Aside0.mk (bz_ hg (bel_ HB.out))
        have n6_ := Aside0.mk (nl_ hg BK129.out)
        have n7_ := Aside0.mk (ng_ hg BK129.out)
        have n8_ := Aside0.mk (nl_ hg BK141.out)
        have n9_ := Aside0.mk (ng_ hg BK141.out)
        clear BK129
        clear BK141
        clear HB
        have BK129 := n0_
        have BK141 := n1_
        have HB := n2_
        have BK142 := n3_
        have GW142 := n4_
        have GE142 := n5_
        have NB129_142 := n6_
        have NB142_129 := n7_
        have NB141_142 := n8_
        have NB142_141 := n9_
        clear n0_ n1_ n2_ n3_ n4_ n5_ n6_ n7_ n8_ n9_
        clear hb hbox hg
        refine hK.out _ _ (c3_ BK129.out) (fun hHeld => ?_)
        clear hK K
        refine norm_ (a' := ?_) ?_ ?_
        rotate_left
        ·show Act.put _ (some 8) _ = _
         simp only [Act.put, s1_, s2_, s3_, i64_w, i32_w]
         rfl
        exact norm_ (by simp only [putAll, Act.put, s1_, s2_, s3_] <;> rfl) (hJ2_5_7_10_13_16_17 (gb141, gb142) _ ⟨hHeld, (peel_ BK129.out), (peel_ BK141.out), (peel_ BK142.out), GW141.out, GE141.out, NB129_141.out, NB141_129.out, NB142_141.out, NB141_142.out, GW142.out, GE142.out, NB129_142.out, NB142_129.out, (bel_ HB.out)⟩)
     ·skip
      rintro _ w39 ⟨hS_, h0_, h1_⟩
      have n0_ : Aside0 (w39.heap[gb129]? = some (.cells #[.int .i64 a0_0, .int .i64 a0_1, .int .i64 a0_2] 39 (0, 0))) := ⟨h0_⟩
      have n1_ : Aside0 (Below w.heap.size w w39) := ⟨h1_⟩
      clear BK129
      clear HB
      clear h0_ h1_
      have BK129 := n0_
      have HB := n1_
      clear n0_ n1_
      have hHeld : w39.cell? ⟨gb129, 0, none⟩ = some (.int .i64 a0_0) ∧ w39.cell? ⟨gb129, 1, none⟩ = some (.int .i64 a0_1) ∧ w39.cell? ⟨gb129, 2, none⟩ = some (.int .i64 a0_2) := hS_
      refine norm_ (a' := ?_) ?_ ?_
      rotate_left
      ·simp only [putAll, Act.put, s1_, s2_, s3_]
       rfl
      refine two_ (i := 16) (j := 17) (Ni := some 7) (Nj := some 8) #[T, T, T, T, T, T, T, T, T, T, T, T, T, T, T, T, T, F, F, F] #[T, T, T, T, T, T, T, T, T, T, T, T, T, T, T, T, F, T, F, F] rfl rfl rfl rfl (two_of HT_.out (by kernel_rfl)) (by decide) (by decide) (fun K hK => ?_) (fun K hK => ?_)
      ·skip
       refine box_step ?hg (N := 7) ?hd (cs := #[.int .i64 0, .int .i64 0, .string (⟨#[]⟩ : ByteArray)]) (t := 24) ?hr ?_; (case hd => rfl); (case hg => rfl); (case hr => first | (go_simp; done) | (go_simp; rfl))
       intro gb141 hg w40 hbox hb
       have n0_ := Aside0.mk (bb_ BK129.out hb)
       have n1_ := Aside0.mk (below_step (bel_ HB.out) hb)
       have n2_ := Aside0.mk (hbox)
       have n3_ := Aside0.mk (bz_ hg (bel_ HB.out))
       have n4_ := Aside0.mk (bz_ hg (bel_ HB.out))
       have n5_ := Aside0.mk (nl_ hg BK129.out)
       have n6_ := Aside0.mk (ng_ hg BK129.out)
       clear BK129
       clear HB
       have BK129 := n0_
       have HB := n1_
       have BK141 := n2_
       have GW141 := n3_
       have GE141 := n4_
       have NB129_141 := n5_
       have NB141_129 := n6_
       clear n0_ n1_ n2_ n3_ n4_ n5_ n6_
       clear hb hbox hg
       refine hK.out _ _ (c3_ BK129.out) (fun hHeld => ?_)
       clear hK K
       refine norm_ (a' := ?_) ?_ ?_
       rotate_left
       ·show Act.put _ (some 7) _ = _
        simp only [Act.put, s1_, s2_, s3_, i64_w, i32_w]
        rfl
       exact norm_ (by simp only [putAll, Act.put, s1_, s2_, s3_] <;> rfl) (hJ2_5_7_10_13_15_16 (gb141) _ ⟨hHeld, (peel_ BK129.out), (peel_ BK141.out), GW141.out, GE141.out, NB129_141.out, NB141_129.out, (bel_ HB.out)⟩)
      ·skip
       refine box_step ?hg (N := 8) ?hd (cs := #[.int .i64 0, .int .i64 0, .string (⟨#[]⟩ : ByteArray)]) (t := 24) ?hr ?_; (case hd => rfl); (case hg => rfl); (case hr => first | (go_simp; done) | (go_simp; rfl))
       intro gb142 hg w40 hbox hb
       have n0_ := Aside0.mk (bb_ BK129.out hb)
       have n1_ := Aside0.mk (below_step (bel_ HB.out) hb)
       have n2_ := Aside0.mk (hbox)
       have n3_ := Aside0.mk (bz_ hg (bel_ HB.out))
       have n4_ := Aside0.mk (bz_ hg (bel_ HB.out))
       have n5_ := Aside0.mk (nl_ hg BK129.out)
       have n6_ := Aside0.mk (ng_ hg BK129.out)
       clear BK129
       clear HB
       have BK129 := n0_
       have HB := n1_
       have BK142 := n2_
       have GW142 := n3_
       have GE142 := n4_
       have NB129_142 := n5_
       have NB142_129 := n6_
       clear n0_ n1_ n2_ n3_ n4_ n5_ n6_
       clear hb hbox hg
       refine hK.out _ _ (c3_ BK129.out) (fun hHeld => ?_)
       clear hK K
       refine norm_ (a' := ?_) ?_ ?_
       rotate_left
       ·show Act.put _ (some 8) _ = _
        simp only [Act.put, s1_, s2_, s3_, i64_w, i32_w]
        rfl
       exact norm_ (by simp only [putAll, Act.put, s1_, s2_, s3_] <;> rfl) (hJ2_5_7_10_13_15_17 (gb142) _ ⟨hHeld, (peel_ BK129.out), (peel_ BK142.out), GW142.out, GE142.out, NB129_142.out, NB142_129.out, (bel_ HB.out)⟩)
    ·skip
     rintro ⟨gb141, gb142⟩ w40 ⟨hS_, h0_, h1_, h2_, h3_, h4_, h5_, h6_, h7_, h8_, h9_, h10_, h11_, h12_, h13_⟩
     have n0_ : Aside0 (w40.heap[gb129]? = some (.cells #[.int .i64 a0_0, .int .i64 a0_1, .int .i64 a0_2] 39 (0, 0))) := ⟨h0_⟩
     have n1_ : Aside0 (w40.heap[gb141]? = some (.cells #[.int .i64 0, .int .i64 0, .string (⟨#[]⟩ : ByteArray)] 24 (0, 0))) := ⟨h1_⟩
     have n2_ : Aside0 (w40.heap[gb142]? = some (.cells #[.int .i64 0, .int .i64 0, .string (⟨#[]⟩ : ByteArray)] 24 (0, 0))) := ⟨h2_⟩
     have n3_ : Aside0 (w.heap.size ≤ gb141) := ⟨h3_⟩
     have n4_ : Aside0 (w.heap.size ≤ gb141) := ⟨h4_⟩
     have n5_ : Aside0 (gb129 ≠ gb141) := ⟨h5_⟩
     have n6_ : Aside0 (gb141 ≠ gb129) := ⟨h6_⟩
     have n7_ : Aside0 (gb142 ≠ gb141) := ⟨h7_⟩
     have n8_ : Aside0 (gb141 ≠ gb142) := ⟨h8_⟩
     have n9_ : Aside0 (w.heap.size ≤ gb142) := ⟨h9_⟩
     have n10_ : Aside0 (w.heap.size ≤ gb142) := ⟨h10_⟩
     have n11_ : Aside0 (gb129 ≠ gb142) := ⟨h11_⟩
     have n12_ : Aside0 (gb142 ≠ gb129) := ⟨h12_⟩
     have n13_ : Aside0 (Below w.heap.size w w40) := ⟨h13_⟩
     clear BK129
     clear HB
     clear h0_ h1_ h2_ h3_ h4_ h5_ h6_ h7_ h8_ h9_ h10_ h11_ h12_ h13_
     have BK129 := n0_
     have BK141 := n1_
     have BK142 := n2_
     have GW141 := n3_
     have GE141 := n4_
     have NB129_141 := n5_
     have NB141_129 := n6_
     have NB142_141 := n7_
     have NB141_142 := n8_
     have GW142 := n9_
     have GE142 := n10_
     have NB129_142 := n11_
     have NB142_129 := n12_
     have HB := n13_
     clear n0_ n1_ n2_ n3_ n4_ n5_ n6_ n7_ n8_ n9_ n10_ n11_ n12_ n13_
     have hHeld : w40.cell? ⟨gb129, 0, none⟩ = some (.int .i64 a0_0) ∧ w40.cell? ⟨gb129, 1, none⟩ = some (.int .i64 a0_1) ∧ w40.cell? ⟨gb129, 2, none⟩ = some (.int .i64 a0_2) := hS_
     refine norm_ (a' := ?_) ?_ ?_
     rotate_left
     ·simp only [putAll, Act.put, s1_, s2_, s3_]
      rfl
     refine one_ (i := 15) (N := some 44) #[T, T, T, T, T, T, T, T, T, T, T, T, T, T, T, T, T, T, F, F] rfl rfl (one_of HT_.out (by kernel_rfl)) (by decide) (fun K hK => ?_)
     refine goes_ Try.func23 (by kernel_rfl) rfl #[.int .i64 t136, .int .i64 t137, .string a2] (by rfl) rfl rfl gl_ ?_
     with_reducible refine (corncriblaw02_made.calls t136 t137 a2 t138 t139 t140 _ A11.out).mono ?_
     rintro e w41 ⟨rfl, hb⟩
     refine ⟨_, rfl, ?_⟩
     have n0_ := Aside0.mk (bb_ BK129.out hb)
     have n1_ := Aside0.mk (bb_ BK141.out hb)
     have n2_ := Aside0.mk (bb_ BK142.out hb)
     have n3_ := Aside0.mk (below_step (bel_ HB.out) hb)
     clear BK129
     clear BK141
     clear BK142
     clear HB
     have BK129 := n0_
     have BK141 := n1_
     have BK142 := n2_
     have HB := n3_
     clear n0_ n1_ n2_ n3_
     (try clear hb)
     (try clear hb2)
     (try clear hk)
     (try clear hi)
     refine hK.out _ _ (c3_ BK129.out) (fun hHeld => ?_)
     clear hK K
     refine norm_ (a' := ?_) ?_ ?_
     rotate_left
     ·show Act.put _ (some 44) _ = _
      simp only [Act.put, s1_, s2_, s3_, i64_w, i32_w]
      rfl
     exact norm_ (by simp only [putAll, Act.put, s1_, s2_, s3_] <;> rfl) (hJ2_5_7_10_13_15_16_17 (gb141, gb142) _ ⟨hHeld, (peel_ BK129.out), (peel_ BK141.out), (peel_ BK142.out), GW141.out, GE141.out, NB129_141.out, NB141_129.out, NB142_141.out, NB141_142.out, GW142.out, GE142.out, NB129_142.out, NB142_129.out, (bel_ HB.out)⟩)
   ·skip
    rintro gb142 w40 ⟨hS_, h0_, h1_, h2_, h3_, h4_, h5_, h6_⟩
    have n0_ : Aside0 (w40.heap[gb129]? = some (.cells #[.int .i64 a0_0, .int .i64 a0_1, .int .i64 a0_2] 39 (0, 0))) := ⟨h0_⟩
    have n1_ : Aside0 (w40.heap[gb142]? = some (.cells #[.int .i64 0, .int .i64 0, .string (⟨#[]⟩ : ByteArray)] 24 (0, 0))) := ⟨h1_⟩
    have n2_ : Aside0 (w.heap.size ≤ gb142) := ⟨h2_⟩
    have n3_ : Aside0 (w.heap.size ≤ gb142) := ⟨h3_⟩
    have n4_ : Aside0 (gb129 ≠ gb142) := ⟨h4_⟩
    have n5_ : Aside0 (gb142 ≠ gb129) := ⟨h5_⟩
    have n6_ : Aside0 (Below w.heap.size w w40) := ⟨h6_⟩
    clear BK129
    clear HB
    clear h0_ h1_ h2_ h3_ h4_ h5_ h6_
    have BK129 := n0_
    have BK142 := n1_
    have GW142 := n2_
    have GE142 := n3_
    have NB129_142 := n4_
    have NB142_129 := n5_
    have HB := n6_
    clear n0_ n1_ n2_ n3_ n4_ n5_ n6_
    have hHeld : w40.cell? ⟨gb129, 0, none⟩ = some (.int .i64 a0_0) ∧ w40.cell? ⟨gb129, 1, none⟩ = some (.int .i64 a0_1) ∧ w40.cell? ⟨gb129, 2, none⟩ = some (.int .i64 a0_2) := hS_
    refine norm_ (a' := ?_) ?_ ?_
    rotate_left
    ·simp only [putAll, Act.put, s1_, s2_, s3_]
     rfl
    refine one_ (i := 16) (N := some 7) #[T, T, T, T, T, T, T, T, T, T, T, T, T, T, T, T, T, T, F, F] rfl rfl (one_of HT_.out (by kernel_rfl)) (by decide) (fun K hK => ?_)
    refine box_step ?hg (N := 7) ?hd (cs := #[.int .i64 0, .int .i64 0, .string (⟨#[]⟩ : ByteArray)]) (t := 24) ?hr ?_; (case hd => rfl); (case hg => rfl); (case hr => first | (go_simp; done) | (go_simp; rfl))
    intro gb141 hg w41 hbox hb
    have n0_ := Aside0.mk (bb_ BK129.out hb)
    have n1_ := Aside0.mk (bb_ BK142.out hb)
    have n2_ := Aside0.mk (below_step (bel_ HB.out) hb)
    have n3_ := Aside0.mk (hbox)
    have n4_ := Aside0.mk (bz_ hg (bel_ HB.out))
    have n5_ := Aside0.mk (bz_ hg (bel_ HB.out))
    have n6_ := Aside0.mk (nl_ hg BK129.out)
    have n7_ := Aside0.mk (ng_ hg BK129.out)
    have n8_ := Aside0.mk (nl_ hg BK142.out)
    have n9_ := Aside0.mk (ng_ hg BK142.out)
    clear BK129
    clear BK142
    clear HB
    have BK129 := n0_
    have BK142 := n1_
    have HB := n2_
    have BK141 := n3_
    have GW141 := n4_
    have GE141 := n5_
    have NB129_141 := n6_
    have NB141_129 := n7_
    have NB142_141 := n8_
    have NB141_142 := n9_
    clear n0_ n1_ n2_ n3_ n4_ n5_ n6_ n7_ n8_ n9_
    clear hb hbox hg
    refine hK.out _ _ (c3_ BK129.out) (fun hHeld => ?_)
    clear hK K
    refine norm_ (a' := ?_) ?_ ?_
    rotate_left
    ·show Act.put _ (some 7) _ = _
     simp only [Act.put, s1_, s2_, s3_, i64_w, i32_w]
     rfl
    exact norm_ (by simp only [putAll, Act.put, s1_, s2_, s3_] <;> rfl) (hJ2_5_7_10_13_15_16_17 (gb141, gb142) _ ⟨hHeld, (peel_ BK129.out), (peel_ BK141.out), (peel_ BK142.out), GW141.out, GE141.out, NB129_141.out, NB141_129.out, NB142_141.out, NB141_142.out, GW142.out, GE142.out, NB129_142.out, NB142_129.out, (bel_ HB.out)⟩)
  ·skip
   rintro gb141 w40 ⟨hS_, h0_, h1_, h2_, h3_, h4_, h5_, h6_⟩
   have n0_ : Aside0 (w40.heap[gb129]? = some (.cells #[.int .i64 a0_0, .int .i64 a0_1, .int .i64 a0_2] 39 (0, 0))) := ⟨h0_⟩
   have n1_ : Aside0 (w40.heap[gb141]? = some (.cells #[.int .i64 0, .int .i64 0, .string (⟨#[]⟩ : ByteArray)] 24 (0, 0))) := ⟨h1_⟩
   have n2_ : Aside0 (w.heap.size ≤ gb141) := ⟨h2_⟩
   have n3_ : Aside0 (w.heap.size ≤ gb141) := ⟨h3_⟩
   have n4_ : Aside0 (gb129 ≠ gb141) := ⟨h4_⟩
   have n5_ : Aside0 (gb141 ≠ gb129) := ⟨h5_⟩
   have n6_ : Aside0 (Below w.heap.size w w40) := ⟨h6_⟩
   clear BK129
   clear HB
   clear h0_ h1_ h2_ h3_ h4_ h5_ h6_
   have BK129 := n0_
   have BK141 := n1_
   have GW141 := n2_
   have GE141 := n3_
   have NB129_141 := n4_
   have NB141_129 := n5_
   have HB := n6_
   clear n0_ n1_ n2_ n3_ n4_ n5_ n6_
   have hHeld : w40.cell? ⟨gb129, 0, none⟩ = some (.int .i64 a0_0) ∧ w40.cell? ⟨gb129, 1, none⟩ = some (.int .i64 a0_1) ∧ w40.cell? ⟨gb129, 2, none⟩ = some (.int .i64 a0_2) := hS_
   refine norm_ (a' := ?_) ?_ ?_
   rotate_left
   ·simp only [putAll, Act.put, s1_, s2_, s3_]
    rfl
   refine one_ (i := 17) (N := some 8) #[T, T, T, T, T, T, T, T, T, T, T, T, T, T, T, T, T, T, F, F] rfl rfl (one_of HT_.out (by kernel_rfl)) (by decide) (fun K hK => ?_)
   refine box_step ?hg (N := 8) ?hd (cs := #[.int .i64 0, .int .i64 0, .string (⟨#[]⟩ : ByteArray)]) (t := 24) ?hr ?_; (case hd => rfl); (case hg => rfl); (case hr => first | (go_simp; done) | (go_simp; rfl))
   intro gb142 hg w41 hbox hb
   have n0_ := Aside0.mk (bb_ BK129.out hb)
   have n1_ := Aside0.mk (bb_ BK141.out hb)
   have n2_ := Aside0.mk (below_step (bel_ HB.out) hb)
   have n3_ := Aside0.mk (hbox)
   have n4_ := Aside0.mk (bz_ hg (bel_ HB.out))
   have n5_ := Aside0.mk (bz_ hg (bel_ HB.out))
   have n6_ := Aside0.mk (nl_ hg BK129.out)
   have n7_ := Aside0.mk (ng_ hg BK129.out)
   have n8_ := Aside0.mk (nl_ hg BK141.out)
   have n9_ := Aside0.mk (ng_ hg BK141.out)
   clear BK129
   clear BK141
   clear HB
   have BK129 := n0_
   have BK141 := n1_
   have HB := n2_
   have BK142 := n3_
   have GW142 := n4_
   have GE142 := n5_
   have NB129_142 := n6_
   have NB142_129 := n7_
   have NB141_142 := n8_
   have NB142_141 := n9_
   clear n0_ n1_ n2_ n3_ n4_ n5_ n6_ n7_ n8_ n9_
   clear hb hbox hg
   refine hK.out _ _ (c3_ BK129.out) (fun hHeld => ?_)
   clear hK K
   refine norm_ (a' := ?_) ?_ ?_
   rotate_left
   ·show Act.put _ (some 8) _ = _
    simp only [Act.put, s1_, s2_, s3_, i64_w, i32_w]
    rfl
   exact norm_ (by simp only [putAll, Act.put, s1_, s2_, s3_] <;> rfl) (hJ2_5_7_10_13_15_16_17 (gb141, gb142) _ ⟨hHeld, (peel_ BK129.out), (peel_ BK141.out), (peel_ BK142.out), GW141.out, GE141.out, NB129_141.out, NB141_129.out, NB142_141.out, NB141_142.out, GW142.out, GE142.out, NB129_142.out, NB142_129.out, (bel_ HB.out)⟩)
 rintro ⟨gb141, gb142⟩ w41 ⟨hS_, h0_, h1_, h2_, h3_, h4_, h5_, h6_, h7_, h8_, h9_, h10_, h11_, h12_, h13_⟩
 have n0_ : Aside0 (w41.heap[gb129]? = some (.cells #[.int .i64 a0_0, .int .i64 a0_1, .int .i64 a0_2] 39 (0, 0))) := ⟨h0_⟩
 have n1_ : Aside0 (w41.heap[gb141]? = some (.cells #[.int .i64 0, .int .i64 0, .string (⟨#[]⟩ : ByteArray)] 24 (0, 0))) := ⟨h1_⟩
 have n2_ : Aside0 (w41.heap[gb142]? = some (.cells #[.int .i64 0, .int .i64 0, .string (⟨#[]⟩ : ByteArray)] 24 (0, 0))) := ⟨h2_⟩
 have n3_ : Aside0 (w.heap.size ≤ gb141) := ⟨h3_⟩
 have n4_ : Aside0 (w.heap.size ≤ gb141) := ⟨h4_⟩
 have n5_ : Aside0 (gb129 ≠ gb141) := ⟨h5_⟩
 have n6_ : Aside0 (gb141 ≠ gb129) := ⟨h6_⟩
 have n7_ : Aside0 (gb142 ≠ gb141) := ⟨h7_⟩
 have n8_ : Aside0 (gb141 ≠ gb142) := ⟨h8_⟩
 have n9_ : Aside0 (w.heap.size ≤ gb142) := ⟨h9_⟩
 have n10_ : Aside0 (w.heap.size ≤ gb142) := ⟨h10_⟩
 have n11_ : Aside0 (gb129 ≠ gb142) := ⟨h11_⟩
 have n12_ : Aside0 (gb142 ≠ gb129) := ⟨h12_⟩
 have n13_ : Aside0 (Below w.heap.size w w41) := ⟨h13_⟩
 clear BK129
 clear HB
 clear h0_ h1_ h2_ h3_ h4_ h5_ h6_ h7_ h8_ h9_ h10_ h11_ h12_ h13_
 have BK129 := n0_
 have BK141 := n1_
 have BK142 := n2_
 have GW141 := n3_
 have GE141 := n4_
 have NB129_141 := n5_
 have NB141_129 := n6_
 have NB142_141 := n7_
 have NB141_142 := n8_
 have GW142 := n9_
 have GE142 := n10_
 have NB129_142 := n11_
 have NB142_129 := n12_
 have HB := n13_
 clear n0_ n1_ n2_ n3_ n4_ n5_ n6_ n7_ n8_ n9_ n10_ n11_ n12_ n13_
 have hHeld : w41.cell? ⟨gb129, 0, none⟩ = some (.int .i64 a0_0) ∧ w41.cell? ⟨gb129, 1, none⟩ = some (.int .i64 a0_1) ∧ w41.cell? ⟨gb129, 2, none⟩ = some (.int .i64 a0_2) := hS_
 refine norm_ (a' := ?_) ?_ ?_
 rotate_left
 ·simp only [putAll, Act.put, s1_, s2_, s3_]
  rfl
 refine one_ (i := 18) (N := none) #[T, T, T, T, T, T, T, T, T, T, T, T, T, T, T, T, T, T, T, F] rfl rfl (one_of HT_.out (by kernel_rfl)) (by decide) (fun K hK => ?_)
 have hs42 : w41.cell? ⟨gb141, 0, none⟩ = some (.int .i64 0) := (blk_cell BK141.out 0).trans rfl
 have hfs42 := blk_frozen BK141.out 0
 have hns42_0 := NB129_141.out
 have hns42_2 := NB142_141.out
 have hms42_0 := NB141_129.out
 have hms42_2 := NB141_142.out
 have hs43 : w41.cell? ⟨gb141, 1, none⟩ = some (.int .i64 0) := (blk_cell BK141.out 1).trans rfl
 have hfs43 := blk_frozen BK141.out 1
 have hns43_0 := NB129_141.out
 have hns43_2 := NB142_141.out
 have hms43_0 := NB141_129.out
 have hms43_2 := NB141_142.out
 have hs44 : w41.cell? ⟨gb141, 2, none⟩ = some (.string (⟨#[]⟩ : ByteArray)) := (blk_cell BK141.out 2).trans rfl
 have hfs44 := blk_frozen BK141.out 2
 have hns44_0 := NB129_141.out
 have hns44_2 := NB142_141.out
 have hms44_0 := NB141_129.out
 have hms44_2 := NB141_142.out
 refine skip_ (w1 := ?_) (by rfl) rfl ?_ ?_
 rotate_left
 ·go_simp
  rfl
 refine hK.out _ _ ⟨((cell_far (p := ⟨gb141, _, none⟩) NB129_141.out _).trans (((cell_far (p := ⟨gb141, _, none⟩) NB129_141.out _).trans (((cell_far (p := ⟨gb141, _, none⟩) NB129_141.out _).trans (hHeld.1)))))), ((cell_far (p := ⟨gb141, _, none⟩) NB129_141.out _).trans (((cell_far (p := ⟨gb141, _, none⟩) NB129_141.out _).trans (((cell_far (p := ⟨gb141, _, none⟩) NB129_141.out _).trans (hHeld.2.1)))))), ((cell_far (p := ⟨gb141, _, none⟩) NB129_141.out _).trans (((cell_far (p := ⟨gb141, _, none⟩) NB129_141.out _).trans (((cell_far (p := ⟨gb141, _, none⟩) NB129_141.out _).trans (hHeld.2.2))))))⟩ (fun hHeld => ?_)
 clear hK K
 refine one_ (i := 19) (N := none) #[T, T, T, T, T, T, T, T, T, T, T, T, T, T, T, T, T, T, T, T] rfl rfl (one_of HT_.out (by kernel_rfl)) (by decide) (fun K hK => ?_)
 have hs45 : w41.cell? ⟨gb142, 0, none⟩ = some (.int .i64 0) := (blk_cell BK142.out 0).trans rfl
 have hfs45 := blk_frozen BK142.out 0
 have hns45_0 := NB129_142.out
 have hns45_1 := NB141_142.out
 have hms45_0 := NB142_129.out
 have hms45_1 := NB142_141.out
 have hs46 : w41.cell? ⟨gb142, 1, none⟩ = some (.int .i64 0) := (blk_cell BK142.out 1).trans rfl
 have hfs46 := blk_frozen BK142.out 1
 have hns46_0 := NB129_142.out
 have hns46_1 := NB141_142.out
 have hms46_0 := NB142_129.out
 have hms46_1 := NB142_141.out
 have hs47 : w41.cell? ⟨gb142, 2, none⟩ = some (.string (⟨#[]⟩ : ByteArray)) := (blk_cell BK142.out 2).trans rfl
 have hfs47 := blk_frozen BK142.out 2
 have hns47_0 := NB129_142.out
 have hns47_1 := NB141_142.out
 have hms47_0 := NB142_129.out
 have hms47_1 := NB142_141.out
 refine skip_ (w1 := ?_) (by rfl) rfl ?_ ?_
 rotate_left
 ·go_simp
  rfl
 refine hK.out _ _ ⟨((cell_far (p := ⟨gb142, _, none⟩) NB129_142.out _).trans (((cell_far (p := ⟨gb142, _, none⟩) NB129_142.out _).trans (((cell_far (p := ⟨gb142, _, none⟩) NB129_142.out _).trans (hHeld.1)))))), ((cell_far (p := ⟨gb142, _, none⟩) NB129_142.out _).trans (((cell_far (p := ⟨gb142, _, none⟩) NB129_142.out _).trans (((cell_far (p := ⟨gb142, _, none⟩) NB129_142.out _).trans (hHeld.2.1)))))), ((cell_far (p := ⟨gb142, _, none⟩) NB129_142.out _).trans (((cell_far (p := ⟨gb142, _, none⟩) NB129_142.out _).trans (((cell_far (p := ⟨gb142, _, none⟩) NB129_142.out _).trans (hHeld.2.2))))))⟩ (fun hHeld => ?_)
 clear hK K
 refine done_ (done_of HT_.out (by kernel_rfl)) ?_
 try go_wp2
 have n0_ : Aside0 (((((((w41.setCell ⟨gb141, 0, none⟩ (.int .i64 t133)).setCell ⟨gb141, 1, none⟩ (.int .i64 t134)).setCell ⟨gb141, 2, none⟩ (.string t135)).setCell ⟨gb142, 0, none⟩ (.int .i64 t138)).setCell ⟨gb142, 1, none⟩ (.int .i64 t139)).setCell ⟨gb142, 2, none⟩ (.string t140)).heap[gb129]? = some (.cells #[.int .i64 a0_0, .int .i64 a0_1, .int .i64 a0_2] 39 (0, 0))) := ⟨by (with_reducible repeat (first | refine blk_drewN ?_ _ | refine blk_drew ?_ | refine blk_alloc ?_ _)); refine blk_far ?_ NB129_142.out _; (with_reducible repeat (first | refine blk_drewN ?_ _ | refine blk_drew ?_ | refine blk_alloc ?_ _)); refine blk_far ?_ NB129_142.out _; (with_reducible repeat (first | refine blk_drewN ?_ _ | refine blk_drew ?_ | refine blk_alloc ?_ _)); refine blk_far ?_ NB129_142.out _; (with_reducible repeat (first | refine blk_drewN ?_ _ | refine blk_drew ?_ | refine blk_alloc ?_ _)); refine blk_far ?_ NB129_141.out _; (with_reducible repeat (first | refine blk_drewN ?_ _ | refine blk_drew ?_ | refine blk_alloc ?_ _)); refine blk_far ?_ NB129_141.out _; (with_reducible repeat (first | refine blk_drewN ?_ _ | refine blk_drew ?_ | refine blk_alloc ?_ _)); refine blk_far ?_ NB129_141.out _; (with_reducible repeat (first | refine blk_drewN ?_ _ | refine blk_drew ?_ | refine blk_alloc ?_ _)); exact BK129.out⟩
 have n1_ : Aside0 (((((((w41.setCell ⟨gb141, 0, none⟩ (.int .i64 t133)).setCell ⟨gb141, 1, none⟩ (.int .i64 t134)).setCell ⟨gb141, 2, none⟩ (.string t135)).setCell ⟨gb142, 0, none⟩ (.int .i64 t138)).setCell ⟨gb142, 1, none⟩ (.int .i64 t139)).setCell ⟨gb142, 2, none⟩ (.string t140)).heap[gb141]? = some (.cells #[.int .i64 t133, .int .i64 t134, .string t135] 24 (0, 0))) := ⟨by (with_reducible repeat (first | refine blk_drewN ?_ _ | refine blk_drew ?_ | refine blk_alloc ?_ _)); refine blk_far ?_ NB141_142.out _; (with_reducible repeat (first | refine blk_drewN ?_ _ | refine blk_drew ?_ | refine blk_alloc ?_ _)); refine blk_far ?_ NB141_142.out _; (with_reducible repeat (first | refine blk_drewN ?_ _ | refine blk_drew ?_ | refine blk_alloc ?_ _)); refine blk_far ?_ NB141_142.out _; (with_reducible repeat (first | refine blk_drewN ?_ _ | refine blk_drew ?_ | refine blk_alloc ?_ _)); refine blk_put (cs := #[.int .i64 t133, .int .i64 t134, .string (⟨#[]⟩ : ByteArray)]) ?_ 2 _ rfl; (with_reducible repeat (first | refine blk_drewN ?_ _ | refine blk_drew ?_ | refine blk_alloc ?_ _)); refine blk_put (cs := #[.int .i64 t133, .int .i64 0, .string (⟨#[]⟩ : ByteArray)]) ?_ 1 _ rfl; (with_reducible repeat (first | refine blk_drewN ?_ _ | refine blk_drew ?_ | refine blk_alloc ?_ _)); refine blk_put (cs := #[.int .i64 0, .int .i64 0, .string (⟨#[]⟩ : ByteArray)]) ?_ 0 _ rfl; (with_reducible repeat (first | refine blk_drewN ?_ _ | refine blk_drew ?_ | refine blk_alloc ?_ _)); exact BK141.out⟩
 have n2_ : Aside0 (((((((w41.setCell ⟨gb141, 0, none⟩ (.int .i64 t133)).setCell ⟨gb141, 1, none⟩ (.int .i64 t134)).setCell ⟨gb141, 2, none⟩ (.string t135)).setCell ⟨gb142, 0, none⟩ (.int .i64 t138)).setCell ⟨gb142, 1, none⟩ (.int .i64 t139)).setCell ⟨gb142, 2, none⟩ (.string t140)).heap[gb142]? = some (.cells #[.int .i64 t138, .int .i64 t139, .string t140] 24 (0, 0))) := ⟨by (with_reducible repeat (first | refine blk_drewN ?_ _ | refine blk_drew ?_ | refine blk_alloc ?_ _)); refine blk_put (cs := #[.int .i64 t138, .int .i64 t139, .string (⟨#[]⟩ : ByteArray)]) ?_ 2 _ rfl; (with_reducible repeat (first | refine blk_drewN ?_ _ | refine blk_drew ?_ | refine blk_alloc ?_ _)); refine blk_put (cs := #[.int .i64 t138, .int .i64 0, .string (⟨#[]⟩ : ByteArray)]) ?_ 1 _ rfl; (with_reducible repeat (first | refine blk_drewN ?_ _ | refine blk_drew ?_ | refine blk_alloc ?_ _)); refine blk_put (cs := #[.int .i64 0, .int .i64 0, .string (⟨#[]⟩ : ByteArray)]) ?_ 0 _ rfl; (with_reducible repeat (first | refine blk_drewN ?_ _ | refine blk_drew ?_ | refine blk_alloc ?_ _)); refine blk_far ?_ NB142_141.out _; (with_reducible repeat (first | refine blk_drewN ?_ _ | refine blk_drew ?_ | refine blk_alloc ?_ _)); refine blk_far ?_ NB142_141.out _; (with_reducible repeat (first | refine blk_drewN ?_ _ | refine blk_drew ?_ | refine blk_alloc ?_ _)); refine blk_far ?_ NB142_141.out _; (with_reducible repeat (first | refine blk_drewN ?_ _ | refine blk_drew ?_ | refine blk_alloc ?_ _)); exact BK142.out⟩
 have n3_ : Aside0 (Below w.heap.size w ((((((w41.setCell ⟨gb141, 0, none⟩ (.int .i64 t133)).setCell ⟨gb141, 1, none⟩ (.int .i64 t134)).setCell ⟨gb141, 2, none⟩ (.string t135)).setCell ⟨gb142, 0, none⟩ (.int .i64 t138)).setCell ⟨gb142, 1, none⟩ (.int .i64 t139)).setCell ⟨gb142, 2, none⟩ (.string t140))) := ⟨bel_ HB.out⟩
 (try clear BK129)
 (try clear BK141)
 (try clear BK142)
 (try clear HB)
 generalize ((((((w41.setCell ⟨gb141, 0, none⟩ (.int .i64 t133)).setCell ⟨gb141, 1, none⟩ (.int .i64 t134)).setCell ⟨gb141, 2, none⟩ (.string t135)).setCell ⟨gb142, 0, none⟩ (.int .i64 t138)).setCell ⟨gb142, 1, none⟩ (.int .i64 t139)).setCell ⟨gb142, 2, none⟩ (.string t140)) = w48 at n0_ n1_ n2_ n3_ ⊢
 have BK129 := n0_
 have BK141 := n1_
 have BK142 := n2_
 have HB := n3_
 clear n0_ n1_ n2_ n3_
 have n0_ := Aside0.mk (blk_drew BK129.out)
 have n1_ := Aside0.mk (blk_drew BK141.out)
 have n2_ := Aside0.mk (blk_drew BK142.out)
 have n3_ := Aside0.mk (below_drew1 HB.out)
 clear BK129
 clear BK141
 clear BK142
 clear HB
 have BK129 := n0_
 have BK141 := n1_
 have BK142 := n2_
 have HB := n3_
 clear n0_ n1_ n2_ n3_
 refine start_ (n := 12) (S := fun w' => w'.cell? ⟨gb129, 0, none⟩ = some (.int .i64 a0_0) ∧ w'.cell? ⟨gb129, 1, none⟩ = some (.int .i64 a0_1) ∧ w'.cell? ⟨gb129, 2, none⟩ = some (.int .i64 a0_2)) (ds := []) #[F, F, F, F, F, F, F, F, F, F, F, F] (by kernel_rfl) rfl rfl (c3_ BK129.out) (fun hHeld => ?_); refine with_tabW corncriblaw02_MatrixRing.tab4 corncriblaw02_MatrixRing.bits4 (fun HT_ HW_ => ?_)
 generalize w48.drew = w49 at BK129 BK141 BK142 HB hHeld ⊢
 refine pure_ (i := 0) (N := some 45) (v := ?_) (a' := ?_) #[T, F, F, F, F, F, F, F, F, F, F, F] rfl rfl (any_of HT_.out (by kernel_rfl)) (fun _ _ _ h => h) (Or.inl ⟨by rfl, ?_⟩) ?_ ?_
 rotate_left
 ·intro w'
  go_simp
  with_reducible rfl
 rotate_left
 ·simp only [Act.put, s1_, s2_, s3_, i64_w, i32_w]
  rfl
 refine pure_ (i := 3) (N := some 48) (v := ?_) (a' := ?_) #[T, F, F, T, F, F, F, F, F, F, F, F] rfl rfl (any_of HT_.out (by kernel_rfl)) (fun _ _ _ h => h) (Or.inl ⟨by rfl, ?_⟩) ?_ ?_
 rotate_left
 ·intro w'
  go_simp
  with_reducible rfl
 rotate_left
 ·simp only [Act.put, s1_, s2_, s3_, i64_w, i32_w]
  rfl
 refine pure_ (i := 6) (N := some 51) (v := ?_) (a' := ?_) #[T, F, F, T, F, F, T, F, F, F, F, F] rfl rfl (any_of HT_.out (by kernel_rfl)) (fun _ _ _ h => h) (Or.inl ⟨by rfl, ?_⟩) ?_ ?_
 rotate_left
 ·intro w'
  go_simp
  with_reducible rfl
 rotate_left
 ·simp only [Act.put, s1_, s2_, s3_, i64_w, i32_w]
  rfl
 refine pure_ (i := 7) (N := some 52) (v := ?_) (a' := ?_) #[T, F, F, T, F, F, T, T, F, F, F, F] rfl rfl (any_of HT_.out (by kernel_rfl)) (fun _ _ _ h => h) (Or.inl ⟨by rfl, ?_⟩) ?_ ?_
 rotate_left
 ·intro w'
  go_simp
  with_reducible rfl
 rotate_left
 ·simp only [Act.put, s1_, s2_, s3_, i64_w, i32_w]
  rfl
 refine pure_ (i := 8) (N := some 53) (v := ?_) (a' := ?_) #[T, F, F, T, F, F, T, T, T, F, F, F] rfl rfl (any_of HT_.out (by kernel_rfl)) (fun _ _ _ h => h) (Or.inl ⟨by rfl, ?_⟩) ?_ ?_
 rotate_left
 ·intro w'
  go_simp
  with_reducible rfl
 rotate_left
 ·simp only [Act.put, s1_, s2_, s3_, i64_w, i32_w]
  rfl
 refine take_ (i := 1) (N := some 46) (v := ?_) (a' := ?_) #[T, T, F, T, F, F, T, T, T, F, F, F] rfl rfl (take_ofW HT_.out HW_.out (by kernel_rfl)) (fun _ _ _ h => h) (Or.inl ⟨by rfl, ?_⟩) hHeld ?_ ?_
 rotate_left
 ·rintro w' ⟨s0, s1, s2⟩
  go_simp
  with_reducible rfl
 rotate_left
 ·simp only [Act.put, s1_, s2_, s3_, i64_w, i32_w]
  rfl
 refine take_ (i := 4) (N := some 49) (v := ?_) (a' := ?_) #[T, T, F, T, T, F, T, T, T, F, F, F] rfl rfl (take_ofW HT_.out HW_.out (by kernel_rfl)) (fun _ _ _ h => h) (Or.inl ⟨by rfl, ?_⟩) hHeld ?_ ?_
 rotate_left
 ·rintro w' ⟨s0, s1, s2⟩
  go_simp
  with_reducible rfl
 rotate_left
 ·simp only [Act.put, s1_, s2_, s3_, i64_w, i32_w]
  rfl
 refine join_ (σ := Nat) 1 #[T, T, T, T, T, T, T, T, T, T, T, F] (fun s_ => [(47, .int .i64 t143), (50, .int .i64 t144), (54, .agg #[.int .i64 t145, .int .i64 t146, .string t147]), (9, .pointer (some ⟨s_, 0, none⟩))]) (fun s_ w' => (w'.cell? ⟨gb129, 0, none⟩ = some (.int .i64 a0_0) ∧ w'.cell? ⟨gb129, 1, none⟩ = some (.int .i64 a0_1) ∧ w'.cell? ⟨gb129, 2, none⟩ = some (.int .i64 a0_2)) ∧ (w'.heap[gb129]? = some (.cells #[.int .i64 a0_0, .int .i64 a0_1, .int .i64 a0_2] 39 (0, 0))) ∧ (w'.heap[gb141]? = some (.cells #[.int .i64 t133, .int .i64 t134, .string t135] 24 (0, 0))) ∧ (w'.heap[gb142]? = some (.cells #[.int .i64 t138, .int .i64 t139, .string t140] 24 (0, 0))) ∧ (w'.heap[s_]? = some (.cells #[.int .i64 0, .int .i64 0, .string (⟨#[]⟩ : ByteArray)] 24 (0, 0))) ∧ (w.heap.size ≤ s_) ∧ (w.heap.size ≤ s_) ∧ (gb129 ≠ s_) ∧ (s_ ≠ gb129) ∧ (gb141 ≠ s_) ∧ (s_ ≠ gb141) ∧ (gb142 ≠ s_) ∧ (s_ ≠ gb142) ∧ (Below w.heap.size w w')) ?_ ?_
 rotate_left
 ·intro hCont
  refine two_ (i := 2) (j := 10) (Ni := some 47) (Nj := some 9) #[T, T, T, T, T, F, T, T, T, F, F, F] #[T, T, F, T, T, F, T, T, T, F, T, F] rfl rfl rfl rfl (two_of HT_.out (by kernel_rfl)) (by decide) (by decide) (fun K hK => ?_) (fun K hK => ?_)
  ·skip
   refine goes_ Try.func24 (by kernel_rfl) rfl #[.int .i64 a0_2] (by rfl) rfl rfl gl_ ?_
   with_reducible refine (corncriblaw02_side.calls a0_2 t143 _ A12.out).mono ?_
   rintro e w' ⟨rfl, ⟨nd, rfl⟩⟩
   refine ⟨_, rfl, ?_⟩
   refine hK.out _ _ (c3_ BK129.out) (fun hHeld => ?_)
   clear hK K
   refine norm_ (a' := ?_) ?_ ?_
   rotate_left
   ·show Act.put _ (some 47) _ = _
    simp only [Act.put, s1_, s2_, s3_, i64_w, i32_w]
    rfl
   refine two_ (i := 5) (j := 10) (Ni := some 50) (Nj := some 9) #[T, T, T, T, T, T, T, T, T, F, F, F] #[T, T, T, T, T, F, T, T, T, F, T, F] rfl rfl rfl rfl (two_of HT_.out (by kernel_rfl)) (by decide) (by decide) (fun K hK => ?_) (fun K hK => ?_)
   ·skip
    refine goes_ Try.func24 (by kernel_rfl) rfl #[.int .i64 a0_0] (by rfl) rfl rfl gl_ ?_
    with_reducible refine (corncriblaw02_side.calls a0_0 t144 _ A13.out).mono ?_
    rintro e w' ⟨rfl, ⟨nd, rfl⟩⟩
    refine ⟨_, rfl, ?_⟩
    refine hK.out _ _ (c3_ BK129.out) (fun hHeld => ?_)
    clear hK K
    refine norm_ (a' := ?_) ?_ ?_
    rotate_left
    ·show Act.put _ (some 50) _ = _
     simp only [Act.put, s1_, s2_, s3_, i64_w, i32_w]
     rfl
    refine two_ (i := 9) (j := 10) (Ni := some 54) (Nj := some 9) #[T, T, T, T, T, T, T, T, T, T, F, F] #[T, T, T, T, T, T, T, T, T, F, T, F] rfl rfl rfl rfl (two_of HT_.out (by kernel_rfl)) (by decide) (by decide) (fun K hK => ?_) (fun K hK => ?_)
    ·skip
     refine goes_ Try.func23 (by kernel_rfl) rfl #[.int .i64 t143, .int .i64 t144, .string (a2 ++ a1)] (by rfl) rfl rfl gl_ ?_
     with_reducible refine (corncriblaw02_made.calls t143 t144 (a2 ++ a1) t145 t146 t147 _ A15.out).mono ?_
     rintro e w50 ⟨rfl, hb⟩
     refine ⟨_, rfl, ?_⟩
     have n0_ := Aside0.mk (bb_ BK129.out hb)
     have n1_ := Aside0.mk (bb_ BK141.out hb)
     have n2_ := Aside0.mk (bb_ BK142.out hb)
     have n3_ := Aside0.mk (below_step (bel_ HB.out) hb)
     clear BK129
     clear BK141
     clear BK142
     clear HB
     have BK129 := n0_
     have BK141 := n1_
     have BK142 := n2_
     have HB := n3_
     clear n0_ n1_ n2_ n3_
     (try clear hb)
     (try clear hb2)
     (try clear hk)
     (try clear hi)
     refine hK.out _ _ (c3_ BK129.out) (fun hHeld => ?_)
     clear hK K
     refine norm_ (a' := ?_) ?_ ?_
     rotate_left
     ·show Act.put _ (some 54) _ = _
      simp only [Act.put, s1_, s2_, s3_, i64_w, i32_w]
      rfl
     refine one_ (i := 10) (N := some 9) #[T, T, T, T, T, T, T, T, T, T, T, F] rfl rfl (one_of HT_.out (by kernel_rfl)) (by decide) (fun K hK => ?_)
     refine box_step ?hg (N := 9) ?hd (cs := #[.int .i64 0, .int .i64 0, .string (⟨#[]⟩ : ByteArray)]) (t := 24) ?hr ?_; (case hd => rfl); (case hg => rfl); (case hr => first | (go_simp; done) | (go_simp; rfl))
     intro gb148 hg w51 hbox hb
     have n0_ := Aside0.mk (bb_ BK129.out hb)
     have n1_ := Aside0.mk (bb_ BK141.out hb)
     have n2_ := Aside0.mk (bb_ BK142.out hb)
     have n3_ := Aside0.mk (below_step (bel_ HB.out) hb)
     have n4_ := Aside0.mk (hbox)
     have n5_ := Aside0.mk (bz_ hg (bel_ HB.out))
     have n6_ := Aside0.mk (bz_ hg (bel_ HB.out))
     have n7_ := Aside0.mk (nl_ hg BK129.out)
     have n8_ := Aside0.mk (ng_ hg BK129.out)
     have n9_ := Aside0.mk (nl_ hg BK141.out)
     have n10_ := Aside0.mk (ng_ hg BK141.out)
     have n11_ := Aside0.mk (nl_ hg BK142.out)
     have n12_ := Aside0.mk (ng_ hg BK142.out)
     clear BK129
     clear BK141
     clear BK142
     clear HB
     have BK129 := n0_
     have BK141 := n1_
     have BK142 := n2_
     have HB := n3_
     have BK148 := n4_
     have GW148 := n5_
     have GE148 := n6_
     have NB129_148 := n7_
     have NB148_129 := n8_
     have NB141_148 := n9_
     have NB148_141 := n10_
     have NB142_148 := n11_
     have NB148_142 := n12_
     clear n0_ n1_ n2_ n3_ n4_ n5_ n6_ n7_ n8_ n9_ n10_ n11_ n12_
     clear hb hbox hg
     refine hK.out _ _ (c3_ BK129.out) (fun hHeld => ?_)
     clear hK K
     refine norm_ (a' := ?_) ?_ ?_
     rotate_left
     ·show Act.put _ (some 9) _ = _
      simp only [Act.put, s1_, s2_, s3_, i64_w, i32_w]
      rfl
     exact norm_ (by simp only [putAll, Act.put, s1_, s2_, s3_]) (hCont (gb148) _ ⟨hHeld, (peel_ BK129.out), (peel_ BK141.out), (peel_ BK142.out), (peel_ BK148.out), GW148.out, GE148.out, NB129_148.out, NB148_129.out, NB141_148.out, NB148_141.out, NB142_148.out, NB148_142.out, (bel_ HB.out)⟩)
    ·skip
     refine box_step ?hg (N := 9) ?hd (cs := #[.int .i64 0, .int .i64 0, .string (⟨#[]⟩ : ByteArray)]) (t := 24) ?hr ?_; (case hd => rfl); (case hg => rfl); (case hr => first | (go_simp; done) | (go_simp; rfl))
     intro gb148 hg w50 hbox hb
     have n0_ := Aside0.mk (bb_ BK129.out hb)
     have n1_ := Aside0.mk (bb_ BK141.out hb)
     have n2_ := Aside0.mk (bb_ BK142.out hb)
     have n3_ := Aside0.mk (below_step (bel_ HB.out) hb)
     have n4_ := Aside0.mk (hbox)
     have n5_ := Aside0.mk (bz_ hg (bel_ HB.out))
     have n6_ := Aside0.mk (bz_ hg (bel_ HB.out))
     have n7_ := Aside0.mk (nl_ hg BK129.out)
     have n8_ := Aside0.mk (ng_ hg BK129.out)
     have n9_ := Aside0.mk (nl_ hg BK141.out)
     have n10_ := Aside0.mk (ng_ hg BK141.out)
     have n11_ := Aside0.mk (nl_ hg BK142.out)
     have n12_ := Aside0.mk (ng_ hg BK142.out)
     clear BK129
     clear BK141
     clear BK142
     clear HB
     have BK129 := n0_
     have BK141 := n1_
     have BK142 := n2_
     have HB := n3_
     have BK148 := n4_
     have GW148 := n5_
     have GE148 := n6_
     have NB129_148 := n7_
     have NB148_129 := n8_
     have NB141_148 := n9_
     have NB148_141 := n10_
     have NB142_148 := n11_
     have NB148_142 := n12_
     clear n0_ n1_ n2_ n3_ n4_ n5_ n6_ n7_ n8_ n9_ n10_ n11_ n12_
     clear hb hbox hg
     refine hK.out _ _ (c3_ BK129.out) (fun hHeld => ?_)
     clear hK K
     refine norm_ (a' := ?_) ?_ ?_
     rotate_left
     ·show Act.put _ (some 9) _ = _
      simp only [Act.put, s1_, s2_, s3_, i64_w, i32_w]
      rfl
     refine one_ (i := 9) (N := some 54) #[T, T, T, T, T, T, T, T, T, T, T, F] rfl rfl (one_of HT_.out (by kernel_rfl)) (by decide) (fun K hK => ?_)
     refine goes_ Try.func23 (by kernel_rfl) rfl #[.int .i64 t143, .int .i64 t144, .string (a2 ++ a1)] (by rfl) rfl rfl gl_ ?_
     with_reducible refine (corncriblaw02_made.calls t143 t144 (a2 ++ a1) t145 t146 t147 _ A15.out).mono ?_
     rintro e w51 ⟨rfl, hb⟩
     refine ⟨_, rfl, ?_⟩
     have n0_ := Aside0.mk (bb_ BK129.out hb)
     have n1_ := Aside0.mk (bb_ BK141.out hb)
     have n2_ := Aside0.mk (bb_ BK142.out hb)
     have n3_ := Aside0.mk (bb_ BK148.out hb)
     have n4_ := Aside0.mk (below_step (bel_ HB.out) hb)
     clear BK129
     clear BK141
     clear BK142
     clear BK148
     clear HB
     have BK129 := n0_
     have BK141 := n1_
     have BK142 := n2_
     have BK148 := n3_
     have HB := n4_
     clear n0_ n1_ n2_ n3_ n4_
     (try clear hb)
     (try clear hb2)
     (try clear hk)
     (try clear hi)
     refine hK.out _ _ (c3_ BK129.out) (fun hHeld => ?_)
     clear hK K
     refine norm_ (a' := ?_) ?_ ?_
     rotate_left
     ·show Act.put _ (some 54) _ = _
      simp only [Act.put, s1_, s2_, s3_, i64_w, i32_w]
      rfl
     exact norm_ (by simp only [putAll, Act.put, s1_, s2_, s3_]) (hCont (gb148) _ ⟨hHeld, (peel_ BK129.out), (peel_ BK141.out), (peel_ BK142.out), (peel_ BK148.out), GW148.out, GE148.out, NB129_148.out, NB148_129.out, NB141_148.out, NB148_141.out, NB142_148.out, NB148_142.out, (bel_ HB.out)⟩)
   ·skip
    refine box_step ?hg (N := 9) ?hd (cs := #[.int .i64 0, .int .i64 0, .string (⟨#[]⟩ : ByteArray)]) (t := 24) ?hr ?_; (case hd => rfl); (case hg => rfl); (case hr => first | (go_simp; done) | (go_simp; rfl))
    intro gb148 hg w50 hbox hb
    have n0_ := Aside0.mk (bb_ BK129.out hb)
    have n1_ := Aside0.mk (bb_ BK141.out hb)
    have n2_ := Aside0.mk (bb_ BK142.out hb)
    have n3_ := Aside0.mk (below_step (bel_ HB.out) hb)
    have n4_ := Aside0.mk (hbox)
    have n5_ := Aside0.mk (bz_ hg (bel_ HB.out))
    have n6_ := Aside0.mk (bz_ hg (bel_ HB.out))
    have n7_ := Aside0.mk (nl_ hg BK129.out)
    have n8_ := Aside0.mk (ng_ hg BK129.out)
    have n9_ := Aside0.mk (nl_ hg BK141.out)
    have n10_ := Aside0.mk (ng_ hg BK141.out)
    have n11_ := Aside0.mk (nl_ hg BK142.out)
    have n12_ := Aside0.mk (ng_ hg BK142.out)
    clear BK129
    clear BK141
    clear BK142
    clear HB
    have BK129 := n0_
    have BK141 := n1_
    have BK142 := n2_
    have HB := n3_
    have BK148 := n4_
    have GW148 := n5_
    have GE148 := n6_
    have NB129_148 := n7_
    have NB148_129 := n8_
    have NB141_148 := n9_
    have NB148_141 := n10_
    have NB142_148 := n11_
    have NB148_142 := n12_
    clear n0_ n1_ n2_ n3_ n4_ n5_ n6_ n7_ n8_ n9_ n10_ n11_ n12_
    clear hb hbox hg
    refine hK.out _ _ (c3_ BK129.out) (fun hHeld => ?_)
    clear hK K
    refine norm_ (a' := ?_) ?_ ?_
    rotate_left
    ·show Act.put _ (some 9) _ = _
     simp only [Act.put, s1_, s2_, s3_, i64_w, i32_w]
     rfl
    refine one_ (i := 5) (N := some 50) #[T, T, T, T, T, T, T, T, T, F, T, F] rfl rfl (one_of HT_.out (by kernel_rfl)) (by decide) (fun K hK => ?_)
    refine goes_ Try.func24 (by kernel_rfl) rfl #[.int .i64 a0_0] (by rfl) rfl rfl gl_ ?_
    with_reducible refine (corncriblaw02_side.calls a0_0 t144 _ A13.out).mono ?_
    rintro e w' ⟨rfl, ⟨nd, rfl⟩⟩
    refine ⟨_, rfl, ?_⟩
    refine hK.out _ _ (c3_ BK129.out) (fun hHeld => ?_)
    clear hK K
    refine norm_ (a' := ?_) ?_ ?_
    rotate_left
    ·show Act.put _ (some 50) _ = _
     simp only [Act.put, s1_, s2_, s3_, i64_w, i32_w]
     rfl
    refine one_ (i := 9) (N := some 54) #[T, T, T, T, T, T, T, T, T, T, T, F] rfl rfl (one_of HT_.out (by kernel_rfl)) (by decide) (fun K hK => ?_)
    refine goes_ Try.func23 (by kernel_rfl) rfl #[.int .i64 t143, .int .i64 t144, .string (a2 ++ a1)] (by rfl) rfl rfl gl_ ?_
    with_reducible refine (corncriblaw02_made.calls t143 t144 (a2 ++ a1) t145 t146 t147 _ A15.out).mono ?_
    rintro e w51 ⟨rfl, hb⟩
    refine ⟨_, rfl, ?_⟩
    have n0_ := Aside0.mk (bb_ BK129.out hb)
    have n1_ := Aside0.mk (bb_ BK141.out hb)
    have n2_ := Aside0.mk (bb_ BK142.out hb)
    have n3_ := Aside0.mk (bb_ BK148.out hb)
    have n4_ := Aside0.mk (below_step (bel_ HB.out) hb)
    clear BK129
    clear BK141
    clear BK142
    clear BK148
    clear HB
    have BK129 := n0_
    have BK141 := n1_
    have BK142 := n2_
    have BK148 := n3_
    have HB := n4_
    clear n0_ n1_ n2_ n3_ n4_
    (try clear hb)
    (try clear hb2)
    (try clear hk)
    (try clear hi)
    refine hK.out _ _ (c3_ BK129.out) (fun hHeld => ?_)
    clear hK K
    refine norm_ (a' := ?_) ?_ ?_
    rotate_left
    ·show Act.put _ (some 54) _ = _
     simp only [Act.put, s1_, s2_, s3_, i64_w, i32_w]
     rfl
    exact norm_ (by simp only [putAll, Act.put, s1_, s2_, s3_]) (hCont (gb148) _ ⟨hHeld, (peel_ BK129.out), (peel_ BK141.out), (peel_ BK142.out), (peel_ BK148.out), GW148.out, GE148.out, NB129_148.out, NB148_129.out, NB141_148.out, NB148_141.out, NB142_148.out, NB148_142.out, (bel_ HB.out)⟩)
  ·skip
   refine box_step ?hg (N := 9) ?hd (cs := #[.int .i64 0, .int .i64 0, .string (⟨#[]⟩ : ByteArray)]) (t := 24) ?hr ?_; (case hd => rfl); (case hg => rfl); (case hr => first | (go_simp; done) | (go_simp; rfl))
   intro gb148 hg w50 hbox hb
   have n0_ := Aside0.mk (bb_ BK129.out hb)
   have n1_ := Aside0.mk (bb_ BK141.out hb)
   have n2_ := Aside0.mk (bb_ BK142.out hb)
   have n3_ := Aside0.mk (below_step (bel_ HB.out) hb)
   have n4_ := Aside0.mk (hbox)
   have n5_ := Aside0.mk (bz_ hg (bel_ HB.out))
   have n6_ := Aside0.mk (bz_ hg (bel_ HB.out))
   have n7_ := Aside0.mk (nl_ hg BK129.out)
   have n8_ := Aside0.mk (ng_ hg BK129.out)
   have n9_ := Aside0.mk (nl_ hg BK141.out)
   have n10_ := Aside0.mk (ng_ hg BK141.out)
   have n11_ := Aside0.mk (nl_ hg BK142.out)
   have n12_ := Aside0.mk (ng_ hg BK142.out)
   clear BK129
   clear BK141
   clear BK142
   clear HB
   have BK129 := n0_
   have BK141 := n1_
   have BK142 := n2_
   have HB := n3_
   have BK148 := n4_
   have GW148 := n5_
   have GE148 := n6_
   have NB129_148 := n7_
   have NB148_129 := n8_
   have NB141_148 := n9_
   have NB148_141 := n10_
   have NB142_148 := n11_
   have NB148_142 := n12_
   clear n0_ n1_ n2_ n3_ n4_ n5_ n6_ n7_ n8_ n9_ n10_ n11_ n12_
   clear hb hbox hg
   refine hK.out _ _ (c3_ BK129.out) (fun hHeld => ?_)
   clear hK K
   refine norm_ (a' := ?_) ?_ ?_
   rotate_left
   ·show Act.put _ (some 9) _ = _
    simp only [Act.put, s1_, s2_, s3_, i64_w, i32_w]
    rfl
   refine one_ (i := 2) (N := some 47) #[T, T, T, T, T, F, T, T, T, F, T, F] rfl rfl (one_of HT_.out (by kernel_rfl)) (by decide) (fun K hK => ?_)
   refine goes_ Try.func24 (by kernel_rfl) rfl #[.int .i64 a0_2] (by rfl) rfl rfl gl_ ?_
   with_reducible refine (corncriblaw02_side.calls a0_2 t143 _ A12.out).mono ?_
   rintro e w' ⟨rfl, ⟨nd, rfl⟩⟩
   refine ⟨_, rfl, ?_⟩
   refine hK.out _ _ (c3_ BK129.out) (fun hHeld => ?_)
   clear hK K
   refine norm_ (a' := ?_) ?_ ?_
   rotate_left
   ·show Act.put _ (some 47) _ = _
    simp only [Act.put, s1_, s2_, s3_, i64_w, i32_w]
    rfl
   refine one_ (i := 5) (N := some 50) #[T, T, T, T, T, T, T, T, T, F, T, F] rfl rfl (one_of HT_.out (by kernel_rfl)) (by decide) (fun K hK => ?_)
   refine goes_ Try.func24 (by kernel_rfl) rfl #[.int .i64 a0_0] (by rfl) rfl rfl gl_ ?_
   with_reducible refine (corncriblaw02_side.calls a0_0 t144 _ A13.out).mono ?_
   rintro e w' ⟨rfl, ⟨nd, rfl⟩⟩
   refine ⟨_, rfl, ?_⟩
   refine hK.out _ _ (c3_ BK129.out) (fun hHeld => ?_)
   clear hK K
   refine norm_ (a' := ?_) ?_ ?_
   rotate_left
   ·show Act.put _ (some 50) _ = _
    simp only [Act.put, s1_, s2_, s3_, i64_w, i32_w]
    rfl
   refine one_ (i := 9) (N := some 54) #[T, T, T, T, T, T, T, T, T, T, T, F] rfl rfl (one_of HT_.out (by kernel_rfl)) (by decide) (fun K hK => ?_)
   refine goes_ Try.func23 (by kernel_rfl) rfl #[.int .i64 t143, .int .i64 t144, .string (a2 ++ a1)] (by rfl) rfl rfl gl_ ?_
   with_reducible refine (corncriblaw02_made.calls t143 t144 (a2 ++ a1) t145 t146 t147 _ A15.out).mono ?_
   rintro e w51 ⟨rfl, hb⟩
   refine ⟨_, rfl, ?_⟩
   have n0_ := Aside0.mk (bb_ BK129.out hb)
   have n1_ := Aside0.mk (bb_ BK141.out hb)
   have n2_ := Aside0.mk (bb_ BK142.out hb)
   have n3_ := Aside0.mk (bb_ BK148.out hb)
   have n4_ := Aside0.mk (below_step (bel_ HB.out) hb)
   clear BK129
   clear BK141
   clear BK142
   clear BK148
   clear HB
   have BK129 := n0_
   have BK141 := n1_
   have BK142 := n2_
   have BK148 := n3_
   have HB := n4_
   clear n0_ n1_ n2_ n3_ n4_
   (try clear hb)
   (try clear hb2)
   (try clear hk)
   (try clear hi)
   refine hK.out _ _ (c3_ BK129.out) (fun hHeld => ?_)
   clear hK K
   refine norm_ (a' := ?_) ?_ ?_
   rotate_left
   ·show Act.put _ (some 54) _ = _
    simp only [Act.put, s1_, s2_, s3_, i64_w, i32_w]
    rfl
   exact norm_ (by simp only [putAll, Act.put, s1_, s2_, s3_]) (hCont (gb148) _ ⟨hHeld, (peel_ BK129.out), (peel_ BK141.out), (peel_ BK142.out), (peel_ BK148.out), GW148.out, GE148.out, NB129_148.out, NB148_129.out, NB141_148.out, NB148_141.out, NB142_148.out, NB148_142.out, (bel_ HB.out)⟩)
 rintro gb148 w52 ⟨hS_, h0_, h1_, h2_, h3_, h4_, h5_, h6_, h7_, h8_, h9_, h10_, h11_, h12_⟩
 have n0_ : Aside0 (w52.heap[gb129]? = some (.cells #[.int .i64 a0_0, .int .i64 a0_1, .int .i64 a0_2] 39 (0, 0))) := ⟨h0_⟩
 have n1_ : Aside0 (w52.heap[gb141]? = some (.cells #[.int .i64 t133, .int .i64 t134, .string t135] 24 (0, 0))) := ⟨h1_⟩
 have n2_ : Aside0 (w52.heap[gb142]? = some (.cells #[.int .i64 t138, .int .i64 t139, .string t140] 24 (0, 0))) := ⟨h2_⟩
 have n3_ : Aside0 (w52.heap[gb148]? = some (.cells #[.int .i64 0, .int .i64 0, .string (⟨#[]⟩ : ByteArray)] 24 (0, 0))) := ⟨h3_⟩
 have n4_ : Aside0 (w.heap.size ≤ gb148) := ⟨h4_⟩
 have n5_ : Aside0 (w.heap.size ≤ gb148) := ⟨h5_⟩
 have n6_ : Aside0 (gb129 ≠ gb148) := ⟨h6_⟩
 have n7_ : Aside0 (gb148 ≠ gb129) := ⟨h7_⟩
 have n8_ : Aside0 (gb141 ≠ gb148) := ⟨h8_⟩
 have n9_ : Aside0 (gb148 ≠ gb141) := ⟨h9_⟩
 have n10_ : Aside0 (gb142 ≠ gb148) := ⟨h10_⟩
 have n11_ : Aside0 (gb148 ≠ gb142) := ⟨h11_⟩
 have n12_ : Aside0 (Below w.heap.size w w52) := ⟨h12_⟩
 clear BK129
 clear BK141
 clear BK142
 clear HB
 clear h0_ h1_ h2_ h3_ h4_ h5_ h6_ h7_ h8_ h9_ h10_ h11_ h12_
 have BK129 := n0_
 have BK141 := n1_
 have BK142 := n2_
 have BK148 := n3_
 have GW148 := n4_
 have GE148 := n5_
 have NB129_148 := n6_
 have NB148_129 := n7_
 have NB141_148 := n8_
 have NB148_141 := n9_
 have NB142_148 := n10_
 have NB148_142 := n11_
 have HB := n12_
 clear n0_ n1_ n2_ n3_ n4_ n5_ n6_ n7_ n8_ n9_ n10_ n11_ n12_
 have hHeld : w52.cell? ⟨gb129, 0, none⟩ = some (.int .i64 a0_0) ∧ w52.cell? ⟨gb129, 1, none⟩ = some (.int .i64 a0_1) ∧ w52.cell? ⟨gb129, 2, none⟩ = some (.int .i64 a0_2) := hS_
 refine norm_ (a' := ?_) ?_ ?_
 rotate_left
 ·simp only [putAll, Act.put, s1_, s2_, s3_]
  rfl
 refine one_ (i := 11) (N := none) #[T, T, T, T, T, T, T, T, T, T, T, T] rfl rfl (one_of HT_.out (by kernel_rfl)) (by decide) (fun K hK => ?_)
 have hs53 : w52.cell? ⟨gb148, 0, none⟩ = some (.int .i64 0) := (blk_cell BK148.out 0).trans rfl
 have hfs53 := blk_frozen BK148.out 0
 have hns53_0 := NB129_148.out
 have hns53_1 := NB141_148.out
 have hns53_2 := NB142_148.out
 have hms53_0 := NB148_129.out
 have hms53_1 := NB148_141.out
 have hms53_2 := NB148_142.out
 have hs54 : w52.cell? ⟨gb148, 1, none⟩ = some (.int .i64 0) := (blk_cell BK148.out 1).trans rfl
 have hfs54 := blk_frozen BK148.out 1
 have hns54_0 := NB129_148.out
 have hns54_1 := NB141_148.out
 have hns54_2 := NB142_148.out
 have hms54_0 := NB148_129.out
 have hms54_1 := NB148_141.out
 have hms54_2 := NB148_142.out
 have hs55 : w52.cell? ⟨gb148, 2, none⟩ = some (.string (⟨#[]⟩ : ByteArray)) := (blk_cell BK148.out 2).trans rfl
 have hfs55 := blk_frozen BK148.out 2
 have hns55_0 := NB129_148.out
 have hns55_1 := NB141_148.out
 have hns55_2 := NB142_148.out
 have hms55_0 := NB148_129.out
 have hms55_1 := NB148_141.out
 have hms55_2 := NB148_142.out
 refine skip_ (w1 := ?_) (by rfl) rfl ?_ ?_
 rotate_left
 ·go_simp
  rfl
 refine hK.out _ _ ⟨((cell_far (p := ⟨gb148, _, none⟩) NB129_148.out _).trans (((cell_far (p := ⟨gb148, _, none⟩) NB129_148.out _).trans (((cell_far (p := ⟨gb148, _, none⟩) NB129_148.out _).trans (hHeld.1)))))), ((cell_far (p := ⟨gb148, _, none⟩) NB129_148.out _).trans (((cell_far (p := ⟨gb148, _, none⟩) NB129_148.out _).trans (((cell_far (p := ⟨gb148, _, none⟩) NB129_148.out _).trans (hHeld.2.1)))))), ((cell_far (p := ⟨gb148, _, none⟩) NB129_148.out _).trans (((cell_far (p := ⟨gb148, _, none⟩) NB129_148.out _).trans (((cell_far (p := ⟨gb148, _, none⟩) NB129_148.out _).trans (hHeld.2.2))))))⟩ (fun hHeld => ?_)
 clear hK K
 refine done_ (done_of HT_.out (by kernel_rfl)) ?_
 have hnb56 := NB141_129.out
 have hnc56 := NB129_141.out
 have hnb57 := NB141_142.out
 have hnc57 := NB142_141.out
 have hnb58 := NB141_148.out
 have hnc58 := NB148_141.out
 obtain ⟨hcz59_0, hfz59_0, hcz59_1, hfz59_1, hcz59_2, hfz59_2⟩ := cfz3 BK141.out
 have hnb60 := NB142_129.out
 have hnc60 := NB129_142.out
 have hnb61 := NB142_148.out
 have hnc61 := NB148_142.out
 obtain ⟨hcz62_0, hfz62_0, hcz62_1, hfz62_1, hcz62_2, hfz62_2⟩ := cfz3 BK142.out
 try go_wp2_with (first | ((with_reducible refine gate_callee (f := 21) rfl ?_); refine goesL_ (some 58) rfl rfl Try.func21 (by kernel_rfl) rfl #[.agg #[.int .i64 t133, .int .i64 t134, .string t135], .agg #[.int .i64 t138, .int .i64 t139, .string t140]] rfl gl_ ?_; (with_reducible refine (matrix_Mul.calls t133 t134 t135 t138 t139 t140 t149 t150 t151 t152 _ A16.out).mono ?_); rintro e w63 ⟨rfl, hb⟩; refine ⟨_, rfl, ?_⟩; have n0_ := Aside0.mk (blk_below (g := gb129) (o := .cells #[.int .i64 a0_0, .int .i64 a0_1, .int .i64 a0_2] 39 (0, 0)) (by (with_reducible repeat (first | refine blk_drewN ?_ _ | refine blk_drew ?_ | refine blk_alloc ?_ _)); refine blk_far ?_ NB129_148.out _; (with_reducible repeat (first | refine blk_drewN ?_ _ | refine blk_drew ?_ | refine blk_alloc ?_ _)); refine blk_far ?_ NB129_148.out _; (with_reducible repeat (first | refine blk_drewN ?_ _ | refine blk_drew ?_ | refine blk_alloc ?_ _)); refine blk_far ?_ NB129_148.out _; (with_reducible repeat (first | refine blk_drewN ?_ _ | refine blk_drew ?_ | refine blk_alloc ?_ _)); exact BK129.out) hb); have n1_ := Aside0.mk (blk_below (g := gb141) (o := .cells #[.int .i64 t133, .int .i64 t134, .string t135] 24 (0, 0)) (by (with_reducible repeat (first | refine blk_drewN ?_ _ | refine blk_drew ?_ | refine blk_alloc ?_ _)); refine blk_far ?_ NB141_148.out _; (with_reducible repeat (first | refine blk_drewN ?_ _ | refine blk_drew ?_ | refine blk_alloc ?_ _)); refine blk_far ?_ NB141_148.out _; (with_reducible repeat (first | refine blk_drewN ?_ _ | refine blk_drew ?_ | refine blk_alloc ?_ _)); refine blk_far ?_ NB141_148.out _; (with_reducible repeat (first | refine blk_drewN ?_ _ | refine blk_drew ?_ | refine blk_alloc ?_ _)); exact BK141.out) hb); have n2_ := Aside0.mk (blk_below (g := gb142) (o := .cells #[.int .i64 t138, .int .i64 t139, .string t140] 24 (0, 0)) (by (with_reducible repeat (first | refine blk_drewN ?_ _ | refine blk_drew ?_ | refine blk_alloc ?_ _)); refine blk_far ?_ NB142_148.out _; (with_reducible repeat (first | refine blk_drewN ?_ _ | refine blk_drew ?_ | refine blk_alloc ?_ _)); refine blk_far ?_ NB142_148.out _; (with_reducible repeat (first | refine blk_drewN ?_ _ | refine blk_drew ?_ | refine blk_alloc ?_ _)); refine blk_far ?_ NB142_148.out _; (with_reducible repeat (first | refine blk_drewN ?_ _ | refine blk_drew ?_ | refine blk_alloc ?_ _)); exact BK142.out) hb); have n3_ := Aside0.mk (blk_below (g := gb148) (o := .cells #[.int .i64 t145, .int .i64 t146, .string t147] 24 (0, 0)) (by (with_reducible repeat (first | refine blk_drewN ?_ _ | refine blk_drew ?_ | refine blk_alloc ?_ _)); refine blk_put (cs := #[.int .i64 t145, .int .i64 t146, .string (⟨#[]⟩ : ByteArray)]) ?_ 2 _ rfl; (with_reducible repeat (first | refine blk_drewN ?_ _ | refine blk_drew ?_ | refine blk_alloc ?_ _)); refine blk_put (cs := #[.int .i64 t145, .int .i64 0, .string (⟨#[]⟩ : ByteArray)]) ?_ 1 _ rfl; (with_reducible repeat (first | refine blk_drewN ?_ _ | refine blk_drew ?_ | refine blk_alloc ?_ _)); refine blk_put (cs := #[.int .i64 0, .int .i64 0, .string (⟨#[]⟩ : ByteArray)]) ?_ 0 _ rfl; (with_reducible repeat (first | refine blk_drewN ?_ _ | refine blk_drew ?_ | refine blk_alloc ?_ _)); exact BK148.out) hb); have n4_ := Aside0.mk (below_step (bel_ HB.out) hb); clear BK129; clear BK141; clear BK142; clear BK148; clear HB; have BK129 := n0_; have BK141 := n1_; have BK142 := n2_; have BK148 := n3_; have HB := n4_; clear n0_ n1_ n2_ n3_ n4_; (try clear hb); (try clear hb2); (try clear hk); (try clear hi)) | ((with_reducible refine gate_dst (N := 10) rfl ?_); refine box_event ?hg (N := 10) ?hd (cs := #[.int .i64 0, .int .i64 0, .string (⟨#[]⟩ : ByteArray)]) (t := 24) ?hr ?_; (case hd => rfl); (case hg => rfl); (case hr => first | (go_simp; done) | (go_simp; rfl)); intro gb153 hg w64 hbox hb; have n0_ := Aside0.mk (bb_ BK129.out hb); have n1_ := Aside0.mk (bb_ BK141.out hb); have n2_ := Aside0.mk (bb_ BK142.out hb); have n3_ := Aside0.mk (bb_ BK148.out hb); have n4_ := Aside0.mk (below_step (bel_ HB.out) hb); have n5_ := Aside0.mk (hbox); have n6_ := Aside0.mk (bz_ hg (bel_ HB.out)); have n7_ := Aside0.mk (bz_ hg (bel_ HB.out)); have n8_ := Aside0.mk (nl_ hg BK129.out); have n9_ := Aside0.mk (ng_ hg BK129.out); have n10_ := Aside0.mk (nl_ hg BK141.out); have n11_ := Aside0.mk (ng_ hg BK141.out); have n12_ := Aside0.mk (nl_ hg BK142.out); have n13_ := Aside0.mk (ng_ hg BK142.out); have n14_ := Aside0.mk (nl_ hg BK148.out); have n15_ := Aside0.mk (ng_ hg BK148.out); clear BK129; clear BK141; clear BK142; clear BK148; clear HB; have BK129 := n0_; have BK141 := n1_; have BK142 := n2_; have BK148 := n3_; have HB := n4_; have BK153 := n5_; have GW153 := n6_; have GE153 := n7_; have NB129_153 := n8_; have NB153_129 := n9_; have NB141_153 := n10_; have NB153_141 := n11_; have NB142_153 := n12_; have NB153_142 := n13_; have NB148_153 := n14_; have NB153_148 := n15_; clear n0_ n1_ n2_ n3_ n4_ n5_ n6_ n7_ n8_ n9_ n10_ n11_ n12_ n13_ n14_ n15_; clear hb hbox hg; have hnb65 := NB153_129.out; have hnc65 := NB129_153.out; have hnb66 := NB153_141.out; have hnc66 := NB141_153.out; have hnb67 := NB153_142.out; have hnc67 := NB142_153.out; have hnb68 := NB153_148.out; have hnc68 := NB148_153.out; have hcz69_0 : w64.cell? ⟨gb153, 0, none⟩ = some (.int .i64 0) := (blk_cell BK153.out 0).trans rfl; have hcz69_1 : w64.cell? ⟨gb153, 1, none⟩ = some (.int .i64 0) := (blk_cell BK153.out 1).trans rfl; have hcz69_2 : w64.cell? ⟨gb153, 2, none⟩ = some (.string (⟨#[]⟩ : ByteArray)) := (blk_cell BK153.out 2).trans rfl; have hfz69_0 := blk_frozen BK153.out 0; have hfz69_1 := blk_frozen BK153.out 1; have hfz69_2 := blk_frozen BK153.out 2; have hcz70_0 : w64.cell? ⟨gb142, 0, none⟩ = some (.int .i64 t138) := (blk_cell BK142.out 0).trans rfl; have hcz70_1 : w64.cell? ⟨gb142, 1, none⟩ = some (.int .i64 t139) := (blk_cell BK142.out 1).trans rfl; have hcz70_2 : w64.cell? ⟨gb142, 2, none⟩ = some (.string t140) := (blk_cell BK142.out 2).trans rfl; have hfz70_0 := blk_frozen BK142.out 0; have hfz70_1 := blk_frozen BK142.out 1; have hfz70_2 := blk_frozen BK142.out 2; have hnb71 := NB148_129.out; have hnc71 := NB129_148.out; have hcz72_0 : w64.cell? ⟨gb148, 0, none⟩ = some (.int .i64 t145) := (blk_cell BK148.out 0).trans rfl; have hcz72_1 : w64.cell? ⟨gb148, 1, none⟩ = some (.int .i64 t146) := (blk_cell BK148.out 1).trans rfl; have hcz72_2 : w64.cell? ⟨gb148, 2, none⟩ = some (.string t147) := (blk_cell BK148.out 2).trans rfl; have hfz72_0 := blk_frozen BK148.out 0; have hfz72_1 := blk_frozen BK148.out 1; have hfz72_2 := blk_frozen BK148.out 2) | ((with_reducible refine gate_callee (f := 21) rfl ?_); refine goesL_ (some 64) rfl rfl Try.func21 (by kernel_rfl) rfl #[.agg #[.int .i64 t138, .int .i64 t139, .string t140], .agg #[.int .i64 t145, .int .i64 t146, .string t147]] rfl gl_ ?_; (with_reducible refine (matrix_Mul.calls t138 t139 t140 t145 t146 t147 t154 t155 t156 t157 _ A17.out).mono ?_); rintro e w73 ⟨rfl, hb⟩; refine ⟨_, rfl, ?_⟩; have n0_ := Aside0.mk (blk_below (g := gb129) (o := .cells #[.int .i64 a0_0, .int .i64 a0_1, .int .i64 a0_2] 39 (0, 0)) (by (with_reducible repeat (first | refine blk_drewN ?_ _ | refine blk_drew ?_ | refine blk_alloc ?_ _)); refine blk_far ?_ NB129_153.out _; (with_reducible repeat (first | refine blk_drewN ?_ _ | refine blk_drew ?_ | refine blk_alloc ?_ _)); refine blk_far ?_ NB129_153.out _; (with_reducible repeat (first | refine blk_drewN ?_ _ | refine blk_drew ?_ | refine blk_alloc ?_ _)); refine blk_far ?_ NB129_153.out _; (with_reducible repeat (first | refine blk_drewN ?_ _ | refine blk_drew ?_ | refine blk_alloc ?_ _)); exact BK129.out) hb); have n1_ := Aside0.mk (blk_below (g := gb141) (o := .cells #[.int .i64 t133, .int .i64 t134, .string t135] 24 (0, 0)) (by (with_reducible repeat (first | refine blk_drewN ?_ _ | refine blk_drew ?_ | refine blk_alloc ?_ _)); refine blk_far ?_ NB141_153.out _; (with_reducible repeat (first | refine blk_drewN ?_ _ | refine blk_drew ?_ | refine blk_alloc ?_ _)); refine blk_far ?_ NB141_153.out _; (with_reducible repeat (first | refine blk_drewN ?_ _ | refine blk_drew ?_ | refine blk_alloc ?_ _)); refine blk_far ?_ NB141_153.out _; (with_reducible repeat (first | refine blk_drewN ?_ _ | refine blk_drew ?_ | refine blk_alloc ?_ _)); exact BK141.out) hb); have n2_ := Aside0.mk (blk_below (g := gb142) (o := .cells #[.int .i64 t138, .int .i64 t139, .string t140] 24 (0, 0)) (by (with_reducible repeat (first | refine blk_drewN ?_ _ | refine blk_drew ?_ | refine blk_alloc ?_ _)); refine blk_far ?_ NB142_153.out _; (with_reducible repeat (first | refine blk_drewN ?_ _ | refine blk_drew ?_ | refine blk_alloc ?_ _)); refine blk_far ?_ NB142_153.out _; (with_reducible repeat (first | refine blk_drewN ?_ _ | refine blk_drew ?_ | refine blk_alloc ?_ _)); refine blk_far ?_ NB142_153.out _; (with_reducible repeat (first | refine blk_drewN ?_ _ | refine blk_drew ?_ | refine blk_alloc ?_ _)); exact BK142.out) hb); have n3_ := Aside0.mk (blk_below (g := gb148) (o := .cells #[.int .i64 t145, .int .i64 t146, .string t147] 24 (0, 0)) (by (with_reducible repeat (first | refine blk_drewN ?_ _ | refine blk_drew ?_ | refine blk_alloc ?_ _)); refine blk_far ?_ NB148_153.out _; (with_reducible repeat (first | refine blk_drewN ?_ _ | refine blk_drew ?_ | refine blk_alloc ?_ _)); refine blk_far ?_ NB148_153.out _; (with_reducible repeat (first | refine blk_drewN ?_ _ | refine blk_drew ?_ | refine blk_alloc ?_ _)); refine blk_far ?_ NB148_153.out _; (with_reducible repeat (first | refine blk_drewN ?_ _ | refine blk_drew ?_ | refine blk_alloc ?_ _)); exact BK148.out) hb); have n4_ := Aside0.mk (blk_below (g := gb153) (o := .cells #[.int .i64 t149, .int .i64 t150, .string t151] 24 (0, 0)) (by (with_reducible repeat (first | refine blk_drewN ?_ _ | refine blk_drew ?_ | refine blk_alloc ?_ _)); refine blk_put (cs := #[.int .i64 t149, .int .i64 t150, .string (⟨#[]⟩ : ByteArray)]) ?_ 2 _ rfl; (with_reducible repeat (first | refine blk_drewN ?_ _ | refine blk_drew ?_ | refine blk_alloc ?_ _)); refine blk_put (cs := #[.int .i64 t149, .int .i64 0, .string (⟨#[]⟩ : ByteArray)]) ?_ 1 _ rfl; (with_reducible repeat (first | refine blk_drewN ?_ _ | refine blk_drew ?_ | refine blk_alloc ?_ _)); refine blk_put (cs := #[.int .i64 0, .int .i64 0, .string (⟨#[]⟩ : ByteArray)]) ?_ 0 _ rfl; (with_reducible repeat (first | refine blk_drewN ?_ _ | refine blk_drew ?_ | refine blk_alloc ?_ _)); exact BK153.out) hb); have n5_ := Aside0.mk (below_step (bel_ HB.out) hb); clear BK129; clear BK141; clear BK142; clear BK148; clear BK153; clear HB; have BK129 := n0_; have BK141 := n1_; have BK142 := n2_; have BK148 := n3_; have BK153 := n4_; have HB := n5_; clear n0_ n1_ n2_ n3_ n4_ n5_; (try clear hb); (try clear hb2); (try clear hk); (try clear hi)) | ((with_reducible refine gate_dst (N := 12) rfl ?_); refine box_event ?hg (N := 12) ?hd (cs := #[.int .i64 0, .int .i64 0, .string (⟨#[]⟩ : ByteArray)]) (t := 24) ?hr ?_; (case hd => rfl); (case hg => rfl); (case hr => first | (go_simp; done) | (go_simp; rfl)); intro gb158 hg w74 hbox hb; have n0_ := Aside0.mk (bb_ BK129.out hb); have n1_ := Aside0.mk (bb_ BK141.out hb); have n2_ := Aside0.mk (bb_ BK142.out hb); have n3_ := Aside0.mk (bb_ BK148.out hb); have n4_ := Aside0.mk (bb_ BK153.out hb); have n5_ := Aside0.mk (below_step (bel_ HB.out) hb); have n6_ := Aside0.mk (hbox); have n7_ := Aside0.mk (bz_ hg (bel_ HB.out)); have n8_ := Aside0.mk (bz_ hg (bel_ HB.out)); have n9_ := Aside0.mk (nl_ hg BK129.out); have n10_ := Aside0.mk (ng_ hg BK129.out); have n11_ := Aside0.mk (nl_ hg BK141.out); have n12_ := Aside0.mk (ng_ hg BK141.out); have n13_ := Aside0.mk (nl_ hg BK142.out); have n14_ := Aside0.mk (ng_ hg BK142.out); have n15_ := Aside0.mk (nl_ hg BK148.out); have n16_ := Aside0.mk (ng_ hg BK148.out); have n17_ := Aside0.mk (nl_ hg BK153.out); have n18_ := Aside0.mk (ng_ hg BK153.out); clear BK129; clear BK141; clear BK142; clear BK148; clear BK153; clear HB; have BK129 := n0_; have BK141 := n1_; have BK142 := n2_; have BK148 := n3_; have BK153 := n4_; have HB := n5_; have BK158 := n6_; have GW158 := n7_; have GE158 := n8_; have NB129_158 := n9_; have NB158_129 := n10_; have NB141_158 := n11_; have NB158_141 := n12_; have NB142_158 := n13_; have NB158_142 := n14_; have NB148_158 := n15_; have NB158_148 := n16_; have NB153_158 := n17_; have NB158_153 := n18_; clear n0_ n1_ n2_ n3_ n4_ n5_ n6_ n7_ n8_ n9_ n10_ n11_ n12_ n13_ n14_ n15_ n16_ n17_ n18_; clear hb hbox hg; have hnb75 := NB158_129.out; have hnc75 := NB129_158.out; have hnb76 := NB158_141.out; have hnc76 := NB141_158.out; have hnb77 := NB158_142.out; have hnc77 := NB142_158.out; have hnb78 := NB158_148.out; have hnc78 := NB148_158.out; have hnb79 := NB158_153.out; have hnc79 := NB153_158.out; have hcz80_0 : w74.cell? ⟨gb158, 0, none⟩ = some (.int .i64 0) := (blk_cell BK158.out 0).trans rfl; have hcz80_1 : w74.cell? ⟨gb158, 1, none⟩ = some (.int .i64 0) := (blk_cell BK158.out 1).trans rfl; have hcz80_2 : w74.cell? ⟨gb158, 2, none⟩ = some (.string (⟨#[]⟩ : ByteArray)) := (blk_cell BK158.out 2).trans rfl; have hfz80_0 := blk_frozen BK158.out 0; have hfz80_1 := blk_frozen BK158.out 1; have hfz80_2 := blk_frozen BK158.out 2; have hcz81_0 : w74.cell? ⟨gb153, 0, none⟩ = some (.int .i64 t149) := (blk_cell BK153.out 0).trans rfl; have hcz81_1 : w74.cell? ⟨gb153, 1, none⟩ = some (.int .i64 t150) := (blk_cell BK153.out 1).trans rfl; have hcz81_2 : w74.cell? ⟨gb153, 2, none⟩ = some (.string t151) := (blk_cell BK153.out 2).trans rfl; have hfz81_0 := blk_frozen BK153.out 0; have hfz81_1 := blk_frozen BK153.out 1; have hfz81_2 := blk_frozen BK153.out 2; have hcz82_0 : w74.cell? ⟨gb148, 0, none⟩ = some (.int .i64 t145) := (blk_cell BK148.out 0).trans rfl; have hcz82_1 : w74.cell? ⟨gb148, 1, none⟩ = some (.int .i64 t146) := (blk_cell BK148.out 1).trans rfl; have hcz82_2 : w74.cell? ⟨gb148, 2, none⟩ = some (.string t147) := (blk_cell BK148.out 2).trans rfl; have hfz82_0 := blk_frozen BK148.out 0; have hfz82_1 := blk_frozen BK148.out 1; have hfz82_2 := blk_frozen BK148.out 2) | ((with_reducible refine gate_callee (f := 21) rfl ?_); refine goesL_ (some 70) rfl rfl Try.func21 (by kernel_rfl) rfl #[.agg #[.int .i64 t149, .int .i64 t150, .string t151], .agg #[.int .i64 t145, .int .i64 t146, .string t147]] rfl gl_ ?_; (with_reducible refine (matrix_Mul.calls t149 t150 t151 t145 t146 t147 t159 t160 t161 t162 _ A18.out).mono ?_); rintro e w83 ⟨rfl, hb⟩; refine ⟨_, rfl, ?_⟩; have n0_ := Aside0.mk (blk_below (g := gb129) (o := .cells #[.int .i64 a0_0, .int .i64 a0_1, .int .i64 a0_2] 39 (0, 0)) (by (with_reducible repeat (first | refine blk_drewN ?_ _ | refine blk_drew ?_ | refine blk_alloc ?_ _)); refine blk_far ?_ NB129_158.out _; (with_reducible repeat (first | refine blk_drewN ?_ _ | refine blk_drew ?_ | refine blk_alloc ?_ _)); refine blk_far ?_ NB129_158.out _; (with_reducible repeat (first | refine blk_drewN ?_ _ | refine blk_drew ?_ | refine blk_alloc ?_ _)); refine blk_far ?_ NB129_158.out _; (with_reducible repeat (first | refine blk_drewN ?_ _ | refine blk_drew ?_ | refine blk_alloc ?_ _)); exact BK129.out) hb); have n1_ := Aside0.mk (blk_below (g := gb141) (o := .cells #[.int .i64 t133, .int .i64 t134, .string t135] 24 (0, 0)) (by (with_reducible repeat (first | refine blk_drewN ?_ _ | refine blk_drew ?_ | refine blk_alloc ?_ _)); refine blk_far ?_ NB141_158.out _; (with_reducible repeat (first | refine blk_drewN ?_ _ | refine blk_drew ?_ | refine blk_alloc ?_ _)); refine blk_far ?_ NB141_158.out _; (with_reducible repeat (first | refine blk_drewN ?_ _ | refine blk_drew ?_ | refine blk_alloc ?_ _)); refine blk_far ?_ NB141_158.out _; (with_reducible repeat (first | refine blk_drewN ?_ _ | refine blk_drew ?_ | refine blk_alloc ?_ _)); exact BK141.out) hb); have n2_ := Aside0.mk (blk_below (g := gb142) (o := .cells #[.int .i64 t138, .int .i64 t139, .string t140] 24 (0, 0)) (by (with_reducible repeat (first | refine blk_drewN ?_ _ | refine blk_drew ?_ | refine blk_alloc ?_ _)); refine blk_far ?_ NB142_158.out _; (with_reducible repeat (first | refine blk_drewN ?_ _ | refine blk_drew ?_ | refine blk_alloc ?_ _)); refine blk_far ?_ NB142_158.out _; (with_reducible repeat (first | refine blk_drewN ?_ _ | refine blk_drew ?_ | refine blk_alloc ?_ _)); refine blk_far ?_ NB142_158.out _; (with_reducible repeat (first | refine blk_drewN ?_ _ | refine blk_drew ?_ | refine blk_alloc ?_ _)); exact BK142.out) hb); have n3_ := Aside0.mk (blk_below (g := gb148) (o := .cells #[.int .i64 t145, .int .i64 t146, .string t147] 24 (0, 0)) (by (with_reducible repeat (first | refine blk_drewN ?_ _ | refine blk_drew ?_ | refine blk_alloc ?_ _)); refine blk_far ?_ NB148_158.out _; (with_reducible repeat (first | refine blk_drewN ?_ _ | refine blk_drew ?_ | refine blk_alloc ?_ _)); refine blk_far ?_ NB148_158.out _; (with_reducible repeat (first | refine blk_drewN ?_ _ | refine blk_drew ?_ | refine blk_alloc ?_ _)); refine blk_far ?_ NB148_158.out _; (with_reducible repeat (first | refine blk_drewN ?_ _ | refine blk_drew ?_ | refine blk_alloc ?_ _)); exact BK148.out) hb); have n4_ := Aside0.mk (blk_below (g := gb153) (o := .cells #[.int .i64 t149, .int .i64 t150, .string t151] 24 (0, 0)) (by (with_reducible repeat (first | refine blk_drewN ?_ _ | refine blk_drew ?_ | refine blk_alloc ?_ _)); refine blk_far ?_ NB153_158.out _; (with_reducible repeat (first | refine blk_drewN ?_ _ | refine blk_drew ?_ | refine blk_alloc ?_ _)); refine blk_far ?_ NB153_158.out _; (with_reducible repeat (first | refine blk_drewN ?_ _ | refine blk_drew ?_ | refine blk_alloc ?_ _)); refine blk_far ?_ NB153_158.out _; (with_reducible repeat (first | refine blk_drewN ?_ _ | refine blk_drew ?_ | refine blk_alloc ?_ _)); exact BK153.out) hb); have n5_ := Aside0.mk (blk_below (g := gb158) (o := .cells #[.int .i64 t154, .int .i64 t155, .string t156] 24 (0, 0)) (by (with_reducible repeat (first | refine blk_drewN ?_ _ | refine blk_drew ?_ | refine blk_alloc ?_ _)); refine blk_put (cs := #[.int .i64 t154, .int .i64 t155, .string (⟨#[]⟩ : ByteArray)]) ?_ 2 _ rfl; (with_reducible repeat (first | refine blk_drewN ?_ _ | refine blk_drew ?_ | refine blk_alloc ?_ _)); refine blk_put (cs := #[.int .i64 t154, .int .i64 0, .string (⟨#[]⟩ : ByteArray)]) ?_ 1 _ rfl; (with_reducible repeat (first | refine blk_drewN ?_ _ | refine blk_drew ?_ | refine blk_alloc ?_ _)); refine blk_put (cs := #[.int .i64 0, .int .i64 0, .string (⟨#[]⟩ : ByteArray)]) ?_ 0 _ rfl; (with_reducible repeat (first | refine blk_drewN ?_ _ | refine blk_drew ?_ | refine blk_alloc ?_ _)); exact BK158.out) hb); have n6_ := Aside0.mk (below_step (bel_ HB.out) hb); clear BK129; clear BK141; clear BK142; clear BK148; clear BK153; clear BK158; clear HB; have BK129 := n0_; have BK141 := n1_; have BK142 := n2_; have BK148 := n3_; have BK153 := n4_; have BK158 := n5_; have HB := n6_; clear n0_ n1_ n2_ n3_ n4_ n5_ n6_; (try clear hb); (try clear hb2); (try clear hk); (try clear hi)) | ((with_reducible refine gate_dst (N := 14) rfl ?_); refine box_event ?hg (N := 14) ?hd (cs := #[.int .i64 0, .int .i64 0, .string (⟨#[]⟩ : ByteArray)]) (t := 24) ?hr ?_; (case hd => rfl); (case hg => rfl); (case hr => first | (go_simp; done) | (go_simp; rfl)); intro gb163 hg w84 hbox hb; have n0_ := Aside0.mk (bb_ BK129.out hb); have n1_ := Aside0.mk (bb_ BK141.out hb); have n2_ := Aside0.mk (bb_ BK142.out hb); have n3_ := Aside0.mk (bb_ BK148.out hb); have n4_ := Aside0.mk (bb_ BK153.out hb); have n5_ := Aside0.mk (bb_ BK158.out hb); have n6_ := Aside0.mk (below_step (bel_ HB.out) hb); have n7_ := Aside0.mk (hbox); have n8_ := Aside0.mk (bz_ hg (bel_ HB.out)); have n9_ := Aside0.mk (bz_ hg (bel_ HB.out)); have n10_ := Aside0.mk (nl_ hg BK129.out); have n11_ := Aside0.mk (ng_ hg BK129.out); have n12_ := Aside0.mk (nl_ hg BK141.out); have n13_ := Aside0.mk (ng_ hg BK141.out); have n14_ := Aside0.mk (nl_ hg BK142.out); have n15_ := Aside0.mk (ng_ hg BK142.out); have n16_ := Aside0.mk (nl_ hg BK148.out); have n17_ := Aside0.mk (ng_ hg BK148.out); have n18_ := Aside0.mk (nl_ hg BK153.out); have n19_ := Aside0.mk (ng_ hg BK153.out); have n20_ := Aside0.mk (nl_ hg BK158.out); have n21_ := Aside0.mk (ng_ hg BK158.out); clear BK129; clear BK141; clear BK142; clear BK148; clear BK153; clear BK158; clear HB; have BK129 := n0_; have BK141 := n1_; have BK142 := n2_; have BK148 := n3_; have BK153 := n4_; have BK158 := n5_; have HB := n6_; have BK163 := n7_; have GW163 := n8_; have GE163 := n9_; have NB129_163 := n10_; have NB163_129 := n11_; have NB141_163 := n12_; have NB163_141 := n13_; have NB142_163 := n14_; have NB163_142 := n15_; have NB148_163 := n16_; have NB163_148 := n17_; have NB153_163 := n18_; have NB163_153 := n19_; have NB158_163 := n20_; have NB163_158 := n21_; clear n0_ n1_ n2_ n3_ n4_ n5_ n6_ n7_ n8_ n9_ n10_ n11_ n12_ n13_ n14_ n15_ n16_ n17_ n18_ n19_ n20_ n21_; clear hb hbox hg; have hnb85 := NB163_129.out; have hnc85 := NB129_163.out; have hnb86 := NB163_141.out; have hnc86 := NB141_163.out; have hnb87 := NB163_142.out; have hnc87 := NB142_163.out; have hnb88 := NB163_148.out; have hnc88 := NB148_163.out; have hnb89 := NB163_153.out; have hnc89 := NB153_163.out; have hnb90 := NB163_158.out; have hnc90 := NB158_163.out; have hcz91_0 : w84.cell? ⟨gb163, 0, none⟩ = some (.int .i64 0) := (blk_cell BK163.out 0).trans rfl; have hcz91_1 : w84.cell? ⟨gb163, 1, none⟩ = some (.int .i64 0) := (blk_cell BK163.out 1).trans rfl; have hcz91_2 : w84.cell? ⟨gb163, 2, none⟩ = some (.string (⟨#[]⟩ : ByteArray)) := (blk_cell BK163.out 2).trans rfl; have hfz91_0 := blk_frozen BK163.out 0; have hfz91_1 := blk_frozen BK163.out 1; have hfz91_2 := blk_frozen BK163.out 2; have hcz92_0 : w84.cell? ⟨gb141, 0, none⟩ = some (.int .i64 t133) := (blk_cell BK141.out 0).trans rfl; have hcz92_1 : w84.cell? ⟨gb141, 1, none⟩ = some (.int .i64 t134) := (blk_cell BK141.out 1).trans rfl; have hcz92_2 : w84.cell? ⟨gb141, 2, none⟩ = some (.string t135) := (blk_cell BK141.out 2).trans rfl; have hfz92_0 := blk_frozen BK141.out 0; have hfz92_1 := blk_frozen BK141.out 1; have hfz92_2 := blk_frozen BK141.out 2; have hcz93_0 : w84.cell? ⟨gb158, 0, none⟩ = some (.int .i64 t154) := (blk_cell BK158.out 0).trans rfl; have hcz93_1 : w84.cell? ⟨gb158, 1, none⟩ = some (.int .i64 t155) := (blk_cell BK158.out 1).trans rfl; have hcz93_2 : w84.cell? ⟨gb158, 2, none⟩ = some (.string t156) := (blk_cell BK158.out 2).trans rfl; have hfz93_0 := blk_frozen BK158.out 0; have hfz93_1 := blk_frozen BK158.out 1; have hfz93_2 := blk_frozen BK158.out 2) | ((with_reducible refine gate_callee (f := 21) rfl ?_); refine goesL_ (some 76) rfl rfl Try.func21 (by kernel_rfl) rfl #[.agg #[.int .i64 t133, .int .i64 t134, .string t135], .agg #[.int .i64 t154, .int .i64 t155, .string t156]] rfl gl_ ?_; (with_reducible refine (matrix_Mul.calls t133 t134 t135 t154 t155 t156 t164 t165 t166 t167 _ A19.out).mono ?_); rintro e w94 ⟨rfl, hb⟩; refine ⟨_, rfl, ?_⟩; have n0_ := Aside0.mk (blk_below (g := gb129) (o := .cells #[.int .i64 a0_0, .int .i64 a0_1, .int .i64 a0_2] 39 (0, 0)) (by (with_reducible repeat (first | refine blk_drewN ?_ _ | refine blk_drew ?_ | refine blk_alloc ?_ _)); refine blk_far ?_ NB129_163.out _; (with_reducible repeat (first | refine blk_drewN ?_ _ | refine blk_drew ?_ | refine blk_alloc ?_ _)); refine blk_far ?_ NB129_163.out _; (with_reducible repeat (first | refine blk_drewN ?_ _ | refine blk_drew ?_ | refine blk_alloc ?_ _)); refine blk_far ?_ NB129_163.out _; (with_reducible repeat (first | refine blk_drewN ?_ _ | refine blk_drew ?_ | refine blk_alloc ?_ _)); exact BK129.out) hb); have n1_ := Aside0.mk (blk_below (g := gb141) (o := .cells #[.int .i64 t133, .int .i64 t134, .string t135] 24 (0, 0)) (by (with_reducible repeat (first | refine blk_drewN ?_ _ | refine blk_drew ?_ | refine blk_alloc ?_ _)); refine blk_far ?_ NB141_163.out _; (with_reducible repeat (first | refine blk_drewN ?_ _ | refine blk_drew ?_ | refine blk_alloc ?_ _)); refine blk_far ?_ NB141_163.out _; (with_reducible repeat (first | refine blk_drewN ?_ _ | refine blk_drew ?_ | refine blk_alloc ?_ _)); refine blk_far ?_ NB141_163.out _; (with_reducible repeat (first | refine blk_drewN ?_ _ | refine blk_drew ?_ | refine blk_alloc ?_ _)); exact BK141.out) hb); have n2_ := Aside0.mk (blk_below (g := gb142) (o := .cells #[.int .i64 t138, .int .i64 t139, .string t140] 24 (0, 0)) (by (with_reducible repeat (first | refine blk_drewN ?_ _ | refine blk_drew ?_ | refine blk_alloc ?_ _)); refine blk_far ?_ NB142_163.out _; (with_reducible repeat (first | refine blk_drewN ?_ _ | refine blk_drew ?_ | refine blk_alloc ?_ _)); refine blk_far ?_ NB142_163.out _; (with_reducible repeat (first | refine blk_drewN ?_ _ | refine blk_drew ?_ | refine blk_alloc ?_ _)); refine blk_far ?_ NB142_163.out _; (with_reducible repeat (first | refine blk_drewN ?_ _ | refine blk_drew ?_ | refine blk_alloc ?_ _)); exact BK142.out) hb); have n3_ := Aside0.mk (blk_below (g := gb148) (o := .cells #[.int .i64 t145, .int .i64 t146, .string t147] 24 (0, 0)) (by (with_reducible repeat (first | refine blk_drewN ?_ _ | refine blk_drew ?_ | refine blk_alloc ?_ _)); refine blk_far ?_ NB148_163.out _; (with_reducible repeat (first | refine blk_drewN ?_ _ | refine blk_drew ?_ | refine blk_alloc ?_ _)); refine blk_far ?_ NB148_163.out _; (with_reducible repeat (first | refine blk_drewN ?_ _ | refine blk_drew ?_ | refine blk_alloc ?_ _)); refine blk_far ?_ NB148_163.out _; (with_reducible repeat (first | refine blk_drewN ?_ _ | refine blk_drew ?_ | refine blk_alloc ?_ _)); exact BK148.out) hb); have n4_ := Aside0.mk (blk_below (g := gb153) (o := .cells #[.int .i64 t149, .int .i64 t150, .string t151] 24 (0, 0)) (by (with_reducible repeat (first | refine blk_drewN ?_ _ | refine blk_drew ?_ | refine blk_alloc ?_ _)); refine blk_far ?_ NB153_163.out _; (with_reducible repeat (first | refine blk_drewN ?_ _ | refine blk_drew ?_ | refine blk_alloc ?_ _)); refine blk_far ?_ NB153_163.out _; (with_reducible repeat (first | refine blk_drewN ?_ _ | refine blk_drew ?_ | refine blk_alloc ?_ _)); refine blk_far ?_ NB153_163.out _; (with_reducible repeat (first | refine blk_drewN ?_ _ | refine blk_drew ?_ | refine blk_alloc ?_ _)); exact BK153.out) hb); have n5_ := Aside0.mk (blk_below (g := gb158) (o := .cells #[.int .i64 t154, .int .i64 t155, .string t156] 24 (0, 0)) (by (with_reducible repeat (first | refine blk_drewN ?_ _ | refine blk_drew ?_ | refine blk_alloc ?_ _)); refine blk_far ?_ NB158_163.out _; (with_reducible repeat (first | refine blk_drewN ?_ _ | refine blk_drew ?_ | refine blk_alloc ?_ _)); refine blk_far ?_ NB158_163.out _; (with_reducible repeat (first | refine blk_drewN ?_ _ | refine blk_drew ?_ | refine blk_alloc ?_ _)); refine blk_far ?_ NB158_163.out _; (with_reducible repeat (first | refine blk_drewN ?_ _ | refine blk_drew ?_ | refine blk_alloc ?_ _)); exact BK158.out) hb); have n6_ := Aside0.mk (blk_below (g := gb163) (o := .cells #[.int .i64 t159, .int .i64 t160, .string t161] 24 (0, 0)) (by (with_reducible repeat (first | refine blk_drewN ?_ _ | refine blk_drew ?_ | refine blk_alloc ?_ _)); refine blk_put (cs := #[.int .i64 t159, .int .i64 t160, .string (⟨#[]⟩ : ByteArray)]) ?_ 2 _ rfl; (with_reducible repeat (first | refine blk_drewN ?_ _ | refine blk_drew ?_ | refine blk_alloc ?_ _)); refine blk_put (cs := #[.int .i64 t159, .int .i64 0, .string (⟨#[]⟩ : ByteArray)]) ?_ 1 _ rfl; (with_reducible repeat (first | refine blk_drewN ?_ _ | refine blk_drew ?_ | refine blk_alloc ?_ _)); refine blk_put (cs := #[.int .i64 0, .int .i64 0, .string (⟨#[]⟩ : ByteArray)]) ?_ 0 _ rfl; (with_reducible repeat (first | refine blk_drewN ?_ _ | refine blk_drew ?_ | refine blk_alloc ?_ _)); exact BK163.out) hb); have n7_ := Aside0.mk (below_step (bel_ HB.out) hb); clear BK129; clear BK141; clear BK142; clear BK148; clear BK153; clear BK158; clear BK163; clear HB; have BK129 := n0_; have BK141 := n1_; have BK142 := n2_; have BK148 := n3_; have BK153 := n4_; have BK158 := n5_; have BK163 := n6_; have HB := n7_; clear n0_ n1_ n2_ n3_ n4_ n5_ n6_ n7_; (try clear hb); (try clear hb2); (try clear hk); (try clear hi)) | ((with_reducible refine gate_dst (N := 16) rfl ?_); refine box_event ?hg (N := 16) ?hd (cs := #[.int .i64 0, .int .i64 0, .string (⟨#[]⟩ : ByteArray)]) (t := 24) ?hr ?_; (case hd => rfl); (case hg => rfl); (case hr => first | (go_simp; done) | (go_simp; rfl)); intro gb168 hg w95 hbox hb; have n0_ := Aside0.mk (bb_ BK129.out hb); have n1_ := Aside0.mk (bb_ BK141.out hb); have n2_ := Aside0.mk (bb_ BK142.out hb); have n3_ := Aside0.mk (bb_ BK148.out hb); have n4_ := Aside0.mk (bb_ BK153.out hb); have n5_ := Aside0.mk (bb_ BK158.out hb); have n6_ := Aside0.mk (bb_ BK163.out hb); have n7_ := Aside0.mk (below_step (bel_ HB.out) hb); have n8_ := Aside0.mk (hbox); have n9_ := Aside0.mk (bz_ hg (bel_ HB.out)); have n10_ := Aside0.mk (bz_ hg (bel_ HB.out)); have n11_ := Aside0.mk (nl_ hg BK129.out); have n12_ := Aside0.mk (ng_ hg BK129.out); have n13_ := Aside0.mk (nl_ hg BK141.out); have n14_ := Aside0.mk (ng_ hg BK141.out); have n15_ := Aside0.mk (nl_ hg BK142.out); have n16_ := Aside0.mk (ng_ hg BK142.out); have n17_ := Aside0.mk (nl_ hg BK148.out); have n18_ := Aside0.mk (ng_ hg BK148.out); have n19_ := Aside0.mk (nl_ hg BK153.out); have n20_ := Aside0.mk (ng_ hg BK153.out); have n21_ := Aside0.mk (nl_ hg BK158.out); have n22_ := Aside0.mk (ng_ hg BK158.out); have n23_ := Aside0.mk (nl_ hg BK163.out); have n24_ := Aside0.mk (ng_ hg BK163.out); clear BK129; clear BK141; clear BK142; clear BK148; clear BK153; clear BK158; clear BK163; clear HB; have BK129 := n0_; have BK141 := n1_; have BK142 := n2_; have BK148 := n3_; have BK153 := n4_; have BK158 := n5_; have BK163 := n6_; have HB := n7_; have BK168 := n8_; have GW168 := n9_; have GE168 := n10_; have NB129_168 := n11_; have NB168_129 := n12_; have NB141_168 := n13_; have NB168_141 := n14_; have NB142_168 := n15_; have NB168_142 := n16_; have NB148_168 := n17_; have NB168_148 := n18_; have NB153_168 := n19_; have NB168_153 := n20_; have NB158_168 := n21_; have NB168_158 := n22_; have NB163_168 := n23_; have NB168_163 := n24_; clear n0_ n1_ n2_ n3_ n4_ n5_ n6_ n7_ n8_ n9_ n10_ n11_ n12_ n13_ n14_ n15_ n16_ n17_ n18_ n19_ n20_ n21_ n22_ n23_ n24_; clear hb hbox hg; have hnb96 := NB168_129.out; have hnc96 := NB129_168.out; have hnb97 := NB168_141.out; have hnc97 := NB141_168.out; have hnb98 := NB168_142.out; have hnc98 := NB142_168.out; have hnb99 := NB168_148.out; have hnc99 := NB148_168.out; have hnb100 := NB168_153.out; have hnc100 := NB153_168.out; have hnb101 := NB168_158.out; have hnc101 := NB158_168.out; have hnb102 := NB168_163.out; have hnc102 := NB163_168.out; have hcz103_0 : w95.cell? ⟨gb168, 0, none⟩ = some (.int .i64 0) := (blk_cell BK168.out 0).trans rfl; have hcz103_1 : w95.cell? ⟨gb168, 1, none⟩ = some (.int .i64 0) := (blk_cell BK168.out 1).trans rfl; have hcz103_2 : w95.cell? ⟨gb168, 2, none⟩ = some (.string (⟨#[]⟩ : ByteArray)) := (blk_cell BK168.out 2).trans rfl; have hfz103_0 := blk_frozen BK168.out 0; have hfz103_1 := blk_frozen BK168.out 1; have hfz103_2 := blk_frozen BK168.out 2; have hcz104_0 : w95.cell? ⟨gb141, 0, none⟩ = some (.int .i64 t133) := (blk_cell BK141.out 0).trans rfl; have hcz104_1 : w95.cell? ⟨gb141, 1, none⟩ = some (.int .i64 t134) := (blk_cell BK141.out 1).trans rfl; have hcz104_2 : w95.cell? ⟨gb141, 2, none⟩ = some (.string t135) := (blk_cell BK141.out 2).trans rfl; have hfz104_0 := blk_frozen BK141.out 0; have hfz104_1 := blk_frozen BK141.out 1; have hfz104_2 := blk_frozen BK141.out 2) | ((with_reducible refine gate_callee (f := 16) rfl ?_); refine goesL_ (some 82) rfl rfl Try.func16 (by kernel_rfl) rfl #[.int .i64 t133] rfl gl_ ?_; (with_reducible refine (matrix_Identity.calls t133 t169 t170 t171 t172 _ A20.out).mono ?_); rintro e w105 ⟨rfl, hb⟩; refine ⟨_, rfl, ?_⟩; have n0_ := Aside0.mk (blk_below (g := gb129) (o := .cells #[.int .i64 a0_0, .int .i64 a0_1, .int .i64 a0_2] 39 (0, 0)) (by (with_reducible repeat (first | refine blk_drewN ?_ _ | refine blk_drew ?_ | refine blk_alloc ?_ _)); refine blk_far ?_ NB129_168.out _; (with_reducible repeat (first | refine blk_drewN ?_ _ | refine blk_drew ?_ | refine blk_alloc ?_ _)); refine blk_far ?_ NB129_168.out _; (with_reducible repeat (first | refine blk_drewN ?_ _ | refine blk_drew ?_ | refine blk_alloc ?_ _)); refine blk_far ?_ NB129_168.out _; (with_reducible repeat (first | refine blk_drewN ?_ _ | refine blk_drew ?_ | refine blk_alloc ?_ _)); exact BK129.out) hb); have n1_ := Aside0.mk (blk_below (g := gb141) (o := .cells #[.int .i64 t133, .int .i64 t134, .string t135] 24 (0, 0)) (by (with_reducible repeat (first | refine blk_drewN ?_ _ | refine blk_drew ?_ | refine blk_alloc ?_ _)); refine blk_far ?_ NB141_168.out _; (with_reducible repeat (first | refine blk_drewN ?_ _ | refine blk_drew ?_ | refine blk_alloc ?_ _)); refine blk_far ?_ NB141_168.out _; (with_reducible repeat (first | refine blk_drewN ?_ _ | refine blk_drew ?_ | refine blk_alloc ?_ _)); refine blk_far ?_ NB141_168.out _; (with_reducible repeat (first | refine blk_drewN ?_ _ | refine blk_drew ?_ | refine blk_alloc ?_ _)); exact BK141.out) hb); have n2_ := Aside0.mk (blk_below (g := gb142) (o := .cells #[.int .i64 t138, .int .i64 t139, .string t140] 24 (0, 0)) (by (with_reducible repeat (first | refine blk_drewN ?_ _ | refine blk_drew ?_ | refine blk_alloc ?_ _)); refine blk_far ?_ NB142_168.out _; (with_reducible repeat (first | refine blk_drewN ?_ _ | refine blk_drew ?_ | refine blk_alloc ?_ _)); refine blk_far ?_ NB142_168.out _; (with_reducible repeat (first | refine blk_drewN ?_ _ | refine blk_drew ?_ | refine blk_alloc ?_ _)); refine blk_far ?_ NB142_168.out _; (with_reducible repeat (first | refine blk_drewN ?_ _ | refine blk_drew ?_ | refine blk_alloc ?_ _)); exact BK142.out) hb); have n3_ := Aside0.mk (blk_below (g := gb148) (o := .cells #[.int .i64 t145, .int .i64 t146, .string t147] 24 (0, 0)) (by (with_reducible repeat (first | refine blk_drewN ?_ _ | refine blk_drew ?_ | refine blk_alloc ?_ _)); refine blk_far ?_ NB148_168.out _; (with_reducible repeat (first | refine blk_drewN ?_ _ | refine blk_drew ?_ | refine blk_alloc ?_ _)); refine blk_far ?_ NB148_168.out _; (with_reducible repeat (first | refine blk_drewN ?_ _ | refine blk_drew ?_ | refine blk_alloc ?_ _)); refine blk_far ?_ NB148_168.out _; (with_reducible repeat (first | refine blk_drewN ?_ _ | refine blk_drew ?_ | refine blk_alloc ?_ _)); exact BK148.out) hb); have n4_ := Aside0.mk (blk_below (g := gb153) (o := .cells #[.int .i64 t149, .int .i64 t150, .string t151] 24 (0, 0)) (by (with_reducible repeat (first | refine blk_drewN ?_ _ | refine blk_drew ?_ | refine blk_alloc ?_ _)); refine blk_far ?_ NB153_168.out _; (with_reducible repeat (first | refine blk_drewN ?_ _ | refine blk_drew ?_ | refine blk_alloc ?_ _)); refine blk_far ?_ NB153_168.out _; (with_reducible repeat (first | refine blk_drewN ?_ _ | refine blk_drew ?_ | refine blk_alloc ?_ _)); refine blk_far ?_ NB153_168.out _; (with_reducible repeat (first | refine blk_drewN ?_ _ | refine blk_drew ?_ | refine blk_alloc ?_ _)); exact BK153.out) hb); have n5_ := Aside0.mk (blk_below (g := gb158) (o := .cells #[.int .i64 t154, .int .i64 t155, .string t156] 24 (0, 0)) (by (with_reducible repeat (first | refine blk_drewN ?_ _ | refine blk_drew ?_ | refine blk_alloc ?_ _)); refine blk_far ?_ NB158_168.out _; (with_reducible repeat (first | refine blk_drewN ?_ _ | refine blk_drew ?_ | refine blk_alloc ?_ _)); refine blk_far ?_ NB158_168.out _; (with_reducible repeat (first | refine blk_drewN ?_ _ | refine blk_drew ?_ | refine blk_alloc ?_ _)); refine blk_far ?_ NB158_168.out _; (with_reducible repeat (first | refine blk_drewN ?_ _ | refine blk_drew ?_ | refine blk_alloc ?_ _)); exact BK158.out) hb); have n6_ := Aside0.mk (blk_below (g := gb163) (o := .cells #[.int .i64 t159, .int .i64 t160, .string t161] 24 (0, 0)) (by (with_reducible repeat (first | refine blk_drewN ?_ _ | refine blk_drew ?_ | refine blk_alloc ?_ _)); refine blk_far ?_ NB163_168.out _; (with_reducible repeat (first | refine blk_drewN ?_ _ | refine blk_drew ?_ | refine blk_alloc ?_ _)); refine blk_far ?_ NB163_168.out _; (with_reducible repeat (first | refine blk_drewN ?_ _ | refine blk_drew ?_ | refine blk_alloc ?_ _)); refine blk_far ?_ NB163_168.out _; (with_reducible repeat (first | refine blk_drewN ?_ _ | refine blk_drew ?_ | refine blk_alloc ?_ _)); exact BK163.out) hb); have n7_ := Aside0.mk (blk_below (g := gb168) (o := .cells #[.int .i64 t164, .int .i64 t165, .string t166] 24 (0, 0)) (by (with_reducible repeat (first | refine blk_drewN ?_ _ | refine blk_drew ?_ | refine blk_alloc ?_ _)); refine blk_put (cs := #[.int .i64 t164, .int .i64 t165, .string (⟨#[]⟩ : ByteArray)]) ?_ 2 _ rfl; (with_reducible repeat (first | refine blk_drewN ?_ _ | refine blk_drew ?_ | refine blk_alloc ?_ _)); refine blk_put (cs := #[.int .i64 t164, .int .i64 0, .string (⟨#[]⟩ : ByteArray)]) ?_ 1 _ rfl; (with_reducible repeat (first | refine blk_drewN ?_ _ | refine blk_drew ?_ | refine blk_alloc ?_ _)); refine blk_put (cs := #[.int .i64 0, .int .i64 0, .string (⟨#[]⟩ : ByteArray)]) ?_ 0 _ rfl; (with_reducible repeat (first | refine blk_drewN ?_ _ | refine blk_drew ?_ | refine blk_alloc ?_ _)); exact BK168.out) hb); have n8_ := Aside0.mk (below_step (bel_ HB.out) hb); clear BK129; clear BK141; clear BK142; clear BK148; clear BK153; clear BK158; clear BK163; clear BK168; clear HB; have BK129 := n0_; have BK141 := n1_; have BK142 := n2_; have BK148 := n3_; have BK153 := n4_; have BK158 := n5_; have BK163 := n6_; have BK168 := n7_; have HB := n8_; clear n0_ n1_ n2_ n3_ n4_ n5_ n6_ n7_ n8_; (try clear hb); (try clear hb2); (try clear hk); (try clear hi)) | ((with_reducible refine gate_dst (N := 18) rfl ?_); refine box_event ?hg (N := 18) ?hd (cs := #[.int .i64 0, .int .i64 0, .string (⟨#[]⟩ : ByteArray)]) (t := 24) ?hr ?_; (case hd => rfl); (case hg => rfl); (case hr => first | (go_simp; done) | (go_simp; rfl)); intro gb173 hg w106 hbox hb; have n0_ := Aside0.mk (bb_ BK129.out hb); have n1_ := Aside0.mk (bb_ BK141.out hb); have n2_ := Aside0.mk (bb_ BK142.out hb); have n3_ := Aside0.mk (bb_ BK148.out hb); have n4_ := Aside0.mk (bb_ BK153.out hb); have n5_ := Aside0.mk (bb_ BK158.out hb); have n6_ := Aside0.mk (bb_ BK163.out hb); have n7_ := Aside0.mk (bb_ BK168.out hb); have n8_ := Aside0.mk (below_step (bel_ HB.out) hb); have n9_ := Aside0.mk (hbox); have n10_ := Aside0.mk (bz_ hg (bel_ HB.out)); have n11_ := Aside0.mk (bz_ hg (bel_ HB.out)); have n12_ := Aside0.mk (nl_ hg BK129.out); have n13_ := Aside0.mk (ng_ hg BK129.out); have n14_ := Aside0.mk (nl_ hg BK141.out); have n15_ := Aside0.mk (ng_ hg BK141.out); have n16_ := Aside0.mk (nl_ hg BK142.out); have n17_ := Aside0.mk (ng_ hg BK142.out); have n18_ := Aside0.mk (nl_ hg BK148.out); have n19_ := Aside0.mk (ng_ hg BK148.out); have n20_ := Aside0.mk (nl_ hg BK153.out); have n21_ := Aside0.mk (ng_ hg BK153.out); have n22_ := Aside0.mk (nl_ hg BK158.out); have n23_ := Aside0.mk (ng_ hg BK158.out); have n24_ := Aside0.mk (nl_ hg BK163.out); have n25_ := Aside0.mk (ng_ hg BK163.out); have n26_ := Aside0.mk (nl_ hg BK168.out); have n27_ := Aside0.mk (ng_ hg BK168.out); clear BK129; clear BK141; clear BK142; clear BK148; clear BK153; clear BK158; clear BK163; clear BK168; clear HB; have BK129 := n0_; have BK141 := n1_; have BK142 := n2_; have BK148 := n3_; have BK153 := n4_; have BK158 := n5_; have BK163 := n6_; have BK168 := n7_; have HB := n8_; have BK173 := n9_; have GW173 := n10_; have GE173 := n11_; have NB129_173 := n12_; have NB173_129 := n13_; have NB141_173 := n14_; have NB173_141 := n15_; have NB142_173 := n16_; have NB173_142 := n17_; have NB148_173 := n18_; have NB173_148 := n19_; have NB153_173 := n20_; have NB173_153 := n21_; have NB158_173 := n22_; have NB173_158 := n23_; have NB163_173 := n24_; have NB173_163 := n25_; have NB168_173 := n26_; have NB173_168 := n27_; clear n0_ n1_ n2_ n3_ n4_ n5_ n6_ n7_ n8_ n9_ n10_ n11_ n12_ n13_ n14_ n15_ n16_ n17_ n18_ n19_ n20_ n21_ n22_ n23_ n24_ n25_ n26_ n27_; clear hb hbox hg; have hnb107 := NB173_129.out; have hnc107 := NB129_173.out; have hnb108 := NB173_141.out; have hnc108 := NB141_173.out; have hnb109 := NB173_142.out; have hnc109 := NB142_173.out; have hnb110 := NB173_148.out; have hnc110 := NB148_173.out; have hnb111 := NB173_153.out; have hnc111 := NB153_173.out; have hnb112 := NB173_158.out; have hnc112 := NB158_173.out; have hnb113 := NB173_163.out; have hnc113 := NB163_173.out; have hnb114 := NB173_168.out; have hnc114 := NB168_173.out; have hcz115_0 : w106.cell? ⟨gb173, 0, none⟩ = some (.int .i64 0) := (blk_cell BK173.out 0).trans rfl; have hcz115_1 : w106.cell? ⟨gb173, 1, none⟩ = some (.int .i64 0) := (blk_cell BK173.out 1).trans rfl; have hcz115_2 : w106.cell? ⟨gb173, 2, none⟩ = some (.string (⟨#[]⟩ : ByteArray)) := (blk_cell BK173.out 2).trans rfl; have hfz115_0 := blk_frozen BK173.out 0; have hfz115_1 := blk_frozen BK173.out 1; have hfz115_2 := blk_frozen BK173.out 2; have hcz116_0 : w106.cell? ⟨gb141, 0, none⟩ = some (.int .i64 t133) := (blk_cell BK141.out 0).trans rfl; have hcz116_1 : w106.cell? ⟨gb141, 1, none⟩ = some (.int .i64 t134) := (blk_cell BK141.out 1).trans rfl; have hcz116_2 : w106.cell? ⟨gb141, 2, none⟩ = some (.string t135) := (blk_cell BK141.out 2).trans rfl; have hfz116_0 := blk_frozen BK141.out 0; have hfz116_1 := blk_frozen BK141.out 1; have hfz116_2 := blk_frozen BK141.out 2) | ((with_reducible refine gate_callee (f := 16) rfl ?_); refine goesL_ (some 88) rfl rfl Try.func16 (by kernel_rfl) rfl #[.int .i64 t134] rfl gl_ ?_; (with_reducible refine (matrix_Identity.calls t134 t174 t175 t176 t177 _ A21.out).mono ?_); rintro e w117 ⟨rfl, hb⟩; refine ⟨_, rfl, ?_⟩; have n0_ := Aside0.mk (blk_below (g := gb129) (o := .cells #[.int .i64 a0_0, .int .i64 a0_1, .int .i64 a0_2] 39 (0, 0)) (by (with_reducible repeat (first | refine blk_drewN ?_ _ | refine blk_drew ?_ | refine blk_alloc ?_ _)); refine blk_far ?_ NB129_173.out _; (with_reducible repeat (first | refine blk_drewN ?_ _ | refine blk_drew ?_ | refine blk_alloc ?_ _)); refine blk_far ?_ NB129_173.out _; (with_reducible repeat (first | refine blk_drewN ?_ _ | refine blk_drew ?_ | refine blk_alloc ?_ _)); refine blk_far ?_ NB129_173.out _; (with_reducible repeat (first | refine blk_drewN ?_ _ | refine blk_drew ?_ | refine blk_alloc ?_ _)); exact BK129.out) hb); have n1_ := Aside0.mk (blk_below (g := gb141) (o := .cells #[.int .i64 t133, .int .i64 t134, .string t135] 24 (0, 0)) (by (with_reducible repeat (first | refine blk_drewN ?_ _ | refine blk_drew ?_ | refine blk_alloc ?_ _)); refine blk_far ?_ NB141_173.out _; (with_reducible repeat (first | refine blk_drewN ?_ _ | refine blk_drew ?_ | refine blk_alloc ?_ _)); refine blk_far ?_ NB141_173.out _; (with_reducible repeat (first | refine blk_drewN ?_ _ | refine blk_drew ?_ | refine blk_alloc ?_ _)); refine blk_far ?_ NB141_173.out _; (with_reducible repeat (first | refine blk_drewN ?_ _ | refine blk_drew ?_ | refine blk_alloc ?_ _)); exact BK141.out) hb); have n2_ := Aside0.mk (blk_below (g := gb142) (o := .cells #[.int .i64 t138, .int .i64 t139, .string t140] 24 (0, 0)) (by (with_reducible repeat (first | refine blk_drewN ?_ _ | refine blk_drew ?_ | refine blk_alloc ?_ _)); refine blk_far ?_ NB142_173.out _; (with_reducible repeat (first | refine blk_drewN ?_ _ | refine blk_drew ?_ | refine blk_alloc ?_ _)); refine blk_far ?_ NB142_173.out _; (with_reducible repeat (first | refine blk_drewN ?_ _ | refine blk_drew ?_ | refine blk_alloc ?_ _)); refine blk_far ?_ NB142_173.out _; (with_reducible repeat (first | refine blk_drewN ?_ _ | refine blk_drew ?_ | refine blk_alloc ?_ _)); exact BK142.out) hb); have n3_ := Aside0.mk (blk_below (g := gb148) (o := .cells #[.int .i64 t145, .int .i64 t146, .string t147] 24 (0, 0)) (by (with_reducible repeat (first | refine blk_drewN ?_ _ | refine blk_drew ?_ | refine blk_alloc ?_ _)); refine blk_far ?_ NB148_173.out _; (with_reducible repeat (first | refine blk_drewN ?_ _ | refine blk_drew ?_ | refine blk_alloc ?_ _)); refine blk_far ?_ NB148_173.out _; (with_reducible repeat (first | refine blk_drewN ?_ _ | refine blk_drew ?_ | refine blk_alloc ?_ _)); refine blk_far ?_ NB148_173.out _; (with_reducible repeat (first | refine blk_drewN ?_ _ | refine blk_drew ?_ | refine blk_alloc ?_ _)); exact BK148.out) hb); have n4_ := Aside0.mk (blk_below (g := gb153) (o := .cells #[.int .i64 t149, .int .i64 t150, .string t151] 24 (0, 0)) (by (with_reducible repeat (first | refine blk_drewN ?_ _ | refine blk_drew ?_ | refine blk_alloc ?_ _)); refine blk_far ?_ NB153_173.out _; (with_reducible repeat (first | refine blk_drewN ?_ _ | refine blk_drew ?_ | refine blk_alloc ?_ _)); refine blk_far ?_ NB153_173.out _; (with_reducible repeat (first | refine blk_drewN ?_ _ | refine blk_drew ?_ | refine blk_alloc ?_ _)); refine blk_far ?_ NB153_173.out _; (with_reducible repeat (first | refine blk_drewN ?_ _ | refine blk_drew ?_ | refine blk_alloc ?_ _)); exact BK153.out) hb); have n5_ := Aside0.mk (blk_below (g := gb158) (o := .cells #[.int .i64 t154, .int .i64 t155, .string t156] 24 (0, 0)) (by (with_reducible repeat (first | refine blk_drewN ?_ _ | refine blk_drew ?_ | refine blk_alloc ?_ _)); refine blk_far ?_ NB158_173.out _; (with_reducible repeat (first | refine blk_drewN ?_ _ | refine blk_drew ?_ | refine blk_alloc ?_ _)); refine blk_far ?_ NB158_173.out _; (with_reducible repeat (first | refine blk_drewN ?_ _ | refine blk_drew ?_ | refine blk_alloc ?_ _)); refine blk_far ?_ NB158_173.out _; (with_reducible repeat (first | refine blk_drewN ?_ _ | refine blk_drew ?_ | refine blk_alloc ?_ _)); exact BK158.out) hb); have n6_ := Aside0.mk (blk_below (g := gb163) (o := .cells #[.int .i64 t159, .int .i64 t160, .string t161] 24 (0, 0)) (by (with_reducible repeat (first | refine blk_drewN ?_ _ | refine blk_drew ?_ | refine blk_alloc ?_ _)); refine blk_far ?_ NB163_173.out _; (with_reducible repeat (first | refine blk_drewN ?_ _ | refine blk_drew ?_ | refine blk_alloc ?_ _)); refine blk_far ?_ NB163_173.out _; (with_reducible repeat (first | refine blk_drewN ?_ _ | refine blk_drew ?_ | refine blk_alloc ?_ _)); refine blk_far ?_ NB163_173.out _; (with_reducible repeat (first | refine blk_drewN ?_ _ | refine blk_drew ?_ | refine blk_alloc ?_ _)); exact BK163.out) hb); have n7_ := Aside0.mk (blk_below (g := gb168) (o := .cells #[.int .i64 t164, .int .i64 t165, .string t166] 24 (0, 0)) (by (with_reducible repeat (first | refine blk_drewN ?_ _ | refine blk_drew ?_ | refine blk_alloc ?_ _)); refine blk_far ?_ NB168_173.out _; (with_reducible repeat (first | refine blk_drewN ?_ _ | refine blk_drew ?_ | refine blk_alloc ?_ _)); refine blk_far ?_ NB168_173.out _; (with_reducible repeat (first | refine blk_drewN ?_ _ | refine blk_drew ?_ | refine blk_alloc ?_ _)); refine blk_far ?_ NB168_173.out _; (with_reducible repeat (first | refine blk_drewN ?_ _ | refine blk_drew ?_ | refine blk_alloc ?_ _)); exact BK168.out) hb); have n8_ := Aside0.mk (blk_below (g := gb173) (o := .cells #[.int .i64 t169, .int .i64 t170, .string t171] 24 (0, 0)) (by (with_reducible repeat (first | refine blk_drewN ?_ _ | refine blk_drew ?_ | refine blk_alloc ?_ _)); refine blk_put (cs := #[.int .i64 t169, .int .i64 t170, .string (⟨#[]⟩ : ByteArray)]) ?_ 2 _ rfl; (with_reducible repeat (first | refine blk_drewN ?_ _ | refine blk_drew ?_ | refine blk_alloc ?_ _)); refine blk_put (cs := #[.int .i64 t169, .int .i64 0, .string (⟨#[]⟩ : ByteArray)]) ?_ 1 _ rfl; (with_reducible repeat (first | refine blk_drewN ?_ _ | refine blk_drew ?_ | refine blk_alloc ?_ _)); refine blk_put (cs := #[.int .i64 0, .int .i64 0, .string (⟨#[]⟩ : ByteArray)]) ?_ 0 _ rfl; (with_reducible repeat (first | refine blk_drewN ?_ _ | refine blk_drew ?_ | refine blk_alloc ?_ _)); exact BK173.out) hb); have n9_ := Aside0.mk (below_step (bel_ HB.out) hb); clear BK129; clear BK141; clear BK142; clear BK148; clear BK153; clear BK158; clear BK163; clear BK168; clear BK173; clear HB; have BK129 := n0_; have BK141 := n1_; have BK142 := n2_; have BK148 := n3_; have BK153 := n4_; have BK158 := n5_; have BK163 := n6_; have BK168 := n7_; have BK173 := n8_; have HB := n9_; clear n0_ n1_ n2_ n3_ n4_ n5_ n6_ n7_ n8_ n9_; (try clear hb); (try clear hb2); (try clear hk); (try clear hi)) | ((with_reducible refine gate_dst (N := 20) rfl ?_); refine box_event ?hg (N := 20) ?hd (cs := #[.int .i64 0, .int .i64 0, .string (⟨#[]⟩ : ByteArray)]) (t := 24) ?hr ?_; (case hd => rfl); (case hg => rfl); (case hr => first | (go_simp; done) | (go_simp; rfl)); intro gb178 hg w118 hbox hb; have n0_ := Aside0.mk (bb_ BK129.out hb); have n1_ := Aside0.mk (bb_ BK141.out hb); have n2_ := Aside0.mk (bb_ BK142.out hb); have n3_ := Aside0.mk (bb_ BK148.out hb); have n4_ := Aside0.mk (bb_ BK153.out hb); have n5_ := Aside0.mk (bb_ BK158.out hb); have n6_ := Aside0.mk (bb_ BK163.out hb); have n7_ := Aside0.mk (bb_ BK168.out hb); have n8_ := Aside0.mk (bb_ BK173.out hb); have n9_ := Aside0.mk (below_step (bel_ HB.out) hb); have n10_ := Aside0.mk (hbox); have n11_ := Aside0.mk (bz_ hg (bel_ HB.out)); have n12_ := Aside0.mk (bz_ hg (bel_ HB.out)); have n13_ := Aside0.mk (nl_ hg BK129.out); have n14_ := Aside0.mk (ng_ hg BK129.out); have n15_ := Aside0.mk (nl_ hg BK141.out); have n16_ := Aside0.mk (ng_ hg BK141.out); have n17_ := Aside0.mk (nl_ hg BK142.out); have n18_ := Aside0.mk (ng_ hg BK142.out); have n19_ := Aside0.mk (nl_ hg BK148.out); have n20_ := Aside0.mk (ng_ hg BK148.out); have n21_ := Aside0.mk (nl_ hg BK153.out); have n22_ := Aside0.mk (ng_ hg BK153.out); have n23_ := Aside0.mk (nl_ hg BK158.out); have n24_ := Aside0.mk (ng_ hg BK158.out); have n25_ := Aside0.mk (nl_ hg BK163.out); have n26_ := Aside0.mk (ng_ hg BK163.out); have n27_ := Aside0.mk (nl_ hg BK168.out); have n28_ := Aside0.mk (ng_ hg BK168.out); have n29_ := Aside0.mk (nl_ hg BK173.out); have n30_ := Aside0.mk (ng_ hg BK173.out); clear BK129; clear BK141; clear BK142; clear BK148; clear BK153; clear BK158; clear BK163; clear BK168; clear BK173; clear HB; have BK129 := n0_; have BK141 := n1_; have BK142 := n2_; have BK148 := n3_; have BK153 := n4_; have BK158 := n5_; have BK163 := n6_; have BK168 := n7_; have BK173 := n8_; have HB := n9_; have BK178 := n10_; have GW178 := n11_; have GE178 := n12_; have NB129_178 := n13_; have NB178_129 := n14_; have NB141_178 := n15_; have NB178_141 := n16_; have NB142_178 := n17_; have NB178_142 := n18_; have NB148_178 := n19_; have NB178_148 := n20_; have NB153_178 := n21_; have NB178_153 := n22_; have NB158_178 := n23_; have NB178_158 := n24_; have NB163_178 := n25_; have NB178_163 := n26_; have NB168_178 := n27_; have NB178_168 := n28_; have NB173_178 := n29_; have NB178_173 := n30_; clear n0_ n1_ n2_ n3_ n4_ n5_ n6_ n7_ n8_ n9_ n10_ n11_ n12_ n13_ n14_ n15_ n16_ n17_ n18_ n19_ n20_ n21_ n22_ n23_ n24_ n25_ n26_ n27_ n28_ n29_ n30_; clear hb hbox hg; have hnb119 := NB178_129.out; have hnc119 := NB129_178.out; have hnb120 := NB178_141.out; have hnc120 := NB141_178.out; have hnb121 := NB178_142.out; have hnc121 := NB142_178.out; have hnb122 := NB178_148.out; have hnc122 := NB148_178.out; have hnb123 := NB178_153.out; have hnc123 := NB153_178.out; have hnb124 := NB178_158.out; have hnc124 := NB158_178.out; have hnb125 := NB178_163.out; have hnc125 := NB163_178.out; have hnb126 := NB178_168.out; have hnc126 := NB168_178.out; have hnb127 := NB178_173.out; have hnc127 := NB173_178.out; have hcz128_0 : w118.cell? ⟨gb178, 0, none⟩ = some (.int .i64 0) := (blk_cell BK178.out 0).trans rfl; have hcz128_1 : w118.cell? ⟨gb178, 1, none⟩ = some (.int .i64 0) := (blk_cell BK178.out 1).trans rfl; have hcz128_2 : w118.cell? ⟨gb178, 2, none⟩ = some (.string (⟨#[]⟩ : ByteArray)) := (blk_cell BK178.out 2).trans rfl; have hfz128_0 := blk_frozen BK178.out 0; have hfz128_1 := blk_frozen BK178.out 1; have hfz128_2 := blk_frozen BK178.out 2; have hcz129_0 : w118.cell? ⟨gb173, 0, none⟩ = some (.int .i64 t169) := (blk_cell BK173.out 0).trans rfl; have hcz129_1 : w118.cell? ⟨gb173, 1, none⟩ = some (.int .i64 t170) := (blk_cell BK173.out 1).trans rfl; have hcz129_2 : w118.cell? ⟨gb173, 2, none⟩ = some (.string t171) := (blk_cell BK173.out 2).trans rfl; have hfz129_0 := blk_frozen BK173.out 0; have hfz129_1 := blk_frozen BK173.out 1; have hfz129_2 := blk_frozen BK173.out 2; have hcz130_0 : w118.cell? ⟨gb141, 0, none⟩ = some (.int .i64 t133) := (blk_cell BK141.out 0).trans rfl; have hcz130_1 : w118.cell? ⟨gb141, 1, none⟩ = some (.int .i64 t134) := (blk_cell BK141.out 1).trans rfl; have hcz130_2 : w118.cell? ⟨gb141, 2, none⟩ = some (.string t135) := (blk_cell BK141.out 2).trans rfl; have hfz130_0 := blk_frozen BK141.out 0; have hfz130_1 := blk_frozen BK141.out 1; have hfz130_2 := blk_frozen BK141.out 2) | ((with_reducible refine gate_callee (f := 21) rfl ?_); refine goesL_ (some 94) rfl rfl Try.func21 (by kernel_rfl) rfl #[.agg #[.int .i64 t169, .int .i64 t170, .string t171], .agg #[.int .i64 t133, .int .i64 t134, .string t135]] rfl gl_ ?_; (with_reducible refine (matrix_Mul.calls t169 t170 t171 t133 t134 t135 t179 t180 t181 t182 _ A22.out).mono ?_); rintro e w131 ⟨rfl, hb⟩; refine ⟨_, rfl, ?_⟩; have n0_ := Aside0.mk (blk_below (g := gb129) (o := .cells #[.int .i64 a0_0, .int .i64 a0_1, .int .i64 a0_2] 39 (0, 0)) (by (with_reducible repeat (first | refine blk_drewN ?_ _ | refine blk_drew ?_ | refine blk_alloc ?_ _)); refine blk_far ?_ NB129_178.out _; (with_reducible repeat (first | refine blk_drewN ?_ _ | refine blk_drew ?_ | refine blk_alloc ?_ _)); refine blk_far ?_ NB129_178.out _; (with_reducible repeat (first | refine blk_drewN ?_ _ | refine blk_drew ?_ | refine blk_alloc ?_ _)); refine blk_far ?_ NB129_178.out _; (with_reducible repeat (first | refine blk_drewN ?_ _ | refine blk_drew ?_ | refine blk_alloc ?_ _)); exact BK129.out) hb); have n1_ := Aside0.mk (blk_below (g := gb141) (o := .cells #[.int .i64 t133, .int .i64 t134, .string t135] 24 (0, 0)) (by (with_reducible repeat (first | refine blk_drewN ?_ _ | refine blk_drew ?_ | refine blk_alloc ?_ _)); refine blk_far ?_ NB141_178.out _; (with_reducible repeat (first | refine blk_drewN ?_ _ | refine blk_drew ?_ | refine blk_alloc ?_ _)); refine blk_far ?_ NB141_178.out _; (with_reducible repeat (first | refine blk_drewN ?_ _ | refine blk_drew ?_ | refine blk_alloc ?_ _)); refine blk_far ?_ NB141_178.out _; (with_reducible repeat (first | refine blk_drewN ?_ _ | refine blk_drew ?_ | refine blk_alloc ?_ _)); exact BK141.out) hb); have n2_ := Aside0.mk (blk_below (g := gb142) (o := .cells #[.int .i64 t138, .int .i64 t139, .string t140] 24 (0, 0)) (by (with_reducible repeat (first | refine blk_drewN ?_ _ | refine blk_drew ?_ | refine blk_alloc ?_ _)); refine blk_far ?_ NB142_178.out _; (with_reducible repeat (first | refine blk_drewN ?_ _ | refine blk_drew ?_ | refine blk_alloc ?_ _)); refine blk_far ?_ NB142_178.out _; (with_reducible repeat (first | refine blk_drewN ?_ _ | refine blk_drew ?_ | refine blk_alloc ?_ _)); refine blk_far ?_ NB142_178.out _; (with_reducible repeat (first | refine blk_drewN ?_ _ | refine blk_drew ?_ | refine blk_alloc ?_ _)); exact BK142.out) hb); have n3_ := Aside0.mk (blk_below (g := gb148) (o := .cells #[.int .i64 t145, .int .i64 t146, .string t147] 24 (0, 0)) (by (with_reducible repeat (first | refine blk_drewN ?_ _ | refine blk_drew ?_ | refine blk_alloc ?_ _)); refine blk_far ?_ NB148_178.out _; (with_reducible repeat (first | refine blk_drewN ?_ _ | refine blk_drew ?_ | refine blk_alloc ?_ _)); refine blk_far ?_ NB148_178.out _; (with_reducible repeat (first | refine blk_drewN ?_ _ | refine blk_drew ?_ | refine blk_alloc ?_ _)); refine blk_far ?_ NB148_178.out _; (with_reducible repeat (first | refine blk_drewN ?_ _ | refine blk_drew ?_ | refine blk_alloc ?_ _)); exact BK148.out) hb); have n4_ := Aside0.mk (blk_below (g := gb153) (o := .cells #[.int .i64 t149, .int .i64 t150, .string t151] 24 (0, 0)) (by (with_reducible repeat (first | refine blk_drewN ?_ _ | refine blk_drew ?_ | refine blk_alloc ?_ _)); refine blk_far ?_ NB153_178.out _; (with_reducible repeat (first | refine blk_drewN ?_ _ | refine blk_drew ?_ | refine blk_alloc ?_ _)); refine blk_far ?_ NB153_178.out _; (with_reducible repeat (first | refine blk_drewN ?_ _ | refine blk_drew ?_ | refine blk_alloc ?_ _)); refine blk_far ?_ NB153_178.out _; (with_reducible repeat (first | refine blk_drewN ?_ _ | refine blk_drew ?_ | refine blk_alloc ?_ _)); exact BK153.out) hb); have n5_ := Aside0.mk (blk_below (g := gb158) (o := .cells #[.int .i64 t154, .int .i64 t155, .string t156] 24 (0, 0)) (by (with_reducible repeat (first | refine blk_drewN ?_ _ | refine blk_drew ?_ | refine blk_alloc ?_ _)); refine blk_far ?_ NB158_178.out _; (with_reducible repeat (first | refine blk_drewN ?_ _ | refine blk_drew ?_ | refine blk_alloc ?_ _)); refine blk_far ?_ NB158_178.out _; (with_reducible repeat (first | refine blk_drewN ?_ _ | refine blk_drew ?_ | refine blk_alloc ?_ _)); refine blk_far ?_ NB158_178.out _; (with_reducible repeat (first | refine blk_drewN ?_ _ | refine blk_drew ?_ | refine blk_alloc ?_ _)); exact BK158.out) hb); have n6_ := Aside0.mk (blk_below (g := gb163) (o := .cells #[.int .i64 t159, .int .i64 t160, .string t161] 24 (0, 0)) (by (with_reducible repeat (first | refine blk_drewN ?_ _ | refine blk_drew ?_ | refine blk_alloc ?_ _)); refine blk_far ?_ NB163_178.out _; (with_reducible repeat (first | refine blk_drewN ?_ _ | refine blk_drew ?_ | refine blk_alloc ?_ _)); refine blk_far ?_ NB163_178.out _; (with_reducible repeat (first | refine blk_drewN ?_ _ | refine blk_drew ?_ | refine blk_alloc ?_ _)); refine blk_far ?_ NB163_178.out _; (with_reducible repeat (first | refine blk_drewN ?_ _ | refine blk_drew ?_ | refine blk_alloc ?_ _)); exact BK163.out) hb); have n7_ := Aside0.mk (blk_below (g := gb168) (o := .cells #[.int .i64 t164, .int .i64 t165, .string t166] 24 (0, 0)) (by (with_reducible repeat (first | refine blk_drewN ?_ _ | refine blk_drew ?_ | refine blk_alloc ?_ _)); refine blk_far ?_ NB168_178.out _; (with_reducible repeat (first | refine blk_drewN ?_ _ | refine blk_drew ?_ | refine blk_alloc ?_ _)); refine blk_far ?_ NB168_178.out _; (with_reducible repeat (first | refine blk_drewN ?_ _ | refine blk_drew ?_ | refine blk_alloc ?_ _)); refine blk_far ?_ NB168_178.out _; (with_reducible repeat (first | refine blk_drewN ?_ _ | refine blk_drew ?_ | refine blk_alloc ?_ _)); exact BK168.out) hb); have n8_ := Aside0.mk (blk_below (g := gb173) (o := .cells #[.int .i64 t169, .int .i64 t170, .string t171] 24 (0, 0)) (by (with_reducible repeat (first | refine blk_drewN ?_ _ | refine blk_drew ?_ | refine blk_alloc ?_ _)); refine blk_far ?_ NB173_178.out _; (with_reducible repeat (first | refine blk_drewN ?_ _ | refine blk_drew ?_ | refine blk_alloc ?_ _)); refine blk_far ?_ NB173_178.out _; (with_reducible repeat (first | refine blk_drewN ?_ _ | refine blk_drew ?_ | refine blk_alloc ?_ _)); refine blk_far ?_ NB173_178.out _; (with_reducible repeat (first | refine blk_drewN ?_ _ | refine blk_drew ?_ | refine blk_alloc ?_ _)); exact BK173.out) hb); have n9_ := Aside0.mk (blk_below (g := gb178) (o := .cells #[.int .i64 t174, .int .i64 t175, .string t176] 24 (0, 0)) (by (with_reducible repeat (first | refine blk_drewN ?_ _ | refine blk_drew ?_ | refine blk_alloc ?_ _)); refine blk_put (cs := #[.int .i64 t174, .int .i64 t175, .string (⟨#[]⟩ : ByteArray)]) ?_ 2 _ rfl; (with_reducible repeat (first | refine blk_drewN ?_ _ | refine blk_drew ?_ | refine blk_alloc ?_ _)); refine blk_put (cs := #[.int .i64 t174, .int .i64 0, .string (⟨#[]⟩ : ByteArray)]) ?_ 1 _ rfl; (with_reducible repeat (first | refine blk_drewN ?_ _ | refine blk_drew ?_ | refine blk_alloc ?_ _)); refine blk_put (cs := #[.int .i64 0, .int .i64 0, .string (⟨#[]⟩ : ByteArray)]) ?_ 0 _ rfl; (with_reducible repeat (first | refine blk_drewN ?_ _ | refine blk_drew ?_ | refine blk_alloc ?_ _)); exact BK178.out) hb); have n10_ := Aside0.mk (below_step (bel_ HB.out) hb); clear BK129; clear BK141; clear BK142; clear BK148; clear BK153; clear BK158; clear BK163; clear BK168; clear BK173; clear BK178; clear HB; have BK129 := n0_; have BK141 := n1_; have BK142 := n2_; have BK148 := n3_; have BK153 := n4_; have BK158 := n5_; have BK163 := n6_; have BK168 := n7_; have BK173 := n8_; have BK178 := n9_; have HB := n10_; clear n0_ n1_ n2_ n3_ n4_ n5_ n6_ n7_ n8_ n9_ n10_; (try clear hb); (try clear hb2); (try clear hk); (try clear hi)) | ((with_reducible refine gate_dst (N := 22) rfl ?_); refine box_event ?hg (N := 22) ?hd (cs := #[.int .i64 0, .int .i64 0, .string (⟨#[]⟩ : ByteArray)]) (t := 24) ?hr ?_; (case hd => rfl); (case hg => rfl); (case hr => first | (go_simp; done) | (go_simp; rfl)); intro gb183 hg w132 hbox hb; have n0_ := Aside0.mk (bb_ BK129.out hb); have n1_ := Aside0.mk (bb_ BK141.out hb); have n2_ := Aside0.mk (bb_ BK142.out hb); have n3_ := Aside0.mk (bb_ BK148.out hb); have n4_ := Aside0.mk (bb_ BK153.out hb); have n5_ := Aside0.mk (bb_ BK158.out hb); have n6_ := Aside0.mk (bb_ BK163.out hb); have n7_ := Aside0.mk (bb_ BK168.out hb); have n8_ := Aside0.mk (bb_ BK173.out hb); have n9_ := Aside0.mk (bb_ BK178.out hb); have n10_ := Aside0.mk (below_step (bel_ HB.out) hb); have n11_ := Aside0.mk (hbox); have n12_ := Aside0.mk (bz_ hg (bel_ HB.out)); have n13_ := Aside0.mk (bz_ hg (bel_ HB.out)); have n14_ := Aside0.mk (nl_ hg BK129.out); have n15_ := Aside0.mk (ng_ hg BK129.out); have n16_ := Aside0.mk (nl_ hg BK141.out); have n17_ := Aside0.mk (ng_ hg BK141.out); have n18_ := Aside0.mk (nl_ hg BK142.out); have n19_ := Aside0.mk (ng_ hg BK142.out); have n20_ := Aside0.mk (nl_ hg BK148.out); have n21_ := Aside0.mk (ng_ hg BK148.out); have n22_ := Aside0.mk (nl_ hg BK153.out); have n23_ := Aside0.mk (ng_ hg BK153.out); have n24_ := Aside0.mk (nl_ hg BK158.out); have n25_ := Aside0.mk (ng_ hg BK158.out); have n26_ := Aside0.mk (nl_ hg BK163.out); have n27_ := Aside0.mk (ng_ hg BK163.out); have n28_ := Aside0.mk (nl_ hg BK168.out); have n29_ := Aside0.mk (ng_ hg BK168.out); have n30_ := Aside0.mk (nl_ hg BK173.out); have n31_ := Aside0.mk (ng_ hg BK173.out); have n32_ := Aside0.mk (nl_ hg BK178.out); have n33_ := Aside0.mk (ng_ hg BK178.out); clear BK129; clear BK141; clear BK142; clear BK148; clear BK153; clear BK158; clear BK163; clear BK168; clear BK173; clear BK178; clear HB; have BK129 := n0_; have BK141 := n1_; have BK142 := n2_; have BK148 := n3_; have BK153 := n4_; have BK158 := n5_; have BK163 := n6_; have BK168 := n7_; have BK173 := n8_; have BK178 := n9_; have HB := n10_; have BK183 := n11_; have GW183 := n12_; have GE183 := n13_; have NB129_183 := n14_; have NB183_129 := n15_; have NB141_183 := n16_; have NB183_141 := n17_; have NB142_183 := n18_; have NB183_142 := n19_; have NB148_183 := n20_; have NB183_148 := n21_; have NB153_183 := n22_; have NB183_153 := n23_; have NB158_183 := n24_; have NB183_158 := n25_; have NB163_183 := n26_; have NB183_163 := n27_; have NB168_183 := n28_; have NB183_168 := n29_; have NB173_183 := n30_; have NB183_173 := n31_; have NB178_183 := n32_; have NB183_178 := n33_; clear n0_ n1_ n2_ n3_ n4_ n5_ n6_ n7_ n8_ n9_ n10_ n11_ n12_ n13_ n14_ n15_ n16_ n17_ n18_ n19_ n20_ n21_ n22_ n23_ n24_ n25_ n26_ n27_ n28_ n29_ n30_ n31_ n32_ n33_; clear hb hbox hg; have hnb133 := NB183_129.out; have hnc133 := NB129_183.out; have hnb134 := NB183_141.out; have hnc134 := NB141_183.out; have hnb135 := NB183_142.out; have hnc135 := NB142_183.out; have hnb136 := NB183_148.out; have hnc136 := NB148_183.out; have hnb137 := NB183_153.out; have hnc137 := NB153_183.out; have hnb138 := NB183_158.out; have hnc138 := NB158_183.out; have hnb139 := NB183_163.out; have hnc139 := NB163_183.out; have hnb140 := NB183_168.out; have hnc140 := NB168_183.out; have hnb141 := NB183_173.out; have hnc141 := NB173_183.out; have hnb142 := NB183_178.out; have hnc142 := NB178_183.out; have hcz143_0 : w132.cell? ⟨gb183, 0, none⟩ = some (.int .i64 0) := (blk_cell BK183.out 0).trans rfl; have hcz143_1 : w132.cell? ⟨gb183, 1, none⟩ = some (.int .i64 0) := (blk_cell BK183.out 1).trans rfl; have hcz143_2 : w132.cell? ⟨gb183, 2, none⟩ = some (.string (⟨#[]⟩ : ByteArray)) := (blk_cell BK183.out 2).trans rfl; have hfz143_0 := blk_frozen BK183.out 0; have hfz143_1 := blk_frozen BK183.out 1; have hfz143_2 := blk_frozen BK183.out 2; have hcz144_0 : w132.cell? ⟨gb141, 0, none⟩ = some (.int .i64 t133) := (blk_cell BK141.out 0).trans rfl; have hcz144_1 : w132.cell? ⟨gb141, 1, none⟩ = some (.int .i64 t134) := (blk_cell BK141.out 1).trans rfl; have hcz144_2 : w132.cell? ⟨gb141, 2, none⟩ = some (.string t135) := (blk_cell BK141.out 2).trans rfl; have hfz144_0 := blk_frozen BK141.out 0; have hfz144_1 := blk_frozen BK141.out 1; have hfz144_2 := blk_frozen BK141.out 2; have hcz145_0 : w132.cell? ⟨gb178, 0, none⟩ = some (.int .i64 t174) := (blk_cell BK178.out 0).trans rfl; have hcz145_1 : w132.cell? ⟨gb178, 1, none⟩ = some (.int .i64 t175) := (blk_cell BK178.out 1).trans rfl; have hcz145_2 : w132.cell? ⟨gb178, 2, none⟩ = some (.string t176) := (blk_cell BK178.out 2).trans rfl; have hfz145_0 := blk_frozen BK178.out 0; have hfz145_1 := blk_frozen BK178.out 1; have hfz145_2 := blk_frozen BK178.out 2) | ((with_reducible refine gate_callee (f := 21) rfl ?_); refine goesL_ (some 100) rfl rfl Try.func21 (by kernel_rfl) rfl #[.agg #[.int .i64 t133, .int .i64 t134, .string t135], .agg #[.int .i64 t174, .int .i64 t175, .string t176]] rfl gl_ ?_; (with_reducible refine (matrix_Mul.calls t133 t134 t135 t174 t175 t176 t184 t185 t186 t187 _ A23.out).mono ?_); rintro e w146 ⟨rfl, hb⟩; refine ⟨_, rfl, ?_⟩; have n0_ := Aside0.mk (blk_below (g := gb129) (o := .cells #[.int .i64 a0_0, .int .i64 a0_1, .int .i64 a0_2] 39 (0, 0)) (by (with_reducible repeat (first | refine blk_drewN ?_ _ | refine blk_drew ?_ | refine blk_alloc ?_ _)); refine blk_far ?_ NB129_183.out _; (with_reducible repeat (first | refine blk_drewN ?_ _ | refine blk_drew ?_ | refine blk_alloc ?_ _)); refine blk_far ?_ NB129_183.out _; (with_reducible repeat (first | refine blk_drewN ?_ _ | refine blk_drew ?_ | refine blk_alloc ?_ _)); refine blk_far ?_ NB129_183.out _; (with_reducible repeat (first | refine blk_drewN ?_ _ | refine blk_drew ?_ | refine blk_alloc ?_ _)); exact BK129.out) hb); have n1_ := Aside0.mk (blk_below (g := gb141) (o := .cells #[.int .i64 t133, .int .i64 t134, .string t135] 24 (0, 0)) (by (with_reducible repeat (first | refine blk_drewN ?_ _ | refine blk_drew ?_ | refine blk_alloc ?_ _)); refine blk_far ?_ NB141_183.out _; (with_reducible repeat (first | refine blk_drewN ?_ _ | refine blk_drew ?_ | refine blk_alloc ?_ _)); refine blk_far ?_ NB141_183.out _; (with_reducible repeat (first | refine blk_drewN ?_ _ | refine blk_drew ?_ | refine blk_alloc ?_ _)); refine blk_far ?_ NB141_183.out _; (with_reducible repeat (first | refine blk_drewN ?_ _ | refine blk_drew ?_ | refine blk_alloc ?_ _)); exact BK141.out) hb); have n2_ := Aside0.mk (blk_below (g := gb142) (o := .cells #[.int .i64 t138, .int .i64 t139, .string t140] 24 (0, 0)) (by (with_reducible repeat (first | refine blk_drewN ?_ _ | refine blk_drew ?_ | refine blk_alloc ?_ _)); refine blk_far ?_ NB142_183.out _; (with_reducible repeat (first | refine blk_drewN ?_ _ | refine blk_drew ?_ | refine blk_alloc ?_ _)); refine blk_far ?_ NB142_183.out _; (with_reducible repeat (first | refine blk_drewN ?_ _ | refine blk_drew ?_ | refine blk_alloc ?_ _)); refine blk_far ?_ NB142_183.out _; (with_reducible repeat (first | refine blk_drewN ?_ _ | refine blk_drew ?_ | refine blk_alloc ?_ _)); exact BK142.out) hb); have n3_ := Aside0.mk (blk_below (g := gb148) (o := .cells #[.int .i64 t145, .int .i64 t146, .string t147] 24 (0, 0)) (by (with_reducible repeat (first | refine blk_drewN ?_ _ | refine blk_drew ?_ | refine blk_alloc ?_ _)); refine blk_far ?_ NB148_183.out _; (with_reducible repeat (first | refine blk_drewN ?_ _ | refine blk_drew ?_ | refine blk_alloc ?_ _)); refine blk_far ?_ NB148_183.out _; (with_reducible repeat (first | refine blk_drewN ?_ _ | refine blk_drew ?_ | refine blk_alloc ?_ _)); refine blk_far ?_ NB148_183.out _; (with_reducible repeat (first | refine blk_drewN ?_ _ | refine blk_drew ?_ | refine blk_alloc ?_ _)); exact BK148.out) hb); have n4_ := Aside0.mk (blk_below (g := gb153) (o := .cells #[.int .i64 t149, .int .i64 t150, .string t151] 24 (0, 0)) (by (with_reducible repeat (first | refine blk_drewN ?_ _ | refine blk_drew ?_ | refine blk_alloc ?_ _)); refine blk_far ?_ NB153_183.out _; (with_reducible repeat (first | refine blk_drewN ?_ _ | refine blk_drew ?_ | refine blk_alloc ?_ _)); refine blk_far ?_ NB153_183.out _; (with_reducible repeat (first | refine blk_drewN ?_ _ | refine blk_drew ?_ | refine blk_alloc ?_ _)); refine blk_far ?_ NB153_183.out _; (with_reducible repeat (first | refine blk_drewN ?_ _ | refine blk_drew ?_ | refine blk_alloc ?_ _)); exact BK153.out) hb); have n5_ := Aside0.mk (blk_below (g := gb158) (o := .cells #[.int .i64 t154, .int .i64 t155, .string t156] 24 (0, 0)) (by (with_reducible repeat (first | refine blk_drewN ?_ _ | refine blk_drew ?_ | refine blk_alloc ?_ _)); refine blk_far ?_ NB158_183.out _; (with_reducible repeat (first | refine blk_drewN ?_ _ | refine blk_drew ?_ | refine blk_alloc ?_ _)); refine blk_far ?_ NB158_183.out _; (with_reducible repeat (first | refine blk_drewN ?_ _ | refine blk_drew ?_ | refine blk_alloc ?_ _)); refine blk_far ?_ NB158_183.out _; (with_reducible repeat (first | refine blk_drewN ?_ _ | refine blk_drew ?_ | refine blk_alloc ?_ _)); exact BK158.out) hb); have n6_ := Aside0.mk (blk_below (g := gb163) (o := .cells #[.int .i64 t159, .int .i64 t160, .string t161] 24 (0, 0)) (by (with_reducible repeat (first | refine blk_drewN ?_ _ | refine blk_drew ?_ | refine blk_alloc ?_ _)); refine blk_far ?_ NB163_183.out _; (with_reducible repeat (first | refine blk_drewN ?_ _ | refine blk_drew ?_ | refine blk_alloc ?_ _)); refine blk_far ?_ NB163_183.out _; (with_reducible repeat (first | refine blk_drewN ?_ _ | refine blk_drew ?_ | refine blk_alloc ?_ _)); refine blk_far ?_ NB163_183.out _; (with_reducible repeat (first | refine blk_drewN ?_ _ | refine blk_drew ?_ | refine blk_alloc ?_ _)); exact BK163.out) hb); have n7_ := Aside0.mk (blk_below (g := gb168) (o := .cells #[.int .i64 t164, .int .i64 t165, .string t166] 24 (0, 0)) (by (with_reducible repeat (first | refine blk_drewN ?_ _ | refine blk_drew ?_ | refine blk_alloc ?_ _)); refine blk_far ?_ NB168_183.out _; (with_reducible repeat (first | refine blk_drewN ?_ _ | refine blk_drew ?_ | refine blk_alloc ?_ _)); refine blk_far ?_ NB168_183.out _; (with_reducible repeat (first | refine blk_drewN ?_ _ | refine blk_drew ?_ | refine blk_alloc ?_ _)); refine blk_far ?_ NB168_183.out _; (with_reducible repeat (first | refine blk_drewN ?_ _ | refine blk_drew ?_ | refine blk_alloc ?_ _)); exact BK168.out) hb); have n8_ := Aside0.mk (blk_below (g := gb173) (o := .cells #[.int .i64 t169, .int .i64 t170, .string t171] 24 (0, 0)) (by (with_reducible repeat (first | refine blk_drewN ?_ _ | refine blk_drew ?_ | refine blk_alloc ?_ _)); refine blk_far ?_ NB173_183.out _; (with_reducible repeat (first | refine blk_drewN ?_ _ | refine blk_drew ?_ | refine blk_alloc ?_ _)); refine blk_far ?_ NB173_183.out _; (with_reducible repeat (first | refine blk_drewN ?_ _ | refine blk_drew ?_ | refine blk_alloc ?_ _)); refine blk_far ?_ NB173_183.out _; (with_reducible repeat (first | refine blk_drewN ?_ _ | refine blk_drew ?_ | refine blk_alloc ?_ _)); exact BK173.out) hb); have n9_ := Aside0.mk (blk_below (g := gb178) (o := .cells #[.int .i64 t174, .int .i64 t175, .string t176] 24 (0, 0)) (by (with_reducible repeat (first | refine blk_drewN ?_ _ | refine blk_drew ?_ | refine blk_alloc ?_ _)); refine blk_far ?_ NB178_183.out _; (with_reducible repeat (first | refine blk_drewN ?_ _ | refine blk_drew ?_ | refine blk_alloc ?_ _)); refine blk_far ?_ NB178_183.out _; (with_reducible repeat (first | refine blk_drewN ?_ _ | refine blk_drew ?_ | refine blk_alloc ?_ _)); refine blk_far ?_ NB178_183.out _; (with_reducible repeat (first | refine blk_drewN ?_ _ | refine blk_drew ?_ | refine blk_alloc ?_ _)); exact BK178.out) hb); have n10_ := Aside0.mk (blk_below (g := gb183) (o := .cells #[.int .i64 t179, .int .i64 t180, .string t181] 24 (0, 0)) (by (with_reducible repeat (first | refine blk_drewN ?_ _ | refine blk_drew ?_ | refine blk_alloc ?_ _)); refine blk_put (cs := #[.int .i64 t179, .int .i64 t180, .string (⟨#[]⟩ : ByteArray)]) ?_ 2 _ rfl; (with_reducible repeat (first | refine blk_drewN ?_ _ | refine blk_drew ?_ | refine blk_alloc ?_ _)); refine blk_put (cs := #[.int .i64 t179, .int .i64 0, .string (⟨#[]⟩ : ByteArray)]) ?_ 1 _ rfl; (with_reducible repeat (first | refine blk_drewN ?_ _ | refine blk_drew ?_ | refine blk_alloc ?_ _)); refine blk_put (cs := #[.int .i64 0, .int .i64 0, .string (⟨#[]⟩ : ByteArray)]) ?_ 0 _ rfl; (with_reducible repeat (first | refine blk_drewN ?_ _ | refine blk_drew ?_ | refine blk_alloc ?_ _)); exact BK183.out) hb); have n11_ := Aside0.mk (below_step (bel_ HB.out) hb); clear BK129; clear BK141; clear BK142; clear BK148; clear BK153; clear BK158; clear BK163; clear BK168; clear BK173; clear BK178; clear BK183; clear HB; have BK129 := n0_; have BK141 := n1_; have BK142 := n2_; have BK148 := n3_; have BK153 := n4_; have BK158 := n5_; have BK163 := n6_; have BK168 := n7_; have BK173 := n8_; have BK178 := n9_; have BK183 := n10_; have HB := n11_; clear n0_ n1_ n2_ n3_ n4_ n5_ n6_ n7_ n8_ n9_ n10_ n11_; (try clear hb); (try clear hb2); (try clear hk); (try clear hi)) | ((with_reducible refine gate_dst (N := 24) rfl ?_); refine box_event ?hg (N := 24) ?hd (cs := #[.int .i64 0, .int .i64 0, .string (⟨#[]⟩ : ByteArray)]) (t := 24) ?hr ?_; (case hd => rfl); (case hg => rfl); (case hr => first | (go_simp; done) | (go_simp; rfl)); intro gb188 hg w147 hbox hb; have n0_ := Aside0.mk (bb_ BK129.out hb); have n1_ := Aside0.mk (bb_ BK141.out hb); have n2_ := Aside0.mk (bb_ BK142.out hb); have n3_ := Aside0.mk (bb_ BK148.out hb); have n4_ := Aside0.mk (bb_ BK153.out hb); have n5_ := Aside0.mk (bb_ BK158.out hb); have n6_ := Aside0.mk (bb_ BK163.out hb); have n7_ := Aside0.mk (bb_ BK168.out hb); have n8_ := Aside0.mk (bb_ BK173.out hb); have n9_ := Aside0.mk (bb_ BK178.out hb); have n10_ := Aside0.mk (bb_ BK183.out hb); have n11_ := Aside0.mk (below_step (bel_ HB.out) hb); have n12_ := Aside0.mk (hbox); have n13_ := Aside0.mk (bz_ hg (bel_ HB.out)); have n14_ := Aside0.mk (bz_ hg (bel_ HB.out)); have n15_ := Aside0.mk (nl_ hg BK129.out); have n16_ := Aside0.mk (ng_ hg BK129.out); have n17_ := Aside0.mk (nl_ hg BK141.out); have n18_ := Aside0.mk (ng_ hg BK141.out); have n19_ := Aside0.mk (nl_ hg BK142.out); have n20_ := Aside0.mk (ng_ hg BK142.out); have n21_ := Aside0.mk (nl_ hg BK148.out); have n22_ := Aside0.mk (ng_ hg BK148.out); have n23_ := Aside0.mk (nl_ hg BK153.out); have n24_ := Aside0.mk (ng_ hg BK153.out); have n25_ := Aside0.mk (nl_ hg BK158.out); have n26_ := Aside0.mk (ng_ hg BK158.out); have n27_ := Aside0.mk (nl_ hg BK163.out); have n28_ := Aside0.mk (ng_ hg BK163.out); have n29_ := Aside0.mk (nl_ hg BK168.out); have n30_ := Aside0.mk (ng_ hg BK168.out); have n31_ := Aside0.mk (nl_ hg BK173.out); have n32_ := Aside0.mk (ng_ hg BK173.out); have n33_ := Aside0.mk (nl_ hg BK178.out); have n34_ := Aside0.mk (ng_ hg BK178.out); have n35_ := Aside0.mk (nl_ hg BK183.out); have n36_ := Aside0.mk (ng_ hg BK183.out); clear BK129; clear BK141; clear BK142; clear BK148; clear BK153; clear BK158; clear BK163; clear BK168; clear BK173; clear BK178; clear BK183; clear HB; have BK129 := n0_; have BK141 := n1_; have BK142 := n2_; have BK148 := n3_; have BK153 := n4_; have BK158 := n5_; have BK163 := n6_; have BK168 := n7_; have BK173 := n8_; have BK178 := n9_; have BK183 := n10_; have HB := n11_; have BK188 := n12_; have GW188 := n13_; have GE188 := n14_; have NB129_188 := n15_; have NB188_129 := n16_; have NB141_188 := n17_; have NB188_141 := n18_; have NB142_188 := n19_; have NB188_142 := n20_; have NB148_188 := n21_; have NB188_148 := n22_; have NB153_188 := n23_; have NB188_153 := n24_; have NB158_188 := n25_; have NB188_158 := n26_; have NB163_188 := n27_; have NB188_163 := n28_; have NB168_188 := n29_; have NB188_168 := n30_; have NB173_188 := n31_; have NB188_173 := n32_; have NB178_188 := n33_; have NB188_178 := n34_; have NB183_188 := n35_; have NB188_183 := n36_; clear n0_ n1_ n2_ n3_ n4_ n5_ n6_ n7_ n8_ n9_ n10_ n11_ n12_ n13_ n14_ n15_ n16_ n17_ n18_ n19_ n20_ n21_ n22_ n23_ n24_ n25_ n26_ n27_ n28_ n29_ n30_ n31_ n32_ n33_ n34_ n35_ n36_; clear hb hbox hg; have hnb148 := NB188_129.out; have hnc148 := NB129_188.out; have hnb149 := NB188_141.out; have hnc149 := NB141_188.out; have hnb150 := NB188_142.out; have hnc150 := NB142_188.out; have hnb151 := NB188_148.out; have hnc151 := NB148_188.out; have hnb152 := NB188_153.out; have hnc152 := NB153_188.out; have hnb153 := NB188_158.out; have hnc153 := NB158_188.out; have hnb154 := NB188_163.out; have hnc154 := NB163_188.out; have hnb155 := NB188_168.out; have hnc155 := NB168_188.out; have hnb156 := NB188_173.out; have hnc156 := NB173_188.out; have hnb157 := NB188_178.out; have hnc157 := NB178_188.out; have hnb158 := NB188_183.out; have hnc158 := NB183_188.out; have hcz159_0 : w147.cell? ⟨gb188, 0, none⟩ = some (.int .i64 0) := (blk_cell BK188.out 0).trans rfl; have hcz159_1 : w147.cell? ⟨gb188, 1, none⟩ = some (.int .i64 0) := (blk_cell BK188.out 1).trans rfl; have hcz159_2 : w147.cell? ⟨gb188, 2, none⟩ = some (.string (⟨#[]⟩ : ByteArray)) := (blk_cell BK188.out 2).trans rfl; have hfz159_0 := blk_frozen BK188.out 0; have hfz159_1 := blk_frozen BK188.out 1; have hfz159_2 := blk_frozen BK188.out 2; have hcz160_0 : w147.cell? ⟨gb163, 0, none⟩ = some (.int .i64 t159) := (blk_cell BK163.out 0).trans rfl; have hcz160_1 : w147.cell? ⟨gb163, 1, none⟩ = some (.int .i64 t160) := (blk_cell BK163.out 1).trans rfl; have hcz160_2 : w147.cell? ⟨gb163, 2, none⟩ = some (.string t161) := (blk_cell BK163.out 2).trans rfl; have hfz160_0 := blk_frozen BK163.out 0; have hfz160_1 := blk_frozen BK163.out 1; have hfz160_2 := blk_frozen BK163.out 2; have hcz161_0 : w147.cell? ⟨gb168, 0, none⟩ = some (.int .i64 t164) := (blk_cell BK168.out 0).trans rfl; have hcz161_1 : w147.cell? ⟨gb168, 1, none⟩ = some (.int .i64 t165) := (blk_cell BK168.out 1).trans rfl; have hcz161_2 : w147.cell? ⟨gb168, 2, none⟩ = some (.string t166) := (blk_cell BK168.out 2).trans rfl; have hfz161_0 := blk_frozen BK168.out 0; have hfz161_1 := blk_frozen BK168.out 1; have hfz161_2 := blk_frozen BK168.out 2; have hcz162_0 : w147.cell? ⟨gb183, 0, none⟩ = some (.int .i64 t179) := (blk_cell BK183.out 0).trans rfl; have hcz162_1 : w147.cell? ⟨gb183, 1, none⟩ = some (.int .i64 t180) := (blk_cell BK183.out 1).trans rfl; have hcz162_2 : w147.cell? ⟨gb183, 2, none⟩ = some (.string t181) := (blk_cell BK183.out 2).trans rfl; have hfz162_0 := blk_frozen BK183.out 0; have hfz162_1 := blk_frozen BK183.out 1; have hfz162_2 := blk_frozen BK183.out 2; have hcz163_0 : w147.cell? ⟨gb141, 0, none⟩ = some (.int .i64 t133) := (blk_cell BK141.out 0).trans rfl; have hcz163_1 : w147.cell? ⟨gb141, 1, none⟩ = some (.int .i64 t134) := (blk_cell BK141.out 1).trans rfl; have hcz163_2 : w147.cell? ⟨gb141, 2, none⟩ = some (.string t135) := (blk_cell BK141.out 2).trans rfl; have hfz163_0 := blk_frozen BK141.out 0; have hfz163_1 := blk_frozen BK141.out 1; have hfz163_2 := blk_frozen BK141.out 2))
 go_ret
 exact ⟨by first | rfl | (simp [errW_none, errW_some] <;> rfl) | (simp [*, errW_none, errW_some] <;> rfl), bel_ HB.out⟩
end Go.Proofs.Ytoghhpkmficnmaa.Al
