/- One function of the program comes to what its plain twin says. This text began as the kit's own print (print.py, made by cprint.sh) and was turned by split.py: it is no printed file. -/
import Derived.Test.YtjjgpleaidledaaF0
import Derived.Test.YtjjgpleaidledaaFcorncriblaw06works
import Derived.Test.YtjjgpleaidledaaFpackNumber
namespace Go.Proofs.Ytjjgpleaidledaa.Al
open Go.RowKit Go.Proofs.YtjjgpleaidledaaW.PrintWords Go.Proofs.YtjjgpleaidledaaW.PrintLast Go.Proofs.YtjjgpleaidledaaW.PrintMore
attribute [local go_sem] max2_int min2_int max_two min_two max_three min_three max_four min_four   -- for this text's walks alone
set_option linter.unusedVariables false
set_option linter.unusedSimpArgs false

/-! ### corncriblaw06_PackNumbers: function 5 -/
def corncriblaw06_PackNumbers.j0 : Nat → Int → Int → ByteArray → ByteArray → Bool → Option (Bool)
  | 0, _, _, _, _, _ => none
  | k + 1, x0, x1, x5, x7, x49 => if x49 = true then (some false) else (if x0 ≥ 0 then (if x1 ≥ x0 then (some (decide ((x5.size : Int) ≤ (x7.size : Int)))) else (some true)) else (some true))
def corncriblaw06_PackNumbers.f (k : Nat) (a0 : Int) (a1 : Int) : Option (Bool) := (corncriblaw06_works.f k).bind fun t242 => (if t242 = true then ((pack_Number.f k (a0 / 2)).bind fun bt243 => ((pack_Number.f k (a1 / 2)).bind fun bt245 => (if bt243.2 = 0 then (if bt245.2 = 0 then (if (bt243.1.size : Int) < 1 then (corncriblaw06_PackNumbers.j0 k (a0 / 2) (a1 / 2) bt243.1 bt245.1 true) else (if (bt243.1.size : Int) > 9 then (corncriblaw06_PackNumbers.j0 k (a0 / 2) (a1 / 2) bt243.1 bt245.1 true) else (corncriblaw06_PackNumbers.j0 k (a0 / 2) (a1 / 2) bt243.1 bt245.1 ((bt243.1.toList == bt245.1.toList) != ((a0 / 2) == (a1 / 2)))))) else (corncriblaw06_PackNumbers.j0 k (a0 / 2) (a1 / 2) bt243.1 bt245.1 true)) else (corncriblaw06_PackNumbers.j0 k (a0 / 2) (a1 / 2) bt243.1 bt245.1 true)))) else (some false))
theorem corncriblaw06_PackNumbers.mono_l : ∀ k, (∀ y0 y1 y2 y3 y4, LeO (corncriblaw06_PackNumbers.j0 k y0 y1 y2 y3 y4) (corncriblaw06_PackNumbers.j0 (k + 1) y0 y1 y2 y3 y4))
  | 0 => fun _ _ _ _ _ r h => by simp [corncriblaw06_PackNumbers.j0] at h
  | k + 1 => by
    have ih0 := corncriblaw06_PackNumbers.mono_l k
    · intro y0 y1 y2 y3 y4
      unfold corncriblaw06_PackNumbers.j0
      repeat' first
      | (with_reducible exact ih0 _ _ _ _ _)
      | (with_reducible exact corncriblaw06_works.mono _)
      | (with_reducible exact pack_Number.mono _ _)
      | (with_reducible exact LeO.refl _)
      | (with_reducible exact LeO.none _)
      | (with_reducible refine LeO.ite ?_ ?_)
      | (with_reducible refine LeO.bind ?_ (fun _ => ?_))
      | exact ih0 _ _ _ _ _
      | exact corncriblaw06_works.mono _
      | exact pack_Number.mono _ _
      | exact LeO.none _
      | refine LeO.ite ?_ ?_
      | refine LeO.bind ?_ (fun _ => ?_)
theorem corncriblaw06_PackNumbers.mono : ∀ a0 a1 k, LeO (corncriblaw06_PackNumbers.f k a0 a1) (corncriblaw06_PackNumbers.f (k + 1) a0 a1) := by
  intro a0 a1 k
  have ih0 := corncriblaw06_PackNumbers.mono_l k
  unfold corncriblaw06_PackNumbers.f
  repeat' first
      | (with_reducible exact ih0 _ _ _ _ _)
      | (with_reducible exact corncriblaw06_works.mono _)
      | (with_reducible exact pack_Number.mono _ _)
      | (with_reducible exact LeO.refl _)
      | (with_reducible exact LeO.none _)
      | (with_reducible refine LeO.ite ?_ ?_)
      | (with_reducible refine LeO.bind ?_ (fun _ => ?_))
      | exact ih0 _ _ _ _ _
      | exact corncriblaw06_works.mono _
      | exact pack_Number.mono _ _
      | exact LeO.none _
      | refine LeO.ite ?_ ?_
      | refine LeO.bind ?_ (fun _ => ?_)
set_option maxHeartbeats 8000000 in
set_option maxRecDepth 100000 in
theorem corncriblaw06_PackNumbers.calls (k : Nat) (a0 : Int) (a1 : Int) (r : Bool) (w : World) (h : corncriblaw06_PackNumbers.f k a0 a1 = some r) :
    Calls Try.prog 5 #[.int .i64 a0, .int .i64 a1] w fun e w' => e = .returned (.bool r) ∧ Below w.heap.size w w' := by
  have HB := Aside0.mk (Below.refl w.heap.size w)
  have H : ((corncriblaw06_works.f k).bind fun t242 => (if t242 = true then ((pack_Number.f k (a0 / 2)).bind fun bt243 => ((pack_Number.f k (a1 / 2)).bind fun bt245 => (if bt243.2 = 0 then (if bt245.2 = 0 then (if (bt243.1.size : Int) < 1 then (corncriblaw06_PackNumbers.j0 k (a0 / 2) (a1 / 2) bt243.1 bt245.1 true) else (if (bt243.1.size : Int) > 9 then (corncriblaw06_PackNumbers.j0 k (a0 / 2) (a1 / 2) bt243.1 bt245.1 true) else (corncriblaw06_PackNumbers.j0 k (a0 / 2) (a1 / 2) bt243.1 bt245.1 ((bt243.1.toList == bt245.1.toList) != ((a0 / 2) == (a1 / 2)))))) else (corncriblaw06_PackNumbers.j0 k (a0 / 2) (a1 / 2) bt243.1 bt245.1 true)) else (corncriblaw06_PackNumbers.j0 k (a0 / 2) (a1 / 2) bt243.1 bt245.1 true)))) else (some false))) = some r := h
  clear h
  replace H := Option.bind_eq_some_iff.mp H
  obtain ⟨t242, A30, H⟩ := H
  replace H : (if t242 = true then ((pack_Number.f k (a0 / 2)).bind fun bt243 => ((pack_Number.f k (a1 / 2)).bind fun bt245 => (if bt243.2 = 0 then (if bt245.2 = 0 then (if (bt243.1.size : Int) < 1 then (corncriblaw06_PackNumbers.j0 k (a0 / 2) (a1 / 2) bt243.1 bt245.1 true) else (if (bt243.1.size : Int) > 9 then (corncriblaw06_PackNumbers.j0 k (a0 / 2) (a1 / 2) bt243.1 bt245.1 true) else (corncriblaw06_PackNumbers.j0 k (a0 / 2) (a1 / 2) bt243.1 bt245.1 ((bt243.1.toList == bt245.1.toList) != ((a0 / 2) == (a1 / 2)))))) else (corncriblaw06_PackNumbers.j0 k (a0 / 2) (a1 / 2) bt243.1 bt245.1 true)) else (corncriblaw06_PackNumbers.j0 k (a0 / 2) (a1 / 2) bt243.1 bt245.1 true)))) else (some false)) = some r := H
  have A3 := Aside0.mk A30
  clear A30
  by_cases c4 : t242 = true
  · subst c4
    have H1 : ((pack_Number.f k (a0 / 2)).bind fun bt243 => ((pack_Number.f k (a1 / 2)).bind fun bt245 => (if bt243.2 = 0 then (if bt245.2 = 0 then (if (bt243.1.size : Int) < 1 then (corncriblaw06_PackNumbers.j0 k (a0 / 2) (a1 / 2) bt243.1 bt245.1 true) else (if (bt243.1.size : Int) > 9 then (corncriblaw06_PackNumbers.j0 k (a0 / 2) (a1 / 2) bt243.1 bt245.1 true) else (corncriblaw06_PackNumbers.j0 k (a0 / 2) (a1 / 2) bt243.1 bt245.1 ((bt243.1.toList == bt245.1.toList) != ((a0 / 2) == (a1 / 2)))))) else (corncriblaw06_PackNumbers.j0 k (a0 / 2) (a1 / 2) bt243.1 bt245.1 true)) else (corncriblaw06_PackNumbers.j0 k (a0 / 2) (a1 / 2) bt243.1 bt245.1 true)))) = some r := by rw [if_pos rfl] at H; exact H
    clear H
    have H := H1
    clear H1
    replace H := Option.bind_eq_some_iff.mp H
    obtain ⟨⟨t243, t244⟩, A50, H⟩ := H
    replace H : ((pack_Number.f k (a1 / 2)).bind fun bt245 => (if t244 = 0 then (if bt245.2 = 0 then (if (t243.size : Int) < 1 then (corncriblaw06_PackNumbers.j0 k (a0 / 2) (a1 / 2) t243 bt245.1 true) else (if (t243.size : Int) > 9 then (corncriblaw06_PackNumbers.j0 k (a0 / 2) (a1 / 2) t243 bt245.1 true) else (corncriblaw06_PackNumbers.j0 k (a0 / 2) (a1 / 2) t243 bt245.1 ((t243.toList == bt245.1.toList) != ((a0 / 2) == (a1 / 2)))))) else (corncriblaw06_PackNumbers.j0 k (a0 / 2) (a1 / 2) t243 bt245.1 true)) else (corncriblaw06_PackNumbers.j0 k (a0 / 2) (a1 / 2) t243 bt245.1 true))) = some r := H
    have A5 := Aside0.mk A50
    clear A50
    replace H := Option.bind_eq_some_iff.mp H
    obtain ⟨⟨t245, t246⟩, A60, H⟩ := H
    replace H : (if t244 = 0 then (if t246 = 0 then (if (t243.size : Int) < 1 then (corncriblaw06_PackNumbers.j0 k (a0 / 2) (a1 / 2) t243 t245 true) else (if (t243.size : Int) > 9 then (corncriblaw06_PackNumbers.j0 k (a0 / 2) (a1 / 2) t243 t245 true) else (corncriblaw06_PackNumbers.j0 k (a0 / 2) (a1 / 2) t243 t245 ((t243.toList == t245.toList) != ((a0 / 2) == (a1 / 2)))))) else (corncriblaw06_PackNumbers.j0 k (a0 / 2) (a1 / 2) t243 t245 true)) else (corncriblaw06_PackNumbers.j0 k (a0 / 2) (a1 / 2) t243 t245 true)) = some r := H
    have A6 := Aside0.mk A60
    clear A60
    have HC7 := Aside0.mk H
    clear H
    go_enter Try.func5, Try.ntmps5
    go_upto_region 6 with (first | ((with_reducible refine gate_callee (f := 9) rfl ?_); refine goesL_ (some 9) rfl rfl Try.func9 (by kernel_rfl) rfl #[] rfl (by (try simp only [List.map_toArray, List.map_cons, List.map_nil]); first | done | rfl | (simp only [List.length_drop, List.length_take]; rfl)) ?_; (with_reducible refine (corncriblaw06_works.calls k  true _ A3.out).mono ?_); rintro e w8 ⟨rfl, hb⟩; refine ⟨_, rfl, ?_⟩; have n0_ := Aside0.mk (below_step (by repeat (first | (with_reducible first | exact HB.out | apply below_alloc | apply pw_below_drewN | apply below_drew1) | exact HB.out)) hb); clear HB; have HB := n0_; clear n0_; (try clear hb); (try clear hb2); (try clear hk); (try clear hi)) | ((with_reducible refine gate_callee (f := 13) rfl ?_); refine goesL_ (some 17) rfl rfl Try.func13 (by kernel_rfl) rfl #[.int .i64 (a0 / 2)] rfl (by (try simp only [List.map_toArray, List.map_cons, List.map_nil]); first | done | rfl | (simp only [List.length_drop, List.length_take]; rfl)) ?_; (with_reducible refine (pack_Number.calls k (a0 / 2) t243 t244 _ A5.out).mono ?_); rintro e w9 ⟨rfl, hb⟩; refine ⟨_, rfl, ?_⟩; have n0_ := Aside0.mk (below_step (by repeat (first | (with_reducible first | exact HB.out | apply below_alloc | apply pw_below_drewN | apply below_drew1) | exact HB.out)) hb); clear HB; have HB := n0_; clear n0_; (try clear hb); (try clear hb2); (try clear hk); (try clear hi)) | ((with_reducible refine gate_callee (f := 13) rfl ?_); refine goesL_ (some 22) rfl rfl Try.func13 (by kernel_rfl) rfl #[.int .i64 (a1 / 2)] rfl (by (try simp only [List.map_toArray, List.map_cons, List.map_nil]); first | done | rfl | (simp only [List.length_drop, List.length_take]; rfl)) ?_; (with_reducible refine (pack_Number.calls k (a1 / 2) t245 t246 _ A6.out).mono ?_); rintro e w10 ⟨rfl, hb⟩; refine ⟨_, rfl, ?_⟩; have n0_ := Aside0.mk (below_step (by repeat (first | (with_reducible first | exact HB.out | apply below_alloc | apply pw_below_drewN | apply below_drew1) | exact HB.out)) hb); clear HB; have HB := n0_; clear n0_; (try clear hb); (try clear hb2); (try clear hk); (try clear hi)))
    (try simp only [Act.put, List.setIfInBounds_toArray, List.set_cons_zero, List.set_cons_succ])
    go_cut [49] (fun v49 wc => ∃ (kq : Nat) (x49_6 : Bool), v49 = .bool x49_6 ∧ Aside0 (corncriblaw06_PackNumbers.j0 kq (a0 / 2) (a1 / 2) t243 t245 x49_6 = some r) ∧ Aside0 (kq ≤ k) ∧ Aside0 (Below w.heap.size w wc))
    case first =>
      have H := HC7.out
      clear HC7
      by_cases c11 : t244 = 0
      · rw [if_pos c11] at H
        have c11b0 : (t244 == 0) = true := beq_iff_eq.mpr c11
        have c11b1 : (t244 != 0) = false := bne_eq_false_iff_eq.mpr c11
        clear c11
        (first | rw [c11b0] | (simp only [i64_w, i32_w]; rw [c11b0]) | skip)
        by_cases c12 : t246 = 0
        · rw [if_pos c12] at H
          have c12b0 : (t246 == 0) = true := beq_iff_eq.mpr c12
          have c12b1 : (t246 != 0) = false := bne_eq_false_iff_eq.mpr c12
          clear c12
          by_cases c13 : (t243.size : Int) < 1
          · rw [if_pos c13] at H
            have c13b0 : decide ((t243.size : Int) < 1) = true := decide_eq_true c13
            have c13b1 : decide (t243.size < 1) = true := decide_eq_true (by omega)
            clear c13
            have H' := Aside0.mk H
            clear H
            go_wp2
            go_meet
            case rel => exact ⟨_, (true), (by first | rfl | (simp; done) | (simp [*]; done)), H', ⟨by first | omega | exact Nat.le_refl _⟩, ⟨by repeat (first | (with_reducible first | exact HB.out | apply below_alloc | apply pw_below_drewN | apply below_drew1) | exact HB.out)⟩⟩
          · rw [if_neg c13] at H
            have c13b0 : decide ((t243.size : Int) < 1) = false := decide_eq_false c13
            have c13b1 : decide (t243.size < 1) = false := decide_eq_false (by omega)
            clear c13
            by_cases c14 : (t243.size : Int) > 9
            · rw [if_pos c14] at H
              have c14b0 : decide (9 < (t243.size : Int)) = true := decide_eq_true c14
              have c14b1 : decide (9 < t243.size) = true := decide_eq_true (by omega)
              clear c14
              have H' := Aside0.mk H
              clear H
              go_wp2
              go_meet
              case rel => exact ⟨_, (true), (by first | rfl | (simp; done) | (simp [*]; done)), H', ⟨by first | omega | exact Nat.le_refl _⟩, ⟨by repeat (first | (with_reducible first | exact HB.out | apply below_alloc | apply pw_below_drewN | apply below_drew1) | exact HB.out)⟩⟩
            · rw [if_neg c14] at H
              have c14b0 : decide (9 < (t243.size : Int)) = false := decide_eq_false c14
              have c14b1 : decide (9 < t243.size) = false := decide_eq_false (by omega)
              clear c14
              have H' := Aside0.mk H
              clear H
              go_wp2
              go_meet
              case rel => exact ⟨_, (((t243.toList == t245.toList) != ((a0 / 2) == (a1 / 2)))), (by first | rfl | (simp; done) | (simp [*]; done)), H', ⟨by first | omega | exact Nat.le_refl _⟩, ⟨by repeat (first | (with_reducible first | exact HB.out | apply below_alloc | apply pw_below_drewN | apply below_drew1) | exact HB.out)⟩⟩
        · rw [if_neg c12] at H
          have c12b0 : (t246 == 0) = false := beq_eq_false_iff_ne.mpr c12
          have c12b1 : (t246 != 0) = true := bne_iff_ne.mpr c12
          have H' := Aside0.mk H
          clear H
          go_wp2
          go_meet
          case rel => exact ⟨_, (true), (by first | rfl | (simp; done) | (simp [*]; done)), H', ⟨by first | omega | exact Nat.le_refl _⟩, ⟨by repeat (first | (with_reducible first | exact HB.out | apply below_alloc | apply pw_below_drewN | apply below_drew1) | exact HB.out)⟩⟩
      · rw [if_neg c11] at H
        have c11b0 : (t244 == 0) = false := beq_eq_false_iff_ne.mpr c11
        have c11b1 : (t244 != 0) = true := bne_iff_ne.mpr c11
        (first | rw [c11b0] | (simp only [i64_w, i32_w]; rw [c11b0]) | skip)
        have H' := Aside0.mk H
        clear H
        go_wp2
        go_meet
        case rel => exact ⟨_, (true), (by first | rfl | (simp; done) | (simp [*]; done)), H', ⟨by first | omega | exact Nat.le_refl _⟩, ⟨by repeat (first | (with_reducible first | exact HB.out | apply below_alloc | apply pw_below_drewN | apply below_drew1) | exact HB.out)⟩⟩
    case rest =>
      clear HC7
      try clear c1
      try clear p2
      try clear c4
      try clear c5
      try clear c9
      try clear c11
      try clear c11b0
      try clear c11b1
      try clear c12
      try clear c12b0
      try clear c12b1
      try clear c13
      try clear c13b0
      try clear c13b1
      try clear c14
      try clear c14b0
      try clear c14b1
      obtain ⟨kq, x49_6, rfl, HA, HJ6, HB⟩ := hcut
      cases kq with
      | zero => exact absurd HA.out (by simp [corncriblaw06_PackNumbers.j0])
      | succ kj6 =>
        have H := HA.out
        clear HA
        simp only [corncriblaw06_PackNumbers.j0] at H
        by_cases c15 : x49_6 = true
        · subst c15
          have H1 : (some false) = some r := by rw [if_pos rfl] at H; exact H
          clear H
          have H := H1
          clear H1
          obtain rfl := Option.some.inj H
          go_wp2
          go_ret
          exact ⟨by first | rfl | (simp [errW_none, errW_some] <;> rfl) | (simp [*, errW_none, errW_some] <;> rfl), by repeat (first | (with_reducible first | exact HB.out | apply below_alloc | apply pw_below_drewN | apply below_drew1) | exact HB.out)⟩
        · replace c15 := Bool.eq_false_iff.mpr c15
          subst c15
          have H1 : (if (a0 / 2) ≥ 0 then (if (a1 / 2) ≥ (a0 / 2) then (some (decide ((t243.size : Int) ≤ (t245.size : Int)))) else (some true)) else (some true)) = some r := by rw [if_neg (show ¬ (false = true) by decide)] at H; exact H
          clear H
          have H := H1
          clear H1
          by_cases c16 : (a0 / 2) ≥ 0
          · rw [if_pos c16] at H
            have c16b0 : decide (0 ≤ (a0 / 2)) = true := decide_eq_true c16
            clear c16
            by_cases c17 : (a1 / 2) ≥ (a0 / 2)
            · rw [if_pos c17] at H
              have c17b0 : decide ((a0 / 2) ≤ (a1 / 2)) = true := decide_eq_true c17
              clear c17
              obtain rfl := Option.some.inj H
              go_wp2
              go_ret
              exact ⟨by first | rfl | (simp [errW_none, errW_some] <;> rfl) | (simp [*, errW_none, errW_some] <;> rfl), by repeat (first | (with_reducible first | exact HB.out | apply below_alloc | apply pw_below_drewN | apply below_drew1) | exact HB.out)⟩
            · rw [if_neg c17] at H
              have c17b0 : decide ((a0 / 2) ≤ (a1 / 2)) = false := decide_eq_false c17
              clear c17
              obtain rfl := Option.some.inj H
              go_wp2
              go_ret
              exact ⟨by first | rfl | (simp [errW_none, errW_some] <;> rfl) | (simp [*, errW_none, errW_some] <;> rfl), by repeat (first | (with_reducible first | exact HB.out | apply below_alloc | apply pw_below_drewN | apply below_drew1) | exact HB.out)⟩
          · rw [if_neg c16] at H
            have c16b0 : decide (0 ≤ (a0 / 2)) = false := decide_eq_false c16
            clear c16
            obtain rfl := Option.some.inj H
            go_wp2
            go_ret
            exact ⟨by first | rfl | (simp [errW_none, errW_some] <;> rfl) | (simp [*, errW_none, errW_some] <;> rfl), by repeat (first | (with_reducible first | exact HB.out | apply below_alloc | apply pw_below_drewN | apply below_drew1) | exact HB.out)⟩
  · replace c4 := Bool.eq_false_iff.mpr c4
    subst c4
    have H1 : (some false) = some r := by rw [if_neg (show ¬ (false = true) by decide)] at H; exact H
    clear H
    have H := H1
    clear H1
    obtain rfl := Option.some.inj H
    go_enter Try.func5, Try.ntmps5
    go_wp2_with (first | ((with_reducible refine gate_callee (f := 9) rfl ?_); refine goesL_ (some 9) rfl rfl Try.func9 (by kernel_rfl) rfl #[] rfl (by (try simp only [List.map_toArray, List.map_cons, List.map_nil]); first | done | rfl | (simp only [List.length_drop, List.length_take]; rfl)) ?_; (with_reducible refine (corncriblaw06_works.calls k  false _ A3.out).mono ?_); rintro e w18 ⟨rfl, hb⟩; refine ⟨_, rfl, ?_⟩; have n0_ := Aside0.mk (below_step (by repeat (first | (with_reducible first | exact HB.out | apply below_alloc | apply pw_below_drewN | apply below_drew1) | exact HB.out)) hb); clear HB; have HB := n0_; clear n0_; (try clear hb); (try clear hb2); (try clear hk); (try clear hi)))
    go_ret
    exact ⟨by first | rfl | (simp [errW_none, errW_some] <;> rfl) | (simp [*, errW_none, errW_some] <;> rfl), by repeat (first | (with_reducible first | exact HB.out | apply below_alloc | apply pw_below_drewN | apply below_drew1) | exact HB.out)⟩

/-- THE ONE PURE STATEMENT of corncriblaw06_PackNumbers: yours. -/
def corncriblaw06_PackNumbers.Pure : Prop := ∀ (a0 : Int) (a1 : Int), (Lit.int .i64 a0).wf = true → (Lit.int .i64 a1).wf = true → ∃ k, corncriblaw06_PackNumbers.f k a0 a1 = some true
theorem corncriblaw06_PackNumbers.walk (P : corncriblaw06_PackNumbers.Pure) (a0 : Int) (a1 : Int) (w : World) (w0 : (Lit.int .i64 a0).wf = true) (w1 : (Lit.int .i64 a1).wf = true) :
    Calls Try.prog 5 #[.int .i64 a0, .int .i64 a1] w fun e w' => e = .returned (.bool true) ∧ Below w.heap.size w w' := by
  obtain ⟨k, h⟩ := P a0 a1 w0 w1
  refine (corncriblaw06_PackNumbers.calls k a0 a1 true w h).mono ?_
  rintro e w' ⟨rfl, hd⟩
  exact ⟨rfl, hd⟩

end Go.Proofs.Ytjjgpleaidledaa.Al
