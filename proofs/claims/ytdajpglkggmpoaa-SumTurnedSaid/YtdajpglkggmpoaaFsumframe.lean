/- One function of the program comes to what its plain twin says. This text began as the kit's own print (print.py, made by cprint.sh) and was turned by split.py: it is no printed file. -/
import Derived.Test.YtdajpglkggmpoaaF0
import Derived.Test.YtdajpglkggmpoaaFsumof
namespace Go.Proofs.Ytdajpglkggmpoaa.Al
open Go.RowKit Go.Proofs.YtdajpglkggmpoaaW.PrintWords Go.Proofs.YtdajpglkggmpoaaW.PrintLast Go.Proofs.YtdajpglkggmpoaaW.PrintMore
attribute [local go_sem] max2_int min2_int max_two min_two max_three min_three max_four min_four   -- for this text's walks alone
set_option linter.unusedVariables false
set_option linter.unusedSimpArgs false

/-! ### sum_frame: function 24 -/
def sum_frame.f (k : Nat) (a0 : ByteArray) : Option (ByteArray) := (some (([((a0.size : Int)) % 256, ((a0.size : Int) / 256) % 256] : List Int) : List Int)).bind fun y141 => ((sum_of.f k (([strOfNums y141, a0] : List ByteArray))).bind fun t147 => (if (strOfNums y141).size + a0.size ≤ 9223372036854775807 then ((some (([(t147) % 256, (t147 / 256) % 256, (t147 / 65536) % 256, (t147 / 16777216) % 256] : List Int) : List Int)).bind fun y148 => (if ((strOfNums y141) ++ a0).size + (strOfNums y148).size ≤ 9223372036854775807 then (some (((strOfNums y141) ++ a0) ++ (strOfNums y148))) else (none))) else (none)))
theorem sum_frame.mono : ∀ a0 k, LeO (sum_frame.f k a0) (sum_frame.f (k + 1) a0) := by
  intro a0 k
  unfold sum_frame.f
  repeat' first
      | (with_reducible exact sum_of.mono _ _)
      | (with_reducible exact LeO.refl _)
      | (with_reducible exact LeO.none _)
      | (with_reducible refine LeO.ite ?_ ?_)
      | (with_reducible refine LeO.bind ?_ (fun _ => ?_))
      | exact sum_of.mono _ _
      | exact LeO.none _
      | refine LeO.ite ?_ ?_
      | refine LeO.bind ?_ (fun _ => ?_)
set_option maxHeartbeats 8000000 in
set_option maxRecDepth 100000 in
theorem sum_frame.calls (k : Nat) (a0 : ByteArray) (r : ByteArray) (w : World) (h : sum_frame.f k a0 = some r) :
    Calls Try.prog 24 #[.string a0] w fun e w' => e = .returned (.string r) ∧ Below w.heap.size w w' := by
  have HB := Aside0.mk (Below.refl w.heap.size w)
  have H : ((some (([((a0.size : Int)) % 256, ((a0.size : Int) / 256) % 256] : List Int) : List Int)).bind fun y141 => ((sum_of.f k (([strOfNums y141, a0] : List ByteArray))).bind fun t147 => (if (strOfNums y141).size + a0.size ≤ 9223372036854775807 then ((some (([(t147) % 256, (t147 / 256) % 256, (t147 / 65536) % 256, (t147 / 16777216) % 256] : List Int) : List Int)).bind fun y148 => (if ((strOfNums y141) ++ a0).size + (strOfNums y148).size ≤ 9223372036854775807 then (some (((strOfNums y141) ++ a0) ++ (strOfNums y148))) else (none))) else (none)))) = some r := h
  clear h
  obtain ⟨y141, hy141⟩ : ∃ y_ : List Int, y_ = (([((a0.size : Int)) % 256, ((a0.size : Int) / 256) % 256] : List Int)) := ⟨_, rfl⟩
  replace H : ((sum_of.f k (([strOfNums y141, a0] : List ByteArray))).bind fun t147 => (if (strOfNums y141).size + a0.size ≤ 9223372036854775807 then ((some (([(t147) % 256, (t147 / 256) % 256, (t147 / 65536) % 256, (t147 / 16777216) % 256] : List Int) : List Int)).bind fun y148 => (if ((strOfNums y141) ++ a0).size + (strOfNums y148).size ≤ 9223372036854775807 then (some (((strOfNums y141) ++ a0) ++ (strOfNums y148))) else (none))) else (none))) = some r := by first | (rw [hy141]; with_reducible exact H) | (have H2_ := (Option.bind_some _ _).symm.trans H; rw [hy141]; with_reducible exact H2_) | (have H2_ := (Option.bind_some _ _).symm.trans H; with_reducible exact H2_) | with_reducible exact H | (rw [hy141]; exact H) | exact H
  have Ny141 := Aside0.mk hy141
  clear hy141
  obtain ⟨y144, hy144⟩ : ∃ y_ : List ByteArray, y_ = (([strOfNums y141, a0] : List ByteArray)) := ⟨_, rfl⟩
  replace H : ((sum_of.f k y144).bind fun t147 => (if (strOfNums y141).size + a0.size ≤ 9223372036854775807 then ((some (([(t147) % 256, (t147 / 256) % 256, (t147 / 65536) % 256, (t147 / 16777216) % 256] : List Int) : List Int)).bind fun y148 => (if ((strOfNums y141) ++ a0).size + (strOfNums y148).size ≤ 9223372036854775807 then (some (((strOfNums y141) ++ a0) ++ (strOfNums y148))) else (none))) else (none))) = some r := by first | (rw [hy144]; with_reducible exact H) | (have H2_ := (Option.bind_some _ _).symm.trans H; rw [hy144]; with_reducible exact H2_) | (have H2_ := (Option.bind_some _ _).symm.trans H; with_reducible exact H2_) | with_reducible exact H | (rw [hy144]; exact H) | exact H
  have Ny144 := Aside0.mk hy144
  clear hy144
  replace H := Option.bind_eq_some_iff.mp H
  obtain ⟨t147, A20, H⟩ := H
  replace H : (if (strOfNums y141).size + a0.size ≤ 9223372036854775807 then ((some (([(t147) % 256, (t147 / 256) % 256, (t147 / 65536) % 256, (t147 / 16777216) % 256] : List Int) : List Int)).bind fun y148 => (if ((strOfNums y141) ++ a0).size + (strOfNums y148).size ≤ 9223372036854775807 then (some (((strOfNums y141) ++ a0) ++ (strOfNums y148))) else (none))) else (none)) = some r := H
  have A2 := Aside0.mk A20
  clear A20
  by_cases c3 : (strOfNums y141).size + a0.size ≤ 9223372036854775807
  · rw [if_pos c3] at H
    have c3b0 := eq_true c3
    have c3b1 : decide ((strOfNums y141).size + a0.size ≤ 9223372036854775807) = true := decide_eq_true c3
    try have c3b2 : (9223372036854775807 < (strOfNums y141).size + a0.size) = False := eq_false (Nat.not_lt.2 c3)
    obtain ⟨y148, hy148⟩ : ∃ y_ : List Int, y_ = (([(t147) % 256, (t147 / 256) % 256, (t147 / 65536) % 256, (t147 / 16777216) % 256] : List Int)) := ⟨_, rfl⟩
    replace H : (if ((strOfNums y141) ++ a0).size + (strOfNums y148).size ≤ 9223372036854775807 then (some (((strOfNums y141) ++ a0) ++ (strOfNums y148))) else (none)) = some r := by first | (rw [hy148]; with_reducible exact H) | (have H2_ := (Option.bind_some _ _).symm.trans H; rw [hy148]; with_reducible exact H2_) | (have H2_ := (Option.bind_some _ _).symm.trans H; with_reducible exact H2_) | with_reducible exact H | (rw [hy148]; exact H) | exact H
    have Ny148 := Aside0.mk hy148
    clear hy148
    by_cases c4 : ((strOfNums y141) ++ a0).size + (strOfNums y148).size ≤ 9223372036854775807
    · rw [if_pos c4] at H
      have c4b0 := eq_true c4
      try have c4b0z : (((strOfNums y141).size + a0.size : Nat) + (strOfNums y148).size ≤ 9223372036854775807) = True := eq_true (by simpa only [ByteArray.size_extract, ByteArray.size_append, Nat.min_self] using of_eq_true c4b0)
      have c4b1 : decide (((strOfNums y141) ++ a0).size + (strOfNums y148).size ≤ 9223372036854775807) = true := decide_eq_true c4
      try have c4b1z : decide (((strOfNums y141).size + a0.size : Nat) + (strOfNums y148).size ≤ 9223372036854775807) = true := by simpa only [ByteArray.size_extract, ByteArray.size_append, Nat.min_self] using c4b1
      try have c4b2 : (9223372036854775807 < ((strOfNums y141) ++ a0).size + (strOfNums y148).size) = False := eq_false (Nat.not_lt.2 c4)
      try have c4b2z : (9223372036854775807 < ((strOfNums y141).size + a0.size : Nat) + (strOfNums y148).size) = False := by simpa only [ByteArray.size_extract, ByteArray.size_append, Nat.min_self] using c4b2
      obtain rfl := Option.some.inj H
      go_enter Try.func24, Try.ntmps24
      go_wp2_with (first | ((with_reducible refine gate_dst (N := 12) rfl ?_); refine Kd.R_lit (Kd.int .u8) _ 5 ?hg (N := 12) ?hd (xs := ([((a0.size : Int)) % 256, ((a0.size : Int) / 256) % 256] : List Int)) (inner := [.int .u8 (((a0.size : Int)) % 256), .int .u8 (((a0.size : Int) / 256) % 256)]) (ok := fun _ => True) (okp := fun _ => True) ?hr ?hp (fun _ hk => hk) trivial (Below.refl _ _) (Nat.le_refl _) (by simp) ?_; (case hd => rfl); (case hg => rfl); (case hr => first | (go_simp; done) | (go_simp; rfl)); (case hp => exact (Reps.one (show Kd.M (Kd.int .u8) _ _ _ (((a0.size : Int)) % 256) [.int .u8 (((a0.size : Int)) % 256)] from rfl) (Reps.one (show Kd.M (Kd.int .u8) _ _ _ (((a0.size : Int) / 256) % 256) [.int .u8 (((a0.size : Int) / 256) % 256)] from rfl) (Reps.none _ _)))); intro v142 w5 ho6 hb hg_ hnew_; clear hg_ hnew_; (first | rw [← Ny141.out] at ho6 | (simp only [Int.reduceToNat] at ho6; rw [← Ny141.out] at ho6)); have n0_ := Aside0.mk (Kd.R_lower ho6 (below_size (by repeat (first | (with_reducible first | exact HB.out | apply below_alloc | apply pw_below_drewN | apply below_drew1) | exact HB.out)))); have n1_ := Aside0.mk (below_step (by repeat (first | (with_reducible first | exact HB.out | apply below_alloc | apply pw_below_drewN | apply below_drew1) | exact HB.out)) hb); clear HB; have HO143 := n0_; have HB := n1_; clear n0_ n1_; clear hb ho6; have hcv7 := own_string (P := Try.prog) Try.underlying24 Try.underlying5 Try.underlying9 (Kd.own_of_R HO143.out)) | ((with_reducible refine gate_dst (N := 16) rfl ?_); refine Kd.R_lit Kd.string _ 9 ?hg (N := 16) ?hd (xs := ([strOfNums y141, a0] : List ByteArray)) (inner := [.string (strOfNums y141), .string a0]) (ok := fun _ => True) (okp := fun _ => True) ?hr ?hp (fun _ hk => hk) trivial (Below.refl _ _) (Nat.le_refl _) (by simp) ?_; (case hd => rfl); (case hg => rfl); (case hr => first | (go_simp; done) | (go_simp; rfl)); (case hp => exact (Reps.one (show Kd.M Kd.string _ _ _ (strOfNums y141) [.string (strOfNums y141)] from rfl) (Reps.one (show Kd.M Kd.string _ _ _ a0 [.string a0] from rfl) (Reps.none _ _)))); intro v145 w8 ho9 hb hg_ hnew_; clear hg_ hnew_; (first | rw [← Ny144.out] at ho9 | (simp only [Int.reduceToNat] at ho9; rw [← Ny144.out] at ho9)); have n0_ := Aside0.mk (Kd.R_below (by (with_reducible repeat (first | apply Kd.R_alloc | apply Kd.R_drewN | apply Kd.R_drew)); exact HO143.out) hb); have n1_ := Aside0.mk (Kd.R_lower ho9 (below_size (by repeat (first | (with_reducible first | exact HB.out | apply below_alloc | apply pw_below_drewN | apply below_drew1) | exact HB.out)))); have n2_ := Aside0.mk (below_step (by repeat (first | (with_reducible first | exact HB.out | apply below_alloc | apply pw_below_drewN | apply below_drew1) | exact HB.out)) hb); clear HO143; clear HB; have HO143 := n0_; have HO146 := n1_; have HB := n2_; clear n0_ n1_ n2_; clear hb ho9; obtain ⟨Ao10, co10, eo10⟩ := Kd.R_slice HO146.out; subst eo10) | ((with_reducible refine gate_callee (f := 23) rfl ?_); refine goesL_ (some 17) rfl rfl Try.func23 (by kernel_rfl) rfl #[.slice Ao10 y144.length co10] rfl (by (try simp only [List.map_toArray, List.map_cons, List.map_nil]); first | done | rfl | (simp only [List.length_drop, List.length_take]; rfl)) ?_; (with_reducible refine (sum_of.calls k _ _ y144 t147 _ ?side1 ?side2 A2.out).mono ?_); (case side1 => repeat (first | exact (Kd.R_reads' HO146.out).2.2 | (with_reducible refine Kd.C_alloc ?_ _) | (with_reducible refine Kd.C_drewN ?_ _) | (with_reducible refine Kd.C_drew ?_))); (case side2 => exact (Kd.R_reads' HO146.out).2.1); rintro e w' ⟨rfl, ⟨nd, rfl⟩⟩; refine ⟨_, rfl, ?_⟩) | ((with_reducible refine gate_dst (N := 32) rfl ?_); refine Kd.R_lit (Kd.int .u8) _ 5 ?hg (N := 32) ?hd (xs := ([(t147) % 256, (t147 / 256) % 256, (t147 / 65536) % 256, (t147 / 16777216) % 256] : List Int)) (inner := [.int .u8 ((t147) % 256), .int .u8 ((t147 / 256) % 256), .int .u8 ((t147 / 65536) % 256), .int .u8 ((t147 / 16777216) % 256)]) (ok := fun _ => True) (okp := fun _ => True) ?hr ?hp (fun _ hk => hk) trivial (Below.refl _ _) (Nat.le_refl _) (by simp) ?_; (case hd => rfl); (case hg => rfl); (case hr => first | (go_simp; done) | (go_simp; rfl)); (case hp => exact (Reps.one (show Kd.M (Kd.int .u8) _ _ _ ((t147) % 256) [.int .u8 ((t147) % 256)] from rfl) (Reps.one (show Kd.M (Kd.int .u8) _ _ _ ((t147 / 256) % 256) [.int .u8 ((t147 / 256) % 256)] from rfl) (Reps.one (show Kd.M (Kd.int .u8) _ _ _ ((t147 / 65536) % 256) [.int .u8 ((t147 / 65536) % 256)] from rfl) (Reps.one (show Kd.M (Kd.int .u8) _ _ _ ((t147 / 16777216) % 256) [.int .u8 ((t147 / 16777216) % 256)] from rfl) (Reps.none _ _)))))); intro v149 w11 ho12 hb hg_ hnew_; clear hg_ hnew_; (first | rw [← Ny148.out] at ho12 | (simp only [Int.reduceToNat] at ho12; rw [← Ny148.out] at ho12)); have n0_ := Aside0.mk (Kd.R_elder' (by (with_reducible repeat (first | apply Kd.R_alloc | apply Kd.R_drewN | apply Kd.R_drew)); exact HO143.out) (Kd.R_base ho12) hb); have n1_ := Aside0.mk (Kd.R_below (by (with_reducible repeat (first | apply Kd.R_alloc | apply Kd.R_drewN | apply Kd.R_drew)); exact HO146.out) hb); have n2_ := Aside0.mk (Kd.R_lower (Kd.R_new' ho12 (Kd.R_lt (by (with_reducible repeat (first | apply Kd.R_alloc | apply Kd.R_drewN | apply Kd.R_drew)); exact HO143.out))) (below_size (by repeat (first | (with_reducible first | exact HB.out | apply below_alloc | apply pw_below_drewN | apply below_drew1) | exact HB.out)))); have n3_ := Aside0.mk (below_step (by repeat (first | (with_reducible first | exact HB.out | apply below_alloc | apply pw_below_drewN | apply below_drew1) | exact HB.out)) hb); clear HO143; clear HO146; clear HB; have HO143 := n0_; have HO146 := n1_; have HO150 := n2_; have HB := n3_; clear n0_ n1_ n2_ n3_; clear hb ho12; have hcv13 := own_string (P := Try.prog) Try.underlying24 Try.underlying5 Try.underlying9 (Kd.own_of_R HO150.out)))
      go_ret
      exact ⟨by first | rfl | (simp [errW_none, errW_some] <;> rfl) | (simp [*, errW_none, errW_some] <;> rfl), by repeat (first | (with_reducible first | exact HB.out | apply below_alloc | apply pw_below_drewN | apply below_drew1) | exact HB.out)⟩
    · rw [if_neg c4] at H
      exact absurd H (by simp)
  · rw [if_neg c3] at H
    exact absurd H (by simp)

end Go.Proofs.Ytdajpglkggmpoaa.Al
