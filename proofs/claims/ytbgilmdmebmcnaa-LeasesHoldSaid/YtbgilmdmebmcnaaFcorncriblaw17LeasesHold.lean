/- The walk of LeasesHold. -/
import Derived.Test.YtbgilmdmebmcnaaPca
namespace Go.Proofs.Ytbgilmdmebmcnaa.Al
open Go.RowKit Go.Proofs.Ytbgilmdmebmcnaa.LeaseSpec Go.Proofs.YtbgilmdmebmcnaaW.PrintWords Go.Proofs.YtbgilmdmebmcnaaW.PrintLast Go.Proofs.YtbgilmdmebmcnaaW.PrintMore
set_option linter.unusedVariables false
set_option linter.unusedSimpArgs false
def corncriblaw17_LeasesHold.f (a0 : Int) (l1 : List S31) (a2 : Int) : Option Bool := some true
theorem info3h : (Try.prog.info? 3).map (fun i => (i.zero, i.size, i.bytes)) = some (some (.int .i64 0), 1, 8) := by kernel_rfl
def rg3_8_T : Bool × List (List Nat × List Nat) := (true, [([], []), ([0, 0], [0]), ([], []), ([2, 2], [2]), ([], []), ([4, 4], [4]), ([1, 0, 1], [1]), ([3, 6, 0, 1, 2, 3, 6], [3]), ([5, 7, 0, 1, 2, 3, 4, 5, 6, 7], [5])])
def rg3_8_B : List Nat := [0, 1, 0, 4, 0, 16, 3, 79, 255]
theorem rg3_8_tab : rtab .any (opsOf Try.f3 8) = rg3_8_T := by kernel_rfl
theorem rg3_8_bits : waitsOk rg3_8_T.2 rg3_8_B = true := by kernel_rfl
set_option maxHeartbeats 8000000 in
set_option maxRecDepth 100000 in
theorem hold_walk (a0 : Int) (A1 : Option Addr) (c1 : Nat) (l1 : List S31) (a2 : Int) (W : World) (hr1 : Kd.C k31 W A1 l1.length l1) : Calls Try.prog 3 #[.int .i64 a0, .slice A1 l1.length c1, .int .i64 a2] W fun e w' => e = .returned (.bool true) ∧ Below W.heap.size W w' := by
  have hu31 := Try.underlying31
  have hu29 := Try.underlying29
  have HR1 := Aside0.mk hr1
  clear hr1
  obtain ⟨long, hl⟩ : ∃ long, long = a0 % 8 := ⟨_, rfl⟩
  obtain ⟨last, hla⟩ : ∃ last, last = 50 + a2 % 50 := ⟨_, rfl⟩
  obtain ⟨H, hH⟩ : ∃ H : Hold, H = holdOf a0 l1 a2 := ⟨_, rfl⟩
  have l0 : 0 ≤ long := by omega
  have l8 : long < 8 := by omega
  obtain ⟨n, hn⟩ : ∃ n : Nat, n = min l1.length 20 := ⟨_, rfl⟩
  have HLO := Aside0.mk hl
  have HLA := Aside0.mk hla
  have HH := Aside0.mk hH
  have HN := Aside0.mk hn
  have hn20 : n ≤ 20 := by omega
  have hnl : n ≤ l1.length := by omega
  have hmin : (if (20 : Int) < (l1.length : Int) then 20 else (l1.length : Int)) = (n : Int) := by split <;> omega
  have hmin2 : (if (l1.length : Int) < 20 then (l1.length : Int) else 20) = (n : Int) := by split <;> omega
  clear hl hla hH hn
  go_enter Try.func3, Try.ntmps3
  go_upto_region 8 with (first | (go_at_call 6; refine (works_calls _).mono ?_; rintro e w1 ⟨rfl, hb⟩; have HB1 := Aside0.mk hb; clear hb) | (go_at_call 7; (with_reducible refine (amongh_calls a0 8 (by decide) (by decide) _).mono ?_); rintro e w2 ⟨rfl, hb⟩; rw [← HLO.out]; have HB2 := Aside0.mk (below_step HB1.out hb); clear hb) | (go_at_call 7; (with_reducible refine (amongh_calls a2 50 (by decide) (by decide) _).mono ?_); rintro e w3 ⟨rfl, hb⟩; have HB3 := Aside0.mk (below_step HB2.out hb); clear hb) | (go_at_call 8; refine (new_calls W _ HB3.out long l0 (by omega)).mono ?_; rintro e w4 ⟨gt, rfl, hg, hT, hb⟩; have HT4 := Aside0.mk hT; clear hg hT hb))
  clear hmin hmin2
  rw [← HLA.out]
  have htd : Aside0 (TS 55 51 W w4.drew gt ⟨long, 0, []⟩ _) := ⟨HT4.out.below (below_drew (Below.refl _ _))⟩
  refine start_ (n := 9) (S := fun w' => True) (ds := [7, 8]) #[false, false, false, false, false, false, false, false, false] (by kernel_rfl) rfl rfl trivial (fun hHeld => ?_)
  refine with_tabW rg3_8_tab rg3_8_bits (fun HT_ HW_ => ?_)
  obtain ⟨W4, hW4⟩ : ∃ W4, W4 = w4.drew := ⟨_, rfl⟩
  rw [← hW4] at htd ⊢
  have HB4 := Aside0.mk htd.out.bel
  clear hW4 hHeld
  refine pure_ (i := 0) (N := some 45) (v := ?_) (a' := ?_) #[true, false, false, false, false, false, false, false, false] rfl rfl (any_of HT_.out (by kernel_rfl)) (fun _ _ _ h => h) (Or.inl ⟨by rfl, ?_⟩) ?_ ?_
  rotate_left
  · intro w'
    go_simp
    with_reducible rfl
  rotate_left
  · simp only [Act.put, List.setIfInBounds_toArray, List.set_cons_zero, List.set_cons_succ, i64_w, i32_w]
    rfl
  refine pure_ (i := 2) (N := some 47) (v := ?_) (a' := ?_) #[true, false, true, false, false, false, false, false, false] rfl rfl (any_of HT_.out (by kernel_rfl)) (fun _ _ _ h => h) (Or.inl ⟨by rfl, ?_⟩) ?_ ?_
  rotate_left
  · intro w'
    go_simp
    with_reducible rfl
  rotate_left
  · simp only [Act.put, List.setIfInBounds_toArray, List.set_cons_zero, List.set_cons_succ, i64_w, i32_w]
    rfl
  refine pure_ (i := 4) (N := some 49) (v := ?_) (a' := ?_) #[true, false, true, false, true, false, false, false, false] rfl rfl (any_of HT_.out (by kernel_rfl)) (fun _ _ _ h => h) (Or.inl ⟨by rfl, ?_⟩) ?_ ?_
  rotate_left
  · intro w'
    go_simp
    with_reducible rfl
  rotate_left
  · simp only [Act.put, List.setIfInBounds_toArray, List.set_cons_zero, List.set_cons_succ, i64_w, i32_w]
    rfl
  refine join_ (σ := Value × Value × Value) 0 #[true, true, true, true, true, true, true, true, true] (fun s => [(46, s.1), (48, s.2.1), (50, s.2.2), (10, s.1), (11, s.2.1), (12, s.2.2)]) (fun s w' => P3 W w' gt ⟨long, 0, []⟩ (.slice none 0 0) n [s.1, s.2.1, s.2.2]) ?_ (fun hcont => ?_)
  rotate_left
  have HP0 : Aside0 (P3 W W4 gt ⟨long, 0, []⟩ (.slice none 0 0) n []) := ⟨⟨htd.out, fun v hv => absurd hv List.not_mem_nil, List.Pairwise.nil⟩⟩
  refine three_ (i := 1) (j := 3) (k := 5) (Ni := some 46) (Nj := some 48) (Nk := some 50) #[true, true, true, false, true, false, false, false, false] #[true, false, true, true, true, false, false, false, false] #[true, false, true, false, true, true, false, false, false] rfl rfl rfl rfl rfl rfl (by kernel_rfl) (by decide) (by decide) (by decide) (fun K hK => ?_) (fun K hK => ?_) (fun K hK => ?_)
  · (refine Kd.R_make_step (Kd.int .i64) (w0 := W) W.heap.size 3 (by rfl) (N := 46) rfl 29 (.tmp 45) (.tmp 45) rfl (n : Int) rfl rfl Try.underlying29 (.int .i64 0) 8 info3h rfl Nat.one_pos (by decide) 0 (ok := fun _ => True) (okp := fun _ => True) ?mzq1 (fun _ _ => trivial) trivial (by omega) (by omega) HP0.out.tb.bel HP0.out.tb.bel.size ?_; (case mzq1 => exact rfl); intro vq1 wq1 ho hb hg hat; have HPq1 := Aside0.mk (HP0.out.step ho hb hg hat); clear ho hb hg hat)
    refine hK.out _ _ trivial (fun _ => ?_)
    clear hK K
    refine norm_ (a' := ?_) ?_ ?_
    rotate_left
    · show Act.put _ (some 46) _ = _
      simp only [Act.put, List.setIfInBounds_toArray, List.set_cons_zero, List.set_cons_succ, i64_w, i32_w]
      rfl
    refine pure_ (i := 6) (N := some 10) (v := ?_) (a' := ?_) #[true, true, true, false, true, false, true, false, false] rfl rfl (any_of HT_.out (by kernel_rfl)) (fun _ _ _ h => h) (Or.inl ⟨by rfl, ?_⟩) ?_ ?_
    rotate_left
    · intro w'
      go_simp
      with_reducible rfl
    rotate_left
    · simp only [Act.put, List.setIfInBounds_toArray, List.set_cons_zero, List.set_cons_succ, i64_w, i32_w]
      rfl
    refine two_ (i := 3) (j := 5) (Ni := some 48) (Nj := some 50) #[true, true, true, true, true, false, true, false, false] #[true, true, true, false, true, true, true, false, false] rfl rfl rfl rfl (by kernel_rfl) (by decide) (by decide) (fun K hK => ?_) (fun K hK => ?_)
    · (refine Kd.R_make_step (Kd.int .i64) (w0 := W) W.heap.size 3 (by rfl) (N := 48) rfl 29 (.tmp 47) (.tmp 47) rfl (n : Int) rfl rfl Try.underlying29 (.int .i64 0) 8 info3h rfl Nat.one_pos (by decide) 0 (ok := fun _ => True) (okp := fun _ => True) ?mzq13 (fun _ _ => trivial) trivial (by omega) (by omega) HPq1.out.tb.bel HPq1.out.tb.bel.size ?_; (case mzq13 => exact rfl); intro vq13 wq13 ho hb hg hat; have HPq13 := Aside0.mk (HPq1.out.step ho hb hg hat); clear ho hb hg hat)
      refine hK.out _ _ trivial (fun _ => ?_)
      clear hK K
      refine norm_ (a' := ?_) ?_ ?_
      rotate_left
      · show Act.put _ (some 48) _ = _
        simp only [Act.put, List.setIfInBounds_toArray, List.set_cons_zero, List.set_cons_succ, i64_w, i32_w]
        rfl
      refine pure_ (i := 7) (N := some 11) (v := ?_) (a' := ?_) #[true, true, true, true, true, false, true, true, false] rfl rfl (any_of HT_.out (by kernel_rfl)) (fun _ _ _ h => h) (Or.inl ⟨by rfl, ?_⟩) ?_ ?_
      rotate_left
      · intro w'
        go_simp
        with_reducible rfl
      rotate_left
      · simp only [Act.put, List.setIfInBounds_toArray, List.set_cons_zero, List.set_cons_succ, i64_w, i32_w]
        rfl
      refine one_ (i := 5) (N := some 50) #[true, true, true, true, true, true, true, true, false] rfl rfl (by kernel_rfl) (by decide) (fun K hK => ?_)
      · (refine Kd.R_make_step (Kd.int .i64) (w0 := W) W.heap.size 3 (by rfl) (N := 50) rfl 29 (.tmp 49) (.tmp 49) rfl (n : Int) rfl rfl Try.underlying29 (.int .i64 0) 8 info3h rfl Nat.one_pos (by decide) 0 (ok := fun _ => True) (okp := fun _ => True) ?mzq135 (fun _ _ => trivial) trivial (by omega) (by omega) HPq13.out.tb.bel HPq13.out.tb.bel.size ?_; (case mzq135 => exact rfl); intro vq135 wq135 ho hb hg hat; have HPq135 := Aside0.mk (HPq13.out.step ho hb hg hat); clear ho hb hg hat)
        refine hK.out _ _ trivial (fun _ => ?_)
        clear hK K
        refine norm_ (a' := ?_) ?_ ?_
        rotate_left
        · show Act.put _ (some 50) _ = _
          simp only [Act.put, List.setIfInBounds_toArray, List.set_cons_zero, List.set_cons_succ, i64_w, i32_w]
          rfl
        refine pure_ (i := 8) (N := some 12) (v := ?_) (a' := ?_) #[true, true, true, true, true, true, true, true, true] rfl rfl (any_of HT_.out (by kernel_rfl)) (fun _ _ _ h => h) (Or.inl ⟨by rfl, ?_⟩) ?_ ?_
        rotate_left
        · intro w'
          go_simp
          with_reducible rfl
        rotate_left
        · simp only [Act.put, List.setIfInBounds_toArray, List.set_cons_zero, List.set_cons_succ, i64_w, i32_w]
          rfl
        exact hcont (vq1, vq13, vq135) wq135 HPq135.out
    · (refine Kd.R_make_step (Kd.int .i64) (w0 := W) W.heap.size 3 (by rfl) (N := 50) rfl 29 (.tmp 49) (.tmp 49) rfl (n : Int) rfl rfl Try.underlying29 (.int .i64 0) 8 info3h rfl Nat.one_pos (by decide) 0 (ok := fun _ => True) (okp := fun _ => True) ?mzq15 (fun _ _ => trivial) trivial (by omega) (by omega) HPq1.out.tb.bel HPq1.out.tb.bel.size ?_; (case mzq15 => exact rfl); intro vq15 wq15 ho hb hg hat; have HPq15 := Aside0.mk (HPq1.out.step ho hb hg hat); clear ho hb hg hat)
      refine hK.out _ _ trivial (fun _ => ?_)
      clear hK K
      refine norm_ (a' := ?_) ?_ ?_
      rotate_left
      · show Act.put _ (some 50) _ = _
        simp only [Act.put, List.setIfInBounds_toArray, List.set_cons_zero, List.set_cons_succ, i64_w, i32_w]
        rfl
      refine one_ (i := 3) (N := some 48) #[true, true, true, true, true, true, true, false, false] rfl rfl (by kernel_rfl) (by decide) (fun K hK => ?_)
      · (refine Kd.R_make_step (Kd.int .i64) (w0 := W) W.heap.size 3 (by rfl) (N := 48) rfl 29 (.tmp 47) (.tmp 47) rfl (n : Int) rfl rfl Try.underlying29 (.int .i64 0) 8 info3h rfl Nat.one_pos (by decide) 0 (ok := fun _ => True) (okp := fun _ => True) ?mzq153 (fun _ _ => trivial) trivial (by omega) (by omega) HPq15.out.tb.bel HPq15.out.tb.bel.size ?_; (case mzq153 => exact rfl); intro vq153 wq153 ho hb hg hat; have HPq153 := Aside0.mk (HPq15.out.step ho hb hg hat); clear ho hb hg hat)
        refine hK.out _ _ trivial (fun _ => ?_)
        clear hK K
        refine norm_ (a' := ?_) ?_ ?_
        rotate_left
        · show Act.put _ (some 48) _ = _
          simp only [Act.put, List.setIfInBounds_toArray, List.set_cons_zero, List.set_cons_succ, i64_w, i32_w]
          rfl
        refine pure_ (i := 7) (N := some 11) (v := ?_) (a' := ?_) #[true, true, true, true, true, true, true, true, false] rfl rfl (any_of HT_.out (by kernel_rfl)) (fun _ _ _ h => h) (Or.inl ⟨by rfl, ?_⟩) ?_ ?_
        rotate_left
        · intro w'
          go_simp
          with_reducible rfl
        rotate_left
        · simp only [Act.put, List.setIfInBounds_toArray, List.set_cons_zero, List.set_cons_succ, i64_w, i32_w]
          rfl
        refine pure_ (i := 8) (N := some 12) (v := ?_) (a' := ?_) #[true, true, true, true, true, true, true, true, true] rfl rfl (any_of HT_.out (by kernel_rfl)) (fun _ _ _ h => h) (Or.inl ⟨by rfl, ?_⟩) ?_ ?_
        rotate_left
        · intro w'
          go_simp
          with_reducible rfl
        rotate_left
        · simp only [Act.put, List.setIfInBounds_toArray, List.set_cons_zero, List.set_cons_succ, i64_w, i32_w]
          rfl
        exact hcont (vq1, vq153, vq15) wq153 HPq153.out.sw23
  · (refine Kd.R_make_step (Kd.int .i64) (w0 := W) W.heap.size 3 (by rfl) (N := 48) rfl 29 (.tmp 47) (.tmp 47) rfl (n : Int) rfl rfl Try.underlying29 (.int .i64 0) 8 info3h rfl Nat.one_pos (by decide) 0 (ok := fun _ => True) (okp := fun _ => True) ?mzq3 (fun _ _ => trivial) trivial (by omega) (by omega) HP0.out.tb.bel HP0.out.tb.bel.size ?_; (case mzq3 => exact rfl); intro vq3 wq3 ho hb hg hat; have HPq3 := Aside0.mk (HP0.out.step ho hb hg hat); clear ho hb hg hat)
    refine hK.out _ _ trivial (fun _ => ?_)
    clear hK K
    refine norm_ (a' := ?_) ?_ ?_
    rotate_left
    · show Act.put _ (some 48) _ = _
      simp only [Act.put, List.setIfInBounds_toArray, List.set_cons_zero, List.set_cons_succ, i64_w, i32_w]
      rfl
    refine two_ (i := 1) (j := 5) (Ni := some 46) (Nj := some 50) #[true, true, true, true, true, false, false, false, false] #[true, false, true, true, true, true, false, false, false] rfl rfl rfl rfl (by kernel_rfl) (by decide) (by decide) (fun K hK => ?_) (fun K hK => ?_)
    · (refine Kd.R_make_step (Kd.int .i64) (w0 := W) W.heap.size 3 (by rfl) (N := 46) rfl 29 (.tmp 45) (.tmp 45) rfl (n : Int) rfl rfl Try.underlying29 (.int .i64 0) 8 info3h rfl Nat.one_pos (by decide) 0 (ok := fun _ => True) (okp := fun _ => True) ?mzq31 (fun _ _ => trivial) trivial (by omega) (by omega) HPq3.out.tb.bel HPq3.out.tb.bel.size ?_; (case mzq31 => exact rfl); intro vq31 wq31 ho hb hg hat; have HPq31 := Aside0.mk (HPq3.out.step ho hb hg hat); clear ho hb hg hat)
      refine hK.out _ _ trivial (fun _ => ?_)
      clear hK K
      refine norm_ (a' := ?_) ?_ ?_
      rotate_left
      · show Act.put _ (some 46) _ = _
        simp only [Act.put, List.setIfInBounds_toArray, List.set_cons_zero, List.set_cons_succ, i64_w, i32_w]
        rfl
      refine pure_ (i := 6) (N := some 10) (v := ?_) (a' := ?_) #[true, true, true, true, true, false, true, false, false] rfl rfl (any_of HT_.out (by kernel_rfl)) (fun _ _ _ h => h) (Or.inl ⟨by rfl, ?_⟩) ?_ ?_
      rotate_left
      · intro w'
        go_simp
        with_reducible rfl
      rotate_left
      · simp only [Act.put, List.setIfInBounds_toArray, List.set_cons_zero, List.set_cons_succ, i64_w, i32_w]
        rfl
      refine pure_ (i := 7) (N := some 11) (v := ?_) (a' := ?_) #[true, true, true, true, true, false, true, true, false] rfl rfl (any_of HT_.out (by kernel_rfl)) (fun _ _ _ h => h) (Or.inl ⟨by rfl, ?_⟩) ?_ ?_
      rotate_left
      · intro w'
        go_simp
        with_reducible rfl
      rotate_left
      · simp only [Act.put, List.setIfInBounds_toArray, List.set_cons_zero, List.set_cons_succ, i64_w, i32_w]
        rfl
      refine one_ (i := 5) (N := some 50) #[true, true, true, true, true, true, true, true, false] rfl rfl (by kernel_rfl) (by decide) (fun K hK => ?_)
      · (refine Kd.R_make_step (Kd.int .i64) (w0 := W) W.heap.size 3 (by rfl) (N := 50) rfl 29 (.tmp 49) (.tmp 49) rfl (n : Int) rfl rfl Try.underlying29 (.int .i64 0) 8 info3h rfl Nat.one_pos (by decide) 0 (ok := fun _ => True) (okp := fun _ => True) ?mzq315 (fun _ _ => trivial) trivial (by omega) (by omega) HPq31.out.tb.bel HPq31.out.tb.bel.size ?_; (case mzq315 => exact rfl); intro vq315 wq315 ho hb hg hat; have HPq315 := Aside0.mk (HPq31.out.step ho hb hg hat); clear ho hb hg hat)
        refine hK.out _ _ trivial (fun _ => ?_)
        clear hK K
        refine norm_ (a' := ?_) ?_ ?_
        rotate_left
        · show Act.put _ (some 50) _ = _
          simp only [Act.put, List.setIfInBounds_toArray, List.set_cons_zero, List.set_cons_succ, i64_w, i32_w]
          rfl
        refine pure_ (i := 8) (N := some 12) (v := ?_) (a' := ?_) #[true, true, true, true, true, true, true, true, true] rfl rfl (any_of HT_.out (by kernel_rfl)) (fun _ _ _ h => h) (Or.inl ⟨by rfl, ?_⟩) ?_ ?_
        rotate_left
        · intro w'
          go_simp
          with_reducible rfl
        rotate_left
        · simp only [Act.put, List.setIfInBounds_toArray, List.set_cons_zero, List.set_cons_succ, i64_w, i32_w]
          rfl
        exact hcont (vq31, vq3, vq315) wq315 HPq315.out.sw12
    · (refine Kd.R_make_step (Kd.int .i64) (w0 := W) W.heap.size 3 (by rfl) (N := 50) rfl 29 (.tmp 49) (.tmp 49) rfl (n : Int) rfl rfl Try.underlying29 (.int .i64 0) 8 info3h rfl Nat.one_pos (by decide) 0 (ok := fun _ => True) (okp := fun _ => True) ?mzq35 (fun _ _ => trivial) trivial (by omega) (by omega) HPq3.out.tb.bel HPq3.out.tb.bel.size ?_; (case mzq35 => exact rfl); intro vq35 wq35 ho hb hg hat; have HPq35 := Aside0.mk (HPq3.out.step ho hb hg hat); clear ho hb hg hat)
      refine hK.out _ _ trivial (fun _ => ?_)
      clear hK K
      refine norm_ (a' := ?_) ?_ ?_
      rotate_left
      · show Act.put _ (some 50) _ = _
        simp only [Act.put, List.setIfInBounds_toArray, List.set_cons_zero, List.set_cons_succ, i64_w, i32_w]
        rfl
      refine one_ (i := 1) (N := some 46) #[true, true, true, true, true, true, false, false, false] rfl rfl (by kernel_rfl) (by decide) (fun K hK => ?_)
      · (refine Kd.R_make_step (Kd.int .i64) (w0 := W) W.heap.size 3 (by rfl) (N := 46) rfl 29 (.tmp 45) (.tmp 45) rfl (n : Int) rfl rfl Try.underlying29 (.int .i64 0) 8 info3h rfl Nat.one_pos (by decide) 0 (ok := fun _ => True) (okp := fun _ => True) ?mzq351 (fun _ _ => trivial) trivial (by omega) (by omega) HPq35.out.tb.bel HPq35.out.tb.bel.size ?_; (case mzq351 => exact rfl); intro vq351 wq351 ho hb hg hat; have HPq351 := Aside0.mk (HPq35.out.step ho hb hg hat); clear ho hb hg hat)
        refine hK.out _ _ trivial (fun _ => ?_)
        clear hK K
        refine norm_ (a' := ?_) ?_ ?_
        rotate_left
        · show Act.put _ (some 46) _ = _
          simp only [Act.put, List.setIfInBounds_toArray, List.set_cons_zero, List.set_cons_succ, i64_w, i32_w]
          rfl
        refine pure_ (i := 6) (N := some 10) (v := ?_) (a' := ?_) #[true, true, true, true, true, true, true, false, false] rfl rfl (any_of HT_.out (by kernel_rfl)) (fun _ _ _ h => h) (Or.inl ⟨by rfl, ?_⟩) ?_ ?_
        rotate_left
        · intro w'
          go_simp
          with_reducible rfl
        rotate_left
        · simp only [Act.put, List.setIfInBounds_toArray, List.set_cons_zero, List.set_cons_succ, i64_w, i32_w]
          rfl
        refine pure_ (i := 7) (N := some 11) (v := ?_) (a' := ?_) #[true, true, true, true, true, true, true, true, false] rfl rfl (any_of HT_.out (by kernel_rfl)) (fun _ _ _ h => h) (Or.inl ⟨by rfl, ?_⟩) ?_ ?_
        rotate_left
        · intro w'
          go_simp
          with_reducible rfl
        rotate_left
        · simp only [Act.put, List.setIfInBounds_toArray, List.set_cons_zero, List.set_cons_succ, i64_w, i32_w]
          rfl
        refine pure_ (i := 8) (N := some 12) (v := ?_) (a' := ?_) #[true, true, true, true, true, true, true, true, true] rfl rfl (any_of HT_.out (by kernel_rfl)) (fun _ _ _ h => h) (Or.inl ⟨by rfl, ?_⟩) ?_ ?_
        rotate_left
        · intro w'
          go_simp
          with_reducible rfl
        rotate_left
        · simp only [Act.put, List.setIfInBounds_toArray, List.set_cons_zero, List.set_cons_succ, i64_w, i32_w]
          rfl
        exact hcont (vq351, vq3, vq35) wq351 HPq351.out.sw23.sw12
  · (refine Kd.R_make_step (Kd.int .i64) (w0 := W) W.heap.size 3 (by rfl) (N := 50) rfl 29 (.tmp 49) (.tmp 49) rfl (n : Int) rfl rfl Try.underlying29 (.int .i64 0) 8 info3h rfl Nat.one_pos (by decide) 0 (ok := fun _ => True) (okp := fun _ => True) ?mzq5 (fun _ _ => trivial) trivial (by omega) (by omega) HP0.out.tb.bel HP0.out.tb.bel.size ?_; (case mzq5 => exact rfl); intro vq5 wq5 ho hb hg hat; have HPq5 := Aside0.mk (HP0.out.step ho hb hg hat); clear ho hb hg hat)
    refine hK.out _ _ trivial (fun _ => ?_)
    clear hK K
    refine norm_ (a' := ?_) ?_ ?_
    rotate_left
    · show Act.put _ (some 50) _ = _
      simp only [Act.put, List.setIfInBounds_toArray, List.set_cons_zero, List.set_cons_succ, i64_w, i32_w]
      rfl
    refine two_ (i := 1) (j := 3) (Ni := some 46) (Nj := some 48) #[true, true, true, false, true, true, false, false, false] #[true, false, true, true, true, true, false, false, false] rfl rfl rfl rfl (by kernel_rfl) (by decide) (by decide) (fun K hK => ?_) (fun K hK => ?_)
    · (refine Kd.R_make_step (Kd.int .i64) (w0 := W) W.heap.size 3 (by rfl) (N := 46) rfl 29 (.tmp 45) (.tmp 45) rfl (n : Int) rfl rfl Try.underlying29 (.int .i64 0) 8 info3h rfl Nat.one_pos (by decide) 0 (ok := fun _ => True) (okp := fun _ => True) ?mzq51 (fun _ _ => trivial) trivial (by omega) (by omega) HPq5.out.tb.bel HPq5.out.tb.bel.size ?_; (case mzq51 => exact rfl); intro vq51 wq51 ho hb hg hat; have HPq51 := Aside0.mk (HPq5.out.step ho hb hg hat); clear ho hb hg hat)
      refine hK.out _ _ trivial (fun _ => ?_)
      clear hK K
      refine norm_ (a' := ?_) ?_ ?_
      rotate_left
      · show Act.put _ (some 46) _ = _
        simp only [Act.put, List.setIfInBounds_toArray, List.set_cons_zero, List.set_cons_succ, i64_w, i32_w]
        rfl
      refine pure_ (i := 6) (N := some 10) (v := ?_) (a' := ?_) #[true, true, true, false, true, true, true, false, false] rfl rfl (any_of HT_.out (by kernel_rfl)) (fun _ _ _ h => h) (Or.inl ⟨by rfl, ?_⟩) ?_ ?_
      rotate_left
      · intro w'
        go_simp
        with_reducible rfl
      rotate_left
      · simp only [Act.put, List.setIfInBounds_toArray, List.set_cons_zero, List.set_cons_succ, i64_w, i32_w]
        rfl
      refine one_ (i := 3) (N := some 48) #[true, true, true, true, true, true, true, false, false] rfl rfl (by kernel_rfl) (by decide) (fun K hK => ?_)
      · (refine Kd.R_make_step (Kd.int .i64) (w0 := W) W.heap.size 3 (by rfl) (N := 48) rfl 29 (.tmp 47) (.tmp 47) rfl (n : Int) rfl rfl Try.underlying29 (.int .i64 0) 8 info3h rfl Nat.one_pos (by decide) 0 (ok := fun _ => True) (okp := fun _ => True) ?mzq513 (fun _ _ => trivial) trivial (by omega) (by omega) HPq51.out.tb.bel HPq51.out.tb.bel.size ?_; (case mzq513 => exact rfl); intro vq513 wq513 ho hb hg hat; have HPq513 := Aside0.mk (HPq51.out.step ho hb hg hat); clear ho hb hg hat)
        refine hK.out _ _ trivial (fun _ => ?_)
        clear hK K
        refine norm_ (a' := ?_) ?_ ?_
        rotate_left
        · show Act.put _ (some 48) _ = _
          simp only [Act.put, List.setIfInBounds_toArray, List.set_cons_zero, List.set_cons_succ, i64_w, i32_w]
          rfl
        refine pure_ (i := 7) (N := some 11) (v := ?_) (a' := ?_) #[true, true, true, true, true, true, true, true, false] rfl rfl (any_of HT_.out (by kernel_rfl)) (fun _ _ _ h => h) (Or.inl ⟨by rfl, ?_⟩) ?_ ?_
        rotate_left
        · intro w'
          go_simp
          with_reducible rfl
        rotate_left
        · simp only [Act.put, List.setIfInBounds_toArray, List.set_cons_zero, List.set_cons_succ, i64_w, i32_w]
          rfl
        refine pure_ (i := 8) (N := some 12) (v := ?_) (a' := ?_) #[true, true, true, true, true, true, true, true, true] rfl rfl (any_of HT_.out (by kernel_rfl)) (fun _ _ _ h => h) (Or.inl ⟨by rfl, ?_⟩) ?_ ?_
        rotate_left
        · intro w'
          go_simp
          with_reducible rfl
        rotate_left
        · simp only [Act.put, List.setIfInBounds_toArray, List.set_cons_zero, List.set_cons_succ, i64_w, i32_w]
          rfl
        exact hcont (vq51, vq513, vq5) wq513 HPq513.out.sw12.sw23
    · (refine Kd.R_make_step (Kd.int .i64) (w0 := W) W.heap.size 3 (by rfl) (N := 48) rfl 29 (.tmp 47) (.tmp 47) rfl (n : Int) rfl rfl Try.underlying29 (.int .i64 0) 8 info3h rfl Nat.one_pos (by decide) 0 (ok := fun _ => True) (okp := fun _ => True) ?mzq53 (fun _ _ => trivial) trivial (by omega) (by omega) HPq5.out.tb.bel HPq5.out.tb.bel.size ?_; (case mzq53 => exact rfl); intro vq53 wq53 ho hb hg hat; have HPq53 := Aside0.mk (HPq5.out.step ho hb hg hat); clear ho hb hg hat)
      refine hK.out _ _ trivial (fun _ => ?_)
      clear hK K
      refine norm_ (a' := ?_) ?_ ?_
      rotate_left
      · show Act.put _ (some 48) _ = _
        simp only [Act.put, List.setIfInBounds_toArray, List.set_cons_zero, List.set_cons_succ, i64_w, i32_w]
        rfl
      refine one_ (i := 1) (N := some 46) #[true, true, true, true, true, true, false, false, false] rfl rfl (by kernel_rfl) (by decide) (fun K hK => ?_)
      · (refine Kd.R_make_step (Kd.int .i64) (w0 := W) W.heap.size 3 (by rfl) (N := 46) rfl 29 (.tmp 45) (.tmp 45) rfl (n : Int) rfl rfl Try.underlying29 (.int .i64 0) 8 info3h rfl Nat.one_pos (by decide) 0 (ok := fun _ => True) (okp := fun _ => True) ?mzq531 (fun _ _ => trivial) trivial (by omega) (by omega) HPq53.out.tb.bel HPq53.out.tb.bel.size ?_; (case mzq531 => exact rfl); intro vq531 wq531 ho hb hg hat; have HPq531 := Aside0.mk (HPq53.out.step ho hb hg hat); clear ho hb hg hat)
        refine hK.out _ _ trivial (fun _ => ?_)
        clear hK K
        refine norm_ (a' := ?_) ?_ ?_
        rotate_left
        · show Act.put _ (some 46) _ = _
          simp only [Act.put, List.setIfInBounds_toArray, List.set_cons_zero, List.set_cons_succ, i64_w, i32_w]
          rfl
        refine pure_ (i := 6) (N := some 10) (v := ?_) (a' := ?_) #[true, true, true, true, true, true, true, false, false] rfl rfl (any_of HT_.out (by kernel_rfl)) (fun _ _ _ h => h) (Or.inl ⟨by rfl, ?_⟩) ?_ ?_
        rotate_left
        · intro w'
          go_simp
          with_reducible rfl
        rotate_left
        · simp only [Act.put, List.setIfInBounds_toArray, List.set_cons_zero, List.set_cons_succ, i64_w, i32_w]
          rfl
        refine pure_ (i := 7) (N := some 11) (v := ?_) (a' := ?_) #[true, true, true, true, true, true, true, true, false] rfl rfl (any_of HT_.out (by kernel_rfl)) (fun _ _ _ h => h) (Or.inl ⟨by rfl, ?_⟩) ?_ ?_
        rotate_left
        · intro w'
          go_simp
          with_reducible rfl
        rotate_left
        · simp only [Act.put, List.setIfInBounds_toArray, List.set_cons_zero, List.set_cons_succ, i64_w, i32_w]
          rfl
        refine pure_ (i := 8) (N := some 12) (v := ?_) (a' := ?_) #[true, true, true, true, true, true, true, true, true] rfl rfl (any_of HT_.out (by kernel_rfl)) (fun _ _ _ h => h) (Or.inl ⟨by rfl, ?_⟩) ?_ ?_
        rotate_left
        · intro w'
          go_simp
          with_reducible rfl
        rotate_left
        · simp only [Act.put, List.setIfInBounds_toArray, List.set_cons_zero, List.set_cons_succ, i64_w, i32_w]
          rfl
        exact hcont (vq531, vq53, vq5) wq531 HPq531.out.sw12.sw23.sw12
  rintro ⟨v1, v2, v3⟩ w3 hP3
  have HP3 := Aside0.mk hP3
  clear hP3
  simp only [putAll, Act.put, List.setIfInBounds_toArray, List.set_cons_zero, List.set_cons_succ]
  refine done_ (done_of HT_.out (by kernel_rfl)) ?_
  have HRS : Aside0 (RS W w3 gt ⟨long, 0, []⟩ (.slice none 0 0) v1 v2 v3 (fillI (tkOf l1) n 0) (fillI (enOf l1) n 0) (fillI (stOf l1) n 0)) := ⟨HP3.out.rs _ _ _⟩
  clear HP3 htd HT4 HB4
  go_wp2
  go_loopw [13, 52] (fun v13 v52 wr => ∃ (i : Nat), v52 = .int .i64 i ∧ v13 = .int .i64 (atOf l1 i) ∧ i ≤ n ∧ Aside0 (RS W wr gt ⟨long, 0, []⟩ (.slice none 0 0) v1 v2 v3 (fillI (tkOf l1) n i) (fillI (enOf l1) n i) (fillI (stOf l1) n i))) (fun _ v52 _ => n - (intOf v52).toNat)
  case atStart => exact ⟨0, rfl, rfl, Nat.zero_le _, HRS⟩
  case round =>
    obtain ⟨i, rfl, rfl, hi, HRr⟩ := hrel
    clear HRS
    by_cases hlt : i < n
    · have b1 : decide ((i : Int) < (n : Int)) = true := decide_eq_true (by omega)
      have b2 : decide ((i : Int) < (l1.length : Int)) = true := decide_eq_true (by omega)
      have b3 : decide (i < n) = true := decide_eq_true hlt
      have b4 : decide (i < l1.length) = true := decide_eq_true (by omega)
      have hil : i < l1.length := by omega
      obtain ⟨g1, d1, e1, _, _⟩ := HRr.out.t.form (by rw [fill_len]; omega)
      rw [fill_len] at e1
      obtain ⟨g2, d2, e2, _, _⟩ := HRr.out.e.form (by rw [fill_len]; omega)
      rw [fill_len] at e2
      obtain ⟨g3, d3, e3, _, _⟩ := HRr.out.s.form (by rw [fill_len]; omega)
      rw [fill_len] at e3
      obtain ⟨ad, eA, hx0, hx1, hx2⟩ := at_T31 (Kd.C_below HR1.out HRr.out.tb.bel) i hil
      obtain ⟨hab0, hab1⟩ := atOf_b l1 i
      have HS1 : Aside0 (atOf l1 (i + 1) = atOf l1 i + (rd_T31 l1 i).f0 % 5) := ⟨rfl⟩
      have HS3 : Aside0 (enOf l1 i = atOf l1 (i + 1) + (rd_T31 l1 i).f2 % 9) := ⟨rfl⟩
      have HS4 : Aside0 (stOf l1 i = (rd_T31 l1 i).f1 % 50) := ⟨rfl⟩
      have HC : ∀ w', RS W w' gt ⟨long, 0, []⟩ (.slice none 0 0) v1 v2 v3 (fillI (tkOf l1) n (i + 1)) (fillI (enOf l1) n i) (fillI (stOf l1) n i) → True := fun _ _ => trivial
      clear HC
      subst eA e1 e2 e3
      have hLT : Aside0 (tkOf l1 i = atOf l1 (i + 1)) := ⟨rfl⟩
      obtain ⟨x, hx⟩ : ∃ x, x = rd_T31 l1 i := ⟨_, rfl⟩
      obtain ⟨q, hq⟩ : ∃ q, q = atOf l1 i := ⟨_, rfl⟩
      rw [← hq, ← hx] at HS1
      rw [HS1.out] at HS3
      rw [HS1.out] at hLT
      rw [← hx] at hx0 hx1 hx2 HS3 HS4
      rw [← hq] at hab0 hab1 ⊢
      have HX := Aside0.mk hx
      have hw1 : wrap64 (q + x.f0 % 5) = q + x.f0 % 5 := by unfold wrap64; omega
      have hw1' : IntKind.i64.wrap (q + x.f0 % 5) = q + x.f0 % 5 := by rw [IntKind.wrap_i64]; omega
      have hw2 : wrap64 (q + x.f0 % 5 + x.f2 % 9) = q + x.f0 % 5 + x.f2 % 9 := by unfold wrap64; omega
      have hw2' : IntKind.i64.wrap (q + x.f0 % 5 + x.f2 % 9) = q + x.f0 % 5 + x.f2 % 9 := by rw [IntKind.wrap_i64]; omega
      have HI := Aside0.mk hlt
      clear hx hq
      go_wp2_with (first | (go_at_call 7; (with_reducible refine (amongh_calls x.f0 5 (by decide) (by decide) _).mono ?_); rintro e u1 ⟨rfl, hb⟩; have HU1 := Aside0.mk (HRr.out.below hb); clear hb; clear hx0 hx1 hx2; obtain ⟨hc1, hz1⟩ := IR.celln HU1.out.t (fill_len _ _ _) i HI.out) | ((with_reducible refine gate_store (t := 3) (p := 66) rfl ?_); refine store_event (t := 3) (p := 66) (v := ?vo1) (w1 := (u1.setCell ⟨g1, i, none⟩ (.int .i64 (q + x.f0 % 5)))) ?hg1 ?ho1 ?hn1 ?hr1 ?_; (case ho1 => rfl); (case hg1 => rfl); (case hn1 => rfl); (case hr1 => first | (go_simp; done) | (go_simp; rfl)); intro u2 hw; have HU2 := Aside0.mk (HU1.out.set_t (fill_len _ _ _) (Nat.lt_of_le_of_lt (Nat.zero_le _) HI.out) i (q + x.f0 % 5)); rw [← hw] at HU2; clear hw hc1 hz1; obtain ⟨hx0, hx1, hx2⟩ := cells31 (Kd.C_below HR1.out HU2.out.tb.bel) i hil; rw [← HX.out] at hx0 hx1 hx2) | (go_at_call 7; (with_reducible refine (amongh_calls x.f2 9 (by decide) (by decide) _).mono ?_); rintro e u3 ⟨rfl, hb⟩; have HU3 := Aside0.mk (HU2.out.below hb); clear hb; clear hx0 hx1 hx2; obtain ⟨hc2, hz2⟩ := IR.celln HU3.out.e (fill_len _ _ _) i HI.out) | ((with_reducible refine gate_store (t := 3) (p := 77) rfl ?_); refine store_event (t := 3) (p := 77) (v := ?vo2) (w1 := (u3.setCell ⟨g2, i, none⟩ (.int .i64 (q + x.f0 % 5 + x.f2 % 9)))) ?hg2 ?ho2 ?hn2 ?hr2 ?_; (case ho2 => rfl); (case hg2 => rfl); (case hn2 => rfl); (case hr2 => first | (go_simp; done) | (go_simp; rfl)); intro u4 hw; have HU4 := Aside0.mk (HU3.out.set_e (fill_len _ _ _) (Nat.lt_of_le_of_lt (Nat.zero_le _) HI.out) i (q + x.f0 % 5 + x.f2 % 9)); rw [← hw] at HU4; clear hw hc2 hz2; obtain ⟨hx0, hx1, hx2⟩ := cells31 (Kd.C_below HR1.out HU4.out.tb.bel) i hil; rw [← HX.out] at hx0 hx1 hx2) | (go_at_call 7; (with_reducible refine (amongh_calls x.f1 50 (by decide) (by decide) _).mono ?_); rintro e u5 ⟨rfl, hb⟩; have HU5 := Aside0.mk (HU4.out.below hb); clear hb; clear hx0 hx1 hx2; obtain ⟨hc3, hz3⟩ := IR.celln HU5.out.s (fill_len _ _ _) i HI.out) | ((with_reducible refine gate_store (t := 3) (p := 86) rfl ?_); refine store_event (t := 3) (p := 86) (v := ?vo3) (w1 := (u5.setCell ⟨g3, i, none⟩ (.int .i64 (x.f1 % 50)))) ?hg3 ?ho3 ?hn3 ?hr3 ?_; (case ho3 => rfl); (case hg3 => rfl); (case hn3 => rfl); (case hr3 => first | (go_simp; done) | (go_simp; rfl)); intro u6 hw; have HU6 := Aside0.mk (HU5.out.set_s (fill_len _ _ _) (Nat.lt_of_le_of_lt (Nat.zero_le _) HI.out) i (x.f1 % 50)); rw [← hw] at HU6; clear hw hc3 hz3))
      have HU7 := HU6.out
      rw [← HS3.out, ← hLT.out, ← HS4.out, fill_set _ HI.out, fill_set _ HI.out, fill_set _ HI.out] at HU7
      go_roundw
      case rel => exact ⟨i + 1, by go_num, by rw [HS1.out], hlt, ⟨HU7⟩⟩
      case measure => simp [intOf]; omega
    · obtain rfl : i = n := by omega
      have b1 : decide ((i : Int) < (i : Int)) = false := decide_eq_false (by omega)
      obtain ⟨hat0, hat1⟩ := atOf_b l1 i
      obtain ⟨top, htop⟩ : ∃ top, top = atOf l1 i := ⟨_, rfl⟩
      rw [← htop] at hat0 hat1 ⊢
      have HTOP := Aside0.mk htop
      have HHn : Aside0 (H.n = i) := ⟨by rw [HH.out, HN.out]; rfl⟩
      have HHl : Aside0 (H.long = long) := ⟨by rw [HH.out, HLO.out]; rfl⟩
      have HHa : Aside0 (H.last = last) := ⟨by rw [HH.out, HLA.out]; rfl⟩
      have HHt : Aside0 (∀ j, H.tk j = tkOf l1 j) := ⟨fun j => by rw [HH.out]; rfl⟩
      have HHe : Aside0 (∀ j, H.en j = enOf l1 j) := ⟨fun j => by rw [HH.out]; rfl⟩
      have HHs : Aside0 (∀ j, H.st j = stOf l1 j) := ⟨fun j => by rw [HH.out]; rfl⟩
      clear htop hlt hi
      obtain ⟨n, hni⟩ : ∃ n, n = i := ⟨_, rfl⟩
      rw [← hni] at HHn HRr hn20 hnl hat1 ⊢
      clear hni b1 HN
      have b1 : decide ((n : Int) < (n : Int)) = false := decide_eq_false (by omega)
      have hw20 : wrap64 (top + 20) = top + 20 := by unfold wrap64; omega
      have hw20' : IntKind.i64.wrap (top + 20) = top + 20 := by rw [IntKind.wrap_i64]; omega
      go_wp2_with ((with_reducible refine gate_dst (N := 89) rfl ?_); refine Kd.R_make (Kd.int .i64) (w0 := W) W.heap.size 3 rfl (N := 89) rfl 29 (.tmp 88) (.tmp 88) rfl (n : Int) rfl rfl Try.underlying29 (.int .i64 0) 8 info3h rfl Nat.one_pos (by decide) 0 (ok := fun _ => True) (okp := fun _ => True) ?mz (fun _ _ => trivial) trivial (by omega) (by omega) HRr.out.tb.bel HRr.out.tb.bel.size ?_; (case mz => exact rfl); intro vn wn ho hb hg hat; have HRN := Aside0.mk (RN.of_make HRr.out ho hb hg hat); clear ho hb hg hat)
      have HINV : Aside0 (H.Inv 0 0 0 ⟨long, 0, []⟩) := ⟨by rw [← HHl.out]; exact Hold.Inv.zero⟩
      have HNB : Aside0 (NB n 0 (List.replicate n 0)) := ⟨⟨by simp, fun j hj => absurd hj (Nat.not_lt_zero _)⟩⟩
      go_loopw [16] (fun v16 wr2 => ∃ (now : Int) (m : Nat) (T : Tb) (vp : Value) (ln : List Int), v16 = .int .i64 now ∧ 0 ≤ now ∧ now ≤ top + 21 ∧ Aside0 (H.Inv now 0 m T) ∧ Aside0 (NB n m ln) ∧ Aside0 (RN W wr2 gt T vp v1 v2 v3 vn (fillI (tkOf l1) n n) (fillI (enOf l1) n n) (fillI (stOf l1) n n) ln)) (fun v16 _ => (top + 21 - intOf v16).toNat)
      case atStart => exact ⟨0, 0, _, _, _, rfl, Int.le_refl _, by omega, HINV, HNB, HRN⟩
      case round =>
        obtain ⟨now, m, T, vp, ln, rfl, hn0, hn1, HI0, HB0, HR0⟩ := hrel
        clear HINV HNB HRN HRr
        by_cases hnow : now ≤ top + 20
        · have e1 : decide (now ≤ top + 20) = true := decide_eq_true hnow
          have HNOW := Aside0.mk hnow
          clear hnow
          go_wp2
          go_loopw [98] (fun v98 wr3 => ∃ (i m : Nat) (T : Tb) (vp : Value) (ln : List Int), v98 = .int .i64 i ∧ i ≤ n ∧ Aside0 (H.Inv now i m T) ∧ Aside0 (NB n m ln) ∧ Aside0 (RN W wr3 gt T vp v1 v2 v3 vn (fillI (tkOf l1) n n) (fillI (enOf l1) n n) (fillI (stOf l1) n n) ln)) (fun v98 _ => n - (intOf v98).toNat)
          case atStart => exact ⟨0, _, _, _, _, rfl, Nat.zero_le _, HI0, HB0, HR0⟩
          case round =>
            obtain ⟨i, m, T, vp, ln, rfl, hi, HI1, HB1, HR1'⟩ := hrel
            clear HI0 HB0 HR0
            by_cases hlt : i < n
            · have b2 : decide ((i : Int) < (n : Int)) = true := decide_eq_true (by omega)
              have b3 : decide (i < n) = true := decide_eq_true hlt
              obtain ⟨g1, d1, e1_, _, _⟩ := HR1'.out.r.t.form (by rw [fill_len]; omega)
              rw [fill_len] at e1_
              obtain ⟨g2, d2, e2_, _, _⟩ := HR1'.out.r.e.form (by rw [fill_len]; omega)
              rw [fill_len] at e2_
              obtain ⟨g3, d3, e3_, _, _⟩ := HR1'.out.r.s.form (by rw [fill_len]; omega)
              rw [fill_len] at e3_
              obtain ⟨g4, d4, e4_, _, _⟩ := HR1'.out.n.form (by rw [HB1.out.1]; omega)
              rw [HB1.out.1] at e4_
              subst e1_ e2_ e3_ e4_
              obtain ⟨hc1, hz1⟩ := IR.celln HR1'.out.r.t (fill_len _ _ _) i hlt
              rw [fill_get _ hlt hlt] at hc1
              obtain ⟨hc2, hz2⟩ := IR.celln HR1'.out.r.e (fill_len _ _ _) i hlt
              rw [fill_get _ hlt hlt] at hc2
              obtain ⟨hc3, hz3⟩ := IR.celln HR1'.out.r.s (fill_len _ _ _) i hlt
              rw [fill_get _ hlt hlt] at hc3
              obtain ⟨hc4, hz4⟩ := IR.celln HR1'.out.n HB1.out.1 i hlt
              have HIL := Aside0.mk hlt
              have HIN : Aside0 (i < H.n) := ⟨by rw [HHn.out]; exact hlt⟩
              have HN1K : Aside0 (now ≤ 1000) := ⟨by have := HNOW.out; omega⟩
              obtain ⟨tk, htk⟩ : ∃ tk, tk = tkOf l1 i := ⟨_, rfl⟩
              obtain ⟨en, hen⟩ : ∃ en, en = enOf l1 i := ⟨_, rfl⟩
              obtain ⟨st, hst⟩ : ∃ st, st = stOf l1 i := ⟨_, rfl⟩
              rw [← htk] at hc1
              rw [← hen] at hc2
              rw [← hst] at hc3
              have HTK : Aside0 (H.tk i = tk) := ⟨by rw [HHt.out, htk]⟩
              have HEN : Aside0 (H.en i = en) := ⟨by rw [HHe.out, hen]⟩
              have HST : Aside0 (H.st i = st) := ⟨by rw [HHs.out, hst]⟩
              have HLEN : Aside0 (T.l.length ≤ 1024) := ⟨by have := HI1.out.len; have := HI1.out.le; have := H.n1; omega⟩
              have HMANY : Aside0 (T.long = long ∧ T.many = (m : Int) ∧ m ≤ 20) := ⟨by rw [HI1.out.long, HHl.out], HI1.out.many, by have := HI1.out.le; have := H.n1; omega⟩
              clear htk hen hst
              by_cases q1 : now = tk
              · have f1 : (now == tk) = true := beq_iff_eq.2 q1
                obtain ⟨T', hT', HI2⟩ := HI1.out.take HIN.out (by rw [HTK.out, q1]) HN1K.out
                have hmi := HI1.out.at_ HIN.out (by rw [HTK.out, q1])
                rw [HST.out] at hT'
                have HT' := Aside0.mk hT'
                have HI2 := Aside0.mk HI2
                have HMI := Aside0.mk hmi
                have HB2 := Aside0.mk ((HMI.out ▸ HB1.out : NB n i ln).set HIL.out)
                clear q1 hT' hmi
                go_wp2_with (first | (go_at_call 9; refine (take_calls W _ gt T vp HR1'.out.r.tb HLEN.out ⟨by rw [HMANY.out.1]; exact l0, by rw [HMANY.out.1]; omega⟩ ⟨by rw [HMANY.out.2.1]; omega, by rw [HMANY.out.2.1]; have := HMANY.out.2.2; omega⟩ now st).mono ?_; rintro e u1 ⟨vp', rfl, hT, hk⟩; rw [HT'.out] at hT ⊢; have HU1 := Aside0.mk (HR1'.out.turn hT (hold_keep_none hk _)); clear hT hk hc1 hc2 hc3 hc4 hz1 hz2 hz3 hz4; obtain ⟨hc4, hz4⟩ := IR.celln HU1.out.n HB1.out.1 i HIL.out) | ((with_reducible refine gate_store (t := 3) (p := 119) rfl ?_); refine store_event (t := 3) (p := 119) (v := ?vo4) (w1 := (u1.setCell ⟨g4, i, none⟩ (.int .i64 ((i : Int) + 1)))) ?hg4 ?ho4 ?hn4 ?hr4 ?_; (case ho4 => rfl); (case hg4 => rfl); (case hn4 => rfl); (case hr4 => first | (go_simp; done) | (go_simp; rfl)); intro u2 hw; have HU2 := Aside0.mk (HU1.out.set_n HB1.out.1 (Nat.lt_of_le_of_lt (Nat.zero_le _) HIL.out) i ((i : Int) + 1)); rw [← hw] at HU2; clear hw hc4 hz4))
                go_roundw
                case rel => exact ⟨i + 1, i + 1, T', _, _, by go_num, HIL.out, HI2, HB2, HU2⟩
                case measure => have := HIL.out; simp [intOf]; omega
              · have f1 : (now == tk) = false := beq_eq_false_iff_ne.2 q1
                by_cases q2 : tk < now
                · have f2 : decide (tk < now) = true := decide_eq_true q2
                  by_cases q3 : now ≤ en
                  · have f3 : decide (now ≤ en) = true := decide_eq_true q3
                    by_cases q4 : 0 < long
                    · have f4 : decide (0 < long) = true := decide_eq_true q4
                      obtain ⟨T', hT', HI2⟩ := HI1.out.keep HIN.out (by rw [HTK.out]; exact q2) (by rw [HEN.out]; exact q3) (by rw [HHl.out]; exact q4) HN1K.out
                      have hno := HB1.out.2 i (HI1.out.is_in HIN.out (by rw [HTK.out]; exact q2))
                      rw [hno] at hc4
                      have HT' := Aside0.mk hT'
                      have HI2 := Aside0.mk HI2
                      clear q1 q2 q3 q4 hT' hno
                      go_wp2_with (first | (go_at_call 10; refine (keep_calls W _ gt T vp HR1'.out.r.tb HLEN.out ⟨by rw [HMANY.out.1]; exact l0, by rw [HMANY.out.1]; omega⟩ now ((i : Int) + 1)).mono ?_; rintro e u1 ⟨rfl, hT, hk⟩; rw [HT'.out] at hT ⊢; have HU1 := Aside0.mk (HR1'.out.turn hT hk); clear hT hk hc1 hc2 hc3 hc4 hz1 hz2 hz3 hz4))
                      go_roundw
                      case rel => exact ⟨i + 1, m, T', _, _, by go_num, HIL.out, HI2, HB1, HU1⟩
                      case measure => have := HIL.out; simp [intOf]; omega
                    · have f4 : decide (0 < long) = false := decide_eq_false q4
                      have HI2 := Aside0.mk (HI1.out.skip HIN.out (by rw [HTK.out]; omega) (by rw [HTK.out, HEN.out, HHl.out]; omega))
                      clear q1 q2 q3 q4
                      go_wp2
                      go_roundw
                      case rel => exact ⟨i + 1, m, T, _, _, by go_num, HIL.out, HI2, HB1, HR1'⟩
                      case measure => have := HIL.out; simp [intOf]; omega
                  · have f3 : decide (now ≤ en) = false := decide_eq_false q3
                    have HI2 := Aside0.mk (HI1.out.skip HIN.out (by rw [HTK.out]; omega) (by rw [HTK.out, HEN.out, HHl.out]; omega))
                    clear q1 q2 q3
                    go_wp2
                    go_roundw
                    case rel => exact ⟨i + 1, m, T, _, _, by go_num, HIL.out, HI2, HB1, HR1'⟩
                    case measure => have := HIL.out; simp [intOf]; omega
                · have f2 : decide (tk < now) = false := decide_eq_false q2
                  have HI2 := Aside0.mk (HI1.out.skip HIN.out (by rw [HTK.out]; omega) (by rw [HTK.out, HEN.out, HHl.out]; omega))
                  clear q1 q2
                  go_wp2
                  go_roundw
                  case rel => exact ⟨i + 1, m, T, _, _, by go_num, HIL.out, HI2, HB1, HR1'⟩
                  case measure => have := HIL.out; simp [intOf]; omega
            · obtain rfl : i = n := by omega
              have b2 : decide ((i : Int) < (i : Int)) = false := decide_eq_false (by omega)
              have hwn : wrap64 (now + 1) = now + 1 := by have := HNOW.out; unfold wrap64; omega
              have hwn' : IntKind.i64.wrap (now + 1) = now + 1 := by have := HNOW.out; rw [IntKind.wrap_i64]; omega
              have HLW := Aside0.mk (HI1.out)
              go_wp2
              go_loop [17, 149] (fun v17 v149 => ∃ k : Nat, v149 = .int .i64 k ∧ k ≤ i ∧ v17 = .int .i64 (H.want now k)) (fun _ v149 => i - (intOf v149).toNat)
              case atStart => exact ⟨0, rfl, Nat.zero_le _, by rw [show H.want now 0 = H.last from rfl, HHa.out]⟩
              case round =>
                obtain ⟨k, rfl, hk, rfl⟩ := hrel
                by_cases hki : k < i
                · have b4 : decide ((k : Int) < (i : Int)) = true := decide_eq_true (by omega)
                  have b5 : decide (k < i) = true := decide_eq_true hki
                  obtain ⟨g1, d1, e1_, _, _⟩ := HR1'.out.r.t.form (by rw [fill_len]; omega)
                  rw [fill_len] at e1_
                  obtain ⟨g2, d2, e2_, _, _⟩ := HR1'.out.r.e.form (by rw [fill_len]; omega)
                  rw [fill_len] at e2_
                  obtain ⟨g3, d3, e3_, _, _⟩ := HR1'.out.r.s.form (by rw [fill_len]; omega)
                  rw [fill_len] at e3_
                  subst e1_ e2_ e3_
                  obtain ⟨hc1, hz1⟩ := IR.celln HR1'.out.r.t (fill_len _ _ _) k hki
                  rw [fill_get _ hki hki] at hc1
                  obtain ⟨hc2, hz2⟩ := IR.celln HR1'.out.r.e (fill_len _ _ _) k hki
                  rw [fill_get _ hki hki] at hc2
                  obtain ⟨hc3, hz3⟩ := IR.celln HR1'.out.r.s (fill_len _ _ _) k hki
                  rw [fill_get _ hki hki] at hc3
                  have HW : Aside0 (H.want now (k + 1) = if tkOf l1 k ≤ now ∧ now ≤ (if long = 0 then tkOf l1 k else enOf l1 k + long) then min (H.want now k) (stOf l1 k) else H.want now k) := ⟨by
                    show (if H.tk k ≤ now ∧ now ≤ Hold.upto H k then min (H.want now k) (H.st k) else H.want now k) = _
                    unfold Hold.upto
                    rw [HHt.out, HHe.out, HHs.out, HHl.out]⟩
                  obtain ⟨h5, h6⟩ := atOf_b l1 (k + 1)
                  have h7 : enOf l1 k = atOf l1 (k + 1) + (rd_T31 l1 k).f2 % 9 := rfl
                  have HEB : Aside0 (0 ≤ enOf l1 k ∧ enOf l1 k ≤ 200) := ⟨by omega⟩
                  clear h5 h6 h7
                  obtain ⟨tk, htk⟩ : ∃ tk, tk = tkOf l1 k := ⟨_, rfl⟩
                  obtain ⟨en, hen⟩ : ∃ en, en = enOf l1 k := ⟨_, rfl⟩
                  obtain ⟨st, hst⟩ : ∃ st, st = stOf l1 k := ⟨_, rfl⟩
                  rw [← htk] at hc1 HW
                  rw [← hen] at hc2 HW HEB
                  rw [← hst] at hc3 HW
                  clear htk hen hst
                  obtain ⟨wv, hwv⟩ : ∃ wv, wv = H.want now k := ⟨_, rfl⟩
                  rw [← hwv] at HW ⊢
                  clear hwv
                  have hm1 : (if st < wv then st else wv) = min wv st := by split <;> omega
                  have hm2 : (if wv < st then wv else st) = min wv st := by split <;> omega
                  have hwe : wrap64 (en + long) = en + long := by have := HEB.out; unfold wrap64; omega
                  have hwe' : IntKind.i64.wrap (en + long) = en + long := by have := HEB.out; rw [IntKind.wrap_i64]; omega
                  by_cases q0 : long = 0
                  · have f0 : (long == 0) = true := beq_iff_eq.2 q0
                    have HQ0 := Aside0.mk q0
                    by_cases q1 : tk ≤ now
                    · have f1 : decide (tk ≤ now) = true := decide_eq_true q1
                      by_cases q2 : now ≤ tk
                      · have f2 : decide (now ≤ tk) = true := decide_eq_true q2
                        have HE := HW.out.trans (by rw [if_pos ⟨q1, by rw [if_pos q0]; exact q2⟩])
                        have HE := Aside0.mk HE
                        clear q1
                        try clear q2
                        clear q0
                        go_wp2
                        go_round
                        case rel => exact ⟨k + 1, by go_num, hki, by rw [HE.out]⟩
                        case measure => simp [intOf]; omega
                      · have f2 : decide (now ≤ tk) = false := decide_eq_false q2
                        have HE := HW.out.trans (by rw [if_neg (fun h => q2 (by have := h.2; rwa [if_pos q0] at this))])
                        have HE := Aside0.mk HE
                        clear q1
                        try clear q2
                        clear q0
                        go_wp2
                        go_round
                        case rel => exact ⟨k + 1, by go_num, hki, by rw [HE.out]⟩
                        case measure => simp [intOf]; omega
                    · have f1 : decide (tk ≤ now) = false := decide_eq_false q1
                      have HE := HW.out.trans (by rw [if_neg (fun h => q1 h.1)])
                      have HE := Aside0.mk HE
                      clear q1
                      try clear q2
                      clear q0
                      go_wp2
                      go_round
                      case rel => exact ⟨k + 1, by go_num, hki, by rw [HE.out]⟩
                      case measure => simp [intOf]; omega
                  · have f0 : (long == 0) = false := beq_eq_false_iff_ne.2 q0
                    by_cases q1 : tk ≤ now
                    · have f1 : decide (tk ≤ now) = true := decide_eq_true q1
                      by_cases q2 : now ≤ en + long
                      · have f2 : decide (now ≤ en + long) = true := decide_eq_true q2
                        have HE := HW.out.trans (by rw [if_pos ⟨q1, by rw [if_neg q0]; exact q2⟩])
                        have HE := Aside0.mk HE
                        clear q1
                        try clear q2
                        clear q0
                        go_wp2
                        go_round
                        case rel => exact ⟨k + 1, by go_num, hki, by rw [HE.out]⟩
                        case measure => simp [intOf]; omega
                      · have f2 : decide (now ≤ en + long) = false := decide_eq_false q2
                        have HE := HW.out.trans (by rw [if_neg (fun h => q2 (by have := h.2; rwa [if_neg q0] at this))])
                        have HE := Aside0.mk HE
                        clear q1
                        try clear q2
                        clear q0
                        go_wp2
                        go_round
                        case rel => exact ⟨k + 1, by go_num, hki, by rw [HE.out]⟩
                        case measure => simp [intOf]; omega
                    · have f1 : decide (tk ≤ now) = false := decide_eq_false q1
                      have HE := HW.out.trans (by rw [if_neg (fun h => q1 h.1)])
                      have HE := Aside0.mk HE
                      clear q1
                      try clear q2
                      clear q0
                      go_wp2
                      go_round
                      case rel => exact ⟨k + 1, by go_num, hki, by rw [HE.out]⟩
                      case measure => simp [intOf]; omega
                · obtain rfl : k = i := by omega
                  have b4 : decide ((k : Int) < (k : Int)) = false := decide_eq_false (by omega)
                  have HLEN : Aside0 (T.l.length ≤ 1024) := ⟨by have := HI1.out.len; have := HI1.out.le; have := H.n1; omega⟩
                  have HI2 : Aside0 (H.Inv now H.n m T) := ⟨by rw [HHn.out]; exact HI1.out⟩
                  have HLO2 := Aside0.mk (HI2.out.low hn0 (by have := HNOW.out; omega))
                  rw [HHn.out, HHa.out] at HLO2
                  have HIX := Aside0.mk HI2.out.next
                  clear hki hk
                  go_wp2_with (go_at_call 11; refine (low_calls W _ gt T vp HR1'.out.r.tb HLEN.out now last).mono ?_; rintro e u1 ⟨rfl, hb⟩; rw [HLO2.out]; have HU1 := Aside0.mk (HR1'.out.below hb); clear hb)
                  go_roundw
                  case rel => exact ⟨now + 1, m, T, vp, ln, rfl, by omega, by have := HNOW.out; omega, HIX, HB1, HU1⟩
                  case measure => have := HNOW.out; simp [intOf]; omega
        · have e1 : decide (now ≤ top + 20) = false := decide_eq_false hnow
          go_wp2
          go_ret
          exact ⟨rfl, HR0.out.r.tb.bel⟩
theorem corncriblaw17_LeasesHold.calls (a0 : Int) (A1 : Option Addr) (c1 : Nat) (l1 : List S31) (a2 : Int) (r : Bool) (w : World) (hr1 : Kd.C k31 w A1 l1.length l1) (hc1 : l1.length ≤ c1) (h : corncriblaw17_LeasesHold.f a0 l1 a2 = some r) (hr_ : r = true) :
    Calls Try.prog 3 #[.int .i64 a0, .slice A1 l1.length c1, .int .i64 a2] w fun e w' => e = .returned (.bool r) ∧ Below w.heap.size w w' := by
  subst hr_
  exact hold_walk a0 A1 c1 l1 a2 w hr1
end Go.Proofs.Ytbgilmdmebmcnaa.Al