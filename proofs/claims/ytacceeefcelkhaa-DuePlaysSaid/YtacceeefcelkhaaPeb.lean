/- What the laws stand on, in one text: functions of the program by their contracts, the plain mathematics behind them, and such of the printed words as these use. It began as the kit's print and own texts; put together by a program (trim.py). -/
import Derived.Test.YtacceeefcelkhaaPea
import Derived.RowKit
import Derived.Laws.BytesArg
import Derived.Laws.BitsAllLaws

namespace Go.Proofs.Ytacceeefcelkhaa.Al
open Go.RowKit Go.Proofs.Ytacceeefcelkhaa.DueHeap Go.Proofs.Ytacceeefcelkhaa.DueSpec Go.Proofs.YtacceeefcelkhaaW.PrintWords Go.Proofs.YtacceeefcelkhaaW.PrintLast Go.Proofs.YtacceeefcelkhaaW.PrintMore
set_option linter.unusedVariables false
set_option linter.unusedSimpArgs false
def rg14_1_T : Bool × List (List Nat × List Nat) := (true, [([], []), ([0], [0]), ([1], [1]), ([2], [2]), ([3], [3]), ([], []), ([5], [5]), ([6], [6]), ([7], [7]), ([8, 4], [8]), ([4, 9], [4, 9]), ([10, 9, 0, 1, 2, 3, 4, 5, 6, 7, 8, 9, 10], [10])])
def rg14_1_B : List Nat := [0, 1, 3, 7, 15, 0, 32, 96, 224, 511, 1023, 2047]
theorem rg14_1_tab : rtab .any (opsOf Try.f14 1) = rg14_1_T := by kernel_rfl
theorem rg14_1_bits : waitsOk rg14_1_T.2 rg14_1_B = true := by kernel_rfl
def rg26_1_T : Bool × List (List Nat × List Nat) := (true, [([], []), ([0], [0]), ([1], [1]), ([2], [2]), ([3], [3]), ([4], [4]), ([5, 4], [5]), ([6], [6]), ([7, 6], [6, 7]), ([8, 6], [6, 8]), ([9, 6], [6, 9]), ([10, 6], [6, 10]), ([11, 6], [6, 11]), ([12, 6], [6, 12]), ([13, 6], [6, 13]), ([14, 6], [6, 14]), ([15, 6], [6, 15]), ([6], [6]), ([17, 6], [6, 17]), ([18, 6], [6, 18]), ([19, 6], [6, 19]), ([16, 20, 6], [6, 16, 20]), ([6, 21], [6, 21])])
def rg26_1_B : List Nat := [0, 1, 3, 7, 15, 31, 63, 127, 255, 511, 1023, 2047, 4095, 8191, 16383, 32767, 65535, 127, 131199, 393343, 917631, 2097151, 4194303]
theorem rg26_1_tab : rtab .any (opsOf Try.f26 1) = rg26_1_T := by kernel_rfl
theorem rg26_1_bits : waitsOk rg26_1_T.2 rg26_1_B = true := by kernel_rfl
set_option maxHeartbeats 8000000 in
set_option maxRecDepth 100000 in
theorem qlen_calls (W w : World) (gq gw gd : Nat) (now put : Int) (vw vd : Value) (lw ld : List Tk) (h : QO W w gq gw gd now put vw vd lw ld) (hl : lw.length + ld.length ≤ 100000) : Calls Try.prog 14 #[.pointer (some ⟨gq, 0, none⟩)] w fun e w' => e = .returned (.int .i64 ((lw.length + ld.length : Nat) : Int)) ∧ Below w.heap.size w w' := by
 have hd := h.drew
 have hbk := hd.blk
 obtain ⟨a, ha⟩ : ∃ a, a = lw.length := ⟨_, rfl⟩
 obtain ⟨b, hb⟩ : ∃ b, b = ld.length := ⟨_, rfl⟩
 rw [← ha, ← hb] at hl ⊢
 have HA := Aside0.mk ha
 have HB := Aside0.mk hb
 have hw : wrap64 ((a : Int) + (b : Int)) = (a : Int) + (b : Int) := by unfold wrap64; omega
 have hw' : IntKind.i64.wrap ((a : Int) + (b : Int)) = (a : Int) + (b : Int) := by rw [IntKind.wrap_i64]; omega
 have hc : ((a + b : Nat) : Int) = (a : Int) + (b : Int) := by omega
 rw [hc]
 clear h ha hb hc
 go_enter Try.func14, Try.ntmps14
 go_upto_region 1 with (fail)
 refine start_ (n := 12) (S := fun w' => w'.heap[gq]? = some (.cells #[.pointer (some ⟨gw, 0, none⟩), .pointer (some ⟨gd, 0, none⟩), .int .i64 now, .int .i64 put] 56 (0, 0))) (ds := []) #[false, false, false, false, false, false, false, false, false, false, false, false] (by kernel_rfl) rfl rfl hbk (fun hHeld => ?_)
 refine with_tabW rg14_1_tab rg14_1_bits (fun HT_ HW_ => ?_)
 obtain ⟨W1, hW1⟩ : ∃ W1, W1 = w.drew := ⟨_, rfl⟩
 have HB1 := Aside0.mk (show Below w.heap.size w W1 from by rw [hW1]; exact below_drew (Below.refl _ _))
 have H1 : Aside0 (QO W W1 gq gw gd now put vw vd lw ld) := ⟨by rw [hW1]; exact hd⟩
 rw [← hW1] at hHeld ⊢
 clear hd hbk hW1
 refine pure_ (i := 0) (N := some 3) (v := ?_) (a' := ?_) #[true, false, false, false, false, false, false, false, false, false, false, false] rfl rfl (any_of HT_.out (by kernel_rfl)) (fun _ _ _ h => h) (Or.inl ⟨by rfl, ?_⟩) ?_ ?_
 rotate_left
 ·intro w'
  go_simp
  with_reducible rfl
 rotate_left
 ·simp only [Act.put, List.setIfInBounds_toArray, List.set_cons_zero, List.set_cons_succ, i64_w, i32_w]
  rfl
 refine pure_ (i := 1) (N := some 4) (v := ?_) (a' := ?_) #[true, true, false, false, false, false, false, false, false, false, false, false] rfl rfl (any_of HT_.out (by kernel_rfl)) (fun _ _ _ h => h) (Or.inl ⟨by rfl, ?_⟩) ?_ ?_
 rotate_left
 ·intro w'
  go_simp
  with_reducible rfl
 rotate_left
 ·simp only [Act.put, List.setIfInBounds_toArray, List.set_cons_zero, List.set_cons_succ, i64_w, i32_w]
  rfl
 refine pure_ (i := 2) (N := some 5) (v := ?_) (a' := ?_) #[true, true, true, false, false, false, false, false, false, false, false, false] rfl rfl (any_of HT_.out (by kernel_rfl)) (fun _ _ _ h => h) (Or.inl ⟨by rfl, ?_⟩) ?_ ?_
 rotate_left
 ·intro w'
  go_simp
  with_reducible rfl
 rotate_left
 ·simp only [Act.put, List.setIfInBounds_toArray, List.set_cons_zero, List.set_cons_succ, i64_w, i32_w]
  rfl
 refine pure_ (i := 5) (N := some 8) (v := ?_) (a' := ?_) #[true, true, true, false, false, true, false, false, false, false, false, false] rfl rfl (any_of HT_.out (by kernel_rfl)) (fun _ _ _ h => h) (Or.inl ⟨by rfl, ?_⟩) ?_ ?_
 rotate_left
 ·intro w'
  go_simp
  with_reducible rfl
 rotate_left
 ·simp only [Act.put, List.setIfInBounds_toArray, List.set_cons_zero, List.set_cons_succ, i64_w, i32_w]
  rfl
 refine pure_ (i := 6) (N := some 9) (v := ?_) (a' := ?_) #[true, true, true, false, false, true, true, false, false, false, false, false] rfl rfl (any_of HT_.out (by kernel_rfl)) (fun _ _ _ h => h) (Or.inl ⟨by rfl, ?_⟩) ?_ ?_
 rotate_left
 ·intro w'
  go_simp
  with_reducible rfl
 rotate_left
 ·simp only [Act.put, List.setIfInBounds_toArray, List.set_cons_zero, List.set_cons_succ, i64_w, i32_w]
  rfl
 refine pure_ (i := 7) (N := some 10) (v := ?_) (a' := ?_) #[true, true, true, false, false, true, true, true, false, false, false, false] rfl rfl (any_of HT_.out (by kernel_rfl)) (fun _ _ _ h => h) (Or.inl ⟨by rfl, ?_⟩) ?_ ?_
 rotate_left
 ·intro w'
  go_simp
  with_reducible rfl
 rotate_left
 ·simp only [Act.put, List.setIfInBounds_toArray, List.set_cons_zero, List.set_cons_succ, i64_w, i32_w]
  rfl
 refine take_ (i := 3) (N := some 6) (v := ?_) (a' := ?_) #[true, true, true, true, false, true, true, true, false, false, false, false] rfl rfl (take_ofW HT_.out HW_.out (by kernel_rfl)) (fun _ _ _ h => h) (Or.inl ⟨by rfl, ?_⟩) hHeld ?_ ?_
 rotate_left
 ·rintro w' s0
  have y0 : w'.cell? ⟨gq, 0, none⟩ = some (.pointer (some ⟨gw, 0, none⟩)) := (blk_cell s0 0).trans rfl
  go_simp
  with_reducible rfl
 rotate_left
 ·simp only [Act.put, List.setIfInBounds_toArray, List.set_cons_zero, List.set_cons_succ, i64_w, i32_w]
  rfl
 refine take_ (i := 8) (N := some 11) (v := ?_) (a' := ?_) #[true, true, true, true, false, true, true, true, true, false, false, false] rfl rfl (take_ofW HT_.out HW_.out (by kernel_rfl)) (fun _ _ _ h => h) (Or.inl ⟨by rfl, ?_⟩) hHeld ?_ ?_
 rotate_left
 ·rintro w' s0
  have y1 : w'.cell? ⟨gq, 1, none⟩ = some (.pointer (some ⟨gd, 0, none⟩)) := (blk_cell s0 1).trans rfl
  go_simp
  with_reducible rfl
 rotate_left
 ·simp only [Act.put, List.setIfInBounds_toArray, List.set_cons_zero, List.set_cons_succ, i64_w, i32_w]
  rfl
 refine one_ (i := 4) (N := some 7) #[true, true, true, true, true, true, true, true, true, false, false, false] rfl rfl (one_of HT_.out (by kernel_rfl)) (by decide) (fun K hK => ?_)
 (refine goes_ Try.func27 (by kernel_rfl) rfl #[.pointer (some ⟨gw, 0, none⟩)] (by rfl) rfl rfl (by (try simp only [List.map_toArray, List.map_cons, List.map_nil]); first | done | rfl) ?_; refine (len_cast H1.out.wt.ht HA.out.symm).mono ?_; rintro e w5 ⟨rfl, hb⟩; refine ⟨_, rfl, ?_⟩; have H5 := Aside0.mk (H1.out.below hb); have HB5 := Aside0.mk (below_step HB1.out hb); clear hb)
 refine hK.out _ _ H5.out.blk (fun hHeld => ?_)
 clear hK K
 try simp only [Act.put, List.setIfInBounds_toArray, List.set_cons_zero, List.set_cons_succ, i64_w, i32_w]
 refine one_ (i := 9) (N := some 12) #[true, true, true, true, true, true, true, true, true, true, false, false] rfl rfl (one_of HT_.out (by kernel_rfl)) (by decide) (fun K hK => ?_)
 (refine goes_ Try.func27 (by kernel_rfl) rfl #[.pointer (some ⟨gd, 0, none⟩)] (by rfl) rfl rfl (by (try simp only [List.map_toArray, List.map_cons, List.map_nil]); first | done | rfl) ?_; refine (len_cast H5.out.du.ht HB.out.symm).mono ?_; rintro e w6 ⟨rfl, hb⟩; refine ⟨_, rfl, ?_⟩; have H6 := Aside0.mk (H5.out.below hb); have HB6 := Aside0.mk (below_step HB5.out hb); clear hb)
 refine hK.out _ _ H6.out.blk (fun hHeld => ?_)
 clear hK K
 try simp only [Act.put, List.setIfInBounds_toArray, List.set_cons_zero, List.set_cons_succ, i64_w, i32_w]
 refine pure_ (i := 10) (N := some 13) (v := ?_) (a' := ?_) #[true, true, true, true, true, true, true, true, true, true, true, false] rfl rfl (any_of HT_.out (by kernel_rfl)) (fun _ _ _ h => h) (Or.inl ⟨by rfl, ?_⟩) ?_ ?_
 rotate_left
 ·intro w'
  go_simp
  with_reducible rfl
 rotate_left
 ·simp only [Act.put, List.setIfInBounds_toArray, List.set_cons_zero, List.set_cons_succ, i64_w, i32_w]
  rfl
 refine pure_ (i := 11) (N := some 2) (v := ?_) (a' := ?_) #[true, true, true, true, true, true, true, true, true, true, true, true] rfl rfl (any_of HT_.out (by kernel_rfl)) (fun _ _ _ h => h) (Or.inl ⟨by rfl, ?_⟩) ?_ ?_
 rotate_left
 ·intro w'
  go_simp
  with_reducible rfl
 rotate_left
 ·simp only [Act.put, List.setIfInBounds_toArray, List.set_cons_zero, List.set_cons_succ, i64_w, i32_w]
  rfl
 refine done_ (done_of HT_.out (by kernel_rfl)) ?_
 clear hHeld
 go_wp2
 go_ret
 exact ⟨rfl, HB6.out⟩
/-- The first of a row, where there is one. -/
theorem first_cell {W w : World} {g fn : Nat} {v : Value} {l : List Tk} (h : HT W w g fn v l) (hp : 0 < l.length) : ∃ ga c, v = .slice (some ⟨ga, 0, none⟩) l.length c ∧ w.cell? ⟨ga, 0, none⟩ = some (.int .i64 (l.getD 0 t0).at_) := by
 obtain ⟨ga, c, rfl⟩ := ht_form h hp
 have := (T4_cell h.row 0 hp).1
 rw [Nat.zero_mul] at this
 exact ⟨ga, c, rfl, this⟩
/-- What ripen leaves: what was due stays due; of the others, those whose tick has come. -/
structure Ripe (now : Int) (lw ld lw' ld' : List Tk) : Prop where
 perm : (lw' ++ ld').Perm (lw ++ ld)
 due : (∀ x ∈ ld, x.at_ ≤ now) → ∀ x ∈ ld', x.at_ ≤ now
theorem Ripe.refl (now : Int) (lw ld : List Tk) : Ripe now lw ld lw ld := ⟨List.Perm.refl _, fun h => h⟩
theorem Ripe.step {now : Int} {lw ld lw1 ld1 lw2 ld2 : List Tk} {x : Tk} (h : Ripe now lw ld lw1 ld1) (hx : x.at_ ≤ now) (hw : (x :: lw2).Perm lw1) (hd : ld2.Perm (x :: ld1)) : Ripe now lw ld lw2 ld2 := by
 refine ⟨?_, fun hn y hy => ?_⟩
 ·refine List.Perm.trans ?_ h.perm
  refine (List.Perm.append_left lw2 hd).trans ?_
  refine List.perm_middle.trans ?_
  exact hw.append_right ld1
 ·rcases List.mem_cons.1 (hd.mem_iff.1 hy) with rfl | hy
  ·exact hx
  ·exact h.due hn y hy
set_option maxHeartbeats 8000000 in
set_option maxRecDepth 100000 in
theorem ripen_calls (W w : World) (gq gw gd : Nat) (now put : Int) (vw vd : Value) (lw ld : List Tk) (h : QO W w gq gw gd now put vw vd lw ld) (hl : lw.length + ld.length < 100000) : Calls Try.prog 26 #[.pointer (some ⟨gq, 0, none⟩)] w fun e w' => e = .returned (.tuple #[]) ∧ ∃ vw' vd' lw' ld', QO W w' gq gw gd now put vw' vd' lw' ld' ∧ QStep w w' gq gw gd vw vd vw' vd' ∧ Ripe now lw ld lw' ld' ∧ ∀ x ∈ lw', now < x.at_ := by
 have hu61 := Try.underlying61
 have H0 := Aside0.mk h
 have HS0 := Aside0.mk (QStep.refl w gq gw gd vw vd)
 have HR0 := Aside0.mk (Ripe.refl now lw ld)
 have HL := Aside0.mk hl
 have q1 : w.cell? ⟨gq, 1, none⟩ = some (.pointer (some ⟨gd, 0, none⟩)) := (blk_cell h.blk 1).trans rfl
 clear h hl
 go_enter Try.func26, Try.ntmps26
 go_wp2
 go_loopg [] lw.length (fun kx wr => ∃ (vw' vd' : Value) (lw' ld' : List Tk), lw'.length ≤ kx ∧ Aside0 (QO W wr gq gw gd now put vw' vd' lw' ld') ∧ Aside0 (QStep w wr gq gw gd vw vd vw' vd') ∧ Aside0 (Ripe now lw ld lw' ld'))
 case atStart => exact ⟨vw, vd, lw, ld, Nat.le_refl _, H0, HS0, HR0⟩
 case round =>
  obtain ⟨vw1, vd1, lw1, ld1, hk, H1, HS1, HR1⟩ := hrel
  clear H0 HS0 HR0 q1
  have HLB : Aside0 (lw1.length + ld1.length < 100000) := ⟨by have := HR1.out.perm.length_eq; rw [List.length_append, List.length_append] at this; have := HL.out; omega⟩
  have HK := Aside0.mk hk
  clear hk
  by_cases hp : 0 < lw1.length
  ·obtain ⟨ga, c, hv, hc⟩ := first_cell H1.out.drew.wt.ht hp
   obtain ⟨x, hx⟩ : ∃ x, x = lw1.getD 0 t0 := ⟨_, rfl⟩
   have HX := Aside0.mk hx
   rw [← hx] at hc
   have hbk := H1.out.drew.blk
   have hbw := H1.out.drew.wt.ht.blk
   have HV := Aside0.mk hv
   rw [hv] at hbw
   obtain ⟨n, hn⟩ : ∃ n, n = lw1.length := ⟨_, rfl⟩
   rw [← hn] at hp hbw
   have HN := Aside0.mk hn
   have HPO : Aside0 (0 < lw1.length) := ⟨by rw [← hn]; exact hp⟩
   have d0 : decide (0 < (n : Int)) = true := decide_eq_true (by omega)
   have d1 : decide (0 < n) = true := decide_eq_true hp
   have d3 : (0 < n) = True := eq_true hp
   clear hx hv hn hp
   by_cases hd : x.at_ ≤ now
   ·have d2 : decide (x.at_ ≤ now) = true := decide_eq_true hd
    have HD := Aside0.mk hd
    clear hd
    go_upto_region 1 with (fail)
    refine start_ (n := 23) (S := fun w' => w'.heap[gq]? = some (.cells #[.pointer (some ⟨gw, 0, none⟩), .pointer (some ⟨gd, 0, none⟩), .int .i64 now, .int .i64 put] 56 (0, 0)) ∧ w'.heap[gw]? = some (.cells #[.slice (some ⟨ga, 0, none⟩) n c, .func (.func 23) #[] #[]] 54 (0, 0)) ∧ w'.cell? ⟨ga, 0, none⟩ = some (.int .i64 x.at_)) (ds := []) #[false, false, false, false, false, false, false, false, false, false, false, false, false, false, false, false, false, false, false, false, false, false, false] (by kernel_rfl) rfl rfl ⟨hbk, hbw, hc⟩ (fun hHeld => ?_)
    refine with_tabW rg26_1_tab rg26_1_bits (fun HT_ HW_ => ?_)
    obtain ⟨W1, hW1⟩ : ∃ W1, W1 = wr.drew := ⟨_, rfl⟩
    have HB4 := Aside0.mk (show Below wr.heap.size wr W1 from by rw [hW1]; exact below_drew (Below.refl _ _))
    have H4 := Aside0.mk (H1.out.below HB4.out)
    rw [← hW1] at hHeld ⊢
    clear hbk hbw hc hW1
    refine pure_ (i := 0) (N := some 8) (v := ?_) (a' := ?_) #[true, false, false, false, false, false, false, false, false, false, false, false, false, false, false, false, false, false, false, false, false, false, false] rfl rfl (any_of HT_.out (by kernel_rfl)) (fun _ _ _ h => h) (Or.inl ⟨by rfl, ?_⟩) ?_ ?_
    rotate_left
    ·intro w'
     go_simp
     with_reducible rfl
    rotate_left
    ·simp only [Act.put, List.setIfInBounds_toArray, List.set_cons_zero, List.set_cons_succ, i64_w, i32_w]
     rfl
    refine pure_ (i := 1) (N := some 9) (v := ?_) (a' := ?_) #[true, true, false, false, false, false, false, false, false, false, false, false, false, false, false, false, false, false, false, false, false, false, false] rfl rfl (any_of HT_.out (by kernel_rfl)) (fun _ _ _ h => h) (Or.inl ⟨by rfl, ?_⟩) ?_ ?_
    rotate_left
    ·intro w'
     go_simp
     with_reducible rfl
    rotate_left
    ·simp only [Act.put, List.setIfInBounds_toArray, List.set_cons_zero, List.set_cons_succ, i64_w, i32_w]
     rfl
    refine pure_ (i := 2) (N := some 10) (v := ?_) (a' := ?_) #[true, true, true, false, false, false, false, false, false, false, false, false, false, false, false, false, false, false, false, false, false, false, false] rfl rfl (any_of HT_.out (by kernel_rfl)) (fun _ _ _ h => h) (Or.inl ⟨by rfl, ?_⟩) ?_ ?_
    rotate_left
    ·intro w'
     go_simp
     with_reducible rfl
    rotate_left
    ·simp only [Act.put, List.setIfInBounds_toArray, List.set_cons_zero, List.set_cons_succ, i64_w, i32_w]
     rfl
    refine take_ (i := 3) (N := some 11) (v := ?_) (a' := ?_) #[true, true, true, true, false, false, false, false, false, false, false, false, false, false, false, false, false, false, false, false, false, false, false] rfl rfl (take_ofW HT_.out HW_.out (by kernel_rfl)) (fun _ _ _ h => h) (Or.inl ⟨by rfl, ?_⟩) hHeld ?_ ?_
    rotate_left
    ·rintro w' ⟨s0, s1, s2⟩
     have y0 : w'.cell? ⟨gq, 0, none⟩ = some (.pointer (some ⟨gw, 0, none⟩)) := (blk_cell s0 0).trans rfl
     go_simp
     with_reducible rfl
    rotate_left
    ·simp only [Act.put, List.setIfInBounds_toArray, List.set_cons_zero, List.set_cons_succ, i64_w, i32_w]
     rfl
    refine one_ (i := 4) (N := some 12) #[true, true, true, true, true, false, false, false, false, false, false, false, false, false, false, false, false, false, false, false, false, false, false] rfl rfl (one_of HT_.out (by kernel_rfl)) (by decide) (fun K hK => ?_)
    (refine goes_ Try.func27 (by kernel_rfl) rfl #[.pointer (some ⟨gw, 0, none⟩)] (by rfl) rfl rfl (by (try simp only [List.map_toArray, List.map_cons, List.map_nil]); first | done | rfl) ?_; refine (len_cast H4.out.wt.ht HN.out.symm).mono ?_; rintro e w5 ⟨rfl, hb⟩; refine ⟨_, rfl, ?_⟩; have H5 := Aside0.mk (H4.out.below hb); have HS5 := Aside0.mk (HS1.out.trans (QStep.of_below (below_step HB4.out hb) _ _ _ _ _)); clear hb)
    refine hK.out _ _ (by obtain ⟨ga2, c2, hv2, hc2⟩ := first_cell H5.out.wt.ht HPO.out; have he := HV.out.symm.trans hv2; rw [← HN.out] at he; injection he with he _ _; injection he with he; injection he with he; rw [← he, ← HX.out] at hc2; have hb2 := H5.out.wt.ht.blk; rw [HV.out, ← HN.out] at hb2; exact ⟨H5.out.blk, hb2, hc2⟩) (fun hHeld => ?_)
    clear hK K
    try simp only [Act.put, List.setIfInBounds_toArray, List.set_cons_zero, List.set_cons_succ, i64_w, i32_w]
    refine pure_ (i := 5) (N := some 13) (v := ?_) (a' := ?_) #[true, true, true, true, true, true, false, false, false, false, false, false, false, false, false, false, false, false, false, false, false, false, false] rfl rfl (any_of HT_.out (by kernel_rfl)) (fun _ _ _ h => h) (Or.inl ⟨by rfl, ?_⟩) ?_ ?_
    rotate_left
    ·intro w'
     go_simp
     with_reducible rfl
    rotate_left
    ·simp only [Act.put, List.setIfInBounds_toArray, List.set_cons_zero, List.set_cons_succ, i64_w, i32_w]
     rfl
    refine pure_ (i := 6) (N := some 14) (v := ?_) (a' := ?_) #[true, true, true, true, true, true, true, false, false, false, false, false, false, false, false, false, false, false, false, false, false, false, false] rfl rfl (any_of HT_.out (by kernel_rfl)) (fun _ _ _ h => h) (Or.inl ⟨by rfl, ?_⟩) ?_ ?_
    rotate_left
    ·intro w'
     go_simp
     with_reducible rfl
    rotate_left
    ·simp only [Act.put, List.setIfInBounds_toArray, List.set_cons_zero, List.set_cons_succ, i64_w, i32_w]
     rfl
    refine pure_ (i := 7) (N := some 15) (v := ?_) (a' := ?_) #[true, true, true, true, true, true, true, true, false, false, false, false, false, false, false, false, false, false, false, false, false, false, false] rfl rfl (any_of HT_.out (by kernel_rfl)) (fun _ _ _ h => h) (Or.inl ⟨by rfl, ?_⟩) ?_ ?_
    rotate_left
    ·intro w'
     go_simp
     with_reducible rfl
    rotate_left
    ·simp only [Act.put, List.setIfInBounds_toArray, List.set_cons_zero, List.set_cons_succ, i64_w, i32_w]
     rfl
    refine pure_ (i := 8) (N := some 16) (v := ?_) (a' := ?_) #[true, true, true, true, true, true, true, true, true, false, false, false, false, false, false, false, false, false, false, false, false, false, false] rfl rfl (any_of HT_.out (by kernel_rfl)) (fun _ _ _ h => h) (Or.inl ⟨by rfl, ?_⟩) ?_ ?_
    rotate_left
    ·intro w'
     go_simp
     with_reducible rfl
    rotate_left
    ·simp only [Act.put, List.setIfInBounds_toArray, List.set_cons_zero, List.set_cons_succ, i64_w, i32_w]
     rfl
    refine pure_ (i := 9) (N := some 17) (v := ?_) (a' := ?_) #[true, true, true, true, true, true, true, true, true, true, false, false, false, false, false, false, false, false, false, false, false, false, false] rfl rfl (any_of HT_.out (by kernel_rfl)) (fun _ _ _ h => h) (Or.inl ⟨by rfl, ?_⟩) ?_ ?_
    rotate_left
    ·intro w'
     go_simp
     with_reducible rfl
    rotate_left
    ·simp only [Act.put, List.setIfInBounds_toArray, List.set_cons_zero, List.set_cons_succ, i64_w, i32_w]
     rfl
    refine take_ (i := 10) (N := some 18) (v := ?_) (a' := ?_) #[true, true, true, true, true, true, true, true, true, true, true, false, false, false, false, false, false, false, false, false, false, false, false] rfl rfl (take_ofW HT_.out HW_.out (by kernel_rfl)) (fun _ _ _ h => h) (Or.inl ⟨by rfl, ?_⟩) hHeld ?_ ?_
    rotate_left
    ·rintro w' ⟨s0, s1, s2⟩
     have y0 : w'.cell? ⟨gq, 0, none⟩ = some (.pointer (some ⟨gw, 0, none⟩)) := (blk_cell s0 0).trans rfl
     go_simp
     with_reducible rfl
    rotate_left
    ·simp only [Act.put, List.setIfInBounds_toArray, List.set_cons_zero, List.set_cons_succ, i64_w, i32_w]
     rfl
    refine pure_ (i := 11) (N := some 19) (v := ?_) (a' := ?_) #[true, true, true, true, true, true, true, true, true, true, true, true, false, false, false, false, false, false, false, false, false, false, false] rfl rfl (any_of HT_.out (by kernel_rfl)) (fun _ _ _ h => h) (Or.inl ⟨by rfl, ?_⟩) ?_ ?_
    rotate_left
    ·intro w'
     go_simp
     with_reducible rfl
    rotate_left
    ·simp only [Act.put, List.setIfInBounds_toArray, List.set_cons_zero, List.set_cons_succ, i64_w, i32_w]
     rfl
    refine pure_ (i := 12) (N := some 20) (v := ?_) (a' := ?_) #[true, true, true, true, true, true, true, true, true, true, true, true, true, false, false, false, false, false, false, false, false, false, false] rfl rfl (any_of HT_.out (by kernel_rfl)) (fun _ _ _ h => h) (Or.inl ⟨by rfl, ?_⟩) ?_ ?_
    rotate_left
    ·intro w'
     go_simp
     with_reducible rfl
    rotate_left
    ·simp only [Act.put, List.setIfInBounds_toArray, List.set_cons_zero, List.set_cons_succ, i64_w, i32_w]
     rfl
    refine take_ (i := 13) (N := some 21) (v := ?_) (a' := ?_) #[true, true, true, true, true, true, true, true, true, true, true, true, true, true, false, false, false, false, false, false, false, false, false] rfl rfl (take_ofW HT_.out HW_.out (by kernel_rfl)) (fun _ _ _ h => h) (Or.inl ⟨by rfl, ?_⟩) hHeld ?_ ?_
    rotate_left
    ·rintro w' ⟨s0, s1, s2⟩
     have y0 : w'.cell? ⟨gw, 0, none⟩ = some (.slice (some ⟨ga, 0, none⟩) n c) := (blk_cell s1 0).trans rfl
     go_simp
     with_reducible rfl
    rotate_left
    ·simp only [Act.put, List.setIfInBounds_toArray, List.set_cons_zero, List.set_cons_succ, i64_w, i32_w]
     rfl
    refine pure_ (i := 14) (N := some 22) (v := ?_) (a' := ?_) #[true, true, true, true, true, true, true, true, true, true, true, true, true, true, true, false, false, false, false, false, false, false, false] rfl rfl (any_of HT_.out (by kernel_rfl)) (fun _ _ _ h => h) (Or.inl ⟨by rfl, ?_⟩) ?_ ?_
    rotate_left
    ·intro w'
     go_simp
     with_reducible rfl
    rotate_left
    ·simp only [Act.put, List.setIfInBounds_toArray, List.set_cons_zero, List.set_cons_succ, i64_w, i32_w]
     rfl
    refine pure_ (i := 15) (N := some 23) (v := ?_) (a' := ?_) #[true, true, true, true, true, true, true, true, true, true, true, true, true, true, true, true, false, false, false, false, false, false, false] rfl rfl (any_of HT_.out (by kernel_rfl)) (fun _ _ _ h => h) (Or.inl ⟨by rfl, ?_⟩) ?_ ?_
    rotate_left
    ·intro w'
     go_simp
     with_reducible rfl
    rotate_left
    ·simp only [Act.put, List.setIfInBounds_toArray, List.set_cons_zero, List.set_cons_succ, i64_w, i32_w]
     rfl
    refine take_ (i := 16) (N := some 24) (v := ?_) (a' := ?_) #[true, true, true, true, true, true, true, true, true, true, true, true, true, true, true, true, true, false, false, false, false, false, false] rfl rfl (take_ofW HT_.out HW_.out (by kernel_rfl)) (fun _ _ _ h => h) (Or.inl ⟨by rfl, ?_⟩) hHeld ?_ ?_
    rotate_left
    ·rintro w' ⟨s0, s1, s2⟩
     go_simp
     with_reducible rfl
    rotate_left
    ·simp only [Act.put, List.setIfInBounds_toArray, List.set_cons_zero, List.set_cons_succ, i64_w, i32_w]
     rfl
    refine pure_ (i := 17) (N := some 25) (v := ?_) (a' := ?_) #[true, true, true, true, true, true, true, true, true, true, true, true, true, true, true, true, true, true, false, false, false, false, false] rfl rfl (any_of HT_.out (by kernel_rfl)) (fun _ _ _ h => h) (Or.inl ⟨by rfl, ?_⟩) ?_ ?_
    rotate_left
    ·intro w'
     go_simp
     with_reducible rfl
    rotate_left
    ·simp only [Act.put, List.setIfInBounds_toArray, List.set_cons_zero, List.set_cons_succ, i64_w, i32_w]
     rfl
    refine pure_ (i := 18) (N := some 26) (v := ?_) (a' := ?_) #[true, true, true, true, true, true, true, true, true, true, true, true, true, true, true, true, true, true, true, false, false, false, false] rfl rfl (any_of HT_.out (by kernel_rfl)) (fun _ _ _ h => h) (Or.inl ⟨by rfl, ?_⟩) ?_ ?_
    rotate_left
    ·intro w'
     go_simp
     with_reducible rfl
    rotate_left
    ·simp only [Act.put, List.setIfInBounds_toArray, List.set_cons_zero, List.set_cons_succ, i64_w, i32_w]
     rfl
    refine pure_ (i := 19) (N := some 27) (v := ?_) (a' := ?_) #[true, true, true, true, true, true, true, true, true, true, true, true, true, true, true, true, true, true, true, true, false, false, false] rfl rfl (any_of HT_.out (by kernel_rfl)) (fun _ _ _ h => h) (Or.inl ⟨by rfl, ?_⟩) ?_ ?_
    rotate_left
    ·intro w'
     go_simp
     with_reducible rfl
    rotate_left
    ·simp only [Act.put, List.setIfInBounds_toArray, List.set_cons_zero, List.set_cons_succ, i64_w, i32_w]
     rfl
    refine take_ (i := 20) (N := some 28) (v := ?_) (a' := ?_) #[true, true, true, true, true, true, true, true, true, true, true, true, true, true, true, true, true, true, true, true, true, false, false] rfl rfl (take_ofW HT_.out HW_.out (by kernel_rfl)) (fun _ _ _ h => h) (Or.inl ⟨by rfl, ?_⟩) hHeld ?_ ?_
    rotate_left
    ·rintro w' ⟨s0, s1, s2⟩
     have y0 : w'.cell? ⟨gq, 2, none⟩ = some (.int .i64 now) := (blk_cell s0 2).trans rfl
     go_simp
     with_reducible rfl
    rotate_left
    ·simp only [Act.put, List.setIfInBounds_toArray, List.set_cons_zero, List.set_cons_succ, i64_w, i32_w]
     rfl
    refine pure_ (i := 21) (N := some 29) (v := ?_) (a' := ?_) #[true, true, true, true, true, true, true, true, true, true, true, true, true, true, true, true, true, true, true, true, true, true, false] rfl rfl (any_of HT_.out (by kernel_rfl)) (fun _ _ _ h => h) (Or.inl ⟨by rfl, ?_⟩) ?_ ?_
    rotate_left
    ·intro w'
     go_simp
     with_reducible rfl
    rotate_left
    ·simp only [Act.put, List.setIfInBounds_toArray, List.set_cons_zero, List.set_cons_succ, i64_w, i32_w]
     rfl
    refine pure_ (i := 22) (N := some 30) (v := ?_) (a' := ?_) #[true, true, true, true, true, true, true, true, true, true, true, true, true, true, true, true, true, true, true, true, true, true, true] rfl rfl (any_of HT_.out (by kernel_rfl)) (fun _ _ _ h => h) (Or.inl ⟨by rfl, ?_⟩) ?_ ?_
    rotate_left
    ·intro w'
     go_simp
     with_reducible rfl
    rotate_left
    ·simp only [Act.put, List.setIfInBounds_toArray, List.set_cons_zero, List.set_cons_succ, i64_w, i32_w]
     rfl
    refine done_ (done_of HT_.out (by kernel_rfl)) ?_
    clear hHeld
    have y0 : w5.cell? ⟨gq, 0, none⟩ = some (.pointer (some ⟨gw, 0, none⟩)) := (blk_cell H5.out.blk 0).trans rfl
    go_wp2_with (first | (go_at_call 28; refine (heapPop_calls W w5 gw 23 (.inl rfl) vw1 lw1 H5.out.wt HPO.out (by have := HLB.out; omega)).mono ?_; rintro e w6 ⟨rfl, vw2, lw2, hp, hs, hperm⟩; rw [← HX.out]; rw [← HX.out] at hperm; have H6 := Aside0.mk (H5.out.turn_w hp hs); have HS6 := Aside0.mk (HS5.out.trans (QStep.of_w hs)); have HPM6 := Aside0.mk hperm; clear hp hs hperm) | (go_at_call 25; refine (heapPush_calls W w6 gd 24 (.inr rfl) vd1 ld1 H6.out.du x (by have := HLB.out; omega)).mono ?_; rintro e w7 ⟨rfl, vd2, ld2, hp, hs, hperm⟩; have H7 := Aside0.mk (H6.out.turn_d hp hs); have HS7 := Aside0.mk (HS6.out.trans (QStep.of_d hs)); have HPM7 := Aside0.mk hperm; clear hp hs hperm))
    go_roundg lw2.length
    case measure => have h1 := HPM6.out.length_eq; rw [List.length_cons] at h1; have := HK.out; omega
    case rel => exact ⟨vw2, vd2, lw2, ld2, Nat.le_refl _, H7, HS7, ⟨HR1.out.step HD.out HPM6.out HPM7.out⟩⟩
   ·have d2 : decide (x.at_ ≤ now) = false := decide_eq_false hd
    have HD := Aside0.mk hd
    clear hd
    go_upto_region 1 with (fail)
    refine start_ (n := 23) (S := fun w' => w'.heap[gq]? = some (.cells #[.pointer (some ⟨gw, 0, none⟩), .pointer (some ⟨gd, 0, none⟩), .int .i64 now, .int .i64 put] 56 (0, 0)) ∧ w'.heap[gw]? = some (.cells #[.slice (some ⟨ga, 0, none⟩) n c, .func (.func 23) #[] #[]] 54 (0, 0)) ∧ w'.cell? ⟨ga, 0, none⟩ = some (.int .i64 x.at_)) (ds := []) #[false, false, false, false, false, false, false, false, false, false, false, false, false, false, false, false, false, false, false, false, false, false, false] (by kernel_rfl) rfl rfl ⟨hbk, hbw, hc⟩ (fun hHeld => ?_)
    refine with_tabW rg26_1_tab rg26_1_bits (fun HT_ HW_ => ?_)
    obtain ⟨W1, hW1⟩ : ∃ W1, W1 = wr.drew := ⟨_, rfl⟩
    have HB4 := Aside0.mk (show Below wr.heap.size wr W1 from by rw [hW1]; exact below_drew (Below.refl _ _))
    have H4 := Aside0.mk (H1.out.below HB4.out)
    rw [← hW1] at hHeld ⊢
    clear hbk hbw hc hW1
    refine pure_ (i := 0) (N := some 8) (v := ?_) (a' := ?_) #[true, false, false, false, false, false, false, false, false, false, false, false, false, false, false, false, false, false, false, false, false, false, false] rfl rfl (any_of HT_.out (by kernel_rfl)) (fun _ _ _ h => h) (Or.inl ⟨by rfl, ?_⟩) ?_ ?_
    rotate_left
    ·intro w'
     go_simp
     with_reducible rfl
    rotate_left
    ·simp only [Act.put, List.setIfInBounds_toArray, List.set_cons_zero, List.set_cons_succ, i64_w, i32_w]
     rfl
    refine pure_ (i := 1) (N := some 9) (v := ?_) (a' := ?_) #[true, true, false, false, false, false, false, false, false, false, false, false, false, false, false, false, false, false, false, false, false, false, false] rfl rfl (any_of HT_.out (by kernel_rfl)) (fun _ _ _ h => h) (Or.inl ⟨by rfl, ?_⟩) ?_ ?_
    rotate_left
    ·intro w'
     go_simp
     with_reducible rfl
    rotate_left
    ·simp only [Act.put, List.setIfInBounds_toArray, List.set_cons_zero, List.set_cons_succ, i64_w, i32_w]
     rfl
    refine pure_ (i := 2) (N := some 10) (v := ?_) (a' := ?_) #[true, true, true, false, false, false, false, false, false, false, false, false, false, false, false, false, false, false, false, false, false, false, false] rfl rfl (any_of HT_.out (by kernel_rfl)) (fun _ _ _ h => h) (Or.inl ⟨by rfl, ?_⟩) ?_ ?_
    rotate_left
    ·intro w'
     go_simp
     with_reducible rfl
    rotate_left
    ·simp only [Act.put, List.setIfInBounds_toArray, List.set_cons_zero, List.set_cons_succ, i64_w, i32_w]
     rfl
    refine take_ (i := 3) (N := some 11) (v := ?_) (a' := ?_) #[true, true, true, true, false, false, false, false, false, false, false, false, false, false, false, false, false, false, false, false, false, false, false] rfl rfl (take_ofW HT_.out HW_.out (by kernel_rfl)) (fun _ _ _ h => h) (Or.inl ⟨by rfl, ?_⟩) hHeld ?_ ?_
    rotate_left
    ·rintro w' ⟨s0, s1, s2⟩
     have y0 : w'.cell? ⟨gq, 0, none⟩ = some (.pointer (some ⟨gw, 0, none⟩)) := (blk_cell s0 0).trans rfl
     go_simp
     with_reducible rfl
    rotate_left
    ·simp only [Act.put, List.setIfInBounds_toArray, List.set_cons_zero, List.set_cons_succ, i64_w, i32_w]
     rfl
    refine one_ (i := 4) (N := some 12) #[true, true, true, true, true, false, false, false, false, false, false, false, false, false, false, false, false, false, false, false, false, false, false] rfl rfl (one_of HT_.out (by kernel_rfl)) (by decide) (fun K hK => ?_)
    (refine goes_ Try.func27 (by kernel_rfl) rfl #[.pointer (some ⟨gw, 0, none⟩)] (by rfl) rfl rfl (by (try simp only [List.map_toArray, List.map_cons, List.map_nil]); first | done | rfl) ?_; refine (len_cast H4.out.wt.ht HN.out.symm).mono ?_; rintro e w5 ⟨rfl, hb⟩; refine ⟨_, rfl, ?_⟩; have H5 := Aside0.mk (H4.out.below hb); have HS5 := Aside0.mk (HS1.out.trans (QStep.of_below (below_step HB4.out hb) _ _ _ _ _)); clear hb)
    refine hK.out _ _ (by obtain ⟨ga2, c2, hv2, hc2⟩ := first_cell H5.out.wt.ht HPO.out; have he := HV.out.symm.trans hv2; rw [← HN.out] at he; injection he with he _ _; injection he with he; injection he with he; rw [← he, ← HX.out] at hc2; have hb2 := H5.out.wt.ht.blk; rw [HV.out, ← HN.out] at hb2; exact ⟨H5.out.blk, hb2, hc2⟩) (fun hHeld => ?_)
    clear hK K
    try simp only [Act.put, List.setIfInBounds_toArray, List.set_cons_zero, List.set_cons_succ, i64_w, i32_w]
    refine pure_ (i := 5) (N := some 13) (v := ?_) (a' := ?_) #[true, true, true, true, true, true, false, false, false, false, false, false, false, false, false, false, false, false, false, false, false, false, false] rfl rfl (any_of HT_.out (by kernel_rfl)) (fun _ _ _ h => h) (Or.inl ⟨by rfl, ?_⟩) ?_ ?_
    rotate_left
    ·intro w'
     go_simp
     with_reducible rfl
    rotate_left
    ·simp only [Act.put, List.setIfInBounds_toArray, List.set_cons_zero, List.set_cons_succ, i64_w, i32_w]
     rfl
    refine pure_ (i := 6) (N := some 14) (v := ?_) (a' := ?_) #[true, true, true, true, true, true, true, false, false, false, false, false, false, false, false, false, false, false, false, false, false, false, false] rfl rfl (any_of HT_.out (by kernel_rfl)) (fun _ _ _ h => h) (Or.inl ⟨by rfl, ?_⟩) ?_ ?_
    rotate_left
    ·intro w'
     go_simp
     with_reducible rfl
    rotate_left
    ·simp only [Act.put, List.setIfInBounds_toArray, List.set_cons_zero, List.set_cons_succ, i64_w, i32_w]
     rfl
    refine pure_ (i := 7) (N := some 15) (v := ?_) (a' := ?_) #[true, true, true, true, true, true, true, true, false, false, false, false, false, false, false, false, false, false, false, false, false, false, false] rfl rfl (any_of HT_.out (by kernel_rfl)) (fun _ _ _ h => h) (Or.inl ⟨by rfl, ?_⟩) ?_ ?_
    rotate_left
    ·intro w'
     go_simp
     with_reducible rfl
    rotate_left
    ·simp only [Act.put, List.setIfInBounds_toArray, List.set_cons_zero, List.set_cons_succ, i64_w, i32_w]
     rfl
    refine pure_ (i := 8) (N := some 16) (v := ?_) (a' := ?_) #[true, true, true, true, true, true, true, true, true, false, false, false, false, false, false, false, false, false, false, false, false, false, false] rfl rfl (any_of HT_.out (by kernel_rfl)) (fun _ _ _ h => h) (Or.inl ⟨by rfl, ?_⟩) ?_ ?_
    rotate_left
    ·intro w'
     go_simp
     with_reducible rfl
    rotate_left
    ·simp only [Act.put, List.setIfInBounds_toArray, List.set_cons_zero, List.set_cons_succ, i64_w, i32_w]
     rfl
    refine pure_ (i := 9) (N := some 17) (v := ?_) (a' := ?_) #[true, true, true, true, true, true, true, true, true, true, false, false, false, false, false, false, false, false, false, false, false, false, false] rfl rfl (any_of HT_.out (by kernel_rfl)) (fun _ _ _ h => h) (Or.inl ⟨by rfl, ?_⟩) ?_ ?_
    rotate_left
    ·intro w'
     go_simp
     with_reducible rfl
    rotate_left
    ·simp only [Act.put, List.setIfInBounds_toArray, List.set_cons_zero, List.set_cons_succ, i64_w, i32_w]
     rfl
    refine take_ (i := 10) (N := some 18) (v := ?_) (a' := ?_) #[true, true, true, true, true, true, true, true, true, true, true, false, false, false, false, false, false, false, false, false, false, false, false] rfl rfl (take_ofW HT_.out HW_.out (by kernel_rfl)) (fun _ _ _ h => h) (Or.inl ⟨by rfl, ?_⟩) hHeld ?_ ?_
    rotate_left
    ·rintro w' ⟨s0, s1, s2⟩
     have y0 : w'.cell? ⟨gq, 0, none⟩ = some (.pointer (some ⟨gw, 0, none⟩)) := (blk_cell s0 0).trans rfl
     go_simp
     with_reducible rfl
    rotate_left
    ·simp only [Act.put, List.setIfInBounds_toArray, List.set_cons_zero, List.set_cons_succ, i64_w, i32_w]
     rfl
    refine pure_ (i := 11) (N := some 19) (v := ?_) (a' := ?_) #[true, true, true, true, true, true, true, true, true, true, true, true, false, false, false, false, false, false, false, false, false, false, false] rfl rfl (any_of HT_.out (by kernel_rfl)) (fun _ _ _ h => h) (Or.inl ⟨by rfl, ?_⟩) ?_ ?_
    rotate_left
    ·intro w'
     go_simp
     with_reducible rfl
    rotate_left
    ·simp only [Act.put, List.setIfInBounds_toArray, List.set_cons_zero, List.set_cons_succ, i64_w, i32_w]
     rfl
    refine pure_ (i := 12) (N := some 20) (v := ?_) (a' := ?_) #[true, true, true, true, true, true, true, true, true, true, true, true, true, false, false, false, false, false, false, false, false, false, false] rfl rfl (any_of HT_.out (by kernel_rfl)) (fun _ _ _ h => h) (Or.inl ⟨by rfl, ?_⟩) ?_ ?_
    rotate_left
    ·intro w'
     go_simp
     with_reducible rfl
    rotate_left
    ·simp only [Act.put, List.setIfInBounds_toArray, List.set_cons_zero, List.set_cons_succ, i64_w, i32_w]
     rfl
    refine take_ (i := 13) (N := some 21) (v := ?_) (a' := ?_) #[true, true, true, true, true, true, true, true, true, true, true, true, true, true, false, false, false, false, false, false, false, false, false] rfl rfl (take_ofW HT_.out HW_.out (by kernel_rfl)) (fun _ _ _ h => h) (Or.inl ⟨by rfl, ?_⟩) hHeld ?_ ?_
    rotate_left
    ·rintro w' ⟨s0, s1, s2⟩
     have y0 : w'.cell? ⟨gw, 0, none⟩ = some (.slice (some ⟨ga, 0, none⟩) n c) := (blk_cell s1 0).trans rfl
     go_simp
     with_reducible rfl
    rotate_left
    ·simp only [Act.put, List.setIfInBounds_toArray, List.set_cons_zero, List.set_cons_succ, i64_w, i32_w]
     rfl
    refine pure_ (i := 14) (N := some 22) (v := ?_) (a' := ?_) #[true, true, true, true, true, true, true, true, true, true, true, true, true, true, true, false, false, false, false, false, false, false, false] rfl rfl (any_of HT_.out (by kernel_rfl)) (fun _ _ _ h => h) (Or.inl ⟨by rfl, ?_⟩) ?_ ?_
    rotate_left
    ·intro w'
     go_simp
     with_reducible rfl
    rotate_left
    ·simp only [Act.put, List.setIfInBounds_toArray, List.set_cons_zero, List.set_cons_succ, i64_w, i32_w]
     rfl
    refine pure_ (i := 15) (N := some 23) (v := ?_) (a' := ?_) #[true, true, true, true, true, true, true, true, true, true, true, true, true, true, true, true, false, false, false, false, false, false, false] rfl rfl (any_of HT_.out (by kernel_rfl)) (fun _ _ _ h => h) (Or.inl ⟨by rfl, ?_⟩) ?_ ?_
    rotate_left
    ·intro w'
     go_simp
     with_reducible rfl
    rotate_left
    ·simp only [Act.put, List.setIfInBounds_toArray, List.set_cons_zero, List.set_cons_succ, i64_w, i32_w]
     rfl
    refine take_ (i := 16) (N := some 24) (v := ?_) (a' := ?_) #[true, true, true, true, true, true, true, true, true, true, true, true, true, true, true, true, true, false, false, false, false, false, false] rfl rfl (take_ofW HT_.out HW_.out (by kernel_rfl)) (fun _ _ _ h => h) (Or.inl ⟨by rfl, ?_⟩) hHeld ?_ ?_
    rotate_left
    ·rintro w' ⟨s0, s1, s2⟩
     go_simp
     with_reducible rfl
    rotate_left
    ·simp only [Act.put, List.setIfInBounds_toArray, List.set_cons_zero, List.set_cons_succ, i64_w, i32_w]
     rfl
    refine pure_ (i := 17) (N := some 25) (v := ?_) (a' := ?_) #[true, true, true, true, true, true, true, true, true, true, true, true, true, true, true, true, true, true, false, false, false, false, false] rfl rfl (any_of HT_.out (by kernel_rfl)) (fun _ _ _ h => h) (Or.inl ⟨by rfl, ?_⟩) ?_ ?_
    rotate_left
    ·intro w'
     go_simp
     with_reducible rfl
    rotate_left
    ·simp only [Act.put, List.setIfInBounds_toArray, List.set_cons_zero, List.set_cons_succ, i64_w, i32_w]
     rfl
    refine pure_ (i := 18) (N := some 26) (v := ?_) (a' := ?_) #[true, true, true, true, true, true, true, true, true, true, true, true, true, true, true, true, true, true, true, false, false, false, false] rfl rfl (any_of HT_.out (by kernel_rfl)) (fun _ _ _ h => h) (Or.inl ⟨by rfl, ?_⟩) ?_ ?_
    rotate_left
    ·intro w'
     go_simp
     with_reducible rfl
    rotate_left
    ·simp only [Act.put, List.setIfInBounds_toArray, List.set_cons_zero, List.set_cons_succ, i64_w, i32_w]
     rfl
    refine pure_ (i := 19) (N := some 27) (v := ?_) (a' := ?_) #[true, true, true, true, true, true, true, true, true, true, true, true, true, true, true, true, true, true, true, true, false, false, false] rfl rfl (any_of HT_.out (by kernel_rfl)) (fun _ _ _ h => h) (Or.inl ⟨by rfl, ?_⟩) ?_ ?_
    rotate_left
    ·intro w'
     go_simp
     with_reducible rfl
    rotate_left
    ·simp only [Act.put, List.setIfInBounds_toArray, List.set_cons_zero, List.set_cons_succ, i64_w, i32_w]
     rfl
    refine take_ (i := 20) (N := some 28) (v := ?_) (a' := ?_) #[true, true, true, true, true, true, true, true, true, true, true, true, true, true, true, true, true, true, true, true, true, false, false] rfl rfl (take_ofW HT_.out HW_.out (by kernel_rfl)) (fun _ _ _ h => h) (Or.inl ⟨by rfl, ?_⟩) hHeld ?_ ?_
    rotate_left
    ·rintro w' ⟨s0, s1, s2⟩
     have y0 : w'.cell? ⟨gq, 2, none⟩ = some (.int .i64 now) := (blk_cell s0 2).trans rfl
     go_simp
     with_reducible rfl
    rotate_left
    ·simp only [Act.put, List.setIfInBounds_toArray, List.set_cons_zero, List.set_cons_succ, i64_w, i32_w]
     rfl
    refine pure_ (i := 21) (N := some 29) (v := ?_) (a' := ?_) #[true, true, true, true, true, true, true, true, true, true, true, true, true, true, true, true, true, true, true, true, true, true, false] rfl rfl (any_of HT_.out (by kernel_rfl)) (fun _ _ _ h => h) (Or.inl ⟨by rfl, ?_⟩) ?_ ?_
    rotate_left
    ·intro w'
     go_simp
     with_reducible rfl
    rotate_left
    ·simp only [Act.put, List.setIfInBounds_toArray, List.set_cons_zero, List.set_cons_succ, i64_w, i32_w]
     rfl
    refine pure_ (i := 22) (N := some 30) (v := ?_) (a' := ?_) #[true, true, true, true, true, true, true, true, true, true, true, true, true, true, true, true, true, true, true, true, true, true, true] rfl rfl (any_of HT_.out (by kernel_rfl)) (fun _ _ _ h => h) (Or.inl ⟨by rfl, ?_⟩) ?_ ?_
    rotate_left
    ·intro w'
     go_simp
     with_reducible rfl
    rotate_left
    ·simp only [Act.put, List.setIfInBounds_toArray, List.set_cons_zero, List.set_cons_succ, i64_w, i32_w]
     rfl
    refine done_ (done_of HT_.out (by kernel_rfl)) ?_
    clear hHeld
    have y0 : w5.cell? ⟨gq, 0, none⟩ = some (.pointer (some ⟨gw, 0, none⟩)) := (blk_cell H5.out.blk 0).trans rfl
    go_wp2
    go_end0
    refine ⟨rfl, vw1, vd1, lw1, ld1, H5.out, HS5.out, HR1.out, fun y hy => ?_⟩
    have h1 := H5.out.wt.heap.least (LE_rf 23) (LE_tr 23) hy
    rw [← HX.out] at h1
    have h2 : earlyT y x = false := h1
    rw [early_not] at h2
    have := HD.out
    omega
  ·obtain rfl : lw1 = [] := List.eq_nil_of_length_eq_zero (by omega)
   have hbk := H1.out.drew.blk
   clear hp
   go_upto_region 1 with (fail)
   refine start_ (n := 23) (S := fun w' => w'.heap[gq]? = some (.cells #[.pointer (some ⟨gw, 0, none⟩), .pointer (some ⟨gd, 0, none⟩), .int .i64 now, .int .i64 put] 56 (0, 0))) (ds := []) #[false, false, false, false, false, false, false, false, false, false, false, false, false, false, false, false, false, false, false, false, false, false, false] (by kernel_rfl) rfl rfl hbk (fun hHeld => ?_)
   refine with_tabW rg26_1_tab rg26_1_bits (fun HT_ HW_ => ?_)
   obtain ⟨W1, hW1⟩ : ∃ W1, W1 = wr.drew := ⟨_, rfl⟩
   have HB4 := Aside0.mk (show Below wr.heap.size wr W1 from by rw [hW1]; exact below_drew (Below.refl _ _))
   have H4 := Aside0.mk (H1.out.below HB4.out)
   rw [← hW1] at hHeld ⊢
   clear hbk hW1
   refine pure_ (i := 0) (N := some 8) (v := ?_) (a' := ?_) #[true, false, false, false, false, false, false, false, false, false, false, false, false, false, false, false, false, false, false, false, false, false, false] rfl rfl (any_of HT_.out (by kernel_rfl)) (fun _ _ _ h => h) (Or.inl ⟨by rfl, ?_⟩) ?_ ?_
   rotate_left
   ·intro w'
    go_simp
    with_reducible rfl
   rotate_left
   ·simp only [Act.put, List.setIfInBounds_toArray, List.set_cons_zero, List.set_cons_succ, i64_w, i32_w]
    rfl
   refine pure_ (i := 1) (N := some 9) (v := ?_) (a' := ?_) #[true, true, false, false, false, false, false, false, false, false, false, false, false, false, false, false, false, false, false, false, false, false, false] rfl rfl (any_of HT_.out (by kernel_rfl)) (fun _ _ _ h => h) (Or.inl ⟨by rfl, ?_⟩) ?_ ?_
   rotate_left
   ·intro w'
    go_simp
    with_reducible rfl
   rotate_left
   ·simp only [Act.put, List.setIfInBounds_toArray, List.set_cons_zero, List.set_cons_succ, i64_w, i32_w]
    rfl
   refine pure_ (i := 2) (N := some 10) (v := ?_) (a' := ?_) #[true, true, true, false, false, false, false, false, false, false, false, false, false, false, false, false, false, false, false, false, false, false, false] rfl rfl (any_of HT_.out (by kernel_rfl)) (fun _ _ _ h => h) (Or.inl ⟨by rfl, ?_⟩) ?_ ?_
   rotate_left
   ·intro w'
    go_simp
    with_reducible rfl
   rotate_left
   ·simp only [Act.put, List.setIfInBounds_toArray, List.set_cons_zero, List.set_cons_succ, i64_w, i32_w]
    rfl
   refine take_ (i := 3) (N := some 11) (v := ?_) (a' := ?_) #[true, true, true, true, false, false, false, false, false, false, false, false, false, false, false, false, false, false, false, false, false, false, false] rfl rfl (take_ofW HT_.out HW_.out (by kernel_rfl)) (fun _ _ _ h => h) (Or.inl ⟨by rfl, ?_⟩) hHeld ?_ ?_
   rotate_left
   ·rintro w' s0
    have y0 : w'.cell? ⟨gq, 0, none⟩ = some (.pointer (some ⟨gw, 0, none⟩)) := (blk_cell s0 0).trans rfl
    go_simp
    with_reducible rfl
   rotate_left
   ·simp only [Act.put, List.setIfInBounds_toArray, List.set_cons_zero, List.set_cons_succ, i64_w, i32_w]
    rfl
   refine one_ (i := 4) (N := some 12) #[true, true, true, true, true, false, false, false, false, false, false, false, false, false, false, false, false, false, false, false, false, false, false] rfl rfl (one_of HT_.out (by kernel_rfl)) (by decide) (fun K hK => ?_)
   (refine goes_ Try.func27 (by kernel_rfl) rfl #[.pointer (some ⟨gw, 0, none⟩)] (by rfl) rfl rfl (by (try simp only [List.map_toArray, List.map_cons, List.map_nil]); first | done | rfl) ?_; refine (len_cast (n := 0) H4.out.wt.ht rfl).mono ?_; rintro e w5 ⟨rfl, hb⟩; refine ⟨_, rfl, ?_⟩; have H5 := Aside0.mk (H4.out.below hb); have HS5 := Aside0.mk (HS1.out.trans (QStep.of_below (below_step HB4.out hb) _ _ _ _ _)); clear hb)
   refine hK.out _ _ H5.out.blk (fun hHeld => ?_)
   clear hK K
   try simp only [Act.put, List.setIfInBounds_toArray, List.set_cons_zero, List.set_cons_succ, i64_w, i32_w]
   refine pure_ (i := 5) (N := some 13) (v := ?_) (a' := ?_) #[true, true, true, true, true, true, false, false, false, false, false, false, false, false, false, false, false, false, false, false, false, false, false] rfl rfl (any_of HT_.out (by kernel_rfl)) (fun _ _ _ h => h) (Or.inl ⟨by rfl, ?_⟩) ?_ ?_
   rotate_left
   ·intro w'
    go_simp
    with_reducible rfl
   rotate_left
   ·simp only [Act.put, List.setIfInBounds_toArray, List.set_cons_zero, List.set_cons_succ, i64_w, i32_w]
    rfl
   refine pure_ (i := 6) (N := some 14) (v := ?_) (a' := ?_) #[true, true, true, true, true, true, true, false, false, false, false, false, false, false, false, false, false, false, false, false, false, false, false] rfl rfl (any_of HT_.out (by kernel_rfl)) (fun _ _ _ h => h) (Or.inl ⟨by rfl, ?_⟩) ?_ ?_
   rotate_left
   ·intro w'
    go_simp
    with_reducible rfl
   rotate_left
   ·simp only [Act.put, List.setIfInBounds_toArray, List.set_cons_zero, List.set_cons_succ, i64_w, i32_w]
    rfl
   refine pure_ (i := 7) (N := some 15) (v := undef) (a' := ?_) #[true, true, true, true, true, true, true, true, false, false, false, false, false, false, false, false, false, false, false, false, false, false, false] rfl rfl (any_of HT_.out (by kernel_rfl)) (fun _ _ _ h => h) (Or.inr ⟨by rfl, rfl⟩) ?_ ?_
   rotate_left
   ·simp only [Act.put, List.setIfInBounds_toArray, List.set_cons_zero, List.set_cons_succ, i64_w, i32_w]
    rfl
   refine pure_ (i := 8) (N := some 16) (v := undef) (a' := ?_) #[true, true, true, true, true, true, true, true, true, false, false, false, false, false, false, false, false, false, false, false, false, false, false] rfl rfl (any_of HT_.out (by kernel_rfl)) (fun _ _ _ h => h) (Or.inr ⟨by rfl, rfl⟩) ?_ ?_
   rotate_left
   ·simp only [Act.put, List.setIfInBounds_toArray, List.set_cons_zero, List.set_cons_succ, i64_w, i32_w]
    rfl
   refine pure_ (i := 9) (N := some 17) (v := undef) (a' := ?_) #[true, true, true, true, true, true, true, true, true, true, false, false, false, false, false, false, false, false, false, false, false, false, false] rfl rfl (any_of HT_.out (by kernel_rfl)) (fun _ _ _ h => h) (Or.inr ⟨by rfl, rfl⟩) ?_ ?_
   rotate_left
   ·simp only [Act.put, List.setIfInBounds_toArray, List.set_cons_zero, List.set_cons_succ, i64_w, i32_w]
    rfl
   refine pure_ (i := 10) (N := some 18) (v := undef) (a' := ?_) #[true, true, true, true, true, true, true, true, true, true, true, false, false, false, false, false, false, false, false, false, false, false, false] rfl rfl (any_of HT_.out (by kernel_rfl)) (fun _ _ _ h => h) (Or.inr ⟨by rfl, rfl⟩) ?_ ?_
   rotate_left
   ·simp only [Act.put, List.setIfInBounds_toArray, List.set_cons_zero, List.set_cons_succ, i64_w, i32_w]
    rfl
   refine pure_ (i := 11) (N := some 19) (v := undef) (a' := ?_) #[true, true, true, true, true, true, true, true, true, true, true, true, false, false, false, false, false, false, false, false, false, false, false] rfl rfl (any_of HT_.out (by kernel_rfl)) (fun _ _ _ h => h) (Or.inr ⟨by rfl, rfl⟩) ?_ ?_
   rotate_left
   ·simp only [Act.put, List.setIfInBounds_toArray, List.set_cons_zero, List.set_cons_succ, i64_w, i32_w]
    rfl
   refine pure_ (i := 12) (N := some 20) (v := undef) (a' := ?_) #[true, true, true, true, true, true, true, true, true, true, true, true, true, false, false, false, false, false, false, false, false, false, false] rfl rfl (any_of HT_.out (by kernel_rfl)) (fun _ _ _ h => h) (Or.inr ⟨by rfl, rfl⟩) ?_ ?_
   rotate_left
   ·simp only [Act.put, List.setIfInBounds_toArray, List.set_cons_zero, List.set_cons_succ, i64_w, i32_w]
    rfl
   refine pure_ (i := 13) (N := some 21) (v := undef) (a' := ?_) #[true, true, true, true, true, true, true, true, true, true, true, true, true, true, false, false, false, false, false, false, false, false, false] rfl rfl (any_of HT_.out (by kernel_rfl)) (fun _ _ _ h => h) (Or.inr ⟨by rfl, rfl⟩) ?_ ?_
   rotate_left
   ·simp only [Act.put, List.setIfInBounds_toArray, List.set_cons_zero, List.set_cons_succ, i64_w, i32_w]
    rfl
   refine pure_ (i := 14) (N := some 22) (v := undef) (a' := ?_) #[true, true, true, true, true, true, true, true, true, true, true, true, true, true, true, false, false, false, false, false, false, false, false] rfl rfl (any_of HT_.out (by kernel_rfl)) (fun _ _ _ h => h) (Or.inr ⟨by rfl, rfl⟩) ?_ ?_
   rotate_left
   ·simp only [Act.put, List.setIfInBounds_toArray, List.set_cons_zero, List.set_cons_succ, i64_w, i32_w]
    rfl
   refine pure_ (i := 15) (N := some 23) (v := undef) (a' := ?_) #[true, true, true, true, true, true, true, true, true, true, true, true, true, true, true, true, false, false, false, false, false, false, false] rfl rfl (any_of HT_.out (by kernel_rfl)) (fun _ _ _ h => h) (Or.inr ⟨by rfl, rfl⟩) ?_ ?_
   rotate_left
   ·simp only [Act.put, List.setIfInBounds_toArray, List.set_cons_zero, List.set_cons_succ, i64_w, i32_w]
    rfl
   refine pure_ (i := 16) (N := some 24) (v := undef) (a' := ?_) #[true, true, true, true, true, true, true, true, true, true, true, true, true, true, true, true, true, false, false, false, false, false, false] rfl rfl (any_of HT_.out (by kernel_rfl)) (fun _ _ _ h => h) (Or.inr ⟨by rfl, rfl⟩) ?_ ?_
   rotate_left
   ·simp only [Act.put, List.setIfInBounds_toArray, List.set_cons_zero, List.set_cons_succ, i64_w, i32_w]
    rfl
   refine pure_ (i := 17) (N := some 25) (v := undef) (a' := ?_) #[true, true, true, true, true, true, true, true, true, true, true, true, true, true, true, true, true, true, false, false, false, false, false] rfl rfl (any_of HT_.out (by kernel_rfl)) (fun _ _ _ h => h) (Or.inr ⟨by rfl, rfl⟩) ?_ ?_
   rotate_left
   ·simp only [Act.put, List.setIfInBounds_toArray, List.set_cons_zero, List.set_cons_succ, i64_w, i32_w]
    rfl
   refine pure_ (i := 18) (N := some 26) (v := undef) (a' := ?_) #[true, true, true, true, true, true, true, true, true, true, true, true, true, true, true, true, true, true, true, false, false, false, false] rfl rfl (any_of HT_.out (by kernel_rfl)) (fun _ _ _ h => h) (Or.inr ⟨by rfl, rfl⟩) ?_ ?_
   rotate_left
   ·simp only [Act.put, List.setIfInBounds_toArray, List.set_cons_zero, List.set_cons_succ, i64_w, i32_w]
    rfl
   refine pure_ (i := 19) (N := some 27) (v := undef) (a' := ?_) #[true, true, true, true, true, true, true, true, true, true, true, true, true, true, true, true, true, true, true, true, false, false, false] rfl rfl (any_of HT_.out (by kernel_rfl)) (fun _ _ _ h => h) (Or.inr ⟨by rfl, rfl⟩) ?_ ?_
   rotate_left
   ·simp only [Act.put, List.setIfInBounds_toArray, List.set_cons_zero, List.set_cons_succ, i64_w, i32_w]
    rfl
   refine pure_ (i := 20) (N := some 28) (v := undef) (a' := ?_) #[true, true, true, true, true, true, true, true, true, true, true, true, true, true, true, true, true, true, true, true, true, false, false] rfl rfl (any_of HT_.out (by kernel_rfl)) (fun _ _ _ h => h) (Or.inr ⟨by rfl, rfl⟩) ?_ ?_
   rotate_left
   ·simp only [Act.put, List.setIfInBounds_toArray, List.set_cons_zero, List.set_cons_succ, i64_w, i32_w]
    rfl
   refine pure_ (i := 21) (N := some 29) (v := undef) (a' := ?_) #[true, true, true, true, true, true, true, true, true, true, true, true, true, true, true, true, true, true, true, true, true, true, false] rfl rfl (any_of HT_.out (by kernel_rfl)) (fun _ _ _ h => h) (Or.inr ⟨by rfl, rfl⟩) ?_ ?_
   rotate_left
   ·simp only [Act.put, List.setIfInBounds_toArray, List.set_cons_zero, List.set_cons_succ, i64_w, i32_w]
    rfl
   refine pure_ (i := 22) (N := some 30) (v := ?_) (a' := ?_) #[true, true, true, true, true, true, true, true, true, true, true, true, true, true, true, true, true, true, true, true, true, true, true] rfl rfl (any_of HT_.out (by kernel_rfl)) (fun _ _ _ h => h) (Or.inl ⟨by rfl, ?_⟩) ?_ ?_
   rotate_left
   ·intro w'
    go_simp
    with_reducible rfl
   rotate_left
   ·simp only [Act.put, List.setIfInBounds_toArray, List.set_cons_zero, List.set_cons_succ, i64_w, i32_w]
    rfl
   refine done_ (done_of HT_.out (by kernel_rfl)) ?_
   clear hHeld
   go_wp2
   go_end0
   exact ⟨rfl, vw1, vd1, [], ld1, H5.out, HS5.out, HR1.out, fun y hy => absurd hy List.not_mem_nil⟩
end Go.Proofs.Ytacceeefcelkhaa.Al

namespace Go.Proofs.Ytacceeefcelkhaa.DueSpec
open Go.RowKit
set_option linter.unusedVariables false
set_option linter.unusedSimpArgs false
structure Qs where
 L : List Tk
 now : Int
 put : Int
def dueB (now : Int) (x : Tk) : Bool := decide (x.at_ ≤ now)
def bestOf : List Tk → Option Tk
 |[] => none
 |x :: l => match bestOf l with
  |none => some x
  |some y => if urgentT y x = true then some y else some x
def putQ (q : Qs) (a u i : Int) : Qs × Int × Int :=
 if a < 0 ∨ 1099511627776 < a then (q, 0, 1)
 else if 1024 ≤ q.L.length then (q, 0, 2)
 else (⟨q.L ++ [⟨a, u, i, q.put + 1⟩], q.now, q.put + 1⟩, q.put + 1, 0)
def goQ (q : Qs) (tt : Int) : Qs × Int := if tt < q.now ∨ 1099511627776 < tt then (q, 1) else (⟨q.L, tt, q.put⟩, 0)
def takeQ (q : Qs) : Qs × Int × Bool :=
 match bestOf (q.L.filter (dueB q.now)) with
 |none => (q, 0, false)
 |some x => (⟨q.L.erase x, q.now, q.put⟩, x.id, true)
def dropQ (q : Qs) (no : Int) : Qs × Int :=
 match q.L.find? (fun x => x.no == no) with
 |none => (q, 5)
 |some x => (⟨q.L.erase x, q.now, q.put⟩, 0)
def minAt : List Tk → Int × Bool
 |[] => (0, false)
 |x :: l => (l.foldl (fun m y => min m y.at_) x.at_, true)
def nextQ (q : Qs) : Int × Bool := minAt q.L
theorem bestOf_none {l : List Tk} : bestOf l = none ↔ l = [] := by
 cases l with
 |nil => simp [bestOf]
 |cons x l =>
  simp only [bestOf]
  cases bestOf l with
  |none => simp
  |some y => simp only; split <;> simp
theorem bestOf_some : ∀ {l : List Tk} {x : Tk}, bestOf l = some x → x ∈ l ∧ ∀ y ∈ l, leU x y
 |[], x, h => by cases h
 |a :: l, x, h => by
  simp only [bestOf] at h
  cases hb : bestOf l with
  |none =>
   rw [hb] at h
   injection h with h
   subst h
   obtain rfl := bestOf_none.1 hb
   exact ⟨List.mem_cons_self, fun y hy => by rw [List.mem_singleton.1 hy]; exact leU_rf a⟩
  |some y =>
   rw [hb] at h
   obtain ⟨h1, h2⟩ := bestOf_some hb
   simp only at h
   by_cases hu : urgentT y a = true
   ·rw [if_pos hu] at h
    injection h with h
    subst h
    exact ⟨List.mem_cons_of_mem _ h1, fun z hz => by
     rcases List.mem_cons.1 hz with rfl | hz
     ·exact leU_of hu
     ·exact h2 z hz⟩
   ·rw [if_neg hu] at h
    injection h with h
    subst h
    have hay : leU a y := by unfold leU; simpa using hu
    exact ⟨List.mem_cons_self, fun z hz => by
     rcases List.mem_cons.1 hz with rfl | hz
     ·exact leU_rf z
     ·exact leU_tr _ _ _ hay (h2 z hz)⟩
/-- Numbers rise: no two are alike. -/
structure Ok (k : Nat) (q : Qs) : Prop where
 rise : q.L.Pairwise (fun a b => a.no < b.no)
 le : ∀ x ∈ q.L, x.no ≤ q.put
 p0 : 0 ≤ q.put
 p1 : q.put ≤ k
 n0 : 0 ≤ q.now
 n1 : q.now ≤ 1099511627776
 len : q.L.length ≤ 1024
 a0 : ∀ x ∈ q.L, 0 ≤ x.at_ ∧ x.at_ ≤ 1099511627776
theorem Ok.uniq {k : Nat} {q : Qs} (h : Ok k q) {x y : Tk} (hx : x ∈ q.L) (hy : y ∈ q.L) (e : x.no = y.no) : x = y := by
 obtain ⟨i, hi, rfl⟩ := List.getElem_of_mem hx
 obtain ⟨j, hj, rfl⟩ := List.getElem_of_mem hy
 have hp := List.pairwise_iff_getElem.1 h.rise
 rcases Nat.lt_trichotomy i j with hl | hl | hl
 ·have := hp i j hi hj hl; omega
 ·subst hl; rfl
 ·have := hp j i hj hi hl; omega
theorem Ok.mono {k k' : Nat} {q : Qs} (h : Ok k q) (hk : k ≤ k') : Ok k' q := ⟨h.rise, h.le, h.p0, by have := h.p1; omega, h.n0, h.n1, h.len, h.a0⟩
theorem Ok.erase {k : Nat} {q : Qs} (h : Ok k q) (x : Tk) : Ok k ⟨q.L.erase x, q.now, q.put⟩ :=
 ⟨h.rise.sublist List.erase_sublist, fun y hy => h.le y (List.mem_of_mem_erase hy), h.p0, h.p1, h.n0, h.n1, Nat.le_trans List.erase_sublist.length_le h.len, fun y hy => h.a0 y (List.mem_of_mem_erase hy)⟩
theorem Ok.put_ {k : Nat} {q : Qs} (h : Ok k q) (a u i : Int) : Ok (k + 1) (putQ q a u i).1 := by
 unfold putQ
 split
 ·exact h.mono (Nat.le_succ k)
 ·split
  ·exact h.mono (Nat.le_succ k)
  ·rename_i h1 h2
   have := h.p0
   have := h.p1
   refine ⟨List.pairwise_append.2 ⟨h.rise, List.pairwise_singleton _ _, fun x hx y hy => ?_⟩, fun x hx => ?_, by simp only; omega, by simp only; omega, h.n0, h.n1, by simp only [List.length_append, List.length_singleton]; omega, fun x hx => ?_⟩
   ·rw [List.mem_singleton.1 hy]
    have := h.le x hx
    simp only; omega
   ·rcases List.mem_append.1 hx with hx | hx
    ·have := h.le x hx; simp only; omega
    ·rw [List.mem_singleton.1 hx]; simp
   ·rcases List.mem_append.1 hx with hx | hx
    ·exact h.a0 x hx
    ·rw [List.mem_singleton.1 hx]; simp only; omega
theorem Ok.go_ {k : Nat} {q : Qs} (h : Ok k q) (tt : Int) : Ok k (goQ q tt).1 := by
 unfold goQ
 split
 ·exact h
 ·have := h.n0
  exact ⟨h.rise, h.le, h.p0, h.p1, by simp only; omega, by simp only; omega, h.len, h.a0⟩
theorem Ok.take_ {k : Nat} {q : Qs} (h : Ok k q) : Ok k (takeQ q).1 := by
 unfold takeQ
 split
 ·exact h
 ·exact h.erase _
theorem Ok.drop_ {k : Nat} {q : Qs} (h : Ok k q) (no : Int) : Ok k (dropQ q no).1 := by
 unfold dropQ
 split
 ·exact h
 ·exact h.erase _
theorem Ok.empty : Ok 0 ⟨[], 0, 0⟩ := ⟨List.Pairwise.nil, fun x hx => absurd hx List.not_mem_nil, Int.le_refl _, Int.le_refl _, Int.le_refl _, by decide, by decide, fun x hx => absurd hx List.not_mem_nil⟩
/-- What takeQ answers where there is such a least one. -/
theorem takeQ_of {k : Nat} {q : Qs} (h : Ok k q) {x : Tk} (hx : x ∈ q.L) (hd : x.at_ ≤ q.now) (hm : ∀ y ∈ q.L, y.at_ ≤ q.now → leU x y) : takeQ q = (⟨q.L.erase x, q.now, q.put⟩, x.id, true) := by
 unfold takeQ
 have hxf : x ∈ q.L.filter (dueB q.now) := List.mem_filter.2 ⟨hx, decide_eq_true hd⟩
 cases hb : bestOf (q.L.filter (dueB q.now)) with
 |none =>
  rw [bestOf_none.1 hb] at hxf
  cases hxf
 |some y =>
  obtain ⟨h1, h2⟩ := bestOf_some hb
  obtain ⟨h3, h4⟩ := List.mem_filter.1 h1
  have e1 := hm y h3 (of_decide_eq_true h4)
  have e2 := h2 x hxf
  unfold leU at e1 e2
  rw [urgent_not] at e1 e2
  obtain rfl : y = x := h.uniq h3 hx (by omega)
  rfl
theorem takeQ_none {q : Qs} (hm : ∀ y ∈ q.L, q.now < y.at_) : takeQ q = (q, 0, false) := by
 unfold takeQ
 have : q.L.filter (dueB q.now) = [] := List.filter_eq_nil_iff.2 fun y hy hc => by
  have h1 := hm y hy
  have h2 : y.at_ ≤ q.now := of_decide_eq_true hc
  omega
 rw [this]
 rfl
theorem dropQ_of {k : Nat} {q : Qs} (h : Ok k q) {x : Tk} (hx : x ∈ q.L) : dropQ q x.no = (⟨q.L.erase x, q.now, q.put⟩, 0) := by
 unfold dropQ
 cases hb : q.L.find? (fun y => y.no == x.no) with
 |none =>
  have := List.find?_eq_none.1 hb x hx
  simp at this
 |some y =>
  have h1 := List.mem_of_find?_eq_some hb
  have h2 := List.find?_some hb
  obtain rfl : y = x := h.uniq h1 hx (by simpa using h2)
  rfl
theorem dropQ_none {q : Qs} {no : Int} (hm : ∀ y ∈ q.L, y.no ≠ no) : dropQ q no = (q, 5) := by
 unfold dropQ
 rw [List.find?_eq_none.2 (fun y hy => by simpa using hm y hy)]
theorem min_fold (l : List Tk) : ∀ m : Int, (l.foldl (fun m y => min m y.at_) m ≤ m ∧ ∀ y ∈ l, l.foldl (fun m y => min m y.at_) m ≤ y.at_) ∧ (l.foldl (fun m y => min m y.at_) m = m ∨ ∃ y ∈ l, l.foldl (fun m y => min m y.at_) m = y.at_) := by
 induction l with
 |nil => exact fun m => ⟨⟨Int.le_refl _, fun y hy => absurd hy List.not_mem_nil⟩, .inl rfl⟩
 |cons x l ih =>
  intro m
  obtain ⟨⟨h1, h2⟩, h3⟩ := ih (min m x.at_)
  simp only [List.foldl_cons]
  refine ⟨⟨by omega, fun y hy => ?_⟩, ?_⟩
  ·rcases List.mem_cons.1 hy with rfl | hy
   ·omega
   ·exact h2 y hy
  ·rcases h3 with e | ⟨y, hy, e⟩
   ·rw [e]
    by_cases hc : m ≤ x.at_
    ·exact .inl (by omega)
    ·exact .inr ⟨x, List.mem_cons_self, by omega⟩
   ·exact .inr ⟨y, List.mem_cons_of_mem _ hy, e⟩
/-- The least tick, told by what it is. -/
theorem minAt_of {l : List Tk} {m : Int} (h1 : ∃ x ∈ l, x.at_ = m) (h2 : ∀ y ∈ l, m ≤ y.at_) : minAt l = (m, true) := by
 cases l with
 |nil => obtain ⟨x, hx, _⟩ := h1; cases hx
 |cons a l =>
  obtain ⟨⟨g1, g2⟩, g3⟩ := min_fold l a.at_
  obtain ⟨x, hx, rfl⟩ := h1
  simp only [minAt, Prod.mk.injEq, and_true]
  have k1 : l.foldl (fun m y => min m y.at_) a.at_ ≤ x.at_ := by
   rcases List.mem_cons.1 hx with rfl | hx
   ·exact g1
   ·exact g2 x hx
  have k2 : x.at_ ≤ l.foldl (fun m y => min m y.at_) a.at_ := by
   rcases g3 with e | ⟨y, hy, e⟩
   ·rw [e]; exact h2 a List.mem_cons_self
   ·rw [e]; exact h2 y (List.mem_cons_of_mem _ hy)
  omega
/-- The two heaps' lists and the one list. -/
structure Rel (lw ld : List Tk) (q : Qs) : Prop where
 perm : (lw ++ ld).Perm q.L
 wait : ∀ x ∈ lw, q.now < x.at_
 due : ∀ x ∈ ld, x.at_ ≤ q.now
theorem Rel.len {lw ld : List Tk} {q : Qs} (h : Rel lw ld q) : lw.length + ld.length = q.L.length := by rw [← List.length_append]; exact h.perm.length_eq
theorem Rel.take {k : Nat} {lw ld ld' : List Tk} {q : Qs} {x : Tk} (h : Rel lw ld q) (ho : Ok k q) (hx : x ∈ ld) (hm : ∀ y ∈ ld, leU x y) (hp : (x :: ld').Perm ld) : takeQ q = (⟨q.L.erase x, q.now, q.put⟩, x.id, true) ∧ Rel lw ld' ⟨q.L.erase x, q.now, q.put⟩ := by
 have hxL : x ∈ q.L := h.perm.mem_iff.1 (List.mem_append_right _ hx)
 refine ⟨takeQ_of ho hxL (h.due x hx) (fun y hy hd => ?_), ?_, h.wait, fun y hy => h.due y (hp.mem_iff.1 (List.mem_cons_of_mem _ hy))⟩
 ·rcases List.mem_append.1 (h.perm.mem_iff.2 hy) with hy | hy
  ·have := h.wait y hy; omega
  ·exact hm y hy
 ·have : (x :: (lw ++ ld')).Perm q.L := (List.perm_middle.symm.trans (hp.append_left lw)).trans h.perm
  exact (List.cons_perm_iff_perm_erase.1 this).2
theorem Rel.drop_d {k : Nat} {lw ld ld' : List Tk} {q : Qs} {x : Tk} (h : Rel lw ld q) (ho : Ok k q) (hx : x ∈ ld) (hp : (x :: ld').Perm ld) : dropQ q x.no = (⟨q.L.erase x, q.now, q.put⟩, 0) ∧ Rel lw ld' ⟨q.L.erase x, q.now, q.put⟩ := by
 have hxL : x ∈ q.L := h.perm.mem_iff.1 (List.mem_append_right _ hx)
 refine ⟨dropQ_of ho hxL, ?_, h.wait, fun y hy => h.due y (hp.mem_iff.1 (List.mem_cons_of_mem _ hy))⟩
 have : (x :: (lw ++ ld')).Perm q.L := (List.perm_middle.symm.trans (hp.append_left lw)).trans h.perm
 exact (List.cons_perm_iff_perm_erase.1 this).2
theorem Rel.drop_w {k : Nat} {lw ld lw' : List Tk} {q : Qs} {x : Tk} (h : Rel lw ld q) (ho : Ok k q) (hx : x ∈ lw) (hp : (x :: lw').Perm lw) : dropQ q x.no = (⟨q.L.erase x, q.now, q.put⟩, 0) ∧ Rel lw' ld ⟨q.L.erase x, q.now, q.put⟩ := by
 have hxL : x ∈ q.L := h.perm.mem_iff.1 (List.mem_append_left _ hx)
 refine ⟨dropQ_of ho hxL, ?_, fun y hy => h.wait y (hp.mem_iff.1 (List.mem_cons_of_mem _ hy)), h.due⟩
 have : (x :: (lw' ++ ld)).Perm q.L := (hp.append_right ld).trans h.perm
 exact (List.cons_perm_iff_perm_erase.1 this).2
theorem Rel.drop_none {lw ld : List Tk} {q : Qs} {no : Int} (h : Rel lw ld q) (h1 : ∀ y ∈ lw, y.no ≠ no) (h2 : ∀ y ∈ ld, y.no ≠ no) : dropQ q no = (q, 5) :=
 dropQ_none fun y hy => by
  rcases List.mem_append.1 (h.perm.mem_iff.2 hy) with hy | hy
  ·exact h1 y hy
  ·exact h2 y hy
theorem Rel.take_none {lw : List Tk} {q : Qs} (h : Rel lw [] q) : takeQ q = (q, 0, false) :=
 takeQ_none fun y hy => by
  rcases List.mem_append.1 (h.perm.mem_iff.2 hy) with hy | hy
  ·exact h.wait y hy
  ·cases hy
/-- What ripen leaves of any two lists. -/
theorem Rel.of_ripe {lw ld lw' ld' : List Tk} {q : Qs} (hp : (lw ++ ld).Perm q.L) (hd : ∀ x ∈ ld, x.at_ ≤ q.now) (hr : (lw' ++ ld').Perm (lw ++ ld)) (hdue : (∀ x ∈ ld, x.at_ ≤ q.now) → ∀ x ∈ ld', x.at_ ≤ q.now) (hw : ∀ x ∈ lw', q.now < x.at_) : Rel lw' ld' q := ⟨hr.trans hp, hw, hdue hd⟩
end Go.Proofs.Ytacceeefcelkhaa.DueSpec

namespace Go.Proofs.Ytacceeefcelkhaa.Al
open Go.RowKit Go.Proofs.Ytacceeefcelkhaa.DueHeap Go.Proofs.Ytacceeefcelkhaa.DueSpec Go.Proofs.YtacceeefcelkhaaW.PrintWords Go.Proofs.YtacceeefcelkhaaW.PrintLast Go.Proofs.YtacceeefcelkhaaW.PrintMore
set_option linter.unusedVariables false
set_option linter.unusedSimpArgs false
/-- A queue's object, and what it is as a list. -/
structure QX (W w : World) (gq gw gd : Nat) (q : Qs) (vw vd : Value) (lw ld : List Tk) : Prop where
 o : QO W w gq gw gd q.now q.put vw vd lw ld
 r : Rel lw ld q
theorem QX.below {W w w1 : World} {gq gw gd : Nat} {q : Qs} {vw vd : Value} {lw ld : List Tk} (h : QX W w gq gw gd q vw vd lw ld) (hb : Below w.heap.size w w1) : QX W w1 gq gw gd q vw vd lw ld := ⟨h.o.below hb, h.r⟩
theorem qnew_calls (W w : World) (hB : Below W.heap.size W w) : Calls Try.prog 7 #[] w fun e w' => ∃ gq gw gd, e = .returned (.pointer (some ⟨gq, 0, none⟩)) ∧ QX W w' gq gw gd ⟨[], 0, 0⟩ (.slice none 0 0) (.slice none 0 0) [] [] ∧ w.heap.size ≤ gq ∧ w.heap.size ≤ gw ∧ w.heap.size ≤ gd ∧ Below w.heap.size w w' := by
 have hu54 := Try.underlying54
 have hu56 := Try.underlying56
 have HB0 := Aside0.mk hB
 clear hB
 go_enter Try.func7, Try.ntmps7
 go_wp2_with (first | ((with_reducible refine gate_dst (N := 2) rfl ?_); refine box_event ?hg (N := 2) ?hd (cs := #[.slice none 0 0, .func (.func 23) #[] #[]]) (t := 54) ?hr ?_; (case hd => rfl); (case hg => rfl); (case hr => first | (go_simp; done) | (go_simp; rfl)); intro gw hg w1 hbox hb; have HXw := Aside0.mk hbox; have HGw := Aside0.mk (Nat.le_of_eq hg.symm); have HB1 := Aside0.mk hb; clear hg hbox hb) | ((with_reducible refine gate_dst (N := 4) rfl ?_); refine box_event ?hg4 (N := 4) ?hd4 (cs := #[.slice none 0 0, .func (.func 24) #[] #[]]) (t := 54) ?hr4 ?_; (case hd4 => rfl); (case hg4 => rfl); (case hr4 => first | (go_simp; done) | (go_simp; rfl)); intro gd hg w2 hbox hb; have HXd := Aside0.mk hbox; have HGd := Aside0.mk (Nat.le_of_eq hg.symm); have HB2 := Aside0.mk hb; clear hg hbox hb) | ((with_reducible refine gate_dst (N := 6) rfl ?_); refine box_event ?hg6 (N := 6) ?hd6 (cs := #[.pointer (some ⟨gw, 0, none⟩), .pointer (some ⟨gd, 0, none⟩), .int .i64 0, .int .i64 0]) (t := 56) ?hr6 ?_; (case hd6 => rfl); (case hg6 => rfl); (case hr6 => first | (go_simp; done) | (go_simp; rfl)); intro gq hg w3 hbox hb; have HXq := Aside0.mk hbox; have HGq := Aside0.mk (Nat.le_of_eq hg.symm); have HB3 := Aside0.mk hb; clear hg hbox hb))
 have b12 := below_step HB1.out HB2.out
 have b13 := below_step b12 HB3.out
 have hw3 := blk_below (blk_below HXw.out HB2.out) HB3.out
 have hd3 := blk_below HXd.out HB3.out
 have s1 := HB1.out.size
 have s2 := HB2.out.size
 have s0 := HB0.out.size
 have gw1 := HGw.out
 have gd1 := HGd.out
 have gq1 := HGq.out
 have hlt := blk_lt HXw.out
 have W3 := below_step HB0.out b13
 have hne : gw ≠ gd := by omega
 have hH : ∀ {g fn : Nat}, w3.heap[g]? = some (.cells #[.slice none 0 0, .func (.func fn) #[] #[]] 54 (0, 0)) → w.heap.size ≤ g → HP W w3 g fn (.slice none 0 0) [] := fun {g fn} hb hg => ⟨⟨hb, by omega, Kd.R_nil _ _ _ _ _, W3⟩, Heap.nil⟩
 go_ret
 exact ⟨gq, gw, gd, rfl, ⟨⟨HXq.out, by omega, hH hw3 (by omega), hH hd3 (by omega), hne, fun q e => by cases e⟩, ⟨List.Perm.refl _, fun x hx => absurd hx List.not_mem_nil, fun x hx => absurd hx List.not_mem_nil⟩⟩, by omega, by omega, by omega, b13⟩
theorem qnow_calls (W w : World) (gq gw gd : Nat) (q : Qs) (vw vd : Value) (lw ld : List Tk) (h : QX W w gq gw gd q vw vd lw ld) : Calls Try.prog 11 #[.pointer (some ⟨gq, 0, none⟩)] w fun e w' => e = .returned (.int .i64 q.now) ∧ Below w.heap.size w w' := by
 have f2 : w.cell? ⟨gq, 2, none⟩ = some (.int .i64 q.now) := (blk_cell h.o.blk 2).trans rfl
 clear h
 go_enter Try.func11, Try.ntmps11
 go_wp2
 go_ret
 exact ⟨rfl, Below.refl _ _⟩
set_option maxHeartbeats 8000000 in
set_option maxRecDepth 100000 in
theorem qgo_calls (W w : World) (gq gw gd : Nat) (q : Qs) (vw vd : Value) (lw ld : List Tk) (h : QX W w gq gw gd q vw vd lw ld) (k : Nat) (ho : DueSpec.Ok k q) (tt : Int) : Calls Try.prog 12 #[.pointer (some ⟨gq, 0, none⟩), .int .i64 tt] w fun e w' => e = .returned (.int .i64 (goQ q tt).2) ∧ ∃ vw' vd' lw' ld', QX W w' gq gw gd (goQ q tt).1 vw' vd' lw' ld' ∧ QStep w w' gq gw gd vw vd vw' vd' := by
 have f2 : w.cell? ⟨gq, 2, none⟩ = some (.int .i64 q.now) := (blk_cell h.o.blk 2).trans rfl
 have z2 := blk_frozen h.o.blk 2
 have HH := Aside0.mk h
 have HO := Aside0.mk ho
 clear h ho
 by_cases h1 : tt < q.now
 ·have d1 : decide (tt < q.now) = true := decide_eq_true h1
  have HR : Aside0 (goQ q tt = (q, 1)) := ⟨if_pos (.inl h1)⟩
  rw [HR.out]
  clear h1
  go_enter Try.func12, Try.ntmps12
  go_wp2
  go_ret
  exact ⟨rfl, vw, vd, lw, ld, HH.out, QStep.refl _ _ _ _ _ _⟩
 ·have d1 : decide (tt < q.now) = false := decide_eq_false h1
  by_cases h2 : 1099511627776 < tt
  ·have d2 : decide (1099511627776 < tt) = true := decide_eq_true h2
   have HR : Aside0 (goQ q tt = (q, 1)) := ⟨if_pos (.inr h2)⟩
   rw [HR.out]
   clear h1 h2
   go_enter Try.func12, Try.ntmps12
   go_wp2
   go_ret
   exact ⟨rfl, vw, vd, lw, ld, HH.out, QStep.refl _ _ _ _ _ _⟩
  ·have d2 : decide (1099511627776 < tt) = false := decide_eq_false h2
   have HR : Aside0 (goQ q tt = (⟨q.L, tt, q.put⟩, 0)) := ⟨if_neg (by omega)⟩
   rw [HR.out]
   have HGE := Aside0.mk (show q.now ≤ tt by omega)
   have HLN : Aside0 (lw.length + ld.length < 100000) := ⟨by rw [HH.out.r.len]; have := HO.out.len; omega⟩
   clear h1 h2
   go_enter Try.func12, Try.ntmps12
   go_wp2_with (first | ((with_reducible refine gate_store (t := 3) (p := 18) rfl ?_); refine store_event (t := 3) (p := 18) (v := ?vo1) (w1 := (w.setCell ⟨gq, 2, none⟩ (.int .i64 tt))) ?hg1 ?ho1 ?hn1 ?hr1 ?_; (case ho1 => rfl); (case hg1 => rfl); (case hn1 => rfl); (case hr1 => first | (go_simp; done) | (go_simp; rfl)); intro w1 hw; have H1 := Aside0.mk (HH.out.o.setnow tt); have HS1 := Aside0.mk (QStep.of_q (w := w) (gq := gq) (gw := gw) (gd := gd) (vw := vw) (vd := vd) 2 (.int .i64 tt)); rw [← hw] at H1 HS1; clear hw f2 z2) | (go_at_call 26; refine (ripen_calls W w1 gq gw gd tt q.put vw vd lw ld H1.out HLN.out).mono ?_; rintro e w2 ⟨rfl, vw2, vd2, lw2, ld2, hq, hs, hr, hw⟩; have H2 := Aside0.mk hq; have HS2 := Aside0.mk (HS1.out.trans hs); have HR2 := Aside0.mk hr; have HW2 := Aside0.mk hw; clear hq hs hr hw))
   go_ret
   refine ⟨rfl, vw2, vd2, lw2, ld2, ⟨H2.out, Rel.of_ripe (lw := lw) (ld := ld) HH.out.r.perm (fun x hx => ?_) HR2.out.perm HR2.out.due HW2.out⟩, HS2.out⟩
   have := HH.out.r.due x hx
   have := HGE.out
   simp only
   omega
def rg10_6_T : Bool × List (List Nat × List Nat) := (true, [([], []), ([0], [0]), ([1], [1]), ([2], [2]), ([3], [3]), ([], []), ([], []), ([], []), ([], []), ([8], [8]), ([9], [9]), ([10], [10]), ([5, 6, 7, 11], [5, 6, 7, 11]), ([12], [12]), ([4, 13], [4, 13])])
def rg10_6_B : List Nat := [0, 1, 3, 7, 15, 0, 0, 0, 0, 256, 768, 1792, 4064, 8160, 16383]
theorem rg10_6_tab : rtab .any (opsOf Try.f10 6) = rg10_6_T := by kernel_rfl
theorem rg10_6_bits : waitsOk rg10_6_T.2 rg10_6_B = true := by kernel_rfl
set_option maxHeartbeats 8000000 in
set_option maxRecDepth 100000 in
theorem qput_calls (W w : World) (gq gw gd : Nat) (q : Qs) (vw vd : Value) (lw ld : List Tk) (h : QX W w gq gw gd q vw vd lw ld) (k : Nat) (ho : DueSpec.Ok k q) (hk : k ≤ 100000) (a u i : Int) : Calls Try.prog 10 #[.pointer (some ⟨gq, 0, none⟩), .int .i64 a, .int .i64 u, .int .i64 i] w fun e w' => e = .returned (.tuple #[.int .i64 (putQ q a u i).2.1, .int .i64 (putQ q a u i).2.2]) ∧ ∃ vw' vd' lw' ld', QX W w' gq gw gd (putQ q a u i).1 vw' vd' lw' ld' ∧ QStep w w' gq gw gd vw vd vw' vd' := by
 have hu61 := Try.underlying61
 have HH := Aside0.mk h
 have HO := Aside0.mk ho
 by_cases h1 : a < 0
 ·have d1 : decide (a < 0) = true := decide_eq_true h1
  have HR : Aside0 (putQ q a u i = (q, 0, 1)) := ⟨if_pos (.inl h1)⟩
  rw [HR.out]
  clear h1 h ho
  go_enter Try.func10, Try.ntmps10
  go_wp2
  exact bodyPost_ret (v := .tuple #[.int .i64 0, .int .i64 1]) (by simp [results, Try.results10, go_sem]) rfl ⟨rfl, vw, vd, lw, ld, HH.out, QStep.refl _ _ _ _ _ _⟩
 ·have d1 : decide (a < 0) = false := decide_eq_false h1
  by_cases h2 : 1099511627776 < a
  ·have d2 : decide (1099511627776 < a) = true := decide_eq_true h2
   have HR : Aside0 (putQ q a u i = (q, 0, 1)) := ⟨if_pos (.inr h2)⟩
   rw [HR.out]
   clear h1 h2 h ho
   go_enter Try.func10, Try.ntmps10
   go_wp2
   exact bodyPost_ret (v := .tuple #[.int .i64 0, .int .i64 1]) (by simp [results, Try.results10, go_sem]) rfl ⟨rfl, vw, vd, lw, ld, HH.out, QStep.refl _ _ _ _ _ _⟩
  ·have d2 : decide (1099511627776 < a) = false := decide_eq_false h2
   obtain ⟨n, hn⟩ : ∃ n, n = q.L.length := ⟨_, rfl⟩
   have HLN : Aside0 (lw.length + ld.length = n) := ⟨by rw [HH.out.r.len, hn]⟩
   have hnl := HO.out.len
   rw [← hn] at hnl
   by_cases h3 : 1024 ≤ n
   ·have d3 : ((n : Int) == 1024) = true := beq_iff_eq.2 (by omega)
    have HR : Aside0 (putQ q a u i = (q, 0, 2)) := ⟨by unfold putQ; rw [if_neg (by omega), if_pos (by omega)]⟩
    rw [HR.out]
    clear h1 h2 h3 h ho hn
    go_enter Try.func10, Try.ntmps10
    go_wp2_with (go_at_call 14; refine (qlen_calls W w gq gw gd _ _ vw vd lw ld HH.out.o (by rw [HLN.out]; omega)).mono ?_; rintro e w1 ⟨rfl, hb⟩; rw [HLN.out]; have H1 := Aside0.mk (HH.out.below hb); have HS1 := Aside0.mk (QStep.of_below hb gq gw gd vw vd); clear hb)
    exact bodyPost_ret (v := .tuple #[.int .i64 0, .int .i64 2]) (by simp [results, Try.results10, go_sem]) rfl ⟨rfl, vw, vd, lw, ld, H1.out, HS1.out⟩
   ·have d3 : ((n : Int) == 1024) = false := by rw [beq_eq_false_iff_ne]; omega
    have HR : Aside0 (putQ q a u i = (⟨q.L ++ [⟨a, u, i, q.put + 1⟩], q.now, q.put + 1⟩, q.put + 1, 0)) := ⟨by unfold putQ; rw [if_neg (by omega), if_neg (by omega)]⟩
    rw [HR.out]
    have hp0 := HO.out.p0
    have hp1 := HO.out.p1
    have hw : wrap64 (q.put + 1) = q.put + 1 := by unfold wrap64; omega
    have hw' : IntKind.i64.wrap (q.put + 1) = q.put + 1 := by rw [IntKind.wrap_i64]; omega
    clear h1 h2 h3 h ho hn
    go_enter Try.func10, Try.ntmps10
    go_upto_region 6 with (first | (go_at_call 14; refine (qlen_calls W w gq gw gd _ _ vw vd lw ld HH.out.o (by rw [HLN.out]; omega)).mono ?_; rintro e w1 ⟨rfl, hb⟩; rw [HLN.out]; have H1 := Aside0.mk (HH.out.below hb); have HS1 := Aside0.mk (QStep.of_below hb gq gw gd vw vd); have f3 : w1.cell? ⟨gq, 3, none⟩ = some (.int .i64 q.put) := (blk_cell H1.out.o.blk 3).trans rfl; have z3 := blk_frozen H1.out.o.blk 3; clear hb) | ((with_reducible refine gate_store (t := 3) (p := 27) rfl ?_); refine store_event (t := 3) (p := 27) (v := ?vo1) (w1 := (w1.setCell ⟨gq, 3, none⟩ (.int .i64 (q.put + 1)))) ?hg1 ?ho1 ?hn1 ?hr1 ?_; (case ho1 => rfl); (case hg1 => rfl); (case hn1 => rfl); (case hr1 => first | (go_simp; done) | (go_simp; rfl)); intro w2 hw; have H2 := Aside0.mk (H1.out.o.setput (q.put + 1)); have HS2 := Aside0.mk (HS1.out.trans (QStep.of_q (w := w1) (gq := gq) (gw := gw) (gd := gd) (vw := vw) (vd := vd) 3 (.int .i64 (q.put + 1)))); rw [← hw] at H2 HS2; clear hw f3 z3))
    obtain ⟨pp, hpp⟩ : ∃ pp, pp = q.put + 1 := ⟨_, rfl⟩
    rw [← hpp] at H2 ⊢
    have HPP := Aside0.mk hpp
    clear hpp hw hw'
    have hbk := H2.out.drew.blk
    refine start_ (n := 15) (S := fun w' => w'.heap[gq]? = some (.cells #[.pointer (some ⟨gw, 0, none⟩), .pointer (some ⟨gd, 0, none⟩), .int .i64 q.now, .int .i64 pp] 56 (0, 0))) (ds := []) #[false, false, false, false, false, false, false, false, false, false, false, false, false, false, false] (by kernel_rfl) rfl rfl hbk (fun hHeld => ?_)
    refine with_tabW rg10_6_tab rg10_6_bits (fun HT_ HW_ => ?_)
    obtain ⟨W1, hW1⟩ : ∃ W1, W1 = w2.drew := ⟨_, rfl⟩
    have HB4 := Aside0.mk (show Below w2.heap.size w2 W1 from by rw [hW1]; exact below_drew (Below.refl _ _))
    have H4 := Aside0.mk (H2.out.below HB4.out)
    have HS4 := Aside0.mk (HS2.out.trans (QStep.of_below HB4.out _ _ _ _ _))
    rw [← hW1] at hHeld ⊢
    clear hbk hW1
    refine pure_ (i := 0) (N := some 28) (v := ?_) (a' := ?_) #[true, false, false, false, false, false, false, false, false, false, false, false, false, false, false] rfl rfl (any_of HT_.out (by kernel_rfl)) (fun _ _ _ h => h) (Or.inl ⟨by rfl, ?_⟩) ?_ ?_
    rotate_left
    ·intro w'
     go_simp
     with_reducible rfl
    rotate_left
    ·simp only [Act.put, List.setIfInBounds_toArray, List.set_cons_zero, List.set_cons_succ, i64_w, i32_w]
     rfl
    refine pure_ (i := 1) (N := some 29) (v := ?_) (a' := ?_) #[true, true, false, false, false, false, false, false, false, false, false, false, false, false, false] rfl rfl (any_of HT_.out (by kernel_rfl)) (fun _ _ _ h => h) (Or.inl ⟨by rfl, ?_⟩) ?_ ?_
    rotate_left
    ·intro w'
     go_simp
     with_reducible rfl
    rotate_left
    ·simp only [Act.put, List.setIfInBounds_toArray, List.set_cons_zero, List.set_cons_succ, i64_w, i32_w]
     rfl
    refine pure_ (i := 2) (N := some 30) (v := ?_) (a' := ?_) #[true, true, true, false, false, false, false, false, false, false, false, false, false, false, false] rfl rfl (any_of HT_.out (by kernel_rfl)) (fun _ _ _ h => h) (Or.inl ⟨by rfl, ?_⟩) ?_ ?_
    rotate_left
    ·intro w'
     go_simp
     with_reducible rfl
    rotate_left
    ·simp only [Act.put, List.setIfInBounds_toArray, List.set_cons_zero, List.set_cons_succ, i64_w, i32_w]
     rfl
    refine take_ (i := 3) (N := some 31) (v := ?_) (a' := ?_) #[true, true, true, true, false, false, false, false, false, false, false, false, false, false, false] rfl rfl (take_ofW HT_.out HW_.out (by kernel_rfl)) (fun _ _ _ h => h) (Or.inl ⟨by rfl, ?_⟩) hHeld ?_ ?_
    rotate_left
    ·rintro w' s0
     have y0 : w'.cell? ⟨gq, 0, none⟩ = some (.pointer (some ⟨gw, 0, none⟩)) := (blk_cell s0 0).trans rfl
     go_simp
     with_reducible rfl
    rotate_left
    ·simp only [Act.put, List.setIfInBounds_toArray, List.set_cons_zero, List.set_cons_succ, i64_w, i32_w]
     rfl
    refine pure_ (i := 4) (N := some 32) (v := ?_) (a' := ?_) #[true, true, true, true, true, false, false, false, false, false, false, false, false, false, false] rfl rfl (any_of HT_.out (by kernel_rfl)) (fun _ _ _ h => h) (Or.inl ⟨by rfl, ?_⟩) ?_ ?_
    rotate_left
    ·intro w'
     go_simp
     with_reducible rfl
    rotate_left
    ·simp only [Act.put, List.setIfInBounds_toArray, List.set_cons_zero, List.set_cons_succ, i64_w, i32_w]
     rfl
    refine pure_ (i := 5) (N := some 33) (v := ?_) (a' := ?_) #[true, true, true, true, true, true, false, false, false, false, false, false, false, false, false] rfl rfl (any_of HT_.out (by kernel_rfl)) (fun _ _ _ h => h) (Or.inl ⟨by rfl, ?_⟩) ?_ ?_
    rotate_left
    ·intro w'
     go_simp
     with_reducible rfl
    rotate_left
    ·simp only [Act.put, List.setIfInBounds_toArray, List.set_cons_zero, List.set_cons_succ, i64_w, i32_w]
     rfl
    refine pure_ (i := 6) (N := some 34) (v := ?_) (a' := ?_) #[true, true, true, true, true, true, true, false, false, false, false, false, false, false, false] rfl rfl (any_of HT_.out (by kernel_rfl)) (fun _ _ _ h => h) (Or.inl ⟨by rfl, ?_⟩) ?_ ?_
    rotate_left
    ·intro w'
     go_simp
     with_reducible rfl
    rotate_left
    ·simp only [Act.put, List.setIfInBounds_toArray, List.set_cons_zero, List.set_cons_succ, i64_w, i32_w]
     rfl
    refine pure_ (i := 7) (N := some 35) (v := ?_) (a' := ?_) #[true, true, true, true, true, true, true, true, false, false, false, false, false, false, false] rfl rfl (any_of HT_.out (by kernel_rfl)) (fun _ _ _ h => h) (Or.inl ⟨by rfl, ?_⟩) ?_ ?_
    rotate_left
    ·intro w'
     go_simp
     with_reducible rfl
    rotate_left
    ·simp only [Act.put, List.setIfInBounds_toArray, List.set_cons_zero, List.set_cons_succ, i64_w, i32_w]
     rfl
    refine pure_ (i := 8) (N := some 36) (v := ?_) (a' := ?_) #[true, true, true, true, true, true, true, true, true, false, false, false, false, false, false] rfl rfl (any_of HT_.out (by kernel_rfl)) (fun _ _ _ h => h) (Or.inl ⟨by rfl, ?_⟩) ?_ ?_
    rotate_left
    ·intro w'
     go_simp
     with_reducible rfl
    rotate_left
    ·simp only [Act.put, List.setIfInBounds_toArray, List.set_cons_zero, List.set_cons_succ, i64_w, i32_w]
     rfl
    refine pure_ (i := 9) (N := some 37) (v := ?_) (a' := ?_) #[true, true, true, true, true, true, true, true, true, true, false, false, false, false, false] rfl rfl (any_of HT_.out (by kernel_rfl)) (fun _ _ _ h => h) (Or.inl ⟨by rfl, ?_⟩) ?_ ?_
    rotate_left
    ·intro w'
     go_simp
     with_reducible rfl
    rotate_left
    ·simp only [Act.put, List.setIfInBounds_toArray, List.set_cons_zero, List.set_cons_succ, i64_w, i32_w]
     rfl
    refine pure_ (i := 10) (N := some 38) (v := ?_) (a' := ?_) #[true, true, true, true, true, true, true, true, true, true, true, false, false, false, false] rfl rfl (any_of HT_.out (by kernel_rfl)) (fun _ _ _ h => h) (Or.inl ⟨by rfl, ?_⟩) ?_ ?_
    rotate_left
    ·intro w'
     go_simp
     with_reducible rfl
    rotate_left
    ·simp only [Act.put, List.setIfInBounds_toArray, List.set_cons_zero, List.set_cons_succ, i64_w, i32_w]
     rfl
    refine take_ (i := 11) (N := some 39) (v := ?_) (a' := ?_) #[true, true, true, true, true, true, true, true, true, true, true, true, false, false, false] rfl rfl (take_ofW HT_.out HW_.out (by kernel_rfl)) (fun _ _ _ h => h) (Or.inl ⟨by rfl, ?_⟩) hHeld ?_ ?_
    rotate_left
    ·rintro w' s0
     have y0 : w'.cell? ⟨gq, 3, none⟩ = some (.int .i64 pp) := (blk_cell s0 3).trans rfl
     go_simp
     with_reducible rfl
    rotate_left
    ·simp only [Act.put, List.setIfInBounds_toArray, List.set_cons_zero, List.set_cons_succ, i64_w, i32_w]
     rfl
    refine pure_ (i := 12) (N := some 40) (v := ?_) (a' := ?_) #[true, true, true, true, true, true, true, true, true, true, true, true, true, false, false] rfl rfl (any_of HT_.out (by kernel_rfl)) (fun _ _ _ h => h) (Or.inl ⟨by rfl, ?_⟩) ?_ ?_
    rotate_left
    ·intro w'
     go_simp
     with_reducible rfl
    rotate_left
    ·simp only [Act.put, List.setIfInBounds_toArray, List.set_cons_zero, List.set_cons_succ, i64_w, i32_w]
     rfl
    refine pure_ (i := 13) (N := some 41) (v := ?_) (a' := ?_) #[true, true, true, true, true, true, true, true, true, true, true, true, true, true, false] rfl rfl (any_of HT_.out (by kernel_rfl)) (fun _ _ _ h => h) (Or.inl ⟨by rfl, ?_⟩) ?_ ?_
    rotate_left
    ·intro w'
     go_simp
     with_reducible rfl
    rotate_left
    ·simp only [Act.put, List.setIfInBounds_toArray, List.set_cons_zero, List.set_cons_succ, i64_w, i32_w]
     rfl
    refine one_ (i := 14) (N := some 42) #[true, true, true, true, true, true, true, true, true, true, true, true, true, true, true] rfl rfl (one_of HT_.out (by kernel_rfl)) (by decide) (fun K hK => ?_)
    (refine goes_ Try.func25 (by kernel_rfl) rfl #[.iface 50 (.pointer (some ⟨gw, 0, none⟩)), .iface 61 (.agg #[.int .i64 a, .int .i64 u, .int .i64 i, .int .i64 pp])] (by rfl) rfl rfl (by (try simp only [List.map_toArray, List.map_cons, List.map_nil]); first | done | rfl) ?_; refine (heapPush_calls W W1 gw 23 (.inl rfl) vw lw H4.out.wt ⟨a, u, i, pp⟩ (by have := HLN.out; omega)).mono ?_; rintro e w5 ⟨rfl, vw5, lw5, hp, hs, hperm⟩; refine ⟨_, rfl, ?_⟩; have H5 := Aside0.mk (H4.out.turn_w hp hs); have HS5 := Aside0.mk (HS4.out.trans (QStep.of_w hs)); have HPM5 := Aside0.mk hperm; clear hp hs hperm)
    refine hK.out _ _ H5.out.blk (fun hHeld => ?_)
    clear hK K
    try simp only [Act.put, List.setIfInBounds_toArray, List.set_cons_zero, List.set_cons_succ, i64_w, i32_w]
    refine done_ (done_of HT_.out (by kernel_rfl)) ?_
    clear hHeld
    have HLN5 : Aside0 (lw5.length + ld.length < 100000) := ⟨by have h1 := HPM5.out.length_eq; rw [List.length_cons] at h1; have := HLN.out; omega⟩
    go_wp2_with (go_at_call 26; refine (ripen_calls W w5 gq gw gd q.now pp vw5 vd lw5 ld H5.out HLN5.out).mono ?_; rintro e w6 ⟨rfl, vw6, vd6, lw6, ld6, hq, hs, hr, hw⟩; have H6 := Aside0.mk hq; have HS6 := Aside0.mk (HS5.out.trans hs); have HR6 := Aside0.mk hr; have HW6 := Aside0.mk hw; have f3 : w6.cell? ⟨gq, 3, none⟩ = some (.int .i64 pp) := (blk_cell hq.blk 3).trans rfl; clear hq hs hr hw)
    obtain rfl := HPP.out
    refine bodyPost_ret (v := .tuple #[.int .i64 (q.put + 1), .int .i64 0]) (by simp [results, Try.results10, go_sem]) rfl ⟨rfl, vw6, vd6, lw6, ld6, ⟨H6.out, Rel.of_ripe (lw := lw5) (ld := ld) ?_ HH.out.r.due HR6.out.perm HR6.out.due HW6.out⟩, HS6.out⟩
    refine (HPM5.out.append_right ld).trans ?_
    refine (List.Perm.cons _ HH.out.r.perm).trans ?_
    exact (List.perm_append_singleton _ _).symm
end Go.Proofs.Ytacceeefcelkhaa.Al

namespace Go.Proofs.Ytacceeefcelkhaa.Al
open Go.RowKit Go.Proofs.Ytacceeefcelkhaa.DueHeap Go.Proofs.Ytacceeefcelkhaa.DueSpec Go.Proofs.YtacceeefcelkhaaW.PrintWords Go.Proofs.YtacceeefcelkhaaW.PrintLast Go.Proofs.YtacceeefcelkhaaW.PrintMore
set_option linter.unusedVariables false
set_option linter.unusedSimpArgs false
theorem fd61 (x : Tk) (w : World) : Sem.run Try.prog (Instr.field 61 (a4 x) 2) w = .ok (.int .i64 x.id) w := by kernel_rfl
theorem leU_of24 {a b : Tk} (h : LE 24 a b) : leU a b := h
set_option maxHeartbeats 8000000 in
set_option maxRecDepth 100000 in
theorem qtake_calls (W w : World) (gq gw gd : Nat) (q : Qs) (vw vd : Value) (lw ld : List Tk) (h : QX W w gq gw gd q vw vd lw ld) (k : Nat) (ho : DueSpec.Ok k q) : Calls Try.prog 13 #[.pointer (some ⟨gq, 0, none⟩)] w fun e w' => e = .returned (.tuple #[.int .i64 (takeQ q).2.1, .bool (takeQ q).2.2]) ∧ ∃ vw' vd' lw' ld', QX W w' gq gw gd (takeQ q).1 vw' vd' lw' ld' ∧ QStep w w' gq gw gd vw vd vw' vd' := by
 have hu61 := Try.underlying61
 have hta := as61
 have hfd := fd61
 have f1 : w.cell? ⟨gq, 1, none⟩ = some (.pointer (some ⟨gd, 0, none⟩)) := (blk_cell h.o.blk 1).trans rfl
 have HH := Aside0.mk h
 have HO := Aside0.mk ho
 obtain ⟨n, hn⟩ : ∃ n, n = ld.length := ⟨_, rfl⟩
 have HN := Aside0.mk hn
 have hnl : n ≤ 1024 := by have := h.r.len; have := ho.len; omega
 clear h ho
 by_cases h0 : n = 0
 ·have HZ := Aside0.mk h0
  have e1 : ((n : Int) == 0) = true := by rw [h0]; rfl
  have HR : Aside0 (takeQ q = (q, 0, false)) := ⟨by obtain rfl : ld = [] := List.eq_nil_of_length_eq_zero (by omega); exact HH.out.r.take_none⟩
  rw [HR.out]
  clear h0 hn
  go_enter Try.func13, Try.ntmps13
  go_wp2_with (go_at_call 27; refine (len_cast HH.out.o.du.ht HN.out.symm).mono ?_; rintro e w1 ⟨rfl, hb⟩; have H1 := Aside0.mk (HH.out.below hb); have HS1 := Aside0.mk (QStep.of_below hb gq gw gd vw vd); clear hb)
  exact bodyPost_ret (v := .tuple #[.int .i64 0, .bool false]) (by simp [results, Try.results13, go_sem]) rfl ⟨rfl, vw, vd, lw, ld, H1.out, HS1.out⟩
 ·have e1 : ((n : Int) == 0) = false := by rw [beq_eq_false_iff_ne]; omega
  have HP0 : Aside0 (0 < ld.length) := ⟨by omega⟩
  obtain ⟨x, hx⟩ : ∃ x, x = ld.getD 0 t0 := ⟨_, rfl⟩
  have HX := Aside0.mk hx
  have hxm : x ∈ ld := by rw [hx, List.getD_eq_getElem?_getD, List.getElem?_eq_getElem HP0.out]; exact List.getElem_mem _
  have HXM := Aside0.mk hxm
  have HLE : Aside0 (∀ y ∈ ld, leU x y) := ⟨fun y hy => by rw [hx]; exact leU_of24 (HH.out.o.du.heap.least (LE_rf 24) (LE_tr 24) hy)⟩
  have HR : Aside0 (takeQ q = (⟨q.L.erase x, q.now, q.put⟩, x.id, true)) := ⟨takeQ_of HO.out (HH.out.r.perm.mem_iff.1 (List.mem_append_right _ hxm)) (HH.out.r.due x hxm) (fun y hy hd => by
   rcases List.mem_append.1 (HH.out.r.perm.mem_iff.2 hy) with hy | hy
   ·have := HH.out.r.wait y hy; omega
   ·exact HLE.out y hy)⟩
  rw [HR.out]
  clear h0 hn hx hxm
  go_enter Try.func13, Try.ntmps13
  go_wp2_with (first | (go_at_call 27; refine (len_cast HH.out.o.du.ht HN.out.symm).mono ?_; rintro e w1 ⟨rfl, hb⟩; have H1 := Aside0.mk (HH.out.below hb); have HS1 := Aside0.mk (QStep.of_below hb gq gw gd vw vd); have y1 : w1.cell? ⟨gq, 1, none⟩ = some (.pointer (some ⟨gd, 0, none⟩)) := (blk_cell H1.out.o.blk 1).trans rfl; clear hb f1) | (go_at_call 28; refine (heapPop_calls W w1 gd 24 (.inr rfl) vd ld H1.out.o.du HP0.out (by have := HN.out; omega)).mono ?_; rintro e w2 ⟨rfl, vd2, ld2, hp, hs, hperm⟩; rw [← HX.out]; rw [← HX.out] at hperm; have H2 := Aside0.mk (H1.out.o.turn_d hp hs); have HS2 := Aside0.mk (HS1.out.trans (QStep.of_d hs)); have HPM2 := Aside0.mk hperm; clear hp hs hperm))
  have HF := HH.out.r.take HO.out HXM.out HLE.out HPM2.out
  exact bodyPost_ret (v := .tuple #[.int .i64 x.id, .bool true]) (by simp [results, Try.results13, go_sem]) rfl ⟨rfl, vw, vd2, lw, ld2, ⟨H2.out, HF.2⟩, HS2.out⟩
set_option maxHeartbeats 8000000 in
set_option maxRecDepth 100000 in
theorem tdrop_calls (W w : World) (g fn : Nat) (hfn : fn = 23 ∨ fn = 24) (v : Value) (l : List Tk) (h : HP W w g fn v l) (hlen : l.length ≤ 100000) (no : Int) : Calls Try.prog 29 #[.pointer (some ⟨g, 0, none⟩), .int .i64 no] w fun e w' => (e = .returned (.bool false) ∧ Below w.heap.size w w' ∧ ∀ y ∈ l, y.no ≠ no) ∨ (e = .returned (.bool true) ∧ ∃ v' l' x, x ∈ l ∧ x.no = no ∧ HP W w' g fn v' l' ∧ Step w w' g v v' ∧ (x :: l').Perm l) := by
 have hu61 := Try.underlying61
 have HH := Aside0.mk h
 obtain ⟨A, c, hv⟩ := Kd.R_slice h.ht.row
 subst hv
 obtain ⟨n, hn⟩ : ∃ n, n = l.length := ⟨_, rfl⟩
 rw [← hn] at h hlen HH ⊢
 have HN := Aside0.mk hn
 have f0 : w.cell? ⟨g, 0, none⟩ = some (.slice A n c) := (blk_cell h.ht.blk 0).trans rfl
 clear h hn
 go_enter Try.func29, Try.ntmps29
 go_wp2
 go_loopw [12] (fun v12 wr => ∃ i : Nat, v12 = .int .i64 i ∧ i ≤ n ∧ Aside0 (Below w.heap.size w wr) ∧ Aside0 (∀ j, j < i → (l.getD j t0).no ≠ no)) (fun v12 _ => n - (intOf v12).toNat)
 case atStart => exact ⟨0, rfl, Nat.zero_le _, ⟨Below.refl _ _⟩, ⟨fun j hj => absurd hj (Nat.not_lt_zero _)⟩⟩
 case round =>
  clear f0
  obtain ⟨i, rfl, hi, HB, HNO⟩ := hrel
  have HHr := Aside0.mk (HH.out.below HB.out)
  by_cases hlt : i < n
  ·obtain ⟨ga, c', hv⟩ := ht_form HHr.out.ht (by rw [← HN.out]; omega)
   rw [← HN.out] at hv
   injection hv with hv _ hc
   subst hv hc
   obtain ⟨c0, c1, c2, c3, _⟩ := T4_cell HHr.out.ht.row i hlt
   obtain ⟨x, hx⟩ : ∃ x, x = l.getD i t0 := ⟨_, rfl⟩
   rw [← hx] at c0 c1 c2 c3
   have HX := Aside0.mk hx
   have HI := Aside0.mk hlt
   have b1 : decide ((i : Int) < (n : Int)) = true := decide_eq_true (by omega)
   have b2 : decide (i < n) = true := decide_eq_true hlt
   have hmem : x ∈ l := by rw [hx, List.getD_eq_getElem?_getD, List.getElem?_eq_getElem (by rw [← HN.out]; exact hlt)]; exact List.getElem_mem _
   have HMEM := Aside0.mk hmem
   clear hx hmem
   go_upto_region 4 with ((with_reducible refine gate_dst (N := 6) rfl ?_); refine box_event ?hg (N := 6) ?hd (cs := #[.int .i64 0, .int .i64 0, .int .i64 0, .int .i64 0]) (t := 61) ?hr ?_; (case hd => rfl); (case hg => rfl); (case hr => first | (go_simp; done) | (go_simp; rfl)); intro gb hgb wb hbox hb; have BX := Aside0.mk hbox; have HGE := Aside0.mk (show wr.heap.size ≤ gb from Nat.le_of_eq hgb.symm); have HBb := Aside0.mk hb; have hz0 := (blk_cell hbox 0).trans rfl; have hzf0 := blk_frozen hbox 0; have hz1 := (blk_cell hbox 1).trans rfl; have hzf1 := blk_frozen hbox 1; have hz2 := (blk_cell hbox 2).trans rfl; have hzf2 := blk_frozen hbox 2; have hz3 := (blk_cell hbox 3).trans rfl; have hzf3 := blk_frozen hbox 3; clear hgb hbox hb)
   have HB3 : Aside0 (Below wr.heap.size wr ((((wb.setCell ⟨gb, 0, none⟩ (.int .i64 x.at_)).setCell ⟨gb, 1, none⟩ (.int .i64 x.urg)).setCell ⟨gb, 2, none⟩ (.int .i64 x.id)).setCell ⟨gb, 3, none⟩ (.int .i64 x.no))) := ⟨below_set (below_set (below_set (below_set HBb.out HGE.out) HGE.out) HGE.out) HGE.out⟩
   have BX3 : Aside0 ((((((wb.setCell ⟨gb, 0, none⟩ (.int .i64 x.at_)).setCell ⟨gb, 1, none⟩ (.int .i64 x.urg)).setCell ⟨gb, 2, none⟩ (.int .i64 x.id)).setCell ⟨gb, 3, none⟩ (.int .i64 x.no)) : World).heap[gb]? = some (.cells #[.int .i64 x.at_, .int .i64 x.urg, .int .i64 x.id, .int .i64 x.no] 61 (0, 0))) := ⟨by
    have := blk_set (blk_set (blk_set (blk_set BX.out 0 (.int .i64 x.at_)) 1 (.int .i64 x.urg)) 2 (.int .i64 x.id)) 3 (.int .i64 x.no)
    simpa using this⟩
   clear hz0 hzf0 hz1 hzf1 hz2 hzf2 hz3 hzf3 c0 c1 c2 c3
   generalize ((((wb.setCell ⟨gb, 0, none⟩ (.int .i64 x.at_)).setCell ⟨gb, 1, none⟩ (.int .i64 x.urg)).setCell ⟨gb, 2, none⟩ (.int .i64 x.id)).setCell ⟨gb, 3, none⟩ (.int .i64 x.no)) = W3 at HB3 BX3 ⊢
   have HH3 := Aside0.mk (HHr.out.below HB3.out)
   have y3 : W3.cell? ⟨gb, 3, none⟩ = some (.int .i64 x.no) := (blk_cell BX3.out 3).trans rfl
   by_cases hq : x.no = no
   ·have e1 : (x.no == no) = true := beq_iff_eq.2 hq
    have HQ := Aside0.mk hq
    clear hq
    go_wp2_with (go_at_call 34; refine (heapRemove_calls W W3 g fn hfn _ l HH3.out i (by rw [← HN.out]; exact HI.out) (by rw [← HN.out]; exact hlen)).mono ?_; rintro e w4 ⟨rfl, v4, l4, hp, hs, hperm⟩; rw [← HX.out] at hperm; have H4 := Aside0.mk hp; have HS4 := Aside0.mk ((Step.of_below (below_step HB.out HB3.out) g _).trans hs); have HPM := Aside0.mk hperm; clear hp hs hperm)
    go_ret
    exact .inr ⟨rfl, v4, l4, x, HMEM.out, HQ.out, H4.out, HS4.out, HPM.out⟩
   ·have e1 : (x.no == no) = false := beq_eq_false_iff_ne.2 hq
    have HQ := Aside0.mk hq
    clear hq
    go_wp2
    go_roundw
    case rel =>
     refine ⟨i + 1, by go_num, HI.out, ⟨below_step HB.out HB3.out⟩, ⟨fun j hj => ?_⟩⟩
     by_cases e : j = i
     ·rw [e, ← HX.out]; exact HQ.out
     ·exact HNO.out j (by omega)
    case measure => have := HI.out; simp [intOf]; omega
  ·obtain rfl : i = n := by omega
   have b1 : decide ((i : Int) < (i : Int)) = false := decide_eq_false (by omega)
   go_wp2
   go_ret
   refine .inl ⟨rfl, HB.out, fun y hy => ?_⟩
   obtain ⟨j, hj, rfl⟩ := List.getElem_of_mem hy
   have := HNO.out j (by rw [HN.out]; exact hj)
   rw [List.getD_eq_getElem?_getD, List.getElem?_eq_getElem hj] at this
   exact this
set_option maxHeartbeats 8000000 in
set_option maxRecDepth 100000 in
theorem qdrop_calls (W w : World) (gq gw gd : Nat) (q : Qs) (vw vd : Value) (lw ld : List Tk) (h : QX W w gq gw gd q vw vd lw ld) (k : Nat) (ho : DueSpec.Ok k q) (no : Int) : Calls Try.prog 15 #[.pointer (some ⟨gq, 0, none⟩), .int .i64 no] w fun e w' => e = .returned (.int .i64 (dropQ q no).2) ∧ ∃ vw' vd' lw' ld', QX W w' gq gw gd (dropQ q no).1 vw' vd' lw' ld' ∧ QStep w w' gq gw gd vw vd vw' vd' := by
 have f0 : w.cell? ⟨gq, 0, none⟩ = some (.pointer (some ⟨gw, 0, none⟩)) := (blk_cell h.o.blk 0).trans rfl
 have HH := Aside0.mk h
 have HO := Aside0.mk ho
 have HLN : Aside0 (lw.length + ld.length ≤ 1024) := ⟨by rw [h.r.len]; exact ho.len⟩
 clear h ho
 go_enter Try.func15, Try.ntmps15
 go_wp2_with (first | (go_at_call 29; (with_reducible refine (tdrop_calls W w gw 23 (.inl rfl) vw lw HH.out.o.wt (by have := HLN.out; omega) no).mono ?_); rintro e w1 (⟨rfl, hb, hno⟩ | ⟨rfl, vw1, lw1, x, hx, hxn, hp, hs, hperm⟩); (have H1 := Aside0.mk (HH.out.below hb); have HS1 := Aside0.mk (QStep.of_below hb gq gw gd vw vd); have HNO1 := Aside0.mk hno; have y1 : w1.cell? ⟨gq, 1, none⟩ = some (.pointer (some ⟨gd, 0, none⟩)) := (blk_cell H1.out.o.blk 1).trans rfl; clear hb hno f0); rotate_left; (have H1 := Aside0.mk (HH.out.o.turn_w hp hs); have HS1 := Aside0.mk (QStep.of_w (gq := gq) (gd := gd) (vd := vd) hs); have HF1 := Aside0.mk (HH.out.r.drop_w HO.out hx hperm); rw [hxn] at HF1; clear hp hs hperm hx hxn f0); rotate_left) | (go_at_call 29; (with_reducible refine (tdrop_calls W w1 gd 24 (.inr rfl) vd ld H1.out.o.du (by have := HLN.out; omega) no).mono ?_); rintro e w2 (⟨rfl, hb, hno⟩ | ⟨rfl, vd2, ld2, x, hx, hxn, hp, hs, hperm⟩); (have H2 := Aside0.mk (H1.out.below hb); have HS2 := Aside0.mk (HS1.out.trans (QStep.of_below hb _ _ _ _ _)); have HF2 := Aside0.mk (HH.out.r.drop_none HNO1.out hno); clear hb hno); rotate_left; (have H2 := Aside0.mk (H1.out.o.turn_d hp hs); have HS2 := Aside0.mk (HS1.out.trans (QStep.of_d hs)); have HF2 := Aside0.mk (H1.out.r.drop_d HO.out hx hperm); rw [hxn] at HF2; clear hp hs hperm hx hxn); rotate_left))
 ·go_ret
  rw [HF2.out]
  exact ⟨rfl, vw, vd, lw, ld, H2.out, HS2.out⟩
 ·go_ret
  rw [HF2.out.1]
  exact ⟨rfl, vw, vd2, lw, ld2, ⟨H2.out, HF2.out.2⟩, HS2.out⟩
 ·go_ret
  rw [HF1.out.1]
  exact ⟨rfl, vw1, vd, lw1, ld, ⟨H1.out, HF1.out.2⟩, HS1.out⟩
def mnp (l : List Tk) (i : Nat) : Int := (l.take i).foldl (fun m y => min m y.at_) (l.getD 0 t0).at_
theorem mnp_succ {l : List Tk} {i : Nat} (h : i < l.length) : mnp l (i + 1) = min (mnp l i) (l.getD i t0).at_ := by
 unfold mnp
 rw [List.take_succ_eq_append_getElem h, List.foldl_append, List.getD_eq_getElem?_getD (i := i), List.getElem?_eq_getElem h]
 rfl
theorem next_due {k : Nat} {lw ld : List Tk} {q : Qs} (h : Rel lw ld q) (hp : 0 < ld.length) : nextQ q = (mnp ld ld.length, true) := by
 unfold nextQ mnp
 rw [List.take_length]
 have h0 : ld.getD 0 t0 ∈ ld := by rw [List.getD_eq_getElem?_getD, List.getElem?_eq_getElem hp]; exact List.getElem_mem _
 obtain ⟨⟨g1, g2⟩, g3⟩ := min_fold ld (ld.getD 0 t0).at_
 refine minAt_of ?_ (fun y hy => ?_)
 ·rcases g3 with e | ⟨y, hy, e⟩
  ·exact ⟨_, h.perm.mem_iff.1 (List.mem_append_right _ h0), e.symm⟩
  ·exact ⟨y, h.perm.mem_iff.1 (List.mem_append_right _ hy), e.symm⟩
 ·rcases List.mem_append.1 (h.perm.mem_iff.2 hy) with hy | hy
  ·have := h.wait y hy
   have := h.due _ h0
   omega
  ·exact g2 y hy
theorem next_wait {lw : List Tk} {q : Qs} (h : Rel lw [] q) (hh : Heap (LE 23) t0 lw.length lw) (hp : 0 < lw.length) : nextQ q = ((lw.getD 0 t0).at_, true) := by
 have h0 : lw.getD 0 t0 ∈ lw := by rw [List.getD_eq_getElem?_getD, List.getElem?_eq_getElem hp]; exact List.getElem_mem _
 refine minAt_of ⟨_, h.perm.mem_iff.1 (List.mem_append_left _ h0), rfl⟩ (fun y hy => ?_)
 rcases List.mem_append.1 (h.perm.mem_iff.2 hy) with hy | hy
 ·have h1 : earlyT y (lw.getD 0 t0) = false := hh.least (LE_rf 23) (LE_tr 23) hy
  rw [early_not] at h1
  omega
 ·cases hy
set_option maxHeartbeats 8000000 in
set_option maxRecDepth 100000 in
theorem qnext_calls (W w : World) (gq gw gd : Nat) (q : Qs) (vw vd : Value) (lw ld : List Tk) (h : QX W w gq gw gd q vw vd lw ld) (k : Nat) (ho : DueSpec.Ok k q) : Calls Try.prog 21 #[.pointer (some ⟨gq, 0, none⟩)] w fun e w' => e = .returned (.tuple #[.int .i64 (nextQ q).1, .bool (nextQ q).2]) ∧ Below w.heap.size w w' := by
 have hu61 := Try.underlying61
 have f0 : w.cell? ⟨gq, 0, none⟩ = some (.pointer (some ⟨gw, 0, none⟩)) := (blk_cell h.o.blk 0).trans rfl
 have f1 : w.cell? ⟨gq, 1, none⟩ = some (.pointer (some ⟨gd, 0, none⟩)) := (blk_cell h.o.blk 1).trans rfl
 have HH := Aside0.mk h
 obtain ⟨n, hn⟩ : ∃ n, n = ld.length := ⟨_, rfl⟩
 obtain ⟨m, hm⟩ : ∃ m, m = lw.length := ⟨_, rfl⟩
 have HN := Aside0.mk hn
 have HM := Aside0.mk hm
 have hnl : n ≤ 1024 := by have := h.r.len; have := ho.len; omega
 have hml : m ≤ 1024 := by have := h.r.len; have := ho.len; omega
 clear ho
 by_cases h0 : 0 < n
 ·have d0 : decide (0 < (n : Int)) = true := decide_eq_true (by omega)
  have d3 : (0 < n) = True := eq_true h0
  obtain ⟨ga, c, hv, hc⟩ := first_cell h.o.du.ht (by omega)
  rw [← hn] at hv
  subst hv
  have HP0 := Aside0.mk h0
  have HR : Aside0 (nextQ q = (mnp ld n, true)) := ⟨by rw [hn]; exact next_due (k := 0) HH.out.r (by omega)⟩
  rw [HR.out]
  clear h hn hm h0 hc f0
  go_enter Try.func21, Try.ntmps21
  go_wp2_with (go_at_call 27; refine (len_cast HH.out.o.du.ht HN.out.symm).mono ?_; rintro e w1 ⟨rfl, hb⟩; have H1 := Aside0.mk (HH.out.below hb); have HB1 := Aside0.mk hb; have y1 : w1.cell? ⟨gq, 1, none⟩ = some (.pointer (some ⟨gd, 0, none⟩)) := (blk_cell H1.out.o.blk 1).trans rfl; have z0 : w1.cell? ⟨gd, 0, none⟩ = some (.slice (some ⟨ga, 0, none⟩) n c) := (blk_cell H1.out.o.du.ht.blk 0).trans rfl; have z4 := (T4_cell H1.out.o.du.ht.row 0 HP0.out).1; rw [Nat.zero_mul] at z4; clear hb f1)
  go_loopw [2, 30] (fun v2 v30 wr => ∃ i : Nat, v30 = .int .i64 i ∧ i ≤ n ∧ v2 = .int .i64 (mnp ld i) ∧ Aside0 (Below w.heap.size w wr)) (fun _ v30 _ => n - (intOf v30).toNat)
  case atStart => exact ⟨0, rfl, Nat.zero_le _, rfl, HB1⟩
  case round =>
   clear y1 z0 z4
   obtain ⟨i, rfl, hi, rfl, HB⟩ := hrel
   have HHr := Aside0.mk (HH.out.below HB.out)
   by_cases hlt : i < n
   ·obtain ⟨c0, c1, c2, c3, _⟩ := T4_cell HHr.out.o.du.ht.row i hlt
    have HS := Aside0.mk (mnp_succ (l := ld) (i := i) (by rw [← HN.out]; exact hlt))
    obtain ⟨x, hx⟩ : ∃ x, x = ld.getD i t0 := ⟨_, rfl⟩
    rw [← hx] at c0 c1 c2 c3 HS
    have HI := Aside0.mk hlt
    have b1 : decide ((i : Int) < (n : Int)) = true := decide_eq_true (by omega)
    have b2 : decide (i < n) = true := decide_eq_true hlt
    obtain ⟨mm, hmm⟩ : ∃ mm, mm = mnp ld i := ⟨_, rfl⟩
    rw [← hmm] at HS ⊢
    have hm1 : (if x.at_ < mm then x.at_ else mm) = min mm x.at_ := by split <;> omega
    have hm2 : (if mm < x.at_ then mm else x.at_) = min mm x.at_ := by split <;> omega
    clear hx hmm
    go_upto_region 6 with ((with_reducible refine gate_dst (N := 5) rfl ?_); refine box_event ?hg (N := 5) ?hd (cs := #[.int .i64 0, .int .i64 0, .int .i64 0, .int .i64 0]) (t := 61) ?hr ?_; (case hd => rfl); (case hg => rfl); (case hr => first | (go_simp; done) | (go_simp; rfl)); intro gb hgb wb hbox hb; have BX := Aside0.mk hbox; have HGE := Aside0.mk (show wr.heap.size ≤ gb from Nat.le_of_eq hgb.symm); have HBb := Aside0.mk hb; have hz0 := (blk_cell hbox 0).trans rfl; have hzf0 := blk_frozen hbox 0; have hz1 := (blk_cell hbox 1).trans rfl; have hzf1 := blk_frozen hbox 1; have hz2 := (blk_cell hbox 2).trans rfl; have hzf2 := blk_frozen hbox 2; have hz3 := (blk_cell hbox 3).trans rfl; have hzf3 := blk_frozen hbox 3; clear hgb hbox hb)
    have HB3 : Aside0 (Below wr.heap.size wr ((((wb.setCell ⟨gb, 0, none⟩ (.int .i64 x.at_)).setCell ⟨gb, 1, none⟩ (.int .i64 x.urg)).setCell ⟨gb, 2, none⟩ (.int .i64 x.id)).setCell ⟨gb, 3, none⟩ (.int .i64 x.no))) := ⟨below_set (below_set (below_set (below_set HBb.out HGE.out) HGE.out) HGE.out) HGE.out⟩
    have BX3 : Aside0 ((((((wb.setCell ⟨gb, 0, none⟩ (.int .i64 x.at_)).setCell ⟨gb, 1, none⟩ (.int .i64 x.urg)).setCell ⟨gb, 2, none⟩ (.int .i64 x.id)).setCell ⟨gb, 3, none⟩ (.int .i64 x.no)) : World).heap[gb]? = some (.cells #[.int .i64 x.at_, .int .i64 x.urg, .int .i64 x.id, .int .i64 x.no] 61 (0, 0))) := ⟨by
     have := blk_set (blk_set (blk_set (blk_set BX.out 0 (.int .i64 x.at_)) 1 (.int .i64 x.urg)) 2 (.int .i64 x.id)) 3 (.int .i64 x.no)
     simpa using this⟩
    clear hz0 hzf0 hz1 hzf1 hz2 hzf2 hz3 hzf3 c0 c1 c2 c3
    generalize ((((wb.setCell ⟨gb, 0, none⟩ (.int .i64 x.at_)).setCell ⟨gb, 1, none⟩ (.int .i64 x.urg)).setCell ⟨gb, 2, none⟩ (.int .i64 x.id)).setCell ⟨gb, 3, none⟩ (.int .i64 x.no)) = W3 at HB3 BX3 ⊢
    have y0 : W3.cell? ⟨gb, 0, none⟩ = some (.int .i64 x.at_) := (blk_cell BX3.out 0).trans rfl
    go_wp2
    go_roundw
    case rel => exact ⟨i + 1, by go_num, HI.out, by rw [HS.out], ⟨below_step HB.out HB3.out⟩⟩
    case measure => have := HI.out; simp [intOf]; omega
   ·obtain rfl : i = n := by omega
    have b1 : decide ((i : Int) < (i : Int)) = false := decide_eq_false (by omega)
    go_wp2
    exact bodyPost_ret (v := .tuple #[.int .i64 (mnp ld i), .bool true]) (by simp [results, Try.results21, go_sem]) rfl ⟨rfl, HB.out⟩
 ·have d0 : decide (0 < (n : Int)) = false := decide_eq_false (by omega)
  have d0' : decide (0 < n) = false := decide_eq_false h0
  obtain rfl : ld = [] := List.eq_nil_of_length_eq_zero (by omega)
  by_cases h1 : 0 < m
  ·have d1 : decide (0 < (m : Int)) = true := decide_eq_true (by omega)
   have d1' : decide (0 < m) = true := decide_eq_true h1
   have d3 : (0 < m) = True := eq_true h1
   obtain ⟨ga, c, hv, hc⟩ := first_cell h.o.wt.ht (by omega)
   rw [← hm] at hv
   subst hv
   have HP1 := Aside0.mk h1
   have HR := Aside0.mk (next_wait h.r h.o.wt.heap (by omega))
   rw [HR.out]
   clear h hn hm h0 h1 hc
   obtain ⟨z, hz⟩ : ∃ z, z = (lw.getD 0 t0).at_ := ⟨_, rfl⟩
   rw [← hz]
   have HZ := Aside0.mk hz
   clear hz
   go_enter Try.func21, Try.ntmps21
   go_wp2_with (first | (go_at_call 27; (with_reducible refine (len_cast HH.out.o.du.ht HN.out.symm).mono ?_); rintro e w1 ⟨rfl, hb⟩; have H1 := Aside0.mk (HH.out.below hb); have HB1 := Aside0.mk hb; have y1 : w1.cell? ⟨gq, 0, none⟩ = some (.pointer (some ⟨gw, 0, none⟩)) := (blk_cell H1.out.o.blk 0).trans rfl; clear hb f0 f1) | (go_at_call 27; (with_reducible refine (len_cast H1.out.o.wt.ht HM.out.symm).mono ?_); rintro e w2 ⟨rfl, hb⟩; have H2 := Aside0.mk (H1.out.below hb); have HB2 := Aside0.mk (below_step HB1.out hb); have y1 : w2.cell? ⟨gq, 0, none⟩ = some (.pointer (some ⟨gw, 0, none⟩)) := (blk_cell H2.out.o.blk 0).trans rfl; have z0 : w2.cell? ⟨gw, 0, none⟩ = some (.slice (some ⟨ga, 0, none⟩) m c) := (blk_cell H2.out.o.wt.ht.blk 0).trans rfl; have z4 := (T4_cell H2.out.o.wt.ht.row 0 HP1.out).1; rw [Nat.zero_mul, ← HZ.out] at z4; clear hb))
   exact bodyPost_ret (v := .tuple #[.int .i64 z, .bool true]) (by simp [results, Try.results21, go_sem]) rfl ⟨rfl, HB2.out⟩
  ·have d1 : decide (0 < (m : Int)) = false := decide_eq_false (by omega)
   have d1' : decide (0 < m) = false := decide_eq_false h1
   obtain rfl : lw = [] := List.eq_nil_of_length_eq_zero (by omega)
   have HR : Aside0 (nextQ q = (0, false)) := ⟨by
    have : q.L = [] := List.Perm.nil_eq (by simpa using h.r.perm) |>.symm
    unfold nextQ; rw [this]; rfl⟩
   rw [HR.out]
   clear h hn hm h0 h1
   go_enter Try.func21, Try.ntmps21
   go_wp2_with (first | (go_at_call 27; (with_reducible refine (len_cast HH.out.o.du.ht HN.out.symm).mono ?_); rintro e w1 ⟨rfl, hb⟩; have H1 := Aside0.mk (HH.out.below hb); have HB1 := Aside0.mk hb; have y1 : w1.cell? ⟨gq, 0, none⟩ = some (.pointer (some ⟨gw, 0, none⟩)) := (blk_cell H1.out.o.blk 0).trans rfl; clear hb f0 f1) | (go_at_call 27; (with_reducible refine (len_cast H1.out.o.wt.ht HM.out.symm).mono ?_); rintro e w2 ⟨rfl, hb⟩; have HB2 := Aside0.mk (below_step HB1.out hb); clear hb))
   exact bodyPost_ret (v := .tuple #[.int .i64 0, .bool false]) (by simp [results, Try.results21, go_sem]) rfl ⟨rfl, HB2.out⟩
end Go.Proofs.Ytacceeefcelkhaa.Al

namespace Go.Proofs.Ytacceeefcelkhaa.Base
open Go.RowKit Go.Proofs.YtacceeefcelkhaaW.PrintWords
theorem wrap_id {n : Int} (h0 : -9223372036854775808 ≤ n) (h1 : n < 9223372036854775808) : wrap64 n = n := by
 unfold wrap64; omega
end Go.Proofs.Ytacceeefcelkhaa.Base

namespace Go.Proofs.Ytacceeefcelkhaa.Al
open Go.RowKit Go.Proofs.YtacceeefcelkhaaW.PrintWords Go.Proofs.YtacceeefcelkhaaW.PrintLast Go.Proofs.YtacceeefcelkhaaW.PrintMore
attribute [local go_sem] max2_int min2_int max_two min_two max_three min_three max_four min_four   -- for this text's walks alone
set_option linter.unusedVariables false
set_option linter.unusedSimpArgs false
def corncribbook_Among.f (a0 : Int) (a1 : Int) : Option (Int) := if a1 = 0 then (none) else (some (Int.tmod (wrap64 ((Int.tmod a0 a1) + a1)) a1))
set_option maxHeartbeats 8000000 in
set_option maxRecDepth 100000 in
theorem corncribbook_Among.calls (a0 : Int) (a1 : Int) (r : Int) (w : World) (h : corncribbook_Among.f a0 a1 = some r) :
  Calls Try.prog 9 #[.int .i64 a0, .int .i64 a1] w fun e w' => e = .returned (.int .i64 r) ∧ Drawn0 w w' := by
 have H : (if a1 = 0 then (none) else (some (Int.tmod (wrap64 ((Int.tmod a0 a1) + a1)) a1))) = some r := h
 clear h
 by_cases c3 : a1 = 0
 ·rw [if_pos c3] at H
  exact absurd H (by simp)
 ·rw [if_neg c3] at H
  have c3b0 : (a1 == 0) = false := beq_eq_false_iff_ne.mpr c3
  have c3b1 : (a1 != 0) = true := bne_iff_ne.mpr c3
  obtain rfl := Option.some.inj H
  go_enter Try.func9, Try.ntmps9
  go_wp2
  go_ret
  exact ⟨by first | rfl | (simp; done) | (simp [*]; done), by repeat (first | exact Drawn0.refl _ | apply Drawn0.step)⟩
-- NOT PRINTED: function 11 (due_Queue_Now)
-- NOT PRINTED: function 3 (corncriblaw14_DueAll)
-- NOT PRINTED: function 34 (heap_Remove)
-- NOT PRINTED: function 29 (due_tasks_drop)
-- NOT PRINTED: function 15 (due_Queue_Drop)
-- NOT PRINTED: function 4 (corncriblaw14_DueDrops)
-- NOT PRINTED: function 5 (corncriblaw14_DueFull)
end Go.Proofs.Ytacceeefcelkhaa.Al

namespace Go.Proofs.Ytacceeefcelkhaa.Amg
open Go.RowKit Go.Proofs.Ytacceeefcelkhaa.Base Go.Proofs.Ytacceeefcelkhaa.Al Go.Proofs.YtacceeefcelkhaaW.PrintWords
set_option linter.unusedVariables false
set_option linter.unusedSimpArgs false
theorem among_eq (a n : Int) (h0 : 0 < n) (hn : n ≤ 4611686018427387904) : corncribbook_Among.f a n = some (a % n) := by
 unfold corncribbook_Among.f
 rw [if_neg (by omega)]
 have h1 : -n < Int.tmod a n ∧ (Int.tmod a n) % n = a % n := by
  rcases Int.le_total 0 a with ha | ha
  ·rw [Int.tmod_eq_emod_of_nonneg ha]
   have := Int.emod_nonneg a (by omega : n ≠ 0)
   exact ⟨by omega, Int.emod_emod_of_dvd _ (Int.dvd_refl _)⟩
  ·obtain ⟨b, rfl⟩ : ∃ b, a = -b := ⟨-a, by omega⟩
   rw [Int.neg_tmod, Int.tmod_eq_emod_of_nonneg (by omega)]
   have := Int.emod_lt_of_pos b h0
   refine ⟨by omega, ?_⟩
   rw [Int.neg_emod_eq_sub_emod, Int.neg_emod_eq_sub_emod, Int.sub_emod_emod]
 have h2 : Int.tmod a n < n := Int.tmod_lt_of_pos a h0
 obtain ⟨h1, h3⟩ := h1
 rw [wrap_id (by omega) (by omega), Int.tmod_eq_emod_of_nonneg (by omega), Int.add_emod_right, h3]
end Go.Proofs.Ytacceeefcelkhaa.Amg

namespace Go.Proofs.Ytacceeefcelkhaa.Al
open Go.RowKit Go.Proofs.Ytacceeefcelkhaa.DueHeap Go.Proofs.Ytacceeefcelkhaa.DueSpec Go.Proofs.YtacceeefcelkhaaW.PrintWords Go.Proofs.YtacceeefcelkhaaW.PrintLast Go.Proofs.YtacceeefcelkhaaW.PrintMore
set_option linter.unusedVariables false
set_option linter.unusedSimpArgs false
theorem amongq_calls (a n : Int) (h0 : 0 < n) (hn : n ≤ 4611686018427387904) (w : World) : Calls Try.prog 9 #[.int .i64 a, .int .i64 n] w fun e w' => e = .returned (.int .i64 (a % n)) ∧ Below w.heap.size w w' :=
 (corncribbook_Among.calls a n (a % n) w (Amg.among_eq a n h0 hn)).mono (by rintro e w' ⟨rfl, k, rfl⟩; exact ⟨rfl, pw_below_drewN (Below.refl _ _) k⟩)
section
variable {P : Program} {ops : Array Oper} {Q : Exit → Act → World → Prop} {rest : List Oper} {o : Oper} {a : Act}
theorem slice_event {W : World} (hgd : o.guard = none) {N : Tmp} (_hd : o.dst = some N) {cs : Array Value} {t : TypeId} {n : Nat}
  (hrun : (execOp a.eval o).run P W = .ok (.value (.slice (some ⟨W.heap.size, 0, none⟩) n n)) (W.alloc (.cells cs t (0, 0))))
  (h : ∀ g, g = W.heap.size → ∀ w1, w1.heap[g]? = some (.cells cs t (0, 0)) → Below W.heap.size W w1 → wpList P ops Q rest (a.put o.dst (.slice (some ⟨g, 0, none⟩) n n)) w1) : wpList P ops Q (o :: rest) a W :=
 Kd.event_run hgd hrun (h _ rfl _ (blk_new W _) (below_alloc (Below.refl _ _) _))
end
structure QZ (W w : World) (gq k : Nat) (q : Qs) : Prop where
 ok : DueSpec.Ok k q
 ex : ∃ gw gd vw vd lw ld, QX W w gq gw gd q vw vd lw ld
section
variable {W w w1 : World} {gq k : Nat} {q : Qs}
theorem QZ.bel (h : QZ W w gq k q) : Below W.heap.size W w := by
 obtain ⟨_, _, _, _, _, _, h⟩ := h.ex
 exact h.o.bel
theorem QZ.below (h : QZ W w gq k q) (hb : Below w.heap.size w w1) : QZ W w1 gq k q := by
 obtain ⟨gw, gd, vw, vd, lw, ld, hx⟩ := h.ex
 exact ⟨h.ok, gw, gd, vw, vd, lw, ld, hx.below hb⟩
theorem z_new (W w : World) (hB : Below W.heap.size W w) : Calls Try.prog 7 #[] w fun e w' => ∃ gq, e = .returned (.pointer (some ⟨gq, 0, none⟩)) ∧ QZ W w' gq 0 ⟨[], 0, 0⟩ ∧ Below w.heap.size w w' :=
 (qnew_calls W w hB).mono (by rintro e w' ⟨gq, gw, gd, rfl, hx, _, _, _, hb⟩; exact ⟨gq, rfl, ⟨Ok.empty, gw, gd, _, _, _, _, hx⟩, hb⟩)
theorem z_go (h : QZ W w gq k q) (tt : Int) : Calls Try.prog 12 #[.pointer (some ⟨gq, 0, none⟩), .int .i64 tt] w fun e w' => e = .returned (.int .i64 (goQ q tt).2) ∧ QZ W w' gq k (goQ q tt).1 := by
 obtain ⟨gw, gd, vw, vd, lw, ld, hx⟩ := h.ex
 exact (qgo_calls W w gq gw gd q vw vd lw ld hx k h.ok tt).mono (by rintro e w' ⟨rfl, vw', vd', lw', ld', hq, _⟩; exact ⟨rfl, h.ok.go_ tt, gw, gd, vw', vd', lw', ld', hq⟩)
theorem z_take (h : QZ W w gq k q) : Calls Try.prog 13 #[.pointer (some ⟨gq, 0, none⟩)] w fun e w' => e = .returned (.tuple #[.int .i64 (takeQ q).2.1, .bool (takeQ q).2.2]) ∧ QZ W w' gq k (takeQ q).1 := by
 obtain ⟨gw, gd, vw, vd, lw, ld, hx⟩ := h.ex
 exact (qtake_calls W w gq gw gd q vw vd lw ld hx k h.ok).mono (by rintro e w' ⟨rfl, vw', vd', lw', ld', hq, _⟩; exact ⟨rfl, h.ok.take_, gw, gd, vw', vd', lw', ld', hq⟩)
theorem z_len (h : QZ W w gq k q) : Calls Try.prog 14 #[.pointer (some ⟨gq, 0, none⟩)] w fun e w' => e = .returned (.int .i64 (q.L.length : Int)) ∧ QZ W w' gq k q := by
 obtain ⟨gw, gd, vw, vd, lw, ld, hx⟩ := h.ex
 have hl := hx.r.len
 refine (qlen_calls W w gq gw gd _ _ vw vd lw ld hx.o (by rw [hl]; have := h.ok.len; omega)).mono ?_
 rintro e w' ⟨rfl, hb⟩
 rw [hl]
 exact ⟨rfl, h.below hb⟩
end
/-- A block of another type, which a queue's call leaves as it is. -/
theorem QStep.keepT {W w w1 : World} {gq gw gd : Nat} {q : Qs} {vw vd vw1 vd1 : Value} {lw ld : List Tk} (h : QX W w gq gw gd q vw vd lw ld) (hs : QStep w w1 gq gw gd vw vd vw1 vd1) {g t : Nat} {cs : Array Value} (hb : w.heap[g]? = some (.cells cs t (0, 0))) (h1 : t ≠ 56) (h2 : t ≠ 54) (h3 : t ≠ 61) : w1.heap[g]? = some (.cells cs t (0, 0)) :=
 (hs.keep g (blk_lt hb) (blk_ne hb h.o.blk h1) (blk_ne hb h.o.wt.ht.blk h2) (blk_ne hb h.o.du.ht.blk h2) (Ne.symm (Kd.R_ne h.o.wt.ht.row hb (Ne.symm h3))) (Ne.symm (Kd.R_ne h.o.du.ht.row hb (Ne.symm h3)))).trans hb
section
variable {W w : World} {gq k g t : Nat} {q : Qs} {cs : Array Value}
theorem zk_put (h : QZ W w gq k q) (hb : w.heap[g]? = some (.cells cs t (0, 0))) (a u i : Int) (hk : k ≤ 100000 ∧ t ≠ 56 ∧ t ≠ 54 ∧ t ≠ 61) : Calls Try.prog 10 #[.pointer (some ⟨gq, 0, none⟩), .int .i64 a, .int .i64 u, .int .i64 i] w fun e w' => e = .returned (.tuple #[.int .i64 (putQ q a u i).2.1, .int .i64 (putQ q a u i).2.2]) ∧ QZ W w' gq (k + 1) (putQ q a u i).1 ∧ w'.heap[g]? = some (.cells cs t (0, 0)) := by
 obtain ⟨gw, gd, vw, vd, lw, ld, hx⟩ := h.ex
 exact (qput_calls W w gq gw gd q vw vd lw ld hx k h.ok hk.1 a u i).mono (by rintro e w' ⟨rfl, vw', vd', lw', ld', hq, hs⟩; exact ⟨rfl, ⟨h.ok.put_ a u i, gw, gd, vw', vd', lw', ld', hq⟩, hs.keepT hx hb hk.2.1 hk.2.2.1 hk.2.2.2⟩)
theorem zk_take (h : QZ W w gq k q) (hb : w.heap[g]? = some (.cells cs 3 (0, 0))) : Calls Try.prog 13 #[.pointer (some ⟨gq, 0, none⟩)] w fun e w' => e = .returned (.tuple #[.int .i64 (takeQ q).2.1, .bool (takeQ q).2.2]) ∧ QZ W w' gq k (takeQ q).1 ∧ w'.heap[g]? = some (.cells cs 3 (0, 0)) := by
 obtain ⟨gw, gd, vw, vd, lw, ld, hx⟩ := h.ex
 exact (qtake_calls W w gq gw gd q vw vd lw ld hx k h.ok).mono (by rintro e w' ⟨rfl, vw', vd', lw', ld', hq, hs⟩; exact ⟨rfl, ⟨h.ok.take_, gw, gd, vw', vd', lw', ld', hq⟩, hs.keepT hx hb (by decide) (by decide) (by decide)⟩)
end
def qw0 : Qs := ⟨[], 0, 0⟩
def qw1 : Qs := ⟨[⟨5, 1, 7, 1⟩], 0, 1⟩
def qw2 : Qs := ⟨[⟨5, 1, 7, 1⟩, ⟨3, 1, 8, 2⟩], 0, 2⟩
def qw3 : Qs := ⟨[⟨5, 1, 7, 1⟩, ⟨3, 1, 8, 2⟩, ⟨4, 9, 9, 3⟩], 0, 3⟩
def qw4 : Qs := ⟨[⟨5, 1, 7, 1⟩, ⟨3, 1, 8, 2⟩, ⟨4, 9, 9, 3⟩], 5, 3⟩
def qw5 : Qs := ⟨[⟨5, 1, 7, 1⟩, ⟨3, 1, 8, 2⟩], 5, 3⟩
def qw6 : Qs := ⟨[⟨5, 1, 7, 1⟩], 5, 3⟩
def qw7 : Qs := ⟨[], 5, 3⟩
theorem wk1 : putQ qw0 5 1 7 = (qw1, 1, 0) := by rfl
theorem wk2 : putQ qw1 3 1 8 = (qw2, 2, 0) := by rfl
theorem wk3 : putQ qw2 4 9 9 = (qw3, 3, 0) := by rfl
theorem wk4 : takeQ qw3 = (qw3, 0, false) := by rfl
theorem wk5 : goQ qw3 5 = (qw4, 0) := by rfl
theorem wk6 : takeQ qw4 = (qw5, 9, true) := by rfl
theorem wk7 : takeQ qw5 = (qw6, 8, true) := by rfl
theorem wk8 : takeQ qw6 = (qw7, 7, true) := by rfl
end Go.Proofs.Ytacceeefcelkhaa.Al

namespace Go.Proofs.Ytacceeefcelkhaa.Al
open Go.RowKit Go.Proofs.Ytacceeefcelkhaa.DueHeap Go.Proofs.Ytacceeefcelkhaa.DueSpec Go.Proofs.YtacceeefcelkhaaW.PrintWords Go.Proofs.YtacceeefcelkhaaW.PrintLast Go.Proofs.YtacceeefcelkhaaW.PrintMore
set_option linter.unusedVariables false
set_option linter.unusedSimpArgs false
set_option maxHeartbeats 8000000 in
set_option maxRecDepth 100000 in
theorem works_calls (w : World) : Calls Try.prog 8 #[] w fun e w' => e = .returned (.bool true) ∧ Below w.heap.size w w' := by
 have hu57 := Try.underlying57
 have hu58 := Try.underlying58
 have hu23 := Try.underlying23
 go_enter Try.func8, Try.ntmps8
 go_wp2_with (first | (go_at_call 7; refine (z_new w w (Below.refl _ _)).mono ?_; rintro e w1 ⟨gq, rfl, hq, hb⟩; have HQ1 := Aside0.mk hq; clear hq hb) | ((with_reducible refine gate_dst (N := 18) rfl ?_); refine slice_event ?hg (N := 18) ?hd (cs := #[.int .i64 5, .int .i64 1, .int .i64 7, .int .i64 3, .int .i64 1, .int .i64 8, .int .i64 4, .int .i64 9, .int .i64 9]) (t := 57) (n := 3) ?hr ?_; (case hd => rfl); (case hg => rfl); (case hr => first | (go_simp; done) | (go_simp; rfl)); intro gs hg w2 hbox hb; have HX2 := Aside0.mk hbox; have HQ2 := Aside0.mk (HQ1.out.below hb); have HGE := Aside0.mk hg; clear hg hbox hb))
 go_loopw [20] (fun v20 wr => Aside0 (wr.heap[gs]? = some (.cells #[.int .i64 5, .int .i64 1, .int .i64 7, .int .i64 3, .int .i64 1, .int .i64 8, .int .i64 4, .int .i64 9, .int .i64 9] 57 (0, 0))) ∧ ((v20 = .int .i64 0 ∧ Aside0 (QZ w wr gq 0 qw0)) ∨ (v20 = .int .i64 1 ∧ Aside0 (QZ w wr gq 1 qw1)) ∨ (v20 = .int .i64 2 ∧ Aside0 (QZ w wr gq 2 qw2)) ∨ (v20 = .int .i64 3 ∧ Aside0 (QZ w wr gq 3 qw3)))) (fun v20 _ => 3 - (intOf v20).toNat)
 case atStart => exact ⟨HX2, .inl ⟨rfl, HQ2⟩⟩
 case round =>
  obtain ⟨HX, hrel⟩ := hrel
  clear HX2 HQ2 HQ1 HGE
  rcases hrel with ⟨rfl, HQ⟩ | ⟨rfl, HQ⟩ | ⟨rfl, HQ⟩ | ⟨rfl, HQ⟩
  ·have x0 : wr.cell? ⟨gs, 0, none⟩ = some (.int .i64 5) := (blk_cell HX.out 0).trans rfl
   have x1 : wr.cell? ⟨gs, 1, none⟩ = some (.int .i64 1) := (blk_cell HX.out 1).trans rfl
   have x2 : wr.cell? ⟨gs, 2, none⟩ = some (.int .i64 7) := (blk_cell HX.out 2).trans rfl
   go_upto_region 7 with ((with_reducible refine gate_dst (N := 3) rfl ?_); refine box_event ?hg (N := 3) ?hd (cs := #[.int .i64 0, .int .i64 0, .int .i64 0]) (t := 57) ?hr ?_; (case hd => rfl); (case hg => rfl); (case hr => first | (go_simp; done) | (go_simp; rfl)); intro gb hgb wb hbox hb; have BX := Aside0.mk hbox; have HGE := Aside0.mk (show wr.heap.size ≤ gb from Nat.le_of_eq hgb.symm); have HBb := Aside0.mk hb; have hz0 := (blk_cell hbox 0).trans rfl; have hzf0 := blk_frozen hbox 0; have hz1 := (blk_cell hbox 1).trans rfl; have hzf1 := blk_frozen hbox 1; have hz2 := (blk_cell hbox 2).trans rfl; have hzf2 := blk_frozen hbox 2; clear hgb hbox hb)
   have HB3 : Aside0 (Below wr.heap.size wr (((wb.setCell ⟨gb, 0, none⟩ (.int .i64 5)).setCell ⟨gb, 1, none⟩ (.int .i64 1)).setCell ⟨gb, 2, none⟩ (.int .i64 7))) := ⟨below_set (below_set (below_set HBb.out HGE.out) HGE.out) HGE.out⟩
   have BX3 : Aside0 (((((wb.setCell ⟨gb, 0, none⟩ (.int .i64 5)).setCell ⟨gb, 1, none⟩ (.int .i64 1)).setCell ⟨gb, 2, none⟩ (.int .i64 7)) : World).heap[gb]? = some (.cells #[.int .i64 5, .int .i64 1, .int .i64 7] 57 (0, 0))) := ⟨by
    have := blk_set (blk_set (blk_set BX.out 0 (.int .i64 5)) 1 (.int .i64 1)) 2 (.int .i64 7)
    simpa using this⟩
   clear hz0 hzf0 hz1 hzf1 hz2 hzf2 x0 x1 x2
   generalize (((wb.setCell ⟨gb, 0, none⟩ (.int .i64 5)).setCell ⟨gb, 1, none⟩ (.int .i64 1)).setCell ⟨gb, 2, none⟩ (.int .i64 7)) = W3 at HB3 BX3 ⊢
   have HQ3 := Aside0.mk (HQ.out.below HB3.out)
   have HX3 := Aside0.mk (blk_below HX.out HB3.out)
   have y0 : W3.cell? ⟨gb, 0, none⟩ = some (.int .i64 5) := (blk_cell BX3.out 0).trans rfl
   have y1 : W3.cell? ⟨gb, 1, none⟩ = some (.int .i64 1) := (blk_cell BX3.out 1).trans rfl
   have y2 : W3.cell? ⟨gb, 2, none⟩ = some (.int .i64 7) := (blk_cell BX3.out 2).trans rfl
   go_wp2_with (go_at_call 10; refine (zk_put HQ3.out HX3.out 5 1 7 (by decide)).mono ?_; rintro e w4 ⟨rfl, hq, hx⟩; rw [wk1] at hq ⊢; have HQ4 := Aside0.mk hq; have HX4 := Aside0.mk hx; clear hq hx y0 y1 y2)
   go_roundw
   case rel => exact ⟨HX4, .inr (.inl ⟨rfl, HQ4⟩)⟩
   case measure => decide
  ·have x0 : wr.cell? ⟨gs, 3, none⟩ = some (.int .i64 3) := (blk_cell HX.out 3).trans rfl
   have x1 : wr.cell? ⟨gs, 4, none⟩ = some (.int .i64 1) := (blk_cell HX.out 4).trans rfl
   have x2 : wr.cell? ⟨gs, 5, none⟩ = some (.int .i64 8) := (blk_cell HX.out 5).trans rfl
   go_upto_region 7 with ((with_reducible refine gate_dst (N := 3) rfl ?_); refine box_event ?hg (N := 3) ?hd (cs := #[.int .i64 0, .int .i64 0, .int .i64 0]) (t := 57) ?hr ?_; (case hd => rfl); (case hg => rfl); (case hr => first | (go_simp; done) | (go_simp; rfl)); intro gb hgb wb hbox hb; have BX := Aside0.mk hbox; have HGE := Aside0.mk (show wr.heap.size ≤ gb from Nat.le_of_eq hgb.symm); have HBb := Aside0.mk hb; have hz0 := (blk_cell hbox 0).trans rfl; have hzf0 := blk_frozen hbox 0; have hz1 := (blk_cell hbox 1).trans rfl; have hzf1 := blk_frozen hbox 1; have hz2 := (blk_cell hbox 2).trans rfl; have hzf2 := blk_frozen hbox 2; clear hgb hbox hb)
   have HB3 : Aside0 (Below wr.heap.size wr (((wb.setCell ⟨gb, 0, none⟩ (.int .i64 3)).setCell ⟨gb, 1, none⟩ (.int .i64 1)).setCell ⟨gb, 2, none⟩ (.int .i64 8))) := ⟨below_set (below_set (below_set HBb.out HGE.out) HGE.out) HGE.out⟩
   have BX3 : Aside0 (((((wb.setCell ⟨gb, 0, none⟩ (.int .i64 3)).setCell ⟨gb, 1, none⟩ (.int .i64 1)).setCell ⟨gb, 2, none⟩ (.int .i64 8)) : World).heap[gb]? = some (.cells #[.int .i64 3, .int .i64 1, .int .i64 8] 57 (0, 0))) := ⟨by
    have := blk_set (blk_set (blk_set BX.out 0 (.int .i64 3)) 1 (.int .i64 1)) 2 (.int .i64 8)
    simpa using this⟩
   clear hz0 hzf0 hz1 hzf1 hz2 hzf2 x0 x1 x2
   generalize (((wb.setCell ⟨gb, 0, none⟩ (.int .i64 3)).setCell ⟨gb, 1, none⟩ (.int .i64 1)).setCell ⟨gb, 2, none⟩ (.int .i64 8)) = W3 at HB3 BX3 ⊢
   have HQ3 := Aside0.mk (HQ.out.below HB3.out)
   have HX3 := Aside0.mk (blk_below HX.out HB3.out)
   have y0 : W3.cell? ⟨gb, 0, none⟩ = some (.int .i64 3) := (blk_cell BX3.out 0).trans rfl
   have y1 : W3.cell? ⟨gb, 1, none⟩ = some (.int .i64 1) := (blk_cell BX3.out 1).trans rfl
   have y2 : W3.cell? ⟨gb, 2, none⟩ = some (.int .i64 8) := (blk_cell BX3.out 2).trans rfl
   go_wp2_with (go_at_call 10; refine (zk_put HQ3.out HX3.out 3 1 8 (by decide)).mono ?_; rintro e w4 ⟨rfl, hq, hx⟩; rw [wk2] at hq ⊢; have HQ4 := Aside0.mk hq; have HX4 := Aside0.mk hx; clear hq hx y0 y1 y2)
   go_roundw
   case rel => exact ⟨HX4, .inr (.inr (.inl ⟨rfl, HQ4⟩))⟩
   case measure => decide
  ·have x0 : wr.cell? ⟨gs, 6, none⟩ = some (.int .i64 4) := (blk_cell HX.out 6).trans rfl
   have x1 : wr.cell? ⟨gs, 7, none⟩ = some (.int .i64 9) := (blk_cell HX.out 7).trans rfl
   have x2 : wr.cell? ⟨gs, 8, none⟩ = some (.int .i64 9) := (blk_cell HX.out 8).trans rfl
   go_upto_region 7 with ((with_reducible refine gate_dst (N := 3) rfl ?_); refine box_event ?hg (N := 3) ?hd (cs := #[.int .i64 0, .int .i64 0, .int .i64 0]) (t := 57) ?hr ?_; (case hd => rfl); (case hg => rfl); (case hr => first | (go_simp; done) | (go_simp; rfl)); intro gb hgb wb hbox hb; have BX := Aside0.mk hbox; have HGE := Aside0.mk (show wr.heap.size ≤ gb from Nat.le_of_eq hgb.symm); have HBb := Aside0.mk hb; have hz0 := (blk_cell hbox 0).trans rfl; have hzf0 := blk_frozen hbox 0; have hz1 := (blk_cell hbox 1).trans rfl; have hzf1 := blk_frozen hbox 1; have hz2 := (blk_cell hbox 2).trans rfl; have hzf2 := blk_frozen hbox 2; clear hgb hbox hb)
   have HB3 : Aside0 (Below wr.heap.size wr (((wb.setCell ⟨gb, 0, none⟩ (.int .i64 4)).setCell ⟨gb, 1, none⟩ (.int .i64 9)).setCell ⟨gb, 2, none⟩ (.int .i64 9))) := ⟨below_set (below_set (below_set HBb.out HGE.out) HGE.out) HGE.out⟩
   have BX3 : Aside0 (((((wb.setCell ⟨gb, 0, none⟩ (.int .i64 4)).setCell ⟨gb, 1, none⟩ (.int .i64 9)).setCell ⟨gb, 2, none⟩ (.int .i64 9)) : World).heap[gb]? = some (.cells #[.int .i64 4, .int .i64 9, .int .i64 9] 57 (0, 0))) := ⟨by
    have := blk_set (blk_set (blk_set BX.out 0 (.int .i64 4)) 1 (.int .i64 9)) 2 (.int .i64 9)
    simpa using this⟩
   clear hz0 hzf0 hz1 hzf1 hz2 hzf2 x0 x1 x2
   generalize (((wb.setCell ⟨gb, 0, none⟩ (.int .i64 4)).setCell ⟨gb, 1, none⟩ (.int .i64 9)).setCell ⟨gb, 2, none⟩ (.int .i64 9)) = W3 at HB3 BX3 ⊢
   have HQ3 := Aside0.mk (HQ.out.below HB3.out)
   have HX3 := Aside0.mk (blk_below HX.out HB3.out)
   have y0 : W3.cell? ⟨gb, 0, none⟩ = some (.int .i64 4) := (blk_cell BX3.out 0).trans rfl
   have y1 : W3.cell? ⟨gb, 1, none⟩ = some (.int .i64 9) := (blk_cell BX3.out 1).trans rfl
   have y2 : W3.cell? ⟨gb, 2, none⟩ = some (.int .i64 9) := (blk_cell BX3.out 2).trans rfl
   go_wp2_with (go_at_call 10; refine (zk_put HQ3.out HX3.out 4 9 9 (by decide)).mono ?_; rintro e w4 ⟨rfl, hq, hx⟩; rw [wk3] at hq ⊢; have HQ4 := Aside0.mk hq; have HX4 := Aside0.mk hx; clear hq hx y0 y1 y2)
   go_roundw
   case rel => exact ⟨HX4, .inr (.inr (.inr ⟨rfl, HQ4⟩))⟩
   case measure => decide
  ·go_wp2_with (first | (go_at_call 13; (with_reducible refine (z_take HQ.out).mono ?_); rintro e w4 ⟨rfl, hq⟩; rw [wk4] at hq ⊢; have HQ4 := Aside0.mk hq; clear hq) | (go_at_call 12; (with_reducible refine (z_go HQ4.out 5).mono ?_); rintro e w5 ⟨rfl, hq⟩; rw [wk5] at hq ⊢; have HQ5 := Aside0.mk hq; clear hq) | ((with_reducible refine gate_dst (N := 56) rfl ?_); refine slice_event ?hg (N := 56) ?hd (cs := #[.int .i64 9, .int .i64 8, .int .i64 7]) (t := 3) (n := 3) ?hr ?_; (case hd => rfl); (case hg => rfl); (case hr => first | (go_simp; done) | (go_simp; rfl)); intro g9 hg w6 hbox hb; have HX6 := Aside0.mk hbox; have HQ6 := Aside0.mk (HQ5.out.below hb); clear hg hbox hb))
   go_loopw [58] (fun v58 wr => Aside0 (wr.heap[g9]? = some (.cells #[.int .i64 9, .int .i64 8, .int .i64 7] 3 (0, 0))) ∧ ((v58 = .int .i64 0 ∧ Aside0 (QZ w wr gq 3 qw4)) ∨ (v58 = .int .i64 1 ∧ Aside0 (QZ w wr gq 3 qw5)) ∨ (v58 = .int .i64 2 ∧ Aside0 (QZ w wr gq 3 qw6)) ∨ (v58 = .int .i64 3 ∧ Aside0 (QZ w wr gq 3 qw7)))) (fun v58 _ => 3 - (intOf v58).toNat)
   case atStart => exact ⟨HX6, .inl ⟨rfl, HQ6⟩⟩
   case round =>
    obtain ⟨HY, hrel⟩ := hrel
    clear HX6 HQ6 HQ5 HQ4 HQ HX
    rcases hrel with ⟨rfl, HQ⟩ | ⟨rfl, HQ⟩ | ⟨rfl, HQ⟩ | ⟨rfl, HQ⟩
    ·have x0 : wr.cell? ⟨g9, 0, none⟩ = some (.int .i64 9) := (blk_cell HY.out 0).trans rfl
     go_wp2_with (go_at_call 13; refine (zk_take HQ.out HY.out).mono ?_; rintro e w4 ⟨rfl, hq, hx⟩; rw [wk6] at hq ⊢; have HQ4 := Aside0.mk hq; have HX4 := Aside0.mk hx; clear hq hx x0)
     go_roundw
     case rel => exact ⟨HX4, .inr (.inl ⟨rfl, HQ4⟩)⟩
     case measure => decide
    ·have x0 : wr.cell? ⟨g9, 1, none⟩ = some (.int .i64 8) := (blk_cell HY.out 1).trans rfl
     go_wp2_with (go_at_call 13; refine (zk_take HQ.out HY.out).mono ?_; rintro e w4 ⟨rfl, hq, hx⟩; rw [wk7] at hq ⊢; have HQ4 := Aside0.mk hq; have HX4 := Aside0.mk hx; clear hq hx x0)
     go_roundw
     case rel => exact ⟨HX4, .inr (.inr (.inl ⟨rfl, HQ4⟩))⟩
     case measure => decide
    ·have x0 : wr.cell? ⟨g9, 2, none⟩ = some (.int .i64 7) := (blk_cell HY.out 2).trans rfl
     go_wp2_with (go_at_call 13; refine (zk_take HQ.out HY.out).mono ?_; rintro e w4 ⟨rfl, hq, hx⟩; rw [wk8] at hq ⊢; have HQ4 := Aside0.mk hq; have HX4 := Aside0.mk hx; clear hq hx x0)
     go_roundw
     case rel => exact ⟨HX4, .inr (.inr (.inr ⟨rfl, HQ4⟩))⟩
     case measure => decide
    ·go_wp2_with (go_at_call 14; refine (z_len HQ.out).mono ?_; rintro e w4 ⟨rfl, hq⟩; have HQ4 := Aside0.mk hq; clear hq)
     go_ret
     exact ⟨rfl, HQ4.out.bel⟩
end Go.Proofs.Ytacceeefcelkhaa.Al

namespace Go.Proofs.Ytacceeefcelkhaa.Al
open Go.RowKit Go.Proofs.Ytacceeefcelkhaa.DueHeap Go.Proofs.Ytacceeefcelkhaa.DueSpec Go.Proofs.YtacceeefcelkhaaW.PrintWords Go.Proofs.YtacceeefcelkhaaW.PrintLast Go.Proofs.YtacceeefcelkhaaW.PrintMore
set_option linter.unusedVariables false
set_option linter.unusedSimpArgs false
structure RQ (W w : World) (g : Nat) (q : Qs) (v : Value) : Prop where
 blk : w.heap[g]? = some (.cells #[v, .int .i64 q.now, .int .i64 q.put] 45 (0, 0))
 ge : W.heap.size ≤ g
 row : kT.R 65 w W.heap.size (fun _ => True) v q.L
 bel : Below W.heap.size W w
section
variable {W w w1 : World} {g : Nat} {q : Qs} {v : Value}
theorem RQ.below (h : RQ W w g q v) (hb : Below w.heap.size w w1) : RQ W w1 g q v := ⟨blk_below h.blk hb, h.ge, Kd.R_below h.row hb, below_step h.bel hb⟩
theorem RQ.drew (h : RQ W w g q v) : RQ W w.drew g q v := h.below (below_drew (Below.refl _ _))
theorem RQ.setj {now put : Int} (h : RQ W w g q v) (hb : (w.setCell ⟨g, 1, none⟩ (.int .i64 now)).heap[g]? = some (.cells #[v, .int .i64 now, .int .i64 q.put] 45 (0, 0))) : RQ W (w.setCell ⟨g, 1, none⟩ (.int .i64 now)) g ⟨q.L, now, q.put⟩ v :=
 ⟨hb, h.ge, Kd.R_grown1 h.row rfl (due_grown w g 1 _) (Kd.R_ne h.row h.blk (by decide)), below_set h.bel h.ge⟩
end
def atP (a : Int) (far : Bool) (now : Int) : Int := if far = true ∨ 2199023255552 < a ∨ a < -2199023255552 then a else now + a
set_option maxHeartbeats 8000000 in
set_option maxRecDepth 100000 in
theorem rgo_calls (W w : World) (g : Nat) (q : Qs) (v : Value) (h : RQ W w g q v) (tt : Int) : Calls Try.prog 20 #[.pointer (some ⟨g, 0, none⟩), .int .i64 tt] w fun e w' => e = .returned (.int .i64 (goQ q tt).2) ∧ RQ W w' g (goQ q tt).1 v ∧ KeepBut w w' g none := by
 have f1 : w.cell? ⟨g, 1, none⟩ = some (.int .i64 q.now) := (blk_cell h.blk 1).trans rfl
 have z1 := blk_frozen h.blk 1
 have HH := Aside0.mk h
 clear h
 by_cases h1 : tt < q.now
 ·have d1 : decide (tt < q.now) = true := decide_eq_true h1
  have HR : Aside0 (goQ q tt = (q, 1)) := ⟨if_pos (.inl h1)⟩
  rw [HR.out]
  clear h1
  go_enter Try.func20, Try.ntmps20
  go_wp2
  go_ret
  exact ⟨rfl, HH.out, KeepBut.refl _ _ _⟩
 ·have d1 : decide (tt < q.now) = false := decide_eq_false h1
  by_cases h2 : 1099511627776 < tt
  ·have d2 : decide (1099511627776 < tt) = true := decide_eq_true h2
   have HR : Aside0 (goQ q tt = (q, 1)) := ⟨if_pos (.inr h2)⟩
   rw [HR.out]
   clear h1 h2
   go_enter Try.func20, Try.ntmps20
   go_wp2
   go_ret
   exact ⟨rfl, HH.out, KeepBut.refl _ _ _⟩
  ·have d2 : decide (1099511627776 < tt) = false := decide_eq_false h2
   have HR : Aside0 (goQ q tt = (⟨q.L, tt, q.put⟩, 0)) := ⟨if_neg (by omega)⟩
   rw [HR.out]
   clear h1 h2
   go_enter Try.func20, Try.ntmps20
   go_wp2_with ((with_reducible refine gate_store (t := 3) (p := 18) rfl ?_); refine store_event (t := 3) (p := 18) (v := ?vo1) (w1 := (w.setCell ⟨g, 1, none⟩ (.int .i64 tt))) ?hg1 ?ho1 ?hn1 ?hr1 ?_; (case ho1 => rfl); (case hg1 => rfl); (case hn1 => rfl); (case hr1 => first | (go_simp; done) | (go_simp; rfl)); intro w1 hw; have H1 := Aside0.mk (HH.out.setj (now := tt) (put := 0) (blk_set HH.out.blk 1 (.int .i64 tt))); have HK1 := Aside0.mk ((KeepBut.refl w g none).set_ 1 (.int .i64 tt)); rw [← hw] at H1 HK1; clear hw f1 z1)
   go_ret
   exact ⟨rfl, H1.out, HK1.out⟩
theorem at_calls (k a u i now : Int) (far : Bool) (hn : 0 ≤ now ∧ now ≤ 1099511627776) (w : World) : Calls Try.prog 16 #[.agg #[.int .i64 k, .int .i64 a, .int .i64 u, .int .i64 i, .bool far], .int .i64 now] w fun e w' => e = .returned (.int .i64 (atP a far now)) ∧ Below w.heap.size w w' := by
 have HN := Aside0.mk hn
 clear hn
 cases far with
 |true =>
  have HR : Aside0 (atP a true now = a) := ⟨if_pos (.inl rfl)⟩
  rw [HR.out]
  go_enter Try.func16, Try.ntmps16
  go_wp2_with ((with_reducible refine gate_dst (N := 2) rfl ?_); refine box_event ?hg (N := 2) ?hd (cs := #[.int .i64 k, .int .i64 a, .int .i64 u, .int .i64 i, .bool true]) (t := 47) ?hr ?_; (case hd => rfl); (case hg => rfl); (case hr => first | (go_simp; done) | (go_simp; rfl)); intro gb hg w1 hbox hb; have p1 : w1.cell? ⟨gb, 1, none⟩ = some (.int .i64 a) := (blk_cell hbox 1).trans rfl; have p4 : w1.cell? ⟨gb, 4, none⟩ = some (.bool true) := (blk_cell hbox 4).trans rfl; have HB := Aside0.mk hb; clear hg hbox hb)
  go_ret
  exact ⟨rfl, HB.out⟩
 |false =>
  by_cases h1 : 2199023255552 < a
  ·have d1 : decide (2199023255552 < a) = true := decide_eq_true h1
   have HR : Aside0 (atP a false now = a) := ⟨if_pos (.inr (.inl h1))⟩
   rw [HR.out]
   clear h1
   go_enter Try.func16, Try.ntmps16
   go_wp2_with ((with_reducible refine gate_dst (N := 2) rfl ?_); refine box_event ?hg (N := 2) ?hd (cs := #[.int .i64 k, .int .i64 a, .int .i64 u, .int .i64 i, .bool false]) (t := 47) ?hr ?_; (case hd => rfl); (case hg => rfl); (case hr => first | (go_simp; done) | (go_simp; rfl)); intro gb hg w1 hbox hb; have p1 : w1.cell? ⟨gb, 1, none⟩ = some (.int .i64 a) := (blk_cell hbox 1).trans rfl; have p4 : w1.cell? ⟨gb, 4, none⟩ = some (.bool false) := (blk_cell hbox 4).trans rfl; have HB := Aside0.mk hb; clear hg hbox hb)
   go_ret
   exact ⟨rfl, HB.out⟩
  ·have d1 : decide (2199023255552 < a) = false := decide_eq_false h1
   by_cases h2 : a < -2199023255552
   ·have d2 : decide (a < -2199023255552) = true := decide_eq_true h2
    have HR : Aside0 (atP a false now = a) := ⟨if_pos (.inr (.inr h2))⟩
    rw [HR.out]
    clear h1 h2
    go_enter Try.func16, Try.ntmps16
    go_wp2_with ((with_reducible refine gate_dst (N := 2) rfl ?_); refine box_event ?hg (N := 2) ?hd (cs := #[.int .i64 k, .int .i64 a, .int .i64 u, .int .i64 i, .bool false]) (t := 47) ?hr ?_; (case hd => rfl); (case hg => rfl); (case hr => first | (go_simp; done) | (go_simp; rfl)); intro gb hg w1 hbox hb; have p1 : w1.cell? ⟨gb, 1, none⟩ = some (.int .i64 a) := (blk_cell hbox 1).trans rfl; have p4 : w1.cell? ⟨gb, 4, none⟩ = some (.bool false) := (blk_cell hbox 4).trans rfl; have HB := Aside0.mk hb; clear hg hbox hb)
    go_ret
    exact ⟨rfl, HB.out⟩
   ·have d2 : decide (a < -2199023255552) = false := decide_eq_false h2
    have HR : Aside0 (atP a false now = now + a) := ⟨if_neg (by intro h; rcases h with h | h | h; cases h; exact h1 h; exact h2 h)⟩
    rw [HR.out]
    have hw : wrap64 (now + a) = now + a := by have := HN.out; unfold wrap64; omega
    have hw' : IntKind.i64.wrap (now + a) = now + a := by have := HN.out; rw [IntKind.wrap_i64]; omega
    clear h1 h2
    go_enter Try.func16, Try.ntmps16
    go_wp2_with ((with_reducible refine gate_dst (N := 2) rfl ?_); refine box_event ?hg (N := 2) ?hd (cs := #[.int .i64 k, .int .i64 a, .int .i64 u, .int .i64 i, .bool false]) (t := 47) ?hr ?_; (case hd => rfl); (case hg => rfl); (case hr => first | (go_simp; done) | (go_simp; rfl)); intro gb hg w1 hbox hb; have p1 : w1.cell? ⟨gb, 1, none⟩ = some (.int .i64 a) := (blk_cell hbox 1).trans rfl; have p4 : w1.cell? ⟨gb, 4, none⟩ = some (.bool false) := (blk_cell hbox 4).trans rfl; have HB := Aside0.mk hb; clear hg hbox hb)
    go_ret
    exact ⟨rfl, HB.out⟩
end Go.Proofs.Ytacceeefcelkhaa.Al

namespace Go.Proofs.Ytacceeefcelkhaa.Al
open Go.RowKit Go.Proofs.Ytacceeefcelkhaa.DueHeap Go.Proofs.Ytacceeefcelkhaa.DueSpec Go.Proofs.YtacceeefcelkhaaW.PrintWords Go.Proofs.YtacceeefcelkhaaW.PrintLast Go.Proofs.YtacceeefcelkhaaW.PrintMore
set_option linter.unusedVariables false
set_option linter.unusedSimpArgs false
theorem cut_at4 (ga c i : Nat) : (if c = i + 1 then some (⟨ga, 0, none⟩ : Addr) else some ⟨ga, (i + 1) * 4, none⟩) = if c = i + 1 then some ⟨ga, 0, none⟩ else (some (⟨ga, 0, none⟩ : Addr)).map (·.add ((i + 1) * kT.sz)) := by
 split
 ·rfl
 ·show some _ = some ((⟨ga, 0, none⟩ : Addr).add ((i + 1) * 4))
  simp [Addr.add]
theorem due_parts {l : List Tk} {i : Nat} : [] ++ l.take i ++ l.drop (i + 1) = l.eraseIdx i := by rw [List.nil_append, List.eraseIdx_eq_take_drop_succ]
def rg31_1_T : Bool × List (List Nat × List Nat) := (true, [([], []), ([], []), ([], []), ([1, 2], [1, 2]), ([0, 3], [0, 3]), ([], []), ([], []), ([6], [6]), ([5, 7], [5, 7]), ([4, 8, 4], [4, 8]), ([9, 9, 0, 1, 2, 3, 4, 5, 6, 7, 8, 9], [9])])
def rg31_1_B : List Nat := [0, 0, 0, 6, 15, 0, 0, 64, 224, 511, 1023]
theorem rg31_1_tab : rtab .any (opsOf Try.f31 1) = rg31_1_T := by kernel_rfl
theorem rg31_1_bits : waitsOk rg31_1_T.2 rg31_1_B = true := by kernel_rfl
set_option maxHeartbeats 8000000 in
set_option maxRecDepth 100000 in
theorem without_calls (W w : World) (v : Value) (l : List Tk) {base : Nat} (hR : kT.R 65 w base (fun _ => True) v l) (hlen : l.length ≤ 1024) (i : Nat) (hi : i < l.length) : Calls Try.prog 31 #[v, .int .i64 i] w fun e w' => ∃ v', e = .returned v' ∧ kT.R 65 w' w.heap.size (fun _ => True) v' (l.eraseIdx i) ∧ Below w.heap.size w w' := by
 have hu65 := Try.underlying65
 have hu43 := Try.underlying43
 obtain ⟨ga, c, hv, _⟩ := Kd.R_form hR (by omega)
 subst hv
 obtain ⟨n, hn⟩ : ∃ n, n = l.length := ⟨_, rfl⟩
 have HN := Aside0.mk hn
 rw [← hn] at hR hi hlen ⊢
 have hnc : n ≤ c := (Kd.R_reads' hR).2.1
 have p1 : (i ≤ c) = True := eq_true (by omega)
 have p2 : (0 ≤ (i : Int) + 1) = True := eq_true (by omega)
 have p3 : ((i : Int) + 1 ≤ (n : Int)) = True := eq_true (by omega)
 have hwi : wrap64 ((i : Int) + 1) = (i : Int) + 1 := by unfold wrap64; omega
 have hti : Aside0 ((l.take i).length = i) := ⟨by rw [List.length_take, ← hn]; omega⟩
 have hdi : Aside0 ((l.drop (i + 1)).length = n - (i + 1)) := ⟨by rw [List.length_drop, ← hn]⟩
 have HR := Aside0.mk hR
 have HIN := Aside0.mk hi
 clear hR hn
 go_enter Try.func31, Try.ntmps31
 go_upto_region 1 with (fail)
 refine start_ (n := 11) (S := fun w' => True) (ds := []) #[false, false, false, false, false, false, false, false, false, false, false] (by kernel_rfl) rfl rfl trivial (fun hHeld => ?_)
 refine with_tabW rg31_1_tab rg31_1_bits (fun HT_ HW_ => ?_)
 obtain ⟨W1, hW1⟩ : ∃ W1, W1 = w.drew := ⟨_, rfl⟩
 have HB2 := Aside0.mk (show Below w.heap.size w W1 from by rw [hW1]; exact below_drew (Below.refl _ _))
 have HR2 := Aside0.mk (Kd.R_below HR.out HB2.out)
 rw [← hW1]
 clear hW1 hHeld
 refine pure_ (i := 1) (N := some 6) (v := ?_) (a' := ?_) #[false, true, false, false, false, false, false, false, false, false, false] rfl rfl (any_of HT_.out (by kernel_rfl)) (fun _ _ _ h => h) (Or.inl ⟨by rfl, ?_⟩) ?_ ?_
 rotate_left
 ·intro w'
  go_simp
  with_reducible rfl
 rotate_left
 ·simp only [Act.put, List.setIfInBounds_toArray, List.set_cons_zero, List.set_cons_succ, i64_w, i32_w]
  rfl
 refine pure_ (i := 2) (N := some 7) (v := ?_) (a' := ?_) #[false, true, true, false, false, false, false, false, false, false, false] rfl rfl (any_of HT_.out (by kernel_rfl)) (fun _ _ _ h => h) (Or.inl ⟨by rfl, ?_⟩) ?_ ?_
 rotate_left
 ·intro w'
  go_simp
  with_reducible rfl
 rotate_left
 ·simp only [Act.put, List.setIfInBounds_toArray, List.set_cons_zero, List.set_cons_succ, i64_w, i32_w]
  rfl
 refine pure_ (i := 3) (N := some 8) (v := ?_) (a' := ?_) #[false, true, true, true, false, false, false, false, false, false, false] rfl rfl (any_of HT_.out (by kernel_rfl)) (fun _ _ _ h => h) (Or.inl ⟨by rfl, ?_⟩) ?_ ?_
 rotate_left
 ·intro w'
  go_simp
  with_reducible rfl
 rotate_left
 ·simp only [Act.put, List.setIfInBounds_toArray, List.set_cons_zero, List.set_cons_succ, i64_w, i32_w]
  rfl
 refine pure_ (i := 5) (N := some 10) (v := ?_) (a' := ?_) #[false, true, true, true, false, true, false, false, false, false, false] rfl rfl (any_of HT_.out (by kernel_rfl)) (fun _ _ _ h => h) (Or.inl ⟨by rfl, ?_⟩) ?_ ?_
 rotate_left
 ·intro w'
  go_simp
  with_reducible rfl
 rotate_left
 ·simp only [Act.put, List.setIfInBounds_toArray, List.set_cons_zero, List.set_cons_succ, i64_w, i32_w]
  rfl
 refine pure_ (i := 6) (N := some 11) (v := ?_) (a' := ?_) #[false, true, true, true, false, true, true, false, false, false, false] rfl rfl (any_of HT_.out (by kernel_rfl)) (fun _ _ _ h => h) (Or.inl ⟨by rfl, ?_⟩) ?_ ?_
 rotate_left
 ·intro w'
  go_simp
  with_reducible rfl
 rotate_left
 ·simp only [Act.put, List.setIfInBounds_toArray, List.set_cons_zero, List.set_cons_succ, i64_w, i32_w]
  rfl
 refine pure_ (i := 7) (N := some 12) (v := ?_) (a' := ?_) #[false, true, true, true, false, true, true, true, false, false, false] rfl rfl (any_of HT_.out (by kernel_rfl)) (fun _ _ _ h => h) (Or.inl ⟨by rfl, ?_⟩) ?_ ?_
 rotate_left
 ·intro w'
  go_simp
  with_reducible rfl
 rotate_left
 ·simp only [Act.put, List.setIfInBounds_toArray, List.set_cons_zero, List.set_cons_succ, i64_w, i32_w]
  rfl
 refine pure_ (i := 8) (N := some 13) (v := ?_) (a' := ?_) #[false, true, true, true, false, true, true, true, true, false, false] rfl rfl (any_of HT_.out (by kernel_rfl)) (fun _ _ _ h => h) (Or.inl ⟨by rfl, ?_⟩) ?_ ?_
 rotate_left
 ·intro w'
  go_simp
  with_reducible rfl
 rotate_left
 ·simp only [Act.put, List.setIfInBounds_toArray, List.set_cons_zero, List.set_cons_succ, i64_w, i32_w]
  rfl
 refine one_ (i := 0) (N := some 5) #[true, true, true, true, false, true, true, true, true, false, false] rfl rfl (one_of HT_.out (by kernel_rfl)) (by decide) (fun K hK => ?_)
 (refine Kd.R_lit_step kT (w0 := w) w.heap.size 65 (by rfl) (N := 5) rfl (xs := ([] : List Tk)) (inner := []) (ok := fun _ => True) (okp := fun _ => True) ?hr (Reps.none _ _) (fun _ hk => hk) trivial HB2.out HB2.out.size (by simp) ?_; (case hr => first | (go_simp; done) | (go_simp; rfl)); intro v3 w3 ho hb hg hat; have HO3 := Aside0.mk ho; have HB3 := Aside0.mk hb; clear ho hb hg hat)
 refine hK.out _ _ trivial (fun hHeld => ?_)
 clear hK K
 refine norm_ (a' := ?_) ?_ ?_
 rotate_left
 ·show Act.put _ (some 5) _ = _
  simp only [Act.put, List.setIfInBounds_toArray, List.set_cons_zero, List.set_cons_succ, i64_w, i32_w]
  rfl
 refine one_ (i := 4) (N := some 9) #[true, true, true, true, true, true, true, true, true, false, false] rfl rfl (one_of HT_.out (by kernel_rfl)) (by decide) (fun K hK => ?_)
 (refine Kd.R_append_rows_step kT (w0 := w) w.heap.size (by rfl) (.tmp 5) (.tmp 8) 43 65 (.agg #[(.int .i64 0), (.int .i64 0), (.int .i64 0), (.int .i64 0)]) 32 rfl Try.underlying43 info65 rfl (Nat.succ_pos 3) (by omega) v3 [] (l.take i) _ _ _ (fun _ => True) (fun _ => False) rfl rfl HO3.out ?aR (fun _ _ h => h) (fun _ h => h.elim) (fun _ _ => trivial) HB3.out HB3.out.size (by simp only [List.length_nil]; omega) ?_; (case aR => have hc := Kd.C_take (m := i) (Kd.C_below (Kd.R_reads' HR.out).2.2 HB3.out) (by have := HN.out; have := HIN.out; omega); rw [hti.out] at hc; exact hc); intro v4 w4 ho hb hg hat; have HO4 := Aside0.mk ho; have HB4 := Aside0.mk hb; clear ho hb hg hat)
 refine hK.out _ _ trivial (fun hHeld => ?_)
 clear hK K
 refine norm_ (a' := ?_) ?_ ?_
 rotate_left
 ·show Act.put _ (some 9) _ = _
  simp only [Act.put, List.setIfInBounds_toArray, List.set_cons_zero, List.set_cons_succ, i64_w, i32_w]
  rfl
 refine one_ (i := 9) (N := some 14) #[true, true, true, true, true, true, true, true, true, true, false] rfl rfl (one_of HT_.out (by kernel_rfl)) (by decide) (fun K hK => ?_)
 (refine Kd.R_append_rows_step kT (w0 := w) w.heap.size (by rfl) (.tmp 9) (.tmp 13) 43 65 (.agg #[(.int .i64 0), (.int .i64 0), (.int .i64 0), (.int .i64 0)]) 32 rfl Try.underlying43 info65 rfl (Nat.succ_pos 3) (by omega) v4 ([] ++ l.take i) (l.drop (i + 1)) _ _ _ (fun _ => True) (fun _ => False) rfl rfl HO4.out ?aR (fun _ _ h => h) (fun _ h => h.elim) (fun _ _ => trivial) HB4.out HB4.out.size (by rw [List.nil_append, hti.out]; omega) ?_; (case aR => have hc := Kd.C_drop (m := i + 1) (c := c) (Kd.C_below (Kd.R_reads' HR.out).2.2 HB4.out) (by have := HN.out; have := HIN.out; omega) (by have := HN.out; omega); rw [hdi.out, ← cut_at4] at hc; exact hc); intro v5 w5 ho hb hg hat; rw [due_parts] at ho; have HO5 := Aside0.mk ho; have HB5 := Aside0.mk hb; clear ho hb hg hat)
 refine hK.out _ _ trivial (fun hHeld => ?_)
 clear hK K
 refine norm_ (a' := ?_) ?_ ?_
 rotate_left
 ·show Act.put _ (some 14) _ = _
  simp only [Act.put, List.setIfInBounds_toArray, List.set_cons_zero, List.set_cons_succ, i64_w, i32_w]
  rfl
 refine pure_ (i := 10) (N := some 4) (v := ?_) (a' := ?_) #[true, true, true, true, true, true, true, true, true, true, true] rfl rfl (any_of HT_.out (by kernel_rfl)) (fun _ _ _ h => h) (Or.inl ⟨by rfl, ?_⟩) ?_ ?_
 rotate_left
 ·intro w'
  go_simp
  with_reducible rfl
 rotate_left
 ·simp only [Act.put, List.setIfInBounds_toArray, List.set_cons_zero, List.set_cons_succ, i64_w, i32_w]
  rfl
 refine done_ (done_of HT_.out (by kernel_rfl)) ?_
 generalize (if c = i + 1 then some (⟨ga, 0, none⟩ : Addr) else some ⟨ga, (i + 1) * 4, none⟩) = Acut
 go_wp2
 go_ret
 exact ⟨v5, rfl, HO5.out, HB5.out⟩
theorem erase_at {l : List Tk} (h : l.Pairwise (fun a b => a.no < b.no)) {i : Nat} (hi : i < l.length) : l.erase (l.getD i t0) = l.eraseIdx i := by
 rw [List.getD_eq_getElem?_getD, List.getElem?_eq_getElem hi]
 show l.erase l[i] = _
 rw [List.erase_eq_eraseIdx]
 have : l.idxOf? l[i] = some i := by
  rw [List.idxOf?, List.findIdx?_eq_some_iff_getElem]
  refine ⟨hi, by simp, fun j hj => ?_⟩
  have := List.pairwise_iff_getElem.1 h j i (by omega) hi hj
  have hne : l[j] ≠ l[i] := fun e => by rw [e] at this; omega
  simpa using hne
 rw [this]
end Go.Proofs.Ytacceeefcelkhaa.Al

namespace Go.Proofs.Ytacceeefcelkhaa.Al
open Go.RowKit Go.Proofs.Ytacceeefcelkhaa.DueHeap Go.Proofs.Ytacceeefcelkhaa.DueSpec Go.Proofs.YtacceeefcelkhaaW.PrintWords Go.Proofs.YtacceeefcelkhaaW.PrintLast Go.Proofs.YtacceeefcelkhaaW.PrintMore
set_option linter.unusedVariables false
set_option linter.unusedSimpArgs false
theorem drop_at {k : Nat} {q : Qs} (ho : DueSpec.Ok k q) {i : Nat} (hi : i < q.L.length) {no : Int} (he : (q.L.getD i t0).no = no) : dropQ q no = (⟨q.L.eraseIdx i, q.now, q.put⟩, 0) := by
 have hg : q.L.getD i t0 = q.L[i] := by rw [List.getD_eq_getElem?_getD, List.getElem?_eq_getElem hi]; rfl
 have := dropQ_of ho (x := q.L.getD i t0) (by rw [hg]; exact List.getElem_mem _)
 rw [he] at this
 rw [this, erase_at ho.rise hi]
def mnq (l : List Tk) (i : Nat) : Int := (l.take i).foldl (fun m y => min m y.at_) (l.getD 0 t0).at_
theorem mnq_succ {l : List Tk} {i : Nat} (h : i < l.length) : mnq l (i + 1) = min (mnq l i) (l.getD i t0).at_ := by
 unfold mnq
 rw [List.take_succ_eq_append_getElem h, List.foldl_append, List.getD_eq_getElem?_getD (i := i), List.getElem?_eq_getElem h]
 rfl
/-- The row set anew. -/
theorem RQ.newrow {W w w1 : World} {g : Nat} {q : Qs} {v v1 : Value} {l : List Tk} (h : RQ W w g q v) (hb : Below w.heap.size w w1) (hr : kT.R 65 w1 w.heap.size (fun _ => True) v1 l) : RQ W (w1.setCell ⟨g, 0, none⟩ v1) g ⟨l, q.now, q.put⟩ v1 ∧ KeepBut w (w1.setCell ⟨g, 0, none⟩ v1) g none := by
 have hx := blk_below h.blk hb
 have hne : some g ≠ v1.ownBlock := Kd.R_ne hr hx (by decide)
 exact ⟨⟨blk_set hx 0 v1, h.ge, Kd.R_grown1 (Kd.R_lower hr h.bel.size) rfl (due_grown w1 g 0 v1) hne, below_set (below_step h.bel hb) h.ge⟩, (KeepBut.of_below hb g none).set_ 0 v1⟩
set_option maxHeartbeats 8000000 in
set_option maxRecDepth 100000 in
theorem rdrop_calls (W w : World) (g : Nat) (q : Qs) (v : Value) (h : RQ W w g q v) (k : Nat) (ho : DueSpec.Ok k q) (no : Int) : Calls Try.prog 19 #[.pointer (some ⟨g, 0, none⟩), .int .i64 no] w fun e w' => e = .returned (.int .i64 (dropQ q no).2) ∧ ∃ v', RQ W w' g (dropQ q no).1 v' ∧ KeepBut w w' g none := by
 have hu65 := Try.underlying65
 have HH := Aside0.mk h
 have HO := Aside0.mk ho
 obtain ⟨A, c, hv⟩ := Kd.R_slice h.row
 subst hv
 obtain ⟨n, hn⟩ : ∃ n, n = q.L.length := ⟨_, rfl⟩
 have HN := Aside0.mk hn
 have f0 : w.cell? ⟨g, 0, none⟩ = some (.slice A n c) := by rw [hn]; exact (blk_cell h.blk 0).trans rfl
 have z0 := blk_frozen h.blk 0
 have hl := ho.len
 rw [← hn] at hl
 clear h ho hn
 go_enter Try.func19, Try.ntmps19
 go_wp2
 go_loop [5] (fun v5 => ∃ i : Nat, v5 = .int .i64 i ∧ i ≤ n ∧ Aside0 (∀ j, j < i → (q.L.getD j t0).no ≠ no)) (fun v5 => n - (intOf v5).toNat)
 case atStart => exact ⟨0, rfl, Nat.zero_le _, ⟨fun j hj => absurd hj (Nat.not_lt_zero _)⟩⟩
 case round =>
  obtain ⟨i, rfl, hi, HNO⟩ := hrel
  by_cases hlt : i < n
  ·have hform : ∃ ga c', (Value.slice A n c) = .slice (some ⟨ga, 0, none⟩) n c' := by
    obtain ⟨ga, c', e, _⟩ := Kd.R_form HH.out.row (by rw [← HN.out]; omega)
    rw [← HN.out] at e
    exact ⟨ga, c', e⟩
   obtain ⟨ga, c', hv⟩ := hform
   injection hv with hv _ hc
   subst hv hc
   have HRW : Aside0 (kT.R 65 w W.heap.size (fun _ => True) (.slice (some ⟨ga, 0, none⟩) n c) q.L) := ⟨by have := HH.out.row; rw [← HN.out] at this; exact this⟩
   obtain ⟨c0, c1, c2, c3, _⟩ := T4_cell HRW.out i hlt
   have b1 : decide ((i : Int) < (n : Int)) = true := decide_eq_true (by omega)
   have b2 : decide (i < n) = true := decide_eq_true hlt
   have HI := Aside0.mk hlt
   obtain ⟨x, hx⟩ : ∃ x, x = q.L.getD i t0 := ⟨_, rfl⟩
   rw [← hx] at c0 c1 c2 c3
   have HX := Aside0.mk hx
   clear hx
   by_cases hq : x.no = no
   ·have e1 : (x.no == no) = true := beq_iff_eq.2 hq
    have HR : Aside0 (dropQ q no = (⟨q.L.eraseIdx i, q.now, q.put⟩, 0)) := ⟨drop_at HO.out (by rw [← HN.out]; exact hlt) (by rw [← HX.out]; exact hq)⟩
    clear hq
    go_wp2_with (first | (go_at_call 31; refine (without_calls W w _ q.L HRW.out (by rw [← HN.out]; exact hl) i (by rw [← HN.out]; exact HI.out)).mono ?_; rintro e w1 ⟨v1, rfl, hr, hb⟩; have HN1 := Aside0.mk (HH.out.newrow hb hr); have f1 : w1.cell? ⟨g, 0, none⟩ = some (.slice (some ⟨ga, 0, none⟩) n c) := (hb.cell (World.block_lt_of_cell? w _ f0)).trans f0; have z1 := blk_frozen (blk_below HH.out.blk hb) 0; obtain ⟨A1, c1', hv1⟩ := Kd.R_slice hr; obtain ⟨n1, hn1⟩ : ∃ m : Nat, m = (q.L.eraseIdx i).length := ⟨_, rfl⟩; rw [← hn1] at hv1; subst hv1; clear hn1 hr hb f0 z0) | ((with_reducible refine gate_store (t := 43) (p := 33) rfl ?_); refine store_event (t := 43) (p := 33) (v := ?vo1) (w1 := (w1.setCell ⟨g, 0, none⟩ (.slice A1 n1 c1'))) ?hg1 ?ho1 ?hn1 ?hr1 ?_; (case ho1 => rfl); (case hg1 => rfl); (case hn1 => rfl); (case hr1 => first | (go_simp; done) | (go_simp; rfl)); intro w2 hw; rw [← hw] at HN1; clear hw f1 z1))
    go_ret
    rw [HR.out]
    exact ⟨rfl, _, HN1.out.1, HN1.out.2⟩
   ·have e1 : (x.no == no) = false := beq_eq_false_iff_ne.2 hq
    have HQ := Aside0.mk hq
    clear hq
    go_wp2
    go_round
    case rel =>
     refine ⟨i + 1, by go_num, HI.out, ⟨fun j hj => ?_⟩⟩
     by_cases e : j = i
     ·rw [e, ← HX.out]; exact HQ.out
     ·exact HNO.out j (by omega)
    case measure => have := HI.out; simp [intOf]; omega
  ·obtain rfl : i = n := by omega
   have b1 : decide ((i : Int) < (i : Int)) = false := decide_eq_false (by omega)
   have HR : Aside0 (dropQ q no = (q, 5)) := ⟨dropQ_none fun y hy => by
    obtain ⟨j, hj, rfl⟩ := List.getElem_of_mem hy
    have := HNO.out j (by rw [HN.out]; exact hj)
    rw [List.getD_eq_getElem?_getD, List.getElem?_eq_getElem hj] at this
    exact this⟩
   go_wp2
   go_ret
   rw [HR.out]
   exact ⟨rfl, ⟨_, HH.out⟩, KeepBut.refl _ _ _⟩
theorem next_full {q : Qs} (hp : 0 < q.L.length) : nextQ q = (mnq q.L q.L.length, true) := by
 unfold nextQ mnq
 rw [List.take_length]
 cases h : q.L with
 |nil => rw [h] at hp; cases hp
 |cons a l =>
  simp only [minAt, List.getD_cons_zero, List.foldl_cons]
  have : min a.at_ a.at_ = a.at_ := by omega
  rw [this]
set_option maxHeartbeats 8000000 in
set_option maxRecDepth 100000 in
theorem rnext_calls (W w : World) (g : Nat) (q : Qs) (v : Value) (h : RQ W w g q v) (k : Nat) (ho : DueSpec.Ok k q) : Calls Try.prog 22 #[.pointer (some ⟨g, 0, none⟩)] w fun e w' => e = .returned (.tuple #[.int .i64 (nextQ q).1, .bool (nextQ q).2]) ∧ Below w.heap.size w w' := by
 have hu65 := Try.underlying65
 have HH := Aside0.mk h
 obtain ⟨A, c, hv⟩ := Kd.R_slice h.row
 subst hv
 obtain ⟨n, hn⟩ : ∃ n, n = q.L.length := ⟨_, rfl⟩
 have HN := Aside0.mk hn
 have f0 : w.cell? ⟨g, 0, none⟩ = some (.slice A n c) := by rw [hn]; exact (blk_cell h.blk 0).trans rfl
 have hl := ho.len
 rw [← hn] at hl
 by_cases h0 : n = 0
 ·have e1 : ((n : Int) == 0) = true := by rw [h0]; rfl
  have HR : Aside0 (nextQ q = (0, false)) := ⟨by
   have : q.L = [] := List.eq_nil_of_length_eq_zero (by omega)
   unfold nextQ; rw [this]; rfl⟩
  rw [HR.out]
  clear h ho hn h0
  go_enter Try.func22, Try.ntmps22
  go_wp2
  exact bodyPost_ret (v := .tuple #[.int .i64 0, .bool false]) (by simp [results, Try.results22, go_sem]) rfl ⟨rfl, Below.refl _ _⟩
 ·have e1 : ((n : Int) == 0) = false := by rw [beq_eq_false_iff_ne]; omega
  have HR : Aside0 (nextQ q = (mnq q.L n, true)) := ⟨by rw [hn]; exact next_full (by omega)⟩
  rw [HR.out]
  have hform : ∃ ga c', (Value.slice A n c) = .slice (some ⟨ga, 0, none⟩) n c' := by
   obtain ⟨ga, c', e, _⟩ := Kd.R_form HH.out.row (by omega)
   rw [← hn] at e
   exact ⟨ga, c', e⟩
  obtain ⟨ga, c', hv⟩ := hform
  injection hv with hv _ hc
  subst hv hc
  have HRW : Aside0 (kT.R 65 w W.heap.size (fun _ => True) (.slice (some ⟨ga, 0, none⟩) n c) q.L) := ⟨by have := HH.out.row; rw [← hn] at this; exact this⟩
  have c0 := (T4_cell HRW.out 0 (by omega)).1
  rw [Nat.zero_mul] at c0
  have d3 : (0 < n) = True := eq_true (by omega)
  have HP := Aside0.mk (show 0 < n by omega)
  have hs1 : mnq q.L 1 = (q.L.getD 0 t0).at_ := by
   unfold mnq
   rw [List.take_succ_eq_append_getElem (show 0 < q.L.length by omega), List.getD_eq_getElem?_getD, List.getElem?_eq_getElem (show 0 < q.L.length by omega)]
   simp only [List.take_zero, List.nil_append, List.foldl_cons, List.foldl_nil, Option.getD_some]
   omega
  have HS1 := Aside0.mk hs1
  obtain ⟨z, hz⟩ : ∃ z, z = (q.L.getD 0 t0).at_ := ⟨_, rfl⟩
  rw [← hz] at c0 HS1
  clear h ho hn h0 hs1 hz
  go_enter Try.func22, Try.ntmps22
  go_wp2
  go_loop [4, 5] (fun v4 v5 => ∃ i : Nat, v5 = .int .i64 i ∧ 1 ≤ i ∧ i ≤ n ∧ v4 = .int .i64 (mnq q.L i)) (fun _ v5 => n - (intOf v5).toNat)
  case atStart => exact ⟨1, rfl, Nat.le_refl _, HP.out, by rw [HS1.out]⟩
  case round =>
   obtain ⟨i, rfl, hi1, hi, rfl⟩ := hrel
   by_cases hlt : i < n
   ·obtain ⟨c0', c1, c2, c3, _⟩ := T4_cell HRW.out i hlt
    have HS : Aside0 (mnq q.L (i + 1) = min (mnq q.L i) (q.L.getD i t0).at_) := ⟨mnq_succ (by rw [← HN.out]; exact hlt)⟩
    obtain ⟨x, hx⟩ : ∃ x, x = q.L.getD i t0 := ⟨_, rfl⟩
    rw [← hx] at c0' c1 c2 c3 HS
    have HI := Aside0.mk hlt
    have b1 : decide ((i : Int) < (n : Int)) = true := decide_eq_true (by omega)
    have b2 : decide (i < n) = true := decide_eq_true hlt
    obtain ⟨mm, hmm⟩ : ∃ mm, mm = mnq q.L i := ⟨_, rfl⟩
    rw [← hmm] at HS ⊢
    have hm1 : (if x.at_ < mm then x.at_ else mm) = min mm x.at_ := by split <;> omega
    have hm2 : (if mm < x.at_ then mm else x.at_) = min mm x.at_ := by split <;> omega
    clear hx hmm
    go_wp2
    go_round
    case rel => exact ⟨i + 1, by go_num, by omega, HI.out, by rw [HS.out]⟩
    case measure => have := HI.out; simp [intOf]; omega
   ·obtain rfl : i = n := by omega
    have b1 : decide ((i : Int) < (i : Int)) = false := decide_eq_false (by omega)
    go_wp2
    exact bodyPost_ret (v := .tuple #[.int .i64 (mnq q.L i), .bool true]) (by simp [results, Try.results22, go_sem]) rfl ⟨rfl, Below.refl _ _⟩
end Go.Proofs.Ytacceeefcelkhaa.Al
