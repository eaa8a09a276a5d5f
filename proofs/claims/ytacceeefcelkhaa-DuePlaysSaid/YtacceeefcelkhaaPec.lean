/- What the laws stand on, in one text: functions of the program by their contracts, the plain mathematics behind them, and such of the printed words as these use. It began as the kit's print and own texts; put together by a program (trim.py). -/
import Derived.Test.YtacceeefcelkhaaPeb
import Derived.Test.YtacceeefcelkhaaRows
import Derived.ChangeArms
import Derived.ChangeShapes
import Derived.SizedLaws

namespace Go.Proofs.Ytacceeefcelkhaa.Al
open Go.RowKit Go.Proofs.Ytacceeefcelkhaa.DueHeap Go.Proofs.Ytacceeefcelkhaa.DueSpec Go.Proofs.YtacceeefcelkhaaW.PrintWords Go.Proofs.YtacceeefcelkhaaW.PrintLast Go.Proofs.YtacceeefcelkhaaW.PrintMore
set_option linter.unusedVariables false
set_option linter.unusedSimpArgs false
theorem ahead_calls (a b : Tk) (w : World) : Calls Try.prog 30 #[a4 a, a4 b] w fun e w' => e = .returned (.bool (urgentT a b)) ∧ Below w.heap.size w w' := by
 by_cases h : a.urg = b.urg
 ·have f1 : (a.urg != b.urg) = false := by simp [h]
  by_cases h2 : a.at_ = b.at_
  ·have f2 : (a.at_ != b.at_) = false := by simp [h2]
   have HR : Aside0 (urgentT a b = decide (a.no < b.no)) := ⟨by unfold urgentT earlyT; rw [if_neg (by simp [h]), if_neg (by simp [h2])]⟩
   rw [HR.out]
   clear h h2
   go_enter Try.func30, Try.ntmps30
   go_wp2_with (first | ((with_reducible refine gate_dst (N := 2) rfl ?_); refine box_event ?hg (N := 2) ?hd (cs := #[.int .i64 a.at_, .int .i64 a.urg, .int .i64 a.id, .int .i64 a.no]) (t := 65) ?hr ?_; (case hd => rfl); (case hg => rfl); (case hr => first | (go_simp; done) | (go_simp; rfl)); intro g2 hg w1 hbox hb; have HX1 := Aside0.mk hbox; have HB1 := Aside0.mk hb; clear hg hbox hb) | ((with_reducible refine gate_dst (N := 3) rfl ?_); refine box_event ?hg3 (N := 3) ?hd3 (cs := #[.int .i64 b.at_, .int .i64 b.urg, .int .i64 b.id, .int .i64 b.no]) (t := 65) ?hr3 ?_; (case hd3 => rfl); (case hg3 => rfl); (case hr3 => first | (go_simp; done) | (go_simp; rfl)); intro g3 hg w2 hbox hb; have HB2 := Aside0.mk (below_step HB1.out hb); have HX2 := blk_below HX1.out hb; have p0 : w2.cell? ⟨g2, 0, none⟩ = some (.int .i64 a.at_) := (blk_cell HX2 0).trans rfl; have p1 : w2.cell? ⟨g2, 1, none⟩ = some (.int .i64 a.urg) := (blk_cell HX2 1).trans rfl; have p3 : w2.cell? ⟨g2, 3, none⟩ = some (.int .i64 a.no) := (blk_cell HX2 3).trans rfl; have q0 : w2.cell? ⟨g3, 0, none⟩ = some (.int .i64 b.at_) := (blk_cell hbox 0).trans rfl; have q1 : w2.cell? ⟨g3, 1, none⟩ = some (.int .i64 b.urg) := (blk_cell hbox 1).trans rfl; have q3 : w2.cell? ⟨g3, 3, none⟩ = some (.int .i64 b.no) := (blk_cell hbox 3).trans rfl; clear HX2 hg hbox hb))
   go_ret
   exact ⟨rfl, HB2.out⟩
  ·have f2 : (a.at_ != b.at_) = true := bne_iff_ne.2 h2
   have HR : Aside0 (urgentT a b = decide (a.at_ < b.at_)) := ⟨by unfold urgentT earlyT; rw [if_neg (by simp [h]), if_pos h2]⟩
   rw [HR.out]
   clear h h2
   go_enter Try.func30, Try.ntmps30
   go_wp2_with (first | ((with_reducible refine gate_dst (N := 2) rfl ?_); refine box_event ?hg (N := 2) ?hd (cs := #[.int .i64 a.at_, .int .i64 a.urg, .int .i64 a.id, .int .i64 a.no]) (t := 65) ?hr ?_; (case hd => rfl); (case hg => rfl); (case hr => first | (go_simp; done) | (go_simp; rfl)); intro g2 hg w1 hbox hb; have HX1 := Aside0.mk hbox; have HB1 := Aside0.mk hb; clear hg hbox hb) | ((with_reducible refine gate_dst (N := 3) rfl ?_); refine box_event ?hg3 (N := 3) ?hd3 (cs := #[.int .i64 b.at_, .int .i64 b.urg, .int .i64 b.id, .int .i64 b.no]) (t := 65) ?hr3 ?_; (case hd3 => rfl); (case hg3 => rfl); (case hr3 => first | (go_simp; done) | (go_simp; rfl)); intro g3 hg w2 hbox hb; have HB2 := Aside0.mk (below_step HB1.out hb); have HX2 := blk_below HX1.out hb; have p0 : w2.cell? ⟨g2, 0, none⟩ = some (.int .i64 a.at_) := (blk_cell HX2 0).trans rfl; have p1 : w2.cell? ⟨g2, 1, none⟩ = some (.int .i64 a.urg) := (blk_cell HX2 1).trans rfl; have q0 : w2.cell? ⟨g3, 0, none⟩ = some (.int .i64 b.at_) := (blk_cell hbox 0).trans rfl; have q1 : w2.cell? ⟨g3, 1, none⟩ = some (.int .i64 b.urg) := (blk_cell hbox 1).trans rfl; clear HX2 hg hbox hb))
   go_ret
   exact ⟨rfl, HB2.out⟩
 ·have f1 : (a.urg != b.urg) = true := bne_iff_ne.2 h
  have HR : Aside0 (urgentT a b = decide (b.urg < a.urg)) := ⟨by unfold urgentT; rw [if_pos h]⟩
  rw [HR.out]
  clear h
  go_enter Try.func30, Try.ntmps30
  go_wp2_with (first | ((with_reducible refine gate_dst (N := 2) rfl ?_); refine box_event ?hg (N := 2) ?hd (cs := #[.int .i64 a.at_, .int .i64 a.urg, .int .i64 a.id, .int .i64 a.no]) (t := 65) ?hr ?_; (case hd => rfl); (case hg => rfl); (case hr => first | (go_simp; done) | (go_simp; rfl)); intro g2 hg w1 hbox hb; have HX1 := Aside0.mk hbox; have HB1 := Aside0.mk hb; clear hg hbox hb) | ((with_reducible refine gate_dst (N := 3) rfl ?_); refine box_event ?hg3 (N := 3) ?hd3 (cs := #[.int .i64 b.at_, .int .i64 b.urg, .int .i64 b.id, .int .i64 b.no]) (t := 65) ?hr3 ?_; (case hd3 => rfl); (case hg3 => rfl); (case hr3 => first | (go_simp; done) | (go_simp; rfl)); intro g3 hg w2 hbox hb; have HB2 := Aside0.mk (below_step HB1.out hb); have HX2 := blk_below HX1.out hb; have p1 : w2.cell? ⟨g2, 1, none⟩ = some (.int .i64 a.urg) := (blk_cell HX2 1).trans rfl; have q1 : w2.cell? ⟨g3, 1, none⟩ = some (.int .i64 b.urg) := (blk_cell hbox 1).trans rfl; clear HX2 hg hbox hb))
  go_ret
  exact ⟨rfl, HB2.out⟩
def BI (q : Qs) (i : Nat) (b : Int) : Prop := (b = -1 ∧ ∀ j, j < i → q.now < (q.L.getD j t0).at_) ∨ ∃ k : Nat, b = k ∧ k < i ∧ (q.L.getD k t0).at_ ≤ q.now ∧ ∀ j, j < i → (q.L.getD j t0).at_ ≤ q.now → leU (q.L.getD k t0) (q.L.getD j t0)
theorem BI.skip {q : Qs} {i : Nat} {b : Int} (h : BI q i b) (ha : ¬ (q.L.getD i t0).at_ ≤ q.now) : BI q (i + 1) b := by
 rcases h with ⟨h, hj⟩ | ⟨k, h, hk, hd, hj⟩
 ·exact .inl ⟨h, fun j hlt => by
   by_cases e : j = i
   ·rw [e]; omega
   ·exact hj j (by omega)⟩
 ·exact .inr ⟨k, h, by omega, hd, fun j hlt hd' => by
   by_cases e : j = i
   ·rw [e] at hd'; exact absurd hd' ha
   ·exact hj j (by omega) hd'⟩
theorem BI.first {q : Qs} {i : Nat} {b : Int} (h : BI q i b) (hb : b < 0) (ha : (q.L.getD i t0).at_ ≤ q.now) : BI q (i + 1) i := by
 rcases h with ⟨h, hj⟩ | ⟨k, h, hk, hd, hj⟩
 ·exact .inr ⟨i, rfl, Nat.lt_succ_self _, ha, fun j hlt hd' => by
   by_cases e : j = i
   ·rw [e]; exact leU_rf _
   ·have := hj j (by omega); omega⟩
 ·omega
theorem BI.keep {q : Qs} {i k : Nat} (h : BI q i k) (hu : urgentT (q.L.getD i t0) (q.L.getD k t0) = false) : BI q (i + 1) k := by
 rcases h with ⟨h, hj⟩ | ⟨k', h, hk, hd, hj⟩
 ·omega
 ·obtain rfl : k = k' := by omega
  exact .inr ⟨k, rfl, by omega, hd, fun j hlt hd' => by
   by_cases e : j = i
   ·rw [e]; exact hu
   ·exact hj j (by omega) hd'⟩
theorem BI.new {q : Qs} {i k : Nat} (h : BI q i k) (ha : (q.L.getD i t0).at_ ≤ q.now) (hu : urgentT (q.L.getD i t0) (q.L.getD k t0) = true) : BI q (i + 1) i := by
 rcases h with ⟨h, hj⟩ | ⟨k', h, hk, hd, hj⟩
 ·omega
 ·obtain rfl : k = k' := by omega
  exact .inr ⟨i, rfl, Nat.lt_succ_self _, ha, fun j hlt hd' => by
   by_cases e : j = i
   ·rw [e]; exact leU_rf _
   ·exact leU_tr _ _ _ (leU_of hu) (hj j (by omega) hd')⟩
theorem BI.none_ {q : Qs} (h : BI q q.L.length (-1)) : takeQ q = (q, 0, false) := by
 rcases h with ⟨_, hj⟩ | ⟨k', h, hk, hd, hj⟩
 ·refine takeQ_none fun y hy => ?_
  obtain ⟨j, hj', rfl⟩ := List.getElem_of_mem hy
  have := hj j hj'
  rw [List.getD_eq_getElem?_getD, List.getElem?_eq_getElem hj'] at this
  exact this
 ·omega
theorem BI.some_ {c : Nat} {q : Qs} (ho : DueSpec.Ok c q) {k : Nat} (h : BI q q.L.length k) : k < q.L.length ∧ takeQ q = (⟨q.L.eraseIdx k, q.now, q.put⟩, (q.L.getD k t0).id, true) := by
 rcases h with ⟨_, hj⟩ | ⟨k', h, hk, hd, hj⟩
 ·omega
 ·obtain rfl : k = k' := by omega
  refine ⟨hk, ?_⟩
  have hg : q.L.getD k t0 = q.L[k] := by rw [List.getD_eq_getElem?_getD, List.getElem?_eq_getElem hk]; rfl
  rw [takeQ_of ho (x := q.L.getD k t0) (by rw [hg]; exact List.getElem_mem _) hd (fun y hy hdy => ?_), erase_at ho.rise hk]
  obtain ⟨j, hj', rfl⟩ := List.getElem_of_mem hy
  have := hj j hj'
  rw [List.getD_eq_getElem?_getD (i := j), List.getElem?_eq_getElem hj'] at this
  exact this hdy
def rg18_5_T : Bool × List (List Nat × List Nat) := (true, [([], []), ([0], [0]), ([1], [1]), ([2], [2]), ([], []), ([3, 4], [3, 4]), ([5], [5]), ([6], [6]), ([], []), ([8], [8]), ([9], [9]), ([10], [10]), ([7, 11], [7, 11]), ([12], [12]), ([13], [13]), ([14, 13], [13, 14]), ([15, 13, 13], [13, 15]), ([16], [16]), ([17, 16], [16, 17]), ([18, 16], [16, 18]), ([19, 16], [16, 19]), ([16], [16]), ([20, 21, 16], [16, 20, 21]), ([22, 16], [16, 22]), ([16], [16]), ([24, 16], [16, 24]), ([25, 16], [16, 25]), ([26, 16], [16, 26]), ([16], [16]), ([27, 28, 16], [16, 27, 28]), ([29, 16], [16, 29]), ([23, 30, 16, 16], [16, 23, 30]), ([16, 31, 13], [13, 16, 31]), ([13, 32], [13, 32])])
def rg18_5_B : List Nat := [0, 1, 3, 7, 0, 31, 63, 127, 0, 256, 768, 1792, 4095, 8191, 16383, 32767, 65535, 131071, 262143, 524287, 1048575, 131071, 4194303, 8388607, 131071, 16908287, 50462719, 117571583, 131071, 520224767, 1057095679, 2147483647, 4294967295, 8589934591]
theorem rg18_5_tab : rtab .any (opsOf Try.f18 5) = rg18_5_T := by kernel_rfl
theorem rg18_5_bits : waitsOk rg18_5_T.2 rg18_5_B = true := by kernel_rfl
set_option maxHeartbeats 16000000 in
set_option maxRecDepth 100000 in
theorem rtake_calls (W w : World) (g : Nat) (q : Qs) (v : Value) (h : RQ W w g q v) (c0 : Nat) (ho : DueSpec.Ok c0 q) : Calls Try.prog 18 #[.pointer (some ⟨g, 0, none⟩)] w fun e w' => e = .returned (.tuple #[.int .i64 (takeQ q).2.1, .bool (takeQ q).2.2]) ∧ ∃ v', RQ W w' g (takeQ q).1 v' ∧ KeepBut w w' g none := by
 have hu65 := Try.underlying65
 have HH := Aside0.mk h
 have HO := Aside0.mk ho
 obtain ⟨A, c, hv⟩ := Kd.R_slice h.row
 subst hv
 obtain ⟨n, hn⟩ : ∃ n, n = q.L.length := ⟨_, rfl⟩
 have HN := Aside0.mk hn
 rw [← hn] at h HH
 have hl := ho.len
 rw [← hn] at hl
 have HW0 : Aside0 (RQ W w g q (.slice A n c) ∧ Below w.heap.size w w) := ⟨h, Below.refl _ _⟩
 clear h ho hn
 go_enter Try.func18, Try.ntmps18
 go_wp2
 go_loopw [4, 5] (fun v4 v5 wr => ∃ (i : Nat) (b : Int), v5 = .int .i64 i ∧ v4 = .int .i64 b ∧ i ≤ n ∧ -1 ≤ b ∧ b ≤ n ∧ Aside0 (BI q i b) ∧ Aside0 (RQ W wr g q (.slice A n c) ∧ Below w.heap.size w wr)) (fun _ v5 _ => n - (intOf v5).toNat)
 case atStart => exact ⟨0, -1, rfl, rfl, Nat.zero_le _, by omega, by omega, ⟨.inl ⟨rfl, fun j hj => absurd hj (Nat.not_lt_zero _)⟩⟩, HW0⟩
 case round =>
  obtain ⟨i, b, rfl, rfl, hi, hb1, hb2, HB, HR⟩ := hrel
  clear HW0
  have f0 : wr.cell? ⟨g, 0, none⟩ = some (.slice A n c) := (blk_cell HR.out.1.blk 0).trans rfl
  by_cases hlt : i < n
  ·have hform : ∃ ga c', (Value.slice A n c) = .slice (some ⟨ga, 0, none⟩) n c' := by
    obtain ⟨ga, c', e, _⟩ := Kd.R_form HH.out.row (by rw [← HN.out]; omega)
    rw [← HN.out] at e
    exact ⟨ga, c', e⟩
   obtain ⟨ga, c', hv⟩ := hform
   injection hv with hv _ hc
   subst hv hc
   have HD : Aside0 (RQ W wr.drew g q (.slice (some ⟨ga, 0, none⟩) n c) ∧ Below w.heap.size w wr.drew) := ⟨HR.out.1.drew, below_step HR.out.2 (below_drew (Below.refl _ _))⟩
   have s1 := HD.out.1.blk
   obtain ⟨s2, s3, s4, s5, _⟩ := T4_cell HD.out.1.row i hlt
   obtain ⟨x, hx⟩ : ∃ x, x = q.L.getD i t0 := ⟨_, rfl⟩
   rw [← hx] at s2 s3 s4 s5
   have HX := Aside0.mk hx
   have b1 : decide ((i : Int) < (n : Int)) = true := decide_eq_true (by omega)
   have b2 : decide (i < n) = true := decide_eq_true hlt
   have HI := Aside0.mk hlt
   have HS : Aside0 (wr.drew.heap[g]? = some (.cells #[.slice (some ⟨ga, 0, none⟩) n c, .int .i64 q.now, .int .i64 q.put] 45 (0, 0)) ∧ wr.drew.cell? ⟨ga, i * 4, none⟩ = some (.int .i64 x.at_)) := ⟨s1, s2⟩
   clear hx
   by_cases hq : x.at_ ≤ q.now
   ·have e1 : decide (x.at_ ≤ q.now) = true := decide_eq_true hq
    have HQ := Aside0.mk hq
    clear hq
    by_cases hb0 : b < 0
    ·have e2 : decide (b < 0) = true := decide_eq_true hb0
     have HB0 := Aside0.mk hb0
     clear hb0
     go_upto_region 5 with (fail)
     clear f0 HR
     refine start_ (n := 34) (S := fun w' => w'.heap[g]? = some (.cells #[.slice (some ⟨ga, 0, none⟩) n c, .int .i64 q.now, .int .i64 q.put] 45 (0, 0)) ∧ w'.cell? ⟨ga, i * 4, none⟩ = some (.int .i64 x.at_)) (ds := []) #[false, false, false, false, false, false, false, false, false, false, false, false, false, false, false, false, false, false, false, false, false, false, false, false, false, false, false, false, false, false, false, false, false, false] (by kernel_rfl) rfl rfl ⟨s1, s2⟩ (fun hHeld => ?_)
     refine with_tabW rg18_5_tab rg18_5_bits (fun HT_ HW_ => ?_)
     refine pure_ (i := 0) (N := some 16) (v := ?_) (a' := ?_) #[true, false, false, false, false, false, false, false, false, false, false, false, false, false, false, false, false, false, false, false, false, false, false, false, false, false, false, false, false, false, false, false, false, false] rfl rfl (any_of HT_.out (by kernel_rfl)) (fun _ _ _ h => h) (Or.inl ⟨by rfl, ?_⟩) ?_ ?_
     rotate_left
     ·intro w'
      go_simp
      with_reducible rfl
     rotate_left
     ·simp only [Act.put, List.setIfInBounds_toArray, List.set_cons_zero, List.set_cons_succ, i64_w, i32_w]
      rfl
     refine pure_ (i := 1) (N := some 17) (v := ?_) (a' := ?_) #[true, true, false, false, false, false, false, false, false, false, false, false, false, false, false, false, false, false, false, false, false, false, false, false, false, false, false, false, false, false, false, false, false, false] rfl rfl (any_of HT_.out (by kernel_rfl)) (fun _ _ _ h => h) (Or.inl ⟨by rfl, ?_⟩) ?_ ?_
     rotate_left
     ·intro w'
      go_simp
      with_reducible rfl
     rotate_left
     ·simp only [Act.put, List.setIfInBounds_toArray, List.set_cons_zero, List.set_cons_succ, i64_w, i32_w]
      rfl
     refine pure_ (i := 2) (N := some 18) (v := ?_) (a' := ?_) #[true, true, true, false, false, false, false, false, false, false, false, false, false, false, false, false, false, false, false, false, false, false, false, false, false, false, false, false, false, false, false, false, false, false] rfl rfl (any_of HT_.out (by kernel_rfl)) (fun _ _ _ h => h) (Or.inl ⟨by rfl, ?_⟩) ?_ ?_
     rotate_left
     ·intro w'
      go_simp
      with_reducible rfl
     rotate_left
     ·simp only [Act.put, List.setIfInBounds_toArray, List.set_cons_zero, List.set_cons_succ, i64_w, i32_w]
      rfl
     refine take_ (i := 3) (N := some 19) (v := ?_) (a' := ?_) #[true, true, true, true, false, false, false, false, false, false, false, false, false, false, false, false, false, false, false, false, false, false, false, false, false, false, false, false, false, false, false, false, false, false] rfl rfl (take_ofW HT_.out HW_.out (by kernel_rfl)) (fun _ _ _ h => h) (Or.inl ⟨by rfl, ?_⟩) hHeld ?_ ?_
     rotate_left
     ·rintro w' ⟨t1, t2⟩
      have y0 : w'.cell? ⟨g, 0, none⟩ = some (.slice (some ⟨ga, 0, none⟩) n c) := (blk_cell t1 0).trans rfl
      go_simp
      with_reducible rfl
     rotate_left
     ·simp only [Act.put, List.setIfInBounds_toArray, List.set_cons_zero, List.set_cons_succ, i64_w, i32_w]
      rfl
     refine pure_ (i := 4) (N := some 20) (v := ?_) (a' := ?_) #[true, true, true, true, true, false, false, false, false, false, false, false, false, false, false, false, false, false, false, false, false, false, false, false, false, false, false, false, false, false, false, false, false, false] rfl rfl (any_of HT_.out (by kernel_rfl)) (fun _ _ _ h => h) (Or.inl ⟨by rfl, ?_⟩) ?_ ?_
     rotate_left
     ·intro w'
      go_simp
      with_reducible rfl
     rotate_left
     ·simp only [Act.put, List.setIfInBounds_toArray, List.set_cons_zero, List.set_cons_succ, i64_w, i32_w]
      rfl
     refine pure_ (i := 5) (N := some 21) (v := ?_) (a' := ?_) #[true, true, true, true, true, true, false, false, false, false, false, false, false, false, false, false, false, false, false, false, false, false, false, false, false, false, false, false, false, false, false, false, false, false] rfl rfl (any_of HT_.out (by kernel_rfl)) (fun _ _ _ h => h) (Or.inl ⟨by rfl, ?_⟩) ?_ ?_
     rotate_left
     ·intro w'
      go_simp
      with_reducible rfl
     rotate_left
     ·simp only [Act.put, List.setIfInBounds_toArray, List.set_cons_zero, List.set_cons_succ, i64_w, i32_w]
      rfl
     refine pure_ (i := 6) (N := some 22) (v := ?_) (a' := ?_) #[true, true, true, true, true, true, true, false, false, false, false, false, false, false, false, false, false, false, false, false, false, false, false, false, false, false, false, false, false, false, false, false, false, false] rfl rfl (any_of HT_.out (by kernel_rfl)) (fun _ _ _ h => h) (Or.inl ⟨by rfl, ?_⟩) ?_ ?_
     rotate_left
     ·intro w'
      go_simp
      with_reducible rfl
     rotate_left
     ·simp only [Act.put, List.setIfInBounds_toArray, List.set_cons_zero, List.set_cons_succ, i64_w, i32_w]
      rfl
     refine take_ (i := 7) (N := some 23) (v := ?_) (a' := ?_) #[true, true, true, true, true, true, true, true, false, false, false, false, false, false, false, false, false, false, false, false, false, false, false, false, false, false, false, false, false, false, false, false, false, false] rfl rfl (take_ofW HT_.out HW_.out (by kernel_rfl)) (fun _ _ _ h => h) (Or.inl ⟨by rfl, ?_⟩) hHeld ?_ ?_
     rotate_left
     ·rintro w' ⟨t1, t2⟩
      go_simp
      with_reducible rfl
     rotate_left
     ·simp only [Act.put, List.setIfInBounds_toArray, List.set_cons_zero, List.set_cons_succ, i64_w, i32_w]
      rfl
     refine pure_ (i := 8) (N := some 24) (v := ?_) (a' := ?_) #[true, true, true, true, true, true, true, true, true, false, false, false, false, false, false, false, false, false, false, false, false, false, false, false, false, false, false, false, false, false, false, false, false, false] rfl rfl (any_of HT_.out (by kernel_rfl)) (fun _ _ _ h => h) (Or.inl ⟨by rfl, ?_⟩) ?_ ?_
     rotate_left
     ·intro w'
      go_simp
      with_reducible rfl
     rotate_left
     ·simp only [Act.put, List.setIfInBounds_toArray, List.set_cons_zero, List.set_cons_succ, i64_w, i32_w]
      rfl
     refine pure_ (i := 9) (N := some 25) (v := ?_) (a' := ?_) #[true, true, true, true, true, true, true, true, true, true, false, false, false, false, false, false, false, false, false, false, false, false, false, false, false, false, false, false, false, false, false, false, false, false] rfl rfl (any_of HT_.out (by kernel_rfl)) (fun _ _ _ h => h) (Or.inl ⟨by rfl, ?_⟩) ?_ ?_
     rotate_left
     ·intro w'
      go_simp
      with_reducible rfl
     rotate_left
     ·simp only [Act.put, List.setIfInBounds_toArray, List.set_cons_zero, List.set_cons_succ, i64_w, i32_w]
      rfl
     refine pure_ (i := 10) (N := some 26) (v := ?_) (a' := ?_) #[true, true, true, true, true, true, true, true, true, true, true, false, false, false, false, false, false, false, false, false, false, false, false, false, false, false, false, false, false, false, false, false, false, false] rfl rfl (any_of HT_.out (by kernel_rfl)) (fun _ _ _ h => h) (Or.inl ⟨by rfl, ?_⟩) ?_ ?_
     rotate_left
     ·intro w'
      go_simp
      with_reducible rfl
     rotate_left
     ·simp only [Act.put, List.setIfInBounds_toArray, List.set_cons_zero, List.set_cons_succ, i64_w, i32_w]
      rfl
     refine take_ (i := 11) (N := some 27) (v := ?_) (a' := ?_) #[true, true, true, true, true, true, true, true, true, true, true, true, false, false, false, false, false, false, false, false, false, false, false, false, false, false, false, false, false, false, false, false, false, false] rfl rfl (take_ofW HT_.out HW_.out (by kernel_rfl)) (fun _ _ _ h => h) (Or.inl ⟨by rfl, ?_⟩) hHeld ?_ ?_
     rotate_left
     ·rintro w' ⟨t1, t2⟩
      have y1 : w'.cell? ⟨g, 1, none⟩ = some (.int .i64 q.now) := (blk_cell t1 1).trans rfl
      go_simp
      with_reducible rfl
     rotate_left
     ·simp only [Act.put, List.setIfInBounds_toArray, List.set_cons_zero, List.set_cons_succ, i64_w, i32_w]
      rfl
     refine pure_ (i := 12) (N := some 28) (v := ?_) (a' := ?_) #[true, true, true, true, true, true, true, true, true, true, true, true, true, false, false, false, false, false, false, false, false, false, false, false, false, false, false, false, false, false, false, false, false, false] rfl rfl (any_of HT_.out (by kernel_rfl)) (fun _ _ _ h => h) (Or.inl ⟨by rfl, ?_⟩) ?_ ?_
     rotate_left
     ·intro w'
      go_simp
      with_reducible rfl
     rotate_left
     ·simp only [Act.put, List.setIfInBounds_toArray, List.set_cons_zero, List.set_cons_succ, i64_w, i32_w]
      rfl
     refine pure_ (i := 13) (N := some 29) (v := ?_) (a' := ?_) #[true, true, true, true, true, true, true, true, true, true, true, true, true, true, false, false, false, false, false, false, false, false, false, false, false, false, false, false, false, false, false, false, false, false] rfl rfl (any_of HT_.out (by kernel_rfl)) (fun _ _ _ h => h) (Or.inl ⟨by rfl, ?_⟩) ?_ ?_
     rotate_left
     ·intro w'
      go_simp
      with_reducible rfl
     rotate_left
     ·simp only [Act.put, List.setIfInBounds_toArray, List.set_cons_zero, List.set_cons_succ, i64_w, i32_w]
      rfl
     refine pure_ (i := 14) (N := some 30) (v := ?_) (a' := ?_) #[true, true, true, true, true, true, true, true, true, true, true, true, true, true, true, false, false, false, false, false, false, false, false, false, false, false, false, false, false, false, false, false, false, false] rfl rfl (any_of HT_.out (by kernel_rfl)) (fun _ _ _ h => h) (Or.inl ⟨by rfl, ?_⟩) ?_ ?_
     rotate_left
     ·intro w'
      go_simp
      with_reducible rfl
     rotate_left
     ·simp only [Act.put, List.setIfInBounds_toArray, List.set_cons_zero, List.set_cons_succ, i64_w, i32_w]
      rfl
     refine pure_ (i := 15) (N := some 31) (v := ?_) (a' := ?_) #[true, true, true, true, true, true, true, true, true, true, true, true, true, true, true, true, false, false, false, false, false, false, false, false, false, false, false, false, false, false, false, false, false, false] rfl rfl (any_of HT_.out (by kernel_rfl)) (fun _ _ _ h => h) (Or.inl ⟨by rfl, ?_⟩) ?_ ?_
     rotate_left
     ·intro w'
      go_simp
      with_reducible rfl
     rotate_left
     ·simp only [Act.put, List.setIfInBounds_toArray, List.set_cons_zero, List.set_cons_succ, i64_w, i32_w]
      rfl
     refine pure_ (i := 16) (N := some 32) (v := ?_) (a' := ?_) #[true, true, true, true, true, true, true, true, true, true, true, true, true, true, true, true, true, false, false, false, false, false, false, false, false, false, false, false, false, false, false, false, false, false] rfl rfl (any_of HT_.out (by kernel_rfl)) (fun _ _ _ h => h) (Or.inl ⟨by rfl, ?_⟩) ?_ ?_
     rotate_left
     ·intro w'
      go_simp
      with_reducible rfl
     rotate_left
     ·simp only [Act.put, List.setIfInBounds_toArray, List.set_cons_zero, List.set_cons_succ, i64_w, i32_w]
      rfl
     refine pure_ (i := 17) (N := some 33) (v := undef) (a' := ?_) #[true, true, true, true, true, true, true, true, true, true, true, true, true, true, true, true, true, true, false, false, false, false, false, false, false, false, false, false, false, false, false, false, false, false] rfl rfl (any_of HT_.out (by kernel_rfl)) (fun _ _ _ h => h) (Or.inr ⟨by rfl, rfl⟩) ?_ ?_
     rotate_left
     ·simp only [Act.put, List.setIfInBounds_toArray, List.set_cons_zero, List.set_cons_succ, i64_w, i32_w]
      rfl
     refine pure_ (i := 18) (N := some 34) (v := undef) (a' := ?_) #[true, true, true, true, true, true, true, true, true, true, true, true, true, true, true, true, true, true, true, false, false, false, false, false, false, false, false, false, false, false, false, false, false, false] rfl rfl (any_of HT_.out (by kernel_rfl)) (fun _ _ _ h => h) (Or.inr ⟨by rfl, rfl⟩) ?_ ?_
     rotate_left
     ·simp only [Act.put, List.setIfInBounds_toArray, List.set_cons_zero, List.set_cons_succ, i64_w, i32_w]
      rfl
     refine pure_ (i := 19) (N := some 35) (v := undef) (a' := ?_) #[true, true, true, true, true, true, true, true, true, true, true, true, true, true, true, true, true, true, true, true, false, false, false, false, false, false, false, false, false, false, false, false, false, false] rfl rfl (any_of HT_.out (by kernel_rfl)) (fun _ _ _ h => h) (Or.inr ⟨by rfl, rfl⟩) ?_ ?_
     rotate_left
     ·simp only [Act.put, List.setIfInBounds_toArray, List.set_cons_zero, List.set_cons_succ, i64_w, i32_w]
      rfl
     refine pure_ (i := 20) (N := some 36) (v := undef) (a' := ?_) #[true, true, true, true, true, true, true, true, true, true, true, true, true, true, true, true, true, true, true, true, true, false, false, false, false, false, false, false, false, false, false, false, false, false] rfl rfl (any_of HT_.out (by kernel_rfl)) (fun _ _ _ h => h) (Or.inr ⟨by rfl, rfl⟩) ?_ ?_
     rotate_left
     ·simp only [Act.put, List.setIfInBounds_toArray, List.set_cons_zero, List.set_cons_succ, i64_w, i32_w]
      rfl
     refine pure_ (i := 21) (N := some 37) (v := undef) (a' := ?_) #[true, true, true, true, true, true, true, true, true, true, true, true, true, true, true, true, true, true, true, true, true, true, false, false, false, false, false, false, false, false, false, false, false, false] rfl rfl (any_of HT_.out (by kernel_rfl)) (fun _ _ _ h => h) (Or.inr ⟨by rfl, rfl⟩) ?_ ?_
     rotate_left
     ·simp only [Act.put, List.setIfInBounds_toArray, List.set_cons_zero, List.set_cons_succ, i64_w, i32_w]
      rfl
     refine pure_ (i := 22) (N := some 38) (v := undef) (a' := ?_) #[true, true, true, true, true, true, true, true, true, true, true, true, true, true, true, true, true, true, true, true, true, true, true, false, false, false, false, false, false, false, false, false, false, false] rfl rfl (any_of HT_.out (by kernel_rfl)) (fun _ _ _ h => h) (Or.inr ⟨by rfl, rfl⟩) ?_ ?_
     rotate_left
     ·simp only [Act.put, List.setIfInBounds_toArray, List.set_cons_zero, List.set_cons_succ, i64_w, i32_w]
      rfl
     refine pure_ (i := 23) (N := some 39) (v := undef) (a' := ?_) #[true, true, true, true, true, true, true, true, true, true, true, true, true, true, true, true, true, true, true, true, true, true, true, true, false, false, false, false, false, false, false, false, false, false] rfl rfl (any_of HT_.out (by kernel_rfl)) (fun _ _ _ h => h) (Or.inr ⟨by rfl, rfl⟩) ?_ ?_
     rotate_left
     ·simp only [Act.put, List.setIfInBounds_toArray, List.set_cons_zero, List.set_cons_succ, i64_w, i32_w]
      rfl
     refine pure_ (i := 24) (N := some 40) (v := undef) (a' := ?_) #[true, true, true, true, true, true, true, true, true, true, true, true, true, true, true, true, true, true, true, true, true, true, true, true, true, false, false, false, false, false, false, false, false, false] rfl rfl (any_of HT_.out (by kernel_rfl)) (fun _ _ _ h => h) (Or.inr ⟨by rfl, rfl⟩) ?_ ?_
     rotate_left
     ·simp only [Act.put, List.setIfInBounds_toArray, List.set_cons_zero, List.set_cons_succ, i64_w, i32_w]
      rfl
     refine pure_ (i := 25) (N := some 41) (v := undef) (a' := ?_) #[true, true, true, true, true, true, true, true, true, true, true, true, true, true, true, true, true, true, true, true, true, true, true, true, true, true, false, false, false, false, false, false, false, false] rfl rfl (any_of HT_.out (by kernel_rfl)) (fun _ _ _ h => h) (Or.inr ⟨by rfl, rfl⟩) ?_ ?_
     rotate_left
     ·simp only [Act.put, List.setIfInBounds_toArray, List.set_cons_zero, List.set_cons_succ, i64_w, i32_w]
      rfl
     refine pure_ (i := 26) (N := some 42) (v := undef) (a' := ?_) #[true, true, true, true, true, true, true, true, true, true, true, true, true, true, true, true, true, true, true, true, true, true, true, true, true, true, true, false, false, false, false, false, false, false] rfl rfl (any_of HT_.out (by kernel_rfl)) (fun _ _ _ h => h) (Or.inr ⟨by rfl, rfl⟩) ?_ ?_
     rotate_left
     ·simp only [Act.put, List.setIfInBounds_toArray, List.set_cons_zero, List.set_cons_succ, i64_w, i32_w]
      rfl
     refine pure_ (i := 27) (N := some 43) (v := undef) (a' := ?_) #[true, true, true, true, true, true, true, true, true, true, true, true, true, true, true, true, true, true, true, true, true, true, true, true, true, true, true, true, false, false, false, false, false, false] rfl rfl (any_of HT_.out (by kernel_rfl)) (fun _ _ _ h => h) (Or.inr ⟨by rfl, rfl⟩) ?_ ?_
     rotate_left
     ·simp only [Act.put, List.setIfInBounds_toArray, List.set_cons_zero, List.set_cons_succ, i64_w, i32_w]
      rfl
     refine pure_ (i := 28) (N := some 44) (v := undef) (a' := ?_) #[true, true, true, true, true, true, true, true, true, true, true, true, true, true, true, true, true, true, true, true, true, true, true, true, true, true, true, true, true, false, false, false, false, false] rfl rfl (any_of HT_.out (by kernel_rfl)) (fun _ _ _ h => h) (Or.inr ⟨by rfl, rfl⟩) ?_ ?_
     rotate_left
     ·simp only [Act.put, List.setIfInBounds_toArray, List.set_cons_zero, List.set_cons_succ, i64_w, i32_w]
      rfl
     refine pure_ (i := 29) (N := some 45) (v := undef) (a' := ?_) #[true, true, true, true, true, true, true, true, true, true, true, true, true, true, true, true, true, true, true, true, true, true, true, true, true, true, true, true, true, true, false, false, false, false] rfl rfl (any_of HT_.out (by kernel_rfl)) (fun _ _ _ h => h) (Or.inr ⟨by rfl, rfl⟩) ?_ ?_
     rotate_left
     ·simp only [Act.put, List.setIfInBounds_toArray, List.set_cons_zero, List.set_cons_succ, i64_w, i32_w]
      rfl
     refine pure_ (i := 30) (N := some 46) (v := undef) (a' := ?_) #[true, true, true, true, true, true, true, true, true, true, true, true, true, true, true, true, true, true, true, true, true, true, true, true, true, true, true, true, true, true, true, false, false, false] rfl rfl (any_of HT_.out (by kernel_rfl)) (fun _ _ _ h => h) (Or.inr ⟨by rfl, rfl⟩) ?_ ?_
     rotate_left
     ·simp only [Act.put, List.setIfInBounds_toArray, List.set_cons_zero, List.set_cons_succ, i64_w, i32_w]
      rfl
     refine pure_ (i := 31) (N := some 47) (v := undef) (a' := ?_) #[true, true, true, true, true, true, true, true, true, true, true, true, true, true, true, true, true, true, true, true, true, true, true, true, true, true, true, true, true, true, true, true, false, false] rfl rfl (any_of HT_.out (by kernel_rfl)) (fun _ _ _ h => h) (Or.inr ⟨by rfl, rfl⟩) ?_ ?_
     rotate_left
     ·simp only [Act.put, List.setIfInBounds_toArray, List.set_cons_zero, List.set_cons_succ, i64_w, i32_w]
      rfl
     refine pure_ (i := 32) (N := some 48) (v := ?_) (a' := ?_) #[true, true, true, true, true, true, true, true, true, true, true, true, true, true, true, true, true, true, true, true, true, true, true, true, true, true, true, true, true, true, true, true, true, false] rfl rfl (any_of HT_.out (by kernel_rfl)) (fun _ _ _ h => h) (Or.inl ⟨by rfl, ?_⟩) ?_ ?_
     rotate_left
     ·intro w'
      go_simp
      with_reducible rfl
     rotate_left
     ·simp only [Act.put, List.setIfInBounds_toArray, List.set_cons_zero, List.set_cons_succ, i64_w, i32_w]
      rfl
     refine pure_ (i := 33) (N := some 49) (v := ?_) (a' := ?_) #[true, true, true, true, true, true, true, true, true, true, true, true, true, true, true, true, true, true, true, true, true, true, true, true, true, true, true, true, true, true, true, true, true, true] rfl rfl (any_of HT_.out (by kernel_rfl)) (fun _ _ _ h => h) (Or.inl ⟨by rfl, ?_⟩) ?_ ?_
     rotate_left
     ·intro w'
      go_simp
      with_reducible rfl
     rotate_left
     ·simp only [Act.put, List.setIfInBounds_toArray, List.set_cons_zero, List.set_cons_succ, i64_w, i32_w]
      rfl
     refine done_ (done_of HT_.out (by kernel_rfl)) ?_
     clear hHeld HS s1 s2 s3 s4 s5
     go_wp2
     go_round
     case rel => exact ⟨i + 1, i, by go_num, rfl, HI.out, by omega, by have := HI.out; omega, ⟨HB.out.first HB0.out (by rw [← HX.out]; exact HQ.out)⟩, HD⟩
     case measure => have := HI.out; simp [intOf]; omega
    ·have e2 : decide (b < 0) = false := decide_eq_false hb0
     obtain ⟨k, rfl⟩ : ∃ k : Nat, b = k := ⟨b.toNat, by omega⟩
     have hkn : k < n := by
      rcases HB.out with ⟨h, _⟩ | ⟨k', h, hk, _⟩ <;> omega
     have b4 : decide (k < n) = true := decide_eq_true hkn
     clear hb0
     obtain ⟨z2, z3, z4, z5, _⟩ := T4_cell HD.out.1.row k hkn
     obtain ⟨y, hy⟩ : ∃ y, y = q.L.getD k t0 := ⟨_, rfl⟩
     rw [← hy] at z2 z3 z4 z5
     have HY := Aside0.mk hy
     clear hy
     cases hu : urgentT x y with
     |true =>
      have HU := Aside0.mk hu
      go_upto_region 5 with (fail)
      clear f0 HR
      refine start_ (n := 34) (S := fun w' => w'.heap[g]? = some (.cells #[.slice (some ⟨ga, 0, none⟩) n c, .int .i64 q.now, .int .i64 q.put] 45 (0, 0)) ∧ w'.cell? ⟨ga, i * 4, none⟩ = some (.int .i64 x.at_) ∧ w'.cell? ⟨ga, i * 4 + 1, none⟩ = some (.int .i64 x.urg) ∧ w'.cell? ⟨ga, i * 4 + 2, none⟩ = some (.int .i64 x.id) ∧ w'.cell? ⟨ga, i * 4 + 3, none⟩ = some (.int .i64 x.no) ∧ w'.cell? ⟨ga, k * 4, none⟩ = some (.int .i64 y.at_) ∧ w'.cell? ⟨ga, k * 4 + 1, none⟩ = some (.int .i64 y.urg) ∧ w'.cell? ⟨ga, k * 4 + 2, none⟩ = some (.int .i64 y.id) ∧ w'.cell? ⟨ga, k * 4 + 3, none⟩ = some (.int .i64 y.no)) (ds := [31, 32, 33]) #[false, false, false, false, false, false, false, false, false, false, false, false, false, false, false, false, false, false, false, false, false, false, false, false, false, false, false, false, false, false, false, false, false, false] (by kernel_rfl) rfl rfl ⟨s1, s2, s3, s4, s5, z2, z3, z4, z5⟩ (fun hHeld => ?_)
      refine with_tabW rg18_5_tab rg18_5_bits (fun HT_ HW_ => ?_)
      refine pure_ (i := 0) (N := some 16) (v := ?_) (a' := ?_) #[true, false, false, false, false, false, false, false, false, false, false, false, false, false, false, false, false, false, false, false, false, false, false, false, false, false, false, false, false, false, false, false, false, false] rfl rfl (any_of HT_.out (by kernel_rfl)) (fun _ _ _ h => h) (Or.inl ⟨by rfl, ?_⟩) ?_ ?_
      rotate_left
      ·intro w'
       go_simp
       with_reducible rfl
      rotate_left
      ·simp only [Act.put, List.setIfInBounds_toArray, List.set_cons_zero, List.set_cons_succ, i64_w, i32_w]
       rfl
      refine pure_ (i := 1) (N := some 17) (v := ?_) (a' := ?_) #[true, true, false, false, false, false, false, false, false, false, false, false, false, false, false, false, false, false, false, false, false, false, false, false, false, false, false, false, false, false, false, false, false, false] rfl rfl (any_of HT_.out (by kernel_rfl)) (fun _ _ _ h => h) (Or.inl ⟨by rfl, ?_⟩) ?_ ?_
      rotate_left
      ·intro w'
       go_simp
       with_reducible rfl
      rotate_left
      ·simp only [Act.put, List.setIfInBounds_toArray, List.set_cons_zero, List.set_cons_succ, i64_w, i32_w]
       rfl
      refine pure_ (i := 2) (N := some 18) (v := ?_) (a' := ?_) #[true, true, true, false, false, false, false, false, false, false, false, false, false, false, false, false, false, false, false, false, false, false, false, false, false, false, false, false, false, false, false, false, false, false] rfl rfl (any_of HT_.out (by kernel_rfl)) (fun _ _ _ h => h) (Or.inl ⟨by rfl, ?_⟩) ?_ ?_
      rotate_left
      ·intro w'
       go_simp
       with_reducible rfl
      rotate_left
      ·simp only [Act.put, List.setIfInBounds_toArray, List.set_cons_zero, List.set_cons_succ, i64_w, i32_w]
       rfl
      refine take_ (i := 3) (N := some 19) (v := ?_) (a' := ?_) #[true, true, true, true, false, false, false, false, false, false, false, false, false, false, false, false, false, false, false, false, false, false, false, false, false, false, false, false, false, false, false, false, false, false] rfl rfl (take_ofW HT_.out HW_.out (by kernel_rfl)) (fun _ _ _ h => h) (Or.inl ⟨by rfl, ?_⟩) hHeld ?_ ?_
      rotate_left
      ·rintro w' ⟨t1, t2, t3, t4, t5, u2, u3, u4, u5⟩
       have y0 : w'.cell? ⟨g, 0, none⟩ = some (.slice (some ⟨ga, 0, none⟩) n c) := (blk_cell t1 0).trans rfl
       go_simp
       with_reducible rfl
      rotate_left
      ·simp only [Act.put, List.setIfInBounds_toArray, List.set_cons_zero, List.set_cons_succ, i64_w, i32_w]
       rfl
      refine pure_ (i := 4) (N := some 20) (v := ?_) (a' := ?_) #[true, true, true, true, true, false, false, false, false, false, false, false, false, false, false, false, false, false, false, false, false, false, false, false, false, false, false, false, false, false, false, false, false, false] rfl rfl (any_of HT_.out (by kernel_rfl)) (fun _ _ _ h => h) (Or.inl ⟨by rfl, ?_⟩) ?_ ?_
      rotate_left
      ·intro w'
       go_simp
       with_reducible rfl
      rotate_left
      ·simp only [Act.put, List.setIfInBounds_toArray, List.set_cons_zero, List.set_cons_succ, i64_w, i32_w]
       rfl
      refine pure_ (i := 5) (N := some 21) (v := ?_) (a' := ?_) #[true, true, true, true, true, true, false, false, false, false, false, false, false, false, false, false, false, false, false, false, false, false, false, false, false, false, false, false, false, false, false, false, false, false] rfl rfl (any_of HT_.out (by kernel_rfl)) (fun _ _ _ h => h) (Or.inl ⟨by rfl, ?_⟩) ?_ ?_
      rotate_left
      ·intro w'
       go_simp
       with_reducible rfl
      rotate_left
      ·simp only [Act.put, List.setIfInBounds_toArray, List.set_cons_zero, List.set_cons_succ, i64_w, i32_w]
       rfl
      refine pure_ (i := 6) (N := some 22) (v := ?_) (a' := ?_) #[true, true, true, true, true, true, true, false, false, false, false, false, false, false, false, false, false, false, false, false, false, false, false, false, false, false, false, false, false, false, false, false, false, false] rfl rfl (any_of HT_.out (by kernel_rfl)) (fun _ _ _ h => h) (Or.inl ⟨by rfl, ?_⟩) ?_ ?_
      rotate_left
      ·intro w'
       go_simp
       with_reducible rfl
      rotate_left
      ·simp only [Act.put, List.setIfInBounds_toArray, List.set_cons_zero, List.set_cons_succ, i64_w, i32_w]
       rfl
      refine take_ (i := 7) (N := some 23) (v := ?_) (a' := ?_) #[true, true, true, true, true, true, true, true, false, false, false, false, false, false, false, false, false, false, false, false, false, false, false, false, false, false, false, false, false, false, false, false, false, false] rfl rfl (take_ofW HT_.out HW_.out (by kernel_rfl)) (fun _ _ _ h => h) (Or.inl ⟨by rfl, ?_⟩) hHeld ?_ ?_
      rotate_left
      ·rintro w' ⟨t1, t2, t3, t4, t5, u2, u3, u4, u5⟩
       go_simp
       with_reducible rfl
      rotate_left
      ·simp only [Act.put, List.setIfInBounds_toArray, List.set_cons_zero, List.set_cons_succ, i64_w, i32_w]
       rfl
      refine pure_ (i := 8) (N := some 24) (v := ?_) (a' := ?_) #[true, true, true, true, true, true, true, true, true, false, false, false, false, false, false, false, false, false, false, false, false, false, false, false, false, false, false, false, false, false, false, false, false, false] rfl rfl (any_of HT_.out (by kernel_rfl)) (fun _ _ _ h => h) (Or.inl ⟨by rfl, ?_⟩) ?_ ?_
      rotate_left
      ·intro w'
       go_simp
       with_reducible rfl
      rotate_left
      ·simp only [Act.put, List.setIfInBounds_toArray, List.set_cons_zero, List.set_cons_succ, i64_w, i32_w]
       rfl
      refine pure_ (i := 9) (N := some 25) (v := ?_) (a' := ?_) #[true, true, true, true, true, true, true, true, true, true, false, false, false, false, false, false, false, false, false, false, false, false, false, false, false, false, false, false, false, false, false, false, false, false] rfl rfl (any_of HT_.out (by kernel_rfl)) (fun _ _ _ h => h) (Or.inl ⟨by rfl, ?_⟩) ?_ ?_
      rotate_left
      ·intro w'
       go_simp
       with_reducible rfl
      rotate_left
      ·simp only [Act.put, List.setIfInBounds_toArray, List.set_cons_zero, List.set_cons_succ, i64_w, i32_w]
       rfl
      refine pure_ (i := 10) (N := some 26) (v := ?_) (a' := ?_) #[true, true, true, true, true, true, true, true, true, true, true, false, false, false, false, false, false, false, false, false, false, false, false, false, false, false, false, false, false, false, false, false, false, false] rfl rfl (any_of HT_.out (by kernel_rfl)) (fun _ _ _ h => h) (Or.inl ⟨by rfl, ?_⟩) ?_ ?_
      rotate_left
      ·intro w'
       go_simp
       with_reducible rfl
      rotate_left
      ·simp only [Act.put, List.setIfInBounds_toArray, List.set_cons_zero, List.set_cons_succ, i64_w, i32_w]
       rfl
      refine take_ (i := 11) (N := some 27) (v := ?_) (a' := ?_) #[true, true, true, true, true, true, true, true, true, true, true, true, false, false, false, false, false, false, false, false, false, false, false, false, false, false, false, false, false, false, false, false, false, false] rfl rfl (take_ofW HT_.out HW_.out (by kernel_rfl)) (fun _ _ _ h => h) (Or.inl ⟨by rfl, ?_⟩) hHeld ?_ ?_
      rotate_left
      ·rintro w' ⟨t1, t2, t3, t4, t5, u2, u3, u4, u5⟩
       have y1 : w'.cell? ⟨g, 1, none⟩ = some (.int .i64 q.now) := (blk_cell t1 1).trans rfl
       go_simp
       with_reducible rfl
      rotate_left
      ·simp only [Act.put, List.setIfInBounds_toArray, List.set_cons_zero, List.set_cons_succ, i64_w, i32_w]
       rfl
      refine pure_ (i := 12) (N := some 28) (v := ?_) (a' := ?_) #[true, true, true, true, true, true, true, true, true, true, true, true, true, false, false, false, false, false, false, false, false, false, false, false, false, false, false, false, false, false, false, false, false, false] rfl rfl (any_of HT_.out (by kernel_rfl)) (fun _ _ _ h => h) (Or.inl ⟨by rfl, ?_⟩) ?_ ?_
      rotate_left
      ·intro w'
       go_simp
       with_reducible rfl
      rotate_left
      ·simp only [Act.put, List.setIfInBounds_toArray, List.set_cons_zero, List.set_cons_succ, i64_w, i32_w]
       rfl
      refine pure_ (i := 13) (N := some 29) (v := ?_) (a' := ?_) #[true, true, true, true, true, true, true, true, true, true, true, true, true, true, false, false, false, false, false, false, false, false, false, false, false, false, false, false, false, false, false, false, false, false] rfl rfl (any_of HT_.out (by kernel_rfl)) (fun _ _ _ h => h) (Or.inl ⟨by rfl, ?_⟩) ?_ ?_
      rotate_left
      ·intro w'
       go_simp
       with_reducible rfl
      rotate_left
      ·simp only [Act.put, List.setIfInBounds_toArray, List.set_cons_zero, List.set_cons_succ, i64_w, i32_w]
       rfl
      refine pure_ (i := 14) (N := some 30) (v := ?_) (a' := ?_) #[true, true, true, true, true, true, true, true, true, true, true, true, true, true, true, false, false, false, false, false, false, false, false, false, false, false, false, false, false, false, false, false, false, false] rfl rfl (any_of HT_.out (by kernel_rfl)) (fun _ _ _ h => h) (Or.inl ⟨by rfl, ?_⟩) ?_ ?_
      rotate_left
      ·intro w'
       go_simp
       with_reducible rfl
      rotate_left
      ·simp only [Act.put, List.setIfInBounds_toArray, List.set_cons_zero, List.set_cons_succ, i64_w, i32_w]
       rfl
      refine pure_ (i := 15) (N := some 31) (v := ?_) (a' := ?_) #[true, true, true, true, true, true, true, true, true, true, true, true, true, true, true, true, false, false, false, false, false, false, false, false, false, false, false, false, false, false, false, false, false, false] rfl rfl (any_of HT_.out (by kernel_rfl)) (fun _ _ _ h => h) (Or.inl ⟨by rfl, ?_⟩) ?_ ?_
      rotate_left
      ·intro w'
       go_simp
       with_reducible rfl
      rotate_left
      ·simp only [Act.put, List.setIfInBounds_toArray, List.set_cons_zero, List.set_cons_succ, i64_w, i32_w]
       rfl
      refine pure_ (i := 16) (N := some 32) (v := ?_) (a' := ?_) #[true, true, true, true, true, true, true, true, true, true, true, true, true, true, true, true, true, false, false, false, false, false, false, false, false, false, false, false, false, false, false, false, false, false] rfl rfl (any_of HT_.out (by kernel_rfl)) (fun _ _ _ h => h) (Or.inl ⟨by rfl, ?_⟩) ?_ ?_
      rotate_left
      ·intro w'
       go_simp
       with_reducible rfl
      rotate_left
      ·simp only [Act.put, List.setIfInBounds_toArray, List.set_cons_zero, List.set_cons_succ, i64_w, i32_w]
       rfl
      refine pure_ (i := 17) (N := some 33) (v := ?_) (a' := ?_) #[true, true, true, true, true, true, true, true, true, true, true, true, true, true, true, true, true, true, false, false, false, false, false, false, false, false, false, false, false, false, false, false, false, false] rfl rfl (any_of HT_.out (by kernel_rfl)) (fun _ _ _ h => h) (Or.inl ⟨by rfl, ?_⟩) ?_ ?_
      rotate_left
      ·intro w'
       go_simp
       with_reducible rfl
      rotate_left
      ·simp only [Act.put, List.setIfInBounds_toArray, List.set_cons_zero, List.set_cons_succ, i64_w, i32_w]
       rfl
      refine pure_ (i := 18) (N := some 34) (v := ?_) (a' := ?_) #[true, true, true, true, true, true, true, true, true, true, true, true, true, true, true, true, true, true, true, false, false, false, false, false, false, false, false, false, false, false, false, false, false, false] rfl rfl (any_of HT_.out (by kernel_rfl)) (fun _ _ _ h => h) (Or.inl ⟨by rfl, ?_⟩) ?_ ?_
      rotate_left
      ·intro w'
       go_simp
       with_reducible rfl
      rotate_left
      ·simp only [Act.put, List.setIfInBounds_toArray, List.set_cons_zero, List.set_cons_succ, i64_w, i32_w]
       rfl
      refine pure_ (i := 19) (N := some 35) (v := ?_) (a' := ?_) #[true, true, true, true, true, true, true, true, true, true, true, true, true, true, true, true, true, true, true, true, false, false, false, false, false, false, false, false, false, false, false, false, false, false] rfl rfl (any_of HT_.out (by kernel_rfl)) (fun _ _ _ h => h) (Or.inl ⟨by rfl, ?_⟩) ?_ ?_
      rotate_left
      ·intro w'
       go_simp
       with_reducible rfl
      rotate_left
      ·simp only [Act.put, List.setIfInBounds_toArray, List.set_cons_zero, List.set_cons_succ, i64_w, i32_w]
       rfl
      refine take_ (i := 20) (N := some 36) (v := ?_) (a' := ?_) #[true, true, true, true, true, true, true, true, true, true, true, true, true, true, true, true, true, true, true, true, true, false, false, false, false, false, false, false, false, false, false, false, false, false] rfl rfl (take_ofW HT_.out HW_.out (by kernel_rfl)) (fun _ _ _ h => h) (Or.inl ⟨by rfl, ?_⟩) hHeld ?_ ?_
      rotate_left
      ·rintro w' ⟨t1, t2, t3, t4, t5, u2, u3, u4, u5⟩
       have y0 : w'.cell? ⟨g, 0, none⟩ = some (.slice (some ⟨ga, 0, none⟩) n c) := (blk_cell t1 0).trans rfl
       go_simp
       with_reducible rfl
      rotate_left
      ·simp only [Act.put, List.setIfInBounds_toArray, List.set_cons_zero, List.set_cons_succ, i64_w, i32_w]
       rfl
      refine pure_ (i := 21) (N := some 37) (v := ?_) (a' := ?_) #[true, true, true, true, true, true, true, true, true, true, true, true, true, true, true, true, true, true, true, true, true, true, false, false, false, false, false, false, false, false, false, false, false, false] rfl rfl (any_of HT_.out (by kernel_rfl)) (fun _ _ _ h => h) (Or.inl ⟨by rfl, ?_⟩) ?_ ?_
      rotate_left
      ·intro w'
       go_simp
       with_reducible rfl
      rotate_left
      ·simp only [Act.put, List.setIfInBounds_toArray, List.set_cons_zero, List.set_cons_succ, i64_w, i32_w]
       rfl
      refine pure_ (i := 22) (N := some 38) (v := ?_) (a' := ?_) #[true, true, true, true, true, true, true, true, true, true, true, true, true, true, true, true, true, true, true, true, true, true, true, false, false, false, false, false, false, false, false, false, false, false] rfl rfl (any_of HT_.out (by kernel_rfl)) (fun _ _ _ h => h) (Or.inl ⟨by rfl, ?_⟩) ?_ ?_
      rotate_left
      ·intro w'
       go_simp
       with_reducible rfl
      rotate_left
      ·simp only [Act.put, List.setIfInBounds_toArray, List.set_cons_zero, List.set_cons_succ, i64_w, i32_w]
       rfl
      refine take_ (i := 23) (N := some 39) (v := ?_) (a' := ?_) #[true, true, true, true, true, true, true, true, true, true, true, true, true, true, true, true, true, true, true, true, true, true, true, true, false, false, false, false, false, false, false, false, false, false] rfl rfl (take_ofW HT_.out HW_.out (by kernel_rfl)) (fun _ _ _ h => h) (Or.inl ⟨by rfl, ?_⟩) hHeld ?_ ?_
      rotate_left
      ·rintro w' ⟨t1, t2, t3, t4, t5, u2, u3, u4, u5⟩
       go_simp
       with_reducible rfl
      rotate_left
      ·simp only [Act.put, List.setIfInBounds_toArray, List.set_cons_zero, List.set_cons_succ, i64_w, i32_w]
       rfl
      refine pure_ (i := 24) (N := some 40) (v := ?_) (a' := ?_) #[true, true, true, true, true, true, true, true, true, true, true, true, true, true, true, true, true, true, true, true, true, true, true, true, true, false, false, false, false, false, false, false, false, false] rfl rfl (any_of HT_.out (by kernel_rfl)) (fun _ _ _ h => h) (Or.inl ⟨by rfl, ?_⟩) ?_ ?_
      rotate_left
      ·intro w'
       go_simp
       with_reducible rfl
      rotate_left
      ·simp only [Act.put, List.setIfInBounds_toArray, List.set_cons_zero, List.set_cons_succ, i64_w, i32_w]
       rfl
      refine pure_ (i := 25) (N := some 41) (v := ?_) (a' := ?_) #[true, true, true, true, true, true, true, true, true, true, true, true, true, true, true, true, true, true, true, true, true, true, true, true, true, true, false, false, false, false, false, false, false, false] rfl rfl (any_of HT_.out (by kernel_rfl)) (fun _ _ _ h => h) (Or.inl ⟨by rfl, ?_⟩) ?_ ?_
      rotate_left
      ·intro w'
       go_simp
       with_reducible rfl
      rotate_left
      ·simp only [Act.put, List.setIfInBounds_toArray, List.set_cons_zero, List.set_cons_succ, i64_w, i32_w]
       rfl
      refine pure_ (i := 26) (N := some 42) (v := ?_) (a' := ?_) #[true, true, true, true, true, true, true, true, true, true, true, true, true, true, true, true, true, true, true, true, true, true, true, true, true, true, true, false, false, false, false, false, false, false] rfl rfl (any_of HT_.out (by kernel_rfl)) (fun _ _ _ h => h) (Or.inl ⟨by rfl, ?_⟩) ?_ ?_
      rotate_left
      ·intro w'
       go_simp
       with_reducible rfl
      rotate_left
      ·simp only [Act.put, List.setIfInBounds_toArray, List.set_cons_zero, List.set_cons_succ, i64_w, i32_w]
       rfl
      refine take_ (i := 27) (N := some 43) (v := ?_) (a' := ?_) #[true, true, true, true, true, true, true, true, true, true, true, true, true, true, true, true, true, true, true, true, true, true, true, true, true, true, true, true, false, false, false, false, false, false] rfl rfl (take_ofW HT_.out HW_.out (by kernel_rfl)) (fun _ _ _ h => h) (Or.inl ⟨by rfl, ?_⟩) hHeld ?_ ?_
      rotate_left
      ·rintro w' ⟨t1, t2, t3, t4, t5, u2, u3, u4, u5⟩
       have y0 : w'.cell? ⟨g, 0, none⟩ = some (.slice (some ⟨ga, 0, none⟩) n c) := (blk_cell t1 0).trans rfl
       go_simp
       with_reducible rfl
      rotate_left
      ·simp only [Act.put, List.setIfInBounds_toArray, List.set_cons_zero, List.set_cons_succ, i64_w, i32_w]
       rfl
      refine pure_ (i := 28) (N := some 44) (v := ?_) (a' := ?_) #[true, true, true, true, true, true, true, true, true, true, true, true, true, true, true, true, true, true, true, true, true, true, true, true, true, true, true, true, true, false, false, false, false, false] rfl rfl (any_of HT_.out (by kernel_rfl)) (fun _ _ _ h => h) (Or.inl ⟨by rfl, ?_⟩) ?_ ?_
      rotate_left
      ·intro w'
       go_simp
       with_reducible rfl
      rotate_left
      ·simp only [Act.put, List.setIfInBounds_toArray, List.set_cons_zero, List.set_cons_succ, i64_w, i32_w]
       rfl
      refine pure_ (i := 29) (N := some 45) (v := ?_) (a' := ?_) #[true, true, true, true, true, true, true, true, true, true, true, true, true, true, true, true, true, true, true, true, true, true, true, true, true, true, true, true, true, true, false, false, false, false] rfl rfl (any_of HT_.out (by kernel_rfl)) (fun _ _ _ h => h) (Or.inl ⟨by rfl, ?_⟩) ?_ ?_
      rotate_left
      ·intro w'
       go_simp
       with_reducible rfl
      rotate_left
      ·simp only [Act.put, List.setIfInBounds_toArray, List.set_cons_zero, List.set_cons_succ, i64_w, i32_w]
       rfl
      refine take_ (i := 30) (N := some 46) (v := ?_) (a' := ?_) #[true, true, true, true, true, true, true, true, true, true, true, true, true, true, true, true, true, true, true, true, true, true, true, true, true, true, true, true, true, true, true, false, false, false] rfl rfl (take_ofW HT_.out HW_.out (by kernel_rfl)) (fun _ _ _ h => h) (Or.inl ⟨by rfl, ?_⟩) hHeld ?_ ?_
      rotate_left
      ·rintro w' ⟨t1, t2, t3, t4, t5, u2, u3, u4, u5⟩
       go_simp
       with_reducible rfl
      rotate_left
      ·simp only [Act.put, List.setIfInBounds_toArray, List.set_cons_zero, List.set_cons_succ, i64_w, i32_w]
       rfl
      refine last_ (i := 31) (N := some 47) #[true, true, true, true, true, true, true, true, true, true, true, true, true, true, true, true, true, true, true, true, true, true, true, true, true, true, true, true, true, true, true, true, false, false] rfl rfl (one_of HT_.out (by kernel_rfl)) (by decide) (fun K hK => ?_)
      (refine goesC_ (.func 30) #[] Try.func30 (by kernel_rfl) rfl #[a4 x, a4 y] #[a4 x, a4 y] (by rfl) rfl rfl rfl (by (try simp only [List.map_toArray, List.map_cons, List.map_nil]); first | done | rfl) (by simp) ?_; refine (ahead_calls x y _).mono ?_; rintro e w6 ⟨rfl, hb⟩; rw [HU.out]; refine ⟨_, rfl, ?_⟩; have HB6 := Aside0.mk (show RQ W w6 g q (.slice (some ⟨ga, 0, none⟩) n c) ∧ Below w.heap.size w w6 from ⟨HD.out.1.below hb, below_step HD.out.2 hb⟩); clear hb)
      refine hK.out _ _ ?_
      clear hK K
      try simp only [Act.put, List.setIfInBounds_toArray, List.set_cons_zero, List.set_cons_succ, i64_w, i32_w]
      refine pure_ (i := 32) (N := some 48) (v := ?_) (a' := ?_) #[true, true, true, true, true, true, true, true, true, true, true, true, true, true, true, true, true, true, true, true, true, true, true, true, true, true, true, true, true, true, true, true, true, false] rfl rfl (any_of HT_.out (by kernel_rfl)) (fun _ _ _ h => h) (Or.inl ⟨by rfl, ?_⟩) ?_ ?_
      rotate_left
      ·intro w'
       go_simp
       with_reducible rfl
      rotate_left
      ·simp only [Act.put, List.setIfInBounds_toArray, List.set_cons_zero, List.set_cons_succ, i64_w, i32_w]
       rfl
      refine pure_ (i := 33) (N := some 49) (v := ?_) (a' := ?_) #[true, true, true, true, true, true, true, true, true, true, true, true, true, true, true, true, true, true, true, true, true, true, true, true, true, true, true, true, true, true, true, true, true, true] rfl rfl (any_of HT_.out (by kernel_rfl)) (fun _ _ _ h => h) (Or.inl ⟨by rfl, ?_⟩) ?_ ?_
      rotate_left
      ·intro w'
       go_simp
       with_reducible rfl
      rotate_left
      ·simp only [Act.put, List.setIfInBounds_toArray, List.set_cons_zero, List.set_cons_succ, i64_w, i32_w]
       rfl
      refine done_ (done_of HT_.out (by kernel_rfl)) ?_
      clear hHeld HS s1 s2 s3 s4 s5 z2 z3 z4 z5
      go_wp2
      go_round
      case rel => exact ⟨i + 1, i, by go_num, rfl, HI.out, by omega, by have := HI.out; omega, ⟨HB.out.new (by rw [← HX.out]; exact HQ.out) (by rw [← HX.out, ← HY.out]; exact HU.out)⟩, ⟨HB6.out⟩⟩
      case measure => have := HI.out; simp [intOf]; omega
     |false =>
      have HU := Aside0.mk hu
      go_upto_region 5 with (fail)
      clear f0 HR
      refine start_ (n := 34) (S := fun w' => w'.heap[g]? = some (.cells #[.slice (some ⟨ga, 0, none⟩) n c, .int .i64 q.now, .int .i64 q.put] 45 (0, 0)) ∧ w'.cell? ⟨ga, i * 4, none⟩ = some (.int .i64 x.at_) ∧ w'.cell? ⟨ga, i * 4 + 1, none⟩ = some (.int .i64 x.urg) ∧ w'.cell? ⟨ga, i * 4 + 2, none⟩ = some (.int .i64 x.id) ∧ w'.cell? ⟨ga, i * 4 + 3, none⟩ = some (.int .i64 x.no) ∧ w'.cell? ⟨ga, k * 4, none⟩ = some (.int .i64 y.at_) ∧ w'.cell? ⟨ga, k * 4 + 1, none⟩ = some (.int .i64 y.urg) ∧ w'.cell? ⟨ga, k * 4 + 2, none⟩ = some (.int .i64 y.id) ∧ w'.cell? ⟨ga, k * 4 + 3, none⟩ = some (.int .i64 y.no)) (ds := [31, 32, 33]) #[false, false, false, false, false, false, false, false, false, false, false, false, false, false, false, false, false, false, false, false, false, false, false, false, false, false, false, false, false, false, false, false, false, false] (by kernel_rfl) rfl rfl ⟨s1, s2, s3, s4, s5, z2, z3, z4, z5⟩ (fun hHeld => ?_)
      refine with_tabW rg18_5_tab rg18_5_bits (fun HT_ HW_ => ?_)
      refine pure_ (i := 0) (N := some 16) (v := ?_) (a' := ?_) #[true, false, false, false, false, false, false, false, false, false, false, false, false, false, false, false, false, false, false, false, false, false, false, false, false, false, false, false, false, false, false, false, false, false] rfl rfl (any_of HT_.out (by kernel_rfl)) (fun _ _ _ h => h) (Or.inl ⟨by rfl, ?_⟩) ?_ ?_
      rotate_left
      ·intro w'
       go_simp
       with_reducible rfl
      rotate_left
      ·simp only [Act.put, List.setIfInBounds_toArray, List.set_cons_zero, List.set_cons_succ, i64_w, i32_w]
       rfl
      refine pure_ (i := 1) (N := some 17) (v := ?_) (a' := ?_) #[true, true, false, false, false, false, false, false, false, false, false, false, false, false, false, false, false, false, false, false, false, false, false, false, false, false, false, false, false, false, false, false, false, false] rfl rfl (any_of HT_.out (by kernel_rfl)) (fun _ _ _ h => h) (Or.inl ⟨by rfl, ?_⟩) ?_ ?_
      rotate_left
      ·intro w'
       go_simp
       with_reducible rfl
      rotate_left
      ·simp only [Act.put, List.setIfInBounds_toArray, List.set_cons_zero, List.set_cons_succ, i64_w, i32_w]
       rfl
      refine pure_ (i := 2) (N := some 18) (v := ?_) (a' := ?_) #[true, true, true, false, false, false, false, false, false, false, false, false, false, false, false, false, false, false, false, false, false, false, false, false, false, false, false, false, false, false, false, false, false, false] rfl rfl (any_of HT_.out (by kernel_rfl)) (fun _ _ _ h => h) (Or.inl ⟨by rfl, ?_⟩) ?_ ?_
      rotate_left
      ·intro w'
       go_simp
       with_reducible rfl
      rotate_left
      ·simp only [Act.put, List.setIfInBounds_toArray, List.set_cons_zero, List.set_cons_succ, i64_w, i32_w]
       rfl
      refine take_ (i := 3) (N := some 19) (v := ?_) (a' := ?_) #[true, true, true, true, false, false, false, false, false, false, false, false, false, false, false, false, false, false, false, false, false, false, false, false, false, false, false, false, false, false, false, false, false, false] rfl rfl (take_ofW HT_.out HW_.out (by kernel_rfl)) (fun _ _ _ h => h) (Or.inl ⟨by rfl, ?_⟩) hHeld ?_ ?_
      rotate_left
      ·rintro w' ⟨t1, t2, t3, t4, t5, u2, u3, u4, u5⟩
       have y0 : w'.cell? ⟨g, 0, none⟩ = some (.slice (some ⟨ga, 0, none⟩) n c) := (blk_cell t1 0).trans rfl
       go_simp
       with_reducible rfl
      rotate_left
      ·simp only [Act.put, List.setIfInBounds_toArray, List.set_cons_zero, List.set_cons_succ, i64_w, i32_w]
       rfl
      refine pure_ (i := 4) (N := some 20) (v := ?_) (a' := ?_) #[true, true, true, true, true, false, false, false, false, false, false, false, false, false, false, false, false, false, false, false, false, false, false, false, false, false, false, false, false, false, false, false, false, false] rfl rfl (any_of HT_.out (by kernel_rfl)) (fun _ _ _ h => h) (Or.inl ⟨by rfl, ?_⟩) ?_ ?_
      rotate_left
      ·intro w'
       go_simp
       with_reducible rfl
      rotate_left
      ·simp only [Act.put, List.setIfInBounds_toArray, List.set_cons_zero, List.set_cons_succ, i64_w, i32_w]
       rfl
      refine pure_ (i := 5) (N := some 21) (v := ?_) (a' := ?_) #[true, true, true, true, true, true, false, false, false, false, false, false, false, false, false, false, false, false, false, false, false, false, false, false, false, false, false, false, false, false, false, false, false, false] rfl rfl (any_of HT_.out (by kernel_rfl)) (fun _ _ _ h => h) (Or.inl ⟨by rfl, ?_⟩) ?_ ?_
      rotate_left
      ·intro w'
       go_simp
       with_reducible rfl
      rotate_left
      ·simp only [Act.put, List.setIfInBounds_toArray, List.set_cons_zero, List.set_cons_succ, i64_w, i32_w]
       rfl
      refine pure_ (i := 6) (N := some 22) (v := ?_) (a' := ?_) #[true, true, true, true, true, true, true, false, false, false, false, false, false, false, false, false, false, false, false, false, false, false, false, false, false, false, false, false, false, false, false, false, false, false] rfl rfl (any_of HT_.out (by kernel_rfl)) (fun _ _ _ h => h) (Or.inl ⟨by rfl, ?_⟩) ?_ ?_
      rotate_left
      ·intro w'
       go_simp
       with_reducible rfl
      rotate_left
      ·simp only [Act.put, List.setIfInBounds_toArray, List.set_cons_zero, List.set_cons_succ, i64_w, i32_w]
       rfl
      refine take_ (i := 7) (N := some 23) (v := ?_) (a' := ?_) #[true, true, true, true, true, true, true, true, false, false, false, false, false, false, false, false, false, false, false, false, false, false, false, false, false, false, false, false, false, false, false, false, false, false] rfl rfl (take_ofW HT_.out HW_.out (by kernel_rfl)) (fun _ _ _ h => h) (Or.inl ⟨by rfl, ?_⟩) hHeld ?_ ?_
      rotate_left
      ·rintro w' ⟨t1, t2, t3, t4, t5, u2, u3, u4, u5⟩
       go_simp
       with_reducible rfl
      rotate_left
      ·simp only [Act.put, List.setIfInBounds_toArray, List.set_cons_zero, List.set_cons_succ, i64_w, i32_w]
       rfl
      refine pure_ (i := 8) (N := some 24) (v := ?_) (a' := ?_) #[true, true, true, true, true, true, true, true, true, false, false, false, false, false, false, false, false, false, false, false, false, false, false, false, false, false, false, false, false, false, false, false, false, false] rfl rfl (any_of HT_.out (by kernel_rfl)) (fun _ _ _ h => h) (Or.inl ⟨by rfl, ?_⟩) ?_ ?_
      rotate_left
      ·intro w'
       go_simp
       with_reducible rfl
      rotate_left
      ·simp only [Act.put, List.setIfInBounds_toArray, List.set_cons_zero, List.set_cons_succ, i64_w, i32_w]
       rfl
      refine pure_ (i := 9) (N := some 25) (v := ?_) (a' := ?_) #[true, true, true, true, true, true, true, true, true, true, false, false, false, false, false, false, false, false, false, false, false, false, false, false, false, false, false, false, false, false, false, false, false, false] rfl rfl (any_of HT_.out (by kernel_rfl)) (fun _ _ _ h => h) (Or.inl ⟨by rfl, ?_⟩) ?_ ?_
      rotate_left
      ·intro w'
       go_simp
       with_reducible rfl
      rotate_left
      ·simp only [Act.put, List.setIfInBounds_toArray, List.set_cons_zero, List.set_cons_succ, i64_w, i32_w]
       rfl
      refine pure_ (i := 10) (N := some 26) (v := ?_) (a' := ?_) #[true, true, true, true, true, true, true, true, true, true, true, false, false, false, false, false, false, false, false, false, false, false, false, false, false, false, false, false, false, false, false, false, false, false] rfl rfl (any_of HT_.out (by kernel_rfl)) (fun _ _ _ h => h) (Or.inl ⟨by rfl, ?_⟩) ?_ ?_
      rotate_left
      ·intro w'
       go_simp
       with_reducible rfl
      rotate_left
      ·simp only [Act.put, List.setIfInBounds_toArray, List.set_cons_zero, List.set_cons_succ, i64_w, i32_w]
       rfl
      refine take_ (i := 11) (N := some 27) (v := ?_) (a' := ?_) #[true, true, true, true, true, true, true, true, true, true, true, true, false, false, false, false, false, false, false, false, false, false, false, false, false, false, false, false, false, false, false, false, false, false] rfl rfl (take_ofW HT_.out HW_.out (by kernel_rfl)) (fun _ _ _ h => h) (Or.inl ⟨by rfl, ?_⟩) hHeld ?_ ?_
      rotate_left
      ·rintro w' ⟨t1, t2, t3, t4, t5, u2, u3, u4, u5⟩
       have y1 : w'.cell? ⟨g, 1, none⟩ = some (.int .i64 q.now) := (blk_cell t1 1).trans rfl
       go_simp
       with_reducible rfl
      rotate_left
      ·simp only [Act.put, List.setIfInBounds_toArray, List.set_cons_zero, List.set_cons_succ, i64_w, i32_w]
       rfl
      refine pure_ (i := 12) (N := some 28) (v := ?_) (a' := ?_) #[true, true, true, true, true, true, true, true, true, true, true, true, true, false, false, false, false, false, false, false, false, false, false, false, false, false, false, false, false, false, false, false, false, false] rfl rfl (any_of HT_.out (by kernel_rfl)) (fun _ _ _ h => h) (Or.inl ⟨by rfl, ?_⟩) ?_ ?_
      rotate_left
      ·intro w'
       go_simp
       with_reducible rfl
      rotate_left
      ·simp only [Act.put, List.setIfInBounds_toArray, List.set_cons_zero, List.set_cons_succ, i64_w, i32_w]
       rfl
      refine pure_ (i := 13) (N := some 29) (v := ?_) (a' := ?_) #[true, true, true, true, true, true, true, true, true, true, true, true, true, true, false, false, false, false, false, false, false, false, false, false, false, false, false, false, false, false, false, false, false, false] rfl rfl (any_of HT_.out (by kernel_rfl)) (fun _ _ _ h => h) (Or.inl ⟨by rfl, ?_⟩) ?_ ?_
      rotate_left
      ·intro w'
       go_simp
       with_reducible rfl
      rotate_left
      ·simp only [Act.put, List.setIfInBounds_toArray, List.set_cons_zero, List.set_cons_succ, i64_w, i32_w]
       rfl
      refine pure_ (i := 14) (N := some 30) (v := ?_) (a' := ?_) #[true, true, true, true, true, true, true, true, true, true, true, true, true, true, true, false, false, false, false, false, false, false, false, false, false, false, false, false, false, false, false, false, false, false] rfl rfl (any_of HT_.out (by kernel_rfl)) (fun _ _ _ h => h) (Or.inl ⟨by rfl, ?_⟩) ?_ ?_
      rotate_left
      ·intro w'
       go_simp
       with_reducible rfl
      rotate_left
      ·simp only [Act.put, List.setIfInBounds_toArray, List.set_cons_zero, List.set_cons_succ, i64_w, i32_w]
       rfl
      refine pure_ (i := 15) (N := some 31) (v := ?_) (a' := ?_) #[true, true, true, true, true, true, true, true, true, true, true, true, true, true, true, true, false, false, false, false, false, false, false, false, false, false, false, false, false, false, false, false, false, false] rfl rfl (any_of HT_.out (by kernel_rfl)) (fun _ _ _ h => h) (Or.inl ⟨by rfl, ?_⟩) ?_ ?_
      rotate_left
      ·intro w'
       go_simp
       with_reducible rfl
      rotate_left
      ·simp only [Act.put, List.setIfInBounds_toArray, List.set_cons_zero, List.set_cons_succ, i64_w, i32_w]
       rfl
      refine pure_ (i := 16) (N := some 32) (v := ?_) (a' := ?_) #[true, true, true, true, true, true, true, true, true, true, true, true, true, true, true, true, true, false, false, false, false, false, false, false, false, false, false, false, false, false, false, false, false, false] rfl rfl (any_of HT_.out (by kernel_rfl)) (fun _ _ _ h => h) (Or.inl ⟨by rfl, ?_⟩) ?_ ?_
      rotate_left
      ·intro w'
       go_simp
       with_reducible rfl
      rotate_left
      ·simp only [Act.put, List.setIfInBounds_toArray, List.set_cons_zero, List.set_cons_succ, i64_w, i32_w]
       rfl
      refine pure_ (i := 17) (N := some 33) (v := ?_) (a' := ?_) #[true, true, true, true, true, true, true, true, true, true, true, true, true, true, true, true, true, true, false, false, false, false, false, false, false, false, false, false, false, false, false, false, false, false] rfl rfl (any_of HT_.out (by kernel_rfl)) (fun _ _ _ h => h) (Or.inl ⟨by rfl, ?_⟩) ?_ ?_
      rotate_left
      ·intro w'
       go_simp
       with_reducible rfl
      rotate_left
      ·simp only [Act.put, List.setIfInBounds_toArray, List.set_cons_zero, List.set_cons_succ, i64_w, i32_w]
       rfl
      refine pure_ (i := 18) (N := some 34) (v := ?_) (a' := ?_) #[true, true, true, true, true, true, true, true, true, true, true, true, true, true, true, true, true, true, true, false, false, false, false, false, false, false, false, false, false, false, false, false, false, false] rfl rfl (any_of HT_.out (by kernel_rfl)) (fun _ _ _ h => h) (Or.inl ⟨by rfl, ?_⟩) ?_ ?_
      rotate_left
      ·intro w'
       go_simp
       with_reducible rfl
      rotate_left
      ·simp only [Act.put, List.setIfInBounds_toArray, List.set_cons_zero, List.set_cons_succ, i64_w, i32_w]
       rfl
      refine pure_ (i := 19) (N := some 35) (v := ?_) (a' := ?_) #[true, true, true, true, true, true, true, true, true, true, true, true, true, true, true, true, true, true, true, true, false, false, false, false, false, false, false, false, false, false, false, false, false, false] rfl rfl (any_of HT_.out (by kernel_rfl)) (fun _ _ _ h => h) (Or.inl ⟨by rfl, ?_⟩) ?_ ?_
      rotate_left
      ·intro w'
       go_simp
       with_reducible rfl
      rotate_left
      ·simp only [Act.put, List.setIfInBounds_toArray, List.set_cons_zero, List.set_cons_succ, i64_w, i32_w]
       rfl
      refine take_ (i := 20) (N := some 36) (v := ?_) (a' := ?_) #[true, true, true, true, true, true, true, true, true, true, true, true, true, true, true, true, true, true, true, true, true, false, false, false, false, false, false, false, false, false, false, false, false, false] rfl rfl (take_ofW HT_.out HW_.out (by kernel_rfl)) (fun _ _ _ h => h) (Or.inl ⟨by rfl, ?_⟩) hHeld ?_ ?_
      rotate_left
      ·rintro w' ⟨t1, t2, t3, t4, t5, u2, u3, u4, u5⟩
       have y0 : w'.cell? ⟨g, 0, none⟩ = some (.slice (some ⟨ga, 0, none⟩) n c) := (blk_cell t1 0).trans rfl
       go_simp
       with_reducible rfl
      rotate_left
      ·simp only [Act.put, List.setIfInBounds_toArray, List.set_cons_zero, List.set_cons_succ, i64_w, i32_w]
       rfl
      refine pure_ (i := 21) (N := some 37) (v := ?_) (a' := ?_) #[true, true, true, true, true, true, true, true, true, true, true, true, true, true, true, true, true, true, true, true, true, true, false, false, false, false, false, false, false, false, false, false, false, false] rfl rfl (any_of HT_.out (by kernel_rfl)) (fun _ _ _ h => h) (Or.inl ⟨by rfl, ?_⟩) ?_ ?_
      rotate_left
      ·intro w'
       go_simp
       with_reducible rfl
      rotate_left
      ·simp only [Act.put, List.setIfInBounds_toArray, List.set_cons_zero, List.set_cons_succ, i64_w, i32_w]
       rfl
      refine pure_ (i := 22) (N := some 38) (v := ?_) (a' := ?_) #[true, true, true, true, true, true, true, true, true, true, true, true, true, true, true, true, true, true, true, true, true, true, true, false, false, false, false, false, false, false, false, false, false, false] rfl rfl (any_of HT_.out (by kernel_rfl)) (fun _ _ _ h => h) (Or.inl ⟨by rfl, ?_⟩) ?_ ?_
      rotate_left
      ·intro w'
       go_simp
       with_reducible rfl
      rotate_left
      ·simp only [Act.put, List.setIfInBounds_toArray, List.set_cons_zero, List.set_cons_succ, i64_w, i32_w]
       rfl
      refine take_ (i := 23) (N := some 39) (v := ?_) (a' := ?_) #[true, true, true, true, true, true, true, true, true, true, true, true, true, true, true, true, true, true, true, true, true, true, true, true, false, false, false, false, false, false, false, false, false, false] rfl rfl (take_ofW HT_.out HW_.out (by kernel_rfl)) (fun _ _ _ h => h) (Or.inl ⟨by rfl, ?_⟩) hHeld ?_ ?_
      rotate_left
      ·rintro w' ⟨t1, t2, t3, t4, t5, u2, u3, u4, u5⟩
       go_simp
       with_reducible rfl
      rotate_left
      ·simp only [Act.put, List.setIfInBounds_toArray, List.set_cons_zero, List.set_cons_succ, i64_w, i32_w]
       rfl
      refine pure_ (i := 24) (N := some 40) (v := ?_) (a' := ?_) #[true, true, true, true, true, true, true, true, true, true, true, true, true, true, true, true, true, true, true, true, true, true, true, true, true, false, false, false, false, false, false, false, false, false] rfl rfl (any_of HT_.out (by kernel_rfl)) (fun _ _ _ h => h) (Or.inl ⟨by rfl, ?_⟩) ?_ ?_
      rotate_left
      ·intro w'
       go_simp
       with_reducible rfl
      rotate_left
      ·simp only [Act.put, List.setIfInBounds_toArray, List.set_cons_zero, List.set_cons_succ, i64_w, i32_w]
       rfl
      refine pure_ (i := 25) (N := some 41) (v := ?_) (a' := ?_) #[true, true, true, true, true, true, true, true, true, true, true, true, true, true, true, true, true, true, true, true, true, true, true, true, true, true, false, false, false, false, false, false, false, false] rfl rfl (any_of HT_.out (by kernel_rfl)) (fun _ _ _ h => h) (Or.inl ⟨by rfl, ?_⟩) ?_ ?_
      rotate_left
      ·intro w'
       go_simp
       with_reducible rfl
      rotate_left
      ·simp only [Act.put, List.setIfInBounds_toArray, List.set_cons_zero, List.set_cons_succ, i64_w, i32_w]
       rfl
      refine pure_ (i := 26) (N := some 42) (v := ?_) (a' := ?_) #[true, true, true, true, true, true, true, true, true, true, true, true, true, true, true, true, true, true, true, true, true, true, true, true, true, true, true, false, false, false, false, false, false, false] rfl rfl (any_of HT_.out (by kernel_rfl)) (fun _ _ _ h => h) (Or.inl ⟨by rfl, ?_⟩) ?_ ?_
      rotate_left
      ·intro w'
       go_simp
       with_reducible rfl
      rotate_left
      ·simp only [Act.put, List.setIfInBounds_toArray, List.set_cons_zero, List.set_cons_succ, i64_w, i32_w]
       rfl
      refine take_ (i := 27) (N := some 43) (v := ?_) (a' := ?_) #[true, true, true, true, true, true, true, true, true, true, true, true, true, true, true, true, true, true, true, true, true, true, true, true, true, true, true, true, false, false, false, false, false, false] rfl rfl (take_ofW HT_.out HW_.out (by kernel_rfl)) (fun _ _ _ h => h) (Or.inl ⟨by rfl, ?_⟩) hHeld ?_ ?_
      rotate_left
      ·rintro w' ⟨t1, t2, t3, t4, t5, u2, u3, u4, u5⟩
       have y0 : w'.cell? ⟨g, 0, none⟩ = some (.slice (some ⟨ga, 0, none⟩) n c) := (blk_cell t1 0).trans rfl
       go_simp
       with_reducible rfl
      rotate_left
      ·simp only [Act.put, List.setIfInBounds_toArray, List.set_cons_zero, List.set_cons_succ, i64_w, i32_w]
       rfl
      refine pure_ (i := 28) (N := some 44) (v := ?_) (a' := ?_) #[true, true, true, true, true, true, true, true, true, true, true, true, true, true, true, true, true, true, true, true, true, true, true, true, true, true, true, true, true, false, false, false, false, false] rfl rfl (any_of HT_.out (by kernel_rfl)) (fun _ _ _ h => h) (Or.inl ⟨by rfl, ?_⟩) ?_ ?_
      rotate_left
      ·intro w'
       go_simp
       with_reducible rfl
      rotate_left
      ·simp only [Act.put, List.setIfInBounds_toArray, List.set_cons_zero, List.set_cons_succ, i64_w, i32_w]
       rfl
      refine pure_ (i := 29) (N := some 45) (v := ?_) (a' := ?_) #[true, true, true, true, true, true, true, true, true, true, true, true, true, true, true, true, true, true, true, true, true, true, true, true, true, true, true, true, true, true, false, false, false, false] rfl rfl (any_of HT_.out (by kernel_rfl)) (fun _ _ _ h => h) (Or.inl ⟨by rfl, ?_⟩) ?_ ?_
      rotate_left
      ·intro w'
       go_simp
       with_reducible rfl
      rotate_left
      ·simp only [Act.put, List.setIfInBounds_toArray, List.set_cons_zero, List.set_cons_succ, i64_w, i32_w]
       rfl
      refine take_ (i := 30) (N := some 46) (v := ?_) (a' := ?_) #[true, true, true, true, true, true, true, true, true, true, true, true, true, true, true, true, true, true, true, true, true, true, true, true, true, true, true, true, true, true, true, false, false, false] rfl rfl (take_ofW HT_.out HW_.out (by kernel_rfl)) (fun _ _ _ h => h) (Or.inl ⟨by rfl, ?_⟩) hHeld ?_ ?_
      rotate_left
      ·rintro w' ⟨t1, t2, t3, t4, t5, u2, u3, u4, u5⟩
       go_simp
       with_reducible rfl
      rotate_left
      ·simp only [Act.put, List.setIfInBounds_toArray, List.set_cons_zero, List.set_cons_succ, i64_w, i32_w]
       rfl
      refine last_ (i := 31) (N := some 47) #[true, true, true, true, true, true, true, true, true, true, true, true, true, true, true, true, true, true, true, true, true, true, true, true, true, true, true, true, true, true, true, true, false, false] rfl rfl (one_of HT_.out (by kernel_rfl)) (by decide) (fun K hK => ?_)
      (refine goesC_ (.func 30) #[] Try.func30 (by kernel_rfl) rfl #[a4 x, a4 y] #[a4 x, a4 y] (by rfl) rfl rfl rfl (by (try simp only [List.map_toArray, List.map_cons, List.map_nil]); first | done | rfl) (by simp) ?_; refine (ahead_calls x y _).mono ?_; rintro e w6 ⟨rfl, hb⟩; rw [HU.out]; refine ⟨_, rfl, ?_⟩; have HB6 := Aside0.mk (show RQ W w6 g q (.slice (some ⟨ga, 0, none⟩) n c) ∧ Below w.heap.size w w6 from ⟨HD.out.1.below hb, below_step HD.out.2 hb⟩); clear hb)
      refine hK.out _ _ ?_
      clear hK K
      try simp only [Act.put, List.setIfInBounds_toArray, List.set_cons_zero, List.set_cons_succ, i64_w, i32_w]
      refine pure_ (i := 32) (N := some 48) (v := ?_) (a' := ?_) #[true, true, true, true, true, true, true, true, true, true, true, true, true, true, true, true, true, true, true, true, true, true, true, true, true, true, true, true, true, true, true, true, true, false] rfl rfl (any_of HT_.out (by kernel_rfl)) (fun _ _ _ h => h) (Or.inl ⟨by rfl, ?_⟩) ?_ ?_
      rotate_left
      ·intro w'
       go_simp
       with_reducible rfl
      rotate_left
      ·simp only [Act.put, List.setIfInBounds_toArray, List.set_cons_zero, List.set_cons_succ, i64_w, i32_w]
       rfl
      refine pure_ (i := 33) (N := some 49) (v := ?_) (a' := ?_) #[true, true, true, true, true, true, true, true, true, true, true, true, true, true, true, true, true, true, true, true, true, true, true, true, true, true, true, true, true, true, true, true, true, true] rfl rfl (any_of HT_.out (by kernel_rfl)) (fun _ _ _ h => h) (Or.inl ⟨by rfl, ?_⟩) ?_ ?_
      rotate_left
      ·intro w'
       go_simp
       with_reducible rfl
      rotate_left
      ·simp only [Act.put, List.setIfInBounds_toArray, List.set_cons_zero, List.set_cons_succ, i64_w, i32_w]
       rfl
      refine done_ (done_of HT_.out (by kernel_rfl)) ?_
      clear hHeld HS s1 s2 s3 s4 s5 z2 z3 z4 z5
      go_wp2
      go_round
      case rel => exact ⟨i + 1, k, by go_num, rfl, HI.out, by omega, by omega, ⟨HB.out.keep (by rw [← HX.out, ← HY.out]; exact HU.out)⟩, ⟨HB6.out⟩⟩
      case measure => have := HI.out; simp [intOf]; omega
   ·have e1 : decide (x.at_ ≤ q.now) = false := decide_eq_false hq
    have HQ := Aside0.mk hq
    clear hq
    go_upto_region 5 with (fail)
    clear f0 HR
    refine start_ (n := 34) (S := fun w' => w'.heap[g]? = some (.cells #[.slice (some ⟨ga, 0, none⟩) n c, .int .i64 q.now, .int .i64 q.put] 45 (0, 0)) ∧ w'.cell? ⟨ga, i * 4, none⟩ = some (.int .i64 x.at_)) (ds := []) #[false, false, false, false, false, false, false, false, false, false, false, false, false, false, false, false, false, false, false, false, false, false, false, false, false, false, false, false, false, false, false, false, false, false] (by kernel_rfl) rfl rfl ⟨s1, s2⟩ (fun hHeld => ?_)
    refine with_tabW rg18_5_tab rg18_5_bits (fun HT_ HW_ => ?_)
    refine pure_ (i := 0) (N := some 16) (v := ?_) (a' := ?_) #[true, false, false, false, false, false, false, false, false, false, false, false, false, false, false, false, false, false, false, false, false, false, false, false, false, false, false, false, false, false, false, false, false, false] rfl rfl (any_of HT_.out (by kernel_rfl)) (fun _ _ _ h => h) (Or.inl ⟨by rfl, ?_⟩) ?_ ?_
    rotate_left
    ·intro w'
     go_simp
     with_reducible rfl
    rotate_left
    ·simp only [Act.put, List.setIfInBounds_toArray, List.set_cons_zero, List.set_cons_succ, i64_w, i32_w]
     rfl
    refine pure_ (i := 1) (N := some 17) (v := ?_) (a' := ?_) #[true, true, false, false, false, false, false, false, false, false, false, false, false, false, false, false, false, false, false, false, false, false, false, false, false, false, false, false, false, false, false, false, false, false] rfl rfl (any_of HT_.out (by kernel_rfl)) (fun _ _ _ h => h) (Or.inl ⟨by rfl, ?_⟩) ?_ ?_
    rotate_left
    ·intro w'
     go_simp
     with_reducible rfl
    rotate_left
    ·simp only [Act.put, List.setIfInBounds_toArray, List.set_cons_zero, List.set_cons_succ, i64_w, i32_w]
     rfl
    refine pure_ (i := 2) (N := some 18) (v := ?_) (a' := ?_) #[true, true, true, false, false, false, false, false, false, false, false, false, false, false, false, false, false, false, false, false, false, false, false, false, false, false, false, false, false, false, false, false, false, false] rfl rfl (any_of HT_.out (by kernel_rfl)) (fun _ _ _ h => h) (Or.inl ⟨by rfl, ?_⟩) ?_ ?_
    rotate_left
    ·intro w'
     go_simp
     with_reducible rfl
    rotate_left
    ·simp only [Act.put, List.setIfInBounds_toArray, List.set_cons_zero, List.set_cons_succ, i64_w, i32_w]
     rfl
    refine take_ (i := 3) (N := some 19) (v := ?_) (a' := ?_) #[true, true, true, true, false, false, false, false, false, false, false, false, false, false, false, false, false, false, false, false, false, false, false, false, false, false, false, false, false, false, false, false, false, false] rfl rfl (take_ofW HT_.out HW_.out (by kernel_rfl)) (fun _ _ _ h => h) (Or.inl ⟨by rfl, ?_⟩) hHeld ?_ ?_
    rotate_left
    ·rintro w' ⟨t1, t2⟩
     have y0 : w'.cell? ⟨g, 0, none⟩ = some (.slice (some ⟨ga, 0, none⟩) n c) := (blk_cell t1 0).trans rfl
     go_simp
     with_reducible rfl
    rotate_left
    ·simp only [Act.put, List.setIfInBounds_toArray, List.set_cons_zero, List.set_cons_succ, i64_w, i32_w]
     rfl
    refine pure_ (i := 4) (N := some 20) (v := ?_) (a' := ?_) #[true, true, true, true, true, false, false, false, false, false, false, false, false, false, false, false, false, false, false, false, false, false, false, false, false, false, false, false, false, false, false, false, false, false] rfl rfl (any_of HT_.out (by kernel_rfl)) (fun _ _ _ h => h) (Or.inl ⟨by rfl, ?_⟩) ?_ ?_
    rotate_left
    ·intro w'
     go_simp
     with_reducible rfl
    rotate_left
    ·simp only [Act.put, List.setIfInBounds_toArray, List.set_cons_zero, List.set_cons_succ, i64_w, i32_w]
     rfl
    refine pure_ (i := 5) (N := some 21) (v := ?_) (a' := ?_) #[true, true, true, true, true, true, false, false, false, false, false, false, false, false, false, false, false, false, false, false, false, false, false, false, false, false, false, false, false, false, false, false, false, false] rfl rfl (any_of HT_.out (by kernel_rfl)) (fun _ _ _ h => h) (Or.inl ⟨by rfl, ?_⟩) ?_ ?_
    rotate_left
    ·intro w'
     go_simp
     with_reducible rfl
    rotate_left
    ·simp only [Act.put, List.setIfInBounds_toArray, List.set_cons_zero, List.set_cons_succ, i64_w, i32_w]
     rfl
    refine pure_ (i := 6) (N := some 22) (v := ?_) (a' := ?_) #[true, true, true, true, true, true, true, false, false, false, false, false, false, false, false, false, false, false, false, false, false, false, false, false, false, false, false, false, false, false, false, false, false, false] rfl rfl (any_of HT_.out (by kernel_rfl)) (fun _ _ _ h => h) (Or.inl ⟨by rfl, ?_⟩) ?_ ?_
    rotate_left
    ·intro w'
     go_simp
     with_reducible rfl
    rotate_left
    ·simp only [Act.put, List.setIfInBounds_toArray, List.set_cons_zero, List.set_cons_succ, i64_w, i32_w]
     rfl
    refine take_ (i := 7) (N := some 23) (v := ?_) (a' := ?_) #[true, true, true, true, true, true, true, true, false, false, false, false, false, false, false, false, false, false, false, false, false, false, false, false, false, false, false, false, false, false, false, false, false, false] rfl rfl (take_ofW HT_.out HW_.out (by kernel_rfl)) (fun _ _ _ h => h) (Or.inl ⟨by rfl, ?_⟩) hHeld ?_ ?_
    rotate_left
    ·rintro w' ⟨t1, t2⟩
     go_simp
     with_reducible rfl
    rotate_left
    ·simp only [Act.put, List.setIfInBounds_toArray, List.set_cons_zero, List.set_cons_succ, i64_w, i32_w]
     rfl
    refine pure_ (i := 8) (N := some 24) (v := ?_) (a' := ?_) #[true, true, true, true, true, true, true, true, true, false, false, false, false, false, false, false, false, false, false, false, false, false, false, false, false, false, false, false, false, false, false, false, false, false] rfl rfl (any_of HT_.out (by kernel_rfl)) (fun _ _ _ h => h) (Or.inl ⟨by rfl, ?_⟩) ?_ ?_
    rotate_left
    ·intro w'
     go_simp
     with_reducible rfl
    rotate_left
    ·simp only [Act.put, List.setIfInBounds_toArray, List.set_cons_zero, List.set_cons_succ, i64_w, i32_w]
     rfl
    refine pure_ (i := 9) (N := some 25) (v := ?_) (a' := ?_) #[true, true, true, true, true, true, true, true, true, true, false, false, false, false, false, false, false, false, false, false, false, false, false, false, false, false, false, false, false, false, false, false, false, false] rfl rfl (any_of HT_.out (by kernel_rfl)) (fun _ _ _ h => h) (Or.inl ⟨by rfl, ?_⟩) ?_ ?_
    rotate_left
    ·intro w'
     go_simp
     with_reducible rfl
    rotate_left
    ·simp only [Act.put, List.setIfInBounds_toArray, List.set_cons_zero, List.set_cons_succ, i64_w, i32_w]
     rfl
    refine pure_ (i := 10) (N := some 26) (v := ?_) (a' := ?_) #[true, true, true, true, true, true, true, true, true, true, true, false, false, false, false, false, false, false, false, false, false, false, false, false, false, false, false, false, false, false, false, false, false, false] rfl rfl (any_of HT_.out (by kernel_rfl)) (fun _ _ _ h => h) (Or.inl ⟨by rfl, ?_⟩) ?_ ?_
    rotate_left
    ·intro w'
     go_simp
     with_reducible rfl
    rotate_left
    ·simp only [Act.put, List.setIfInBounds_toArray, List.set_cons_zero, List.set_cons_succ, i64_w, i32_w]
     rfl
    refine take_ (i := 11) (N := some 27) (v := ?_) (a' := ?_) #[true, true, true, true, true, true, true, true, true, true, true, true, false, false, false, false, false, false, false, false, false, false, false, false, false, false, false, false, false, false, false, false, false, false] rfl rfl (take_ofW HT_.out HW_.out (by kernel_rfl)) (fun _ _ _ h => h) (Or.inl ⟨by rfl, ?_⟩) hHeld ?_ ?_
    rotate_left
    ·rintro w' ⟨t1, t2⟩
     have y1 : w'.cell? ⟨g, 1, none⟩ = some (.int .i64 q.now) := (blk_cell t1 1).trans rfl
     go_simp
     with_reducible rfl
    rotate_left
    ·simp only [Act.put, List.setIfInBounds_toArray, List.set_cons_zero, List.set_cons_succ, i64_w, i32_w]
     rfl
    refine pure_ (i := 12) (N := some 28) (v := ?_) (a' := ?_) #[true, true, true, true, true, true, true, true, true, true, true, true, true, false, false, false, false, false, false, false, false, false, false, false, false, false, false, false, false, false, false, false, false, false] rfl rfl (any_of HT_.out (by kernel_rfl)) (fun _ _ _ h => h) (Or.inl ⟨by rfl, ?_⟩) ?_ ?_
    rotate_left
    ·intro w'
     go_simp
     with_reducible rfl
    rotate_left
    ·simp only [Act.put, List.setIfInBounds_toArray, List.set_cons_zero, List.set_cons_succ, i64_w, i32_w]
     rfl
    refine pure_ (i := 13) (N := some 29) (v := ?_) (a' := ?_) #[true, true, true, true, true, true, true, true, true, true, true, true, true, true, false, false, false, false, false, false, false, false, false, false, false, false, false, false, false, false, false, false, false, false] rfl rfl (any_of HT_.out (by kernel_rfl)) (fun _ _ _ h => h) (Or.inl ⟨by rfl, ?_⟩) ?_ ?_
    rotate_left
    ·intro w'
     go_simp
     with_reducible rfl
    rotate_left
    ·simp only [Act.put, List.setIfInBounds_toArray, List.set_cons_zero, List.set_cons_succ, i64_w, i32_w]
     rfl
    refine pure_ (i := 14) (N := some 30) (v := undef) (a' := ?_) #[true, true, true, true, true, true, true, true, true, true, true, true, true, true, true, false, false, false, false, false, false, false, false, false, false, false, false, false, false, false, false, false, false, false] rfl rfl (any_of HT_.out (by kernel_rfl)) (fun _ _ _ h => h) (Or.inr ⟨by rfl, rfl⟩) ?_ ?_
    rotate_left
    ·simp only [Act.put, List.setIfInBounds_toArray, List.set_cons_zero, List.set_cons_succ, i64_w, i32_w]
     rfl
    refine pure_ (i := 15) (N := some 31) (v := undef) (a' := ?_) #[true, true, true, true, true, true, true, true, true, true, true, true, true, true, true, true, false, false, false, false, false, false, false, false, false, false, false, false, false, false, false, false, false, false] rfl rfl (any_of HT_.out (by kernel_rfl)) (fun _ _ _ h => h) (Or.inr ⟨by rfl, rfl⟩) ?_ ?_
    rotate_left
    ·simp only [Act.put, List.setIfInBounds_toArray, List.set_cons_zero, List.set_cons_succ, i64_w, i32_w]
     rfl
    refine pure_ (i := 16) (N := some 32) (v := undef) (a' := ?_) #[true, true, true, true, true, true, true, true, true, true, true, true, true, true, true, true, true, false, false, false, false, false, false, false, false, false, false, false, false, false, false, false, false, false] rfl rfl (any_of HT_.out (by kernel_rfl)) (fun _ _ _ h => h) (Or.inr ⟨by rfl, rfl⟩) ?_ ?_
    rotate_left
    ·simp only [Act.put, List.setIfInBounds_toArray, List.set_cons_zero, List.set_cons_succ, i64_w, i32_w]
     rfl
    refine pure_ (i := 17) (N := some 33) (v := undef) (a' := ?_) #[true, true, true, true, true, true, true, true, true, true, true, true, true, true, true, true, true, true, false, false, false, false, false, false, false, false, false, false, false, false, false, false, false, false] rfl rfl (any_of HT_.out (by kernel_rfl)) (fun _ _ _ h => h) (Or.inr ⟨by rfl, rfl⟩) ?_ ?_
    rotate_left
    ·simp only [Act.put, List.setIfInBounds_toArray, List.set_cons_zero, List.set_cons_succ, i64_w, i32_w]
     rfl
    refine pure_ (i := 18) (N := some 34) (v := undef) (a' := ?_) #[true, true, true, true, true, true, true, true, true, true, true, true, true, true, true, true, true, true, true, false, false, false, false, false, false, false, false, false, false, false, false, false, false, false] rfl rfl (any_of HT_.out (by kernel_rfl)) (fun _ _ _ h => h) (Or.inr ⟨by rfl, rfl⟩) ?_ ?_
    rotate_left
    ·simp only [Act.put, List.setIfInBounds_toArray, List.set_cons_zero, List.set_cons_succ, i64_w, i32_w]
     rfl
    refine pure_ (i := 19) (N := some 35) (v := undef) (a' := ?_) #[true, true, true, true, true, true, true, true, true, true, true, true, true, true, true, true, true, true, true, true, false, false, false, false, false, false, false, false, false, false, false, false, false, false] rfl rfl (any_of HT_.out (by kernel_rfl)) (fun _ _ _ h => h) (Or.inr ⟨by rfl, rfl⟩) ?_ ?_
    rotate_left
    ·simp only [Act.put, List.setIfInBounds_toArray, List.set_cons_zero, List.set_cons_succ, i64_w, i32_w]
     rfl
    refine pure_ (i := 20) (N := some 36) (v := undef) (a' := ?_) #[true, true, true, true, true, true, true, true, true, true, true, true, true, true, true, true, true, true, true, true, true, false, false, false, false, false, false, false, false, false, false, false, false, false] rfl rfl (any_of HT_.out (by kernel_rfl)) (fun _ _ _ h => h) (Or.inr ⟨by rfl, rfl⟩) ?_ ?_
    rotate_left
    ·simp only [Act.put, List.setIfInBounds_toArray, List.set_cons_zero, List.set_cons_succ, i64_w, i32_w]
     rfl
    refine pure_ (i := 21) (N := some 37) (v := undef) (a' := ?_) #[true, true, true, true, true, true, true, true, true, true, true, true, true, true, true, true, true, true, true, true, true, true, false, false, false, false, false, false, false, false, false, false, false, false] rfl rfl (any_of HT_.out (by kernel_rfl)) (fun _ _ _ h => h) (Or.inr ⟨by rfl, rfl⟩) ?_ ?_
    rotate_left
    ·simp only [Act.put, List.setIfInBounds_toArray, List.set_cons_zero, List.set_cons_succ, i64_w, i32_w]
     rfl
    refine pure_ (i := 22) (N := some 38) (v := undef) (a' := ?_) #[true, true, true, true, true, true, true, true, true, true, true, true, true, true, true, true, true, true, true, true, true, true, true, false, false, false, false, false, false, false, false, false, false, false] rfl rfl (any_of HT_.out (by kernel_rfl)) (fun _ _ _ h => h) (Or.inr ⟨by rfl, rfl⟩) ?_ ?_
    rotate_left
    ·simp only [Act.put, List.setIfInBounds_toArray, List.set_cons_zero, List.set_cons_succ, i64_w, i32_w]
     rfl
    refine pure_ (i := 23) (N := some 39) (v := undef) (a' := ?_) #[true, true, true, true, true, true, true, true, true, true, true, true, true, true, true, true, true, true, true, true, true, true, true, true, false, false, false, false, false, false, false, false, false, false] rfl rfl (any_of HT_.out (by kernel_rfl)) (fun _ _ _ h => h) (Or.inr ⟨by rfl, rfl⟩) ?_ ?_
    rotate_left
    ·simp only [Act.put, List.setIfInBounds_toArray, List.set_cons_zero, List.set_cons_succ, i64_w, i32_w]
     rfl
    refine pure_ (i := 24) (N := some 40) (v := undef) (a' := ?_) #[true, true, true, true, true, true, true, true, true, true, true, true, true, true, true, true, true, true, true, true, true, true, true, true, true, false, false, false, false, false, false, false, false, false] rfl rfl (any_of HT_.out (by kernel_rfl)) (fun _ _ _ h => h) (Or.inr ⟨by rfl, rfl⟩) ?_ ?_
    rotate_left
    ·simp only [Act.put, List.setIfInBounds_toArray, List.set_cons_zero, List.set_cons_succ, i64_w, i32_w]
     rfl
    refine pure_ (i := 25) (N := some 41) (v := undef) (a' := ?_) #[true, true, true, true, true, true, true, true, true, true, true, true, true, true, true, true, true, true, true, true, true, true, true, true, true, true, false, false, false, false, false, false, false, false] rfl rfl (any_of HT_.out (by kernel_rfl)) (fun _ _ _ h => h) (Or.inr ⟨by rfl, rfl⟩) ?_ ?_
    rotate_left
    ·simp only [Act.put, List.setIfInBounds_toArray, List.set_cons_zero, List.set_cons_succ, i64_w, i32_w]
     rfl
    refine pure_ (i := 26) (N := some 42) (v := undef) (a' := ?_) #[true, true, true, true, true, true, true, true, true, true, true, true, true, true, true, true, true, true, true, true, true, true, true, true, true, true, true, false, false, false, false, false, false, false] rfl rfl (any_of HT_.out (by kernel_rfl)) (fun _ _ _ h => h) (Or.inr ⟨by rfl, rfl⟩) ?_ ?_
    rotate_left
    ·simp only [Act.put, List.setIfInBounds_toArray, List.set_cons_zero, List.set_cons_succ, i64_w, i32_w]
     rfl
    refine pure_ (i := 27) (N := some 43) (v := undef) (a' := ?_) #[true, true, true, true, true, true, true, true, true, true, true, true, true, true, true, true, true, true, true, true, true, true, true, true, true, true, true, true, false, false, false, false, false, false] rfl rfl (any_of HT_.out (by kernel_rfl)) (fun _ _ _ h => h) (Or.inr ⟨by rfl, rfl⟩) ?_ ?_
    rotate_left
    ·simp only [Act.put, List.setIfInBounds_toArray, List.set_cons_zero, List.set_cons_succ, i64_w, i32_w]
     rfl
    refine pure_ (i := 28) (N := some 44) (v := undef) (a' := ?_) #[true, true, true, true, true, true, true, true, true, true, true, true, true, true, true, true, true, true, true, true, true, true, true, true, true, true, true, true, true, false, false, false, false, false] rfl rfl (any_of HT_.out (by kernel_rfl)) (fun _ _ _ h => h) (Or.inr ⟨by rfl, rfl⟩) ?_ ?_
    rotate_left
    ·simp only [Act.put, List.setIfInBounds_toArray, List.set_cons_zero, List.set_cons_succ, i64_w, i32_w]
     rfl
    refine pure_ (i := 29) (N := some 45) (v := undef) (a' := ?_) #[true, true, true, true, true, true, true, true, true, true, true, true, true, true, true, true, true, true, true, true, true, true, true, true, true, true, true, true, true, true, false, false, false, false] rfl rfl (any_of HT_.out (by kernel_rfl)) (fun _ _ _ h => h) (Or.inr ⟨by rfl, rfl⟩) ?_ ?_
    rotate_left
    ·simp only [Act.put, List.setIfInBounds_toArray, List.set_cons_zero, List.set_cons_succ, i64_w, i32_w]
     rfl
    refine pure_ (i := 30) (N := some 46) (v := undef) (a' := ?_) #[true, true, true, true, true, true, true, true, true, true, true, true, true, true, true, true, true, true, true, true, true, true, true, true, true, true, true, true, true, true, true, false, false, false] rfl rfl (any_of HT_.out (by kernel_rfl)) (fun _ _ _ h => h) (Or.inr ⟨by rfl, rfl⟩) ?_ ?_
    rotate_left
    ·simp only [Act.put, List.setIfInBounds_toArray, List.set_cons_zero, List.set_cons_succ, i64_w, i32_w]
     rfl
    refine pure_ (i := 31) (N := some 47) (v := undef) (a' := ?_) #[true, true, true, true, true, true, true, true, true, true, true, true, true, true, true, true, true, true, true, true, true, true, true, true, true, true, true, true, true, true, true, true, false, false] rfl rfl (any_of HT_.out (by kernel_rfl)) (fun _ _ _ h => h) (Or.inr ⟨by rfl, rfl⟩) ?_ ?_
    rotate_left
    ·simp only [Act.put, List.setIfInBounds_toArray, List.set_cons_zero, List.set_cons_succ, i64_w, i32_w]
     rfl
    refine pure_ (i := 32) (N := some 48) (v := undef) (a' := ?_) #[true, true, true, true, true, true, true, true, true, true, true, true, true, true, true, true, true, true, true, true, true, true, true, true, true, true, true, true, true, true, true, true, true, false] rfl rfl (any_of HT_.out (by kernel_rfl)) (fun _ _ _ h => h) (Or.inr ⟨by rfl, rfl⟩) ?_ ?_
    rotate_left
    ·simp only [Act.put, List.setIfInBounds_toArray, List.set_cons_zero, List.set_cons_succ, i64_w, i32_w]
     rfl
    refine pure_ (i := 33) (N := some 49) (v := ?_) (a' := ?_) #[true, true, true, true, true, true, true, true, true, true, true, true, true, true, true, true, true, true, true, true, true, true, true, true, true, true, true, true, true, true, true, true, true, true] rfl rfl (any_of HT_.out (by kernel_rfl)) (fun _ _ _ h => h) (Or.inl ⟨by rfl, ?_⟩) ?_ ?_
    rotate_left
    ·intro w'
     go_simp
     with_reducible rfl
    rotate_left
    ·simp only [Act.put, List.setIfInBounds_toArray, List.set_cons_zero, List.set_cons_succ, i64_w, i32_w]
     rfl
    refine done_ (done_of HT_.out (by kernel_rfl)) ?_
    clear hHeld HS s1 s2 s3 s4 s5
    go_wp2
    go_round
    case rel => exact ⟨i + 1, b, by go_num, rfl, HI.out, hb1, hb2, ⟨HB.out.skip (by rw [← HX.out]; exact HQ.out)⟩, HD⟩
    case measure => have := HI.out; simp [intOf]; omega
  ·obtain rfl : i = n := by omega
   have b1 : decide ((i : Int) < (i : Int)) = false := decide_eq_false (by omega)
   by_cases hb0 : b < 0
   ·have e2 : decide (b < 0) = true := decide_eq_true hb0
    obtain rfl : b = -1 := by omega
    have HT : Aside0 (takeQ q = (q, 0, false)) := ⟨BI.none_ (by rw [← HN.out]; exact HB.out)⟩
    clear hb0
    go_wp2
    rw [HT.out]
    exact bodyPost_ret (v := .tuple #[.int .i64 0, .bool false]) (by simp [results, Try.results18, go_sem]) rfl ⟨rfl, _, HR.out.1, KeepBut.of_below HR.out.2 g none⟩
   ·have e2 : decide (b < 0) = false := decide_eq_false hb0
    obtain ⟨k, rfl⟩ : ∃ k : Nat, b = k := ⟨b.toNat, by omega⟩
    clear hb0
    have hT := BI.some_ HO.out (by rw [← HN.out]; exact HB.out)
    have hki : k < i := by rw [HN.out]; exact hT.1
    have HT := Aside0.mk hT.2
    have HKI := Aside0.mk hT.1
    clear hT
    have hform : ∃ ga c', (Value.slice A i c) = .slice (some ⟨ga, 0, none⟩) i c' := by
     obtain ⟨ga, c', e, _⟩ := Kd.R_form HH.out.row (by rw [← HN.out]; omega)
     rw [← HN.out] at e
     exact ⟨ga, c', e⟩
    obtain ⟨ga, c', hv⟩ := hform
    injection hv with hv _ hc
    subst hv hc
    obtain ⟨s2, s3, s4, s5, _⟩ := T4_cell HR.out.1.row k hki
    have b4 : decide (k < i) = true := decide_eq_true hki
    have HRW : Aside0 (kT.R 65 wr W.heap.size (fun _ => True) (.slice (some ⟨ga, 0, none⟩) i c) q.L) := ⟨HR.out.1.row⟩
    obtain ⟨y, hy⟩ : ∃ y, y = q.L.getD k t0 := ⟨_, rfl⟩
    rw [← hy] at s2 s3 s4 s5 HT
    clear hy
    go_wp2_with (first | (go_at_call 31; refine (without_calls W wr _ q.L HRW.out (by rw [← HN.out]; exact hl) k HKI.out).mono ?_; rintro e w1 ⟨v1, rfl, hr, hb⟩; have HN1 := Aside0.mk (HR.out.1.newrow hb hr); have f1 : w1.cell? ⟨g, 0, none⟩ = some (.slice (some ⟨ga, 0, none⟩) i c) := (hb.cell (World.block_lt_of_cell? wr _ f0)).trans f0; have z1 := blk_frozen (blk_below HR.out.1.blk hb) 0; obtain ⟨A1, c1', hv1⟩ := Kd.R_slice hr; obtain ⟨n1, hn1⟩ : ∃ m : Nat, m = (q.L.eraseIdx k).length := ⟨_, rfl⟩; rw [← hn1] at hv1; subst hv1; clear hn1 hr hb f0) | ((with_reducible refine gate_store (t := 43) (p := 69) rfl ?_); refine store_event (t := 43) (p := 69) (v := ?vo1) (w1 := (w1.setCell ⟨g, 0, none⟩ (.slice A1 n1 c1'))) ?hg1 ?ho1 ?hn1 ?hr1 ?_; (case ho1 => rfl); (case hg1 => rfl); (case hn1 => rfl); (case hr1 => first | (go_simp; done) | (go_simp; rfl)); intro w2 hw; rw [← hw] at HN1; clear hw f1 z1))
    rw [HT.out]
    exact bodyPost_ret (v := .tuple #[.int .i64 y.id, .bool true]) (by simp [results, Try.results18, go_sem]) rfl ⟨rfl, _, HN1.out.1, (KeepBut.of_below HR.out.2 g none).trans HN1.out.2 (.inl rfl)⟩
end Go.Proofs.Ytacceeefcelkhaa.Al

namespace Go.Proofs.Ytacceeefcelkhaa.Al
open Go.RowKit Go.Proofs.Ytacceeefcelkhaa.DueHeap Go.Proofs.Ytacceeefcelkhaa.DueSpec Go.Proofs.YtacceeefcelkhaaW.PrintWords Go.Proofs.YtacceeefcelkhaaW.PrintLast Go.Proofs.YtacceeefcelkhaaW.PrintMore
set_option linter.unusedVariables false
set_option linter.unusedSimpArgs false
/-- Rows that were made one behind the other are unlike. -/
theorem own_ne {u v : Value} {W0 W2 : World} (h : ∃ b, u.ownBlock = some b ∧ W0.heap.size ≤ b) (h2 : ∃ b, v.ownBlock = some b ∧ W2.heap.size ≤ b) (hlt : ∀ b, u.ownBlock = some b → b < W2.heap.size) : u.ownBlock ≠ v.ownBlock := by
 obtain ⟨b, hb, _⟩ := h
 obtain ⟨c, hc, h3⟩ := h2
 have := hlt b hb
 rw [hb, hc]
 simp only [ne_eq, Option.some.injEq]
 omega
theorem RQ.setput {W w : World} {g : Nat} {q : Qs} {v : Value} (h : RQ W w g q v) (n : Int) : RQ W (w.setCell ⟨g, 2, none⟩ (.int .i64 n)) g ⟨q.L, q.now, n⟩ v :=
 ⟨by simpa using blk_set h.blk 2 (.int .i64 n), h.ge, Kd.R_grown1 h.row rfl (due_grown w g 2 _) (Kd.R_ne h.row h.blk (by decide)), below_set h.bel h.ge⟩
def rg17_6_T : Bool × List (List Nat × List Nat) := (true, [([], []), ([], []), ([], []), ([2], [2]), ([3], [3]), ([4], [4]), ([1, 5], [1, 5]), ([], []), ([], []), ([], []), ([], []), ([10], [10]), ([11], [11]), ([12], [12]), ([7, 8, 9, 13], [7, 8, 9, 13]), ([14], [14]), ([6, 15, 6], [6, 15]), ([0, 0, 1, 2, 3, 4, 5, 6, 7, 8, 9, 10, 11, 12, 13, 14, 15, 16], [0]), ([17, 0, 1, 2, 3, 4, 5, 6, 7, 8, 9, 10, 11, 12, 13, 14, 15, 16], [17]), ([18, 16, 16, 0, 1, 2, 3, 4, 5, 6, 7, 8, 9, 10, 11, 12, 13, 14, 15, 16], [16, 18])])
def rg17_6_B : List Nat := [0, 0, 0, 4, 12, 28, 62, 0, 0, 0, 0, 1024, 3072, 7168, 16256, 32640, 65534, 131071, 262143, 524287]
theorem rg17_6_tab : rtab .any (opsOf Try.f17 6) = rg17_6_T := by kernel_rfl
theorem rg17_6_bits : waitsOk rg17_6_T.2 rg17_6_B = true := by kernel_rfl
set_option maxHeartbeats 16000000 in
set_option maxRecDepth 100000 in
theorem rput_calls (W w : World) (g : Nat) (q : Qs) (v : Value) (h : RQ W w g q v) (k : Nat) (ho : DueSpec.Ok k q) (hk : k ≤ 100000) (a u i : Int) : Calls Try.prog 17 #[.pointer (some ⟨g, 0, none⟩), .int .i64 a, .int .i64 u, .int .i64 i] w fun e w' => e = .returned (.tuple #[.int .i64 (putQ q a u i).2.1, .int .i64 (putQ q a u i).2.2]) ∧ ∃ v', RQ W w' g (putQ q a u i).1 v' ∧ KeepBut w w' g none := by
 have hu65 := Try.underlying65
 have HH := Aside0.mk h
 have HO := Aside0.mk ho
 obtain ⟨Aq, cq, hv⟩ := Kd.R_slice h.row
 subst hv
 obtain ⟨n, hn⟩ : ∃ n, n = q.L.length := ⟨_, rfl⟩
 have HN := Aside0.mk hn
 rw [← hn] at h HH
 have hl := ho.len
 rw [← hn] at hl
 have f0 : w.cell? ⟨g, 0, none⟩ = some (.slice Aq n cq) := (blk_cell HH.out.blk 0).trans rfl
 have f2 : w.cell? ⟨g, 2, none⟩ = some (.int .i64 q.put) := (blk_cell HH.out.blk 2).trans rfl
 have z2 := blk_frozen HH.out.blk 2
 have hp0 := ho.p0
 have hp1 := ho.p1
 have HP : Aside0 (0 ≤ q.put ∧ q.put ≤ 100000) := ⟨hp0, by omega⟩
 clear h ho hn
 by_cases h1 : a < 0
 ·have d1 : decide (a < 0) = true := decide_eq_true h1
  have HR : Aside0 (putQ q a u i = (q, 0, 1)) := ⟨if_pos (.inl h1)⟩
  rw [HR.out]
  clear h1
  go_enter Try.func17, Try.ntmps17
  go_wp2
  exact bodyPost_ret (v := .tuple #[.int .i64 0, .int .i64 1]) (by simp [results, Try.results17, go_sem]) rfl ⟨rfl, _, HH.out, KeepBut.refl _ _ _⟩
 have d1 : decide (a < 0) = false := decide_eq_false h1
 by_cases h2 : 1099511627776 < a
 ·have d2 : decide (1099511627776 < a) = true := decide_eq_true h2
  have HR : Aside0 (putQ q a u i = (q, 0, 1)) := ⟨if_pos (.inr h2)⟩
  rw [HR.out]
  clear h1 h2
  go_enter Try.func17, Try.ntmps17
  go_wp2
  exact bodyPost_ret (v := .tuple #[.int .i64 0, .int .i64 1]) (by simp [results, Try.results17, go_sem]) rfl ⟨rfl, _, HH.out, KeepBut.refl _ _ _⟩
 have d2 : decide (1099511627776 < a) = false := decide_eq_false h2
 by_cases h3 : 1024 ≤ n
 ·have d3 : decide ((1024 : Int) ≤ (n : Int)) = true := decide_eq_true (by omega)
  have d4 : decide (1024 ≤ n) = true := decide_eq_true h3
  have HR : Aside0 (putQ q a u i = (q, 0, 2)) := ⟨by unfold putQ; rw [if_neg (by omega), if_pos (by rw [← HN.out]; exact h3)]⟩
  rw [HR.out]
  clear h1 h2 h3
  go_enter Try.func17, Try.ntmps17
  go_wp2
  exact bodyPost_ret (v := .tuple #[.int .i64 0, .int .i64 2]) (by simp [results, Try.results17, go_sem]) rfl ⟨rfl, _, HH.out, KeepBut.refl _ _ _⟩
 have d3 : decide ((1024 : Int) ≤ (n : Int)) = false := decide_eq_false (by omega)
 have d4 : decide (1024 ≤ n) = false := decide_eq_false h3
 have HR : Aside0 (putQ q a u i = (⟨q.L ++ [⟨a, u, i, q.put + 1⟩], q.now, q.put + 1⟩, q.put + 1, 0)) := ⟨by unfold putQ; rw [if_neg (by omega), if_neg (by rw [← HN.out]; exact h3)]⟩
 rw [HR.out]
 have hwp : wrap64 (q.put + 1) = q.put + 1 := by have := HP.out; unfold wrap64; omega
 have hwp' : IntKind.i64.wrap (q.put + 1) = q.put + 1 := by have := HP.out; rw [IntKind.wrap_i64]; omega
 clear h1 h2 h3 hp0 hp1
 go_enter Try.func17, Try.ntmps17
 go_upto_region 6 with ((with_reducible refine gate_store (t := 3) (p := 28) rfl ?_); refine store_event (t := 3) (p := 28) (v := ?vo1) (w1 := (w.setCell ⟨g, 2, none⟩ (.int .i64 (q.put + 1)))) ?hg1 ?ho1 ?hn1 ?hr1 ?_; (case ho1 => rfl); (case hg1 => rfl); (case hn1 => rfl); (case hr1 => first | (go_simp; done) | (go_simp; rfl)); intro w1 hw; have H1 := Aside0.mk (HH.out.setput (q.put + 1)); have HK1 := Aside0.mk ((KeepBut.refl w g none).set_ 2 (.int .i64 (q.put + 1))); rw [← hw] at H1 HK1; clear hw f0 f2 z2)
 have HBd : Aside0 (Below w1.heap.size w1 w1.drew) := ⟨below_drew (Below.refl _ _)⟩
 have HS0 := Aside0.mk (blk_below H1.out.blk HBd.out)
 have HCR : Aside0 (∀ {Wx : World}, Below w1.heap.size w1 Wx → Kd.C kT Wx Aq n q.L) := ⟨fun hb => by have := (Kd.R_reads' (by have := H1.out.row; rw [HN.out] at this; exact this)).2.2; rw [← HN.out] at this; exact Kd.C_below this hb⟩
 refine start_ (n := 20) (S := fun w' => w'.heap[g]? = some (.cells #[.slice Aq n cq, .int .i64 q.now, .int .i64 (q.put + 1)] 45 (0, 0))) (ds := [19]) #[false, false, false, false, false, false, false, false, false, false, false, false, false, false, false, false, false, false, false, false] (by kernel_rfl) rfl rfl HS0.out (fun hHeld => ?_)
 refine with_tabW rg17_6_tab rg17_6_bits (fun HT_ HW_ => ?_)
 refine pure_ (i := 0) (N := some 29) (v := ?_) (a' := ?_) #[true, false, false, false, false, false, false, false, false, false, false, false, false, false, false, false, false, false, false, false] rfl rfl (any_of HT_.out (by kernel_rfl)) (fun _ _ _ h => h) (Or.inl ⟨by rfl, ?_⟩) ?_ ?_
 rotate_left
 ·intro w'
  go_simp
  with_reducible rfl
 rotate_left
 ·simp only [Act.put, List.setIfInBounds_toArray, List.set_cons_zero, List.set_cons_succ, i64_w, i32_w]
  rfl
 refine pure_ (i := 2) (N := some 31) (v := ?_) (a' := ?_) #[true, false, true, false, false, false, false, false, false, false, false, false, false, false, false, false, false, false, false, false] rfl rfl (any_of HT_.out (by kernel_rfl)) (fun _ _ _ h => h) (Or.inl ⟨by rfl, ?_⟩) ?_ ?_
 rotate_left
 ·intro w'
  go_simp
  with_reducible rfl
 rotate_left
 ·simp only [Act.put, List.setIfInBounds_toArray, List.set_cons_zero, List.set_cons_succ, i64_w, i32_w]
  rfl
 refine pure_ (i := 3) (N := some 32) (v := ?_) (a' := ?_) #[true, false, true, true, false, false, false, false, false, false, false, false, false, false, false, false, false, false, false, false] rfl rfl (any_of HT_.out (by kernel_rfl)) (fun _ _ _ h => h) (Or.inl ⟨by rfl, ?_⟩) ?_ ?_
 rotate_left
 ·intro w'
  go_simp
  with_reducible rfl
 rotate_left
 ·simp only [Act.put, List.setIfInBounds_toArray, List.set_cons_zero, List.set_cons_succ, i64_w, i32_w]
  rfl
 refine pure_ (i := 4) (N := some 33) (v := ?_) (a' := ?_) #[true, false, true, true, true, false, false, false, false, false, false, false, false, false, false, false, false, false, false, false] rfl rfl (any_of HT_.out (by kernel_rfl)) (fun _ _ _ h => h) (Or.inl ⟨by rfl, ?_⟩) ?_ ?_
 rotate_left
 ·intro w'
  go_simp
  with_reducible rfl
 rotate_left
 ·simp only [Act.put, List.setIfInBounds_toArray, List.set_cons_zero, List.set_cons_succ, i64_w, i32_w]
  rfl
 refine take_ (i := 5) (N := some 34) (v := ?_) (a' := ?_) #[true, false, true, true, true, true, false, false, false, false, false, false, false, false, false, false, false, false, false, false] rfl rfl (take_ofW HT_.out HW_.out (by kernel_rfl)) (fun _ _ _ h => h) (Or.inl ⟨by rfl, ?_⟩) hHeld ?_ ?_
 rotate_left
 ·rintro w' s0
  have y0 : w'.cell? ⟨g, 0, none⟩ = some (.slice Aq n cq) := (blk_cell s0 0).trans rfl
  go_simp
  with_reducible rfl
 rotate_left
 ·simp only [Act.put, List.setIfInBounds_toArray, List.set_cons_zero, List.set_cons_succ, i64_w, i32_w]
  rfl
 refine pure_ (i := 7) (N := some 36) (v := ?_) (a' := ?_) #[true, false, true, true, true, true, false, true, false, false, false, false, false, false, false, false, false, false, false, false] rfl rfl (any_of HT_.out (by kernel_rfl)) (fun _ _ _ h => h) (Or.inl ⟨by rfl, ?_⟩) ?_ ?_
 rotate_left
 ·intro w'
  go_simp
  with_reducible rfl
 rotate_left
 ·simp only [Act.put, List.setIfInBounds_toArray, List.set_cons_zero, List.set_cons_succ, i64_w, i32_w]
  rfl
 refine pure_ (i := 8) (N := some 37) (v := ?_) (a' := ?_) #[true, false, true, true, true, true, false, true, true, false, false, false, false, false, false, false, false, false, false, false] rfl rfl (any_of HT_.out (by kernel_rfl)) (fun _ _ _ h => h) (Or.inl ⟨by rfl, ?_⟩) ?_ ?_
 rotate_left
 ·intro w'
  go_simp
  with_reducible rfl
 rotate_left
 ·simp only [Act.put, List.setIfInBounds_toArray, List.set_cons_zero, List.set_cons_succ, i64_w, i32_w]
  rfl
 refine pure_ (i := 9) (N := some 38) (v := ?_) (a' := ?_) #[true, false, true, true, true, true, false, true, true, true, false, false, false, false, false, false, false, false, false, false] rfl rfl (any_of HT_.out (by kernel_rfl)) (fun _ _ _ h => h) (Or.inl ⟨by rfl, ?_⟩) ?_ ?_
 rotate_left
 ·intro w'
  go_simp
  with_reducible rfl
 rotate_left
 ·simp only [Act.put, List.setIfInBounds_toArray, List.set_cons_zero, List.set_cons_succ, i64_w, i32_w]
  rfl
 refine pure_ (i := 10) (N := some 39) (v := ?_) (a' := ?_) #[true, false, true, true, true, true, false, true, true, true, true, false, false, false, false, false, false, false, false, false] rfl rfl (any_of HT_.out (by kernel_rfl)) (fun _ _ _ h => h) (Or.inl ⟨by rfl, ?_⟩) ?_ ?_
 rotate_left
 ·intro w'
  go_simp
  with_reducible rfl
 rotate_left
 ·simp only [Act.put, List.setIfInBounds_toArray, List.set_cons_zero, List.set_cons_succ, i64_w, i32_w]
  rfl
 refine pure_ (i := 11) (N := some 40) (v := ?_) (a' := ?_) #[true, false, true, true, true, true, false, true, true, true, true, true, false, false, false, false, false, false, false, false] rfl rfl (any_of HT_.out (by kernel_rfl)) (fun _ _ _ h => h) (Or.inl ⟨by rfl, ?_⟩) ?_ ?_
 rotate_left
 ·intro w'
  go_simp
  with_reducible rfl
 rotate_left
 ·simp only [Act.put, List.setIfInBounds_toArray, List.set_cons_zero, List.set_cons_succ, i64_w, i32_w]
  rfl
 refine pure_ (i := 12) (N := some 41) (v := ?_) (a' := ?_) #[true, false, true, true, true, true, false, true, true, true, true, true, true, false, false, false, false, false, false, false] rfl rfl (any_of HT_.out (by kernel_rfl)) (fun _ _ _ h => h) (Or.inl ⟨by rfl, ?_⟩) ?_ ?_
 rotate_left
 ·intro w'
  go_simp
  with_reducible rfl
 rotate_left
 ·simp only [Act.put, List.setIfInBounds_toArray, List.set_cons_zero, List.set_cons_succ, i64_w, i32_w]
  rfl
 refine take_ (i := 13) (N := some 42) (v := ?_) (a' := ?_) #[true, false, true, true, true, true, false, true, true, true, true, true, true, true, false, false, false, false, false, false] rfl rfl (take_ofW HT_.out HW_.out (by kernel_rfl)) (fun _ _ _ h => h) (Or.inl ⟨by rfl, ?_⟩) hHeld ?_ ?_
 rotate_left
 ·rintro w' s0
  have y2 : w'.cell? ⟨g, 2, none⟩ = some (.int .i64 (q.put + 1)) := (blk_cell s0 2).trans rfl
  go_simp
  with_reducible rfl
 rotate_left
 ·simp only [Act.put, List.setIfInBounds_toArray, List.set_cons_zero, List.set_cons_succ, i64_w, i32_w]
  rfl
 refine pure_ (i := 14) (N := some 43) (v := ?_) (a' := ?_) #[true, false, true, true, true, true, false, true, true, true, true, true, true, true, true, false, false, false, false, false] rfl rfl (any_of HT_.out (by kernel_rfl)) (fun _ _ _ h => h) (Or.inl ⟨by rfl, ?_⟩) ?_ ?_
 rotate_left
 ·intro w'
  go_simp
  with_reducible rfl
 rotate_left
 ·simp only [Act.put, List.setIfInBounds_toArray, List.set_cons_zero, List.set_cons_succ, i64_w, i32_w]
  rfl
 obtain ⟨W0, hW0⟩ : ∃ W0, W0 = w1.drew := ⟨_, rfl⟩
 have HB0 : Aside0 (Below w1.heap.size w1 W0) := ⟨by rw [hW0]; exact HBd.out⟩
 have HS_0 : Aside0 (W0.heap[g]? = some (.cells #[.slice Aq n cq, .int .i64 q.now, .int .i64 (q.put + 1)] 45 (0, 0))) := ⟨by rw [hW0]; exact HS0.out⟩
 rw [← hW0]
 clear hW0 HBd HS0 hHeld
 refine join_ (σ := Value × Value × Value) 4 #[true, true, true, true, true, true, true, true, true, true, true, true, true, true, true, true, false, false, false, false] (fun s => [(30, s.1), (35, s.2.1), (44, s.2.2)]) (fun s w' => kT.R 65 w' w1.heap.size (fun _ => True) s.2.1 q.L ∧ kT.R 65 w' w1.heap.size (fun _ => True) s.2.2 [(⟨a, u, i, q.put + 1⟩ : Tk)] ∧ Below w1.heap.size w1 w' ∧ w'.heap[g]? = some (.cells #[.slice Aq n cq, .int .i64 q.now, .int .i64 (q.put + 1)] 45 (0, 0))) ?_ (fun hcont => ?_)
 rotate_left
 refine two_ (i := 1) (j := 15) (Ni := some 30) (Nj := some 44) #[true, true, true, true, true, true, false, true, true, true, true, true, true, true, true, false, false, false, false, false] #[true, false, true, true, true, true, false, true, true, true, true, true, true, true, true, true, false, false, false, false] rfl rfl rfl rfl (two_of HT_.out (by kernel_rfl)) (by decide) (by decide) (fun K hK => ?_) (fun K hK => ?_)
 ·(refine Kd.R_lit_step kT (w0 := w1) w1.heap.size 65 (by rfl) (N := 30) rfl (xs := ([] : List Tk)) (inner := []) (ok := fun _ => True) (okp := fun _ => True) ?hrq1 (Reps.none _ _) (fun _ hk => hk) trivial HB0.out HB0.out.size (by simp) ?_; (case hrq1 => first | (go_simp; done) | (go_simp; rfl)); intro vq1 wq1 ho hb hg hat; have HV1_q1 := Aside0.mk ho; have HBq1 := Aside0.mk hb; have HGq1 := Aside0.mk hg; have HTq1 := Aside0.mk hat; clear ho hb hg hat)
  have HS_q1 : Aside0 (wq1.heap[g]? = some (.cells #[.slice Aq n cq, .int .i64 q.now, .int .i64 (q.put + 1)] 45 (0, 0))) := ⟨blk_grown HS_0.out HGq1.out (by simp)⟩
  refine hK.out _ _ HS_q1.out (fun _ => ?_)
  clear hK K
  refine norm_ (a' := ?_) ?_ ?_
  rotate_left
  ·show Act.put _ (some 30) _ = _
   simp only [Act.put, List.setIfInBounds_toArray, List.set_cons_zero, List.set_cons_succ, i64_w, i32_w]
   rfl
  refine two_ (i := 6) (j := 15) (Ni := some 35) (Nj := some 44) #[true, true, true, true, true, true, true, true, true, true, true, true, true, true, true, false, false, false, false, false] #[true, true, true, true, true, true, false, true, true, true, true, true, true, true, true, true, false, false, false, false] rfl rfl rfl rfl (two_of HT_.out (by kernel_rfl)) (by decide) (by decide) (fun K hK => ?_) (fun K hK => ?_)
  ·(refine Kd.R_append_rows_step kT (w0 := w1) w1.heap.size (by rfl) (.tmp 30) (.tmp 34) 43 65 (.agg #[(.int .i64 0), (.int .i64 0), (.int .i64 0), (.int .i64 0)]) 32 rfl Try.underlying43 info65 rfl (Nat.succ_pos 3) (by omega) vq1 [] q.L _ _ _ (fun _ => True) (fun _ => False) rfl rfl HV1_q1.out ?aRq16 (fun _ _ h => h) (fun _ h => h.elim) (fun _ _ => trivial) HBq1.out HBq1.out.size (by simp only [List.length_nil]; omega) ?_; (case aRq16 => exact (HCR.out (HBq1.out))); intro vq16 wq16 ho hb hg hat; rw [List.nil_append] at ho; have HV6_q16 := Aside0.mk ho; have HBq16 := Aside0.mk hb; have HGq16 := Aside0.mk hg; have HTq16 := Aside0.mk hat; clear ho hb hg hat)
   have HS_q16 : Aside0 (wq16.heap[g]? = some (.cells #[.slice Aq n cq, .int .i64 q.now, .int .i64 (q.put + 1)] 45 (0, 0))) := ⟨blk_grown HS_q1.out HGq16.out (Kd.R_ne HV1_q1.out HS_q1.out (by decide))⟩
   refine hK.out _ _ HS_q16.out (fun _ => ?_)
   clear hK K
   refine norm_ (a' := ?_) ?_ ?_
   rotate_left
   ·show Act.put _ (some 35) _ = _
    simp only [Act.put, List.setIfInBounds_toArray, List.set_cons_zero, List.set_cons_succ, i64_w, i32_w]
    rfl
   refine one_ (i := 15) (N := some 44) #[true, true, true, true, true, true, true, true, true, true, true, true, true, true, true, true, false, false, false, false] rfl rfl (one_of HT_.out (by kernel_rfl)) (by decide) (fun K hK => ?_)
   (refine Kd.R_lit_step kT (w0 := w1) w1.heap.size 65 (by rfl) (N := 44) rfl (xs := [(⟨a, u, i, q.put + 1⟩ : Tk)]) (inner := [.int .i64 a, .int .i64 u, .int .i64 i, .int .i64 (q.put + 1)]) (ok := fun _ => True) (okp := fun _ => True) ?hrq1615 ?rpq1615 (fun _ hk => hk) trivial HBq16.out HBq16.out.size (by simp) ?_; (case hrq1615 => first | (go_simp; done) | (go_simp; rfl)); (case rpq1615 => exact Reps.c4 (T4_M _ _ _ (⟨a, u, i, q.put + 1⟩ : Tk)) (Reps.none _ _)); intro vq1615 wq1615 ho hb hg hat; have HV15_q1615 := Aside0.mk ho; have HBq1615 := Aside0.mk hb; have HGq1615 := Aside0.mk hg; have HTq1615 := Aside0.mk hat; have HV6_q1615 := Aside0.mk (Kd.R_grown HV6_q16.out hg (fun _ _ h => nomatch h)); clear ho hb hg hat)
   have HS_q1615 : Aside0 (wq1615.heap[g]? = some (.cells #[.slice Aq n cq, .int .i64 q.now, .int .i64 (q.put + 1)] 45 (0, 0))) := ⟨blk_grown HS_q16.out HGq1615.out (by simp)⟩
   refine hK.out _ _ HS_q1615.out (fun _ => ?_)
   clear hK K
   refine norm_ (a' := ?_) ?_ ?_
   rotate_left
   ·show Act.put _ (some 44) _ = _
    simp only [Act.put, List.setIfInBounds_toArray, List.set_cons_zero, List.set_cons_succ, i64_w, i32_w]
    rfl
   exact hcont (vq1, vq16, vq1615) wq1615 ⟨HV6_q1615.out, HV15_q1615.out, HBq1615.out, HS_q1615.out⟩
  ·(refine Kd.R_lit_step kT (w0 := w1) w1.heap.size 65 (by rfl) (N := 44) rfl (xs := [(⟨a, u, i, q.put + 1⟩ : Tk)]) (inner := [.int .i64 a, .int .i64 u, .int .i64 i, .int .i64 (q.put + 1)]) (ok := fun _ => True) (okp := fun _ => True) ?hrq115 ?rpq115 (fun _ hk => hk) trivial HBq1.out HBq1.out.size (by simp) ?_; (case hrq115 => first | (go_simp; done) | (go_simp; rfl)); (case rpq115 => exact Reps.c4 (T4_M _ _ _ (⟨a, u, i, q.put + 1⟩ : Tk)) (Reps.none _ _)); intro vq115 wq115 ho hb hg hat; have HV15_q115 := Aside0.mk ho; have HBq115 := Aside0.mk hb; have HGq115 := Aside0.mk hg; have HTq115 := Aside0.mk hat; have HV1_q115 := Aside0.mk (Kd.R_grown HV1_q1.out hg (fun _ _ h => nomatch h)); clear ho hb hg hat)
   have HS_q115 : Aside0 (wq115.heap[g]? = some (.cells #[.slice Aq n cq, .int .i64 q.now, .int .i64 (q.put + 1)] 45 (0, 0))) := ⟨blk_grown HS_q1.out HGq115.out (by simp)⟩
   refine hK.out _ _ HS_q115.out (fun _ => ?_)
   clear hK K
   refine norm_ (a' := ?_) ?_ ?_
   rotate_left
   ·show Act.put _ (some 44) _ = _
    simp only [Act.put, List.setIfInBounds_toArray, List.set_cons_zero, List.set_cons_succ, i64_w, i32_w]
    rfl
   refine one_ (i := 6) (N := some 35) #[true, true, true, true, true, true, true, true, true, true, true, true, true, true, true, true, false, false, false, false] rfl rfl (one_of HT_.out (by kernel_rfl)) (by decide) (fun K hK => ?_)
   (refine Kd.R_append_rows_step kT (w0 := w1) w1.heap.size (by rfl) (.tmp 30) (.tmp 34) 43 65 (.agg #[(.int .i64 0), (.int .i64 0), (.int .i64 0), (.int .i64 0)]) 32 rfl Try.underlying43 info65 rfl (Nat.succ_pos 3) (by omega) vq1 [] q.L _ _ _ (fun _ => True) (fun _ => False) rfl rfl HV1_q115.out ?aRq1156 (fun _ _ h => h) (fun _ h => h.elim) (fun _ _ => trivial) HBq115.out HBq115.out.size (by simp only [List.length_nil]; omega) ?_; (case aRq1156 => exact (HCR.out (HBq115.out))); intro vq1156 wq1156 ho hb hg hat; rw [List.nil_append] at ho; have HV6_q1156 := Aside0.mk ho; have HBq1156 := Aside0.mk hb; have HGq1156 := Aside0.mk hg; have HTq1156 := Aside0.mk hat; have NEq1156 : Aside0 (vq1.ownBlock ≠ vq115.ownBlock) := ⟨own_ne HTq1.out HTq115.out (fun b hb => Kd.R_lt HV1_q1.out b hb)⟩; have HV15_q1156 := Aside0.mk (Kd.R_grown1 HV15_q115.out rfl hg NEq1156.out); clear ho hb hg hat)
   have HS_q1156 : Aside0 (wq1156.heap[g]? = some (.cells #[.slice Aq n cq, .int .i64 q.now, .int .i64 (q.put + 1)] 45 (0, 0))) := ⟨blk_grown HS_q115.out HGq1156.out (Kd.R_ne HV1_q115.out HS_q115.out (by decide))⟩
   refine hK.out _ _ HS_q1156.out (fun _ => ?_)
   clear hK K
   refine norm_ (a' := ?_) ?_ ?_
   rotate_left
   ·show Act.put _ (some 35) _ = _
    simp only [Act.put, List.setIfInBounds_toArray, List.set_cons_zero, List.set_cons_succ, i64_w, i32_w]
    rfl
   exact hcont (vq1, vq1156, vq115) wq1156 ⟨HV6_q1156.out, HV15_q1156.out, HBq1156.out, HS_q1156.out⟩
 ·(refine Kd.R_lit_step kT (w0 := w1) w1.heap.size 65 (by rfl) (N := 44) rfl (xs := [(⟨a, u, i, q.put + 1⟩ : Tk)]) (inner := [.int .i64 a, .int .i64 u, .int .i64 i, .int .i64 (q.put + 1)]) (ok := fun _ => True) (okp := fun _ => True) ?hrq15 ?rpq15 (fun _ hk => hk) trivial HB0.out HB0.out.size (by simp) ?_; (case hrq15 => first | (go_simp; done) | (go_simp; rfl)); (case rpq15 => exact Reps.c4 (T4_M _ _ _ (⟨a, u, i, q.put + 1⟩ : Tk)) (Reps.none _ _)); intro vq15 wq15 ho hb hg hat; have HV15_q15 := Aside0.mk ho; have HBq15 := Aside0.mk hb; have HGq15 := Aside0.mk hg; have HTq15 := Aside0.mk hat; clear ho hb hg hat)
  have HS_q15 : Aside0 (wq15.heap[g]? = some (.cells #[.slice Aq n cq, .int .i64 q.now, .int .i64 (q.put + 1)] 45 (0, 0))) := ⟨blk_grown HS_0.out HGq15.out (by simp)⟩
  refine hK.out _ _ HS_q15.out (fun _ => ?_)
  clear hK K
  refine norm_ (a' := ?_) ?_ ?_
  rotate_left
  ·show Act.put _ (some 44) _ = _
   simp only [Act.put, List.setIfInBounds_toArray, List.set_cons_zero, List.set_cons_succ, i64_w, i32_w]
   rfl
  refine one_ (i := 1) (N := some 30) #[true, true, true, true, true, true, false, true, true, true, true, true, true, true, true, true, false, false, false, false] rfl rfl (one_of HT_.out (by kernel_rfl)) (by decide) (fun K hK => ?_)
  (refine Kd.R_lit_step kT (w0 := w1) w1.heap.size 65 (by rfl) (N := 30) rfl (xs := ([] : List Tk)) (inner := []) (ok := fun _ => True) (okp := fun _ => True) ?hrq151 (Reps.none _ _) (fun _ hk => hk) trivial HBq15.out HBq15.out.size (by simp) ?_; (case hrq151 => first | (go_simp; done) | (go_simp; rfl)); intro vq151 wq151 ho hb hg hat; have HV1_q151 := Aside0.mk ho; have HBq151 := Aside0.mk hb; have HGq151 := Aside0.mk hg; have HTq151 := Aside0.mk hat; have HV15_q151 := Aside0.mk (Kd.R_grown HV15_q15.out hg (fun _ _ h => nomatch h)); clear ho hb hg hat)
  have HS_q151 : Aside0 (wq151.heap[g]? = some (.cells #[.slice Aq n cq, .int .i64 q.now, .int .i64 (q.put + 1)] 45 (0, 0))) := ⟨blk_grown HS_q15.out HGq151.out (by simp)⟩
  refine hK.out _ _ HS_q151.out (fun _ => ?_)
  clear hK K
  refine norm_ (a' := ?_) ?_ ?_
  rotate_left
  ·show Act.put _ (some 30) _ = _
   simp only [Act.put, List.setIfInBounds_toArray, List.set_cons_zero, List.set_cons_succ, i64_w, i32_w]
   rfl
  refine one_ (i := 6) (N := some 35) #[true, true, true, true, true, true, true, true, true, true, true, true, true, true, true, true, false, false, false, false] rfl rfl (one_of HT_.out (by kernel_rfl)) (by decide) (fun K hK => ?_)
  (refine Kd.R_append_rows_step kT (w0 := w1) w1.heap.size (by rfl) (.tmp 30) (.tmp 34) 43 65 (.agg #[(.int .i64 0), (.int .i64 0), (.int .i64 0), (.int .i64 0)]) 32 rfl Try.underlying43 info65 rfl (Nat.succ_pos 3) (by omega) vq151 [] q.L _ _ _ (fun _ => True) (fun _ => False) rfl rfl HV1_q151.out ?aRq1516 (fun _ _ h => h) (fun _ h => h.elim) (fun _ _ => trivial) HBq151.out HBq151.out.size (by simp only [List.length_nil]; omega) ?_; (case aRq1516 => exact (HCR.out (HBq151.out))); intro vq1516 wq1516 ho hb hg hat; rw [List.nil_append] at ho; have HV6_q1516 := Aside0.mk ho; have HBq1516 := Aside0.mk hb; have HGq1516 := Aside0.mk hg; have HTq1516 := Aside0.mk hat; have NEq1516 : Aside0 (vq151.ownBlock ≠ vq15.ownBlock) := ⟨(own_ne HTq15.out HTq151.out (fun b hb => Kd.R_lt HV15_q15.out b hb)).symm⟩; have HV15_q1516 := Aside0.mk (Kd.R_grown1 HV15_q151.out rfl hg NEq1516.out); clear ho hb hg hat)
  have HS_q1516 : Aside0 (wq1516.heap[g]? = some (.cells #[.slice Aq n cq, .int .i64 q.now, .int .i64 (q.put + 1)] 45 (0, 0))) := ⟨blk_grown HS_q151.out HGq1516.out (Kd.R_ne HV1_q151.out HS_q151.out (by decide))⟩
  refine hK.out _ _ HS_q1516.out (fun _ => ?_)
  clear hK K
  refine norm_ (a' := ?_) ?_ ?_
  rotate_left
  ·show Act.put _ (some 35) _ = _
   simp only [Act.put, List.setIfInBounds_toArray, List.set_cons_zero, List.set_cons_succ, i64_w, i32_w]
   rfl
  exact hcont (vq151, vq1516, vq15) wq1516 ⟨HV6_q1516.out, HV15_q1516.out, HBq1516.out, HS_q1516.out⟩
 rintro ⟨v30, v35, v44⟩ W3 ⟨hR35, hR44, hB3, hS3⟩
 have HR35 := Aside0.mk hR35
 have HR44 := Aside0.mk hR44
 have HB3 := Aside0.mk hB3
 have HS3 := Aside0.mk hS3
 have hHeld := hS3
 obtain ⟨A44, c44, hv44⟩ := Kd.R_slice hR44
 subst hv44
 clear hR35 hR44 hB3 hS3
 simp only [putAll, Act.put, List.setIfInBounds_toArray, List.set_cons_zero, List.set_cons_succ]
 refine one_ (i := 16) (N := some 45) #[true, true, true, true, true, true, true, true, true, true, true, true, true, true, true, true, true, false, false, false] rfl rfl (one_of HT_.out (by kernel_rfl)) (by decide) (fun K hK => ?_)
 (refine Kd.R_append_rows_step kT (w0 := w1) w1.heap.size (by rfl) (.tmp 35) (.tmp 44) 43 65 (.agg #[(.int .i64 0), (.int .i64 0), (.int .i64 0), (.int .i64 0)]) 32 rfl Try.underlying43 info65 rfl (Nat.succ_pos 3) (by omega) v35 q.L [(⟨a, u, i, q.put + 1⟩ : Tk)] _ _ _ (fun _ => True) (fun _ => False) rfl rfl HR35.out ?aR (fun _ _ h => h) (fun _ h => h.elim) (fun _ _ => trivial) HB3.out HB3.out.size (by simp only [List.length_singleton]; have := HN.out; omega) ?_; (case aR => exact (Kd.R_reads' HR44.out).2.2); intro v45 W4 ho hb hg hat; obtain ⟨A45, c45, hv45⟩ := Kd.R_slice ho; obtain ⟨n45, hn45⟩ : ∃ n45, n45 = (q.L ++ [(⟨a, u, i, q.put + 1⟩ : Tk)]).length := ⟨_, rfl⟩; rw [← hn45] at hv45; subst hv45; have HO4 := Aside0.mk ho; have HB4 := Aside0.mk hb; have HG4 := Aside0.mk hg; clear ho hb hg hat hn45)
 refine hK.out _ _ (blk_grown HS3.out HG4.out (Kd.R_ne HR35.out HS3.out (by decide))) (fun hHeld => ?_)
 clear hK K
 refine norm_ (a' := ?_) ?_ ?_
 rotate_left
 ·show Act.put _ (some 45) _ = _
  simp only [Act.put, List.setIfInBounds_toArray, List.set_cons_zero, List.set_cons_succ, i64_w, i32_w]
  rfl
 refine pure_ (i := 17) (N := some 46) (v := ?_) (a' := ?_) #[true, true, true, true, true, true, true, true, true, true, true, true, true, true, true, true, true, true, false, false] rfl rfl (any_of HT_.out (by kernel_rfl)) (fun _ _ _ h => h) (Or.inl ⟨by rfl, ?_⟩) ?_ ?_
 rotate_left
 ·intro w'
  go_simp
  with_reducible rfl
 rotate_left
 ·simp only [Act.put, List.setIfInBounds_toArray, List.set_cons_zero, List.set_cons_succ, i64_w, i32_w]
  rfl
 refine pure_ (i := 18) (N := some 47) (v := ?_) (a' := ?_) #[true, true, true, true, true, true, true, true, true, true, true, true, true, true, true, true, true, true, true, false] rfl rfl (any_of HT_.out (by kernel_rfl)) (fun _ _ _ h => h) (Or.inl ⟨by rfl, ?_⟩) ?_ ?_
 rotate_left
 ·intro w'
  go_simp
  with_reducible rfl
 rotate_left
 ·simp only [Act.put, List.setIfInBounds_toArray, List.set_cons_zero, List.set_cons_succ, i64_w, i32_w]
  rfl
 have HNR := Aside0.mk (H1.out.newrow HB4.out HO4.out)
 have g0 : W4.cell? ⟨g, 0, none⟩ = some (.slice Aq n cq) := (blk_cell hHeld 0).trans rfl
 have zf0 := blk_frozen hHeld 0
 refine last_ (i := 19) (N := none) #[true, true, true, true, true, true, true, true, true, true, true, true, true, true, true, true, true, true, true, true] rfl rfl (one_of HT_.out (by kernel_rfl)) (by decide) (fun K hK => ?_)
 (refine skip_ (w1 := ?_) (by rfl) rfl ?_ ?_; rotate_left; · (go_simp; rfl))
 refine hK.out _ _ ?_
 clear hK K
 try simp only [Act.put, List.setIfInBounds_toArray, List.set_cons_zero, List.set_cons_succ, i64_w, i32_w]
 refine done_ (done_of HT_.out (by kernel_rfl)) ?_
 generalize eW : W4.setCell ⟨g, 0, none⟩ (.slice A45 n45 c45) = W5 at HNR ⊢
 clear eW g0 zf0 hHeld
 have g2 : W5.cell? ⟨g, 2, none⟩ = some (.int .i64 (q.put + 1)) := (blk_cell HNR.out.1.blk 2).trans rfl
 go_wp2
 exact bodyPost_ret (v := .tuple #[.int .i64 (q.put + 1), .int .i64 0]) (by simp [results, Try.results17, go_sem]) rfl ⟨rfl, ⟨_, HNR.out.1⟩, HK1.out.trans HNR.out.2 (.inl rfl)⟩
end Go.Proofs.Ytacceeefcelkhaa.Al

namespace Go.Proofs.Ytacceeefcelkhaa.Al
open Go.RowKit Go.Proofs.Ytacceeefcelkhaa.DueHeap Go.Proofs.Ytacceeefcelkhaa.DueSpec Go.Proofs.YtacceeefcelkhaaW.PrintWords Go.Proofs.YtacceeefcelkhaaW.PrintLast Go.Proofs.YtacceeefcelkhaaW.PrintMore
set_option linter.unusedVariables false
set_option linter.unusedSimpArgs false
structure S47 where
 f0 : Int
 f1 : Int
 f2 : Int
 f3 : Int
 f4 : Bool
def z47 : S47 := ⟨0, 0, 0, 0, false⟩
def k47 : Kd S47 := Kd.iso (Kd.pair (Kd.int .i64) (Kd.pair (Kd.int .i64) (Kd.pair (Kd.int .i64) (Kd.pair (Kd.int .i64) Kd.bool)))) (fun x : S47 => (x.f0, x.f1, x.f2, x.f3, x.f4))
theorem k47_open {w : World} {x : S47} {cs : List Value} (h : k47.K w x cs) : cs = [.int .i64 x.f0, .int .i64 x.f1, .int .i64 x.f2, .int .i64 x.f3, .bool x.f4] := by
 obtain ⟨_, _, rfl, rfl, ⟨_, _, rfl, rfl, ⟨_, _, rfl, rfl, ⟨_, _, rfl, rfl, rfl⟩⟩⟩⟩ := h
 exact rfl
def rd_T47 (xs : List S47) (i : Int) : S47 := xs.getD i.toNat z47
theorem at_T47 {w : World} {A : Option Addr} {n : Nat} {xs : List S47} (h : Kd.C k47 w A n xs) (i : Int) (h0 : 0 ≤ i) (h1 : i < n) : ∃ ad , A = some ad ∧ w.cell? (ad.add (i.toNat * 5)) = some (.int .i64 (rd_T47 xs i).f0) ∧ w.cell? ⟨(ad.add (i.toNat * 5)).block, (ad.add (i.toNat * 5)).off + 1, none⟩ = some (.int .i64 (rd_T47 xs i).f1) ∧ w.cell? ⟨(ad.add (i.toNat * 5)).block, (ad.add (i.toNat * 5)).off + 2, none⟩ = some (.int .i64 (rd_T47 xs i).f2) ∧ w.cell? ⟨(ad.add (i.toNat * 5)).block, (ad.add (i.toNat * 5)).off + 3, none⟩ = some (.int .i64 (rd_T47 xs i).f3) ∧ w.cell? ⟨(ad.add (i.toNat * 5)).block, (ad.add (i.toNat * 5)).off + 4, none⟩ = some (.bool (rd_T47 xs i).f4) := by
 obtain ⟨ad, c, e, _, hK, hc0⟩ := Kd.C_get h z47 i h0 h1
 have hc : ∀ j u, c[j]? = some u → w.cell? (ad.add (i.toNat * 5 + j)) = some u := hc0
 obtain rfl := k47_open hK
 exact ⟨ad, e, hc 0 _ rfl, by rw [← add_field _ _ 1 (by omega)]; exact hc 1 _ rfl, by rw [← add_field _ _ 2 (by omega)]; exact hc 2 _ rfl, by rw [← add_field _ _ 3 (by omega)]; exact hc 3 _ rfl, by rw [← add_field _ _ 4 (by omega)]; exact hc 4 _ rfl⟩
def Oth (W W1 : World) : Prop := ∀ (g : Nat) (cs : Array Value), W.heap[g]? = some (.cells cs 47 (0, 0)) → W1.heap[g]? = some (.cells cs 47 (0, 0))
/-- Both queues, of one world. -/
structure DD (W w : World) (gq gr : Nat) (qp qr : Qs) (vr : Value) : Prop where
 ex : ∃ gw gd vw vd lw ld, QX W w gq gw gd qp vw vd lw ld
 rq : RQ W w gr qr vr
section
variable {W w w1 : World} {gq gr gw gd g fn : Nat} {qp qr : Qs} {vr v vw vd vw1 vd1 : Value} {lw ld l : List Tk}
theorem DD.bel (h : DD W w gq gr qp qr vr) : Below W.heap.size W w := h.rq.bel
theorem DD.below (h : DD W w gq gr qp qr vr) (hb : Below w.heap.size w w1) : DD W w1 gq gr qp qr vr := by
 obtain ⟨gw, gd, vw, vd, lw, ld, hx⟩ := h.ex
 exact ⟨⟨gw, gd, vw, vd, lw, ld, hx.below hb⟩, h.rq.below hb⟩
theorem DD.drew (h : DD W w gq gr qp qr vr) : DD W w.drew gq gr qp qr vr := h.below (below_drew (Below.refl _ _))
/-- The reference's own object beside a call on the program's queue. -/
theorem RQ.qstep (h : RQ W w gr qr vr) (hx : QX W w gq gw gd qp vw vd lw ld) (hs : QStep w w1 gq gw gd vw vd vw1 vd1) (hb : Below W.heap.size W w1) : RQ W w1 gr qr vr := by
 refine ⟨hs.keepT hx h.blk (by decide) (by decide) (by decide), h.ge, ?_, hb⟩
 refine Kd.R_mono (Kd.R_move (Kd.R_bound (Kd.R_tight rfl h.row)) (fun j hj => ?_)) (fun _ _ => trivial)
 obtain ⟨cells, hc⟩ := Kd.R_typed h.row j hj.1.symm
 exact (hs.keepT hx hc (by decide) (by decide) (by decide)).trans hc.symm
theorem QStep.oth (hx : QX W w gq gw gd qp vw vd lw ld) (hs : QStep w w1 gq gw gd vw vd vw1 vd1) : Oth w w1 := fun _ _ hg => hs.keepT hx hg (by decide) (by decide) (by decide)
/-- The program's queue beside a call on the reference's. -/
theorem HP.keepB {cs : Array Value} (h : HP W w g fn v l) (hb : w.heap[gr]? = some (.cells cs 45 (0, 0))) (hk : KeepBut w w1 gr none) (hbel : Below W.heap.size W w1) : HP W w1 g fn v l :=
 ⟨⟨(hk.2 g (blk_lt h.ht.blk) (blk_ne h.ht.blk hb (by decide)) (by simp)).trans h.ht.blk, h.ht.ge, Kd.R_mono (Kd.R_keep (Kd.R_types h.ht.row hb (by decide)) hk (fun _ hk => hk.2)) (fun _ _ => trivial), hbel⟩, h.heap⟩
theorem QX.keepB {cs : Array Value} (h : QX W w gq gw gd qp vw vd lw ld) (hb : w.heap[gr]? = some (.cells cs 45 (0, 0))) (hk : KeepBut w w1 gr none) (hbel : Below W.heap.size W w1) : QX W w1 gq gw gd qp vw vd lw ld :=
 ⟨⟨(hk.2 gq (blk_lt h.o.blk) (blk_ne h.o.blk hb (by decide)) (by simp)).trans h.o.blk, h.o.ge, h.o.wt.keepB hb hk hbel, h.o.du.keepB hb hk hbel, h.o.ne, h.o.ap⟩, h.r⟩
theorem DD.turn_r {q' : Qs} {v' : Value} (h : DD W w gq gr qp qr vr) (hq : RQ W w1 gr q' v') (hk : KeepBut w w1 gr none) : DD W w1 gq gr qp q' v' := by
 obtain ⟨gw, gd, vw, vd, lw, ld, hx⟩ := h.ex
 exact ⟨⟨gw, gd, vw, vd, lw, ld, hx.keepB h.rq.blk hk hq.bel⟩, hq⟩
theorem KeepBut.oth {cs : Array Value} (hb : w.heap[gr]? = some (.cells cs 45 (0, 0))) (hk : KeepBut w w1 gr none) : Oth w w1 := fun g _ hg => (hk.2 g (blk_lt hg) (blk_ne hg hb (by decide)) (by simp)).trans hg
end
section
variable {W w : World} {gq gr k : Nat} {q qr : Qs} {vr : Value}
theorem d_put (h : DD W w gq gr q qr vr) (ho : DueSpec.Ok k q) (hk : k ≤ 100000) (a u i : Int) : Calls Try.prog 10 #[.pointer (some ⟨gq, 0, none⟩), .int .i64 a, .int .i64 u, .int .i64 i] w fun e w' => e = .returned (.tuple #[.int .i64 (putQ q a u i).2.1, .int .i64 (putQ q a u i).2.2]) ∧ DD W w' gq gr (putQ q a u i).1 qr vr ∧ Oth w w' := by
 obtain ⟨gw, gd, vw, vd, lw, ld, hx⟩ := h.ex
 exact (qput_calls W w gq gw gd q vw vd lw ld hx k ho hk a u i).mono (by rintro e w' ⟨rfl, vw', vd', lw', ld', hq, hs⟩; exact ⟨rfl, ⟨⟨gw, gd, vw', vd', lw', ld', hq⟩, h.rq.qstep hx hs hq.o.bel⟩, hs.oth hx⟩)
theorem d_rput (h : DD W w gq gr q qr vr) (ho : DueSpec.Ok k qr) (hk : k ≤ 100000) (a u i : Int) : Calls Try.prog 17 #[.pointer (some ⟨gr, 0, none⟩), .int .i64 a, .int .i64 u, .int .i64 i] w fun e w' => e = .returned (.tuple #[.int .i64 (putQ qr a u i).2.1, .int .i64 (putQ qr a u i).2.2]) ∧ ∃ v', DD W w' gq gr q (putQ qr a u i).1 v' ∧ Oth w w' :=
 (rput_calls W w gr qr vr h.rq k ho hk a u i).mono (by rintro e w' ⟨rfl, v', hq, hk⟩; exact ⟨rfl, v', h.turn_r hq hk, KeepBut.oth h.rq.blk hk⟩)
theorem d_take (h : DD W w gq gr q qr vr) (ho : DueSpec.Ok k q) : Calls Try.prog 13 #[.pointer (some ⟨gq, 0, none⟩)] w fun e w' => e = .returned (.tuple #[.int .i64 (takeQ q).2.1, .bool (takeQ q).2.2]) ∧ DD W w' gq gr (takeQ q).1 qr vr ∧ Oth w w' := by
 obtain ⟨gw, gd, vw, vd, lw, ld, hx⟩ := h.ex
 exact (qtake_calls W w gq gw gd q vw vd lw ld hx k ho).mono (by rintro e w' ⟨rfl, vw', vd', lw', ld', hq, hs⟩; exact ⟨rfl, ⟨⟨gw, gd, vw', vd', lw', ld', hq⟩, h.rq.qstep hx hs hq.o.bel⟩, hs.oth hx⟩)
theorem d_rtake (h : DD W w gq gr q qr vr) (ho : DueSpec.Ok k qr) : Calls Try.prog 18 #[.pointer (some ⟨gr, 0, none⟩)] w fun e w' => e = .returned (.tuple #[.int .i64 (takeQ qr).2.1, .bool (takeQ qr).2.2]) ∧ ∃ v', DD W w' gq gr q (takeQ qr).1 v' ∧ Oth w w' :=
 (rtake_calls W w gr qr vr h.rq k ho).mono (by rintro e w' ⟨rfl, v', hq, hk⟩; exact ⟨rfl, v', h.turn_r hq hk, KeepBut.oth h.rq.blk hk⟩)
theorem d_drop (h : DD W w gq gr q qr vr) (ho : DueSpec.Ok k q) (no : Int) : Calls Try.prog 15 #[.pointer (some ⟨gq, 0, none⟩), .int .i64 no] w fun e w' => e = .returned (.int .i64 (dropQ q no).2) ∧ DD W w' gq gr (dropQ q no).1 qr vr ∧ Oth w w' := by
 obtain ⟨gw, gd, vw, vd, lw, ld, hx⟩ := h.ex
 exact (qdrop_calls W w gq gw gd q vw vd lw ld hx k ho no).mono (by rintro e w' ⟨rfl, vw', vd', lw', ld', hq, hs⟩; exact ⟨rfl, ⟨⟨gw, gd, vw', vd', lw', ld', hq⟩, h.rq.qstep hx hs hq.o.bel⟩, hs.oth hx⟩)
theorem d_rdrop (h : DD W w gq gr q qr vr) (ho : DueSpec.Ok k qr) (no : Int) : Calls Try.prog 19 #[.pointer (some ⟨gr, 0, none⟩), .int .i64 no] w fun e w' => e = .returned (.int .i64 (dropQ qr no).2) ∧ ∃ v', DD W w' gq gr q (dropQ qr no).1 v' ∧ Oth w w' :=
 (rdrop_calls W w gr qr vr h.rq k ho no).mono (by rintro e w' ⟨rfl, v', hq, hk⟩; exact ⟨rfl, v', h.turn_r hq hk, KeepBut.oth h.rq.blk hk⟩)
theorem d_go (h : DD W w gq gr q qr vr) (ho : DueSpec.Ok k q) (tt : Int) : Calls Try.prog 12 #[.pointer (some ⟨gq, 0, none⟩), .int .i64 tt] w fun e w' => e = .returned (.int .i64 (goQ q tt).2) ∧ DD W w' gq gr (goQ q tt).1 qr vr ∧ Oth w w' := by
 obtain ⟨gw, gd, vw, vd, lw, ld, hx⟩ := h.ex
 exact (qgo_calls W w gq gw gd q vw vd lw ld hx k ho tt).mono (by rintro e w' ⟨rfl, vw', vd', lw', ld', hq, hs⟩; exact ⟨rfl, ⟨⟨gw, gd, vw', vd', lw', ld', hq⟩, h.rq.qstep hx hs hq.o.bel⟩, hs.oth hx⟩)
theorem d_rgo (h : DD W w gq gr q qr vr) (tt : Int) : Calls Try.prog 20 #[.pointer (some ⟨gr, 0, none⟩), .int .i64 tt] w fun e w' => e = .returned (.int .i64 (goQ qr tt).2) ∧ ∃ v', DD W w' gq gr q (goQ qr tt).1 v' ∧ Oth w w' :=
 (rgo_calls W w gr qr vr h.rq tt).mono (by rintro e w' ⟨rfl, hq, hk⟩; exact ⟨rfl, vr, h.turn_r hq hk, KeepBut.oth h.rq.blk hk⟩)
theorem d_next (h : DD W w gq gr q qr vr) (ho : DueSpec.Ok k q) : Calls Try.prog 21 #[.pointer (some ⟨gq, 0, none⟩)] w fun e w' => e = .returned (.tuple #[.int .i64 (nextQ q).1, .bool (nextQ q).2]) ∧ DD W w' gq gr q qr vr := by
 obtain ⟨gw, gd, vw, vd, lw, ld, hx⟩ := h.ex
 exact (qnext_calls W w gq gw gd q vw vd lw ld hx k ho).mono (by rintro e w' ⟨rfl, hb⟩; exact ⟨rfl, h.below hb⟩)
theorem d_rnext (h : DD W w gq gr q qr vr) (ho : DueSpec.Ok k qr) : Calls Try.prog 22 #[.pointer (some ⟨gr, 0, none⟩)] w fun e w' => e = .returned (.tuple #[.int .i64 (nextQ qr).1, .bool (nextQ qr).2]) ∧ DD W w' gq gr q qr vr :=
 (rnext_calls W w gr qr vr h.rq k ho).mono (by rintro e w' ⟨rfl, hb⟩; exact ⟨rfl, h.below hb⟩)
theorem d_now (h : DD W w gq gr q qr vr) : Calls Try.prog 11 #[.pointer (some ⟨gq, 0, none⟩)] w fun e w' => e = .returned (.int .i64 q.now) ∧ DD W w' gq gr q qr vr := by
 obtain ⟨gw, gd, vw, vd, lw, ld, hx⟩ := h.ex
 exact (qnow_calls W w gq gw gd q vw vd lw ld hx).mono (by rintro e w' ⟨rfl, hb⟩; exact ⟨rfl, h.below hb⟩)
theorem d_len (h : DD W w gq gr q qr vr) (hl : q.L.length ≤ 1024) : Calls Try.prog 14 #[.pointer (some ⟨gq, 0, none⟩)] w fun e w' => e = .returned (.int .i64 (q.L.length : Int)) ∧ DD W w' gq gr q qr vr := by
 obtain ⟨gw, gd, vw, vd, lw, ld, hx⟩ := h.ex
 have hl2 := hx.r.len
 refine (qlen_calls W w gq gw gd _ _ vw vd lw ld hx.o (by rw [hl2]; omega)).mono ?_
 rintro e w' ⟨rfl, hb⟩
 rw [hl2]
 exact ⟨rfl, h.below hb⟩
theorem d_new (W w : World) (hB : Below W.heap.size W w) : Calls Try.prog 7 #[] w fun e w' => ∃ gq, e = .returned (.pointer (some ⟨gq, 0, none⟩)) ∧ (∃ gw gd vw vd lw ld, QX W w' gq gw gd ⟨[], 0, 0⟩ vw vd lw ld) ∧ Below w.heap.size w w' :=
 (qnew_calls W w hB).mono (by rintro e w' ⟨gq, gw, gd, rfl, hx, _, _, _, hb⟩; exact ⟨gq, rfl, ⟨gw, gd, _, _, _, _, hx⟩, hb⟩)
theorem DD.first {W w1 w2 : World} {gq gr : Nat} (hx : ∃ gw gd vw vd lw ld, QX W w1 gq gw gd ⟨[], 0, 0⟩ vw vd lw ld) (hB : Below W.heap.size W w1) (hg : gr = w1.heap.size) (hbox : w2.heap[gr]? = some (.cells #[.slice none 0 0, .int .i64 0, .int .i64 0] 45 (0, 0))) (hb : Below w1.heap.size w1 w2) : DD W w2 gq gr ⟨[], 0, 0⟩ ⟨[], 0, 0⟩ (.slice none 0 0) := by
 obtain ⟨gw, gd, vw, vd, lw, ld, hx⟩ := hx
 exact ⟨⟨gw, gd, vw, vd, lw, ld, hx.below hb⟩, hbox, by rw [hg]; exact hB.size, Kd.R_nil _ _ _ _ _, below_step hB hb⟩
end
theorem set5 {w : World} {g t : Nat} {z0 z1 z2 z3 z4 c0 c1 c2 c3 c4 : Value} (h : w.heap[g]? = some (.cells #[z0, z1, z2, z3, z4] t (0, 0))) : (((((w.setCell ⟨g, 0, none⟩ c0).setCell ⟨g, 1, none⟩ c1).setCell ⟨g, 2, none⟩ c2).setCell ⟨g, 3, none⟩ c3).setCell ⟨g, 4, none⟩ c4).heap[g]? = some (.cells #[c0, c1, c2, c3, c4] t (0, 0)) := by
 have := blk_set (blk_set (blk_set (blk_set (blk_set h 0 c0) 1 c1) 2 c2) 3 c3) 4 c4
 simpa using this
end Go.Proofs.Ytacceeefcelkhaa.Al

namespace Go.Proofs.Ytacceeefcelkhaa.Open
open Go.RowKit Go.Proofs.YtacceeefcelkhaaW.PrintWords
/-- Whatever reads as data of type t is told by d: V always, L where each string and slice is within the reach, m is within the bulk. -/
structure Opens {α : Type} (P : Program) (t : TypeId) (d : Kd α) (V L : α → Prop) (m : α → Nat) : Prop where
 out : ∀ {H : Type} {enc : TypeId × Value → H} {w : World} {base : Nat} {spare : Nat → Bool} {held : Bool} {fuel : Nat} {cs : List Value} {x : DataW H × List MemPlace}, DataW.trod enc P w base spare held fuel t cs = some x →
  ∃ a : α, d.K w a cs ∧ V a ∧ ((DataW.weights P t x.1).all (· ≤ reachBytes) = true → L a) ∧ m a ≤ Rows.uptoBulk x.1
theorem opens_int {P : Program} {t : TypeId} {k : IntKind} (ht : P.underlying t = some (.int k)) : Opens P t (Kd.int k) (fun n => (Lit.int k n).wf = true) (fun _ => True) (fun _ => 1) where
 out h := by
  obtain ⟨n, rfl, rfl, hw⟩ := DataW.trod_int ht h
  exact ⟨n, rfl, hw, fun _ => trivial, Nat.le_refl _⟩
theorem opens_bool {P : Program} {t : TypeId} (ht : P.underlying t = some .bool) : Opens P t Kd.bool (fun _ => True) (fun _ => True) (fun _ => 1) where
 out h := by
  obtain ⟨n, rfl, rfl⟩ := DataW.trod_bool ht h
  exact ⟨n, rfl, trivial, fun _ => trivial, Nat.le_refl _⟩
theorem add_add (a : Addr) (m j : Nat) : (a.add m).add j = a.add (m + j) := by
 unfold Addr.add
 by_cases hm : m = 0 <;> by_cases hj : j = 0 <;> simp [hm, hj, Nat.add_assoc]
theorem mapM_some {β γ : Type} {f : β → Option γ} : ∀ {l : List β} {r : List γ}, l.mapM f = some r → r.length = l.length ∧ ∀ i (h : i < l.length), f l[i] = r[i]?
 |[], r, h => by simp at h; subst h; simp
 |b :: l, r, h => by
  rw [List.mapM_cons] at h
  simp only [Option.bind_eq_bind, Option.bind_eq_some_iff, Option.pure_def, Option.some.injEq] at h
  obtain ⟨c, hc, q, hq, rfl⟩ := h
  obtain ⟨hl, hi⟩ := mapM_some hq
  refine ⟨by simp [hl], fun i h => ?_⟩
  cases i with
  |zero => simpa using hc
  |succ i => simpa using hi i (by simpa using h)
theorem cells_get {w : World} {base : Nat} {a : Addr} {n : Nat} {cs : List Value} (h : w.cells? base a n = some cs) : cs.length = n ∧ ∀ i u, cs[i]? = some u → w.cell? (a.add i) = some u := by
 unfold World.cells? at h
 split at h
 ·obtain ⟨hl, hi⟩ := mapM_some h
  simp at hl
  refine ⟨hl, fun i u hu => ?_⟩
  have hlt : i < cs.length := (List.getElem?_eq_some_iff.1 hu).1
  have := hi i (by simp; omega)
  simpa [hu] using this
 ·cases h
theorem list_of {α : Type} {Q : Nat → α → Prop} : ∀ n, (∀ i, i < n → ∃ a, Q i a) → ∃ l : List α, l.length = n ∧ ∀ i a, l[i]? = some a → Q i a
 |0, _ => ⟨[], rfl, fun i a h => by simp at h⟩
 |n + 1, h => by
  obtain ⟨l, hl, hq⟩ := list_of n (fun i hi => h i (by omega))
  obtain ⟨a, ha⟩ := h n (by omega)
  refine ⟨l ++ [a], by simp [hl], fun i b hb => ?_⟩
  by_cases hi : i < n
  ·rw [List.getElem?_append_left (by omega)] at hb
   exact hq i b hb
  ·have hlt := (List.getElem?_eq_some_iff.1 hb).1
   simp at hlt
   obtain rfl : i = n := by omega
   rw [List.getElem?_append_right (by omega), hl] at hb
   simp at hb
   exact hb ▸ ha
theorem all_append {l r : List Nat} {p : Nat → Bool} : (l ++ r).all p = true ↔ l.all p = true ∧ r.all p = true := by rw [List.all_append, Bool.and_eq_true]
theorem weights_all {H : Type} {P : Program} {e : TypeId} {p : Nat → Bool} : ∀ {ds : List (DataW H)}, (DataW.weightsAll P e ds).all p = true → ∀ d ∈ ds, (DataW.weights P e d).all p = true
 |[], _, d, hd => by simp at hd
 |d0 :: ds, h, d, hd => by
  rw [DataW.weightsAll, all_append] at h
  rcases List.mem_cons.1 hd with rfl | hd
  ·exact h.1
  ·exact weights_all h.2 d hd
theorem bulk_all {H α : Type} {m : α → Nat} : ∀ {l : List α} {ds : List (DataW H)}, l.length = ds.length → (∀ (i : Nat) (a : α) (y : DataW H), l[i]? = some a → ds[i]? = some y → m a ≤ Rows.uptoBulk y) → (l.map m).sum ≤ Rows.uptoBulkAll ds
 |[], [], _, _ => by simp [Rows.uptoBulkAll]
 |a :: l, d :: ds, hl, h => by
  have ih := bulk_all (l := l) (ds := ds) (by simpa using hl) (fun i a y h1 h2 => h (i + 1) a y (by simpa using h1) (by simpa using h2))
  have h0 := h 0 a d rfl rfl
  simp only [List.map_cons, List.sum_cons, Rows.uptoBulkAll]
  omega
 |[], _ :: _, hl, _ => by simp at hl
 |_ :: _, [], hl, _ => by simp at hl
theorem opens_slice {α : Type} {P : Program} {t e : TypeId} {d : Kd α} {V L : α → Prop} {m : α → Nat} (q : Nat) (b : Nat) (ht : P.underlying t = some (.slice e)) (hsz : P.cellsOf e = d.sz) (hb : P.bytesOf e = b) (ho : Opens P e d V L m) :
  Opens P t (Kd.slice q d) (fun l => ∀ a ∈ l, V a) (fun l => l.length * b ≤ 140737488351232 ∧ ∀ a ∈ l, L a) (fun l => (l.map m).sum + 1) where
 out {H enc w base spare held fuel cs x} h := by
  rcases DataW.trod_slice ht h with ⟨rfl, rfl⟩ | ⟨ad, len, cap, elems, rest, n, rfl, rfl, rfl, hbase, hlc, hcm, hlen, hel, hsp, hns⟩
  ·exact ⟨[], ⟨none, 0, rfl, Nat.le_refl _, rfl, by simp, fun h => absurd h (by simp)⟩, by simp, fun _ => by simp, by simp [Rows.uptoBulk]⟩
  obtain ⟨l, hl, hq⟩ := list_of (Q := fun i a => (∃ c, c.length = d.sz ∧ d.K w a c ∧ (∀ j u, c[j]? = some u → w.cell? (ad.add (i * d.sz + j)) = some u)) ∧ V a ∧ (∀ y, elems[i]? = some y → ((DataW.weights P e y.1).all (· ≤ reachBytes) = true → L a) ∧ m a ≤ Rows.uptoBulk y.1)) len (by
   intro i hi
   have hy : elems[i]? = some (elems[i]'(by omega)) := List.getElem?_eq_getElem (by omega)
   have h1 := hel i hi
   rw [hy, Option.bind_eq_some_iff] at h1
   obtain ⟨c, hc, hx⟩ := h1
   obtain ⟨a, hK, hV, hL, hm⟩ := ho.out hx
   obtain ⟨hcl, hcc⟩ := cells_get hc
   rw [hsz] at hcl hcc
   refine ⟨a, ⟨c, hcl, hK, fun j u hu => by rw [← add_add]; exact hcc j u hu⟩, hV, fun y hy' => ?_⟩
   rw [hy] at hy'
   obtain rfl := Option.some.inj hy'
   exact ⟨hL, hm⟩)
  have hmax : len ≤ 9223372036854775807 := by unfold maxLen at hcm; omega
  have mem : ∀ a ∈ l, ∃ i, l[i]? = some a := fun a ha => List.mem_iff_getElem?.1 ha
  refine ⟨l, ⟨some ad, cap, by rw [hl], by omega, rfl, by omega, fun _ => ⟨ad, rfl, fun j p hp => ?_⟩⟩, ?_, ?_, ?_⟩
  ·obtain ⟨⟨c, hcl, hK, hcc⟩, _⟩ := hq j p hp
   exact ⟨c, hcl, hK, hcc⟩
  ·intro a ha
   obtain ⟨i, hi⟩ := mem a ha
   exact (hq i a hi).2.1
  ·intro hw
   simp only [DataW.weights, ht, List.all_cons, Bool.and_eq_true, decide_eq_true_eq, all_append, List.length_map, hb] at hw
   obtain ⟨hw1, hw2, _⟩ := hw
   have hw1' : (elems.length + rest.length) * b ≤ 140737488351232 := hw1
   refine ⟨?_, ?_⟩
   ·rw [hl, ← hlen]
    exact Nat.le_trans (Nat.mul_le_mul_right b (Nat.le_add_right _ _)) hw1'
   ·intro a ha
    obtain ⟨i, hi⟩ := mem a ha
    have hlt : i < elems.length := by have := (List.getElem?_eq_some_iff.1 hi).1; omega
    refine ((hq i a hi).2.2 _ (List.getElem?_eq_getElem hlt)).1 (weights_all hw2 _ ?_)
    exact List.mem_map.2 ⟨_, List.getElem_mem hlt, rfl⟩
  ·have hbk : (l.map m).sum ≤ Rows.uptoBulkAll (elems.map (·.1)) := bulk_all (by rw [hl, List.length_map, hlen]) (fun i a y h1 h2 => by
    rw [List.getElem?_map, Option.map_eq_some_iff] at h2
    obtain ⟨z, hz, rfl⟩ := h2
    exact ((hq i a h1).2.2 z hz).2)
   simp only [Rows.uptoBulk]
   omega
/-- The fields of a struct, one behind the other, from a place on. -/
structure OpensF {α : Type} (P : Program) (off : Nat) (fs : List Field) (d : Kd α) (V L : α → Prop) (m : α → Nat) : Prop where
 out : ∀ {H : Type} {enc : TypeId × Value → H} {w : World} {base : Nat} {spare : Nat → Bool} {held : Bool} {fuel : Nat} {cs : List Value} {xs : List (DataW H × List MemPlace)},
  fs.mapM (fun f => DataW.trod enc P w base spare held fuel f.type ((cs.drop f.offset).take (P.cellsOf f.type))) = some xs → cs.length = off + d.sz →
  ∃ a : α, d.K w a (cs.drop off) ∧ V a ∧ ((DataW.weightsEach P (fs.map (·.type)) (xs.map (·.1))).all (· ≤ reachBytes) = true → L a) ∧ m a ≤ Rows.uptoBulkAll (xs.map (·.1))
theorem opensF_one {α : Type} {P : Program} {off : Nat} {f : Field} {d : Kd α} {V L : α → Prop} {m : α → Nat} (ho : Opens P f.type d V L m) (hoff : f.offset = off) (hsz : P.cellsOf f.type = d.sz) : OpensF P off [f] d V L m where
 out {H enc w base spare held fuel cs xs} h hl := by
  obtain ⟨h1, h2⟩ := mapM_some h
  have e : xs = [xs[0]'(by rw [h1]; simp)] := by
   apply List.ext_getElem
   ·simpa using h1
   ·intro i hi _
    have : i = 0 := by rw [h1] at hi; simpa using hi
    subst this
    rfl
  have h3 := h2 0 (by simp)
  rw [List.getElem?_eq_getElem (by rw [h1]; simp)] at h3
  simp only [List.getElem_cons_zero] at h3
  rw [hoff, hsz, List.take_of_length_le (by rw [List.length_drop]; omega)] at h3
  obtain ⟨a, hK, hV, hL, hm⟩ := ho.out h3
  refine ⟨a, hK, hV, fun hw => hL ?_, ?_⟩
  ·rw [e] at hw
   simpa [DataW.weightsEach] using hw
  ·rw [e]
   simpa [Rows.uptoBulkAll] using hm
theorem opensF_cons {α β : Type} {P : Program} {off : Nat} {f : Field} {fs : List Field} {d : Kd α} {V L : α → Prop} {m : α → Nat} {d' : Kd β} {V' L' : β → Prop} {m' : β → Nat}
  (ho : Opens P f.type d V L m) (hoff : f.offset = off) (hsz : P.cellsOf f.type = d.sz) (hr : OpensF P (off + d.sz) fs d' V' L' m') :
  OpensF P off (f :: fs) (Kd.pair d d') (fun a => V a.1 ∧ V' a.2) (fun a => L a.1 ∧ L' a.2) (fun a => m a.1 + m' a.2) where
 out {H enc w base spare held fuel cs xs} h hl := by
  rw [List.mapM_cons] at h
  simp only [Option.bind_eq_bind, Option.bind_eq_some_iff, Option.pure_def, Option.some.injEq] at h
  obtain ⟨x, hx, xs', hxs, rfl⟩ := h
  rw [hoff, hsz] at hx
  have hl' : cs.length = off + (d.sz + d'.sz) := hl
  obtain ⟨a, hK, hV, hL, hm⟩ := ho.out hx
  obtain ⟨b, hK', hV', hL', hm'⟩ := hr.out hxs (by omega)
  refine ⟨(a, b), ⟨_, _, ?_, hK, hK'⟩, ⟨hV, hV'⟩, fun hw => ?_, ?_⟩
  ·rw [← List.drop_drop, List.take_append_drop]
  ·simp only [List.map_cons, DataW.weightsEach, all_append] at hw
   exact ⟨hL hw.1, hL' hw.2⟩
  ·simp only [List.map_cons, Rows.uptoBulkAll]
   omega
theorem opens_struct {α β : Type} {P : Program} {t : TypeId} {fs : Array Field} {d : Kd α} {V L : α → Prop} {m : α → Nat} (f : β → α) (g : α → β) (hfg : ∀ a, f (g a) = a) (ht : P.underlying t = some (.struct fs)) (hsz : P.cellsOf t = d.sz) (hf : OpensF P 0 fs.toList d V L m) :
  Opens P t (Kd.iso d f) (fun b => V (f b)) (fun b => L (f b)) (fun b => m (f b) + 1) where
 out {H enc w base spare held fuel cs x} h := by
  cases fuel with
  |zero => simp [DataW.trod] at h
  |succ n =>
   unfold DataW.trod at h
   rw [ht] at h
   simp only at h
   split at h
   ·rename_i hl
    rw [Option.map_eq_some_iff] at h
    obtain ⟨xs, hxs, rfl⟩ := h
    obtain ⟨a, hK, hV, hL, hm⟩ := hf.out hxs (by omega)
    refine ⟨g a, ?_, ?_, ?_, ?_⟩
    ·show d.K w (f (g a)) cs
     rw [hfg]
     simpa using hK
    ·show V (f (g a))
     rw [hfg]; exact hV
    ·intro hw
     show L (f (g a))
     rw [hfg]
     simp only [DataW.weights, ht] at hw
     exact hL hw
    ·rw [hfg]
     simp only [Rows.uptoBulk]
     omega
   ·cases h
end Go.Proofs.Ytacceeefcelkhaa.Open
