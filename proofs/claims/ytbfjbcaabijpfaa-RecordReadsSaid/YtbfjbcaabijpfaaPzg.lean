/- What the laws stand on, in one text: functions of the program by their contracts, the plain mathematics behind them, and such of the printed words as these use. It began as the kit's print and own texts; put together by a program (trim.py). -/
import Derived.Test.YtbfjbcaabijpfaaPzf
import Derived.Deep.RegionHeld3
import Derived.IntWalk

namespace Go.Proofs.Ytbfjbcaabijpfaa.Al
open Go.RowKit Go.Proofs.YtbfjbcaabijpfaaW.PrintWords Go.Proofs.YtbfjbcaabijpfaaW.PrintLast Go.Proofs.YtbfjbcaabijpfaaW.PrintMore
attribute [local go_sem] max2_int min2_int max_two min_two max_three min_three max_four min_four   -- for this text's walks alone
set_option linter.unusedVariables false
set_option linter.unusedSimpArgs false
mutual
def corncribref06_Bytes.l0 : Nat → ByteArray → Int → List Int → List ByteArray → Option (ByteArray)
 |0, _, _, _, _ => none
 |k + 1, x3, x4, x198000, x198001 => if x4 < (x198000.length : Int) then (if 0 ≤ x4 then ((corncribref06_Signed.f k (rd x198000 x4)).bind fun t200 => (if x3.size + t200.size ≤ 9223372036854775807 then (corncribref06_Bytes.l0 k (x3 ++ t200) (wrap64 (x4 + 1)) x198000 x198001) else (none))) else (none)) else ((corncribref06_Plain.f k (x198001.length : Int)).bind fun t201 => (if x3.size + t201.size ≤ 9223372036854775807 then (corncribref06_Bytes.l1 k (x3 ++ t201) 0 x198000 x198001) else (none)))
def corncribref06_Bytes.l1 : Nat → ByteArray → Int → List Int → List ByteArray → Option (ByteArray)
 |0, _, _, _, _ => none
 |k + 1, x3, x5, x198000, x198001 => if x5 < (x198001.length : Int) then (if 0 ≤ x5 then ((corncribref06_Plain.f k ((rdOf ByteArray.empty x198001 x5).size : Int)).bind fun t203 => (if t203.size + (rdOf ByteArray.empty x198001 x5).size ≤ 9223372036854775807 then (if x3.size + (t203 ++ (rdOf ByteArray.empty x198001 x5)).size ≤ 9223372036854775807 then (corncribref06_Bytes.l1 k (x3 ++ (t203 ++ (rdOf ByteArray.empty x198001 x5))) (wrap64 (x5 + 1)) x198000 x198001) else (none)) else (none))) else (none)) else (some x3)
end
def corncribref06_Bytes.f (k : Nat) (l0_0 : List Int) (l0_1 : List ByteArray) : Option (ByteArray) := (corncribref06_Plain.f k (l0_0.length : Int)).bind fun t198 => (corncribref06_Bytes.l0 k t198 0 l0_0 l0_1)
def corncribref06_Bytes.T10 : Bool × List (List Nat × List Nat) := (true, [([], []), ([], []), ([1], [1]), ([], []), ([2, 3], [2, 3]), ([4], [4]), ([5], [5]), ([6], [6]), ([], []), ([8], [8]), ([], []), ([9, 10], [9, 10]), ([11], [11]), ([7, 12], [7, 12]), ([0, 13], [0, 13]), ([14, 7, 0, 1, 2, 3, 4, 5, 6, 7, 8, 9, 10, 11, 12, 13, 14], [0, 14])])
def corncribref06_Bytes.B10 : List Nat := [0, 0, 2, 0, 14, 30, 62, 126, 0, 256, 0, 1792, 3840, 8190, 16383, 32767]
theorem corncribref06_Bytes.tab10 : rtab .any (opsOf Try.f44 10) = corncribref06_Bytes.T10 := by kernel_rfl
theorem corncribref06_Bytes.bits10 : waitsOk corncribref06_Bytes.T10.2 corncribref06_Bytes.B10 = true := by kernel_rfl
set_option maxHeartbeats 8000000 in
set_option maxRecDepth 100000 in
theorem corncribref06_Bytes.calls (k : Nat) (A0_0 : Option Addr) (c0_0 : Nat) (l0_0 : List Int) (A0_1 : Option Addr) (c0_1 : Nat) (l0_1 : List ByteArray) (r : ByteArray) (w : World) (hr0_0 : Kd.C (Kd.int .i64) w A0_0 l0_0.length l0_0) (hc0_0 : l0_0.length ≤ c0_0) (hr0_1 : Kd.C Kd.string w A0_1 l0_1.length l0_1) (hc0_1 : l0_1.length ≤ c0_1) (h : corncribref06_Bytes.f k l0_0 l0_1 = some r) :
  Calls Try.prog 44 #[.agg #[.slice A0_0 l0_0.length c0_0, .slice A0_1 l0_1.length c0_1]] w fun e w' => e = .returned (.string r) ∧ Below w.heap.size w w' := by
 have hu48 := Try.underlying48
 have HR0_0 := Aside0.mk hr0_0
 have HC0_0 := Aside0.mk hc0_0
 clear hr0_0 hc0_0
 have HR0_1 := Aside0.mk hr0_1
 have HC0_1 := Aside0.mk hc0_1
 clear hr0_1 hc0_1
 have HB := Aside0.mk (Below.refl w.heap.size w)
 have H : ((corncribref06_Plain.f k (l0_0.length : Int)).bind fun t198 => (corncribref06_Bytes.l0 k t198 0 l0_0 l0_1)) = some r := h
 clear h
 replace H := Option.bind_eq_some_iff.mp H
 obtain ⟨t198, A20, H⟩ := H
 replace H : (corncribref06_Bytes.l0 k t198 0 l0_0 l0_1) = some r := H
 have A2 := Aside0.mk A20
 clear A20
 have H' := Aside0.mk H
 clear H
 go_enter Try.func44, Try.ntmps44
 go_wp2_with (first | ((with_reducible refine gate_dst (N := 1) rfl ?_); refine box_event ?hg (N := 1) ?hd (cs := #[.slice A0_0 l0_0.length c0_0, .slice A0_1 l0_1.length c0_1]) (t := 48) ?hr ?_; (case hd => rfl); (case hg => rfl); (case hr => first | (go_simp; done) | (go_simp; rfl)); intro gb197 hg w3 hbox hb; have n0_ := Aside0.mk (below_step (by repeat (first | (with_reducible first | exact HB.out | apply below_alloc | apply pw_below_drewN | apply below_drew1) | exact HB.out)) hb); have n1_ := Aside0.mk (hbox); have n2_ := Aside0.mk ((by rw [hg]; exact (below_size (by repeat (first | (with_reducible first | exact HB.out | apply below_alloc | apply pw_below_drewN | apply below_drew1) | exact HB.out))) : w.heap.size ≤ gb197)); have n3_ := Aside0.mk ((by rw [hg]; exact (below_size (by repeat (first | (with_reducible first | exact HB.out | apply below_alloc | apply pw_below_drewN | apply below_drew1) | exact HB.out))) : w.heap.size ≤ gb197)); clear HB; have HB := n0_; have BK197 := n1_; have GW197 := n2_; have GE197 := n3_; clear n0_ n1_ n2_ n3_; clear hb hbox hg; have hcz4_0 : w3.cell? ⟨gb197, 0, none⟩ = some (.slice A0_0 l0_0.length c0_0) := (blk_cell BK197.out 0).trans rfl; have hcz4_1 : w3.cell? ⟨gb197, 1, none⟩ = some (.slice A0_1 l0_1.length c0_1) := (blk_cell BK197.out 1).trans rfl; have hfz4_0 := blk_frozen BK197.out 0; have hfz4_1 := blk_frozen BK197.out 1) | ((with_reducible refine gate_callee (f := 52) rfl ?_); refine goesL_ (some 9) rfl rfl Try.func52 (by kernel_rfl) rfl #[.int .i64 (l0_0.length : Int)] rfl (by (try simp only [List.map_toArray, List.map_cons, List.map_nil]); first | done | rfl | (simp only [List.length_drop, List.length_take]; rfl)) ?_; (with_reducible refine (corncribref06_Plain.calls k (l0_0.length : Int) t198 _ A2.out).mono ?_); rintro e w5 ⟨rfl, hb⟩; refine ⟨_, rfl, ?_⟩; have n0_ := Aside0.mk (blk_below (g := gb197) (o := .cells #[.slice A0_0 l0_0.length c0_0, .slice A0_1 l0_1.length c0_1] 48 (0, 0)) (by (with_reducible repeat (first | refine blk_drewN ?_ _ | refine blk_drew ?_ | refine blk_alloc ?_ _)); exact BK197.out) hb); have n1_ := Aside0.mk (below_step (by repeat (first | (with_reducible first | exact HB.out | apply below_alloc | apply pw_below_drewN | apply below_drew1 | refine below_set ?_ GE197.out) | exact HB.out)) hb); clear BK197; clear HB; have BK197 := n0_; have HB := n1_; clear n0_ n1_; (try clear hb); (try clear hb2); (try clear hk); (try clear hi)))
 go_loopg [3, 4] k (fun kq v3 v4 w' => ∃ (x3_1 : ByteArray) (x4_1 : Int), v3 = .string x3_1 ∧ v4 = .int .i64 x4_1 ∧ Aside0 (corncribref06_Bytes.l0 kq x3_1 x4_1 l0_0 l0_1 = some r) ∧ Aside0 (kq ≤ k) ∧ Aside0 (w'.heap[gb197]? = some (.cells #[(.slice A0_0 l0_0.length c0_0), (.slice A0_1 l0_1.length c0_1)] 48 (0, 0))) ∧ Aside0 (Below w.heap.size w w'))
 case atStart => exact ⟨(t198), (0), (by first | rfl | (simp; done) | (simp [*]; done)), (by first | rfl | (simp; done) | (simp [*]; done)), H', ⟨Nat.le_refl _⟩, ⟨by (with_reducible repeat (first | refine blk_drewN ?_ _ | refine blk_drew ?_ | refine blk_alloc ?_ _)); exact BK197.out⟩, ⟨by repeat (first | (with_reducible first | exact HB.out | apply below_alloc | apply pw_below_drewN | apply below_drew1 | refine below_set ?_ GE197.out) | exact HB.out)⟩⟩
 case round =>
  clear H'
  (try clear p2); (try clear c4); (try clear c5); (try clear hcz4_0); (try clear hcz4_1); (try clear hfz4_0); (try clear hfz4_1)
  obtain ⟨x3_1, x4_1, rfl, rfl, HA, HK1, BK197, HB⟩ := hrel
  cases gk with
  |zero => exact absurd HA.out (by simp [corncribref06_Bytes.l0])
  |succ k1 =>
   have H := HA.out
   clear HA
   simp only [corncribref06_Bytes.l0] at H
   by_cases c6 : x4_1 < (l0_0.length : Int)
   ·rw [if_pos c6] at H
    have c6b0 : decide (x4_1 < (l0_0.length : Int)) = true := decide_eq_true c6
    clear c6
    by_cases c7 : 0 ≤ x4_1
    ·rw [if_pos c7] at H
     have c7b0 : decide (0 ≤ x4_1) = true := decide_eq_true c7
     clear c7
     replace H := Option.bind_eq_some_iff.mp H
     obtain ⟨t200, A80, H⟩ := H
     replace H : (if x3_1.size + t200.size ≤ 9223372036854775807 then (corncribref06_Bytes.l0 k1 (x3_1 ++ t200) (wrap64 (x4_1 + 1)) l0_0 l0_1) else (none)) = some r := H
     have A8 := Aside0.mk A80
     clear A80
     by_cases c9 : x3_1.size + t200.size ≤ 9223372036854775807
     ·rw [if_pos c9] at H
      have c9b0 := eq_true c9
      have c9b1 : decide (x3_1.size + t200.size ≤ 9223372036854775807) = true := decide_eq_true c9
      try have c9b2 : (9223372036854775807 < x3_1.size + t200.size) = False := eq_false (Nat.not_lt.2 c9)
      have H' := Aside0.mk H
      clear H
      obtain ⟨hcz10_0, hfz10_0, hcz10_1, hfz10_1⟩ := cfz2 BK197.out
      have p199 : 0 ≤ (x4_1 : Int) := of_decide_eq_true (by first | (with_reducible assumption) | assumption)
      have q199 : x4_1 < (l0_0.length : Int) := of_decide_eq_true (by first | (with_reducible assumption) | assumption)
      obtain ⟨ad199, e199, hx199_0⟩ := Kd.at_int HR0_0.out x4_1 p199 q199
      cases e199
      replace hx199_0 := (HB.out.cell (World.block_lt_of_cell? w _ hx199_0)).trans hx199_0
      replace p199 := eq_true p199
      replace q199 := eq_true q199
      go_wp2_with (first | ((with_reducible refine gate_callee (f := 53) rfl ?_); refine goesL_ (some 23) rfl rfl Try.func53 (by kernel_rfl) rfl #[.int .i64 (rd l0_0 x4_1)] rfl (by (try simp only [List.map_toArray, List.map_cons, List.map_nil]); first | done | rfl | (simp only [List.length_drop, List.length_take]; rfl)) ?_; (with_reducible refine (corncribref06_Signed.calls k1 (rd l0_0 x4_1) t200 _ A8.out).mono ?_); rintro e w11 ⟨rfl, hb⟩; refine ⟨_, rfl, ?_⟩; have n0_ := Aside0.mk (blk_below (g := gb197) (o := .cells #[.slice (some ad199) l0_0.length c0_0, .slice A0_1 l0_1.length c0_1] 48 (0, 0)) (by (with_reducible repeat (first | refine blk_drewN ?_ _ | refine blk_drew ?_ | refine blk_alloc ?_ _)); exact BK197.out) hb); have n1_ := Aside0.mk (below_step (by repeat (first | (with_reducible first | exact HB.out | apply below_alloc | apply pw_below_drewN | apply below_drew1 | refine below_set ?_ GE197.out) | exact HB.out)) hb); clear BK197; clear HB; have BK197 := n0_; have HB := n1_; clear n0_ n1_; (try clear hb); (try clear hb2); (try clear hk); (try clear hi)))
      go_roundg k1
      case measure => have := HK1.out; omega
      case rel => exact ⟨(x3_1 ++ t200), (wrap64 (x4_1 + 1)), (by first | rfl | (simp; done) | (simp [*]; done)), (by first | rfl | (simp; done) | (simp [*]; done)), H', ⟨by have := HK1.out; omega⟩, ⟨by (with_reducible repeat (first | refine blk_drewN ?_ _ | refine blk_drew ?_ | refine blk_alloc ?_ _)); exact BK197.out⟩, ⟨by repeat (first | (with_reducible first | exact HB.out | apply below_alloc | apply pw_below_drewN | apply below_drew1 | refine below_set ?_ GE197.out) | exact HB.out)⟩⟩
     ·rw [if_neg c9] at H
      exact absurd H (by simp)
    ·rw [if_neg c7] at H
     exact absurd H (by simp)
   ·rw [if_neg c6] at H
    have c6b0 : decide (x4_1 < (l0_0.length : Int)) = false := decide_eq_false c6
    clear c6
    replace H := Option.bind_eq_some_iff.mp H
    obtain ⟨t201, A120, H⟩ := H
    replace H : (if x3_1.size + t201.size ≤ 9223372036854775807 then (corncribref06_Bytes.l1 k1 (x3_1 ++ t201) 0 l0_0 l0_1) else (none)) = some r := H
    have A12 := Aside0.mk A120
    clear A120
    by_cases c13 : x3_1.size + t201.size ≤ 9223372036854775807
    ·rw [if_pos c13] at H
     have c13b0 := eq_true c13
     have c13b1 : decide (x3_1.size + t201.size ≤ 9223372036854775807) = true := decide_eq_true c13
     try have c13b2 : (9223372036854775807 < x3_1.size + t201.size) = False := eq_false (Nat.not_lt.2 c13)
     have H' := Aside0.mk H
     clear H
     obtain ⟨hcz14_0, hfz14_0, hcz14_1, hfz14_1⟩ := cfz2 BK197.out
     go_wp2_with (first | ((with_reducible refine gate_callee (f := 52) rfl ?_); refine goesL_ (some 29) rfl rfl Try.func52 (by kernel_rfl) rfl #[.int .i64 (l0_1.length : Int)] rfl (by (try simp only [List.map_toArray, List.map_cons, List.map_nil]); first | done | rfl | (simp only [List.length_drop, List.length_take]; rfl)) ?_; (with_reducible refine (corncribref06_Plain.calls k1 (l0_1.length : Int) t201 _ A12.out).mono ?_); rintro e w15 ⟨rfl, hb⟩; refine ⟨_, rfl, ?_⟩; have n0_ := Aside0.mk (blk_below (g := gb197) (o := .cells #[.slice A0_0 l0_0.length c0_0, .slice A0_1 l0_1.length c0_1] 48 (0, 0)) (by (with_reducible repeat (first | refine blk_drewN ?_ _ | refine blk_drew ?_ | refine blk_alloc ?_ _)); exact BK197.out) hb); have n1_ := Aside0.mk (below_step (by repeat (first | (with_reducible first | exact HB.out | apply below_alloc | apply pw_below_drewN | apply below_drew1 | refine below_set ?_ GE197.out) | exact HB.out)) hb); clear BK197; clear HB; have BK197 := n0_; have HB := n1_; clear n0_ n1_; (try clear hb); (try clear hb2); (try clear hk); (try clear hi)))
     go_loopg [3, 5] k1 (fun kq v3 v5 w' => ∃ (x3_2 : ByteArray) (x5_2 : Int), v3 = .string x3_2 ∧ v5 = .int .i64 x5_2 ∧ Aside0 (corncribref06_Bytes.l1 kq x3_2 x5_2 l0_0 l0_1 = some r) ∧ Aside0 (kq ≤ k1) ∧ Aside0 (w'.heap[gb197]? = some (.cells #[(.slice A0_0 l0_0.length c0_0), (.slice A0_1 l0_1.length c0_1)] 48 (0, 0))) ∧ Aside0 (Below w.heap.size w w'))
     case atStart => exact ⟨(x3_1 ++ t201), (0), (by first | rfl | (simp; done) | (simp [*]; done)), (by first | rfl | (simp; done) | (simp [*]; done)), H', ⟨Nat.le_refl _⟩, ⟨by (with_reducible repeat (first | refine blk_drewN ?_ _ | refine blk_drew ?_ | refine blk_alloc ?_ _)); exact BK197.out⟩, ⟨by repeat (first | (with_reducible first | exact HB.out | apply below_alloc | apply pw_below_drewN | apply below_drew1 | refine below_set ?_ GE197.out) | exact HB.out)⟩⟩
     case round =>
      clear H'
      (try clear c1); (try clear p1); (try clear q1); (try clear hx1); (try clear p2); (try clear c4); (try clear c5); (try clear c6); (try clear c6b0); (try clear p6); (try clear c7); (try clear c7b0); (try clear c9); (try clear c9b0); (try clear c9b1); (try clear c9b2); (try clear c13); (try clear c13b0); (try clear c13b1); (try clear c13b2); (try clear hcz10_0); (try clear hcz10_1); (try clear hcz14_0); (try clear hcz14_1); (try clear hcz4_0); (try clear hcz4_1); (try clear hfz10_0); (try clear hfz10_1); (try clear hfz14_0); (try clear hfz14_1); (try clear hfz4_0); (try clear hfz4_1); (try clear hx199_0); (try clear p199); (try clear p2); (try clear q199)
      obtain ⟨x3_2, x5_2, rfl, rfl, HA, HK2, BK197, HB⟩ := hrel
      cases gk with
      |zero => exact absurd HA.out (by simp [corncribref06_Bytes.l1])
      |succ k2 =>
       have H := HA.out
       clear HA
       simp only [corncribref06_Bytes.l1] at H
       by_cases c16 : x5_2 < (l0_1.length : Int)
       ·rw [if_pos c16] at H
        have c16b0 : decide (x5_2 < (l0_1.length : Int)) = true := decide_eq_true c16
        clear c16
        by_cases c17 : 0 ≤ x5_2
        ·rw [if_pos c17] at H
         have c17b0 : decide (0 ≤ x5_2) = true := decide_eq_true c17
         clear c17
         replace H := Option.bind_eq_some_iff.mp H
         obtain ⟨t203, A180, H⟩ := H
         replace H : (if t203.size + (rdOf ByteArray.empty l0_1 x5_2).size ≤ 9223372036854775807 then (if x3_2.size + (t203 ++ (rdOf ByteArray.empty l0_1 x5_2)).size ≤ 9223372036854775807 then (corncribref06_Bytes.l1 k2 (x3_2 ++ (t203 ++ (rdOf ByteArray.empty l0_1 x5_2))) (wrap64 (x5_2 + 1)) l0_0 l0_1) else (none)) else (none)) = some r := H
         have A18 := Aside0.mk A180
         clear A180
         by_cases c19 : t203.size + (rdOf ByteArray.empty l0_1 x5_2).size ≤ 9223372036854775807
         ·rw [if_pos c19] at H
          have c19b0 := eq_true c19
          have c19b1 : decide (t203.size + (rdOf ByteArray.empty l0_1 x5_2).size ≤ 9223372036854775807) = true := decide_eq_true c19
          try have c19b2 : (9223372036854775807 < t203.size + (rdOf ByteArray.empty l0_1 x5_2).size) = False := eq_false (Nat.not_lt.2 c19)
          by_cases c20 : x3_2.size + (t203 ++ (rdOf ByteArray.empty l0_1 x5_2)).size ≤ 9223372036854775807
          ·rw [if_pos c20] at H
           have c20b0 := eq_true c20
           try have c20b0z : (x3_2.size + (t203.size + (rdOf ByteArray.empty l0_1 x5_2).size : Nat) ≤ 9223372036854775807) = True := eq_true (by simpa only [ByteArray.size_extract, ByteArray.size_append, Nat.min_self] using of_eq_true c20b0)
           have c20b1 : decide (x3_2.size + (t203 ++ (rdOf ByteArray.empty l0_1 x5_2)).size ≤ 9223372036854775807) = true := decide_eq_true c20
           try have c20b1z : decide (x3_2.size + (t203.size + (rdOf ByteArray.empty l0_1 x5_2).size : Nat) ≤ 9223372036854775807) = true := by simpa only [ByteArray.size_extract, ByteArray.size_append, Nat.min_self] using c20b1
           try have c20b2 : (9223372036854775807 < x3_2.size + (t203 ++ (rdOf ByteArray.empty l0_1 x5_2)).size) = False := eq_false (Nat.not_lt.2 c20)
           try have c20b2z : (9223372036854775807 < x3_2.size + (t203.size + (rdOf ByteArray.empty l0_1 x5_2).size : Nat)) = False := by simpa only [ByteArray.size_extract, ByteArray.size_append, Nat.min_self] using c20b2
           have H' := Aside0.mk H
           clear H
           obtain ⟨hcz21_0, hfz21_0, hcz21_1, hfz21_1⟩ := cfz2 BK197.out
           try go_wp2
           have n0_ := Aside0.mk (blk_drew BK197.out)
           have n1_ := Aside0.mk (below_drew1 HB.out)
           clear BK197
           clear HB
           have BK197 := n0_
           have HB := n1_
           clear n0_ n1_
           have p202 : 0 ≤ (x5_2 : Int) := of_decide_eq_true (by first | (with_reducible assumption) | assumption)
           have q202 : x5_2 < (l0_1.length : Int) := of_decide_eq_true (by first | (with_reducible assumption) | assumption)
           obtain ⟨ad202, e202, hx202_0⟩ := Kd.at_string HR0_1.out x5_2 p202 q202
           have hw202_0 := hx202_0
           cases e202
           replace hx202_0 := (HB.out.cell (World.block_lt_of_cell? w _ hx202_0)).trans hx202_0
           replace p202 := eq_true p202
           replace q202 := eq_true q202
           have p204 : 0 ≤ (x5_2 : Int) := of_decide_eq_true (by first | (with_reducible assumption) | assumption)
           have q204 : x5_2 < (l0_1.length : Int) := of_decide_eq_true (by first | (with_reducible assumption) | assumption)
           obtain ⟨ad204, e204, hx204_0⟩ := Kd.at_string HR0_1.out x5_2 p204 q204
           have hw204_0 := hx204_0
           obtain rfl : ad202 = ad204 := (by injection e204)
           replace hx204_0 := (HB.out.cell (World.block_lt_of_cell? w _ hx204_0)).trans hx204_0
           replace p204 := eq_true p204
           replace q204 := eq_true q204
           refine start_ (n := 16) (S := fun w' => w'.cell? ⟨gb197, 0, none⟩ = some (.slice A0_0 l0_0.length c0_0) ∧ w'.cell? ⟨gb197, 1, none⟩ = some (.slice (some ad202) l0_1.length c0_1) ∧ w'.cell? (ad202.add (x5_2).toNat) = some (.string (rdOf ByteArray.empty l0_1 x5_2)) ∧ w'.cell? (ad202.add (x5_2).toNat) = some (.string (rdOf ByteArray.empty l0_1 x5_2))) (ds := []) #[false, false, false, false, false, false, false, false, false, false, false, false, false, false, false, false] (by kernel_rfl) rfl rfl ⟨(blk_cell BK197.out 0).trans rfl, (blk_cell BK197.out 1).trans rfl, ((HB.out.cell (World.block_lt_of_cell? w _ hw202_0)).trans hw202_0), ((HB.out.cell (World.block_lt_of_cell? w _ hw204_0)).trans hw204_0)⟩ (fun hHeld => ?_); refine with_tabW corncribref06_Bytes.tab10 corncribref06_Bytes.bits10 (fun HT_ HW_ => ?_)
           generalize wr.drew = w22 at BK197 HB hx202_0 hx204_0 hHeld ⊢
           refine pure_ (i := 0) (N := some 38) (v := ?_) (a' := ?_) #[true, false, false, false, false, false, false, false, false, false, false, false, false, false, false, false] rfl rfl (any_of HT_.out (by kernel_rfl)) (fun _ _ _ h => h) (Or.inl ⟨by rfl, ?_⟩) ?_ ?_
           rotate_left
           ·intro w'
            go_simp
            with_reducible rfl
           rotate_left
           ·simp only [Act.put, List.setIfInBounds_toArray, List.set_cons_zero, List.set_cons_succ, i64_w, i32_w]
            rfl
           refine pure_ (i := 1) (N := some 39) (v := ?_) (a' := ?_) #[true, true, false, false, false, false, false, false, false, false, false, false, false, false, false, false] rfl rfl (any_of HT_.out (by kernel_rfl)) (fun _ _ _ h => h) (Or.inl ⟨by rfl, ?_⟩) ?_ ?_
           rotate_left
           ·intro w'
            go_simp
            with_reducible rfl
           rotate_left
           ·simp only [Act.put, List.setIfInBounds_toArray, List.set_cons_zero, List.set_cons_succ, i64_w, i32_w]
            rfl
           refine pure_ (i := 3) (N := some 41) (v := ?_) (a' := ?_) #[true, true, false, true, false, false, false, false, false, false, false, false, false, false, false, false] rfl rfl (any_of HT_.out (by kernel_rfl)) (fun _ _ _ h => h) (Or.inl ⟨by rfl, ?_⟩) ?_ ?_
           rotate_left
           ·intro w'
            go_simp
            with_reducible rfl
           rotate_left
           ·simp only [Act.put, List.setIfInBounds_toArray, List.set_cons_zero, List.set_cons_succ, i64_w, i32_w]
            rfl
           refine pure_ (i := 8) (N := some 46) (v := ?_) (a' := ?_) #[true, true, false, true, false, false, false, false, true, false, false, false, false, false, false, false] rfl rfl (any_of HT_.out (by kernel_rfl)) (fun _ _ _ h => h) (Or.inl ⟨by rfl, ?_⟩) ?_ ?_
           rotate_left
           ·intro w'
            go_simp
            with_reducible rfl
           rotate_left
           ·simp only [Act.put, List.setIfInBounds_toArray, List.set_cons_zero, List.set_cons_succ, i64_w, i32_w]
            rfl
           refine pure_ (i := 10) (N := some 48) (v := ?_) (a' := ?_) #[true, true, false, true, false, false, false, false, true, false, true, false, false, false, false, false] rfl rfl (any_of HT_.out (by kernel_rfl)) (fun _ _ _ h => h) (Or.inl ⟨by rfl, ?_⟩) ?_ ?_
           rotate_left
           ·intro w'
            go_simp
            with_reducible rfl
           rotate_left
           ·simp only [Act.put, List.setIfInBounds_toArray, List.set_cons_zero, List.set_cons_succ, i64_w, i32_w]
            rfl
           refine take_ (i := 2) (N := some 40) (v := ?_) (a' := ?_) #[true, true, true, true, false, false, false, false, true, false, true, false, false, false, false, false] rfl rfl (take_ofW HT_.out HW_.out (by kernel_rfl)) (fun _ _ _ h => h) (Or.inl ⟨by rfl, ?_⟩) hHeld ?_ ?_
           rotate_left
           ·rintro w' ⟨s0, s1, s2, s3⟩
            go_simp
            with_reducible rfl
           rotate_left
           ·simp only [Act.put, List.setIfInBounds_toArray, List.set_cons_zero, List.set_cons_succ, i64_w, i32_w]
            rfl
           refine pure_ (i := 4) (N := some 42) (v := ?_) (a' := ?_) #[true, true, true, true, true, false, false, false, true, false, true, false, false, false, false, false] rfl rfl (any_of HT_.out (by kernel_rfl)) (fun _ _ _ h => h) (Or.inl ⟨by rfl, ?_⟩) ?_ ?_
           rotate_left
           ·intro w'
            go_simp
            with_reducible rfl
           rotate_left
           ·simp only [Act.put, List.setIfInBounds_toArray, List.set_cons_zero, List.set_cons_succ, i64_w, i32_w]
            rfl
           refine take_ (i := 5) (N := some 43) (v := ?_) (a' := ?_) #[true, true, true, true, true, true, false, false, true, false, true, false, false, false, false, false] rfl rfl (take_ofW HT_.out HW_.out (by kernel_rfl)) (fun _ _ _ h => h) (Or.inl ⟨by rfl, ?_⟩) hHeld ?_ ?_
           rotate_left
           ·rintro w' ⟨s0, s1, s2, s3⟩
            go_simp
            with_reducible rfl
           rotate_left
           ·simp only [Act.put, List.setIfInBounds_toArray, List.set_cons_zero, List.set_cons_succ, i64_w, i32_w]
            rfl
           refine pure_ (i := 6) (N := some 44) (v := ?_) (a' := ?_) #[true, true, true, true, true, true, true, false, true, false, true, false, false, false, false, false] rfl rfl (any_of HT_.out (by kernel_rfl)) (fun _ _ _ h => h) (Or.inl ⟨by rfl, ?_⟩) ?_ ?_
           rotate_left
           ·intro w'
            go_simp
            with_reducible rfl
           rotate_left
           ·simp only [Act.put, List.setIfInBounds_toArray, List.set_cons_zero, List.set_cons_succ, i64_w, i32_w]
            rfl
           refine take_ (i := 9) (N := some 47) (v := ?_) (a' := ?_) #[true, true, true, true, true, true, true, false, true, true, true, false, false, false, false, false] rfl rfl (take_ofW HT_.out HW_.out (by kernel_rfl)) (fun _ _ _ h => h) (Or.inl ⟨by rfl, ?_⟩) hHeld ?_ ?_
           rotate_left
           ·rintro w' ⟨s0, s1, s2, s3⟩
            go_simp
            with_reducible rfl
           rotate_left
           ·simp only [Act.put, List.setIfInBounds_toArray, List.set_cons_zero, List.set_cons_succ, i64_w, i32_w]
            rfl
           refine pure_ (i := 11) (N := some 49) (v := ?_) (a' := ?_) #[true, true, true, true, true, true, true, false, true, true, true, true, false, false, false, false] rfl rfl (any_of HT_.out (by kernel_rfl)) (fun _ _ _ h => h) (Or.inl ⟨by rfl, ?_⟩) ?_ ?_
           rotate_left
           ·intro w'
            go_simp
            with_reducible rfl
           rotate_left
           ·simp only [Act.put, List.setIfInBounds_toArray, List.set_cons_zero, List.set_cons_succ, i64_w, i32_w]
            rfl
           refine take_ (i := 12) (N := some 50) (v := ?_) (a' := ?_) #[true, true, true, true, true, true, true, false, true, true, true, true, true, false, false, false] rfl rfl (take_ofW HT_.out HW_.out (by kernel_rfl)) (fun _ _ _ h => h) (Or.inl ⟨by rfl, ?_⟩) hHeld ?_ ?_
           rotate_left
           ·rintro w' ⟨s0, s1, s2, s3⟩
            go_simp
            with_reducible rfl
           rotate_left
           ·simp only [Act.put, List.setIfInBounds_toArray, List.set_cons_zero, List.set_cons_succ, i64_w, i32_w]
            rfl
           refine one_ (i := 7) (N := some 45) #[true, true, true, true, true, true, true, true, true, true, true, true, true, false, false, false] rfl rfl (one_of HT_.out (by kernel_rfl)) (by decide) (fun K hK => ?_)
           refine goes_ Try.func52 (by kernel_rfl) rfl #[.int .i64 ((rdOf ByteArray.empty l0_1 x5_2).size : Int)] (by rfl) rfl rfl (by (try simp only [List.map_toArray, List.map_cons, List.map_nil]); first | done | rfl | (simp only [List.length_drop, List.length_take]; rfl)) ?_
           with_reducible refine (corncribref06_Plain.calls k2 ((rdOf ByteArray.empty l0_1 x5_2).size : Int) t203 _ A18.out).mono ?_
           rintro e w23 ⟨rfl, hb⟩
           refine ⟨_, rfl, ?_⟩
           have n0_ := Aside0.mk (blk_below (g := gb197) (o := .cells #[.slice A0_0 l0_0.length c0_0, .slice (some ad202) l0_1.length c0_1] 48 (0, 0)) (by (with_reducible repeat (first | refine blk_drewN ?_ _ | refine blk_drew ?_ | refine blk_alloc ?_ _)); exact BK197.out) hb)
           have n1_ := Aside0.mk (below_step (by repeat (first | (with_reducible first | exact HB.out | apply below_alloc | apply pw_below_drewN | apply below_drew1 | refine below_set ?_ GE197.out) | exact HB.out)) hb)
           clear BK197
           clear HB
           have BK197 := n0_
           have HB := n1_
           clear n0_ n1_
           (try clear hb)
           (try clear hb2)
           (try clear hk)
           (try clear hi)
           refine hK.out _ _ ⟨(blk_cell BK197.out 0).trans rfl, (blk_cell BK197.out 1).trans rfl, ((HB.out.cell (World.block_lt_of_cell? w _ hw202_0)).trans hw202_0), ((HB.out.cell (World.block_lt_of_cell? w _ hw204_0)).trans hw204_0)⟩ (fun hHeld => ?_)
           clear hK K
           refine norm_ (a' := ?_) ?_ ?_
           rotate_left
           ·show Act.put _ (some 45) _ = _
            simp only [Act.put, List.setIfInBounds_toArray, List.set_cons_zero, List.set_cons_succ, i64_w, i32_w]
            rfl
           refine pure_ (i := 13) (N := some 51) (v := ?_) (a' := ?_) #[true, true, true, true, true, true, true, true, true, true, true, true, true, true, false, false] rfl rfl (any_of HT_.out (by kernel_rfl)) (fun _ _ _ h => h) (Or.inl ⟨by rfl, ?_⟩) ?_ ?_
           rotate_left
           ·intro w'
            go_simp
            with_reducible rfl
           rotate_left
           ·simp only [Act.put, List.setIfInBounds_toArray, List.set_cons_zero, List.set_cons_succ, i64_w, i32_w]
            rfl
           refine pure_ (i := 14) (N := some 52) (v := ?_) (a' := ?_) #[true, true, true, true, true, true, true, true, true, true, true, true, true, true, true, false] rfl rfl (any_of HT_.out (by kernel_rfl)) (fun _ _ _ h => h) (Or.inl ⟨by rfl, ?_⟩) ?_ ?_
           rotate_left
           ·intro w'
            go_simp
            with_reducible rfl
           rotate_left
           ·simp only [Act.put, List.setIfInBounds_toArray, List.set_cons_zero, List.set_cons_succ, i64_w, i32_w]
            rfl
           refine pure_ (i := 15) (N := some 3) (v := ?_) (a' := ?_) #[true, true, true, true, true, true, true, true, true, true, true, true, true, true, true, true] rfl rfl (any_of HT_.out (by kernel_rfl)) (fun _ _ _ h => h) (Or.inl ⟨by rfl, ?_⟩) ?_ ?_
           rotate_left
           ·intro w'
            go_simp
            with_reducible rfl
           rotate_left
           ·simp only [Act.put, List.setIfInBounds_toArray, List.set_cons_zero, List.set_cons_succ, i64_w, i32_w]
            rfl
           refine done_ (done_of HT_.out (by kernel_rfl)) ?_
           try go_wp2
           go_roundg k2
           case measure => have := HK1.out; have := HK2.out; omega
           case rel => exact ⟨(x3_2 ++ (t203 ++ (rdOf ByteArray.empty l0_1 x5_2))), (wrap64 (x5_2 + 1)), (by first | rfl | (simp; done) | (simp [*]; done)), (by first | rfl | (simp; done) | (simp [*]; done)), H', ⟨by have := HK1.out; have := HK2.out; omega⟩, ⟨by (with_reducible repeat (first | refine blk_drewN ?_ _ | refine blk_drew ?_ | refine blk_alloc ?_ _)); exact BK197.out⟩, ⟨by repeat (first | (with_reducible first | exact HB.out | apply below_alloc | apply pw_below_drewN | apply below_drew1 | refine below_set ?_ GE197.out) | exact HB.out)⟩⟩
          ·rw [if_neg c20] at H
           exact absurd H (by simp)
         ·rw [if_neg c19] at H
          exact absurd H (by simp)
        ·rw [if_neg c17] at H
         exact absurd H (by simp)
       ·rw [if_neg c16] at H
        have c16b0 : decide (x5_2 < (l0_1.length : Int)) = false := decide_eq_false c16
        clear c16
        obtain rfl := Option.some.inj H
        obtain ⟨hcz24_0, hfz24_0, hcz24_1, hfz24_1⟩ := cfz2 BK197.out
        go_wp2
        go_ret
        exact ⟨by first | rfl | (simp [errW_none, errW_some] <;> rfl) | (simp [*, errW_none, errW_some] <;> rfl), by repeat (first | (with_reducible first | exact HB.out | apply below_alloc | apply pw_below_drewN | apply below_drew1 | refine below_set ?_ GE197.out) | exact HB.out)⟩
    ·rw [if_neg c13] at H
     exact absurd H (by simp)
end Go.Proofs.Ytbfjbcaabijpfaa.Al

namespace Go.Proofs.Ytbfjbcaabijpfaa.Al
open Go.RowKit Go.Proofs.YtbfjbcaabijpfaaW.PrintWords Go.Proofs.YtbfjbcaabijpfaaW.PrintLast Go.Proofs.YtbfjbcaabijpfaaW.PrintMore
attribute [local go_sem] max2_int min2_int max_two min_two max_three min_three max_four min_four   -- for this text's walks alone
set_option linter.unusedVariables false
set_option linter.unusedSimpArgs false
open Bool renaming true → T, false → F
def corncribref08_Bytes.l0 : Nat → Int → Int → Int → Int → Int → ByteArray → ByteArray → Bool → List ByteArray → List (S50) → List Int → List ByteArray → Option (ByteArray)
 |0, _, _, _, _, _, _, _, _, _, _, _, _ => none
 |k + 1, x4, x206000, x206001, x206002, x206003, x206004, x206005, x206006, x206007, x206008, x214000, x214001 => if x4 < (x206008.length : Int) then (if 0 ≤ x4 then ((corncribref07_One.f ((rd_T50 x206008 x4).f2)).bind fun t218 => (if x214000.length < 17592186044416 then (if x214001.length < 8796093022208 then ((some (x214001 ++ [(rd_T50 x206008 x4).f0] : List ByteArray)).bind fun y223 => (if y223.length < 8796093022208 then (corncribref08_Bytes.l0 k (wrap64 (x4 + 1)) x206000 x206001 x206002 x206003 x206004 x206005 x206006 x206007 x206008 (x214000 ++ [t218]) (y223 ++ [(rd_T50 x206008 x4).f1])) else (none))) else (none)) else (none))) else (none)) else ((corncribref06_Bytes.f k x214000 x214001).bind fun t230 => (some t230))
def corncribref08_Bytes.f (k : Nat) (a0_0 : Int) (a0_1 : Int) (a0_2 : Int) (a0_3 : Int) (a0_4 : ByteArray) (a0_5 : ByteArray) (a0_6 : Bool) (l0_7 : List ByteArray) (l0_8 : List (S50)) : Option (ByteArray) := (corncribref07_One.f a0_6).bind fun t206 => ((some (([a0_4, a0_5] : List ByteArray) : List ByteArray)).bind fun y210 => (if y210.length + l0_7.length < 8796093022208 then (corncribref08_Bytes.l0 k 0 a0_0 a0_1 a0_2 a0_3 a0_4 a0_5 a0_6 l0_7 l0_8 (([a0_0, a0_1, a0_2, a0_3, t206, (l0_7.length : Int)] : List Int)) (y210 ++ l0_7)) else (none)))
def corncribref08_Bytes.T1 : Bool × List (List Nat × List Nat) := (true, [([], []), ([0], [0]), ([], []), ([2], [2]), ([], []), ([4], [4]), ([], []), ([6], [6]), ([], []), ([8], [8]), ([9], [9]), ([], []), ([11], [11]), ([12], [12]), ([1, 3, 5, 7, 10, 13], [1, 3, 5, 7, 10, 13]), ([], []), ([15], [15]), ([], []), ([17], [17]), ([16, 18], [16, 18]), ([14, 19], [14, 19]), ([], []), ([21, 20, 10, 0, 1, 2, 3, 4, 5, 6, 7, 8, 9, 10, 11, 12, 13, 14, 15, 16, 17, 18, 19, 20, 21], [20, 21])])
def corncribref08_Bytes.B1 : List Nat := [0, 1, 0, 4, 0, 16, 0, 64, 0, 256, 768, 0, 2048, 6144, 16383, 0, 32768, 0, 131072, 491520, 1048575, 0, 4194303]
theorem corncribref08_Bytes.tab1 : rtab .any (opsOf Try.f22 1) = corncribref08_Bytes.T1 := by kernel_rfl
theorem corncribref08_Bytes.bits1 : waitsOk corncribref08_Bytes.T1.2 corncribref08_Bytes.B1 = true := by kernel_rfl
def corncribref08_Bytes.T6 : Bool × List (List Nat × List Nat) := (true, [([], []), ([0], [0]), ([], []), ([2], [2]), ([], []), ([3, 4], [3, 4]), ([5], [5]), ([6], [6]), ([7], [7]), ([8], [8]), ([1, 9, 8], [1, 9]), ([0, 1, 2, 3, 4, 5, 6, 7, 8, 9, 10], []), ([11, 10, 10, 0, 1, 2, 3, 4, 5, 6, 7, 8, 9, 10], [10, 11])])
def corncribref08_Bytes.B6 : List Nat := [0, 1, 0, 4, 0, 28, 60, 124, 252, 508, 1023, 2047, 4095]
theorem corncribref08_Bytes.tab6 : rtab .any (opsOf Try.f22 6) = corncribref08_Bytes.T6 := by kernel_rfl
theorem corncribref08_Bytes.bits6 : waitsOk corncribref08_Bytes.T6.2 corncribref08_Bytes.B6 = true := by kernel_rfl
def corncribref08_Bytes.T7 : Bool × List (List Nat × List Nat) := (true, [([], []), ([0], [0]), ([], []), ([2], [2]), ([], []), ([3, 4], [3, 4]), ([5], [5]), ([6], [6]), ([7], [7]), ([1, 8], [1, 8]), ([0, 1, 2, 3, 4, 5, 6, 7, 8, 9], []), ([10, 9, 9, 0, 1, 2, 3, 4, 5, 6, 7, 8, 9], [9, 10])])
def corncribref08_Bytes.B7 : List Nat := [0, 1, 0, 4, 0, 28, 60, 124, 252, 511, 1023, 2047]
theorem corncribref08_Bytes.tab7 : rtab .any (opsOf Try.f22 7) = corncribref08_Bytes.T7 := by kernel_rfl
theorem corncribref08_Bytes.bits7 : waitsOk corncribref08_Bytes.T7.2 corncribref08_Bytes.B7 = true := by kernel_rfl
def corncribref08_Bytes.T8 : Bool × List (List Nat × List Nat) := (true, [([], []), ([0], [0]), ([], []), ([2], [2]), ([], []), ([3, 4], [3, 4]), ([5], [5]), ([6], [6]), ([7], [7]), ([1, 8], [1, 8]), ([0, 1, 2, 3, 4, 5, 6, 7, 8, 9], []), ([10, 9, 9, 0, 1, 2, 3, 4, 5, 6, 7, 8, 9], [9, 10])])
def corncribref08_Bytes.B8 : List Nat := [0, 1, 0, 4, 0, 28, 60, 124, 252, 511, 1023, 2047]
theorem corncribref08_Bytes.tab8 : rtab .any (opsOf Try.f22 8) = corncribref08_Bytes.T8 := by kernel_rfl
theorem corncribref08_Bytes.bits8 : waitsOk corncribref08_Bytes.T8.2 corncribref08_Bytes.B8 = true := by kernel_rfl
set_option maxHeartbeats 8000000 in
set_option maxRecDepth 100000 in
theorem corncribref08_Bytes.calls (k : Nat) (a0_0 : Int) (a0_1 : Int) (a0_2 : Int) (a0_3 : Int) (a0_4 : ByteArray) (a0_5 : ByteArray) (a0_6 : Bool) (A0_7 : Option Addr) (c0_7 : Nat) (l0_7 : List ByteArray) (A0_8 : Option Addr) (c0_8 : Nat) (l0_8 : List (S50)) (r : ByteArray) (w : World) (hr0_7 : Kd.C Kd.string w A0_7 l0_7.length l0_7) (hc0_7 : l0_7.length ≤ c0_7) (hr0_8 : Kd.C k50 w A0_8 l0_8.length l0_8) (hc0_8 : l0_8.length ≤ c0_8) (h : corncribref08_Bytes.f k a0_0 a0_1 a0_2 a0_3 a0_4 a0_5 a0_6 l0_7 l0_8 = some r) :
  Calls Try.prog 22 #[.agg #[.int .i64 a0_0, .int .i64 a0_1, .int .i64 a0_2, .int .i64 a0_3, .string a0_4, .string a0_5, .bool a0_6, .slice A0_7 l0_7.length c0_7, .slice A0_8 l0_8.length c0_8]] w fun e w' => e = .returned (.string r) ∧ Below w.heap.size w w' := by
 have hu25 := Try.underlying25
 have hu48 := Try.underlying48
 have HR0_7 := Aside0.mk hr0_7
 have HC0_7 := Aside0.mk hc0_7
 clear hr0_7 hc0_7
 have HR0_8 := Aside0.mk hr0_8
 have HC0_8 := Aside0.mk hc0_8
 clear hr0_8 hc0_8
 have HB := Aside0.mk (Below.refl w.heap.size w)
 have H : ((corncribref07_One.f a0_6).bind fun t206 => ((some (([a0_4, a0_5] : List ByteArray) : List ByteArray)).bind fun y210 => (if y210.length + l0_7.length < 8796093022208 then (corncribref08_Bytes.l0 k 0 a0_0 a0_1 a0_2 a0_3 a0_4 a0_5 a0_6 l0_7 l0_8 (([a0_0, a0_1, a0_2, a0_3, t206, (l0_7.length : Int)] : List Int)) (y210 ++ l0_7)) else (none)))) = some r := h
 clear h
 replace H := Option.bind_eq_some_iff.mp H
 obtain ⟨t206, A20, H⟩ := H
 try dsimp only at H
 have A2 := Aside0.mk A20
 clear A20
 obtain ⟨y207, hy207⟩ : ∃ y_ : List Int, y_ = (([a0_0, a0_1, a0_2, a0_3, t206, (l0_7.length : Int)] : List Int)) := ⟨_, rfl⟩
 replace H : ((some (([a0_4, a0_5] : List ByteArray) : List ByteArray)).bind fun y210 => (if y210.length + l0_7.length < 8796093022208 then (corncribref08_Bytes.l0 k 0 a0_0 a0_1 a0_2 a0_3 a0_4 a0_5 a0_6 l0_7 l0_8 y207 (y210 ++ l0_7)) else (none))) = some r := by first | (rw [hy207]; with_reducible exact H) | (have H2_ := (Option.bind_some _ _).symm.trans H; rw [hy207]; with_reducible exact H2_) | (have H2_ := (Option.bind_some _ _).symm.trans H; with_reducible exact H2_) | with_reducible exact H | (rw [hy207]; exact H) | exact H
 have Ny207 := Aside0.mk hy207
 clear hy207
 obtain ⟨y210, hy210⟩ : ∃ y_ : List ByteArray, y_ = (([a0_4, a0_5] : List ByteArray)) := ⟨_, rfl⟩
 replace H : (if y210.length + l0_7.length < 8796093022208 then (corncribref08_Bytes.l0 k 0 a0_0 a0_1 a0_2 a0_3 a0_4 a0_5 a0_6 l0_7 l0_8 y207 (y210 ++ l0_7)) else (none)) = some r := by first | (rw [hy210]; with_reducible exact H) | (have H2_ := (Option.bind_some _ _).symm.trans H; rw [hy210]; with_reducible exact H2_) | (have H2_ := (Option.bind_some _ _).symm.trans H; with_reducible exact H2_) | with_reducible exact H | (rw [hy210]; exact H) | exact H
 have Ny210 := Aside0.mk hy210
 clear hy210
 by_cases c3 : y210.length + l0_7.length < 8796093022208
 rotate_left
 ·rw [if_neg c3] at H
  exact absurd H (by simp)
 rw [if_pos c3] at H
 have LMc3 := Aside0.mk c3
 clear c3
 obtain ⟨y214, hy214⟩ : ∃ y_ : List ByteArray, y_ = (y210 ++ l0_7) := ⟨_, rfl⟩
 replace H : (corncribref08_Bytes.l0 k 0 a0_0 a0_1 a0_2 a0_3 a0_4 a0_5 a0_6 l0_7 l0_8 y207 y214) = some r := by first | (rw [hy214]; with_reducible exact H) | (have H2_ := (Option.bind_some _ _).symm.trans H; rw [hy214]; with_reducible exact H2_) | (have H2_ := (Option.bind_some _ _).symm.trans H; with_reducible exact H2_) | with_reducible exact H | (rw [hy214]; exact H) | exact H
 have Ny214 := Aside0.mk hy214
 clear hy214
 have H' := Aside0.mk H
 clear H
 go_enter Try.func22, Try.ntmps22
 try go_wp2_with (first | ((with_reducible refine gate_dst (N := 1) rfl ?_); refine box_event ?hg (N := 1) ?hd (cs := #[.int .i64 a0_0, .int .i64 a0_1, .int .i64 a0_2, .int .i64 a0_3, .string a0_4, .string a0_5, .bool a0_6, .slice A0_7 l0_7.length c0_7, .slice A0_8 l0_8.length c0_8]) (t := 25) ?hr ?_; (case hd => rfl); (case hg => rfl); (case hr => first | (go_simp; done) | (go_simp; rfl)); intro gb205 hg w4 hbox hb; have n0_ := Aside0.mk (below_step (bel_ HB.out) hb); have n1_ := Aside0.mk (hbox); have n2_ := Aside0.mk (bz_ hg (bel_ HB.out)); have n3_ := Aside0.mk (bz_ hg (bel_ HB.out)); clear HB; have HB := n0_; have BK205 := n1_; have GW205 := n2_; have GE205 := n3_; clear n0_ n1_ n2_ n3_; clear hb hbox hg))
 have n0_ := Aside0.mk (blk_drew BK205.out)
 have n1_ := Aside0.mk (below_drew1 HB.out)
 clear BK205
 clear HB
 have BK205 := n0_
 have HB := n1_
 clear n0_ n1_
 refine start_ (n := 23) (S := fun w' => w'.cell? ⟨gb205, 0, none⟩ = some (.int .i64 a0_0) ∧ w'.cell? ⟨gb205, 1, none⟩ = some (.int .i64 a0_1) ∧ w'.cell? ⟨gb205, 2, none⟩ = some (.int .i64 a0_2) ∧ w'.cell? ⟨gb205, 3, none⟩ = some (.int .i64 a0_3) ∧ w'.cell? ⟨gb205, 4, none⟩ = some (.string a0_4) ∧ w'.cell? ⟨gb205, 5, none⟩ = some (.string a0_5) ∧ w'.cell? ⟨gb205, 6, none⟩ = some (.bool a0_6) ∧ w'.cell? ⟨gb205, 7, none⟩ = some (.slice A0_7 l0_7.length c0_7) ∧ w'.cell? ⟨gb205, 8, none⟩ = some (.slice A0_8 l0_8.length c0_8)) (ds := []) #[F, F, F, F, F, F, F, F, F, F, F, F, F, F, F, F, F, F, F, F, F, F, F] (by kernel_rfl) rfl rfl ⟨(blk_cell BK205.out 0).trans rfl, (blk_cell BK205.out 1).trans rfl, (blk_cell BK205.out 2).trans rfl, (blk_cell BK205.out 3).trans rfl, (blk_cell BK205.out 4).trans rfl, (blk_cell BK205.out 5).trans rfl, (blk_cell BK205.out 6).trans rfl, (blk_cell BK205.out 7).trans rfl, (blk_cell BK205.out 8).trans rfl⟩ (fun hHeld => ?_); refine with_tabW corncribref08_Bytes.tab1 corncribref08_Bytes.bits1 (fun HT_ HW_ => ?_)
 generalize w4.drew = w5 at BK205 HB hHeld ⊢
 refine pure_ (i := 0) (N := some 5) (v := ?_) (a' := ?_) #[T, F, F, F, F, F, F, F, F, F, F, F, F, F, F, F, F, F, F, F, F, F, F] rfl rfl (any_of HT_.out (by kernel_rfl)) (fun _ _ _ h => h) (Or.inl ⟨by rfl, ?_⟩) ?_ ?_
 rotate_left
 ·intro w'
  go_simp
  with_reducible rfl
 rotate_left
 ·simp only [Act.put, s1_, s2_, s3_, i64_w, i32_w]
  rfl
 refine pure_ (i := 2) (N := some 7) (v := ?_) (a' := ?_) #[T, F, T, F, F, F, F, F, F, F, F, F, F, F, F, F, F, F, F, F, F, F, F] rfl rfl (any_of HT_.out (by kernel_rfl)) (fun _ _ _ h => h) (Or.inl ⟨by rfl, ?_⟩) ?_ ?_
 rotate_left
 ·intro w'
  go_simp
  with_reducible rfl
 rotate_left
 ·simp only [Act.put, s1_, s2_, s3_, i64_w, i32_w]
  rfl
 refine pure_ (i := 4) (N := some 9) (v := ?_) (a' := ?_) #[T, F, T, F, T, F, F, F, F, F, F, F, F, F, F, F, F, F, F, F, F, F, F] rfl rfl (any_of HT_.out (by kernel_rfl)) (fun _ _ _ h => h) (Or.inl ⟨by rfl, ?_⟩) ?_ ?_
 rotate_left
 ·intro w'
  go_simp
  with_reducible rfl
 rotate_left
 ·simp only [Act.put, s1_, s2_, s3_, i64_w, i32_w]
  rfl
 refine pure_ (i := 6) (N := some 11) (v := ?_) (a' := ?_) #[T, F, T, F, T, F, T, F, F, F, F, F, F, F, F, F, F, F, F, F, F, F, F] rfl rfl (any_of HT_.out (by kernel_rfl)) (fun _ _ _ h => h) (Or.inl ⟨by rfl, ?_⟩) ?_ ?_
 rotate_left
 ·intro w'
  go_simp
  with_reducible rfl
 rotate_left
 ·simp only [Act.put, s1_, s2_, s3_, i64_w, i32_w]
  rfl
 refine pure_ (i := 8) (N := some 13) (v := ?_) (a' := ?_) #[T, F, T, F, T, F, T, F, T, F, F, F, F, F, F, F, F, F, F, F, F, F, F] rfl rfl (any_of HT_.out (by kernel_rfl)) (fun _ _ _ h => h) (Or.inl ⟨by rfl, ?_⟩) ?_ ?_
 rotate_left
 ·intro w'
  go_simp
  with_reducible rfl
 rotate_left
 ·simp only [Act.put, s1_, s2_, s3_, i64_w, i32_w]
  rfl
 refine pure_ (i := 11) (N := some 16) (v := ?_) (a' := ?_) #[T, F, T, F, T, F, T, F, T, F, F, T, F, F, F, F, F, F, F, F, F, F, F] rfl rfl (any_of HT_.out (by kernel_rfl)) (fun _ _ _ h => h) (Or.inl ⟨by rfl, ?_⟩) ?_ ?_
 rotate_left
 ·intro w'
  go_simp
  with_reducible rfl
 rotate_left
 ·simp only [Act.put, s1_, s2_, s3_, i64_w, i32_w]
  rfl
 refine pure_ (i := 15) (N := some 20) (v := ?_) (a' := ?_) #[T, F, T, F, T, F, T, F, T, F, F, T, F, F, F, T, F, F, F, F, F, F, F] rfl rfl (any_of HT_.out (by kernel_rfl)) (fun _ _ _ h => h) (Or.inl ⟨by rfl, ?_⟩) ?_ ?_
 rotate_left
 ·intro w'
  go_simp
  with_reducible rfl
 rotate_left
 ·simp only [Act.put, s1_, s2_, s3_, i64_w, i32_w]
  rfl
 refine pure_ (i := 17) (N := some 22) (v := ?_) (a' := ?_) #[T, F, T, F, T, F, T, F, T, F, F, T, F, F, F, T, F, T, F, F, F, F, F] rfl rfl (any_of HT_.out (by kernel_rfl)) (fun _ _ _ h => h) (Or.inl ⟨by rfl, ?_⟩) ?_ ?_
 rotate_left
 ·intro w'
  go_simp
  with_reducible rfl
 rotate_left
 ·simp only [Act.put, s1_, s2_, s3_, i64_w, i32_w]
  rfl
 refine take_ (i := 1) (N := some 6) (v := ?_) (a' := ?_) #[T, T, T, F, T, F, T, F, T, F, F, T, F, F, F, T, F, T, F, F, F, F, F] rfl rfl (take_ofW HT_.out HW_.out (by kernel_rfl)) (fun _ _ _ h => h) (Or.inl ⟨by rfl, ?_⟩) hHeld ?_ ?_
 rotate_left
 ·rintro w' ⟨s0, s1, s2, s3, s4, s5, s6, s7, s8⟩
  go_simp
  with_reducible rfl
 rotate_left
 ·simp only [Act.put, s1_, s2_, s3_, i64_w, i32_w]
  rfl
 refine take_ (i := 3) (N := some 8) (v := ?_) (a' := ?_) #[T, T, T, T, T, F, T, F, T, F, F, T, F, F, F, T, F, T, F, F, F, F, F] rfl rfl (take_ofW HT_.out HW_.out (by kernel_rfl)) (fun _ _ _ h => h) (Or.inl ⟨by rfl, ?_⟩) hHeld ?_ ?_
 rotate_left
 ·rintro w' ⟨s0, s1, s2, s3, s4, s5, s6, s7, s8⟩
  go_simp
  with_reducible rfl
 rotate_left
 ·simp only [Act.put, s1_, s2_, s3_, i64_w, i32_w]
  rfl
 refine take_ (i := 5) (N := some 10) (v := ?_) (a' := ?_) #[T, T, T, T, T, T, T, F, T, F, F, T, F, F, F, T, F, T, F, F, F, F, F] rfl rfl (take_ofW HT_.out HW_.out (by kernel_rfl)) (fun _ _ _ h => h) (Or.inl ⟨by rfl, ?_⟩) hHeld ?_ ?_
 rotate_left
 ·rintro w' ⟨s0, s1, s2, s3, s4, s5, s6, s7, s8⟩
  go_simp
  with_reducible rfl
 rotate_left
 ·simp only [Act.put, s1_, s2_, s3_, i64_w, i32_w]
  rfl
 refine take_ (i := 7) (N := some 12) (v := ?_) (a' := ?_) #[T, T, T, T, T, T, T, T, T, F, F, T, F, F, F, T, F, T, F, F, F, F, F] rfl rfl (take_ofW HT_.out HW_.out (by kernel_rfl)) (fun _ _ _ h => h) (Or.inl ⟨by rfl, ?_⟩) hHeld ?_ ?_
 rotate_left
 ·rintro w' ⟨s0, s1, s2, s3, s4, s5, s6, s7, s8⟩
  go_simp
  with_reducible rfl
 rotate_left
 ·simp only [Act.put, s1_, s2_, s3_, i64_w, i32_w]
  rfl
 refine take_ (i := 9) (N := some 14) (v := ?_) (a' := ?_) #[T, T, T, T, T, T, T, T, T, T, F, T, F, F, F, T, F, T, F, F, F, F, F] rfl rfl (take_ofW HT_.out HW_.out (by kernel_rfl)) (fun _ _ _ h => h) (Or.inl ⟨by rfl, ?_⟩) hHeld ?_ ?_
 rotate_left
 ·rintro w' ⟨s0, s1, s2, s3, s4, s5, s6, s7, s8⟩
  go_simp
  with_reducible rfl
 rotate_left
 ·simp only [Act.put, s1_, s2_, s3_, i64_w, i32_w]
  rfl
 refine take_ (i := 12) (N := some 17) (v := ?_) (a' := ?_) #[T, T, T, T, T, T, T, T, T, T, F, T, T, F, F, T, F, T, F, F, F, F, F] rfl rfl (take_ofW HT_.out HW_.out (by kernel_rfl)) (fun _ _ _ h => h) (Or.inl ⟨by rfl, ?_⟩) hHeld ?_ ?_
 rotate_left
 ·rintro w' ⟨s0, s1, s2, s3, s4, s5, s6, s7, s8⟩
  go_simp
  with_reducible rfl
 rotate_left
 ·simp only [Act.put, s1_, s2_, s3_, i64_w, i32_w]
  rfl
 refine pure_ (i := 13) (N := some 18) (v := ?_) (a' := ?_) #[T, T, T, T, T, T, T, T, T, T, F, T, T, T, F, T, F, T, F, F, F, F, F] rfl rfl (any_of HT_.out (by kernel_rfl)) (fun _ _ _ h => h) (Or.inl ⟨by rfl, ?_⟩) ?_ ?_
 rotate_left
 ·intro w'
  go_simp
  with_reducible rfl
 rotate_left
 ·simp only [Act.put, s1_, s2_, s3_, i64_w, i32_w]
  rfl
 refine take_ (i := 16) (N := some 21) (v := ?_) (a' := ?_) #[T, T, T, T, T, T, T, T, T, T, F, T, T, T, F, T, T, T, F, F, F, F, F] rfl rfl (take_ofW HT_.out HW_.out (by kernel_rfl)) (fun _ _ _ h => h) (Or.inl ⟨by rfl, ?_⟩) hHeld ?_ ?_
 rotate_left
 ·rintro w' ⟨s0, s1, s2, s3, s4, s5, s6, s7, s8⟩
  go_simp
  with_reducible rfl
 rotate_left
 ·simp only [Act.put, s1_, s2_, s3_, i64_w, i32_w]
  rfl
 refine take_ (i := 18) (N := some 23) (v := ?_) (a' := ?_) #[T, T, T, T, T, T, T, T, T, T, F, T, T, T, F, T, T, T, T, F, F, F, F] rfl rfl (take_ofW HT_.out HW_.out (by kernel_rfl)) (fun _ _ _ h => h) (Or.inl ⟨by rfl, ?_⟩) hHeld ?_ ?_
 rotate_left
 ·rintro w' ⟨s0, s1, s2, s3, s4, s5, s6, s7, s8⟩
  go_simp
  with_reducible rfl
 rotate_left
 ·simp only [Act.put, s1_, s2_, s3_, i64_w, i32_w]
  rfl
 refine join_ (σ := Value × Value × Nat) 1 #[T, T, T, T, T, T, T, T, T, T, T, T, T, T, T, T, T, T, T, T, T, T, F] (fun s_ => [(15, .int .i64 t206), (19, s_.1), (24, s_.2.1), (3, .pointer (some ⟨s_.2.2, 0, none⟩)), (25, .agg #[s_.1, s_.2.1])]) (fun s_ w' => (w'.cell? ⟨gb205, 0, none⟩ = some (.int .i64 a0_0) ∧ w'.cell? ⟨gb205, 1, none⟩ = some (.int .i64 a0_1) ∧ w'.cell? ⟨gb205, 2, none⟩ = some (.int .i64 a0_2) ∧ w'.cell? ⟨gb205, 3, none⟩ = some (.int .i64 a0_3) ∧ w'.cell? ⟨gb205, 4, none⟩ = some (.string a0_4) ∧ w'.cell? ⟨gb205, 5, none⟩ = some (.string a0_5) ∧ w'.cell? ⟨gb205, 6, none⟩ = some (.bool a0_6) ∧ w'.cell? ⟨gb205, 7, none⟩ = some (.slice A0_7 l0_7.length c0_7) ∧ w'.cell? ⟨gb205, 8, none⟩ = some (.slice A0_8 l0_8.length c0_8)) ∧ (Kd.R (Kd.int .i64) 3 w' w.heap.size (fun _ => True) s_.1 y207) ∧ (Kd.R Kd.string 9 w' w.heap.size (fun _ => True) s_.2.1 y210) ∧ (w'.heap[gb205]? = some (.cells #[.int .i64 a0_0, .int .i64 a0_1, .int .i64 a0_2, .int .i64 a0_3, .string a0_4, .string a0_5, .bool a0_6, .slice A0_7 l0_7.length c0_7, .slice A0_8 l0_8.length c0_8] 25 (0, 0))) ∧ (w'.heap[s_.2.2]? = some (.cells #[.slice none 0 0, .slice none 0 0] 48 (0, 0))) ∧ (w.heap.size ≤ s_.2.2) ∧ (w.heap.size ≤ s_.2.2) ∧ (gb205 ≠ s_.2.2) ∧ (s_.2.2 ≠ gb205) ∧ (Below w.heap.size w w')) ?_ ?_
 rotate_left
 ·intro hJ10_14_19_21
  refine join_ (σ := Value × Value) 2 #[T, T, T, T, T, T, T, T, T, T, T, T, T, T, T, T, T, T, T, T, T, F, F] (fun s_ => [(15, .int .i64 t206), (19, s_.1), (24, s_.2), (25, .agg #[s_.1, s_.2])]) (fun s_ w' => (w'.cell? ⟨gb205, 0, none⟩ = some (.int .i64 a0_0) ∧ w'.cell? ⟨gb205, 1, none⟩ = some (.int .i64 a0_1) ∧ w'.cell? ⟨gb205, 2, none⟩ = some (.int .i64 a0_2) ∧ w'.cell? ⟨gb205, 3, none⟩ = some (.int .i64 a0_3) ∧ w'.cell? ⟨gb205, 4, none⟩ = some (.string a0_4) ∧ w'.cell? ⟨gb205, 5, none⟩ = some (.string a0_5) ∧ w'.cell? ⟨gb205, 6, none⟩ = some (.bool a0_6) ∧ w'.cell? ⟨gb205, 7, none⟩ = some (.slice A0_7 l0_7.length c0_7) ∧ w'.cell? ⟨gb205, 8, none⟩ = some (.slice A0_8 l0_8.length c0_8)) ∧ (Kd.R (Kd.int .i64) 3 w' w.heap.size (fun _ => True) s_.1 y207) ∧ (Kd.R Kd.string 9 w' w.heap.size (fun _ => True) s_.2 y210) ∧ (w'.heap[gb205]? = some (.cells #[.int .i64 a0_0, .int .i64 a0_1, .int .i64 a0_2, .int .i64 a0_3, .string a0_4, .string a0_5, .bool a0_6, .slice A0_7 l0_7.length c0_7, .slice A0_8 l0_8.length c0_8] 25 (0, 0))) ∧ (Below w.heap.size w w')) ?_ ?_
  rotate_left
  ·intro hJ10_14_19
   refine join_ (σ := Value × Nat) 3 #[T, T, T, T, T, T, T, T, T, T, T, T, T, T, T, T, T, T, T, F, F, T, F] (fun s_ => [(15, .int .i64 t206), (19, s_.1), (3, .pointer (some ⟨s_.2, 0, none⟩))]) (fun s_ w' => (w'.cell? ⟨gb205, 0, none⟩ = some (.int .i64 a0_0) ∧ w'.cell? ⟨gb205, 1, none⟩ = some (.int .i64 a0_1) ∧ w'.cell? ⟨gb205, 2, none⟩ = some (.int .i64 a0_2) ∧ w'.cell? ⟨gb205, 3, none⟩ = some (.int .i64 a0_3) ∧ w'.cell? ⟨gb205, 4, none⟩ = some (.string a0_4) ∧ w'.cell? ⟨gb205, 5, none⟩ = some (.string a0_5) ∧ w'.cell? ⟨gb205, 6, none⟩ = some (.bool a0_6) ∧ w'.cell? ⟨gb205, 7, none⟩ = some (.slice A0_7 l0_7.length c0_7) ∧ w'.cell? ⟨gb205, 8, none⟩ = some (.slice A0_8 l0_8.length c0_8)) ∧ (Kd.R (Kd.int .i64) 3 w' w.heap.size (fun _ => True) s_.1 y207) ∧ (w'.heap[gb205]? = some (.cells #[.int .i64 a0_0, .int .i64 a0_1, .int .i64 a0_2, .int .i64 a0_3, .string a0_4, .string a0_5, .bool a0_6, .slice A0_7 l0_7.length c0_7, .slice A0_8 l0_8.length c0_8] 25 (0, 0))) ∧ (w'.heap[s_.2]? = some (.cells #[.slice none 0 0, .slice none 0 0] 48 (0, 0))) ∧ (w.heap.size ≤ s_.2) ∧ (w.heap.size ≤ s_.2) ∧ (gb205 ≠ s_.2) ∧ (s_.2 ≠ gb205) ∧ (Below w.heap.size w w')) ?_ ?_
   rotate_left
   ·intro hJ10_14_21
    refine join_ (σ := Value × Nat) 3 #[T, T, T, T, T, T, T, T, T, T, T, T, T, T, F, T, T, T, T, T, F, T, F] (fun s_ => [(15, .int .i64 t206), (24, s_.1), (3, .pointer (some ⟨s_.2, 0, none⟩))]) (fun s_ w' => (w'.cell? ⟨gb205, 0, none⟩ = some (.int .i64 a0_0) ∧ w'.cell? ⟨gb205, 1, none⟩ = some (.int .i64 a0_1) ∧ w'.cell? ⟨gb205, 2, none⟩ = some (.int .i64 a0_2) ∧ w'.cell? ⟨gb205, 3, none⟩ = some (.int .i64 a0_3) ∧ w'.cell? ⟨gb205, 4, none⟩ = some (.string a0_4) ∧ w'.cell? ⟨gb205, 5, none⟩ = some (.string a0_5) ∧ w'.cell? ⟨gb205, 6, none⟩ = some (.bool a0_6) ∧ w'.cell? ⟨gb205, 7, none⟩ = some (.slice A0_7 l0_7.length c0_7) ∧ w'.cell? ⟨gb205, 8, none⟩ = some (.slice A0_8 l0_8.length c0_8)) ∧ (Kd.R Kd.string 9 w' w.heap.size (fun _ => True) s_.1 y210) ∧ (w'.heap[gb205]? = some (.cells #[.int .i64 a0_0, .int .i64 a0_1, .int .i64 a0_2, .int .i64 a0_3, .string a0_4, .string a0_5, .bool a0_6, .slice A0_7 l0_7.length c0_7, .slice A0_8 l0_8.length c0_8] 25 (0, 0))) ∧ (w'.heap[s_.2]? = some (.cells #[.slice none 0 0, .slice none 0 0] 48 (0, 0))) ∧ (w.heap.size ≤ s_.2) ∧ (w.heap.size ≤ s_.2) ∧ (gb205 ≠ s_.2) ∧ (s_.2 ≠ gb205) ∧ (Below w.heap.size w w')) ?_ ?_
    rotate_left
    ·intro hJ10_19_21
     refine join_ (σ := Value) 4 #[T, T, T, T, T, T, T, T, T, T, T, T, T, T, T, T, T, T, T, F, F, F, F] (fun s_ => [(15, .int .i64 t206), (19, s_)]) (fun s_ w' => (w'.cell? ⟨gb205, 0, none⟩ = some (.int .i64 a0_0) ∧ w'.cell? ⟨gb205, 1, none⟩ = some (.int .i64 a0_1) ∧ w'.cell? ⟨gb205, 2, none⟩ = some (.int .i64 a0_2) ∧ w'.cell? ⟨gb205, 3, none⟩ = some (.int .i64 a0_3) ∧ w'.cell? ⟨gb205, 4, none⟩ = some (.string a0_4) ∧ w'.cell? ⟨gb205, 5, none⟩ = some (.string a0_5) ∧ w'.cell? ⟨gb205, 6, none⟩ = some (.bool a0_6) ∧ w'.cell? ⟨gb205, 7, none⟩ = some (.slice A0_7 l0_7.length c0_7) ∧ w'.cell? ⟨gb205, 8, none⟩ = some (.slice A0_8 l0_8.length c0_8)) ∧ (Kd.R (Kd.int .i64) 3 w' w.heap.size (fun _ => True) s_ y207) ∧ (w'.heap[gb205]? = some (.cells #[.int .i64 a0_0, .int .i64 a0_1, .int .i64 a0_2, .int .i64 a0_3, .string a0_4, .string a0_5, .bool a0_6, .slice A0_7 l0_7.length c0_7, .slice A0_8 l0_8.length c0_8] 25 (0, 0))) ∧ (Below w.heap.size w w')) ?_ ?_
     rotate_left
     ·intro hJ10_14
      refine join_ (σ := Value) 4 #[T, T, T, T, T, T, T, T, T, T, T, T, T, T, F, T, T, T, T, T, F, F, F] (fun s_ => [(15, .int .i64 t206), (24, s_)]) (fun s_ w' => (w'.cell? ⟨gb205, 0, none⟩ = some (.int .i64 a0_0) ∧ w'.cell? ⟨gb205, 1, none⟩ = some (.int .i64 a0_1) ∧ w'.cell? ⟨gb205, 2, none⟩ = some (.int .i64 a0_2) ∧ w'.cell? ⟨gb205, 3, none⟩ = some (.int .i64 a0_3) ∧ w'.cell? ⟨gb205, 4, none⟩ = some (.string a0_4) ∧ w'.cell? ⟨gb205, 5, none⟩ = some (.string a0_5) ∧ w'.cell? ⟨gb205, 6, none⟩ = some (.bool a0_6) ∧ w'.cell? ⟨gb205, 7, none⟩ = some (.slice A0_7 l0_7.length c0_7) ∧ w'.cell? ⟨gb205, 8, none⟩ = some (.slice A0_8 l0_8.length c0_8)) ∧ (Kd.R Kd.string 9 w' w.heap.size (fun _ => True) s_ y210) ∧ (w'.heap[gb205]? = some (.cells #[.int .i64 a0_0, .int .i64 a0_1, .int .i64 a0_2, .int .i64 a0_3, .string a0_4, .string a0_5, .bool a0_6, .slice A0_7 l0_7.length c0_7, .slice A0_8 l0_8.length c0_8] 25 (0, 0))) ∧ (Below w.heap.size w w')) ?_ ?_
      rotate_left
      ·intro hJ10_19
       refine join_ (σ := Nat) 4 #[T, T, T, T, T, T, T, T, T, T, T, T, T, T, F, T, T, T, T, F, F, T, F] (fun s_ => [(15, .int .i64 t206), (3, .pointer (some ⟨s_, 0, none⟩))]) (fun s_ w' => (w'.cell? ⟨gb205, 0, none⟩ = some (.int .i64 a0_0) ∧ w'.cell? ⟨gb205, 1, none⟩ = some (.int .i64 a0_1) ∧ w'.cell? ⟨gb205, 2, none⟩ = some (.int .i64 a0_2) ∧ w'.cell? ⟨gb205, 3, none⟩ = some (.int .i64 a0_3) ∧ w'.cell? ⟨gb205, 4, none⟩ = some (.string a0_4) ∧ w'.cell? ⟨gb205, 5, none⟩ = some (.string a0_5) ∧ w'.cell? ⟨gb205, 6, none⟩ = some (.bool a0_6) ∧ w'.cell? ⟨gb205, 7, none⟩ = some (.slice A0_7 l0_7.length c0_7) ∧ w'.cell? ⟨gb205, 8, none⟩ = some (.slice A0_8 l0_8.length c0_8)) ∧ (w'.heap[gb205]? = some (.cells #[.int .i64 a0_0, .int .i64 a0_1, .int .i64 a0_2, .int .i64 a0_3, .string a0_4, .string a0_5, .bool a0_6, .slice A0_7 l0_7.length c0_7, .slice A0_8 l0_8.length c0_8] 25 (0, 0))) ∧ (w'.heap[s_]? = some (.cells #[.slice none 0 0, .slice none 0 0] 48 (0, 0))) ∧ (w.heap.size ≤ s_) ∧ (w.heap.size ≤ s_) ∧ (gb205 ≠ s_) ∧ (s_ ≠ gb205) ∧ (Below w.heap.size w w')) ?_ ?_
       rotate_left
       ·intro hJ10_21
        refine join_ (σ := Value × Nat) 4 #[T, T, T, T, T, T, T, T, T, T, F, T, T, T, F, T, T, T, T, T, F, T, F] (fun s_ => [(24, s_.1), (3, .pointer (some ⟨s_.2, 0, none⟩))]) (fun s_ w' => (w'.cell? ⟨gb205, 0, none⟩ = some (.int .i64 a0_0) ∧ w'.cell? ⟨gb205, 1, none⟩ = some (.int .i64 a0_1) ∧ w'.cell? ⟨gb205, 2, none⟩ = some (.int .i64 a0_2) ∧ w'.cell? ⟨gb205, 3, none⟩ = some (.int .i64 a0_3) ∧ w'.cell? ⟨gb205, 4, none⟩ = some (.string a0_4) ∧ w'.cell? ⟨gb205, 5, none⟩ = some (.string a0_5) ∧ w'.cell? ⟨gb205, 6, none⟩ = some (.bool a0_6) ∧ w'.cell? ⟨gb205, 7, none⟩ = some (.slice A0_7 l0_7.length c0_7) ∧ w'.cell? ⟨gb205, 8, none⟩ = some (.slice A0_8 l0_8.length c0_8)) ∧ (Kd.R Kd.string 9 w' w.heap.size (fun _ => True) s_.1 y210) ∧ (w'.heap[gb205]? = some (.cells #[.int .i64 a0_0, .int .i64 a0_1, .int .i64 a0_2, .int .i64 a0_3, .string a0_4, .string a0_5, .bool a0_6, .slice A0_7 l0_7.length c0_7, .slice A0_8 l0_8.length c0_8] 25 (0, 0))) ∧ (w'.heap[s_.2]? = some (.cells #[.slice none 0 0, .slice none 0 0] 48 (0, 0))) ∧ (w.heap.size ≤ s_.2) ∧ (w.heap.size ≤ s_.2) ∧ (gb205 ≠ s_.2) ∧ (s_.2 ≠ gb205) ∧ (Below w.heap.size w w')) ?_ ?_
        rotate_left
        ·intro hJ19_21
         refine join_ (σ := Unit) 5 #[T, T, T, T, T, T, T, T, T, T, T, T, T, T, F, T, T, T, T, F, F, F, F] (fun s_ => [(15, .int .i64 t206)]) (fun s_ w' => (w'.cell? ⟨gb205, 0, none⟩ = some (.int .i64 a0_0) ∧ w'.cell? ⟨gb205, 1, none⟩ = some (.int .i64 a0_1) ∧ w'.cell? ⟨gb205, 2, none⟩ = some (.int .i64 a0_2) ∧ w'.cell? ⟨gb205, 3, none⟩ = some (.int .i64 a0_3) ∧ w'.cell? ⟨gb205, 4, none⟩ = some (.string a0_4) ∧ w'.cell? ⟨gb205, 5, none⟩ = some (.string a0_5) ∧ w'.cell? ⟨gb205, 6, none⟩ = some (.bool a0_6) ∧ w'.cell? ⟨gb205, 7, none⟩ = some (.slice A0_7 l0_7.length c0_7) ∧ w'.cell? ⟨gb205, 8, none⟩ = some (.slice A0_8 l0_8.length c0_8)) ∧ (w'.heap[gb205]? = some (.cells #[.int .i64 a0_0, .int .i64 a0_1, .int .i64 a0_2, .int .i64 a0_3, .string a0_4, .string a0_5, .bool a0_6, .slice A0_7 l0_7.length c0_7, .slice A0_8 l0_8.length c0_8] 25 (0, 0))) ∧ (Below w.heap.size w w')) ?_ ?_
         rotate_left
         ·intro hJ10
          refine join_ (σ := Value) 5 #[T, T, T, T, T, T, T, T, T, T, F, T, T, T, F, T, T, T, T, T, F, F, F] (fun s_ => [(24, s_)]) (fun s_ w' => (w'.cell? ⟨gb205, 0, none⟩ = some (.int .i64 a0_0) ∧ w'.cell? ⟨gb205, 1, none⟩ = some (.int .i64 a0_1) ∧ w'.cell? ⟨gb205, 2, none⟩ = some (.int .i64 a0_2) ∧ w'.cell? ⟨gb205, 3, none⟩ = some (.int .i64 a0_3) ∧ w'.cell? ⟨gb205, 4, none⟩ = some (.string a0_4) ∧ w'.cell? ⟨gb205, 5, none⟩ = some (.string a0_5) ∧ w'.cell? ⟨gb205, 6, none⟩ = some (.bool a0_6) ∧ w'.cell? ⟨gb205, 7, none⟩ = some (.slice A0_7 l0_7.length c0_7) ∧ w'.cell? ⟨gb205, 8, none⟩ = some (.slice A0_8 l0_8.length c0_8)) ∧ (Kd.R Kd.string 9 w' w.heap.size (fun _ => True) s_ y210) ∧ (w'.heap[gb205]? = some (.cells #[.int .i64 a0_0, .int .i64 a0_1, .int .i64 a0_2, .int .i64 a0_3, .string a0_4, .string a0_5, .bool a0_6, .slice A0_7 l0_7.length c0_7, .slice A0_8 l0_8.length c0_8] 25 (0, 0))) ∧ (Below w.heap.size w w')) ?_ ?_
          rotate_left
          ·intro hJ19
           refine join_ (σ := Nat) 5 #[T, T, T, T, T, T, T, T, T, T, F, T, T, T, F, T, T, T, T, F, F, T, F] (fun s_ => [(3, .pointer (some ⟨s_, 0, none⟩))]) (fun s_ w' => (w'.cell? ⟨gb205, 0, none⟩ = some (.int .i64 a0_0) ∧ w'.cell? ⟨gb205, 1, none⟩ = some (.int .i64 a0_1) ∧ w'.cell? ⟨gb205, 2, none⟩ = some (.int .i64 a0_2) ∧ w'.cell? ⟨gb205, 3, none⟩ = some (.int .i64 a0_3) ∧ w'.cell? ⟨gb205, 4, none⟩ = some (.string a0_4) ∧ w'.cell? ⟨gb205, 5, none⟩ = some (.string a0_5) ∧ w'.cell? ⟨gb205, 6, none⟩ = some (.bool a0_6) ∧ w'.cell? ⟨gb205, 7, none⟩ = some (.slice A0_7 l0_7.length c0_7) ∧ w'.cell? ⟨gb205, 8, none⟩ = some (.slice A0_8 l0_8.length c0_8)) ∧ (w'.heap[gb205]? = some (.cells #[.int .i64 a0_0, .int .i64 a0_1, .int .i64 a0_2, .int .i64 a0_3, .string a0_4, .string a0_5, .bool a0_6, .slice A0_7 l0_7.length c0_7, .slice A0_8 l0_8.length c0_8] 25 (0, 0))) ∧ (w'.heap[s_]? = some (.cells #[.slice none 0 0, .slice none 0 0] 48 (0, 0))) ∧ (w.heap.size ≤ s_) ∧ (w.heap.size ≤ s_) ∧ (gb205 ≠ s_) ∧ (s_ ≠ gb205) ∧ (Below w.heap.size w w')) ?_ ?_
           rotate_left
           ·intro hJ21
            refine three_ (i := 10) (j := 19) (k := 21) (Ni := some 15) (Nj := some 24) (Nk := some 3) #[T, T, T, T, T, T, T, T, T, T, T, T, T, T, F, T, T, T, T, F, F, F, F] #[T, T, T, T, T, T, T, T, T, T, F, T, T, T, F, T, T, T, T, T, F, F, F] #[T, T, T, T, T, T, T, T, T, T, F, T, T, T, F, T, T, T, T, F, F, T, F] rfl rfl rfl rfl rfl rfl (three_of HT_.out (by kernel_rfl)) (by decide) (by decide) (by decide) (fun K hK => ?_) (fun K hK => ?_) (fun K hK => ?_)
            ·skip
             refine goes_ Try.func43 (by kernel_rfl) rfl #[.bool a0_6] (by rfl) rfl rfl gl_ ?_
             with_reducible refine (corncribref07_One.calls a0_6 t206 _ A2.out).mono ?_
             rintro e w' ⟨rfl, ⟨nd, rfl⟩⟩
             refine ⟨_, rfl, ?_⟩
             refine hK.out _ _ ⟨(blk_cell BK205.out 0).trans rfl, (blk_cell BK205.out 1).trans rfl, (blk_cell BK205.out 2).trans rfl, (blk_cell BK205.out 3).trans rfl, (blk_cell BK205.out 4).trans rfl, (blk_cell BK205.out 5).trans rfl, (blk_cell BK205.out 6).trans rfl, (blk_cell BK205.out 7).trans rfl, (blk_cell BK205.out 8).trans rfl⟩ (fun hHeld => ?_)
             clear hK K
             refine norm_ (a' := ?_) ?_ ?_
             rotate_left
             ·show Act.put _ (some 15) _ = _
              simp only [Act.put, s1_, s2_, s3_, i64_w, i32_w]
              rfl
             exact norm_ (by simp only [putAll, Act.put, s1_, s2_, s3_] <;> rfl) (hJ10 () _ ⟨hHeld, (peel_ BK205.out), (bel_ HB.out)⟩)
            ·skip
             refine Kd.R_lit_step Kd.string _ 9 ?hg (N := 24) ?hd (xs := ([a0_4, a0_5] : List ByteArray)) (inner := [.string a0_4, .string a0_5]) (ok := fun _ => True) (okp := fun _ => True) ?hr ?hp (fun _ hk => hk) trivial (Below.refl _ _) (Nat.le_refl _) (by simp) ?_; (case hd => rfl); (case hg => rfl); (case hr => first | (go_simp; done) | (go_simp; rfl)); (case hp => exact (Reps.one (show Kd.M Kd.string _ _ _ a0_4 [.string a0_4] from rfl) (Reps.one (show Kd.M Kd.string _ _ _ a0_5 [.string a0_5] from rfl) (Reps.none _ _))))
             intro v211 w6 ho7 hb hg_ hnew_
             clear hg_ hnew_
             (first | rw [← Ny210.out] at ho7 | (simp only [Int.reduceToNat] at ho7; rw [← Ny210.out] at ho7))
             have n0_ := Aside0.mk (Kd.R_lower ho7 (below_size (bel_ HB.out)))
             have n1_ := Aside0.mk (bb_ BK205.out hb)
             have n2_ := Aside0.mk (below_step (bel_ HB.out) hb)
             clear BK205
             clear HB
             have HO212 := n0_
             have BK205 := n1_
             have HB := n2_
             clear n0_ n1_ n2_
             clear hb ho7
             refine hK.out _ _ ⟨(blk_cell BK205.out 0).trans rfl, (blk_cell BK205.out 1).trans rfl, (blk_cell BK205.out 2).trans rfl, (blk_cell BK205.out 3).trans rfl, (blk_cell BK205.out 4).trans rfl, (blk_cell BK205.out 5).trans rfl, (blk_cell BK205.out 6).trans rfl, (blk_cell BK205.out 7).trans rfl, (blk_cell BK205.out 8).trans rfl⟩ (fun hHeld => ?_)
             clear hK K
             refine norm_ (a' := ?_) ?_ ?_
             rotate_left
             ·show Act.put _ (some 24) _ = _
              simp only [Act.put, s1_, s2_, s3_, i64_w, i32_w]
              rfl
             exact norm_ (by simp only [putAll, Act.put, s1_, s2_, s3_] <;> rfl) (hJ19 (v211) _ ⟨hHeld, (by (with_reducible repeat (first | apply Kd.R_alloc | apply Kd.R_drewN | apply Kd.R_drew)); exact HO212.out), (peel_ BK205.out), (bel_ HB.out)⟩)
            ·skip
             refine box_step ?hg (N := 3) ?hd (cs := #[.slice none 0 0, .slice none 0 0]) (t := 48) ?hr ?_; (case hd => rfl); (case hg => rfl); (case hr => first | (go_simp; done) | (go_simp; rfl))
             intro gb213 hg w6 hbox hb
             have n0_ := Aside0.mk (bb_ BK205.out hb)
             have n1_ := Aside0.mk (below_step (bel_ HB.out) hb)
             have n2_ := Aside0.mk (hbox)
             have n3_ := Aside0.mk (bz_ hg (bel_ HB.out))
             have n4_ := Aside0.mk (bz_ hg (bel_ HB.out))
             have n5_ := Aside0.mk (nl_ hg BK205.out)
             have n6_ := Aside0.mk (ng_ hg BK205.out)
             clear BK205
             clear HB
             have BK205 := n0_
             have HB := n1_
             have BK213 := n2_
             have GW213 := n3_
             have GE213 := n4_
             have NB205_213 := n5_
             have NB213_205 := n6_
             clear n0_ n1_ n2_ n3_ n4_ n5_ n6_
             clear hb hbox hg
             refine hK.out _ _ ⟨(blk_cell BK205.out 0).trans rfl, (blk_cell BK205.out 1).trans rfl, (blk_cell BK205.out 2).trans rfl, (blk_cell BK205.out 3).trans rfl, (blk_cell BK205.out 4).trans rfl, (blk_cell BK205.out 5).trans rfl, (blk_cell BK205.out 6).trans rfl, (blk_cell BK205.out 7).trans rfl, (blk_cell BK205.out 8).trans rfl⟩ (fun hHeld => ?_)
             clear hK K
             refine norm_ (a' := ?_) ?_ ?_
             rotate_left
             ·show Act.put _ (some 3) _ = _
              simp only [Act.put, s1_, s2_, s3_, i64_w, i32_w]
              rfl
             exact norm_ (by simp only [putAll, Act.put, s1_, s2_, s3_] <;> rfl) (hJ21 (gb213) _ ⟨hHeld, (peel_ BK205.out), (peel_ BK213.out), GW213.out, GE213.out, NB205_213.out, NB213_205.out, (bel_ HB.out)⟩)
           ·skip
            rintro gb213 w7 ⟨hS_, h0_, h1_, h2_, h3_, h4_, h5_, h6_⟩
            have n0_ : Aside0 (w7.heap[gb205]? = some (.cells #[.int .i64 a0_0, .int .i64 a0_1, .int .i64 a0_2, .int .i64 a0_3, .string a0_4, .string a0_5, .bool a0_6, .slice A0_7 l0_7.length c0_7, .slice A0_8 l0_8.length c0_8] 25 (0, 0))) := ⟨h0_⟩
            have n1_ : Aside0 (w7.heap[gb213]? = some (.cells #[.slice none 0 0, .slice none 0 0] 48 (0, 0))) := ⟨h1_⟩
            have n2_ : Aside0 (w.heap.size ≤ gb213) := ⟨h2_⟩
            have n3_ : Aside0 (w.heap.size ≤ gb213) := ⟨h3_⟩
            have n4_ : Aside0 (gb205 ≠ gb213) := ⟨h4_⟩
            have n5_ : Aside0 (gb213 ≠ gb205) := ⟨h5_⟩
            have n6_ : Aside0 (Below w.heap.size w w7) := ⟨h6_⟩
            clear BK205
            clear HB
            clear h0_ h1_ h2_ h3_ h4_ h5_ h6_
            have BK205 := n0_
            have BK213 := n1_
            have GW213 := n2_
            have GE213 := n3_
            have NB205_213 := n4_
            have NB213_205 := n5_
            have HB := n6_
            clear n0_ n1_ n2_ n3_ n4_ n5_ n6_
            have hHeld : w7.cell? ⟨gb205, 0, none⟩ = some (.int .i64 a0_0) ∧ w7.cell? ⟨gb205, 1, none⟩ = some (.int .i64 a0_1) ∧ w7.cell? ⟨gb205, 2, none⟩ = some (.int .i64 a0_2) ∧ w7.cell? ⟨gb205, 3, none⟩ = some (.int .i64 a0_3) ∧ w7.cell? ⟨gb205, 4, none⟩ = some (.string a0_4) ∧ w7.cell? ⟨gb205, 5, none⟩ = some (.string a0_5) ∧ w7.cell? ⟨gb205, 6, none⟩ = some (.bool a0_6) ∧ w7.cell? ⟨gb205, 7, none⟩ = some (.slice A0_7 l0_7.length c0_7) ∧ w7.cell? ⟨gb205, 8, none⟩ = some (.slice A0_8 l0_8.length c0_8) := hS_
            refine norm_ (a' := ?_) ?_ ?_
            rotate_left
            ·simp only [putAll, Act.put, s1_, s2_, s3_]
             rfl
            refine two_ (i := 10) (j := 19) (Ni := some 15) (Nj := some 24) #[T, T, T, T, T, T, T, T, T, T, T, T, T, T, F, T, T, T, T, F, F, T, F] #[T, T, T, T, T, T, T, T, T, T, F, T, T, T, F, T, T, T, T, T, F, T, F] rfl rfl rfl rfl (two_of HT_.out (by kernel_rfl)) (by decide) (by decide) (fun K hK => ?_) (fun K hK => ?_)
            ·skip
             refine goes_ Try.func43 (by kernel_rfl) rfl #[.bool a0_6] (by rfl) rfl rfl gl_ ?_
             with_reducible refine (corncribref07_One.calls a0_6 t206 _ A2.out).mono ?_
             rintro e w' ⟨rfl, ⟨nd, rfl⟩⟩
             refine ⟨_, rfl, ?_⟩
             refine hK.out _ _ ⟨(blk_cell BK205.out 0).trans rfl, (blk_cell BK205.out 1).trans rfl, (blk_cell BK205.out 2).trans rfl, (blk_cell BK205.out 3).trans rfl, (blk_cell BK205.out 4).trans rfl, (blk_cell BK205.out 5).trans rfl, (blk_cell BK205.out 6).trans rfl, (blk_cell BK205.out 7).trans rfl, (blk_cell BK205.out 8).trans rfl⟩ (fun hHeld => ?_)
             clear hK K
             refine norm_ (a' := ?_) ?_ ?_
             rotate_left
             ·show Act.put _ (some 15) _ = _
              simp only [Act.put, s1_, s2_, s3_, i64_w, i32_w]
              rfl
             exact norm_ (by simp only [putAll, Act.put, s1_, s2_, s3_] <;> rfl) (hJ10_21 (gb213) _ ⟨hHeld, (peel_ BK205.out), (peel_ BK213.out), GW213.out, GE213.out, NB205_213.out, NB213_205.out, (bel_ HB.out)⟩)
            ·skip
             refine Kd.R_lit_step Kd.string _ 9 ?hg (N := 24) ?hd (xs := ([a0_4, a0_5] : List ByteArray)) (inner := [.string a0_4, .string a0_5]) (ok := fun _ => True) (okp := fun _ => True) ?hr ?hp (fun _ hk => hk) trivial (Below.refl _ _) (Nat.le_refl _) (by simp) ?_; (case hd => rfl); (case hg => rfl); (case hr => first | (go_simp; done) | (go_simp; rfl)); (case hp => exact (Reps.one (show Kd.M Kd.string _ _ _ a0_4 [.string a0_4] from rfl) (Reps.one (show Kd.M Kd.string _ _ _ a0_5 [.string a0_5] from rfl) (Reps.none _ _))))
             intro v211 w8 ho9 hb hg_ hnew_
             clear hg_ hnew_
             (first | rw [← Ny210.out] at ho9 | (simp only [Int.reduceToNat] at ho9; rw [← Ny210.out] at ho9))
             have n0_ := Aside0.mk (Kd.R_lower ho9 (below_size (bel_ HB.out)))
             have n1_ := Aside0.mk (bb_ BK205.out hb)
             have n2_ := Aside0.mk (bb_ BK213.out hb)
             have n3_ := Aside0.mk (below_step (bel_ HB.out) hb)
             clear BK205
             clear BK213
             clear HB
             have HO212 := n0_
             have BK205 := n1_
             have BK213 := n2_
             have HB := n3_
             clear n0_ n1_ n2_ n3_
             clear hb ho9
             refine hK.out _ _ ⟨(blk_cell BK205.out 0).trans rfl, (blk_cell BK205.out 1).trans rfl, (blk_cell BK205.out 2).trans rfl, (blk_cell BK205.out 3).trans rfl, (blk_cell BK205.out 4).trans rfl, (blk_cell BK205.out 5).trans rfl, (blk_cell BK205.out 6).trans rfl, (blk_cell BK205.out 7).trans rfl, (blk_cell BK205.out 8).trans rfl⟩ (fun hHeld => ?_)
             clear hK K
             refine norm_ (a' := ?_) ?_ ?_
             rotate_left
             ·show Act.put _ (some 24) _ = _
              simp only [Act.put, s1_, s2_, s3_, i64_w, i32_w]
              rfl
             exact norm_ (by simp only [putAll, Act.put, s1_, s2_, s3_] <;> rfl) (hJ19_21 (v211, gb213) _ ⟨hHeld, (by (with_reducible repeat (first | apply Kd.R_alloc | apply Kd.R_drewN | apply Kd.R_drew)); exact HO212.out), (peel_ BK205.out), (peel_ BK213.out), GW213.out, GE213.out, NB205_213.out, NB213_205.out, (bel_ HB.out)⟩)
          ·skip
           rintro v211 w8 ⟨hS_, h0_, h1_, h2_⟩
           have n0_ : Aside0 (Kd.R Kd.string 9 w8 w.heap.size (fun _ => True) v211 y210) := ⟨h0_⟩
           have n1_ : Aside0 (w8.heap[gb205]? = some (.cells #[.int .i64 a0_0, .int .i64 a0_1, .int .i64 a0_2, .int .i64 a0_3, .string a0_4, .string a0_5, .bool a0_6, .slice A0_7 l0_7.length c0_7, .slice A0_8 l0_8.length c0_8] 25 (0, 0))) := ⟨h1_⟩
           have n2_ : Aside0 (Below w.heap.size w w8) := ⟨h2_⟩
           clear BK205
           clear HB
           clear h0_ h1_ h2_
           have HO212 := n0_
           have BK205 := n1_
           have HB := n2_
           clear n0_ n1_ n2_
           have hHeld : w8.cell? ⟨gb205, 0, none⟩ = some (.int .i64 a0_0) ∧ w8.cell? ⟨gb205, 1, none⟩ = some (.int .i64 a0_1) ∧ w8.cell? ⟨gb205, 2, none⟩ = some (.int .i64 a0_2) ∧ w8.cell? ⟨gb205, 3, none⟩ = some (.int .i64 a0_3) ∧ w8.cell? ⟨gb205, 4, none⟩ = some (.string a0_4) ∧ w8.cell? ⟨gb205, 5, none⟩ = some (.string a0_5) ∧ w8.cell? ⟨gb205, 6, none⟩ = some (.bool a0_6) ∧ w8.cell? ⟨gb205, 7, none⟩ = some (.slice A0_7 l0_7.length c0_7) ∧ w8.cell? ⟨gb205, 8, none⟩ = some (.slice A0_8 l0_8.length c0_8) := hS_
           refine norm_ (a' := ?_) ?_ ?_
           rotate_left
           ·simp only [putAll, Act.put, s1_, s2_, s3_]
            rfl
           refine two_ (i := 10) (j := 21) (Ni := some 15) (Nj := some 3) #[T, T, T, T, T, T, T, T, T, T, T, T, T, T, F, T, T, T, T, T, F, F, F] #[T, T, T, T, T, T, T, T, T, T, F, T, T, T, F, T, T, T, T, T, F, T, F] rfl rfl rfl rfl (two_of HT_.out (by kernel_rfl)) (by decide) (by decide) (fun K hK => ?_) (fun K hK => ?_)
           ·skip
            refine goes_ Try.func43 (by kernel_rfl) rfl #[.bool a0_6] (by rfl) rfl rfl gl_ ?_
            with_reducible refine (corncribref07_One.calls a0_6 t206 _ A2.out).mono ?_
            rintro e w' ⟨rfl, ⟨nd, rfl⟩⟩
            refine ⟨_, rfl, ?_⟩
            refine hK.out _ _ ⟨(blk_cell BK205.out 0).trans rfl, (blk_cell BK205.out 1).trans rfl, (blk_cell BK205.out 2).trans rfl, (blk_cell BK205.out 3).trans rfl, (blk_cell BK205.out 4).trans rfl, (blk_cell BK205.out 5).trans rfl, (blk_cell BK205.out 6).trans rfl, (blk_cell BK205.out 7).trans rfl, (blk_cell BK205.out 8).trans rfl⟩ (fun hHeld => ?_)
            clear hK K
            refine norm_ (a' := ?_) ?_ ?_
            rotate_left
            ·show Act.put _ (some 15) _ = _
             simp only [Act.put, s1_, s2_, s3_, i64_w, i32_w]
             rfl
            exact norm_ (by simp only [putAll, Act.put, s1_, s2_, s3_] <;> rfl) (hJ10_19 (v211) _ ⟨hHeld, (by (with_reducible repeat (first | apply Kd.R_alloc | apply Kd.R_drewN | apply Kd.R_drew)); exact HO212.out), (peel_ BK205.out), (bel_ HB.out)⟩)
           ·skip
            refine box_step ?hg (N := 3) ?hd (cs := #[.slice none 0 0, .slice none 0 0]) (t := 48) ?hr ?_; (case hd => rfl); (case hg => rfl); (case hr => first | (go_simp; done) | (go_simp; rfl))
            intro gb213 hg w9 hbox hb
            have n0_ := Aside0.mk (Kd.R_below (by (with_reducible repeat (first | apply Kd.R_alloc | apply Kd.R_drewN | apply Kd.R_drew)); exact HO212.out) hb)
            have n1_ := Aside0.mk (bb_ BK205.out hb)
            have n2_ := Aside0.mk (below_step (bel_ HB.out) hb)
            have n3_ := Aside0.mk (hbox)
            have n4_ := Aside0.mk (bz_ hg (bel_ HB.out))
            have n5_ := Aside0.mk (bz_ hg (bel_ HB.out))
            have n6_ := Aside0.mk (nl_ hg BK205.out)
            have n7_ := Aside0.mk (ng_ hg BK205.out)
            clear HO212
            clear BK205
            clear HB
            have HO212 := n0_
            have BK205 := n1_
            have HB := n2_
            have BK213 := n3_
            have GW213 := n4_
            have GE213 := n5_
            have NB205_213 := n6_
            have NB213_205 := n7_
            clear n0_ n1_ n2_ n3_ n4_ n5_ n6_ n7_
            clear hb hbox hg
            refine hK.out _ _ ⟨(blk_cell BK205.out 0).trans rfl, (blk_cell BK205.out 1).trans rfl, (blk_cell BK205.out 2).trans rfl, (blk_cell BK205.out 3).trans rfl, (blk_cell BK205.out 4).trans rfl, (blk_cell BK205.out 5).trans rfl, (blk_cell BK205.out 6).trans rfl, (blk_cell BK205.out 7).trans rfl, (blk_cell BK205.out 8).trans rfl⟩ (fun hHeld => ?_)
            clear hK K
            refine norm_ (a' := ?_) ?_ ?_
            rotate_left
            ·show Act.put _ (some 3) _ = _
             simp only [Act.put, s1_, s2_, s3_, i64_w, i32_w]
             rfl
            exact norm_ (by simp only [putAll, Act.put, s1_, s2_, s3_] <;> rfl) (hJ19_21 (v211, gb213) _ ⟨hHeld, (by (with_reducible repeat (first | apply Kd.R_alloc | apply Kd.R_drewN | apply Kd.R_drew)); exact HO212.out), (peel_ BK205.out), (peel_ BK213.out), GW213.out, GE213.out, NB205_213.out, NB213_205.out, (bel_ HB.out)⟩)
         ·skip
          rintro _ w6 ⟨hS_, h0_, h1_⟩
          have n0_ : Aside0 (w6.heap[gb205]? = some (.cells #[.int .i64 a0_0, .int .i64 a0_1, .int .i64 a0_2, .int .i64 a0_3, .string a0_4, .string a0_5, .bool a0_6, .slice A0_7 l0_7.length c0_7, .slice A0_8 l0_8.length c0_8] 25 (0, 0))) := ⟨h0_⟩
          have n1_ : Aside0 (Below w.heap.size w w6) := ⟨h1_⟩
          clear BK205
          clear HB
          clear h0_ h1_
          have BK205 := n0_
          have HB := n1_
          clear n0_ n1_
          have hHeld : w6.cell? ⟨gb205, 0, none⟩ = some (.int .i64 a0_0) ∧ w6.cell? ⟨gb205, 1, none⟩ = some (.int .i64 a0_1) ∧ w6.cell? ⟨gb205, 2, none⟩ = some (.int .i64 a0_2) ∧ w6.cell? ⟨gb205, 3, none⟩ = some (.int .i64 a0_3) ∧ w6.cell? ⟨gb205, 4, none⟩ = some (.string a0_4) ∧ w6.cell? ⟨gb205, 5, none⟩ = some (.string a0_5) ∧ w6.cell? ⟨gb205, 6, none⟩ = some (.bool a0_6) ∧ w6.cell? ⟨gb205, 7, none⟩ = some (.slice A0_7 l0_7.length c0_7) ∧ w6.cell? ⟨gb205, 8, none⟩ = some (.slice A0_8 l0_8.length c0_8) := hS_
          refine norm_ (a' := ?_) ?_ ?_
          rotate_left
          ·simp only [putAll, Act.put, s1_, s2_, s3_]
           rfl
          refine three_ (i := 14) (j := 19) (k := 21) (Ni := some 19) (Nj := some 24) (Nk := some 3) #[T, T, T, T, T, T, T, T, T, T, T, T, T, T, T, T, T, T, T, F, F, F, F] #[T, T, T, T, T, T, T, T, T, T, T, T, T, T, F, T, T, T, T, T, F, F, F] #[T, T, T, T, T, T, T, T, T, T, T, T, T, T, F, T, T, T, T, F, F, T, F] rfl rfl rfl rfl rfl rfl (three_of HT_.out (by kernel_rfl)) (by decide) (by decide) (by decide) (fun K hK => ?_) (fun K hK => ?_) (fun K hK => ?_)
          ·skip
           refine Kd.R_lit_step (Kd.int .i64) _ 3 ?hg (N := 19) ?hd (xs := ([a0_0, a0_1, a0_2, a0_3, t206, (l0_7.length : Int)] : List Int)) (inner := [.int .i64 a0_0, .int .i64 a0_1, .int .i64 a0_2, .int .i64 a0_3, .int .i64 t206, .int .i64 (l0_7.length : Int)]) (ok := fun _ => True) (okp := fun _ => True) ?hr ?hp (fun _ hk => hk) trivial (Below.refl _ _) (Nat.le_refl _) (by simp) ?_; (case hd => rfl); (case hg => rfl); (case hr => first | (go_simp; done) | (go_simp; rfl)); (case hp => exact (Reps.one (show Kd.M (Kd.int .i64) _ _ _ a0_0 [.int .i64 a0_0] from rfl) (Reps.one (show Kd.M (Kd.int .i64) _ _ _ a0_1 [.int .i64 a0_1] from rfl) (Reps.one (show Kd.M (Kd.int .i64) _ _ _ a0_2 [.int .i64 a0_2] from rfl) (Reps.one (show Kd.M (Kd.int .i64) _ _ _ a0_3 [.int .i64 a0_3] from rfl) (Reps.one (show Kd.M (Kd.int .i64) _ _ _ t206 [.int .i64 t206] from rfl) (Reps.one (show Kd.M (Kd.int .i64) _ _ _ (l0_7.length : Int) [.int .i64 (l0_7.length : Int)] from rfl) (Reps.none _ _))))))))
           intro v208 w7 ho8 hb hg_ hnew_
           clear hg_ hnew_
           (first | rw [← Ny207.out] at ho8 | (simp only [Int.reduceToNat] at ho8; rw [← Ny207.out] at ho8))
           have n0_ := Aside0.mk (Kd.R_lower ho8 (below_size (bel_ HB.out)))
           have n1_ := Aside0.mk (bb_ BK205.out hb)
           have n2_ := Aside0.mk (below_step (bel_ HB.out) hb)
           clear BK205
           clear HB
           have HO209 := n0_
           have BK205 := n1_
           have HB := n2_
           clear n0_ n1_ n2_
           clear hb ho8
           refine hK.out _ _ ⟨(blk_cell BK205.out 0).trans rfl, (blk_cell BK205.out 1).trans rfl, (blk_cell BK205.out 2).trans rfl, (blk_cell BK205.out 3).trans rfl, (blk_cell BK205.out 4).trans rfl, (blk_cell BK205.out 5).trans rfl, (blk_cell BK205.out 6).trans rfl, (blk_cell BK205.out 7).trans rfl, (blk_cell BK205.out 8).trans rfl⟩ (fun hHeld => ?_)
           clear hK K
           refine norm_ (a' := ?_) ?_ ?_
           rotate_left
           ·show Act.put _ (some 19) _ = _
            simp only [Act.put, s1_, s2_, s3_, i64_w, i32_w]
            rfl
           exact norm_ (by simp only [putAll, Act.put, s1_, s2_, s3_] <;> rfl) (hJ10_14 (v208) _ ⟨hHeld, (by (with_reducible repeat (first | apply Kd.R_alloc | apply Kd.R_drewN | apply Kd.R_drew)); exact HO209.out), (peel_ BK205.out), (bel_ HB.out)⟩)
          ·skip
           refine Kd.R_lit_step Kd.string _ 9 ?hg (N := 24) ?hd (xs := ([a0_4, a0_5] : List ByteArray)) (inner := [.string a0_4, .string a0_5]) (ok := fun _ => True) (okp := fun _ => True) ?hr ?hp (fun _ hk => hk) trivial (Below.refl _ _) (Nat.le_refl _) (by simp) ?_; (case hd => rfl); (case hg => rfl); (case hr => first | (go_simp; done) | (go_simp; rfl)); (case hp => exact (Reps.one (show Kd.M Kd.string _ _ _ a0_4 [.string a0_4] from rfl) (Reps.one (show Kd.M Kd.string _ _ _ a0_5 [.string a0_5] from rfl) (Reps.none _ _))))
           intro v211 w7 ho8 hb hg_ hnew_
           clear hg_ hnew_
           (first | rw [← Ny210.out] at ho8 | (simp only [Int.reduceToNat] at ho8; rw [← Ny210.out] at ho8))
           have n0_ := Aside0.mk (Kd.R_lower ho8 (below_size (bel_ HB.out)))
           have n1_ := Aside0.mk (bb_ BK205.out hb)
           have n2_ := Aside0.mk (below_step (bel_ HB.out) hb)
           clear BK205
           clear HB
           have HO212 := n0_
           have BK205 := n1_
           have HB := n2_
           clear n0_ n1_ n2_
           clear hb ho8
           refine hK.out _ _ ⟨(blk_cell BK205.out 0).trans rfl, (blk_cell BK205.out 1).trans rfl, (blk_cell BK205.out 2).trans rfl, (blk_cell BK205.out 3).trans rfl, (blk_cell BK205.out 4).trans rfl, (blk_cell BK205.out 5).trans rfl, (blk_cell BK205.out 6).trans rfl, (blk_cell BK205.out 7).trans rfl, (blk_cell BK205.out 8).trans rfl⟩ (fun hHeld => ?_)
           clear hK K
           refine norm_ (a' := ?_) ?_ ?_
           rotate_left
           ·show Act.put _ (some 24) _ = _
            simp only [Act.put, s1_, s2_, s3_, i64_w, i32_w]
            rfl
           exact norm_ (by simp only [putAll, Act.put, s1_, s2_, s3_] <;> rfl) (hJ10_19 (v211) _ ⟨hHeld, (by (with_reducible repeat (first | apply Kd.R_alloc | apply Kd.R_drewN | apply Kd.R_drew)); exact HO212.out), (peel_ BK205.out), (bel_ HB.out)⟩)
          ·skip
           refine box_step ?hg (N := 3) ?hd (cs := #[.slice none 0 0, .slice none 0 0]) (t := 48) ?hr ?_; (case hd => rfl); (case hg => rfl); (case hr => first | (go_simp; done) | (go_simp; rfl))
           intro gb213 hg w7 hbox hb
           have n0_ := Aside0.mk (bb_ BK205.out hb)
           have n1_ := Aside0.mk (below_step (bel_ HB.out) hb)
           have n2_ := Aside0.mk (hbox)
           have n3_ := Aside0.mk (bz_ hg (bel_ HB.out))
           have n4_ := Aside0.mk (bz_ hg (bel_ HB.out))
           have n5_ := Aside0.mk (nl_ hg BK205.out)
           have n6_ := Aside0.mk (ng_ hg BK205.out)
           clear BK205
           clear HB
           have BK205 := n0_
           have HB := n1_
           have BK213 := n2_
           have GW213 := n3_
           have GE213 := n4_
           have NB205_213 := n5_
           have NB213_205 := n6_
           clear n0_ n1_ n2_ n3_ n4_ n5_ n6_
           clear hb hbox hg
           refine hK.out _ _ ⟨(blk_cell BK205.out 0).trans rfl, (blk_cell BK205.out 1).trans rfl, (blk_cell BK205.out 2).trans rfl, (blk_cell BK205.out 3).trans rfl, (blk_cell BK205.out 4).trans rfl, (blk_cell BK205.out 5).trans rfl, (blk_cell BK205.out 6).trans rfl, (blk_cell BK205.out 7).trans rfl, (blk_cell BK205.out 8).trans rfl⟩ (fun hHeld => ?_)
           clear hK K
           refine norm_ (a' := ?_) ?_ ?_
           rotate_left
           ·show Act.put _ (some 3) _ = _
            simp only [Act.put, s1_, s2_, s3_, i64_w, i32_w]
            rfl
           exact norm_ (by simp only [putAll, Act.put, s1_, s2_, s3_] <;> rfl) (hJ10_21 (gb213) _ ⟨hHeld, (peel_ BK205.out), (peel_ BK213.out), GW213.out, GE213.out, NB205_213.out, NB213_205.out, (bel_ HB.out)⟩)
        ·skip
         rintro ⟨v211, gb213⟩ w9 ⟨hS_, h0_, h1_, h2_, h3_, h4_, h5_, h6_, h7_⟩
         have n0_ : Aside0 (Kd.R Kd.string 9 w9 w.heap.size (fun _ => True) v211 y210) := ⟨h0_⟩
         have n1_ : Aside0 (w9.heap[gb205]? = some (.cells #[.int .i64 a0_0, .int .i64 a0_1, .int .i64 a0_2, .int .i64 a0_3, .string a0_4, .string a0_5, .bool a0_6, .slice A0_7 l0_7.length c0_7, .slice A0_8 l0_8.length c0_8] 25 (0, 0))) := ⟨h1_⟩
         have n2_ : Aside0 (w9.heap[gb213]? = some (.cells #[.slice none 0 0, .slice none 0 0] 48 (0, 0))) := ⟨h2_⟩
         have n3_ : Aside0 (w.heap.size ≤ gb213) := ⟨h3_⟩
         have n4_ : Aside0 (w.heap.size ≤ gb213) := ⟨h4_⟩
         have n5_ : Aside0 (gb205 ≠ gb213) := ⟨h5_⟩
         have n6_ : Aside0 (gb213 ≠ gb205) := ⟨h6_⟩
         have n7_ : Aside0 (Below w.heap.size w w9) := ⟨h7_⟩
         clear BK205
         clear HB
         clear h0_ h1_ h2_ h3_ h4_ h5_ h6_ h7_
         have HO212 := n0_
         have BK205 := n1_
         have BK213 := n2_
         have GW213 := n3_
         have GE213 := n4_
         have NB205_213 := n5_
         have NB213_205 := n6_
         have HB := n7_
         clear n0_ n1_ n2_ n3_ n4_ n5_ n6_ n7_
         have hHeld : w9.cell? ⟨gb205, 0, none⟩ = some (.int .i64 a0_0) ∧ w9.cell? ⟨gb205, 1, none⟩ = some (.int .i64 a0_1) ∧ w9.cell? ⟨gb205, 2, none⟩ = some (.int .i64 a0_2) ∧ w9.cell? ⟨gb205, 3, none⟩ = some (.int .i64 a0_3) ∧ w9.cell? ⟨gb205, 4, none⟩ = some (.string a0_4) ∧ w9.cell? ⟨gb205, 5, none⟩ = some (.string a0_5) ∧ w9.cell? ⟨gb205, 6, none⟩ = some (.bool a0_6) ∧ w9.cell? ⟨gb205, 7, none⟩ = some (.slice A0_7 l0_7.length c0_7) ∧ w9.cell? ⟨gb205, 8, none⟩ = some (.slice A0_8 l0_8.length c0_8) := hS_
         refine norm_ (a' := ?_) ?_ ?_
         rotate_left
         ·simp only [putAll, Act.put, s1_, s2_, s3_]
          rfl
         refine one_ (i := 10) (N := some 15) #[T, T, T, T, T, T, T, T, T, T, T, T, T, T, F, T, T, T, T, T, F, T, F] rfl rfl (one_of HT_.out (by kernel_rfl)) (by decide) (fun K hK => ?_)
         refine goes_ Try.func43 (by kernel_rfl) rfl #[.bool a0_6] (by rfl) rfl rfl gl_ ?_
         with_reducible refine (corncribref07_One.calls a0_6 t206 _ A2.out).mono ?_
         rintro e w' ⟨rfl, ⟨nd, rfl⟩⟩
         refine ⟨_, rfl, ?_⟩
         refine hK.out _ _ ⟨(blk_cell BK205.out 0).trans rfl, (blk_cell BK205.out 1).trans rfl, (blk_cell BK205.out 2).trans rfl, (blk_cell BK205.out 3).trans rfl, (blk_cell BK205.out 4).trans rfl, (blk_cell BK205.out 5).trans rfl, (blk_cell BK205.out 6).trans rfl, (blk_cell BK205.out 7).trans rfl, (blk_cell BK205.out 8).trans rfl⟩ (fun hHeld => ?_)
         clear hK K
         refine norm_ (a' := ?_) ?_ ?_
         rotate_left
         ·show Act.put _ (some 15) _ = _
          simp only [Act.put, s1_, s2_, s3_, i64_w, i32_w]
          rfl
         exact norm_ (by simp only [putAll, Act.put, s1_, s2_, s3_] <;> rfl) (hJ10_19_21 (v211, gb213) _ ⟨hHeld, (by (with_reducible repeat (first | apply Kd.R_alloc | apply Kd.R_drewN | apply Kd.R_drew)); exact HO212.out), (peel_ BK205.out), (peel_ BK213.out), GW213.out, GE213.out, NB205_213.out, NB213_205.out, (bel_ HB.out)⟩)
       ·skip
        rintro gb213 w7 ⟨hS_, h0_, h1_, h2_, h3_, h4_, h5_, h6_⟩
        have n0_ : Aside0 (w7.heap[gb205]? = some (.cells #[.int .i64 a0_0, .int .i64 a0_1, .int .i64 a0_2, .int .i64 a0_3, .string a0_4, .string a0_5, .bool a0_6, .slice A0_7 l0_7.length c0_7, .slice A0_8 l0_8.length c0_8] 25 (0, 0))) := ⟨h0_⟩
        have n1_ : Aside0 (w7.heap[gb213]? = some (.cells #[.slice none 0 0, .slice none 0 0] 48 (0, 0))) := ⟨h1_⟩
        have n2_ : Aside0 (w.heap.size ≤ gb213) := ⟨h2_⟩
        have n3_ : Aside0 (w.heap.size ≤ gb213) := ⟨h3_⟩
        have n4_ : Aside0 (gb205 ≠ gb213) := ⟨h4_⟩
        have n5_ : Aside0 (gb213 ≠ gb205) := ⟨h5_⟩
        have n6_ : Aside0 (Below w.heap.size w w7) := ⟨h6_⟩
        clear BK205
        clear HB
        clear h0_ h1_ h2_ h3_ h4_ h5_ h6_
        have BK205 := n0_
        have BK213 := n1_
        have GW213 := n2_
        have GE213 := n3_
        have NB205_213 := n4_
        have NB213_205 := n5_
        have HB := n6_
        clear n0_ n1_ n2_ n3_ n4_ n5_ n6_
        have hHeld : w7.cell? ⟨gb205, 0, none⟩ = some (.int .i64 a0_0) ∧ w7.cell? ⟨gb205, 1, none⟩ = some (.int .i64 a0_1) ∧ w7.cell? ⟨gb205, 2, none⟩ = some (.int .i64 a0_2) ∧ w7.cell? ⟨gb205, 3, none⟩ = some (.int .i64 a0_3) ∧ w7.cell? ⟨gb205, 4, none⟩ = some (.string a0_4) ∧ w7.cell? ⟨gb205, 5, none⟩ = some (.string a0_5) ∧ w7.cell? ⟨gb205, 6, none⟩ = some (.bool a0_6) ∧ w7.cell? ⟨gb205, 7, none⟩ = some (.slice A0_7 l0_7.length c0_7) ∧ w7.cell? ⟨gb205, 8, none⟩ = some (.slice A0_8 l0_8.length c0_8) := hS_
        refine norm_ (a' := ?_) ?_ ?_
        rotate_left
        ·simp only [putAll, Act.put, s1_, s2_, s3_]
         rfl
        refine two_ (i := 14) (j := 19) (Ni := some 19) (Nj := some 24) #[T, T, T, T, T, T, T, T, T, T, T, T, T, T, T, T, T, T, T, F, F, T, F] #[T, T, T, T, T, T, T, T, T, T, T, T, T, T, F, T, T, T, T, T, F, T, F] rfl rfl rfl rfl (two_of HT_.out (by kernel_rfl)) (by decide) (by decide) (fun K hK => ?_) (fun K hK => ?_)
        ·skip
         refine Kd.R_lit_step (Kd.int .i64) _ 3 ?hg (N := 19) ?hd (xs := ([a0_0, a0_1, a0_2, a0_3, t206, (l0_7.length : Int)] : List Int)) (inner := [.int .i64 a0_0, .int .i64 a0_1, .int .i64 a0_2, .int .i64 a0_3, .int .i64 t206, .int .i64 (l0_7.length : Int)]) (ok := fun _ => True) (okp := fun _ => True) ?hr ?hp (fun _ hk => hk) trivial (Below.refl _ _) (Nat.le_refl _) (by simp) ?_; (case hd => rfl); (case hg => rfl); (case hr => first | (go_simp; done) | (go_simp; rfl)); (case hp => exact (Reps.one (show Kd.M (Kd.int .i64) _ _ _ a0_0 [.int .i64 a0_0] from rfl) (Reps.one (show Kd.M (Kd.int .i64) _ _ _ a0_1 [.int .i64 a0_1] from rfl) (Reps.one (show Kd.M (Kd.int .i64) _ _ _ a0_2 [.int .i64 a0_2] from rfl) (Reps.one (show Kd.M (Kd.int .i64) _ _ _ a0_3 [.int .i64 a0_3] from rfl) (Reps.one (show Kd.M (Kd.int .i64) _ _ _ t206 [.int .i64 t206] from rfl) (Reps.one (show Kd.M (Kd.int .i64) _ _ _ (l0_7.length : Int) [.int .i64 (l0_7.length : Int)] from rfl) (Reps.none _ _))))))))
         intro v208 w8 ho9 hb hg_ hnew_
         clear hg_ hnew_
         (first | rw [← Ny207.out] at ho9 | (simp only [Int.reduceToNat] at ho9; rw [← Ny207.out] at ho9))
         have n0_ := Aside0.mk (Kd.R_lower ho9 (below_size (bel_ HB.out)))
         have n1_ := Aside0.mk (bb_ BK205.out hb)
         have n2_ := Aside0.mk (bb_ BK213.out hb)
         have n3_ := Aside0.mk (below_step (bel_ HB.out) hb)
         clear BK205
         clear BK213
         clear HB
         have HO209 := n0_
         have BK205 := n1_
         have BK213 := n2_
         have HB := n3_
         clear n0_ n1_ n2_ n3_
         clear hb ho9
         refine hK.out _ _ ⟨(blk_cell BK205.out 0).trans rfl, (blk_cell BK205.out 1).trans rfl, (blk_cell BK205.out 2).trans rfl, (blk_cell BK205.out 3).trans rfl, (blk_cell BK205.out 4).trans rfl, (blk_cell BK205.out 5).trans rfl, (blk_cell BK205.out 6).trans rfl, (blk_cell BK205.out 7).trans rfl, (blk_cell BK205.out 8).trans rfl⟩ (fun hHeld => ?_)
         clear hK K
         refine norm_ (a' := ?_) ?_ ?_
         rotate_left
         ·show Act.put _ (some 19) _ = _
          simp only [Act.put, s1_, s2_, s3_, i64_w, i32_w]
          rfl
         exact norm_ (by simp only [putAll, Act.put, s1_, s2_, s3_] <;> rfl) (hJ10_14_21 (v208, gb213) _ ⟨hHeld, (by (with_reducible repeat (first | apply Kd.R_alloc | apply Kd.R_drewN | apply Kd.R_drew)); exact HO209.out), (peel_ BK205.out), (peel_ BK213.out), GW213.out, GE213.out, NB205_213.out, NB213_205.out, (bel_ HB.out)⟩)
        ·skip
         refine Kd.R_lit_step Kd.string _ 9 ?hg (N := 24) ?hd (xs := ([a0_4, a0_5] : List ByteArray)) (inner := [.string a0_4, .string a0_5]) (ok := fun _ => True) (okp := fun _ => True) ?hr ?hp (fun _ hk => hk) trivial (Below.refl _ _) (Nat.le_refl _) (by simp) ?_; (case hd => rfl); (case hg => rfl); (case hr => first | (go_simp; done) | (go_simp; rfl)); (case hp => exact (Reps.one (show Kd.M Kd.string _ _ _ a0_4 [.string a0_4] from rfl) (Reps.one (show Kd.M Kd.string _ _ _ a0_5 [.string a0_5] from rfl) (Reps.none _ _))))
         intro v211 w8 ho9 hb hg_ hnew_
         clear hg_ hnew_
         (first | rw [← Ny210.out] at ho9 | (simp only [Int.reduceToNat] at ho9; rw [← Ny210.out] at ho9))
         have n0_ := Aside0.mk (Kd.R_lower ho9 (below_size (bel_ HB.out)))
         have n1_ := Aside0.mk (bb_ BK205.out hb)
         have n2_ := Aside0.mk (bb_ BK213.out hb)
         have n3_ := Aside0.mk (below_step (bel_ HB.out) hb)
         clear BK205
         clear BK213
         clear HB
         have HO212 := n0_
         have BK205 := n1_
         have BK213 := n2_
         have HB := n3_
         clear n0_ n1_ n2_ n3_
         clear hb ho9
         refine hK.out _ _ ⟨(blk_cell BK205.out 0).trans rfl, (blk_cell BK205.out 1).trans rfl, (blk_cell BK205.out 2).trans rfl, (blk_cell BK205.out 3).trans rfl, (blk_cell BK205.out 4).trans rfl, (blk_cell BK205.out 5).trans rfl, (blk_cell BK205.out 6).trans rfl, (blk_cell BK205.out 7).trans rfl, (blk_cell BK205.out 8).trans rfl⟩ (fun hHeld => ?_)
         clear hK K
         refine norm_ (a' := ?_) ?_ ?_
         rotate_left
         ·show Act.put _ (some 24) _ = _
          simp only [Act.put, s1_, s2_, s3_, i64_w, i32_w]
          rfl
         exact norm_ (by simp only [putAll, Act.put, s1_, s2_, s3_] <;> rfl) (hJ10_19_21 (v211, gb213) _ ⟨hHeld, (by (with_reducible repeat (first | apply Kd.R_alloc | apply Kd.R_drewN | apply Kd.R_drew)); exact HO212.out), (peel_ BK205.out), (peel_ BK213.out), GW213.out, GE213.out, NB205_213.out, NB213_205.out, (bel_ HB.out)⟩)
      ·skip
       rintro v211 w8 ⟨hS_, h0_, h1_, h2_⟩
       have n0_ : Aside0 (Kd.R Kd.string 9 w8 w.heap.size (fun _ => True) v211 y210) := ⟨h0_⟩
       have n1_ : Aside0 (w8.heap[gb205]? = some (.cells #[.int .i64 a0_0, .int .i64 a0_1, .int .i64 a0_2, .int .i64 a0_3, .string a0_4, .string a0_5, .bool a0_6, .slice A0_7 l0_7.length c0_7, .slice A0_8 l0_8.length c0_8] 25 (0, 0))) := ⟨h1_⟩
       have n2_ : Aside0 (Below w.heap.size w w8) := ⟨h2_⟩
       clear BK205
       clear HB
       clear h0_ h1_ h2_
       have HO212 := n0_
       have BK205 := n1_
       have HB := n2_
       clear n0_ n1_ n2_
       have hHeld : w8.cell? ⟨gb205, 0, none⟩ = some (.int .i64 a0_0) ∧ w8.cell? ⟨gb205, 1, none⟩ = some (.int .i64 a0_1) ∧ w8.cell? ⟨gb205, 2, none⟩ = some (.int .i64 a0_2) ∧ w8.cell? ⟨gb205, 3, none⟩ = some (.int .i64 a0_3) ∧ w8.cell? ⟨gb205, 4, none⟩ = some (.string a0_4) ∧ w8.cell? ⟨gb205, 5, none⟩ = some (.string a0_5) ∧ w8.cell? ⟨gb205, 6, none⟩ = some (.bool a0_6) ∧ w8.cell? ⟨gb205, 7, none⟩ = some (.slice A0_7 l0_7.length c0_7) ∧ w8.cell? ⟨gb205, 8, none⟩ = some (.slice A0_8 l0_8.length c0_8) := hS_
       refine norm_ (a' := ?_) ?_ ?_
       rotate_left
       ·simp only [putAll, Act.put, s1_, s2_, s3_]
        rfl
       refine two_ (i := 14) (j := 21) (Ni := some 19) (Nj := some 3) #[T, T, T, T, T, T, T, T, T, T, T, T, T, T, T, T, T, T, T, T, F, F, F] #[T, T, T, T, T, T, T, T, T, T, T, T, T, T, F, T, T, T, T, T, F, T, F] rfl rfl rfl rfl (two_of HT_.out (by kernel_rfl)) (by decide) (by decide) (fun K hK => ?_) (fun K hK => ?_)
       ·skip
        refine Kd.R_lit_step (Kd.int .i64) _ 3 ?hg (N := 19) ?hd (xs := ([a0_0, a0_1, a0_2, a0_3, t206, (l0_7.length : Int)] : List Int)) (inner := [.int .i64 a0_0, .int .i64 a0_1, .int .i64 a0_2, .int .i64 a0_3, .int .i64 t206, .int .i64 (l0_7.length : Int)]) (ok := fun _ => True) (okp := fun _ => True) ?hr ?hp (fun _ hk => hk) trivial (Below.refl _ _) (Nat.le_refl _) (by simp) ?_; (case hd => rfl); (case hg => rfl); (case hr => first | (go_simp; done) | (go_simp; rfl)); (case hp => exact (Reps.one (show Kd.M (Kd.int .i64) _ _ _ a0_0 [.int .i64 a0_0] from rfl) (Reps.one (show Kd.M (Kd.int .i64) _ _ _ a0_1 [.int .i64 a0_1] from rfl) (Reps.one (show Kd.M (Kd.int .i64) _ _ _ a0_2 [.int .i64 a0_2] from rfl) (Reps.one (show Kd.M (Kd.int .i64) _ _ _ a0_3 [.int .i64 a0_3] from rfl) (Reps.one (show Kd.M (Kd.int .i64) _ _ _ t206 [.int .i64 t206] from rfl) (Reps.one (show Kd.M (Kd.int .i64) _ _ _ (l0_7.length : Int) [.int .i64 (l0_7.length : Int)] from rfl) (Reps.none _ _))))))))
        intro v208 w9 ho10 hb hg_ hnew_
        clear hg_ hnew_
        (first | rw [← Ny207.out] at ho10 | (simp only [Int.reduceToNat] at ho10; rw [← Ny207.out] at ho10))
        have n0_ := Aside0.mk (Kd.R_below (by (with_reducible repeat (first | apply Kd.R_alloc | apply Kd.R_drewN | apply Kd.R_drew)); exact HO212.out) hb)
        have n1_ := Aside0.mk (Kd.R_lower ho10 (below_size (bel_ HB.out)))
        have n2_ := Aside0.mk (bb_ BK205.out hb)
        have n3_ := Aside0.mk (below_step (bel_ HB.out) hb)
        clear HO212
        clear BK205
        clear HB
        have HO212 := n0_
        have HO209 := n1_
        have BK205 := n2_
        have HB := n3_
        clear n0_ n1_ n2_ n3_
        clear hb ho10
        obtain ⟨Ao11, co11, eo11⟩ := Kd.R_slice HO212.out
        (first | subst eo11 | (injection eo11 with f1_ f2_ f3_; have f4_ := f1_.symm; have f5_ := f3_.symm; clear f1_ f2_ f3_; subst f4_; subst f5_))
        obtain ⟨Ao12, co12, eo12⟩ := Kd.R_slice HO209.out
        (first | subst eo12 | (injection eo12 with f1_ f2_ f3_; have f4_ := f1_.symm; have f5_ := f3_.symm; clear f1_ f2_ f3_; subst f4_; subst f5_))
        refine hK.out _ _ ⟨(blk_cell BK205.out 0).trans rfl, (blk_cell BK205.out 1).trans rfl, (blk_cell BK205.out 2).trans rfl, (blk_cell BK205.out 3).trans rfl, (blk_cell BK205.out 4).trans rfl, (blk_cell BK205.out 5).trans rfl, (blk_cell BK205.out 6).trans rfl, (blk_cell BK205.out 7).trans rfl, (blk_cell BK205.out 8).trans rfl⟩ (fun hHeld => ?_)
        clear hK K
        refine norm_ (a' := ?_) ?_ ?_
        rotate_left
        ·show Act.put _ (some 19) _ = _
         simp only [Act.put, s1_, s2_, s3_, i64_w, i32_w]
         rfl
        refine pure_ (i := 20) (N := some 25) (v := ?_) (a' := ?_) #[T, T, T, T, T, T, T, T, T, T, T, T, T, T, T, T, T, T, T, T, T, F, F] rfl rfl (any_of HT_.out (by kernel_rfl)) (fun _ _ _ h => h) (Or.inl ⟨by rfl, ?_⟩) ?_ ?_
        rotate_left
        ·intro w'
         go_simp
         with_reducible rfl
        rotate_left
        ·simp only [Act.put, s1_, s2_, s3_, i64_w, i32_w]
         rfl
        exact norm_ (by simp only [putAll, Act.put, s1_, s2_, s3_] <;> rfl) (hJ10_14_19 (.slice Ao12 y207.length co12, .slice Ao11 y210.length co11) _ ⟨hHeld, (by (with_reducible repeat (first | apply Kd.R_alloc | apply Kd.R_drewN | apply Kd.R_drew)); exact HO209.out), (by (with_reducible repeat (first | apply Kd.R_alloc | apply Kd.R_drewN | apply Kd.R_drew)); exact HO212.out), (peel_ BK205.out), (bel_ HB.out)⟩)
       ·skip
        refine box_step ?hg (N := 3) ?hd (cs := #[.slice none 0 0, .slice none 0 0]) (t := 48) ?hr ?_; (case hd => rfl); (case hg => rfl); (case hr => first | (go_simp; done) | (go_simp; rfl))
        intro gb213 hg w9 hbox hb
        have n0_ := Aside0.mk (Kd.R_below (by (with_reducible repeat (first | apply Kd.R_alloc | apply Kd.R_drewN | apply Kd.R_drew)); exact HO212.out) hb)
        have n1_ := Aside0.mk (bb_ BK205.out hb)
        have n2_ := Aside0.mk (below_step (bel_ HB.out) hb)
        have n3_ := Aside0.mk (hbox)
        have n4_ := Aside0.mk (bz_ hg (bel_ HB.out))
        have n5_ := Aside0.mk (bz_ hg (bel_ HB.out))
        have n6_ := Aside0.mk (nl_ hg BK205.out)
        have n7_ := Aside0.mk (ng_ hg BK205.out)
        clear HO212
        clear BK205
        clear HB
        have HO212 := n0_
        have BK205 := n1_
        have HB := n2_
        have BK213 := n3_
        have GW213 := n4_
        have GE213 := n5_
        have NB205_213 := n6_
        have NB213_205 := n7_
        clear n0_ n1_ n2_ n3_ n4_ n5_ n6_ n7_
        clear hb hbox hg
        refine hK.out _ _ ⟨(blk_cell BK205.out 0).trans rfl, (blk_cell BK205.out 1).trans rfl, (blk_cell BK205.out 2).trans rfl, (blk_cell BK205.out 3).trans rfl, (blk_cell BK205.out 4).trans rfl, (blk_cell BK205.out 5).trans rfl, (blk_cell BK205.out 6).trans rfl, (blk_cell BK205.out 7).trans rfl, (blk_cell BK205.out 8).trans rfl⟩ (fun hHeld => ?_)
        clear hK K
        refine norm_ (a' := ?_) ?_ ?_
        rotate_left
        ·show Act.put _ (some 3) _ = _
         simp only [Act.put, s1_, s2_, s3_, i64_w, i32_w]
         rfl
        exact norm_ (by simp only [putAll, Act.put, s1_, s2_, s3_] <;> rfl) (hJ10_19_21 (v211, gb213) _ ⟨hHeld, (by (with_reducible repeat (first | apply Kd.R_alloc | apply Kd.R_drewN | apply Kd.R_drew)); exact HO212.out), (peel_ BK205.out), (peel_ BK213.out), GW213.out, GE213.out, NB205_213.out, NB213_205.out, (bel_ HB.out)⟩)
     ·skip
      rintro v208 w8 ⟨hS_, h0_, h1_, h2_⟩
      have n0_ : Aside0 (Kd.R (Kd.int .i64) 3 w8 w.heap.size (fun _ => True) v208 y207) := ⟨h0_⟩
      have n1_ : Aside0 (w8.heap[gb205]? = some (.cells #[.int .i64 a0_0, .int .i64 a0_1, .int .i64 a0_2, .int .i64 a0_3, .string a0_4, .string a0_5, .bool a0_6, .slice A0_7 l0_7.length c0_7, .slice A0_8 l0_8.length c0_8] 25 (0, 0))) := ⟨h1_⟩
      have n2_ : Aside0 (Below w.heap.size w w8) := ⟨h2_⟩
      clear BK205
      clear HB
      clear h0_ h1_ h2_
      have HO209 := n0_
      have BK205 := n1_
      have HB := n2_
      clear n0_ n1_ n2_
      have hHeld : w8.cell? ⟨gb205, 0, none⟩ = some (.int .i64 a0_0) ∧ w8.cell? ⟨gb205, 1, none⟩ = some (.int .i64 a0_1) ∧ w8.cell? ⟨gb205, 2, none⟩ = some (.int .i64 a0_2) ∧ w8.cell? ⟨gb205, 3, none⟩ = some (.int .i64 a0_3) ∧ w8.cell? ⟨gb205, 4, none⟩ = some (.string a0_4) ∧ w8.cell? ⟨gb205, 5, none⟩ = some (.string a0_5) ∧ w8.cell? ⟨gb205, 6, none⟩ = some (.bool a0_6) ∧ w8.cell? ⟨gb205, 7, none⟩ = some (.slice A0_7 l0_7.length c0_7) ∧ w8.cell? ⟨gb205, 8, none⟩ = some (.slice A0_8 l0_8.length c0_8) := hS_
      refine norm_ (a' := ?_) ?_ ?_
      rotate_left
      ·simp only [putAll, Act.put, s1_, s2_, s3_]
       rfl
      refine two_ (i := 19) (j := 21) (Ni := some 24) (Nj := some 3) #[T, T, T, T, T, T, T, T, T, T, T, T, T, T, T, T, T, T, T, T, F, F, F] #[T, T, T, T, T, T, T, T, T, T, T, T, T, T, T, T, T, T, T, F, F, T, F] rfl rfl rfl rfl (two_of HT_.out (by kernel_rfl)) (by decide) (by decide) (fun K hK => ?_) (fun K hK => ?_)
      ·skip
       refine Kd.R_lit_step Kd.string _ 9 ?hg (N := 24) ?hd (xs := ([a0_4, a0_5] : List ByteArray)) (inner := [.string a0_4, .string a0_5]) (ok := fun _ => True) (okp := fun _ => True) ?hr ?hp (fun _ hk => hk) trivial (Below.refl _ _) (Nat.le_refl _) (by simp) ?_; (case hd => rfl); (case hg => rfl); (case hr => first | (go_simp; done) | (go_simp; rfl)); (case hp => exact (Reps.one (show Kd.M Kd.string _ _ _ a0_4 [.string a0_4] from rfl) (Reps.one (show Kd.M Kd.string _ _ _ a0_5 [.string a0_5] from rfl) (Reps.none _ _))))
       intro v211 w9 ho10 hb hg_ hnew_
       clear hg_ hnew_
       (first | rw [← Ny210.out] at ho10 | (simp only [Int.reduceToNat] at ho10; rw [← Ny210.out] at ho10))
       have n0_ := Aside0.mk (Kd.R_below (by (with_reducible repeat (first | apply Kd.R_alloc | apply Kd.R_drewN | apply Kd.R_drew)); exact HO209.out) hb)
       have n1_ := Aside0.mk (Kd.R_lower ho10 (below_size (bel_ HB.out)))
       have n2_ := Aside0.mk (bb_ BK205.out hb)
       have n3_ := Aside0.mk (below_step (bel_ HB.out) hb)
       clear HO209
       clear BK205
       clear HB
       have HO209 := n0_
       have HO212 := n1_
       have BK205 := n2_
       have HB := n3_
       clear n0_ n1_ n2_ n3_
       clear hb ho10
       obtain ⟨Ao11, co11, eo11⟩ := Kd.R_slice HO212.out
       (first | subst eo11 | (injection eo11 with f1_ f2_ f3_; have f4_ := f1_.symm; have f5_ := f3_.symm; clear f1_ f2_ f3_; subst f4_; subst f5_))
       obtain ⟨Ao12, co12, eo12⟩ := Kd.R_slice HO209.out
       (first | subst eo12 | (injection eo12 with f1_ f2_ f3_; have f4_ := f1_.symm; have f5_ := f3_.symm; clear f1_ f2_ f3_; subst f4_; subst f5_))
       refine hK.out _ _ ⟨(blk_cell BK205.out 0).trans rfl, (blk_cell BK205.out 1).trans rfl, (blk_cell BK205.out 2).trans rfl, (blk_cell BK205.out 3).trans rfl, (blk_cell BK205.out 4).trans rfl, (blk_cell BK205.out 5).trans rfl, (blk_cell BK205.out 6).trans rfl, (blk_cell BK205.out 7).trans rfl, (blk_cell BK205.out 8).trans rfl⟩ (fun hHeld => ?_)
       clear hK K
       refine norm_ (a' := ?_) ?_ ?_
       rotate_left
       ·show Act.put _ (some 24) _ = _
        simp only [Act.put, s1_, s2_, s3_, i64_w, i32_w]
        rfl
       refine pure_ (i := 20) (N := some 25) (v := ?_) (a' := ?_) #[T, T, T, T, T, T, T, T, T, T, T, T, T, T, T, T, T, T, T, T, T, F, F] rfl rfl (any_of HT_.out (by kernel_rfl)) (fun _ _ _ h => h) (Or.inl ⟨by rfl, ?_⟩) ?_ ?_
       rotate_left
       ·intro w'
        go_simp
        with_reducible rfl
       rotate_left
       ·simp only [Act.put, s1_, s2_, s3_, i64_w, i32_w]
        rfl
       exact norm_ (by simp only [putAll, Act.put, s1_, s2_, s3_] <;> rfl) (hJ10_14_19 (.slice Ao12 y207.length co12, .slice Ao11 y210.length co11) _ ⟨hHeld, (by (with_reducible repeat (first | apply Kd.R_alloc | apply Kd.R_drewN | apply Kd.R_drew)); exact HO209.out), (by (with_reducible repeat (first | apply Kd.R_alloc | apply Kd.R_drewN | apply Kd.R_drew)); exact HO212.out), (peel_ BK205.out), (bel_ HB.out)⟩)
      ·skip
       refine box_step ?hg (N := 3) ?hd (cs := #[.slice none 0 0, .slice none 0 0]) (t := 48) ?hr ?_; (case hd => rfl); (case hg => rfl); (case hr => first | (go_simp; done) | (go_simp; rfl))
       intro gb213 hg w9 hbox hb
       have n0_ := Aside0.mk (Kd.R_below (by (with_reducible repeat (first | apply Kd.R_alloc | apply Kd.R_drewN | apply Kd.R_drew)); exact HO209.out) hb)
       have n1_ := Aside0.mk (bb_ BK205.out hb)
       have n2_ := Aside0.mk (below_step (bel_ HB.out) hb)
       have n3_ := Aside0.mk (hbox)
       have n4_ := Aside0.mk (bz_ hg (bel_ HB.out))
       have n5_ := Aside0.mk (bz_ hg (bel_ HB.out))
       have n6_ := Aside0.mk (nl_ hg BK205.out)
       have n7_ := Aside0.mk (ng_ hg BK205.out)
       clear HO209
       clear BK205
       clear HB
       have HO209 := n0_
       have BK205 := n1_
       have HB := n2_
       have BK213 := n3_
       have GW213 := n4_
       have GE213 := n5_
       have NB205_213 := n6_
       have NB213_205 := n7_
       clear n0_ n1_ n2_ n3_ n4_ n5_ n6_ n7_
       clear hb hbox hg
       refine hK.out _ _ ⟨(blk_cell BK205.out 0).trans rfl, (blk_cell BK205.out 1).trans rfl, (blk_cell BK205.out 2).trans rfl, (blk_cell BK205.out 3).trans rfl, (blk_cell BK205.out 4).trans rfl, (blk_cell BK205.out 5).trans rfl, (blk_cell BK205.out 6).trans rfl, (blk_cell BK205.out 7).trans rfl, (blk_cell BK205.out 8).trans rfl⟩ (fun hHeld => ?_)
       clear hK K
       refine norm_ (a' := ?_) ?_ ?_
       rotate_left
       ·show Act.put _ (some 3) _ = _
        simp only [Act.put, s1_, s2_, s3_, i64_w, i32_w]
        rfl
       exact norm_ (by simp only [putAll, Act.put, s1_, s2_, s3_] <;> rfl) (hJ10_14_21 (v208, gb213) _ ⟨hHeld, (by (with_reducible repeat (first | apply Kd.R_alloc | apply Kd.R_drewN | apply Kd.R_drew)); exact HO209.out), (peel_ BK205.out), (peel_ BK213.out), GW213.out, GE213.out, NB205_213.out, NB213_205.out, (bel_ HB.out)⟩)
    ·skip
     rintro ⟨v211, gb213⟩ w9 ⟨hS_, h0_, h1_, h2_, h3_, h4_, h5_, h6_, h7_⟩
     have n0_ : Aside0 (Kd.R Kd.string 9 w9 w.heap.size (fun _ => True) v211 y210) := ⟨h0_⟩
     have n1_ : Aside0 (w9.heap[gb205]? = some (.cells #[.int .i64 a0_0, .int .i64 a0_1, .int .i64 a0_2, .int .i64 a0_3, .string a0_4, .string a0_5, .bool a0_6, .slice A0_7 l0_7.length c0_7, .slice A0_8 l0_8.length c0_8] 25 (0, 0))) := ⟨h1_⟩
     have n2_ : Aside0 (w9.heap[gb213]? = some (.cells #[.slice none 0 0, .slice none 0 0] 48 (0, 0))) := ⟨h2_⟩
     have n3_ : Aside0 (w.heap.size ≤ gb213) := ⟨h3_⟩
     have n4_ : Aside0 (w.heap.size ≤ gb213) := ⟨h4_⟩
     have n5_ : Aside0 (gb205 ≠ gb213) := ⟨h5_⟩
     have n6_ : Aside0 (gb213 ≠ gb205) := ⟨h6_⟩
     have n7_ : Aside0 (Below w.heap.size w w9) := ⟨h7_⟩
     clear BK205
     clear HB
     clear h0_ h1_ h2_ h3_ h4_ h5_ h6_ h7_
     have HO212 := n0_
     have BK205 := n1_
     have BK213 := n2_
     have GW213 := n3_
     have GE213 := n4_
     have NB205_213 := n5_
     have NB213_205 := n6_
     have HB := n7_
     clear n0_ n1_ n2_ n3_ n4_ n5_ n6_ n7_
     have hHeld : w9.cell? ⟨gb205, 0, none⟩ = some (.int .i64 a0_0) ∧ w9.cell? ⟨gb205, 1, none⟩ = some (.int .i64 a0_1) ∧ w9.cell? ⟨gb205, 2, none⟩ = some (.int .i64 a0_2) ∧ w9.cell? ⟨gb205, 3, none⟩ = some (.int .i64 a0_3) ∧ w9.cell? ⟨gb205, 4, none⟩ = some (.string a0_4) ∧ w9.cell? ⟨gb205, 5, none⟩ = some (.string a0_5) ∧ w9.cell? ⟨gb205, 6, none⟩ = some (.bool a0_6) ∧ w9.cell? ⟨gb205, 7, none⟩ = some (.slice A0_7 l0_7.length c0_7) ∧ w9.cell? ⟨gb205, 8, none⟩ = some (.slice A0_8 l0_8.length c0_8) := hS_
     refine norm_ (a' := ?_) ?_ ?_
     rotate_left
     ·simp only [putAll, Act.put, s1_, s2_, s3_]
      rfl
     refine one_ (i := 14) (N := some 19) #[T, T, T, T, T, T, T, T, T, T, T, T, T, T, T, T, T, T, T, T, F, T, F] rfl rfl (one_of HT_.out (by kernel_rfl)) (by decide) (fun K hK => ?_)
     refine Kd.R_lit_step (Kd.int .i64) _ 3 ?hg (N := 19) ?hd (xs := ([a0_0, a0_1, a0_2, a0_3, t206, (l0_7.length : Int)] : List Int)) (inner := [.int .i64 a0_0, .int .i64 a0_1, .int .i64 a0_2, .int .i64 a0_3, .int .i64 t206, .int .i64 (l0_7.length : Int)]) (ok := fun _ => True) (okp := fun _ => True) ?hr ?hp (fun _ hk => hk) trivial (Below.refl _ _) (Nat.le_refl _) (by simp) ?_; (case hd => rfl); (case hg => rfl); (case hr => first | (go_simp; done) | (go_simp; rfl)); (case hp => exact (Reps.one (show Kd.M (Kd.int .i64) _ _ _ a0_0 [.int .i64 a0_0] from rfl) (Reps.one (show Kd.M (Kd.int .i64) _ _ _ a0_1 [.int .i64 a0_1] from rfl) (Reps.one (show Kd.M (Kd.int .i64) _ _ _ a0_2 [.int .i64 a0_2] from rfl) (Reps.one (show Kd.M (Kd.int .i64) _ _ _ a0_3 [.int .i64 a0_3] from rfl) (Reps.one (show Kd.M (Kd.int .i64) _ _ _ t206 [.int .i64 t206] from rfl) (Reps.one (show Kd.M (Kd.int .i64) _ _ _ (l0_7.length : Int) [.int .i64 (l0_7.length : Int)] from rfl) (Reps.none _ _))))))))
     intro v208 w10 ho11 hb hg_ hnew_
     clear hg_ hnew_
     (first | rw [← Ny207.out] at ho11 | (simp only [Int.reduceToNat] at ho11; rw [← Ny207.out] at ho11))
     have n0_ := Aside0.mk (Kd.R_below (by (with_reducible repeat (first | apply Kd.R_alloc | apply Kd.R_drewN | apply Kd.R_drew)); exact HO212.out) hb)
     have n1_ := Aside0.mk (Kd.R_lower ho11 (below_size (bel_ HB.out)))
     have n2_ := Aside0.mk (bb_ BK205.out hb)
     have n3_ := Aside0.mk (bb_ BK213.out hb)
     have n4_ := Aside0.mk (below_step (bel_ HB.out) hb)
     clear HO212
     clear BK205
     clear BK213
     clear HB
     have HO212 := n0_
     have HO209 := n1_
     have BK205 := n2_
     have BK213 := n3_
     have HB := n4_
     clear n0_ n1_ n2_ n3_ n4_
     clear hb ho11
     obtain ⟨Ao12, co12, eo12⟩ := Kd.R_slice HO212.out
     (first | subst eo12 | (injection eo12 with f1_ f2_ f3_; have f4_ := f1_.symm; have f5_ := f3_.symm; clear f1_ f2_ f3_; subst f4_; subst f5_))
     obtain ⟨Ao13, co13, eo13⟩ := Kd.R_slice HO209.out
     (first | subst eo13 | (injection eo13 with f1_ f2_ f3_; have f4_ := f1_.symm; have f5_ := f3_.symm; clear f1_ f2_ f3_; subst f4_; subst f5_))
     refine hK.out _ _ ⟨(blk_cell BK205.out 0).trans rfl, (blk_cell BK205.out 1).trans rfl, (blk_cell BK205.out 2).trans rfl, (blk_cell BK205.out 3).trans rfl, (blk_cell BK205.out 4).trans rfl, (blk_cell BK205.out 5).trans rfl, (blk_cell BK205.out 6).trans rfl, (blk_cell BK205.out 7).trans rfl, (blk_cell BK205.out 8).trans rfl⟩ (fun hHeld => ?_)
     clear hK K
     refine norm_ (a' := ?_) ?_ ?_
     rotate_left
     ·show Act.put _ (some 19) _ = _
      simp only [Act.put, s1_, s2_, s3_, i64_w, i32_w]
      rfl
     refine pure_ (i := 20) (N := some 25) (v := ?_) (a' := ?_) #[T, T, T, T, T, T, T, T, T, T, T, T, T, T, T, T, T, T, T, T, T, T, F] rfl rfl (any_of HT_.out (by kernel_rfl)) (fun _ _ _ h => h) (Or.inl ⟨by rfl, ?_⟩) ?_ ?_
     rotate_left
     ·intro w'
      go_simp
      with_reducible rfl
     rotate_left
     ·simp only [Act.put, s1_, s2_, s3_, i64_w, i32_w]
      rfl
     exact norm_ (by simp only [putAll, Act.put, s1_, s2_, s3_] <;> rfl) (hJ10_14_19_21 (.slice Ao13 y207.length co13, .slice Ao12 y210.length co12, gb213) _ ⟨hHeld, (by (with_reducible repeat (first | apply Kd.R_alloc | apply Kd.R_drewN | apply Kd.R_drew)); exact HO209.out), (by (with_reducible repeat (first | apply Kd.R_alloc | apply Kd.R_drewN | apply Kd.R_drew)); exact HO212.out), (peel_ BK205.out), (peel_ BK213.out), GW213.out, GE213.out, NB205_213.out, NB213_205.out, (bel_ HB.out)⟩)
   ·skip
    rintro ⟨v208, gb213⟩ w9 ⟨hS_, h0_, h1_, h2_, h3_, h4_, h5_, h6_, h7_⟩
    have n0_ : Aside0 (Kd.R (Kd.int .i64) 3 w9 w.heap.size (fun _ => True) v208 y207) := ⟨h0_⟩
    have n1_ : Aside0 (w9.heap[gb205]? = some (.cells #[.int .i64 a0_0, .int .i64 a0_1, .int .i64 a0_2, .int .i64 a0_3, .string a0_4, .string a0_5, .bool a0_6, .slice A0_7 l0_7.length c0_7, .slice A0_8 l0_8.length c0_8] 25 (0, 0))) := ⟨h1_⟩
    have n2_ : Aside0 (w9.heap[gb213]? = some (.cells #[.slice none 0 0, .slice none 0 0] 48 (0, 0))) := ⟨h2_⟩
    have n3_ : Aside0 (w.heap.size ≤ gb213) := ⟨h3_⟩
    have n4_ : Aside0 (w.heap.size ≤ gb213) := ⟨h4_⟩
    have n5_ : Aside0 (gb205 ≠ gb213) := ⟨h5_⟩
    have n6_ : Aside0 (gb213 ≠ gb205) := ⟨h6_⟩
    have n7_ : Aside0 (Below w.heap.size w w9) := ⟨h7_⟩
    clear BK205
    clear HB
    clear h0_ h1_ h2_ h3_ h4_ h5_ h6_ h7_
    have HO209 := n0_
    have BK205 := n1_
    have BK213 := n2_
    have GW213 := n3_
    have GE213 := n4_
    have NB205_213 := n5_
    have NB213_205 := n6_
    have HB := n7_
    clear n0_ n1_ n2_ n3_ n4_ n5_ n6_ n7_
    have hHeld : w9.cell? ⟨gb205, 0, none⟩ = some (.int .i64 a0_0) ∧ w9.cell? ⟨gb205, 1, none⟩ = some (.int .i64 a0_1) ∧ w9.cell? ⟨gb205, 2, none⟩ = some (.int .i64 a0_2) ∧ w9.cell? ⟨gb205, 3, none⟩ = some (.int .i64 a0_3) ∧ w9.cell? ⟨gb205, 4, none⟩ = some (.string a0_4) ∧ w9.cell? ⟨gb205, 5, none⟩ = some (.string a0_5) ∧ w9.cell? ⟨gb205, 6, none⟩ = some (.bool a0_6) ∧ w9.cell? ⟨gb205, 7, none⟩ = some (.slice A0_7 l0_7.length c0_7) ∧ w9.cell? ⟨gb205, 8, none⟩ = some (.slice A0_8 l0_8.length c0_8) := hS_
    refine norm_ (a' := ?_) ?_ ?_
    rotate_left
    ·simp only [putAll, Act.put, s1_, s2_, s3_]
     rfl
    refine one_ (i := 19) (N := some 24) #[T, T, T, T, T, T, T, T, T, T, T, T, T, T, T, T, T, T, T, T, F, T, F] rfl rfl (one_of HT_.out (by kernel_rfl)) (by decide) (fun K hK => ?_)
    refine Kd.R_lit_step Kd.string _ 9 ?hg (N := 24) ?hd (xs := ([a0_4, a0_5] : List ByteArray)) (inner := [.string a0_4, .string a0_5]) (ok := fun _ => True) (okp := fun _ => True) ?hr ?hp (fun _ hk => hk) trivial (Below.refl _ _) (Nat.le_refl _) (by simp) ?_; (case hd => rfl); (case hg => rfl); (case hr => first | (go_simp; done) | (go_simp; rfl)); (case hp => exact (Reps.one (show Kd.M Kd.string _ _ _ a0_4 [.string a0_4] from rfl) (Reps.one (show Kd.M Kd.string _ _ _ a0_5 [.string a0_5] from rfl) (Reps.none _ _))))
    intro v211 w10 ho11 hb hg_ hnew_
    clear hg_ hnew_
    (first | rw [← Ny210.out] at ho11 | (simp only [Int.reduceToNat] at ho11; rw [← Ny210.out] at ho11))
    have n0_ := Aside0.mk (Kd.R_below (by (with_reducible repeat (first | apply Kd.R_alloc | apply Kd.R_drewN | apply Kd.R_drew)); exact HO209.out) hb)
    have n1_ := Aside0.mk (Kd.R_lower ho11 (below_size (bel_ HB.out)))
    have n2_ := Aside0.mk (bb_ BK205.out hb)
    have n3_ := Aside0.mk (bb_ BK213.out hb)
    have n4_ := Aside0.mk (below_step (bel_ HB.out) hb)
    clear HO209
    clear BK205
    clear BK213
    clear HB
    have HO209 := n0_
    have HO212 := n1_
    have BK205 := n2_
    have BK213 := n3_
    have HB := n4_
    clear n0_ n1_ n2_ n3_ n4_
    clear hb ho11
    obtain ⟨Ao12, co12, eo12⟩ := Kd.R_slice HO212.out
    (first | subst eo12 | (injection eo12 with f1_ f2_ f3_; have f4_ := f1_.symm; have f5_ := f3_.symm; clear f1_ f2_ f3_; subst f4_; subst f5_))
    obtain ⟨Ao13, co13, eo13⟩ := Kd.R_slice HO209.out
    (first | subst eo13 | (injection eo13 with f1_ f2_ f3_; have f4_ := f1_.symm; have f5_ := f3_.symm; clear f1_ f2_ f3_; subst f4_; subst f5_))
    refine hK.out _ _ ⟨(blk_cell BK205.out 0).trans rfl, (blk_cell BK205.out 1).trans rfl, (blk_cell BK205.out 2).trans rfl, (blk_cell BK205.out 3).trans rfl, (blk_cell BK205.out 4).trans rfl, (blk_cell BK205.out 5).trans rfl, (blk_cell BK205.out 6).trans rfl, (blk_cell BK205.out 7).trans rfl, (blk_cell BK205.out 8).trans rfl⟩ (fun hHeld => ?_)
    clear hK K
    refine norm_ (a' := ?_) ?_ ?_
    rotate_left
    ·show Act.put _ (some 24) _ = _
     simp only [Act.put, s1_, s2_, s3_, i64_w, i32_w]
     rfl
    refine pure_ (i := 20) (N := some 25) (v := ?_) (a' := ?_) #[T, T, T, T, T, T, T, T, T, T, T, T, T, T, T, T, T, T, T, T, T, T, F] rfl rfl (any_of HT_.out (by kernel_rfl)) (fun _ _ _ h => h) (Or.inl ⟨by rfl, ?_⟩) ?_ ?_
    rotate_left
    ·intro w'
     go_simp
     with_reducible rfl
    rotate_left
    ·simp only [Act.put, s1_, s2_, s3_, i64_w, i32_w]
     rfl
    exact norm_ (by simp only [putAll, Act.put, s1_, s2_, s3_] <;> rfl) (hJ10_14_19_21 (.slice Ao13 y207.length co13, .slice Ao12 y210.length co12, gb213) _ ⟨hHeld, (by (with_reducible repeat (first | apply Kd.R_alloc | apply Kd.R_drewN | apply Kd.R_drew)); exact HO209.out), (by (with_reducible repeat (first | apply Kd.R_alloc | apply Kd.R_drewN | apply Kd.R_drew)); exact HO212.out), (peel_ BK205.out), (peel_ BK213.out), GW213.out, GE213.out, NB205_213.out, NB213_205.out, (bel_ HB.out)⟩)
  ·skip
   rintro ⟨v208, v211⟩ w12 ⟨hS_, h0_, h1_, h2_, h3_⟩
   have n0_ : Aside0 (Kd.R (Kd.int .i64) 3 w12 w.heap.size (fun _ => True) v208 y207) := ⟨h0_⟩
   have n1_ : Aside0 (Kd.R Kd.string 9 w12 w.heap.size (fun _ => True) v211 y210) := ⟨h1_⟩
   have n2_ : Aside0 (w12.heap[gb205]? = some (.cells #[.int .i64 a0_0, .int .i64 a0_1, .int .i64 a0_2, .int .i64 a0_3, .string a0_4, .string a0_5, .bool a0_6, .slice A0_7 l0_7.length c0_7, .slice A0_8 l0_8.length c0_8] 25 (0, 0))) := ⟨h2_⟩
   have n3_ : Aside0 (Below w.heap.size w w12) := ⟨h3_⟩
   clear BK205
   clear HB
   clear h0_ h1_ h2_ h3_
   have HO209 := n0_
   have HO212 := n1_
   have BK205 := n2_
   have HB := n3_
   clear n0_ n1_ n2_ n3_
   have hHeld : w12.cell? ⟨gb205, 0, none⟩ = some (.int .i64 a0_0) ∧ w12.cell? ⟨gb205, 1, none⟩ = some (.int .i64 a0_1) ∧ w12.cell? ⟨gb205, 2, none⟩ = some (.int .i64 a0_2) ∧ w12.cell? ⟨gb205, 3, none⟩ = some (.int .i64 a0_3) ∧ w12.cell? ⟨gb205, 4, none⟩ = some (.string a0_4) ∧ w12.cell? ⟨gb205, 5, none⟩ = some (.string a0_5) ∧ w12.cell? ⟨gb205, 6, none⟩ = some (.bool a0_6) ∧ w12.cell? ⟨gb205, 7, none⟩ = some (.slice A0_7 l0_7.length c0_7) ∧ w12.cell? ⟨gb205, 8, none⟩ = some (.slice A0_8 l0_8.length c0_8) := hS_
   obtain ⟨Ao13, co13, eo13⟩ := Kd.R_slice HO212.out
   (first | subst eo13 | (injection eo13 with f1_ f2_ f3_; have f4_ := f1_.symm; have f5_ := f3_.symm; clear f1_ f2_ f3_; subst f4_; subst f5_))
   obtain ⟨Ao14, co14, eo14⟩ := Kd.R_slice HO209.out
   (first | subst eo14 | (injection eo14 with f1_ f2_ f3_; have f4_ := f1_.symm; have f5_ := f3_.symm; clear f1_ f2_ f3_; subst f4_; subst f5_))
   refine norm_ (a' := ?_) ?_ ?_
   rotate_left
   ·simp only [putAll, Act.put, s1_, s2_, s3_]
    rfl
   refine one_ (i := 21) (N := some 3) #[T, T, T, T, T, T, T, T, T, T, T, T, T, T, T, T, T, T, T, T, T, T, F] rfl rfl (one_of HT_.out (by kernel_rfl)) (by decide) (fun K hK => ?_)
   refine box_step ?hg (N := 3) ?hd (cs := #[.slice none 0 0, .slice none 0 0]) (t := 48) ?hr ?_; (case hd => rfl); (case hg => rfl); (case hr => first | (go_simp; done) | (go_simp; rfl))
   intro gb213 hg w15 hbox hb
   have n0_ := Aside0.mk (Kd.R_below (by (with_reducible repeat (first | apply Kd.R_alloc | apply Kd.R_drewN | apply Kd.R_drew)); exact HO209.out) hb)
   have n1_ := Aside0.mk (Kd.R_below (by (with_reducible repeat (first | apply Kd.R_alloc | apply Kd.R_drewN | apply Kd.R_drew)); exact HO212.out) hb)
   have n2_ := Aside0.mk (bb_ BK205.out hb)
   have n3_ := Aside0.mk (below_step (bel_ HB.out) hb)
   have n4_ := Aside0.mk (hbox)
   have n5_ := Aside0.mk (bz_ hg (bel_ HB.out))
   have n6_ := Aside0.mk (bz_ hg (bel_ HB.out))
   have n7_ := Aside0.mk (nl_ hg BK205.out)
   have n8_ := Aside0.mk (ng_ hg BK205.out)
   clear HO209
   clear HO212
   clear BK205
   clear HB
   have HO209 := n0_
   have HO212 := n1_
   have BK205 := n2_
   have HB := n3_
   have BK213 := n4_
   have GW213 := n5_
   have GE213 := n6_
   have NB205_213 := n7_
   have NB213_205 := n8_
   clear n0_ n1_ n2_ n3_ n4_ n5_ n6_ n7_ n8_
   clear hb hbox hg
   refine hK.out _ _ ⟨(blk_cell BK205.out 0).trans rfl, (blk_cell BK205.out 1).trans rfl, (blk_cell BK205.out 2).trans rfl, (blk_cell BK205.out 3).trans rfl, (blk_cell BK205.out 4).trans rfl, (blk_cell BK205.out 5).trans rfl, (blk_cell BK205.out 6).trans rfl, (blk_cell BK205.out 7).trans rfl, (blk_cell BK205.out 8).trans rfl⟩ (fun hHeld => ?_)
   clear hK K
   refine norm_ (a' := ?_) ?_ ?_
   rotate_left
   ·show Act.put _ (some 3) _ = _
    simp only [Act.put, s1_, s2_, s3_, i64_w, i32_w]
    rfl
   exact norm_ (by simp only [putAll, Act.put, s1_, s2_, s3_] <;> rfl) (hJ10_14_19_21 (.slice Ao14 y207.length co14, .slice Ao13 y210.length co13, gb213) _ ⟨hHeld, (by (with_reducible repeat (first | apply Kd.R_alloc | apply Kd.R_drewN | apply Kd.R_drew)); exact HO209.out), (by (with_reducible repeat (first | apply Kd.R_alloc | apply Kd.R_drewN | apply Kd.R_drew)); exact HO212.out), (peel_ BK205.out), (peel_ BK213.out), GW213.out, GE213.out, NB205_213.out, NB213_205.out, (bel_ HB.out)⟩)
 rintro ⟨v208, v211, gb213⟩ w13 ⟨hS_, h0_, h1_, h2_, h3_, h4_, h5_, h6_, h7_, h8_⟩
 have n0_ : Aside0 (Kd.R (Kd.int .i64) 3 w13 w.heap.size (fun _ => True) v208 y207) := ⟨h0_⟩
 have n1_ : Aside0 (Kd.R Kd.string 9 w13 w.heap.size (fun _ => True) v211 y210) := ⟨h1_⟩
 have n2_ : Aside0 (w13.heap[gb205]? = some (.cells #[.int .i64 a0_0, .int .i64 a0_1, .int .i64 a0_2, .int .i64 a0_3, .string a0_4, .string a0_5, .bool a0_6, .slice A0_7 l0_7.length c0_7, .slice A0_8 l0_8.length c0_8] 25 (0, 0))) := ⟨h2_⟩
 have n3_ : Aside0 (w13.heap[gb213]? = some (.cells #[.slice none 0 0, .slice none 0 0] 48 (0, 0))) := ⟨h3_⟩
 have n4_ : Aside0 (w.heap.size ≤ gb213) := ⟨h4_⟩
 have n5_ : Aside0 (w.heap.size ≤ gb213) := ⟨h5_⟩
 have n6_ : Aside0 (gb205 ≠ gb213) := ⟨h6_⟩
 have n7_ : Aside0 (gb213 ≠ gb205) := ⟨h7_⟩
 have n8_ : Aside0 (Below w.heap.size w w13) := ⟨h8_⟩
 clear BK205
 clear HB
 clear h0_ h1_ h2_ h3_ h4_ h5_ h6_ h7_ h8_
 have HO209 := n0_
 have HO212 := n1_
 have BK205 := n2_
 have BK213 := n3_
 have GW213 := n4_
 have GE213 := n5_
 have NB205_213 := n6_
 have NB213_205 := n7_
 have HB := n8_
 clear n0_ n1_ n2_ n3_ n4_ n5_ n6_ n7_ n8_
 have hHeld : w13.cell? ⟨gb205, 0, none⟩ = some (.int .i64 a0_0) ∧ w13.cell? ⟨gb205, 1, none⟩ = some (.int .i64 a0_1) ∧ w13.cell? ⟨gb205, 2, none⟩ = some (.int .i64 a0_2) ∧ w13.cell? ⟨gb205, 3, none⟩ = some (.int .i64 a0_3) ∧ w13.cell? ⟨gb205, 4, none⟩ = some (.string a0_4) ∧ w13.cell? ⟨gb205, 5, none⟩ = some (.string a0_5) ∧ w13.cell? ⟨gb205, 6, none⟩ = some (.bool a0_6) ∧ w13.cell? ⟨gb205, 7, none⟩ = some (.slice A0_7 l0_7.length c0_7) ∧ w13.cell? ⟨gb205, 8, none⟩ = some (.slice A0_8 l0_8.length c0_8) := hS_
 obtain ⟨Ao14, co14, eo14⟩ := Kd.R_slice HO212.out
 (first | subst eo14 | (injection eo14 with f1_ f2_ f3_; have f4_ := f1_.symm; have f5_ := f3_.symm; clear f1_ f2_ f3_; subst f4_; subst f5_))
 obtain ⟨Ao15, co15, eo15⟩ := Kd.R_slice HO209.out
 (first | subst eo15 | (injection eo15 with f1_ f2_ f3_; have f4_ := f1_.symm; have f5_ := f3_.symm; clear f1_ f2_ f3_; subst f4_; subst f5_))
 refine norm_ (a' := ?_) ?_ ?_
 rotate_left
 ·simp only [putAll, Act.put, s1_, s2_, s3_]
  rfl
 refine one_ (i := 22) (N := none) #[T, T, T, T, T, T, T, T, T, T, T, T, T, T, T, T, T, T, T, T, T, T, T] rfl rfl (one_of HT_.out (by kernel_rfl)) (by decide) (fun K hK => ?_)
 have hs16 : w13.cell? ⟨gb213, 0, none⟩ = some (.slice none 0 0) := (blk_cell BK213.out 0).trans rfl
 have hfs16 := blk_frozen BK213.out 0
 have hns16_0 := NB205_213.out
 have hms16_0 := NB213_205.out
 have hs17 : w13.cell? ⟨gb213, 1, none⟩ = some (.slice none 0 0) := (blk_cell BK213.out 1).trans rfl
 have hfs17 := blk_frozen BK213.out 1
 have hns17_0 := NB205_213.out
 have hms17_0 := NB213_205.out
 refine skip_ (w1 := ?_) (by rfl) rfl ?_ ?_
 rotate_left
 ·go_simp
  rfl
 refine hK.out _ _ ⟨((cell_far (p := ⟨gb213, _, none⟩) NB205_213.out _).trans (((cell_far (p := ⟨gb213, _, none⟩) NB205_213.out _).trans (hHeld.1)))), ((cell_far (p := ⟨gb213, _, none⟩) NB205_213.out _).trans (((cell_far (p := ⟨gb213, _, none⟩) NB205_213.out _).trans (hHeld.2.1)))), ((cell_far (p := ⟨gb213, _, none⟩) NB205_213.out _).trans (((cell_far (p := ⟨gb213, _, none⟩) NB205_213.out _).trans (hHeld.2.2.1)))), ((cell_far (p := ⟨gb213, _, none⟩) NB205_213.out _).trans (((cell_far (p := ⟨gb213, _, none⟩) NB205_213.out _).trans (hHeld.2.2.2.1)))), ((cell_far (p := ⟨gb213, _, none⟩) NB205_213.out _).trans (((cell_far (p := ⟨gb213, _, none⟩) NB205_213.out _).trans (hHeld.2.2.2.2.1)))), ((cell_far (p := ⟨gb213, _, none⟩) NB205_213.out _).trans (((cell_far (p := ⟨gb213, _, none⟩) NB205_213.out _).trans (hHeld.2.2.2.2.2.1)))), ((cell_far (p := ⟨gb213, _, none⟩) NB205_213.out _).trans (((cell_far (p := ⟨gb213, _, none⟩) NB205_213.out _).trans (hHeld.2.2.2.2.2.2.1)))), ((cell_far (p := ⟨gb213, _, none⟩) NB205_213.out _).trans (((cell_far (p := ⟨gb213, _, none⟩) NB205_213.out _).trans (hHeld.2.2.2.2.2.2.2.1)))), ((cell_far (p := ⟨gb213, _, none⟩) NB205_213.out _).trans (((cell_far (p := ⟨gb213, _, none⟩) NB205_213.out _).trans (hHeld.2.2.2.2.2.2.2.2))))⟩ (fun hHeld => ?_)
 clear hK K
 refine done_ (done_of HT_.out (by kernel_rfl)) ?_
 have hnb18 := NB213_205.out
 have hnc18 := NB205_213.out
 obtain ⟨hcz19_0, hfz19_0, hcz19_1, hfz19_1⟩ := cfz2 BK213.out
 obtain ⟨hcz20_0, hfz20_0, hcz20_1, hfz20_1, hcz20_2, hfz20_2, hcz20_3, hfz20_3, hcz20_4, hfz20_4, hcz20_5, hfz20_5, hcz20_6, hfz20_6, hcz20_7, hfz20_7, hcz20_8, hfz20_8⟩ := cfz9 BK205.out
 try go_wp2_with (first | ((with_reducible refine gate_builtin (b := .append) (xs := #[.tmp 27, .tmp 29]) rfl ?_); at_builtin; refine Kd.R_append_rows Kd.string (w0 := w) w.heap.size rfl (.tmp 27) (.tmp 29) 22 9 (.string ⟨#[]⟩) 16 rfl Try.underlying22 info9 rfl (by decide) (by omega) (.slice Ao14 y210.length co14) y210 l0_7 _ _ _ (fun _ => True) (fun _ => False) rfl rfl ?aO ?aR (fun _ _ h => h) (fun _ h => h.elim) ?aF ?aB ?aS ?aL ?_; (case aR => exact Kd.C_below HR0_7.out (bel_ HB.out)); (case aB => exact (bel_ HB.out)); (case aF => exact (fun _ _ => trivial)); (case aO => exact (by (with_reducible repeat (first | apply Kd.R_alloc | apply Kd.R_drewN | apply Kd.R_drew)); exact Kd.R_mono (Kd.R_far (p := ⟨gb213, 1, none⟩) (Kd.R_far (p := ⟨gb213, 0, none⟩) (Kd.R_types HO212.out BK213.out (by decide)) (fun _ hk => hk.2) (.slice Ao15 y207.length co15)) (fun _ hk => hk.2) (.slice Ao14 y210.length co14)) (fun _ hk => trivial))); (case aS => exact (below_size (bel_ HB.out))); (case aL => have := LMc3.out; omega); intro v215 w21 ho hb hg hat; rw [← Ny214.out] at ho; have n0_ := Aside0.mk (blk_grown (g := gb205) (o := .cells #[.int .i64 a0_0, .int .i64 a0_1, .int .i64 a0_2, .int .i64 a0_3, .string a0_4, .string a0_5, .bool a0_6, .slice A0_7 l0_7.length c0_7, .slice A0_8 l0_8.length c0_8] 25 (0, 0)) (by (with_reducible repeat (first | refine blk_drewN ?_ _ | refine blk_drew ?_ | refine blk_alloc ?_ _)); refine blk_far ?_ NB205_213.out _; (with_reducible repeat (first | refine blk_drewN ?_ _ | refine blk_drew ?_ | refine blk_alloc ?_ _)); refine blk_far ?_ NB205_213.out _; (with_reducible repeat (first | refine blk_drewN ?_ _ | refine blk_drew ?_ | refine blk_alloc ?_ _)); exact BK205.out) hg (Kd.R_ne HO212.out BK205.out (by decide))); have n1_ := Aside0.mk (Kd.R_over' (by (with_reducible repeat (first | apply Kd.R_alloc | apply Kd.R_drewN | apply Kd.R_drew)); exact (Kd.R_mono (Kd.R_far (p := ⟨gb213, 1, none⟩) (Kd.R_far (p := ⟨gb213, 0, none⟩) (Kd.R_types HO209.out BK213.out (by decide)) (fun _ hk => hk.2) (.slice Ao15 y207.length co15)) (fun _ hk => hk.2) (.slice Ao14 y210.length co14)) (fun _ h_ => h_.1))) (Kd.R_typed (by (with_reducible repeat (first | apply Kd.R_alloc | apply Kd.R_drewN | apply Kd.R_drew)); exact (Kd.R_mono (Kd.R_far (p := ⟨gb213, 1, none⟩) (Kd.R_far (p := ⟨gb213, 0, none⟩) (Kd.R_types HO212.out BK213.out (by decide)) (fun _ hk => hk.2) (.slice Ao15 y207.length co15)) (fun _ hk => hk.2) (.slice Ao14 y210.length co14)) (fun _ h_ => h_.1)))) (by decide) hg); have n2_ := Aside0.mk (blk_grown (g := gb213) (o := .cells #[.slice Ao15 y207.length co15, .slice Ao14 y210.length co14] 48 (0, 0)) (by (with_reducible repeat (first | refine blk_drewN ?_ _ | refine blk_drew ?_ | refine blk_alloc ?_ _)); refine blk_put (cs := #[.slice Ao15 y207.length co15, .slice none 0 0]) ?_ 1 _ rfl; (with_reducible repeat (first | refine blk_drewN ?_ _ | refine blk_drew ?_ | refine blk_alloc ?_ _)); refine blk_put (cs := #[.slice none 0 0, .slice none 0 0]) ?_ 0 _ rfl; (with_reducible repeat (first | refine blk_drewN ?_ _ | refine blk_drew ?_ | refine blk_alloc ?_ _)); exact BK213.out) hg (Kd.R_ne HO212.out BK213.out (by decide))); have n3_ := Aside0.mk (hb); have n4_ := Aside0.mk (ho); clear BK205; clear HO209; clear BK213; clear HB; clear HO212; have BK205 := n0_; have HO209 := n1_; have BK213 := n2_; have HB := n3_; have HO216 := n4_; clear n0_ n1_ n2_ n3_ n4_; clear ho hb hg hat; obtain ⟨Ao22, co22, eo22⟩ := Kd.R_slice HO216.out; subst eo22; have hcz23_0 : w21.cell? ⟨gb213, 0, none⟩ = some (.slice Ao15 y207.length co15) := (blk_cell BK213.out 0).trans rfl; have hcz23_1 : w21.cell? ⟨gb213, 1, none⟩ = some (.slice Ao14 y210.length co14) := (blk_cell BK213.out 1).trans rfl; have hfz23_0 := blk_frozen BK213.out 0; have hfz23_1 := blk_frozen BK213.out 1))
 go_loopg [4] k (fun kq v4 w' => ∃ (x4_1 : Int) (x214000_1 : List Int) (x214001_1 : List ByteArray) (u214000 : Value) (u214001 : Value), v4 = .int .i64 x4_1 ∧ Aside0 (corncribref08_Bytes.l0 kq x4_1 a0_0 a0_1 a0_2 a0_3 a0_4 a0_5 a0_6 l0_7 l0_8 x214000_1 x214001_1 = some r) ∧ Aside0 (kq ≤ k) ∧ Aside0 (Kd.R (Kd.int .i64) 3 w' w.heap.size (fun _ => True) u214000 x214000_1) ∧ Aside0 (Kd.R Kd.string 9 w' w.heap.size (fun _ => True) u214001 x214001_1) ∧ Aside0 (w'.heap[gb205]? = some (.cells #[.int .i64 a0_0, .int .i64 a0_1, .int .i64 a0_2, .int .i64 a0_3, .string a0_4, .string a0_5, .bool a0_6, (.slice A0_7 l0_7.length c0_7), (.slice A0_8 l0_8.length c0_8)] 25 (0, 0))) ∧ Aside0 (w'.heap[gb213]? = some (.cells #[u214000, u214001] 48 (0, 0))) ∧ Aside0 (Below w.heap.size w w'))
 case atStart => exact ⟨(0), (y207), (y214), (.slice Ao15 y207.length co15), (.slice Ao22 y214.length co22), (by first | rfl | (simp; done) | (simp [*]; done)), H', ⟨Nat.le_refl _⟩, ⟨by (with_reducible repeat (first | apply Kd.R_alloc | apply Kd.R_drewN | apply Kd.R_drew)); exact Kd.R_mono (Kd.R_far (p := ⟨gb213, 1, none⟩) (Kd.R_types HO209.out BK213.out (by decide)) (fun _ hk => hk.2) (.slice Ao22 y214.length co22)) (fun _ hk => trivial)⟩, ⟨by (with_reducible repeat (first | apply Kd.R_alloc | apply Kd.R_drewN | apply Kd.R_drew)); exact Kd.R_mono (Kd.R_far (p := ⟨gb213, 1, none⟩) (Kd.R_types HO216.out BK213.out (by decide)) (fun _ hk => hk.2) (.slice Ao22 y214.length co22)) (fun _ hk => trivial)⟩, ⟨by (with_reducible repeat (first | refine blk_drewN ?_ _ | refine blk_drew ?_ | refine blk_alloc ?_ _)); refine blk_far ?_ NB205_213.out _; (with_reducible repeat (first | refine blk_drewN ?_ _ | refine blk_drew ?_ | refine blk_alloc ?_ _)); exact BK205.out⟩, ⟨by (with_reducible repeat (first | refine blk_drewN ?_ _ | refine blk_drew ?_ | refine blk_alloc ?_ _)); refine blk_put (cs := #[.slice Ao15 y207.length co15, .slice Ao14 y210.length co14]) ?_ 1 _ rfl; (with_reducible repeat (first | refine blk_drewN ?_ _ | refine blk_drew ?_ | refine blk_alloc ?_ _)); exact BK213.out⟩, ⟨bel_ HB.out⟩⟩
 case round =>
  clear H'
  (try clear c1); (try clear p2); (try clear c3); (try clear c4); (try clear c18); (try clear hcz19_0); (try clear hcz19_1); (try clear hcz20_0); (try clear hcz20_1); (try clear hcz20_2); (try clear hcz20_3); (try clear hcz20_4); (try clear hcz20_5); (try clear hcz20_6); (try clear hcz20_7); (try clear hcz20_8); (try clear hcz23_0); (try clear hcz23_1); (try clear hfz19_0); (try clear hfz19_1); (try clear hfz20_0); (try clear hfz20_1); (try clear hfz20_2); (try clear hfz20_3); (try clear hfz20_4); (try clear hfz20_5); (try clear hfz20_6); (try clear hfz20_7); (try clear hfz20_8); (try clear hfz23_0); (try clear hfz23_1)
  obtain ⟨x4_1, x214000_1, x214001_1, u214000, u214001, rfl, HA, HK1, HO_214000, HO_214001, BK205, BK213, HB⟩ := hrel
  cases gk with
  |zero => exact absurd HA.out (by simp [corncribref08_Bytes.l0])
  |succ k1 =>
   have H := HA.out
   clear HA
   simp only [corncribref08_Bytes.l0] at H
   by_cases c24 : x4_1 < (l0_8.length : Int)
   rotate_left
   ·rw [if_neg c24] at H
    have c24b0 : decide (x4_1 < (l0_8.length : Int)) = false := decide_eq_false c24
    clear c24
    replace H := Option.bind_eq_some_iff.mp H
    obtain ⟨t230, A460, H⟩ := H
    try dsimp only at H
    have A46 := Aside0.mk A460
    clear A460
    obtain rfl := Option.some.inj H
    have hnb47 := NB205_213.out
    have hnc47 := NB213_205.out
    obtain ⟨hcz48_0, hfz48_0, hcz48_1, hfz48_1, hcz48_2, hfz48_2, hcz48_3, hfz48_3, hcz48_4, hfz48_4, hcz48_5, hfz48_5, hcz48_6, hfz48_6, hcz48_7, hfz48_7, hcz48_8, hfz48_8⟩ := cfz9 BK205.out
    obtain ⟨hcz49_0, hfz49_0, hcz49_1, hfz49_1⟩ := cfz2 BK213.out
    obtain ⟨Ao50, co50, eo50⟩ := Kd.R_slice HO_214000.out
    subst eo50
    obtain ⟨Ao51, co51, eo51⟩ := Kd.R_slice HO_214001.out
    subst eo51
    go_wp2_with (first | ((with_reducible refine gate_callee (f := 44) rfl ?_); refine goesL_ (some 74) rfl rfl Try.func44 (by kernel_rfl) rfl #[.agg #[.slice Ao50 x214000_1.length co50, .slice Ao51 x214001_1.length co51]] rfl gl_ ?_; (with_reducible refine (corncribref06_Bytes.calls k1 _ _ x214000_1 _ _ x214001_1 t230 _ ?side1 ?side2 ?side3 ?side4 A46.out).mono ?_); (case side1 => repeat (first | exact (Kd.R_reads' HO_214000.out).2.2 | (with_reducible refine Kd.C_alloc ?_ _) | (with_reducible refine Kd.C_drewN ?_ _) | (with_reducible refine Kd.C_drew ?_))); (case side2 => exact (Kd.R_reads' HO_214000.out).2.1); (case side3 => repeat (first | exact (Kd.R_reads' HO_214001.out).2.2 | (with_reducible refine Kd.C_alloc ?_ _) | (with_reducible refine Kd.C_drewN ?_ _) | (with_reducible refine Kd.C_drew ?_))); (case side4 => exact (Kd.R_reads' HO_214001.out).2.1); rintro e w52 ⟨rfl, hb⟩; refine ⟨_, rfl, ?_⟩; have n0_ := Aside0.mk (Kd.R_below (by (with_reducible repeat (first | apply Kd.R_alloc | apply Kd.R_drewN | apply Kd.R_drew)); exact HO_214000.out) hb); have n1_ := Aside0.mk (Kd.R_below (by (with_reducible repeat (first | apply Kd.R_alloc | apply Kd.R_drewN | apply Kd.R_drew)); exact HO_214001.out) hb); have n2_ := Aside0.mk (bb_ BK205.out hb); have n3_ := Aside0.mk (bb_ BK213.out hb); have n4_ := Aside0.mk (below_step (bel_ HB.out) hb); clear HO_214000; clear HO_214001; clear BK205; clear BK213; clear HB; have HO_214000 := n0_; have HO_214001 := n1_; have BK205 := n2_; have BK213 := n3_; have HB := n4_; clear n0_ n1_ n2_ n3_ n4_; (try clear hb); (try clear hb2); (try clear hk); (try clear hi)))
    go_ret
    exact ⟨by first | rfl | (simp [errW_none, errW_some] <;> rfl) | (simp [*, errW_none, errW_some] <;> rfl), bel_ HB.out⟩
   rw [if_pos c24] at H
   have c24b0 : decide (x4_1 < (l0_8.length : Int)) = true := decide_eq_true c24
   clear c24
   by_cases c25 : 0 ≤ x4_1
   rotate_left
   ·rw [if_neg c25] at H
    exact absurd H (by simp)
   rw [if_pos c25] at H
   have c25b0 : decide (0 ≤ x4_1) = true := decide_eq_true c25
   clear c25
   replace H := Option.bind_eq_some_iff.mp H
   obtain ⟨t218, A260, H⟩ := H
   try dsimp only at H
   have A26 := Aside0.mk A260
   clear A260
   by_cases c27 : x214000_1.length < 17592186044416
   rotate_left
   ·rw [if_neg c27] at H
    exact absurd H (by simp)
   rw [if_pos c27] at H
   have LMc27 := Aside0.mk c27
   clear c27
   obtain ⟨y219, hy219⟩ : ∃ y_ : List Int, y_ = (x214000_1 ++ [t218]) := ⟨_, rfl⟩
   replace H : (if x214001_1.length < 8796093022208 then ((some (x214001_1 ++ [(rd_T50 l0_8 x4_1).f0] : List ByteArray)).bind fun y223 => (if y223.length < 8796093022208 then (corncribref08_Bytes.l0 k1 (wrap64 (x4_1 + 1)) a0_0 a0_1 a0_2 a0_3 a0_4 a0_5 a0_6 l0_7 l0_8 y219 (y223 ++ [(rd_T50 l0_8 x4_1).f1])) else (none))) else (none)) = some r := by first | (rw [hy219]; with_reducible exact H) | (have H2_ := (Option.bind_some _ _).symm.trans H; rw [hy219]; with_reducible exact H2_) | (have H2_ := (Option.bind_some _ _).symm.trans H; with_reducible exact H2_) | with_reducible exact H | (rw [hy219]; exact H) | exact H
   have Ny219 := Aside0.mk hy219
   clear hy219
   by_cases c28 : x214001_1.length < 8796093022208
   rotate_left
   ·rw [if_neg c28] at H
    exact absurd H (by simp)
   rw [if_pos c28] at H
   have LMc28 := Aside0.mk c28
   clear c28
   obtain ⟨y223, hy223⟩ : ∃ y_ : List ByteArray, y_ = (x214001_1 ++ [(rd_T50 l0_8 x4_1).f0]) := ⟨_, rfl⟩
   replace H : (if y223.length < 8796093022208 then (corncribref08_Bytes.l0 k1 (wrap64 (x4_1 + 1)) a0_0 a0_1 a0_2 a0_3 a0_4 a0_5 a0_6 l0_7 l0_8 y219 (y223 ++ [(rd_T50 l0_8 x4_1).f1])) else (none)) = some r := by first | (rw [hy223]; with_reducible exact H) | (have H2_ := (Option.bind_some _ _).symm.trans H; rw [hy223]; with_reducible exact H2_) | (have H2_ := (Option.bind_some _ _).symm.trans H; with_reducible exact H2_) | with_reducible exact H | (rw [hy223]; exact H) | exact H
   have Ny223 := Aside0.mk hy223
   clear hy223
   by_cases c29 : y223.length < 8796093022208
   rotate_left
   ·rw [if_neg c29] at H
    exact absurd H (by simp)
   rw [if_pos c29] at H
   have LMc29 := Aside0.mk c29
   clear c29
   obtain ⟨y227, hy227⟩ : ∃ y_ : List ByteArray, y_ = (y223 ++ [(rd_T50 l0_8 x4_1).f1]) := ⟨_, rfl⟩
   replace H : (corncribref08_Bytes.l0 k1 (wrap64 (x4_1 + 1)) a0_0 a0_1 a0_2 a0_3 a0_4 a0_5 a0_6 l0_7 l0_8 y219 y227) = some r := by first | (rw [hy227]; with_reducible exact H) | (have H2_ := (Option.bind_some _ _).symm.trans H; rw [hy227]; with_reducible exact H2_) | (have H2_ := (Option.bind_some _ _).symm.trans H; with_reducible exact H2_) | with_reducible exact H | (rw [hy227]; exact H) | exact H
   have Ny227 := Aside0.mk hy227
   clear hy227
   have H' := Aside0.mk H
   clear H
   have hnb30 := NB205_213.out
   have hnc30 := NB213_205.out
   obtain ⟨hcz31_0, hfz31_0, hcz31_1, hfz31_1, hcz31_2, hfz31_2, hcz31_3, hfz31_3, hcz31_4, hfz31_4, hcz31_5, hfz31_5, hcz31_6, hfz31_6, hcz31_7, hfz31_7, hcz31_8, hfz31_8⟩ := cfz9 BK205.out
   try go_wp2
   have n0_ := Aside0.mk (Kd.R_drew HO_214000.out)
   have n1_ := Aside0.mk (Kd.R_drew HO_214001.out)
   have n2_ := Aside0.mk (blk_drew BK205.out)
   have n3_ := Aside0.mk (blk_drew BK213.out)
   have n4_ := Aside0.mk (below_drew1 HB.out)
   clear HO_214000
   clear HO_214001
   clear BK205
   clear BK213
   clear HB
   have HO_214000 := n0_
   have HO_214001 := n1_
   have BK205 := n2_
   have BK213 := n3_
   have HB := n4_
   clear n0_ n1_ n2_ n3_ n4_
   have p217 : 0 ≤ (x4_1 : Int) := of_decide_eq_true (by first | (with_reducible assumption) | assumption)
   have q217 : x4_1 < (l0_8.length : Int) := of_decide_eq_true (by first | (with_reducible assumption) | assumption)
   obtain ⟨ad217, e217, hx217_0, hx217_1, hx217_2⟩ := at_T50 HR0_8.out x4_1 p217 q217
   have hw217_2 := hx217_2
   have hw217_1 := hx217_1
   have hw217_0 := hx217_0
   cases e217
   replace hx217_0 := (HB.out.cell (World.block_lt_of_cell? w _ hx217_0)).trans hx217_0
   replace hx217_1 := (HB.out.cell (World.block_lt_of_cell? w _ hx217_1)).trans hx217_1
   replace hx217_2 := (HB.out.cell (World.block_lt_of_cell? w _ hx217_2)).trans hx217_2
   replace p217 := eq_true p217
   replace q217 := eq_true q217
   refine start_ (n := 13) (S := fun w' => w'.cell? ⟨gb213, 0, none⟩ = some (u214000) ∧ w'.cell? ⟨gb213, 1, none⟩ = some (u214001) ∧ w'.cell? ⟨gb205, 0, none⟩ = some (.int .i64 a0_0) ∧ w'.cell? ⟨gb205, 1, none⟩ = some (.int .i64 a0_1) ∧ w'.cell? ⟨gb205, 2, none⟩ = some (.int .i64 a0_2) ∧ w'.cell? ⟨gb205, 3, none⟩ = some (.int .i64 a0_3) ∧ w'.cell? ⟨gb205, 4, none⟩ = some (.string a0_4) ∧ w'.cell? ⟨gb205, 5, none⟩ = some (.string a0_5) ∧ w'.cell? ⟨gb205, 6, none⟩ = some (.bool a0_6) ∧ w'.cell? ⟨gb205, 7, none⟩ = some (.slice A0_7 l0_7.length c0_7) ∧ w'.cell? ⟨gb205, 8, none⟩ = some (.slice (some ad217) l0_8.length c0_8) ∧ w'.cell? (ad217.add ((x4_1).toNat * 3)) = some (.string ((rd_T50 l0_8 x4_1).f0)) ∧ w'.cell? ⟨(ad217.add ((x4_1).toNat * 3)).block, (ad217.add ((x4_1).toNat * 3)).off + 1, none⟩ = some (.string ((rd_T50 l0_8 x4_1).f1)) ∧ w'.cell? ⟨(ad217.add ((x4_1).toNat * 3)).block, (ad217.add ((x4_1).toNat * 3)).off + 2, none⟩ = some (.bool ((rd_T50 l0_8 x4_1).f2))) (ds := [12]) #[F, F, F, F, F, F, F, F, F, F, F, F, F] (by kernel_rfl) rfl rfl ⟨(blk_cell BK213.out 0).trans rfl, (blk_cell BK213.out 1).trans rfl, (blk_cell BK205.out 0).trans rfl, (blk_cell BK205.out 1).trans rfl, (blk_cell BK205.out 2).trans rfl, (blk_cell BK205.out 3).trans rfl, (blk_cell BK205.out 4).trans rfl, (blk_cell BK205.out 5).trans rfl, (blk_cell BK205.out 6).trans rfl, (blk_cell BK205.out 7).trans rfl, (blk_cell BK205.out 8).trans rfl, ((HB.out.cell (World.block_lt_of_cell? w _ hw217_0)).trans hw217_0), ((HB.out.cell (World.block_lt_of_cell? w _ hw217_1)).trans hw217_1), ((HB.out.cell (World.block_lt_of_cell? w _ hw217_2)).trans hw217_2)⟩ (fun hHeld => ?_); refine with_tabW corncribref08_Bytes.tab6 corncribref08_Bytes.bits6 (fun HT_ HW_ => ?_)
   generalize wr.drew = w32 at HO_214000 HO_214001 BK205 BK213 HB hx217_0 hx217_1 hx217_2 hHeld ⊢
   refine pure_ (i := 0) (N := some 39) (v := ?_) (a' := ?_) #[T, F, F, F, F, F, F, F, F, F, F, F, F] rfl rfl (any_of HT_.out (by kernel_rfl)) (fun _ _ _ h => h) (Or.inl ⟨by rfl, ?_⟩) ?_ ?_
   rotate_left
   ·intro w'
    go_simp
    with_reducible rfl
   rotate_left
   ·simp only [Act.put, s1_, s2_, s3_, i64_w, i32_w]
    rfl
   refine pure_ (i := 2) (N := some 41) (v := ?_) (a' := ?_) #[T, F, T, F, F, F, F, F, F, F, F, F, F] rfl rfl (any_of HT_.out (by kernel_rfl)) (fun _ _ _ h => h) (Or.inl ⟨by rfl, ?_⟩) ?_ ?_
   rotate_left
   ·intro w'
    go_simp
    with_reducible rfl
   rotate_left
   ·simp only [Act.put, s1_, s2_, s3_, i64_w, i32_w]
    rfl
   refine pure_ (i := 4) (N := some 43) (v := ?_) (a' := ?_) #[T, F, T, F, T, F, F, F, F, F, F, F, F] rfl rfl (any_of HT_.out (by kernel_rfl)) (fun _ _ _ h => h) (Or.inl ⟨by rfl, ?_⟩) ?_ ?_
   rotate_left
   ·intro w'
    go_simp
    with_reducible rfl
   rotate_left
   ·simp only [Act.put, s1_, s2_, s3_, i64_w, i32_w]
    rfl
   refine take_ (i := 1) (N := some 40) (v := ?_) (a' := ?_) #[T, T, T, F, T, F, F, F, F, F, F, F, F] rfl rfl (take_ofW HT_.out HW_.out (by kernel_rfl)) (fun _ _ _ h => h) (Or.inl ⟨by rfl, ?_⟩) hHeld ?_ ?_
   rotate_left
   ·rintro w' ⟨s0, s1, s2, s3, s4, s5, s6, s7, s8, s9, s10, s11, s12, s13⟩
    go_simp
    with_reducible rfl
   rotate_left
   ·simp only [Act.put, s1_, s2_, s3_, i64_w, i32_w]
    rfl
   refine take_ (i := 3) (N := some 42) (v := ?_) (a' := ?_) #[T, T, T, T, T, F, F, F, F, F, F, F, F] rfl rfl (take_ofW HT_.out HW_.out (by kernel_rfl)) (fun _ _ _ h => h) (Or.inl ⟨by rfl, ?_⟩) hHeld ?_ ?_
   rotate_left
   ·rintro w' ⟨s0, s1, s2, s3, s4, s5, s6, s7, s8, s9, s10, s11, s12, s13⟩
    go_simp
    with_reducible rfl
   rotate_left
   ·simp only [Act.put, s1_, s2_, s3_, i64_w, i32_w]
    rfl
   refine pure_ (i := 5) (N := some 44) (v := ?_) (a' := ?_) #[T, T, T, T, T, T, F, F, F, F, F, F, F] rfl rfl (any_of HT_.out (by kernel_rfl)) (fun _ _ _ h => h) (Or.inl ⟨by rfl, ?_⟩) ?_ ?_
   rotate_left
   ·intro w'
    go_simp
    with_reducible rfl
   rotate_left
   ·simp only [Act.put, s1_, s2_, s3_, i64_w, i32_w]
    rfl
   refine pure_ (i := 6) (N := some 45) (v := ?_) (a' := ?_) #[T, T, T, T, T, T, T, F, F, F, F, F, F] rfl rfl (any_of HT_.out (by kernel_rfl)) (fun _ _ _ h => h) (Or.inl ⟨by rfl, ?_⟩) ?_ ?_
   rotate_left
   ·intro w'
    go_simp
    with_reducible rfl
   rotate_left
   ·simp only [Act.put, s1_, s2_, s3_, i64_w, i32_w]
    rfl
   refine take_ (i := 7) (N := some 46) (v := ?_) (a' := ?_) #[T, T, T, T, T, T, T, T, F, F, F, F, F] rfl rfl (take_ofW HT_.out HW_.out (by kernel_rfl)) (fun _ _ _ h => h) (Or.inl ⟨by rfl, ?_⟩) hHeld ?_ ?_
   rotate_left
   ·rintro w' ⟨s0, s1, s2, s3, s4, s5, s6, s7, s8, s9, s10, s11, s12, s13⟩
    go_simp
    with_reducible rfl
   rotate_left
   ·simp only [Act.put, s1_, s2_, s3_, i64_w, i32_w]
    rfl
   refine one_ (i := 8) (N := some 47) #[T, T, T, T, T, T, T, T, T, F, F, F, F] rfl rfl (one_of HT_.out (by kernel_rfl)) (by decide) (fun K hK => ?_)
   refine goes_ Try.func43 (by kernel_rfl) rfl #[.bool ((rd_T50 l0_8 x4_1).f2)] (by rfl) rfl rfl gl_ ?_
   with_reducible refine (corncribref07_One.calls ((rd_T50 l0_8 x4_1).f2) t218 _ A26.out).mono ?_
   rintro e w' ⟨rfl, ⟨nd, rfl⟩⟩
   refine ⟨_, rfl, ?_⟩
   refine hK.out _ _ ⟨(blk_cell BK213.out 0).trans rfl, (blk_cell BK213.out 1).trans rfl, (blk_cell BK205.out 0).trans rfl, (blk_cell BK205.out 1).trans rfl, (blk_cell BK205.out 2).trans rfl, (blk_cell BK205.out 3).trans rfl, (blk_cell BK205.out 4).trans rfl, (blk_cell BK205.out 5).trans rfl, (blk_cell BK205.out 6).trans rfl, (blk_cell BK205.out 7).trans rfl, (blk_cell BK205.out 8).trans rfl, ((HB.out.cell (World.block_lt_of_cell? w _ hw217_0)).trans hw217_0), ((HB.out.cell (World.block_lt_of_cell? w _ hw217_1)).trans hw217_1), ((HB.out.cell (World.block_lt_of_cell? w _ hw217_2)).trans hw217_2)⟩ (fun hHeld => ?_)
   clear hK K
   refine norm_ (a' := ?_) ?_ ?_
   rotate_left
   ·show Act.put _ (some 47) _ = _
    simp only [Act.put, s1_, s2_, s3_, i64_w, i32_w]
    rfl
   refine one_ (i := 9) (N := some 48) #[T, T, T, T, T, T, T, T, T, T, F, F, F] rfl rfl (one_of HT_.out (by kernel_rfl)) (by decide) (fun K hK => ?_)
   refine value_ (w1 := ?_) (v := ?_) (by rfl) rfl ?_ ?_
   rotate_left 2
   ·go_simp
    constructor
    ·rfl
    ·rfl
   refine hK.out _ _ ⟨(blk_cell (blk_alloc BK213.out _) 0).trans rfl, (blk_cell (blk_alloc BK213.out _) 1).trans rfl, (blk_cell (blk_alloc BK205.out _) 0).trans rfl, (blk_cell (blk_alloc BK205.out _) 1).trans rfl, (blk_cell (blk_alloc BK205.out _) 2).trans rfl, (blk_cell (blk_alloc BK205.out _) 3).trans rfl, (blk_cell (blk_alloc BK205.out _) 4).trans rfl, (blk_cell (blk_alloc BK205.out _) 5).trans rfl, (blk_cell (blk_alloc BK205.out _) 6).trans rfl, (blk_cell (blk_alloc BK205.out _) 7).trans rfl, (blk_cell (blk_alloc BK205.out _) 8).trans rfl, (World.cell?_alloc_lt _ _ _ (World.block_lt_of_cell? _ _ (((HB.out.cell (World.block_lt_of_cell? w _ hw217_0)).trans hw217_0)))).trans (((HB.out.cell (World.block_lt_of_cell? w _ hw217_0)).trans hw217_0)), (World.cell?_alloc_lt _ _ _ (World.block_lt_of_cell? _ _ (((HB.out.cell (World.block_lt_of_cell? w _ hw217_1)).trans hw217_1)))).trans (((HB.out.cell (World.block_lt_of_cell? w _ hw217_1)).trans hw217_1)), (World.cell?_alloc_lt _ _ _ (World.block_lt_of_cell? _ _ (((HB.out.cell (World.block_lt_of_cell? w _ hw217_2)).trans hw217_2)))).trans (((HB.out.cell (World.block_lt_of_cell? w _ hw217_2)).trans hw217_2))⟩ (fun hHeld => ?_)
   clear hK K
   refine norm_ (a' := ?_) ?_ ?_
   rotate_left
   ·show Act.put _ (some 48) _ = _
    simp only [Act.put, s1_, s2_, s3_, i64_w, i32_w]
    rfl
   refine one_ (i := 10) (N := some 49) #[T, T, T, T, T, T, T, T, T, T, T, F, F] rfl rfl (one_of HT_.out (by kernel_rfl)) (by decide) (fun K hK => ?_)
   refine Kd.R_append_step (Kd.int .i64) (w0 := w) w.heap.size (by rfl) (.tmp 40) (.tmp 48) 46 3 (.int .i64 0) 8 rfl Try.underlying46 info3 rfl (by decide) (by omega) u214000 x214000_1 t218 [.int .i64 t218] (fun _ => True) (fun _ => False) rfl rfl ?aP (fun _ hk => hk.elim) ?aF ?aO ?aB ?aS ?aL ?_
   (case aP => exact rfl)
   (case aB => exact (bel_ HB.out))
   (case aF => exact (fun _ _ => trivial))
   (case aO => exact (by (with_reducible repeat (first | apply Kd.R_alloc | apply Kd.R_drewN | apply Kd.R_drew)); exact HO_214000.out))
   (case aS => exact (below_size (bel_ HB.out)))
   (case aL => have := LMc27.out; omega)
   intro v220 w33 ho hb hg hat
   rw [← Ny219.out] at ho
   have n0_ := Aside0.mk (Kd.R_over' (by (with_reducible repeat (first | apply Kd.R_alloc | apply Kd.R_drewN | apply Kd.R_drew)); exact HO_214001.out) (Kd.R_typed (by (with_reducible repeat (first | apply Kd.R_alloc | apply Kd.R_drewN | apply Kd.R_drew)); exact HO_214000.out)) (by decide) hg)
   have n1_ := Aside0.mk (blk_grown (g := gb205) (o := .cells #[.int .i64 a0_0, .int .i64 a0_1, .int .i64 a0_2, .int .i64 a0_3, .string a0_4, .string a0_5, .bool a0_6, .slice A0_7 l0_7.length c0_7, .slice (some ad217) l0_8.length c0_8] 25 (0, 0)) (peel_ BK205.out) hg (Kd.R_ne HO_214000.out BK205.out (by decide)))
   have n2_ := Aside0.mk (blk_grown (g := gb213) (o := .cells #[u214000, u214001] 48 (0, 0)) (peel_ BK213.out) hg (Kd.R_ne HO_214000.out BK213.out (by decide)))
   have n3_ := Aside0.mk (hb)
   have n4_ := Aside0.mk (ho)
   clear HO_214001
   clear BK205
   clear BK213
   clear HB
   clear HO_214000
   have HO_214001 := n0_
   have BK205 := n1_
   have BK213 := n2_
   have HB := n3_
   have HO221 := n4_
   clear n0_ n1_ n2_ n3_ n4_
   clear ho hb hg hat
   obtain ⟨Ao34, co34, eo34⟩ := Kd.R_slice HO221.out
   (first | subst eo34 | (injection eo34 with f1_ f2_ f3_; have f4_ := f1_.symm; have f5_ := f3_.symm; clear f1_ f2_ f3_; subst f4_; subst f5_))
   refine hK.out _ _ ⟨(blk_cell BK213.out 0).trans rfl, (blk_cell BK213.out 1).trans rfl, (blk_cell BK205.out 0).trans rfl, (blk_cell BK205.out 1).trans rfl, (blk_cell BK205.out 2).trans rfl, (blk_cell BK205.out 3).trans rfl, (blk_cell BK205.out 4).trans rfl, (blk_cell BK205.out 5).trans rfl, (blk_cell BK205.out 6).trans rfl, (blk_cell BK205.out 7).trans rfl, (blk_cell BK205.out 8).trans rfl, ((HB.out.cell (World.block_lt_of_cell? w _ hw217_0)).trans hw217_0), ((HB.out.cell (World.block_lt_of_cell? w _ hw217_1)).trans hw217_1), ((HB.out.cell (World.block_lt_of_cell? w _ hw217_2)).trans hw217_2)⟩ (fun hHeld => ?_)
   clear hK K
   refine norm_ (a' := ?_) ?_ ?_
   rotate_left
   ·show Act.put _ (some 49) _ = _
    simp only [Act.put, s1_, s2_, s3_, i64_w, i32_w]
    rfl
   refine pure_ (i := 11) (N := some 50) (v := ?_) (a' := ?_) #[T, T, T, T, T, T, T, T, T, T, T, T, F] rfl rfl (any_of HT_.out (by kernel_rfl)) (fun _ _ _ h => h) (Or.inl ⟨by rfl, ?_⟩) ?_ ?_
   rotate_left
   ·intro w'
    go_simp
    with_reducible rfl
   rotate_left
   ·simp only [Act.put, s1_, s2_, s3_, i64_w, i32_w]
    rfl
   refine last_ (i := 12) (N := none) #[T, T, T, T, T, T, T, T, T, T, T, T, T] rfl rfl (one_of HT_.out (by kernel_rfl)) (by decide) (fun K hK => ?_)
   have hs35 : w33.cell? ⟨gb213, 0, none⟩ = some (u214000) := (blk_cell BK213.out 0).trans rfl
   have hfs35 := blk_frozen BK213.out 0
   have hns35_0 := NB205_213.out
   have hms35_0 := NB213_205.out
   refine skip_ (w1 := ?_) (by rfl) rfl ?_ ?_
   rotate_left
   ·go_simp
    rfl
   refine hK.out _ _ ?_
   clear hK K
   refine done_ (done_of HT_.out (by kernel_rfl)) ?_
   try go_wp2
   have n0_ : Aside0 (Kd.R Kd.string 9 (w33.setCell ⟨gb213, 0, none⟩ (.slice Ao34 y219.length co34)) w.heap.size (fun _ => True) u214001 x214001_1) := ⟨by (with_reducible repeat (first | apply Kd.R_alloc | apply Kd.R_drewN | apply Kd.R_drew)); exact Kd.R_mono (Kd.R_far (p := ⟨gb213, 0, none⟩) (Kd.R_types HO_214001.out BK213.out (by decide)) (fun _ hk => hk.2) (.slice Ao34 y219.length co34)) (fun _ hk => trivial)⟩
   have n1_ : Aside0 (Kd.R (Kd.int .i64) 3 (w33.setCell ⟨gb213, 0, none⟩ (.slice Ao34 y219.length co34)) w.heap.size (fun _ => True) (.slice Ao34 y219.length co34) y219) := ⟨by (with_reducible repeat (first | apply Kd.R_alloc | apply Kd.R_drewN | apply Kd.R_drew)); exact Kd.R_mono (Kd.R_far (p := ⟨gb213, 0, none⟩) (Kd.R_types HO221.out BK213.out (by decide)) (fun _ hk => hk.2) (.slice Ao34 y219.length co34)) (fun _ hk => trivial)⟩
   have n2_ : Aside0 ((w33.setCell ⟨gb213, 0, none⟩ (.slice Ao34 y219.length co34)).heap[gb205]? = some (.cells #[.int .i64 a0_0, .int .i64 a0_1, .int .i64 a0_2, .int .i64 a0_3, .string a0_4, .string a0_5, .bool a0_6, .slice A0_7 l0_7.length c0_7, .slice (some ad217) l0_8.length c0_8] 25 (0, 0))) := ⟨by (with_reducible repeat (first | refine blk_drewN ?_ _ | refine blk_drew ?_ | refine blk_alloc ?_ _)); refine blk_far ?_ NB205_213.out _; (with_reducible repeat (first | refine blk_drewN ?_ _ | refine blk_drew ?_ | refine blk_alloc ?_ _)); exact BK205.out⟩
   have n3_ : Aside0 ((w33.setCell ⟨gb213, 0, none⟩ (.slice Ao34 y219.length co34)).heap[gb213]? = some (.cells #[.slice Ao34 y219.length co34, u214001] 48 (0, 0))) := ⟨by (with_reducible repeat (first | refine blk_drewN ?_ _ | refine blk_drew ?_ | refine blk_alloc ?_ _)); refine blk_put (cs := #[u214000, u214001]) ?_ 0 _ rfl; (with_reducible repeat (first | refine blk_drewN ?_ _ | refine blk_drew ?_ | refine blk_alloc ?_ _)); exact BK213.out⟩
   have n4_ : Aside0 (Below w.heap.size w (w33.setCell ⟨gb213, 0, none⟩ (.slice Ao34 y219.length co34))) := ⟨bel_ HB.out⟩
   (try clear HO_214001)
   (try clear HO221)
   (try clear BK205)
   (try clear BK213)
   (try clear HB)
   generalize (w33.setCell ⟨gb213, 0, none⟩ (.slice Ao34 y219.length co34)) = w36 at n0_ n1_ n2_ n3_ n4_ ⊢
   have HO_214001 := n0_
   have HO221 := n1_
   have BK205 := n2_
   have BK213 := n3_
   have HB := n4_
   clear n0_ n1_ n2_ n3_ n4_
   have n0_ := Aside0.mk (Kd.R_drew HO_214001.out)
   have n1_ := Aside0.mk (Kd.R_drew HO221.out)
   have n2_ := Aside0.mk (blk_drew BK205.out)
   have n3_ := Aside0.mk (blk_drew BK213.out)
   have n4_ := Aside0.mk (below_drew1 HB.out)
   clear HO_214001
   clear HO221
   clear BK205
   clear BK213
   clear HB
   have HO_214001 := n0_
   have HO221 := n1_
   have BK205 := n2_
   have BK213 := n3_
   have HB := n4_
   clear n0_ n1_ n2_ n3_ n4_
   have p222 : 0 ≤ (x4_1 : Int) := of_decide_eq_true (by first | (with_reducible assumption) | assumption)
   have q222 : x4_1 < (l0_8.length : Int) := of_decide_eq_true (by first | (with_reducible assumption) | assumption)
   obtain ⟨ad222, e222, hx222_0, hx222_1, hx222_2⟩ := at_T50 HR0_8.out x4_1 p222 q222
   have hw222_2 := hx222_2
   have hw222_1 := hx222_1
   have hw222_0 := hx222_0
   obtain rfl : ad217 = ad222 := (by injection e222)
   replace hx222_0 := (HB.out.cell (World.block_lt_of_cell? w _ hx222_0)).trans hx222_0
   replace hx222_1 := (HB.out.cell (World.block_lt_of_cell? w _ hx222_1)).trans hx222_1
   replace hx222_2 := (HB.out.cell (World.block_lt_of_cell? w _ hx222_2)).trans hx222_2
   replace p222 := eq_true p222
   replace q222 := eq_true q222
   refine start_ (n := 12) (S := fun w' => w'.cell? ⟨gb213, 0, none⟩ = some (.slice Ao34 y219.length co34) ∧ w'.cell? ⟨gb213, 1, none⟩ = some (u214001) ∧ w'.cell? ⟨gb205, 0, none⟩ = some (.int .i64 a0_0) ∧ w'.cell? ⟨gb205, 1, none⟩ = some (.int .i64 a0_1) ∧ w'.cell? ⟨gb205, 2, none⟩ = some (.int .i64 a0_2) ∧ w'.cell? ⟨gb205, 3, none⟩ = some (.int .i64 a0_3) ∧ w'.cell? ⟨gb205, 4, none⟩ = some (.string a0_4) ∧ w'.cell? ⟨gb205, 5, none⟩ = some (.string a0_5) ∧ w'.cell? ⟨gb205, 6, none⟩ = some (.bool a0_6) ∧ w'.cell? ⟨gb205, 7, none⟩ = some (.slice A0_7 l0_7.length c0_7) ∧ w'.cell? ⟨gb205, 8, none⟩ = some (.slice (some ad217) l0_8.length c0_8) ∧ w'.cell? (ad217.add ((x4_1).toNat * 3)) = some (.string ((rd_T50 l0_8 x4_1).f0)) ∧ w'.cell? ⟨(ad217.add ((x4_1).toNat * 3)).block, (ad217.add ((x4_1).toNat * 3)).off + 1, none⟩ = some (.string ((rd_T50 l0_8 x4_1).f1)) ∧ w'.cell? ⟨(ad217.add ((x4_1).toNat * 3)).block, (ad217.add ((x4_1).toNat * 3)).off + 2, none⟩ = some (.bool ((rd_T50 l0_8 x4_1).f2))) (ds := [11]) #[F, F, F, F, F, F, F, F, F, F, F, F] (by kernel_rfl) rfl rfl ⟨(blk_cell BK213.out 0).trans rfl, (blk_cell BK213.out 1).trans rfl, (blk_cell BK205.out 0).trans rfl, (blk_cell BK205.out 1).trans rfl, (blk_cell BK205.out 2).trans rfl, (blk_cell BK205.out 3).trans rfl, (blk_cell BK205.out 4).trans rfl, (blk_cell BK205.out 5).trans rfl, (blk_cell BK205.out 6).trans rfl, (blk_cell BK205.out 7).trans rfl, (blk_cell BK205.out 8).trans rfl, ((HB.out.cell (World.block_lt_of_cell? w _ hw222_0)).trans hw222_0), ((HB.out.cell (World.block_lt_of_cell? w _ hw222_1)).trans hw222_1), ((HB.out.cell (World.block_lt_of_cell? w _ hw222_2)).trans hw222_2)⟩ (fun hHeld => ?_); refine with_tabW corncribref08_Bytes.tab7 corncribref08_Bytes.bits7 (fun HT_ HW_ => ?_)
   generalize w36.drew = w37 at HO_214001 HO221 BK205 BK213 HB hx222_0 hx222_1 hx222_2 hHeld ⊢
   refine pure_ (i := 0) (N := some 51) (v := ?_) (a' := ?_) #[T, F, F, F, F, F, F, F, F, F, F, F] rfl rfl (any_of HT_.out (by kernel_rfl)) (fun _ _ _ h => h) (Or.inl ⟨by rfl, ?_⟩) ?_ ?_
   rotate_left
   ·intro w'
    go_simp
    with_reducible rfl
   rotate_left
   ·simp only [Act.put, s1_, s2_, s3_, i64_w, i32_w]
    rfl
   refine pure_ (i := 2) (N := some 53) (v := ?_) (a' := ?_) #[T, F, T, F, F, F, F, F, F, F, F, F] rfl rfl (any_of HT_.out (by kernel_rfl)) (fun _ _ _ h => h) (Or.inl ⟨by rfl, ?_⟩) ?_ ?_
   rotate_left
   ·intro w'
    go_simp
    with_reducible rfl
   rotate_left
   ·simp only [Act.put, s1_, s2_, s3_, i64_w, i32_w]
    rfl
   refine pure_ (i := 4) (N := some 55) (v := ?_) (a' := ?_) #[T, F, T, F, T, F, F, F, F, F, F, F] rfl rfl (any_of HT_.out (by kernel_rfl)) (fun _ _ _ h => h) (Or.inl ⟨by rfl, ?_⟩) ?_ ?_
   rotate_left
   ·intro w'
    go_simp
    with_reducible rfl
   rotate_left
   ·simp only [Act.put, s1_, s2_, s3_, i64_w, i32_w]
    rfl
   refine take_ (i := 1) (N := some 52) (v := ?_) (a' := ?_) #[T, T, T, F, T, F, F, F, F, F, F, F] rfl rfl (take_ofW HT_.out HW_.out (by kernel_rfl)) (fun _ _ _ h => h) (Or.inl ⟨by rfl, ?_⟩) hHeld ?_ ?_
   rotate_left
   ·rintro w' ⟨s0, s1, s2, s3, s4, s5, s6, s7, s8, s9, s10, s11, s12, s13⟩
    go_simp
    with_reducible rfl
   rotate_left
   ·simp only [Act.put, s1_, s2_, s3_, i64_w, i32_w]
    rfl
   refine take_ (i := 3) (N := some 54) (v := ?_) (a' := ?_) #[T, T, T, T, T, F, F, F, F, F, F, F] rfl rfl (take_ofW HT_.out HW_.out (by kernel_rfl)) (fun _ _ _ h => h) (Or.inl ⟨by rfl, ?_⟩) hHeld ?_ ?_
   rotate_left
   ·rintro w' ⟨s0, s1, s2, s3, s4, s5, s6, s7, s8, s9, s10, s11, s12, s13⟩
    go_simp
    with_reducible rfl
   rotate_left
   ·simp only [Act.put, s1_, s2_, s3_, i64_w, i32_w]
    rfl
   refine pure_ (i := 5) (N := some 56) (v := ?_) (a' := ?_) #[T, T, T, T, T, T, F, F, F, F, F, F] rfl rfl (any_of HT_.out (by kernel_rfl)) (fun _ _ _ h => h) (Or.inl ⟨by rfl, ?_⟩) ?_ ?_
   rotate_left
   ·intro w'
    go_simp
    with_reducible rfl
   rotate_left
   ·simp only [Act.put, s1_, s2_, s3_, i64_w, i32_w]
    rfl
   refine pure_ (i := 6) (N := some 57) (v := ?_) (a' := ?_) #[T, T, T, T, T, T, T, F, F, F, F, F] rfl rfl (any_of HT_.out (by kernel_rfl)) (fun _ _ _ h => h) (Or.inl ⟨by rfl, ?_⟩) ?_ ?_
   rotate_left
   ·intro w'
    go_simp
    with_reducible rfl
   rotate_left
   ·simp only [Act.put, s1_, s2_, s3_, i64_w, i32_w]
    rfl
   refine take_ (i := 7) (N := some 58) (v := ?_) (a' := ?_) #[T, T, T, T, T, T, T, T, F, F, F, F] rfl rfl (take_ofW HT_.out HW_.out (by kernel_rfl)) (fun _ _ _ h => h) (Or.inl ⟨by rfl, ?_⟩) hHeld ?_ ?_
   rotate_left
   ·rintro w' ⟨s0, s1, s2, s3, s4, s5, s6, s7, s8, s9, s10, s11, s12, s13⟩
    go_simp
    with_reducible rfl
   rotate_left
   ·simp only [Act.put, s1_, s2_, s3_, i64_w, i32_w]
    rfl
   refine one_ (i := 8) (N := some 59) #[T, T, T, T, T, T, T, T, T, F, F, F] rfl rfl (one_of HT_.out (by kernel_rfl)) (by decide) (fun K hK => ?_)
   refine value_ (w1 := ?_) (v := ?_) (by rfl) rfl ?_ ?_
   rotate_left 2
   ·go_simp
    constructor
    ·rfl
    ·rfl
   refine hK.out _ _ ⟨(blk_cell (blk_alloc BK213.out _) 0).trans rfl, (blk_cell (blk_alloc BK213.out _) 1).trans rfl, (blk_cell (blk_alloc BK205.out _) 0).trans rfl, (blk_cell (blk_alloc BK205.out _) 1).trans rfl, (blk_cell (blk_alloc BK205.out _) 2).trans rfl, (blk_cell (blk_alloc BK205.out _) 3).trans rfl, (blk_cell (blk_alloc BK205.out _) 4).trans rfl, (blk_cell (blk_alloc BK205.out _) 5).trans rfl, (blk_cell (blk_alloc BK205.out _) 6).trans rfl, (blk_cell (blk_alloc BK205.out _) 7).trans rfl, (blk_cell (blk_alloc BK205.out _) 8).trans rfl, (World.cell?_alloc_lt _ _ _ (World.block_lt_of_cell? _ _ (((HB.out.cell (World.block_lt_of_cell? w _ hw222_0)).trans hw222_0)))).trans (((HB.out.cell (World.block_lt_of_cell? w _ hw222_0)).trans hw222_0)), (World.cell?_alloc_lt _ _ _ (World.block_lt_of_cell? _ _ (((HB.out.cell (World.block_lt_of_cell? w _ hw222_1)).trans hw222_1)))).trans (((HB.out.cell (World.block_lt_of_cell? w _ hw222_1)).trans hw222_1)), (World.cell?_alloc_lt _ _ _ (World.block_lt_of_cell? _ _ (((HB.out.cell (World.block_lt_of_cell? w _ hw222_2)).trans hw222_2)))).trans (((HB.out.cell (World.block_lt_of_cell? w _ hw222_2)).trans hw222_2))⟩ (fun hHeld => ?_)
   clear hK K
   refine norm_ (a' := ?_) ?_ ?_
   rotate_left
   ·show Act.put _ (some 59) _ = _
    simp only [Act.put, s1_, s2_, s3_, i64_w, i32_w]
    rfl
   refine one_ (i := 9) (N := some 60) #[T, T, T, T, T, T, T, T, T, T, F, F] rfl rfl (one_of HT_.out (by kernel_rfl)) (by decide) (fun K hK => ?_)
   refine Kd.R_append_step Kd.string (w0 := w) w.heap.size (by rfl) (.tmp 52) (.tmp 59) 22 9 (.string ⟨#[]⟩) 16 rfl Try.underlying22 info9 rfl (by decide) (by omega) u214001 x214001_1 ((rd_T50 l0_8 x4_1).f0) [.string ((rd_T50 l0_8 x4_1).f0)] (fun _ => True) (fun _ => False) rfl rfl ?aP (fun _ hk => hk.elim) ?aF ?aO ?aB ?aS ?aL ?_
   (case aP => exact rfl)
   (case aB => exact (bel_ HB.out))
   (case aF => exact (fun _ _ => trivial))
   (case aO => exact (by (with_reducible repeat (first | apply Kd.R_alloc | apply Kd.R_drewN | apply Kd.R_drew)); exact HO_214001.out))
   (case aS => exact (below_size (bel_ HB.out)))
   (case aL => have := LMc28.out; omega)
   intro v224 w38 ho hb hg hat
   rw [← Ny223.out] at ho
   have n0_ := Aside0.mk (blk_grown (g := gb205) (o := .cells #[.int .i64 a0_0, .int .i64 a0_1, .int .i64 a0_2, .int .i64 a0_3, .string a0_4, .string a0_5, .bool a0_6, .slice A0_7 l0_7.length c0_7, .slice (some ad217) l0_8.length c0_8] 25 (0, 0)) (peel_ BK205.out) hg (Kd.R_ne HO_214001.out BK205.out (by decide)))
   have n1_ := Aside0.mk (blk_grown (g := gb213) (o := .cells #[.slice Ao34 y219.length co34, u214001] 48 (0, 0)) (peel_ BK213.out) hg (Kd.R_ne HO_214001.out BK213.out (by decide)))
   have n2_ := Aside0.mk (Kd.R_over' (by (with_reducible repeat (first | apply Kd.R_alloc | apply Kd.R_drewN | apply Kd.R_drew)); exact HO221.out) (Kd.R_typed (by (with_reducible repeat (first | apply Kd.R_alloc | apply Kd.R_drewN | apply Kd.R_drew)); exact HO_214001.out)) (by decide) hg)
   have n3_ := Aside0.mk (hb)
   have n4_ := Aside0.mk (ho)
   clear BK205
   clear BK213
   clear HO221
   clear HB
   clear HO_214001
   have BK205 := n0_
   have BK213 := n1_
   have HO221 := n2_
   have HB := n3_
   have HO225 := n4_
   clear n0_ n1_ n2_ n3_ n4_
   clear ho hb hg hat
   obtain ⟨Ao39, co39, eo39⟩ := Kd.R_slice HO225.out
   (first | subst eo39 | (injection eo39 with f1_ f2_ f3_; have f4_ := f1_.symm; have f5_ := f3_.symm; clear f1_ f2_ f3_; subst f4_; subst f5_))
   refine hK.out _ _ ⟨(blk_cell BK213.out 0).trans rfl, (blk_cell BK213.out 1).trans rfl, (blk_cell BK205.out 0).trans rfl, (blk_cell BK205.out 1).trans rfl, (blk_cell BK205.out 2).trans rfl, (blk_cell BK205.out 3).trans rfl, (blk_cell BK205.out 4).trans rfl, (blk_cell BK205.out 5).trans rfl, (blk_cell BK205.out 6).trans rfl, (blk_cell BK205.out 7).trans rfl, (blk_cell BK205.out 8).trans rfl, ((HB.out.cell (World.block_lt_of_cell? w _ hw222_0)).trans hw222_0), ((HB.out.cell (World.block_lt_of_cell? w _ hw222_1)).trans hw222_1), ((HB.out.cell (World.block_lt_of_cell? w _ hw222_2)).trans hw222_2)⟩ (fun hHeld => ?_)
   clear hK K
   refine norm_ (a' := ?_) ?_ ?_
   rotate_left
   ·show Act.put _ (some 60) _ = _
    simp only [Act.put, s1_, s2_, s3_, i64_w, i32_w]
    rfl
   refine pure_ (i := 10) (N := some 61) (v := ?_) (a' := ?_) #[T, T, T, T, T, T, T, T, T, T, T, F] rfl rfl (any_of HT_.out (by kernel_rfl)) (fun _ _ _ h => h) (Or.inl ⟨by rfl, ?_⟩) ?_ ?_
   rotate_left
   ·intro w'
    go_simp
    with_reducible rfl
   rotate_left
   ·simp only [Act.put, s1_, s2_, s3_, i64_w, i32_w]
    rfl
   refine last_ (i := 11) (N := none) #[T, T, T, T, T, T, T, T, T, T, T, T] rfl rfl (one_of HT_.out (by kernel_rfl)) (by decide) (fun K hK => ?_)
   have hs40 : w38.cell? ⟨gb213, 1, none⟩ = some (u214001) := (blk_cell BK213.out 1).trans rfl
   have hfs40 := blk_frozen BK213.out 1
   have hns40_0 := NB205_213.out
   have hms40_0 := NB213_205.out
   refine skip_ (w1 := ?_) (by rfl) rfl ?_ ?_
   rotate_left
   ·go_simp
    rfl
   refine hK.out _ _ ?_
   clear hK K
   refine done_ (done_of HT_.out (by kernel_rfl)) ?_
   try go_wp2
   have n0_ : Aside0 (Kd.R (Kd.int .i64) 3 (w38.setCell ⟨gb213, 1, none⟩ (.slice Ao39 y223.length co39)) w.heap.size (fun _ => True) (.slice Ao34 y219.length co34) y219) := ⟨by (with_reducible repeat (first | apply Kd.R_alloc | apply Kd.R_drewN | apply Kd.R_drew)); exact Kd.R_mono (Kd.R_far (p := ⟨gb213, 1, none⟩) (Kd.R_types HO221.out BK213.out (by decide)) (fun _ hk => hk.2) (.slice Ao39 y223.length co39)) (fun _ hk => trivial)⟩
   have n1_ : Aside0 (Kd.R Kd.string 9 (w38.setCell ⟨gb213, 1, none⟩ (.slice Ao39 y223.length co39)) w.heap.size (fun _ => True) (.slice Ao39 y223.length co39) y223) := ⟨by (with_reducible repeat (first | apply Kd.R_alloc | apply Kd.R_drewN | apply Kd.R_drew)); exact Kd.R_mono (Kd.R_far (p := ⟨gb213, 1, none⟩) (Kd.R_types HO225.out BK213.out (by decide)) (fun _ hk => hk.2) (.slice Ao39 y223.length co39)) (fun _ hk => trivial)⟩
   have n2_ : Aside0 ((w38.setCell ⟨gb213, 1, none⟩ (.slice Ao39 y223.length co39)).heap[gb205]? = some (.cells #[.int .i64 a0_0, .int .i64 a0_1, .int .i64 a0_2, .int .i64 a0_3, .string a0_4, .string a0_5, .bool a0_6, .slice A0_7 l0_7.length c0_7, .slice (some ad217) l0_8.length c0_8] 25 (0, 0))) := ⟨by (with_reducible repeat (first | refine blk_drewN ?_ _ | refine blk_drew ?_ | refine blk_alloc ?_ _)); refine blk_far ?_ NB205_213.out _; (with_reducible repeat (first | refine blk_drewN ?_ _ | refine blk_drew ?_ | refine blk_alloc ?_ _)); exact BK205.out⟩
   have n3_ : Aside0 ((w38.setCell ⟨gb213, 1, none⟩ (.slice Ao39 y223.length co39)).heap[gb213]? = some (.cells #[.slice Ao34 y219.length co34, .slice Ao39 y223.length co39] 48 (0, 0))) := ⟨by (with_reducible repeat (first | refine blk_drewN ?_ _ | refine blk_drew ?_ | refine blk_alloc ?_ _)); refine blk_put (cs := #[.slice Ao34 y219.length co34, u214001]) ?_ 1 _ rfl; (with_reducible repeat (first | refine blk_drewN ?_ _ | refine blk_drew ?_ | refine blk_alloc ?_ _)); exact BK213.out⟩
   have n4_ : Aside0 (Below w.heap.size w (w38.setCell ⟨gb213, 1, none⟩ (.slice Ao39 y223.length co39))) := ⟨bel_ HB.out⟩
   (try clear HO221)
   (try clear HO225)
   (try clear BK205)
   (try clear BK213)
   (try clear HB)
   generalize (w38.setCell ⟨gb213, 1, none⟩ (.slice Ao39 y223.length co39)) = w41 at n0_ n1_ n2_ n3_ n4_ ⊢
   have HO221 := n0_
   have HO225 := n1_
   have BK205 := n2_
   have BK213 := n3_
   have HB := n4_
   clear n0_ n1_ n2_ n3_ n4_
   have n0_ := Aside0.mk (Kd.R_drew HO221.out)
   have n1_ := Aside0.mk (Kd.R_drew HO225.out)
   have n2_ := Aside0.mk (blk_drew BK205.out)
   have n3_ := Aside0.mk (blk_drew BK213.out)
   have n4_ := Aside0.mk (below_drew1 HB.out)
   clear HO221
   clear HO225
   clear BK205
   clear BK213
   clear HB
   have HO221 := n0_
   have HO225 := n1_
   have BK205 := n2_
   have BK213 := n3_
   have HB := n4_
   clear n0_ n1_ n2_ n3_ n4_
   have p226 : 0 ≤ (x4_1 : Int) := of_decide_eq_true (by first | (with_reducible assumption) | assumption)
   have q226 : x4_1 < (l0_8.length : Int) := of_decide_eq_true (by first | (with_reducible assumption) | assumption)
   obtain ⟨ad226, e226, hx226_0, hx226_1, hx226_2⟩ := at_T50 HR0_8.out x4_1 p226 q226
   have hw226_2 := hx226_2
   have hw226_1 := hx226_1
   have hw226_0 := hx226_0
   obtain rfl : ad217 = ad226 := (by injection e226)
   replace hx226_0 := (HB.out.cell (World.block_lt_of_cell? w _ hx226_0)).trans hx226_0
   replace hx226_1 := (HB.out.cell (World.block_lt_of_cell? w _ hx226_1)).trans hx226_1
   replace hx226_2 := (HB.out.cell (World.block_lt_of_cell? w _ hx226_2)).trans hx226_2
   replace p226 := eq_true p226
   replace q226 := eq_true q226
   refine start_ (n := 12) (S := fun w' => w'.cell? ⟨gb213, 0, none⟩ = some (.slice Ao34 y219.length co34) ∧ w'.cell? ⟨gb213, 1, none⟩ = some (.slice Ao39 y223.length co39) ∧ w'.cell? ⟨gb205, 0, none⟩ = some (.int .i64 a0_0) ∧ w'.cell? ⟨gb205, 1, none⟩ = some (.int .i64 a0_1) ∧ w'.cell? ⟨gb205, 2, none⟩ = some (.int .i64 a0_2) ∧ w'.cell? ⟨gb205, 3, none⟩ = some (.int .i64 a0_3) ∧ w'.cell? ⟨gb205, 4, none⟩ = some (.string a0_4) ∧ w'.cell? ⟨gb205, 5, none⟩ = some (.string a0_5) ∧ w'.cell? ⟨gb205, 6, none⟩ = some (.bool a0_6) ∧ w'.cell? ⟨gb205, 7, none⟩ = some (.slice A0_7 l0_7.length c0_7) ∧ w'.cell? ⟨gb205, 8, none⟩ = some (.slice (some ad217) l0_8.length c0_8) ∧ w'.cell? (ad217.add ((x4_1).toNat * 3)) = some (.string ((rd_T50 l0_8 x4_1).f0)) ∧ w'.cell? ⟨(ad217.add ((x4_1).toNat * 3)).block, (ad217.add ((x4_1).toNat * 3)).off + 1, none⟩ = some (.string ((rd_T50 l0_8 x4_1).f1)) ∧ w'.cell? ⟨(ad217.add ((x4_1).toNat * 3)).block, (ad217.add ((x4_1).toNat * 3)).off + 2, none⟩ = some (.bool ((rd_T50 l0_8 x4_1).f2))) (ds := [11]) #[F, F, F, F, F, F, F, F, F, F, F, F] (by kernel_rfl) rfl rfl ⟨(blk_cell BK213.out 0).trans rfl, (blk_cell BK213.out 1).trans rfl, (blk_cell BK205.out 0).trans rfl, (blk_cell BK205.out 1).trans rfl, (blk_cell BK205.out 2).trans rfl, (blk_cell BK205.out 3).trans rfl, (blk_cell BK205.out 4).trans rfl, (blk_cell BK205.out 5).trans rfl, (blk_cell BK205.out 6).trans rfl, (blk_cell BK205.out 7).trans rfl, (blk_cell BK205.out 8).trans rfl, ((HB.out.cell (World.block_lt_of_cell? w _ hw226_0)).trans hw226_0), ((HB.out.cell (World.block_lt_of_cell? w _ hw226_1)).trans hw226_1), ((HB.out.cell (World.block_lt_of_cell? w _ hw226_2)).trans hw226_2)⟩ (fun hHeld => ?_); refine with_tabW corncribref08_Bytes.tab8 corncribref08_Bytes.bits8 (fun HT_ HW_ => ?_)
   generalize w41.drew = w42 at HO221 HO225 BK205 BK213 HB hx226_0 hx226_1 hx226_2 hHeld ⊢
   refine pure_ (i := 0) (N := some 62) (v := ?_) (a' := ?_) #[T, F, F, F, F, F, F, F, F, F, F, F] rfl rfl (any_of HT_.out (by kernel_rfl)) (fun _ _ _ h => h) (Or.inl ⟨by rfl, ?_⟩) ?_ ?_
   rotate_left
   ·intro w'
    go_simp
    with_reducible rfl
   rotate_left
   ·simp only [Act.put, s1_, s2_, s3_, i64_w, i32_w]
    rfl
   refine pure_ (i := 2) (N := some 64) (v := ?_) (a' := ?_) #[T, F, T, F, F, F, F, F, F, F, F, F] rfl rfl (any_of HT_.out (by kernel_rfl)) (fun _ _ _ h => h) (Or.inl ⟨by rfl, ?_⟩) ?_ ?_
   rotate_left
   ·intro w'
    go_simp
    with_reducible rfl
   rotate_left
   ·simp only [Act.put, s1_, s2_, s3_, i64_w, i32_w]
    rfl
   refine pure_ (i := 4) (N := some 66) (v := ?_) (a' := ?_) #[T, F, T, F, T, F, F, F, F, F, F, F] rfl rfl (any_of HT_.out (by kernel_rfl)) (fun _ _ _ h => h) (Or.inl ⟨by rfl, ?_⟩) ?_ ?_
   rotate_left
   ·intro w'
    go_simp
    with_reducible rfl
   rotate_left
   ·simp only [Act.put, s1_, s2_, s3_, i64_w, i32_w]
    rfl
   refine take_ (i := 1) (N := some 63) (v := ?_) (a' := ?_) #[T, T, T, F, T, F, F, F, F, F, F, F] rfl rfl (take_ofW HT_.out HW_.out (by kernel_rfl)) (fun _ _ _ h => h) (Or.inl ⟨by rfl, ?_⟩) hHeld ?_ ?_
   rotate_left
   ·rintro w' ⟨s0, s1, s2, s3, s4, s5, s6, s7, s8, s9, s10, s11, s12, s13⟩
    go_simp
    with_reducible rfl
   rotate_left
   ·simp only [Act.put, s1_, s2_, s3_, i64_w, i32_w]
    rfl
   refine take_ (i := 3) (N := some 65) (v := ?_) (a' := ?_) #[T, T, T, T, T, F, F, F, F, F, F, F] rfl rfl (take_ofW HT_.out HW_.out (by kernel_rfl)) (fun _ _ _ h => h) (Or.inl ⟨by rfl, ?_⟩) hHeld ?_ ?_
   rotate_left
   ·rintro w' ⟨s0, s1, s2, s3, s4, s5, s6, s7, s8, s9, s10, s11, s12, s13⟩
    go_simp
    with_reducible rfl
   rotate_left
   ·simp only [Act.put, s1_, s2_, s3_, i64_w, i32_w]
    rfl
   refine pure_ (i := 5) (N := some 67) (v := ?_) (a' := ?_) #[T, T, T, T, T, T, F, F, F, F, F, F] rfl rfl (any_of HT_.out (by kernel_rfl)) (fun _ _ _ h => h) (Or.inl ⟨by rfl, ?_⟩) ?_ ?_
   rotate_left
   ·intro w'
    go_simp
    with_reducible rfl
   rotate_left
   ·simp only [Act.put, s1_, s2_, s3_, i64_w, i32_w]
    rfl
   refine pure_ (i := 6) (N := some 68) (v := ?_) (a' := ?_) #[T, T, T, T, T, T, T, F, F, F, F, F] rfl rfl (any_of HT_.out (by kernel_rfl)) (fun _ _ _ h => h) (Or.inl ⟨by rfl, ?_⟩) ?_ ?_
   rotate_left
   ·intro w'
    go_simp
    with_reducible rfl
   rotate_left
   ·simp only [Act.put, s1_, s2_, s3_, i64_w, i32_w]
    rfl
   refine take_ (i := 7) (N := some 69) (v := ?_) (a' := ?_) #[T, T, T, T, T, T, T, T, F, F, F, F] rfl rfl (take_ofW HT_.out HW_.out (by kernel_rfl)) (fun _ _ _ h => h) (Or.inl ⟨by rfl, ?_⟩) hHeld ?_ ?_
   rotate_left
   ·rintro w' ⟨s0, s1, s2, s3, s4, s5, s6, s7, s8, s9, s10, s11, s12, s13⟩
    go_simp
    with_reducible rfl
   rotate_left
   ·simp only [Act.put, s1_, s2_, s3_, i64_w, i32_w]
    rfl
   refine one_ (i := 8) (N := some 70) #[T, T, T, T, T, T, T, T, T, F, F, F] rfl rfl (one_of HT_.out (by kernel_rfl)) (by decide) (fun K hK => ?_)
   refine value_ (w1 := ?_) (v := ?_) (by rfl) rfl ?_ ?_
   rotate_left 2
   ·go_simp
    constructor
    ·rfl
    ·rfl
   refine hK.out _ _ ⟨(blk_cell (blk_alloc BK213.out _) 0).trans rfl, (blk_cell (blk_alloc BK213.out _) 1).trans rfl, (blk_cell (blk_alloc BK205.out _) 0).trans rfl, (blk_cell (blk_alloc BK205.out _) 1).trans rfl, (blk_cell (blk_alloc BK205.out _) 2).trans rfl, (blk_cell (blk_alloc BK205.out _) 3).trans rfl, (blk_cell (blk_alloc BK205.out _) 4).trans rfl, (blk_cell (blk_alloc BK205.out _) 5).trans rfl, (blk_cell (blk_alloc BK205.out _) 6).trans rfl, (blk_cell (blk_alloc BK205.out _) 7).trans rfl, (blk_cell (blk_alloc BK205.out _) 8).trans rfl, (World.cell?_alloc_lt _ _ _ (World.block_lt_of_cell? _ _ (((HB.out.cell (World.block_lt_of_cell? w _ hw226_0)).trans hw226_0)))).trans (((HB.out.cell (World.block_lt_of_cell? w _ hw226_0)).trans hw226_0)), (World.cell?_alloc_lt _ _ _ (World.block_lt_of_cell? _ _ (((HB.out.cell (World.block_lt_of_cell? w _ hw226_1)).trans hw226_1)))).trans (((HB.out.cell (World.block_lt_of_cell? w _ hw226_1)).trans hw226_1)), (World.cell?_alloc_lt _ _ _ (World.block_lt_of_cell? _ _ (((HB.out.cell (World.block_lt_of_cell? w _ hw226_2)).trans hw226_2)))).trans (((HB.out.cell (World.block_lt_of_cell? w _ hw226_2)).trans hw226_2))⟩ (fun hHeld => ?_)
   clear hK K
   refine norm_ (a' := ?_) ?_ ?_
   rotate_left
   ·show Act.put _ (some 70) _ = _
    simp only [Act.put, s1_, s2_, s3_, i64_w, i32_w]
    rfl
   refine one_ (i := 9) (N := some 71) #[T, T, T, T, T, T, T, T, T, T, F, F] rfl rfl (one_of HT_.out (by kernel_rfl)) (by decide) (fun K hK => ?_)
   refine Kd.R_append_step Kd.string (w0 := w) w.heap.size (by rfl) (.tmp 63) (.tmp 70) 22 9 (.string ⟨#[]⟩) 16 rfl Try.underlying22 info9 rfl (by decide) (by omega) (.slice Ao39 y223.length co39) y223 ((rd_T50 l0_8 x4_1).f1) [.string ((rd_T50 l0_8 x4_1).f1)] (fun _ => True) (fun _ => False) rfl rfl ?aP (fun _ hk => hk.elim) ?aF ?aO ?aB ?aS ?aL ?_
   (case aP => exact rfl)
   (case aB => exact (bel_ HB.out))
   (case aF => exact (fun _ _ => trivial))
   (case aO => exact (by (with_reducible repeat (first | apply Kd.R_alloc | apply Kd.R_drewN | apply Kd.R_drew)); exact HO225.out))
   (case aS => exact (below_size (bel_ HB.out)))
   (case aL => have := LMc29.out; omega)
   intro v228 w43 ho hb hg hat
   rw [← Ny227.out] at ho
   have n0_ := Aside0.mk (blk_grown (g := gb205) (o := .cells #[.int .i64 a0_0, .int .i64 a0_1, .int .i64 a0_2, .int .i64 a0_3, .string a0_4, .string a0_5, .bool a0_6, .slice A0_7 l0_7.length c0_7, .slice (some ad217) l0_8.length c0_8] 25 (0, 0)) (peel_ BK205.out) hg (Kd.R_ne HO225.out BK205.out (by decide)))
   have n1_ := Aside0.mk (blk_grown (g := gb213) (o := .cells #[.slice Ao34 y219.length co34, .slice Ao39 y223.length co39] 48 (0, 0)) (peel_ BK213.out) hg (Kd.R_ne HO225.out BK213.out (by decide)))
   have n2_ := Aside0.mk (Kd.R_over' (by (with_reducible repeat (first | apply Kd.R_alloc | apply Kd.R_drewN | apply Kd.R_drew)); exact HO221.out) (Kd.R_typed (by (with_reducible repeat (first | apply Kd.R_alloc | apply Kd.R_drewN | apply Kd.R_drew)); exact HO225.out)) (by decide) hg)
   have n3_ := Aside0.mk (hb)
   have n4_ := Aside0.mk (ho)
   clear BK205
   clear BK213
   clear HO221
   clear HB
   clear HO225
   have BK205 := n0_
   have BK213 := n1_
   have HO221 := n2_
   have HB := n3_
   have HO229 := n4_
   clear n0_ n1_ n2_ n3_ n4_
   clear ho hb hg hat
   obtain ⟨Ao44, co44, eo44⟩ := Kd.R_slice HO229.out
   (first | subst eo44 | (injection eo44 with f1_ f2_ f3_; have f4_ := f1_.symm; have f5_ := f3_.symm; clear f1_ f2_ f3_; subst f4_; subst f5_))
   refine hK.out _ _ ⟨(blk_cell BK213.out 0).trans rfl, (blk_cell BK213.out 1).trans rfl, (blk_cell BK205.out 0).trans rfl, (blk_cell BK205.out 1).trans rfl, (blk_cell BK205.out 2).trans rfl, (blk_cell BK205.out 3).trans rfl, (blk_cell BK205.out 4).trans rfl, (blk_cell BK205.out 5).trans rfl, (blk_cell BK205.out 6).trans rfl, (blk_cell BK205.out 7).trans rfl, (blk_cell BK205.out 8).trans rfl, ((HB.out.cell (World.block_lt_of_cell? w _ hw226_0)).trans hw226_0), ((HB.out.cell (World.block_lt_of_cell? w _ hw226_1)).trans hw226_1), ((HB.out.cell (World.block_lt_of_cell? w _ hw226_2)).trans hw226_2)⟩ (fun hHeld => ?_)
   clear hK K
   refine norm_ (a' := ?_) ?_ ?_
   rotate_left
   ·show Act.put _ (some 71) _ = _
    simp only [Act.put, s1_, s2_, s3_, i64_w, i32_w]
    rfl
   refine pure_ (i := 10) (N := some 72) (v := ?_) (a' := ?_) #[T, T, T, T, T, T, T, T, T, T, T, F] rfl rfl (any_of HT_.out (by kernel_rfl)) (fun _ _ _ h => h) (Or.inl ⟨by rfl, ?_⟩) ?_ ?_
   rotate_left
   ·intro w'
    go_simp
    with_reducible rfl
   rotate_left
   ·simp only [Act.put, s1_, s2_, s3_, i64_w, i32_w]
    rfl
   refine last_ (i := 11) (N := none) #[T, T, T, T, T, T, T, T, T, T, T, T] rfl rfl (one_of HT_.out (by kernel_rfl)) (by decide) (fun K hK => ?_)
   have hs45 : w43.cell? ⟨gb213, 1, none⟩ = some (.slice Ao39 y223.length co39) := (blk_cell BK213.out 1).trans rfl
   have hfs45 := blk_frozen BK213.out 1
   have hns45_0 := NB205_213.out
   have hms45_0 := NB213_205.out
   refine skip_ (w1 := ?_) (by rfl) rfl ?_ ?_
   rotate_left
   ·go_simp
    rfl
   refine hK.out _ _ ?_
   clear hK K
   refine done_ (done_of HT_.out (by kernel_rfl)) ?_
   try go_wp2
   go_roundg k1
   case measure => have := HK1.out; omega
   case rel => exact ⟨(wrap64 (x4_1 + 1)), (y219), (y227), (.slice Ao34 y219.length co34), (.slice Ao44 y227.length co44), (by first | rfl | (simp; done) | (simp [*]; done)), H', ⟨by have := HK1.out; omega⟩, ⟨by (with_reducible repeat (first | apply Kd.R_alloc | apply Kd.R_drewN | apply Kd.R_drew)); exact Kd.R_mono (Kd.R_far (p := ⟨gb213, 1, none⟩) (Kd.R_types HO221.out BK213.out (by decide)) (fun _ hk => hk.2) (.slice Ao44 y227.length co44)) (fun _ hk => trivial)⟩, ⟨by (with_reducible repeat (first | apply Kd.R_alloc | apply Kd.R_drewN | apply Kd.R_drew)); exact Kd.R_mono (Kd.R_far (p := ⟨gb213, 1, none⟩) (Kd.R_types HO229.out BK213.out (by decide)) (fun _ hk => hk.2) (.slice Ao44 y227.length co44)) (fun _ hk => trivial)⟩, ⟨by (with_reducible repeat (first | refine blk_drewN ?_ _ | refine blk_drew ?_ | refine blk_alloc ?_ _)); refine blk_far ?_ NB205_213.out _; (with_reducible repeat (first | refine blk_drewN ?_ _ | refine blk_drew ?_ | refine blk_alloc ?_ _)); exact BK205.out⟩, ⟨by (with_reducible repeat (first | refine blk_drewN ?_ _ | refine blk_drew ?_ | refine blk_alloc ?_ _)); refine blk_put (cs := #[.slice Ao34 y219.length co34, .slice Ao39 y223.length co39]) ?_ 1 _ rfl; (with_reducible repeat (first | refine blk_drewN ?_ _ | refine blk_drew ?_ | refine blk_alloc ?_ _)); exact BK213.out⟩, ⟨bel_ HB.out⟩⟩
end Go.Proofs.Ytbfjbcaabijpfaa.Al

namespace Go.Proofs.Ytbfjbcaabijpfaa.Al
open Go.RowKit Go.Proofs.Ytbfjbcaabijpfaa.Base Go.Proofs.YtbfjbcaabijpfaaW.PrintWords Go.Proofs.YtbfjbcaabijpfaaW.PrintLast Go.Proofs.YtbfjbcaabijpfaaW.PrintMore
set_option linter.unusedVariables false
set_option linter.unusedSimpArgs false
/-- A letter and what is said of it. -/
abbrev RRecR := Int × Int × Int × Int × ByteArray × ByteArray × Bool × List ByteArray × List S50 × Int
def noRef : RRecR := (0, 0, 0, 0, ⟨#[]⟩, ⟨#[]⟩, false, [], [], 80)
/-- What a pack's numbers and texts are as a letter. -/
def rrecOf (k : Nat) (s : ByteArray) (ns : List Int) (ts : List ByteArray) : Option RRecR :=
 if 0 ≤ rd ns 5 ∧ rd ns 5 ≤ (ts.length : Int) - 2 then
  (corncribref07_Pairs.f k (ns.drop 6) (ts.drop (2 + rd ns 5).toNat)).bind fun q =>
   if q.2 = true then
    (corncribref08_Check.f k (rd ns 0) (rd ns 1) (rd ns 2) (rd ns 3) (rdOf ByteArray.empty ts 0) (rdOf ByteArray.empty ts 1) (rd ns 4 == 1) ((ts.take (2 + rd ns 5).toNat).drop 2) q.1).bind fun c =>
     if c = 0 then
      (corncribref08_Bytes.f k (rd ns 0) (rd ns 1) (rd ns 2) (rd ns 3) (rdOf ByteArray.empty ts 0) (rdOf ByteArray.empty ts 1) (rd ns 4 == 1) ((ts.take (2 + rd ns 5).toNat).drop 2) q.1).bind fun b =>
       if b = s then some (rd ns 0, rd ns 1, rd ns 2, rd ns 3, rdOf ByteArray.empty ts 0, rdOf ByteArray.empty ts 1, rd ns 4 == 1, (ts.take (2 + rd ns 5).toNat).drop 2, q.1, 0) else some noRef
     else some noRef
   else some noRef
 else some noRef
def corncribref08_Decode.f (k : Nat) (s : ByteArray) : Option RRecR :=
 (corncribref06_Decode.f s).bind fun d => if d.2.2.2 = 0 ∧ 6 ≤ d.1.length ∧ 2 ≤ d.2.1.length then rrecOf k s d.1 d.2.1 else some noRef
/-- The result's block gq, the pack's block gp. -/
structure QR (w0 W : World) (gq gp : Nat) (xs : List Int) (ts : List ByteArray) (vN vT : Value) : Prop where
 bq : W.heap[gq]? = some (.cells #[.int .i64 0, .int .i64 0, .int .i64 0, .int .i64 0, .string (⟨#[]⟩ : ByteArray), .string (⟨#[]⟩ : ByteArray), .bool false, .slice none 0 0, .slice none 0 0] 25 (0, 0))
 bp : W.heap[gp]? = some (.cells #[vN, vT] 48 (0, 0))
 geq : w0.heap.size ≤ gq
 gep : w0.heap.size ≤ gp
 ns : (Kd.int .i64).R 3 W w0.heap.size (fun _ => True) vN xs
 ts : Kd.string.R 9 W w0.heap.size (fun _ => True) vT ts
 bel : Below w0.heap.size w0 W
section
variable {w0 W : World} {gq gp : Nat} {xs : List Int} {ts : List ByteArray} {vN vT : Value}
theorem QR.below {W1 : World} (h : QR w0 W gq gp xs ts vN vT) (hb : Below W.heap.size W W1) : QR w0 W1 gq gp xs ts vN vT where
 bq := blk_below h.bq hb
 bp := blk_below h.bp hb
 geq := h.geq
 gep := h.gep
 ns := Kd.R_below h.ns hb
 ts := Kd.R_below h.ts hb
 bel := below_step h.bel hb
theorem QR.alloc (h : QR w0 W gq gp xs ts vN vT) (o : Obj) : QR w0 (W.alloc o) gq gp xs ts vN vT := h.below (below_alloc (Below.refl _ _) o)
theorem QR.drew (h : QR w0 W gq gp xs ts vN vT) : QR w0 W.drew gq gp xs ts vN vT := h.below (below_drew (Below.refl _ _))
end
/-- The empty letter and 70 come back. -/
def NoRecE (w : World) (e : Ending) (w' : World) : Prop := e = .returned (.tuple #[.agg #[.int .i64 0, .int .i64 0, .int .i64 0, .int .i64 0, .string (⟨#[]⟩ : ByteArray), .string (⟨#[]⟩ : ByteArray), .bool false, .slice none 0 0, .slice none 0 0], .int .i64 80]) ∧ Below w.heap.size w w'
theorem qr_of {w0 w2 w3 : World} {gq gp : Nat} {xs : List Int} {ts : List ByteArray} {vN vT : Value} (geq : w0.heap.size ≤ gq) (bq : w2.heap[gq]? = some (.cells #[.int .i64 0, .int .i64 0, .int .i64 0, .int .i64 0, .string (⟨#[]⟩ : ByteArray), .string (⟨#[]⟩ : ByteArray), .bool false, .slice none 0 0, .slice none 0 0] 25 (0, 0))) (bp : w3.heap[gp]? = some (.cells #[.slice none 0 0, .slice none 0 0] 48 (0, 0))) (hgp : gp = w2.heap.size) (hns : (Kd.int .i64).R 3 w2 w0.heap.size (fun _ => True) vN xs) (hts : Kd.string.R 9 w2 w0.heap.size (fun _ => True) vT ts) (hb : Below w0.heap.size w0 w2) (hb3 : Below w2.heap.size w2 w3) :
  QR w0 ((w3.setCell ⟨gp, 0, none⟩ vN).setCell ⟨gp, 1, none⟩ vT) gq gp xs ts vN vT := by
 have ge : w0.heap.size ≤ gp := by have := hb.size; omega
 have ne : gq ≠ gp := by have := blk_lt bq; omega
 have bp1 := blk_set bp 0 vN
 exact ⟨blk_far (blk_far (blk_below bq hb3) (p := ⟨gp, 0, none⟩) ne vN) (p := ⟨gp, 1, none⟩) ne vT, by simpa using blk_set bp1 1 vT, geq, ge, Kd.R_set (Kd.R_set (Kd.R_below hns hb3) bp (by decide) 0 vN) bp1 (by decide) 1 vT, Kd.R_set (Kd.R_set (Kd.R_below hts hb3) bp (by decide) 0 vN) bp1 (by decide) 1 vT, below_set (below_set (below_step hb hb3) ge) ge⟩
theorem set9 {w : World} {g t : Nat} {z0 z1 z2 z3 z4 z5 z6 z7 z8 c0 c1 c2 c3 c4 c5 c6 c7 c8 : Value} (h : w.heap[g]? = some (.cells #[z0, z1, z2, z3, z4, z5, z6, z7, z8] t (0, 0))) : (((((((((w.setCell ⟨g, 0, none⟩ c0).setCell ⟨g, 1, none⟩ c1).setCell ⟨g, 2, none⟩ c2).setCell ⟨g, 3, none⟩ c3).setCell ⟨g, 4, none⟩ c4).setCell ⟨g, 5, none⟩ c5).setCell ⟨g, 6, none⟩ c6).setCell ⟨g, 7, none⟩ c7).setCell ⟨g, 8, none⟩ c8).heap[g]? = some (.cells #[c0, c1, c2, c3, c4, c5, c6, c7, c8] t (0, 0)) := by
 have := blk_set (blk_set (blk_set (blk_set (blk_set (blk_set (blk_set (blk_set (blk_set h 0 c0) 1 c1) 2 c2) 3 c3) 4 c4) 5 c5) 6 c6) 7 c7) 8 c8
 simpa using this
theorem below9 {w W : World} {g : Nat} {c0 c1 c2 c3 c4 c5 c6 c7 c8 : Value} (h : Below w.heap.size w W) (hg : w.heap.size ≤ g) : Below w.heap.size w (((((((((W.setCell ⟨g, 0, none⟩ c0).setCell ⟨g, 1, none⟩ c1).setCell ⟨g, 2, none⟩ c2).setCell ⟨g, 3, none⟩ c3).setCell ⟨g, 4, none⟩ c4).setCell ⟨g, 5, none⟩ c5).setCell ⟨g, 6, none⟩ c6).setCell ⟨g, 7, none⟩ c7).setCell ⟨g, 8, none⟩ c8) :=
 below_set (below_set (below_set (below_set (below_set (below_set (below_set (below_set (below_set h hg) hg) hg) hg) hg) hg) hg) hg) hg
theorem keep9 {W : World} {g : Nat} {c0 c1 c2 c3 c4 c5 c6 c7 c8 : Value} : KeepBut W (((((((((W.setCell ⟨g, 0, none⟩ c0).setCell ⟨g, 1, none⟩ c1).setCell ⟨g, 2, none⟩ c2).setCell ⟨g, 3, none⟩ c3).setCell ⟨g, 4, none⟩ c4).setCell ⟨g, 5, none⟩ c5).setCell ⟨g, 6, none⟩ c6).setCell ⟨g, 7, none⟩ c7).setCell ⟨g, 8, none⟩ c8) g none :=
 ((((((((((KeepBut.refl W g none).set_ 0 c0).set_ 1 c1).set_ 2 c2).set_ 3 c3).set_ 4 c4).set_ 5 c5).set_ 6 c6).set_ 7 c7).set_ 8 c8)
theorem QR.set {w0 W : World} {gq gp g : Nat} {xs : List Int} {ts : List ByteArray} {vN vT : Value} {cells : Array Value} (h : QR w0 W gq gp xs ts vN vT) (hb : W.heap[g]? = some (.cells cells 25 (0, 0))) (hg : w0.heap.size ≤ g) (hne : gq ≠ g) (hne' : gp ≠ g) (j : Nat) (u : Value) : QR w0 (W.setCell ⟨g, j, none⟩ u) gq gp xs ts vN vT :=
 ⟨blk_far h.bq (p := ⟨g, j, none⟩) hne u, blk_far h.bp (p := ⟨g, j, none⟩) hne' u, h.geq, h.gep, Kd.R_set h.ns hb (by decide) j u, Kd.R_set h.ts hb (by decide) j u, below_set h.bel hg⟩
theorem rpairs_len {k : Nat} {A0 : Option Addr} {c0 n0 : Nat} {l0 : List Int} {A1 : Option Addr} {c1 n1 : Nat} {l1 : List ByteArray} {r1 : List S50} {r2 : Bool} {w : World} (h0 : n0 = l0.length) (h1 : n1 = l1.length) (hr0 : Kd.C (Kd.int .i64) w A0 l0.length l0) (hc0 : l0.length ≤ c0) (hr1 : Kd.C Kd.string w A1 l1.length l1) (hc1 : l1.length ≤ c1) (h : corncribref07_Pairs.f k l0 l1 = some (r1, r2)) :
  Calls Try.prog 39 #[.slice A0 n0 c0, .slice A1 n1 c1] w fun e w' => ∃ v0_ : Value, e = .returned (.tuple #[v0_, .bool r2]) ∧ Kd.R k50 50 w' w.heap.size (fun _ => True) v0_ r1 ∧ Below w.heap.size w w' := by
 subst h0 h1
 exact corncribref07_Pairs.calls k A0 c0 l0 A1 c1 l1 r1 r2 w hr0 hc0 hr1 hc1 h
theorem rcheck_len {k : Nat} {x0 x1 x2 x3 : Int} {x4 x5 : ByteArray} {x6 : Bool} {A7 : Option Addr} {c7 n7 : Nat} {l7 : List ByteArray} {A8 : Option Addr} {c8 : Nat} {l8 : List S50} {r : Int} {w : World} (h7 : n7 = l7.length) (hr7 : Kd.C Kd.string w A7 l7.length l7) (hc7 : l7.length ≤ c7) (hr8 : Kd.C k50 w A8 l8.length l8) (hc8 : l8.length ≤ c8) (h : corncribref08_Check.f k x0 x1 x2 x3 x4 x5 x6 l7 l8 = some r) :
  Calls Try.prog 12 #[.agg #[.int .i64 x0, .int .i64 x1, .int .i64 x2, .int .i64 x3, .string x4, .string x5, .bool x6, .slice A7 n7 c7, .slice A8 l8.length c8]] w fun e w' => e = .returned (.int .i64 r) ∧ Below w.heap.size w w' := by
 subst h7
 exact corncribref08_Check.calls k x0 x1 x2 x3 x4 x5 x6 A7 c7 l7 A8 c8 l8 r w hr7 hc7 hr8 hc8 h
theorem rbytes_len {k : Nat} {x0 x1 x2 x3 : Int} {x4 x5 : ByteArray} {x6 : Bool} {A7 : Option Addr} {c7 n7 : Nat} {l7 : List ByteArray} {A8 : Option Addr} {c8 : Nat} {l8 : List S50} {r : ByteArray} {w : World} (h7 : n7 = l7.length) (hr7 : Kd.C Kd.string w A7 l7.length l7) (hc7 : l7.length ≤ c7) (hr8 : Kd.C k50 w A8 l8.length l8) (hc8 : l8.length ≤ c8) (h : corncribref08_Bytes.f k x0 x1 x2 x3 x4 x5 x6 l7 l8 = some r) :
  Calls Try.prog 22 #[.agg #[.int .i64 x0, .int .i64 x1, .int .i64 x2, .int .i64 x3, .string x4, .string x5, .bool x6, .slice A7 n7 c7, .slice A8 l8.length c8]] w fun e w' => e = .returned (.string r) ∧ Below w.heap.size w w' := by
 subst h7
 exact corncribref08_Bytes.calls k x0 x1 x2 x3 x4 x5 x6 A7 c7 l7 A8 c8 l8 r w hr7 hc7 hr8 hc8 h
theorem c9f {w : World} {g t : Nat} {c0 c1 c2 c3 c4 c5 c6 c7 c8 : Value} (h : w.heap[g]? = some (.cells #[c0, c1, c2, c3, c4, c5, c6, c7, c8] t (0, 0))) : w.cell? ⟨g, 0, none⟩ = some c0 ∧ w.frozen? ⟨g, 0, none⟩ = false ∧ w.cell? ⟨g, 1, none⟩ = some c1 ∧ w.frozen? ⟨g, 1, none⟩ = false ∧ w.cell? ⟨g, 2, none⟩ = some c2 ∧ w.frozen? ⟨g, 2, none⟩ = false ∧ w.cell? ⟨g, 3, none⟩ = some c3 ∧ w.frozen? ⟨g, 3, none⟩ = false ∧ w.cell? ⟨g, 4, none⟩ = some c4 ∧ w.frozen? ⟨g, 4, none⟩ = false ∧ w.cell? ⟨g, 5, none⟩ = some c5 ∧ w.frozen? ⟨g, 5, none⟩ = false ∧ w.cell? ⟨g, 6, none⟩ = some c6 ∧ w.frozen? ⟨g, 6, none⟩ = false ∧ w.cell? ⟨g, 7, none⟩ = some c7 ∧ w.frozen? ⟨g, 7, none⟩ = false ∧ w.cell? ⟨g, 8, none⟩ = some c8 ∧ w.frozen? ⟨g, 8, none⟩ = false := ⟨(blk_cell h 0).trans rfl, blk_frozen h 0, (blk_cell h 1).trans rfl, blk_frozen h 1, (blk_cell h 2).trans rfl, blk_frozen h 2, (blk_cell h 3).trans rfl, blk_frozen h 3, (blk_cell h 4).trans rfl, blk_frozen h 4, (blk_cell h 5).trans rfl, blk_frozen h 5, (blk_cell h 6).trans rfl, blk_frozen h 6, (blk_cell h 7).trans rfl, blk_frozen h 7, (blk_cell h 8).trans rfl, blk_frozen h 8⟩
theorem c9 {w : World} {g t : Nat} {c0 c1 c2 c3 c4 c5 c6 c7 c8 : Value} (h : w.heap[g]? = some (.cells #[c0, c1, c2, c3, c4, c5, c6, c7, c8] t (0, 0))) : w.cell? ⟨g, 0, none⟩ = some c0 ∧ w.cell? ⟨g, 1, none⟩ = some c1 ∧ w.cell? ⟨g, 2, none⟩ = some c2 ∧ w.cell? ⟨g, 3, none⟩ = some c3 ∧ w.cell? ⟨g, 4, none⟩ = some c4 ∧ w.cell? ⟨g, 5, none⟩ = some c5 ∧ w.cell? ⟨g, 6, none⟩ = some c6 ∧ w.cell? ⟨g, 7, none⟩ = some c7 ∧ w.cell? ⟨g, 8, none⟩ = some c8 := ⟨(blk_cell h 0).trans rfl, (blk_cell h 1).trans rfl, (blk_cell h 2).trans rfl, (blk_cell h 3).trans rfl, (blk_cell h 4).trans rfl, (blk_cell h 5).trans rfl, (blk_cell h 6).trans rfl, (blk_cell h 7).trans rfl, (blk_cell h 8).trans rfl⟩
/-- What comes back, with its memory. -/
def RRecE (w : World) (r : RRecR) (e : Ending) (w' : World) : Prop := ∃ (A7 : Option Addr) (c7 : Nat) (v8 : Value), e = .returned (.tuple #[.agg #[.int .i64 r.1, .int .i64 r.2.1, .int .i64 r.2.2.1, .int .i64 r.2.2.2.1, .string r.2.2.2.2.1, .string r.2.2.2.2.2.1, .bool r.2.2.2.2.2.2.1, .slice A7 r.2.2.2.2.2.2.2.1.length c7, v8], .int .i64 r.2.2.2.2.2.2.2.2.2]) ∧ Kd.C Kd.string w' A7 r.2.2.2.2.2.2.2.1.length r.2.2.2.2.2.2.2.1 ∧ r.2.2.2.2.2.2.2.1.length ≤ c7 ∧ Kd.R k50 50 w' w.heap.size (fun _ => True) v8 r.2.2.2.2.2.2.2.2.1 ∧ Below w.heap.size w w'
theorem nolet_E {w : World} {e : Ending} {w' : World} (h : NoRecE w e w') : RRecE w noRef e w' := ⟨none, 0, .slice none 0 0, h.1, Kd.C_nil _ _, Nat.le_refl _, Kd.R_nil _ _ _ _ _, h.2⟩
set_option maxHeartbeats 4000000 in
set_option maxRecDepth 100000 in
theorem rdl_all (s : ByteArray) (ns : List Int) (ts : List ByteArray) (p e : Int) (w : World) (k : Nat) (r : RRecR) (hf : corncribref06_Decode.f s = some (ns, ts, p, e)) (hb : ts.length ≤ 1024) (hr : (if e = 0 ∧ 6 ≤ ns.length ∧ 2 ≤ ts.length then rrecOf k s ns ts else some noRef) = some r) :
  Calls Try.prog 19 #[.string s] w (RRecE w r) := by
 have hu25 := Try.underlying25
 have hu48 := Try.underlying48
 have HF := Aside0.mk hf
 have HR := Aside0.mk hr
 have HL := Aside0.mk hb
 clear hf hr hb
 go_enter Try.func19, Try.ntmps19
 go_upto_region 2 with (first | ((with_reducible refine gate_dst (N := 2) rfl ?_); refine box_event ?hg (N := 2) ?hd (cs := #[.int .i64 0, .int .i64 0, .int .i64 0, .int .i64 0, .string (⟨#[]⟩ : ByteArray), .string (⟨#[]⟩ : ByteArray), .bool false, .slice none 0 0, .slice none 0 0]) (t := 25) ?hr ?_; (case hd => rfl); (case hg => rfl); (case hr => first | (go_simp; done) | (go_simp; rfl)); intro gq hgg w1 hbox hb; have GQ := Aside0.mk (Nat.le_of_eq hgg.symm); have BQ := Aside0.mk hbox; have BA := Aside0.mk hb; clear hgg hbox hb) | (go_at_call 38; refine (corncribref06_Decode.calls s _ _ _ _ _ HF.out).mono ?_; rintro x w2 ⟨v0, v1, rfl, hN, hT, hb⟩; obtain ⟨AN, cN, eN⟩ := Kd.R_slice hN; subst eN; obtain ⟨AT, cT, eT⟩ := Kd.R_slice hT; subst eT; have GN := Aside0.mk (Kd.R_lower hN (below_size BA.out)); have GT := Aside0.mk (Kd.R_lower hT (below_size BA.out)); have BC := Aside0.mk (below_step BA.out hb); have BQ2 := Aside0.mk (blk_below BQ.out hb); clear hN hT hb) | ((with_reducible refine gate_dst (N := 4) rfl ?_); refine box_event ?hg (N := 4) ?hd (cs := #[.slice none 0 0, .slice none 0 0]) (t := 48) ?hr ?_; (case hd => rfl); (case hg => rfl); (case hr => first | (go_simp; done) | (go_simp; rfl)); intro gp hgp w3 hbox hb; have HQ := Aside0.mk (qr_of GQ.out BQ2.out hbox hgp GN.out GT.out BC.out hb); have hz0 : w3.cell? ⟨gp, 0, none⟩ = some (.slice none 0 0) := (blk_cell hbox 0).trans rfl; have hz1 : w3.cell? ⟨gp, 1, none⟩ = some (.slice none 0 0) := (blk_cell hbox 1).trans rfl; have hzf0 := blk_frozen hbox 0; have hzf1 := blk_frozen hbox 1; clear hgp hbox hb))
 generalize eW : (w3.setCell ⟨gp, 0, none⟩ (.slice AN ns.length cN)).setCell ⟨gp, 1, none⟩ (.slice AT ts.length cT) = W at HQ ⊢
 clear eW hz0 hz1 hzf0 hzf1 GN GT BC BQ2 BQ BA GQ
 have hP0 : W.cell? ⟨gp, 0, none⟩ = some (.slice AN ns.length cN) := (blk_cell HQ.out.bp 0).trans rfl
 have hP1 : W.cell? ⟨gp, 1, none⟩ = some (.slice AT ts.length cT) := (blk_cell HQ.out.bp 1).trans rfl
 obtain ⟨hq0, hqf0, hq1, hqf1, hq2, hqf2, hq3, hqf3, hq4, hqf4, hq5, hqf5, hq6, hqf6, hq7, hqf7, hq8, hqf8⟩ := c9f HQ.out.bq
 by_cases he : e = 0
 rotate_left
 ·have e1 : (e == 0) = false := beq_eq_false_iff_ne.2 he
  have e2 : (e != 0) = true := bne_iff_ne.2 he
  obtain rfl : noRef = r := Option.some.inj (by rw [← HR.out, if_neg (fun c => he c.1)])
  clear he HR
  go_wp2
  refine bodyPost_ret (results_ct rfl _ _ gq 25 #[.int .i64 0, .int .i64 0, .int .i64 0, .int .i64 0, .string (⟨#[]⟩ : ByteArray), .string (⟨#[]⟩ : ByteArray), .bool false, .slice none 0 0, .slice none 0 0] (0, 0) _ rfl (set9 HQ.out.bq) Try.underlying25 rfl (by kernel_rfl)) rfl ?_
  exact nolet_E ⟨rfl, below9 HQ.out.bel HQ.out.geq⟩
 subst he
 by_cases hn : ns.length < 6
 ·have e1 : decide ((ns.length : Int) < 6) = true := decide_eq_true (by omega)
  have e2 : decide (ns.length < 6) = true := decide_eq_true hn
  obtain rfl : noRef = r := Option.some.inj (by rw [← HR.out, if_neg (fun c => by omega)])
  clear hn HR
  go_wp2
  refine bodyPost_ret (results_ct rfl _ _ gq 25 #[.int .i64 0, .int .i64 0, .int .i64 0, .int .i64 0, .string (⟨#[]⟩ : ByteArray), .string (⟨#[]⟩ : ByteArray), .bool false, .slice none 0 0, .slice none 0 0] (0, 0) _ rfl (set9 HQ.out.bq) Try.underlying25 rfl (by kernel_rfl)) rfl ?_
  exact nolet_E ⟨rfl, below9 HQ.out.bel HQ.out.geq⟩
 have e1 : decide ((ns.length : Int) < 6) = false := decide_eq_false (by omega)
 have e2 : decide (ns.length < 6) = false := decide_eq_false (by omega)
 by_cases ht : ts.length < 2
 ·have t3 : decide ((ts.length : Int) < 2) = true := decide_eq_true (by omega)
  have t4 : decide (ts.length < 2) = true := decide_eq_true ht
  obtain rfl : noRef = r := Option.some.inj (by rw [← HR.out, if_neg (fun c => by omega)])
  clear hn ht HR
  go_wp2
  refine bodyPost_ret (results_ct rfl _ _ gq 25 #[.int .i64 0, .int .i64 0, .int .i64 0, .int .i64 0, .string (⟨#[]⟩ : ByteArray), .string (⟨#[]⟩ : ByteArray), .bool false, .slice none 0 0, .slice none 0 0] (0, 0) _ rfl (set9 HQ.out.bq) Try.underlying25 rfl (by kernel_rfl)) rfl ?_
  exact nolet_E ⟨rfl, below9 HQ.out.bel HQ.out.geq⟩
 have e3 : decide ((ts.length : Int) < 2) = false := decide_eq_false (by omega)
 have e4 : decide (ts.length < 2) = false := decide_eq_false (by omega)
 have e5 : ¬ (ts.length = 0) := by omega
 have e6 : ¬ (ts = []) := fun h => by rw [h] at ht; exact absurd ht (by decide)
 have hl7 : 6 ≤ ns.length := by omega
 have hl1 : 2 ≤ ts.length := by omega
 have hb := HL.out
 have H1 : Aside0 (rrecOf k s ns ts = some r) := ⟨by rw [← HR.out, if_pos ⟨rfl, hl7, hl1⟩]⟩
 clear hn ht HR
 obtain ⟨gn, cn, eN, gnb, gnl, cellsN, hcN⟩ := Kd.R_form HQ.out.ns (by omega)
 obtain ⟨gt, ct, eT, gtb, gtl, cellsT, hcT⟩ := Kd.R_form HQ.out.ts (by omega)
 have eN' : AN = some ⟨gn, 0, none⟩ ∧ cN = cn := by simpa using eN
 have eT' : AT = some ⟨gt, 0, none⟩ ∧ cT = ct := by simpa using eT
 obtain ⟨rfl, rfl⟩ := eN'
 obtain ⟨rfl, rfl⟩ := eT'
 obtain ⟨_, hcapN, hCN⟩ := Kd.R_reads' HQ.out.ns
 obtain ⟨_, hcapT, hCT⟩ := Kd.R_reads' HQ.out.ts
 clear eN eT hcN hcT gnb gnl gtb gtl
 obtain ⟨_, eA, hn0⟩ := Kd.at_int hCN 0 (by decide) (by omega)
 cases eA
 replace hn0 : W.cell? ⟨gn, 0, none⟩ = some (.int .i64 (rd ns 0)) := by simpa [add_plain] using hn0
 obtain ⟨_, eA, hn1⟩ := Kd.at_int hCN 1 (by decide) (by omega)
 cases eA
 replace hn1 : W.cell? ⟨gn, 1, none⟩ = some (.int .i64 (rd ns 1)) := by simpa [add_plain] using hn1
 obtain ⟨_, eA, hn2⟩ := Kd.at_int hCN 2 (by decide) (by omega)
 cases eA
 replace hn2 : W.cell? ⟨gn, 2, none⟩ = some (.int .i64 (rd ns 2)) := by simpa [add_plain] using hn2
 obtain ⟨_, eA, hn3⟩ := Kd.at_int hCN 3 (by decide) (by omega)
 cases eA
 replace hn3 : W.cell? ⟨gn, 3, none⟩ = some (.int .i64 (rd ns 3)) := by simpa [add_plain] using hn3
 obtain ⟨_, eA, hn4⟩ := Kd.at_int hCN 4 (by decide) (by omega)
 cases eA
 replace hn4 : W.cell? ⟨gn, 4, none⟩ = some (.int .i64 (rd ns 4)) := by simpa [add_plain] using hn4
 obtain ⟨_, eA, hn5⟩ := Kd.at_int hCN 5 (by decide) (by omega)
 cases eA
 replace hn5 : W.cell? ⟨gn, 5, none⟩ = some (.int .i64 (rd ns 5)) := by simpa [add_plain] using hn5
 obtain ⟨_, eA, ht0⟩ := Kd.at_string hCT 0 (by decide) (by omega)
 cases eA
 replace ht0 : W.cell? ⟨gt, 0, none⟩ = some (.string (rdOf ByteArray.empty ts 0)) := by simpa [add_plain] using ht0
 obtain ⟨_, eA, ht1⟩ := Kd.at_string hCT 1 (by decide) (by omega)
 cases eA
 replace ht1 : W.cell? ⟨gt, 1, none⟩ = some (.string (rdOf ByteArray.empty ts 1)) := by simpa [add_plain] using ht1
 by_cases hm : rd ns 5 < 0
 ·have m1 : decide (rd ns 5 < 0) = true := decide_eq_true hm
  obtain rfl : noRef = r := Option.some.inj (by rw [← H1.out]; unfold rrecOf; rw [if_neg (fun c => by omega)])
  clear hm H1
  clear hCN hCT
  go_wp2
  refine bodyPost_ret (results_ct rfl _ _ gq 25 #[.int .i64 0, .int .i64 0, .int .i64 0, .int .i64 0, .string (⟨#[]⟩ : ByteArray), .string (⟨#[]⟩ : ByteArray), .bool false, .slice none 0 0, .slice none 0 0] (0, 0) _ rfl (set9 HQ.out.bq) Try.underlying25 rfl (by kernel_rfl)) rfl ?_
  exact nolet_E ⟨rfl, below9 HQ.out.bel HQ.out.geq⟩
 have m1 : decide (rd ns 5 < 0) = false := decide_eq_false (by omega)
 by_cases hm2 : (ts.length : Int) - 2 < rd ns 5
 ·have m2 : decide ((ts.length : Int) - 2 < rd ns 5) = true := decide_eq_true hm2
  obtain rfl : noRef = r := Option.some.inj (by rw [← H1.out]; unfold rrecOf; rw [if_neg (fun c => by omega)])
  clear hm hm2 H1
  clear hCN hCT
  go_wp2
  refine bodyPost_ret (results_ct rfl _ _ gq 25 #[.int .i64 0, .int .i64 0, .int .i64 0, .int .i64 0, .string (⟨#[]⟩ : ByteArray), .string (⟨#[]⟩ : ByteArray), .bool false, .slice none 0 0, .slice none 0 0] (0, 0) _ rfl (set9 HQ.out.bq) Try.underlying25 rfl (by kernel_rfl)) rfl ?_
  exact nolet_E ⟨rfl, below9 HQ.out.bel HQ.out.geq⟩
 have m2 : decide ((ts.length : Int) - 2 < rd ns 5) = false := decide_eq_false (by omega)
 replace hm : 0 ≤ rd ns 5 := by omega
 replace hm2 : rd ns 5 ≤ (ts.length : Int) - 2 := by omega
 have H2 := H1.out
 unfold rrecOf at H2
 rw [if_pos ⟨hm, hm2⟩] at H2
 obtain ⟨⟨qs, bo⟩, hpr, H3⟩ := Option.bind_eq_some_iff.mp H2
 have HPR := Aside0.mk hpr
 have HH := Aside0.mk H3
 clear hpr H3 H2 H1
 go_wp2
 obtain ⟨i9, hi9, hz9⟩ := Option.map_eq_some_iff.1 info9
 have hs9 : i9.size = 1 := by simpa using congrArg (fun x => x.2.1) hz9
 have hcut := fun W => cut_mid (P := Try.prog) 22 9 .i64 .i64 Try.underlying22 hi9 1 hs9 (some ⟨gt, 0, none⟩) ts.length cT 2 (2 + rd ns 5) (by decide) (by omega) (by omega) hcapT W
 have hC7 := Kd.C_mid (lo := 2) (hi := (2 + rd ns 5).toNat) hCT (by omega) (by omega) hcapT
 have hk7 : ((ts.take (2 + rd ns 5).toNat).drop 2).length = (2 + rd ns 5).toNat - (2 : Int).toNat := by rw [List.length_drop, List.length_take]; omega
 rw [← hk7] at hcut
 have hsame : (if cT = (2 : Int).toNat then (some ⟨gt, 0, none⟩ : Option Addr) else (some ⟨gt, 0, none⟩ : Option Addr).map (·.add ((2 : Int).toNat * 1))) = (if cT = 2 then (some ⟨gt, 0, none⟩ : Option Addr) else (some ⟨gt, 0, none⟩ : Option Addr).map (·.add (2 * Kd.string.sz))) := rfl
 rw [hsame] at hcut
 obtain ⟨A7, hA7⟩ : ∃ A, A = (if cT = 2 then (some ⟨gt, 0, none⟩ : Option Addr) else (some ⟨gt, 0, none⟩ : Option Addr).map (·.add (2 * Kd.string.sz))) := ⟨_, rfl⟩
 rw [← hA7] at hcut hC7
 have HC7 := Aside0.mk hC7
 have HCAP := Aside0.mk hcapT
 have HCN := Aside0.mk hCN
 have HCT := Aside0.mk hCT
 have HK7 := Aside0.mk hk7
 obtain ⟨i3, hi3, hz3⟩ := Option.map_eq_some_iff.1 info3
 have hs3 : i3.size = 1 := by simpa using congrArg (fun x => x.2.1) hz3
 have hcutN := fun W => cut_from (P := Try.prog) 46 3 .i64 Try.underlying46 hi3 1 hs3 (some ⟨gn, 0, none⟩) ns.length cN 6 (by decide) (by omega) W
 have hcutT := fun W => cut_from (P := Try.prog) 22 9 .i64 Try.underlying22 hi9 1 hs9 (some ⟨gt, 0, none⟩) ts.length cT (2 + rd ns 5) (by omega) (by omega) W
 have hCF := Kd.C_drop (m := 6) hCN (by omega) hcapN
 have hCR := Kd.C_drop (m := (2 + rd ns 5).toNat) hCT (by omega) hcapT
 have hsameN : (if cN = (6 : Int).toNat then (some ⟨gn, 0, none⟩ : Option Addr) else (some ⟨gn, 0, none⟩ : Option Addr).map (·.add ((6 : Int).toNat * 1))) = (if cN = 6 then (some ⟨gn, 0, none⟩ : Option Addr) else (some ⟨gn, 0, none⟩ : Option Addr).map (·.add (6 * (Kd.int .i64).sz))) := rfl
 rw [hsameN] at hcutN
 obtain ⟨AF, hAF⟩ : ∃ A, A = (if cN = 6 then (some ⟨gn, 0, none⟩ : Option Addr) else (some ⟨gn, 0, none⟩ : Option Addr).map (·.add (6 * (Kd.int .i64).sz))) := ⟨_, rfl⟩
 have hsameT : (if cT = (2 + rd ns 5).toNat then (some ⟨gt, 0, none⟩ : Option Addr) else (some ⟨gt, 0, none⟩ : Option Addr).map (·.add ((2 + rd ns 5).toNat * 1))) = (if cT = (2 + rd ns 5).toNat then (some ⟨gt, 0, none⟩ : Option Addr) else (some ⟨gt, 0, none⟩ : Option Addr).map (·.add ((2 + rd ns 5).toNat * Kd.string.sz))) := rfl
 rw [hsameT] at hcutT
 obtain ⟨AR, hAR⟩ : ∃ A, A = (if cT = (2 + rd ns 5).toNat then (some ⟨gt, 0, none⟩ : Option Addr) else (some ⟨gt, 0, none⟩ : Option Addr).map (·.add ((2 + rd ns 5).toNat * Kd.string.sz))) := ⟨_, rfl⟩
 rw [← hAF] at hcutN hCF
 rw [← hAR] at hcutT hCR
 have HM7 : Aside0 (∀ W', Kd.C Kd.string W' (some ⟨gt, 0, none⟩) ts.length ts → Kd.C Kd.string W' A7 ((ts.take (2 + rd ns 5).toNat).drop 2).length ((ts.take (2 + rd ns 5).toNat).drop 2)) := ⟨fun W' h => by rw [hA7]; exact Kd.C_mid (lo := 2) (hi := (2 + rd ns 5).toNat) h (by omega) (by omega) hcapT⟩
 have HCF := Aside0.mk hCF
 have HCR := Aside0.mk hCR
 have HCAPN := Aside0.mk hcapN
 have LF := Aside0.mk (show ns.length - 6 = (ns.drop 6).length from List.length_drop.symm)
 have LR := Aside0.mk (show ts.length - (2 + rd ns 5).toNat = (ts.drop (2 + rd ns 5).toNat).length from List.length_drop.symm)
 have L7 := Aside0.mk (show (2 + rd ns 5).toNat - 2 = ((ts.take (2 + rd ns 5).toNat).drop 2).length from by rw [List.length_drop, List.length_take]; omega)
 have K7 := Aside0.mk (show ((ts.take (2 + rd ns 5).toNat).drop 2).length ≤ cT - 2 from by rw [List.length_drop, List.length_take]; omega)
 have KF := Aside0.mk (show (ns.drop 6).length ≤ cN - 6 from by rw [List.length_drop]; omega)
 have KR := Aside0.mk (show (ts.drop (2 + rd ns 5).toNat).length ≤ cT - (2 + rd ns 5).toNat from by rw [List.length_drop]; omega)
 have q5 : (6 : Int) ≤ (ns.length : Int) := by omega
 clear hsameN hsameT hAF hAR hCF hCR hs3 hz3
 have q1 : IntKind.i64.wrap (2 + rd ns 5) = 2 + rd ns 5 := IntWalk.i64_in _ (by omega)
 have q2 : (0 : Int) ≤ 2 + rd ns 5 := by omega
 have q3 : (2 : Int) ≤ 2 + rd ns 5 := by omega
 have q4 : 2 + rd ns 5 ≤ (ts.length : Int) := by omega
 have j0 : (0 : Int) < (ns.length : Int) := by omega
 have jj0 : 0 < ns.length := by omega
 have j1 : (1 : Int) < (ns.length : Int) := by omega
 have jj1 : 1 < ns.length := by omega
 have j2 : (2 : Int) < (ns.length : Int) := by omega
 have jj2 : 2 < ns.length := by omega
 have j3 : (3 : Int) < (ns.length : Int) := by omega
 have jj3 : 3 < ns.length := by omega
 have j4 : (4 : Int) < (ns.length : Int) := by omega
 have jj4 : 4 < ns.length := by omega
 have j5 : (5 : Int) < (ns.length : Int) := by omega
 have jj5 : 5 < ns.length := by omega
 have jt : (0 : Int) < (ts.length : Int) := by omega
 have jt1 : (1 : Int) < (ts.length : Int) := by omega
 have jjt1 : 1 < ts.length := by omega
 have jjt : 0 < ts.length := by omega
 have jn : ¬ (ns = []) := fun h => by rw [h] at hl7; exact absurd hl7 (by decide)
 clear hi3 hA7 hsame hC7 hcapT hcapN hCN hCT hk7 hz9 hs9 hi9
 go_region_held3 (fun W => W.cell? ⟨gn, 0, none⟩ = some (.int .i64 (rd ns 0)) ∧ W.cell? ⟨gn, 1, none⟩ = some (.int .i64 (rd ns 1)) ∧ W.cell? ⟨gn, 2, none⟩ = some (.int .i64 (rd ns 2)) ∧ W.cell? ⟨gn, 3, none⟩ = some (.int .i64 (rd ns 3)) ∧ W.cell? ⟨gn, 4, none⟩ = some (.int .i64 (rd ns 4)) ∧ W.cell? ⟨gn, 5, none⟩ = some (.int .i64 (rd ns 5)) ∧ W.cell? ⟨gp, 1, none⟩ = some (.slice (some ⟨gt, 0, none⟩) ts.length cT) ∧ W.cell? ⟨gt, 0, none⟩ = some (.string (rdOf ByteArray.empty ts 0)) ∧ W.cell? ⟨gt, 1, none⟩ = some (.string (rdOf ByteArray.empty ts 1))) (go_keep) (fail)
 have GL : Aside0 (w.heap.size ≤ W.heap.size) := ⟨HQ.out.bel.size⟩
 have NQ : Aside0 (gq ≠ W.heap.size) := ⟨by have := blk_lt HQ.out.bq; omega⟩
 have NP : Aside0 (gp ≠ W.heap.size) := ⟨by have := blk_lt HQ.out.bp; omega⟩
 have BL := Aside0.mk (blk_drew (blk_new W (.cells #[.int .i64 (rd ns 0), .int .i64 (rd ns 1), .int .i64 (rd ns 2), .int .i64 (rd ns 3), .string (rdOf ByteArray.empty ts 0), .string (rdOf ByteArray.empty ts 1), .bool (rd ns 4 == 1), .slice A7 ((2 + rd ns 5).toNat - 2) (cT - 2), .slice none 0 0] 25)))
 have HQ4 := Aside0.mk (HQ.out.alloc (.cells #[.int .i64 (rd ns 0), .int .i64 (rd ns 1), .int .i64 (rd ns 2), .int .i64 (rd ns 3), .string (rdOf ByteArray.empty ts 0), .string (rdOf ByteArray.empty ts 1), .bool (rd ns 4 == 1), .slice A7 ((2 + rd ns 5).toNat - 2) (cT - 2), .slice none 0 0] 25)).drew
 have BW : Aside0 (Below W.heap.size W (W.alloc (.cells #[.int .i64 (rd ns 0), .int .i64 (rd ns 1), .int .i64 (rd ns 2), .int .i64 (rd ns 3), .string (rdOf ByteArray.empty ts 0), .string (rdOf ByteArray.empty ts 1), .bool (rd ns 4 == 1), .slice A7 ((2 + rd ns 5).toNat - 2) (cT - 2), .slice none 0 0] 25)).drew) := ⟨below_drew (below_alloc (Below.refl _ _) _)⟩
 have HC7' := Aside0.mk (Kd.C_below HC7.out BW.out)
 have HCF' := Aside0.mk (Kd.C_below HCF.out BW.out)
 have HCR' := Aside0.mk (Kd.C_below HCR.out BW.out)
 generalize eG : W.heap.size = gl at GL NQ NP BL ⊢
 generalize eW : (W.alloc (.cells #[.int .i64 (rd ns 0), .int .i64 (rd ns 1), .int .i64 (rd ns 2), .int .i64 (rd ns 3), .string (rdOf ByteArray.empty ts 0), .string (rdOf ByteArray.empty ts 1), .bool (rd ns 4 == 1), .slice A7 ((2 + rd ns 5).toNat - 2) (cT - 2), .slice none 0 0] 25)).drew = W4 at BL HQ4 HC7' HCF' HCR' ⊢
 clear eG eW BW HC7 HCF HCR hP0 hP1 hn0 hn1 hn2 hn3 hn4 hn5 ht0 ht1 hcut HQ hq0 hqf0 hq1 hqf1 hq2 hqf2 hq3 hqf3 hq4 hqf4 hq5 hqf5 hq6 hqf6 hq7 hqf7 hq8 hqf8
 have hP1 : W4.cell? ⟨gp, 1, none⟩ = some (.slice (some ⟨gt, 0, none⟩) ts.length cT) := (blk_cell HQ4.out.bp 1).trans rfl
 go_wp2
 go_region_held3 (fun W => W.cell? ⟨gp, 1, none⟩ = some (.slice (some ⟨gt, 0, none⟩) ts.length cT)) (go_keep) ((go_at_call 39; (with_reducible refine (rpairs_len LF.out LR.out (Kd.C_below HCF'.out (by (with_reducible repeat (first | exact Below.refl _ _ | apply below_drew | apply pw_below_drewN)))) KF.out (Kd.C_below HCR'.out (by (with_reducible repeat (first | exact Below.refl _ _ | apply below_drew | apply pw_below_drewN)))) KR.out HPR.out).mono ?_); rintro e w5 ⟨v8, rfl, ho, hb⟩; obtain ⟨A8, c8, e8⟩ := Kd.R_slice ho; subst e8; have HQ5 : Aside0 (QR w w5 gq gp ns ts (.slice (some ⟨gn, 0, none⟩) ns.length cN) (.slice (some ⟨gt, 0, none⟩) ts.length cT)) := ⟨QR.below (by (with_reducible repeat (first | exact HQ4.out | apply QR.drew | apply QR.drewN))) hb⟩; have hP5 : w5.cell? ⟨gp, 1, none⟩ = some (.slice (some ⟨gt, 0, none⟩) ts.length cT) := (blk_cell HQ5.out.bp 1).trans rfl; have BL5 : Aside0 (w5.heap[gl]? = some (.cells #[.int .i64 (rd ns 0), .int .i64 (rd ns 1), .int .i64 (rd ns 2), .int .i64 (rd ns 3), .string (rdOf ByteArray.empty ts 0), .string (rdOf ByteArray.empty ts 1), .bool (rd ns 4 == 1), .slice A7 ((2 + rd ns 5).toNat - 2) (cT - 2), .slice none 0 0] 25 (0, 0))) := ⟨blk_below (by (with_reducible repeat (first | exact BL.out | apply blk_drew | apply blk_drewN))) hb⟩; have HC75 : Aside0 (Kd.C Kd.string w5 A7 ((ts.take (2 + rd ns 5).toNat).drop 2).length ((ts.take (2 + rd ns 5).toNat).drop 2)) := ⟨Kd.C_below (by (with_reducible repeat (first | exact HC7'.out | apply Kd.C_drew | apply Kd.C_drewN))) hb⟩; have HO5 : Aside0 (Kd.R k50 50 w5 w.heap.size (fun _ => True) (.slice A8 qs.length c8) qs) := ⟨Kd.R_lower ho HQ4.out.bel.size⟩; clear ho hb))
 have hl8 : w5.cell? ⟨gl, 8, none⟩ = some (.slice none 0 0) := (blk_cell BL5.out 8).trans rfl
 have hlf8 := blk_frozen BL5.out 8
 go_upto_region 11 with (fail)
 have BL6 : Aside0 ((w5.setCell ⟨gl, 8, none⟩ (.slice A8 qs.length c8)).heap[gl]? = some (.cells #[.int .i64 (rd ns 0), .int .i64 (rd ns 1), .int .i64 (rd ns 2), .int .i64 (rd ns 3), .string (rdOf ByteArray.empty ts 0), .string (rdOf ByteArray.empty ts 1), .bool (rd ns 4 == 1), .slice A7 ((2 + rd ns 5).toNat - 2) (cT - 2), .slice A8 qs.length c8] 25 (0, 0))) := ⟨by simpa using blk_set BL5.out 8 (.slice A8 qs.length c8)⟩
 have HQ6 := Aside0.mk (HQ5.out.set BL5.out GL.out NQ.out NP.out 8 (.slice A8 qs.length c8))
 have HO6 := Aside0.mk (Kd.R_set HO5.out BL5.out (by decide) 8 (.slice A8 qs.length c8))
 generalize eW : w5.setCell ⟨gl, 8, none⟩ (.slice A8 qs.length c8) = W6 at BL6 HQ6 HO6 ⊢
 clear eW hl8 hlf8 hP5 HQ5 BL5 HO5 HC75 HQ4 BL hP1 hcutN hcutT HC7' HCF' HCR'
 obtain ⟨hq0, hqf0, hq1, hqf1, hq2, hqf2, hq3, hqf3, hq4, hqf4, hq5, hqf5, hq6, hqf6, hq7, hqf7, hq8, hqf8⟩ := c9f HQ6.out.bq
 obtain ⟨hl0, hl1, hl2, hl3, hl4, hl5, hl6, hl7, hl8⟩ := c9 BL6.out
 cases bo with
 |false =>
  obtain rfl : noRef = r := Option.some.inj (by rw [← HH.out]; rfl)
  clear HH
  go_wp2
  refine bodyPost_ret (results_ct rfl _ _ gq 25 #[.int .i64 0, .int .i64 0, .int .i64 0, .int .i64 0, .string (⟨#[]⟩ : ByteArray), .string (⟨#[]⟩ : ByteArray), .bool false, .slice none 0 0, .slice none 0 0] (0, 0) _ rfl (set9 HQ6.out.bq) Try.underlying25 rfl (by kernel_rfl)) rfl ?_
  exact nolet_E ⟨rfl, below9 HQ6.out.bel HQ6.out.geq⟩
 |true =>
  have H2 := HH.out
  rw [if_pos rfl] at H2
  obtain ⟨c, hck, H3⟩ := Option.bind_eq_some_iff.mp H2
  have HCK := Aside0.mk hck
  by_cases hc : c = 0
  rotate_left
  ·have c1 : (c == 0) = false := beq_eq_false_iff_ne.2 hc
   have c2 : (c != 0) = true := bne_iff_ne.2 hc
   obtain rfl : noRef = r := Option.some.inj (by rw [← H3, if_neg hc])
   clear hck H2 H3 HH hc
   go_wp2_with (go_at_call 12; (with_reducible refine (rcheck_len L7.out (HM7.out _ (Kd.R_reads' HQ6.out.ts).2.2) K7.out (Kd.R_reads' HO6.out).2.2 (Kd.R_reads' HO6.out).2.1 HCK.out).mono ?_); rintro e w7 ⟨rfl, hb⟩; have HQ7 := Aside0.mk (HQ6.out.below hb); have BL7 := Aside0.mk (blk_below BL6.out hb); have HO7 := Aside0.mk (Kd.R_below HO6.out hb); obtain ⟨hq0, hqf0, hq1, hqf1, hq2, hqf2, hq3, hqf3, hq4, hqf4, hq5, hqf5, hq6, hqf6, hq7, hqf7, hq8, hqf8⟩ := c9f HQ7.out.bq;   obtain ⟨hl0, hl1, hl2, hl3, hl4, hl5, hl6, hl7, hl8⟩ := c9 BL7.out;   clear hb)
   refine bodyPost_ret (results_ct rfl _ _ gq 25 #[.int .i64 0, .int .i64 0, .int .i64 0, .int .i64 0, .string (⟨#[]⟩ : ByteArray), .string (⟨#[]⟩ : ByteArray), .bool false, .slice none 0 0, .slice none 0 0] (0, 0) _ rfl (set9 HQ7.out.bq) Try.underlying25 rfl (by kernel_rfl)) rfl ?_
   exact nolet_E ⟨rfl, below9 HQ7.out.bel HQ7.out.geq⟩
  subst hc
  rw [if_pos rfl] at H3
  obtain ⟨b, hby, H4⟩ := Option.bind_eq_some_iff.mp H3
  have HBY := Aside0.mk hby
  by_cases hbs : b = s
  rotate_left
  ·have hb2 : b.toList ≠ s.toList := fun ht => hbs (B_inj (by rw [← toList_eq, ← toList_eq, ht]))
   have c1 : (b.toList == s.toList) = false := beq_eq_false_iff_ne.2 hb2
   have c2 : (b.toList != s.toList) = true := bne_iff_ne.2 hb2
   obtain rfl : noRef = r := Option.some.inj (by rw [← H4, if_neg hbs])
   clear hck hby H2 H3 H4 HH hbs hb2
   go_wp2_with (first | (go_at_call 12; (with_reducible refine (rcheck_len L7.out (HM7.out _ (Kd.R_reads' HQ6.out.ts).2.2) K7.out (Kd.R_reads' HO6.out).2.2 (Kd.R_reads' HO6.out).2.1 HCK.out).mono ?_); rintro e w7 ⟨rfl, hb⟩; have HQ7 := Aside0.mk (HQ6.out.below hb); have BL7 := Aside0.mk (blk_below BL6.out hb); have HO7 := Aside0.mk (Kd.R_below HO6.out hb); obtain ⟨hq0, hqf0, hq1, hqf1, hq2, hqf2, hq3, hqf3, hq4, hqf4, hq5, hqf5, hq6, hqf6, hq7, hqf7, hq8, hqf8⟩ := c9f HQ7.out.bq;   obtain ⟨hl0, hl1, hl2, hl3, hl4, hl5, hl6, hl7, hl8⟩ := c9 BL7.out;   clear hb) | (go_at_call 22; (with_reducible refine (rbytes_len L7.out (HM7.out _ (Kd.R_reads' HQ7.out.ts).2.2) K7.out (Kd.R_reads' HO7.out).2.2 (Kd.R_reads' HO7.out).2.1 HBY.out).mono ?_); rintro e w8 ⟨rfl, hb⟩; have HQ8 := Aside0.mk (HQ7.out.below hb); have BL8 := Aside0.mk (blk_below BL7.out hb); have HO8 := Aside0.mk (Kd.R_below HO7.out hb); obtain ⟨hq0, hqf0, hq1, hqf1, hq2, hqf2, hq3, hqf3, hq4, hqf4, hq5, hqf5, hq6, hqf6, hq7, hqf7, hq8, hqf8⟩ := c9f HQ8.out.bq;   obtain ⟨hl0, hl1, hl2, hl3, hl4, hl5, hl6, hl7, hl8⟩ := c9 BL8.out;   clear hb))
   refine bodyPost_ret (results_ct rfl _ _ gq 25 #[.int .i64 0, .int .i64 0, .int .i64 0, .int .i64 0, .string (⟨#[]⟩ : ByteArray), .string (⟨#[]⟩ : ByteArray), .bool false, .slice none 0 0, .slice none 0 0] (0, 0) _ rfl (set9 HQ8.out.bq) Try.underlying25 rfl (by kernel_rfl)) rfl ?_
   exact nolet_E ⟨rfl, below9 HQ8.out.bel HQ8.out.geq⟩
  subst hbs
  rw [if_pos rfl] at H4
  obtain rfl := Option.some.inj H4
  clear hck hby H2 H3 H4 HH
  go_wp2_with (first | (go_at_call 12; (with_reducible refine (rcheck_len L7.out (HM7.out _ (Kd.R_reads' HQ6.out.ts).2.2) K7.out (Kd.R_reads' HO6.out).2.2 (Kd.R_reads' HO6.out).2.1 HCK.out).mono ?_); rintro e w7 ⟨rfl, hb⟩; have HQ7 := Aside0.mk (HQ6.out.below hb); have BL7 := Aside0.mk (blk_below BL6.out hb); have HO7 := Aside0.mk (Kd.R_below HO6.out hb); obtain ⟨hq0, hqf0, hq1, hqf1, hq2, hqf2, hq3, hqf3, hq4, hqf4, hq5, hqf5, hq6, hqf6, hq7, hqf7, hq8, hqf8⟩ := c9f HQ7.out.bq;   obtain ⟨hl0, hl1, hl2, hl3, hl4, hl5, hl6, hl7, hl8⟩ := c9 BL7.out;   clear hb) | (go_at_call 22; (with_reducible refine (rbytes_len L7.out (HM7.out _ (Kd.R_reads' HQ7.out.ts).2.2) K7.out (Kd.R_reads' HO7.out).2.2 (Kd.R_reads' HO7.out).2.1 HBY.out).mono ?_); rintro e w8 ⟨rfl, hb⟩; have HQ8 := Aside0.mk (HQ7.out.below hb); have BL8 := Aside0.mk (blk_below BL7.out hb); have HO8 := Aside0.mk (Kd.R_below HO7.out hb); obtain ⟨hq0, hqf0, hq1, hqf1, hq2, hqf2, hq3, hqf3, hq4, hqf4, hq5, hqf5, hq6, hqf6, hq7, hqf7, hq8, hqf8⟩ := c9f HQ8.out.bq;   obtain ⟨hl0, hl1, hl2, hl3, hl4, hl5, hl6, hl7, hl8⟩ := c9 BL8.out;   clear hb))
  have hr8 := Kd.R_keep (Kd.R_types HO8.out HQ8.out.bq (by decide)) (keep9 (W := w8) (g := gq) (c0 := .int .i64 (rd ns 0)) (c1 := .int .i64 (rd ns 1)) (c2 := .int .i64 (rd ns 2)) (c3 := .int .i64 (rd ns 3)) (c4 := .string (rdOf ByteArray.empty ts 0)) (c5 := .string (rdOf ByteArray.empty ts 1)) (c6 := .bool (rd ns 4 == 1)) (c7 := .slice A7 ((2 + rd ns 5).toNat - 2) (cT - 2)) (c8 := .slice A8 qs.length c8)) (fun _ hk => hk.2)
  have hc8 := HM7.out _ (Kd.R_reads' (Kd.R_keep (Kd.R_types HQ8.out.ts HQ8.out.bq (by decide)) (keep9 (W := w8) (g := gq) (c0 := .int .i64 (rd ns 0)) (c1 := .int .i64 (rd ns 1)) (c2 := .int .i64 (rd ns 2)) (c3 := .int .i64 (rd ns 3)) (c4 := .string (rdOf ByteArray.empty ts 0)) (c5 := .string (rdOf ByteArray.empty ts 1)) (c6 := .bool (rd ns 4 == 1)) (c7 := .slice A7 ((2 + rd ns 5).toNat - 2) (cT - 2)) (c8 := .slice A8 qs.length c8)) (fun _ hk => hk.2))).2.2
  refine bodyPost_ret (results_ct rfl _ _ gq 25 #[.int .i64 (rd ns 0), .int .i64 (rd ns 1), .int .i64 (rd ns 2), .int .i64 (rd ns 3), .string (rdOf ByteArray.empty ts 0), .string (rdOf ByteArray.empty ts 1), .bool (rd ns 4 == 1), .slice A7 ((2 + rd ns 5).toNat - 2) (cT - 2), .slice A8 qs.length c8] (0, 0) _ rfl (set9 HQ8.out.bq) Try.underlying25 rfl (by kernel_rfl)) rfl ?_
  exact ⟨A7, cT - 2, _, by rw [← L7.out]; rfl, hc8, K7.out, Kd.R_mono hr8 (fun _ _ => trivial), below9 HQ8.out.bel HQ8.out.geq⟩
theorem corncribref08_Decode.calls (k : Nat) (s : ByteArray) (r : RRecR) (w : World) (h : corncribref08_Decode.f k s = some r) : Calls Try.prog 19 #[.string s] w (RRecE w r) := by
 unfold corncribref08_Decode.f at h
 obtain ⟨⟨ns, ts, p, e⟩, hd, h2⟩ := Option.bind_eq_some_iff.mp h
 have hl : ts.length ≤ 1024 := by
  unfold corncribref06_Decode.f at hd
  split at hd
  ·simp only [Option.some.injEq, Prod.mk.injEq] at hd
   rw [← hd.2.1]; exact (DecLen.dec_len s).2
  ·cases hd
 exact rdl_all s ns ts p e w k r hd hl h2
end Go.Proofs.Ytbfjbcaabijpfaa.Al

namespace Go.Proofs.Ytbfjbcaabijpfaa.Al
open Go.RowKit Go.Proofs.YtbfjbcaabijpfaaW.PrintWords Go.Proofs.YtbfjbcaabijpfaaW.PrintLast Go.Proofs.YtbfjbcaabijpfaaW.PrintMore
attribute [local go_sem] max2_int min2_int max_two min_two max_three min_three max_four min_four   -- for this text's walks alone
set_option linter.unusedVariables false
set_option linter.unusedSimpArgs false
attribute [local go_sem high] eqA50
def corncribbook_SameTexts.l0 : Nat → List ByteArray → List ByteArray → Int → Option (Bool)
 |0, _, _, _ => none
 |k + 1, x0, x1, x5 => if x5 < (x0.length : Int) then (if 0 ≤ x5 then (if x5 < (x1.length : Int) then (if (rdOf ByteArray.empty x0 x5).toList = (rdOf ByteArray.empty x1 x5).toList then (corncribbook_SameTexts.l0 k x0 x1 (wrap64 (x5 + 1))) else (some false)) else (none)) else (none)) else (some true)
def corncribbook_SameTexts.f (k : Nat) (l0 : List ByteArray) (l1 : List ByteArray) : Option (Bool) := if (l0.length : Int) = (l1.length : Int) then (corncribbook_SameTexts.l0 k l0 l1 0) else (some false)
set_option maxHeartbeats 8000000 in
set_option maxRecDepth 100000 in
theorem corncribbook_SameTexts.calls (k : Nat) (A0 : Option Addr) (c0 : Nat) (l0 : List ByteArray) (A1 : Option Addr) (c1 : Nat) (l1 : List ByteArray) (r : Bool) (w : World) (hr0 : Kd.C Kd.string w A0 l0.length l0) (hc0 : l0.length ≤ c0) (hr1 : Kd.C Kd.string w A1 l1.length l1) (hc1 : l1.length ≤ c1) (h : corncribbook_SameTexts.f k l0 l1 = some r) :
  Calls Try.prog 31 #[.slice A0 l0.length c0, .slice A1 l1.length c1] w fun e w' => e = .returned (.bool r) ∧ Drawn0 w w' := by
 have HR0 := Aside0.mk hr0
 have HC0 := Aside0.mk hc0
 clear hr0 hc0
 have HR1 := Aside0.mk hr1
 have HC1 := Aside0.mk hc1
 clear hr1 hc1
 have H : (if (l0.length : Int) = (l1.length : Int) then (corncribbook_SameTexts.l0 k l0 l1 0) else (some false)) = some r := h
 clear h
 by_cases c3 : (l0.length : Int) = (l1.length : Int)
 ·rw [if_pos c3] at H
  have c3b0 : ((l0.length : Int) == (l1.length : Int)) = true := beq_iff_eq.mpr c3
  have c3b1 : ((l0.length : Int) != (l1.length : Int)) = false := bne_eq_false_iff_eq.mpr c3
  have c3b2 : (l0.length == l1.length) = true := by first | simpa using c3 | (simp at c3 ⊢; omega)
  clear c3
  have H' := Aside0.mk H
  clear H
  go_enter Try.func31, Try.ntmps31
  go_wp2
  repeat (go_quiet (fail); try go_wp2)
  go_loopg [5] k (fun kq v5 w' => ∃ (x5_1 : Int), v5 = .int .i64 x5_1 ∧ Aside0 (corncribbook_SameTexts.l0 kq l0 l1 x5_1 = some r) ∧ Aside0 (kq ≤ k) ∧ Drawn0 w w')
  case atStart => exact ⟨(0), (by first | rfl | (simp; done) | (simp [*]; done) | (simp [bne_nil_]; done)), H', ⟨Nat.le_refl _⟩, by repeat (first | exact Drawn0.refl _ | apply Drawn0.step)⟩
  case round =>
   clear H'
   (try clear c1); (try clear p2); (try clear c3); (try clear c3b0); (try clear c3b1); (try clear c3b2)
   obtain ⟨x5_1, rfl, HA, HK1, ⟨m1, rfl⟩⟩ := hrel
   cases gk with
   |zero => exact absurd HA.out (by simp [corncribbook_SameTexts.l0])
   |succ k1 =>
    have H := HA.out
    clear HA
    simp only [corncribbook_SameTexts.l0] at H
    by_cases c4 : x5_1 < (l0.length : Int)
    ·rw [if_pos c4] at H
     have c4b0 : decide (x5_1 < (l0.length : Int)) = true := decide_eq_true c4
     clear c4
     by_cases c5 : 0 ≤ x5_1
     ·rw [if_pos c5] at H
      have c5b0 : decide (0 ≤ x5_1) = true := decide_eq_true c5
      clear c5
      by_cases c6 : x5_1 < (l1.length : Int)
      ·rw [if_pos c6] at H
       have c6b0 : decide (x5_1 < (l1.length : Int)) = true := decide_eq_true c6
       clear c6
       by_cases c7 : (rdOf ByteArray.empty l0 x5_1).toList = (rdOf ByteArray.empty l1 x5_1).toList
       ·rw [if_pos c7] at H
        have c7b0 : ((rdOf ByteArray.empty l0 x5_1).toList == (rdOf ByteArray.empty l1 x5_1).toList) = true := beq_iff_eq.mpr c7
        have c7b1 : ((rdOf ByteArray.empty l0 x5_1).toList != (rdOf ByteArray.empty l1 x5_1).toList) = false := bne_eq_false_iff_eq.mpr c7
        clear c7
        have H' := Aside0.mk H
        clear H
        have p234 : 0 ≤ (x5_1 : Int) := of_decide_eq_true (by first | (with_reducible assumption) | assumption)
        have q234 : x5_1 < (l0.length : Int) := of_decide_eq_true (by first | (with_reducible assumption) | assumption)
        obtain ⟨ad234, e234, hx234_0⟩ := Kd.at_string HR0.out x5_1 p234 q234
        cases e234
        replace p234 := eq_true p234
        replace q234 := eq_true q234
        have p235 : 0 ≤ (x5_1 : Int) := of_decide_eq_true (by first | (with_reducible assumption) | assumption)
        have q235 : x5_1 < (l1.length : Int) := of_decide_eq_true (by first | (with_reducible assumption) | assumption)
        obtain ⟨ad235, e235, hx235_0⟩ := Kd.at_string HR1.out x5_1 p235 q235
        cases e235
        replace p235 := eq_true p235
        replace q235 := eq_true q235
        go_wp2
        repeat (go_quiet (fail); try go_wp2)
        go_roundg k1
        case measure => have := HK1.out; omega
        case rel => exact ⟨(wrap64 (x5_1 + 1)), (by first | rfl | (simp; done) | (simp [*]; done) | (simp [bne_nil_]; done)), H', ⟨by have := HK1.out; omega⟩, by repeat (first | exact Drawn0.refl _ | apply Drawn0.step)⟩
       ·rw [if_neg c7] at H
        have c7b0 : ((rdOf ByteArray.empty l0 x5_1).toList == (rdOf ByteArray.empty l1 x5_1).toList) = false := beq_eq_false_iff_ne.mpr c7
        have c7b1 : ((rdOf ByteArray.empty l0 x5_1).toList != (rdOf ByteArray.empty l1 x5_1).toList) = true := bne_iff_ne.mpr c7
        obtain rfl := Option.some.inj H
        have p234 : 0 ≤ (x5_1 : Int) := of_decide_eq_true (by first | (with_reducible assumption) | assumption)
        have q234 : x5_1 < (l0.length : Int) := of_decide_eq_true (by first | (with_reducible assumption) | assumption)
        obtain ⟨ad234, e234, hx234_0⟩ := Kd.at_string HR0.out x5_1 p234 q234
        cases e234
        replace p234 := eq_true p234
        replace q234 := eq_true q234
        have p235 : 0 ≤ (x5_1 : Int) := of_decide_eq_true (by first | (with_reducible assumption) | assumption)
        have q235 : x5_1 < (l1.length : Int) := of_decide_eq_true (by first | (with_reducible assumption) | assumption)
        obtain ⟨ad235, e235, hx235_0⟩ := Kd.at_string HR1.out x5_1 p235 q235
        cases e235
        replace p235 := eq_true p235
        replace q235 := eq_true q235
        go_wp2
        repeat (go_quiet (fail); try go_wp2)
        go_ret
        exact ⟨by first | rfl | (simp; done) | (simp [*]; done) | (simp [bne_nil_]; done), by repeat (first | exact Drawn0.refl _ | apply Drawn0.step)⟩
      ·rw [if_neg c6] at H
       exact absurd H (by simp)
     ·rw [if_neg c5] at H
      exact absurd H (by simp)
    ·rw [if_neg c4] at H
     have c4b0 : decide (x5_1 < (l0.length : Int)) = false := decide_eq_false c4
     clear c4
     obtain rfl := Option.some.inj H
     go_wp2
     repeat (go_quiet (fail); try go_wp2)
     go_ret
     exact ⟨by first | rfl | (simp; done) | (simp [*]; done) | (simp [bne_nil_]; done), by repeat (first | exact Drawn0.refl _ | apply Drawn0.step)⟩
 ·rw [if_neg c3] at H
  have c3b0 : ((l0.length : Int) == (l1.length : Int)) = false := beq_eq_false_iff_ne.mpr c3
  have c3b1 : ((l0.length : Int) != (l1.length : Int)) = true := bne_iff_ne.mpr c3
  have c3b2 : (l0.length == l1.length) = false := by first | simpa using c3 | (simp at c3 ⊢; omega)
  obtain rfl := Option.some.inj H
  go_enter Try.func31, Try.ntmps31
  go_wp2
  repeat (go_quiet (fail); try go_wp2)
  go_ret
  exact ⟨by first | rfl | (simp; done) | (simp [*]; done) | (simp [bne_nil_]; done), by repeat (first | exact Drawn0.refl _ | apply Drawn0.step)⟩
end Go.Proofs.Ytbfjbcaabijpfaa.Al

namespace Go.Proofs.Ytbfjbcaabijpfaa.Al
open Go.RowKit Go.Proofs.YtbfjbcaabijpfaaW.PrintWords Go.Proofs.YtbfjbcaabijpfaaW.PrintLast Go.Proofs.YtbfjbcaabijpfaaW.PrintMore
attribute [local go_sem] max2_int min2_int max_two min_two max_three min_three max_four min_four   -- for this text's walks alone
set_option linter.unusedVariables false
set_option linter.unusedSimpArgs false
attribute [local go_sem high] eqA50
def corncribbook_SameWrites.l0 : Nat → List (S50) → List (S50) → Int → Option (Bool)
 |0, _, _, _ => none
 |k + 1, x0, x1, x5 => if x5 < (x0.length : Int) then (if 0 ≤ x5 then (if x5 < (x1.length : Int) then (if (!((((rd_T50 x0 x5).f0).toList) == (((rd_T50 x1 x5).f0).toList)) || (!((((rd_T50 x0 x5).f1).toList) == (((rd_T50 x1 x5).f1).toList)) || (!(((rd_T50 x0 x5).f2) == ((rd_T50 x1 x5).f2))))) = true then (some false) else (corncribbook_SameWrites.l0 k x0 x1 (wrap64 (x5 + 1)))) else (none)) else (none)) else (some true)
def corncribbook_SameWrites.f (k : Nat) (l0 : List (S50)) (l1 : List (S50)) : Option (Bool) := if (l0.length : Int) = (l1.length : Int) then (corncribbook_SameWrites.l0 k l0 l1 0) else (some false)
set_option maxHeartbeats 8000000 in
set_option maxRecDepth 100000 in
theorem corncribbook_SameWrites.calls (k : Nat) (A0 : Option Addr) (c0 : Nat) (l0 : List (S50)) (A1 : Option Addr) (c1 : Nat) (l1 : List (S50)) (r : Bool) (w : World) (hr0 : Kd.C k50 w A0 l0.length l0) (hc0 : l0.length ≤ c0) (hr1 : Kd.C k50 w A1 l1.length l1) (hc1 : l1.length ≤ c1) (h : corncribbook_SameWrites.f k l0 l1 = some r) :
  Calls Try.prog 32 #[.slice A0 l0.length c0, .slice A1 l1.length c1] w fun e w' => e = .returned (.bool r) ∧ Drawn0 w w' := by
 have hu50 := Try.underlying50
 have HR0 := Aside0.mk hr0
 have HC0 := Aside0.mk hc0
 clear hr0 hc0
 have HR1 := Aside0.mk hr1
 have HC1 := Aside0.mk hc1
 clear hr1 hc1
 have H : (if (l0.length : Int) = (l1.length : Int) then (corncribbook_SameWrites.l0 k l0 l1 0) else (some false)) = some r := h
 clear h
 by_cases c3 : (l0.length : Int) = (l1.length : Int)
 ·rw [if_pos c3] at H
  have c3b0 : ((l0.length : Int) == (l1.length : Int)) = true := beq_iff_eq.mpr c3
  have c3b1 : ((l0.length : Int) != (l1.length : Int)) = false := bne_eq_false_iff_eq.mpr c3
  have c3b2 : (l0.length == l1.length) = true := by first | simpa using c3 | (simp at c3 ⊢; omega)
  clear c3
  have H' := Aside0.mk H
  clear H
  go_enter Try.func32, Try.ntmps32
  go_wp2
  repeat (go_quiet (fail); try go_wp2)
  go_loopg [5] k (fun kq v5 w' => ∃ (x5_1 : Int), v5 = .int .i64 x5_1 ∧ Aside0 (corncribbook_SameWrites.l0 kq l0 l1 x5_1 = some r) ∧ Aside0 (kq ≤ k) ∧ Drawn0 w w')
  case atStart => exact ⟨(0), (by first | rfl | (simp; done) | (simp [*]; done) | (simp [bne_nil_]; done)), H', ⟨Nat.le_refl _⟩, by repeat (first | exact Drawn0.refl _ | apply Drawn0.step)⟩
  case round =>
   clear H'
   (try clear c1); (try clear p2); (try clear c3); (try clear c3b0); (try clear c3b1); (try clear c3b2)
   obtain ⟨x5_1, rfl, HA, HK1, ⟨m1, rfl⟩⟩ := hrel
   cases gk with
   |zero => exact absurd HA.out (by simp [corncribbook_SameWrites.l0])
   |succ k1 =>
    have H := HA.out
    clear HA
    simp only [corncribbook_SameWrites.l0] at H
    by_cases c4 : x5_1 < (l0.length : Int)
    ·rw [if_pos c4] at H
     have c4b0 : decide (x5_1 < (l0.length : Int)) = true := decide_eq_true c4
     clear c4
     by_cases c5 : 0 ≤ x5_1
     ·rw [if_pos c5] at H
      have c5b0 : decide (0 ≤ x5_1) = true := decide_eq_true c5
      clear c5
      by_cases c6 : x5_1 < (l1.length : Int)
      ·rw [if_pos c6] at H
       have c6b0 : decide (x5_1 < (l1.length : Int)) = true := decide_eq_true c6
       clear c6
       by_cases c7 : (!((((rd_T50 l0 x5_1).f0).toList) == (((rd_T50 l1 x5_1).f0).toList)) || (!((((rd_T50 l0 x5_1).f1).toList) == (((rd_T50 l1 x5_1).f1).toList)) || (!(((rd_T50 l0 x5_1).f2) == ((rd_T50 l1 x5_1).f2))))) = true
       ·rw [if_pos c7] at H
        have c7b0 : (!((((rd_T50 l0 x5_1).f0).toList) == (((rd_T50 l1 x5_1).f0).toList)) || (!((((rd_T50 l0 x5_1).f1).toList) == (((rd_T50 l1 x5_1).f1).toList)) || (!(((rd_T50 l0 x5_1).f2) == ((rd_T50 l1 x5_1).f2))))) = true := c7
        clear c7
        obtain rfl := Option.some.inj H
        have p236 : 0 ≤ (x5_1 : Int) := of_decide_eq_true (by first | (with_reducible assumption) | assumption)
        have q236 : x5_1 < (l0.length : Int) := of_decide_eq_true (by first | (with_reducible assumption) | assumption)
        obtain ⟨ad236, e236, hx236_0, hx236_1, hx236_2⟩ := at_T50 HR0.out x5_1 p236 q236
        cases e236
        replace p236 := eq_true p236
        replace q236 := eq_true q236
        have p237 : 0 ≤ (x5_1 : Int) := of_decide_eq_true (by first | (with_reducible assumption) | assumption)
        have q237 : x5_1 < (l1.length : Int) := of_decide_eq_true (by first | (with_reducible assumption) | assumption)
        obtain ⟨ad237, e237, hx237_0, hx237_1, hx237_2⟩ := at_T50 HR1.out x5_1 p237 q237
        cases e237
        replace p237 := eq_true p237
        replace q237 := eq_true q237
        go_wp2
        repeat (go_quiet (fail); try go_wp2)
        go_ret
        exact ⟨by first | rfl | (simp; done) | (simp [*]; done) | (simp [bne_nil_]; done), by repeat (first | exact Drawn0.refl _ | apply Drawn0.step)⟩
       ·rw [if_neg c7] at H
        have c7b0 : (!((((rd_T50 l0 x5_1).f0).toList) == (((rd_T50 l1 x5_1).f0).toList)) || (!((((rd_T50 l0 x5_1).f1).toList) == (((rd_T50 l1 x5_1).f1).toList)) || (!(((rd_T50 l0 x5_1).f2) == ((rd_T50 l1 x5_1).f2))))) = false := by simpa using c7
        clear c7
        have H' := Aside0.mk H
        clear H
        have p236 : 0 ≤ (x5_1 : Int) := of_decide_eq_true (by first | (with_reducible assumption) | assumption)
        have q236 : x5_1 < (l0.length : Int) := of_decide_eq_true (by first | (with_reducible assumption) | assumption)
        obtain ⟨ad236, e236, hx236_0, hx236_1, hx236_2⟩ := at_T50 HR0.out x5_1 p236 q236
        cases e236
        replace p236 := eq_true p236
        replace q236 := eq_true q236
        have p237 : 0 ≤ (x5_1 : Int) := of_decide_eq_true (by first | (with_reducible assumption) | assumption)
        have q237 : x5_1 < (l1.length : Int) := of_decide_eq_true (by first | (with_reducible assumption) | assumption)
        obtain ⟨ad237, e237, hx237_0, hx237_1, hx237_2⟩ := at_T50 HR1.out x5_1 p237 q237
        cases e237
        replace p237 := eq_true p237
        replace q237 := eq_true q237
        go_wp2
        repeat (go_quiet (fail); try go_wp2)
        go_roundg k1
        case measure => have := HK1.out; omega
        case rel => exact ⟨(wrap64 (x5_1 + 1)), (by first | rfl | (simp; done) | (simp [*]; done) | (simp [bne_nil_]; done)), H', ⟨by have := HK1.out; omega⟩, by repeat (first | exact Drawn0.refl _ | apply Drawn0.step)⟩
      ·rw [if_neg c6] at H
       exact absurd H (by simp)
     ·rw [if_neg c5] at H
      exact absurd H (by simp)
    ·rw [if_neg c4] at H
     have c4b0 : decide (x5_1 < (l0.length : Int)) = false := decide_eq_false c4
     clear c4
     obtain rfl := Option.some.inj H
     go_wp2
     repeat (go_quiet (fail); try go_wp2)
     go_ret
     exact ⟨by first | rfl | (simp; done) | (simp [*]; done) | (simp [bne_nil_]; done), by repeat (first | exact Drawn0.refl _ | apply Drawn0.step)⟩
 ·rw [if_neg c3] at H
  have c3b0 : ((l0.length : Int) == (l1.length : Int)) = false := beq_eq_false_iff_ne.mpr c3
  have c3b1 : ((l0.length : Int) != (l1.length : Int)) = true := bne_iff_ne.mpr c3
  have c3b2 : (l0.length == l1.length) = false := by first | simpa using c3 | (simp at c3 ⊢; omega)
  obtain rfl := Option.some.inj H
  go_enter Try.func32, Try.ntmps32
  go_wp2
  repeat (go_quiet (fail); try go_wp2)
  go_ret
  exact ⟨by first | rfl | (simp; done) | (simp [*]; done) | (simp [bne_nil_]; done), by repeat (first | exact Drawn0.refl _ | apply Drawn0.step)⟩
end Go.Proofs.Ytbfjbcaabijpfaa.Al

namespace Go.Proofs.Ytbfjbcaabijpfaa.Al
open Go.RowKit Go.Proofs.YtbfjbcaabijpfaaW.PrintWords Go.Proofs.YtbfjbcaabijpfaaW.PrintLast Go.Proofs.YtbfjbcaabijpfaaW.PrintMore
attribute [local go_sem] max2_int min2_int max_two min_two max_three min_three max_four min_four   -- for this text's walks alone
set_option linter.unusedVariables false
set_option linter.unusedSimpArgs false
attribute [local go_sem high] eqA50
def corncribbook_SameRecord.f (k : Nat) (a0_0 : Int) (a0_1 : Int) (a0_2 : Int) (a0_3 : Int) (a0_4 : ByteArray) (a0_5 : ByteArray) (a0_6 : Bool) (l0_7 : List ByteArray) (l0_8 : List (S50)) (a1_0 : Int) (a1_1 : Int) (a1_2 : Int) (a1_3 : Int) (a1_4 : ByteArray) (a1_5 : ByteArray) (a1_6 : Bool) (l1_7 : List ByteArray) (l1_8 : List (S50)) : Option (Bool) := if a0_0 = a1_0 then (if a0_1 = a1_1 then (if a0_2 = a1_2 then (if a0_3 = a1_3 then (if a0_4.toList = a1_4.toList then (if a0_5.toList = a1_5.toList then (if (a0_6 == a1_6) = true then ((corncribbook_SameTexts.f k l0_7 l1_7).bind fun t240 => (if t240 = true then ((corncribbook_SameWrites.f k l0_8 l1_8).bind fun t241 => (some t241)) else (some false))) else (some false)) else (some false)) else (some false)) else (some false)) else (some false)) else (some false)) else (some false)
end Go.Proofs.Ytbfjbcaabijpfaa.Al
