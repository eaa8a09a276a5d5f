/- What the laws stand on, in one text: functions of the program by their contracts, the plain mathematics behind them, and such of the printed words as these use. It began as the kit's print and own texts; put together by a program (trim.py). -/
import Derived.Test.YtbfjbcaabijpfaaPyb
import Derived.Deep.RegionHeld3
import Derived.StillTail
import Derived.Deep.RegionLaw

namespace Go.Proofs.Ytbfjbcaabijpfaa.Al
open Go.RowKit Go.Proofs.YtbfjbcaabijpfaaW.PrintWords Go.Proofs.YtbfjbcaabijpfaaW.PrintLast Go.Proofs.YtbfjbcaabijpfaaW.PrintMore
attribute [local go_sem] max2_int min2_int max_two min_two max_three min_three max_four min_four   -- for this text's walks alone
set_option linter.unusedVariables false
set_option linter.unusedSimpArgs false
mutual
def pack_Encode.l0 : Nat → List Int → List Int → Int → Int → List Int → List ByteArray → Option (ByteArray × Int)
 |0, _, _, _, _, _, _ => none
 |k + 1, x5, x20, x21, x22, x152000, x152001 => if x22 < x21 then (if 0 ≤ x22 then (if x22 < (x20.length : Int) then ((pack_signed.f k x5 (rd x20 x22)).bind fun t157 => (pack_Encode.l0 k t157 x20 x21 (wrap64 (x22 + 1)) x152000 x152001)) else (none)) else (none)) else ((pack_put_int.f k x5 (x152001.length : Int)).bind fun t160 => (pack_Encode.l1 k t160 x152001 (x152001.length : Int) 0))
def pack_Encode.l1 : Nat → List Int → List ByteArray → Int → Int → Option (ByteArray × Int)
 |0, _, _, _, _ => none
 |k + 1, x5, x36, x37, x38 => if x38 < x37 then (if 0 ≤ x38 then (if x38 < (x36.length : Int) then ((pack_put_int.f k x5 ((rdOf ByteArray.empty x36 x38).size : Int)).bind fun t164 => (if t164.length + (rdOf ByteArray.empty x36 x38).size < 140737488355328 then (pack_Encode.l1 k (t164 ++ bytesOf (rdOf ByteArray.empty x36 x38)) x36 x37 (wrap64 (x38 + 1))) else (none))) else (none)) else (none)) else (some (strOfNums x5, 0))
end
def pack_Encode.f (k : Nat) (l0_0 : List Int) (l0_1 : List ByteArray) : Option (ByteArray × Int) := (pack_Check.f k l0_0 l0_1).bind fun t152 => (if t152 = 0 then ((pack_put_int.f k ([] : List Int) (l0_0.length : Int)).bind fun t153 => (pack_Encode.l0 k t153 l0_0 (l0_0.length : Int) 0 l0_0 l0_1)) else (some ((⟨#[]⟩ : ByteArray), t152)))
theorem pack_Encode.mono_l : ∀ k, (∀ y0 y1 y2 y3 y4 y5, LeO (pack_Encode.l0 k y0 y1 y2 y3 y4 y5) (pack_Encode.l0 (k + 1) y0 y1 y2 y3 y4 y5)) ∧ (∀ y0 y1 y2 y3, LeO (pack_Encode.l1 k y0 y1 y2 y3) (pack_Encode.l1 (k + 1) y0 y1 y2 y3))
 |0 => ⟨fun _ _ _ _ _ _ r h => by simp [pack_Encode.l0] at h, fun _ _ _ _ r h => by simp [pack_Encode.l1] at h⟩
 |k + 1 => by
  obtain ⟨ih0, ih1⟩ := pack_Encode.mono_l k
  refine ⟨?_, ?_⟩
  ·intro y0 y1 y2 y3 y4 y5
   unfold pack_Encode.l0
   repeat' first
   |(with_reducible exact ih0 _ _ _ _ _ _)
   |(with_reducible exact ih1 _ _ _ _)
   |(with_reducible exact pack_Check.mono _ _ _)
   |(with_reducible exact pack_put_int.mono _ _ _)
   |(with_reducible exact pack_signed.mono _ _ _)
   |(with_reducible exact LeO.refl _)
   |(with_reducible exact LeO.none _)
   |(with_reducible refine LeO.ite ?_ ?_)
   |(with_reducible refine LeO.bind ?_ (fun _ => ?_))
   |exact ih0 _ _ _ _ _ _
   |exact ih1 _ _ _ _
   |exact pack_Check.mono _ _ _
   |exact pack_put_int.mono _ _ _
   |exact pack_signed.mono _ _ _
   |exact LeO.none _
   |refine LeO.ite ?_ ?_
   |refine LeO.bind ?_ (fun _ => ?_)
  ·intro y0 y1 y2 y3
   unfold pack_Encode.l1
   repeat' first
   |(with_reducible exact ih0 _ _ _ _ _ _)
   |(with_reducible exact ih1 _ _ _ _)
   |(with_reducible exact pack_Check.mono _ _ _)
   |(with_reducible exact pack_put_int.mono _ _ _)
   |(with_reducible exact pack_signed.mono _ _ _)
   |(with_reducible exact LeO.refl _)
   |(with_reducible exact LeO.none _)
   |(with_reducible refine LeO.ite ?_ ?_)
   |(with_reducible refine LeO.bind ?_ (fun _ => ?_))
   |exact ih0 _ _ _ _ _ _
   |exact ih1 _ _ _ _
   |exact pack_Check.mono _ _ _
   |exact pack_put_int.mono _ _ _
   |exact pack_signed.mono _ _ _
   |exact LeO.none _
   |refine LeO.ite ?_ ?_
   |refine LeO.bind ?_ (fun _ => ?_)
theorem pack_Encode.mono : ∀ a0 a1 k, LeO (pack_Encode.f k a0 a1) (pack_Encode.f (k + 1) a0 a1) := by
 intro a0 a1 k
 obtain ⟨ih0, ih1⟩ := pack_Encode.mono_l k
 unfold pack_Encode.f
 repeat' first
   |(with_reducible exact ih0 _ _ _ _ _ _)
   |(with_reducible exact ih1 _ _ _ _)
   |(with_reducible exact pack_Check.mono _ _ _)
   |(with_reducible exact pack_put_int.mono _ _ _)
   |(with_reducible exact pack_signed.mono _ _ _)
   |(with_reducible exact LeO.refl _)
   |(with_reducible exact LeO.none _)
   |(with_reducible refine LeO.ite ?_ ?_)
   |(with_reducible refine LeO.bind ?_ (fun _ => ?_))
   |exact ih0 _ _ _ _ _ _
   |exact ih1 _ _ _ _
   |exact pack_Check.mono _ _ _
   |exact pack_put_int.mono _ _ _
   |exact pack_signed.mono _ _ _
   |exact LeO.none _
   |refine LeO.ite ?_ ?_
   |refine LeO.bind ?_ (fun _ => ?_)
set_option maxHeartbeats 8000000 in
set_option maxRecDepth 100000 in
theorem pack_Encode.calls (k : Nat) (A0_0 : Option Addr) (c0_0 : Nat) (l0_0 : List Int) (A0_1 : Option Addr) (c0_1 : Nat) (l0_1 : List ByteArray) (r1 : ByteArray) (r2 : Int) (w : World) (hr0_0 : Kd.C (Kd.int .i64) w A0_0 l0_0.length l0_0) (hc0_0 : l0_0.length ≤ c0_0) (hr0_1 : Kd.C Kd.string w A0_1 l0_1.length l0_1) (hc0_1 : l0_1.length ≤ c0_1) (h : pack_Encode.f k l0_0 l0_1 = some (r1, r2)) :
  Calls Try.prog 21 #[.agg #[.slice A0_0 l0_0.length c0_0, .slice A0_1 l0_1.length c0_1]] w fun e w' => e = .returned (.tuple #[.string r1, .int .i64 r2]) ∧ Below w.heap.size w w' := by
 have hu48 := Try.underlying48
 have HR0_0 := Aside0.mk hr0_0
 have HC0_0 := Aside0.mk hc0_0
 clear hr0_0 hc0_0
 have HR0_1 := Aside0.mk hr0_1
 have HC0_1 := Aside0.mk hc0_1
 clear hr0_1 hc0_1
 have HB := Aside0.mk (Below.refl w.heap.size w)
 have H : ((pack_Check.f k l0_0 l0_1).bind fun t152 => (if t152 = 0 then ((pack_put_int.f k ([] : List Int) (l0_0.length : Int)).bind fun t153 => (pack_Encode.l0 k t153 l0_0 (l0_0.length : Int) 0 l0_0 l0_1)) else (some ((⟨#[]⟩ : ByteArray), t152)))) = some (r1, r2) := h
 clear h
 replace H := Option.bind_eq_some_iff.mp H
 obtain ⟨t152, A20, H⟩ := H
 replace H : (if t152 = 0 then ((pack_put_int.f k ([] : List Int) (l0_0.length : Int)).bind fun t153 => (pack_Encode.l0 k t153 l0_0 (l0_0.length : Int) 0 l0_0 l0_1)) else (some ((⟨#[]⟩ : ByteArray), t152))) = some (r1, r2) := H
 have A2 := Aside0.mk A20
 clear A20
 by_cases c3 : t152 = 0
 ·rw [if_pos c3] at H
  have c3b0 : (t152 == 0) = true := beq_iff_eq.mpr c3
  have c3b1 : (t152 != 0) = false := bne_eq_false_iff_eq.mpr c3
  clear c3
  replace H := Option.bind_eq_some_iff.mp H
  obtain ⟨t153, A40, H⟩ := H
  replace H : (pack_Encode.l0 k t153 l0_0 (l0_0.length : Int) 0 l0_0 l0_1) = some (r1, r2) := H
  have A4 := Aside0.mk A40
  clear A40
  have H' := Aside0.mk H
  clear H
  go_enter Try.func21, Try.ntmps21
  go_wp2_with (first | ((with_reducible refine gate_dst (N := 1) rfl ?_); refine box_event ?hg (N := 1) ?hd (cs := #[.slice A0_0 l0_0.length c0_0, .slice A0_1 l0_1.length c0_1]) (t := 48) ?hr ?_; (case hd => rfl); (case hg => rfl); (case hr => first | (go_simp; done) | (go_simp; rfl)); intro gb151 hg w5 hbox hb; have n0_ := Aside0.mk (below_step (by repeat (first | (with_reducible first | exact HB.out | apply below_alloc | apply pw_below_drewN | apply below_drew1) | exact HB.out)) hb); have n1_ := Aside0.mk (hbox); have n2_ := Aside0.mk ((by rw [hg]; exact (below_size (by repeat (first | (with_reducible first | exact HB.out | apply below_alloc | apply pw_below_drewN | apply below_drew1) | exact HB.out))) : w.heap.size ≤ gb151)); have n3_ := Aside0.mk ((by rw [hg]; exact (below_size (by repeat (first | (with_reducible first | exact HB.out | apply below_alloc | apply pw_below_drewN | apply below_drew1) | exact HB.out))) : w.heap.size ≤ gb151)); clear HB; have HB := n0_; have BK151 := n1_; have GW151 := n2_; have GE151 := n3_; clear n0_ n1_ n2_ n3_; clear hb hbox hg; have hcz6_0 : w5.cell? ⟨gb151, 0, none⟩ = some (.slice A0_0 l0_0.length c0_0) := (blk_cell BK151.out 0).trans rfl; have hcz6_1 : w5.cell? ⟨gb151, 1, none⟩ = some (.slice A0_1 l0_1.length c0_1) := (blk_cell BK151.out 1).trans rfl; have hfz6_0 := blk_frozen BK151.out 0; have hfz6_1 := blk_frozen BK151.out 1) | ((with_reducible refine gate_callee (f := 40) rfl ?_); refine goesL_ (some 11) rfl rfl Try.func40 (by kernel_rfl) rfl #[.agg #[.slice A0_0 l0_0.length c0_0, .slice A0_1 l0_1.length c0_1]] rfl (by (try simp only [List.map_toArray, List.map_cons, List.map_nil]); first | done | rfl | (simp only [List.length_drop, List.length_take]; rfl)) ?_; (with_reducible refine (pack_Check.calls k _ _ l0_0 _ _ l0_1 t152 _ ?side1 ?side2 ?side3 ?side4 A2.out).mono ?_); (case side1 => repeat (first | exact (Kd.C_below HR0_0.out HB.out) | (with_reducible refine Kd.C_alloc ?_ _) | (with_reducible refine Kd.C_drewN ?_ _) | (with_reducible refine Kd.C_drew ?_))); (case side2 => exact HC0_0.out); (case side3 => repeat (first | exact (Kd.C_below HR0_1.out HB.out) | (with_reducible refine Kd.C_alloc ?_ _) | (with_reducible refine Kd.C_drewN ?_ _) | (with_reducible refine Kd.C_drew ?_))); (case side4 => exact HC0_1.out); rintro e w7 ⟨rfl, hb⟩; refine ⟨_, rfl, ?_⟩; have n0_ := Aside0.mk (blk_below (g := gb151) (o := .cells #[.slice A0_0 l0_0.length c0_0, .slice A0_1 l0_1.length c0_1] 48 (0, 0)) (by (with_reducible repeat (first | refine blk_drewN ?_ _ | refine blk_drew ?_ | refine blk_alloc ?_ _)); exact BK151.out) hb); have n1_ := Aside0.mk (below_step (by repeat (first | (with_reducible first | exact HB.out | apply below_alloc | apply pw_below_drewN | apply below_drew1 | refine below_set ?_ GE151.out) | exact HB.out)) hb); clear BK151; clear HB; have BK151 := n0_; have HB := n1_; clear n0_ n1_; (try clear hb); (try clear hb2); (try clear hk); (try clear hi); have hcz8_0 : w7.cell? ⟨gb151, 0, none⟩ = some (.slice A0_0 l0_0.length c0_0) := (blk_cell BK151.out 0).trans rfl; have hcz8_1 : w7.cell? ⟨gb151, 1, none⟩ = some (.slice A0_1 l0_1.length c0_1) := (blk_cell BK151.out 1).trans rfl; have hfz8_0 := blk_frozen BK151.out 0; have hfz8_1 := blk_frozen BK151.out 1) | ((with_reducible refine gate_callee (f := 41) rfl ?_); refine goesL_ (some 18) rfl rfl Try.func41 (by kernel_rfl) rfl #[.slice none 0 0, .int .i64 (l0_0.length : Int)] rfl (by (try simp only [List.map_toArray, List.map_cons, List.map_nil]); first | done | rfl | (simp only [List.length_drop, List.length_take]; rfl)) ?_; (refine (pack_put_int.calls k (fun k_ => some k_ = (.slice none 0 0 : Value).ownBlock) (.slice none 0 0) ([] : List Int) (l0_0.length : Int) t153 w _ ?side1 ?side2 A4.out).mono ?_); (case side1 => repeat (first | (with_reducible first | exact HB.out | apply below_alloc | apply pw_below_drewN | apply below_drew1 | refine below_set ?_ GE151.out) | exact HB.out)); (case side2 => exact Kd.R_nil _ _ _ _ _); rintro e w9 ⟨v154, rfl, ho0, hb, hkp⟩; refine ⟨_, rfl, ?_⟩; have n0_ := Aside0.mk (blk_kept (by (with_reducible repeat (first | refine blk_drewN ?_ _ | refine blk_drew ?_ | refine blk_alloc ?_ _)); exact BK151.out) hkp (fun hs_ => (fun e_ => by simp [Value.ownBlock] at e_) hs_)); have n1_ := Aside0.mk (Kd.R_mono (ok' := fun k_ => True) ho0 (fun k_ hk_ => trivial)); have n2_ := Aside0.mk (hb); clear BK151; clear HB; have BK151 := n0_; have HO155 := n1_; have HB := n2_; clear n0_ n1_ n2_; (try clear hb); (try clear hkp); (try clear ho0); have hcz10_0 : w9.cell? ⟨gb151, 0, none⟩ = some (.slice A0_0 l0_0.length c0_0) := (blk_cell BK151.out 0).trans rfl; have hcz10_1 : w9.cell? ⟨gb151, 1, none⟩ = some (.slice A0_1 l0_1.length c0_1) := (blk_cell BK151.out 1).trans rfl; have hfz10_0 := blk_frozen BK151.out 0; have hfz10_1 := blk_frozen BK151.out 1))
  go_loopg [5, 22] k (fun kq v5 v22 w' => ∃ (x5_1 : List Int) (x22_1 : Int), v22 = .int .i64 x22_1 ∧ Aside0 (pack_Encode.l0 kq x5_1 l0_0 (l0_0.length : Int) x22_1 l0_0 l0_1 = some (r1, r2)) ∧ Aside0 (kq ≤ k) ∧ Aside0 (Kd.R (Kd.int .u8) 5 w' w.heap.size (fun _ => True) v5 x5_1) ∧ Aside0 (w'.heap[gb151]? = some (.cells #[(.slice A0_0 l0_0.length c0_0), (.slice A0_1 l0_1.length c0_1)] 48 (0, 0))) ∧ Aside0 (Below w.heap.size w w'))
  case atStart => exact ⟨(t153), (0), (by first | rfl | (simp; done) | (simp [*]; done)), H', ⟨Nat.le_refl _⟩, ⟨by (with_reducible repeat (first | apply Kd.R_alloc | apply Kd.R_drewN | apply Kd.R_drew)); exact HO155.out⟩, ⟨by (with_reducible repeat (first | refine blk_drewN ?_ _ | refine blk_drew ?_ | refine blk_alloc ?_ _)); exact BK151.out⟩, ⟨by repeat (first | (with_reducible first | exact HB.out | apply below_alloc | apply pw_below_drewN | apply below_drew1 | refine below_set ?_ GE151.out) | exact HB.out)⟩⟩
  case round =>
   clear H'
   (try clear c2); (try clear p2); (try clear c3); (try clear c3b0); (try clear c3b1); (try clear c4); (try clear hcz10_0); (try clear hcz10_1); (try clear hcz6_0); (try clear hcz6_1); (try clear hcz8_0); (try clear hcz8_1); (try clear hfz10_0); (try clear hfz10_1); (try clear hfz6_0); (try clear hfz6_1); (try clear hfz8_0); (try clear hfz8_1)
   obtain ⟨x5_1, x22_1, rfl, HA, HK1, HO_5, BK151, HB⟩ := hrel
   cases gk with
   |zero => exact absurd HA.out (by simp [pack_Encode.l0])
   |succ k1 =>
    have H := HA.out
    clear HA
    simp only [pack_Encode.l0] at H
    by_cases c11 : x22_1 < (l0_0.length : Int)
    ·rw [if_pos c11] at H
     have c11b0 : decide (x22_1 < (l0_0.length : Int)) = true := decide_eq_true c11
     clear c11
     by_cases c12 : 0 ≤ x22_1
     ·rw [if_pos c12] at H
      have c12b0 : decide (0 ≤ x22_1) = true := decide_eq_true c12
      clear c12
      by_cases c13 : x22_1 < (l0_0.length : Int)
      ·rw [if_pos c13] at H
       have c13b0 : decide (x22_1 < (l0_0.length : Int)) = true := decide_eq_true c13
       clear c13
       replace H := Option.bind_eq_some_iff.mp H
       obtain ⟨t157, A140, H⟩ := H
       replace H : (pack_Encode.l0 k1 t157 l0_0 (l0_0.length : Int) (wrap64 (x22_1 + 1)) l0_0 l0_1) = some (r1, r2) := H
       have A14 := Aside0.mk A140
       clear A140
       have H' := Aside0.mk H
       clear H
       have p156 : 0 ≤ (x22_1 : Int) := of_decide_eq_true (by first | (with_reducible assumption) | assumption)
       have q156 : x22_1 < (l0_0.length : Int) := of_decide_eq_true (by first | (with_reducible assumption) | assumption)
       obtain ⟨ad156, e156, hx156_0⟩ := Kd.at_int HR0_0.out x22_1 p156 q156
       cases e156
       replace hx156_0 := (HB.out.cell (World.block_lt_of_cell? w _ hx156_0)).trans hx156_0
       replace p156 := eq_true p156
       replace q156 := eq_true q156
       obtain ⟨Ao15, co15, eo15⟩ := Kd.R_slice HO_5.out
       subst eo15
       go_wp2_with (first | ((with_reducible refine gate_callee (f := 42) rfl ?_); refine goesL_ (some 28) rfl rfl Try.func42 (by kernel_rfl) rfl #[.slice Ao15 x5_1.length co15, .int .i64 (rd l0_0 x22_1)] rfl (by (try simp only [List.map_toArray, List.map_cons, List.map_nil]); first | done | rfl | (simp only [List.length_drop, List.length_take]; rfl)) ?_; (with_reducible refine (pack_signed.calls k1 (fun k_ => some k_ = (.slice Ao15 x5_1.length co15 : Value).ownBlock) (.slice Ao15 x5_1.length co15) x5_1 (rd l0_0 x22_1) t157 w _ ?side1 ?side2 A14.out).mono ?_); (case side1 => repeat (first | (with_reducible first | exact HB.out | apply below_alloc | apply pw_below_drewN | apply below_drew1 | refine below_set ?_ GE151.out) | exact HB.out)); (case side2 => exact Kd.R_tight rfl HO_5.out); rintro e w16 ⟨v158, rfl, ho0, hb, hkp⟩; refine ⟨_, rfl, ?_⟩; have n0_ := Aside0.mk (blk_kept (by (with_reducible repeat (first | refine blk_drewN ?_ _ | refine blk_drew ?_ | refine blk_alloc ?_ _)); exact BK151.out) hkp (fun hs_ => (fun e_ => (Kd.R_ne HO_5.out BK151.out (by decide)) e_) hs_)); have n1_ := Aside0.mk (Kd.R_mono (ok' := fun k_ => True) ho0 (fun k_ hk_ => trivial)); have n2_ := Aside0.mk (hb); clear BK151; clear HB; clear HO_5; have BK151 := n0_; have HO159 := n1_; have HB := n2_; clear n0_ n1_ n2_; (try clear hb); (try clear hkp); (try clear ho0)))
       go_roundg k1
       case measure => have := HK1.out; omega
       case rel => exact ⟨(t157), (wrap64 (x22_1 + 1)), (by first | rfl | (simp; done) | (simp [*]; done)), H', ⟨by have := HK1.out; omega⟩, ⟨by (with_reducible repeat (first | apply Kd.R_alloc | apply Kd.R_drewN | apply Kd.R_drew)); exact HO159.out⟩, ⟨by (with_reducible repeat (first | refine blk_drewN ?_ _ | refine blk_drew ?_ | refine blk_alloc ?_ _)); exact BK151.out⟩, ⟨by repeat (first | (with_reducible first | exact HB.out | apply below_alloc | apply pw_below_drewN | apply below_drew1 | refine below_set ?_ GE151.out) | exact HB.out)⟩⟩
      ·rw [if_neg c13] at H
       exact absurd H (by simp)
     ·rw [if_neg c12] at H
      exact absurd H (by simp)
    ·rw [if_neg c11] at H
     have c11b0 : decide (x22_1 < (l0_0.length : Int)) = false := decide_eq_false c11
     clear c11
     replace H := Option.bind_eq_some_iff.mp H
     obtain ⟨t160, A170, H⟩ := H
     replace H : (pack_Encode.l1 k1 t160 l0_1 (l0_1.length : Int) 0) = some (r1, r2) := H
     have A17 := Aside0.mk A170
     clear A170
     have H' := Aside0.mk H
     clear H
     obtain ⟨hcz18_0, hfz18_0, hcz18_1, hfz18_1⟩ := cfz2 BK151.out
     obtain ⟨Ao19, co19, eo19⟩ := Kd.R_slice HO_5.out
     subst eo19
     go_wp2_with (first | ((with_reducible refine gate_callee (f := 41) rfl ?_); refine goesL_ (some 34) rfl rfl Try.func41 (by kernel_rfl) rfl #[.slice Ao19 x5_1.length co19, .int .i64 (l0_1.length : Int)] rfl (by (try simp only [List.map_toArray, List.map_cons, List.map_nil]); first | done | rfl | (simp only [List.length_drop, List.length_take]; rfl)) ?_; (with_reducible refine (pack_put_int.calls k1 (fun k_ => some k_ = (.slice Ao19 x5_1.length co19 : Value).ownBlock) (.slice Ao19 x5_1.length co19) x5_1 (l0_1.length : Int) t160 w _ ?side1 ?side2 A17.out).mono ?_); (case side1 => repeat (first | (with_reducible first | exact HB.out | apply below_alloc | apply pw_below_drewN | apply below_drew1 | refine below_set ?_ GE151.out) | exact HB.out)); (case side2 => exact Kd.R_tight rfl HO_5.out); rintro e w20 ⟨v161, rfl, ho0, hb, hkp⟩; refine ⟨_, rfl, ?_⟩; have n0_ := Aside0.mk (blk_kept (by (with_reducible repeat (first | refine blk_drewN ?_ _ | refine blk_drew ?_ | refine blk_alloc ?_ _)); exact BK151.out) hkp (fun hs_ => (fun e_ => (Kd.R_ne HO_5.out BK151.out (by decide)) e_) hs_)); have n1_ := Aside0.mk (Kd.R_mono (ok' := fun k_ => True) ho0 (fun k_ hk_ => trivial)); have n2_ := Aside0.mk (hb); clear BK151; clear HB; clear HO_5; have BK151 := n0_; have HO162 := n1_; have HB := n2_; clear n0_ n1_ n2_; (try clear hb); (try clear hkp); (try clear ho0); have hcz21_0 : w20.cell? ⟨gb151, 0, none⟩ = some (.slice A0_0 l0_0.length c0_0) := (blk_cell BK151.out 0).trans rfl; have hcz21_1 : w20.cell? ⟨gb151, 1, none⟩ = some (.slice A0_1 l0_1.length c0_1) := (blk_cell BK151.out 1).trans rfl; have hfz21_0 := blk_frozen BK151.out 0; have hfz21_1 := blk_frozen BK151.out 1))
     go_loopg [5, 38] k1 (fun kq v5 v38 w' => ∃ (x5_2 : List Int) (x38_2 : Int), v38 = .int .i64 x38_2 ∧ Aside0 (pack_Encode.l1 kq x5_2 l0_1 (l0_1.length : Int) x38_2 = some (r1, r2)) ∧ Aside0 (kq ≤ k1) ∧ Aside0 (Kd.R (Kd.int .u8) 5 w' w.heap.size (fun _ => True) v5 x5_2) ∧ Aside0 (w'.heap[gb151]? = some (.cells #[(.slice A0_0 l0_0.length c0_0), (.slice A0_1 l0_1.length c0_1)] 48 (0, 0))) ∧ Aside0 (Below w.heap.size w w'))
     case atStart => exact ⟨(t160), (0), (by first | rfl | (simp; done) | (simp [*]; done)), H', ⟨Nat.le_refl _⟩, ⟨by (with_reducible repeat (first | apply Kd.R_alloc | apply Kd.R_drewN | apply Kd.R_drew)); exact HO162.out⟩, ⟨by (with_reducible repeat (first | refine blk_drewN ?_ _ | refine blk_drew ?_ | refine blk_alloc ?_ _)); exact BK151.out⟩, ⟨by repeat (first | (with_reducible first | exact HB.out | apply below_alloc | apply pw_below_drewN | apply below_drew1 | refine below_set ?_ GE151.out) | exact HB.out)⟩⟩
     case round =>
      clear H'
      (try clear c1); (try clear p1); (try clear q1); (try clear hx1); (try clear c2); (try clear p2); (try clear c3); (try clear c3b0); (try clear c3b1); (try clear c4); (try clear p6); (try clear c11); (try clear c11b0); (try clear c12); (try clear c12b0); (try clear c13); (try clear c13b0); (try clear p15); (try clear q15); (try clear hx15); (try clear c21); (try clear hcz10_0); (try clear hcz10_1); (try clear hcz18_0); (try clear hcz18_1); (try clear hcz21_0); (try clear hcz21_1); (try clear hcz6_0); (try clear hcz6_1); (try clear hcz8_0); (try clear hcz8_1); (try clear hfz10_0); (try clear hfz10_1); (try clear hfz18_0); (try clear hfz18_1); (try clear hfz21_0); (try clear hfz21_1); (try clear hfz6_0); (try clear hfz6_1); (try clear hfz8_0); (try clear hfz8_1); (try clear hx156_0); (try clear p156); (try clear p2); (try clear q156)
      obtain ⟨x5_2, x38_2, rfl, HA, HK2, HO_5, BK151, HB⟩ := hrel
      cases gk with
      |zero => exact absurd HA.out (by simp [pack_Encode.l1])
      |succ k2 =>
       have H := HA.out
       clear HA
       simp only [pack_Encode.l1] at H
       by_cases c22 : x38_2 < (l0_1.length : Int)
       ·rw [if_pos c22] at H
        have c22b0 : decide (x38_2 < (l0_1.length : Int)) = true := decide_eq_true c22
        clear c22
        by_cases c23 : 0 ≤ x38_2
        ·rw [if_pos c23] at H
         have c23b0 : decide (0 ≤ x38_2) = true := decide_eq_true c23
         clear c23
         by_cases c24 : x38_2 < (l0_1.length : Int)
         ·rw [if_pos c24] at H
          have c24b0 : decide (x38_2 < (l0_1.length : Int)) = true := decide_eq_true c24
          clear c24
          replace H := Option.bind_eq_some_iff.mp H
          obtain ⟨t164, A250, H⟩ := H
          replace H : (if t164.length + (rdOf ByteArray.empty l0_1 x38_2).size < 140737488355328 then (pack_Encode.l1 k2 (t164 ++ bytesOf (rdOf ByteArray.empty l0_1 x38_2)) l0_1 (l0_1.length : Int) (wrap64 (x38_2 + 1))) else (none)) = some (r1, r2) := H
          have A25 := Aside0.mk A250
          clear A250
          by_cases c26 : t164.length + (rdOf ByteArray.empty l0_1 x38_2).size < 140737488355328
          ·rw [if_pos c26] at H
           have LMc26 := Aside0.mk c26
           clear c26
           obtain ⟨y167, hy167⟩ : ∃ y_ : List Int, y_ = (t164 ++ bytesOf (rdOf ByteArray.empty l0_1 x38_2)) := ⟨_, rfl⟩
           replace H : (pack_Encode.l1 k2 y167 l0_1 (l0_1.length : Int) (wrap64 (x38_2 + 1))) = some (r1, r2) := by first | (rw [hy167]; with_reducible exact H) | (have H2_ := (Option.bind_some _ _).symm.trans H; rw [hy167]; with_reducible exact H2_) | (have H2_ := (Option.bind_some _ _).symm.trans H; with_reducible exact H2_) | with_reducible exact H | (rw [hy167]; exact H) | exact H
           have Ny167 := Aside0.mk hy167
           clear hy167
           have H' := Aside0.mk H
           clear H
           have p163 : 0 ≤ (x38_2 : Int) := of_decide_eq_true (by first | (with_reducible assumption) | assumption)
           have q163 : x38_2 < (l0_1.length : Int) := of_decide_eq_true (by first | (with_reducible assumption) | assumption)
           obtain ⟨ad163, e163, hx163_0⟩ := Kd.at_string HR0_1.out x38_2 p163 q163
           cases e163
           replace hx163_0 := (HB.out.cell (World.block_lt_of_cell? w _ hx163_0)).trans hx163_0
           replace p163 := eq_true p163
           replace q163 := eq_true q163
           obtain ⟨Ao27, co27, eo27⟩ := Kd.R_slice HO_5.out
           subst eo27
           go_wp2_with (first | ((with_reducible refine gate_callee (f := 41) rfl ?_); refine goesL_ (some 45) rfl rfl Try.func41 (by kernel_rfl) rfl #[.slice Ao27 x5_2.length co27, .int .i64 ((rdOf ByteArray.empty l0_1 x38_2).size : Int)] rfl (by (try simp only [List.map_toArray, List.map_cons, List.map_nil]); first | done | rfl | (simp only [List.length_drop, List.length_take]; rfl)) ?_; (with_reducible refine (pack_put_int.calls k2 (fun k_ => some k_ = (.slice Ao27 x5_2.length co27 : Value).ownBlock) (.slice Ao27 x5_2.length co27) x5_2 ((rdOf ByteArray.empty l0_1 x38_2).size : Int) t164 w _ ?side1 ?side2 A25.out).mono ?_); (case side1 => repeat (first | (with_reducible first | exact HB.out | apply below_alloc | apply pw_below_drewN | apply below_drew1 | refine below_set ?_ GE151.out) | exact HB.out)); (case side2 => exact Kd.R_tight rfl HO_5.out); rintro e w28 ⟨v165, rfl, ho0, hb, hkp⟩; refine ⟨_, rfl, ?_⟩; have n0_ := Aside0.mk (blk_kept (by (with_reducible repeat (first | refine blk_drewN ?_ _ | refine blk_drew ?_ | refine blk_alloc ?_ _)); exact BK151.out) hkp (fun hs_ => (fun e_ => (Kd.R_ne HO_5.out BK151.out (by decide)) e_) hs_)); have n1_ := Aside0.mk (Kd.R_mono (ok' := fun k_ => True) ho0 (fun k_ hk_ => trivial)); have n2_ := Aside0.mk (hb); clear BK151; clear HB; clear HO_5; have BK151 := n0_; have HO166 := n1_; have HB := n2_; clear n0_ n1_ n2_; (try clear hb); (try clear hkp); (try clear ho0)) | (at_builtin; refine print_append_str (w0 := w) w.heap.size rfl (.tmp 45) _ 67 9 5 rfl Try.underlying67 Try.underlying9 info5 v165 t164 (rdOf ByteArray.empty l0_1 x38_2) rfl rfl ?aO ?aB ?aS ?aL ?_; (case aB => exact (by repeat (first | (with_reducible first | exact HB.out | apply below_alloc | apply pw_below_drewN | apply below_drew1 | refine below_set ?_ GE151.out) | exact HB.out))); (case aO => exact (Kd.own_of_R (by (with_reducible repeat (first | apply Kd.R_alloc | apply Kd.R_drewN | apply Kd.R_drew)); exact HO166.out))); (case aS => exact (below_size (by repeat (first | (with_reducible first | exact HB.out | apply below_alloc | apply pw_below_drewN | apply below_drew1 | refine below_set ?_ GE151.out) | exact HB.out)))); (case aL => have := LMc26.out; omega); intro v168 w29 ho0 hb hg; have ho := Kd.R_of_own (h1 := fun _ => rfl) (ok := fun _ => True) ho0 (fun _ _ => trivial); clear ho0; have hat := True.intro; rw [← Ny167.out] at ho; change Kd.R (Kd.int .u8) 5 w29 w.heap.size (fun _ => True) v168 y167 at ho; have n0_ := Aside0.mk (blk_grown (g := gb151) (o := .cells #[.slice A0_0 l0_0.length c0_0, .slice (some ad163) l0_1.length c0_1] 48 (0, 0)) (by (with_reducible repeat (first | refine blk_drewN ?_ _ | refine blk_drew ?_ | refine blk_alloc ?_ _)); exact BK151.out) hg (Kd.R_ne HO166.out BK151.out (by decide))); have n1_ := Aside0.mk (hb); have n2_ := Aside0.mk (ho); clear BK151; clear HB; clear HO166; have BK151 := n0_; have HB := n1_; have HO169 := n2_; clear n0_ n1_ n2_; clear ho hb hg hat))
           go_roundg k2
           case measure => have := HK1.out; have := HK2.out; omega
           case rel => exact ⟨(y167), (wrap64 (x38_2 + 1)), (by first | rfl | (simp; done) | (simp [*]; done)), H', ⟨by have := HK1.out; have := HK2.out; omega⟩, ⟨by (with_reducible repeat (first | apply Kd.R_alloc | apply Kd.R_drewN | apply Kd.R_drew)); exact HO169.out⟩, ⟨by (with_reducible repeat (first | refine blk_drewN ?_ _ | refine blk_drew ?_ | refine blk_alloc ?_ _)); exact BK151.out⟩, ⟨by repeat (first | (with_reducible first | exact HB.out | apply below_alloc | apply pw_below_drewN | apply below_drew1 | refine below_set ?_ GE151.out) | exact HB.out)⟩⟩
          ·rw [if_neg c26] at H
           exact absurd H (by simp)
         ·rw [if_neg c24] at H
          exact absurd H (by simp)
        ·rw [if_neg c23] at H
         exact absurd H (by simp)
       ·rw [if_neg c22] at H
        have c22b0 : decide (x38_2 < (l0_1.length : Int)) = false := decide_eq_false c22
        clear c22
        simp only [Option.some.injEq, Prod.mk.injEq] at H
        obtain ⟨rfl, rfl⟩ := H
        have hcv30 := own_string (P := Try.prog) Try.underlying67 Try.underlying5 Try.underlying9 (Kd.own_of_R HO_5.out)
        go_wp2
        go_ret2
        exact ⟨by first | rfl | (simp [errW_none, errW_some] <;> rfl) | (simp [*, errW_none, errW_some] <;> rfl), by repeat (first | (with_reducible first | exact HB.out | apply below_alloc | apply pw_below_drewN | apply below_drew1 | refine below_set ?_ GE151.out) | exact HB.out)⟩
 ·rw [if_neg c3] at H
  have c3b0 : (t152 == 0) = false := beq_eq_false_iff_ne.mpr c3
  have c3b1 : (t152 != 0) = true := bne_iff_ne.mpr c3
  simp only [Option.some.injEq, Prod.mk.injEq] at H
  obtain ⟨rfl, rfl⟩ := H
  go_enter Try.func21, Try.ntmps21
  go_wp2_with (first | ((with_reducible refine gate_dst (N := 1) rfl ?_); refine box_event ?hg (N := 1) ?hd (cs := #[.slice A0_0 l0_0.length c0_0, .slice A0_1 l0_1.length c0_1]) (t := 48) ?hr ?_; (case hd => rfl); (case hg => rfl); (case hr => first | (go_simp; done) | (go_simp; rfl)); intro gb151 hg w31 hbox hb; have n0_ := Aside0.mk (below_step (by repeat (first | (with_reducible first | exact HB.out | apply below_alloc | apply pw_below_drewN | apply below_drew1) | exact HB.out)) hb); have n1_ := Aside0.mk (hbox); have n2_ := Aside0.mk ((by rw [hg]; exact (below_size (by repeat (first | (with_reducible first | exact HB.out | apply below_alloc | apply pw_below_drewN | apply below_drew1) | exact HB.out))) : w.heap.size ≤ gb151)); have n3_ := Aside0.mk ((by rw [hg]; exact (below_size (by repeat (first | (with_reducible first | exact HB.out | apply below_alloc | apply pw_below_drewN | apply below_drew1) | exact HB.out))) : w.heap.size ≤ gb151)); clear HB; have HB := n0_; have BK151 := n1_; have GW151 := n2_; have GE151 := n3_; clear n0_ n1_ n2_ n3_; clear hb hbox hg; have hcz32_0 : w31.cell? ⟨gb151, 0, none⟩ = some (.slice A0_0 l0_0.length c0_0) := (blk_cell BK151.out 0).trans rfl; have hcz32_1 : w31.cell? ⟨gb151, 1, none⟩ = some (.slice A0_1 l0_1.length c0_1) := (blk_cell BK151.out 1).trans rfl; have hfz32_0 := blk_frozen BK151.out 0; have hfz32_1 := blk_frozen BK151.out 1) | ((with_reducible refine gate_callee (f := 40) rfl ?_); refine goesL_ (some 11) rfl rfl Try.func40 (by kernel_rfl) rfl #[.agg #[.slice A0_0 l0_0.length c0_0, .slice A0_1 l0_1.length c0_1]] rfl (by (try simp only [List.map_toArray, List.map_cons, List.map_nil]); first | done | rfl | (simp only [List.length_drop, List.length_take]; rfl)) ?_; (with_reducible refine (pack_Check.calls k _ _ l0_0 _ _ l0_1 t152 _ ?side1 ?side2 ?side3 ?side4 A2.out).mono ?_); (case side1 => repeat (first | exact (Kd.C_below HR0_0.out HB.out) | (with_reducible refine Kd.C_alloc ?_ _) | (with_reducible refine Kd.C_drewN ?_ _) | (with_reducible refine Kd.C_drew ?_))); (case side2 => exact HC0_0.out); (case side3 => repeat (first | exact (Kd.C_below HR0_1.out HB.out) | (with_reducible refine Kd.C_alloc ?_ _) | (with_reducible refine Kd.C_drewN ?_ _) | (with_reducible refine Kd.C_drew ?_))); (case side4 => exact HC0_1.out); rintro e w33 ⟨rfl, hb⟩; refine ⟨_, rfl, ?_⟩; have n0_ := Aside0.mk (blk_below (g := gb151) (o := .cells #[.slice A0_0 l0_0.length c0_0, .slice A0_1 l0_1.length c0_1] 48 (0, 0)) (by (with_reducible repeat (first | refine blk_drewN ?_ _ | refine blk_drew ?_ | refine blk_alloc ?_ _)); exact BK151.out) hb); have n1_ := Aside0.mk (below_step (by repeat (first | (with_reducible first | exact HB.out | apply below_alloc | apply pw_below_drewN | apply below_drew1 | refine below_set ?_ GE151.out) | exact HB.out)) hb); clear BK151; clear HB; have BK151 := n0_; have HB := n1_; clear n0_ n1_; (try clear hb); (try clear hb2); (try clear hk); (try clear hi)))
  go_ret2
  exact ⟨by first | rfl | (simp [errW_none, errW_some] <;> rfl) | (simp [*, errW_none, errW_some] <;> rfl), by repeat (first | (with_reducible first | exact HB.out | apply below_alloc | apply pw_below_drewN | apply below_drew1 | refine below_set ?_ GE151.out) | exact HB.out)⟩
end Go.Proofs.Ytbfjbcaabijpfaa.Al

namespace Go.Proofs.RegT
open Go
section
variable {P : Program} {ops : Array Oper} {Q : Exit → Act → World → Prop} {md : Region.Mode} {S : World → Prop} {s : Nat}
/-- Whatever order is picked; S holds behind each operation, as long as s has not come up. -/
def AnyT (P : Program) (md : Region.Mode) (ops : Array Oper) (Q : Exit → Act → World → Prop) (S : World → Prop) (s : Nat) : Nat → Array Bool → Act → World → Prop
 |0, l, a, w => Region.ready md ops l = [] ∧ Q .normal a w
 |f + 1, l, a, w => (Region.ready md ops l = [] → Q .normal a w) ∧ ∀ i ∈ Region.ready md ops l, wpOp P ops Q i (fun a' w' => ((l.setIfInBounds i true).getD s true = false → S w') ∧ AnyT P md ops Q S s f (l.setIfInBounds i true) a' w') a w
theorem AnyT.any : ∀ {f : Nat} {l : Array Bool} {a : Act} {w : World}, AnyT P md ops Q S s f l a w → wpAny P md ops Q f l a w
 |0, _, _, _, h => h
 |_ + 1, _, _, _, h => ⟨h.1, fun i hi => wpOp_mono (fun _ _ h' => AnyT.any h'.2) (h.2 i hi)⟩
/-- What waits for i, through others too. -/
def behind (md : Region.Mode) (ops : Array Oper) (i : Nat) : List Nat :=
 (List.range ops.size).foldl (fun acc c => if (i :: acc).any (fun d => Region.waitsFor md ops c d) then c :: acc else acc) []
/-- s waits for i, through others too, and none of these has come up. -/
def tillB (md : Region.Mode) (ops : Array Oper) (s : Nat) (l : Array Bool) (i : Nat) : Bool :=
 (behind md ops i).contains s && (behind md ops i).all fun c => (i :: behind md ops i).any (fun d => Region.waitsFor md ops c d) && (decide (c ≠ i) && !l.getD c true)
theorem AnyT.first {i : Nat} {oi : Oper} {v : Value} (hi : ops[i]? = some oi) (hsel : ∀ (j : Nat) (o : Oper) cs b, ops[j]? = some o → o.op ≠ .select cs b) (hQ : ∀ c a w, Q (.panic c) (a.put oi.dst v) w → Q (.panic c) a w) {ch : List Nat} (hsc : s ∈ ch) (hw : ∀ c ∈ ch, c ≠ i ∧ ∃ d ∈ i :: ch, Region.waitsFor md ops c d = true) :
  ∀ (f : Nat) (l : Array Bool) (a : Act) (w : World), (∀ j oj, ops[j]? = some oj → j ≠ i → l.getD j true = false → (∀ e ∈ oj.after, Region.binds md e = true → e.on ≠ i) → oi.apart ops oj = true) → i ∈ Region.ready md ops l → YieldsIf P ops S oi v a → S w → (∀ c ∈ ch, l.getD c true = false) → AnyT P md ops Q S s f (l.setIfInBounds i true) (a.put oi.dst v) w → AnyT P md ops Q S s (f + 1) l a w := by
 intro f
 induction f with
 |zero =>
  intro l a w _ hr hy hS hl H
  refine ⟨fun h => (by rw [h] at hr; cases hr), fun j hj => ?_⟩
  by_cases hji : j = i
  ·subst hji
   exact hy.wpOp hi hS ⟨fun _ => hS, H⟩
  ·have h1 := ready_mono hj hji
   rw [H.1] at h1
   cases h1
 |succ f ih =>
  intro l a w hfree hr hy hS hl H
  refine ⟨fun h => (by rw [h] at hr; cases hr), fun j hj => ?_⟩
  by_cases hji : j = i
  ·subst hji
   exact hy.wpOp hi hS ⟨fun _ => hS, H⟩
  ·have h1 := H.2 j (ready_mono hj hji)
   obtain ⟨hun, oj, hoj, hall⟩ := mem_ready.1 hj
   have hno' : ∀ d, l.getD d true = false → ∀ e ∈ oj.after, Region.binds md e = true → e.on ≠ d := fun d h3 e he hb heq => by
    have h2 := hall e he hb
    rw [heq] at h2
    rcases Nat.lt_or_ge d l.size with h' | h'
    ·simp [h'] at h2 h3
     rw [h3] at h2
     cases h2
    ·simp [Array.getElem?_eq_none h'] at h2
   have hno := hno' i (mem_ready.1 hr).1
   have hjc : j ∉ ch := by
    intro hjc
    obtain ⟨_, d, hd, hwd⟩ := hw j hjc
    obtain ⟨o2, ho2, e, he, hb, hon⟩ := Region.waitsFor_spec hwd
    rw [hoj] at ho2
    cases ho2
    rcases List.mem_cons.1 hd with rfl | hd
    ·exact hno e he hb hon
    ·exact hno' d (hl d hd) e he hb hon
   have hjs : j ≠ s := fun h => hjc (h ▸ hsc)
   have hsi : s ≠ i := (hw s hsc).1
   have h2 := wpOp_putIf hoj (hfree j oj hoj hji hun hno) (fun cs b => hsel i oi cs b hi) (fun cs b => hsel j oj cs b hoj) hQ hy h1
   refine wpOp_mono (fun a' w' h3 => ?_) h2
   obtain ⟨hy', hs', hA⟩ := h3
   rw [getD_set_ne true hjs, getD_set_ne true (Ne.symm hsi)] at hs'
   refine ⟨fun h4 => hs' (by rwa [getD_set_ne true hjs] at h4), ?_⟩
   refine ih (l.setIfInBounds j true) a' w' (fun k ok hk hki hun' hno' => hfree k ok hk hki ?_ hno') (ready_mono hr (Ne.symm hji)) hy' (hs' (hl s hsc)) (fun c hc => (getD_set_ne true (fun h : j = c => hjc (by rw [h]; exact hc))).trans (hl c hc)) ?_
   ·by_cases hjk : j = k
    ·subst hjk; exact hun
    ·rwa [getD_set_ne true hjk] at hun'
   ·rw [Array.setIfInBounds_comm _ _ hji]
    exact hA
theorem AnyT.take {i : Nat} {oi : Oper} {v : Value} {f : Nat} {l : Array Bool} {a : Act} {w : World} (hi : ops[i]? = some oi) (hs : Region.noSelect ops = true) (hf : Region.free md ops l i = true) (hr : (Region.ready md ops l).contains i = true) (hw : tillB md ops s l i = true)
  (hQ : ∀ c a w, Q (.panic c) (a.put oi.dst v) w → Q (.panic c) a w) (hy : YieldsIf P ops S oi v a) (hS : S w) (h : AnyT P md ops Q S s f (l.setIfInBounds i true) (a.put oi.dst v) w) : AnyT P md ops Q S s (f + 1) l a w := by
 unfold tillB at hw
 rw [Bool.and_eq_true, List.all_eq_true] at hw
 obtain ⟨h1, h2⟩ := hw
 have h3 : ∀ c ∈ behind md ops i, (i :: behind md ops i).any (fun d => Region.waitsFor md ops c d) = true ∧ c ≠ i ∧ l.getD c true = false := fun c hc => by
  have := h2 c hc
  rw [Bool.and_eq_true, Bool.and_eq_true] at this
  exact ⟨this.1, by simpa using this.2.1, by simpa using this.2.2⟩
 exact AnyT.first hi (Region.noSelect_spec hs) hQ (ch := behind md ops i) (by simpa using h1) (fun c hc => ⟨(h3 c hc).2.1, by simpa using List.any_eq_true.1 (h3 c hc).1⟩) f l a w (Region.free_spec hi hf) (by simpa using hr) hy hS (fun c hc => (h3 c hc).2.2) h
/-- Each of these comes up next. -/
def AllT (P : Program) (md : Region.Mode) (ops : Array Oper) (Q : Exit → Act → World → Prop) (S : World → Prop) (s f : Nat) (l : Array Bool) (a : Act) (w : World) (rs : List Nat) : Prop :=
 ∀ i ∈ rs, wpOp P ops Q i (fun a' w' => ((l.setIfInBounds i true).getD s true = false → S w') ∧ AnyT P md ops Q S s f (l.setIfInBounds i true) a' w') a w
theorem AllT.nil {f : Nat} {l : Array Bool} {a : Act} {w : World} : AllT P md ops Q S s f l a w [] := fun _ h => by cases h
theorem AllT.cons {f : Nat} {l : Array Bool} {a : Act} {w : World} {i : Nat} {o : Oper} {rs : List Nat} (ho : ops[i]? = some o)
  (h : ∀ K' : Act → World → Prop, Shut (∀ a w, ((l.setIfInBounds i true).getD s true = false → S w) → AnyT P md ops Q S s f (l.setIfInBounds i true) a w → K' a w) → if Region.wanted o (yielded ops a.tmps) = true then Oper.wp P o a w K' Q else K' (a.put o.dst undef) w)
  (hs : AllT P md ops Q S s f l a w rs) : AllT P md ops Q S s f l a w (i :: rs) := fun j hj => by
 rcases List.mem_cons.1 hj with rfl | hj
 ·exact wpOp_step ho (fun K' hK => h K' (fun a w hS hW => hK a w ⟨hS, hW⟩))
 ·exact hs j hj
theorem AnyT.ready {rs : List Nat} {f : Nat} {l : Array Bool} {a : Act} {w : World} (hr : Region.ready md ops l = rs) (hne : rs ≠ []) (h : AllT P md ops Q S s f l a w rs) : AnyT P md ops Q S s (f + 1) l a w :=
 ⟨fun h0 => absurd (hr ▸ h0) hne, hr ▸ h⟩
theorem AnyT.done {l : Array Bool} {a : Act} {w : World} (hr : Region.ready md ops l = []) (h : Q .normal a w) : ∀ f, AnyT P md ops Q S s f l a w
 |0 => ⟨hr, h⟩
 |_ + 1 => ⟨fun _ => h, by rw [hr]; simp⟩
theorem rt_begin {id : Nat} {a : Act} {w : World} (hm : P.follows .mixedOrders = true) (h : AnyT P .any ops Q S s ops.size (Array.replicate ops.size false) a w.drew) : (Code.region id ops true).wp P Q a w :=
 wp_region_any hm h.any
end
theorem ofDrop {ops : Array Oper} {i : Nat} {oi : Oper} {rest : List Oper} (h : ops.toList.drop i = oi :: rest) : ops[i]? = some oi := by
 have h1 : (ops.toList.drop i)[0]? = some oi := by rw [h]; rfl
 rw [List.getElem?_drop] at h1
 simpa using h1
section
variable {P : Program} {ops : Array Oper} {Q : Exit → Act → World → Prop} {md : Region.Mode} {S : World → Prop} {s : Nat}
theorem AnyT.taken {i : Nat} {oi : Oper} {rest : List Oper} {v : Value} {f : Nat} {l : Array Bool} {a : Act} {w : World} (hi : ops.toList.drop i = oi :: rest) (hs : Region.noSelect ops = true) (hf : Region.free md ops l i = true) (hr : (Region.ready md ops l).contains i = true) (hw : tillB md ops s l i = true)
  (hQ : ∀ c a w, Q (.panic c) (a.put oi.dst v) w → Q (.panic c) a w) (hy : YieldsIf P ops S oi v a) (hS : S w) (h : AnyT P md ops Q S s f (l.setIfInBounds i true) (a.put oi.dst v) w) : AnyT P md ops Q S s (f + 1) l a w :=
 AnyT.take (ofDrop hi) hs hf hr hw hQ hy hS h
theorem AllT.step {f : Nat} {l : Array Bool} {a : Act} {w : World} {i : Nat} {o : Oper} {rest : List Oper} {rs : List Nat} (ho : ops.toList.drop i = o :: rest)
  (h : ∀ K' : Act → World → Prop, Shut (∀ a w, ((l.setIfInBounds i true).getD s true = false → S w) → AnyT P md ops Q S s f (l.setIfInBounds i true) a w → K' a w) → if Region.wanted o (yielded ops a.tmps) = true then Oper.wp P o a w K' Q else K' (a.put o.dst undef) w)
  (hs : AllT P md ops Q S s f l a w rs) : AllT P md ops Q S s f l a w (i :: rs) := AllT.cons (ofDrop ho) h hs
/-- s has come up: S need not be shown. -/
theorem past {l : Array Bool} {p : Prop} (h : l.getD s true = true) : l.getD s true = false → p := fun h' => by rw [h] at h'; cases h'
end
end Go.Proofs.RegT

namespace Go.Proofs.Ytbfjbcaabijpfaa.Al
open Go.RowKit Go.Proofs.RegT Go.Proofs.Ytbfjbcaabijpfaa.Base Go.Proofs.Ytbfjbcaabijpfaa.LetSpec Go.Proofs.YtbfjbcaabijpfaaW.PrintWords Go.Proofs.YtbfjbcaabijpfaaW.PrintLast Go.Proofs.YtbfjbcaabijpfaaW.PrintMore
set_option linter.unusedVariables false
set_option linter.unusedSimpArgs false
def oneI (b : Bool) : Int := if b = true then 1 else 0
theorem one_calls (b : Bool) (w : World) : Calls Try.prog 20 #[.bool b] w fun e w' => e = .returned (.int .i64 (oneI b)) ∧ Below w.heap.size w w' := by
 refine (record_one.calls b (oneI b) w (by cases b <;> rfl)).mono ?_
 rintro e w' ⟨rfl, hd⟩
 obtain ⟨nd, rfl⟩ := hd.out
 exact ⟨rfl, pw_below_drewN (Below.refl _ _) _⟩
def flagsOf (l : List S50) : List Int := l.map fun x => oneI x.f2
def pairsOf (l : List S50) : List ByteArray := (l.map fun x => [x.f0, x.f1]).flatten
def record_Encode.f (k : Nat) (a0_0 : Int) (a0_1 : Int) (a0_2 : Int) (a0_3 : Int) (a0_4 : ByteArray) (a0_5 : ByteArray) (a0_6 : Bool) (l0_7 : List ByteArray) (l0_8 : List (S50)) : Option (ByteArray × Int) :=
 (record_Check.f a0_0 a0_1 a0_2 a0_3 a0_4 a0_5 a0_6 l0_7 l0_8).bind fun t => if t = 0 then (if l0_7.length ≤ 1000000 ∧ l0_8.length ≤ 1000000 then pack_Encode.f k ([a0_0, a0_1, a0_2, a0_3, oneI a0_6, (l0_7.length : Int)] ++ flagsOf l0_8) ([a0_4, a0_5] ++ l0_7 ++ pairsOf l0_8) else none) else some ((⟨#[]⟩ : ByteArray), t)
theorem record_Encode.mono : ∀ a0_0 a0_1 a0_2 a0_3 a0_4 a0_5 a0_6 l0_7 l0_8 k, LeO (record_Encode.f k a0_0 a0_1 a0_2 a0_3 a0_4 a0_5 a0_6 l0_7 l0_8) (record_Encode.f (k + 1) a0_0 a0_1 a0_2 a0_3 a0_4 a0_5 a0_6 l0_7 l0_8) := by
 intro a0_0 a0_1 a0_2 a0_3 a0_4 a0_5 a0_6 l0_7 l0_8 k
 unfold record_Encode.f
 refine LeO.bind (LeO.refl _) (fun t => LeO.ite (LeO.ite (pack_Encode.mono _ _ _) (LeO.none _)) (LeO.refl _))
/-- The pack under way: the letter's block gl, the pack's block gp, its slices. -/
structure PE (w0 W : World) (gl : Nat) (cs : Array Value) (gp : Nat) (xs : List Int) (ts : List ByteArray) (vN vT : Value) : Prop where
 bl : W.heap[gl]? = some (.cells cs 25 (0, 0))
 bp : W.heap[gp]? = some (.cells #[vN, vT] 48 (0, 0))
 gep : w0.heap.size ≤ gp
 ns : (Kd.int .i64).R 3 W w0.heap.size (fun _ => True) vN xs
 ts : Kd.string.R 9 W w0.heap.size (fun _ => True) vT ts
 bel : Below w0.heap.size w0 W
theorem blkFar {W : World} {g : Nat} {o : Obj} (h : W.heap[g]? = some o) (p : Addr) (hne : g ≠ p.block) (u : Value) : (W.setCell p u).heap[g]? = some o := (Below.heap_setCell W p u g hne).trans h
theorem blkNe {W : World} {g g' t t' : Nat} {cs cs' : Array Value} (h : W.heap[g]? = some (.cells cs t (0, 0))) (h' : W.heap[g']? = some (.cells cs' t' (0, 0))) (ht : t ≠ t') : g ≠ g' := by
 rintro rfl
 rw [h] at h'
 injection h' with h'
 injection h' with _ h'
 exact ht h'
section
variable {w0 W : World} {gl gp : Nat} {cs : Array Value} {xs : List Int} {ts : List ByteArray} {vN vT : Value}
theorem PE.below {W1 : World} (h : PE w0 W gl cs gp xs ts vN vT) (hb : Below W.heap.size W W1) : PE w0 W1 gl cs gp xs ts vN vT where
 bl := blk_below h.bl hb
 bp := blk_below h.bp hb
 gep := h.gep
 ns := Kd.R_below h.ns hb
 ts := Kd.R_below h.ts hb
 bel := below_step h.bel hb
theorem PE.set (h : PE w0 W gl cs gp xs ts vN vT) {g : Nat} {cs' : Array Value} (hq : W.heap[g]? = some (.cells cs' 50 (0, 0))) (hge : w0.heap.size ≤ g) (j : Nat) (u : Value) : PE w0 (W.setCell ⟨g, j, none⟩ u) gl cs gp xs ts vN vT where
 bl := blkFar h.bl _ (blkNe h.bl hq (by decide)) u
 bp := blkFar h.bp _ (blkNe h.bp hq (by decide)) u
 gep := h.gep
 ns := Kd.R_set h.ns hq (by decide) j u
 ts := Kd.R_set h.ts hq (by decide) j u
 bel := below_set h.bel hge
theorem PE.drew (h : PE w0 W gl cs gp xs ts vN vT) : PE w0 W.drew gl cs gp xs ts vN vT := h.below (below_drew (Below.refl _ _))
/-- The new slices are stored. -/
theorem PE.of {w3 : World} {vN' vT' : Value} (hl : w3.heap[gl]? = some (.cells cs 25 (0, 0))) (hb : Below w0.heap.size w0 w3) (hn : (Kd.int .i64).R 3 w3 w0.heap.size (fun _ => True) vN xs) (ht : Kd.string.R 9 w3 w0.heap.size (fun _ => True) vT ts) (hq : w3.heap[gp]? = some (.cells #[vN', vT'] 48 (0, 0))) (hge : w0.heap.size ≤ gp) : PE w0 ((w3.setCell ⟨gp, 0, none⟩ vN).setCell ⟨gp, 1, none⟩ vT) gl cs gp xs ts vN vT where
 bl := blkFar (blkFar hl _ (blkNe hl hq (by decide)) _) _ (blkNe hl hq (by decide)) _
 bp := by simpa using blk_set (blk_set hq 0 vN) 1 vT
 gep := hge
 ns := Kd.R_set (Kd.R_set hn hq (by decide) 0 vN) (by simpa using blk_set hq 0 vN) (by decide) 1 vT
 ts := Kd.R_set (Kd.R_set ht hq (by decide) 0 vN) (by simpa using blk_set hq 0 vN) (by decide) 1 vT
 bel := below_set (below_set hb hge) hge
theorem round_less {n i : Nat} {x : Int} (hx : x = (i : Int)) (h : i < n) : n - (intOf (.int .i64 (x + 1))).toNat < n - (intOf (.int .i64 x)).toNat := by simp [intOf]; omega
theorem pairs_len (l : List S50) : (pairsOf l).length = 2 * l.length := by
 unfold pairsOf
 induction l with
 |nil => rfl
 |cons x l ih => simp only [List.map_cons, List.flatten_cons, List.length_append, List.length_cons, List.length_nil]; omega
theorem flags_step {l : List S50} {i : Nat} (h : i < l.length) : flagsOf (l.take (i + 1)) = flagsOf (l.take i) ++ [oneI l[i].f2] := by unfold flagsOf; rw [List.take_succ_eq_append_getElem h, List.map_append]; rfl
theorem pairs_step {l : List S50} {i : Nat} (h : i < l.length) : pairsOf (l.take (i + 1)) = pairsOf (l.take i) ++ [l[i].f0, l[i].f1] := by unfold pairsOf; rw [List.take_succ_eq_append_getElem h, List.map_append, List.flatten_append]; simp only [List.map_cons, List.map_nil, List.flatten_cons, List.flatten_nil, List.append_nil]
end
theorem reps_ints (W : World) (base : Nat) (ok : Nat → Prop) (l : List Int) : Reps ((Kd.int .i64).M W base ok) 1 l (l.map (Value.int .i64)) :=
 ⟨by simp, fun j p hj => by
  have h : (l.map (Value.int .i64))[j]? = some (.int .i64 p) := by rw [List.getElem?_map, hj]; rfl
  obtain ⟨h1, h2⟩ := List.getElem?_eq_some_iff.1 h
  show (List.drop (j * 1) _).take 1 = [Value.int .i64 p]
  rw [Nat.mul_one, List.drop_eq_getElem_cons h1, h2]
  rfl⟩
theorem reps_texts (W : World) (base : Nat) (ok : Nat → Prop) (l : List ByteArray) : Reps (Kd.string.M W base ok) 1 l (l.map Value.string) :=
 ⟨by simp, fun j p hj => by
  have h : (l.map Value.string)[j]? = some (.string p) := by rw [List.getElem?_map, hj]; rfl
  obtain ⟨h1, h2⟩ := List.getElem?_eq_some_iff.1 h
  show (List.drop (j * 1) _).take 1 = [Value.string p]
  rw [Nat.mul_one, List.drop_eq_getElem_cons h1, h2]
  rfl⟩
theorem step_alloc {P : Program} {ops : Array Oper} {o : Oper} {a : Act} {W : World} {Q : Exit → Act → World → Prop} {Kc : Act → World → Prop} {ob : Obj} (hw : Region.wanted o (yielded ops a.tmps) = true) (hrun : (execOp a.eval o).run P W = .ok (.value (.pointer (some ⟨W.heap.size, 0, none⟩))) (W.alloc ob))
  (h : ∀ w1 gz, w1.heap[gz]? = some ob → W.heap.size ≤ gz → Below W.heap.size W w1 → Kc (a.put o.dst (.pointer (some ⟨gz, 0, none⟩))) w1) : if Region.wanted o (yielded ops a.tmps) = true then Oper.wp P o a W Kc Q else Kc (a.put o.dst undef) W :=
 event_step hw hrun (h (W.alloc ob) W.heap.size (blk_new _ _) (Nat.le_refl _) (below_alloc (Below.refl _ _) _))
theorem keep8 {W : World} {gl : Nat} {b0 b1 b2 b3 : Int} {b4 b5 : ByteArray} {t : Bool} {A7 A8 : Option Addr} {n7 c7 n8 c8 : Nat} (h : W.heap[gl]? = some (.cells #[.int .i64 b0, .int .i64 b1, .int .i64 b2, .int .i64 b3, .string b4, .string b5, .bool t, .slice A7 n7 c7, .slice A8 n8 c8] 25 (0, 0))) : W.cell? ⟨gl, 0, none⟩ = some (.int .i64 b0) ∧ W.cell? ⟨gl, 1, none⟩ = some (.int .i64 b1) ∧ W.cell? ⟨gl, 2, none⟩ = some (.int .i64 b2) ∧ W.cell? ⟨gl, 3, none⟩ = some (.int .i64 b3) ∧ W.cell? ⟨gl, 4, none⟩ = some (.string b4) ∧ W.cell? ⟨gl, 5, none⟩ = some (.string b5) ∧ W.cell? ⟨gl, 6, none⟩ = some (.bool t) ∧ W.cell? ⟨gl, 7, none⟩ = some (.slice A7 n7 c7) :=
 ⟨(blk_cell h 0).trans rfl, (blk_cell h 1).trans rfl, (blk_cell h 2).trans rfl, (blk_cell h 3).trans rfl, (blk_cell h 4).trans rfl, (blk_cell h 5).trans rfl, (blk_cell h 6).trans rfl, (blk_cell h 7).trans rfl⟩
set_option maxHeartbeats 8000000 in
set_option maxRecDepth 100000 in
theorem record_Encode.calls (k : Nat) (a0_0 : Int) (a0_1 : Int) (a0_2 : Int) (a0_3 : Int) (a0_4 : ByteArray) (a0_5 : ByteArray) (a0_6 : Bool) (A0_7 : Option Addr) (c0_7 : Nat) (l0_7 : List ByteArray) (A0_8 : Option Addr) (c0_8 : Nat) (l0_8 : List (S50)) (r1 : ByteArray) (r2 : Int) (w : World) (hr0_7 : Kd.C Kd.string w A0_7 l0_7.length l0_7) (hc0_7 : l0_7.length ≤ c0_7) (hr0_8 : Kd.C k50 w A0_8 l0_8.length l0_8) (hc0_8 : l0_8.length ≤ c0_8) (h : record_Encode.f k a0_0 a0_1 a0_2 a0_3 a0_4 a0_5 a0_6 l0_7 l0_8 = some (r1, r2)) :
  Calls Try.prog 9 #[.agg #[.int .i64 a0_0, .int .i64 a0_1, .int .i64 a0_2, .int .i64 a0_3, .string a0_4, .string a0_5, .bool a0_6, .slice A0_7 l0_7.length c0_7, .slice A0_8 l0_8.length c0_8]] w fun e w' => e = .returned (.tuple #[.string r1, .int .i64 r2]) ∧ Below w.heap.size w w' := by
 have hu25 := Try.underlying25
 have hu50 := Try.underlying50
 have hu48 := Try.underlying48
 have HR7 := Aside0.mk hr0_7
 have HC7 := Aside0.mk hc0_7
 have HR8 := Aside0.mk hr0_8
 have HC8 := Aside0.mk hc0_8
 clear hr0_7 hc0_7 hr0_8 hc0_8
 have H : ((record_Check.f a0_0 a0_1 a0_2 a0_3 a0_4 a0_5 a0_6 l0_7 l0_8).bind fun t => if t = 0 then (if l0_7.length ≤ 1000000 ∧ l0_8.length ≤ 1000000 then pack_Encode.f k ([a0_0, a0_1, a0_2, a0_3, oneI a0_6, (l0_7.length : Int)] ++ flagsOf l0_8) ([a0_4, a0_5] ++ l0_7 ++ pairsOf l0_8) else none) else some ((⟨#[]⟩ : ByteArray), t)) = some (r1, r2) := h
 clear h
 replace H := Option.bind_eq_some_iff.mp H
 obtain ⟨t, A20, H⟩ := H
 replace H : (if t = 0 then (if l0_7.length ≤ 1000000 ∧ l0_8.length ≤ 1000000 then pack_Encode.f k ([a0_0, a0_1, a0_2, a0_3, oneI a0_6, (l0_7.length : Int)] ++ flagsOf l0_8) ([a0_4, a0_5] ++ l0_7 ++ pairsOf l0_8) else none) else some ((⟨#[]⟩ : ByteArray), t)) = some (r1, r2) := H
 have A2 := Aside0.mk A20
 clear A20
 by_cases c3 : t = 0
 ·rw [if_pos c3] at H
  subst c3
  by_cases hl : l0_7.length ≤ 1000000 ∧ l0_8.length ≤ 1000000
  ·rw [if_pos hl] at H
   obtain ⟨hl7, hl8⟩ := hl
   have HPK := Aside0.mk H
   clear H
   go_enter Try.func9, Try.ntmps9
   go_wp2_with (first | ((with_reducible refine gate_dst (N := 1) rfl ?_); refine box_event ?hg (N := 1) ?hd (cs := #[.int .i64 a0_0, .int .i64 a0_1, .int .i64 a0_2, .int .i64 a0_3, .string a0_4, .string a0_5, .bool a0_6, .slice A0_7 l0_7.length c0_7, .slice A0_8 l0_8.length c0_8]) (t := 25) ?hr ?_; (case hd => rfl); (case hg => rfl); (case hr => first | (go_simp; done) | (go_simp; rfl)); intro gl hgl w1 hbox hb; have HB := Aside0.mk hb; have BL := Aside0.mk hbox; clear hgl hb hbox; have hcz_0 : w1.cell? ⟨gl, 0, none⟩ = some (.int .i64 a0_0) := (blk_cell BL.out 0).trans rfl; have hcz_1 : w1.cell? ⟨gl, 1, none⟩ = some (.int .i64 a0_1) := (blk_cell BL.out 1).trans rfl; have hcz_2 : w1.cell? ⟨gl, 2, none⟩ = some (.int .i64 a0_2) := (blk_cell BL.out 2).trans rfl; have hcz_3 : w1.cell? ⟨gl, 3, none⟩ = some (.int .i64 a0_3) := (blk_cell BL.out 3).trans rfl; have hcz_4 : w1.cell? ⟨gl, 4, none⟩ = some (.string a0_4) := (blk_cell BL.out 4).trans rfl; have hcz_5 : w1.cell? ⟨gl, 5, none⟩ = some (.string a0_5) := (blk_cell BL.out 5).trans rfl; have hcz_6 : w1.cell? ⟨gl, 6, none⟩ = some (.bool a0_6) := (blk_cell BL.out 6).trans rfl; have hcz_7 : w1.cell? ⟨gl, 7, none⟩ = some (.slice A0_7 l0_7.length c0_7) := (blk_cell BL.out 7).trans rfl; have hcz_8 : w1.cell? ⟨gl, 8, none⟩ = some (.slice A0_8 l0_8.length c0_8) := (blk_cell BL.out 8).trans rfl) | (go_at_call 11; refine (record_Check.calls a0_0 a0_1 a0_2 a0_3 a0_4 a0_5 a0_6 _ _ l0_7 _ _ l0_8 _ _ (Kd.C_below HR7.out HB.out) HC7.out (Kd.C_below HR8.out HB.out) HC8.out A2.out).mono ?_; rintro e w2 ⟨rfl, hb⟩; have HB2 := Aside0.mk (below_step HB.out hb); have BL2 := Aside0.mk (blk_below BL.out hb); clear hb))
   clear hcz_0 hcz_1 hcz_2 hcz_3 hcz_4 hcz_5 hcz_6 hcz_7 hcz_8 HB BL
   have HB := Aside0.mk (below_drew HB2.out)
   have HL := Aside0.mk (blk_drew BL2.out)
   go_cut [5] from 8 (fun v5 wc => ∃ (gp : Nat) (vN vT : Value), v5 = .pointer (some ⟨gp, 0, none⟩) ∧ Aside0 (PE w wc gl #[.int .i64 a0_0, .int .i64 a0_1, .int .i64 a0_2, .int .i64 a0_3, .string a0_4, .string a0_5, .bool a0_6, .slice A0_7 l0_7.length c0_7, .slice A0_8 l0_8.length c0_8] gp [a0_0, a0_1, a0_2, a0_3, (oneI a0_6), (l0_7.length : Int)] ([a0_4, a0_5] ++ l0_7) vN vT))
   case first =>
    refine wp_region_noPanic ?_
    refine rt_begin (S := (fun W => W.heap[gl]? = some (Obj.cells #[.int .i64 a0_0, .int .i64 a0_1, .int .i64 a0_2, .int .i64 a0_3, .string a0_4, .string a0_5, .bool a0_6, .slice A0_7 l0_7.length c0_7, .slice A0_8 l0_8.length c0_8] 25 (0, 0)))) (s := 25) (by kernel_rfl) ?_
    refine AnyT.taken (i := 0) (v := ?v1) rfl (by kernel_rfl) (by kernel_rfl) (by kernel_rfl) (by kernel_rfl) (fun _ _ _ h => h) (Or.inl ⟨by rfl, ?y1⟩) ?s1 ?_
    case y1 =>
     intro wSW hSW
     (obtain ⟨k0, k1, k2, k3, k4, k5, k6, k7⟩ := keep8 hSW; go_simp)
     all_goals with_reducible rfl
    case s1 => exact HL.out
    try simp only [Act.put, List.setIfInBounds_toArray, List.set_cons_zero, List.set_cons_succ]
    refine AnyT.taken (i := 1) (v := ?v2) rfl (by kernel_rfl) (by kernel_rfl) (by kernel_rfl) (by kernel_rfl) (fun _ _ _ h => h) (Or.inl ⟨by rfl, ?y2⟩) ?s2 ?_
    case y2 =>
     intro wSW hSW
     (obtain ⟨k0, k1, k2, k3, k4, k5, k6, k7⟩ := keep8 hSW; go_simp)
     all_goals with_reducible rfl
    case s2 => exact HL.out
    try simp only [Act.put, List.setIfInBounds_toArray, List.set_cons_zero, List.set_cons_succ]
    refine AnyT.taken (i := 2) (v := ?v3) rfl (by kernel_rfl) (by kernel_rfl) (by kernel_rfl) (by kernel_rfl) (fun _ _ _ h => h) (Or.inl ⟨by rfl, ?y3⟩) ?s3 ?_
    case y3 =>
     intro wSW hSW
     (obtain ⟨k0, k1, k2, k3, k4, k5, k6, k7⟩ := keep8 hSW; go_simp)
     all_goals with_reducible rfl
    case s3 => exact HL.out
    try simp only [Act.put, List.setIfInBounds_toArray, List.set_cons_zero, List.set_cons_succ]
    refine AnyT.taken (i := 3) (v := ?v4) rfl (by kernel_rfl) (by kernel_rfl) (by kernel_rfl) (by kernel_rfl) (fun _ _ _ h => h) (Or.inl ⟨by rfl, ?y4⟩) ?s4 ?_
    case y4 =>
     intro wSW hSW
     (obtain ⟨k0, k1, k2, k3, k4, k5, k6, k7⟩ := keep8 hSW; go_simp)
     all_goals with_reducible rfl
    case s4 => exact HL.out
    try simp only [Act.put, List.setIfInBounds_toArray, List.set_cons_zero, List.set_cons_succ]
    refine AnyT.taken (i := 4) (v := ?v5) rfl (by kernel_rfl) (by kernel_rfl) (by kernel_rfl) (by kernel_rfl) (fun _ _ _ h => h) (Or.inl ⟨by rfl, ?y5⟩) ?s5 ?_
    case y5 =>
     intro wSW hSW
     (obtain ⟨k0, k1, k2, k3, k4, k5, k6, k7⟩ := keep8 hSW; go_simp)
     all_goals with_reducible rfl
    case s5 => exact HL.out
    try simp only [Act.put, List.setIfInBounds_toArray, List.set_cons_zero, List.set_cons_succ]
    refine AnyT.taken (i := 5) (v := ?v6) rfl (by kernel_rfl) (by kernel_rfl) (by kernel_rfl) (by kernel_rfl) (fun _ _ _ h => h) (Or.inl ⟨by rfl, ?y6⟩) ?s6 ?_
    case y6 =>
     intro wSW hSW
     (obtain ⟨k0, k1, k2, k3, k4, k5, k6, k7⟩ := keep8 hSW; go_simp)
     all_goals with_reducible rfl
    case s6 => exact HL.out
    try simp only [Act.put, List.setIfInBounds_toArray, List.set_cons_zero, List.set_cons_succ]
    refine AnyT.taken (i := 6) (v := ?v7) rfl (by kernel_rfl) (by kernel_rfl) (by kernel_rfl) (by kernel_rfl) (fun _ _ _ h => h) (Or.inl ⟨by rfl, ?y7⟩) ?s7 ?_
    case y7 =>
     intro wSW hSW
     (obtain ⟨k0, k1, k2, k3, k4, k5, k6, k7⟩ := keep8 hSW; go_simp)
     all_goals with_reducible rfl
    case s7 => exact HL.out
    try simp only [Act.put, List.setIfInBounds_toArray, List.set_cons_zero, List.set_cons_succ]
    refine AnyT.taken (i := 7) (v := ?v8) rfl (by kernel_rfl) (by kernel_rfl) (by kernel_rfl) (by kernel_rfl) (fun _ _ _ h => h) (Or.inl ⟨by rfl, ?y8⟩) ?s8 ?_
    case y8 =>
     intro wSW hSW
     (obtain ⟨k0, k1, k2, k3, k4, k5, k6, k7⟩ := keep8 hSW; go_simp)
     all_goals with_reducible rfl
    case s8 => exact HL.out
    try simp only [Act.put, List.setIfInBounds_toArray, List.set_cons_zero, List.set_cons_succ]
    refine AnyT.taken (i := 8) (v := ?v9) rfl (by kernel_rfl) (by kernel_rfl) (by kernel_rfl) (by kernel_rfl) (fun _ _ _ h => h) (Or.inl ⟨by rfl, ?y9⟩) ?s9 ?_
    case y9 =>
     intro wSW hSW
     (obtain ⟨k0, k1, k2, k3, k4, k5, k6, k7⟩ := keep8 hSW; go_simp)
     all_goals with_reducible rfl
    case s9 => exact HL.out
    try simp only [Act.put, List.setIfInBounds_toArray, List.set_cons_zero, List.set_cons_succ]
    refine AnyT.taken (i := 9) (v := ?v10) rfl (by kernel_rfl) (by kernel_rfl) (by kernel_rfl) (by kernel_rfl) (fun _ _ _ h => h) (Or.inl ⟨by rfl, ?y10⟩) ?s10 ?_
    case y10 =>
     intro wSW hSW
     (obtain ⟨k0, k1, k2, k3, k4, k5, k6, k7⟩ := keep8 hSW; go_simp)
     all_goals with_reducible rfl
    case s10 => exact HL.out
    try simp only [Act.put, List.setIfInBounds_toArray, List.set_cons_zero, List.set_cons_succ]
    refine AnyT.taken (i := 11) (v := ?v11) rfl (by kernel_rfl) (by kernel_rfl) (by kernel_rfl) (by kernel_rfl) (fun _ _ _ h => h) (Or.inl ⟨by rfl, ?y11⟩) ?s11 ?_
    case y11 =>
     intro wSW hSW
     (obtain ⟨k0, k1, k2, k3, k4, k5, k6, k7⟩ := keep8 hSW; go_simp)
     all_goals with_reducible rfl
    case s11 => exact HL.out
    try simp only [Act.put, List.setIfInBounds_toArray, List.set_cons_zero, List.set_cons_succ]
    refine AnyT.taken (i := 12) (v := ?v12) rfl (by kernel_rfl) (by kernel_rfl) (by kernel_rfl) (by kernel_rfl) (fun _ _ _ h => h) (Or.inl ⟨by rfl, ?y12⟩) ?s12 ?_
    case y12 =>
     intro wSW hSW
     (obtain ⟨k0, k1, k2, k3, k4, k5, k6, k7⟩ := keep8 hSW; go_simp)
     all_goals with_reducible rfl
    case s12 => exact HL.out
    try simp only [Act.put, List.setIfInBounds_toArray, List.set_cons_zero, List.set_cons_succ]
    refine AnyT.taken (i := 13) (v := ?v13) rfl (by kernel_rfl) (by kernel_rfl) (by kernel_rfl) (by kernel_rfl) (fun _ _ _ h => h) (Or.inl ⟨by rfl, ?y13⟩) ?s13 ?_
    case y13 =>
     intro wSW hSW
     (obtain ⟨k0, k1, k2, k3, k4, k5, k6, k7⟩ := keep8 hSW; go_simp)
     all_goals with_reducible rfl
    case s13 => exact HL.out
    try simp only [Act.put, List.setIfInBounds_toArray, List.set_cons_zero, List.set_cons_succ]
    refine AnyT.taken (i := 15) (v := ?v14) rfl (by kernel_rfl) (by kernel_rfl) (by kernel_rfl) (by kernel_rfl) (fun _ _ _ h => h) (Or.inl ⟨by rfl, ?y14⟩) ?s14 ?_
    case y14 =>
     intro wSW hSW
     (obtain ⟨k0, k1, k2, k3, k4, k5, k6, k7⟩ := keep8 hSW; go_simp)
     all_goals with_reducible rfl
    case s14 => exact HL.out
    try simp only [Act.put, List.setIfInBounds_toArray, List.set_cons_zero, List.set_cons_succ]
    refine AnyT.taken (i := 16) (v := ?v15) rfl (by kernel_rfl) (by kernel_rfl) (by kernel_rfl) (by kernel_rfl) (fun _ _ _ h => h) (Or.inl ⟨by rfl, ?y15⟩) ?s15 ?_
    case y15 =>
     intro wSW hSW
     (obtain ⟨k0, k1, k2, k3, k4, k5, k6, k7⟩ := keep8 hSW; go_simp)
     all_goals with_reducible rfl
    case s15 => exact HL.out
    try simp only [Act.put, List.setIfInBounds_toArray, List.set_cons_zero, List.set_cons_succ]
    refine AnyT.taken (i := 17) (v := ?v16) rfl (by kernel_rfl) (by kernel_rfl) (by kernel_rfl) (by kernel_rfl) (fun _ _ _ h => h) (Or.inl ⟨by rfl, ?y16⟩) ?s16 ?_
    case y16 =>
     intro wSW hSW
     (obtain ⟨k0, k1, k2, k3, k4, k5, k6, k7⟩ := keep8 hSW; go_simp)
     all_goals with_reducible rfl
    case s16 => exact HL.out
    try simp only [Act.put, List.setIfInBounds_toArray, List.set_cons_zero, List.set_cons_succ]
    refine AnyT.taken (i := 18) (v := ?v17) rfl (by kernel_rfl) (by kernel_rfl) (by kernel_rfl) (by kernel_rfl) (fun _ _ _ h => h) (Or.inl ⟨by rfl, ?y17⟩) ?s17 ?_
    case y17 =>
     intro wSW hSW
     (obtain ⟨k0, k1, k2, k3, k4, k5, k6, k7⟩ := keep8 hSW; go_simp)
     all_goals with_reducible rfl
    case s17 => exact HL.out
    try simp only [Act.put, List.setIfInBounds_toArray, List.set_cons_zero, List.set_cons_succ]
    refine AnyT.taken (i := 20) (v := ?v18) rfl (by kernel_rfl) (by kernel_rfl) (by kernel_rfl) (by kernel_rfl) (fun _ _ _ h => h) (Or.inl ⟨by rfl, ?y18⟩) ?s18 ?_
    case y18 =>
     intro wSW hSW
     (obtain ⟨k0, k1, k2, k3, k4, k5, k6, k7⟩ := keep8 hSW; go_simp)
     all_goals with_reducible rfl
    case s18 => exact HL.out
    try simp only [Act.put, List.setIfInBounds_toArray, List.set_cons_zero, List.set_cons_succ]
    refine AnyT.taken (i := 21) (v := ?v19) rfl (by kernel_rfl) (by kernel_rfl) (by kernel_rfl) (by kernel_rfl) (fun _ _ _ h => h) (Or.inl ⟨by rfl, ?y19⟩) ?s19 ?_
    case y19 =>
     intro wSW hSW
     (obtain ⟨k0, k1, k2, k3, k4, k5, k6, k7⟩ := keep8 hSW; go_simp)
     all_goals with_reducible rfl
    case s19 => exact HL.out
    try simp only [Act.put, List.setIfInBounds_toArray, List.set_cons_zero, List.set_cons_succ]
    refine AnyT.ready (rs := [10, 19, 24]) (by kernel_rfl) (by simp) (AllT.step rfl (fun K hK => ?b2010) (AllT.step rfl (fun K hK => ?b2019) (AllT.step rfl (fun K hK => ?b2024) AllT.nil)))
    case b2010 =>
     (refine goes_ Try.func20 (by kernel_rfl) rfl #[.bool a0_6] (by rfl) rfl rfl (by (try simp only [List.map_toArray, List.map_cons, List.map_nil]); first | done | rfl) ?_; refine (one_calls a0_6 _).mono ?_; rintro e w9 ⟨rfl, hb⟩; refine ⟨_, rfl, ?_⟩; (try replace FN := Aside0.mk (Kd.R_below FN.out hb)); (try replace FT := Aside0.mk (Kd.R_below FT.out hb)); (try replace FZ := Aside0.mk (blk_below FZ.out hb)); replace HL := Aside0.mk (blk_below HL.out hb); replace HB := Aside0.mk (below_step HB.out hb); clear hb)
     refine hK.out _ _ ?_ ?_
     ·intro _; exact HL.out
     clear hK K
     try simp only [Act.put, List.setIfInBounds_toArray, List.set_cons_zero, List.set_cons_succ]
     refine AnyT.ready (rs := [14, 19, 24]) (by kernel_rfl) (by simp) (AllT.step rfl (fun K hK => ?b2214) (AllT.step rfl (fun K hK => ?b2219) (AllT.step rfl (fun K hK => ?b2224) AllT.nil)))
     case b2214 =>
      (refine Kd.R_lit_step (Kd.int .i64) (w0 := w) w.heap.size 3 (by rfl) (N := 27) (by rfl) (xs := [a0_0, a0_1, a0_2, a0_3, (oneI a0_6), (l0_7.length : Int)]) (inner := [.int .i64 a0_0, .int .i64 a0_1, .int .i64 a0_2, .int .i64 a0_3, .int .i64 (oneI a0_6), .int .i64 (l0_7.length : Int)]) (ok := fun _ => True) (okp := fun _ => True) ?hr (reps_ints _ _ _ [a0_0, a0_1, a0_2, a0_3, (oneI a0_6), (l0_7.length : Int)]) (fun _ h => h) trivial HB.out HB.out.size (by simp) ?_; (case hr => first | (go_simp; done) | (go_simp; rfl)); intro vx w9 ho hb hg hat; (try replace FN := Aside0.mk (Kd.R_grown FN.out hg (fun _ _ => by simp))); (try replace FT := Aside0.mk (Kd.R_grown FT.out hg (fun _ _ => by simp))); (try replace FZ := Aside0.mk (blk_grown FZ.out hg (by simp))); replace HL := Aside0.mk (blk_grown HL.out hg (by simp)); replace HB := Aside0.mk hb; obtain ⟨A27, c27, e9⟩ := Kd.R_slice ho; subst e9; have FN := Aside0.mk ho; clear ho hb hg hat)
      refine hK.out _ _ ?_ ?_
      ·intro _; exact HL.out
      clear hK K
      try simp only [Act.put, List.setIfInBounds_toArray, List.set_cons_zero, List.set_cons_succ]
      refine AnyT.ready (rs := [19, 24]) (by kernel_rfl) (by simp) (AllT.step rfl (fun K hK => ?b2419) (AllT.step rfl (fun K hK => ?b2424) AllT.nil))
      case b2419 =>
       (refine Kd.R_lit_step Kd.string (w0 := w) w.heap.size 9 (by rfl) (N := 32) (by rfl) (xs := [a0_4, a0_5]) (inner := [.string a0_4, .string a0_5]) (ok := fun _ => True) (okp := fun _ => True) ?hr (reps_texts _ _ _ [a0_4, a0_5]) (fun _ h => h) trivial HB.out HB.out.size (by simp) ?_; (case hr => first | (go_simp; done) | (go_simp; rfl)); intro vx w9 ho hb hg hat; (try replace FN := Aside0.mk (Kd.R_grown FN.out hg (fun _ _ => by simp))); (try replace FT := Aside0.mk (Kd.R_grown FT.out hg (fun _ _ => by simp))); (try replace FZ := Aside0.mk (blk_grown FZ.out hg (by simp))); replace HL := Aside0.mk (blk_grown HL.out hg (by simp)); replace HB := Aside0.mk hb; obtain ⟨A32, c32, e9⟩ := Kd.R_slice ho; subst e9; have FT := Aside0.mk ho; clear ho hb hg hat)
       refine hK.out _ _ ?_ ?_
       ·intro _; exact HL.out
       clear hK K
       try simp only [Act.put, List.setIfInBounds_toArray, List.set_cons_zero, List.set_cons_succ]
       refine AnyT.ready (rs := [22, 24]) (by kernel_rfl) (by simp) (AllT.step rfl (fun K hK => ?b2622) (AllT.step rfl (fun K hK => ?b2624) AllT.nil))
       case b2622 =>
        (refine Kd.R_append_rows_step Kd.string (w0 := w) w.heap.size (by rfl) (.tmp 32) (.tmp 34) 22 9 (.string ⟨#[]⟩) 16 (by rfl) Try.underlying22 info9 rfl (by decide) (by omega) (.slice A32 2 c32) [a0_4, a0_5] l0_7 _ _ _ (fun _ => True) (fun _ => False) (by rfl) (by rfl) FT.out (Kd.C_below HR7.out HB.out) (fun _ _ h => h) (fun _ h => h.elim) (fun _ _ => trivial) HB.out HB.out.size (by simp only [List.length_cons, List.length_nil]; omega) ?_; intro vx w9 ho hb hg hat; (try replace FN := Aside0.mk (Kd.R_over FN.out FT.out (by decide) hg)); (try replace FZ := Aside0.mk (blk_grown FZ.out hg (Kd.R_ne FT.out FZ.out (by decide)))); replace HL := Aside0.mk (blk_grown HL.out hg (Kd.R_ne FT.out HL.out (by decide))); replace HB := Aside0.mk hb; obtain ⟨A35, c35, e9⟩ := Kd.R_slice ho; subst e9; replace FT := Aside0.mk ho; clear ho hb hg hat)
        refine hK.out _ _ ?_ ?_
        ·intro _; exact HL.out
        clear hK K
        try simp only [Act.put, List.setIfInBounds_toArray, List.set_cons_zero, List.set_cons_succ]
        refine AnyT.taken (i := 23) (v := ?v28) rfl (by kernel_rfl) (by kernel_rfl) (by kernel_rfl) (by kernel_rfl) (fun _ _ _ h => h) (Or.inl ⟨by rfl, ?y28⟩) ?s28 ?_
        case y28 =>
         intro wSW hSW
         (obtain ⟨k0, k1, k2, k3, k4, k5, k6, k7⟩ := keep8 hSW; go_simp)
         all_goals with_reducible rfl
        case s28 => exact HL.out
        try simp only [Act.put, List.setIfInBounds_toArray, List.set_cons_zero, List.set_cons_succ]
        refine AnyT.ready (rs := [24]) (by kernel_rfl) (by simp) (AllT.step rfl (fun K hK => ?b2924) AllT.nil)
        case b2924 =>
         (refine step_alloc (ob := .cells #[.slice none 0 0, .slice none 0 0] 48) (by rfl) ?hr ?_; (case hr => first | (go_simp; done) | (go_simp; rfl)); intro w9 gz hq hge hb; have FG : Aside0 (w.heap.size ≤ gz) := ⟨Nat.le_trans HB.out.size hge⟩; (try replace FN := Aside0.mk (Kd.R_below FN.out hb)); (try replace FT := Aside0.mk (Kd.R_below FT.out hb)); (try replace FZ := Aside0.mk (blk_below FZ.out hb)); replace HL := Aside0.mk (blk_below HL.out hb); replace HB := Aside0.mk (below_step HB.out hb); have FZ := Aside0.mk hq; clear hq hge hb)
         refine hK.out _ _ ?_ ?_
         ·intro _; exact HL.out
         clear hK K
         try simp only [Act.put, List.setIfInBounds_toArray, List.set_cons_zero, List.set_cons_succ]
         refine AnyT.ready (rs := [25]) (by kernel_rfl) (by simp) (AllT.step rfl (fun K hK => ?b3125) AllT.nil)
         case b3125 =>
          (have hs0 := (blk_cell FZ.out 0).trans rfl; have hs1 := (blk_cell FZ.out 1).trans rfl; have hf0 := blk_frozen FZ.out 0; have hf1 := blk_frozen FZ.out 1; go_simp)
          refine hK.out _ _ ?_ ?_
          ·exact past (by kernel_rfl)
          clear hK K
          try simp only [Act.put, List.setIfInBounds_toArray, List.set_cons_zero, List.set_cons_succ]
          refine AnyT.done (by kernel_rfl) ?_ _
          refine NoPanic.normal ?_
          (go_wp2; go_meet)
          (case rel => exact ⟨gz, .slice A27 6 c27, .slice A35 (l0_7.length + 2) c35, rfl, ⟨PE.of (vN' := .slice none 0 0) (vT' := .slice none 0 0) HL.out HB.out FN.out FT.out FZ.out FG.out⟩⟩)
       case b2624 =>
        (refine step_alloc (ob := .cells #[.slice none 0 0, .slice none 0 0] 48) (by rfl) ?hr ?_; (case hr => first | (go_simp; done) | (go_simp; rfl)); intro w9 gz hq hge hb; have FG : Aside0 (w.heap.size ≤ gz) := ⟨Nat.le_trans HB.out.size hge⟩; (try replace FN := Aside0.mk (Kd.R_below FN.out hb)); (try replace FT := Aside0.mk (Kd.R_below FT.out hb)); (try replace FZ := Aside0.mk (blk_below FZ.out hb)); replace HL := Aside0.mk (blk_below HL.out hb); replace HB := Aside0.mk (below_step HB.out hb); have FZ := Aside0.mk hq; clear hq hge hb)
        refine hK.out _ _ ?_ ?_
        ·intro _; exact HL.out
        clear hK K
        try simp only [Act.put, List.setIfInBounds_toArray, List.set_cons_zero, List.set_cons_succ]
        refine AnyT.ready (rs := [22]) (by kernel_rfl) (by simp) (AllT.step rfl (fun K hK => ?b3522) AllT.nil)
        case b3522 =>
         (refine Kd.R_append_rows_step Kd.string (w0 := w) w.heap.size (by rfl) (.tmp 32) (.tmp 34) 22 9 (.string ⟨#[]⟩) 16 (by rfl) Try.underlying22 info9 rfl (by decide) (by omega) (.slice A32 2 c32) [a0_4, a0_5] l0_7 _ _ _ (fun _ => True) (fun _ => False) (by rfl) (by rfl) FT.out (Kd.C_below HR7.out HB.out) (fun _ _ h => h) (fun _ h => h.elim) (fun _ _ => trivial) HB.out HB.out.size (by simp only [List.length_cons, List.length_nil]; omega) ?_; intro vx w9 ho hb hg hat; (try replace FN := Aside0.mk (Kd.R_over FN.out FT.out (by decide) hg)); (try replace FZ := Aside0.mk (blk_grown FZ.out hg (Kd.R_ne FT.out FZ.out (by decide)))); replace HL := Aside0.mk (blk_grown HL.out hg (Kd.R_ne FT.out HL.out (by decide))); replace HB := Aside0.mk hb; obtain ⟨A35, c35, e9⟩ := Kd.R_slice ho; subst e9; replace FT := Aside0.mk ho; clear ho hb hg hat)
         refine hK.out _ _ ?_ ?_
         ·intro _; exact HL.out
         clear hK K
         try simp only [Act.put, List.setIfInBounds_toArray, List.set_cons_zero, List.set_cons_succ]
         refine AnyT.taken (i := 23) (v := ?v37) rfl (by kernel_rfl) (by kernel_rfl) (by kernel_rfl) (by kernel_rfl) (fun _ _ _ h => h) (Or.inl ⟨by rfl, ?y37⟩) ?s37 ?_
         case y37 =>
          intro wSW hSW
          (obtain ⟨k0, k1, k2, k3, k4, k5, k6, k7⟩ := keep8 hSW; go_simp)
          all_goals with_reducible rfl
         case s37 => exact HL.out
         try simp only [Act.put, List.setIfInBounds_toArray, List.set_cons_zero, List.set_cons_succ]
         refine AnyT.ready (rs := [25]) (by kernel_rfl) (by simp) (AllT.step rfl (fun K hK => ?b3825) AllT.nil)
         case b3825 =>
          (have hs0 := (blk_cell FZ.out 0).trans rfl; have hs1 := (blk_cell FZ.out 1).trans rfl; have hf0 := blk_frozen FZ.out 0; have hf1 := blk_frozen FZ.out 1; go_simp)
          refine hK.out _ _ ?_ ?_
          ·exact past (by kernel_rfl)
          clear hK K
          try simp only [Act.put, List.setIfInBounds_toArray, List.set_cons_zero, List.set_cons_succ]
          refine AnyT.done (by kernel_rfl) ?_ _
          refine NoPanic.normal ?_
          (go_wp2; go_meet)
          (case rel => exact ⟨gz, .slice A27 6 c27, .slice A35 (l0_7.length + 2) c35, rfl, ⟨PE.of (vN' := .slice none 0 0) (vT' := .slice none 0 0) HL.out HB.out FN.out FT.out FZ.out FG.out⟩⟩)
      case b2424 =>
       (refine step_alloc (ob := .cells #[.slice none 0 0, .slice none 0 0] 48) (by rfl) ?hr ?_; (case hr => first | (go_simp; done) | (go_simp; rfl)); intro w9 gz hq hge hb; have FG : Aside0 (w.heap.size ≤ gz) := ⟨Nat.le_trans HB.out.size hge⟩; (try replace FN := Aside0.mk (Kd.R_below FN.out hb)); (try replace FT := Aside0.mk (Kd.R_below FT.out hb)); (try replace FZ := Aside0.mk (blk_below FZ.out hb)); replace HL := Aside0.mk (blk_below HL.out hb); replace HB := Aside0.mk (below_step HB.out hb); have FZ := Aside0.mk hq; clear hq hge hb)
       refine hK.out _ _ ?_ ?_
       ·intro _; exact HL.out
       clear hK K
       try simp only [Act.put, List.setIfInBounds_toArray, List.set_cons_zero, List.set_cons_succ]
       refine AnyT.ready (rs := [19]) (by kernel_rfl) (by simp) (AllT.step rfl (fun K hK => ?b4219) AllT.nil)
       case b4219 =>
        (refine Kd.R_lit_step Kd.string (w0 := w) w.heap.size 9 (by rfl) (N := 32) (by rfl) (xs := [a0_4, a0_5]) (inner := [.string a0_4, .string a0_5]) (ok := fun _ => True) (okp := fun _ => True) ?hr (reps_texts _ _ _ [a0_4, a0_5]) (fun _ h => h) trivial HB.out HB.out.size (by simp) ?_; (case hr => first | (go_simp; done) | (go_simp; rfl)); intro vx w9 ho hb hg hat; (try replace FN := Aside0.mk (Kd.R_grown FN.out hg (fun _ _ => by simp))); (try replace FT := Aside0.mk (Kd.R_grown FT.out hg (fun _ _ => by simp))); (try replace FZ := Aside0.mk (blk_grown FZ.out hg (by simp))); replace HL := Aside0.mk (blk_grown HL.out hg (by simp)); replace HB := Aside0.mk hb; obtain ⟨A32, c32, e9⟩ := Kd.R_slice ho; subst e9; have FT := Aside0.mk ho; clear ho hb hg hat)
        refine hK.out _ _ ?_ ?_
        ·intro _; exact HL.out
        clear hK K
        try simp only [Act.put, List.setIfInBounds_toArray, List.set_cons_zero, List.set_cons_succ]
        refine AnyT.ready (rs := [22]) (by kernel_rfl) (by simp) (AllT.step rfl (fun K hK => ?b4422) AllT.nil)
        case b4422 =>
         (refine Kd.R_append_rows_step Kd.string (w0 := w) w.heap.size (by rfl) (.tmp 32) (.tmp 34) 22 9 (.string ⟨#[]⟩) 16 (by rfl) Try.underlying22 info9 rfl (by decide) (by omega) (.slice A32 2 c32) [a0_4, a0_5] l0_7 _ _ _ (fun _ => True) (fun _ => False) (by rfl) (by rfl) FT.out (Kd.C_below HR7.out HB.out) (fun _ _ h => h) (fun _ h => h.elim) (fun _ _ => trivial) HB.out HB.out.size (by simp only [List.length_cons, List.length_nil]; omega) ?_; intro vx w9 ho hb hg hat; (try replace FN := Aside0.mk (Kd.R_over FN.out FT.out (by decide) hg)); (try replace FZ := Aside0.mk (blk_grown FZ.out hg (Kd.R_ne FT.out FZ.out (by decide)))); replace HL := Aside0.mk (blk_grown HL.out hg (Kd.R_ne FT.out HL.out (by decide))); replace HB := Aside0.mk hb; obtain ⟨A35, c35, e9⟩ := Kd.R_slice ho; subst e9; replace FT := Aside0.mk ho; clear ho hb hg hat)
         refine hK.out _ _ ?_ ?_
         ·intro _; exact HL.out
         clear hK K
         try simp only [Act.put, List.setIfInBounds_toArray, List.set_cons_zero, List.set_cons_succ]
         refine AnyT.taken (i := 23) (v := ?v46) rfl (by kernel_rfl) (by kernel_rfl) (by kernel_rfl) (by kernel_rfl) (fun _ _ _ h => h) (Or.inl ⟨by rfl, ?y46⟩) ?s46 ?_
         case y46 =>
          intro wSW hSW
          (obtain ⟨k0, k1, k2, k3, k4, k5, k6, k7⟩ := keep8 hSW; go_simp)
          all_goals with_reducible rfl
         case s46 => exact HL.out
         try simp only [Act.put, List.setIfInBounds_toArray, List.set_cons_zero, List.set_cons_succ]
         refine AnyT.ready (rs := [25]) (by kernel_rfl) (by simp) (AllT.step rfl (fun K hK => ?b4725) AllT.nil)
         case b4725 =>
          (have hs0 := (blk_cell FZ.out 0).trans rfl; have hs1 := (blk_cell FZ.out 1).trans rfl; have hf0 := blk_frozen FZ.out 0; have hf1 := blk_frozen FZ.out 1; go_simp)
          refine hK.out _ _ ?_ ?_
          ·exact past (by kernel_rfl)
          clear hK K
          try simp only [Act.put, List.setIfInBounds_toArray, List.set_cons_zero, List.set_cons_succ]
          refine AnyT.done (by kernel_rfl) ?_ _
          refine NoPanic.normal ?_
          (go_wp2; go_meet)
          (case rel => exact ⟨gz, .slice A27 6 c27, .slice A35 (l0_7.length + 2) c35, rfl, ⟨PE.of (vN' := .slice none 0 0) (vT' := .slice none 0 0) HL.out HB.out FN.out FT.out FZ.out FG.out⟩⟩)
     case b2219 =>
      (refine Kd.R_lit_step Kd.string (w0 := w) w.heap.size 9 (by rfl) (N := 32) (by rfl) (xs := [a0_4, a0_5]) (inner := [.string a0_4, .string a0_5]) (ok := fun _ => True) (okp := fun _ => True) ?hr (reps_texts _ _ _ [a0_4, a0_5]) (fun _ h => h) trivial HB.out HB.out.size (by simp) ?_; (case hr => first | (go_simp; done) | (go_simp; rfl)); intro vx w9 ho hb hg hat; (try replace FN := Aside0.mk (Kd.R_grown FN.out hg (fun _ _ => by simp))); (try replace FT := Aside0.mk (Kd.R_grown FT.out hg (fun _ _ => by simp))); (try replace FZ := Aside0.mk (blk_grown FZ.out hg (by simp))); replace HL := Aside0.mk (blk_grown HL.out hg (by simp)); replace HB := Aside0.mk hb; obtain ⟨A32, c32, e9⟩ := Kd.R_slice ho; subst e9; have FT := Aside0.mk ho; clear ho hb hg hat)
      refine hK.out _ _ ?_ ?_
      ·intro _; exact HL.out
      clear hK K
      try simp only [Act.put, List.setIfInBounds_toArray, List.set_cons_zero, List.set_cons_succ]
      refine AnyT.ready (rs := [14, 22, 24]) (by kernel_rfl) (by simp) (AllT.step rfl (fun K hK => ?b5114) (AllT.step rfl (fun K hK => ?b5122) (AllT.step rfl (fun K hK => ?b5124) AllT.nil)))
      case b5114 =>
       (refine Kd.R_lit_step (Kd.int .i64) (w0 := w) w.heap.size 3 (by rfl) (N := 27) (by rfl) (xs := [a0_0, a0_1, a0_2, a0_3, (oneI a0_6), (l0_7.length : Int)]) (inner := [.int .i64 a0_0, .int .i64 a0_1, .int .i64 a0_2, .int .i64 a0_3, .int .i64 (oneI a0_6), .int .i64 (l0_7.length : Int)]) (ok := fun _ => True) (okp := fun _ => True) ?hr (reps_ints _ _ _ [a0_0, a0_1, a0_2, a0_3, (oneI a0_6), (l0_7.length : Int)]) (fun _ h => h) trivial HB.out HB.out.size (by simp) ?_; (case hr => first | (go_simp; done) | (go_simp; rfl)); intro vx w9 ho hb hg hat; (try replace FN := Aside0.mk (Kd.R_grown FN.out hg (fun _ _ => by simp))); (try replace FT := Aside0.mk (Kd.R_grown FT.out hg (fun _ _ => by simp))); (try replace FZ := Aside0.mk (blk_grown FZ.out hg (by simp))); replace HL := Aside0.mk (blk_grown HL.out hg (by simp)); replace HB := Aside0.mk hb; obtain ⟨A27, c27, e9⟩ := Kd.R_slice ho; subst e9; have FN := Aside0.mk ho; clear ho hb hg hat)
       refine hK.out _ _ ?_ ?_
       ·intro _; exact HL.out
       clear hK K
       try simp only [Act.put, List.setIfInBounds_toArray, List.set_cons_zero, List.set_cons_succ]
       refine AnyT.ready (rs := [22, 24]) (by kernel_rfl) (by simp) (AllT.step rfl (fun K hK => ?b5322) (AllT.step rfl (fun K hK => ?b5324) AllT.nil))
       case b5322 =>
        (refine Kd.R_append_rows_step Kd.string (w0 := w) w.heap.size (by rfl) (.tmp 32) (.tmp 34) 22 9 (.string ⟨#[]⟩) 16 (by rfl) Try.underlying22 info9 rfl (by decide) (by omega) (.slice A32 2 c32) [a0_4, a0_5] l0_7 _ _ _ (fun _ => True) (fun _ => False) (by rfl) (by rfl) FT.out (Kd.C_below HR7.out HB.out) (fun _ _ h => h) (fun _ h => h.elim) (fun _ _ => trivial) HB.out HB.out.size (by simp only [List.length_cons, List.length_nil]; omega) ?_; intro vx w9 ho hb hg hat; (try replace FN := Aside0.mk (Kd.R_over FN.out FT.out (by decide) hg)); (try replace FZ := Aside0.mk (blk_grown FZ.out hg (Kd.R_ne FT.out FZ.out (by decide)))); replace HL := Aside0.mk (blk_grown HL.out hg (Kd.R_ne FT.out HL.out (by decide))); replace HB := Aside0.mk hb; obtain ⟨A35, c35, e9⟩ := Kd.R_slice ho; subst e9; replace FT := Aside0.mk ho; clear ho hb hg hat)
        refine hK.out _ _ ?_ ?_
        ·intro _; exact HL.out
        clear hK K
        try simp only [Act.put, List.setIfInBounds_toArray, List.set_cons_zero, List.set_cons_succ]
        refine AnyT.taken (i := 23) (v := ?v55) rfl (by kernel_rfl) (by kernel_rfl) (by kernel_rfl) (by kernel_rfl) (fun _ _ _ h => h) (Or.inl ⟨by rfl, ?y55⟩) ?s55 ?_
        case y55 =>
         intro wSW hSW
         (obtain ⟨k0, k1, k2, k3, k4, k5, k6, k7⟩ := keep8 hSW; go_simp)
         all_goals with_reducible rfl
        case s55 => exact HL.out
        try simp only [Act.put, List.setIfInBounds_toArray, List.set_cons_zero, List.set_cons_succ]
        refine AnyT.ready (rs := [24]) (by kernel_rfl) (by simp) (AllT.step rfl (fun K hK => ?b5624) AllT.nil)
        case b5624 =>
         (refine step_alloc (ob := .cells #[.slice none 0 0, .slice none 0 0] 48) (by rfl) ?hr ?_; (case hr => first | (go_simp; done) | (go_simp; rfl)); intro w9 gz hq hge hb; have FG : Aside0 (w.heap.size ≤ gz) := ⟨Nat.le_trans HB.out.size hge⟩; (try replace FN := Aside0.mk (Kd.R_below FN.out hb)); (try replace FT := Aside0.mk (Kd.R_below FT.out hb)); (try replace FZ := Aside0.mk (blk_below FZ.out hb)); replace HL := Aside0.mk (blk_below HL.out hb); replace HB := Aside0.mk (below_step HB.out hb); have FZ := Aside0.mk hq; clear hq hge hb)
         refine hK.out _ _ ?_ ?_
         ·intro _; exact HL.out
         clear hK K
         try simp only [Act.put, List.setIfInBounds_toArray, List.set_cons_zero, List.set_cons_succ]
         refine AnyT.ready (rs := [25]) (by kernel_rfl) (by simp) (AllT.step rfl (fun K hK => ?b5825) AllT.nil)
         case b5825 =>
          (have hs0 := (blk_cell FZ.out 0).trans rfl; have hs1 := (blk_cell FZ.out 1).trans rfl; have hf0 := blk_frozen FZ.out 0; have hf1 := blk_frozen FZ.out 1; go_simp)
          refine hK.out _ _ ?_ ?_
          ·exact past (by kernel_rfl)
          clear hK K
          try simp only [Act.put, List.setIfInBounds_toArray, List.set_cons_zero, List.set_cons_succ]
          refine AnyT.done (by kernel_rfl) ?_ _
          refine NoPanic.normal ?_
          (go_wp2; go_meet)
          (case rel => exact ⟨gz, .slice A27 6 c27, .slice A35 (l0_7.length + 2) c35, rfl, ⟨PE.of (vN' := .slice none 0 0) (vT' := .slice none 0 0) HL.out HB.out FN.out FT.out FZ.out FG.out⟩⟩)
       case b5324 =>
        (refine step_alloc (ob := .cells #[.slice none 0 0, .slice none 0 0] 48) (by rfl) ?hr ?_; (case hr => first | (go_simp; done) | (go_simp; rfl)); intro w9 gz hq hge hb; have FG : Aside0 (w.heap.size ≤ gz) := ⟨Nat.le_trans HB.out.size hge⟩; (try replace FN := Aside0.mk (Kd.R_below FN.out hb)); (try replace FT := Aside0.mk (Kd.R_below FT.out hb)); (try replace FZ := Aside0.mk (blk_below FZ.out hb)); replace HL := Aside0.mk (blk_below HL.out hb); replace HB := Aside0.mk (below_step HB.out hb); have FZ := Aside0.mk hq; clear hq hge hb)
        refine hK.out _ _ ?_ ?_
        ·intro _; exact HL.out
        clear hK K
        try simp only [Act.put, List.setIfInBounds_toArray, List.set_cons_zero, List.set_cons_succ]
        refine AnyT.ready (rs := [22]) (by kernel_rfl) (by simp) (AllT.step rfl (fun K hK => ?b6222) AllT.nil)
        case b6222 =>
         (refine Kd.R_append_rows_step Kd.string (w0 := w) w.heap.size (by rfl) (.tmp 32) (.tmp 34) 22 9 (.string ⟨#[]⟩) 16 (by rfl) Try.underlying22 info9 rfl (by decide) (by omega) (.slice A32 2 c32) [a0_4, a0_5] l0_7 _ _ _ (fun _ => True) (fun _ => False) (by rfl) (by rfl) FT.out (Kd.C_below HR7.out HB.out) (fun _ _ h => h) (fun _ h => h.elim) (fun _ _ => trivial) HB.out HB.out.size (by simp only [List.length_cons, List.length_nil]; omega) ?_; intro vx w9 ho hb hg hat; (try replace FN := Aside0.mk (Kd.R_over FN.out FT.out (by decide) hg)); (try replace FZ := Aside0.mk (blk_grown FZ.out hg (Kd.R_ne FT.out FZ.out (by decide)))); replace HL := Aside0.mk (blk_grown HL.out hg (Kd.R_ne FT.out HL.out (by decide))); replace HB := Aside0.mk hb; obtain ⟨A35, c35, e9⟩ := Kd.R_slice ho; subst e9; replace FT := Aside0.mk ho; clear ho hb hg hat)
         refine hK.out _ _ ?_ ?_
         ·intro _; exact HL.out
         clear hK K
         try simp only [Act.put, List.setIfInBounds_toArray, List.set_cons_zero, List.set_cons_succ]
         refine AnyT.taken (i := 23) (v := ?v64) rfl (by kernel_rfl) (by kernel_rfl) (by kernel_rfl) (by kernel_rfl) (fun _ _ _ h => h) (Or.inl ⟨by rfl, ?y64⟩) ?s64 ?_
         case y64 =>
          intro wSW hSW
          (obtain ⟨k0, k1, k2, k3, k4, k5, k6, k7⟩ := keep8 hSW; go_simp)
          all_goals with_reducible rfl
         case s64 => exact HL.out
         try simp only [Act.put, List.setIfInBounds_toArray, List.set_cons_zero, List.set_cons_succ]
         refine AnyT.ready (rs := [25]) (by kernel_rfl) (by simp) (AllT.step rfl (fun K hK => ?b6525) AllT.nil)
         case b6525 =>
          (have hs0 := (blk_cell FZ.out 0).trans rfl; have hs1 := (blk_cell FZ.out 1).trans rfl; have hf0 := blk_frozen FZ.out 0; have hf1 := blk_frozen FZ.out 1; go_simp)
          refine hK.out _ _ ?_ ?_
          ·exact past (by kernel_rfl)
          clear hK K
          try simp only [Act.put, List.setIfInBounds_toArray, List.set_cons_zero, List.set_cons_succ]
          refine AnyT.done (by kernel_rfl) ?_ _
          refine NoPanic.normal ?_
          (go_wp2; go_meet)
          (case rel => exact ⟨gz, .slice A27 6 c27, .slice A35 (l0_7.length + 2) c35, rfl, ⟨PE.of (vN' := .slice none 0 0) (vT' := .slice none 0 0) HL.out HB.out FN.out FT.out FZ.out FG.out⟩⟩)
      case b5122 =>
       (refine Kd.R_append_rows_step Kd.string (w0 := w) w.heap.size (by rfl) (.tmp 32) (.tmp 34) 22 9 (.string ⟨#[]⟩) 16 (by rfl) Try.underlying22 info9 rfl (by decide) (by omega) (.slice A32 2 c32) [a0_4, a0_5] l0_7 _ _ _ (fun _ => True) (fun _ => False) (by rfl) (by rfl) FT.out (Kd.C_below HR7.out HB.out) (fun _ _ h => h) (fun _ h => h.elim) (fun _ _ => trivial) HB.out HB.out.size (by simp only [List.length_cons, List.length_nil]; omega) ?_; intro vx w9 ho hb hg hat; (try replace FN := Aside0.mk (Kd.R_over FN.out FT.out (by decide) hg)); (try replace FZ := Aside0.mk (blk_grown FZ.out hg (Kd.R_ne FT.out FZ.out (by decide)))); replace HL := Aside0.mk (blk_grown HL.out hg (Kd.R_ne FT.out HL.out (by decide))); replace HB := Aside0.mk hb; obtain ⟨A35, c35, e9⟩ := Kd.R_slice ho; subst e9; replace FT := Aside0.mk ho; clear ho hb hg hat)
       refine hK.out _ _ ?_ ?_
       ·intro _; exact HL.out
       clear hK K
       try simp only [Act.put, List.setIfInBounds_toArray, List.set_cons_zero, List.set_cons_succ]
       refine AnyT.ready (rs := [14, 24]) (by kernel_rfl) (by simp) (AllT.step rfl (fun K hK => ?b6914) (AllT.step rfl (fun K hK => ?b6924) AllT.nil))
       case b6914 =>
        (refine Kd.R_lit_step (Kd.int .i64) (w0 := w) w.heap.size 3 (by rfl) (N := 27) (by rfl) (xs := [a0_0, a0_1, a0_2, a0_3, (oneI a0_6), (l0_7.length : Int)]) (inner := [.int .i64 a0_0, .int .i64 a0_1, .int .i64 a0_2, .int .i64 a0_3, .int .i64 (oneI a0_6), .int .i64 (l0_7.length : Int)]) (ok := fun _ => True) (okp := fun _ => True) ?hr (reps_ints _ _ _ [a0_0, a0_1, a0_2, a0_3, (oneI a0_6), (l0_7.length : Int)]) (fun _ h => h) trivial HB.out HB.out.size (by simp) ?_; (case hr => first | (go_simp; done) | (go_simp; rfl)); intro vx w9 ho hb hg hat; (try replace FN := Aside0.mk (Kd.R_grown FN.out hg (fun _ _ => by simp))); (try replace FT := Aside0.mk (Kd.R_grown FT.out hg (fun _ _ => by simp))); (try replace FZ := Aside0.mk (blk_grown FZ.out hg (by simp))); replace HL := Aside0.mk (blk_grown HL.out hg (by simp)); replace HB := Aside0.mk hb; obtain ⟨A27, c27, e9⟩ := Kd.R_slice ho; subst e9; have FN := Aside0.mk ho; clear ho hb hg hat)
        refine hK.out _ _ ?_ ?_
        ·intro _; exact HL.out
        clear hK K
        try simp only [Act.put, List.setIfInBounds_toArray, List.set_cons_zero, List.set_cons_succ]
        refine AnyT.taken (i := 23) (v := ?v71) rfl (by kernel_rfl) (by kernel_rfl) (by kernel_rfl) (by kernel_rfl) (fun _ _ _ h => h) (Or.inl ⟨by rfl, ?y71⟩) ?s71 ?_
        case y71 =>
         intro wSW hSW
         (obtain ⟨k0, k1, k2, k3, k4, k5, k6, k7⟩ := keep8 hSW; go_simp)
         all_goals with_reducible rfl
        case s71 => exact HL.out
        try simp only [Act.put, List.setIfInBounds_toArray, List.set_cons_zero, List.set_cons_succ]
        refine AnyT.ready (rs := [24]) (by kernel_rfl) (by simp) (AllT.step rfl (fun K hK => ?b7224) AllT.nil)
        case b7224 =>
         (refine step_alloc (ob := .cells #[.slice none 0 0, .slice none 0 0] 48) (by rfl) ?hr ?_; (case hr => first | (go_simp; done) | (go_simp; rfl)); intro w9 gz hq hge hb; have FG : Aside0 (w.heap.size ≤ gz) := ⟨Nat.le_trans HB.out.size hge⟩; (try replace FN := Aside0.mk (Kd.R_below FN.out hb)); (try replace FT := Aside0.mk (Kd.R_below FT.out hb)); (try replace FZ := Aside0.mk (blk_below FZ.out hb)); replace HL := Aside0.mk (blk_below HL.out hb); replace HB := Aside0.mk (below_step HB.out hb); have FZ := Aside0.mk hq; clear hq hge hb)
         refine hK.out _ _ ?_ ?_
         ·intro _; exact HL.out
         clear hK K
         try simp only [Act.put, List.setIfInBounds_toArray, List.set_cons_zero, List.set_cons_succ]
         refine AnyT.ready (rs := [25]) (by kernel_rfl) (by simp) (AllT.step rfl (fun K hK => ?b7425) AllT.nil)
         case b7425 =>
          (have hs0 := (blk_cell FZ.out 0).trans rfl; have hs1 := (blk_cell FZ.out 1).trans rfl; have hf0 := blk_frozen FZ.out 0; have hf1 := blk_frozen FZ.out 1; go_simp)
          refine hK.out _ _ ?_ ?_
          ·exact past (by kernel_rfl)
          clear hK K
          try simp only [Act.put, List.setIfInBounds_toArray, List.set_cons_zero, List.set_cons_succ]
          refine AnyT.done (by kernel_rfl) ?_ _
          refine NoPanic.normal ?_
          (go_wp2; go_meet)
          (case rel => exact ⟨gz, .slice A27 6 c27, .slice A35 (l0_7.length + 2) c35, rfl, ⟨PE.of (vN' := .slice none 0 0) (vT' := .slice none 0 0) HL.out HB.out FN.out FT.out FZ.out FG.out⟩⟩)
       case b6924 =>
        (refine step_alloc (ob := .cells #[.slice none 0 0, .slice none 0 0] 48) (by rfl) ?hr ?_; (case hr => first | (go_simp; done) | (go_simp; rfl)); intro w9 gz hq hge hb; have FG : Aside0 (w.heap.size ≤ gz) := ⟨Nat.le_trans HB.out.size hge⟩; (try replace FN := Aside0.mk (Kd.R_below FN.out hb)); (try replace FT := Aside0.mk (Kd.R_below FT.out hb)); (try replace FZ := Aside0.mk (blk_below FZ.out hb)); replace HL := Aside0.mk (blk_below HL.out hb); replace HB := Aside0.mk (below_step HB.out hb); have FZ := Aside0.mk hq; clear hq hge hb)
        refine hK.out _ _ ?_ ?_
        ·intro _; exact HL.out
        clear hK K
        try simp only [Act.put, List.setIfInBounds_toArray, List.set_cons_zero, List.set_cons_succ]
        refine AnyT.ready (rs := [14]) (by kernel_rfl) (by simp) (AllT.step rfl (fun K hK => ?b7814) AllT.nil)
        case b7814 =>
         (refine Kd.R_lit_step (Kd.int .i64) (w0 := w) w.heap.size 3 (by rfl) (N := 27) (by rfl) (xs := [a0_0, a0_1, a0_2, a0_3, (oneI a0_6), (l0_7.length : Int)]) (inner := [.int .i64 a0_0, .int .i64 a0_1, .int .i64 a0_2, .int .i64 a0_3, .int .i64 (oneI a0_6), .int .i64 (l0_7.length : Int)]) (ok := fun _ => True) (okp := fun _ => True) ?hr (reps_ints _ _ _ [a0_0, a0_1, a0_2, a0_3, (oneI a0_6), (l0_7.length : Int)]) (fun _ h => h) trivial HB.out HB.out.size (by simp) ?_; (case hr => first | (go_simp; done) | (go_simp; rfl)); intro vx w9 ho hb hg hat; (try replace FN := Aside0.mk (Kd.R_grown FN.out hg (fun _ _ => by simp))); (try replace FT := Aside0.mk (Kd.R_grown FT.out hg (fun _ _ => by simp))); (try replace FZ := Aside0.mk (blk_grown FZ.out hg (by simp))); replace HL := Aside0.mk (blk_grown HL.out hg (by simp)); replace HB := Aside0.mk hb; obtain ⟨A27, c27, e9⟩ := Kd.R_slice ho; subst e9; have FN := Aside0.mk ho; clear ho hb hg hat)
         refine hK.out _ _ ?_ ?_
         ·intro _; exact HL.out
         clear hK K
         try simp only [Act.put, List.setIfInBounds_toArray, List.set_cons_zero, List.set_cons_succ]
         refine AnyT.taken (i := 23) (v := ?v80) rfl (by kernel_rfl) (by kernel_rfl) (by kernel_rfl) (by kernel_rfl) (fun _ _ _ h => h) (Or.inl ⟨by rfl, ?y80⟩) ?s80 ?_
         case y80 =>
          intro wSW hSW
          (obtain ⟨k0, k1, k2, k3, k4, k5, k6, k7⟩ := keep8 hSW; go_simp)
          all_goals with_reducible rfl
         case s80 => exact HL.out
         try simp only [Act.put, List.setIfInBounds_toArray, List.set_cons_zero, List.set_cons_succ]
         refine AnyT.ready (rs := [25]) (by kernel_rfl) (by simp) (AllT.step rfl (fun K hK => ?b8125) AllT.nil)
         case b8125 =>
          (have hs0 := (blk_cell FZ.out 0).trans rfl; have hs1 := (blk_cell FZ.out 1).trans rfl; have hf0 := blk_frozen FZ.out 0; have hf1 := blk_frozen FZ.out 1; go_simp)
          refine hK.out _ _ ?_ ?_
          ·exact past (by kernel_rfl)
          clear hK K
          try simp only [Act.put, List.setIfInBounds_toArray, List.set_cons_zero, List.set_cons_succ]
          refine AnyT.done (by kernel_rfl) ?_ _
          refine NoPanic.normal ?_
          (go_wp2; go_meet)
          (case rel => exact ⟨gz, .slice A27 6 c27, .slice A35 (l0_7.length + 2) c35, rfl, ⟨PE.of (vN' := .slice none 0 0) (vT' := .slice none 0 0) HL.out HB.out FN.out FT.out FZ.out FG.out⟩⟩)
      case b5124 =>
       (refine step_alloc (ob := .cells #[.slice none 0 0, .slice none 0 0] 48) (by rfl) ?hr ?_; (case hr => first | (go_simp; done) | (go_simp; rfl)); intro w9 gz hq hge hb; have FG : Aside0 (w.heap.size ≤ gz) := ⟨Nat.le_trans HB.out.size hge⟩; (try replace FN := Aside0.mk (Kd.R_below FN.out hb)); (try replace FT := Aside0.mk (Kd.R_below FT.out hb)); (try replace FZ := Aside0.mk (blk_below FZ.out hb)); replace HL := Aside0.mk (blk_below HL.out hb); replace HB := Aside0.mk (below_step HB.out hb); have FZ := Aside0.mk hq; clear hq hge hb)
       refine hK.out _ _ ?_ ?_
       ·intro _; exact HL.out
       clear hK K
       try simp only [Act.put, List.setIfInBounds_toArray, List.set_cons_zero, List.set_cons_succ]
       refine AnyT.ready (rs := [14, 22]) (by kernel_rfl) (by simp) (AllT.step rfl (fun K hK => ?b8514) (AllT.step rfl (fun K hK => ?b8522) AllT.nil))
       case b8514 =>
        (refine Kd.R_lit_step (Kd.int .i64) (w0 := w) w.heap.size 3 (by rfl) (N := 27) (by rfl) (xs := [a0_0, a0_1, a0_2, a0_3, (oneI a0_6), (l0_7.length : Int)]) (inner := [.int .i64 a0_0, .int .i64 a0_1, .int .i64 a0_2, .int .i64 a0_3, .int .i64 (oneI a0_6), .int .i64 (l0_7.length : Int)]) (ok := fun _ => True) (okp := fun _ => True) ?hr (reps_ints _ _ _ [a0_0, a0_1, a0_2, a0_3, (oneI a0_6), (l0_7.length : Int)]) (fun _ h => h) trivial HB.out HB.out.size (by simp) ?_; (case hr => first | (go_simp; done) | (go_simp; rfl)); intro vx w9 ho hb hg hat; (try replace FN := Aside0.mk (Kd.R_grown FN.out hg (fun _ _ => by simp))); (try replace FT := Aside0.mk (Kd.R_grown FT.out hg (fun _ _ => by simp))); (try replace FZ := Aside0.mk (blk_grown FZ.out hg (by simp))); replace HL := Aside0.mk (blk_grown HL.out hg (by simp)); replace HB := Aside0.mk hb; obtain ⟨A27, c27, e9⟩ := Kd.R_slice ho; subst e9; have FN := Aside0.mk ho; clear ho hb hg hat)
        refine hK.out _ _ ?_ ?_
        ·intro _; exact HL.out
        clear hK K
        try simp only [Act.put, List.setIfInBounds_toArray, List.set_cons_zero, List.set_cons_succ]
        refine AnyT.ready (rs := [22]) (by kernel_rfl) (by simp) (AllT.step rfl (fun K hK => ?b8722) AllT.nil)
        case b8722 =>
         (refine Kd.R_append_rows_step Kd.string (w0 := w) w.heap.size (by rfl) (.tmp 32) (.tmp 34) 22 9 (.string ⟨#[]⟩) 16 (by rfl) Try.underlying22 info9 rfl (by decide) (by omega) (.slice A32 2 c32) [a0_4, a0_5] l0_7 _ _ _ (fun _ => True) (fun _ => False) (by rfl) (by rfl) FT.out (Kd.C_below HR7.out HB.out) (fun _ _ h => h) (fun _ h => h.elim) (fun _ _ => trivial) HB.out HB.out.size (by simp only [List.length_cons, List.length_nil]; omega) ?_; intro vx w9 ho hb hg hat; (try replace FN := Aside0.mk (Kd.R_over FN.out FT.out (by decide) hg)); (try replace FZ := Aside0.mk (blk_grown FZ.out hg (Kd.R_ne FT.out FZ.out (by decide)))); replace HL := Aside0.mk (blk_grown HL.out hg (Kd.R_ne FT.out HL.out (by decide))); replace HB := Aside0.mk hb; obtain ⟨A35, c35, e9⟩ := Kd.R_slice ho; subst e9; replace FT := Aside0.mk ho; clear ho hb hg hat)
         refine hK.out _ _ ?_ ?_
         ·intro _; exact HL.out
         clear hK K
         try simp only [Act.put, List.setIfInBounds_toArray, List.set_cons_zero, List.set_cons_succ]
         refine AnyT.taken (i := 23) (v := ?v89) rfl (by kernel_rfl) (by kernel_rfl) (by kernel_rfl) (by kernel_rfl) (fun _ _ _ h => h) (Or.inl ⟨by rfl, ?y89⟩) ?s89 ?_
         case y89 =>
          intro wSW hSW
          (obtain ⟨k0, k1, k2, k3, k4, k5, k6, k7⟩ := keep8 hSW; go_simp)
          all_goals with_reducible rfl
         case s89 => exact HL.out
         try simp only [Act.put, List.setIfInBounds_toArray, List.set_cons_zero, List.set_cons_succ]
         refine AnyT.ready (rs := [25]) (by kernel_rfl) (by simp) (AllT.step rfl (fun K hK => ?b9025) AllT.nil)
         case b9025 =>
          (have hs0 := (blk_cell FZ.out 0).trans rfl; have hs1 := (blk_cell FZ.out 1).trans rfl; have hf0 := blk_frozen FZ.out 0; have hf1 := blk_frozen FZ.out 1; go_simp)
          refine hK.out _ _ ?_ ?_
          ·exact past (by kernel_rfl)
          clear hK K
          try simp only [Act.put, List.setIfInBounds_toArray, List.set_cons_zero, List.set_cons_succ]
          refine AnyT.done (by kernel_rfl) ?_ _
          refine NoPanic.normal ?_
          (go_wp2; go_meet)
          (case rel => exact ⟨gz, .slice A27 6 c27, .slice A35 (l0_7.length + 2) c35, rfl, ⟨PE.of (vN' := .slice none 0 0) (vT' := .slice none 0 0) HL.out HB.out FN.out FT.out FZ.out FG.out⟩⟩)
       case b8522 =>
        (refine Kd.R_append_rows_step Kd.string (w0 := w) w.heap.size (by rfl) (.tmp 32) (.tmp 34) 22 9 (.string ⟨#[]⟩) 16 (by rfl) Try.underlying22 info9 rfl (by decide) (by omega) (.slice A32 2 c32) [a0_4, a0_5] l0_7 _ _ _ (fun _ => True) (fun _ => False) (by rfl) (by rfl) FT.out (Kd.C_below HR7.out HB.out) (fun _ _ h => h) (fun _ h => h.elim) (fun _ _ => trivial) HB.out HB.out.size (by simp only [List.length_cons, List.length_nil]; omega) ?_; intro vx w9 ho hb hg hat; (try replace FN := Aside0.mk (Kd.R_over FN.out FT.out (by decide) hg)); (try replace FZ := Aside0.mk (blk_grown FZ.out hg (Kd.R_ne FT.out FZ.out (by decide)))); replace HL := Aside0.mk (blk_grown HL.out hg (Kd.R_ne FT.out HL.out (by decide))); replace HB := Aside0.mk hb; obtain ⟨A35, c35, e9⟩ := Kd.R_slice ho; subst e9; replace FT := Aside0.mk ho; clear ho hb hg hat)
        refine hK.out _ _ ?_ ?_
        ·intro _; exact HL.out
        clear hK K
        try simp only [Act.put, List.setIfInBounds_toArray, List.set_cons_zero, List.set_cons_succ]
        refine AnyT.ready (rs := [14]) (by kernel_rfl) (by simp) (AllT.step rfl (fun K hK => ?b9414) AllT.nil)
        case b9414 =>
         (refine Kd.R_lit_step (Kd.int .i64) (w0 := w) w.heap.size 3 (by rfl) (N := 27) (by rfl) (xs := [a0_0, a0_1, a0_2, a0_3, (oneI a0_6), (l0_7.length : Int)]) (inner := [.int .i64 a0_0, .int .i64 a0_1, .int .i64 a0_2, .int .i64 a0_3, .int .i64 (oneI a0_6), .int .i64 (l0_7.length : Int)]) (ok := fun _ => True) (okp := fun _ => True) ?hr (reps_ints _ _ _ [a0_0, a0_1, a0_2, a0_3, (oneI a0_6), (l0_7.length : Int)]) (fun _ h => h) trivial HB.out HB.out.size (by simp) ?_; (case hr => first | (go_simp; done) | (go_simp; rfl)); intro vx w9 ho hb hg hat; (try replace FN := Aside0.mk (Kd.R_grown FN.out hg (fun _ _ => by simp))); (try replace FT := Aside0.mk (Kd.R_grown FT.out hg (fun _ _ => by simp))); (try replace FZ := Aside0.mk (blk_grown FZ.out hg (by simp))); replace HL := Aside0.mk (blk_grown HL.out hg (by simp)); replace HB := Aside0.mk hb; obtain ⟨A27, c27, e9⟩ := Kd.R_slice ho; subst e9; have FN := Aside0.mk ho; clear ho hb hg hat)
         refine hK.out _ _ ?_ ?_
         ·intro _; exact HL.out
         clear hK K
         try simp only [Act.put, List.setIfInBounds_toArray, List.set_cons_zero, List.set_cons_succ]
         refine AnyT.taken (i := 23) (v := ?v96) rfl (by kernel_rfl) (by kernel_rfl) (by kernel_rfl) (by kernel_rfl) (fun _ _ _ h => h) (Or.inl ⟨by rfl, ?y96⟩) ?s96 ?_
         case y96 =>
          intro wSW hSW
          (obtain ⟨k0, k1, k2, k3, k4, k5, k6, k7⟩ := keep8 hSW; go_simp)
          all_goals with_reducible rfl
         case s96 => exact HL.out
         try simp only [Act.put, List.setIfInBounds_toArray, List.set_cons_zero, List.set_cons_succ]
         refine AnyT.ready (rs := [25]) (by kernel_rfl) (by simp) (AllT.step rfl (fun K hK => ?b9725) AllT.nil)
         case b9725 =>
          (have hs0 := (blk_cell FZ.out 0).trans rfl; have hs1 := (blk_cell FZ.out 1).trans rfl; have hf0 := blk_frozen FZ.out 0; have hf1 := blk_frozen FZ.out 1; go_simp)
          refine hK.out _ _ ?_ ?_
          ·exact past (by kernel_rfl)
          clear hK K
          try simp only [Act.put, List.setIfInBounds_toArray, List.set_cons_zero, List.set_cons_succ]
          refine AnyT.done (by kernel_rfl) ?_ _
          refine NoPanic.normal ?_
          (go_wp2; go_meet)
          (case rel => exact ⟨gz, .slice A27 6 c27, .slice A35 (l0_7.length + 2) c35, rfl, ⟨PE.of (vN' := .slice none 0 0) (vT' := .slice none 0 0) HL.out HB.out FN.out FT.out FZ.out FG.out⟩⟩)
     case b2224 =>
      (refine step_alloc (ob := .cells #[.slice none 0 0, .slice none 0 0] 48) (by rfl) ?hr ?_; (case hr => first | (go_simp; done) | (go_simp; rfl)); intro w9 gz hq hge hb; have FG : Aside0 (w.heap.size ≤ gz) := ⟨Nat.le_trans HB.out.size hge⟩; (try replace FN := Aside0.mk (Kd.R_below FN.out hb)); (try replace FT := Aside0.mk (Kd.R_below FT.out hb)); (try replace FZ := Aside0.mk (blk_below FZ.out hb)); replace HL := Aside0.mk (blk_below HL.out hb); replace HB := Aside0.mk (below_step HB.out hb); have FZ := Aside0.mk hq; clear hq hge hb)
      refine hK.out _ _ ?_ ?_
      ·intro _; exact HL.out
      clear hK K
      try simp only [Act.put, List.setIfInBounds_toArray, List.set_cons_zero, List.set_cons_succ]
      refine AnyT.ready (rs := [14, 19]) (by kernel_rfl) (by simp) (AllT.step rfl (fun K hK => ?b10114) (AllT.step rfl (fun K hK => ?b10119) AllT.nil))
      case b10114 =>
       (refine Kd.R_lit_step (Kd.int .i64) (w0 := w) w.heap.size 3 (by rfl) (N := 27) (by rfl) (xs := [a0_0, a0_1, a0_2, a0_3, (oneI a0_6), (l0_7.length : Int)]) (inner := [.int .i64 a0_0, .int .i64 a0_1, .int .i64 a0_2, .int .i64 a0_3, .int .i64 (oneI a0_6), .int .i64 (l0_7.length : Int)]) (ok := fun _ => True) (okp := fun _ => True) ?hr (reps_ints _ _ _ [a0_0, a0_1, a0_2, a0_3, (oneI a0_6), (l0_7.length : Int)]) (fun _ h => h) trivial HB.out HB.out.size (by simp) ?_; (case hr => first | (go_simp; done) | (go_simp; rfl)); intro vx w9 ho hb hg hat; (try replace FN := Aside0.mk (Kd.R_grown FN.out hg (fun _ _ => by simp))); (try replace FT := Aside0.mk (Kd.R_grown FT.out hg (fun _ _ => by simp))); (try replace FZ := Aside0.mk (blk_grown FZ.out hg (by simp))); replace HL := Aside0.mk (blk_grown HL.out hg (by simp)); replace HB := Aside0.mk hb; obtain ⟨A27, c27, e9⟩ := Kd.R_slice ho; subst e9; have FN := Aside0.mk ho; clear ho hb hg hat)
       refine hK.out _ _ ?_ ?_
       ·intro _; exact HL.out
       clear hK K
       try simp only [Act.put, List.setIfInBounds_toArray, List.set_cons_zero, List.set_cons_succ]
       refine AnyT.ready (rs := [19]) (by kernel_rfl) (by simp) (AllT.step rfl (fun K hK => ?b10319) AllT.nil)
       case b10319 =>
        (refine Kd.R_lit_step Kd.string (w0 := w) w.heap.size 9 (by rfl) (N := 32) (by rfl) (xs := [a0_4, a0_5]) (inner := [.string a0_4, .string a0_5]) (ok := fun _ => True) (okp := fun _ => True) ?hr (reps_texts _ _ _ [a0_4, a0_5]) (fun _ h => h) trivial HB.out HB.out.size (by simp) ?_; (case hr => first | (go_simp; done) | (go_simp; rfl)); intro vx w9 ho hb hg hat; (try replace FN := Aside0.mk (Kd.R_grown FN.out hg (fun _ _ => by simp))); (try replace FT := Aside0.mk (Kd.R_grown FT.out hg (fun _ _ => by simp))); (try replace FZ := Aside0.mk (blk_grown FZ.out hg (by simp))); replace HL := Aside0.mk (blk_grown HL.out hg (by simp)); replace HB := Aside0.mk hb; obtain ⟨A32, c32, e9⟩ := Kd.R_slice ho; subst e9; have FT := Aside0.mk ho; clear ho hb hg hat)
        refine hK.out _ _ ?_ ?_
        ·intro _; exact HL.out
        clear hK K
        try simp only [Act.put, List.setIfInBounds_toArray, List.set_cons_zero, List.set_cons_succ]
        refine AnyT.ready (rs := [22]) (by kernel_rfl) (by simp) (AllT.step rfl (fun K hK => ?b10522) AllT.nil)
        case b10522 =>
         (refine Kd.R_append_rows_step Kd.string (w0 := w) w.heap.size (by rfl) (.tmp 32) (.tmp 34) 22 9 (.string ⟨#[]⟩) 16 (by rfl) Try.underlying22 info9 rfl (by decide) (by omega) (.slice A32 2 c32) [a0_4, a0_5] l0_7 _ _ _ (fun _ => True) (fun _ => False) (by rfl) (by rfl) FT.out (Kd.C_below HR7.out HB.out) (fun _ _ h => h) (fun _ h => h.elim) (fun _ _ => trivial) HB.out HB.out.size (by simp only [List.length_cons, List.length_nil]; omega) ?_; intro vx w9 ho hb hg hat; (try replace FN := Aside0.mk (Kd.R_over FN.out FT.out (by decide) hg)); (try replace FZ := Aside0.mk (blk_grown FZ.out hg (Kd.R_ne FT.out FZ.out (by decide)))); replace HL := Aside0.mk (blk_grown HL.out hg (Kd.R_ne FT.out HL.out (by decide))); replace HB := Aside0.mk hb; obtain ⟨A35, c35, e9⟩ := Kd.R_slice ho; subst e9; replace FT := Aside0.mk ho; clear ho hb hg hat)
         refine hK.out _ _ ?_ ?_
         ·intro _; exact HL.out
         clear hK K
         try simp only [Act.put, List.setIfInBounds_toArray, List.set_cons_zero, List.set_cons_succ]
         refine AnyT.taken (i := 23) (v := ?v107) rfl (by kernel_rfl) (by kernel_rfl) (by kernel_rfl) (by kernel_rfl) (fun _ _ _ h => h) (Or.inl ⟨by rfl, ?y107⟩) ?s107 ?_
         case y107 =>
          intro wSW hSW
          (obtain ⟨k0, k1, k2, k3, k4, k5, k6, k7⟩ := keep8 hSW; go_simp)
          all_goals with_reducible rfl
         case s107 => exact HL.out
         try simp only [Act.put, List.setIfInBounds_toArray, List.set_cons_zero, List.set_cons_succ]
         refine AnyT.ready (rs := [25]) (by kernel_rfl) (by simp) (AllT.step rfl (fun K hK => ?b10825) AllT.nil)
         case b10825 =>
          (have hs0 := (blk_cell FZ.out 0).trans rfl; have hs1 := (blk_cell FZ.out 1).trans rfl; have hf0 := blk_frozen FZ.out 0; have hf1 := blk_frozen FZ.out 1; go_simp)
          refine hK.out _ _ ?_ ?_
          ·exact past (by kernel_rfl)
          clear hK K
          try simp only [Act.put, List.setIfInBounds_toArray, List.set_cons_zero, List.set_cons_succ]
          refine AnyT.done (by kernel_rfl) ?_ _
          refine NoPanic.normal ?_
          (go_wp2; go_meet)
          (case rel => exact ⟨gz, .slice A27 6 c27, .slice A35 (l0_7.length + 2) c35, rfl, ⟨PE.of (vN' := .slice none 0 0) (vT' := .slice none 0 0) HL.out HB.out FN.out FT.out FZ.out FG.out⟩⟩)
      case b10119 =>
       (refine Kd.R_lit_step Kd.string (w0 := w) w.heap.size 9 (by rfl) (N := 32) (by rfl) (xs := [a0_4, a0_5]) (inner := [.string a0_4, .string a0_5]) (ok := fun _ => True) (okp := fun _ => True) ?hr (reps_texts _ _ _ [a0_4, a0_5]) (fun _ h => h) trivial HB.out HB.out.size (by simp) ?_; (case hr => first | (go_simp; done) | (go_simp; rfl)); intro vx w9 ho hb hg hat; (try replace FN := Aside0.mk (Kd.R_grown FN.out hg (fun _ _ => by simp))); (try replace FT := Aside0.mk (Kd.R_grown FT.out hg (fun _ _ => by simp))); (try replace FZ := Aside0.mk (blk_grown FZ.out hg (by simp))); replace HL := Aside0.mk (blk_grown HL.out hg (by simp)); replace HB := Aside0.mk hb; obtain ⟨A32, c32, e9⟩ := Kd.R_slice ho; subst e9; have FT := Aside0.mk ho; clear ho hb hg hat)
       refine hK.out _ _ ?_ ?_
       ·intro _; exact HL.out
       clear hK K
       try simp only [Act.put, List.setIfInBounds_toArray, List.set_cons_zero, List.set_cons_succ]
       refine AnyT.ready (rs := [14, 22]) (by kernel_rfl) (by simp) (AllT.step rfl (fun K hK => ?b11214) (AllT.step rfl (fun K hK => ?b11222) AllT.nil))
       case b11214 =>
        (refine Kd.R_lit_step (Kd.int .i64) (w0 := w) w.heap.size 3 (by rfl) (N := 27) (by rfl) (xs := [a0_0, a0_1, a0_2, a0_3, (oneI a0_6), (l0_7.length : Int)]) (inner := [.int .i64 a0_0, .int .i64 a0_1, .int .i64 a0_2, .int .i64 a0_3, .int .i64 (oneI a0_6), .int .i64 (l0_7.length : Int)]) (ok := fun _ => True) (okp := fun _ => True) ?hr (reps_ints _ _ _ [a0_0, a0_1, a0_2, a0_3, (oneI a0_6), (l0_7.length : Int)]) (fun _ h => h) trivial HB.out HB.out.size (by simp) ?_; (case hr => first | (go_simp; done) | (go_simp; rfl)); intro vx w9 ho hb hg hat; (try replace FN := Aside0.mk (Kd.R_grown FN.out hg (fun _ _ => by simp))); (try replace FT := Aside0.mk (Kd.R_grown FT.out hg (fun _ _ => by simp))); (try replace FZ := Aside0.mk (blk_grown FZ.out hg (by simp))); replace HL := Aside0.mk (blk_grown HL.out hg (by simp)); replace HB := Aside0.mk hb; obtain ⟨A27, c27, e9⟩ := Kd.R_slice ho; subst e9; have FN := Aside0.mk ho; clear ho hb hg hat)
        refine hK.out _ _ ?_ ?_
        ·intro _; exact HL.out
        clear hK K
        try simp only [Act.put, List.setIfInBounds_toArray, List.set_cons_zero, List.set_cons_succ]
        refine AnyT.ready (rs := [22]) (by kernel_rfl) (by simp) (AllT.step rfl (fun K hK => ?b11422) AllT.nil)
        case b11422 =>
         (refine Kd.R_append_rows_step Kd.string (w0 := w) w.heap.size (by rfl) (.tmp 32) (.tmp 34) 22 9 (.string ⟨#[]⟩) 16 (by rfl) Try.underlying22 info9 rfl (by decide) (by omega) (.slice A32 2 c32) [a0_4, a0_5] l0_7 _ _ _ (fun _ => True) (fun _ => False) (by rfl) (by rfl) FT.out (Kd.C_below HR7.out HB.out) (fun _ _ h => h) (fun _ h => h.elim) (fun _ _ => trivial) HB.out HB.out.size (by simp only [List.length_cons, List.length_nil]; omega) ?_; intro vx w9 ho hb hg hat; (try replace FN := Aside0.mk (Kd.R_over FN.out FT.out (by decide) hg)); (try replace FZ := Aside0.mk (blk_grown FZ.out hg (Kd.R_ne FT.out FZ.out (by decide)))); replace HL := Aside0.mk (blk_grown HL.out hg (Kd.R_ne FT.out HL.out (by decide))); replace HB := Aside0.mk hb; obtain ⟨A35, c35, e9⟩ := Kd.R_slice ho; subst e9; replace FT := Aside0.mk ho; clear ho hb hg hat)
         refine hK.out _ _ ?_ ?_
         ·intro _; exact HL.out
         clear hK K
         try simp only [Act.put, List.setIfInBounds_toArray, List.set_cons_zero, List.set_cons_succ]
         refine AnyT.taken (i := 23) (v := ?v116) rfl (by kernel_rfl) (by kernel_rfl) (by kernel_rfl) (by kernel_rfl) (fun _ _ _ h => h) (Or.inl ⟨by rfl, ?y116⟩) ?s116 ?_
         case y116 =>
          intro wSW hSW
          (obtain ⟨k0, k1, k2, k3, k4, k5, k6, k7⟩ := keep8 hSW; go_simp)
          all_goals with_reducible rfl
         case s116 => exact HL.out
         try simp only [Act.put, List.setIfInBounds_toArray, List.set_cons_zero, List.set_cons_succ]
         refine AnyT.ready (rs := [25]) (by kernel_rfl) (by simp) (AllT.step rfl (fun K hK => ?b11725) AllT.nil)
         case b11725 =>
          (have hs0 := (blk_cell FZ.out 0).trans rfl; have hs1 := (blk_cell FZ.out 1).trans rfl; have hf0 := blk_frozen FZ.out 0; have hf1 := blk_frozen FZ.out 1; go_simp)
          refine hK.out _ _ ?_ ?_
          ·exact past (by kernel_rfl)
          clear hK K
          try simp only [Act.put, List.setIfInBounds_toArray, List.set_cons_zero, List.set_cons_succ]
          refine AnyT.done (by kernel_rfl) ?_ _
          refine NoPanic.normal ?_
          (go_wp2; go_meet)
          (case rel => exact ⟨gz, .slice A27 6 c27, .slice A35 (l0_7.length + 2) c35, rfl, ⟨PE.of (vN' := .slice none 0 0) (vT' := .slice none 0 0) HL.out HB.out FN.out FT.out FZ.out FG.out⟩⟩)
       case b11222 =>
        (refine Kd.R_append_rows_step Kd.string (w0 := w) w.heap.size (by rfl) (.tmp 32) (.tmp 34) 22 9 (.string ⟨#[]⟩) 16 (by rfl) Try.underlying22 info9 rfl (by decide) (by omega) (.slice A32 2 c32) [a0_4, a0_5] l0_7 _ _ _ (fun _ => True) (fun _ => False) (by rfl) (by rfl) FT.out (Kd.C_below HR7.out HB.out) (fun _ _ h => h) (fun _ h => h.elim) (fun _ _ => trivial) HB.out HB.out.size (by simp only [List.length_cons, List.length_nil]; omega) ?_; intro vx w9 ho hb hg hat; (try replace FN := Aside0.mk (Kd.R_over FN.out FT.out (by decide) hg)); (try replace FZ := Aside0.mk (blk_grown FZ.out hg (Kd.R_ne FT.out FZ.out (by decide)))); replace HL := Aside0.mk (blk_grown HL.out hg (Kd.R_ne FT.out HL.out (by decide))); replace HB := Aside0.mk hb; obtain ⟨A35, c35, e9⟩ := Kd.R_slice ho; subst e9; replace FT := Aside0.mk ho; clear ho hb hg hat)
        refine hK.out _ _ ?_ ?_
        ·intro _; exact HL.out
        clear hK K
        try simp only [Act.put, List.setIfInBounds_toArray, List.set_cons_zero, List.set_cons_succ]
        refine AnyT.ready (rs := [14]) (by kernel_rfl) (by simp) (AllT.step rfl (fun K hK => ?b12114) AllT.nil)
        case b12114 =>
         (refine Kd.R_lit_step (Kd.int .i64) (w0 := w) w.heap.size 3 (by rfl) (N := 27) (by rfl) (xs := [a0_0, a0_1, a0_2, a0_3, (oneI a0_6), (l0_7.length : Int)]) (inner := [.int .i64 a0_0, .int .i64 a0_1, .int .i64 a0_2, .int .i64 a0_3, .int .i64 (oneI a0_6), .int .i64 (l0_7.length : Int)]) (ok := fun _ => True) (okp := fun _ => True) ?hr (reps_ints _ _ _ [a0_0, a0_1, a0_2, a0_3, (oneI a0_6), (l0_7.length : Int)]) (fun _ h => h) trivial HB.out HB.out.size (by simp) ?_; (case hr => first | (go_simp; done) | (go_simp; rfl)); intro vx w9 ho hb hg hat; (try replace FN := Aside0.mk (Kd.R_grown FN.out hg (fun _ _ => by simp))); (try replace FT := Aside0.mk (Kd.R_grown FT.out hg (fun _ _ => by simp))); (try replace FZ := Aside0.mk (blk_grown FZ.out hg (by simp))); replace HL := Aside0.mk (blk_grown HL.out hg (by simp)); replace HB := Aside0.mk hb; obtain ⟨A27, c27, e9⟩ := Kd.R_slice ho; subst e9; have FN := Aside0.mk ho; clear ho hb hg hat)
         refine hK.out _ _ ?_ ?_
         ·intro _; exact HL.out
         clear hK K
         try simp only [Act.put, List.setIfInBounds_toArray, List.set_cons_zero, List.set_cons_succ]
         refine AnyT.taken (i := 23) (v := ?v123) rfl (by kernel_rfl) (by kernel_rfl) (by kernel_rfl) (by kernel_rfl) (fun _ _ _ h => h) (Or.inl ⟨by rfl, ?y123⟩) ?s123 ?_
         case y123 =>
          intro wSW hSW
          (obtain ⟨k0, k1, k2, k3, k4, k5, k6, k7⟩ := keep8 hSW; go_simp)
          all_goals with_reducible rfl
         case s123 => exact HL.out
         try simp only [Act.put, List.setIfInBounds_toArray, List.set_cons_zero, List.set_cons_succ]
         refine AnyT.ready (rs := [25]) (by kernel_rfl) (by simp) (AllT.step rfl (fun K hK => ?b12425) AllT.nil)
         case b12425 =>
          (have hs0 := (blk_cell FZ.out 0).trans rfl; have hs1 := (blk_cell FZ.out 1).trans rfl; have hf0 := blk_frozen FZ.out 0; have hf1 := blk_frozen FZ.out 1; go_simp)
          refine hK.out _ _ ?_ ?_
          ·exact past (by kernel_rfl)
          clear hK K
          try simp only [Act.put, List.setIfInBounds_toArray, List.set_cons_zero, List.set_cons_succ]
          refine AnyT.done (by kernel_rfl) ?_ _
          refine NoPanic.normal ?_
          (go_wp2; go_meet)
          (case rel => exact ⟨gz, .slice A27 6 c27, .slice A35 (l0_7.length + 2) c35, rfl, ⟨PE.of (vN' := .slice none 0 0) (vT' := .slice none 0 0) HL.out HB.out FN.out FT.out FZ.out FG.out⟩⟩)
    case b2019 =>
     (refine Kd.R_lit_step Kd.string (w0 := w) w.heap.size 9 (by rfl) (N := 32) (by rfl) (xs := [a0_4, a0_5]) (inner := [.string a0_4, .string a0_5]) (ok := fun _ => True) (okp := fun _ => True) ?hr (reps_texts _ _ _ [a0_4, a0_5]) (fun _ h => h) trivial HB.out HB.out.size (by simp) ?_; (case hr => first | (go_simp; done) | (go_simp; rfl)); intro vx w9 ho hb hg hat; (try replace FN := Aside0.mk (Kd.R_grown FN.out hg (fun _ _ => by simp))); (try replace FT := Aside0.mk (Kd.R_grown FT.out hg (fun _ _ => by simp))); (try replace FZ := Aside0.mk (blk_grown FZ.out hg (by simp))); replace HL := Aside0.mk (blk_grown HL.out hg (by simp)); replace HB := Aside0.mk hb; obtain ⟨A32, c32, e9⟩ := Kd.R_slice ho; subst e9; have FT := Aside0.mk ho; clear ho hb hg hat)
     refine hK.out _ _ ?_ ?_
     ·intro _; exact HL.out
     clear hK K
     try simp only [Act.put, List.setIfInBounds_toArray, List.set_cons_zero, List.set_cons_succ]
     refine AnyT.ready (rs := [10, 24]) (by kernel_rfl) (by simp) (AllT.step rfl (fun K hK => ?b12810) (AllT.step rfl (fun K hK => ?b12824) AllT.nil))
     case b12810 =>
      (refine goes_ Try.func20 (by kernel_rfl) rfl #[.bool a0_6] (by rfl) rfl rfl (by (try simp only [List.map_toArray, List.map_cons, List.map_nil]); first | done | rfl) ?_; refine (one_calls a0_6 _).mono ?_; rintro e w9 ⟨rfl, hb⟩; refine ⟨_, rfl, ?_⟩; (try replace FN := Aside0.mk (Kd.R_below FN.out hb)); (try replace FT := Aside0.mk (Kd.R_below FT.out hb)); (try replace FZ := Aside0.mk (blk_below FZ.out hb)); replace HL := Aside0.mk (blk_below HL.out hb); replace HB := Aside0.mk (below_step HB.out hb); clear hb)
      refine hK.out _ _ ?_ ?_
      ·intro _; exact HL.out
      clear hK K
      try simp only [Act.put, List.setIfInBounds_toArray, List.set_cons_zero, List.set_cons_succ]
      refine AnyT.ready (rs := [14, 22, 24]) (by kernel_rfl) (by simp) (AllT.step rfl (fun K hK => ?b13014) (AllT.step rfl (fun K hK => ?b13022) (AllT.step rfl (fun K hK => ?b13024) AllT.nil)))
      case b13014 =>
       (refine Kd.R_lit_step (Kd.int .i64) (w0 := w) w.heap.size 3 (by rfl) (N := 27) (by rfl) (xs := [a0_0, a0_1, a0_2, a0_3, (oneI a0_6), (l0_7.length : Int)]) (inner := [.int .i64 a0_0, .int .i64 a0_1, .int .i64 a0_2, .int .i64 a0_3, .int .i64 (oneI a0_6), .int .i64 (l0_7.length : Int)]) (ok := fun _ => True) (okp := fun _ => True) ?hr (reps_ints _ _ _ [a0_0, a0_1, a0_2, a0_3, (oneI a0_6), (l0_7.length : Int)]) (fun _ h => h) trivial HB.out HB.out.size (by simp) ?_; (case hr => first | (go_simp; done) | (go_simp; rfl)); intro vx w9 ho hb hg hat; (try replace FN := Aside0.mk (Kd.R_grown FN.out hg (fun _ _ => by simp))); (try replace FT := Aside0.mk (Kd.R_grown FT.out hg (fun _ _ => by simp))); (try replace FZ := Aside0.mk (blk_grown FZ.out hg (by simp))); replace HL := Aside0.mk (blk_grown HL.out hg (by simp)); replace HB := Aside0.mk hb; obtain ⟨A27, c27, e9⟩ := Kd.R_slice ho; subst e9; have FN := Aside0.mk ho; clear ho hb hg hat)
       refine hK.out _ _ ?_ ?_
       ·intro _; exact HL.out
       clear hK K
       try simp only [Act.put, List.setIfInBounds_toArray, List.set_cons_zero, List.set_cons_succ]
       refine AnyT.ready (rs := [22, 24]) (by kernel_rfl) (by simp) (AllT.step rfl (fun K hK => ?b13222) (AllT.step rfl (fun K hK => ?b13224) AllT.nil))
       case b13222 =>
        (refine Kd.R_append_rows_step Kd.string (w0 := w) w.heap.size (by rfl) (.tmp 32) (.tmp 34) 22 9 (.string ⟨#[]⟩) 16 (by rfl) Try.underlying22 info9 rfl (by decide) (by omega) (.slice A32 2 c32) [a0_4, a0_5] l0_7 _ _ _ (fun _ => True) (fun _ => False) (by rfl) (by rfl) FT.out (Kd.C_below HR7.out HB.out) (fun _ _ h => h) (fun _ h => h.elim) (fun _ _ => trivial) HB.out HB.out.size (by simp only [List.length_cons, List.length_nil]; omega) ?_; intro vx w9 ho hb hg hat; (try replace FN := Aside0.mk (Kd.R_over FN.out FT.out (by decide) hg)); (try replace FZ := Aside0.mk (blk_grown FZ.out hg (Kd.R_ne FT.out FZ.out (by decide)))); replace HL := Aside0.mk (blk_grown HL.out hg (Kd.R_ne FT.out HL.out (by decide))); replace HB := Aside0.mk hb; obtain ⟨A35, c35, e9⟩ := Kd.R_slice ho; subst e9; replace FT := Aside0.mk ho; clear ho hb hg hat)
        refine hK.out _ _ ?_ ?_
        ·intro _; exact HL.out
        clear hK K
        try simp only [Act.put, List.setIfInBounds_toArray, List.set_cons_zero, List.set_cons_succ]
        refine AnyT.taken (i := 23) (v := ?v134) rfl (by kernel_rfl) (by kernel_rfl) (by kernel_rfl) (by kernel_rfl) (fun _ _ _ h => h) (Or.inl ⟨by rfl, ?y134⟩) ?s134 ?_
        case y134 =>
         intro wSW hSW
         (obtain ⟨k0, k1, k2, k3, k4, k5, k6, k7⟩ := keep8 hSW; go_simp)
         all_goals with_reducible rfl
        case s134 => exact HL.out
        try simp only [Act.put, List.setIfInBounds_toArray, List.set_cons_zero, List.set_cons_succ]
        refine AnyT.ready (rs := [24]) (by kernel_rfl) (by simp) (AllT.step rfl (fun K hK => ?b13524) AllT.nil)
        case b13524 =>
         (refine step_alloc (ob := .cells #[.slice none 0 0, .slice none 0 0] 48) (by rfl) ?hr ?_; (case hr => first | (go_simp; done) | (go_simp; rfl)); intro w9 gz hq hge hb; have FG : Aside0 (w.heap.size ≤ gz) := ⟨Nat.le_trans HB.out.size hge⟩; (try replace FN := Aside0.mk (Kd.R_below FN.out hb)); (try replace FT := Aside0.mk (Kd.R_below FT.out hb)); (try replace FZ := Aside0.mk (blk_below FZ.out hb)); replace HL := Aside0.mk (blk_below HL.out hb); replace HB := Aside0.mk (below_step HB.out hb); have FZ := Aside0.mk hq; clear hq hge hb)
         refine hK.out _ _ ?_ ?_
         ·intro _; exact HL.out
         clear hK K
         try simp only [Act.put, List.setIfInBounds_toArray, List.set_cons_zero, List.set_cons_succ]
         refine AnyT.ready (rs := [25]) (by kernel_rfl) (by simp) (AllT.step rfl (fun K hK => ?b13725) AllT.nil)
         case b13725 =>
          (have hs0 := (blk_cell FZ.out 0).trans rfl; have hs1 := (blk_cell FZ.out 1).trans rfl; have hf0 := blk_frozen FZ.out 0; have hf1 := blk_frozen FZ.out 1; go_simp)
          refine hK.out _ _ ?_ ?_
          ·exact past (by kernel_rfl)
          clear hK K
          try simp only [Act.put, List.setIfInBounds_toArray, List.set_cons_zero, List.set_cons_succ]
          refine AnyT.done (by kernel_rfl) ?_ _
          refine NoPanic.normal ?_
          (go_wp2; go_meet)
          (case rel => exact ⟨gz, .slice A27 6 c27, .slice A35 (l0_7.length + 2) c35, rfl, ⟨PE.of (vN' := .slice none 0 0) (vT' := .slice none 0 0) HL.out HB.out FN.out FT.out FZ.out FG.out⟩⟩)
       case b13224 =>
        (refine step_alloc (ob := .cells #[.slice none 0 0, .slice none 0 0] 48) (by rfl) ?hr ?_; (case hr => first | (go_simp; done) | (go_simp; rfl)); intro w9 gz hq hge hb; have FG : Aside0 (w.heap.size ≤ gz) := ⟨Nat.le_trans HB.out.size hge⟩; (try replace FN := Aside0.mk (Kd.R_below FN.out hb)); (try replace FT := Aside0.mk (Kd.R_below FT.out hb)); (try replace FZ := Aside0.mk (blk_below FZ.out hb)); replace HL := Aside0.mk (blk_below HL.out hb); replace HB := Aside0.mk (below_step HB.out hb); have FZ := Aside0.mk hq; clear hq hge hb)
        refine hK.out _ _ ?_ ?_
        ·intro _; exact HL.out
        clear hK K
        try simp only [Act.put, List.setIfInBounds_toArray, List.set_cons_zero, List.set_cons_succ]
        refine AnyT.ready (rs := [22]) (by kernel_rfl) (by simp) (AllT.step rfl (fun K hK => ?b14122) AllT.nil)
        case b14122 =>
         (refine Kd.R_append_rows_step Kd.string (w0 := w) w.heap.size (by rfl) (.tmp 32) (.tmp 34) 22 9 (.string ⟨#[]⟩) 16 (by rfl) Try.underlying22 info9 rfl (by decide) (by omega) (.slice A32 2 c32) [a0_4, a0_5] l0_7 _ _ _ (fun _ => True) (fun _ => False) (by rfl) (by rfl) FT.out (Kd.C_below HR7.out HB.out) (fun _ _ h => h) (fun _ h => h.elim) (fun _ _ => trivial) HB.out HB.out.size (by simp only [List.length_cons, List.length_nil]; omega) ?_; intro vx w9 ho hb hg hat; (try replace FN := Aside0.mk (Kd.R_over FN.out FT.out (by decide) hg)); (try replace FZ := Aside0.mk (blk_grown FZ.out hg (Kd.R_ne FT.out FZ.out (by decide)))); replace HL := Aside0.mk (blk_grown HL.out hg (Kd.R_ne FT.out HL.out (by decide))); replace HB := Aside0.mk hb; obtain ⟨A35, c35, e9⟩ := Kd.R_slice ho; subst e9; replace FT := Aside0.mk ho; clear ho hb hg hat)
         refine hK.out _ _ ?_ ?_
         ·intro _; exact HL.out
         clear hK K
         try simp only [Act.put, List.setIfInBounds_toArray, List.set_cons_zero, List.set_cons_succ]
         refine AnyT.taken (i := 23) (v := ?v143) rfl (by kernel_rfl) (by kernel_rfl) (by kernel_rfl) (by kernel_rfl) (fun _ _ _ h => h) (Or.inl ⟨by rfl, ?y143⟩) ?s143 ?_
         case y143 =>
          intro wSW hSW
          (obtain ⟨k0, k1, k2, k3, k4, k5, k6, k7⟩ := keep8 hSW; go_simp)
          all_goals with_reducible rfl
         case s143 => exact HL.out
         try simp only [Act.put, List.setIfInBounds_toArray, List.set_cons_zero, List.set_cons_succ]
         refine AnyT.ready (rs := [25]) (by kernel_rfl) (by simp) (AllT.step rfl (fun K hK => ?b14425) AllT.nil)
         case b14425 =>
          (have hs0 := (blk_cell FZ.out 0).trans rfl; have hs1 := (blk_cell FZ.out 1).trans rfl; have hf0 := blk_frozen FZ.out 0; have hf1 := blk_frozen FZ.out 1; go_simp)
          refine hK.out _ _ ?_ ?_
          ·exact past (by kernel_rfl)
          clear hK K
          try simp only [Act.put, List.setIfInBounds_toArray, List.set_cons_zero, List.set_cons_succ]
          refine AnyT.done (by kernel_rfl) ?_ _
          refine NoPanic.normal ?_
          (go_wp2; go_meet)
          (case rel => exact ⟨gz, .slice A27 6 c27, .slice A35 (l0_7.length + 2) c35, rfl, ⟨PE.of (vN' := .slice none 0 0) (vT' := .slice none 0 0) HL.out HB.out FN.out FT.out FZ.out FG.out⟩⟩)
      case b13022 =>
       (refine Kd.R_append_rows_step Kd.string (w0 := w) w.heap.size (by rfl) (.tmp 32) (.tmp 34) 22 9 (.string ⟨#[]⟩) 16 (by rfl) Try.underlying22 info9 rfl (by decide) (by omega) (.slice A32 2 c32) [a0_4, a0_5] l0_7 _ _ _ (fun _ => True) (fun _ => False) (by rfl) (by rfl) FT.out (Kd.C_below HR7.out HB.out) (fun _ _ h => h) (fun _ h => h.elim) (fun _ _ => trivial) HB.out HB.out.size (by simp only [List.length_cons, List.length_nil]; omega) ?_; intro vx w9 ho hb hg hat; (try replace FN := Aside0.mk (Kd.R_over FN.out FT.out (by decide) hg)); (try replace FZ := Aside0.mk (blk_grown FZ.out hg (Kd.R_ne FT.out FZ.out (by decide)))); replace HL := Aside0.mk (blk_grown HL.out hg (Kd.R_ne FT.out HL.out (by decide))); replace HB := Aside0.mk hb; obtain ⟨A35, c35, e9⟩ := Kd.R_slice ho; subst e9; replace FT := Aside0.mk ho; clear ho hb hg hat)
       refine hK.out _ _ ?_ ?_
       ·intro _; exact HL.out
       clear hK K
       try simp only [Act.put, List.setIfInBounds_toArray, List.set_cons_zero, List.set_cons_succ]
       refine AnyT.ready (rs := [14, 24]) (by kernel_rfl) (by simp) (AllT.step rfl (fun K hK => ?b14814) (AllT.step rfl (fun K hK => ?b14824) AllT.nil))
       case b14814 =>
        (refine Kd.R_lit_step (Kd.int .i64) (w0 := w) w.heap.size 3 (by rfl) (N := 27) (by rfl) (xs := [a0_0, a0_1, a0_2, a0_3, (oneI a0_6), (l0_7.length : Int)]) (inner := [.int .i64 a0_0, .int .i64 a0_1, .int .i64 a0_2, .int .i64 a0_3, .int .i64 (oneI a0_6), .int .i64 (l0_7.length : Int)]) (ok := fun _ => True) (okp := fun _ => True) ?hr (reps_ints _ _ _ [a0_0, a0_1, a0_2, a0_3, (oneI a0_6), (l0_7.length : Int)]) (fun _ h => h) trivial HB.out HB.out.size (by simp) ?_; (case hr => first | (go_simp; done) | (go_simp; rfl)); intro vx w9 ho hb hg hat; (try replace FN := Aside0.mk (Kd.R_grown FN.out hg (fun _ _ => by simp))); (try replace FT := Aside0.mk (Kd.R_grown FT.out hg (fun _ _ => by simp))); (try replace FZ := Aside0.mk (blk_grown FZ.out hg (by simp))); replace HL := Aside0.mk (blk_grown HL.out hg (by simp)); replace HB := Aside0.mk hb; obtain ⟨A27, c27, e9⟩ := Kd.R_slice ho; subst e9; have FN := Aside0.mk ho; clear ho hb hg hat)
        refine hK.out _ _ ?_ ?_
        ·intro _; exact HL.out
        clear hK K
        try simp only [Act.put, List.setIfInBounds_toArray, List.set_cons_zero, List.set_cons_succ]
        refine AnyT.taken (i := 23) (v := ?v150) rfl (by kernel_rfl) (by kernel_rfl) (by kernel_rfl) (by kernel_rfl) (fun _ _ _ h => h) (Or.inl ⟨by rfl, ?y150⟩) ?s150 ?_
        case y150 =>
         intro wSW hSW
         (obtain ⟨k0, k1, k2, k3, k4, k5, k6, k7⟩ := keep8 hSW; go_simp)
         all_goals with_reducible rfl
        case s150 => exact HL.out
        try simp only [Act.put, List.setIfInBounds_toArray, List.set_cons_zero, List.set_cons_succ]
        refine AnyT.ready (rs := [24]) (by kernel_rfl) (by simp) (AllT.step rfl (fun K hK => ?b15124) AllT.nil)
        case b15124 =>
         (refine step_alloc (ob := .cells #[.slice none 0 0, .slice none 0 0] 48) (by rfl) ?hr ?_; (case hr => first | (go_simp; done) | (go_simp; rfl)); intro w9 gz hq hge hb; have FG : Aside0 (w.heap.size ≤ gz) := ⟨Nat.le_trans HB.out.size hge⟩; (try replace FN := Aside0.mk (Kd.R_below FN.out hb)); (try replace FT := Aside0.mk (Kd.R_below FT.out hb)); (try replace FZ := Aside0.mk (blk_below FZ.out hb)); replace HL := Aside0.mk (blk_below HL.out hb); replace HB := Aside0.mk (below_step HB.out hb); have FZ := Aside0.mk hq; clear hq hge hb)
         refine hK.out _ _ ?_ ?_
         ·intro _; exact HL.out
         clear hK K
         try simp only [Act.put, List.setIfInBounds_toArray, List.set_cons_zero, List.set_cons_succ]
         refine AnyT.ready (rs := [25]) (by kernel_rfl) (by simp) (AllT.step rfl (fun K hK => ?b15325) AllT.nil)
         case b15325 =>
          (have hs0 := (blk_cell FZ.out 0).trans rfl; have hs1 := (blk_cell FZ.out 1).trans rfl; have hf0 := blk_frozen FZ.out 0; have hf1 := blk_frozen FZ.out 1; go_simp)
          refine hK.out _ _ ?_ ?_
          ·exact past (by kernel_rfl)
          clear hK K
          try simp only [Act.put, List.setIfInBounds_toArray, List.set_cons_zero, List.set_cons_succ]
          refine AnyT.done (by kernel_rfl) ?_ _
          refine NoPanic.normal ?_
          (go_wp2; go_meet)
          (case rel => exact ⟨gz, .slice A27 6 c27, .slice A35 (l0_7.length + 2) c35, rfl, ⟨PE.of (vN' := .slice none 0 0) (vT' := .slice none 0 0) HL.out HB.out FN.out FT.out FZ.out FG.out⟩⟩)
       case b14824 =>
        (refine step_alloc (ob := .cells #[.slice none 0 0, .slice none 0 0] 48) (by rfl) ?hr ?_; (case hr => first | (go_simp; done) | (go_simp; rfl)); intro w9 gz hq hge hb; have FG : Aside0 (w.heap.size ≤ gz) := ⟨Nat.le_trans HB.out.size hge⟩; (try replace FN := Aside0.mk (Kd.R_below FN.out hb)); (try replace FT := Aside0.mk (Kd.R_below FT.out hb)); (try replace FZ := Aside0.mk (blk_below FZ.out hb)); replace HL := Aside0.mk (blk_below HL.out hb); replace HB := Aside0.mk (below_step HB.out hb); have FZ := Aside0.mk hq; clear hq hge hb)
        refine hK.out _ _ ?_ ?_
        ·intro _; exact HL.out
        clear hK K
        try simp only [Act.put, List.setIfInBounds_toArray, List.set_cons_zero, List.set_cons_succ]
        refine AnyT.ready (rs := [14]) (by kernel_rfl) (by simp) (AllT.step rfl (fun K hK => ?b15714) AllT.nil)
        case b15714 =>
         (refine Kd.R_lit_step (Kd.int .i64) (w0 := w) w.heap.size 3 (by rfl) (N := 27) (by rfl) (xs := [a0_0, a0_1, a0_2, a0_3, (oneI a0_6), (l0_7.length : Int)]) (inner := [.int .i64 a0_0, .int .i64 a0_1, .int .i64 a0_2, .int .i64 a0_3, .int .i64 (oneI a0_6), .int .i64 (l0_7.length : Int)]) (ok := fun _ => True) (okp := fun _ => True) ?hr (reps_ints _ _ _ [a0_0, a0_1, a0_2, a0_3, (oneI a0_6), (l0_7.length : Int)]) (fun _ h => h) trivial HB.out HB.out.size (by simp) ?_; (case hr => first | (go_simp; done) | (go_simp; rfl)); intro vx w9 ho hb hg hat; (try replace FN := Aside0.mk (Kd.R_grown FN.out hg (fun _ _ => by simp))); (try replace FT := Aside0.mk (Kd.R_grown FT.out hg (fun _ _ => by simp))); (try replace FZ := Aside0.mk (blk_grown FZ.out hg (by simp))); replace HL := Aside0.mk (blk_grown HL.out hg (by simp)); replace HB := Aside0.mk hb; obtain ⟨A27, c27, e9⟩ := Kd.R_slice ho; subst e9; have FN := Aside0.mk ho; clear ho hb hg hat)
         refine hK.out _ _ ?_ ?_
         ·intro _; exact HL.out
         clear hK K
         try simp only [Act.put, List.setIfInBounds_toArray, List.set_cons_zero, List.set_cons_succ]
         refine AnyT.taken (i := 23) (v := ?v159) rfl (by kernel_rfl) (by kernel_rfl) (by kernel_rfl) (by kernel_rfl) (fun _ _ _ h => h) (Or.inl ⟨by rfl, ?y159⟩) ?s159 ?_
         case y159 =>
          intro wSW hSW
          (obtain ⟨k0, k1, k2, k3, k4, k5, k6, k7⟩ := keep8 hSW; go_simp)
          all_goals with_reducible rfl
         case s159 => exact HL.out
         try simp only [Act.put, List.setIfInBounds_toArray, List.set_cons_zero, List.set_cons_succ]
         refine AnyT.ready (rs := [25]) (by kernel_rfl) (by simp) (AllT.step rfl (fun K hK => ?b16025) AllT.nil)
         case b16025 =>
          (have hs0 := (blk_cell FZ.out 0).trans rfl; have hs1 := (blk_cell FZ.out 1).trans rfl; have hf0 := blk_frozen FZ.out 0; have hf1 := blk_frozen FZ.out 1; go_simp)
          refine hK.out _ _ ?_ ?_
          ·exact past (by kernel_rfl)
          clear hK K
          try simp only [Act.put, List.setIfInBounds_toArray, List.set_cons_zero, List.set_cons_succ]
          refine AnyT.done (by kernel_rfl) ?_ _
          refine NoPanic.normal ?_
          (go_wp2; go_meet)
          (case rel => exact ⟨gz, .slice A27 6 c27, .slice A35 (l0_7.length + 2) c35, rfl, ⟨PE.of (vN' := .slice none 0 0) (vT' := .slice none 0 0) HL.out HB.out FN.out FT.out FZ.out FG.out⟩⟩)
      case b13024 =>
       (refine step_alloc (ob := .cells #[.slice none 0 0, .slice none 0 0] 48) (by rfl) ?hr ?_; (case hr => first | (go_simp; done) | (go_simp; rfl)); intro w9 gz hq hge hb; have FG : Aside0 (w.heap.size ≤ gz) := ⟨Nat.le_trans HB.out.size hge⟩; (try replace FN := Aside0.mk (Kd.R_below FN.out hb)); (try replace FT := Aside0.mk (Kd.R_below FT.out hb)); (try replace FZ := Aside0.mk (blk_below FZ.out hb)); replace HL := Aside0.mk (blk_below HL.out hb); replace HB := Aside0.mk (below_step HB.out hb); have FZ := Aside0.mk hq; clear hq hge hb)
       refine hK.out _ _ ?_ ?_
       ·intro _; exact HL.out
       clear hK K
       try simp only [Act.put, List.setIfInBounds_toArray, List.set_cons_zero, List.set_cons_succ]
       refine AnyT.ready (rs := [14, 22]) (by kernel_rfl) (by simp) (AllT.step rfl (fun K hK => ?b16414) (AllT.step rfl (fun K hK => ?b16422) AllT.nil))
       case b16414 =>
        (refine Kd.R_lit_step (Kd.int .i64) (w0 := w) w.heap.size 3 (by rfl) (N := 27) (by rfl) (xs := [a0_0, a0_1, a0_2, a0_3, (oneI a0_6), (l0_7.length : Int)]) (inner := [.int .i64 a0_0, .int .i64 a0_1, .int .i64 a0_2, .int .i64 a0_3, .int .i64 (oneI a0_6), .int .i64 (l0_7.length : Int)]) (ok := fun _ => True) (okp := fun _ => True) ?hr (reps_ints _ _ _ [a0_0, a0_1, a0_2, a0_3, (oneI a0_6), (l0_7.length : Int)]) (fun _ h => h) trivial HB.out HB.out.size (by simp) ?_; (case hr => first | (go_simp; done) | (go_simp; rfl)); intro vx w9 ho hb hg hat; (try replace FN := Aside0.mk (Kd.R_grown FN.out hg (fun _ _ => by simp))); (try replace FT := Aside0.mk (Kd.R_grown FT.out hg (fun _ _ => by simp))); (try replace FZ := Aside0.mk (blk_grown FZ.out hg (by simp))); replace HL := Aside0.mk (blk_grown HL.out hg (by simp)); replace HB := Aside0.mk hb; obtain ⟨A27, c27, e9⟩ := Kd.R_slice ho; subst e9; have FN := Aside0.mk ho; clear ho hb hg hat)
        refine hK.out _ _ ?_ ?_
        ·intro _; exact HL.out
        clear hK K
        try simp only [Act.put, List.setIfInBounds_toArray, List.set_cons_zero, List.set_cons_succ]
        refine AnyT.ready (rs := [22]) (by kernel_rfl) (by simp) (AllT.step rfl (fun K hK => ?b16622) AllT.nil)
        case b16622 =>
         (refine Kd.R_append_rows_step Kd.string (w0 := w) w.heap.size (by rfl) (.tmp 32) (.tmp 34) 22 9 (.string ⟨#[]⟩) 16 (by rfl) Try.underlying22 info9 rfl (by decide) (by omega) (.slice A32 2 c32) [a0_4, a0_5] l0_7 _ _ _ (fun _ => True) (fun _ => False) (by rfl) (by rfl) FT.out (Kd.C_below HR7.out HB.out) (fun _ _ h => h) (fun _ h => h.elim) (fun _ _ => trivial) HB.out HB.out.size (by simp only [List.length_cons, List.length_nil]; omega) ?_; intro vx w9 ho hb hg hat; (try replace FN := Aside0.mk (Kd.R_over FN.out FT.out (by decide) hg)); (try replace FZ := Aside0.mk (blk_grown FZ.out hg (Kd.R_ne FT.out FZ.out (by decide)))); replace HL := Aside0.mk (blk_grown HL.out hg (Kd.R_ne FT.out HL.out (by decide))); replace HB := Aside0.mk hb; obtain ⟨A35, c35, e9⟩ := Kd.R_slice ho; subst e9; replace FT := Aside0.mk ho; clear ho hb hg hat)
         refine hK.out _ _ ?_ ?_
         ·intro _; exact HL.out
         clear hK K
         try simp only [Act.put, List.setIfInBounds_toArray, List.set_cons_zero, List.set_cons_succ]
         refine AnyT.taken (i := 23) (v := ?v168) rfl (by kernel_rfl) (by kernel_rfl) (by kernel_rfl) (by kernel_rfl) (fun _ _ _ h => h) (Or.inl ⟨by rfl, ?y168⟩) ?s168 ?_
         case y168 =>
          intro wSW hSW
          (obtain ⟨k0, k1, k2, k3, k4, k5, k6, k7⟩ := keep8 hSW; go_simp)
          all_goals with_reducible rfl
         case s168 => exact HL.out
         try simp only [Act.put, List.setIfInBounds_toArray, List.set_cons_zero, List.set_cons_succ]
         refine AnyT.ready (rs := [25]) (by kernel_rfl) (by simp) (AllT.step rfl (fun K hK => ?b16925) AllT.nil)
         case b16925 =>
          (have hs0 := (blk_cell FZ.out 0).trans rfl; have hs1 := (blk_cell FZ.out 1).trans rfl; have hf0 := blk_frozen FZ.out 0; have hf1 := blk_frozen FZ.out 1; go_simp)
          refine hK.out _ _ ?_ ?_
          ·exact past (by kernel_rfl)
          clear hK K
          try simp only [Act.put, List.setIfInBounds_toArray, List.set_cons_zero, List.set_cons_succ]
          refine AnyT.done (by kernel_rfl) ?_ _
          refine NoPanic.normal ?_
          (go_wp2; go_meet)
          (case rel => exact ⟨gz, .slice A27 6 c27, .slice A35 (l0_7.length + 2) c35, rfl, ⟨PE.of (vN' := .slice none 0 0) (vT' := .slice none 0 0) HL.out HB.out FN.out FT.out FZ.out FG.out⟩⟩)
       case b16422 =>
        (refine Kd.R_append_rows_step Kd.string (w0 := w) w.heap.size (by rfl) (.tmp 32) (.tmp 34) 22 9 (.string ⟨#[]⟩) 16 (by rfl) Try.underlying22 info9 rfl (by decide) (by omega) (.slice A32 2 c32) [a0_4, a0_5] l0_7 _ _ _ (fun _ => True) (fun _ => False) (by rfl) (by rfl) FT.out (Kd.C_below HR7.out HB.out) (fun _ _ h => h) (fun _ h => h.elim) (fun _ _ => trivial) HB.out HB.out.size (by simp only [List.length_cons, List.length_nil]; omega) ?_; intro vx w9 ho hb hg hat; (try replace FN := Aside0.mk (Kd.R_over FN.out FT.out (by decide) hg)); (try replace FZ := Aside0.mk (blk_grown FZ.out hg (Kd.R_ne FT.out FZ.out (by decide)))); replace HL := Aside0.mk (blk_grown HL.out hg (Kd.R_ne FT.out HL.out (by decide))); replace HB := Aside0.mk hb; obtain ⟨A35, c35, e9⟩ := Kd.R_slice ho; subst e9; replace FT := Aside0.mk ho; clear ho hb hg hat)
        refine hK.out _ _ ?_ ?_
        ·intro _; exact HL.out
        clear hK K
        try simp only [Act.put, List.setIfInBounds_toArray, List.set_cons_zero, List.set_cons_succ]
        refine AnyT.ready (rs := [14]) (by kernel_rfl) (by simp) (AllT.step rfl (fun K hK => ?b17314) AllT.nil)
        case b17314 =>
         (refine Kd.R_lit_step (Kd.int .i64) (w0 := w) w.heap.size 3 (by rfl) (N := 27) (by rfl) (xs := [a0_0, a0_1, a0_2, a0_3, (oneI a0_6), (l0_7.length : Int)]) (inner := [.int .i64 a0_0, .int .i64 a0_1, .int .i64 a0_2, .int .i64 a0_3, .int .i64 (oneI a0_6), .int .i64 (l0_7.length : Int)]) (ok := fun _ => True) (okp := fun _ => True) ?hr (reps_ints _ _ _ [a0_0, a0_1, a0_2, a0_3, (oneI a0_6), (l0_7.length : Int)]) (fun _ h => h) trivial HB.out HB.out.size (by simp) ?_; (case hr => first | (go_simp; done) | (go_simp; rfl)); intro vx w9 ho hb hg hat; (try replace FN := Aside0.mk (Kd.R_grown FN.out hg (fun _ _ => by simp))); (try replace FT := Aside0.mk (Kd.R_grown FT.out hg (fun _ _ => by simp))); (try replace FZ := Aside0.mk (blk_grown FZ.out hg (by simp))); replace HL := Aside0.mk (blk_grown HL.out hg (by simp)); replace HB := Aside0.mk hb; obtain ⟨A27, c27, e9⟩ := Kd.R_slice ho; subst e9; have FN := Aside0.mk ho; clear ho hb hg hat)
         refine hK.out _ _ ?_ ?_
         ·intro _; exact HL.out
         clear hK K
         try simp only [Act.put, List.setIfInBounds_toArray, List.set_cons_zero, List.set_cons_succ]
         refine AnyT.taken (i := 23) (v := ?v175) rfl (by kernel_rfl) (by kernel_rfl) (by kernel_rfl) (by kernel_rfl) (fun _ _ _ h => h) (Or.inl ⟨by rfl, ?y175⟩) ?s175 ?_
         case y175 =>
          intro wSW hSW
          (obtain ⟨k0, k1, k2, k3, k4, k5, k6, k7⟩ := keep8 hSW; go_simp)
          all_goals with_reducible rfl
         case s175 => exact HL.out
         try simp only [Act.put, List.setIfInBounds_toArray, List.set_cons_zero, List.set_cons_succ]
         refine AnyT.ready (rs := [25]) (by kernel_rfl) (by simp) (AllT.step rfl (fun K hK => ?b17625) AllT.nil)
         case b17625 =>
          (have hs0 := (blk_cell FZ.out 0).trans rfl; have hs1 := (blk_cell FZ.out 1).trans rfl; have hf0 := blk_frozen FZ.out 0; have hf1 := blk_frozen FZ.out 1; go_simp)
          refine hK.out _ _ ?_ ?_
          ·exact past (by kernel_rfl)
          clear hK K
          try simp only [Act.put, List.setIfInBounds_toArray, List.set_cons_zero, List.set_cons_succ]
          refine AnyT.done (by kernel_rfl) ?_ _
          refine NoPanic.normal ?_
          (go_wp2; go_meet)
          (case rel => exact ⟨gz, .slice A27 6 c27, .slice A35 (l0_7.length + 2) c35, rfl, ⟨PE.of (vN' := .slice none 0 0) (vT' := .slice none 0 0) HL.out HB.out FN.out FT.out FZ.out FG.out⟩⟩)
     case b12824 =>
      (refine step_alloc (ob := .cells #[.slice none 0 0, .slice none 0 0] 48) (by rfl) ?hr ?_; (case hr => first | (go_simp; done) | (go_simp; rfl)); intro w9 gz hq hge hb; have FG : Aside0 (w.heap.size ≤ gz) := ⟨Nat.le_trans HB.out.size hge⟩; (try replace FN := Aside0.mk (Kd.R_below FN.out hb)); (try replace FT := Aside0.mk (Kd.R_below FT.out hb)); (try replace FZ := Aside0.mk (blk_below FZ.out hb)); replace HL := Aside0.mk (blk_below HL.out hb); replace HB := Aside0.mk (below_step HB.out hb); have FZ := Aside0.mk hq; clear hq hge hb)
      refine hK.out _ _ ?_ ?_
      ·intro _; exact HL.out
      clear hK K
      try simp only [Act.put, List.setIfInBounds_toArray, List.set_cons_zero, List.set_cons_succ]
      refine AnyT.ready (rs := [10]) (by kernel_rfl) (by simp) (AllT.step rfl (fun K hK => ?b18010) AllT.nil)
      case b18010 =>
       (refine goes_ Try.func20 (by kernel_rfl) rfl #[.bool a0_6] (by rfl) rfl rfl (by (try simp only [List.map_toArray, List.map_cons, List.map_nil]); first | done | rfl) ?_; refine (one_calls a0_6 _).mono ?_; rintro e w9 ⟨rfl, hb⟩; refine ⟨_, rfl, ?_⟩; (try replace FN := Aside0.mk (Kd.R_below FN.out hb)); (try replace FT := Aside0.mk (Kd.R_below FT.out hb)); (try replace FZ := Aside0.mk (blk_below FZ.out hb)); replace HL := Aside0.mk (blk_below HL.out hb); replace HB := Aside0.mk (below_step HB.out hb); clear hb)
       refine hK.out _ _ ?_ ?_
       ·intro _; exact HL.out
       clear hK K
       try simp only [Act.put, List.setIfInBounds_toArray, List.set_cons_zero, List.set_cons_succ]
       refine AnyT.ready (rs := [14, 22]) (by kernel_rfl) (by simp) (AllT.step rfl (fun K hK => ?b18214) (AllT.step rfl (fun K hK => ?b18222) AllT.nil))
       case b18214 =>
        (refine Kd.R_lit_step (Kd.int .i64) (w0 := w) w.heap.size 3 (by rfl) (N := 27) (by rfl) (xs := [a0_0, a0_1, a0_2, a0_3, (oneI a0_6), (l0_7.length : Int)]) (inner := [.int .i64 a0_0, .int .i64 a0_1, .int .i64 a0_2, .int .i64 a0_3, .int .i64 (oneI a0_6), .int .i64 (l0_7.length : Int)]) (ok := fun _ => True) (okp := fun _ => True) ?hr (reps_ints _ _ _ [a0_0, a0_1, a0_2, a0_3, (oneI a0_6), (l0_7.length : Int)]) (fun _ h => h) trivial HB.out HB.out.size (by simp) ?_; (case hr => first | (go_simp; done) | (go_simp; rfl)); intro vx w9 ho hb hg hat; (try replace FN := Aside0.mk (Kd.R_grown FN.out hg (fun _ _ => by simp))); (try replace FT := Aside0.mk (Kd.R_grown FT.out hg (fun _ _ => by simp))); (try replace FZ := Aside0.mk (blk_grown FZ.out hg (by simp))); replace HL := Aside0.mk (blk_grown HL.out hg (by simp)); replace HB := Aside0.mk hb; obtain ⟨A27, c27, e9⟩ := Kd.R_slice ho; subst e9; have FN := Aside0.mk ho; clear ho hb hg hat)
        refine hK.out _ _ ?_ ?_
        ·intro _; exact HL.out
        clear hK K
        try simp only [Act.put, List.setIfInBounds_toArray, List.set_cons_zero, List.set_cons_succ]
        refine AnyT.ready (rs := [22]) (by kernel_rfl) (by simp) (AllT.step rfl (fun K hK => ?b18422) AllT.nil)
        case b18422 =>
         (refine Kd.R_append_rows_step Kd.string (w0 := w) w.heap.size (by rfl) (.tmp 32) (.tmp 34) 22 9 (.string ⟨#[]⟩) 16 (by rfl) Try.underlying22 info9 rfl (by decide) (by omega) (.slice A32 2 c32) [a0_4, a0_5] l0_7 _ _ _ (fun _ => True) (fun _ => False) (by rfl) (by rfl) FT.out (Kd.C_below HR7.out HB.out) (fun _ _ h => h) (fun _ h => h.elim) (fun _ _ => trivial) HB.out HB.out.size (by simp only [List.length_cons, List.length_nil]; omega) ?_; intro vx w9 ho hb hg hat; (try replace FN := Aside0.mk (Kd.R_over FN.out FT.out (by decide) hg)); (try replace FZ := Aside0.mk (blk_grown FZ.out hg (Kd.R_ne FT.out FZ.out (by decide)))); replace HL := Aside0.mk (blk_grown HL.out hg (Kd.R_ne FT.out HL.out (by decide))); replace HB := Aside0.mk hb; obtain ⟨A35, c35, e9⟩ := Kd.R_slice ho; subst e9; replace FT := Aside0.mk ho; clear ho hb hg hat)
         refine hK.out _ _ ?_ ?_
         ·intro _; exact HL.out
         clear hK K
         try simp only [Act.put, List.setIfInBounds_toArray, List.set_cons_zero, List.set_cons_succ]
         refine AnyT.taken (i := 23) (v := ?v186) rfl (by kernel_rfl) (by kernel_rfl) (by kernel_rfl) (by kernel_rfl) (fun _ _ _ h => h) (Or.inl ⟨by rfl, ?y186⟩) ?s186 ?_
         case y186 =>
          intro wSW hSW
          (obtain ⟨k0, k1, k2, k3, k4, k5, k6, k7⟩ := keep8 hSW; go_simp)
          all_goals with_reducible rfl
         case s186 => exact HL.out
         try simp only [Act.put, List.setIfInBounds_toArray, List.set_cons_zero, List.set_cons_succ]
         refine AnyT.ready (rs := [25]) (by kernel_rfl) (by simp) (AllT.step rfl (fun K hK => ?b18725) AllT.nil)
         case b18725 =>
          (have hs0 := (blk_cell FZ.out 0).trans rfl; have hs1 := (blk_cell FZ.out 1).trans rfl; have hf0 := blk_frozen FZ.out 0; have hf1 := blk_frozen FZ.out 1; go_simp)
          refine hK.out _ _ ?_ ?_
          ·exact past (by kernel_rfl)
          clear hK K
          try simp only [Act.put, List.setIfInBounds_toArray, List.set_cons_zero, List.set_cons_succ]
          refine AnyT.done (by kernel_rfl) ?_ _
          refine NoPanic.normal ?_
          (go_wp2; go_meet)
          (case rel => exact ⟨gz, .slice A27 6 c27, .slice A35 (l0_7.length + 2) c35, rfl, ⟨PE.of (vN' := .slice none 0 0) (vT' := .slice none 0 0) HL.out HB.out FN.out FT.out FZ.out FG.out⟩⟩)
       case b18222 =>
        (refine Kd.R_append_rows_step Kd.string (w0 := w) w.heap.size (by rfl) (.tmp 32) (.tmp 34) 22 9 (.string ⟨#[]⟩) 16 (by rfl) Try.underlying22 info9 rfl (by decide) (by omega) (.slice A32 2 c32) [a0_4, a0_5] l0_7 _ _ _ (fun _ => True) (fun _ => False) (by rfl) (by rfl) FT.out (Kd.C_below HR7.out HB.out) (fun _ _ h => h) (fun _ h => h.elim) (fun _ _ => trivial) HB.out HB.out.size (by simp only [List.length_cons, List.length_nil]; omega) ?_; intro vx w9 ho hb hg hat; (try replace FN := Aside0.mk (Kd.R_over FN.out FT.out (by decide) hg)); (try replace FZ := Aside0.mk (blk_grown FZ.out hg (Kd.R_ne FT.out FZ.out (by decide)))); replace HL := Aside0.mk (blk_grown HL.out hg (Kd.R_ne FT.out HL.out (by decide))); replace HB := Aside0.mk hb; obtain ⟨A35, c35, e9⟩ := Kd.R_slice ho; subst e9; replace FT := Aside0.mk ho; clear ho hb hg hat)
        refine hK.out _ _ ?_ ?_
        ·intro _; exact HL.out
        clear hK K
        try simp only [Act.put, List.setIfInBounds_toArray, List.set_cons_zero, List.set_cons_succ]
        refine AnyT.ready (rs := [14]) (by kernel_rfl) (by simp) (AllT.step rfl (fun K hK => ?b19114) AllT.nil)
        case b19114 =>
         (refine Kd.R_lit_step (Kd.int .i64) (w0 := w) w.heap.size 3 (by rfl) (N := 27) (by rfl) (xs := [a0_0, a0_1, a0_2, a0_3, (oneI a0_6), (l0_7.length : Int)]) (inner := [.int .i64 a0_0, .int .i64 a0_1, .int .i64 a0_2, .int .i64 a0_3, .int .i64 (oneI a0_6), .int .i64 (l0_7.length : Int)]) (ok := fun _ => True) (okp := fun _ => True) ?hr (reps_ints _ _ _ [a0_0, a0_1, a0_2, a0_3, (oneI a0_6), (l0_7.length : Int)]) (fun _ h => h) trivial HB.out HB.out.size (by simp) ?_; (case hr => first | (go_simp; done) | (go_simp; rfl)); intro vx w9 ho hb hg hat; (try replace FN := Aside0.mk (Kd.R_grown FN.out hg (fun _ _ => by simp))); (try replace FT := Aside0.mk (Kd.R_grown FT.out hg (fun _ _ => by simp))); (try replace FZ := Aside0.mk (blk_grown FZ.out hg (by simp))); replace HL := Aside0.mk (blk_grown HL.out hg (by simp)); replace HB := Aside0.mk hb; obtain ⟨A27, c27, e9⟩ := Kd.R_slice ho; subst e9; have FN := Aside0.mk ho; clear ho hb hg hat)
         refine hK.out _ _ ?_ ?_
         ·intro _; exact HL.out
         clear hK K
         try simp only [Act.put, List.setIfInBounds_toArray, List.set_cons_zero, List.set_cons_succ]
         refine AnyT.taken (i := 23) (v := ?v193) rfl (by kernel_rfl) (by kernel_rfl) (by kernel_rfl) (by kernel_rfl) (fun _ _ _ h => h) (Or.inl ⟨by rfl, ?y193⟩) ?s193 ?_
         case y193 =>
          intro wSW hSW
          (obtain ⟨k0, k1, k2, k3, k4, k5, k6, k7⟩ := keep8 hSW; go_simp)
          all_goals with_reducible rfl
         case s193 => exact HL.out
         try simp only [Act.put, List.setIfInBounds_toArray, List.set_cons_zero, List.set_cons_succ]
         refine AnyT.ready (rs := [25]) (by kernel_rfl) (by simp) (AllT.step rfl (fun K hK => ?b19425) AllT.nil)
         case b19425 =>
          (have hs0 := (blk_cell FZ.out 0).trans rfl; have hs1 := (blk_cell FZ.out 1).trans rfl; have hf0 := blk_frozen FZ.out 0; have hf1 := blk_frozen FZ.out 1; go_simp)
          refine hK.out _ _ ?_ ?_
          ·exact past (by kernel_rfl)
          clear hK K
          try simp only [Act.put, List.setIfInBounds_toArray, List.set_cons_zero, List.set_cons_succ]
          refine AnyT.done (by kernel_rfl) ?_ _
          refine NoPanic.normal ?_
          (go_wp2; go_meet)
          (case rel => exact ⟨gz, .slice A27 6 c27, .slice A35 (l0_7.length + 2) c35, rfl, ⟨PE.of (vN' := .slice none 0 0) (vT' := .slice none 0 0) HL.out HB.out FN.out FT.out FZ.out FG.out⟩⟩)
    case b2024 =>
     (refine step_alloc (ob := .cells #[.slice none 0 0, .slice none 0 0] 48) (by rfl) ?hr ?_; (case hr => first | (go_simp; done) | (go_simp; rfl)); intro w9 gz hq hge hb; have FG : Aside0 (w.heap.size ≤ gz) := ⟨Nat.le_trans HB.out.size hge⟩; (try replace FN := Aside0.mk (Kd.R_below FN.out hb)); (try replace FT := Aside0.mk (Kd.R_below FT.out hb)); (try replace FZ := Aside0.mk (blk_below FZ.out hb)); replace HL := Aside0.mk (blk_below HL.out hb); replace HB := Aside0.mk (below_step HB.out hb); have FZ := Aside0.mk hq; clear hq hge hb)
     refine hK.out _ _ ?_ ?_
     ·intro _; exact HL.out
     clear hK K
     try simp only [Act.put, List.setIfInBounds_toArray, List.set_cons_zero, List.set_cons_succ]
     refine AnyT.ready (rs := [10, 19]) (by kernel_rfl) (by simp) (AllT.step rfl (fun K hK => ?b19810) (AllT.step rfl (fun K hK => ?b19819) AllT.nil))
     case b19810 =>
      (refine goes_ Try.func20 (by kernel_rfl) rfl #[.bool a0_6] (by rfl) rfl rfl (by (try simp only [List.map_toArray, List.map_cons, List.map_nil]); first | done | rfl) ?_; refine (one_calls a0_6 _).mono ?_; rintro e w9 ⟨rfl, hb⟩; refine ⟨_, rfl, ?_⟩; (try replace FN := Aside0.mk (Kd.R_below FN.out hb)); (try replace FT := Aside0.mk (Kd.R_below FT.out hb)); (try replace FZ := Aside0.mk (blk_below FZ.out hb)); replace HL := Aside0.mk (blk_below HL.out hb); replace HB := Aside0.mk (below_step HB.out hb); clear hb)
      refine hK.out _ _ ?_ ?_
      ·intro _; exact HL.out
      clear hK K
      try simp only [Act.put, List.setIfInBounds_toArray, List.set_cons_zero, List.set_cons_succ]
      refine AnyT.ready (rs := [14, 19]) (by kernel_rfl) (by simp) (AllT.step rfl (fun K hK => ?b20014) (AllT.step rfl (fun K hK => ?b20019) AllT.nil))
      case b20014 =>
       (refine Kd.R_lit_step (Kd.int .i64) (w0 := w) w.heap.size 3 (by rfl) (N := 27) (by rfl) (xs := [a0_0, a0_1, a0_2, a0_3, (oneI a0_6), (l0_7.length : Int)]) (inner := [.int .i64 a0_0, .int .i64 a0_1, .int .i64 a0_2, .int .i64 a0_3, .int .i64 (oneI a0_6), .int .i64 (l0_7.length : Int)]) (ok := fun _ => True) (okp := fun _ => True) ?hr (reps_ints _ _ _ [a0_0, a0_1, a0_2, a0_3, (oneI a0_6), (l0_7.length : Int)]) (fun _ h => h) trivial HB.out HB.out.size (by simp) ?_; (case hr => first | (go_simp; done) | (go_simp; rfl)); intro vx w9 ho hb hg hat; (try replace FN := Aside0.mk (Kd.R_grown FN.out hg (fun _ _ => by simp))); (try replace FT := Aside0.mk (Kd.R_grown FT.out hg (fun _ _ => by simp))); (try replace FZ := Aside0.mk (blk_grown FZ.out hg (by simp))); replace HL := Aside0.mk (blk_grown HL.out hg (by simp)); replace HB := Aside0.mk hb; obtain ⟨A27, c27, e9⟩ := Kd.R_slice ho; subst e9; have FN := Aside0.mk ho; clear ho hb hg hat)
       refine hK.out _ _ ?_ ?_
       ·intro _; exact HL.out
       clear hK K
       try simp only [Act.put, List.setIfInBounds_toArray, List.set_cons_zero, List.set_cons_succ]
       refine AnyT.ready (rs := [19]) (by kernel_rfl) (by simp) (AllT.step rfl (fun K hK => ?b20219) AllT.nil)
       case b20219 =>
        (refine Kd.R_lit_step Kd.string (w0 := w) w.heap.size 9 (by rfl) (N := 32) (by rfl) (xs := [a0_4, a0_5]) (inner := [.string a0_4, .string a0_5]) (ok := fun _ => True) (okp := fun _ => True) ?hr (reps_texts _ _ _ [a0_4, a0_5]) (fun _ h => h) trivial HB.out HB.out.size (by simp) ?_; (case hr => first | (go_simp; done) | (go_simp; rfl)); intro vx w9 ho hb hg hat; (try replace FN := Aside0.mk (Kd.R_grown FN.out hg (fun _ _ => by simp))); (try replace FT := Aside0.mk (Kd.R_grown FT.out hg (fun _ _ => by simp))); (try replace FZ := Aside0.mk (blk_grown FZ.out hg (by simp))); replace HL := Aside0.mk (blk_grown HL.out hg (by simp)); replace HB := Aside0.mk hb; obtain ⟨A32, c32, e9⟩ := Kd.R_slice ho; subst e9; have FT := Aside0.mk ho; clear ho hb hg hat)
        refine hK.out _ _ ?_ ?_
        ·intro _; exact HL.out
        clear hK K
        try simp only [Act.put, List.setIfInBounds_toArray, List.set_cons_zero, List.set_cons_succ]
        refine AnyT.ready (rs := [22]) (by kernel_rfl) (by simp) (AllT.step rfl (fun K hK => ?b20422) AllT.nil)
        case b20422 =>
         (refine Kd.R_append_rows_step Kd.string (w0 := w) w.heap.size (by rfl) (.tmp 32) (.tmp 34) 22 9 (.string ⟨#[]⟩) 16 (by rfl) Try.underlying22 info9 rfl (by decide) (by omega) (.slice A32 2 c32) [a0_4, a0_5] l0_7 _ _ _ (fun _ => True) (fun _ => False) (by rfl) (by rfl) FT.out (Kd.C_below HR7.out HB.out) (fun _ _ h => h) (fun _ h => h.elim) (fun _ _ => trivial) HB.out HB.out.size (by simp only [List.length_cons, List.length_nil]; omega) ?_; intro vx w9 ho hb hg hat; (try replace FN := Aside0.mk (Kd.R_over FN.out FT.out (by decide) hg)); (try replace FZ := Aside0.mk (blk_grown FZ.out hg (Kd.R_ne FT.out FZ.out (by decide)))); replace HL := Aside0.mk (blk_grown HL.out hg (Kd.R_ne FT.out HL.out (by decide))); replace HB := Aside0.mk hb; obtain ⟨A35, c35, e9⟩ := Kd.R_slice ho; subst e9; replace FT := Aside0.mk ho; clear ho hb hg hat)
         refine hK.out _ _ ?_ ?_
         ·intro _; exact HL.out
         clear hK K
         try simp only [Act.put, List.setIfInBounds_toArray, List.set_cons_zero, List.set_cons_succ]
         refine AnyT.taken (i := 23) (v := ?v206) rfl (by kernel_rfl) (by kernel_rfl) (by kernel_rfl) (by kernel_rfl) (fun _ _ _ h => h) (Or.inl ⟨by rfl, ?y206⟩) ?s206 ?_
         case y206 =>
          intro wSW hSW
          (obtain ⟨k0, k1, k2, k3, k4, k5, k6, k7⟩ := keep8 hSW; go_simp)
          all_goals with_reducible rfl
         case s206 => exact HL.out
         try simp only [Act.put, List.setIfInBounds_toArray, List.set_cons_zero, List.set_cons_succ]
         refine AnyT.ready (rs := [25]) (by kernel_rfl) (by simp) (AllT.step rfl (fun K hK => ?b20725) AllT.nil)
         case b20725 =>
          (have hs0 := (blk_cell FZ.out 0).trans rfl; have hs1 := (blk_cell FZ.out 1).trans rfl; have hf0 := blk_frozen FZ.out 0; have hf1 := blk_frozen FZ.out 1; go_simp)
          refine hK.out _ _ ?_ ?_
          ·exact past (by kernel_rfl)
          clear hK K
          try simp only [Act.put, List.setIfInBounds_toArray, List.set_cons_zero, List.set_cons_succ]
          refine AnyT.done (by kernel_rfl) ?_ _
          refine NoPanic.normal ?_
          (go_wp2; go_meet)
          (case rel => exact ⟨gz, .slice A27 6 c27, .slice A35 (l0_7.length + 2) c35, rfl, ⟨PE.of (vN' := .slice none 0 0) (vT' := .slice none 0 0) HL.out HB.out FN.out FT.out FZ.out FG.out⟩⟩)
      case b20019 =>
       (refine Kd.R_lit_step Kd.string (w0 := w) w.heap.size 9 (by rfl) (N := 32) (by rfl) (xs := [a0_4, a0_5]) (inner := [.string a0_4, .string a0_5]) (ok := fun _ => True) (okp := fun _ => True) ?hr (reps_texts _ _ _ [a0_4, a0_5]) (fun _ h => h) trivial HB.out HB.out.size (by simp) ?_; (case hr => first | (go_simp; done) | (go_simp; rfl)); intro vx w9 ho hb hg hat; (try replace FN := Aside0.mk (Kd.R_grown FN.out hg (fun _ _ => by simp))); (try replace FT := Aside0.mk (Kd.R_grown FT.out hg (fun _ _ => by simp))); (try replace FZ := Aside0.mk (blk_grown FZ.out hg (by simp))); replace HL := Aside0.mk (blk_grown HL.out hg (by simp)); replace HB := Aside0.mk hb; obtain ⟨A32, c32, e9⟩ := Kd.R_slice ho; subst e9; have FT := Aside0.mk ho; clear ho hb hg hat)
       refine hK.out _ _ ?_ ?_
       ·intro _; exact HL.out
       clear hK K
       try simp only [Act.put, List.setIfInBounds_toArray, List.set_cons_zero, List.set_cons_succ]
       refine AnyT.ready (rs := [14, 22]) (by kernel_rfl) (by simp) (AllT.step rfl (fun K hK => ?b21114) (AllT.step rfl (fun K hK => ?b21122) AllT.nil))
       case b21114 =>
        (refine Kd.R_lit_step (Kd.int .i64) (w0 := w) w.heap.size 3 (by rfl) (N := 27) (by rfl) (xs := [a0_0, a0_1, a0_2, a0_3, (oneI a0_6), (l0_7.length : Int)]) (inner := [.int .i64 a0_0, .int .i64 a0_1, .int .i64 a0_2, .int .i64 a0_3, .int .i64 (oneI a0_6), .int .i64 (l0_7.length : Int)]) (ok := fun _ => True) (okp := fun _ => True) ?hr (reps_ints _ _ _ [a0_0, a0_1, a0_2, a0_3, (oneI a0_6), (l0_7.length : Int)]) (fun _ h => h) trivial HB.out HB.out.size (by simp) ?_; (case hr => first | (go_simp; done) | (go_simp; rfl)); intro vx w9 ho hb hg hat; (try replace FN := Aside0.mk (Kd.R_grown FN.out hg (fun _ _ => by simp))); (try replace FT := Aside0.mk (Kd.R_grown FT.out hg (fun _ _ => by simp))); (try replace FZ := Aside0.mk (blk_grown FZ.out hg (by simp))); replace HL := Aside0.mk (blk_grown HL.out hg (by simp)); replace HB := Aside0.mk hb; obtain ⟨A27, c27, e9⟩ := Kd.R_slice ho; subst e9; have FN := Aside0.mk ho; clear ho hb hg hat)
        refine hK.out _ _ ?_ ?_
        ·intro _; exact HL.out
        clear hK K
        try simp only [Act.put, List.setIfInBounds_toArray, List.set_cons_zero, List.set_cons_succ]
        refine AnyT.ready (rs := [22]) (by kernel_rfl) (by simp) (AllT.step rfl (fun K hK => ?b21322) AllT.nil)
        case b21322 =>
         (refine Kd.R_append_rows_step Kd.string (w0 := w) w.heap.size (by rfl) (.tmp 32) (.tmp 34) 22 9 (.string ⟨#[]⟩) 16 (by rfl) Try.underlying22 info9 rfl (by decide) (by omega) (.slice A32 2 c32) [a0_4, a0_5] l0_7 _ _ _ (fun _ => True) (fun _ => False) (by rfl) (by rfl) FT.out (Kd.C_below HR7.out HB.out) (fun _ _ h => h) (fun _ h => h.elim) (fun _ _ => trivial) HB.out HB.out.size (by simp only [List.length_cons, List.length_nil]; omega) ?_; intro vx w9 ho hb hg hat; (try replace FN := Aside0.mk (Kd.R_over FN.out FT.out (by decide) hg)); (try replace FZ := Aside0.mk (blk_grown FZ.out hg (Kd.R_ne FT.out FZ.out (by decide)))); replace HL := Aside0.mk (blk_grown HL.out hg (Kd.R_ne FT.out HL.out (by decide))); replace HB := Aside0.mk hb; obtain ⟨A35, c35, e9⟩ := Kd.R_slice ho; subst e9; replace FT := Aside0.mk ho; clear ho hb hg hat)
         refine hK.out _ _ ?_ ?_
         ·intro _; exact HL.out
         clear hK K
         try simp only [Act.put, List.setIfInBounds_toArray, List.set_cons_zero, List.set_cons_succ]
         refine AnyT.taken (i := 23) (v := ?v215) rfl (by kernel_rfl) (by kernel_rfl) (by kernel_rfl) (by kernel_rfl) (fun _ _ _ h => h) (Or.inl ⟨by rfl, ?y215⟩) ?s215 ?_
         case y215 =>
          intro wSW hSW
          (obtain ⟨k0, k1, k2, k3, k4, k5, k6, k7⟩ := keep8 hSW; go_simp)
          all_goals with_reducible rfl
         case s215 => exact HL.out
         try simp only [Act.put, List.setIfInBounds_toArray, List.set_cons_zero, List.set_cons_succ]
         refine AnyT.ready (rs := [25]) (by kernel_rfl) (by simp) (AllT.step rfl (fun K hK => ?b21625) AllT.nil)
         case b21625 =>
          (have hs0 := (blk_cell FZ.out 0).trans rfl; have hs1 := (blk_cell FZ.out 1).trans rfl; have hf0 := blk_frozen FZ.out 0; have hf1 := blk_frozen FZ.out 1; go_simp)
          refine hK.out _ _ ?_ ?_
          ·exact past (by kernel_rfl)
          clear hK K
          try simp only [Act.put, List.setIfInBounds_toArray, List.set_cons_zero, List.set_cons_succ]
          refine AnyT.done (by kernel_rfl) ?_ _
          refine NoPanic.normal ?_
          (go_wp2; go_meet)
          (case rel => exact ⟨gz, .slice A27 6 c27, .slice A35 (l0_7.length + 2) c35, rfl, ⟨PE.of (vN' := .slice none 0 0) (vT' := .slice none 0 0) HL.out HB.out FN.out FT.out FZ.out FG.out⟩⟩)
       case b21122 =>
        (refine Kd.R_append_rows_step Kd.string (w0 := w) w.heap.size (by rfl) (.tmp 32) (.tmp 34) 22 9 (.string ⟨#[]⟩) 16 (by rfl) Try.underlying22 info9 rfl (by decide) (by omega) (.slice A32 2 c32) [a0_4, a0_5] l0_7 _ _ _ (fun _ => True) (fun _ => False) (by rfl) (by rfl) FT.out (Kd.C_below HR7.out HB.out) (fun _ _ h => h) (fun _ h => h.elim) (fun _ _ => trivial) HB.out HB.out.size (by simp only [List.length_cons, List.length_nil]; omega) ?_; intro vx w9 ho hb hg hat; (try replace FN := Aside0.mk (Kd.R_over FN.out FT.out (by decide) hg)); (try replace FZ := Aside0.mk (blk_grown FZ.out hg (Kd.R_ne FT.out FZ.out (by decide)))); replace HL := Aside0.mk (blk_grown HL.out hg (Kd.R_ne FT.out HL.out (by decide))); replace HB := Aside0.mk hb; obtain ⟨A35, c35, e9⟩ := Kd.R_slice ho; subst e9; replace FT := Aside0.mk ho; clear ho hb hg hat)
        refine hK.out _ _ ?_ ?_
        ·intro _; exact HL.out
        clear hK K
        try simp only [Act.put, List.setIfInBounds_toArray, List.set_cons_zero, List.set_cons_succ]
        refine AnyT.ready (rs := [14]) (by kernel_rfl) (by simp) (AllT.step rfl (fun K hK => ?b22014) AllT.nil)
        case b22014 =>
         (refine Kd.R_lit_step (Kd.int .i64) (w0 := w) w.heap.size 3 (by rfl) (N := 27) (by rfl) (xs := [a0_0, a0_1, a0_2, a0_3, (oneI a0_6), (l0_7.length : Int)]) (inner := [.int .i64 a0_0, .int .i64 a0_1, .int .i64 a0_2, .int .i64 a0_3, .int .i64 (oneI a0_6), .int .i64 (l0_7.length : Int)]) (ok := fun _ => True) (okp := fun _ => True) ?hr (reps_ints _ _ _ [a0_0, a0_1, a0_2, a0_3, (oneI a0_6), (l0_7.length : Int)]) (fun _ h => h) trivial HB.out HB.out.size (by simp) ?_; (case hr => first | (go_simp; done) | (go_simp; rfl)); intro vx w9 ho hb hg hat; (try replace FN := Aside0.mk (Kd.R_grown FN.out hg (fun _ _ => by simp))); (try replace FT := Aside0.mk (Kd.R_grown FT.out hg (fun _ _ => by simp))); (try replace FZ := Aside0.mk (blk_grown FZ.out hg (by simp))); replace HL := Aside0.mk (blk_grown HL.out hg (by simp)); replace HB := Aside0.mk hb; obtain ⟨A27, c27, e9⟩ := Kd.R_slice ho; subst e9; have FN := Aside0.mk ho; clear ho hb hg hat)
         refine hK.out _ _ ?_ ?_
         ·intro _; exact HL.out
         clear hK K
         try simp only [Act.put, List.setIfInBounds_toArray, List.set_cons_zero, List.set_cons_succ]
         refine AnyT.taken (i := 23) (v := ?v222) rfl (by kernel_rfl) (by kernel_rfl) (by kernel_rfl) (by kernel_rfl) (fun _ _ _ h => h) (Or.inl ⟨by rfl, ?y222⟩) ?s222 ?_
         case y222 =>
          intro wSW hSW
          (obtain ⟨k0, k1, k2, k3, k4, k5, k6, k7⟩ := keep8 hSW; go_simp)
          all_goals with_reducible rfl
         case s222 => exact HL.out
         try simp only [Act.put, List.setIfInBounds_toArray, List.set_cons_zero, List.set_cons_succ]
         refine AnyT.ready (rs := [25]) (by kernel_rfl) (by simp) (AllT.step rfl (fun K hK => ?b22325) AllT.nil)
         case b22325 =>
          (have hs0 := (blk_cell FZ.out 0).trans rfl; have hs1 := (blk_cell FZ.out 1).trans rfl; have hf0 := blk_frozen FZ.out 0; have hf1 := blk_frozen FZ.out 1; go_simp)
          refine hK.out _ _ ?_ ?_
          ·exact past (by kernel_rfl)
          clear hK K
          try simp only [Act.put, List.setIfInBounds_toArray, List.set_cons_zero, List.set_cons_succ]
          refine AnyT.done (by kernel_rfl) ?_ _
          refine NoPanic.normal ?_
          (go_wp2; go_meet)
          (case rel => exact ⟨gz, .slice A27 6 c27, .slice A35 (l0_7.length + 2) c35, rfl, ⟨PE.of (vN' := .slice none 0 0) (vT' := .slice none 0 0) HL.out HB.out FN.out FT.out FZ.out FG.out⟩⟩)
     case b19819 =>
      (refine Kd.R_lit_step Kd.string (w0 := w) w.heap.size 9 (by rfl) (N := 32) (by rfl) (xs := [a0_4, a0_5]) (inner := [.string a0_4, .string a0_5]) (ok := fun _ => True) (okp := fun _ => True) ?hr (reps_texts _ _ _ [a0_4, a0_5]) (fun _ h => h) trivial HB.out HB.out.size (by simp) ?_; (case hr => first | (go_simp; done) | (go_simp; rfl)); intro vx w9 ho hb hg hat; (try replace FN := Aside0.mk (Kd.R_grown FN.out hg (fun _ _ => by simp))); (try replace FT := Aside0.mk (Kd.R_grown FT.out hg (fun _ _ => by simp))); (try replace FZ := Aside0.mk (blk_grown FZ.out hg (by simp))); replace HL := Aside0.mk (blk_grown HL.out hg (by simp)); replace HB := Aside0.mk hb; obtain ⟨A32, c32, e9⟩ := Kd.R_slice ho; subst e9; have FT := Aside0.mk ho; clear ho hb hg hat)
      refine hK.out _ _ ?_ ?_
      ·intro _; exact HL.out
      clear hK K
      try simp only [Act.put, List.setIfInBounds_toArray, List.set_cons_zero, List.set_cons_succ]
      refine AnyT.ready (rs := [10]) (by kernel_rfl) (by simp) (AllT.step rfl (fun K hK => ?b22710) AllT.nil)
      case b22710 =>
       (refine goes_ Try.func20 (by kernel_rfl) rfl #[.bool a0_6] (by rfl) rfl rfl (by (try simp only [List.map_toArray, List.map_cons, List.map_nil]); first | done | rfl) ?_; refine (one_calls a0_6 _).mono ?_; rintro e w9 ⟨rfl, hb⟩; refine ⟨_, rfl, ?_⟩; (try replace FN := Aside0.mk (Kd.R_below FN.out hb)); (try replace FT := Aside0.mk (Kd.R_below FT.out hb)); (try replace FZ := Aside0.mk (blk_below FZ.out hb)); replace HL := Aside0.mk (blk_below HL.out hb); replace HB := Aside0.mk (below_step HB.out hb); clear hb)
       refine hK.out _ _ ?_ ?_
       ·intro _; exact HL.out
       clear hK K
       try simp only [Act.put, List.setIfInBounds_toArray, List.set_cons_zero, List.set_cons_succ]
       refine AnyT.ready (rs := [14, 22]) (by kernel_rfl) (by simp) (AllT.step rfl (fun K hK => ?b22914) (AllT.step rfl (fun K hK => ?b22922) AllT.nil))
       case b22914 =>
        (refine Kd.R_lit_step (Kd.int .i64) (w0 := w) w.heap.size 3 (by rfl) (N := 27) (by rfl) (xs := [a0_0, a0_1, a0_2, a0_3, (oneI a0_6), (l0_7.length : Int)]) (inner := [.int .i64 a0_0, .int .i64 a0_1, .int .i64 a0_2, .int .i64 a0_3, .int .i64 (oneI a0_6), .int .i64 (l0_7.length : Int)]) (ok := fun _ => True) (okp := fun _ => True) ?hr (reps_ints _ _ _ [a0_0, a0_1, a0_2, a0_3, (oneI a0_6), (l0_7.length : Int)]) (fun _ h => h) trivial HB.out HB.out.size (by simp) ?_; (case hr => first | (go_simp; done) | (go_simp; rfl)); intro vx w9 ho hb hg hat; (try replace FN := Aside0.mk (Kd.R_grown FN.out hg (fun _ _ => by simp))); (try replace FT := Aside0.mk (Kd.R_grown FT.out hg (fun _ _ => by simp))); (try replace FZ := Aside0.mk (blk_grown FZ.out hg (by simp))); replace HL := Aside0.mk (blk_grown HL.out hg (by simp)); replace HB := Aside0.mk hb; obtain ⟨A27, c27, e9⟩ := Kd.R_slice ho; subst e9; have FN := Aside0.mk ho; clear ho hb hg hat)
        refine hK.out _ _ ?_ ?_
        ·intro _; exact HL.out
        clear hK K
        try simp only [Act.put, List.setIfInBounds_toArray, List.set_cons_zero, List.set_cons_succ]
        refine AnyT.ready (rs := [22]) (by kernel_rfl) (by simp) (AllT.step rfl (fun K hK => ?b23122) AllT.nil)
        case b23122 =>
         (refine Kd.R_append_rows_step Kd.string (w0 := w) w.heap.size (by rfl) (.tmp 32) (.tmp 34) 22 9 (.string ⟨#[]⟩) 16 (by rfl) Try.underlying22 info9 rfl (by decide) (by omega) (.slice A32 2 c32) [a0_4, a0_5] l0_7 _ _ _ (fun _ => True) (fun _ => False) (by rfl) (by rfl) FT.out (Kd.C_below HR7.out HB.out) (fun _ _ h => h) (fun _ h => h.elim) (fun _ _ => trivial) HB.out HB.out.size (by simp only [List.length_cons, List.length_nil]; omega) ?_; intro vx w9 ho hb hg hat; (try replace FN := Aside0.mk (Kd.R_over FN.out FT.out (by decide) hg)); (try replace FZ := Aside0.mk (blk_grown FZ.out hg (Kd.R_ne FT.out FZ.out (by decide)))); replace HL := Aside0.mk (blk_grown HL.out hg (Kd.R_ne FT.out HL.out (by decide))); replace HB := Aside0.mk hb; obtain ⟨A35, c35, e9⟩ := Kd.R_slice ho; subst e9; replace FT := Aside0.mk ho; clear ho hb hg hat)
         refine hK.out _ _ ?_ ?_
         ·intro _; exact HL.out
         clear hK K
         try simp only [Act.put, List.setIfInBounds_toArray, List.set_cons_zero, List.set_cons_succ]
         refine AnyT.taken (i := 23) (v := ?v233) rfl (by kernel_rfl) (by kernel_rfl) (by kernel_rfl) (by kernel_rfl) (fun _ _ _ h => h) (Or.inl ⟨by rfl, ?y233⟩) ?s233 ?_
         case y233 =>
          intro wSW hSW
          (obtain ⟨k0, k1, k2, k3, k4, k5, k6, k7⟩ := keep8 hSW; go_simp)
          all_goals with_reducible rfl
         case s233 => exact HL.out
         try simp only [Act.put, List.setIfInBounds_toArray, List.set_cons_zero, List.set_cons_succ]
         refine AnyT.ready (rs := [25]) (by kernel_rfl) (by simp) (AllT.step rfl (fun K hK => ?b23425) AllT.nil)
         case b23425 =>
          (have hs0 := (blk_cell FZ.out 0).trans rfl; have hs1 := (blk_cell FZ.out 1).trans rfl; have hf0 := blk_frozen FZ.out 0; have hf1 := blk_frozen FZ.out 1; go_simp)
          refine hK.out _ _ ?_ ?_
          ·exact past (by kernel_rfl)
          clear hK K
          try simp only [Act.put, List.setIfInBounds_toArray, List.set_cons_zero, List.set_cons_succ]
          refine AnyT.done (by kernel_rfl) ?_ _
          refine NoPanic.normal ?_
          (go_wp2; go_meet)
          (case rel => exact ⟨gz, .slice A27 6 c27, .slice A35 (l0_7.length + 2) c35, rfl, ⟨PE.of (vN' := .slice none 0 0) (vT' := .slice none 0 0) HL.out HB.out FN.out FT.out FZ.out FG.out⟩⟩)
       case b22922 =>
        (refine Kd.R_append_rows_step Kd.string (w0 := w) w.heap.size (by rfl) (.tmp 32) (.tmp 34) 22 9 (.string ⟨#[]⟩) 16 (by rfl) Try.underlying22 info9 rfl (by decide) (by omega) (.slice A32 2 c32) [a0_4, a0_5] l0_7 _ _ _ (fun _ => True) (fun _ => False) (by rfl) (by rfl) FT.out (Kd.C_below HR7.out HB.out) (fun _ _ h => h) (fun _ h => h.elim) (fun _ _ => trivial) HB.out HB.out.size (by simp only [List.length_cons, List.length_nil]; omega) ?_; intro vx w9 ho hb hg hat; (try replace FN := Aside0.mk (Kd.R_over FN.out FT.out (by decide) hg)); (try replace FZ := Aside0.mk (blk_grown FZ.out hg (Kd.R_ne FT.out FZ.out (by decide)))); replace HL := Aside0.mk (blk_grown HL.out hg (Kd.R_ne FT.out HL.out (by decide))); replace HB := Aside0.mk hb; obtain ⟨A35, c35, e9⟩ := Kd.R_slice ho; subst e9; replace FT := Aside0.mk ho; clear ho hb hg hat)
        refine hK.out _ _ ?_ ?_
        ·intro _; exact HL.out
        clear hK K
        try simp only [Act.put, List.setIfInBounds_toArray, List.set_cons_zero, List.set_cons_succ]
        refine AnyT.ready (rs := [14]) (by kernel_rfl) (by simp) (AllT.step rfl (fun K hK => ?b23814) AllT.nil)
        case b23814 =>
         (refine Kd.R_lit_step (Kd.int .i64) (w0 := w) w.heap.size 3 (by rfl) (N := 27) (by rfl) (xs := [a0_0, a0_1, a0_2, a0_3, (oneI a0_6), (l0_7.length : Int)]) (inner := [.int .i64 a0_0, .int .i64 a0_1, .int .i64 a0_2, .int .i64 a0_3, .int .i64 (oneI a0_6), .int .i64 (l0_7.length : Int)]) (ok := fun _ => True) (okp := fun _ => True) ?hr (reps_ints _ _ _ [a0_0, a0_1, a0_2, a0_3, (oneI a0_6), (l0_7.length : Int)]) (fun _ h => h) trivial HB.out HB.out.size (by simp) ?_; (case hr => first | (go_simp; done) | (go_simp; rfl)); intro vx w9 ho hb hg hat; (try replace FN := Aside0.mk (Kd.R_grown FN.out hg (fun _ _ => by simp))); (try replace FT := Aside0.mk (Kd.R_grown FT.out hg (fun _ _ => by simp))); (try replace FZ := Aside0.mk (blk_grown FZ.out hg (by simp))); replace HL := Aside0.mk (blk_grown HL.out hg (by simp)); replace HB := Aside0.mk hb; obtain ⟨A27, c27, e9⟩ := Kd.R_slice ho; subst e9; have FN := Aside0.mk ho; clear ho hb hg hat)
         refine hK.out _ _ ?_ ?_
         ·intro _; exact HL.out
         clear hK K
         try simp only [Act.put, List.setIfInBounds_toArray, List.set_cons_zero, List.set_cons_succ]
         refine AnyT.taken (i := 23) (v := ?v240) rfl (by kernel_rfl) (by kernel_rfl) (by kernel_rfl) (by kernel_rfl) (fun _ _ _ h => h) (Or.inl ⟨by rfl, ?y240⟩) ?s240 ?_
         case y240 =>
          intro wSW hSW
          (obtain ⟨k0, k1, k2, k3, k4, k5, k6, k7⟩ := keep8 hSW; go_simp)
          all_goals with_reducible rfl
         case s240 => exact HL.out
         try simp only [Act.put, List.setIfInBounds_toArray, List.set_cons_zero, List.set_cons_succ]
         refine AnyT.ready (rs := [25]) (by kernel_rfl) (by simp) (AllT.step rfl (fun K hK => ?b24125) AllT.nil)
         case b24125 =>
          (have hs0 := (blk_cell FZ.out 0).trans rfl; have hs1 := (blk_cell FZ.out 1).trans rfl; have hf0 := blk_frozen FZ.out 0; have hf1 := blk_frozen FZ.out 1; go_simp)
          refine hK.out _ _ ?_ ?_
          ·exact past (by kernel_rfl)
          clear hK K
          try simp only [Act.put, List.setIfInBounds_toArray, List.set_cons_zero, List.set_cons_succ]
          refine AnyT.done (by kernel_rfl) ?_ _
          refine NoPanic.normal ?_
          (go_wp2; go_meet)
          (case rel => exact ⟨gz, .slice A27 6 c27, .slice A35 (l0_7.length + 2) c35, rfl, ⟨PE.of (vN' := .slice none 0 0) (vT' := .slice none 0 0) HL.out HB.out FN.out FT.out FZ.out FG.out⟩⟩)
   case rest =>
    obtain ⟨gp, vN0, vT0, rfl, HP0⟩ := hcut
    clear HL HB HB2 BL2
    have hcz_8 : wc.cell? ⟨gl, 8, none⟩ = some (.slice A0_8 l0_8.length c0_8) := (blk_cell HP0.out.bl 8).trans rfl
    go_wp2
    go_loopw [40] (fun v40 wr => ∃ (i : Nat) (x : Int) (xs : List Int) (ts : List ByteArray) (vN vT : Value), v40 = .int .i64 x ∧ Aside0 (x = (i : Int)) ∧ Aside0 (i ≤ l0_8.length) ∧ Aside0 (xs = [a0_0, a0_1, a0_2, a0_3, (oneI a0_6), (l0_7.length : Int)] ++ flagsOf (l0_8.take i)) ∧ Aside0 (ts = ([a0_4, a0_5] ++ l0_7) ++ pairsOf (l0_8.take i)) ∧ Aside0 (PE w wr gl #[.int .i64 a0_0, .int .i64 a0_1, .int .i64 a0_2, .int .i64 a0_3, .string a0_4, .string a0_5, .bool a0_6, .slice A0_7 l0_7.length c0_7, .slice A0_8 l0_8.length c0_8] gp xs ts vN vT)) (fun v40 _ => l0_8.length - (intOf v40).toNat)
    case atStart => exact ⟨0, 0, [a0_0, a0_1, a0_2, a0_3, (oneI a0_6), (l0_7.length : Int)], [a0_4, a0_5] ++ l0_7, _, _, rfl, ⟨rfl⟩, ⟨Nat.zero_le _⟩, ⟨by simp [flagsOf]⟩, ⟨by simp [pairsOf]⟩, HP0⟩
    case round =>
     clear hcz_8
     obtain ⟨i, x, xs, ts, vN, vT, rfl, hx, hi, hxs, hts, HP⟩ := hrel
     clear HP0
     have hxi := hx.out
     have hile := hi.out
     by_cases hlt : i < l0_8.length
     ·have c1 : decide (x < (l0_8.length : Int)) = true := decide_eq_true (by omega)
      have p118 : 0 ≤ x := by omega
      have q118 : x < (l0_8.length : Int) := by omega
      have hrd : rd_T50 l0_8 x = l0_8[i] := by rw [hxi]; exact rdT_get hlt
      obtain ⟨ad, e118, hx0, hx1, hx2⟩ := at_T50 HR8.out x p118 q118
      cases e118
      rw [hrd] at hx0 hx1 hx2
      replace hx0 := (HP.out.bel.cell (World.block_lt_of_cell? w _ hx0)).trans hx0
      replace hx1 := (HP.out.bel.cell (World.block_lt_of_cell? w _ hx1)).trans hx1
      replace hx2 := (HP.out.bel.cell (World.block_lt_of_cell? w _ hx2)).trans hx2
      have HXS := Aside0.mk (show [a0_0, a0_1, a0_2, a0_3, (oneI a0_6), (l0_7.length : Int)] ++ flagsOf (l0_8.take (i + 1)) = xs ++ [oneI l0_8[i].f2] from by rw [hxs.out, flags_step hlt, ← List.append_assoc])
      have HTS := Aside0.mk (show ([a0_4, a0_5] ++ l0_7) ++ pairsOf (l0_8.take (i + 1)) = ts ++ [l0_8[i].f0, l0_8[i].f1] from by rw [hts.out, pairs_step hlt, ← List.append_assoc])
      have HXL : Aside0 (xs.length ≤ 1000010) := ⟨by rw [hxs.out]; simp [flagsOf]; omega⟩
      have HTL : Aside0 (ts.length ≤ 3000010) := ⟨by rw [hts.out]; simp [pairs_len]; omega⟩
      have HI := Aside0.mk (show x + 1 = ((i + 1 : Nat) : Int) from by omega)
      have HW : Aside0 (wrap64 (x + 1) = x + 1) := ⟨wrap_id (by omega) (by omega)⟩
      have HLT := Aside0.mk hlt
      obtain ⟨t0, ht0⟩ : ∃ t, t = l0_8[i].f0 := ⟨_, rfl⟩
      obtain ⟨t1, ht1⟩ : ∃ t, t = l0_8[i].f1 := ⟨_, rfl⟩
      obtain ⟨bq, hbq⟩ : ∃ b, b = l0_8[i].f2 := ⟨_, rfl⟩
      rw [← ht0] at hx0 HTS
      rw [← ht1] at hx1 HTS
      rw [← hbq] at hx2 HXS
      replace p118 := eq_true p118
      replace q118 := eq_true q118
      clear ht0 ht1 hbq hrd hxi hile hlt
      obtain ⟨AN, cN, eN⟩ := Kd.R_slice HP.out.ns
      subst eN
      obtain ⟨AT, cT, eT⟩ := Kd.R_slice HP.out.ts
      subst eT
      have HP1 := Aside0.mk (HP.out.drew)
      go_wp2_with (first | ((with_reducible refine gate_dst (N := 7) rfl ?_); refine box_event ?hg (N := 7) ?hd (cs := #[.string (⟨#[]⟩ : ByteArray), .string (⟨#[]⟩ : ByteArray), .bool false]) (t := 50) ?hr ?_; (case hd => rfl); (case hg => rfl); (case hr => first | (go_simp; done) | (go_simp; rfl)); intro g7 hg w7 hbox hb; have HP7 := Aside0.mk (HP.out.below hb); have B7 := Aside0.mk hbox; have G7 : Aside0 (w.heap.size ≤ g7) := ⟨by rw [hg]; exact HP.out.bel.size⟩; replace hx0 := (hb.cell (World.block_lt_of_cell? _ _ hx0)).trans hx0; replace hx1 := (hb.cell (World.block_lt_of_cell? _ _ hx1)).trans hx1; replace hx2 := (hb.cell (World.block_lt_of_cell? _ _ hx2)).trans hx2; clear hg hb hbox HP; have hz0 : w7.cell? ⟨g7, 0, none⟩ = some (.string ⟨#[]⟩) := (blk_cell B7.out 0).trans rfl; have hz1 : w7.cell? ⟨g7, 1, none⟩ = some (.string ⟨#[]⟩) := (blk_cell B7.out 1).trans rfl; have hz2 : w7.cell? ⟨g7, 2, none⟩ = some (.bool false) := (blk_cell B7.out 2).trans rfl; have hzf0 := blk_frozen B7.out 0; have hzf1 := blk_frozen B7.out 1; have hzf2 := blk_frozen B7.out 2))
      have H7 := Aside0.mk (show (((w7.setCell ⟨g7, 0, none⟩ (.string t0)).setCell ⟨g7, 1, none⟩ (.string t1)).setCell ⟨g7, 2, none⟩ (.bool bq)).drew.heap[g7]? = some (.cells #[.string t0, .string t1, .bool bq] 50 (0, 0)) from blk_drew (blk_set (blk_set (blk_set B7.out 0 (.string t0)) 1 (.string t1)) 2 (.bool bq)))
      have HPs := Aside0.mk ((((HP7.out.set B7.out G7.out 0 (.string t0)).set (blk_set B7.out 0 _) G7.out 1 (.string t1)).set (blk_set (blk_set B7.out 0 _) 1 _) G7.out 2 (.bool bq)).drew)
      have HL := Aside0.mk HPs.out.bl
      have HPB := Aside0.mk HPs.out.bp
      have FN := Aside0.mk HPs.out.ns
      have FT := Aside0.mk HPs.out.ts
      have HB := Aside0.mk HPs.out.bel
      have HG := Aside0.mk HPs.out.gep
      clear HPs HP7 B7 G7 hz0 hz1 hz2 hzf0 hzf1 hzf2 hx0 hx1 hx2
      refine wp_region_noPanic ?_
      refine rt_begin (S := (fun W => W.heap[gp]? = some (.cells #[.slice AN xs.length cN, .slice AT ts.length cT] 48 (0, 0)) ∧ W.heap[g7]? = some (.cells #[.string t0, .string t1, .bool bq] 50 (0, 0)))) (s := 16) (by kernel_rfl) ?_
      refine AnyT.taken (i := 0) (v := ?v244) rfl (by kernel_rfl) (by kernel_rfl) (by kernel_rfl) (by kernel_rfl) (fun _ _ _ h => h) (Or.inl ⟨by rfl, ?y244⟩) ?s244 ?_
      case y244 =>
       intro wSW hSW
       (have y0 : wSW.cell? ⟨gp, 0, none⟩ = some (.slice AN xs.length cN) := (blk_cell hSW.1 0).trans rfl; have y1 : wSW.cell? ⟨gp, 1, none⟩ = some (.slice AT ts.length cT) := (blk_cell hSW.1 1).trans rfl; have y2 : wSW.cell? ⟨g7, 0, none⟩ = some (.string t0) := (blk_cell hSW.2 0).trans rfl; have y3 : wSW.cell? ⟨g7, 1, none⟩ = some (.string t1) := (blk_cell hSW.2 1).trans rfl; have y4 : wSW.cell? ⟨g7, 2, none⟩ = some (.bool bq) := (blk_cell hSW.2 2).trans rfl; go_simp)
       all_goals with_reducible rfl
      case s244 => exact ⟨HPB.out, H7.out⟩
      try simp only [Act.put, List.setIfInBounds_toArray, List.set_cons_zero, List.set_cons_succ]
      refine AnyT.taken (i := 1) (v := ?v245) rfl (by kernel_rfl) (by kernel_rfl) (by kernel_rfl) (by kernel_rfl) (fun _ _ _ h => h) (Or.inl ⟨by rfl, ?y245⟩) ?s245 ?_
      case y245 =>
       intro wSW hSW
       (have y0 : wSW.cell? ⟨gp, 0, none⟩ = some (.slice AN xs.length cN) := (blk_cell hSW.1 0).trans rfl; have y1 : wSW.cell? ⟨gp, 1, none⟩ = some (.slice AT ts.length cT) := (blk_cell hSW.1 1).trans rfl; have y2 : wSW.cell? ⟨g7, 0, none⟩ = some (.string t0) := (blk_cell hSW.2 0).trans rfl; have y3 : wSW.cell? ⟨g7, 1, none⟩ = some (.string t1) := (blk_cell hSW.2 1).trans rfl; have y4 : wSW.cell? ⟨g7, 2, none⟩ = some (.bool bq) := (blk_cell hSW.2 2).trans rfl; go_simp)
       all_goals with_reducible rfl
      case s245 => exact ⟨HPB.out, H7.out⟩
      try simp only [Act.put, List.setIfInBounds_toArray, List.set_cons_zero, List.set_cons_succ]
      refine AnyT.taken (i := 2) (v := ?v246) rfl (by kernel_rfl) (by kernel_rfl) (by kernel_rfl) (by kernel_rfl) (fun _ _ _ h => h) (Or.inl ⟨by rfl, ?y246⟩) ?s246 ?_
      case y246 =>
       intro wSW hSW
       (have y0 : wSW.cell? ⟨gp, 0, none⟩ = some (.slice AN xs.length cN) := (blk_cell hSW.1 0).trans rfl; have y1 : wSW.cell? ⟨gp, 1, none⟩ = some (.slice AT ts.length cT) := (blk_cell hSW.1 1).trans rfl; have y2 : wSW.cell? ⟨g7, 0, none⟩ = some (.string t0) := (blk_cell hSW.2 0).trans rfl; have y3 : wSW.cell? ⟨g7, 1, none⟩ = some (.string t1) := (blk_cell hSW.2 1).trans rfl; have y4 : wSW.cell? ⟨g7, 2, none⟩ = some (.bool bq) := (blk_cell hSW.2 2).trans rfl; go_simp)
       all_goals with_reducible rfl
      case s246 => exact ⟨HPB.out, H7.out⟩
      try simp only [Act.put, List.setIfInBounds_toArray, List.set_cons_zero, List.set_cons_succ]
      refine AnyT.taken (i := 3) (v := ?v247) rfl (by kernel_rfl) (by kernel_rfl) (by kernel_rfl) (by kernel_rfl) (fun _ _ _ h => h) (Or.inl ⟨by rfl, ?y247⟩) ?s247 ?_
      case y247 =>
       intro wSW hSW
       (have y0 : wSW.cell? ⟨gp, 0, none⟩ = some (.slice AN xs.length cN) := (blk_cell hSW.1 0).trans rfl; have y1 : wSW.cell? ⟨gp, 1, none⟩ = some (.slice AT ts.length cT) := (blk_cell hSW.1 1).trans rfl; have y2 : wSW.cell? ⟨g7, 0, none⟩ = some (.string t0) := (blk_cell hSW.2 0).trans rfl; have y3 : wSW.cell? ⟨g7, 1, none⟩ = some (.string t1) := (blk_cell hSW.2 1).trans rfl; have y4 : wSW.cell? ⟨g7, 2, none⟩ = some (.bool bq) := (blk_cell hSW.2 2).trans rfl; go_simp)
       all_goals with_reducible rfl
      case s247 => exact ⟨HPB.out, H7.out⟩
      try simp only [Act.put, List.setIfInBounds_toArray, List.set_cons_zero, List.set_cons_succ]
      refine AnyT.taken (i := 7) (v := ?v248) rfl (by kernel_rfl) (by kernel_rfl) (by kernel_rfl) (by kernel_rfl) (fun _ _ _ h => h) (Or.inl ⟨by rfl, ?y248⟩) ?s248 ?_
      case y248 =>
       intro wSW hSW
       (have y0 : wSW.cell? ⟨gp, 0, none⟩ = some (.slice AN xs.length cN) := (blk_cell hSW.1 0).trans rfl; have y1 : wSW.cell? ⟨gp, 1, none⟩ = some (.slice AT ts.length cT) := (blk_cell hSW.1 1).trans rfl; have y2 : wSW.cell? ⟨g7, 0, none⟩ = some (.string t0) := (blk_cell hSW.2 0).trans rfl; have y3 : wSW.cell? ⟨g7, 1, none⟩ = some (.string t1) := (blk_cell hSW.2 1).trans rfl; have y4 : wSW.cell? ⟨g7, 2, none⟩ = some (.bool bq) := (blk_cell hSW.2 2).trans rfl; go_simp)
       all_goals with_reducible rfl
      case s248 => exact ⟨HPB.out, H7.out⟩
      try simp only [Act.put, List.setIfInBounds_toArray, List.set_cons_zero, List.set_cons_succ]
      refine AnyT.taken (i := 8) (v := ?v249) rfl (by kernel_rfl) (by kernel_rfl) (by kernel_rfl) (by kernel_rfl) (fun _ _ _ h => h) (Or.inl ⟨by rfl, ?y249⟩) ?s249 ?_
      case y249 =>
       intro wSW hSW
       (have y0 : wSW.cell? ⟨gp, 0, none⟩ = some (.slice AN xs.length cN) := (blk_cell hSW.1 0).trans rfl; have y1 : wSW.cell? ⟨gp, 1, none⟩ = some (.slice AT ts.length cT) := (blk_cell hSW.1 1).trans rfl; have y2 : wSW.cell? ⟨g7, 0, none⟩ = some (.string t0) := (blk_cell hSW.2 0).trans rfl; have y3 : wSW.cell? ⟨g7, 1, none⟩ = some (.string t1) := (blk_cell hSW.2 1).trans rfl; have y4 : wSW.cell? ⟨g7, 2, none⟩ = some (.bool bq) := (blk_cell hSW.2 2).trans rfl; go_simp)
       all_goals with_reducible rfl
      case s249 => exact ⟨HPB.out, H7.out⟩
      try simp only [Act.put, List.setIfInBounds_toArray, List.set_cons_zero, List.set_cons_succ]
      refine AnyT.taken (i := 9) (v := ?v250) rfl (by kernel_rfl) (by kernel_rfl) (by kernel_rfl) (by kernel_rfl) (fun _ _ _ h => h) (Or.inl ⟨by rfl, ?y250⟩) ?s250 ?_
      case y250 =>
       intro wSW hSW
       (have y0 : wSW.cell? ⟨gp, 0, none⟩ = some (.slice AN xs.length cN) := (blk_cell hSW.1 0).trans rfl; have y1 : wSW.cell? ⟨gp, 1, none⟩ = some (.slice AT ts.length cT) := (blk_cell hSW.1 1).trans rfl; have y2 : wSW.cell? ⟨g7, 0, none⟩ = some (.string t0) := (blk_cell hSW.2 0).trans rfl; have y3 : wSW.cell? ⟨g7, 1, none⟩ = some (.string t1) := (blk_cell hSW.2 1).trans rfl; have y4 : wSW.cell? ⟨g7, 2, none⟩ = some (.bool bq) := (blk_cell hSW.2 2).trans rfl; go_simp)
       all_goals with_reducible rfl
      case s250 => exact ⟨HPB.out, H7.out⟩
      try simp only [Act.put, List.setIfInBounds_toArray, List.set_cons_zero, List.set_cons_succ]
      refine AnyT.taken (i := 10) (v := ?v251) rfl (by kernel_rfl) (by kernel_rfl) (by kernel_rfl) (by kernel_rfl) (fun _ _ _ h => h) (Or.inl ⟨by rfl, ?y251⟩) ?s251 ?_
      case y251 =>
       intro wSW hSW
       (have y0 : wSW.cell? ⟨gp, 0, none⟩ = some (.slice AN xs.length cN) := (blk_cell hSW.1 0).trans rfl; have y1 : wSW.cell? ⟨gp, 1, none⟩ = some (.slice AT ts.length cT) := (blk_cell hSW.1 1).trans rfl; have y2 : wSW.cell? ⟨g7, 0, none⟩ = some (.string t0) := (blk_cell hSW.2 0).trans rfl; have y3 : wSW.cell? ⟨g7, 1, none⟩ = some (.string t1) := (blk_cell hSW.2 1).trans rfl; have y4 : wSW.cell? ⟨g7, 2, none⟩ = some (.bool bq) := (blk_cell hSW.2 2).trans rfl; go_simp)
       all_goals with_reducible rfl
      case s251 => exact ⟨HPB.out, H7.out⟩
      try simp only [Act.put, List.setIfInBounds_toArray, List.set_cons_zero, List.set_cons_succ]
      refine AnyT.taken (i := 11) (v := ?v252) rfl (by kernel_rfl) (by kernel_rfl) (by kernel_rfl) (by kernel_rfl) (fun _ _ _ h => h) (Or.inl ⟨by rfl, ?y252⟩) ?s252 ?_
      case y252 =>
       intro wSW hSW
       (have y0 : wSW.cell? ⟨gp, 0, none⟩ = some (.slice AN xs.length cN) := (blk_cell hSW.1 0).trans rfl; have y1 : wSW.cell? ⟨gp, 1, none⟩ = some (.slice AT ts.length cT) := (blk_cell hSW.1 1).trans rfl; have y2 : wSW.cell? ⟨g7, 0, none⟩ = some (.string t0) := (blk_cell hSW.2 0).trans rfl; have y3 : wSW.cell? ⟨g7, 1, none⟩ = some (.string t1) := (blk_cell hSW.2 1).trans rfl; have y4 : wSW.cell? ⟨g7, 2, none⟩ = some (.bool bq) := (blk_cell hSW.2 2).trans rfl; go_simp)
       all_goals with_reducible rfl
      case s252 => exact ⟨HPB.out, H7.out⟩
      try simp only [Act.put, List.setIfInBounds_toArray, List.set_cons_zero, List.set_cons_succ]
      refine AnyT.taken (i := 12) (v := ?v253) rfl (by kernel_rfl) (by kernel_rfl) (by kernel_rfl) (by kernel_rfl) (fun _ _ _ h => h) (Or.inl ⟨by rfl, ?y253⟩) ?s253 ?_
      case y253 =>
       intro wSW hSW
       (have y0 : wSW.cell? ⟨gp, 0, none⟩ = some (.slice AN xs.length cN) := (blk_cell hSW.1 0).trans rfl; have y1 : wSW.cell? ⟨gp, 1, none⟩ = some (.slice AT ts.length cT) := (blk_cell hSW.1 1).trans rfl; have y2 : wSW.cell? ⟨g7, 0, none⟩ = some (.string t0) := (blk_cell hSW.2 0).trans rfl; have y3 : wSW.cell? ⟨g7, 1, none⟩ = some (.string t1) := (blk_cell hSW.2 1).trans rfl; have y4 : wSW.cell? ⟨g7, 2, none⟩ = some (.bool bq) := (blk_cell hSW.2 2).trans rfl; go_simp)
       all_goals with_reducible rfl
      case s253 => exact ⟨HPB.out, H7.out⟩
      try simp only [Act.put, List.setIfInBounds_toArray, List.set_cons_zero, List.set_cons_succ]
      refine AnyT.ready (rs := [4, 13]) (by kernel_rfl) (by simp) (AllT.step rfl (fun K hK => ?b25404) (AllT.step rfl (fun K hK => ?b25413) AllT.nil))
      case b25404 =>
       (refine goes_ Try.func20 (by kernel_rfl) rfl #[.bool bq] (by rfl) rfl rfl (by (try simp only [List.map_toArray, List.map_cons, List.map_nil]); first | done | rfl) ?_; refine (one_calls bq _).mono ?_; rintro e w9 ⟨rfl, hb⟩; refine ⟨_, rfl, ?_⟩; (try replace FA := Aside0.mk (Kd.R_below FA.out hb)); (try replace FL := Aside0.mk (Kd.R_below FL.out hb)); replace FN := Aside0.mk (Kd.R_below FN.out hb); replace FT := Aside0.mk (Kd.R_below FT.out hb); replace HPB := Aside0.mk (blk_below HPB.out hb); replace H7 := Aside0.mk (blk_below H7.out hb); replace HL := Aside0.mk (blk_below HL.out hb); replace HB := Aside0.mk (below_step HB.out hb); clear hb)
       refine hK.out _ _ ?_ ?_
       ·intro _; exact ⟨HPB.out, H7.out⟩
       clear hK K
       try simp only [Act.put, List.setIfInBounds_toArray, List.set_cons_zero, List.set_cons_succ]
       refine AnyT.ready (rs := [5, 13]) (by kernel_rfl) (by simp) (AllT.step rfl (fun K hK => ?b25605) (AllT.step rfl (fun K hK => ?b25613) AllT.nil))
       case b25605 =>
        (refine Kd.R_lit_step (Kd.int .i64) (w0 := w) w.heap.size 3 (by rfl) (N := 49) (by rfl) (xs := [(oneI bq)]) (inner := [.int .i64 (oneI bq)]) (ok := fun _ => True) (okp := fun _ => True) ?hr (reps_ints _ _ _ [(oneI bq)]) (fun _ h => h) trivial HB.out HB.out.size (by simp) ?_; (case hr => first | (go_simp; done) | (go_simp; rfl)); intro vx w9 ho hb hg hat; (try replace FA := Aside0.mk (Kd.R_grown FA.out hg (fun _ _ => by simp))); (try replace FL := Aside0.mk (Kd.R_grown FL.out hg (fun _ _ => by simp))); replace FN := Aside0.mk (Kd.R_grown FN.out hg (fun _ _ => by simp)); replace FT := Aside0.mk (Kd.R_grown FT.out hg (fun _ _ => by simp)); replace HPB := Aside0.mk (blk_grown HPB.out hg (by simp)); replace H7 := Aside0.mk (blk_grown H7.out hg (by simp)); replace HL := Aside0.mk (blk_grown HL.out hg (by simp)); replace HB := Aside0.mk hb; obtain ⟨A49, c49, e9⟩ := Kd.R_slice ho; subst e9; have FA := Aside0.mk ho; clear ho hb hg hat)
        refine hK.out _ _ ?_ ?_
        ·intro _; exact ⟨HPB.out, H7.out⟩
        clear hK K
        try simp only [Act.put, List.setIfInBounds_toArray, List.set_cons_zero, List.set_cons_succ]
        refine AnyT.ready (rs := [6, 13]) (by kernel_rfl) (by simp) (AllT.step rfl (fun K hK => ?b25806) (AllT.step rfl (fun K hK => ?b25813) AllT.nil))
        case b25806 =>
         (refine Kd.R_append_rows_step (Kd.int .i64) (w0 := w) w.heap.size (by rfl) (.tmp 45) (.tmp 49) 46 3 (.int .i64 0) 8 (by rfl) Try.underlying46 info3 rfl (by decide) (by omega) (.slice AN xs.length cN) xs [(oneI bq)] _ _ _ (fun _ => True) (fun _ => False) (by rfl) (by rfl) FN.out (Kd.R_reads' FA.out).2.2 (fun _ _ h => h) (fun _ h => h.elim) (fun _ _ => trivial) HB.out HB.out.size (by have h1 := HXL.out; have h2 := HTL.out; simp only [List.length_cons, List.length_nil]; omega) ?_; intro vx w9 ho hb hg hat; (try replace FT := Aside0.mk (Kd.R_over FT.out FN.out (by decide) hg)); (try replace FL := Aside0.mk (Kd.R_over FL.out FN.out (by decide) hg)); replace HPB := Aside0.mk (blk_grown HPB.out hg (Kd.R_ne FN.out HPB.out (by decide))); replace H7 := Aside0.mk (blk_grown H7.out hg (Kd.R_ne FN.out H7.out (by decide))); replace HL := Aside0.mk (blk_grown HL.out hg (Kd.R_ne FN.out HL.out (by decide))); replace HB := Aside0.mk hb; obtain ⟨A50, c50, e9⟩ := Kd.R_slice ho; simp only [List.length_append, List.length_cons, List.length_nil, Nat.zero_add, Nat.reduceAdd] at e9; subst e9; replace FN := Aside0.mk ho; clear ho hb hg hat FA)
         refine hK.out _ _ ?_ ?_
         ·intro _; exact ⟨HPB.out, H7.out⟩
         clear hK K
         try simp only [Act.put, List.setIfInBounds_toArray, List.set_cons_zero, List.set_cons_succ]
         refine AnyT.taken (i := 15) (v := ?v260) rfl (by kernel_rfl) (by kernel_rfl) (by kernel_rfl) (by kernel_rfl) (fun _ _ _ h => h) (Or.inl ⟨by rfl, ?y260⟩) ?s260 ?_
         case y260 =>
          intro wSW hSW
          (have y0 : wSW.cell? ⟨gp, 0, none⟩ = some (.slice AN xs.length cN) := (blk_cell hSW.1 0).trans rfl; have y1 : wSW.cell? ⟨gp, 1, none⟩ = some (.slice AT ts.length cT) := (blk_cell hSW.1 1).trans rfl; have y2 : wSW.cell? ⟨g7, 0, none⟩ = some (.string t0) := (blk_cell hSW.2 0).trans rfl; have y3 : wSW.cell? ⟨g7, 1, none⟩ = some (.string t1) := (blk_cell hSW.2 1).trans rfl; have y4 : wSW.cell? ⟨g7, 2, none⟩ = some (.bool bq) := (blk_cell hSW.2 2).trans rfl; go_simp)
          all_goals with_reducible rfl
         case s260 => exact ⟨HPB.out, H7.out⟩
         try simp only [Act.put, List.setIfInBounds_toArray, List.set_cons_zero, List.set_cons_succ]
         refine AnyT.ready (rs := [13]) (by kernel_rfl) (by simp) (AllT.step rfl (fun K hK => ?b26113) AllT.nil)
         case b26113 =>
          (refine Kd.R_lit_step Kd.string (w0 := w) w.heap.size 9 (by rfl) (N := 57) (by rfl) (xs := [t0, t1]) (inner := [.string t0, .string t1]) (ok := fun _ => True) (okp := fun _ => True) ?hr (reps_texts _ _ _ [t0, t1]) (fun _ h => h) trivial HB.out HB.out.size (by simp) ?_; (case hr => first | (go_simp; done) | (go_simp; rfl)); intro vx w9 ho hb hg hat; (try replace FA := Aside0.mk (Kd.R_grown FA.out hg (fun _ _ => by simp))); (try replace FL := Aside0.mk (Kd.R_grown FL.out hg (fun _ _ => by simp))); replace FN := Aside0.mk (Kd.R_grown FN.out hg (fun _ _ => by simp)); replace FT := Aside0.mk (Kd.R_grown FT.out hg (fun _ _ => by simp)); replace HPB := Aside0.mk (blk_grown HPB.out hg (by simp)); replace H7 := Aside0.mk (blk_grown H7.out hg (by simp)); replace HL := Aside0.mk (blk_grown HL.out hg (by simp)); replace HB := Aside0.mk hb; obtain ⟨A57, c57, e9⟩ := Kd.R_slice ho; subst e9; have FL := Aside0.mk ho; clear ho hb hg hat)
          refine hK.out _ _ ?_ ?_
          ·intro _; exact ⟨HPB.out, H7.out⟩
          clear hK K
          try simp only [Act.put, List.setIfInBounds_toArray, List.set_cons_zero, List.set_cons_succ]
          refine AnyT.ready (rs := [14]) (by kernel_rfl) (by simp) (AllT.step rfl (fun K hK => ?b26314) AllT.nil)
          case b26314 =>
           (refine Kd.R_append_rows_step Kd.string (w0 := w) w.heap.size (by rfl) (.tmp 52) (.tmp 57) 22 9 (.string ⟨#[]⟩) 16 (by rfl) Try.underlying22 info9 rfl (by decide) (by omega) (.slice AT ts.length cT) ts [t0, t1] _ _ _ (fun _ => True) (fun _ => False) (by rfl) (by rfl) FT.out (Kd.R_reads' FL.out).2.2 (fun _ _ h => h) (fun _ h => h.elim) (fun _ _ => trivial) HB.out HB.out.size (by have h1 := HXL.out; have h2 := HTL.out; simp only [List.length_cons, List.length_nil]; omega) ?_; intro vx w9 ho hb hg hat; (try replace FN := Aside0.mk (Kd.R_over FN.out FT.out (by decide) hg)); replace HPB := Aside0.mk (blk_grown HPB.out hg (Kd.R_ne FT.out HPB.out (by decide))); replace H7 := Aside0.mk (blk_grown H7.out hg (Kd.R_ne FT.out H7.out (by decide))); replace HL := Aside0.mk (blk_grown HL.out hg (Kd.R_ne FT.out HL.out (by decide))); replace HB := Aside0.mk hb; obtain ⟨A58, c58, e9⟩ := Kd.R_slice ho; simp only [List.length_append, List.length_cons, List.length_nil, Nat.zero_add, Nat.reduceAdd] at e9; subst e9; replace FT := Aside0.mk ho; clear ho hb hg hat FL)
           refine hK.out _ _ ?_ ?_
           ·intro _; exact ⟨HPB.out, H7.out⟩
           clear hK K
           try simp only [Act.put, List.setIfInBounds_toArray, List.set_cons_zero, List.set_cons_succ]
           refine AnyT.ready (rs := [16]) (by kernel_rfl) (by simp) (AllT.step rfl (fun K hK => ?b26516) AllT.nil)
           case b26516 =>
            (have hs0 : w9.cell? ⟨gp, 0, none⟩ = some (.slice AN xs.length cN) := (blk_cell HPB.out 0).trans rfl; have hf0 := blk_frozen HPB.out 0; go_simp)
            refine hK.out _ _ ?_ ?_
            ·exact past (by kernel_rfl)
            clear hK K
            try simp only [Act.put, List.setIfInBounds_toArray, List.set_cons_zero, List.set_cons_succ]
            refine AnyT.ready (rs := [17]) (by kernel_rfl) (by simp) (AllT.step rfl (fun K hK => ?b26717) AllT.nil)
            case b26717 =>
             go_simp
             refine hK.out _ _ ?_ ?_
             ·exact past (by kernel_rfl)
             clear hK K
             try simp only [Act.put, List.setIfInBounds_toArray, List.set_cons_zero, List.set_cons_succ]
             refine AnyT.ready (rs := [18]) (by kernel_rfl) (by simp) (AllT.step rfl (fun K hK => ?b26918) AllT.nil)
             case b26918 =>
              (have hs1 : (w9.setCell ⟨gp, 0, none⟩ (.slice A50 (xs.length + 1) c50)).cell? ⟨gp, 1, none⟩ = some (.slice AT ts.length cT) := (blk_cell (blk_set HPB.out 0 (.slice A50 (xs.length + 1) c50)) 1).trans rfl; have hf1 := blk_frozen (blk_set HPB.out 0 (.slice A50 (xs.length + 1) c50)) 1; go_simp)
              refine hK.out _ _ ?_ ?_
              ·exact past (by kernel_rfl)
              clear hK K
              try simp only [Act.put, List.setIfInBounds_toArray, List.set_cons_zero, List.set_cons_succ]
              refine AnyT.done (by kernel_rfl) ?_ _
              refine NoPanic.normal ?_
              (have HE := Aside0.mk (PE.of HL.out HB.out FN.out FT.out HPB.out HG.out); have hm := Aside0.mk (round_less hx.out HLT.out); clear FN FT HPB HB H7 HL HG; go_wp2; rw [HW.out]; exact ⟨⟨i + 1, x + 1, xs ++ [(oneI bq)], ts ++ [t0, t1], _, _, rfl, HI, ⟨HLT.out⟩, ⟨HXS.out.symm⟩, ⟨HTS.out.symm⟩, HE⟩, hm.out⟩)
        case b25813 =>
         (refine Kd.R_lit_step Kd.string (w0 := w) w.heap.size 9 (by rfl) (N := 57) (by rfl) (xs := [t0, t1]) (inner := [.string t0, .string t1]) (ok := fun _ => True) (okp := fun _ => True) ?hr (reps_texts _ _ _ [t0, t1]) (fun _ h => h) trivial HB.out HB.out.size (by simp) ?_; (case hr => first | (go_simp; done) | (go_simp; rfl)); intro vx w9 ho hb hg hat; (try replace FA := Aside0.mk (Kd.R_grown FA.out hg (fun _ _ => by simp))); (try replace FL := Aside0.mk (Kd.R_grown FL.out hg (fun _ _ => by simp))); replace FN := Aside0.mk (Kd.R_grown FN.out hg (fun _ _ => by simp)); replace FT := Aside0.mk (Kd.R_grown FT.out hg (fun _ _ => by simp)); replace HPB := Aside0.mk (blk_grown HPB.out hg (by simp)); replace H7 := Aside0.mk (blk_grown H7.out hg (by simp)); replace HL := Aside0.mk (blk_grown HL.out hg (by simp)); replace HB := Aside0.mk hb; obtain ⟨A57, c57, e9⟩ := Kd.R_slice ho; subst e9; have FL := Aside0.mk ho; clear ho hb hg hat)
         refine hK.out _ _ ?_ ?_
         ·intro _; exact ⟨HPB.out, H7.out⟩
         clear hK K
         try simp only [Act.put, List.setIfInBounds_toArray, List.set_cons_zero, List.set_cons_succ]
         refine AnyT.ready (rs := [6]) (by kernel_rfl) (by simp) (AllT.step rfl (fun K hK => ?b27306) AllT.nil)
         case b27306 =>
          (refine Kd.R_append_rows_step (Kd.int .i64) (w0 := w) w.heap.size (by rfl) (.tmp 45) (.tmp 49) 46 3 (.int .i64 0) 8 (by rfl) Try.underlying46 info3 rfl (by decide) (by omega) (.slice AN xs.length cN) xs [(oneI bq)] _ _ _ (fun _ => True) (fun _ => False) (by rfl) (by rfl) FN.out (Kd.R_reads' FA.out).2.2 (fun _ _ h => h) (fun _ h => h.elim) (fun _ _ => trivial) HB.out HB.out.size (by have h1 := HXL.out; have h2 := HTL.out; simp only [List.length_cons, List.length_nil]; omega) ?_; intro vx w9 ho hb hg hat; (try replace FT := Aside0.mk (Kd.R_over FT.out FN.out (by decide) hg)); (try replace FL := Aside0.mk (Kd.R_over FL.out FN.out (by decide) hg)); replace HPB := Aside0.mk (blk_grown HPB.out hg (Kd.R_ne FN.out HPB.out (by decide))); replace H7 := Aside0.mk (blk_grown H7.out hg (Kd.R_ne FN.out H7.out (by decide))); replace HL := Aside0.mk (blk_grown HL.out hg (Kd.R_ne FN.out HL.out (by decide))); replace HB := Aside0.mk hb; obtain ⟨A50, c50, e9⟩ := Kd.R_slice ho; simp only [List.length_append, List.length_cons, List.length_nil, Nat.zero_add, Nat.reduceAdd] at e9; subst e9; replace FN := Aside0.mk ho; clear ho hb hg hat FA)
          refine hK.out _ _ ?_ ?_
          ·intro _; exact ⟨HPB.out, H7.out⟩
          clear hK K
          try simp only [Act.put, List.setIfInBounds_toArray, List.set_cons_zero, List.set_cons_succ]
          refine AnyT.taken (i := 15) (v := ?v275) rfl (by kernel_rfl) (by kernel_rfl) (by kernel_rfl) (by kernel_rfl) (fun _ _ _ h => h) (Or.inl ⟨by rfl, ?y275⟩) ?s275 ?_
          case y275 =>
           intro wSW hSW
           (have y0 : wSW.cell? ⟨gp, 0, none⟩ = some (.slice AN xs.length cN) := (blk_cell hSW.1 0).trans rfl; have y1 : wSW.cell? ⟨gp, 1, none⟩ = some (.slice AT ts.length cT) := (blk_cell hSW.1 1).trans rfl; have y2 : wSW.cell? ⟨g7, 0, none⟩ = some (.string t0) := (blk_cell hSW.2 0).trans rfl; have y3 : wSW.cell? ⟨g7, 1, none⟩ = some (.string t1) := (blk_cell hSW.2 1).trans rfl; have y4 : wSW.cell? ⟨g7, 2, none⟩ = some (.bool bq) := (blk_cell hSW.2 2).trans rfl; go_simp)
           all_goals with_reducible rfl
          case s275 => exact ⟨HPB.out, H7.out⟩
          try simp only [Act.put, List.setIfInBounds_toArray, List.set_cons_zero, List.set_cons_succ]
          refine AnyT.ready (rs := [14]) (by kernel_rfl) (by simp) (AllT.step rfl (fun K hK => ?b27614) AllT.nil)
          case b27614 =>
           (refine Kd.R_append_rows_step Kd.string (w0 := w) w.heap.size (by rfl) (.tmp 52) (.tmp 57) 22 9 (.string ⟨#[]⟩) 16 (by rfl) Try.underlying22 info9 rfl (by decide) (by omega) (.slice AT ts.length cT) ts [t0, t1] _ _ _ (fun _ => True) (fun _ => False) (by rfl) (by rfl) FT.out (Kd.R_reads' FL.out).2.2 (fun _ _ h => h) (fun _ h => h.elim) (fun _ _ => trivial) HB.out HB.out.size (by have h1 := HXL.out; have h2 := HTL.out; simp only [List.length_cons, List.length_nil]; omega) ?_; intro vx w9 ho hb hg hat; (try replace FN := Aside0.mk (Kd.R_over FN.out FT.out (by decide) hg)); replace HPB := Aside0.mk (blk_grown HPB.out hg (Kd.R_ne FT.out HPB.out (by decide))); replace H7 := Aside0.mk (blk_grown H7.out hg (Kd.R_ne FT.out H7.out (by decide))); replace HL := Aside0.mk (blk_grown HL.out hg (Kd.R_ne FT.out HL.out (by decide))); replace HB := Aside0.mk hb; obtain ⟨A58, c58, e9⟩ := Kd.R_slice ho; simp only [List.length_append, List.length_cons, List.length_nil, Nat.zero_add, Nat.reduceAdd] at e9; subst e9; replace FT := Aside0.mk ho; clear ho hb hg hat FL)
           refine hK.out _ _ ?_ ?_
           ·intro _; exact ⟨HPB.out, H7.out⟩
           clear hK K
           try simp only [Act.put, List.setIfInBounds_toArray, List.set_cons_zero, List.set_cons_succ]
           refine AnyT.ready (rs := [16]) (by kernel_rfl) (by simp) (AllT.step rfl (fun K hK => ?b27816) AllT.nil)
           case b27816 =>
            (have hs0 : w9.cell? ⟨gp, 0, none⟩ = some (.slice AN xs.length cN) := (blk_cell HPB.out 0).trans rfl; have hf0 := blk_frozen HPB.out 0; go_simp)
            refine hK.out _ _ ?_ ?_
            ·exact past (by kernel_rfl)
            clear hK K
            try simp only [Act.put, List.setIfInBounds_toArray, List.set_cons_zero, List.set_cons_succ]
            refine AnyT.ready (rs := [17]) (by kernel_rfl) (by simp) (AllT.step rfl (fun K hK => ?b28017) AllT.nil)
            case b28017 =>
             go_simp
             refine hK.out _ _ ?_ ?_
             ·exact past (by kernel_rfl)
             clear hK K
             try simp only [Act.put, List.setIfInBounds_toArray, List.set_cons_zero, List.set_cons_succ]
             refine AnyT.ready (rs := [18]) (by kernel_rfl) (by simp) (AllT.step rfl (fun K hK => ?b28218) AllT.nil)
             case b28218 =>
              (have hs1 : (w9.setCell ⟨gp, 0, none⟩ (.slice A50 (xs.length + 1) c50)).cell? ⟨gp, 1, none⟩ = some (.slice AT ts.length cT) := (blk_cell (blk_set HPB.out 0 (.slice A50 (xs.length + 1) c50)) 1).trans rfl; have hf1 := blk_frozen (blk_set HPB.out 0 (.slice A50 (xs.length + 1) c50)) 1; go_simp)
              refine hK.out _ _ ?_ ?_
              ·exact past (by kernel_rfl)
              clear hK K
              try simp only [Act.put, List.setIfInBounds_toArray, List.set_cons_zero, List.set_cons_succ]
              refine AnyT.done (by kernel_rfl) ?_ _
              refine NoPanic.normal ?_
              (have HE := Aside0.mk (PE.of HL.out HB.out FN.out FT.out HPB.out HG.out); have hm := Aside0.mk (round_less hx.out HLT.out); clear FN FT HPB HB H7 HL HG; go_wp2; rw [HW.out]; exact ⟨⟨i + 1, x + 1, xs ++ [(oneI bq)], ts ++ [t0, t1], _, _, rfl, HI, ⟨HLT.out⟩, ⟨HXS.out.symm⟩, ⟨HTS.out.symm⟩, HE⟩, hm.out⟩)
       case b25613 =>
        (refine Kd.R_lit_step Kd.string (w0 := w) w.heap.size 9 (by rfl) (N := 57) (by rfl) (xs := [t0, t1]) (inner := [.string t0, .string t1]) (ok := fun _ => True) (okp := fun _ => True) ?hr (reps_texts _ _ _ [t0, t1]) (fun _ h => h) trivial HB.out HB.out.size (by simp) ?_; (case hr => first | (go_simp; done) | (go_simp; rfl)); intro vx w9 ho hb hg hat; (try replace FA := Aside0.mk (Kd.R_grown FA.out hg (fun _ _ => by simp))); (try replace FL := Aside0.mk (Kd.R_grown FL.out hg (fun _ _ => by simp))); replace FN := Aside0.mk (Kd.R_grown FN.out hg (fun _ _ => by simp)); replace FT := Aside0.mk (Kd.R_grown FT.out hg (fun _ _ => by simp)); replace HPB := Aside0.mk (blk_grown HPB.out hg (by simp)); replace H7 := Aside0.mk (blk_grown H7.out hg (by simp)); replace HL := Aside0.mk (blk_grown HL.out hg (by simp)); replace HB := Aside0.mk hb; obtain ⟨A57, c57, e9⟩ := Kd.R_slice ho; subst e9; have FL := Aside0.mk ho; clear ho hb hg hat)
        refine hK.out _ _ ?_ ?_
        ·intro _; exact ⟨HPB.out, H7.out⟩
        clear hK K
        try simp only [Act.put, List.setIfInBounds_toArray, List.set_cons_zero, List.set_cons_succ]
        refine AnyT.ready (rs := [5]) (by kernel_rfl) (by simp) (AllT.step rfl (fun K hK => ?b28605) AllT.nil)
        case b28605 =>
         (refine Kd.R_lit_step (Kd.int .i64) (w0 := w) w.heap.size 3 (by rfl) (N := 49) (by rfl) (xs := [(oneI bq)]) (inner := [.int .i64 (oneI bq)]) (ok := fun _ => True) (okp := fun _ => True) ?hr (reps_ints _ _ _ [(oneI bq)]) (fun _ h => h) trivial HB.out HB.out.size (by simp) ?_; (case hr => first | (go_simp; done) | (go_simp; rfl)); intro vx w9 ho hb hg hat; (try replace FA := Aside0.mk (Kd.R_grown FA.out hg (fun _ _ => by simp))); (try replace FL := Aside0.mk (Kd.R_grown FL.out hg (fun _ _ => by simp))); replace FN := Aside0.mk (Kd.R_grown FN.out hg (fun _ _ => by simp)); replace FT := Aside0.mk (Kd.R_grown FT.out hg (fun _ _ => by simp)); replace HPB := Aside0.mk (blk_grown HPB.out hg (by simp)); replace H7 := Aside0.mk (blk_grown H7.out hg (by simp)); replace HL := Aside0.mk (blk_grown HL.out hg (by simp)); replace HB := Aside0.mk hb; obtain ⟨A49, c49, e9⟩ := Kd.R_slice ho; subst e9; have FA := Aside0.mk ho; clear ho hb hg hat)
         refine hK.out _ _ ?_ ?_
         ·intro _; exact ⟨HPB.out, H7.out⟩
         clear hK K
         try simp only [Act.put, List.setIfInBounds_toArray, List.set_cons_zero, List.set_cons_succ]
         refine AnyT.ready (rs := [6]) (by kernel_rfl) (by simp) (AllT.step rfl (fun K hK => ?b28806) AllT.nil)
         case b28806 =>
          (refine Kd.R_append_rows_step (Kd.int .i64) (w0 := w) w.heap.size (by rfl) (.tmp 45) (.tmp 49) 46 3 (.int .i64 0) 8 (by rfl) Try.underlying46 info3 rfl (by decide) (by omega) (.slice AN xs.length cN) xs [(oneI bq)] _ _ _ (fun _ => True) (fun _ => False) (by rfl) (by rfl) FN.out (Kd.R_reads' FA.out).2.2 (fun _ _ h => h) (fun _ h => h.elim) (fun _ _ => trivial) HB.out HB.out.size (by have h1 := HXL.out; have h2 := HTL.out; simp only [List.length_cons, List.length_nil]; omega) ?_; intro vx w9 ho hb hg hat; (try replace FT := Aside0.mk (Kd.R_over FT.out FN.out (by decide) hg)); (try replace FL := Aside0.mk (Kd.R_over FL.out FN.out (by decide) hg)); replace HPB := Aside0.mk (blk_grown HPB.out hg (Kd.R_ne FN.out HPB.out (by decide))); replace H7 := Aside0.mk (blk_grown H7.out hg (Kd.R_ne FN.out H7.out (by decide))); replace HL := Aside0.mk (blk_grown HL.out hg (Kd.R_ne FN.out HL.out (by decide))); replace HB := Aside0.mk hb; obtain ⟨A50, c50, e9⟩ := Kd.R_slice ho; simp only [List.length_append, List.length_cons, List.length_nil, Nat.zero_add, Nat.reduceAdd] at e9; subst e9; replace FN := Aside0.mk ho; clear ho hb hg hat FA)
          refine hK.out _ _ ?_ ?_
          ·intro _; exact ⟨HPB.out, H7.out⟩
          clear hK K
          try simp only [Act.put, List.setIfInBounds_toArray, List.set_cons_zero, List.set_cons_succ]
          refine AnyT.taken (i := 15) (v := ?v290) rfl (by kernel_rfl) (by kernel_rfl) (by kernel_rfl) (by kernel_rfl) (fun _ _ _ h => h) (Or.inl ⟨by rfl, ?y290⟩) ?s290 ?_
          case y290 =>
           intro wSW hSW
           (have y0 : wSW.cell? ⟨gp, 0, none⟩ = some (.slice AN xs.length cN) := (blk_cell hSW.1 0).trans rfl; have y1 : wSW.cell? ⟨gp, 1, none⟩ = some (.slice AT ts.length cT) := (blk_cell hSW.1 1).trans rfl; have y2 : wSW.cell? ⟨g7, 0, none⟩ = some (.string t0) := (blk_cell hSW.2 0).trans rfl; have y3 : wSW.cell? ⟨g7, 1, none⟩ = some (.string t1) := (blk_cell hSW.2 1).trans rfl; have y4 : wSW.cell? ⟨g7, 2, none⟩ = some (.bool bq) := (blk_cell hSW.2 2).trans rfl; go_simp)
           all_goals with_reducible rfl
          case s290 => exact ⟨HPB.out, H7.out⟩
          try simp only [Act.put, List.setIfInBounds_toArray, List.set_cons_zero, List.set_cons_succ]
          refine AnyT.ready (rs := [14]) (by kernel_rfl) (by simp) (AllT.step rfl (fun K hK => ?b29114) AllT.nil)
          case b29114 =>
           (refine Kd.R_append_rows_step Kd.string (w0 := w) w.heap.size (by rfl) (.tmp 52) (.tmp 57) 22 9 (.string ⟨#[]⟩) 16 (by rfl) Try.underlying22 info9 rfl (by decide) (by omega) (.slice AT ts.length cT) ts [t0, t1] _ _ _ (fun _ => True) (fun _ => False) (by rfl) (by rfl) FT.out (Kd.R_reads' FL.out).2.2 (fun _ _ h => h) (fun _ h => h.elim) (fun _ _ => trivial) HB.out HB.out.size (by have h1 := HXL.out; have h2 := HTL.out; simp only [List.length_cons, List.length_nil]; omega) ?_; intro vx w9 ho hb hg hat; (try replace FN := Aside0.mk (Kd.R_over FN.out FT.out (by decide) hg)); replace HPB := Aside0.mk (blk_grown HPB.out hg (Kd.R_ne FT.out HPB.out (by decide))); replace H7 := Aside0.mk (blk_grown H7.out hg (Kd.R_ne FT.out H7.out (by decide))); replace HL := Aside0.mk (blk_grown HL.out hg (Kd.R_ne FT.out HL.out (by decide))); replace HB := Aside0.mk hb; obtain ⟨A58, c58, e9⟩ := Kd.R_slice ho; simp only [List.length_append, List.length_cons, List.length_nil, Nat.zero_add, Nat.reduceAdd] at e9; subst e9; replace FT := Aside0.mk ho; clear ho hb hg hat FL)
           refine hK.out _ _ ?_ ?_
           ·intro _; exact ⟨HPB.out, H7.out⟩
           clear hK K
           try simp only [Act.put, List.setIfInBounds_toArray, List.set_cons_zero, List.set_cons_succ]
           refine AnyT.ready (rs := [16]) (by kernel_rfl) (by simp) (AllT.step rfl (fun K hK => ?b29316) AllT.nil)
           case b29316 =>
            (have hs0 : w9.cell? ⟨gp, 0, none⟩ = some (.slice AN xs.length cN) := (blk_cell HPB.out 0).trans rfl; have hf0 := blk_frozen HPB.out 0; go_simp)
            refine hK.out _ _ ?_ ?_
            ·exact past (by kernel_rfl)
            clear hK K
            try simp only [Act.put, List.setIfInBounds_toArray, List.set_cons_zero, List.set_cons_succ]
            refine AnyT.ready (rs := [17]) (by kernel_rfl) (by simp) (AllT.step rfl (fun K hK => ?b29517) AllT.nil)
            case b29517 =>
             go_simp
             refine hK.out _ _ ?_ ?_
             ·exact past (by kernel_rfl)
             clear hK K
             try simp only [Act.put, List.setIfInBounds_toArray, List.set_cons_zero, List.set_cons_succ]
             refine AnyT.ready (rs := [18]) (by kernel_rfl) (by simp) (AllT.step rfl (fun K hK => ?b29718) AllT.nil)
             case b29718 =>
              (have hs1 : (w9.setCell ⟨gp, 0, none⟩ (.slice A50 (xs.length + 1) c50)).cell? ⟨gp, 1, none⟩ = some (.slice AT ts.length cT) := (blk_cell (blk_set HPB.out 0 (.slice A50 (xs.length + 1) c50)) 1).trans rfl; have hf1 := blk_frozen (blk_set HPB.out 0 (.slice A50 (xs.length + 1) c50)) 1; go_simp)
              refine hK.out _ _ ?_ ?_
              ·exact past (by kernel_rfl)
              clear hK K
              try simp only [Act.put, List.setIfInBounds_toArray, List.set_cons_zero, List.set_cons_succ]
              refine AnyT.done (by kernel_rfl) ?_ _
              refine NoPanic.normal ?_
              (have HE := Aside0.mk (PE.of HL.out HB.out FN.out FT.out HPB.out HG.out); have hm := Aside0.mk (round_less hx.out HLT.out); clear FN FT HPB HB H7 HL HG; go_wp2; rw [HW.out]; exact ⟨⟨i + 1, x + 1, xs ++ [(oneI bq)], ts ++ [t0, t1], _, _, rfl, HI, ⟨HLT.out⟩, ⟨HXS.out.symm⟩, ⟨HTS.out.symm⟩, HE⟩, hm.out⟩)
      case b25413 =>
       (refine Kd.R_lit_step Kd.string (w0 := w) w.heap.size 9 (by rfl) (N := 57) (by rfl) (xs := [t0, t1]) (inner := [.string t0, .string t1]) (ok := fun _ => True) (okp := fun _ => True) ?hr (reps_texts _ _ _ [t0, t1]) (fun _ h => h) trivial HB.out HB.out.size (by simp) ?_; (case hr => first | (go_simp; done) | (go_simp; rfl)); intro vx w9 ho hb hg hat; (try replace FA := Aside0.mk (Kd.R_grown FA.out hg (fun _ _ => by simp))); (try replace FL := Aside0.mk (Kd.R_grown FL.out hg (fun _ _ => by simp))); replace FN := Aside0.mk (Kd.R_grown FN.out hg (fun _ _ => by simp)); replace FT := Aside0.mk (Kd.R_grown FT.out hg (fun _ _ => by simp)); replace HPB := Aside0.mk (blk_grown HPB.out hg (by simp)); replace H7 := Aside0.mk (blk_grown H7.out hg (by simp)); replace HL := Aside0.mk (blk_grown HL.out hg (by simp)); replace HB := Aside0.mk hb; obtain ⟨A57, c57, e9⟩ := Kd.R_slice ho; subst e9; have FL := Aside0.mk ho; clear ho hb hg hat)
       refine hK.out _ _ ?_ ?_
       ·intro _; exact ⟨HPB.out, H7.out⟩
       clear hK K
       try simp only [Act.put, List.setIfInBounds_toArray, List.set_cons_zero, List.set_cons_succ]
       refine AnyT.ready (rs := [4]) (by kernel_rfl) (by simp) (AllT.step rfl (fun K hK => ?b30104) AllT.nil)
       case b30104 =>
        (refine goes_ Try.func20 (by kernel_rfl) rfl #[.bool bq] (by rfl) rfl rfl (by (try simp only [List.map_toArray, List.map_cons, List.map_nil]); first | done | rfl) ?_; refine (one_calls bq _).mono ?_; rintro e w9 ⟨rfl, hb⟩; refine ⟨_, rfl, ?_⟩; (try replace FA := Aside0.mk (Kd.R_below FA.out hb)); (try replace FL := Aside0.mk (Kd.R_below FL.out hb)); replace FN := Aside0.mk (Kd.R_below FN.out hb); replace FT := Aside0.mk (Kd.R_below FT.out hb); replace HPB := Aside0.mk (blk_below HPB.out hb); replace H7 := Aside0.mk (blk_below H7.out hb); replace HL := Aside0.mk (blk_below HL.out hb); replace HB := Aside0.mk (below_step HB.out hb); clear hb)
        refine hK.out _ _ ?_ ?_
        ·intro _; exact ⟨HPB.out, H7.out⟩
        clear hK K
        try simp only [Act.put, List.setIfInBounds_toArray, List.set_cons_zero, List.set_cons_succ]
        refine AnyT.ready (rs := [5]) (by kernel_rfl) (by simp) (AllT.step rfl (fun K hK => ?b30305) AllT.nil)
        case b30305 =>
         (refine Kd.R_lit_step (Kd.int .i64) (w0 := w) w.heap.size 3 (by rfl) (N := 49) (by rfl) (xs := [(oneI bq)]) (inner := [.int .i64 (oneI bq)]) (ok := fun _ => True) (okp := fun _ => True) ?hr (reps_ints _ _ _ [(oneI bq)]) (fun _ h => h) trivial HB.out HB.out.size (by simp) ?_; (case hr => first | (go_simp; done) | (go_simp; rfl)); intro vx w9 ho hb hg hat; (try replace FA := Aside0.mk (Kd.R_grown FA.out hg (fun _ _ => by simp))); (try replace FL := Aside0.mk (Kd.R_grown FL.out hg (fun _ _ => by simp))); replace FN := Aside0.mk (Kd.R_grown FN.out hg (fun _ _ => by simp)); replace FT := Aside0.mk (Kd.R_grown FT.out hg (fun _ _ => by simp)); replace HPB := Aside0.mk (blk_grown HPB.out hg (by simp)); replace H7 := Aside0.mk (blk_grown H7.out hg (by simp)); replace HL := Aside0.mk (blk_grown HL.out hg (by simp)); replace HB := Aside0.mk hb; obtain ⟨A49, c49, e9⟩ := Kd.R_slice ho; subst e9; have FA := Aside0.mk ho; clear ho hb hg hat)
         refine hK.out _ _ ?_ ?_
         ·intro _; exact ⟨HPB.out, H7.out⟩
         clear hK K
         try simp only [Act.put, List.setIfInBounds_toArray, List.set_cons_zero, List.set_cons_succ]
         refine AnyT.ready (rs := [6]) (by kernel_rfl) (by simp) (AllT.step rfl (fun K hK => ?b30506) AllT.nil)
         case b30506 =>
          (refine Kd.R_append_rows_step (Kd.int .i64) (w0 := w) w.heap.size (by rfl) (.tmp 45) (.tmp 49) 46 3 (.int .i64 0) 8 (by rfl) Try.underlying46 info3 rfl (by decide) (by omega) (.slice AN xs.length cN) xs [(oneI bq)] _ _ _ (fun _ => True) (fun _ => False) (by rfl) (by rfl) FN.out (Kd.R_reads' FA.out).2.2 (fun _ _ h => h) (fun _ h => h.elim) (fun _ _ => trivial) HB.out HB.out.size (by have h1 := HXL.out; have h2 := HTL.out; simp only [List.length_cons, List.length_nil]; omega) ?_; intro vx w9 ho hb hg hat; (try replace FT := Aside0.mk (Kd.R_over FT.out FN.out (by decide) hg)); (try replace FL := Aside0.mk (Kd.R_over FL.out FN.out (by decide) hg)); replace HPB := Aside0.mk (blk_grown HPB.out hg (Kd.R_ne FN.out HPB.out (by decide))); replace H7 := Aside0.mk (blk_grown H7.out hg (Kd.R_ne FN.out H7.out (by decide))); replace HL := Aside0.mk (blk_grown HL.out hg (Kd.R_ne FN.out HL.out (by decide))); replace HB := Aside0.mk hb; obtain ⟨A50, c50, e9⟩ := Kd.R_slice ho; simp only [List.length_append, List.length_cons, List.length_nil, Nat.zero_add, Nat.reduceAdd] at e9; subst e9; replace FN := Aside0.mk ho; clear ho hb hg hat FA)
          refine hK.out _ _ ?_ ?_
          ·intro _; exact ⟨HPB.out, H7.out⟩
          clear hK K
          try simp only [Act.put, List.setIfInBounds_toArray, List.set_cons_zero, List.set_cons_succ]
          refine AnyT.taken (i := 15) (v := ?v307) rfl (by kernel_rfl) (by kernel_rfl) (by kernel_rfl) (by kernel_rfl) (fun _ _ _ h => h) (Or.inl ⟨by rfl, ?y307⟩) ?s307 ?_
          case y307 =>
           intro wSW hSW
           (have y0 : wSW.cell? ⟨gp, 0, none⟩ = some (.slice AN xs.length cN) := (blk_cell hSW.1 0).trans rfl; have y1 : wSW.cell? ⟨gp, 1, none⟩ = some (.slice AT ts.length cT) := (blk_cell hSW.1 1).trans rfl; have y2 : wSW.cell? ⟨g7, 0, none⟩ = some (.string t0) := (blk_cell hSW.2 0).trans rfl; have y3 : wSW.cell? ⟨g7, 1, none⟩ = some (.string t1) := (blk_cell hSW.2 1).trans rfl; have y4 : wSW.cell? ⟨g7, 2, none⟩ = some (.bool bq) := (blk_cell hSW.2 2).trans rfl; go_simp)
           all_goals with_reducible rfl
          case s307 => exact ⟨HPB.out, H7.out⟩
          try simp only [Act.put, List.setIfInBounds_toArray, List.set_cons_zero, List.set_cons_succ]
          refine AnyT.ready (rs := [14]) (by kernel_rfl) (by simp) (AllT.step rfl (fun K hK => ?b30814) AllT.nil)
          case b30814 =>
           (refine Kd.R_append_rows_step Kd.string (w0 := w) w.heap.size (by rfl) (.tmp 52) (.tmp 57) 22 9 (.string ⟨#[]⟩) 16 (by rfl) Try.underlying22 info9 rfl (by decide) (by omega) (.slice AT ts.length cT) ts [t0, t1] _ _ _ (fun _ => True) (fun _ => False) (by rfl) (by rfl) FT.out (Kd.R_reads' FL.out).2.2 (fun _ _ h => h) (fun _ h => h.elim) (fun _ _ => trivial) HB.out HB.out.size (by have h1 := HXL.out; have h2 := HTL.out; simp only [List.length_cons, List.length_nil]; omega) ?_; intro vx w9 ho hb hg hat; (try replace FN := Aside0.mk (Kd.R_over FN.out FT.out (by decide) hg)); replace HPB := Aside0.mk (blk_grown HPB.out hg (Kd.R_ne FT.out HPB.out (by decide))); replace H7 := Aside0.mk (blk_grown H7.out hg (Kd.R_ne FT.out H7.out (by decide))); replace HL := Aside0.mk (blk_grown HL.out hg (Kd.R_ne FT.out HL.out (by decide))); replace HB := Aside0.mk hb; obtain ⟨A58, c58, e9⟩ := Kd.R_slice ho; simp only [List.length_append, List.length_cons, List.length_nil, Nat.zero_add, Nat.reduceAdd] at e9; subst e9; replace FT := Aside0.mk ho; clear ho hb hg hat FL)
           refine hK.out _ _ ?_ ?_
           ·intro _; exact ⟨HPB.out, H7.out⟩
           clear hK K
           try simp only [Act.put, List.setIfInBounds_toArray, List.set_cons_zero, List.set_cons_succ]
           refine AnyT.ready (rs := [16]) (by kernel_rfl) (by simp) (AllT.step rfl (fun K hK => ?b31016) AllT.nil)
           case b31016 =>
            (have hs0 : w9.cell? ⟨gp, 0, none⟩ = some (.slice AN xs.length cN) := (blk_cell HPB.out 0).trans rfl; have hf0 := blk_frozen HPB.out 0; go_simp)
            refine hK.out _ _ ?_ ?_
            ·exact past (by kernel_rfl)
            clear hK K
            try simp only [Act.put, List.setIfInBounds_toArray, List.set_cons_zero, List.set_cons_succ]
            refine AnyT.ready (rs := [17]) (by kernel_rfl) (by simp) (AllT.step rfl (fun K hK => ?b31217) AllT.nil)
            case b31217 =>
             go_simp
             refine hK.out _ _ ?_ ?_
             ·exact past (by kernel_rfl)
             clear hK K
             try simp only [Act.put, List.setIfInBounds_toArray, List.set_cons_zero, List.set_cons_succ]
             refine AnyT.ready (rs := [18]) (by kernel_rfl) (by simp) (AllT.step rfl (fun K hK => ?b31418) AllT.nil)
             case b31418 =>
              (have hs1 : (w9.setCell ⟨gp, 0, none⟩ (.slice A50 (xs.length + 1) c50)).cell? ⟨gp, 1, none⟩ = some (.slice AT ts.length cT) := (blk_cell (blk_set HPB.out 0 (.slice A50 (xs.length + 1) c50)) 1).trans rfl; have hf1 := blk_frozen (blk_set HPB.out 0 (.slice A50 (xs.length + 1) c50)) 1; go_simp)
              refine hK.out _ _ ?_ ?_
              ·exact past (by kernel_rfl)
              clear hK K
              try simp only [Act.put, List.setIfInBounds_toArray, List.set_cons_zero, List.set_cons_succ]
              refine AnyT.done (by kernel_rfl) ?_ _
              refine NoPanic.normal ?_
              (have HE := Aside0.mk (PE.of HL.out HB.out FN.out FT.out HPB.out HG.out); have hm := Aside0.mk (round_less hx.out HLT.out); clear FN FT HPB HB H7 HL HG; go_wp2; rw [HW.out]; exact ⟨⟨i + 1, x + 1, xs ++ [(oneI bq)], ts ++ [t0, t1], _, _, rfl, HI, ⟨HLT.out⟩, ⟨HXS.out.symm⟩, ⟨HTS.out.symm⟩, HE⟩, hm.out⟩)
     ·have c1 : decide (x < (l0_8.length : Int)) = false := decide_eq_false (by omega)
      obtain rfl : i = l0_8.length := by omega
      have HC : Aside0 (pack_Encode.f k xs ts = some (r1, r2)) := ⟨by rw [hxs.out, hts.out, List.take_length]; exact HPK.out⟩
      clear HPK hxs hts hx hi hxi hile hlt
      obtain ⟨AN, cN, eN⟩ := Kd.R_slice HP.out.ns
      subst eN
      obtain ⟨AT, cT, eT⟩ := Kd.R_slice HP.out.ts
      subst eT
      have hp0 : wr.cell? ⟨gp, 0, none⟩ = some (.slice AN xs.length cN) := (blk_cell HP.out.bp 0).trans rfl
      have hp1 : wr.cell? ⟨gp, 1, none⟩ = some (.slice AT ts.length cT) := (blk_cell HP.out.bp 1).trans rfl
      go_wp2_with (go_at_call 21; refine (pack_Encode.calls k _ _ xs _ _ ts r1 r2 _ (Kd.R_reads' HP.out.ns).2.2 (Kd.R_reads' HP.out.ns).2.1 (Kd.R_reads' HP.out.ts).2.2 (Kd.R_reads' HP.out.ts).2.1 HC.out).mono ?_; rintro e w9 ⟨rfl, hb⟩; have HB9 := Aside0.mk (below_step HP.out.bel hb); clear hb)
      go_ret2
      exact ⟨rfl, HB9.out⟩
  ·rw [if_neg hl] at H
   cases H
 ·rw [if_neg c3] at H
  have c3b0 : (t == 0) = false := beq_eq_false_iff_ne.mpr c3
  have c3b1 : (t != 0) = true := bne_iff_ne.mpr c3
  simp only [Option.some.injEq, Prod.mk.injEq] at H
  obtain ⟨rfl, rfl⟩ := H
  go_enter Try.func9, Try.ntmps9
  go_wp2_with (first | ((with_reducible refine gate_dst (N := 1) rfl ?_); refine box_event ?hg (N := 1) ?hd (cs := #[.int .i64 a0_0, .int .i64 a0_1, .int .i64 a0_2, .int .i64 a0_3, .string a0_4, .string a0_5, .bool a0_6, .slice A0_7 l0_7.length c0_7, .slice A0_8 l0_8.length c0_8]) (t := 25) ?hr ?_; (case hd => rfl); (case hg => rfl); (case hr => first | (go_simp; done) | (go_simp; rfl)); intro gl hgl w1 hbox hb; have HB := Aside0.mk hb; have BL := Aside0.mk hbox; clear hgl hb hbox; have hcz_0 : w1.cell? ⟨gl, 0, none⟩ = some (.int .i64 a0_0) := (blk_cell BL.out 0).trans rfl; have hcz_1 : w1.cell? ⟨gl, 1, none⟩ = some (.int .i64 a0_1) := (blk_cell BL.out 1).trans rfl; have hcz_2 : w1.cell? ⟨gl, 2, none⟩ = some (.int .i64 a0_2) := (blk_cell BL.out 2).trans rfl; have hcz_3 : w1.cell? ⟨gl, 3, none⟩ = some (.int .i64 a0_3) := (blk_cell BL.out 3).trans rfl; have hcz_4 : w1.cell? ⟨gl, 4, none⟩ = some (.string a0_4) := (blk_cell BL.out 4).trans rfl; have hcz_5 : w1.cell? ⟨gl, 5, none⟩ = some (.string a0_5) := (blk_cell BL.out 5).trans rfl; have hcz_6 : w1.cell? ⟨gl, 6, none⟩ = some (.bool a0_6) := (blk_cell BL.out 6).trans rfl; have hcz_7 : w1.cell? ⟨gl, 7, none⟩ = some (.slice A0_7 l0_7.length c0_7) := (blk_cell BL.out 7).trans rfl; have hcz_8 : w1.cell? ⟨gl, 8, none⟩ = some (.slice A0_8 l0_8.length c0_8) := (blk_cell BL.out 8).trans rfl) | (go_at_call 11; refine (record_Check.calls a0_0 a0_1 a0_2 a0_3 a0_4 a0_5 a0_6 _ _ l0_7 _ _ l0_8 _ _ (Kd.C_below HR7.out HB.out) HC7.out (Kd.C_below HR8.out HB.out) HC8.out A2.out).mono ?_; rintro e w2 ⟨rfl, hb⟩; have HB2 := Aside0.mk (below_step HB.out hb); have BL2 := Aside0.mk (blk_below BL.out hb); clear hb))
  go_ret2
  exact ⟨rfl, HB2.out⟩
end Go.Proofs.Ytbfjbcaabijpfaa.Al

namespace Go.Proofs.Ytbfjbcaabijpfaa.Al
open Go.RowKit Go.Proofs.YtbfjbcaabijpfaaW.PrintWords Go.Proofs.YtbfjbcaabijpfaaW.PrintLast Go.Proofs.YtbfjbcaabijpfaaW.PrintMore
attribute [local go_sem] max2_int min2_int max_two min_two max_three min_three max_four min_four   -- for this text's walks alone
set_option linter.unusedVariables false
set_option linter.unusedSimpArgs false
attribute [local go_sem high] eqA50
def corncribbook_SameTexts.l0 : Nat → List ByteArray → List ByteArray → Int → Option (Bool)
 |0, _, _, _ => none
 |k + 1, x0, x1, x5 => if x5 < (x0.length : Int) then (if 0 ≤ x5 then (if x5 < (x1.length : Int) then (if (rdOf ByteArray.empty x0 x5).toList = (rdOf ByteArray.empty x1 x5).toList then (corncribbook_SameTexts.l0 k x0 x1 (wrap64 (x5 + 1))) else (some false)) else (none)) else (none)) else (some true)
def corncribbook_SameTexts.f (k : Nat) (l0 : List ByteArray) (l1 : List ByteArray) : Option (Bool) := if (l0.length : Int) = (l1.length : Int) then (corncribbook_SameTexts.l0 k l0 l1 0) else (some false)
theorem corncribbook_SameTexts.mono_l : ∀ k, (∀ y0 y1 y2, LeO (corncribbook_SameTexts.l0 k y0 y1 y2) (corncribbook_SameTexts.l0 (k + 1) y0 y1 y2))
 |0 => fun _ _ _ r h => by simp [corncribbook_SameTexts.l0] at h
 |k + 1 => by
  have ih0 := corncribbook_SameTexts.mono_l k
  ·intro y0 y1 y2
   unfold corncribbook_SameTexts.l0
   repeat' first
   |(with_reducible exact ih0 _ _ _)
   |(with_reducible exact LeO.refl _)
   |(with_reducible exact LeO.none _)
   |(with_reducible refine LeO.ite ?_ ?_)
   |(with_reducible refine LeO.bind ?_ (fun _ => ?_))
   |exact ih0 _ _ _
   |exact LeO.none _
   |refine LeO.ite ?_ ?_
   |refine LeO.bind ?_ (fun _ => ?_)
theorem corncribbook_SameTexts.mono : ∀ a0 a1 k, LeO (corncribbook_SameTexts.f k a0 a1) (corncribbook_SameTexts.f (k + 1) a0 a1) := by
 intro a0 a1 k
 have ih0 := corncribbook_SameTexts.mono_l k
 unfold corncribbook_SameTexts.f
 repeat' first
   |(with_reducible exact ih0 _ _ _)
   |(with_reducible exact LeO.refl _)
   |(with_reducible exact LeO.none _)
   |(with_reducible refine LeO.ite ?_ ?_)
   |(with_reducible refine LeO.bind ?_ (fun _ => ?_))
   |exact ih0 _ _ _
   |exact LeO.none _
   |refine LeO.ite ?_ ?_
   |refine LeO.bind ?_ (fun _ => ?_)
set_option maxHeartbeats 8000000 in
set_option maxRecDepth 100000 in
theorem corncribbook_SameTexts.calls (k : Nat) (A0 : Option Addr) (c0 : Nat) (l0 : List ByteArray) (A1 : Option Addr) (c1 : Nat) (l1 : List ByteArray) (r : Bool) (w : World) (hr0 : Kd.C Kd.string w A0 l0.length l0) (hc0 : l0.length ≤ c0) (hr1 : Kd.C Kd.string w A1 l1.length l1) (hc1 : l1.length ≤ c1) (h : corncribbook_SameTexts.f k l0 l1 = some r) :
  Calls Try.prog 31 #[.slice A0 l0.length c0, .slice A1 l1.length c1] w fun e w' => e = .returned (.bool r) ∧ Drawn0 w w' := by
 have HR0 := Aside0.mk hr0
 have HC0 := Aside0.mk hc0
 clear hr0 hc0
 have HR1 := Aside0.mk hr1
 have HC1 := Aside0.mk hc1
 clear hr1 hc1
 have H : (if (l0.length : Int) = (l1.length : Int) then (corncribbook_SameTexts.l0 k l0 l1 0) else (some false)) = some r := h
 clear h
 by_cases c3 : (l0.length : Int) = (l1.length : Int)
 ·rw [if_pos c3] at H
  have c3b0 : ((l0.length : Int) == (l1.length : Int)) = true := beq_iff_eq.mpr c3
  have c3b1 : ((l0.length : Int) != (l1.length : Int)) = false := bne_eq_false_iff_eq.mpr c3
  have c3b2 : (l0.length == l1.length) = true := by first | simpa using c3 | (simp at c3 ⊢; omega)
  clear c3
  have H' := Aside0.mk H
  clear H
  go_enter Try.func31, Try.ntmps31
  go_wp2
  repeat (go_quiet (fail); try go_wp2)
  go_loopg [5] k (fun kq v5 w' => ∃ (x5_1 : Int), v5 = .int .i64 x5_1 ∧ Aside0 (corncribbook_SameTexts.l0 kq l0 l1 x5_1 = some r) ∧ Aside0 (kq ≤ k) ∧ Drawn0 w w')
  case atStart => exact ⟨(0), (by first | rfl | (simp; done) | (simp [*]; done) | (simp [bne_nil_]; done)), H', ⟨Nat.le_refl _⟩, by repeat (first | exact Drawn0.refl _ | apply Drawn0.step)⟩
  case round =>
   clear H'
   (try clear c1); (try clear p2); (try clear c3); (try clear c3b0); (try clear c3b1); (try clear c3b2)
   obtain ⟨x5_1, rfl, HA, HK1, ⟨m1, rfl⟩⟩ := hrel
   cases gk with
   |zero => exact absurd HA.out (by simp [corncribbook_SameTexts.l0])
   |succ k1 =>
    have H := HA.out
    clear HA
    simp only [corncribbook_SameTexts.l0] at H
    by_cases c4 : x5_1 < (l0.length : Int)
    ·rw [if_pos c4] at H
     have c4b0 : decide (x5_1 < (l0.length : Int)) = true := decide_eq_true c4
     clear c4
     by_cases c5 : 0 ≤ x5_1
     ·rw [if_pos c5] at H
      have c5b0 : decide (0 ≤ x5_1) = true := decide_eq_true c5
      clear c5
      by_cases c6 : x5_1 < (l1.length : Int)
      ·rw [if_pos c6] at H
       have c6b0 : decide (x5_1 < (l1.length : Int)) = true := decide_eq_true c6
       clear c6
       by_cases c7 : (rdOf ByteArray.empty l0 x5_1).toList = (rdOf ByteArray.empty l1 x5_1).toList
       ·rw [if_pos c7] at H
        have c7b0 : ((rdOf ByteArray.empty l0 x5_1).toList == (rdOf ByteArray.empty l1 x5_1).toList) = true := beq_iff_eq.mpr c7
        have c7b1 : ((rdOf ByteArray.empty l0 x5_1).toList != (rdOf ByteArray.empty l1 x5_1).toList) = false := bne_eq_false_iff_eq.mpr c7
        clear c7
        have H' := Aside0.mk H
        clear H
        have p234 : 0 ≤ (x5_1 : Int) := of_decide_eq_true (by first | (with_reducible assumption) | assumption)
        have q234 : x5_1 < (l0.length : Int) := of_decide_eq_true (by first | (with_reducible assumption) | assumption)
        obtain ⟨ad234, e234, hx234_0⟩ := Kd.at_string HR0.out x5_1 p234 q234
        cases e234
        replace p234 := eq_true p234
        replace q234 := eq_true q234
        have p235 : 0 ≤ (x5_1 : Int) := of_decide_eq_true (by first | (with_reducible assumption) | assumption)
        have q235 : x5_1 < (l1.length : Int) := of_decide_eq_true (by first | (with_reducible assumption) | assumption)
        obtain ⟨ad235, e235, hx235_0⟩ := Kd.at_string HR1.out x5_1 p235 q235
        cases e235
        replace p235 := eq_true p235
        replace q235 := eq_true q235
        go_wp2
        repeat (go_quiet (fail); try go_wp2)
        go_roundg k1
        case measure => have := HK1.out; omega
        case rel => exact ⟨(wrap64 (x5_1 + 1)), (by first | rfl | (simp; done) | (simp [*]; done) | (simp [bne_nil_]; done)), H', ⟨by have := HK1.out; omega⟩, by repeat (first | exact Drawn0.refl _ | apply Drawn0.step)⟩
       ·rw [if_neg c7] at H
        have c7b0 : ((rdOf ByteArray.empty l0 x5_1).toList == (rdOf ByteArray.empty l1 x5_1).toList) = false := beq_eq_false_iff_ne.mpr c7
        have c7b1 : ((rdOf ByteArray.empty l0 x5_1).toList != (rdOf ByteArray.empty l1 x5_1).toList) = true := bne_iff_ne.mpr c7
        obtain rfl := Option.some.inj H
        have p234 : 0 ≤ (x5_1 : Int) := of_decide_eq_true (by first | (with_reducible assumption) | assumption)
        have q234 : x5_1 < (l0.length : Int) := of_decide_eq_true (by first | (with_reducible assumption) | assumption)
        obtain ⟨ad234, e234, hx234_0⟩ := Kd.at_string HR0.out x5_1 p234 q234
        cases e234
        replace p234 := eq_true p234
        replace q234 := eq_true q234
        have p235 : 0 ≤ (x5_1 : Int) := of_decide_eq_true (by first | (with_reducible assumption) | assumption)
        have q235 : x5_1 < (l1.length : Int) := of_decide_eq_true (by first | (with_reducible assumption) | assumption)
        obtain ⟨ad235, e235, hx235_0⟩ := Kd.at_string HR1.out x5_1 p235 q235
        cases e235
        replace p235 := eq_true p235
        replace q235 := eq_true q235
        go_wp2
        repeat (go_quiet (fail); try go_wp2)
        go_ret
        exact ⟨by first | rfl | (simp; done) | (simp [*]; done) | (simp [bne_nil_]; done), by repeat (first | exact Drawn0.refl _ | apply Drawn0.step)⟩
      ·rw [if_neg c6] at H
       exact absurd H (by simp)
     ·rw [if_neg c5] at H
      exact absurd H (by simp)
    ·rw [if_neg c4] at H
     have c4b0 : decide (x5_1 < (l0.length : Int)) = false := decide_eq_false c4
     clear c4
     obtain rfl := Option.some.inj H
     go_wp2
     repeat (go_quiet (fail); try go_wp2)
     go_ret
     exact ⟨by first | rfl | (simp; done) | (simp [*]; done) | (simp [bne_nil_]; done), by repeat (first | exact Drawn0.refl _ | apply Drawn0.step)⟩
 ·rw [if_neg c3] at H
  have c3b0 : ((l0.length : Int) == (l1.length : Int)) = false := beq_eq_false_iff_ne.mpr c3
  have c3b1 : ((l0.length : Int) != (l1.length : Int)) = true := bne_iff_ne.mpr c3
  have c3b2 : (l0.length == l1.length) = false := by first | simpa using c3 | (simp at c3 ⊢; omega)
  obtain rfl := Option.some.inj H
  go_enter Try.func31, Try.ntmps31
  go_wp2
  repeat (go_quiet (fail); try go_wp2)
  go_ret
  exact ⟨by first | rfl | (simp; done) | (simp [*]; done) | (simp [bne_nil_]; done), by repeat (first | exact Drawn0.refl _ | apply Drawn0.step)⟩
end Go.Proofs.Ytbfjbcaabijpfaa.Al

namespace Go.Proofs.Ytbfjbcaabijpfaa.Al
open Go.RowKit Go.Proofs.YtbfjbcaabijpfaaW.PrintWords Go.Proofs.YtbfjbcaabijpfaaW.PrintLast Go.Proofs.YtbfjbcaabijpfaaW.PrintMore
attribute [local go_sem] max2_int min2_int max_two min_two max_three min_three max_four min_four   -- for this text's walks alone
set_option linter.unusedVariables false
set_option linter.unusedSimpArgs false
attribute [local go_sem high] eqA50
def corncribbook_SameWrites.l0 : Nat → List (S50) → List (S50) → Int → Option (Bool)
 |0, _, _, _ => none
 |k + 1, x0, x1, x5 => if x5 < (x0.length : Int) then (if 0 ≤ x5 then (if x5 < (x1.length : Int) then (if (!((((rd_T50 x0 x5).f0).toList) == (((rd_T50 x1 x5).f0).toList)) || (!((((rd_T50 x0 x5).f1).toList) == (((rd_T50 x1 x5).f1).toList)) || (!(((rd_T50 x0 x5).f2) == ((rd_T50 x1 x5).f2))))) = true then (some false) else (corncribbook_SameWrites.l0 k x0 x1 (wrap64 (x5 + 1)))) else (none)) else (none)) else (some true)
def corncribbook_SameWrites.f (k : Nat) (l0 : List (S50)) (l1 : List (S50)) : Option (Bool) := if (l0.length : Int) = (l1.length : Int) then (corncribbook_SameWrites.l0 k l0 l1 0) else (some false)
theorem corncribbook_SameWrites.mono_l : ∀ k, (∀ y0 y1 y2, LeO (corncribbook_SameWrites.l0 k y0 y1 y2) (corncribbook_SameWrites.l0 (k + 1) y0 y1 y2))
 |0 => fun _ _ _ r h => by simp [corncribbook_SameWrites.l0] at h
 |k + 1 => by
  have ih0 := corncribbook_SameWrites.mono_l k
  ·intro y0 y1 y2
   unfold corncribbook_SameWrites.l0
   repeat' first
   |(with_reducible exact ih0 _ _ _)
   |(with_reducible exact LeO.refl _)
   |(with_reducible exact LeO.none _)
   |(with_reducible refine LeO.ite ?_ ?_)
   |(with_reducible refine LeO.bind ?_ (fun _ => ?_))
   |exact ih0 _ _ _
   |exact LeO.none _
   |refine LeO.ite ?_ ?_
   |refine LeO.bind ?_ (fun _ => ?_)
theorem corncribbook_SameWrites.mono : ∀ a0 a1 k, LeO (corncribbook_SameWrites.f k a0 a1) (corncribbook_SameWrites.f (k + 1) a0 a1) := by
 intro a0 a1 k
 have ih0 := corncribbook_SameWrites.mono_l k
 unfold corncribbook_SameWrites.f
 repeat' first
   |(with_reducible exact ih0 _ _ _)
   |(with_reducible exact LeO.refl _)
   |(with_reducible exact LeO.none _)
   |(with_reducible refine LeO.ite ?_ ?_)
   |(with_reducible refine LeO.bind ?_ (fun _ => ?_))
   |exact ih0 _ _ _
   |exact LeO.none _
   |refine LeO.ite ?_ ?_
   |refine LeO.bind ?_ (fun _ => ?_)
set_option maxHeartbeats 8000000 in
set_option maxRecDepth 100000 in
theorem corncribbook_SameWrites.calls (k : Nat) (A0 : Option Addr) (c0 : Nat) (l0 : List (S50)) (A1 : Option Addr) (c1 : Nat) (l1 : List (S50)) (r : Bool) (w : World) (hr0 : Kd.C k50 w A0 l0.length l0) (hc0 : l0.length ≤ c0) (hr1 : Kd.C k50 w A1 l1.length l1) (hc1 : l1.length ≤ c1) (h : corncribbook_SameWrites.f k l0 l1 = some r) :
  Calls Try.prog 32 #[.slice A0 l0.length c0, .slice A1 l1.length c1] w fun e w' => e = .returned (.bool r) ∧ Drawn0 w w' := by
 have hu50 := Try.underlying50
 have HR0 := Aside0.mk hr0
 have HC0 := Aside0.mk hc0
 clear hr0 hc0
 have HR1 := Aside0.mk hr1
 have HC1 := Aside0.mk hc1
 clear hr1 hc1
 have H : (if (l0.length : Int) = (l1.length : Int) then (corncribbook_SameWrites.l0 k l0 l1 0) else (some false)) = some r := h
 clear h
 by_cases c3 : (l0.length : Int) = (l1.length : Int)
 ·rw [if_pos c3] at H
  have c3b0 : ((l0.length : Int) == (l1.length : Int)) = true := beq_iff_eq.mpr c3
  have c3b1 : ((l0.length : Int) != (l1.length : Int)) = false := bne_eq_false_iff_eq.mpr c3
  have c3b2 : (l0.length == l1.length) = true := by first | simpa using c3 | (simp at c3 ⊢; omega)
  clear c3
  have H' := Aside0.mk H
  clear H
  go_enter Try.func32, Try.ntmps32
  go_wp2
  repeat (go_quiet (fail); try go_wp2)
  go_loopg [5] k (fun kq v5 w' => ∃ (x5_1 : Int), v5 = .int .i64 x5_1 ∧ Aside0 (corncribbook_SameWrites.l0 kq l0 l1 x5_1 = some r) ∧ Aside0 (kq ≤ k) ∧ Drawn0 w w')
  case atStart => exact ⟨(0), (by first | rfl | (simp; done) | (simp [*]; done) | (simp [bne_nil_]; done)), H', ⟨Nat.le_refl _⟩, by repeat (first | exact Drawn0.refl _ | apply Drawn0.step)⟩
  case round =>
   clear H'
   (try clear c1); (try clear p2); (try clear c3); (try clear c3b0); (try clear c3b1); (try clear c3b2)
   obtain ⟨x5_1, rfl, HA, HK1, ⟨m1, rfl⟩⟩ := hrel
   cases gk with
   |zero => exact absurd HA.out (by simp [corncribbook_SameWrites.l0])
   |succ k1 =>
    have H := HA.out
    clear HA
    simp only [corncribbook_SameWrites.l0] at H
    by_cases c4 : x5_1 < (l0.length : Int)
    ·rw [if_pos c4] at H
     have c4b0 : decide (x5_1 < (l0.length : Int)) = true := decide_eq_true c4
     clear c4
     by_cases c5 : 0 ≤ x5_1
     ·rw [if_pos c5] at H
      have c5b0 : decide (0 ≤ x5_1) = true := decide_eq_true c5
      clear c5
      by_cases c6 : x5_1 < (l1.length : Int)
      ·rw [if_pos c6] at H
       have c6b0 : decide (x5_1 < (l1.length : Int)) = true := decide_eq_true c6
       clear c6
       by_cases c7 : (!((((rd_T50 l0 x5_1).f0).toList) == (((rd_T50 l1 x5_1).f0).toList)) || (!((((rd_T50 l0 x5_1).f1).toList) == (((rd_T50 l1 x5_1).f1).toList)) || (!(((rd_T50 l0 x5_1).f2) == ((rd_T50 l1 x5_1).f2))))) = true
       ·rw [if_pos c7] at H
        have c7b0 : (!((((rd_T50 l0 x5_1).f0).toList) == (((rd_T50 l1 x5_1).f0).toList)) || (!((((rd_T50 l0 x5_1).f1).toList) == (((rd_T50 l1 x5_1).f1).toList)) || (!(((rd_T50 l0 x5_1).f2) == ((rd_T50 l1 x5_1).f2))))) = true := c7
        clear c7
        obtain rfl := Option.some.inj H
        have p236 : 0 ≤ (x5_1 : Int) := of_decide_eq_true (by first | (with_reducible assumption) | assumption)
        have q236 : x5_1 < (l0.length : Int) := of_decide_eq_true (by first | (with_reducible assumption) | assumption)
        obtain ⟨ad236, e236, hx236_0, hx236_1, hx236_2⟩ := at_T50 HR0.out x5_1 p236 q236
        cases e236
        replace p236 := eq_true p236
        replace q236 := eq_true q236
        have p237 : 0 ≤ (x5_1 : Int) := of_decide_eq_true (by first | (with_reducible assumption) | assumption)
        have q237 : x5_1 < (l1.length : Int) := of_decide_eq_true (by first | (with_reducible assumption) | assumption)
        obtain ⟨ad237, e237, hx237_0, hx237_1, hx237_2⟩ := at_T50 HR1.out x5_1 p237 q237
        cases e237
        replace p237 := eq_true p237
        replace q237 := eq_true q237
        go_wp2
        repeat (go_quiet (fail); try go_wp2)
        go_ret
        exact ⟨by first | rfl | (simp; done) | (simp [*]; done) | (simp [bne_nil_]; done), by repeat (first | exact Drawn0.refl _ | apply Drawn0.step)⟩
       ·rw [if_neg c7] at H
        have c7b0 : (!((((rd_T50 l0 x5_1).f0).toList) == (((rd_T50 l1 x5_1).f0).toList)) || (!((((rd_T50 l0 x5_1).f1).toList) == (((rd_T50 l1 x5_1).f1).toList)) || (!(((rd_T50 l0 x5_1).f2) == ((rd_T50 l1 x5_1).f2))))) = false := by simpa using c7
        clear c7
        have H' := Aside0.mk H
        clear H
        have p236 : 0 ≤ (x5_1 : Int) := of_decide_eq_true (by first | (with_reducible assumption) | assumption)
        have q236 : x5_1 < (l0.length : Int) := of_decide_eq_true (by first | (with_reducible assumption) | assumption)
        obtain ⟨ad236, e236, hx236_0, hx236_1, hx236_2⟩ := at_T50 HR0.out x5_1 p236 q236
        cases e236
        replace p236 := eq_true p236
        replace q236 := eq_true q236
        have p237 : 0 ≤ (x5_1 : Int) := of_decide_eq_true (by first | (with_reducible assumption) | assumption)
        have q237 : x5_1 < (l1.length : Int) := of_decide_eq_true (by first | (with_reducible assumption) | assumption)
        obtain ⟨ad237, e237, hx237_0, hx237_1, hx237_2⟩ := at_T50 HR1.out x5_1 p237 q237
        cases e237
        replace p237 := eq_true p237
        replace q237 := eq_true q237
        go_wp2
        repeat (go_quiet (fail); try go_wp2)
        go_roundg k1
        case measure => have := HK1.out; omega
        case rel => exact ⟨(wrap64 (x5_1 + 1)), (by first | rfl | (simp; done) | (simp [*]; done) | (simp [bne_nil_]; done)), H', ⟨by have := HK1.out; omega⟩, by repeat (first | exact Drawn0.refl _ | apply Drawn0.step)⟩
      ·rw [if_neg c6] at H
       exact absurd H (by simp)
     ·rw [if_neg c5] at H
      exact absurd H (by simp)
    ·rw [if_neg c4] at H
     have c4b0 : decide (x5_1 < (l0.length : Int)) = false := decide_eq_false c4
     clear c4
     obtain rfl := Option.some.inj H
     go_wp2
     repeat (go_quiet (fail); try go_wp2)
     go_ret
     exact ⟨by first | rfl | (simp; done) | (simp [*]; done) | (simp [bne_nil_]; done), by repeat (first | exact Drawn0.refl _ | apply Drawn0.step)⟩
 ·rw [if_neg c3] at H
  have c3b0 : ((l0.length : Int) == (l1.length : Int)) = false := beq_eq_false_iff_ne.mpr c3
  have c3b1 : ((l0.length : Int) != (l1.length : Int)) = true := bne_iff_ne.mpr c3
  have c3b2 : (l0.length == l1.length) = false := by first | simpa using c3 | (simp at c3 ⊢; omega)
  obtain rfl := Option.some.inj H
  go_enter Try.func32, Try.ntmps32
  go_wp2
  repeat (go_quiet (fail); try go_wp2)
  go_ret
  exact ⟨by first | rfl | (simp; done) | (simp [*]; done) | (simp [bne_nil_]; done), by repeat (first | exact Drawn0.refl _ | apply Drawn0.step)⟩
end Go.Proofs.Ytbfjbcaabijpfaa.Al
