/- The walk of NetTruth. -/
import Derived.Test.YtnbomedhehoflaaPgc
namespace Go.Proofs.Ytnbomedhehoflaa.Al
open Go.RowKit Go.Proofs.YtnbomedhehoflaaW.PrintWords Go.Proofs.YtnbomedhehoflaaW.PrintLast Go.Proofs.YtnbomedhehoflaaW.PrintMore
set_option linter.unusedVariables false
set_option linter.unusedSimpArgs false
def corncriblaw15_NetTruth.f (l0 : List S41) : Option Bool := some true
def rg4_30_T : Bool × List (List Nat × List Nat) := (true, [([], []), ([0], [0]), ([1], [1]), ([2], [2]), ([2], [2]), ([2], [2]), ([4, 5, 2], [2, 4, 5]), ([6, 2], [2, 6]), ([7, 2, 2], [2, 7]), ([3, 8, 8, 2], [2, 3, 8]), ([9, 2], [2, 9]), ([2, 10], [2, 10])])
def rg4_30_B : List Nat := [0, 1, 3, 7, 7, 7, 55, 119, 247, 511, 1023, 2047]
theorem rg4_30_tab : rtab .any (opsOf Try.f4 30) = rg4_30_T := by kernel_rfl
theorem rg4_30_bits : waitsOk rg4_30_T.2 rg4_30_B = true := by kernel_rfl
def rg4_32_T : Bool × List (List Nat × List Nat) := (true, [([], []), ([], []), ([], []), ([1, 2], [1, 2]), ([0, 3], [0, 3]), ([], []), ([], []), ([6], [6]), ([5, 7], [5, 7]), ([4, 8, 4], [4, 8]), ([9, 9, 0, 1, 2, 3, 4, 5, 6, 7, 8, 9], [1, 5, 9])])
def rg4_32_B : List Nat := [0, 0, 0, 6, 15, 0, 0, 64, 224, 511, 1023]
theorem rg4_32_tab : rtab .any (opsOf Try.f4 32) = rg4_32_T := by kernel_rfl
theorem rg4_32_bits : waitsOk rg4_32_T.2 rg4_32_B = true := by kernel_rfl
set_option maxHeartbeats 16000000 in
set_option maxRecDepth 100000 in
theorem nettruth_ok (A0 : Option Addr) (c0 : Nat) (l0 : List S41) (w : World) (hr0 : Kd.C k41 w A0 l0.length l0) : Calls Try.prog 4 #[.slice A0 l0.length c0] w fun e w' => e = .returned (.bool true) ∧ Below w.heap.size w w' := by
  have hu32 := Try.underlying32
  have hu41 := Try.underlying41
  have HR0 := Aside0.mk hr0
  clear hr0
  go_enter Try.func4, Try.ntmps4
  go_upto_region 4 with (first | (go_at_call 8; refine (z_new w _ (Below.refl _ _) 40 (by decide) (by decide)).mono ?_; rintro e w1 ⟨g, rfl, hn, hb⟩; have HN1 := Aside0.mk hn; clear hn hb) | (go_at_call 9; refine (works_calls _).mono ?_; rintro e w2 ⟨rfl, hb⟩; have HN2 := Aside0.mk (HN1.out.below hb); clear hb))
  have HT0 : Aside0 (TS w w2 g [] (.slice none 0 0)) := ⟨HN2.out, Kd.R_nil _ _ _ _ _⟩
  have HO0 : Aside0 (OkT 0 []) := ⟨by decide, fun t ht => absurd ht List.not_mem_nil⟩
  clear HN1 HN2
  go_wp2
  go_loopw [5, 6] (fun v5 v6 wr => ∃ (i : Nat) (on : List Int), v6 = .int .i64 i ∧ i ≤ 100 ∧ Aside0 (OkT i on) ∧ Aside0 (TS w wr g on v5)) (fun _ v6 _ => 100 - (intOf v6).toNat)
  case atStart => exact ⟨0, [], rfl, by omega, HO0, HT0⟩
  case round =>
    obtain ⟨i, on, rfl, hi, HOi, HT⟩ := hrel
    clear HT0 HO0
    obtain ⟨A5, c5, hv5⟩ := Kd.R_slice HT.out.row
    subst hv5
    obtain ⟨n, hn⟩ : ∃ n, n = on.length := ⟨_, rfl⟩
    have HN := Aside0.mk hn
    rw [← hn] at HT ⊢
    have hl40 := HOi.out.1
    rw [← hn] at hl40
    clear hn
    by_cases hlt : i < l0.length ∧ i < 100
    rotate_left
    · by_cases hl1 : i < l0.length
      · have b1 : decide ((i : Int) < (l0.length : Int)) = true := decide_eq_true (by omega)
        have b2 : decide ((i : Int) < 100) = false := decide_eq_false (by omega)
        have hl2 : ¬ i < 100 := fun h => hlt ⟨hl1, h⟩
        clear hlt
        go_wp2
        have HJ0 : Aside0 (NZ w wr g 40 (fun _ => False) (pl1 (on.drop 0)) ∧ (Kd.int .i64).R 3 wr w.heap.size (fun _ => True) (.slice A5 n c5) on) := ⟨HT.out.net, HT.out.row⟩
        clear HT
        go_loopw [144] (fun v144 wr2 => ∃ j : Nat, v144 = .int .i64 j ∧ j ≤ n ∧ Aside0 (NZ w wr2 g 40 (fun _ => False) (pl1 (on.drop j)) ∧ (Kd.int .i64).R 3 wr2 w.heap.size (fun _ => True) (.slice A5 n c5) on)) (fun v144 _ => n - (intOf v144).toNat)
        case atStart => exact ⟨0, rfl, Nat.zero_le _, HJ0⟩
        case round =>
          obtain ⟨j, rfl, hj, HJ⟩ := hrel
          clear HJ0
          by_cases hjn : j < n
          · have e1 : decide ((j : Int) < (n : Int)) = true := decide_eq_true (by omega)
            have e2 : decide (j < n) = true := decide_eq_true hjn
            obtain ⟨gA, hgA⟩ : ∃ gA, A5 = some ⟨gA, 0, none⟩ := by
              obtain ⟨gA, cap, e, _⟩ := Kd.R_form HJ.out.2 (by rw [← HN.out]; omega)
              injection e with e _ _
              exact ⟨gA, e⟩
            subst hgA
            have hcell := int_at HJ.out.2 j hjn
            have HDL : Aside0 ((on.drop j).getD 0 0 = on.getD j 0 ∧ (on.drop j).length = n - j) := ⟨by rw [List.getD_eq_getElem?_getD, List.getElem?_drop, Nat.add_zero, ← List.getD_eq_getElem?_getD], by rw [List.length_drop, ← HN.out]⟩
            obtain ⟨ty, hty⟩ : ∃ ty, ty = on.getD j 0 := ⟨_, rfl⟩
            rw [← hty] at hcell HDL
            have HJN := Aside0.mk hjn
            clear hty
            go_upto_region 39 with (first | (go_at_call 12; refine (t_take2 HJ.out.1 HJ.out.2 (by have := HDL.out.2; omega) (by have := HDL.out.2; have := HJN.out; omega)).mono ?_; rw [HDL.out.1, List.drop_drop]; rintro e u3 ⟨A7, c7, A8, c8, rfl, hn, hr⟩; have HJ3 := Aside0.mk (And.intro hn hr); clear hn hr hcell) | ((with_reducible refine gate_dst (N := 15) rfl ?_); refine box_event ?hg15 (N := 15) ?hd15 (cs := #[.int .i64 0, .int .i64 0, .int .i64 0, .int .i64 0, .int .i64 0, .int .i64 0, .string (⟨#[]⟩ : ByteArray), .slice none 0 0, .slice none 0 0]) (t := 32) ?hr15 ?_; (case hd15 => rfl); (case hg15 => rfl); (case hr15 => first | (go_simp; done) | (go_simp; rfl)); intro gb hg w3 hbox hb; have BX15 := Aside0.mk hbox; have HBx15 := Aside0.mk hb; have GE15 := Aside0.mk (show u3.heap.size ≤ gb from Nat.le_of_eq hg.symm); have GL15 := Aside0.mk (blk_lt hbox); obtain ⟨hz0, hzf0, hz1, hzf1, hz2, hzf2, hz3, hzf3, hz4, hzf4, hz5, hzf5, hz6, hzf6, hz7, hzf7, hz8, hzf8⟩ := c9f hbox; clear hg hbox hb))
            have BY15 : Aside0 ((((((((((w3.setCell ⟨gb, 0, none⟩ (.int .i64 7)).setCell ⟨gb, 1, none⟩ (.int .i64 0)).setCell ⟨gb, 2, none⟩ (.int .i64 (1))).setCell ⟨gb, 3, none⟩ (.int .i64 (ty))).setCell ⟨gb, 4, none⟩ (.int .i64 0)).setCell ⟨gb, 5, none⟩ (.int .i64 0)).setCell ⟨gb, 6, none⟩ (.string (⟨#[]⟩ : ByteArray))).setCell ⟨gb, 7, none⟩ (.slice A7 0 c7)).setCell ⟨gb, 8, none⟩ (.slice A8 0 c8)).heap[gb]? = some (.cells #[.int .i64 7, .int .i64 0, .int .i64 (1), .int .i64 (ty), .int .i64 0, .int .i64 0, .string (⟨#[]⟩ : ByteArray), .slice A7 0 c7, .slice A8 0 c8] 32 (0, 0))) := ⟨set9 BX15.out⟩
            have HBy15 : Aside0 (Below u3.heap.size u3 (((((((((w3.setCell ⟨gb, 0, none⟩ (.int .i64 7)).setCell ⟨gb, 1, none⟩ (.int .i64 0)).setCell ⟨gb, 2, none⟩ (.int .i64 (1))).setCell ⟨gb, 3, none⟩ (.int .i64 (ty))).setCell ⟨gb, 4, none⟩ (.int .i64 0)).setCell ⟨gb, 5, none⟩ (.int .i64 0)).setCell ⟨gb, 6, none⟩ (.string (⟨#[]⟩ : ByteArray))).setCell ⟨gb, 7, none⟩ (.slice A7 0 c7)).setCell ⟨gb, 8, none⟩ (.slice A8 0 c8))) := ⟨below9 HBx15.out GE15.out⟩
            have HSy15 : Aside0 (gb < (((((((((w3.setCell ⟨gb, 0, none⟩ (.int .i64 7)).setCell ⟨gb, 1, none⟩ (.int .i64 0)).setCell ⟨gb, 2, none⟩ (.int .i64 (1))).setCell ⟨gb, 3, none⟩ (.int .i64 (ty))).setCell ⟨gb, 4, none⟩ (.int .i64 0)).setCell ⟨gb, 5, none⟩ (.int .i64 0)).setCell ⟨gb, 6, none⟩ (.string (⟨#[]⟩ : ByteArray))).setCell ⟨gb, 7, none⟩ (.slice A7 0 c7)).setCell ⟨gb, 8, none⟩ (.slice A8 0 c8)).heap.size) := ⟨blk_lt BY15.out⟩
            generalize (((((((((w3.setCell ⟨gb, 0, none⟩ (.int .i64 7)).setCell ⟨gb, 1, none⟩ (.int .i64 0)).setCell ⟨gb, 2, none⟩ (.int .i64 (1))).setCell ⟨gb, 3, none⟩ (.int .i64 (ty))).setCell ⟨gb, 4, none⟩ (.int .i64 0)).setCell ⟨gb, 5, none⟩ (.int .i64 0)).setCell ⟨gb, 6, none⟩ (.string (⟨#[]⟩ : ByteArray))).setCell ⟨gb, 7, none⟩ (.slice A7 0 c7)).setCell ⟨gb, 8, none⟩ (.slice A8 0 c8) : World) = W4 at BY15 HBy15 HSy15 ⊢
            clear hz0 hzf0 hz1 hzf1 hz2 hzf2 hz3 hzf3 hz4 hzf4 hz5 hzf5 hz6 hzf6 hz7 hzf7 hz8 hzf8
            have HJ5 : Aside0 (NZ w W4 g 40 (fun _ => False) (pl1 (on.drop (j + 1))) ∧ (Kd.int .i64).R 3 W4 w.heap.size (fun _ => True) (.slice (some ⟨gA, 0, none⟩) n c5) on) := ⟨HJ3.out.1.below HBy15.out, Kd.R_below HJ3.out.2 HBy15.out⟩
            have y3 : W4.cell? ⟨gb, 3, none⟩ = some (.int .i64 (ty)) := (blk_cell BY15.out 3).trans rfl
            go_wp2
            go_roundw
            case rel => exact ⟨j + 1, by go_num, HJN.out, HJ5⟩
            case measure => have := HJN.out; simp [intOf]; omega
          · obtain rfl : j = n := by omega
            have e1 : decide ((j : Int) < (j : Int)) = false := decide_eq_false (by omega)
            have e2 : decide (j < j) = false := decide_eq_false hjn
            have HL0 : Aside0 (((pl1 (on.drop j)).length : Int) = 0) := ⟨by rw [pl1_len, List.length_drop, ← HN.out]; omega⟩
            clear hjn
            go_wp2_with (go_at_call 13; refine (z_len HJ.out.1).mono ?_; rintro e w8 ⟨rfl, hb⟩; rw [HL0.out]; have HB8 := Aside0.mk (below_step (w := w) HJ.out.1.bel hb); clear hb)
            go_ret
            exact ⟨rfl, HB8.out⟩
      · have b1 : decide ((i : Int) < (l0.length : Int)) = false := decide_eq_false (by omega)
        clear hlt
        go_wp2
        have HJ0 : Aside0 (NZ w wr g 40 (fun _ => False) (pl1 (on.drop 0)) ∧ (Kd.int .i64).R 3 wr w.heap.size (fun _ => True) (.slice A5 n c5) on) := ⟨HT.out.net, HT.out.row⟩
        clear HT
        go_loopw [144] (fun v144 wr2 => ∃ j : Nat, v144 = .int .i64 j ∧ j ≤ n ∧ Aside0 (NZ w wr2 g 40 (fun _ => False) (pl1 (on.drop j)) ∧ (Kd.int .i64).R 3 wr2 w.heap.size (fun _ => True) (.slice A5 n c5) on)) (fun v144 _ => n - (intOf v144).toNat)
        case atStart => exact ⟨0, rfl, Nat.zero_le _, HJ0⟩
        case round =>
          obtain ⟨j, rfl, hj, HJ⟩ := hrel
          clear HJ0
          by_cases hjn : j < n
          · have e1 : decide ((j : Int) < (n : Int)) = true := decide_eq_true (by omega)
            have e2 : decide (j < n) = true := decide_eq_true hjn
            obtain ⟨gA, hgA⟩ : ∃ gA, A5 = some ⟨gA, 0, none⟩ := by
              obtain ⟨gA, cap, e, _⟩ := Kd.R_form HJ.out.2 (by rw [← HN.out]; omega)
              injection e with e _ _
              exact ⟨gA, e⟩
            subst hgA
            have hcell := int_at HJ.out.2 j hjn
            have HDL : Aside0 ((on.drop j).getD 0 0 = on.getD j 0 ∧ (on.drop j).length = n - j) := ⟨by rw [List.getD_eq_getElem?_getD, List.getElem?_drop, Nat.add_zero, ← List.getD_eq_getElem?_getD], by rw [List.length_drop, ← HN.out]⟩
            obtain ⟨ty, hty⟩ : ∃ ty, ty = on.getD j 0 := ⟨_, rfl⟩
            rw [← hty] at hcell HDL
            have HJN := Aside0.mk hjn
            clear hty
            go_upto_region 39 with (first | (go_at_call 12; refine (t_take2 HJ.out.1 HJ.out.2 (by have := HDL.out.2; omega) (by have := HDL.out.2; have := HJN.out; omega)).mono ?_; rw [HDL.out.1, List.drop_drop]; rintro e u3 ⟨A7, c7, A8, c8, rfl, hn, hr⟩; have HJ3 := Aside0.mk (And.intro hn hr); clear hn hr hcell) | ((with_reducible refine gate_dst (N := 15) rfl ?_); refine box_event ?hg15 (N := 15) ?hd15 (cs := #[.int .i64 0, .int .i64 0, .int .i64 0, .int .i64 0, .int .i64 0, .int .i64 0, .string (⟨#[]⟩ : ByteArray), .slice none 0 0, .slice none 0 0]) (t := 32) ?hr15 ?_; (case hd15 => rfl); (case hg15 => rfl); (case hr15 => first | (go_simp; done) | (go_simp; rfl)); intro gb hg w3 hbox hb; have BX15 := Aside0.mk hbox; have HBx15 := Aside0.mk hb; have GE15 := Aside0.mk (show u3.heap.size ≤ gb from Nat.le_of_eq hg.symm); have GL15 := Aside0.mk (blk_lt hbox); obtain ⟨hz0, hzf0, hz1, hzf1, hz2, hzf2, hz3, hzf3, hz4, hzf4, hz5, hzf5, hz6, hzf6, hz7, hzf7, hz8, hzf8⟩ := c9f hbox; clear hg hbox hb))
            have BY15 : Aside0 ((((((((((w3.setCell ⟨gb, 0, none⟩ (.int .i64 7)).setCell ⟨gb, 1, none⟩ (.int .i64 0)).setCell ⟨gb, 2, none⟩ (.int .i64 (1))).setCell ⟨gb, 3, none⟩ (.int .i64 (ty))).setCell ⟨gb, 4, none⟩ (.int .i64 0)).setCell ⟨gb, 5, none⟩ (.int .i64 0)).setCell ⟨gb, 6, none⟩ (.string (⟨#[]⟩ : ByteArray))).setCell ⟨gb, 7, none⟩ (.slice A7 0 c7)).setCell ⟨gb, 8, none⟩ (.slice A8 0 c8)).heap[gb]? = some (.cells #[.int .i64 7, .int .i64 0, .int .i64 (1), .int .i64 (ty), .int .i64 0, .int .i64 0, .string (⟨#[]⟩ : ByteArray), .slice A7 0 c7, .slice A8 0 c8] 32 (0, 0))) := ⟨set9 BX15.out⟩
            have HBy15 : Aside0 (Below u3.heap.size u3 (((((((((w3.setCell ⟨gb, 0, none⟩ (.int .i64 7)).setCell ⟨gb, 1, none⟩ (.int .i64 0)).setCell ⟨gb, 2, none⟩ (.int .i64 (1))).setCell ⟨gb, 3, none⟩ (.int .i64 (ty))).setCell ⟨gb, 4, none⟩ (.int .i64 0)).setCell ⟨gb, 5, none⟩ (.int .i64 0)).setCell ⟨gb, 6, none⟩ (.string (⟨#[]⟩ : ByteArray))).setCell ⟨gb, 7, none⟩ (.slice A7 0 c7)).setCell ⟨gb, 8, none⟩ (.slice A8 0 c8))) := ⟨below9 HBx15.out GE15.out⟩
            have HSy15 : Aside0 (gb < (((((((((w3.setCell ⟨gb, 0, none⟩ (.int .i64 7)).setCell ⟨gb, 1, none⟩ (.int .i64 0)).setCell ⟨gb, 2, none⟩ (.int .i64 (1))).setCell ⟨gb, 3, none⟩ (.int .i64 (ty))).setCell ⟨gb, 4, none⟩ (.int .i64 0)).setCell ⟨gb, 5, none⟩ (.int .i64 0)).setCell ⟨gb, 6, none⟩ (.string (⟨#[]⟩ : ByteArray))).setCell ⟨gb, 7, none⟩ (.slice A7 0 c7)).setCell ⟨gb, 8, none⟩ (.slice A8 0 c8)).heap.size) := ⟨blk_lt BY15.out⟩
            generalize (((((((((w3.setCell ⟨gb, 0, none⟩ (.int .i64 7)).setCell ⟨gb, 1, none⟩ (.int .i64 0)).setCell ⟨gb, 2, none⟩ (.int .i64 (1))).setCell ⟨gb, 3, none⟩ (.int .i64 (ty))).setCell ⟨gb, 4, none⟩ (.int .i64 0)).setCell ⟨gb, 5, none⟩ (.int .i64 0)).setCell ⟨gb, 6, none⟩ (.string (⟨#[]⟩ : ByteArray))).setCell ⟨gb, 7, none⟩ (.slice A7 0 c7)).setCell ⟨gb, 8, none⟩ (.slice A8 0 c8) : World) = W4 at BY15 HBy15 HSy15 ⊢
            clear hz0 hzf0 hz1 hzf1 hz2 hzf2 hz3 hzf3 hz4 hzf4 hz5 hzf5 hz6 hzf6 hz7 hzf7 hz8 hzf8
            have HJ5 : Aside0 (NZ w W4 g 40 (fun _ => False) (pl1 (on.drop (j + 1))) ∧ (Kd.int .i64).R 3 W4 w.heap.size (fun _ => True) (.slice (some ⟨gA, 0, none⟩) n c5) on) := ⟨HJ3.out.1.below HBy15.out, Kd.R_below HJ3.out.2 HBy15.out⟩
            have y3 : W4.cell? ⟨gb, 3, none⟩ = some (.int .i64 (ty)) := (blk_cell BY15.out 3).trans rfl
            go_wp2
            go_roundw
            case rel => exact ⟨j + 1, by go_num, HJN.out, HJ5⟩
            case measure => have := HJN.out; simp [intOf]; omega
          · obtain rfl : j = n := by omega
            have e1 : decide ((j : Int) < (j : Int)) = false := decide_eq_false (by omega)
            have e2 : decide (j < j) = false := decide_eq_false hjn
            have HL0 : Aside0 (((pl1 (on.drop j)).length : Int) = 0) := ⟨by rw [pl1_len, List.length_drop, ← HN.out]; omega⟩
            clear hjn
            go_wp2_with (go_at_call 13; refine (z_len HJ.out.1).mono ?_; rintro e w8 ⟨rfl, hb⟩; rw [HL0.out]; have HB8 := Aside0.mk (below_step (w := w) HJ.out.1.bel hb); clear hb)
            go_ret
            exact ⟨rfl, HB8.out⟩
    obtain ⟨hl1, hl2⟩ := hlt
    have b1 : decide ((i : Int) < (l0.length : Int)) = true := decide_eq_true (by omega)
    have b2 : decide ((i : Int) < 100) = true := decide_eq_true (by omega)
    obtain ⟨ad, A7, c7, A8, c8, eA, hx0, hx1, hx2, hx3, hx4, hx5, hx6, hx7, hx8, hx9, hx10, hx11, _⟩ := at_T41 (Kd.C_below HR0.out HT.out.net.bel) (i : Int) (by omega) (by omega)
    have HI := Aside0.mk hl2
    simp only [Int.toNat_natCast] at hx0 hx1 hx2 hx3 hx4 hx5 hx6 hx7 hx8 hx9 hx10 hx11
    subst eA
    generalize rd_T41 l0 (i : Int) = x at *
    obtain ⟨n7, hn7⟩ : ∃ n, n = x.f2.f7.length := ⟨_, rfl⟩
    obtain ⟨n8, hn8⟩ : ∃ n, n = x.f2.f8.length := ⟨_, rfl⟩
    rw [← hn7] at hx9
    rw [← hn8] at hx10
    clear hn7 hn8
    have q1 : wrap64 ((i : Int) + 1) = (i : Int) + 1 := by unfold wrap64; omega
    have q2 : IntKind.i64.wrap ((i : Int) + 1) = (i : Int) + 1 := by rw [IntKind.wrap_i64]; omega
    go_upto_region 9 with ((with_reducible refine gate_dst (N := 7) rfl ?_); refine box_event ?hg7 (N := 7) ?hd7 (cs := #[.int .i64 0, .int .i64 0, .int .i64 0, .int .i64 0, .int .i64 0, .int .i64 0, .int .i64 0, .int .i64 0, .string (⟨#[]⟩ : ByteArray), .slice none 0 0, .slice none 0 0, .string (⟨#[]⟩ : ByteArray)]) (t := 41) ?hr7 ?_; (case hd7 => rfl); (case hg7 => rfl); (case hr7 => first | (go_simp; done) | (go_simp; rfl)); intro ga_ hg w7 hbox hb; have BX7 := Aside0.mk hbox; have HBx7 := Aside0.mk hb; have GE7 := Aside0.mk (show wr.heap.size ≤ ga_ from Nat.le_of_eq hg.symm); obtain ⟨hz0, hzf0, hz1, hzf1, hz2, hzf2, hz3, hzf3, hz4, hzf4, hz5, hzf5, hz6, hzf6, hz7, hzf7, hz8, hzf8, hz9, hzf9, hz10, hzf10, hz11, hzf11⟩ := c12f hbox; clear hg hbox hb)
    have BYa : Aside0 (((((((((((((w7.setCell ⟨ga_, 0, none⟩ (.int .i64 x.f0)).setCell ⟨ga_, 1, none⟩ (.int .i64 x.f1)).setCell ⟨ga_, 2, none⟩ (.int .i64 x.f2.f0)).setCell ⟨ga_, 3, none⟩ (.int .i64 x.f2.f1)).setCell ⟨ga_, 4, none⟩ (.int .i64 x.f2.f2)).setCell ⟨ga_, 5, none⟩ (.int .i64 x.f2.f3)).setCell ⟨ga_, 6, none⟩ (.int .i64 x.f2.f4)).setCell ⟨ga_, 7, none⟩ (.int .i64 x.f2.f5)).setCell ⟨ga_, 8, none⟩ (.string x.f2.f6)).setCell ⟨ga_, 9, none⟩ (.slice A7 n7 c7)).setCell ⟨ga_, 10, none⟩ (.slice A8 n8 c8)).setCell ⟨ga_, 11, none⟩ (.string x.f3)).heap[ga_]? = some (.cells #[.int .i64 x.f0, .int .i64 x.f1, .int .i64 x.f2.f0, .int .i64 x.f2.f1, .int .i64 x.f2.f2, .int .i64 x.f2.f3, .int .i64 x.f2.f4, .int .i64 x.f2.f5, .string x.f2.f6, .slice A7 n7 c7, .slice A8 n8 c8, .string x.f3] 41 (0, 0))) := ⟨set12 BX7.out⟩
    have HBa : Aside0 (Below wr.heap.size wr ((((((((((((w7.setCell ⟨ga_, 0, none⟩ (.int .i64 x.f0)).setCell ⟨ga_, 1, none⟩ (.int .i64 x.f1)).setCell ⟨ga_, 2, none⟩ (.int .i64 x.f2.f0)).setCell ⟨ga_, 3, none⟩ (.int .i64 x.f2.f1)).setCell ⟨ga_, 4, none⟩ (.int .i64 x.f2.f2)).setCell ⟨ga_, 5, none⟩ (.int .i64 x.f2.f3)).setCell ⟨ga_, 6, none⟩ (.int .i64 x.f2.f4)).setCell ⟨ga_, 7, none⟩ (.int .i64 x.f2.f5)).setCell ⟨ga_, 8, none⟩ (.string x.f2.f6)).setCell ⟨ga_, 9, none⟩ (.slice A7 n7 c7)).setCell ⟨ga_, 10, none⟩ (.slice A8 n8 c8)).setCell ⟨ga_, 11, none⟩ (.string x.f3))) := ⟨below12 HBx7.out GE7.out⟩
    have HTa := Aside0.mk (HT.out.below HBa.out)
    generalize ((((((((((((w7.setCell ⟨ga_, 0, none⟩ (.int .i64 x.f0)).setCell ⟨ga_, 1, none⟩ (.int .i64 x.f1)).setCell ⟨ga_, 2, none⟩ (.int .i64 x.f2.f0)).setCell ⟨ga_, 3, none⟩ (.int .i64 x.f2.f1)).setCell ⟨ga_, 4, none⟩ (.int .i64 x.f2.f2)).setCell ⟨ga_, 5, none⟩ (.int .i64 x.f2.f3)).setCell ⟨ga_, 6, none⟩ (.int .i64 x.f2.f4)).setCell ⟨ga_, 7, none⟩ (.int .i64 x.f2.f5)).setCell ⟨ga_, 8, none⟩ (.string x.f2.f6)).setCell ⟨ga_, 9, none⟩ (.slice A7 n7 c7)).setCell ⟨ga_, 10, none⟩ (.slice A8 n8 c8)).setCell ⟨ga_, 11, none⟩ (.string x.f3) : World) = W9 at BYa HBa HTa ⊢
    clear hz0 hzf0 hz1 hzf1 hz2 hzf2 hz3 hzf3 hz4 hzf4 hz5 hzf5 hz6 hzf6 hz7 hzf7 hz8 hzf8 hz9 hzf9 hz10 hzf10 hz11 hzf11 hx0 hx1 hx2 hx3 hx4 hx5 hx6 hx7 hx8 hx9 hx10 hx11 HT BX7 HBx7 GE7 HBa
    have y0 : W9.cell? ⟨ga_, 0, none⟩ = some (.int .i64 x.f0) := (blk_cell BYa.out 0).trans rfl
    have y1 : W9.cell? ⟨ga_, 1, none⟩ = some (.int .i64 x.f1) := (blk_cell BYa.out 1).trans rfl
    have hkk : x.f0 % 4 = 0 ∨ x.f0 % 4 = 1 ∨ x.f0 % 4 = 2 ∨ x.f0 % 4 = 3 := by omega
    by_cases hn0 : n = 0
    · subst hn0
      have hon : on = [] := List.eq_nil_of_length_eq_zero HN.out.symm
      subst hon
      have HTb := HTa
      have BYb := BYa
      clear HTa BYa
      rcases hkk with hk | hk | hk | hk
      · have HK := Aside0.mk hk
        clear hk
        go_wp2_with (first | (go_at_call 14; (with_reducible refine (amongt_calls x.f0 4 (by decide) (by decide) _).mono ?_); rintro e u1 ⟨rfl, hb⟩; rw [HK.out]; have HT1 := Aside0.mk (HTb.out.below hb); have BY1 := Aside0.mk (blk_below BYb.out hb); have yy1 : u1.cell? ⟨ga_, 1, none⟩ = some (.int .i64 x.f1) := (blk_cell BY1.out 1).trans rfl; clear hb) | (go_at_call 11; refine (plain_calls ((i : Int) + 1) 1 _).mono ?_; rintro e u2 ⟨v7, v8, rfl, hr, hb⟩; have HR2 := Aside0.mk hr; have HT2 := Aside0.mk (HT1.out.below hb); clear hr hb) | (go_at_call 10; refine (t_send_ok HT2.out (by have := HN.out; omega) (by omega) (by omega) HR2.out).mono ?_; rintro e u3 ⟨rfl, hn, hr⟩; have HNWs := Aside0.mk hn; have HRWs := Aside0.mk hr; clear hn hr) | ((with_reducible refine gate_builtin (b := .append) (xs := #[.tmp 95, .tmp 98]) rfl ?_); at_builtin; refine Kd.R_append (Kd.int .i64) (w0 := w) w.heap.size rfl (.tmp 95) (.tmp 98) 39 3 (.int .i64 0) 8 rfl Try.underlying39 info3 rfl (by decide) (by omega) (.slice A5 0 c5) ([] : List Int) ((i : Int) + 1) [.int .i64 ((i : Int) + 1)] (fun _ => True) (fun _ => False) rfl (by first | (go_simp; done) | (go_simp; rfl)) ?aP (fun _ hk => hk.elim) ?aF ?aO ?aB ?aS ?aL ?_; (case aP => exact rfl); (case aF => exact (fun _ _ => trivial)); (case aO => exact HRWs.out); (case aB => exact HNWs.out.bel); (case aS => exact HNWs.out.bel.size); (case aL => have := HOi.out.1; omega); intro v5' w9 ho hb hg hat; have HT9 := Aside0.mk (TS.mk (HNWs.out.grown HRWs.out (by decide) (by decide) hg hb) ho); obtain ⟨A9, c9', hv9⟩ := Kd.R_slice ho; obtain ⟨n9, hn9⟩ : ∃ m, m = (([] : List Int) ++ [((i : Int) + 1 : Int)]).length := ⟨_, rfl⟩; rw [← hn9] at hv9; have HN9 := Aside0.mk hn9; subst hv9; clear ho hb hg hat hn9) | (go_at_call 13; refine (t_len HT9.out).mono ?_; rintro e wA ⟨rfl, hb⟩; rw [← HN9.out]; have HTA := Aside0.mk (HT9.out.below hb); clear hb))
        go_roundw
        case rel => exact ⟨i + 1, [] ++ [((i : Int) + 1)], by go_num, HI.out, ⟨HOi.out.mono.add (by decide) (by omega) (by omega)⟩, HTA⟩
        case measure => have := HI.out; simp [intOf]; omega
      · have HK := Aside0.mk hk
        clear hk
        go_upto_region 27 with (first | (go_at_call 14; (with_reducible refine (amongt_calls x.f0 4 (by decide) (by decide) _).mono ?_); rintro e u1 ⟨rfl, hb⟩; rw [HK.out]; have HT1 := Aside0.mk (HTb.out.below hb); have BY1 := Aside0.mk (blk_below BYb.out hb); have yy1 : u1.cell? ⟨ga_, 1, none⟩ = some (.int .i64 x.f1) := (blk_cell BY1.out 1).trans rfl; clear hb) | (go_at_call 12; refine (t_take0 HT1.out x.f1).mono ?_; rintro e u3 ⟨rfl, hb⟩; have HT3 := Aside0.mk (HT1.out.below hb); clear hb) | ((with_reducible refine gate_dst (N := 10) rfl ?_); refine box_event ?hg10 (N := 10) ?hd10 (cs := #[.int .i64 0, .int .i64 0, .int .i64 0, .int .i64 0, .int .i64 0, .int .i64 0, .string (⟨#[]⟩ : ByteArray), .slice none 0 0, .slice none 0 0]) (t := 32) ?hr10 ?_; (case hd10 => rfl); (case hg10 => rfl); (case hr10 => first | (go_simp; done) | (go_simp; rfl)); intro gb hg w3 hbox hb; have BX10 := Aside0.mk hbox; have HBx10 := Aside0.mk hb; have GE10 := Aside0.mk (show u3.heap.size ≤ gb from Nat.le_of_eq hg.symm); have GL10 := Aside0.mk (blk_lt hbox); obtain ⟨hz0, hzf0, hz1, hzf1, hz2, hzf2, hz3, hzf3, hz4, hzf4, hz5, hzf5, hz6, hzf6, hz7, hzf7, hz8, hzf8⟩ := c9f hbox; clear hg hbox hb))
        have BY10 : Aside0 ((((((((((w3.setCell ⟨gb, 0, none⟩ (.int .i64 0)).setCell ⟨gb, 1, none⟩ (.int .i64 0)).setCell ⟨gb, 2, none⟩ (.int .i64 0)).setCell ⟨gb, 3, none⟩ (.int .i64 0)).setCell ⟨gb, 4, none⟩ (.int .i64 0)).setCell ⟨gb, 5, none⟩ (.int .i64 0)).setCell ⟨gb, 6, none⟩ (.string (⟨#[]⟩ : ByteArray))).setCell ⟨gb, 7, none⟩ (.slice none 0 0)).setCell ⟨gb, 8, none⟩ (.slice none 0 0)).heap[gb]? = some (.cells #[.int .i64 0, .int .i64 0, .int .i64 0, .int .i64 0, .int .i64 0, .int .i64 0, .string (⟨#[]⟩ : ByteArray), .slice none 0 0, .slice none 0 0] 32 (0, 0))) := ⟨set9 BX10.out⟩
        have HBy10 : Aside0 (Below u3.heap.size u3 (((((((((w3.setCell ⟨gb, 0, none⟩ (.int .i64 0)).setCell ⟨gb, 1, none⟩ (.int .i64 0)).setCell ⟨gb, 2, none⟩ (.int .i64 0)).setCell ⟨gb, 3, none⟩ (.int .i64 0)).setCell ⟨gb, 4, none⟩ (.int .i64 0)).setCell ⟨gb, 5, none⟩ (.int .i64 0)).setCell ⟨gb, 6, none⟩ (.string (⟨#[]⟩ : ByteArray))).setCell ⟨gb, 7, none⟩ (.slice none 0 0)).setCell ⟨gb, 8, none⟩ (.slice none 0 0))) := ⟨below9 HBx10.out GE10.out⟩
        have HSy10 : Aside0 (gb < (((((((((w3.setCell ⟨gb, 0, none⟩ (.int .i64 0)).setCell ⟨gb, 1, none⟩ (.int .i64 0)).setCell ⟨gb, 2, none⟩ (.int .i64 0)).setCell ⟨gb, 3, none⟩ (.int .i64 0)).setCell ⟨gb, 4, none⟩ (.int .i64 0)).setCell ⟨gb, 5, none⟩ (.int .i64 0)).setCell ⟨gb, 6, none⟩ (.string (⟨#[]⟩ : ByteArray))).setCell ⟨gb, 7, none⟩ (.slice none 0 0)).setCell ⟨gb, 8, none⟩ (.slice none 0 0)).heap.size) := ⟨blk_lt BY10.out⟩
        generalize (((((((((w3.setCell ⟨gb, 0, none⟩ (.int .i64 0)).setCell ⟨gb, 1, none⟩ (.int .i64 0)).setCell ⟨gb, 2, none⟩ (.int .i64 0)).setCell ⟨gb, 3, none⟩ (.int .i64 0)).setCell ⟨gb, 4, none⟩ (.int .i64 0)).setCell ⟨gb, 5, none⟩ (.int .i64 0)).setCell ⟨gb, 6, none⟩ (.string (⟨#[]⟩ : ByteArray))).setCell ⟨gb, 7, none⟩ (.slice none 0 0)).setCell ⟨gb, 8, none⟩ (.slice none 0 0) : World) = W4 at BY10 HBy10 HSy10 ⊢
        clear hz0 hzf0 hz1 hzf1 hz2 hzf2 hz3 hzf3 hz4 hzf4 hz5 hzf5 hz6 hzf6 hz7 hzf7 hz8 hzf8
        have HT4 := Aside0.mk (HT3.out.below HBy10.out)
        go_wp2
        go_roundw
        case rel => exact ⟨i + 1, [], by go_num, HI.out, ⟨HOi.out.mono⟩, HT4⟩
        case measure => have := HI.out; simp [intOf]; omega
      · have HK := Aside0.mk hk
        clear hk
        go_upto_region 27 with (first | (go_at_call 14; (with_reducible refine (amongt_calls x.f0 4 (by decide) (by decide) _).mono ?_); rintro e u1 ⟨rfl, hb⟩; rw [HK.out]; have HT1 := Aside0.mk (HTb.out.below hb); have BY1 := Aside0.mk (blk_below BYb.out hb); have yy1 : u1.cell? ⟨ga_, 1, none⟩ = some (.int .i64 x.f1) := (blk_cell BY1.out 1).trans rfl; clear hb) | (go_at_call 12; refine (t_take0 HT1.out x.f1).mono ?_; rintro e u3 ⟨rfl, hb⟩; have HT3 := Aside0.mk (HT1.out.below hb); clear hb) | ((with_reducible refine gate_dst (N := 10) rfl ?_); refine box_event ?hg10 (N := 10) ?hd10 (cs := #[.int .i64 0, .int .i64 0, .int .i64 0, .int .i64 0, .int .i64 0, .int .i64 0, .string (⟨#[]⟩ : ByteArray), .slice none 0 0, .slice none 0 0]) (t := 32) ?hr10 ?_; (case hd10 => rfl); (case hg10 => rfl); (case hr10 => first | (go_simp; done) | (go_simp; rfl)); intro gb hg w3 hbox hb; have BX10 := Aside0.mk hbox; have HBx10 := Aside0.mk hb; have GE10 := Aside0.mk (show u3.heap.size ≤ gb from Nat.le_of_eq hg.symm); have GL10 := Aside0.mk (blk_lt hbox); obtain ⟨hz0, hzf0, hz1, hzf1, hz2, hzf2, hz3, hzf3, hz4, hzf4, hz5, hzf5, hz6, hzf6, hz7, hzf7, hz8, hzf8⟩ := c9f hbox; clear hg hbox hb))
        have BY10 : Aside0 ((((((((((w3.setCell ⟨gb, 0, none⟩ (.int .i64 0)).setCell ⟨gb, 1, none⟩ (.int .i64 0)).setCell ⟨gb, 2, none⟩ (.int .i64 0)).setCell ⟨gb, 3, none⟩ (.int .i64 0)).setCell ⟨gb, 4, none⟩ (.int .i64 0)).setCell ⟨gb, 5, none⟩ (.int .i64 0)).setCell ⟨gb, 6, none⟩ (.string (⟨#[]⟩ : ByteArray))).setCell ⟨gb, 7, none⟩ (.slice none 0 0)).setCell ⟨gb, 8, none⟩ (.slice none 0 0)).heap[gb]? = some (.cells #[.int .i64 0, .int .i64 0, .int .i64 0, .int .i64 0, .int .i64 0, .int .i64 0, .string (⟨#[]⟩ : ByteArray), .slice none 0 0, .slice none 0 0] 32 (0, 0))) := ⟨set9 BX10.out⟩
        have HBy10 : Aside0 (Below u3.heap.size u3 (((((((((w3.setCell ⟨gb, 0, none⟩ (.int .i64 0)).setCell ⟨gb, 1, none⟩ (.int .i64 0)).setCell ⟨gb, 2, none⟩ (.int .i64 0)).setCell ⟨gb, 3, none⟩ (.int .i64 0)).setCell ⟨gb, 4, none⟩ (.int .i64 0)).setCell ⟨gb, 5, none⟩ (.int .i64 0)).setCell ⟨gb, 6, none⟩ (.string (⟨#[]⟩ : ByteArray))).setCell ⟨gb, 7, none⟩ (.slice none 0 0)).setCell ⟨gb, 8, none⟩ (.slice none 0 0))) := ⟨below9 HBx10.out GE10.out⟩
        have HSy10 : Aside0 (gb < (((((((((w3.setCell ⟨gb, 0, none⟩ (.int .i64 0)).setCell ⟨gb, 1, none⟩ (.int .i64 0)).setCell ⟨gb, 2, none⟩ (.int .i64 0)).setCell ⟨gb, 3, none⟩ (.int .i64 0)).setCell ⟨gb, 4, none⟩ (.int .i64 0)).setCell ⟨gb, 5, none⟩ (.int .i64 0)).setCell ⟨gb, 6, none⟩ (.string (⟨#[]⟩ : ByteArray))).setCell ⟨gb, 7, none⟩ (.slice none 0 0)).setCell ⟨gb, 8, none⟩ (.slice none 0 0)).heap.size) := ⟨blk_lt BY10.out⟩
        generalize (((((((((w3.setCell ⟨gb, 0, none⟩ (.int .i64 0)).setCell ⟨gb, 1, none⟩ (.int .i64 0)).setCell ⟨gb, 2, none⟩ (.int .i64 0)).setCell ⟨gb, 3, none⟩ (.int .i64 0)).setCell ⟨gb, 4, none⟩ (.int .i64 0)).setCell ⟨gb, 5, none⟩ (.int .i64 0)).setCell ⟨gb, 6, none⟩ (.string (⟨#[]⟩ : ByteArray))).setCell ⟨gb, 7, none⟩ (.slice none 0 0)).setCell ⟨gb, 8, none⟩ (.slice none 0 0) : World) = W4 at BY10 HBy10 HSy10 ⊢
        clear hz0 hzf0 hz1 hzf1 hz2 hzf2 hz3 hzf3 hz4 hzf4 hz5 hzf5 hz6 hzf6 hz7 hzf7 hz8 hzf8
        have HT4 := Aside0.mk (HT3.out.below HBy10.out)
        go_wp2
        go_roundw
        case rel => exact ⟨i + 1, [], by go_num, HI.out, ⟨HOi.out.mono⟩, HT4⟩
        case measure => have := HI.out; simp [intOf]; omega
      · have HK := Aside0.mk hk
        clear hk
        go_wp2_with (first | (go_at_call 14; (with_reducible refine (amongt_calls x.f0 4 (by decide) (by decide) _).mono ?_); rintro e u1 ⟨rfl, hb⟩; rw [HK.out]; have HT1 := Aside0.mk (HTb.out.below hb); have BY1 := Aside0.mk (blk_below BYb.out hb); have yy1 : u1.cell? ⟨ga_, 1, none⟩ = some (.int .i64 x.f1) := (blk_cell BY1.out 1).trans rfl; clear hb) | (go_at_call 16; refine (t_copy0 HT1.out x.f1).mono ?_; rintro e u3 ⟨rfl, hb⟩; have HT9 := Aside0.mk (HT1.out.below hb); clear hb) | (go_at_call 13; refine (t_len HT9.out).mono ?_; rintro e wA ⟨rfl, hb⟩; have HTA := Aside0.mk (HT9.out.below hb); clear hb))
        go_roundw
        case rel => exact ⟨i + 1, [], by go_num, HI.out, ⟨HOi.out.mono⟩, HTA⟩
        case measure => have := HI.out; simp [intOf]; omega
    · have c0 : decide (0 < (n : Int)) = true := decide_eq_true (by omega)
      have c1 : decide (0 < n) = true := decide_eq_true (by omega)
      have c2 : ((n : Int) == 0) = false := beq_eq_false_iff_ne.2 (by omega)
      have c3 : ¬ (n = 0) := hn0
      have hpn : 0 ≤ x.f1 % (n : Int) := Int.emod_nonneg _ (by omega)
      have hpl : x.f1 % (n : Int) < n := Int.emod_lt_of_pos _ (by omega)
      obtain ⟨a, ha⟩ : ∃ a : Nat, x.f1 % (n : Int) = (a : Int) := ⟨(x.f1 % (n : Int)).toNat, by omega⟩
      have han : a < n := by omega
      have HAT := Aside0.mk ha
      clear ha hpn hpl
      have a1 : decide ((a : Int) < (n : Int)) = true := decide_eq_true (by omega)
      have a2 : decide (a < n) = true := decide_eq_true han
      obtain ⟨gA, hgA⟩ : ∃ gA, A5 = some ⟨gA, 0, none⟩ := by
        obtain ⟨gA, cap, e, _⟩ := Kd.R_form HTa.out.row (by rw [← HN.out]; omega)
        injection e with e _ _
        exact ⟨gA, e⟩
      subst hgA
      obtain ⟨tx, htx⟩ : ∃ tx, tx = on.getD a 0 := ⟨_, rfl⟩
      have HTX := Aside0.mk htx
      have HTR := Aside0.mk (HOi.out.get a (by rw [← HN.out]; exact han))
      rw [← htx] at HTR
      clear htx
      go_upto_region 12 with (go_at_call 14; (with_reducible refine (amongt_calls x.f1 (n : Int) (by omega) (by omega) _).mono ?_); rintro e u0 ⟨rfl, hb⟩; rw [HAT.out]; have HTb := Aside0.mk (HTa.out.below hb); have BYb := Aside0.mk (blk_below BYa.out hb); have y0 : u0.cell? ⟨ga_, 0, none⟩ = some (.int .i64 x.f0) := (blk_cell BYb.out 0).trans rfl; clear hb)
      clear y1 HTa BYa
      rcases hkk with hk | hk | hk | hk
      · have HK := Aside0.mk hk
        clear hk
        by_cases hf : n < 40
        · have d1 : decide ((n : Int) < 40) = true := decide_eq_true (by omega)
          have d2 : decide (n < 40) = true := decide_eq_true (by omega)
          go_wp2_with (first | (go_at_call 14; (with_reducible refine (amongt_calls x.f0 4 (by decide) (by decide) _).mono ?_); rintro e u1 ⟨rfl, hb⟩; rw [HK.out]; have HT1 := Aside0.mk (HTb.out.below hb); have BY1 := Aside0.mk (blk_below BYb.out hb); have yy1 : u1.cell? ⟨ga_, 1, none⟩ = some (.int .i64 x.f1) := (blk_cell BY1.out 1).trans rfl; clear hb) | (go_at_call 11; refine (plain_calls ((i : Int) + 1) 1 _).mono ?_; rintro e u2 ⟨v7, v8, rfl, hr, hb⟩; have HR2 := Aside0.mk hr; have HT2 := Aside0.mk (HT1.out.below hb); clear hr hb) | (go_at_call 10; refine (t_send_ok HT2.out (by have := HN.out; omega) (by omega) (by omega) HR2.out).mono ?_; rintro e u3 ⟨rfl, hn, hr⟩; have HNWs := Aside0.mk hn; have HRWs := Aside0.mk hr; clear hn hr) | ((with_reducible refine gate_builtin (b := .append) (xs := #[.tmp 95, .tmp 98]) rfl ?_); at_builtin; refine Kd.R_append (Kd.int .i64) (w0 := w) w.heap.size rfl (.tmp 95) (.tmp 98) 39 3 (.int .i64 0) 8 rfl Try.underlying39 info3 rfl (by decide) (by omega) (.slice (some ⟨gA, 0, none⟩) n c5) on ((i : Int) + 1) [.int .i64 ((i : Int) + 1)] (fun _ => True) (fun _ => False) rfl (by first | (go_simp; done) | (go_simp; rfl)) ?aP (fun _ hk => hk.elim) ?aF ?aO ?aB ?aS ?aL ?_; (case aP => exact rfl); (case aF => exact (fun _ _ => trivial)); (case aO => exact HRWs.out); (case aB => exact HNWs.out.bel); (case aS => exact HNWs.out.bel.size); (case aL => have := HOi.out.1; omega); intro v5' w9 ho hb hg hat; have HT9 := Aside0.mk (TS.mk (HNWs.out.grown HRWs.out (by decide) (by decide) hg hb) ho); obtain ⟨A9, c9', hv9⟩ := Kd.R_slice ho; obtain ⟨n9, hn9⟩ : ∃ m, m = (on ++ [((i : Int) + 1 : Int)]).length := ⟨_, rfl⟩; rw [← hn9] at hv9; have HN9 := Aside0.mk hn9; subst hv9; clear ho hb hg hat hn9) | (go_at_call 13; refine (t_len HT9.out).mono ?_; rintro e wA ⟨rfl, hb⟩; rw [← HN9.out]; have HTA := Aside0.mk (HT9.out.below hb); clear hb))
          go_roundw
          case rel => exact ⟨i + 1, on ++ [((i : Int) + 1)], by go_num, HI.out, ⟨HOi.out.mono.add (by have := HN.out; omega) (by omega) (by omega)⟩, HTA⟩
          case measure => have := HI.out; simp [intOf]; omega
        · have d1 : decide ((n : Int) < 40) = false := decide_eq_false (by omega)
          have d2 : decide (n < 40) = false := decide_eq_false (by omega)
          go_wp2_with (first | (go_at_call 14; (with_reducible refine (amongt_calls x.f0 4 (by decide) (by decide) _).mono ?_); rintro e u1 ⟨rfl, hb⟩; rw [HK.out]; have HT1 := Aside0.mk (HTb.out.below hb); have BY1 := Aside0.mk (blk_below BYb.out hb); have yy1 : u1.cell? ⟨ga_, 1, none⟩ = some (.int .i64 x.f1) := (blk_cell BY1.out 1).trans rfl; clear hb) | (go_at_call 11; refine (plain_calls ((i : Int) + 1) 1 _).mono ?_; rintro e u2 ⟨v7, v8, rfl, hr, hb⟩; have HR2 := Aside0.mk hr; have HT2 := Aside0.mk (HT1.out.below hb); clear hr hb) | (go_at_call 10; refine (t_send_full HT2.out (by have := HN.out; omega) (by omega) (by omega) HR2.out).mono ?_; rintro e u3 ⟨rfl, ht⟩; have HT9 := Aside0.mk ht; clear ht) | (go_at_call 13; refine (t_len HT9.out).mono ?_; rintro e wA ⟨rfl, hb⟩; rw [← HN.out]; have HTA := Aside0.mk (HT9.out.below hb); clear hb))
          go_roundw
          case rel => exact ⟨i + 1, on, by go_num, HI.out, ⟨HOi.out.mono⟩, HTA⟩
          case measure => have := HI.out; simp [intOf]; omega
      · have HK := Aside0.mk hk
        clear hk
        go_upto_region 27 with (first | (go_at_call 14; (with_reducible refine (amongt_calls x.f0 4 (by decide) (by decide) _).mono ?_); rintro e u1 ⟨rfl, hb⟩; rw [HK.out]; have HT1 := Aside0.mk (HTb.out.below hb); have BY1 := Aside0.mk (blk_below BYb.out hb); have yy1 : u1.cell? ⟨ga_, 1, none⟩ = some (.int .i64 x.f1) := (blk_cell BY1.out 1).trans rfl; clear hb) | (go_at_call 12; refine (t_takeA HT1.out HN.out HAT.out hl40 (by omega) HTX.out).mono ?_; rintro e u3 ⟨B7, d7, B8, d8, rfl, hx, hn, hr⟩; have HX3 := Aside0.mk hx; have HNW3 := Aside0.mk hn; have HRW3 := Aside0.mk hr; clear hx hn hr) | ((with_reducible refine gate_dst (N := 10) rfl ?_); refine box_event ?hg10 (N := 10) ?hd10 (cs := #[.int .i64 0, .int .i64 0, .int .i64 0, .int .i64 0, .int .i64 0, .int .i64 0, .string (⟨#[]⟩ : ByteArray), .slice none 0 0, .slice none 0 0]) (t := 32) ?hr10 ?_; (case hd10 => rfl); (case hg10 => rfl); (case hr10 => first | (go_simp; done) | (go_simp; rfl)); intro gb hg w3 hbox hb; have BX10 := Aside0.mk hbox; have HBx10 := Aside0.mk hb; have GE10 := Aside0.mk (show u3.heap.size ≤ gb from Nat.le_of_eq hg.symm); have GL10 := Aside0.mk (blk_lt hbox); obtain ⟨hz0, hzf0, hz1, hzf1, hz2, hzf2, hz3, hzf3, hz4, hzf4, hz5, hzf5, hz6, hzf6, hz7, hzf7, hz8, hzf8⟩ := c9f hbox; clear hg hbox hb))
        have BY10 : Aside0 ((((((((((w3.setCell ⟨gb, 0, none⟩ (.int .i64 7)).setCell ⟨gb, 1, none⟩ (.int .i64 0)).setCell ⟨gb, 2, none⟩ (.int .i64 (1))).setCell ⟨gb, 3, none⟩ (.int .i64 (tx))).setCell ⟨gb, 4, none⟩ (.int .i64 0)).setCell ⟨gb, 5, none⟩ (.int .i64 0)).setCell ⟨gb, 6, none⟩ (.string (⟨#[]⟩ : ByteArray))).setCell ⟨gb, 7, none⟩ (.slice B7 0 d7)).setCell ⟨gb, 8, none⟩ (.slice B8 0 d8)).heap[gb]? = some (.cells #[.int .i64 7, .int .i64 0, .int .i64 (1), .int .i64 (tx), .int .i64 0, .int .i64 0, .string (⟨#[]⟩ : ByteArray), .slice B7 0 d7, .slice B8 0 d8] 32 (0, 0))) := ⟨set9 BX10.out⟩
        have HBy10 : Aside0 (Below u3.heap.size u3 (((((((((w3.setCell ⟨gb, 0, none⟩ (.int .i64 7)).setCell ⟨gb, 1, none⟩ (.int .i64 0)).setCell ⟨gb, 2, none⟩ (.int .i64 (1))).setCell ⟨gb, 3, none⟩ (.int .i64 (tx))).setCell ⟨gb, 4, none⟩ (.int .i64 0)).setCell ⟨gb, 5, none⟩ (.int .i64 0)).setCell ⟨gb, 6, none⟩ (.string (⟨#[]⟩ : ByteArray))).setCell ⟨gb, 7, none⟩ (.slice B7 0 d7)).setCell ⟨gb, 8, none⟩ (.slice B8 0 d8))) := ⟨below9 HBx10.out GE10.out⟩
        have HSy10 : Aside0 (gb < (((((((((w3.setCell ⟨gb, 0, none⟩ (.int .i64 7)).setCell ⟨gb, 1, none⟩ (.int .i64 0)).setCell ⟨gb, 2, none⟩ (.int .i64 (1))).setCell ⟨gb, 3, none⟩ (.int .i64 (tx))).setCell ⟨gb, 4, none⟩ (.int .i64 0)).setCell ⟨gb, 5, none⟩ (.int .i64 0)).setCell ⟨gb, 6, none⟩ (.string (⟨#[]⟩ : ByteArray))).setCell ⟨gb, 7, none⟩ (.slice B7 0 d7)).setCell ⟨gb, 8, none⟩ (.slice B8 0 d8)).heap.size) := ⟨blk_lt BY10.out⟩
        generalize (((((((((w3.setCell ⟨gb, 0, none⟩ (.int .i64 7)).setCell ⟨gb, 1, none⟩ (.int .i64 0)).setCell ⟨gb, 2, none⟩ (.int .i64 (1))).setCell ⟨gb, 3, none⟩ (.int .i64 (tx))).setCell ⟨gb, 4, none⟩ (.int .i64 0)).setCell ⟨gb, 5, none⟩ (.int .i64 0)).setCell ⟨gb, 6, none⟩ (.string (⟨#[]⟩ : ByteArray))).setCell ⟨gb, 7, none⟩ (.slice B7 0 d7)).setCell ⟨gb, 8, none⟩ (.slice B8 0 d8) : World) = W4 at BY10 HBy10 HSy10 ⊢
        clear hz0 hzf0 hz1 hzf1 hz2 hzf2 hz3 hzf3 hz4 hzf4 hz5 hzf5 hz6 hzf6 hz7 hzf7 hz8 hzf8
        have HX4 := Aside0.mk (HX3.out.below HBy10.out)
        have HNW4 := Aside0.mk (HNW3.out.below HBy10.out)
        have HRW4 := Aside0.mk (Kd.R_below HRW3.out HBy10.out)
        clear HX3 HNW3 HRW3
        go_upto_region 30 with (fail)
        have hcell := int_at HRW4.out a han
        rw [← HTX.out] at hcell
        refine start_ (n := 12) (S := fun w' => w'.heap[gb]? = some (.cells #[.int .i64 7, .int .i64 0, .int .i64 (1), .int .i64 (tx), .int .i64 0, .int .i64 0, .string (⟨#[]⟩ : ByteArray), .slice B7 0 d7, .slice B8 0 d8] 32 (0, 0)) ∧ w'.cell? ⟨gA, a, none⟩ = some (.int .i64 tx)) (ds := []) #[false, false, false, false, false, false, false, false, false, false, false, false] (by kernel_rfl) rfl rfl ⟨blk_drew BY10.out, hcell⟩ (fun hHeld => ?_)
        refine with_tabW rg4_30_tab rg4_30_bits (fun HT_ HW_ => ?_)
        obtain ⟨W5, hW_⟩ : ∃ W_, W_ = W4.drew := ⟨_, rfl⟩
        have HBd : Aside0 (Below W4.heap.size W4 W5) := ⟨by rw [hW_]; exact below_drew (Below.refl _ _)⟩
        rw [← hW_] at hHeld ⊢
        clear hW_ hcell
        have HX5 := Aside0.mk (HX4.out.below HBd.out)
        have HNW5 := Aside0.mk (HNW4.out.below HBd.out)
        have HRW5 := Aside0.mk (Kd.R_below HRW4.out HBd.out)
        have BY5 := Aside0.mk hHeld.1
        refine pure_ (i := 0) (N := some 115) (v := ?_) (a' := ?_) #[true, false, false, false, false, false, false, false, false, false, false, false] rfl rfl (any_of HT_.out (by kernel_rfl)) (fun _ _ _ h => h) (Or.inl ⟨by rfl, ?_⟩) ?_ ?_
        rotate_left
        · intro w'
          go_simp
          with_reducible rfl
        rotate_left
        · simp only [Act.put, List.setIfInBounds_toArray, List.set_cons_zero, List.set_cons_succ, i64_w, i32_w]
          rfl
        refine pure_ (i := 1) (N := some 116) (v := ?_) (a' := ?_) #[true, true, false, false, false, false, false, false, false, false, false, false] rfl rfl (any_of HT_.out (by kernel_rfl)) (fun _ _ _ h => h) (Or.inl ⟨by rfl, ?_⟩) ?_ ?_
        rotate_left
        · intro w'
          go_simp
          with_reducible rfl
        rotate_left
        · simp only [Act.put, List.setIfInBounds_toArray, List.set_cons_zero, List.set_cons_succ, i64_w, i32_w]
          rfl
        refine pure_ (i := 2) (N := some 117) (v := ?_) (a' := ?_) #[true, true, true, false, false, false, false, false, false, false, false, false] rfl rfl (any_of HT_.out (by kernel_rfl)) (fun _ _ _ h => h) (Or.inl ⟨by rfl, ?_⟩) ?_ ?_
        rotate_left
        · intro w'
          go_simp
          with_reducible rfl
        rotate_left
        · simp only [Act.put, List.setIfInBounds_toArray, List.set_cons_zero, List.set_cons_succ, i64_w, i32_w]
          rfl
        refine take_ (i := 3) (N := some 118) (v := ?_) (a' := ?_) #[true, true, true, true, false, false, false, false, false, false, false, false] rfl rfl (take_ofW HT_.out HW_.out (by kernel_rfl)) (fun _ _ _ h => h) (Or.inl ⟨by rfl, ?_⟩) hHeld ?_ ?_
        rotate_left
        · rintro w' ⟨s1, s2⟩
          obtain ⟨hl0, hl1', hl2', hl3, hl4, hl5, hl6, hl7, hl8⟩ := c9 s1
          go_simp
          with_reducible rfl
        rotate_left
        · simp only [Act.put, List.setIfInBounds_toArray, List.set_cons_zero, List.set_cons_succ, i64_w, i32_w]
          rfl
        refine pure_ (i := 4) (N := some 119) (v := ?_) (a' := ?_) #[true, true, true, true, true, false, false, false, false, false, false, false] rfl rfl (any_of HT_.out (by kernel_rfl)) (fun _ _ _ h => h) (Or.inl ⟨by rfl, ?_⟩) ?_ ?_
        rotate_left
        · intro w'
          go_simp
          with_reducible rfl
        rotate_left
        · simp only [Act.put, List.setIfInBounds_toArray, List.set_cons_zero, List.set_cons_succ, i64_w, i32_w]
          rfl
        refine pure_ (i := 5) (N := some 120) (v := ?_) (a' := ?_) #[true, true, true, true, true, true, false, false, false, false, false, false] rfl rfl (any_of HT_.out (by kernel_rfl)) (fun _ _ _ h => h) (Or.inl ⟨by rfl, ?_⟩) ?_ ?_
        rotate_left
        · intro w'
          go_simp
          with_reducible rfl
        rotate_left
        · simp only [Act.put, List.setIfInBounds_toArray, List.set_cons_zero, List.set_cons_succ, i64_w, i32_w]
          rfl
        refine pure_ (i := 6) (N := some 121) (v := ?_) (a' := ?_) #[true, true, true, true, true, true, true, false, false, false, false, false] rfl rfl (any_of HT_.out (by kernel_rfl)) (fun _ _ _ h => h) (Or.inl ⟨by rfl, ?_⟩) ?_ ?_
        rotate_left
        · intro w'
          go_simp
          with_reducible rfl
        rotate_left
        · simp only [Act.put, List.setIfInBounds_toArray, List.set_cons_zero, List.set_cons_succ, i64_w, i32_w]
          rfl
        refine take_ (i := 7) (N := some 122) (v := ?_) (a' := ?_) #[true, true, true, true, true, true, true, true, false, false, false, false] rfl rfl (take_ofW HT_.out HW_.out (by kernel_rfl)) (fun _ _ _ h => h) (Or.inl ⟨by rfl, ?_⟩) hHeld ?_ ?_
        rotate_left
        · rintro w' ⟨s1, s2⟩
          go_simp
          with_reducible rfl
        rotate_left
        · simp only [Act.put, List.setIfInBounds_toArray, List.set_cons_zero, List.set_cons_succ, i64_w, i32_w]
          rfl
        refine one_ (i := 8) (N := some 123) #[true, true, true, true, true, true, true, true, true, false, false, false] rfl rfl (one_of HT_.out (by kernel_rfl)) (by decide) (fun K hK => ?_)
        (refine goes_ Try.func11 (by kernel_rfl) rfl #[.int .i64 tx, .int .i64 1] (by rfl) rfl rfl (by (try simp only [List.map_toArray, List.map_cons, List.map_nil]); first | done | rfl) ?_; refine (plain_calls tx 1 _).mono ?_; rintro e u6 ⟨v7, v8, rfl, hr, hb⟩; obtain ⟨D7, e7, D8, e8, hu7, hu8⟩ := rd_plain hr; subst hu7 hu8; refine ⟨_, rfl, ?_⟩; have HY6 := Aside0.mk hr; have HX6 := Aside0.mk (HX5.out.below hb); have HNW6 := Aside0.mk (HNW5.out.below hb); have HRW6 := Aside0.mk (Kd.R_below HRW5.out hb); have BY6 := Aside0.mk (blk_below BY5.out hb); have hc6 := int_at HRW6.out a han; rw [← HTX.out] at hc6; have HC6 := Aside0.mk hc6; clear hr hb hc6)
        refine hK.out _ _ ⟨BY6.out, HC6.out⟩ (fun hHeld => ?_)
        clear hK K
        refine norm_ (a' := ?_) ?_ ?_
        rotate_left
        · show Act.put _ (some 123) _ = _
          simp only [Act.put, List.setIfInBounds_toArray, List.set_cons_zero, List.set_cons_succ, i64_w, i32_w]
          rfl
        refine one_ (i := 9) (N := some 124) #[true, true, true, true, true, true, true, true, true, true, false, false] rfl rfl (one_of HT_.out (by kernel_rfl)) (by decide) (fun K hK => ?_)
        (refine goes_ Try.func15 (by kernel_rfl) rfl #[.agg #[.int .i64 7, .int .i64 0, .int .i64 (1), .int .i64 (tx), .int .i64 0, .int .i64 0, .string (⟨#[]⟩ : ByteArray), .slice B7 0 d7, .slice B8 0 d8], agL (plS tx 1) (.slice D7 0 e7) (.slice D8 0 e8)] (by rfl) rfl rfl (by (try simp only [List.map_toArray, List.map_cons, List.map_nil]); first | done | rfl) ?_; refine (same_calls tx B7 B8 D7 D8 d7 d8 e7 e8 _ HX6.out HY6.out).mono ?_; rintro e u7 ⟨rfl, hb⟩; refine ⟨_, rfl, ?_⟩; have HNW7 := Aside0.mk (HNW6.out.below hb); have HRW7 := Aside0.mk (Kd.R_below HRW6.out hb); have BY7 := Aside0.mk (blk_below BY6.out hb); have hc7 := int_at HRW7.out a han; rw [← HTX.out] at hc7; have HC7 := Aside0.mk hc7; clear hb hc7)
        refine hK.out _ _ ⟨BY7.out, HC7.out⟩ (fun hHeld => ?_)
        clear hK K
        refine norm_ (a' := ?_) ?_ ?_
        rotate_left
        · show Act.put _ (some 124) _ = _
          simp only [Act.put, List.setIfInBounds_toArray, List.set_cons_zero, List.set_cons_succ, i64_w, i32_w]
          rfl
        refine pure_ (i := 10) (N := some 125) (v := ?_) (a' := ?_) #[true, true, true, true, true, true, true, true, true, true, true, false] rfl rfl (any_of HT_.out (by kernel_rfl)) (fun _ _ _ h => h) (Or.inl ⟨by rfl, ?_⟩) ?_ ?_
        rotate_left
        · intro w'
          go_simp
          with_reducible rfl
        rotate_left
        · simp only [Act.put, List.setIfInBounds_toArray, List.set_cons_zero, List.set_cons_succ, i64_w, i32_w]
          rfl
        refine pure_ (i := 11) (N := some 126) (v := ?_) (a' := ?_) #[true, true, true, true, true, true, true, true, true, true, true, true] rfl rfl (any_of HT_.out (by kernel_rfl)) (fun _ _ _ h => h) (Or.inl ⟨by rfl, ?_⟩) ?_ ?_
        rotate_left
        · intro w'
          go_simp
          with_reducible rfl
        rotate_left
        · simp only [Act.put, List.setIfInBounds_toArray, List.set_cons_zero, List.set_cons_succ, i64_w, i32_w]
          rfl
        refine done_ (done_of HT_.out (by kernel_rfl)) ?_
        clear hHeld
        have hnc : n ≤ c5 := (Kd.R_reads' HRW7.out).2.1
        have HQ1 : Aside0 (a ≤ on.length ∧ a + 1 ≤ on.length ∧ on.length ≤ c5) := ⟨by rw [← HN.out]; omega⟩
        have HQ4 : Aside0 ((0 + a) * 8 ≤ 140737488355328) := ⟨by omega⟩
        have HQ9 : Aside0 ((a + (n - (a + 1))) * 8 ≤ 140737488355328) := ⟨by omega⟩
        have p1 : (a ≤ c5) = True := eq_true (by omega)
        clear hnc
        have p2 : (0 ≤ (a : Int) + 1) = True := eq_true (by omega)
        have p3 : ((a : Int) + 1 ≤ (n : Int)) = True := eq_true (by omega)
        have hwi : wrap64 ((a : Int) + 1) = (a : Int) + 1 := by unfold wrap64; omega
        have hti : Aside0 ((on.take a).length = a) := ⟨List.length_take_of_le (by rw [← HN.out]; exact Nat.le_of_lt han)⟩
        have hdi : Aside0 ((on.drop (a + 1)).length = n - (a + 1)) := ⟨by rw [List.length_drop, ← HN.out]⟩
        go_upto_region 32 with (fail)
        refine start_ (n := 11) (S := fun w' => True) (ds := []) #[false, false, false, false, false, false, false, false, false, false, false] (by kernel_rfl) rfl rfl trivial (fun hHeld => ?_)
        refine with_tabW rg4_32_tab rg4_32_bits (fun HT_ HW_ => ?_)
        obtain ⟨W8, hW_⟩ : ∃ W_, W_ = u7.drew := ⟨_, rfl⟩
        have HBd8 : Aside0 (Below u7.heap.size u7 W8) := ⟨by rw [hW_]; exact below_drew (Below.refl _ _)⟩
        rw [← hW_]
        clear hW_ hHeld
        have HNW8 := Aside0.mk (HNW7.out.below HBd8.out)
        have HRW8 := Aside0.mk (Kd.R_below HRW7.out HBd8.out)
        have HBW := Aside0.mk (Below.refl W8.heap.size W8)
        have HGW := Aside0.mk HNW8.out.bel.size
        refine pure_ (i := 1) (N := some 128) (v := ?_) (a' := ?_) #[false, true, false, false, false, false, false, false, false, false, false] rfl rfl (any_of HT_.out (by kernel_rfl)) (fun _ _ _ h => h) (Or.inl ⟨by rfl, ?_⟩) ?_ ?_
        rotate_left
        · intro w'
          go_simp
          with_reducible rfl
        rotate_left
        · simp only [Act.put, List.setIfInBounds_toArray, List.set_cons_zero, List.set_cons_succ, i64_w, i32_w]
          rfl
        refine pure_ (i := 2) (N := some 129) (v := ?_) (a' := ?_) #[false, true, true, false, false, false, false, false, false, false, false] rfl rfl (any_of HT_.out (by kernel_rfl)) (fun _ _ _ h => h) (Or.inl ⟨by rfl, ?_⟩) ?_ ?_
        rotate_left
        · intro w'
          go_simp
          with_reducible rfl
        rotate_left
        · simp only [Act.put, List.setIfInBounds_toArray, List.set_cons_zero, List.set_cons_succ, i64_w, i32_w]
          rfl
        refine pure_ (i := 3) (N := some 130) (v := ?_) (a' := ?_) #[false, true, true, true, false, false, false, false, false, false, false] rfl rfl (any_of HT_.out (by kernel_rfl)) (fun _ _ _ h => h) (Or.inl ⟨by rfl, ?_⟩) ?_ ?_
        rotate_left
        · intro w'
          go_simp
          with_reducible rfl
        rotate_left
        · simp only [Act.put, List.setIfInBounds_toArray, List.set_cons_zero, List.set_cons_succ, i64_w, i32_w]
          rfl
        refine pure_ (i := 5) (N := some 132) (v := ?_) (a' := ?_) #[false, true, true, true, false, true, false, false, false, false, false] rfl rfl (any_of HT_.out (by kernel_rfl)) (fun _ _ _ h => h) (Or.inl ⟨by rfl, ?_⟩) ?_ ?_
        rotate_left
        · intro w'
          go_simp
          with_reducible rfl
        rotate_left
        · simp only [Act.put, List.setIfInBounds_toArray, List.set_cons_zero, List.set_cons_succ, i64_w, i32_w]
          rfl
        refine pure_ (i := 6) (N := some 133) (v := ?_) (a' := ?_) #[false, true, true, true, false, true, true, false, false, false, false] rfl rfl (any_of HT_.out (by kernel_rfl)) (fun _ _ _ h => h) (Or.inl ⟨by rfl, ?_⟩) ?_ ?_
        rotate_left
        · intro w'
          go_simp
          with_reducible rfl
        rotate_left
        · simp only [Act.put, List.setIfInBounds_toArray, List.set_cons_zero, List.set_cons_succ, i64_w, i32_w]
          rfl
        refine pure_ (i := 7) (N := some 134) (v := ?_) (a' := ?_) #[false, true, true, true, false, true, true, true, false, false, false] rfl rfl (any_of HT_.out (by kernel_rfl)) (fun _ _ _ h => h) (Or.inl ⟨by rfl, ?_⟩) ?_ ?_
        rotate_left
        · intro w'
          go_simp
          with_reducible rfl
        rotate_left
        · simp only [Act.put, List.setIfInBounds_toArray, List.set_cons_zero, List.set_cons_succ, i64_w, i32_w]
          rfl
        refine pure_ (i := 8) (N := some 135) (v := ?_) (a' := ?_) #[false, true, true, true, false, true, true, true, true, false, false] rfl rfl (any_of HT_.out (by kernel_rfl)) (fun _ _ _ h => h) (Or.inl ⟨by rfl, ?_⟩) ?_ ?_
        rotate_left
        · intro w'
          go_simp
          with_reducible rfl
        rotate_left
        · simp only [Act.put, List.setIfInBounds_toArray, List.set_cons_zero, List.set_cons_succ, i64_w, i32_w]
          rfl
        refine one_ (i := 0) (N := some 127) #[true, true, true, true, false, true, true, true, true, false, false] rfl rfl (one_of HT_.out (by kernel_rfl)) (by decide) (fun K hK => ?_)
        (refine Kd.R_lit_step (Kd.int .i64) (w0 := W8) W8.heap.size 3 (by rfl) (N := 127) rfl (xs := ([] : List Int)) (inner := []) (ok := fun _ => True) (okp := fun _ => True) ?hr (Reps.none _ _) (fun _ hk => hk) trivial HBW.out HBW.out.size (by simp) ?_; (case hr => first | (go_simp; done) | (go_simp; rfl)); intro v3 x3 ho hb hg hat; have HO3 := Aside0.mk ho; have HB3 := Aside0.mk hb; clear ho hb hg hat)
        refine hK.out _ _ trivial (fun hHeld => ?_)
        clear hK K
        refine norm_ (a' := ?_) ?_ ?_
        rotate_left
        · show Act.put _ (some 127) _ = _
          simp only [Act.put, List.setIfInBounds_toArray, List.set_cons_zero, List.set_cons_succ, i64_w, i32_w]
          rfl
        refine one_ (i := 4) (N := some 131) #[true, true, true, true, true, true, true, true, true, false, false] rfl rfl (one_of HT_.out (by kernel_rfl)) (by decide) (fun K hK => ?_)
        (refine Kd.R_append_rows_step (Kd.int .i64) (w0 := W8) W8.heap.size (by rfl) (.tmp 127) (.tmp 130) 39 3 (.int .i64 0) 8 rfl Try.underlying39 info3 rfl (by decide) (by omega) v3 [] (on.take a) _ _ _ (fun _ => True) (fun _ => False) rfl rfl HO3.out ?aR (fun _ _ h => h) (fun _ h => h.elim) (fun _ _ => trivial) HB3.out HB3.out.size HQ4.out ?_; (case aR => have hc := Kd.C_take (m := a) (Kd.C_below (Kd.R_reads' HRW8.out).2.2 HB3.out) HQ1.out.1; rw [hti.out] at hc; exact hc); intro v4 x4 ho hb hg hat; have HO4 := Aside0.mk ho; have HB4 := Aside0.mk hb; clear ho hb hg hat)
        refine hK.out _ _ trivial (fun hHeld => ?_)
        clear hK K
        refine norm_ (a' := ?_) ?_ ?_
        rotate_left
        · show Act.put _ (some 131) _ = _
          simp only [Act.put, List.setIfInBounds_toArray, List.set_cons_zero, List.set_cons_succ, i64_w, i32_w]
          rfl
        refine one_ (i := 9) (N := some 136) #[true, true, true, true, true, true, true, true, true, true, false] rfl rfl (one_of HT_.out (by kernel_rfl)) (by decide) (fun K hK => ?_)
        (refine Kd.R_append_rows_step (Kd.int .i64) (w0 := W8) W8.heap.size (by rfl) (.tmp 131) (.tmp 135) 39 3 (.int .i64 0) 8 rfl Try.underlying39 info3 rfl (by decide) (by omega) v4 ([] ++ on.take a) (on.drop (a + 1)) _ _ _ (fun _ => True) (fun _ => False) rfl rfl HO4.out ?aR (fun _ _ h => h) (fun _ h => h.elim) (fun _ _ => trivial) HB4.out HB4.out.size (by rw [List.nil_append, hti.out]; exact HQ9.out) ?_; (case aR => have hc := Kd.C_drop (m := a + 1) (c := c5) (Kd.C_below (Kd.R_reads' HRW8.out).2.2 HB4.out) HQ1.out.2.1 HQ1.out.2.2; rw [hdi.out, ← cut_at1] at hc; exact hc); intro v5' x5 ho hb hg hat; rw [List.nil_append, ← List.eraseIdx_eq_take_drop_succ] at ho; have HO5 := Aside0.mk ho; have HB5 := Aside0.mk hb; obtain ⟨A9, c9', hv9⟩ := Kd.R_slice ho; obtain ⟨n9, hn9⟩ : ∃ m, m = (on.eraseIdx a).length := ⟨_, rfl⟩; rw [← hn9] at hv9; have HN9 := Aside0.mk hn9; subst hv9; clear ho hb hg hat hn9)
        refine hK.out _ _ trivial (fun hHeld => ?_)
        clear hK K
        refine norm_ (a' := ?_) ?_ ?_
        rotate_left
        · show Act.put _ (some 136) _ = _
          simp only [Act.put, List.setIfInBounds_toArray, List.set_cons_zero, List.set_cons_succ, i64_w, i32_w]
          rfl
        refine pure_ (i := 10) (N := some 5) (v := ?_) (a' := ?_) #[true, true, true, true, true, true, true, true, true, true, true] rfl rfl (any_of HT_.out (by kernel_rfl)) (fun _ _ _ h => h) (Or.inl ⟨by rfl, ?_⟩) ?_ ?_
        rotate_left
        · intro w'
          go_simp
          with_reducible rfl
        rotate_left
        · simp only [Act.put, List.setIfInBounds_toArray, List.set_cons_zero, List.set_cons_succ, i64_w, i32_w]
          rfl
        refine done_ (done_of HT_.out (by kernel_rfl)) ?_
        generalize (if c5 = a + 1 then some (⟨gA, 0, none⟩ : Addr) else some ⟨gA, a + 1, none⟩) = Acut
        have HT9 : Aside0 (TS w x5 g (on.eraseIdx a) (.slice A9 n9 c9')) := ⟨HNW8.out.below HB5.out, Kd.R_lower HO5.out HGW.out⟩
        go_wp2_with (go_at_call 13; refine (t_len HT9.out).mono ?_; rintro e wA ⟨rfl, hb⟩; rw [← HN9.out]; have HTA := Aside0.mk (HT9.out.below hb); clear hb)
        go_roundw
        case rel => exact ⟨i + 1, on.eraseIdx a, by go_num, HI.out, ⟨HOi.out.mono.erase a⟩, HTA⟩
        case measure => have := HI.out; simp [intOf]; omega
      · have HK := Aside0.mk hk
        clear hk
        go_upto_region 27 with (first | (go_at_call 14; (with_reducible refine (amongt_calls x.f0 4 (by decide) (by decide) _).mono ?_); rintro e u1 ⟨rfl, hb⟩; rw [HK.out]; have HT1 := Aside0.mk (HTb.out.below hb); have BY1 := Aside0.mk (blk_below BYb.out hb); have yy1 : u1.cell? ⟨ga_, 1, none⟩ = some (.int .i64 x.f1) := (blk_cell BY1.out 1).trans rfl; clear hb) | (go_at_call 12; refine (t_takeA HT1.out HN.out HAT.out hl40 (by omega) HTX.out).mono ?_; rintro e u3 ⟨B7, d7, B8, d8, rfl, hx, hn, hr⟩; have HX3 := Aside0.mk hx; have HNW3 := Aside0.mk hn; have HRW3 := Aside0.mk hr; clear hx hn hr) | ((with_reducible refine gate_dst (N := 10) rfl ?_); refine box_event ?hg10 (N := 10) ?hd10 (cs := #[.int .i64 0, .int .i64 0, .int .i64 0, .int .i64 0, .int .i64 0, .int .i64 0, .string (⟨#[]⟩ : ByteArray), .slice none 0 0, .slice none 0 0]) (t := 32) ?hr10 ?_; (case hd10 => rfl); (case hg10 => rfl); (case hr10 => first | (go_simp; done) | (go_simp; rfl)); intro gb hg w3 hbox hb; have BX10 := Aside0.mk hbox; have HBx10 := Aside0.mk hb; have GE10 := Aside0.mk (show u3.heap.size ≤ gb from Nat.le_of_eq hg.symm); have GL10 := Aside0.mk (blk_lt hbox); obtain ⟨hz0, hzf0, hz1, hzf1, hz2, hzf2, hz3, hzf3, hz4, hzf4, hz5, hzf5, hz6, hzf6, hz7, hzf7, hz8, hzf8⟩ := c9f hbox; clear hg hbox hb))
        have BY10 : Aside0 ((((((((((w3.setCell ⟨gb, 0, none⟩ (.int .i64 7)).setCell ⟨gb, 1, none⟩ (.int .i64 0)).setCell ⟨gb, 2, none⟩ (.int .i64 (1))).setCell ⟨gb, 3, none⟩ (.int .i64 (tx))).setCell ⟨gb, 4, none⟩ (.int .i64 0)).setCell ⟨gb, 5, none⟩ (.int .i64 0)).setCell ⟨gb, 6, none⟩ (.string (⟨#[]⟩ : ByteArray))).setCell ⟨gb, 7, none⟩ (.slice B7 0 d7)).setCell ⟨gb, 8, none⟩ (.slice B8 0 d8)).heap[gb]? = some (.cells #[.int .i64 7, .int .i64 0, .int .i64 (1), .int .i64 (tx), .int .i64 0, .int .i64 0, .string (⟨#[]⟩ : ByteArray), .slice B7 0 d7, .slice B8 0 d8] 32 (0, 0))) := ⟨set9 BX10.out⟩
        have HBy10 : Aside0 (Below u3.heap.size u3 (((((((((w3.setCell ⟨gb, 0, none⟩ (.int .i64 7)).setCell ⟨gb, 1, none⟩ (.int .i64 0)).setCell ⟨gb, 2, none⟩ (.int .i64 (1))).setCell ⟨gb, 3, none⟩ (.int .i64 (tx))).setCell ⟨gb, 4, none⟩ (.int .i64 0)).setCell ⟨gb, 5, none⟩ (.int .i64 0)).setCell ⟨gb, 6, none⟩ (.string (⟨#[]⟩ : ByteArray))).setCell ⟨gb, 7, none⟩ (.slice B7 0 d7)).setCell ⟨gb, 8, none⟩ (.slice B8 0 d8))) := ⟨below9 HBx10.out GE10.out⟩
        have HSy10 : Aside0 (gb < (((((((((w3.setCell ⟨gb, 0, none⟩ (.int .i64 7)).setCell ⟨gb, 1, none⟩ (.int .i64 0)).setCell ⟨gb, 2, none⟩ (.int .i64 (1))).setCell ⟨gb, 3, none⟩ (.int .i64 (tx))).setCell ⟨gb, 4, none⟩ (.int .i64 0)).setCell ⟨gb, 5, none⟩ (.int .i64 0)).setCell ⟨gb, 6, none⟩ (.string (⟨#[]⟩ : ByteArray))).setCell ⟨gb, 7, none⟩ (.slice B7 0 d7)).setCell ⟨gb, 8, none⟩ (.slice B8 0 d8)).heap.size) := ⟨blk_lt BY10.out⟩
        generalize (((((((((w3.setCell ⟨gb, 0, none⟩ (.int .i64 7)).setCell ⟨gb, 1, none⟩ (.int .i64 0)).setCell ⟨gb, 2, none⟩ (.int .i64 (1))).setCell ⟨gb, 3, none⟩ (.int .i64 (tx))).setCell ⟨gb, 4, none⟩ (.int .i64 0)).setCell ⟨gb, 5, none⟩ (.int .i64 0)).setCell ⟨gb, 6, none⟩ (.string (⟨#[]⟩ : ByteArray))).setCell ⟨gb, 7, none⟩ (.slice B7 0 d7)).setCell ⟨gb, 8, none⟩ (.slice B8 0 d8) : World) = W4 at BY10 HBy10 HSy10 ⊢
        clear hz0 hzf0 hz1 hzf1 hz2 hzf2 hz3 hzf3 hz4 hzf4 hz5 hzf5 hz6 hzf6 hz7 hzf7 hz8 hzf8
        have HX4 := Aside0.mk (HX3.out.below HBy10.out)
        have HNW4 := Aside0.mk (HNW3.out.below HBy10.out)
        have HRW4 := Aside0.mk (Kd.R_below HRW3.out HBy10.out)
        clear HX3 HNW3 HRW3
        go_upto_region 30 with (fail)
        have hcell := int_at HRW4.out a han
        rw [← HTX.out] at hcell
        refine start_ (n := 12) (S := fun w' => w'.heap[gb]? = some (.cells #[.int .i64 7, .int .i64 0, .int .i64 (1), .int .i64 (tx), .int .i64 0, .int .i64 0, .string (⟨#[]⟩ : ByteArray), .slice B7 0 d7, .slice B8 0 d8] 32 (0, 0)) ∧ w'.cell? ⟨gA, a, none⟩ = some (.int .i64 tx)) (ds := []) #[false, false, false, false, false, false, false, false, false, false, false, false] (by kernel_rfl) rfl rfl ⟨blk_drew BY10.out, hcell⟩ (fun hHeld => ?_)
        refine with_tabW rg4_30_tab rg4_30_bits (fun HT_ HW_ => ?_)
        obtain ⟨W5, hW_⟩ : ∃ W_, W_ = W4.drew := ⟨_, rfl⟩
        have HBd : Aside0 (Below W4.heap.size W4 W5) := ⟨by rw [hW_]; exact below_drew (Below.refl _ _)⟩
        rw [← hW_] at hHeld ⊢
        clear hW_ hcell
        have HX5 := Aside0.mk (HX4.out.below HBd.out)
        have HNW5 := Aside0.mk (HNW4.out.below HBd.out)
        have HRW5 := Aside0.mk (Kd.R_below HRW4.out HBd.out)
        have BY5 := Aside0.mk hHeld.1
        refine pure_ (i := 0) (N := some 115) (v := ?_) (a' := ?_) #[true, false, false, false, false, false, false, false, false, false, false, false] rfl rfl (any_of HT_.out (by kernel_rfl)) (fun _ _ _ h => h) (Or.inl ⟨by rfl, ?_⟩) ?_ ?_
        rotate_left
        · intro w'
          go_simp
          with_reducible rfl
        rotate_left
        · simp only [Act.put, List.setIfInBounds_toArray, List.set_cons_zero, List.set_cons_succ, i64_w, i32_w]
          rfl
        refine pure_ (i := 1) (N := some 116) (v := ?_) (a' := ?_) #[true, true, false, false, false, false, false, false, false, false, false, false] rfl rfl (any_of HT_.out (by kernel_rfl)) (fun _ _ _ h => h) (Or.inl ⟨by rfl, ?_⟩) ?_ ?_
        rotate_left
        · intro w'
          go_simp
          with_reducible rfl
        rotate_left
        · simp only [Act.put, List.setIfInBounds_toArray, List.set_cons_zero, List.set_cons_succ, i64_w, i32_w]
          rfl
        refine pure_ (i := 2) (N := some 117) (v := ?_) (a' := ?_) #[true, true, true, false, false, false, false, false, false, false, false, false] rfl rfl (any_of HT_.out (by kernel_rfl)) (fun _ _ _ h => h) (Or.inl ⟨by rfl, ?_⟩) ?_ ?_
        rotate_left
        · intro w'
          go_simp
          with_reducible rfl
        rotate_left
        · simp only [Act.put, List.setIfInBounds_toArray, List.set_cons_zero, List.set_cons_succ, i64_w, i32_w]
          rfl
        refine take_ (i := 3) (N := some 118) (v := ?_) (a' := ?_) #[true, true, true, true, false, false, false, false, false, false, false, false] rfl rfl (take_ofW HT_.out HW_.out (by kernel_rfl)) (fun _ _ _ h => h) (Or.inl ⟨by rfl, ?_⟩) hHeld ?_ ?_
        rotate_left
        · rintro w' ⟨s1, s2⟩
          obtain ⟨hl0, hl1', hl2', hl3, hl4, hl5, hl6, hl7, hl8⟩ := c9 s1
          go_simp
          with_reducible rfl
        rotate_left
        · simp only [Act.put, List.setIfInBounds_toArray, List.set_cons_zero, List.set_cons_succ, i64_w, i32_w]
          rfl
        refine pure_ (i := 4) (N := some 119) (v := ?_) (a' := ?_) #[true, true, true, true, true, false, false, false, false, false, false, false] rfl rfl (any_of HT_.out (by kernel_rfl)) (fun _ _ _ h => h) (Or.inl ⟨by rfl, ?_⟩) ?_ ?_
        rotate_left
        · intro w'
          go_simp
          with_reducible rfl
        rotate_left
        · simp only [Act.put, List.setIfInBounds_toArray, List.set_cons_zero, List.set_cons_succ, i64_w, i32_w]
          rfl
        refine pure_ (i := 5) (N := some 120) (v := ?_) (a' := ?_) #[true, true, true, true, true, true, false, false, false, false, false, false] rfl rfl (any_of HT_.out (by kernel_rfl)) (fun _ _ _ h => h) (Or.inl ⟨by rfl, ?_⟩) ?_ ?_
        rotate_left
        · intro w'
          go_simp
          with_reducible rfl
        rotate_left
        · simp only [Act.put, List.setIfInBounds_toArray, List.set_cons_zero, List.set_cons_succ, i64_w, i32_w]
          rfl
        refine pure_ (i := 6) (N := some 121) (v := ?_) (a' := ?_) #[true, true, true, true, true, true, true, false, false, false, false, false] rfl rfl (any_of HT_.out (by kernel_rfl)) (fun _ _ _ h => h) (Or.inl ⟨by rfl, ?_⟩) ?_ ?_
        rotate_left
        · intro w'
          go_simp
          with_reducible rfl
        rotate_left
        · simp only [Act.put, List.setIfInBounds_toArray, List.set_cons_zero, List.set_cons_succ, i64_w, i32_w]
          rfl
        refine take_ (i := 7) (N := some 122) (v := ?_) (a' := ?_) #[true, true, true, true, true, true, true, true, false, false, false, false] rfl rfl (take_ofW HT_.out HW_.out (by kernel_rfl)) (fun _ _ _ h => h) (Or.inl ⟨by rfl, ?_⟩) hHeld ?_ ?_
        rotate_left
        · rintro w' ⟨s1, s2⟩
          go_simp
          with_reducible rfl
        rotate_left
        · simp only [Act.put, List.setIfInBounds_toArray, List.set_cons_zero, List.set_cons_succ, i64_w, i32_w]
          rfl
        refine one_ (i := 8) (N := some 123) #[true, true, true, true, true, true, true, true, true, false, false, false] rfl rfl (one_of HT_.out (by kernel_rfl)) (by decide) (fun K hK => ?_)
        (refine goes_ Try.func11 (by kernel_rfl) rfl #[.int .i64 tx, .int .i64 1] (by rfl) rfl rfl (by (try simp only [List.map_toArray, List.map_cons, List.map_nil]); first | done | rfl) ?_; refine (plain_calls tx 1 _).mono ?_; rintro e u6 ⟨v7, v8, rfl, hr, hb⟩; obtain ⟨D7, e7, D8, e8, hu7, hu8⟩ := rd_plain hr; subst hu7 hu8; refine ⟨_, rfl, ?_⟩; have HY6 := Aside0.mk hr; have HX6 := Aside0.mk (HX5.out.below hb); have HNW6 := Aside0.mk (HNW5.out.below hb); have HRW6 := Aside0.mk (Kd.R_below HRW5.out hb); have BY6 := Aside0.mk (blk_below BY5.out hb); have hc6 := int_at HRW6.out a han; rw [← HTX.out] at hc6; have HC6 := Aside0.mk hc6; clear hr hb hc6)
        refine hK.out _ _ ⟨BY6.out, HC6.out⟩ (fun hHeld => ?_)
        clear hK K
        refine norm_ (a' := ?_) ?_ ?_
        rotate_left
        · show Act.put _ (some 123) _ = _
          simp only [Act.put, List.setIfInBounds_toArray, List.set_cons_zero, List.set_cons_succ, i64_w, i32_w]
          rfl
        refine one_ (i := 9) (N := some 124) #[true, true, true, true, true, true, true, true, true, true, false, false] rfl rfl (one_of HT_.out (by kernel_rfl)) (by decide) (fun K hK => ?_)
        (refine goes_ Try.func15 (by kernel_rfl) rfl #[.agg #[.int .i64 7, .int .i64 0, .int .i64 (1), .int .i64 (tx), .int .i64 0, .int .i64 0, .string (⟨#[]⟩ : ByteArray), .slice B7 0 d7, .slice B8 0 d8], agL (plS tx 1) (.slice D7 0 e7) (.slice D8 0 e8)] (by rfl) rfl rfl (by (try simp only [List.map_toArray, List.map_cons, List.map_nil]); first | done | rfl) ?_; refine (same_calls tx B7 B8 D7 D8 d7 d8 e7 e8 _ HX6.out HY6.out).mono ?_; rintro e u7 ⟨rfl, hb⟩; refine ⟨_, rfl, ?_⟩; have HNW7 := Aside0.mk (HNW6.out.below hb); have HRW7 := Aside0.mk (Kd.R_below HRW6.out hb); have BY7 := Aside0.mk (blk_below BY6.out hb); have hc7 := int_at HRW7.out a han; rw [← HTX.out] at hc7; have HC7 := Aside0.mk hc7; clear hb hc7)
        refine hK.out _ _ ⟨BY7.out, HC7.out⟩ (fun hHeld => ?_)
        clear hK K
        refine norm_ (a' := ?_) ?_ ?_
        rotate_left
        · show Act.put _ (some 124) _ = _
          simp only [Act.put, List.setIfInBounds_toArray, List.set_cons_zero, List.set_cons_succ, i64_w, i32_w]
          rfl
        refine pure_ (i := 10) (N := some 125) (v := ?_) (a' := ?_) #[true, true, true, true, true, true, true, true, true, true, true, false] rfl rfl (any_of HT_.out (by kernel_rfl)) (fun _ _ _ h => h) (Or.inl ⟨by rfl, ?_⟩) ?_ ?_
        rotate_left
        · intro w'
          go_simp
          with_reducible rfl
        rotate_left
        · simp only [Act.put, List.setIfInBounds_toArray, List.set_cons_zero, List.set_cons_succ, i64_w, i32_w]
          rfl
        refine pure_ (i := 11) (N := some 126) (v := ?_) (a' := ?_) #[true, true, true, true, true, true, true, true, true, true, true, true] rfl rfl (any_of HT_.out (by kernel_rfl)) (fun _ _ _ h => h) (Or.inl ⟨by rfl, ?_⟩) ?_ ?_
        rotate_left
        · intro w'
          go_simp
          with_reducible rfl
        rotate_left
        · simp only [Act.put, List.setIfInBounds_toArray, List.set_cons_zero, List.set_cons_succ, i64_w, i32_w]
          rfl
        refine done_ (done_of HT_.out (by kernel_rfl)) ?_
        clear hHeld
        have hnc : n ≤ c5 := (Kd.R_reads' HRW7.out).2.1
        have HQ1 : Aside0 (a ≤ on.length ∧ a + 1 ≤ on.length ∧ on.length ≤ c5) := ⟨by rw [← HN.out]; omega⟩
        have HQ4 : Aside0 ((0 + a) * 8 ≤ 140737488355328) := ⟨by omega⟩
        have HQ9 : Aside0 ((a + (n - (a + 1))) * 8 ≤ 140737488355328) := ⟨by omega⟩
        have p1 : (a ≤ c5) = True := eq_true (by omega)
        clear hnc
        have p2 : (0 ≤ (a : Int) + 1) = True := eq_true (by omega)
        have p3 : ((a : Int) + 1 ≤ (n : Int)) = True := eq_true (by omega)
        have hwi : wrap64 ((a : Int) + 1) = (a : Int) + 1 := by unfold wrap64; omega
        have hti : Aside0 ((on.take a).length = a) := ⟨List.length_take_of_le (by rw [← HN.out]; exact Nat.le_of_lt han)⟩
        have hdi : Aside0 ((on.drop (a + 1)).length = n - (a + 1)) := ⟨by rw [List.length_drop, ← HN.out]⟩
        go_upto_region 32 with (fail)
        refine start_ (n := 11) (S := fun w' => True) (ds := []) #[false, false, false, false, false, false, false, false, false, false, false] (by kernel_rfl) rfl rfl trivial (fun hHeld => ?_)
        refine with_tabW rg4_32_tab rg4_32_bits (fun HT_ HW_ => ?_)
        obtain ⟨W8, hW_⟩ : ∃ W_, W_ = u7.drew := ⟨_, rfl⟩
        have HBd8 : Aside0 (Below u7.heap.size u7 W8) := ⟨by rw [hW_]; exact below_drew (Below.refl _ _)⟩
        rw [← hW_]
        clear hW_ hHeld
        have HNW8 := Aside0.mk (HNW7.out.below HBd8.out)
        have HRW8 := Aside0.mk (Kd.R_below HRW7.out HBd8.out)
        have HBW := Aside0.mk (Below.refl W8.heap.size W8)
        have HGW := Aside0.mk HNW8.out.bel.size
        refine pure_ (i := 1) (N := some 128) (v := ?_) (a' := ?_) #[false, true, false, false, false, false, false, false, false, false, false] rfl rfl (any_of HT_.out (by kernel_rfl)) (fun _ _ _ h => h) (Or.inl ⟨by rfl, ?_⟩) ?_ ?_
        rotate_left
        · intro w'
          go_simp
          with_reducible rfl
        rotate_left
        · simp only [Act.put, List.setIfInBounds_toArray, List.set_cons_zero, List.set_cons_succ, i64_w, i32_w]
          rfl
        refine pure_ (i := 2) (N := some 129) (v := ?_) (a' := ?_) #[false, true, true, false, false, false, false, false, false, false, false] rfl rfl (any_of HT_.out (by kernel_rfl)) (fun _ _ _ h => h) (Or.inl ⟨by rfl, ?_⟩) ?_ ?_
        rotate_left
        · intro w'
          go_simp
          with_reducible rfl
        rotate_left
        · simp only [Act.put, List.setIfInBounds_toArray, List.set_cons_zero, List.set_cons_succ, i64_w, i32_w]
          rfl
        refine pure_ (i := 3) (N := some 130) (v := ?_) (a' := ?_) #[false, true, true, true, false, false, false, false, false, false, false] rfl rfl (any_of HT_.out (by kernel_rfl)) (fun _ _ _ h => h) (Or.inl ⟨by rfl, ?_⟩) ?_ ?_
        rotate_left
        · intro w'
          go_simp
          with_reducible rfl
        rotate_left
        · simp only [Act.put, List.setIfInBounds_toArray, List.set_cons_zero, List.set_cons_succ, i64_w, i32_w]
          rfl
        refine pure_ (i := 5) (N := some 132) (v := ?_) (a' := ?_) #[false, true, true, true, false, true, false, false, false, false, false] rfl rfl (any_of HT_.out (by kernel_rfl)) (fun _ _ _ h => h) (Or.inl ⟨by rfl, ?_⟩) ?_ ?_
        rotate_left
        · intro w'
          go_simp
          with_reducible rfl
        rotate_left
        · simp only [Act.put, List.setIfInBounds_toArray, List.set_cons_zero, List.set_cons_succ, i64_w, i32_w]
          rfl
        refine pure_ (i := 6) (N := some 133) (v := ?_) (a' := ?_) #[false, true, true, true, false, true, true, false, false, false, false] rfl rfl (any_of HT_.out (by kernel_rfl)) (fun _ _ _ h => h) (Or.inl ⟨by rfl, ?_⟩) ?_ ?_
        rotate_left
        · intro w'
          go_simp
          with_reducible rfl
        rotate_left
        · simp only [Act.put, List.setIfInBounds_toArray, List.set_cons_zero, List.set_cons_succ, i64_w, i32_w]
          rfl
        refine pure_ (i := 7) (N := some 134) (v := ?_) (a' := ?_) #[false, true, true, true, false, true, true, true, false, false, false] rfl rfl (any_of HT_.out (by kernel_rfl)) (fun _ _ _ h => h) (Or.inl ⟨by rfl, ?_⟩) ?_ ?_
        rotate_left
        · intro w'
          go_simp
          with_reducible rfl
        rotate_left
        · simp only [Act.put, List.setIfInBounds_toArray, List.set_cons_zero, List.set_cons_succ, i64_w, i32_w]
          rfl
        refine pure_ (i := 8) (N := some 135) (v := ?_) (a' := ?_) #[false, true, true, true, false, true, true, true, true, false, false] rfl rfl (any_of HT_.out (by kernel_rfl)) (fun _ _ _ h => h) (Or.inl ⟨by rfl, ?_⟩) ?_ ?_
        rotate_left
        · intro w'
          go_simp
          with_reducible rfl
        rotate_left
        · simp only [Act.put, List.setIfInBounds_toArray, List.set_cons_zero, List.set_cons_succ, i64_w, i32_w]
          rfl
        refine one_ (i := 0) (N := some 127) #[true, true, true, true, false, true, true, true, true, false, false] rfl rfl (one_of HT_.out (by kernel_rfl)) (by decide) (fun K hK => ?_)
        (refine Kd.R_lit_step (Kd.int .i64) (w0 := W8) W8.heap.size 3 (by rfl) (N := 127) rfl (xs := ([] : List Int)) (inner := []) (ok := fun _ => True) (okp := fun _ => True) ?hr (Reps.none _ _) (fun _ hk => hk) trivial HBW.out HBW.out.size (by simp) ?_; (case hr => first | (go_simp; done) | (go_simp; rfl)); intro v3 x3 ho hb hg hat; have HO3 := Aside0.mk ho; have HB3 := Aside0.mk hb; clear ho hb hg hat)
        refine hK.out _ _ trivial (fun hHeld => ?_)
        clear hK K
        refine norm_ (a' := ?_) ?_ ?_
        rotate_left
        · show Act.put _ (some 127) _ = _
          simp only [Act.put, List.setIfInBounds_toArray, List.set_cons_zero, List.set_cons_succ, i64_w, i32_w]
          rfl
        refine one_ (i := 4) (N := some 131) #[true, true, true, true, true, true, true, true, true, false, false] rfl rfl (one_of HT_.out (by kernel_rfl)) (by decide) (fun K hK => ?_)
        (refine Kd.R_append_rows_step (Kd.int .i64) (w0 := W8) W8.heap.size (by rfl) (.tmp 127) (.tmp 130) 39 3 (.int .i64 0) 8 rfl Try.underlying39 info3 rfl (by decide) (by omega) v3 [] (on.take a) _ _ _ (fun _ => True) (fun _ => False) rfl rfl HO3.out ?aR (fun _ _ h => h) (fun _ h => h.elim) (fun _ _ => trivial) HB3.out HB3.out.size HQ4.out ?_; (case aR => have hc := Kd.C_take (m := a) (Kd.C_below (Kd.R_reads' HRW8.out).2.2 HB3.out) HQ1.out.1; rw [hti.out] at hc; exact hc); intro v4 x4 ho hb hg hat; have HO4 := Aside0.mk ho; have HB4 := Aside0.mk hb; clear ho hb hg hat)
        refine hK.out _ _ trivial (fun hHeld => ?_)
        clear hK K
        refine norm_ (a' := ?_) ?_ ?_
        rotate_left
        · show Act.put _ (some 131) _ = _
          simp only [Act.put, List.setIfInBounds_toArray, List.set_cons_zero, List.set_cons_succ, i64_w, i32_w]
          rfl
        refine one_ (i := 9) (N := some 136) #[true, true, true, true, true, true, true, true, true, true, false] rfl rfl (one_of HT_.out (by kernel_rfl)) (by decide) (fun K hK => ?_)
        (refine Kd.R_append_rows_step (Kd.int .i64) (w0 := W8) W8.heap.size (by rfl) (.tmp 131) (.tmp 135) 39 3 (.int .i64 0) 8 rfl Try.underlying39 info3 rfl (by decide) (by omega) v4 ([] ++ on.take a) (on.drop (a + 1)) _ _ _ (fun _ => True) (fun _ => False) rfl rfl HO4.out ?aR (fun _ _ h => h) (fun _ h => h.elim) (fun _ _ => trivial) HB4.out HB4.out.size (by rw [List.nil_append, hti.out]; exact HQ9.out) ?_; (case aR => have hc := Kd.C_drop (m := a + 1) (c := c5) (Kd.C_below (Kd.R_reads' HRW8.out).2.2 HB4.out) HQ1.out.2.1 HQ1.out.2.2; rw [hdi.out, ← cut_at1] at hc; exact hc); intro v5' x5 ho hb hg hat; rw [List.nil_append, ← List.eraseIdx_eq_take_drop_succ] at ho; have HO5 := Aside0.mk ho; have HB5 := Aside0.mk hb; obtain ⟨A9, c9', hv9⟩ := Kd.R_slice ho; obtain ⟨n9, hn9⟩ : ∃ m, m = (on.eraseIdx a).length := ⟨_, rfl⟩; rw [← hn9] at hv9; have HN9 := Aside0.mk hn9; subst hv9; clear ho hb hg hat hn9)
        refine hK.out _ _ trivial (fun hHeld => ?_)
        clear hK K
        refine norm_ (a' := ?_) ?_ ?_
        rotate_left
        · show Act.put _ (some 136) _ = _
          simp only [Act.put, List.setIfInBounds_toArray, List.set_cons_zero, List.set_cons_succ, i64_w, i32_w]
          rfl
        refine pure_ (i := 10) (N := some 5) (v := ?_) (a' := ?_) #[true, true, true, true, true, true, true, true, true, true, true] rfl rfl (any_of HT_.out (by kernel_rfl)) (fun _ _ _ h => h) (Or.inl ⟨by rfl, ?_⟩) ?_ ?_
        rotate_left
        · intro w'
          go_simp
          with_reducible rfl
        rotate_left
        · simp only [Act.put, List.setIfInBounds_toArray, List.set_cons_zero, List.set_cons_succ, i64_w, i32_w]
          rfl
        refine done_ (done_of HT_.out (by kernel_rfl)) ?_
        generalize (if c5 = a + 1 then some (⟨gA, 0, none⟩ : Addr) else some ⟨gA, a + 1, none⟩) = Acut
        have HT9 : Aside0 (TS w x5 g (on.eraseIdx a) (.slice A9 n9 c9')) := ⟨HNW8.out.below HB5.out, Kd.R_lower HO5.out HGW.out⟩
        go_wp2_with (go_at_call 13; refine (t_len HT9.out).mono ?_; rintro e wA ⟨rfl, hb⟩; rw [← HN9.out]; have HTA := Aside0.mk (HT9.out.below hb); clear hb)
        go_roundw
        case rel => exact ⟨i + 1, on.eraseIdx a, by go_num, HI.out, ⟨HOi.out.mono.erase a⟩, HTA⟩
        case measure => have := HI.out; simp [intOf]; omega
      · have HK := Aside0.mk hk
        clear hk
        by_cases hf : n < 40
        · have d1 : decide ((n : Int) < 40) = true := decide_eq_true (by omega)
          have d2 : decide (n < 40) = true := decide_eq_true (by omega)
          go_wp2_with (first | (go_at_call 14; (with_reducible refine (amongt_calls x.f0 4 (by decide) (by decide) _).mono ?_); rintro e u1 ⟨rfl, hb⟩; rw [HK.out]; have HT1 := Aside0.mk (HTb.out.below hb); have BY1 := Aside0.mk (blk_below BYb.out hb); have yy1 : u1.cell? ⟨ga_, 1, none⟩ = some (.int .i64 x.f1) := (blk_cell BY1.out 1).trans rfl; clear hb) | (go_at_call 16; refine (t_copyA_ok HT1.out hi HOi.out HN.out HAT.out (by omega) (by omega) HTX.out).mono ?_; rintro e u3 ⟨rfl, hn, hr⟩; have HNWs := Aside0.mk hn; have HRWs := Aside0.mk hr; have hc6 := int_at hr a han; rw [← HTX.out] at hc6; clear hn hr) | ((with_reducible refine gate_builtin (b := .append) (xs := #[.tmp 73, .tmp 78]) rfl ?_); at_builtin; refine Kd.R_append (Kd.int .i64) (w0 := w) w.heap.size rfl (.tmp 73) (.tmp 78) 39 3 (.int .i64 0) 8 rfl Try.underlying39 info3 rfl (by decide) (by omega) (.slice (some ⟨gA, 0, none⟩) n c5) on (tx) [.int .i64 (tx)] (fun _ => True) (fun _ => False) rfl (by first | (go_simp; done) | (go_simp; rfl)) ?aP (fun _ hk => hk.elim) ?aF ?aO ?aB ?aS ?aL ?_; (case aP => exact rfl); (case aF => exact (fun _ _ => trivial)); (case aO => exact HRWs.out); (case aB => exact HNWs.out.bel); (case aS => exact HNWs.out.bel.size); (case aL => have := HOi.out.1; omega); intro v5' w9 ho hb hg hat; have HT9 := Aside0.mk (TS.mk (HNWs.out.grown HRWs.out (by decide) (by decide) hg hb) ho); obtain ⟨A9, c9', hv9⟩ := Kd.R_slice ho; obtain ⟨n9, hn9⟩ : ∃ m, m = (on ++ [(tx : Int)]).length := ⟨_, rfl⟩; rw [← hn9] at hv9; have HN9 := Aside0.mk hn9; subst hv9; clear ho hb hg hat hn9) | (go_at_call 13; refine (t_len HT9.out).mono ?_; rintro e wA ⟨rfl, hb⟩; rw [← HN9.out]; have HTA := Aside0.mk (HT9.out.below hb); clear hb))
          go_roundw
          case rel => exact ⟨i + 1, on ++ [tx], by go_num, HI.out, ⟨HOi.out.mono.add (by have := HN.out; omega) HTR.out.1 (by have := HTR.out.2; omega)⟩, HTA⟩
          case measure => have := HI.out; simp [intOf]; omega
        · have d1 : decide ((n : Int) < 40) = false := decide_eq_false (by omega)
          have d2 : decide (n < 40) = false := decide_eq_false (by omega)
          go_wp2_with (first | (go_at_call 14; (with_reducible refine (amongt_calls x.f0 4 (by decide) (by decide) _).mono ?_); rintro e u1 ⟨rfl, hb⟩; rw [HK.out]; have HT1 := Aside0.mk (HTb.out.below hb); have BY1 := Aside0.mk (blk_below BYb.out hb); have yy1 : u1.cell? ⟨ga_, 1, none⟩ = some (.int .i64 x.f1) := (blk_cell BY1.out 1).trans rfl; clear hb) | (go_at_call 16; refine (t_copyA_full HT1.out hi HOi.out HN.out HAT.out (by omega) (by omega)).mono ?_; rintro e u3 ⟨rfl, ht⟩; have HT9 := Aside0.mk ht; clear ht) | (go_at_call 13; refine (t_len HT9.out).mono ?_; rintro e wA ⟨rfl, hb⟩; rw [← HN.out]; have HTA := Aside0.mk (HT9.out.below hb); clear hb))
          go_roundw
          case rel => exact ⟨i + 1, on, by go_num, HI.out, ⟨HOi.out.mono⟩, HTA⟩
          case measure => have := HI.out; simp [intOf]; omega
theorem corncriblaw15_NetTruth.calls (A0 : Option Addr) (c0 : Nat) (l0 : List S41) (r : Bool) (w : World) (hr0 : Kd.C k41 w A0 l0.length l0) (hc0 : l0.length ≤ c0) (h : corncriblaw15_NetTruth.f l0 = some r) (hr_ : r = true) :
    Calls Try.prog 4 #[.slice A0 l0.length c0] w fun e w' => e = .returned (.bool r) ∧ Below w.heap.size w w' := by
  subst hr_
  exact nettruth_ok A0 c0 l0 w hr0
end Go.Proofs.Ytnbomedhehoflaa.Al
