/- The walk of NetFirst. -/
import Derived.Test.YtnbomedhehoflaaPfb
namespace Go.Proofs.Ytnbomedhehoflaa.Al
open Go.RowKit Go.Proofs.YtnbomedhehoflaaW.PrintWords Go.Proofs.YtnbomedhehoflaaW.PrintLast Go.Proofs.YtnbomedhehoflaaW.PrintMore
set_option linter.unusedVariables false
set_option linter.unusedSimpArgs false
def corncriblaw15_NetFirst.f (a0 : Int) (a1 : Bool) : Option Bool := some true
def lst (back : Bool) (m j : Nat) : List S32 := if back = true then (plains 0 m).take (m - j) else (plains 0 m).drop j
def pickF (back : Bool) : Int := if back = true then -1 else 0
def wantF (back : Bool) (m j : Nat) : Int := if back = true then (m : Int) - j else (j : Int) + 1
theorem plains_get (dst : Int) (m i : Nat) (h : i < m) : (plains dst m).getD i z32 = plS ((i : Int) + 1) dst := by
  rw [List.getD_eq_getElem?_getD, List.getElem?_eq_getElem (by rw [plains_len]; exact h)]
  simp [plains]
theorem lst_len (back : Bool) (m j : Nat) (h : j ≤ m) : (lst back m j).length = m - j := by
  unfold lst
  split
  · rw [List.length_take, plains_len]; omega
  · rw [List.length_drop, plains_len]
theorem lst_pick (back : Bool) (m j : Nat) (h : j < m) : (lst back m j).getD (pickF back % ((lst back m j).length : Int)).toNat z32 = plS (wantF back m j) 0 ∧ (lst back m j).eraseIdx (pickF back % ((lst back m j).length : Int)).toNat = lst back m (j + 1) := by
  rw [lst_len back m j (by omega)]
  cases back with
  | true =>
    have e : (pickF true % ((m - j : Nat) : Int)).toNat = m - j - 1 := by
      show ((-1 : Int) % ((m - j : Nat) : Int)).toNat = _
      rw [show (-1 : Int) = ((m - j : Nat) : Int) * (-1) + (((m - j : Nat) : Int) - 1) by omega, Int.mul_add_emod_self_left, Int.emod_eq_of_lt (by omega) (by omega)]
      omega
    rw [e]
    have hl : m - j - 1 < m - j := by omega
    refine ⟨?_, ?_⟩
    · show ((plains 0 m).take (m - j)).getD (m - j - 1) z32 = plS ((m : Int) - j) 0
      rw [List.getD_eq_getElem?_getD, List.getElem?_take_of_lt hl, ← List.getD_eq_getElem?_getD, plains_get 0 m _ (by omega)]
      congr 1
      omega
    · show ((plains 0 m).take (m - j)).eraseIdx (m - j - 1) = (plains 0 m).take (m - (j + 1))
      apply List.ext_getElem?
      intro k
      rw [List.getElem?_eraseIdx]
      by_cases hk : k < m - j - 1
      · rw [if_pos hk, List.getElem?_take_of_lt (by omega), List.getElem?_take_of_lt (by omega)]
      · rw [if_neg hk, List.getElem?_eq_none (by rw [List.length_take]; omega), List.getElem?_eq_none (by rw [List.length_take]; omega)]
  | false =>
    have e : (pickF false % ((m - j : Nat) : Int)).toNat = 0 := by
      show ((0 : Int) % ((m - j : Nat) : Int)).toNat = 0
      rw [Int.zero_emod]; rfl
    rw [e]
    refine ⟨?_, ?_⟩
    · show ((plains 0 m).drop j).getD 0 z32 = plS ((j : Int) + 1) 0
      rw [List.getD_eq_getElem?_getD, List.getElem?_drop, Nat.add_zero, ← List.getD_eq_getElem?_getD, plains_get 0 m _ h]
    · show ((plains 0 m).drop j).eraseIdx 0 = (plains 0 m).drop (j + 1)
      rw [List.eraseIdx_zero, List.tail_drop]
theorem first_take {W w : World} {g : Nat} {X : Nat → Prop} (back : Bool) (m j : Nat) (h : NZ W w g 50 X (lst back m j)) (hj : j < m) (hm : m < 50) : Calls Try.prog 12 #[.pointer (some ⟨g, 0, none⟩), .int .i64 (pickF back)] w fun e w' => ∃ A7 c7 A8 c8, e = .returned (.tuple #[.agg #[.int .i64 7, .int .i64 0, .int .i64 (0), .int .i64 (wantF back m j), .int .i64 0, .int .i64 0, .string (⟨#[]⟩ : ByteArray), .slice A7 0 c7, .slice A8 0 c8], .int .i64 0]) ∧ NZ W w' g 50 X (lst back m (j + 1)) := by
  have hl := lst_len back m j (by omega)
  refine (z_take h (by omega) (by omega) (pickF back)).mono ?_
  obtain ⟨h1, h2⟩ := lst_pick back m j hj
  rw [h1, h2]
  rintro e w' ⟨u7, u8, rfl, hn, hr, hk⟩
  obtain ⟨A7, c7, A8, c8, rfl, rfl⟩ := rd_plain hr
  exact ⟨A7, c7, A8, c8, rfl, hn⟩
theorem first_takeB {W w : World} {g : Nat} {X : Nat → Prop} (m j : Nat) (h : NZ W w g 50 X (lst true m j)) (hj : j < m) (hm : m < 50) : Calls Try.prog 12 #[.pointer (some ⟨g, 0, none⟩), .int .i64 (-1)] w fun e w' => ∃ A7 c7 A8 c8, e = .returned (.tuple #[.agg #[.int .i64 7, .int .i64 0, .int .i64 (0), .int .i64 ((m : Int) - (j : Int)), .int .i64 0, .int .i64 0, .string (⟨#[]⟩ : ByteArray), .slice A7 0 c7, .slice A8 0 c8], .int .i64 0]) ∧ NZ W w' g 50 X (lst true m (j + 1)) := first_take true m j h hj hm
theorem first_takeF {W w : World} {g : Nat} {X : Nat → Prop} (m j : Nat) (h : NZ W w g 50 X (lst false m j)) (hj : j < m) (hm : m < 50) : Calls Try.prog 12 #[.pointer (some ⟨g, 0, none⟩), .int .i64 0] w fun e w' => ∃ A7 c7 A8 c8, e = .returned (.tuple #[.agg #[.int .i64 7, .int .i64 0, .int .i64 (0), .int .i64 ((j : Int) + 1), .int .i64 0, .int .i64 0, .string (⟨#[]⟩ : ByteArray), .slice A7 0 c7, .slice A8 0 c8], .int .i64 0]) ∧ NZ W w' g 50 X (lst false m (j + 1)) := first_take false m j h hj hm
theorem many_num (many : Int) : ∃ m : Nat, wrap64 ((IntKind.u64.wrap many).tmod 50) = (m : Int) ∧ m < 50 := by
  have h : IntKind.u64.wrap many = many % 18446744073709551616 := by rfl
  have h0 : 0 ≤ many % 18446744073709551616 := Int.emod_nonneg _ (by decide)
  rw [h, Int.tmod_eq_emod_of_nonneg h0]
  have h1 := Int.emod_nonneg (many % 18446744073709551616) (show (50 : Int) ≠ 0 by decide)
  have h2 := Int.emod_lt_of_pos (many % 18446744073709551616) (show (0 : Int) < 50 by decide)
  refine ⟨((many % 18446744073709551616) % 50).toNat, ?_, by omega⟩
  unfold wrap64
  omega
set_option maxHeartbeats 8000000 in
set_option maxRecDepth 100000 in
theorem netfirst_ok (many : Int) (back : Bool) (w : World) : Calls Try.prog 3 #[.int .i64 many, .bool back] w fun e w' => e = .returned (.bool true) ∧ Below w.heap.size w w' := by
  have hu32 := Try.underlying32
  go_enter Try.func3, Try.ntmps3
  go_upto_region 5 with (first | (go_at_call 8; refine (z_new w _ (Below.refl _ _) 50 (by decide) (by decide)).mono ?_; rintro e w1 ⟨g, rfl, hn, hb⟩; have HN1 := Aside0.mk hn; clear hn hb) | (go_at_call 9; refine (works_calls _).mono ?_; rintro e w2 ⟨rfl, hb⟩; have HN2 := Aside0.mk (HN1.out.below hb); clear hb))
  obtain ⟨m, hm, hm50⟩ := many_num many
  rw [hm]
  have HM := Aside0.mk hm50
  clear hm hm50 HN1
  go_wp2
  go_loopw [32, 7] (fun v32 _ wr => ∃ i : Nat, v32 = .int .i64 i ∧ i ≤ m ∧ Aside0 (NZ w wr g 50 (fun _ => False) (plains 0 i))) (fun v32 _ _ => m - (intOf v32).toNat)
  case atStart => exact ⟨0, rfl, by omega, HN2⟩
  case round =>
    obtain ⟨i, rfl, hi, HN⟩ := hrel
    clear HN2
    by_cases hlt : i < m
    · have b1 : decide ((i : Int) < (m : Int)) = true := decide_eq_true (by omega)
      have b2 : decide (i < m) = true := decide_eq_true hlt
      have HI := Aside0.mk hlt
      have hm50 := HM.out
      have q1 : wrap64 ((i : Int) + 1) = (i : Int) + 1 := by unfold wrap64; omega
      have HE := Aside0.mk (send_plain (room := 50) (l := plains 0 i) (txn := (i : Int) + 1) (dst := 0) (by omega) (by omega) (by decide) (by decide) (by rw [plains_len]; omega))
      clear hlt
      go_wp2_with (first | (go_at_call 11; refine (plain_calls ((i : Int) + 1) 0 _).mono ?_; rintro e w3 ⟨v7, v8, rfl, hr, hb⟩; have HR2 := Aside0.mk hr; have HN2 := Aside0.mk (HN.out.below hb); clear hr hb) | (go_at_call 10; refine (z_send HN2.out (by decide) HR2.out (Nat.zero_le _) (Nat.zero_le _)).mono ?_; rintro e w4 ⟨rfl, hn, hk⟩; rw [HE.out.1]; have HN3 := Aside0.mk (show NZ w w4 g 50 (fun _ => False) (plains 0 (i + 1)) from by rw [plains_succ, ← HE.out.2]; exact hn); clear hn hk))
      go_roundw
      case rel => exact ⟨i + 1, by go_num, HI.out, HN3⟩
      case measure => have := HI.out; simp [intOf]; omega
    · obtain rfl : i = m := by omega
      have b1 : decide ((i : Int) < (i : Int)) = false := decide_eq_false (by omega)
      have b2 : decide (i < i) = false := decide_eq_false hlt
      have HN0 : Aside0 (NZ w wr g 50 (fun _ => False) (lst back i 0)) := ⟨by
        have : lst back i 0 = plains 0 i := by
          unfold lst
          split
          · rw [List.take_of_length_le (by rw [plains_len]; omega)]
          · rfl
        rw [this]; exact HN.out⟩
      clear hlt HN
      go_wp2
      go_loopw [43, 8, 9, 10, 12] (fun v43 _ _ _ _ wr2 => ∃ j : Nat, v43 = .int .i64 j ∧ j ≤ i ∧ Aside0 (NZ w wr2 g 50 (fun _ => False) (lst back i j))) (fun v43 _ _ _ _ _ => i - (intOf v43).toNat)
      case atStart => exact ⟨0, rfl, by omega, HN0⟩
      case round =>
        obtain ⟨j, rfl, hj, HN⟩ := hrel
        clear HN0
        by_cases hlt : j < i
        · have b1 : decide ((j : Int) < (i : Int)) = true := decide_eq_true (by omega)
          have b2 : decide (j < i) = true := decide_eq_true hlt
          have HI := Aside0.mk hlt
          have hm50 := HM.out
          have q1 : wrap64 ((j : Int) + 1) = (j : Int) + 1 := by unfold wrap64; omega
          have q2 : wrap64 ((i : Int) - (j : Int)) = (i : Int) - (j : Int) := by unfold wrap64; omega
          have q3 : IntKind.i64.wrap ((i : Int) - (j : Int)) = (i : Int) - (j : Int) := by rw [IntKind.wrap_i64]; omega
          clear hlt
          cases back with
          | true =>
            go_upto_region 18 with (first | (go_at_call 12; refine (first_takeB i j HN.out HI.out HM.out).mono ?_; rintro e w5 ⟨A7, c7, A8, c8, rfl, hn⟩; have HN5 := Aside0.mk hn; clear hn) | ((with_reducible refine gate_dst (N := 11) rfl ?_); refine box_event ?hg11 (N := 11) ?hd11 (cs := #[.int .i64 0, .int .i64 0, .int .i64 0, .int .i64 0, .int .i64 0, .int .i64 0, .string (⟨#[]⟩ : ByteArray), .slice none 0 0, .slice none 0 0]) (t := 32) ?hr11 ?_; (case hd11 => rfl); (case hg11 => rfl); (case hr11 => first | (go_simp; done) | (go_simp; rfl)); intro g4 hg w6 hbox hb; have BX11 := Aside0.mk hbox; have HBx11 := Aside0.mk hb; have GE11 := Aside0.mk (show w5.heap.size ≤ g4 from Nat.le_of_eq hg.symm); have GL11 := Aside0.mk (blk_lt hbox); obtain ⟨hz0, hzf0, hz1, hzf1, hz2, hzf2, hz3, hzf3, hz4, hzf4, hz5, hzf5, hz6, hzf6, hz7, hzf7, hz8, hzf8⟩ := c9f hbox; clear hg hbox hb))
            have BY11 : Aside0 ((((((((((w6.setCell ⟨g4, 0, none⟩ (.int .i64 7)).setCell ⟨g4, 1, none⟩ (.int .i64 0)).setCell ⟨g4, 2, none⟩ (.int .i64 (0))).setCell ⟨g4, 3, none⟩ (.int .i64 ((i : Int) - (j : Int)))).setCell ⟨g4, 4, none⟩ (.int .i64 0)).setCell ⟨g4, 5, none⟩ (.int .i64 0)).setCell ⟨g4, 6, none⟩ (.string (⟨#[]⟩ : ByteArray))).setCell ⟨g4, 7, none⟩ (.slice A7 0 c7)).setCell ⟨g4, 8, none⟩ (.slice A8 0 c8)).heap[g4]? = some (.cells #[.int .i64 7, .int .i64 0, .int .i64 (0), .int .i64 ((i : Int) - (j : Int)), .int .i64 0, .int .i64 0, .string (⟨#[]⟩ : ByteArray), .slice A7 0 c7, .slice A8 0 c8] 32 (0, 0))) := ⟨set9 BX11.out⟩
            have HBy11 : Aside0 (Below w5.heap.size w5 (((((((((w6.setCell ⟨g4, 0, none⟩ (.int .i64 7)).setCell ⟨g4, 1, none⟩ (.int .i64 0)).setCell ⟨g4, 2, none⟩ (.int .i64 (0))).setCell ⟨g4, 3, none⟩ (.int .i64 ((i : Int) - (j : Int)))).setCell ⟨g4, 4, none⟩ (.int .i64 0)).setCell ⟨g4, 5, none⟩ (.int .i64 0)).setCell ⟨g4, 6, none⟩ (.string (⟨#[]⟩ : ByteArray))).setCell ⟨g4, 7, none⟩ (.slice A7 0 c7)).setCell ⟨g4, 8, none⟩ (.slice A8 0 c8))) := ⟨below9 HBx11.out GE11.out⟩
            have HSy11 : Aside0 (g4 < (((((((((w6.setCell ⟨g4, 0, none⟩ (.int .i64 7)).setCell ⟨g4, 1, none⟩ (.int .i64 0)).setCell ⟨g4, 2, none⟩ (.int .i64 (0))).setCell ⟨g4, 3, none⟩ (.int .i64 ((i : Int) - (j : Int)))).setCell ⟨g4, 4, none⟩ (.int .i64 0)).setCell ⟨g4, 5, none⟩ (.int .i64 0)).setCell ⟨g4, 6, none⟩ (.string (⟨#[]⟩ : ByteArray))).setCell ⟨g4, 7, none⟩ (.slice A7 0 c7)).setCell ⟨g4, 8, none⟩ (.slice A8 0 c8)).heap.size) := ⟨blk_lt BY11.out⟩
            generalize (((((((((w6.setCell ⟨g4, 0, none⟩ (.int .i64 7)).setCell ⟨g4, 1, none⟩ (.int .i64 0)).setCell ⟨g4, 2, none⟩ (.int .i64 (0))).setCell ⟨g4, 3, none⟩ (.int .i64 ((i : Int) - (j : Int)))).setCell ⟨g4, 4, none⟩ (.int .i64 0)).setCell ⟨g4, 5, none⟩ (.int .i64 0)).setCell ⟨g4, 6, none⟩ (.string (⟨#[]⟩ : ByteArray))).setCell ⟨g4, 7, none⟩ (.slice A7 0 c7)).setCell ⟨g4, 8, none⟩ (.slice A8 0 c8) : World) = w7 at BY11 HBy11 HSy11 ⊢
            clear hz0 hzf0 hz1 hzf1 hz2 hzf2 hz3 hzf3 hz4 hzf4 hz5 hzf5 hz6 hzf6 hz7 hzf7 hz8 hzf8
            have HN7 := Aside0.mk (HN5.out.below HBy11.out)
            have y3 : w7.cell? ⟨g4, 3, none⟩ = some (.int .i64 ((i : Int) - (j : Int))) := (blk_cell BY11.out 3).trans rfl
            go_wp2
            go_roundw
            case rel => exact ⟨j + 1, by go_num, HI.out, HN7⟩
            case measure => have := HI.out; simp [intOf]; omega
          | false =>
            go_upto_region 18 with (first | (go_at_call 12; refine (first_takeF i j HN.out HI.out HM.out).mono ?_; rintro e w5 ⟨A7, c7, A8, c8, rfl, hn⟩; have HN5 := Aside0.mk hn; clear hn) | ((with_reducible refine gate_dst (N := 11) rfl ?_); refine box_event ?hg11 (N := 11) ?hd11 (cs := #[.int .i64 0, .int .i64 0, .int .i64 0, .int .i64 0, .int .i64 0, .int .i64 0, .string (⟨#[]⟩ : ByteArray), .slice none 0 0, .slice none 0 0]) (t := 32) ?hr11 ?_; (case hd11 => rfl); (case hg11 => rfl); (case hr11 => first | (go_simp; done) | (go_simp; rfl)); intro g4 hg w6 hbox hb; have BX11 := Aside0.mk hbox; have HBx11 := Aside0.mk hb; have GE11 := Aside0.mk (show w5.heap.size ≤ g4 from Nat.le_of_eq hg.symm); have GL11 := Aside0.mk (blk_lt hbox); obtain ⟨hz0, hzf0, hz1, hzf1, hz2, hzf2, hz3, hzf3, hz4, hzf4, hz5, hzf5, hz6, hzf6, hz7, hzf7, hz8, hzf8⟩ := c9f hbox; clear hg hbox hb))
            have BY11 : Aside0 ((((((((((w6.setCell ⟨g4, 0, none⟩ (.int .i64 7)).setCell ⟨g4, 1, none⟩ (.int .i64 0)).setCell ⟨g4, 2, none⟩ (.int .i64 (0))).setCell ⟨g4, 3, none⟩ (.int .i64 ((j : Int) + 1))).setCell ⟨g4, 4, none⟩ (.int .i64 0)).setCell ⟨g4, 5, none⟩ (.int .i64 0)).setCell ⟨g4, 6, none⟩ (.string (⟨#[]⟩ : ByteArray))).setCell ⟨g4, 7, none⟩ (.slice A7 0 c7)).setCell ⟨g4, 8, none⟩ (.slice A8 0 c8)).heap[g4]? = some (.cells #[.int .i64 7, .int .i64 0, .int .i64 (0), .int .i64 ((j : Int) + 1), .int .i64 0, .int .i64 0, .string (⟨#[]⟩ : ByteArray), .slice A7 0 c7, .slice A8 0 c8] 32 (0, 0))) := ⟨set9 BX11.out⟩
            have HBy11 : Aside0 (Below w5.heap.size w5 (((((((((w6.setCell ⟨g4, 0, none⟩ (.int .i64 7)).setCell ⟨g4, 1, none⟩ (.int .i64 0)).setCell ⟨g4, 2, none⟩ (.int .i64 (0))).setCell ⟨g4, 3, none⟩ (.int .i64 ((j : Int) + 1))).setCell ⟨g4, 4, none⟩ (.int .i64 0)).setCell ⟨g4, 5, none⟩ (.int .i64 0)).setCell ⟨g4, 6, none⟩ (.string (⟨#[]⟩ : ByteArray))).setCell ⟨g4, 7, none⟩ (.slice A7 0 c7)).setCell ⟨g4, 8, none⟩ (.slice A8 0 c8))) := ⟨below9 HBx11.out GE11.out⟩
            have HSy11 : Aside0 (g4 < (((((((((w6.setCell ⟨g4, 0, none⟩ (.int .i64 7)).setCell ⟨g4, 1, none⟩ (.int .i64 0)).setCell ⟨g4, 2, none⟩ (.int .i64 (0))).setCell ⟨g4, 3, none⟩ (.int .i64 ((j : Int) + 1))).setCell ⟨g4, 4, none⟩ (.int .i64 0)).setCell ⟨g4, 5, none⟩ (.int .i64 0)).setCell ⟨g4, 6, none⟩ (.string (⟨#[]⟩ : ByteArray))).setCell ⟨g4, 7, none⟩ (.slice A7 0 c7)).setCell ⟨g4, 8, none⟩ (.slice A8 0 c8)).heap.size) := ⟨blk_lt BY11.out⟩
            generalize (((((((((w6.setCell ⟨g4, 0, none⟩ (.int .i64 7)).setCell ⟨g4, 1, none⟩ (.int .i64 0)).setCell ⟨g4, 2, none⟩ (.int .i64 (0))).setCell ⟨g4, 3, none⟩ (.int .i64 ((j : Int) + 1))).setCell ⟨g4, 4, none⟩ (.int .i64 0)).setCell ⟨g4, 5, none⟩ (.int .i64 0)).setCell ⟨g4, 6, none⟩ (.string (⟨#[]⟩ : ByteArray))).setCell ⟨g4, 7, none⟩ (.slice A7 0 c7)).setCell ⟨g4, 8, none⟩ (.slice A8 0 c8) : World) = w7 at BY11 HBy11 HSy11 ⊢
            clear hz0 hzf0 hz1 hzf1 hz2 hzf2 hz3 hzf3 hz4 hzf4 hz5 hzf5 hz6 hzf6 hz7 hzf7 hz8 hzf8
            have HN7 := Aside0.mk (HN5.out.below HBy11.out)
            have y3 : w7.cell? ⟨g4, 3, none⟩ = some (.int .i64 ((j : Int) + 1)) := (blk_cell BY11.out 3).trans rfl
            go_wp2
            go_roundw
            case rel => exact ⟨j + 1, by go_num, HI.out, HN7⟩
            case measure => have := HI.out; simp [intOf]; omega
        · obtain rfl : j = i := by omega
          have b1 : decide ((j : Int) < (j : Int)) = false := decide_eq_false (by omega)
          have b2 : decide (j < j) = false := decide_eq_false hlt
          have HL0 := Aside0.mk (show ((lst back j j).length : Int) = 0 from by rw [lst_len back j j (Nat.le_refl _)]; omega)
          clear hlt
          go_wp2_with (go_at_call 13; refine (z_len HN.out).mono ?_; rintro e w8 ⟨rfl, hb⟩; rw [HL0.out]; have HB8 := Aside0.mk (below_step (w := w) HN.out.bel hb); clear hb)
          go_ret
          exact ⟨rfl, HB8.out⟩
theorem corncriblaw15_NetFirst.calls (a0 : Int) (a1 : Bool) (r : Bool) (w : World) (h : corncriblaw15_NetFirst.f a0 a1 = some r) (hr_ : r = true) :
    Calls Try.prog 3 #[.int .i64 a0, .bool a1] w fun e w' => e = .returned (.bool r) ∧ Below w.heap.size w w' := by
  subst hr_
  exact netfirst_ok a0 a1 w
end Go.Proofs.Ytnbomedhehoflaa.Al
