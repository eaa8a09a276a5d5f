/- For every three texts: the sum of pieces is that of the text that they make, however it is cut, and a text of the same length that is unlike it in the first byte of the middle piece has another sum. No condition. -/
import Derived.Test.YtdajpglkggmpoaaSumFns
import Derived.Test.YtdajpglkggmpoaaFcorncriblaw05SumJoins
namespace Go.Proofs.Ytdajpglkggmpoaa.Pure
open Go.RowKit Go.Proofs.Ytdajpglkggmpoaa.Base Go.Proofs.Ytdajpglkggmpoaa.SumMath Go.Proofs.Ytdajpglkggmpoaa.SumFns Go.Proofs.Ytdajpglkggmpoaa.Al Go.Proofs.YtdajpglkggmpoaaW.PrintWords

theorem whole_two (a b : ByteArray) : whole [a, b] = B a ++ B b := by simp [whole]
theorem whole_three (a b c : ByteArray) : whole [a, b, c] = B a ++ (B b ++ B c) := by simp [whole]
theorem whole_one (a : ByteArray) : whole [a] = B a := by simp [whole]
theorem eat_state_inj (b : UInt8) {x y : BitVec 32} (h : eat x b = eat y b) : x = y := by
  have := steps_inj 8 h
  exact (BitVec.xor_left_inj _).1 this
theorem crc_state_inj : ∀ (l : List UInt8) {x y : BitVec 32}, crc x l = crc y l → x = y
  | [], _, _, h => h
  | b :: l, _, _, h => eat_state_inj b (crc_state_inj l h)
theorem eat_byte_inj (x : BitVec 32) {b c : UInt8} (h : eat x b = eat x c) : b = c := by
  have h1 := steps_inj 8 h
  have h2 := (BitVec.xor_right_inj _).1 h1
  have h3 := congrArg BitVec.toNat h2
  simp only [BitVec.toNat_setWidth] at h3
  have hb := b.toBitVec.isLt
  have hc := c.toBitVec.isLt
  rw [Nat.mod_eq_of_lt (by omega), Nat.mod_eq_of_lt (by omega)] at h3
  exact UInt8.toNat_inj.1 h3
theorem sum_unlike (l m : List UInt8) {b c : UInt8} (h : b ≠ c) : crcSum (l ++ b :: m) ≠ crcSum (l ++ c :: m) := by
  intro e
  have e1 := (BitVec.xor_left_inj _).1 e
  rw [crc_append, crc_append, crc_cons, crc_cons] at e1
  exact h (eat_byte_inj _ (crc_state_inj m e1))
theorem toNat_ne {x y : BitVec 32} (h : x ≠ y) : ((x.toNat : Int) != (y.toNat : Int)) = true := by
  rw [bne_iff_ne]
  intro e
  exact h (BitVec.eq_of_toNat_eq (by omega))

theorem SumJoins : corncriblaw05_SumJoins.Pure := by
  intro a b c ha hb hc
  refine Ev.rounds (g := fun k => corncriblaw05_SumJoins.f k a b c) ?_
  have w1 : whole [a, b, c] = B a ++ (B b ++ B c) := whole_three a b c
  have w2 : whole [(a ++ b) ++ c] = B a ++ (B b ++ B c) := by rw [whole_one, B_append, B_append, List.append_assoc]
  have w3 : whole [a, (⟨#[]⟩ : ByteArray), b ++ c] = B a ++ (B b ++ B c) := by rw [whole_three, B_append, B_empty]; rfl
  have s1 : (a ++ b).size = a.size + b.size := ByteArray.size_append
  have s2 : ((a ++ b) ++ c).size = a.size + b.size + c.size := by rw [ByteArray.size_append, s1]
  have s3 : (b ++ c).size = b.size + c.size := ByteArray.size_append
  have hlt := (crcSum (B a ++ (B b ++ B c))).isLt
  have e0 : (⟨#[]⟩ : ByteArray).size = 0 := rfl
  have h1 := Of_ev [a, b, c] (by simp) (by intro s hs; simp at hs; rcases hs with rfl | rfl | rfl <;> omega)
  have h2 := Of_ev [(a ++ b) ++ c] (by simp) (by intro s hs; simp at hs; subst hs; omega)
  have h3 := Of_ev [a, (⟨#[]⟩ : ByteArray), b ++ c] (by simp) (by intro s hs; simp at hs; rcases hs with rfl | rfl | rfl <;> omega)
  rw [w1] at h1
  rw [w2] at h2
  rw [w3] at h3
  unfold corncriblaw05_SumJoins.f
  refine Ev.bind works_ev (Ev.pos rfl (Ev.bind h1 (Ev.pos (by omega) (Ev.pos (by omega) (Ev.bind h2 (Ev.pos rfl (Ev.pos (by omega) (Ev.bind h3 (Ev.pos rfl (Ev.neg (by omega) (Ev.neg (by omega) ?_)))))))))))
  by_cases hb0 : b.toList = ([] : List UInt8)
  · exact Ev.pos hb0 (Ev.now _)
  refine Ev.neg hb0 ?_
  rw [toList_eq] at hb0
  have hp : 0 < b.size := by
    rw [← B_len]
    exact List.length_pos_iff.2 hb0
  have hb1 : 0 < (B b).length := by rw [B_len]; exact hp
  have hbt := bt_B b 0 hb1
  refine Ev.pos (by omega) (Ev.some_bind (Ev.pos (by omega) ?_))
  have hx : Go.bits .xor .u8 (bt b 0) 1 = (((B b)[0].toNat ^^^ 1 : Nat) : Int) := by
    have h256 : (B b)[0].toNat < 256 := (B b)[0].toBitVec.isLt
    have hbt' : bt b 0 = ((B b)[0].toNat : Int) := hbt
    rw [hbt']
    exact u8_xor_nat _ 1 h256 (by omega)
  rw [hx]
  have sz : (strOfNums [(((B b)[0].toNat ^^^ 1 : Nat) : Int)]).size = 1 := strOfNums_size _
  have sz2 : (b.extract 1 b.size).size = b.size - 1 := by rw [ByteArray.size_extract, Nat.min_self]
  refine Ev.pos (by omega) ?_
  have s4 : (strOfNums [(((B b)[0].toNat ^^^ 1 : Nat) : Int)] ++ b.extract 1 b.size).size = 1 + (b.size - 1) := by rw [ByteArray.size_append, sz, sz2]
  have h4 := Of_ev [a, strOfNums [(((B b)[0].toNat ^^^ 1 : Nat) : Int)] ++ b.extract 1 b.size, c] (by simp) (by intro s hs; simp only [List.mem_cons, List.not_mem_nil, or_false] at hs; rcases hs with rfl | rfl | rfl <;> omega)
  refine Ev.bind h4 ?_
  have hd : B b = (B b)[0] :: (B b).drop 1 := by
    have := List.drop_eq_getElem_cons hb1
    simpa using this
  have w4 : whole [a, strOfNums [(((B b)[0].toNat ^^^ 1 : Nat) : Int)] ++ b.extract 1 b.size, c] = B a ++ UInt8.ofNat ((B b)[0].toNat ^^^ 1) :: ((B b).drop 1 ++ B c) := by
    rw [whole_three, B_append, B_nums, B_extract, ← B_len, List.take_length]
    simp
  have w5 : B a ++ (B b ++ B c) = B a ++ (B b)[0] :: ((B b).drop 1 ++ B c) := by
    rw [← List.cons_append, ← hd]
  have hne : UInt8.ofNat ((B b)[0].toNat ^^^ 1) ≠ (B b)[0] := by
    intro e
    have e1 := congrArg UInt8.toNat e
    have h256 : (B b)[0].toNat < 256 := (B b)[0].toBitVec.isLt
    have hx2 : (B b)[0].toNat ^^^ 1 < 2 ^ 8 := Nat.xor_lt_two_pow (by omega) (by omega)
    rw [UInt8.toNat_ofNat_of_lt' (by omega)] at e1
    have e2 := congrArg (fun n => (B b)[0].toNat ^^^ n) e1
    simp only [← Nat.xor_assoc, Nat.xor_self, Nat.zero_xor] at e2
    omega
  rw [w4, w5]
  have := toNat_ne (sum_unlike (B a) ((B b).drop 1 ++ B c) hne)
  rw [this]
  exact Ev.now _
end Go.Proofs.Ytdajpglkggmpoaa.Pure
