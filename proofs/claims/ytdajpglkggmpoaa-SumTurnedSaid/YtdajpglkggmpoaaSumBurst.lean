/- Bits that are turned within 32 that follow one another: what is left of a frame is none. -/
import Derived.Test.YtdajpglkggmpoaaSumTurn
import Derived.Test.YtdajpglkggmpoaaBytes
namespace Go.Proofs.Ytdajpglkggmpoaa.SumMath
open Go.RowKit Go.Proofs.Ytdajpglkggmpoaa.Base Go.Proofs.Ytdajpglkggmpoaa.SumFns Go.Proofs.Ytdajpglkggmpoaa.Bytes Go.Proofs.YtdajpglkggmpoaaW.PrintWords
def stepF (P first n : Nat) (F : Nat → Int) (i : Nat) (j : Nat) : Int := if P.testBit i = true ∧ first + i < 8 * n ∧ j = (first + i) / 8 then Go.bits .xor .u8 (F j) (((2 ^ ((first + i) % 8) : Nat) : Int)) else F j
def turnF (P first n : Nat) (F : Nat → Int) : Nat → Nat → Int
  | 0 => F
  | k + 1 => stepF P first n (turnF P first n F k) k
def Byte8 (a : Int) : Prop := 0 ≤ a ∧ a < 256
theorem ofInt_u8 (a : Nat) (ha : a < 256) : (BitVec.ofInt 8 (a : Int)).toNat = a := by
  rw [BitVec.ofInt_natCast, BitVec.toNat_ofNat]; exact Nat.mod_eq_of_lt (by omega)
theorem xor_u8_nat (a b : Nat) (ha : a < 256) (hb : b < 256) : Go.bits .xor .u8 (a : Int) (b : Int) = ((a ^^^ b : Nat) : Int) := by
  have hx : a ^^^ b < 2 ^ 8 := Nat.xor_lt_two_pow (by omega) (by omega)
  show IntKind.u8.wrap ((BitVec.ofInt 8 (a : Int) ^^^ BitVec.ofInt 8 (b : Int)).toNat : Int) = _
  rw [BitVec.toNat_xor, ofInt_u8 a ha, ofInt_u8 b hb]
  unfold IntKind.wrap
  simp [IntKind.signed, IntKind.bits]
  omega
theorem pow_lt8 (m : Nat) : 2 ^ (m % 8) < 256 := by
  have : 2 ^ (m % 8) ≤ 2 ^ 7 := Nat.pow_le_pow_right (by omega) (by omega)
  omega
theorem step_eq (a : Int) (m : Nat) (h : Byte8 a) : Byte8 (Go.bits .xor .u8 a (((2 ^ (m % 8) : Nat) : Int))) ∧ (Go.bits .xor .u8 a (((2 ^ (m % 8) : Nat) : Int))).toNat = a.toNat ^^^ 2 ^ (m % 8) := by
  obtain ⟨b, rfl⟩ := Int.eq_ofNat_of_zero_le h.1
  have hb : b < 256 := by have := h.2; omega
  have hp := pow_lt8 m
  rw [xor_u8_nat b _ hb hp]
  have hx : b ^^^ 2 ^ (m % 8) < 2 ^ 8 := Nat.xor_lt_two_pow (by omega) (by omega)
  unfold Byte8
  refine ⟨by omega, rfl⟩
theorem turn_byte (P first n : Nat) (F : Nat → Int) (h : ∀ j, Byte8 (F j)) : ∀ k j, Byte8 (turnF P first n F k j)
  | 0, j => h j
  | k + 1, j => by
    have ih := turn_byte P first n F h k j
    show Byte8 (stepF P first n (turnF P first n F k) k j)
    unfold stepF
    split
    · exact (step_eq _ _ ih).1
    · exact ih
/-- Outside of the 32 every bit is as it was. -/
theorem turn_bit (P first n : Nat) (F : Nat → Int) (h : ∀ j, Byte8 (F j)) : ∀ k j r, r < 8 → (8 * j + r < first ∨ first + k ≤ 8 * j + r) → (turnF P first n F k j).toNat.testBit r = (F j).toNat.testBit r
  | 0, j, r, _, _ => rfl
  | k + 1, j, r, hr, ho => by
    have ih := turn_bit P first n F h k j r hr (by omega)
    show (stepF P first n (turnF P first n F k) k j).toNat.testBit r = _
    unfold stepF
    split
    · rename_i hc
      rw [(step_eq _ _ (turn_byte P first n F h k j)).2, Nat.testBit_xor, ih, Nat.testBit_two_pow]
      rw [decide_eq_false (by omega), Bool.xor_false]
    · exact ih
theorem turn_low (P first n : Nat) (F : Nat → Int) : ∀ k j, 8 * j + 8 ≤ first → turnF P first n F k j = F j
  | 0, j, _ => rfl
  | k + 1, j, hj => by
    show stepF P first n (turnF P first n F k) k j = _
    unfold stepF
    rw [if_neg (by omega)]
    exact turn_low P first n F k j hj
theorem bitsOf_get : ∀ (l : List UInt8) (p : Nat), (bitsOf l)[p]? = (l[p / 8]?).map fun b => b.toNat.testBit (p % 8)
  | [], p => by simp [bitsOf]
  | b :: l, p => by
    have e : bitsOf (b :: l) = bits8 b ++ bitsOf l := by simp [bitsOf, List.flatMap_cons]
    rw [e]
    by_cases hp : p < 8
    · rw [List.getElem?_append_left (by rw [bits8, bitsN_length]; exact hp), bits8_get b p hp, show p / 8 = 0 from by omega, show p % 8 = p from by omega]
      rfl
    · have hl : (bits8 b).length = 8 := by rw [bits8, bitsN_length]
      rw [List.getElem?_append_right (by omega), hl, bitsOf_get l (p - 8), show p / 8 = (p - 8) / 8 + 1 from by omega, show p % 8 = (p - 8) % 8 from by omega, List.getElem?_cons_succ]
theorem rest_all (s : ByteArray) : restB s 0 = s := by
  apply B_inj
  unfold restB
  rw [B_extract, ← B_len, List.take_length]
  rfl
/-- The frame whose bits are turned. -/
def turned (t : ByteArray) (P first : Nat) : ByteArray := strOfNums (listOf (frameB t).size (turnF P first (frameB t).size (fun j => bt (frameB t) j) 32))
theorem byte8_bt (s : ByteArray) (j : Nat) : Byte8 (bt s j) := by have := bt_range s j; unfold Byte8; omega
theorem turned_get (t : ByteArray) (P first j : Nat) (h : j < (frameB t).size) : (B (turned t P first))[j]? = some (UInt8.ofNat (turnF P first (frameB t).size (fun j => bt (frameB t) j) 32 j).toNat) := by
  unfold turned
  rw [B_nums, List.getElem?_map, listOf_get _ _ _ h]
  rfl
theorem turned_size (t : ByteArray) (P first : Nat) : (turned t P first).size = (frameB t).size := by rw [← B_len, turned, B_nums, List.length_map, listOf_length]
theorem turned_bt (t : ByteArray) (P first j : Nat) (h : j < (frameB t).size) : bt (turned t P first) j = turnF P first (frameB t).size (fun j => bt (frameB t) j) 32 j := by
  rw [bt_some (turned_get t P first j h)]
  have hb := turn_byte P first (frameB t).size (fun j => bt (frameB t) j) (byte8_bt _) 32 j
  rw [UInt8.toNat_ofNat_of_lt' (by show _ < 256; have := hb.1; have := hb.2; omega)]
  have := hb.1
  omega
theorem turned_next (t : ByteArray) (ht : t.size ≤ 4096) (P first : Nat) (hf : 16 ≤ first) (hne : turned t P first ≠ frameB t) : nextB (turned t P first) 0 = (⟨#[]⟩, 0, 51) := by
  have hz := frameB_size t
  have hs := turned_size t P first
  have hlf : longB (frameB t) = t.size := long_of_head (frameB t) t.size (by omega) (by omega) _ (B_frame t)
  have hl : longB (turned t P first) = t.size := by
    rw [← hlf]
    unfold longB
    have e0 := turned_bt t P first 0 (by omega)
    have e1 := turned_bt t P first 1 (by omega)
    rw [turn_low _ _ _ _ 32 0 (by omega)] at e0
    rw [turn_low _ _ _ _ 32 1 (by omega)] at e1
    have a0 : bt (turned t P first) 0 = bt (frameB t) 0 := e0
    have a1 : bt (turned t P first) 1 = bt (frameB t) 1 := e1
    rw [a0, a1]
  unfold nextB
  rw [if_neg (by omega), rest_all, if_neg (by omega), hl, if_neg (by omega), if_neg (by omega), if_neg]
  intro hc
  have hall : (turned t P first).extract 0 ((t.size : Int) + 6).toNat = turned t P first := by
    apply B_inj
    rw [B_extract, List.drop_zero, List.take_of_length_le (by rw [B_len]; omega)]
  rw [hall] at hc
  apply hne
  rw [← hc]
  symm
  apply frames_burst t _ first
  · rw [ByteArray.size_extract]; omega
  · intro p hp
    rw [hc, bitsOf_get, bitsOf_get]
    by_cases hj : p / 8 < (frameB t).size
    · rw [turned_get t P first _ hj]
      have hb := turn_byte P first (frameB t).size (fun j => bt (frameB t) j) (byte8_bt _) 32 (p / 8)
      have hbit := turn_bit P first (frameB t).size (fun j => bt (frameB t) j) (byte8_bt _) 32 (p / 8) (p % 8) (by omega) (by omega)
      have hg : (B (frameB t))[p / 8]? = some ((B (frameB t))[p / 8]'(by rw [B_len]; exact hj)) := List.getElem?_eq_getElem _
      have hv := bt_some hg
      rw [hg]
      simp only [Option.map_some]
      rw [UInt8.toNat_ofNat_of_lt' (by show _ < 256; have := hb.1; have := hb.2; omega), hbit, hv, Int.toNat_natCast]
    · rw [List.getElem?_eq_none (by rw [B_len]; omega), List.getElem?_eq_none (by rw [B_len]; omega)]
end Go.Proofs.Ytdajpglkggmpoaa.SumMath
