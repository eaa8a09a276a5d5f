import Derived.RowKit
import Derived.Laws.BytesArg
import Derived.Laws.BitsAllLaws
import Derived.Test.YtelgpkbnahgdoaaWWords
/- Plain lemmas on bytes, on wraps and on bits, without the program. -/
namespace Go.Proofs.Ytelgpkbnahgdoaa.Base
open Go.RowKit Go.Proofs.YtelgpkbnahgdoaaW.PrintWords

theorem Ev.pos {α : Type} {c : Prop} [Decidable c] {f g : Nat → Option α} {r : α} (h : c) (k : Ev f r) : Ev (fun n => if c then f n else g n) r := by
  simpa only [if_pos h] using k
theorem Ev.neg {α : Type} {c : Prop} [Decidable c] {f g : Nat → Option α} {r : α} (h : ¬ c) (k : Ev g r) : Ev (fun n => if c then f n else g n) r := by
  simpa only [if_neg h] using k
theorem Ev.some_bind {α β : Type} {a : α} {f : Nat → α → Option β} {r : β} (k : Ev (fun n => f n a) r) : Ev (fun n => (some a).bind (f n)) r := k

theorem wrap_id {n : Int} (h0 : -9223372036854775808 ≤ n) (h1 : n < 9223372036854775808) : wrap64 n = n := by
  unfold wrap64; omega

theorem ofInt_i64 (a : Nat) (ha : a < 9223372036854775808) : (BitVec.ofInt 64 (a : Int)).toNat = a := by
  rw [BitVec.ofInt_natCast, BitVec.toNat_ofNat]; exact Nat.mod_eq_of_lt (by omega)
theorem xor_i64_nat (a b : Nat) (ha : a < 9223372036854775808) (hb : b < 9223372036854775808) : Go.bits .xor .i64 (a : Int) (b : Int) = ((a ^^^ b : Nat) : Int) := by
  have hx : a ^^^ b < 2 ^ 63 := Nat.xor_lt_two_pow (by omega) (by omega)
  show IntKind.i64.wrap ((BitVec.ofInt 64 (a : Int) ^^^ BitVec.ofInt 64 (b : Int)).toNat : Int) = _
  rw [BitVec.toNat_xor, ofInt_i64 a ha, ofInt_i64 b hb, IntKind.wrap_i64]
  omega
theorem or_i64_nat (a b : Nat) (ha : a < 9223372036854775808) (hb : b < 9223372036854775808) : Go.bits .or .i64 (a : Int) (b : Int) = ((a ||| b : Nat) : Int) := by
  have hx : a ||| b < 2 ^ 63 := Nat.or_lt_two_pow (by omega) (by omega)
  show IntKind.i64.wrap ((BitVec.ofInt 64 (a : Int) ||| BitVec.ofInt 64 (b : Int)).toNat : Int) = _
  rw [BitVec.toNat_or, ofInt_i64 a ha, ofInt_i64 b hb, IntKind.wrap_i64]
  omega
theorem and_i64_nat (a b : Nat) (ha : a < 9223372036854775808) (hb : b < 9223372036854775808) : Go.bits .and .i64 (a : Int) (b : Int) = ((a &&& b : Nat) : Int) := by
  have hx : a &&& b < 2 ^ 63 := Nat.and_lt_two_pow _ (by omega)
  show IntKind.i64.wrap ((BitVec.ofInt 64 (a : Int) &&& BitVec.ofInt 64 (b : Int)).toNat : Int) = _
  rw [BitVec.toNat_and, ofInt_i64 a ha, ofInt_i64 b hb, IntKind.wrap_i64]
  omega

/-- A string's bytes. -/
def B (s : ByteArray) : List UInt8 := s.data.toList
theorem B_len (s : ByteArray) : (B s).length = s.size := data_length s
theorem B_inj {s t : ByteArray} (h : B s = B t) : s = t := by
  cases s; cases t; simp only [B] at h; simpa [Array.toList_inj] using h
theorem B_append (s t : ByteArray) : B (s ++ t) = B s ++ B t := by simp [B]
theorem B_nums (l : List Int) : B (strOfNums l) = l.map fun n => UInt8.ofNat n.toNat := rfl
theorem B_extract (s : ByteArray) (i j : Nat) : B (s.extract i j) = ((B s).take j).drop i := by
  simp [B, ByteArray.data_extract, List.extract_eq_take_drop, List.drop_take]
theorem B_empty : B (⟨#[]⟩ : ByteArray) = [] := rfl
theorem bt_B (s : ByteArray) (i : Nat) (h : i < (B s).length) : bt s (i : Int) = (((B s)[i]).toNat : Int) := by
  have h' : i < s.size := by rw [← B_len]; exact h
  unfold bt
  simp only [Int.toNat_natCast, h', dif_pos]
  rfl
theorem B_mk (l : List UInt8) : B ⟨l.toArray⟩ = l := by simp [B]
theorem toList_loop (s : ByteArray) : ∀ (d i : Nat) (r : List UInt8), s.size - i = d → ByteArray.toList.loop s i r = r.reverse ++ (B s).drop i
  | 0, i, r, h => by
    unfold ByteArray.toList.loop
    rw [if_neg (by omega), List.drop_of_length_le (by rw [B_len]; omega), List.append_nil]
  | d + 1, i, r, h => by
    have hi : i < s.size := by omega
    unfold ByteArray.toList.loop
    rw [if_pos hi, toList_loop s d (i + 1) _ (by omega)]
    have e : (B s).drop i = s.get! i :: (B s).drop (i + 1) := by
      rw [List.drop_eq_getElem_cons (by rw [B_len]; exact hi)]
      congr 1
      simp [B, ByteArray.get!, hi]
    rw [e]
    simp
theorem toList_eq (s : ByteArray) : s.toList = B s := by
  unfold ByteArray.toList
  rw [toList_loop s _ 0 [] rfl]
  simp
end Go.Proofs.Ytelgpkbnahgdoaa.Base
