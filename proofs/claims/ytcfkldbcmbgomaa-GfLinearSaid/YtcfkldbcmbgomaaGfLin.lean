/- What the two loops of GfLinear write, and what follows of it: plain facts. -/
import Derived.Test.YtcfkldbcmbgomaaGfDot
namespace Go.Proofs.Ytcfkldbcmbgomaa.GfRef
open Go.RowKit Go.Proofs.Ytcfkldbcmbgomaa.GfMath Go.Proofs.Ytcfkldbcmbgomaa.Base Go.Proofs.Ytcfkldbcmbgomaa.Al Go.Proofs.Ytcfkldbcmbgomaa.Bytes Go.Proofs.YtcfkldbcmbgomaaW.PrintWords
def F1 (S : ByteArray) (k j : Nat) : Int := if j < k then Go.bits .xor .u8 (bt S j) ((j : Int) % 256) else 0
def F2 (k j : Nat) : Int := if j < k then (j : Int) % 256 else 0
theorem F1_next (S : ByteArray) (k j : Nat) : (if j = k then Go.bits .xor .u8 (bt S k) ((k : Int) % 256) else F1 S k j) = F1 S (k + 1) j := by
  unfold F1
  by_cases h1 : j = k
  · subst h1; rw [if_pos rfl, if_pos (by omega)]
  · rw [if_neg h1]
    by_cases h2 : j < k
    · rw [if_pos h2, if_pos (by omega)]
    · rw [if_neg h2, if_neg (by omega)]
theorem F2_next (k j : Nat) : (if j = k then (k : Int) % 256 else F2 k j) = F2 (k + 1) j := by
  unfold F2
  by_cases h1 : j = k
  · subst h1; rw [if_pos rfl, if_pos (by omega)]
  · rw [if_neg h1]
    by_cases h2 : j < k
    · rw [if_pos h2, if_pos (by omega)]
    · rw [if_neg h2, if_neg (by omega)]
theorem byte_mod (j : Int) : Byte (j % 256) := by unfold Byte; omega
theorem byte_F1 (S : ByteArray) (k j : Nat) : Byte (F1 S k j) := by
  unfold F1
  split
  · exact (byte_xor (byte_bt _ _) (byte_mod _)).1
  · exact byte_zero
theorem byte_F2 (k j : Nat) : Byte (F2 k j) := by
  unfold F2
  split
  · exact byte_mod _
  · exact byte_zero
theorem bt_list (n : Nat) (f : Nat → Int) (hf : ∀ j, Byte (f j)) (i : Nat) (h : i < n) : bt (strOfNums (listOf n f)) i = f i := by
  have e := rd_listOf n f i h
  rw [bt_nums _ _ (by rw [listOf_length]; exact h) (by rw [e]; exact hf i), e]
theorem nums_size (l : List Int) : (strOfNums l).size = l.length := by rw [← B_len, B_nums, List.length_map]
/-- All that the law asks, of texts of one length. -/
theorem linear {a : Int} (ha : Byte a) (S T : ByteArray) (n : Nat) (hS : S.size = n) (hT : T.size = n) :
    (dotI S T).2 = 0 ∧ (dotI (strOfNums (listOf n (F2 n))) T).2 = 0 ∧ (dotI (strOfNums (listOf n (F1 S n))) T).2 = 0 ∧ (dotI (strOfNums (scaleL a S)) T).2 = 0 ∧
    (dotI (strOfNums (listOf n (F1 S n))) T).1 = Go.bits .xor .u8 (dotI S T).1 (dotI (strOfNums (listOf n (F2 n))) T).1 ∧ (dotI (strOfNums (scaleL a S)) T).1 = mulI a (dotI S T).1 ∧ (strOfNums (scaleL a S)).size = n ∧ Byte (dotI S T).1 := by
  have e1 : (strOfNums (listOf n (F2 n))).size = n := by rw [nums_size, listOf_length]
  have e2 : (strOfNums (listOf n (F1 S n))).size = n := by rw [nums_size, listOf_length]
  have e3 : (strOfNums (scaleL a S)).size = n := by rw [nums_size, scaleL_length, hS]
  have d : ∀ X : ByteArray, X.size = n → dotI X T = (dotP X T n, 0) := fun X hX => by unfold dotI; rw [if_pos (by omega), hX]
  rw [d S hS, d _ e1, d _ e2, d _ e3]
  refine ⟨rfl, rfl, rfl, rfl, dot_xor _ _ _ _ n fun i hi => ?_, dot_scale ha _ _ _ n fun i hi => bt_scale a S i (by omega), e3, byte_dot _ _ _⟩
  rw [bt_list n _ (byte_F1 S n) i hi, bt_list n _ (byte_F2 n) i hi]
  simp [F1, F2, hi]
end Go.Proofs.Ytcfkldbcmbgomaa.GfRef
