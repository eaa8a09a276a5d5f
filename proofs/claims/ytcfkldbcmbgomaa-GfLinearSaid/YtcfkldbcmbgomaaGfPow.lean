/- Powers by products, and sums of products, over whole numbers. -/
import Derived.Test.YtcfkldbcmbgomaaGfLaws
namespace Go.Proofs.Ytcfkldbcmbgomaa.GfRef
open Go.RowKit Go.Proofs.Ytcfkldbcmbgomaa.GfMath Go.Proofs.Ytcfkldbcmbgomaa.Base Go.Proofs.Ytcfkldbcmbgomaa.Al Go.Proofs.YtcfkldbcmbgomaaW.PrintWords
def pw (a : Int) : Nat → Int
  | 0 => 1
  | k + 1 => mulI (pw a k) a
theorem byte_zero : Byte 0 := ⟨by omega, by omega⟩
theorem byte_one : Byte 1 := ⟨by omega, by omega⟩
theorem byte_pw (a : Int) : ∀ k, Byte (pw a k)
  | 0 => byte_one
  | _ + 1 => byte_mul _ _
theorem exp_add (s t : Int) : mulI (expI s) (expI t) = expI (s + t) := by
  unfold mulI expI expN
  rw [Int.toNat_natCast, Int.toNat_natCast, mul_EE, E_congr (n := ((s + t) % 255).toNat) (by omega)]
theorem exp_zero : expI 0 = 1 := by decide +kernel
theorem pw_exp {a : Int} (ha : Byte a) (h : a ≠ 0) : ∀ k : Nat, pw a k = expI (logI a * k)
  | 0 => by rw [show (logI a * ((0 : Nat) : Int)) = 0 from Int.mul_zero _, exp_zero]; rfl
  | k + 1 => by
    rw [pw, pw_exp ha h k]
    have e := exp_add (logI a * (k : Int)) (logI a)
    rw [(log_ok ha h).2.2.2] at e
    rw [e]
    congr 1
    rw [Int.natCast_add, Int.mul_add]
    simp
theorem pw_255 {a : Int} (ha : Byte a) (h : a ≠ 0) : pw a 255 = 1 := by
  rw [pw_exp ha h, ← exp_zero]
  unfold expI expN
  rw [show (logI a * ((255 : Nat) : Int)) % 255 = 0 % 255 from by omega]
theorem pw_zero : pw 0 255 = 0 := mulI_zero _
theorem byte_bt (s : ByteArray) (i : Int) : Byte (bt s i) := by have := bt_range s i; unfold Byte; omega
def dotP (s t : ByteArray) : Nat → Int
  | 0 => 0
  | k + 1 => Go.bits .xor .u8 (dotP s t k) (mulI (bt s k) (bt t k))
theorem byte_dot (s t : ByteArray) : ∀ k, Byte (dotP s t k)
  | 0 => byte_zero
  | k + 1 => (byte_xor (byte_dot s t k) (byte_mul _ _)).1
theorem xor_four {a b c d : Int} (ha : Byte a) (hb : Byte b) (hc : Byte c) (hd : Byte d) : Go.bits .xor .u8 (Go.bits .xor .u8 a b) (Go.bits .xor .u8 c d) = Go.bits .xor .u8 (Go.bits .xor .u8 a c) (Go.bits .xor .u8 b d) := by
  rw [xorI_assoc ha hb (byte_xor hc hd).1, ← xorI_assoc hb hc hd, xorI_comm hb hc, xorI_assoc hc hb hd, ← xorI_assoc ha hc (byte_xor hb hd).1]
theorem dot_xor (b s u t : ByteArray) : ∀ k : Nat, (∀ i : Nat, i < k → bt b i = Go.bits .xor .u8 (bt s i) (bt u i)) → dotP b t k = Go.bits .xor .u8 (dotP s t k) (dotP u t k)
  | 0, _ => (xorI_self byte_zero).symm
  | k + 1, h => by
    rw [dotP, dotP, dotP, dot_xor b s u t k (fun i hi => h i (by omega)), h k (by omega)]
    rw [mulI_comm _ (bt t k), mulI_xor (byte_bt _ _) (byte_bt _ _) (byte_bt _ _), mulI_comm (bt t k) (bt s k), mulI_comm (bt t k) (bt u k)]
    exact xor_four (byte_dot _ _ _) (byte_dot _ _ _) (byte_mul _ _) (byte_mul _ _)
theorem dot_scale {a : Int} (ha : Byte a) (c s t : ByteArray) : ∀ k : Nat, (∀ i : Nat, i < k → bt c i = mulI a (bt s i)) → dotP c t k = mulI a (dotP s t k)
  | 0, _ => (mulI_zero a).symm
  | k + 1, h => by
    rw [dotP, dotP, dot_scale ha c s t k (fun i hi => h i (by omega)), h k (by omega), mulI_xor ha (byte_dot _ _ _) (byte_mul _ _), mulI_assoc ha (byte_bt _ _) (byte_bt _ _)]
def scaleL (a : Int) (s : ByteArray) : List Int := (bytesOf s).map (mulI a)
theorem scaleL_length (a : Int) (s : ByteArray) : (scaleL a s).length = s.size := by rw [scaleL, List.length_map, bytesOf_length]
theorem bt_nums (l : List Int) (i : Nat) (h : i < l.length) (hb : Byte (rd l i)) : bt (strOfNums l) i = rd l i := by
  have hl : i < (B (strOfNums l)).length := by rw [B_nums, List.length_map]; exact h
  rw [bt_B _ _ hl]
  have e : (B (strOfNums l))[i] = UInt8.ofNat (rd l i).toNat := by
    simp only [B_nums, List.getElem_map, rd, Int.toNat_natCast, List.getD_eq_getElem?_getD, List.getElem?_eq_getElem h, Option.getD_some]
  rw [e]
  have h0 := hb.1
  have h1 := hb.2
  have : (UInt8.ofNat (rd l i).toNat).toNat = (rd l i).toNat % 256 := by simp
  rw [this]
  omega
theorem rd_scale (a : Int) (s : ByteArray) (i : Nat) (h : i < s.size) : rd (scaleL a s) i = mulI a (bt s i) := by
  rw [← rd_bytesOf]
  have h' : i < (bytesOf s).length := by rw [bytesOf_length]; exact h
  simp [scaleL, rd, List.getD_eq_getElem?_getD, h']
theorem bt_scale (a : Int) (s : ByteArray) (i : Nat) (h : i < s.size) : bt (strOfNums (scaleL a s)) i = mulI a (bt s i) := by
  have e := rd_scale a s i h
  rw [bt_nums _ _ (by rw [scaleL_length]; exact h) (by rw [e]; exact byte_mul _ _), e]
end Go.Proofs.Ytcfkldbcmbgomaa.GfRef
