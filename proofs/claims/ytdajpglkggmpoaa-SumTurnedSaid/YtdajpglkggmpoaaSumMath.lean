import Derived.Test.YtdajpglkggmpoaaBase
/- Check sums as plain mathematics: a step is a turn of the polynomial; it is linear, and what it gives is never 0 of what is not 0. -/
namespace Go.Proofs.Ytdajpglkggmpoaa.SumMath
open Go.RowKit Go.Proofs.Ytdajpglkggmpoaa.Base

def turn : BitVec 32 := 3988292384#32
def crcStep (x : BitVec 32) : BitVec 32 := (x >>> 1) ^^^ (if x.getLsbD 0 then turn else 0#32)
def crcSteps : Nat → BitVec 32 → BitVec 32
  | 0, x => x
  | n + 1, x => crcSteps n (crcStep x)
def eat (x : BitVec 32) (b : UInt8) : BitVec 32 := crcSteps 8 (x ^^^ b.toBitVec.setWidth 32)
def crc (x : BitVec 32) (l : List UInt8) : BitVec 32 := l.foldl eat x
def crcStart : BitVec 32 := 4294967295#32
def crcSum (l : List UInt8) : BitVec 32 := crc crcStart l ^^^ crcStart

theorem crc_append (x : BitVec 32) (l m : List UInt8) : crc x (l ++ m) = crc (crc x l) m := List.foldl_append
theorem crc_cons (x : BitVec 32) (b : UInt8) (l : List UInt8) : crc x (b :: l) = crc (eat x b) l := rfl
theorem steps_add (n m : Nat) (x : BitVec 32) : crcSteps (n + m) x = crcSteps m (crcSteps n x) := by
  induction n generalizing x with
  | zero => simp [crcSteps]
  | succ n ih => rw [Nat.succ_add]; exact ih (crcStep x)

theorem step_zero : crcStep 0#32 = 0#32 := by decide
theorem steps_zero (n : Nat) : crcSteps n 0#32 = 0#32 := by
  induction n with
  | zero => rfl
  | succ n ih => show crcSteps n (crcStep 0#32) = _; rw [step_zero, ih]
theorem step_xor (x y : BitVec 32) : crcStep (x ^^^ y) = crcStep x ^^^ crcStep y := by
  unfold crcStep
  rw [BitVec.getLsbD_xor, BitVec.ushiftRight_xor_distrib]
  cases x.getLsbD 0 <;> cases y.getLsbD 0 <;> simp
  · ac_rfl
  · ac_rfl
  · rw [show x >>> 1 ^^^ turn ^^^ (y >>> 1 ^^^ turn) = (x >>> 1 ^^^ y >>> 1) ^^^ (turn ^^^ turn) from by ac_rfl, BitVec.xor_self, BitVec.xor_zero]
theorem steps_xor (n : Nat) (x y : BitVec 32) : crcSteps n (x ^^^ y) = crcSteps n x ^^^ crcSteps n y := by
  induction n generalizing x y with
  | zero => rfl
  | succ n ih => show crcSteps n (crcStep (x ^^^ y)) = _; rw [step_xor, ih]; rfl
theorem step_ne (x : BitVec 32) (h : crcStep x = 0#32) : x = 0#32 := by
  have h31 : (crcStep x).getLsbD 31 = false := by rw [h]; rfl
  unfold crcStep at h h31
  cases h0 : x.getLsbD 0 with
  | true =>
    rw [h0] at h31
    simp [turn] at h31
  | false =>
    rw [h0] at h
    simp only [Bool.false_eq_true, if_false, BitVec.xor_zero] at h
    ext i hi
    rcases i with _ | i
    · simpa using h0
    · have := congrArg (fun v : BitVec 32 => v.getLsbD i) h
      simp only [BitVec.getLsbD_ushiftRight] at this
      rw [Nat.add_comm] at this
      simpa [hi] using this
theorem steps_ne (n : Nat) (x : BitVec 32) (h : crcSteps n x = 0#32) : x = 0#32 := by
  induction n generalizing x with
  | zero => exact h
  | succ n ih => exact step_ne x (ih (crcStep x) h)
theorem steps_inj (n : Nat) {x y : BitVec 32} (h : crcSteps n x = crcSteps n y) : x = y := by
  have := steps_ne n (x ^^^ y) (by rw [steps_xor, h, BitVec.xor_self])
  exact BitVec.xor_eq_zero_iff.1 this

theorem step_toNat (x : BitVec 32) : (crcStep x).toNat = (x.toNat / 2) ^^^ (if x.toNat % 2 = 1 then 3988292384 else 0) := by
  unfold crcStep
  have e : x.getLsbD 0 = decide (x.toNat % 2 = 1) := by
    rw [BitVec.getLsbD, Nat.testBit_zero]
  rw [e, BitVec.toNat_xor, BitVec.toNat_ushiftRight, Nat.shiftRight_eq_div_pow]
  by_cases h : x.toNat % 2 = 1 <;> simp [h, turn]
/-- A step as the program spells it. -/
theorem step_go (x : BitVec 32) : Go.bits .xor .u32 ((x.toNat : Int) / 2) (Go.bits .and .u32 3988292384 ((-(Go.bits .and .u32 (x.toNat : Int) 1)) % 4294967296)) = ((crcStep x).toNat : Int) := by
  have hx := x.isLt
  have e1 : Go.bits .and .u32 (x.toNat : Int) 1 = ((x.toNat % 2 : Nat) : Int) := by
    have := u32_and_nat x.toNat 1 (by omega) (by omega)
    rw [Nat.and_one_is_mod] at this
    exact this
  rw [e1, step_toNat]
  have e2 : ((x.toNat : Int) / 2) = ((x.toNat / 2 : Nat) : Int) := by omega
  rw [e2]
  by_cases h : x.toNat % 2 = 1
  · rw [h, if_pos rfl]
    have e3 : Go.bits .and .u32 3988292384 ((-((1 : Nat) : Int)) % 4294967296) = ((3988292384 : Nat) : Int) := by decide +kernel
    rw [e3, u32_xor_nat _ _ (by omega) (by omega)]
  · have h0 : x.toNat % 2 = 0 := by omega
    rw [h0, if_neg (by omega)]
    have e3 : Go.bits .and .u32 3988292384 ((-((0 : Nat) : Int)) % 4294967296) = ((0 : Nat) : Int) := by decide +kernel
    rw [e3, u32_xor_nat _ _ (by omega) (by omega)]
theorem turn_lt : (3988292384 : Nat) < 9223372036854775808 := by decide
/-- A step as the document's text spells it. -/
theorem step_ref_odd (x : BitVec 32) (h : x.toNat % 2 = 1) : Go.bits .xor .i64 (wrap64 (Int.tdiv (x.toNat : Int) 2)) 3988292384 = ((crcStep x).toNat : Int) := by
  have hx := x.isLt
  have e2 : wrap64 (Int.tdiv (x.toNat : Int) 2) = ((x.toNat / 2 : Nat) : Int) := by
    rw [Int.tdiv_eq_ediv_of_nonneg (by omega), wrap_id (by omega) (by omega)]; omega
  rw [e2, step_toNat, if_pos h]
  exact xor_i64_nat (x.toNat / 2) 3988292384 (by omega) turn_lt
theorem step_ref_even (x : BitVec 32) (h : x.toNat % 2 = 0) : wrap64 (Int.tdiv (x.toNat : Int) 2) = ((crcStep x).toNat : Int) := by
  have hx := x.isLt
  rw [step_toNat, if_neg (by omega), Nat.xor_zero, Int.tdiv_eq_ediv_of_nonneg (by omega), wrap_id (by omega) (by omega)]
  omega
theorem tmod_two (x : BitVec 32) : Int.tmod (x.toNat : Int) 2 = ((x.toNat % 2 : Nat) : Int) := by
  rw [Int.tmod_eq_emod_of_nonneg (by omega)]; omega
/-- A byte laid on. -/
theorem on_toNat (x : BitVec 32) (b : UInt8) : (x ^^^ b.toBitVec.setWidth 32).toNat = x.toNat ^^^ b.toNat := by
  rw [BitVec.toNat_xor, BitVec.toNat_setWidth]
  have := b.toBitVec.isLt
  rw [Nat.mod_eq_of_lt (by omega)]
  rfl
theorem on_go (x : BitVec 32) (b : UInt8) : Go.bits .xor .u32 (x.toNat : Int) (((b.toNat : Nat) : Int) % 4294967296) = ((x ^^^ b.toBitVec.setWidth 32).toNat : Int) := by
  have hx := x.isLt
  have hb := b.toBitVec.isLt
  have hb' : b.toNat < 256 := hb
  have e : ((b.toNat : Nat) : Int) % 4294967296 = (b.toNat : Int) := by omega
  rw [e, u32_xor_nat _ _ (by omega) (by omega), on_toNat]
theorem on_ref (x : BitVec 32) (b : UInt8) : Go.bits .xor .i64 (x.toNat : Int) (wrap64 ((b.toNat : Nat) : Int)) = ((x ^^^ b.toBitVec.setWidth 32).toNat : Int) := by
  have hx := x.isLt
  have hb' : b.toNat < 256 := b.toBitVec.isLt
  rw [wrap_id (by omega) (by omega), xor_i64_nat _ _ (by omega) (by omega), on_toNat]
theorem last_go (x : BitVec 32) : Go.bits .xor .u32 (x.toNat : Int) 4294967295 = ((x ^^^ crcStart).toNat : Int) := by
  have hx := x.isLt
  rw [BitVec.toNat_xor]
  exact u32_xor_nat x.toNat 4294967295 (by omega) (by omega)
theorem last_ref (x : BitVec 32) : Go.bits .xor .i64 (x.toNat : Int) 4294967295 = ((x ^^^ crcStart).toNat : Int) := by
  have hx := x.isLt
  rw [BitVec.toNat_xor]
  exact xor_i64_nat x.toNat 4294967295 (by omega) (by omega)
end Go.Proofs.Ytdajpglkggmpoaa.SumMath
