/- Facts on products, quotients, powers and logs over whole numbers. -/
import Derived.Test.YtcfkldbcmbgomaaGfRef
import Derived.Test.YtcfkldbcmbgomaaFcorncribbookAmong
namespace Go.Proofs.Ytcfkldbcmbgomaa.GfRef
open Go.RowKit Go.Proofs.Ytcfkldbcmbgomaa.GfMath Go.Proofs.Ytcfkldbcmbgomaa.Base Go.Proofs.Ytcfkldbcmbgomaa.Al Go.Proofs.YtcfkldbcmbgomaaW.PrintWords
theorem mulI_zero (a : Int) : mulI a 0 = 0 := by unfold mulI; rw [show (0 : Int).toNat = 0 from rfl, mul_zero]; rfl
theorem zero_mulI (a : Int) : mulI 0 a = 0 := by unfold mulI; rw [show (0 : Int).toNat = 0 from rfl, zero_mul]; rfl
theorem mulI_comm (a b : Int) : mulI a b = mulI b a := by unfold mulI; rw [mul_comm]
theorem mulI_one {a : Int} (ha : Byte a) : mulI a 1 = a := by
  have := mul_one (a := a.toNat) (by have := ha.1; have := ha.2; omega)
  unfold mulI; rw [show (1 : Int).toNat = 1 from rfl, this]; have := ha.1; omega
theorem mulI_nz {a b : Int} (ha : Byte a) (hb : Byte b) (h1 : a ≠ 0) (h2 : b ≠ 0) : mulI a b ≠ 0 := by
  unfold mulI
  have h := mul_eq_zero (a := a.toNat) (b := b.toNat)
  have := ha.1; have := hb.1
  intro hc
  have := h.1 (by omega)
  omega
theorem mulI_assoc {a b c : Int} (ha : Byte a) (hb : Byte b) (hc : Byte c) : mulI (mulI a b) c = mulI a (mulI b c) := by
  have := mul_assoc (a := a.toNat) (b := b.toNat) (c := c.toNat) (by have := ha.1; have := ha.2; omega) (by have := hb.1; have := hb.2; omega) (by have := hc.1; have := hc.2; omega)
  unfold mulI
  simp only [Int.toNat_natCast, this]
theorem mulI_xor {a b c : Int} (ha : Byte a) (hb : Byte b) (hc : Byte c) : mulI a (Go.bits .xor .u8 b c) = Go.bits .xor .u8 (mulI a b) (mulI a c) := by
  rw [(byte_xor hb hc).2, (byte_xor (byte_mul a b) (byte_mul a c)).2]
  unfold mulI
  simp only [Int.toNat_natCast]
  rw [mul_xor (by have := ha.1; have := ha.2; omega) (by have := hb.1; have := hb.2; omega) (by have := hc.1; have := hc.2; omega)]
theorem xorI_comm {a b : Int} (ha : Byte a) (hb : Byte b) : Go.bits .xor .u8 a b = Go.bits .xor .u8 b a := by rw [(byte_xor ha hb).2, (byte_xor hb ha).2, Nat.xor_comm]
theorem xorI_assoc {a b c : Int} (ha : Byte a) (hb : Byte b) (hc : Byte c) : Go.bits .xor .u8 (Go.bits .xor .u8 a b) c = Go.bits .xor .u8 a (Go.bits .xor .u8 b c) := by
  obtain ⟨b1, e1⟩ := byte_xor ha hb
  obtain ⟨b2, e2⟩ := byte_xor hb hc
  rw [(byte_xor b1 hc).2, (byte_xor ha b2).2, e1, e2]
  simp only [Int.toNat_natCast, Nat.xor_assoc]
theorem xorI_zero {a : Int} (ha : Byte a) : Go.bits .xor .u8 a 0 = a := by rw [(byte_xor ha ⟨by omega, by omega⟩).2, show (0 : Int).toNat = 0 from rfl, Nat.xor_zero]; have := ha.1; omega
theorem xorI_self {a : Int} (ha : Byte a) : Go.bits .xor .u8 a a = 0 := by rw [(byte_xor ha ha).2, Nat.xor_self]; rfl
theorem square_xor {a b : Int} (ha : Byte a) (hb : Byte b) : mulI (Go.bits .xor .u8 a b) (Go.bits .xor .u8 a b) = Go.bits .xor .u8 (mulI a a) (mulI b b) := by
  rw [(byte_xor ha hb).2, (byte_xor (byte_mul a a) (byte_mul b b)).2]
  unfold mulI
  simp only [Int.toNat_natCast]
  have h1 : a.toNat < 256 := by have := ha.1; have := ha.2; omega
  have h2 : b.toNat < 256 := by have := hb.1; have := hb.2; omega
  rw [mul_xor (xor_lt h1 h2) h1 h2, mul_xor_left h1 h2 h1, mul_xor_left h1 h2 h2, mul_comm b.toNat a.toNat]
  have e : ∀ x y z : Nat, (x ^^^ y) ^^^ (y ^^^ z) = x ^^^ z := fun x y z => by rw [Nat.xor_assoc, ← Nat.xor_assoc y y z, Nat.xor_self, Nat.zero_xor]
  rw [e]
theorem div_zero (a : Int) : divI a 0 = 0 ∧ divE a 0 = 1 := ⟨rfl, rfl⟩
theorem div_ok (a : Int) {b : Int} (hb : Byte b) (h : b ≠ 0) : divE a b = 0 := by
  unfold divE divN
  rw [if_neg (by have := hb.1; omega)]
  split <;> rfl
theorem div_zero_left {b : Int} (hb : Byte b) (h : b ≠ 0) : divI 0 b = 0 := by
  unfold divI divN
  rw [if_neg (by have := hb.1; omega), if_pos (show (0 : Int).toNat = 0 from rfl)]
  rfl
theorem divN_mul {a b : Nat} (ha : a < 256) (hb : b < 256) (h : b ≠ 0) : mulN (divN a b).1 b = a ∧ (divN a b).1 = mulN a (divN 1 b).1 := by
  have lb := (E_L b hb h)
  have e1 : divN 1 b = (E (255 - L b), 0) := by unfold divN; rw [if_neg h, if_neg (by omega), L_one, Nat.zero_add]
  rw [e1]
  have e2 : divN a b = if a = 0 then (0, 0) else (E (L a + 255 - L b), 0) := by unfold divN; rw [if_neg h]
  rw [e2]
  by_cases h1 : a = 0
  · subst h1
    rw [if_pos rfl, zero_mul, zero_mul]
    exact ⟨rfl, rfl⟩
  · have la := E_L a ha h1
    rw [if_neg h1]
    constructor
    · conv => lhs; arg 2; rw [← lb.2]
      rw [mul_EE, E_congr (n := L a) (by have := lb.1; omega), la.2]
    · conv => rhs; arg 1; rw [← la.2]
      rw [mul_EE]
      show E (L a + 255 - L b) = E (L a + (255 - L b))
      congr 1
      have := lb.1
      omega
theorem div_mul {a b : Int} (ha : Byte a) (hb : Byte b) (h : b ≠ 0) : mulI (divI a b) b = a ∧ divI a b = mulI a (divI 1 b) := by
  have := divN_mul (a := a.toNat) (b := b.toNat) (by have := ha.1; have := ha.2; omega) (by have := hb.1; have := hb.2; omega) (by have := hb.1; omega)
  unfold mulI divI
  simp only [Int.toNat_natCast]
  rw [this.1]
  refine ⟨by have := ha.1; omega, ?_⟩
  rw [this.2]
  rfl
theorem mul_inv {b : Int} (hb : Byte b) (h : b ≠ 0) : mulI b (divI 1 b) = 1 := by
  rw [mulI_comm]
  exact (div_mul ⟨by omega, by omega⟩ hb h).1
theorem expI_pos (n : Int) : expI n ≠ 0 := by
  have := (E_lt (n % 255).toNat).1
  unfold expI expN
  omega
theorem expI_period (n : Int) : expI (n + 255) = expI n := by
  unfold expI expN
  rw [show (n + 255) % 255 = n % 255 from by omega]
theorem expI_two (n : Int) : mulI (expI n) 2 = expI (n + 1) := by
  unfold mulI expI expN
  rw [Int.toNat_natCast, show (2 : Int).toNat = E 1 from rfl, mul_EE, E_congr (n := ((n + 1) % 255).toNat) (by omega)]
theorem log_zero : logI 0 = 0 ∧ logE 0 = 1 := ⟨rfl, rfl⟩
theorem log_ok {a : Int} (ha : Byte a) (h : a ≠ 0) : logE a = 0 ∧ 0 ≤ logI a ∧ logI a < 255 ∧ expI (logI a) = a := by
  have hl := E_L a.toNat (by have := ha.1; have := ha.2; omega) (by have := ha.1; omega)
  have e : logN a.toNat = ((L a.toNat : Int), 0) := by unfold logN; rw [if_neg (by have := ha.1; omega)]
  unfold logE logI
  rw [e]
  refine ⟨rfl, by simp only; omega, by simp only; omega, ?_⟩
  unfold expI expN
  rw [show ((L a.toNat : Int) % 255).toNat = L a.toNat from by omega, hl.2]
  have := ha.1
  omega
theorem log_mul {a b : Int} (ha : Byte a) (hb : Byte b) (h1 : a ≠ 0) (h2 : b ≠ 0) : logI (mulI a b) = (logI a + logI b) % 255 := by
  have p1 : a.toNat ≠ 0 := by have := ha.1; omega
  have p2 : b.toNat ≠ 0 := by have := hb.1; omega
  have p3 : mulN a.toNat b.toNat ≠ 0 := by rw [mul_nz p1 p2]; have := (E_lt (L a.toNat + L b.toNat)).1; omega
  unfold logI mulI
  rw [Int.toNat_natCast]
  unfold logN
  rw [if_neg p1, if_neg p2, if_neg p3, mul_nz p1 p2, L_Emod]
  simp only
  omega
theorem among_ok (n m : Int) (h0 : 0 < m) (h1 : m < 1000000) : ∃ r, corncribbook_Among.f n m = some r ∧ 0 ≤ r ∧ r < m := by
  have a1 : -m < Int.tmod n m := Int.lt_tmod_of_pos n h0
  have a2 : Int.tmod n m < m := Int.tmod_lt_of_pos n h0
  unfold corncribbook_Among.f
  rw [if_neg (by omega)]
  refine ⟨_, rfl, ?_⟩
  rw [wrap_id (by omega) (by omega), Int.tmod_eq_emod_of_nonneg (by omega)]
  exact ⟨Int.emod_nonneg _ (by omega), Int.emod_lt_of_pos _ h0⟩
end Go.Proofs.Ytcfkldbcmbgomaa.GfRef
