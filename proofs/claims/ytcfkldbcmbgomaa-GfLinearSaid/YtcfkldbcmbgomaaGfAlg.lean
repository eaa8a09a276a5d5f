/- The field's algebra: products bit by bit, sums, and what follows. -/
import Derived.Test.YtcfkldbcmbgomaaGfMath
namespace Go.Proofs.Ytcfkldbcmbgomaa.GfMath
def pm : Nat → Nat → Nat → Nat
  | 0, _, _ => 0
  | n + 1, a, b => (if b % 2 = 1 then a else 0) ^^^ pm n (xt a) (b / 2)
theorem xor_lt {a b : Nat} (ha : a < 256) (hb : b < 256) : a ^^^ b < 256 := Nat.xor_lt_two_pow (n := 8) ha hb
theorem xt_lt : ∀ a, a < 256 → xt a < 256 := by decide +kernel
theorem xt_xor : ∀ a, a < 256 → ∀ b, b < 256 → xt (a ^^^ b) = xt a ^^^ xt b := by decide +kernel
theorem pm_lt : ∀ (n a b : Nat), a < 256 → pm n a b < 256
  | 0, _, _, _ => by simp [pm]
  | n + 1, a, b, h => by
    unfold pm
    exact xor_lt (by split <;> omega) (pm_lt n _ _ (xt_lt a h))
theorem xor4 (a b c d : Nat) : (a ^^^ b) ^^^ (c ^^^ d) = (a ^^^ c) ^^^ (b ^^^ d) := by
  rw [Nat.xor_assoc, Nat.xor_assoc, ← Nat.xor_assoc b c d, Nat.xor_comm b c, Nat.xor_assoc c b d]
theorem pm_xor : ∀ (n a c b : Nat), a < 256 → c < 256 → pm n (a ^^^ c) b = pm n a b ^^^ pm n c b
  | 0, _, _, _, _, _ => by simp [pm]
  | n + 1, a, c, b, ha, hc => by
    simp only [pm]
    rw [xt_xor a ha c hc, pm_xor n _ _ _ (xt_lt a ha) (xt_lt c hc), xor4]
    by_cases h : b % 2 = 1
    · simp only [if_pos h]
    · simp only [if_neg h, Nat.xor_self]
theorem pm_zero_left : ∀ (n b : Nat), pm n 0 b = 0
  | 0, _ => rfl
  | n + 1, b => by
    simp only [pm, show xt 0 = 0 from rfl, pm_zero_left n]
    split <;> rfl
theorem pm_zero_right : ∀ (n a : Nat), pm n a 0 = 0
  | 0, _ => rfl
  | n + 1, a => by simp [pm, pm_zero_right n]
theorem pm_xt : ∀ (n a b : Nat), a < 256 → pm n (xt a) b = xt (pm n a b)
  | 0, _, _, _ => rfl
  | n + 1, a, b, h => by
    simp only [pm]
    rw [xt_xor _ (by split <;> omega) _ (pm_lt n _ _ (xt_lt a h)), pm_xt n (xt a) (b / 2) (xt_lt a h)]
    by_cases hb : b % 2 = 1
    · simp only [if_pos hb]
    · simp only [if_neg hb, show xt 0 = 0 from rfl]
theorem pm_one : ∀ b, b < 256 → pm 8 1 b = b := by decide +kernel
theorem pm_E (j : Nat) : ∀ i, pm 8 (E i) (E j) = E (i + j)
  | 0 => by rw [show E 0 = 1 from rfl, pm_one _ (E_lt j).2, Nat.zero_add]
  | i + 1 => by
    rw [show E (i + 1) = xt (E i) from rfl, pm_xt _ _ _ (E_lt i).2, pm_E j i, show i + 1 + j = i + j + 1 from by omega]
    rfl
def mulN (a b : Nat) : Nat := if a = 0 ∨ b = 0 then 0 else E (L a + L b)
theorem pm_mul {a b : Nat} (ha : a < 256) (hb : b < 256) : pm 8 a b = mulN a b := by
  unfold mulN
  by_cases h : a = 0 ∨ b = 0
  · rw [if_pos h]
    rcases h with rfl | rfl
    · exact pm_zero_left _ _
    · exact pm_zero_right _ _
  · rw [if_neg h, ← pm_E, (E_L a ha (by omega)).2, (E_L b hb (by omega)).2]
theorem mul_comm (a b : Nat) : mulN a b = mulN b a := by
  unfold mulN
  rw [Nat.add_comm (L a)]
  by_cases h : a = 0 ∨ b = 0
  · rw [if_pos h, if_pos h.symm]
  · rw [if_neg h, if_neg (fun hc => h hc.symm)]
theorem mul_lt (a b : Nat) : mulN a b < 256 := by unfold mulN; split; omega; exact (E_lt _).2
theorem mul_xor_left {a b c : Nat} (ha : a < 256) (hb : b < 256) (hc : c < 256) : mulN (a ^^^ b) c = mulN a c ^^^ mulN b c := by
  rw [← pm_mul (xor_lt ha hb) hc, pm_xor 8 a b c ha hb, pm_mul ha hc, pm_mul hb hc]
theorem mul_xor {a b c : Nat} (ha : a < 256) (hb : b < 256) (hc : c < 256) : mulN a (b ^^^ c) = mulN a b ^^^ mulN a c := by
  rw [mul_comm, mul_xor_left hb hc ha, mul_comm b, mul_comm c]
theorem mul_zero (a : Nat) : mulN a 0 = 0 := by unfold mulN; rw [if_pos (Or.inr rfl)]
theorem zero_mul (a : Nat) : mulN 0 a = 0 := by unfold mulN; rw [if_pos (Or.inl rfl)]
theorem L_one : L 1 = 0 := by decide
theorem L_two : L 2 = 1 := by decide +kernel
theorem mul_one {a : Nat} (ha : a < 256) : mulN a 1 = a := by
  unfold mulN
  by_cases h : a = 0
  · rw [if_pos (Or.inl h), h]
  · rw [if_neg (by omega), L_one, Nat.add_zero, (E_L a ha h).2]
theorem mul_eq_zero {a b : Nat} : mulN a b = 0 ↔ a = 0 ∨ b = 0 := by
  unfold mulN
  by_cases h : a = 0 ∨ b = 0
  · simp [h]
  · have := (E_lt (L a + L b)).1
    rw [if_neg h]
    constructor
    · intro hc; omega
    · intro hc; exact absurd hc h
theorem L_Emod (n : Nat) : L (E n) = n % 255 := by rw [E_mod, L_E _ (Nat.mod_lt _ (by omega))]
theorem E_congr {m n : Nat} (h : m % 255 = n % 255) : E m = E n := by rw [E_mod m, E_mod n, h]
theorem mul_nz {a b : Nat} (ha : a ≠ 0) (hb : b ≠ 0) : mulN a b = E (L a + L b) := by unfold mulN; rw [if_neg (by omega)]
theorem mul_EE (m n : Nat) : mulN (E m) (E n) = E (m + n) := by
  have h1 := (E_lt m).1
  have h2 := (E_lt n).1
  rw [mul_nz (by omega) (by omega), L_Emod, L_Emod]
  exact E_congr (by omega)
theorem mul_assoc {a b c : Nat} (ha : a < 256) (hb : b < 256) (hc : c < 256) : mulN (mulN a b) c = mulN a (mulN b c) := by
  by_cases h1 : a = 0
  · subst h1; rw [zero_mul, zero_mul, zero_mul]
  by_cases h2 : b = 0
  · subst h2; rw [mul_zero, zero_mul, mul_zero]
  by_cases h3 : c = 0
  · subst h3; rw [mul_zero, mul_zero, mul_zero]
  rw [← (E_L a ha h1).2, ← (E_L b hb h2).2, ← (E_L c hc h3).2, mul_EE, mul_EE, mul_EE, mul_EE, Nat.add_assoc]
end Go.Proofs.Ytcfkldbcmbgomaa.GfMath
