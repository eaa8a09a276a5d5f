/- The field of 256 elements in plain numbers: powers of 2, logs, products; no program. -/
import Derived.Test.YtcfkldbcmbgomaaBase
namespace Go.Proofs.Ytcfkldbcmbgomaa.GfMath
def xt (n : Nat) : Nat := if n < 128 then 2 * n else (2 * n) ^^^ 285
def E : Nat → Nat
  | 0 => 1
  | n + 1 => xt (E n)
def Lgo : Nat → Nat → Nat → Nat → Nat
  | 0, _, _, _ => 0
  | f + 1, x, i, a => if x = a then i else Lgo f (xt x) (i + 1) a
def L (a : Nat) : Nat := Lgo 255 1 0 a
theorem E_small : ∀ n, n < 255 → 0 < E n ∧ E n < 256 := by decide +kernel
theorem L_E : ∀ n, n < 255 → L (E n) = n := by decide +kernel
theorem E_L : ∀ a, a < 256 → a ≠ 0 → L a < 255 ∧ E (L a) = a := by decide +kernel
theorem E_255 : E 255 = 1 := by decide +kernel
theorem E_inj {i j : Nat} (hi : i < 255) (hj : j < 255) (h : E i = E j) : i = j := by rw [← L_E i hi, ← L_E j hj, h]
theorem E_period : ∀ n, E (n + 255) = E n
  | 0 => E_255
  | n + 1 => by rw [show n + 1 + 255 = (n + 255) + 1 from by omega]; show xt (E (n + 255)) = xt (E n); rw [E_period n]
theorem E_mod (n : Nat) : E n = E (n % 255) := by
  have h : ∀ q r, E (r + 255 * q) = E r := by
    intro q
    induction q with
    | zero => intro r; rfl
    | succ q ih => intro r; rw [show r + 255 * (q + 1) = r + 255 * q + 255 from by omega, E_period, ih]
  have := h (n / 255) (n % 255)
  rwa [Nat.mod_add_div] at this
theorem E_lt (n : Nat) : 0 < E n ∧ E n < 256 := by rw [E_mod]; exact E_small _ (Nat.mod_lt _ (by omega))
end Go.Proofs.Ytcfkldbcmbgomaa.GfMath
