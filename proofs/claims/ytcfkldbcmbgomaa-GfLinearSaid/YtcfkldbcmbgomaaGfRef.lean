/- The document's products, inverses, quotients, powers and logs come to those of the tables; all contracts over whole numbers. -/
import Derived.Test.YtcfkldbcmbgomaaGfFns
import Derived.Test.YtcfkldbcmbgomaaFcorncribref01Mul
import Derived.Test.YtcfkldbcmbgomaaFcorncribref01Inv
import Derived.Test.YtcfkldbcmbgomaaFcorncribref01Div
import Derived.Test.YtcfkldbcmbgomaaFcorncribref01Log
import Derived.Test.YtcfkldbcmbgomaaFcorncribref01Exp
namespace Go.Proofs.Ytcfkldbcmbgomaa.GfRef
open Go.RowKit Go.Proofs.Ytcfkldbcmbgomaa.GfMath Go.Proofs.Ytcfkldbcmbgomaa.Base Go.Proofs.Ytcfkldbcmbgomaa.Al Go.Proofs.YtcfkldbcmbgomaaW.PrintWords Go.Proofs.YtcfkldbcmbgomaaW.PrintLast Go.Proofs.YtcfkldbcmbgomaaW.PrintMore
theorem Ev.succ {α : Type} {g : Nat → Option α} {r : α} (h : Ev (fun k => g (k + 1)) r) : Ev g r := Ev.step (fun _ => rfl) h
theorem xt_int {x : Nat} (h : x < 256) : (if wrap64 ((x : Int) * 2) ≥ 256 then Go.bits .xor .i64 (wrap64 ((x : Int) * 2)) 285 else wrap64 ((x : Int) * 2)) = ((xt x : Nat) : Int) := by
  rw [wrap_id (by omega) (by omega)]
  unfold xt
  by_cases h1 : x < 128
  · rw [if_neg (by omega), if_pos h1]; omega
  · rw [if_pos (by omega), if_neg h1, show (x : Int) * 2 = ((2 * x : Nat) : Int) from by omega]
    exact xor_i64_nat (2 * x) 285 (by omega) (by omega)
theorem rmul_l0 : ∀ (d i x y out : Nat), i + d = 8 → x < 256 → y < 256 → out < 256 → Ev (fun k => corncribref01_Mul.l0 k x y out i) ((out ^^^ pm d x y : Nat) : Int)
  | 0, i, x, y, out, h, hx, hy, ho => by
    refine Ev.succ ?_
    simp only [corncribref01_Mul.l0]
    refine Ev.neg (by omega) ?_
    rw [show ((out : Int) % 256) = ((out ^^^ pm 0 x y : Nat) : Int) from by simp only [pm, Nat.xor_zero]; omega]
    exact Ev.now _
  | d + 1, i, x, y, out, h, hx, hy, ho => by
    have e1 : wrap64 ((i : Int) + 1) = ((i + 1 : Nat) : Int) := by rw [wrap_id (by omega) (by omega)]; omega
    have e2 : wrap64 (Int.tdiv (y : Int) 2) = ((y / 2 : Nat) : Int) := by rw [Int.tdiv_eq_ediv_of_nonneg (by omega), wrap_id (by omega) (by omega)]; omega
    have e3 : Int.tmod (y : Int) 2 = ((y % 2 : Nat) : Int) := by rw [Int.tmod_eq_emod_of_nonneg (by omega)]; omega
    have hxt := xt_int hx
    have step : ∀ o' : Nat, o' < 256 → Ev (fun k => if wrap64 ((x : Int) * 2) ≥ 256 then corncribref01_Mul.l0 k (Go.bits .xor .i64 (wrap64 ((x : Int) * 2)) 285) ((y / 2 : Nat) : Int) o' ((i + 1 : Nat) : Int) else corncribref01_Mul.l0 k (wrap64 ((x : Int) * 2)) ((y / 2 : Nat) : Int) o' ((i + 1 : Nat) : Int)) ((o' ^^^ pm d (xt x) (y / 2) : Nat) : Int) := by
      intro o' ho'
      have ih := rmul_l0 d (i + 1) (xt x) (y / 2) o' (by omega) (xt_lt x hx) (by omega) ho'
      by_cases hc : wrap64 ((x : Int) * 2) ≥ 256
      · rw [if_pos hc] at hxt
        refine Ev.pos hc ?_
        rw [hxt]; exact ih
      · rw [if_neg hc] at hxt
        refine Ev.neg hc ?_
        rw [hxt]; exact ih
    refine Ev.succ ?_
    simp only [corncribref01_Mul.l0]
    rw [e1, e2, e3]
    refine Ev.pos (by omega) ?_
    unfold pm
    by_cases hb : y % 2 = 1
    · refine Ev.pos (by omega) ?_
      rw [if_pos hb, ← Nat.xor_assoc, xor_i64_nat out x (by omega) (by omega)]
      exact step (out ^^^ x) (xor_lt ho hx)
    · refine Ev.neg (by omega) ?_
      rw [if_neg hb, Nat.zero_xor]
      exact step out ho
theorem rmul_ev {a b : Nat} (ha : a < 256) (hb : b < 256) : Ev (fun k => corncribref01_Mul.f k a b) ((mulN a b : Nat) : Int) := by
  unfold corncribref01_Mul.f
  rw [wrap_id (n := (a : Int)) (by omega) (by omega), wrap_id (n := (b : Int)) (by omega) (by omega)]
  have := rmul_l0 8 0 a b 0 (by omega) ha hb (by omega)
  rw [Nat.zero_xor, pm_mul ha hb] at this
  exact this
theorem rinv_l0 {a : Nat} (ha : a < 256) (h0 : a ≠ 0) : ∀ (d i : Nat), i + d = 254 → Ev (fun k => corncribref01_Inv.l0 k a ((E (i * L a) : Nat) : Int) i) (((E (254 * L a) : Nat) : Int), 0)
  | 0, i, h => by
    obtain rfl : i = 254 := by omega
    refine Ev.succ ?_
    simp only [corncribref01_Inv.l0]
    exact Ev.neg (by omega) (Ev.now _)
  | d + 1, i, h => by
    have ih := rinv_l0 ha h0 d (i + 1) (by omega)
    have e1 : wrap64 ((i : Int) + 1) = ((i + 1 : Nat) : Int) := by rw [wrap_id (by omega) (by omega)]; omega
    have hm := rmul_ev (a := E (i * L a)) (b := a) (E_lt _).2 ha
    have e2 : mulN (E (i * L a)) a = E ((i + 1) * L a) := by
      conv => lhs; arg 2; rw [← (E_L a ha h0).2]
      rw [mul_EE, Nat.add_mul, Nat.one_mul]
    rw [e2] at hm
    refine Ev.succ ?_
    simp only [corncribref01_Inv.l0]
    rw [e1]
    exact Ev.pos (by omega) (Ev.bind hm ih)
theorem rinv_ev {a : Nat} (ha : a < 256) : Ev (fun k => corncribref01_Inv.f k a) (((divN 1 a).1 : Int), (divN 1 a).2) := by
  unfold corncribref01_Inv.f divN
  by_cases h0 : a = 0
  · subst h0
    exact Ev.pos rfl (Ev.now _)
  · rw [if_neg h0, if_neg (by omega)]
    refine Ev.neg (by omega) ?_
    have := rinv_l0 ha h0 254 0 (by omega)
    have hl := (E_L a ha h0).1
    rw [Nat.zero_mul] at this
    rw [L_one, E_congr (m := 0 + 255 - L a) (n := 254 * L a) (by omega)]
    exact this
theorem rdiv_ev {a b : Nat} (ha : a < 256) (hb : b < 256) : Ev (fun k => corncribref01_Div.f k a b) (((divN a b).1 : Int), (divN a b).2) := by
  unfold corncribref01_Div.f
  refine Ev.bind (rinv_ev hb) ?_
  by_cases h0 : b = 0
  · subst h0
    exact Ev.neg (by simp [divN]) (Ev.now _)
  · have hl := (E_L b hb h0).1
    have e : divN 1 b = (E (255 - L b), 0) := by unfold divN; rw [if_neg h0, if_neg (by omega), L_one, Nat.zero_add]
    rw [e]
    refine Ev.pos rfl (Ev.bind (rmul_ev ha (E_lt _).2) ?_)
    have e2 : divN a b = (mulN a (E (255 - L b)), 0) := by
      unfold divN
      rw [if_neg h0]
      by_cases h1 : a = 0
      · rw [if_pos h1, h1, zero_mul]
      · have := (E_lt (255 - L b)).1
        rw [if_neg h1, mul_nz h1 (by omega), L_Emod]
        rw [E_congr (m := L a + 255 - L b) (n := L a + (255 - L b) % 255) (by omega)]
    rw [e2]
    exact Ev.now _
theorem rexp_l0 (n : Nat) (hn : n < 255) : ∀ (d i : Nat), i + d = n → Ev (fun k => corncribref01_Exp.l0 k n ((E i : Nat) : Int) i) ((E n : Nat) : Int)
  | 0, i, h => by
    obtain rfl : i = n := by omega
    refine Ev.succ ?_
    simp only [corncribref01_Exp.l0]
    exact Ev.neg (by omega) (Ev.now _)
  | d + 1, i, h => by
    have ih := rexp_l0 n hn d (i + 1) (by omega)
    have e1 : wrap64 ((i : Int) + 1) = ((i + 1 : Nat) : Int) := by rw [wrap_id (by omega) (by omega)]; omega
    have hm := rmul_ev (a := E i) (b := 2) (E_lt _).2 (by omega)
    have e2 : mulN (E i) 2 = E (i + 1) := by rw [show 2 = E 1 from rfl, mul_EE]
    rw [e2] at hm
    refine Ev.succ ?_
    simp only [corncribref01_Exp.l0]
    rw [e1]
    exact Ev.pos (by omega) (Ev.bind hm ih)
theorem tmod_255 (n : Int) : -255 < Int.tmod n 255 ∧ Int.tmod n 255 < 255 ∧ (Int.tmod n 255) % 255 = n % 255 := by
  refine ⟨Int.lt_tmod_of_pos n (by omega), Int.tmod_lt_of_pos n (by omega), ?_⟩
  have h1 := Int.tmod_eq_emod (a := n) (b := 255)
  rw [h1]
  split <;> omega
theorem rexp_ev (n : Int) : Ev (fun k => corncribref01_Exp.f k n) ((expN n : Nat) : Int) := by
  obtain ⟨h1, h2, h3⟩ := tmod_255 n
  unfold corncribref01_Exp.f expN
  rw [wrap_id (by omega) (by omega), Int.tmod_eq_emod_of_nonneg (by omega)]
  have e : (Int.tmod n 255 + 255) % 255 = (((n % 255).toNat : Nat) : Int) := by omega
  rw [e]
  exact rexp_l0 (n % 255).toNat (by omega) (n % 255).toNat 0 (by omega)
theorem rlog_l0 {a : Nat} (ha : a < 256) (h0 : a ≠ 0) : ∀ (d i : Nat), i + d = L a → Ev (fun k => corncribref01_Log.l0 k a i ((E i : Nat) : Int)) ((L a : Int), 0)
  | 0, i, h => by
    obtain rfl : i = L a := by omega
    refine Ev.succ ?_
    simp only [corncribref01_Log.l0]
    exact Ev.pos (by rw [(E_L a ha h0).2]) (Ev.now _)
  | d + 1, i, h => by
    have ih := rlog_l0 ha h0 d (i + 1) (by omega)
    have hl := (E_L a ha h0).1
    have e1 : wrap64 ((i : Int) + 1) = ((i + 1 : Nat) : Int) := by rw [wrap_id (by omega) (by omega)]; omega
    have hm := rmul_ev (a := E i) (b := 2) (E_lt _).2 (by omega)
    have e2 : mulN (E i) 2 = E (i + 1) := by rw [show 2 = E 1 from rfl, mul_EE]
    rw [e2] at hm
    have hne : E i ≠ a := by
      intro hc
      have h1 := L_E i (by omega)
      rw [hc] at h1
      omega
    refine Ev.succ ?_
    simp only [corncribref01_Log.l0]
    rw [e1]
    exact Ev.neg (by omega) (Ev.pos (by omega) (Ev.bind hm ih))
theorem rlog_ev {a : Nat} (ha : a < 256) : Ev (fun k => corncribref01_Log.f k a) (logN a) := by
  unfold corncribref01_Log.f logN
  by_cases h0 : a = 0
  · subst h0
    exact Ev.pos rfl (Ev.now _)
  · rw [if_neg h0]
    exact Ev.neg (by omega) (rlog_l0 ha h0 (L a) 0 (by omega))
def mulI (a b : Int) : Int := (mulN a.toNat b.toNat : Nat)
def divI (a b : Int) : Int := ((divN a.toNat b.toNat).1 : Nat)
def divE (a b : Int) : Int := (divN a.toNat b.toNat).2
def logI (a : Int) : Int := (logN a.toNat).1
def logE (a : Int) : Int := (logN a.toNat).2
def expI (n : Int) : Int := (expN n : Nat)
def Byte (a : Int) : Prop := 0 ≤ a ∧ a < 256
theorem byte_mul (a b : Int) : Byte (mulI a b) := by have := mul_lt a.toNat b.toNat; unfold mulI Byte; omega
theorem byte_exp (n : Int) : Byte (expI n) := by have := (E_lt (n % 255).toNat).2; unfold expI expN Byte; omega
theorem byte_div (a b : Int) : Byte (divI a b) := by
  unfold divI divN Byte
  split
  · simp
  · split
    · simp
    · have := (E_lt (L a.toNat + 255 - L b.toNat)).2
      simp only
      omega
theorem byte_xor {a b : Int} (ha : Byte a) (hb : Byte b) : Byte (Go.bits .xor .u8 a b) ∧ Go.bits .xor .u8 a b = ((a.toNat ^^^ b.toNat : Nat) : Int) := by
  obtain ⟨a0, a1⟩ := ha
  obtain ⟨b0, b1⟩ := hb
  have e : Go.bits .xor .u8 a b = ((a.toNat ^^^ b.toNat : Nat) : Int) := u8_xor a b a0 a1 b0 b1
  refine ⟨?_, e⟩
  have hx := xor_lt (a := a.toNat) (b := b.toNat) (by omega) (by omega)
  rw [e]
  unfold Byte
  omega
section
variable (g : Nat) (a b : Int) (w : World)
theorem gMul (ht : Tab w g) (ha : Byte a) (hb : Byte b) : Calls Try.prog 14 #[.pointer (some ⟨g, 0, none⟩), .int .u8 a, .int .u8 b] w fun e w' => e = .returned (.int .u8 (mulI a b)) ∧ Drawn0 w w' := by
  obtain ⟨m, rfl⟩ := Int.eq_ofNat_of_zero_le ha.1
  obtain ⟨n, rfl⟩ := Int.eq_ofNat_of_zero_le hb.1
  exact gf_Mul.calls g m n w ht (by have := ha.2; omega) (by have := hb.2; omega)
theorem gDiv (ht : Tab w g) (ha : Byte a) (hb : Byte b) : Calls Try.prog 20 #[.pointer (some ⟨g, 0, none⟩), .int .u8 a, .int .u8 b] w fun e w' => e = .returned (.tuple #[.int .u8 (divI a b), .int .i64 (divE a b)]) ∧ Drawn0 w w' := by
  obtain ⟨m, rfl⟩ := Int.eq_ofNat_of_zero_le ha.1
  obtain ⟨n, rfl⟩ := Int.eq_ofNat_of_zero_le hb.1
  exact gf_Div.calls g m n w ht (by have := ha.2; omega) (by have := hb.2; omega)
theorem gInv (ht : Tab w g) (ha : Byte a) : Calls Try.prog 18 #[.pointer (some ⟨g, 0, none⟩), .int .u8 a] w fun e w' => e = .returned (.tuple #[.int .u8 (divI 1 a), .int .i64 (divE 1 a)]) ∧ Drawn0 w w' := by
  obtain ⟨m, rfl⟩ := Int.eq_ofNat_of_zero_le ha.1
  exact gf_Inv.calls g m w ht (by have := ha.2; omega)
theorem gLog (ht : Tab w g) (ha : Byte a) : Calls Try.prog 22 #[.pointer (some ⟨g, 0, none⟩), .int .u8 a] w fun e w' => e = .returned (.tuple #[.int .i64 (logI a), .int .i64 (logE a)]) ∧ Drawn0 w w' := by
  obtain ⟨m, rfl⟩ := Int.eq_ofNat_of_zero_le ha.1
  exact gf_Log.calls g m w ht (by have := ha.2; omega)
theorem gExp (n : Int) (ht : Tab w g) : Calls Try.prog 24 #[.pointer (some ⟨g, 0, none⟩), .int .i64 n] w fun e w' => e = .returned (.int .u8 (expI n)) ∧ Drawn0 w w' := gf_Exp.calls g n w ht
theorem rMul (ha : Byte a) (hb : Byte b) : Calls Try.prog 15 #[.int .u8 a, .int .u8 b] w fun e w' => e = .returned (.int .u8 (mulI a b)) ∧ Drawn0 w w' := by
  obtain ⟨m, rfl⟩ := Int.eq_ofNat_of_zero_le ha.1
  obtain ⟨n, rfl⟩ := Int.eq_ofNat_of_zero_le hb.1
  obtain ⟨k, hk⟩ := Ev.rounds (rmul_ev (a := m) (b := n) (by have := ha.2; omega) (by have := hb.2; omega))
  exact corncribref01_Mul.calls k m n _ w hk
theorem rInv (ha : Byte a) : Calls Try.prog 19 #[.int .u8 a] w fun e w' => e = .returned (.tuple #[.int .u8 (divI 1 a), .int .i64 (divE 1 a)]) ∧ Drawn0 w w' := by
  obtain ⟨m, rfl⟩ := Int.eq_ofNat_of_zero_le ha.1
  obtain ⟨k, hk⟩ := Ev.rounds (rinv_ev (a := m) (by have := ha.2; omega))
  exact corncribref01_Inv.calls k m _ _ w hk
theorem rDiv (ha : Byte a) (hb : Byte b) : Calls Try.prog 21 #[.int .u8 a, .int .u8 b] w fun e w' => e = .returned (.tuple #[.int .u8 (divI a b), .int .i64 (divE a b)]) ∧ Drawn0 w w' := by
  obtain ⟨m, rfl⟩ := Int.eq_ofNat_of_zero_le ha.1
  obtain ⟨n, rfl⟩ := Int.eq_ofNat_of_zero_le hb.1
  obtain ⟨k, hk⟩ := Ev.rounds (rdiv_ev (a := m) (b := n) (by have := ha.2; omega) (by have := hb.2; omega))
  exact corncribref01_Div.calls k m n _ _ w hk
theorem rLog (ha : Byte a) : Calls Try.prog 23 #[.int .u8 a] w fun e w' => e = .returned (.tuple #[.int .i64 (logI a), .int .i64 (logE a)]) ∧ Drawn0 w w' := by
  obtain ⟨m, rfl⟩ := Int.eq_ofNat_of_zero_le ha.1
  obtain ⟨k, hk⟩ := Ev.rounds (rlog_ev (a := m) (by have := ha.2; omega))
  exact corncribref01_Log.calls k m _ _ w hk
theorem rExp (n : Int) : Calls Try.prog 25 #[.int .i64 n] w fun e w' => e = .returned (.int .u8 (expI n)) ∧ Drawn0 w w' := by
  obtain ⟨k, hk⟩ := Ev.rounds (rexp_ev n)
  exact corncribref01_Exp.calls k n _ w hk
end
end Go.Proofs.Ytcfkldbcmbgomaa.GfRef
