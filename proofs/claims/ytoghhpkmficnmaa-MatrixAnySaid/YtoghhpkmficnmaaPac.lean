/- What the laws stand on, in one text: functions of the program by their contracts, and the plain mathematics behind them (1 of them). -/
import Derived.Test.YtoghhpkmficnmaaPab

/- The document's matrices (identity, product, check) as plain functions. -/
namespace Go.Proofs.Ytoghhpkmficnmaa.Al
open Go.RowKit Go.Proofs.Ytoghhpkmficnmaa.GfMath Go.Proofs.Ytoghhpkmficnmaa.GfRef Go.Proofs.Ytoghhpkmficnmaa.Base Go.Proofs.Ytoghhpkmficnmaa.Bytes Go.Proofs.Ytoghhpkmficnmaa.Grid Go.Proofs.YtoghhpkmficnmaaW.PrintWords Go.Proofs.YtoghhpkmficnmaaW.PrintMore
set_option linter.unusedVariables false
theorem rchk_f (r c : Int) (s : ByteArray) : corncribref02_Check.f r c s = some (chkE r c s) := by
 unfold corncribref02_Check.f chkE
 by_cases h1 : r < 1
 ·rw [if_pos h1, if_neg (fun hc => by have := hc.1; omega)]
 rw [if_neg h1]
 by_cases h2 : r > 255
 ·rw [if_pos h2, if_neg (fun hc => by have := hc.2.1; omega)]
 rw [if_neg h2]
 by_cases h3 : c < 1
 ·rw [if_pos h3, if_neg (fun hc => by have := hc.2.2.1; omega)]
 rw [if_neg h3]
 by_cases h4 : c > 255
 ·rw [if_pos h4, if_neg (fun hc => by have := hc.2.2.2.1; omega)]
 rw [if_neg h4]
 have hb : 0 ≤ r * c ∧ r * c ≤ 255 * 255 := ⟨Int.mul_nonneg (by omega) (by omega), Int.mul_le_mul (by omega) (by omega) (by omega) (by omega)⟩
 rw [wrap_id (by omega) (by omega)]
 by_cases h5 : (s.size : Int) = r * c
 ·rw [if_pos h5, if_pos ⟨by omega, by omega, by omega, by omega, h5⟩]
 ·rw [if_neg h5, if_neg (fun hc => h5 hc.2.2.2.2)]
theorem wrap_nat {n : Nat} (h : n < 9223372036854775808) : wrap64 (n : Int) = n := wrap_id (by omega) (by omega)
theorem wrap_at {i m j : Nat} (h : i * m + j < 9223372036854775808) : wrap64 (wrap64 ((i : Int) * (m : Int)) + (j : Int)) = ((i * m + j : Nat) : Int) := by
 rw [← Int.natCast_mul, wrap_nat (by omega), ← Int.natCast_add, wrap_nat h]
theorem wrap_suc {i : Nat} (h : i < 9223372036854775807) : wrap64 ((i : Int) + 1) = ((i + 1 : Nat) : Int) := by
 rw [wrap_id (by omega) (by omega)]; omega
theorem at_lt {n m i j : Nat} (hi : i < n) (hj : j < m) : i * m + j < n * m := by
 have : (i + 1) * m ≤ n * m := Nat.mul_le_mul_right m hi
 rw [Nat.add_mul, Nat.one_mul] at this
 omega
theorem at_div {m i j : Nat} (hj : j < m) : (i * m + j) / m = i := by
 rw [Nat.add_comm, Nat.add_mul_div_right _ _ (by omega), Nat.div_eq_of_lt hj, Nat.zero_add]
theorem at_mod {m i j : Nat} (hj : j < m) : (i * m + j) % m = j := by
 rw [Nat.add_comm, Nat.add_mul_mod_self_right, Nat.mod_eq_of_lt hj]
theorem listOf_put (n : Nat) (f : Nat → Int) (i : Nat) (v : Int) : (listOf n f).set i v = listOf n (fun k => if k = i then v else f k) := by
 refine List.ext_getElem (by simp [listOf]) fun k h1 h2 => ?_
 have hk : k < n := by simpa [listOf] using h2
 rw [List.getElem_set]
 simp only [listOf, List.getElem_map, List.getElem_range]
 by_cases e : i = k
 ·subst e; simp
 ·rw [if_neg e, if_neg (Ne.symm e)]
theorem one_l0 {n : Nat} (h1 : 1 ≤ n) (h2 : n ≤ 255) : ∀ (d i : Nat), i + d = n →
  Ev (fun k => corncribref02_One.l0 k n (listOf (n * n) fun q => if q / n < i then ixI (q / n) (q % n) else 0) i) ((n : Int), (n : Int), cellsOf n n ixI)
 |0, i, hd => by
  refine Ev.succ ?_
  simp only [corncribref02_One.l0]
  refine Ev.neg (by omega) ?_
  obtain rfl : i = n := by omega
  rw [cellsOf, listOf_congr (f' := fun q => ixI (q / i) (q % i)) fun q hq => if_pos ((Nat.div_lt_iff_lt_mul (by omega)).2 hq)]
  exact Ev.now _
 |d + 1, i, hd => by
  have hnn : n * n ≤ 255 * 255 := Nat.mul_le_mul h2 h2
  have hi : i < n := by omega
  have hlt := at_lt hi hi
  refine Ev.succ ?_
  simp only [corncribref02_One.l0]
  refine Ev.pos (by omega) ?_
  rw [wrap_at (by omega), listOf_length]
  refine Ev.pos (by omega) (Ev.pos (by omega) ?_)
  rw [Int.toNat_natCast, listOf_put, wrap_suc (by omega)]
  rw [listOf_congr (f' := fun q => if q / n < i + 1 then ixI (q / n) (q % n) else 0) fun q hq => ?_]
  ·exact one_l0 h1 h2 d (i + 1) (by omega)
  ·have hm := Nat.mod_lt q (show n > 0 by omega)
   obtain ⟨a, b, hb, rfl⟩ : ∃ a b, b < n ∧ q = a * n + b := ⟨q / n, q % n, hm, by rw [Nat.mul_comm, Nat.div_add_mod]⟩
   show (if a * n + b = i * n + i then (1 : Int) else if (a * n + b) / n < i then ixI ((a * n + b) / n) ((a * n + b) % n) else 0) = if (a * n + b) / n < i + 1 then ixI ((a * n + b) / n) ((a * n + b) % n) else 0
   rw [at_div hb, at_mod hb]
   by_cases e : a * n + b = i * n + i
   ·have ea := congrArg (· / n) e
    have eb := congrArg (· % n) e
    simp only [at_div hb, at_div hi, at_mod hb, at_mod hi] at ea eb
    subst ea eb
    rw [if_pos e, if_pos (by omega), ixI, if_pos rfl]
   ·rw [if_neg e]
    by_cases h : a < i
    ·rw [if_pos h, if_pos (by omega)]
    ·rw [if_neg h]
     by_cases h' : a < i + 1
     ·obtain rfl : a = i := by omega
      rw [if_pos h', ixI, if_neg (fun hc => e (by rw [hc]))]
     ·rw [if_neg h']
theorem replicate_listOf (n : Nat) : List.replicate n (0 : Int) = listOf n fun _ => 0 := by
 refine List.ext_getElem (by simp [listOf]) fun k h1 h2 => ?_
 simp [listOf]
theorem one_ev {n : Nat} (h1 : 1 ≤ n) (h2 : n ≤ 255) : Ev (fun k => corncribref02_One.f k n) ((n : Int), (n : Int), cellsOf n n ixI) := by
 have hnn : n * n ≤ 255 * 255 := Nat.mul_le_mul h2 h2
 unfold corncribref02_One.f
 rw [← Int.natCast_mul, wrap_nat (by omega), Int.toNat_natCast]
 refine Ev.pos (by omega) (Ev.pos (by omega) ?_)
 rw [replicate_listOf]
 have := one_l0 h1 h2 n 0 (by omega)
 rw [listOf_congr (f' := fun _ => (0 : Int)) fun q hq => if_neg (Nat.not_lt_zero _)] at this
 exact this
theorem rid_ev (n : Int) : Ev (fun k => corncribref02_Identity.f k n) (idV n) := by
 unfold corncribref02_Identity.f idV
 by_cases h1 : n < 1
 ·rw [if_neg (by omega)]
  exact Ev.pos h1 (Ev.now _)
 by_cases h2 : n > 255
 ·rw [if_neg (by omega)]
  exact Ev.neg h1 (Ev.pos h2 (Ev.now _))
 obtain ⟨m, rfl⟩ := Int.eq_ofNat_of_zero_le (show 0 ≤ n by omega)
 rw [if_pos (by omega), Int.toNat_natCast]
 exact Ev.neg h1 (Ev.neg h2 (Ev.bind (one_ev (by omega) (by omega)) (Ev.now _)))
section
variable {n m p : Nat} {s t : ByteArray}
theorem tim_l2 (h1 : okM n m s) (h2 : okM m p t) {out : List Int} {i j : Nat} (hi : i < n) (hj : j < p) (ho : out.length < 140737488355328) {r : Int × Int × ByteArray}
  (K : Ev (fun k => corncribref02_Times.l1 k (out ++ [toI (mm m (entN m s) (entN p t)) i j]) i ((j + 1 : Nat) : Int) n m s m p t) r) : ∀ (d c : Nat), c + d = m →
  Ev (fun k => corncribref02_Times.l2 k out i j ((xs c fun q => mulN (entN m s i q) (entN p t q j) : Nat) : Int) c n m s m p t) r
 |0, c, hd => by
  refine Ev.succ ?_
  simp only [corncribref02_Times.l2]
  refine Ev.neg (by omega) (Ev.pos ho ?_)
  obtain rfl : c = m := by omega
  rw [wrap_suc (by have := h2.2.2.2.1; omega)]
  exact K
 |d + 1, c, hd => by
  obtain ⟨a1, a2, a3, a4, a5⟩ := h1
  obtain ⟨b1, b2, b3, b4, b5⟩ := h2
  have hs : s.size = n * m := by rw [← Int.natCast_mul] at a5; exact Int.ofNat_inj.1 a5
  have ht : t.size = m * p := by rw [← Int.natCast_mul] at b5; exact Int.ofNat_inj.1 b5
  have l1 := at_lt hi (show c < m by omega)
  have l2 := at_lt (show c < m by omega) hj
  have z1 : n * m ≤ 255 * 255 := Nat.mul_le_mul (by omega) (by omega)
  have z2 : m * p ≤ 255 * 255 := Nat.mul_le_mul (by omega) (by omega)
  refine Ev.succ ?_
  simp only [corncribref02_Times.l2]
  refine Ev.pos (by omega) ?_
  rw [wrap_at (by omega), wrap_at (by omega)]
  refine Ev.pos (by omega) (Ev.pos (by omega) (Ev.pos (by omega) (Ev.pos (by omega) ?_)))
  rw [← toI_ent, ← toI_ent]
  refine Ev.bind (rmul_ev (entN_by m s i c) (entN_by p t c j)) ?_
  have hx : Byte ((xs c fun q => mulN (entN m s i q) (entN p t q j) : Nat) : Int) := by
   have := xs_lt (n := c) (f := fun q => mulN (entN m s i q) (entN p t q j)) fun _ _ => mul_lt _ _
   unfold Byte; omega
  have hy : Byte ((mulN (entN m s i c) (entN p t c j) : Nat) : Int) := by
   have := mul_lt (entN m s i c) (entN p t c j)
   unfold Byte; omega
  rw [(byte_xor hx hy).2, Int.toNat_natCast, Int.toNat_natCast, wrap_suc (by omega)]
  exact tim_l2 ⟨a1, a2, a3, a4, a5⟩ ⟨b1, b2, b3, b4, b5⟩ hi hj ho K d (c + 1) (by omega)
theorem tim_l1 (h1 : okM n m s) (h2 : okM m p t) {i : Nat} (hi : i < n) {r : Int × Int × ByteArray}
  (K : Ev (fun k => corncribref02_Times.l0 k (listOf ((i + 1) * p) fun q => toI (mm m (entN m s) (entN p t)) (q / p) (q % p)) ((i + 1 : Nat) : Int) n m s m p t) r) : ∀ (d j : Nat), j + d = p →
  Ev (fun k => corncribref02_Times.l1 k (listOf (i * p + j) fun q => toI (mm m (entN m s) (entN p t)) (q / p) (q % p)) i j n m s m p t) r
 |0, j, hd => by
  refine Ev.succ ?_
  simp only [corncribref02_Times.l1]
  refine Ev.neg (by omega) ?_
  obtain rfl : j = p := by omega
  rw [wrap_suc (by have := h1.2.1; omega), show i * j + j = (i + 1) * j from by rw [Nat.add_mul, Nat.one_mul]]
  exact K
 |d + 1, j, hd => by
  have hj : j < p := by omega
  refine Ev.succ ?_
  simp only [corncribref02_Times.l1]
  refine Ev.pos (by omega) ?_
  refine tim_l2 h1 h2 hi hj (by
   rw [listOf_length]
   have := at_lt hi hj
   have z : n * p ≤ 255 * 255 := Nat.mul_le_mul (by have := h1.2.1; omega) (by have := h2.2.2.2.1; omega)
   omega) ?_ m 0 (by omega)
  have := tim_l1 h1 h2 hi K d (j + 1) (by omega)
  rw [show i * p + (j + 1) = (i * p + j) + 1 by omega, listOf_add] at this
  rw [show listOf 1 (fun x => toI (mm m (entN m s) (entN p t)) ((i * p + j + x) / p) ((i * p + j + x) % p)) = [toI (mm m (entN m s) (entN p t)) i j] from by
   show [toI (mm m (entN m s) (entN p t)) ((i * p + j + 0) / p) ((i * p + j + 0) % p)] = _
   rw [Nat.add_zero, at_div hj, at_mod hj]] at this
  exact this
theorem tim_l0 (h1 : okM n m s) (h2 : okM m p t) : ∀ (d i : Nat), i + d = n →
  Ev (fun k => corncribref02_Times.l0 k (listOf (i * p) fun q => toI (mm m (entN m s) (entN p t)) (q / p) (q % p)) i n m s m p t) ((n : Int), (p : Int), cellsOf n p (toI (mm m (entN m s) (entN p t))))
 |0, i, hd => by
  refine Ev.succ ?_
  simp only [corncribref02_Times.l0]
  refine Ev.neg (by omega) ?_
  obtain rfl : i = n := by omega
  exact Ev.now _
 |d + 1, i, hd => by
  refine Ev.succ ?_
  simp only [corncribref02_Times.l0]
  refine Ev.pos (by omega) ?_
  exact tim_l1 h1 h2 (by omega) (tim_l0 h1 h2 d (i + 1) (by omega)) p 0 (by omega)
theorem tim_ev (h1 : okM n m s) (h2 : okM m p t) : Ev (fun k => corncribref02_Times.f k n m s m p t) ((n : Int), (p : Int), cellsOf n p (toI (mm m (entN m s) (entN p t)))) := by
 have := tim_l0 h1 h2 n 0 (by omega)
 rw [Nat.zero_mul] at this
 exact this
end
theorem rmulM_ev (ra ca : Int) (s : ByteArray) (rb cb : Int) (t : ByteArray) : Ev (fun k => corncribref02_Mul.f k ra ca s rb cb t) (mulV ra ca s rb cb t) := by
 unfold corncribref02_Mul.f mulV
 rw [rchk_f, rchk_f]
 simp only [Option.bind_some, chkE]
 by_cases h1 : okM ra ca s
 ·rw [if_pos h1]
  refine Ev.pos rfl ?_
  by_cases h2 : okM rb cb t
  ·rw [if_pos h2]
   refine Ev.pos rfl ?_
   by_cases h3 : ca = rb
   ·subst h3
    rw [if_pos ⟨h1, h2, rfl⟩]
    refine Ev.pos rfl ?_
    obtain ⟨n, rfl⟩ := Int.eq_ofNat_of_zero_le (show 0 ≤ ra by have := h1.1; omega)
    obtain ⟨m, rfl⟩ := Int.eq_ofNat_of_zero_le (show 0 ≤ ca by have := h2.1; omega)
    obtain ⟨p, rfl⟩ := Int.eq_ofNat_of_zero_le (show 0 ≤ cb by have := h2.2.2.1; omega)
    exact Ev.bind (tim_ev h1 h2) (Ev.now _)
   ·rw [if_neg (fun hc => h3 hc.2.2)]
    exact Ev.neg h3 (Ev.now _)
  ·rw [if_neg h2, if_neg (fun hc => h2 hc.2.1)]
   exact Ev.neg (by decide) (Ev.now _)
 ·rw [if_neg h1, if_neg (show ¬ (okM ra ca s ∧ okM rb cb t ∧ ca = rb) from fun hc => h1 hc.1)]
  exact Ev.neg (by decide) (Ev.now _)
end Go.Proofs.Ytoghhpkmficnmaa.Al
