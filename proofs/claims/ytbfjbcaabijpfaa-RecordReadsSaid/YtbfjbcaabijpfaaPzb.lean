/- What the laws stand on, in one text: functions of the program by their contracts, the plain mathematics behind them, and such of the printed words as these use. It began as the kit's print and own texts; put together by a program (trim.py). -/
import Derived.Test.YtbfjbcaabijpfaaPza
import Derived.Deep.RegionHeld3
import Derived.Deep.RegionLaw
import Derived.Lib.SliceRun

namespace Go.Proofs.Ytbfjbcaabijpfaa.PackDec
open Go.RowKit Go.Proofs.Ytbfjbcaabijpfaa.Base Go.Proofs.Ytbfjbcaabijpfaa.PackMath Go.Proofs.Ytbfjbcaabijpfaa.Al Go.Proofs.YtbfjbcaabijpfaaW.PrintWords Go.Proofs.YtbfjbcaabijpfaaW.PrintLast Go.Proofs.YtbfjbcaabijpfaaW.PrintMore
theorem Ev.succ {α : Type} {g : Nat → Option α} {r : α} (h : Ev (fun k => g (k + 1)) r) : Ev g r := Ev.step (fun _ => rfl) h
theorem rest_end {s : ByteArray} {p : Nat} (h : s.size ≤ p) : rest s p = [] := List.drop_of_length_le (by rw [bytesOf_length]; exact h)
theorem rest_at {s : ByteArray} {p : Nat} (h : p < s.size) : rest s p = bt s p :: rest s (p + 1) := by
 unfold rest
 have hl : p < (bytesOf s).length := by rw [bytesOf_length]; exact h
 rw [List.drop_eq_getElem_cons hl]
 congr 1
 rw [← rd_bytesOf]
 simp [rd, List.getD_eq_getElem?_getD, hl]
theorem ofInt_u64 (a : Nat) (ha : a < 18446744073709551616) : (BitVec.ofInt 64 (a : Int)).toNat = a := by
 rw [BitVec.ofInt_natCast, BitVec.toNat_ofNat]; exact Nat.mod_eq_of_lt (by omega)
theorem or_u64_nat (a b : Nat) (ha : a < 9223372036854775808) (hb : b < 9223372036854775808) : Go.bits .or .u64 (a : Int) (b : Int) = ((a ||| b : Nat) : Int) := by
 have hx : a ||| b < 2 ^ 63 := Nat.or_lt_two_pow (by omega) (by omega)
 show IntKind.u64.wrap ((BitVec.ofInt 64 (a : Int) ||| BitVec.ofInt 64 (b : Int)).toNat : Int) = _
 rw [BitVec.toNat_or, ofInt_u64 a (by omega), ofInt_u64 b (by omega), IntKind.wrap_u64]
 omega
theorem pow7 : ∀ i : Nat, i < 9 → 2 ^ (7 * i) ≤ 72057594037927936 := by
 intro i hi
 have : 2 ^ (7 * i) ≤ 2 ^ 56 := Nat.pow_le_pow_right (by omega) (by omega)
 omega
/-- Seven bits more, as the program lays them. -/
theorem lay_u64 (n x i : Nat) (hi : i < 9) (hn : n < 2 ^ (7 * i)) (hx : x < 128) : Go.bits .or .u64 (n : Int) (shl .u64 (IntKind.u64.wrap (x : Int)) (wrap64 (7 * (i : Int)))) = ((n + x * 2 ^ (7 * i) : Nat) : Int) := by
 have hp := pow7 i hi
 have h0 : 0 < 2 ^ (7 * i) := Nat.two_pow_pos _
 have e1 : IntKind.u64.wrap (x : Int) = (x : Int) := by rw [IntKind.wrap_u64]; omega
 have e2 : wrap64 (7 * (i : Int)) = ((7 * i : Nat) : Int) := by rw [wrap_id (by omega) (by omega)]; omega
 have hb : x * 2 ^ (7 * i) < 9223372036854775808 := by
  have : x * 2 ^ (7 * i) ≤ 127 * 2 ^ (7 * i) := Nat.mul_le_mul_right _ (by omega)
  omega
 have e3 : shl .u64 (x : Int) ((7 * i : Nat) : Int) = ((x * 2 ^ (7 * i) : Nat) : Int) := by
  unfold shl
  rw [Int.toNat_natCast, show min (7 * i) IntKind.u64.bits = 7 * i from Nat.min_eq_left (by show 7 * i ≤ 64; omega), IntKind.wrap_u64]
  have : ((x : Int) * 2 ^ (7 * i)) = ((x * 2 ^ (7 * i) : Nat) : Int) := by simp
  rw [this]
  omega
 rw [e1, e2, e3, or_u64_nat _ _ (by omega) hb]
 congr 1
 rw [Nat.or_comm, Nat.mul_comm, ← Nat.two_pow_add_eq_or_of_lt hn, Nat.add_comm]
theorem lay_i64 (n x i : Nat) (hi : i < 9) (hn : n < 2 ^ (7 * i)) (hx : x < 128) : wrap64 ((n : Int) + (shl .i64 (x : Int) (wrap64 (7 * (i : Int))))) = ((n + x * 2 ^ (7 * i) : Nat) : Int) := by
 have hp := pow7 i hi
 have e2 : wrap64 (7 * (i : Int)) = ((7 * i : Nat) : Int) := by rw [wrap_id (by omega) (by omega)]; omega
 have hb : x * 2 ^ (7 * i) ≤ 127 * 2 ^ (7 * i) := Nat.mul_le_mul_right _ (by omega)
 have e3 : shl .i64 (x : Int) ((7 * i : Nat) : Int) = ((x * 2 ^ (7 * i) : Nat) : Int) := by
  unfold shl
  rw [Int.toNat_natCast, show min (7 * i) IntKind.i64.bits = 7 * i from Nat.min_eq_left (by show 7 * i ≤ 64; omega), IntKind.wrap_i64]
  have : ((x : Int) * 2 ^ (7 * i)) = ((x * 2 ^ (7 * i) : Nat) : Int) := by simp
  rw [this]
  omega
 rw [e2, e3, wrap_id (by omega) (by omega)]
 omega
theorem next_small (n x i : Nat) (hn : n < 2 ^ (7 * i)) (hx : x < 128) : n + x * 2 ^ (7 * i) < 2 ^ (7 * (i + 1)) := by
 rw [pow_next]
 have : x * 2 ^ (7 * i) ≤ 127 * 2 ^ (7 * i) := Nat.mul_le_mul_right _ (by omega)
 omega
/-- What number hands back of what was read. -/
def fin (s : ByteArray) (p : Nat) (most : Int) (r : Nat × Nat × Int) : Int × ByteArray × Int × Int :=
 if r.2.2 = 0 then (if (r.1 : Int) > most then (0, s, p, 2) else (r.1, s, ((p + r.2.1 : Nat) : Int), 0)) else if r.2.2 = 50 then (0, s, s.size, 50) else (0, s, p, 3)
theorem num_l0 (s : ByteArray) (p : Nat) (most : Int) (hs : s.size ≤ 140737488355328) : ∀ (d i n : Nat), i + d = 9 → n < 2 ^ (7 * i) → p + i ≤ s.size → Ev (fun k => pack_reader_number.l0 k most p n i s p 0) (fin s p most (pn d i n (rest s (p + i))))
 |0, i, n, h, hn, hp => by
  refine Ev.succ ?_
  simp only [pack_reader_number.l0]
  refine Ev.neg (by omega) ?_
  simp only [pack_reader_fail.f, Option.bind_some, pn, fin]
  exact Ev.now _
 |d + 1, i, n, h, hn, hp => by
  have e0 : wrap64 ((p : Int) + (i : Int)) = ((p + i : Nat) : Int) := by rw [wrap_id (by omega) (by omega)]; omega
  refine Ev.succ ?_
  simp only [pack_reader_number.l0]
  rw [e0]
  refine Ev.pos (by omega) (Ev.pos trivial ?_)
  by_cases hend : p + i = s.size
  ·refine Ev.pos (by omega) ?_
   rw [rest_end (by omega)]
   simp only [pack_reader_fail.f, Option.bind_some, pn, fin]
   exact Ev.now _
  ·refine Ev.neg (by omega) (Ev.pos (by omega) (Ev.pos (by omega) (Ev.pos (by rw [wrap_id (by omega) (by omega)]; omega) ?_)))
   rw [rest_at (by omega)]
   have hbr := bt_range s ((p + i : Nat) : Int)
   generalize bt s ((p + i : Nat) : Int) = b at hbr ⊢
   have em : Int.tmod b 128 = (((b % 128).toNat : Nat) : Int) := by rw [Int.tmod_eq_emod_of_nonneg (by omega)]; omega
   have hx : (b % 128).toNat < 128 := by omega
   rw [em, lay_u64 n _ i (by omega) hn hx]
   have hsm := next_small n _ i hn hx
   have hbd : n + (b % 128).toNat * 2 ^ (7 * i) < 9223372036854775808 := by
    have : 2 ^ (7 * (i + 1)) ≤ 2 ^ 63 := Nat.pow_le_pow_right (by omega) (by omega)
    omega
   by_cases hb : b < 128
   ·have epn : pn (d + 1) i n (b :: rest s (p + i + 1)) = if b = 0 ∧ 0 < i then (0, 0, 3) else (n + (b % 128).toNat * 2 ^ (7 * i), i + 1, 0) := by
     show (if b < 128 then _ else _) = _
     rw [if_pos hb]
    rw [epn]
    refine Ev.neg (by omega) ?_
    have last : ∀ c : Bool, c = decide (b = 0 ∧ 0 < i) → Ev (fun k => pack_reader_number.j1 k most p ((n + (b % 128).toNat * 2 ^ (7 * i) : Nat) : Int) i c s p 0) (fin s p most (if b = 0 ∧ 0 < i then (0, 0, 3) else (n + (b % 128).toNat * 2 ^ (7 * i), i + 1, 0))) := by
     intro c hc
     refine Ev.succ ?_
     simp only [pack_reader_number.j1]
     by_cases hz : b = 0 ∧ 0 < i
     ·rw [if_pos hz]
      refine Ev.pos (by rw [hc]; simpa using hz) ?_
      simp only [pack_reader_fail.f, Option.bind_some, fin]
      exact Ev.now _
     ·rw [if_neg hz]
      refine Ev.neg (by rw [hc]; simpa using hz) ?_
      have efin : fin s p most (n + (b % 128).toNat * 2 ^ (7 * i), i + 1, 0) = if ((n + (b % 128).toNat * 2 ^ (7 * i) : Nat) : Int) > most then (0, s, (p : Int), 2) else (((n + (b % 128).toNat * 2 ^ (7 * i) : Nat) : Int), s, ((p + (i + 1) : Nat) : Int), 0) := by
       unfold fin
       rw [if_pos rfl]
      by_cases hm : ((n + (b % 128).toNat * 2 ^ (7 * i) : Nat) : Int) > most
      ·refine Ev.pos hm ?_
       rw [efin, if_pos hm]
       simp only [pack_reader_fail.f, Option.bind_some]
       exact Ev.now _
      ·refine Ev.neg hm ?_
       rw [efin, if_neg hm]
       rw [e0, wrap_id (by omega) (by omega), show ((p + i : Nat) : Int) + 1 = ((p + (i + 1) : Nat) : Int) from by omega]
       exact Ev.now _
    by_cases hb0 : b = 0
    ·refine Ev.pos hb0 (last _ ?_)
     simp [hb0]
    ·refine Ev.neg hb0 (last _ ?_)
     simp [hb0]
   ·have epn : pn (d + 1) i n (b :: rest s (p + i + 1)) = pn d (i + 1) (n + (b % 128).toNat * 2 ^ (7 * i)) (rest s (p + (i + 1))) := by
     show (if b < 128 then _ else _) = _
     rw [if_neg hb]
     rfl
    rw [epn]
    refine Ev.pos (by omega) ?_
    rw [show wrap64 ((i : Int) + 1) = ((i + 1 : Nat) : Int) from by rw [wrap_id (by omega) (by omega)]; omega]
    exact num_l0 s p most hs d (i + 1) _ (by omega) hsm (by omega)
theorem pn_errs : ∀ (d i n : Nat) (l : List Int), (pn d i n l).2.2 = 0 ∨ ((pn d i n l).2.2 = 50 ∧ (pn d i n l).1 = 0) ∨ ((pn d i n l).2.2 = 3 ∧ (pn d i n l).1 = 0)
 |0, i, n, l => by simp [pn]
 |d + 1, i, n, [] => by simp [pn]
 |d + 1, i, n, b :: l => by
  have ih := pn_errs d (i + 1) (n + (b % 128).toNat * 2 ^ (7 * i)) l
  have e : pn (d + 1) i n (b :: l) = if b < 128 then (if b = 0 ∧ 0 < i then (0, 0, 3) else (n + (b % 128).toNat * 2 ^ (7 * i), i + 1, 0)) else pn d (i + 1) (n + (b % 128).toNat * 2 ^ (7 * i)) l := rfl
  rw [e]
  by_cases hb : b < 128
  ·rw [if_pos hb]
   by_cases hz : b = 0 ∧ 0 < i
   ·rw [if_pos hz]; simp
   ·rw [if_neg hz]; simp
  ·rw [if_neg hb]; exact ih
theorem fin_cnt (s : ByteArray) (p most : Nat) : fin s p most (pn 9 0 0 (rest s p)) = (((cnt s p most).1 : Int), s, ((cnt s p most).2.1 : Int), (cnt s p most).2.2) := by
 have he := pn_errs 9 0 0 (rest s p)
 unfold fin cnt rdn
 generalize pn 9 0 0 (rest s p) = r at he ⊢
 obtain ⟨v, k, e⟩ := r
 simp only at he ⊢
 rcases he with rfl | ⟨rfl, rfl⟩ | ⟨rfl, rfl⟩
 ·simp only [if_true]
  by_cases hm : most < v
  ·rw [if_pos (by omega), if_pos ⟨trivial, hm⟩]; rfl
  ·rw [if_neg (by omega), if_neg (by simp [hm])]
 ·simp
 ·simp
theorem number_ev (s : ByteArray) (p most : Nat) (hs : s.size ≤ 140737488355328) (hp : p ≤ s.size) : Ev (fun k => pack_reader_number.f k s p 0 most) (((cnt s p most).1 : Int), s, ((cnt s p most).2.1 : Int), (cnt s p most).2.2) := by
 have h := num_l0 s p (most : Int) hs 9 0 0 rfl (by simp) hp
 rw [Nat.add_zero, fin_cnt] at h
 exact h
theorem cnt_all (s : ByteArray) (p : Nat) : cnt s p 9223372036854775807 = rdn s p := by
 unfold cnt
 by_cases h : (rdn s p).2.2 = 0
 ·have := (rdn_ok h).1
  rw [if_neg (by omega)]
 ·rw [if_neg (by simp [h])]
theorem number_bad (s : ByteArray) (p e most : Int) (he : e ≠ 0) : Ev (fun k => pack_reader_number.f k s p e most) (0, s, p, e) := by
 unfold pack_reader_number.f
 refine Ev.succ ?_
 simp only [pack_reader_number.l0]
 exact Ev.pos (by omega) (Ev.neg he (Ev.now _))
theorem cnt_zero {s : ByteArray} {p most : Nat} (h : (cnt s p most).2.2 ≠ 0) : (cnt s p most).1 = 0 := by
 have he := pn_errs 9 0 0 (rest s p)
 unfold cnt at h ⊢
 split
 ·rfl
 ·rename_i hc
  rw [if_neg hc] at h
  unfold rdn at h ⊢
  simp only at h ⊢
  rcases he with h0 | ⟨_, h1⟩ | ⟨_, h1⟩
  ·exact absurd h0 h
  ·exact h1
  ·exact h1
theorem text_ev (s : ByteArray) (p : Nat) (hs : s.size ≤ 140737488355328) (hp : p ≤ s.size) : Ev (fun k => pack_reader_text.f k s p 0) ((txt s p).1, s, ((txt s p).2.1 : Int), (txt s p).2.2) := by
 have hn := number_ev s p 4096 hs hp
 have hle := cnt_le (most := 4096) hp
 have hz := cnt_zero (s := s) (p := p) (most := 4096)
 have hok := cnt_ok (s := s) (p := p) (most := 4096)
 unfold pack_reader_text.f txt
 refine Ev.bind hn ?_
 generalize cnt s p 4096 = c at hle hz hok ⊢
 obtain ⟨v, q, e⟩ := c
 simp only at hle hz hok ⊢
 by_cases he : e = 0
 ·subst he
  have hv : v ≤ 4096 := by
   obtain ⟨e1, e2, e3⟩ := hok rfl
   rw [← e1] at e3
   exact e3
  rw [if_pos rfl]
  refine Ev.pos rfl (Ev.succ ?_)
  rw [wrap_id (n := (v : Int)) (by omega) (by omega), wrap_id (n := (s.size : Int) - (q : Int)) (by omega) (by omega)]
  simp only [pack_reader_text.j0]
  by_cases hl : s.size - q < v
  ·rw [if_pos hl]
   refine Ev.pos (by simp; omega) ?_
   simp only [pack_reader_fail.f, Option.bind_some]
   exact Ev.neg (by omega) (Ev.now _)
  ·rw [if_neg hl]
   refine Ev.neg (by simp; omega) ?_
   rw [wrap_id (n := (q : Int) + (v : Int)) (by omega) (by omega), wrap_id (n := (q : Int) + (v : Int) - (v : Int)) (by omega) (by omega)]
   refine Ev.pos trivial (Ev.pos (by omega) (Ev.pos (by omega) (Ev.pos (by omega) ?_)))
   rw [show ((q : Int) + (v : Int) - (v : Int)).toNat = q from by omega, show ((q : Int) + (v : Int)).toNat = q + v from by omega, show (q : Int) + (v : Int) = ((q + v : Nat) : Int) from by omega]
   exact Ev.now _
 ·rw [if_neg he]
  refine Ev.neg he (Ev.succ ?_)
  simp only [pack_reader_text.j0]
  exact Ev.neg (by simp) (Ev.neg he (Ev.now _))
end Go.Proofs.Ytbfjbcaabijpfaa.PackDec

namespace Go.Proofs.Ytbfjbcaabijpfaa.PackDec
open Go.RowKit Go.Proofs.Ytbfjbcaabijpfaa.Base Go.Proofs.Ytbfjbcaabijpfaa.PackMath Go.Proofs.Ytbfjbcaabijpfaa.Al Go.Proofs.YtbfjbcaabijpfaaW.PrintWords Go.Proofs.YtbfjbcaabijpfaaW.PrintLast Go.Proofs.YtbfjbcaabijpfaaW.PrintMore
def st1 (s : ByteArray) : Nat × Nat × Int := cnt s 0 1024
def st2 (s : ByteArray) : List Int × Nat × Int := if (st1 s).2.2 = 0 then decN s (st1 s).1 (st1 s).2.1 [] else ([], (st1 s).2)
def st3 (s : ByteArray) : Nat × Nat × Int := if (st2 s).2.2 = 0 then cnt s (st2 s).2.1 1024 else (0, (st2 s).2)
def st4 (s : ByteArray) : List ByteArray × Nat × Int := if (st3 s).2.2 = 0 then decT s (st3 s).1 (st3 s).2.1 [] else ([], (st3 s).2)
theorem dec_st (s : ByteArray) : dec s = if (st4 s).2.2 = 0 then (if (st4 s).2.1 < s.size then ([], [], (st4 s).2.1, 3) else ((st2 s).1, (st4 s).1, 0, 0)) else ([], [], (st4 s).2) := by
 unfold dec st4 st3 st2 st1
 by_cases h1 : (cnt s 0 1024).2.2 = 0
 ·simp only [if_pos h1]
  by_cases h2 : (decN s (cnt s 0 1024).1 (cnt s 0 1024).2.1 []).2.2 = 0
  ·simp only [if_pos h2]
   by_cases h3 : (cnt s (decN s (cnt s 0 1024).1 (cnt s 0 1024).2.1 []).2.1 1024).2.2 = 0
   ·simp only [if_pos h3]
   ·simp only [if_neg h3]
  ·simp only [if_neg h2]
 ·simp only [if_neg h1]
theorem cnt_most {s : ByteArray} {p most : Nat} : (cnt s p most).1 ≤ most := by
 by_cases h : (cnt s p most).2.2 = 0
 ·obtain ⟨e1, _, e3⟩ := cnt_ok h
  rw [e1]; exact e3
 ·rw [cnt_zero h]; exact Nat.zero_le _
theorem st1_le (s : ByteArray) : (st1 s).2.1 ≤ s.size := cnt_le (Nat.zero_le _)
theorem st2_le (s : ByteArray) : (st2 s).2.1 ≤ s.size := by
 unfold st2
 split
 ·exact decN_le _ _ _ (st1_le s)
 ·exact st1_le s
theorem st3_le (s : ByteArray) : (st3 s).2.1 ≤ s.size := by
 unfold st3
 split
 ·exact cnt_le (st2_le s)
 ·exact st2_le s
theorem st3_most (s : ByteArray) : (st3 s).1 ≤ 1024 := by
 unfold st3
 split
 ·exact cnt_most
 ·exact Nat.zero_le _
/-- number, whatever the reader's state is. -/
def cntE (s : ByteArray) (p : Nat) (e : Int) (most : Nat) : Nat × Nat × Int := if e = 0 then cnt s p most else (0, p, e)
theorem number_calls (s : ByteArray) (p most : Nat) (mi pi e : Int) (hmi : mi = (most : Int)) (hpi : pi = (p : Int)) (hs : s.size ≤ 140737488355328) (hp : p ≤ s.size) (g : Nat) (w0 w : World) (hI : IsS72 w0 w g s pi e) (hB : Below w0.heap.size w0 w) :
  Calls Try.prog 45 #[.pointer (some ⟨g, 0, none⟩), .int .u64 mi] w fun x w' => x = .returned (.int .u64 ((cntE s p e most).1 : Int)) ∧ IsS72 w0 w' g s ((cntE s p e most).2.1 : Int) (cntE s p e most).2.2 ∧ Below w0.heap.size w0 w' ∧ KeepBut w w' g none := by
 subst hmi hpi
 unfold cntE
 by_cases he : e = 0
 ·subst he
  rw [if_pos rfl]
  obtain ⟨k, hk⟩ := Ev.rounds (number_ev s p most hs hp)
  exact pack_reader_number.calls k g s p 0 most _ _ _ _ w0 w hI hB hk
 ·rw [if_neg he]
  obtain ⟨k, hk⟩ := Ev.rounds (number_bad s p e most he)
  exact pack_reader_number.calls k g s p e most _ _ _ _ w0 w hI hB hk
theorem text_calls (s : ByteArray) (p : Nat) (pi : Int) (hpi : pi = (p : Int)) (hs : s.size ≤ 140737488355328) (hp : p ≤ s.size) (g : Nat) (w0 w : World) (hI : IsS72 w0 w g s pi 0) (hB : Below w0.heap.size w0 w) :
  Calls Try.prog 46 #[.pointer (some ⟨g, 0, none⟩)] w fun x w' => x = .returned (.string (txt s p).1) ∧ IsS72 w0 w' g s ((txt s p).2.1 : Int) (txt s p).2.2 ∧ Below w0.heap.size w0 w' ∧ KeepBut w w' g none := by
 subst hpi
 obtain ⟨k, hk⟩ := Ev.rounds (text_ev s p hs hp)
 exact pack_reader_text.calls k g s p 0 _ _ _ _ w0 w hI hB hk
/-- A reader at block gr, a pack under way at block gp: its slices vN, vT hold xs and ts. -/
structure PS (w0 W : World) (gp gr : Nat) (s : ByteArray) (p : Nat) (e : Int) (xs : List Int) (ts : List ByteArray) (vN vT : Value) : Prop where
 bp : W.heap[gp]? = some (.cells #[vN, vT] 48 (0, 0))
 gep : w0.heap.size ≤ gp
 rd : IsS72 w0 W gr s p e
 ns : (Kd.int .i64).R 3 W w0.heap.size (fun _ => True) vN xs
 ts : Kd.string.R 9 W w0.heap.size (fun _ => True) vT ts
 bel : Below w0.heap.size w0 W
section
variable {w0 W : World} {gp gr : Nat} {s : ByteArray} {p : Nat} {e : Int} {xs : List Int} {ts : List ByteArray} {vN vT : Value}
theorem PS.ne (h : PS w0 W gp gr s p e xs ts vN vT) : gp ≠ gr := fun hc => (h.rd.ne_blk h.bp (by decide)) hc.symm
theorem PS.neN (h : PS w0 W gp gr s p e xs ts vN vT) : some gp ≠ vN.ownBlock := Kd.R_ne h.ns h.bp (by decide)
theorem PS.neT (h : PS w0 W gp gr s p e xs ts vN vT) : some gp ≠ vT.ownBlock := Kd.R_ne h.ts h.bp (by decide)
theorem PS.keep {W1 : World} {p' : Nat} {e' : Int} (h : PS w0 W gp gr s p e xs ts vN vT) (hr : IsS72 w0 W1 gr s p' e') (hb : Below w0.heap.size w0 W1) (hk : KeepBut W W1 gr none) : PS w0 W1 gp gr s p' e' xs ts vN vT where
 bp := (hk.2 gp (blk_lt h.bp) h.ne (by simp)).trans h.bp
 gep := h.gep
 rd := hr
 ns := Kd.R_mono (Kd.R_keep (h.rd.apart h.ns (by decide)) hk (fun _ hk => hk.2)) (fun _ _ => trivial)
 ts := Kd.R_mono (Kd.R_keep (h.rd.apart h.ts (by decide)) hk (fun _ hk => hk.2)) (fun _ _ => trivial)
 bel := hb
theorem PS.below {W1 : World} (h : PS w0 W gp gr s p e xs ts vN vT) (hb : Below W.heap.size W W1) : PS w0 W1 gp gr s p e xs ts vN vT where
 bp := blk_below h.bp hb
 gep := h.gep
 rd := h.rd.below hb
 ns := Kd.R_below h.ns hb
 ts := Kd.R_below h.ts hb
 bel := below_step h.bel hb
theorem PS.alloc (h : PS w0 W gp gr s p e xs ts vN vT) (o : Obj) : PS w0 (W.alloc o) gp gr s p e xs ts vN vT := h.below (below_alloc (Below.refl _ _) o)
theorem PS.drew (h : PS w0 W gp gr s p e xs ts vN vT) : PS w0 W.drew gp gr s p e xs ts vN vT := h.below (below_drew (Below.refl _ _))
theorem PS.pushN {v1 : Value} {w1 : World} {ys : List Int} (h : PS w0 W gp gr s p e xs ts vN vT) (ho : (Kd.int .i64).R 3 w1 w0.heap.size (fun _ => True) v1 ys) (hb : Below w0.heap.size w0 w1) (hg : W.grownBy w1 vN.ownBlock) :
  w1.heap[gp]? = some (.cells #[vN, vT] 48 (0, 0)) ∧ PS w0 (w1.setCell ⟨gp, 0, none⟩ v1) gp gr s p e ys ts v1 vT := by
 have b1 := blk_grown h.bp hg h.neN
 have r1 := h.rd.grown hg (Kd.R_ne h.ns h.rd.1 (by decide))
 have t1 := Kd.R_over h.ts h.ns (by decide) hg
 exact ⟨b1, by simpa using blk_set b1 0 v1, h.gep, r1.far (p := ⟨gp, 0, none⟩) (Ne.symm h.ne) v1, Kd.R_set ho b1 (by decide) 0 v1, Kd.R_set t1 b1 (by decide) 0 v1, below_set hb h.gep⟩
theorem PS.pushT {v1 : Value} {w1 : World} {ys : List ByteArray} (h : PS w0 W gp gr s p e xs ts vN vT) (ho : Kd.string.R 9 w1 w0.heap.size (fun _ => True) v1 ys) (hb : Below w0.heap.size w0 w1) (hg : W.grownBy w1 vT.ownBlock) :
  w1.heap[gp]? = some (.cells #[vN, vT] 48 (0, 0)) ∧ PS w0 (w1.setCell ⟨gp, 1, none⟩ v1) gp gr s p e xs ys vN v1 := by
 have b1 := blk_grown h.bp hg h.neT
 have r1 := h.rd.grown hg (Kd.R_ne h.ts h.rd.1 (by decide))
 have t1 := Kd.R_over h.ns h.ts (by decide) hg
 exact ⟨b1, by simpa using blk_set b1 1 v1, h.gep, r1.far (p := ⟨gp, 1, none⟩) (Ne.symm h.ne) v1, Kd.R_set t1 b1 (by decide) 1 v1, Kd.R_set ho b1 (by decide) 1 v1, below_set hb h.gep⟩
end
end Go.Proofs.Ytbfjbcaabijpfaa.PackDec

namespace Go.Proofs.Ytbfjbcaabijpfaa.PackDec
open Go.RowKit Go.Proofs.Ytbfjbcaabijpfaa.Base Go.Proofs.Ytbfjbcaabijpfaa.PackMath Go.Proofs.YtbfjbcaabijpfaaW.PrintWords
theorem and_u64_one (n : Nat) (hn : n < 9223372036854775808) : Go.bits .and .u64 (n : Int) 1 = ((n % 2 : Nat) : Int) := by
 show IntKind.u64.wrap ((BitVec.ofInt 64 (n : Int) &&& BitVec.ofInt 64 ((1 : Nat) : Int)).toNat : Int) = _
 rw [BitVec.toNat_and, ofInt_u64 n (by omega), ofInt_u64 1 (by omega), IntKind.wrap_u64, Nat.and_one_is_mod]
 omega
theorem xor_all (x : Nat) (hx : x < 9223372036854775808) : Go.bits .xor .i64 (x : Int) (-1) = -(x : Int) - 1 := by
 show IntKind.i64.wrap ((BitVec.ofInt 64 (x : Int) ^^^ BitVec.ofInt 64 (-1)).toNat : Int) = _
 have e : BitVec.ofInt 64 (-1) = BitVec.allOnes 64 := by decide
 rw [e, BitVec.xor_allOnes, BitVec.toNat_not, ofInt_u64 x (by omega), IntKind.wrap_i64]
 omega
theorem zag_go (n : Nat) (hn : n < 9223372036854775808) : Go.bits .xor .i64 (wrap64 ((n : Int) / 2)) (wrap64 (-(wrap64 (Go.bits .and .u64 (n : Int) 1)))) = zag n := by
 rw [and_u64_one n hn, wrap_id (n := (n : Int) / 2) (by omega) (by omega), wrap_id (n := ((n % 2 : Nat) : Int)) (by omega) (by omega), wrap_id (n := -((n % 2 : Nat) : Int)) (by omega) (by omega)]
 rw [show (n : Int) / 2 = ((n / 2 : Nat) : Int) from by omega]
 unfold zag
 by_cases h : n % 2 = 1
 ·rw [if_pos h, h, show (-((1 : Nat) : Int)) = -1 from rfl, xor_all _ (by omega)]
  omega
 ·rw [if_neg h, show n % 2 = 0 from by omega, show (-((0 : Nat) : Int)) = ((0 : Nat) : Int) from rfl, xor_i64_nat _ _ (by omega) (by omega), Nat.xor_zero]
  omega
theorem rdn_lt (s : ByteArray) (p : Nat) : (rdn s p).1 < 9223372036854775808 := by
 by_cases h : (rdn s p).2.2 = 0
 ·exact (rdn_ok h).1
 ·rw [← cnt_all] at h ⊢
  rw [cnt_zero h]
  omega
end Go.Proofs.Ytbfjbcaabijpfaa.PackDec

namespace Go.Proofs.Ytbfjbcaabijpfaa.Al
open Go.RowKit Go.Proofs.Ytbfjbcaabijpfaa.Base Go.Proofs.Ytbfjbcaabijpfaa.PackMath Go.Proofs.Ytbfjbcaabijpfaa.PackDec Go.Proofs.YtbfjbcaabijpfaaW.PrintWords Go.Proofs.YtbfjbcaabijpfaaW.PrintLast Go.Proofs.YtbfjbcaabijpfaaW.PrintMore
set_option linter.unusedVariables false
set_option linter.unusedSimpArgs false
def pack_Decode.f (a0 : ByteArray) : Option (List Int × List ByteArray × Int × Int) := if a0.size ≤ 140737488355328 then some ((dec a0).1, (dec a0).2.1, ((dec a0).2.2.1 : Int), (dec a0).2.2.2) else none
def RelN (s : ByteArray) (m p : Nat) (e : Int) (xs : List Int) : Prop := p ≤ s.size ∧ (e = 0 → decN s m p xs = st2 s) ∧ (e ≠ 0 → (st2 s).2 = (p, e))
def RelT (s : ByteArray) (m p : Nat) (e : Int) (xs : List ByteArray) : Prop := p ≤ s.size ∧ (e = 0 → decT s m p xs = st4 s) ∧ (e ≠ 0 → (st4 s).2 = (p, e))
theorem relN_start (s : ByteArray) : RelN s (st1 s).1 (st1 s).2.1 (st1 s).2.2 [] := ⟨st1_le s, fun h => by unfold st2; rw [if_pos h], fun h => by unfold st2; rw [if_neg h]⟩
theorem relN_step {s : ByteArray} {m p : Nat} {xs : List Int} (h : RelN s (m + 1) p 0 xs) : RelN s m (rdn s p).2.1 (rdn s p).2.2 (xs ++ [zag (rdn s p).1]) := by
 obtain ⟨h1, h2, _⟩ := h
 have h3 := h2 rfl
 have e : decN s (m + 1) p xs = if (rdn s p).2.2 = 0 then decN s m (rdn s p).2.1 (xs ++ [zag (rdn s p).1]) else (xs, (rdn s p).2.1, (rdn s p).2.2) := rfl
 rw [e] at h3
 exact ⟨rdn_le h1, fun he => by rw [if_pos he] at h3; exact h3, fun he => by rw [if_neg he] at h3; rw [← h3]⟩
theorem relN_exit {s : ByteArray} {m p : Nat} {e : Int} {xs : List Int} (h : RelN s m p e xs) (hx : m = 0 ∨ e ≠ 0) : (st2 s).2 = (p, e) ∧ (e = 0 → (st2 s).1 = xs) ∧ p ≤ s.size := by
 obtain ⟨h1, h2, h3⟩ := h
 by_cases he : e = 0
 ·obtain rfl : m = 0 := by rcases hx with h | h; exact h; exact absurd he h
  have := h2 he
  simp only [decN] at this
  subst he
  rw [← this]
  exact ⟨rfl, fun _ => rfl, h1⟩
 ·exact ⟨h3 he, fun hc => absurd hc he, h1⟩
theorem relT_start (s : ByteArray) : RelT s (st3 s).1 (st3 s).2.1 (st3 s).2.2 [] := ⟨st3_le s, fun h => by unfold st4; rw [if_pos h], fun h => by unfold st4; rw [if_neg h]⟩
theorem relT_step {s : ByteArray} {m p : Nat} {xs : List ByteArray} (h : RelT s (m + 1) p 0 xs) : RelT s m (txt s p).2.1 (txt s p).2.2 (xs ++ [(txt s p).1]) := by
 obtain ⟨h1, h2, _⟩ := h
 have h3 := h2 rfl
 have e : decT s (m + 1) p xs = if (txt s p).2.2 = 0 then decT s m (txt s p).2.1 (xs ++ [(txt s p).1]) else (xs, (txt s p).2.1, (txt s p).2.2) := rfl
 rw [e] at h3
 exact ⟨txt_le h1, fun he => by rw [if_pos he] at h3; exact h3, fun he => by rw [if_neg he] at h3; rw [← h3]⟩
theorem relT_exit {s : ByteArray} {m p : Nat} {e : Int} {xs : List ByteArray} (h : RelT s m p e xs) (hx : m = 0 ∨ e ≠ 0) : (st4 s).2 = (p, e) ∧ (e = 0 → (st4 s).1 = xs) ∧ p ≤ s.size := by
 obtain ⟨h1, h2, h3⟩ := h
 by_cases he : e = 0
 ·obtain rfl : m = 0 := by rcases hx with h | h; exact h; exact absurd he h
  have := h2 he
  simp only [decT] at this
  subst he
  rw [← this]
  exact ⟨rfl, fun _ => rfl, h1⟩
 ·exact ⟨h3 he, fun hc => absurd hc he, h1⟩
theorem st3_of {s : ByteArray} {p : Nat} {e : Int} (h : (st2 s).2 = (p, e)) : cntE s p e 1024 = st3 s := by
 unfold cntE st3
 rw [h]
theorem st_back {s : ByteArray} (h : (st4 s).2.2 = 0) : (st2 s).2.2 = 0 := by
 have h3 : (st3 s).2.2 = 0 := by
  unfold st4 at h
  by_cases hc : (st3 s).2.2 = 0
  ·exact hc
  ·rw [if_neg hc] at h; exact absurd h hc
 unfold st3 at h3
 by_cases hc : (st2 s).2.2 = 0
 ·exact hc
 ·rw [if_neg hc] at h3; exact absurd h3 hc
theorem cntE_all (s : ByteArray) (p : Nat) : cntE s p 0 9223372036854775807 = rdn s p := by unfold cntE; rw [if_pos rfl, cnt_all]
set_option maxHeartbeats 8000000 in
set_option maxRecDepth 100000 in
theorem pack_Decode.core (s : ByteArray) (hs : s.size ≤ 140737488355328) (w : World) :
  Calls Try.prog 36 #[.string s] w fun e w' => ∃ v0_ v1_ : Value, e = .returned (.tuple #[.agg #[v0_, v1_], .int .i64 ((dec s).2.2.1 : Int), .int .i64 (dec s).2.2.2]) ∧ Kd.R (Kd.int .i64) 3 w' w.heap.size (fun _ => True) v0_ (dec s).1 ∧ Kd.R Kd.string 9 w' w.heap.size (fun _ => True) v1_ (dec s).2.1 ∧ Below w.heap.size w w' := by
 have hu48 := Try.underlying48
 have hc1 := fun (g : Nat) (W : World) hI hB => number_calls s 0 1024 1024 0 0 rfl rfl hs (Nat.zero_le _) g w W hI hB
 have e1 : cntE s 0 0 1024 = st1 s := rfl
 simp only [e1] at hc1
 have HC1 := Aside0.mk hc1
 clear hc1 e1
 go_enter Try.func36, Try.ntmps36
 go_wp2_with (first | ((with_reducible refine gate_dst (N := 2) rfl ?_); (try (refine gate_guard (by rfl) ?_; dsimp only)); refine box_event ?hg (N := 2) ?hd (cs := #[.slice none 0 0, .slice none 0 0]) (t := 48) ?hr ?_; (case hd => rfl); (case hg => rfl); (case hr => first | (go_simp; done) | (go_simp; rfl)); intro gp hgg gpw hbox hb; have GP := Aside0.mk (Nat.le_of_eq hgg.symm); have BP := Aside0.mk hbox; have BA := Aside0.mk hb; clear hgg hbox hb) | ((with_reducible refine gate_dst (N := 11) rfl ?_); (try (refine gate_guard (by rfl) ?_; dsimp only)); refine box_event ?hg (N := 11) ?hd (cs := #[.string s, .int .i64 0, .int .i64 0]) (t := 72) ?hr ?_; (case hd => rfl); (case hg => rfl); (case hr => first | (go_simp; done) | (go_simp; rfl)); intro gr hgg grw hbox hb; have HP0 : Aside0 (PS w grw gp gr s 0 0 [] [] (.slice none 0 0) (.slice none 0 0)) := ⟨⟨blk_below BP.out hb, GP.out, ⟨hbox, by rw [hgg]; exact BA.out.size⟩, Kd.R_nil _ _ _ _ _, Kd.R_nil _ _ _ _ _, below_step BA.out hb⟩⟩; clear hgg hbox hb) | (go_at_call 45; refine (HC1.out gr _ HP0.out.rd HP0.out.bel).mono ?_; rintro x w' ⟨rfl, hI, hB, hK⟩; have HP1 := Aside0.mk (HP0.out.keep hI hB hK); clear hI hB hK))
 have hm1 : (st1 s).1 ≤ 1024 := cnt_most
 have HR1 := Aside0.mk (relN_start s)
 generalize (st1 s).1 = m0 at hm1 HR1 ⊢
 generalize (st1 s).2.1 = p0 at HP1 HR1 ⊢
 generalize (st1 s).2.2 = e0 at HP1 HR1 ⊢
 clear HC1 HP0 BP BA
 go_loopw [6] (fun v6 wr => ∃ (m p : Nat) (e : Int) (xs : List Int) (vN : Value), v6 = .int .u64 m ∧ m + xs.length ≤ 1024 ∧ Aside0 (RelN s m p e xs) ∧ Aside0 (PS w wr gp gr s p e xs [] vN (.slice none 0 0))) (fun v6 _ => (intOf v6).toNat)
 case atStart => exact ⟨m0, p0, e0, [], _, rfl, by simpa using hm1, HR1, HP1⟩
 case round =>
  obtain ⟨m, p, e, xs, vN, rfl, hm, HR, HP⟩ := hrel
  clear hm1 HR1 HP1
  by_cases hc : 0 < m ∧ e = 0
  ·obtain ⟨h0, rfl⟩ := hc
   obtain ⟨m, rfl⟩ : ∃ k, m = k + 1 := ⟨m - 1, by omega⟩
   have hx2 := cellS72_2 HP.out.rd.1
   have c1 : decide ((0 : Int) < ((m + 1 : Nat) : Int)) = true := decide_eq_true (by omega)
   have c2 : decide (0 < m + 1) = true := decide_eq_true (by omega)
   have hcn := fun (W : World) hI hB => number_calls s p 9223372036854775807 9223372036854775807 p 0 rfl rfl hs HR.out.1 gr w W hI hB
   simp only [cntE_all] at hcn
   have HCN := Aside0.mk hcn
   clear hcn
   go_wp2_with (first | (go_at_call 45; refine (HCN.out _ HP.out.rd HP.out.bel).mono ?_; rintro x w' ⟨rfl, hI, hB, hK⟩; have HP1 := Aside0.mk (HP.out.keep hI hB hK); clear hI hB hK; have hxN : w'.cell? ⟨gp, 0, none⟩ = some vN := (blk_cell HP1.out.bp 0).trans rfl) | ((with_reducible refine gate_builtin (b := .append) (xs := #[.tmp 28, .tmp 37]) rfl ?_); at_builtin; (refine Kd.R_append (Kd.int .i64) (w0 := w) w.heap.size rfl (.tmp 28) (.tmp 37) 46 3 (.int .i64 0) 8 rfl Try.underlying46 info3 rfl (by decide) (by omega) vN xs (Go.bits .xor .i64 (wrap64 (((rdn s p).1 : Int) / 2)) (wrap64 (-(wrap64 (Go.bits .and .u64 ((rdn s p).1 : Int) 1))))) [.int .i64 (Go.bits .xor .i64 (wrap64 (((rdn s p).1 : Int) / 2)) (wrap64 (-(wrap64 (Go.bits .and .u64 ((rdn s p).1 : Int) 1)))))] (fun _ => True) (fun _ => False) rfl rfl ?aP (fun _ hk => hk.elim) (fun _ _ => trivial) HP1.out.ns HP1.out.bel HP1.out.bel.size ?aL ?_; (case aP => exact rfl); (case aL => omega); intro v1 w1 ho hb hg hat; obtain ⟨A1, k1, e1⟩ := Kd.R_slice ho; subst e1; obtain ⟨b1, hp2⟩ := HP1.out.pushN ho hb hg; have HP2 := Aside0.mk hp2; have hs0 : w1.cell? ⟨gp, 0, none⟩ = some vN := (blk_cell b1 0).trans rfl; have hf0 := blk_frozen b1 0; clear ho hb hg hat hp2 b1)))
   have hz := zag_go (rdn s p).1 (rdn_lt s p)
   have HP3 := HP2.out
   rw [hz] at HP3
   exact ⟨⟨m, (rdn s p).2.1, (rdn s p).2.2, xs ++ [zag (rdn s p).1], _, rfl, by simp; omega, ⟨relN_step HR.out⟩, ⟨by simpa using HP3⟩⟩, by simp [intOf]⟩
  ·obtain ⟨x1, x2, x3⟩ := relN_exit HR.out (by omega)
   have HX1 := Aside0.mk x1
   have HX2 := Aside0.mk x2
   have hc3 := fun (W : World) hI hB => number_calls s p 1024 1024 p e rfl rfl hs x3 gr w W hI hB
   simp only [st3_of x1] at hc3
   have HC3 := Aside0.mk hc3
   have hx2 := cellS72_2 HP.out.rd.1
   have hm3 := st3_most s
   have HM3 := Aside0.mk hm3
   have HR3 := Aside0.mk (relT_start s)
   clear x1 x2 x3 hc3 HR hm3
   by_cases h0 : 0 < m
   ·have he : (e == 0) = false := by simp; omega
    have c1 : decide ((0 : Int) < (m : Int)) = true := decide_eq_true (by omega)
    have c2 : decide (0 < m) = true := decide_eq_true (by omega)
    clear hc h0
    go_wp2_with (first | (go_at_call 45; refine (HC3.out _ HP.out.rd HP.out.bel).mono ?_; rintro x w' ⟨rfl, hI, hB, hK⟩; have HP3 := Aside0.mk (HP.out.keep hI hB hK); clear hI hB hK))
    clear hx2
    have hm3 := HM3.out
    clear HM3
    generalize hg1 : (st3 s).1 = m1 at hm3 HR3 ⊢
    generalize hg2 : (st3 s).2.1 = p1 at HP3 HR3 ⊢
    generalize hg3 : (st3 s).2.2 = e1 at HP3 HR3 ⊢
    clear hg1 hg2 hg3 HC3 HP
    obtain ⟨wo, rfl⟩ : ∃ wo : World, wo = wr := ⟨_, rfl⟩
    go_loopw [8] (fun v8 wr => ∃ (m p : Nat) (e : Int) (ts : List ByteArray) (vT : Value), v8 = .int .u64 m ∧ m + ts.length ≤ 1024 ∧ Aside0 (RelT s m p e ts) ∧ Aside0 (PS w wr gp gr s p e xs ts vN vT)) (fun v8 _ => (intOf v8).toNat)
    case atStart => exact ⟨m1, p1, e1, [], _, rfl, by simpa using hm3, HR3, HP3⟩
    case round =>
     clear hm3 HR3 HP3
     obtain ⟨m, p, e, ts, vT, rfl, hm, HR, HP⟩ := hrel
     by_cases hc : 0 < m ∧ e = 0
     ·obtain ⟨h0, rfl⟩ := hc
      obtain ⟨m, rfl⟩ : ∃ k, m = k + 1 := ⟨m - 1, by omega⟩
      have hx2 := cellS72_2 HP.out.rd.1
      have c1 : decide ((0 : Int) < ((m + 1 : Nat) : Int)) = true := decide_eq_true (by omega)
      have c2 : decide (0 < m + 1) = true := decide_eq_true (by omega)
      go_wp2_with fail
      clear hx2 c1 c2
      have hxT : wr.cell? ⟨gp, 1, none⟩ = some vT := (blk_cell HP.out.bp 1).trans rfl
      have HPd : Aside0 (PS w wr.drew gp gr s p 0 xs ts vN vT) := ⟨HP.out.drew⟩
      go_region_law (first | (go_simp; go_at_call 46; refine (text_calls s p p rfl hs HR.out.1 gr w _ HPd.out.rd HPd.out.bel).mono ?_; rintro x w' ⟨rfl, hI, hB, hK⟩; have HP1 := Aside0.mk (HPd.out.keep hI hB hK); have hxT1 : w'.cell? ⟨gp, 1, none⟩ = some vT := (blk_cell HP1.out.bp 1).trans rfl; have hxT2 : ∀ o : Obj, (w'.alloc o).cell? ⟨gp, 1, none⟩ = some vT := fun o => (blk_cell (HP1.out.alloc o).bp 1).trans rfl; clear hI hB hK) | (refine Kd.R_append_step Kd.string (w0 := w) w.heap.size (by rfl) (.tmp 54) (.tmp 57) 22 9 (.string ⟨#[]⟩) 16 (by rfl) Try.underlying22 info9 rfl (by decide) (by omega) vT ts ((txt s p).1) [.string (txt s p).1] (fun _ => True) (fun _ => False) (by rfl) (by rfl) rfl (fun _ hk => hk.elim) (fun _ _ => trivial) HP1.out.ts HP1.out.bel HP1.out.bel.size (by omega) ?_; intro v1 w1 ho hb hg hat; obtain ⟨A1, k1, e1⟩ := Kd.R_slice ho; subst e1; obtain ⟨b1, hp2⟩ := HP1.out.pushT ho hb hg; have HP2 := Aside0.mk hp2; have hs0 : w1.cell? ⟨gp, 1, none⟩ = some vT := (blk_cell b1 1).trans rfl; have hf0 := blk_frozen b1 1; clear ho hb hg hat hp2 b1))
      all_goals (go_wp2_with fail; (have HP3 := HP2.out; exact ⟨⟨m, (txt s p).2.1, (txt s p).2.2, ts ++ [(txt s p).1], _, rfl, by simp; omega, ⟨relT_step HR.out⟩, ⟨by simpa using HP3⟩⟩, by simp [intOf]⟩))
     ·obtain ⟨y1, y2, y3⟩ := relT_exit HR.out (by omega)
      have hx2 := cellS72_2 HP.out.rd.1
      have hx1 := cellS72_1 HP.out.rd.1
      have hne : gp ≠ gr := HP.out.ne
      have hne2 : gr ≠ gp := Ne.symm hne
      obtain ⟨AN, kN, eN⟩ := Kd.R_slice HP.out.ns
      obtain ⟨AT, kT, eT⟩ := Kd.R_slice HP.out.ts
      subst eN eT
      have hp0 : wr.cell? ⟨gp, 0, none⟩ = some (.slice AN xs.length kN) := (blk_cell HP.out.bp 0).trans rfl
      have hp1 : wr.cell? ⟨gp, 1, none⟩ = some (.slice AT ts.length kT) := (blk_cell HP.out.bp 1).trans rfl
      have hf0 := blk_frozen HP.out.bp 0
      have hf1 := blk_frozen HP.out.bp 1
      by_cases he : e = 0
      ·subst he
       obtain rfl : m = 0 := by omega
       by_cases hl : p < s.size
       ·have hd : dec s = ([], [], p, 3) := by rw [dec_st, y1]; simp [hl]
        have HD := Aside0.mk hd
        have c3 : decide ((p : Int) < (s.size : Int)) = true := decide_eq_true (by omega)
        have c4 : decide (p < s.size) = true := decide_eq_true hl
        clear hd hc y1 y2 y3 hp0 hp1 hf0 hf1
        go_wp2_with (go_at_call 47; refine (pack_reader_fail.calls gr s p 0 p 3 _ _ _ _ w _ HP.out.rd HP.out.bel rfl).mono ?_; rintro x w' ⟨rfl, hI, hB, hK⟩; have HQ := Aside0.mk (HP.out.keep (p' := p) (e' := 3) hI hB hK); have hx2 := cellS72_2 HQ.out.rd.1; have hx1 := cellS72_1 HQ.out.rd.1; clear hI hB hK)
        have hp0 : w'.cell? ⟨gp, 0, none⟩ = some (.slice AN xs.length kN) := (blk_cell HQ.out.bp 0).trans rfl
        have hp1 : w'.cell? ⟨gp, 1, none⟩ = some (.slice AT ts.length kT) := (blk_cell HQ.out.bp 1).trans rfl
        have hf0 := blk_frozen HQ.out.bp 0
        have hf1 := blk_frozen HQ.out.bp 1
        go_region_held3 (fun W => W.cell? ⟨gr, 1, none⟩ = some (.int .i64 p) ∧ W.cell? ⟨gr, 2, none⟩ = some (.int .i64 3)) (go_keep) (fail)
        go_wp2
        have bk := blk_drew (blk_set (blk_set HQ.out.bp 0 (.slice none 0 0)) 1 (.slice none 0 0))
        refine bodyPost_ret (results_ctt rfl _ _ gp 48 #[.slice none 0 0, .slice none 0 0] (0, 0) _ rfl (by simpa using bk) Try.underlying48 rfl (by kernel_rfl)) rfl ?_
        rw [HD.out]
        exact ⟨_, _, rfl, Kd.R_nil _ _ _ _ _, Kd.R_nil _ _ _ _ _, below_drew (below_set (below_set HQ.out.bel HQ.out.gep) HQ.out.gep)⟩
       ·have hd : dec s = (xs, ts, 0, 0) := by
         rw [dec_st, y1]
         simp only [if_true]
         rw [if_neg hl, y2 rfl, HX2.out (by have := st_back (s := s) (by rw [y1]); rw [HX1.out] at this; exact this)]
        have HD := Aside0.mk hd
        have c3 : decide ((p : Int) < (s.size : Int)) = false := decide_eq_false (by omega)
        have c4 : decide (p < s.size) = false := decide_eq_false hl
        clear hd hc y1 y2 y3 hl
        go_wp2
        have bk := blk_set (blk_set HP.out.bp 0 (.slice AN xs.length kN)) 1 (.slice AT ts.length kT)
        refine bodyPost_ret (results_ctt rfl _ _ gp 48 #[.slice AN xs.length kN, .slice AT ts.length kT] (0, 0) _ rfl (by simpa using bk) Try.underlying48 rfl (by kernel_rfl)) rfl ?_
        rw [HD.out]
        exact ⟨_, _, rfl, Kd.R_set (Kd.R_set HP.out.ns HP.out.bp (by decide) 0 _) (blk_set HP.out.bp 0 _) (by decide) 1 _, Kd.R_set (Kd.R_set HP.out.ts HP.out.bp (by decide) 0 _) (blk_set HP.out.bp 0 _) (by decide) 1 _, below_set (below_set HP.out.bel HP.out.gep) HP.out.gep⟩
      ·have hd : dec s = ([], [], p, e) := by rw [dec_st, y1]; simp [he]
       have HD := Aside0.mk hd
       have he1 : (e == 0) = false := by simpa using he
       have he2 : (e != 0) = true := by simpa using he
       clear hd y1 y2 y3
       by_cases h0 : 0 < m
       all_goals
        first
        |have c1 : decide ((0 : Int) < (m : Int)) = true := decide_eq_true (by omega)
         have c2 : decide (0 < m) = true := decide_eq_true h0
        |obtain rfl : m = 0 := by omega
        clear hc h0 he
        go_wp2
        go_region_held3 (fun W => W.cell? ⟨gr, 1, none⟩ = some (.int .i64 p) ∧ W.cell? ⟨gr, 2, none⟩ = some (.int .i64 e)) (go_keep) (fail)
        go_wp2
        have bk := blk_drew (blk_set (blk_set HP.out.bp 0 (.slice none 0 0)) 1 (.slice none 0 0))
        refine bodyPost_ret (results_ctt rfl _ _ gp 48 #[.slice none 0 0, .slice none 0 0] (0, 0) _ rfl (by simpa using bk) Try.underlying48 rfl (by kernel_rfl)) rfl ?_
        rw [HD.out]
        exact ⟨_, _, rfl, Kd.R_nil _ _ _ _ _, Kd.R_nil _ _ _ _ _, below_drew (below_set (below_set HP.out.bel HP.out.gep) HP.out.gep)⟩
   ·obtain rfl : m = 0 := by omega
    clear hc h0
    go_wp2_with (first | (go_at_call 45; refine (HC3.out _ HP.out.rd HP.out.bel).mono ?_; rintro x w' ⟨rfl, hI, hB, hK⟩; have HP3 := Aside0.mk (HP.out.keep hI hB hK); clear hI hB hK))
    clear hx2
    have hm3 := HM3.out
    clear HM3
    generalize hg1 : (st3 s).1 = m1 at hm3 HR3 ⊢
    generalize hg2 : (st3 s).2.1 = p1 at HP3 HR3 ⊢
    generalize hg3 : (st3 s).2.2 = e1 at HP3 HR3 ⊢
    clear hg1 hg2 hg3 HC3 HP
    obtain ⟨wo, rfl⟩ : ∃ wo : World, wo = wr := ⟨_, rfl⟩
    go_loopw [8] (fun v8 wr => ∃ (m p : Nat) (e : Int) (ts : List ByteArray) (vT : Value), v8 = .int .u64 m ∧ m + ts.length ≤ 1024 ∧ Aside0 (RelT s m p e ts) ∧ Aside0 (PS w wr gp gr s p e xs ts vN vT)) (fun v8 _ => (intOf v8).toNat)
    case atStart => exact ⟨m1, p1, e1, [], _, rfl, by simpa using hm3, HR3, HP3⟩
    case round =>
     clear hm3 HR3 HP3
     obtain ⟨m, p, e, ts, vT, rfl, hm, HR, HP⟩ := hrel
     by_cases hc : 0 < m ∧ e = 0
     ·obtain ⟨h0, rfl⟩ := hc
      obtain ⟨m, rfl⟩ : ∃ k, m = k + 1 := ⟨m - 1, by omega⟩
      have hx2 := cellS72_2 HP.out.rd.1
      have c1 : decide ((0 : Int) < ((m + 1 : Nat) : Int)) = true := decide_eq_true (by omega)
      have c2 : decide (0 < m + 1) = true := decide_eq_true (by omega)
      go_wp2_with fail
      clear hx2 c1 c2
      have hxT : wr.cell? ⟨gp, 1, none⟩ = some vT := (blk_cell HP.out.bp 1).trans rfl
      have HPd : Aside0 (PS w wr.drew gp gr s p 0 xs ts vN vT) := ⟨HP.out.drew⟩
      go_region_law (first | (go_simp; go_at_call 46; refine (text_calls s p p rfl hs HR.out.1 gr w _ HPd.out.rd HPd.out.bel).mono ?_; rintro x w' ⟨rfl, hI, hB, hK⟩; have HP1 := Aside0.mk (HPd.out.keep hI hB hK); have hxT1 : w'.cell? ⟨gp, 1, none⟩ = some vT := (blk_cell HP1.out.bp 1).trans rfl; have hxT2 : ∀ o : Obj, (w'.alloc o).cell? ⟨gp, 1, none⟩ = some vT := fun o => (blk_cell (HP1.out.alloc o).bp 1).trans rfl; clear hI hB hK) | (refine Kd.R_append_step Kd.string (w0 := w) w.heap.size (by rfl) (.tmp 54) (.tmp 57) 22 9 (.string ⟨#[]⟩) 16 (by rfl) Try.underlying22 info9 rfl (by decide) (by omega) vT ts ((txt s p).1) [.string (txt s p).1] (fun _ => True) (fun _ => False) (by rfl) (by rfl) rfl (fun _ hk => hk.elim) (fun _ _ => trivial) HP1.out.ts HP1.out.bel HP1.out.bel.size (by omega) ?_; intro v1 w1 ho hb hg hat; obtain ⟨A1, k1, e1⟩ := Kd.R_slice ho; subst e1; obtain ⟨b1, hp2⟩ := HP1.out.pushT ho hb hg; have HP2 := Aside0.mk hp2; have hs0 : w1.cell? ⟨gp, 1, none⟩ = some vT := (blk_cell b1 1).trans rfl; have hf0 := blk_frozen b1 1; clear ho hb hg hat hp2 b1))
      all_goals (go_wp2_with fail; (have HP3 := HP2.out; exact ⟨⟨m, (txt s p).2.1, (txt s p).2.2, ts ++ [(txt s p).1], _, rfl, by simp; omega, ⟨relT_step HR.out⟩, ⟨by simpa using HP3⟩⟩, by simp [intOf]⟩))
     ·obtain ⟨y1, y2, y3⟩ := relT_exit HR.out (by omega)
      have hx2 := cellS72_2 HP.out.rd.1
      have hx1 := cellS72_1 HP.out.rd.1
      have hne : gp ≠ gr := HP.out.ne
      have hne2 : gr ≠ gp := Ne.symm hne
      obtain ⟨AN, kN, eN⟩ := Kd.R_slice HP.out.ns
      obtain ⟨AT, kT, eT⟩ := Kd.R_slice HP.out.ts
      subst eN eT
      have hp0 : wr.cell? ⟨gp, 0, none⟩ = some (.slice AN xs.length kN) := (blk_cell HP.out.bp 0).trans rfl
      have hp1 : wr.cell? ⟨gp, 1, none⟩ = some (.slice AT ts.length kT) := (blk_cell HP.out.bp 1).trans rfl
      have hf0 := blk_frozen HP.out.bp 0
      have hf1 := blk_frozen HP.out.bp 1
      by_cases he : e = 0
      ·subst he
       obtain rfl : m = 0 := by omega
       by_cases hl : p < s.size
       ·have hd : dec s = ([], [], p, 3) := by rw [dec_st, y1]; simp [hl]
        have HD := Aside0.mk hd
        have c3 : decide ((p : Int) < (s.size : Int)) = true := decide_eq_true (by omega)
        have c4 : decide (p < s.size) = true := decide_eq_true hl
        clear hd hc y1 y2 y3 hp0 hp1 hf0 hf1
        go_wp2_with (go_at_call 47; refine (pack_reader_fail.calls gr s p 0 p 3 _ _ _ _ w _ HP.out.rd HP.out.bel rfl).mono ?_; rintro x w' ⟨rfl, hI, hB, hK⟩; have HQ := Aside0.mk (HP.out.keep (p' := p) (e' := 3) hI hB hK); have hx2 := cellS72_2 HQ.out.rd.1; have hx1 := cellS72_1 HQ.out.rd.1; clear hI hB hK)
        have hp0 : w'.cell? ⟨gp, 0, none⟩ = some (.slice AN xs.length kN) := (blk_cell HQ.out.bp 0).trans rfl
        have hp1 : w'.cell? ⟨gp, 1, none⟩ = some (.slice AT ts.length kT) := (blk_cell HQ.out.bp 1).trans rfl
        have hf0 := blk_frozen HQ.out.bp 0
        have hf1 := blk_frozen HQ.out.bp 1
        go_region_held3 (fun W => W.cell? ⟨gr, 1, none⟩ = some (.int .i64 p) ∧ W.cell? ⟨gr, 2, none⟩ = some (.int .i64 3)) (go_keep) (fail)
        go_wp2
        have bk := blk_drew (blk_set (blk_set HQ.out.bp 0 (.slice none 0 0)) 1 (.slice none 0 0))
        refine bodyPost_ret (results_ctt rfl _ _ gp 48 #[.slice none 0 0, .slice none 0 0] (0, 0) _ rfl (by simpa using bk) Try.underlying48 rfl (by kernel_rfl)) rfl ?_
        rw [HD.out]
        exact ⟨_, _, rfl, Kd.R_nil _ _ _ _ _, Kd.R_nil _ _ _ _ _, below_drew (below_set (below_set HQ.out.bel HQ.out.gep) HQ.out.gep)⟩
       ·have hd : dec s = (xs, ts, 0, 0) := by
         rw [dec_st, y1]
         simp only [if_true]
         rw [if_neg hl, y2 rfl, HX2.out (by have := st_back (s := s) (by rw [y1]); rw [HX1.out] at this; exact this)]
        have HD := Aside0.mk hd
        have c3 : decide ((p : Int) < (s.size : Int)) = false := decide_eq_false (by omega)
        have c4 : decide (p < s.size) = false := decide_eq_false hl
        clear hd hc y1 y2 y3 hl
        go_wp2
        have bk := blk_set (blk_set HP.out.bp 0 (.slice AN xs.length kN)) 1 (.slice AT ts.length kT)
        refine bodyPost_ret (results_ctt rfl _ _ gp 48 #[.slice AN xs.length kN, .slice AT ts.length kT] (0, 0) _ rfl (by simpa using bk) Try.underlying48 rfl (by kernel_rfl)) rfl ?_
        rw [HD.out]
        exact ⟨_, _, rfl, Kd.R_set (Kd.R_set HP.out.ns HP.out.bp (by decide) 0 _) (blk_set HP.out.bp 0 _) (by decide) 1 _, Kd.R_set (Kd.R_set HP.out.ts HP.out.bp (by decide) 0 _) (blk_set HP.out.bp 0 _) (by decide) 1 _, below_set (below_set HP.out.bel HP.out.gep) HP.out.gep⟩
      ·have hd : dec s = ([], [], p, e) := by rw [dec_st, y1]; simp [he]
       have HD := Aside0.mk hd
       have he1 : (e == 0) = false := by simpa using he
       have he2 : (e != 0) = true := by simpa using he
       clear hd y1 y2 y3
       by_cases h0 : 0 < m
       all_goals
        first
        |have c1 : decide ((0 : Int) < (m : Int)) = true := decide_eq_true (by omega)
         have c2 : decide (0 < m) = true := decide_eq_true h0
        |obtain rfl : m = 0 := by omega
        clear hc h0 he
        go_wp2
        go_region_held3 (fun W => W.cell? ⟨gr, 1, none⟩ = some (.int .i64 p) ∧ W.cell? ⟨gr, 2, none⟩ = some (.int .i64 e)) (go_keep) (fail)
        go_wp2
        have bk := blk_drew (blk_set (blk_set HP.out.bp 0 (.slice none 0 0)) 1 (.slice none 0 0))
        refine bodyPost_ret (results_ctt rfl _ _ gp 48 #[.slice none 0 0, .slice none 0 0] (0, 0) _ rfl (by simpa using bk) Try.underlying48 rfl (by kernel_rfl)) rfl ?_
        rw [HD.out]
        exact ⟨_, _, rfl, Kd.R_nil _ _ _ _ _, Kd.R_nil _ _ _ _ _, below_drew (below_set (below_set HP.out.bel HP.out.gep) HP.out.gep)⟩
theorem pack_Decode.calls (a0 : ByteArray) (r1 : List Int) (r2 : List ByteArray) (r3 : Int) (r4 : Int) (w : World) (h : pack_Decode.f a0 = some (r1, r2, r3, r4)) :
  Calls Try.prog 36 #[.string a0] w fun e w' => ∃ v0_ v1_ : Value, e = .returned (.tuple #[.agg #[v0_, v1_], .int .i64 r3, .int .i64 r4]) ∧ Kd.R (Kd.int .i64) 3 w' w.heap.size (fun _ => True) v0_ r1 ∧ Kd.R Kd.string 9 w' w.heap.size (fun _ => True) v1_ r2 ∧ Below w.heap.size w w' := by
 unfold pack_Decode.f at h
 split at h
 case isFalse => cases h
 rename_i hs
 simp only [Option.some.injEq, Prod.mk.injEq] at h
 obtain ⟨rfl, rfl, rfl, rfl⟩ := h
 exact pack_Decode.core a0 hs w
end Go.Proofs.Ytbfjbcaabijpfaa.Al

namespace Go.Proofs.Ytbfjbcaabijpfaa.DecLen
open Go.RowKit Go.Proofs.Ytbfjbcaabijpfaa.Base Go.Proofs.Ytbfjbcaabijpfaa.PackMath Go.Proofs.Ytbfjbcaabijpfaa.PackDec Go.Proofs.YtbfjbcaabijpfaaW.PrintWords
set_option linter.unusedVariables false
set_option linter.unusedSimpArgs false
theorem dec_len (s : ByteArray) : (dec s).1.length ≤ 1024 ∧ (dec s).2.1.length ≤ 1024 := by
 by_cases h : (dec s).2.2.2 = 0
 ·obtain ⟨ns, ts, h1, h2, _⟩ := enc_dec h
  rw [h1]
  exact ⟨(chk_ok h2).1, (chk_ok h2).2.1⟩
 ·obtain ⟨h1, h2⟩ := dec_no h
  rw [h1, h2]
  simp
end Go.Proofs.Ytbfjbcaabijpfaa.DecLen

namespace Go.Proofs.Ytbfjbcaabijpfaa.Al
open Go.RowKit Go.Proofs.YtbfjbcaabijpfaaW.PrintWords Go.Proofs.YtbfjbcaabijpfaaW.PrintLast Go.Proofs.YtbfjbcaabijpfaaW.PrintMore
set_option linter.unusedVariables false
set_option linter.unusedSimpArgs false
def slices_CloneT.f (l0 : List ByteArray) : Option (List ByteArray) := if l0.length < 8796093022208 then some l0 else none
set_option maxHeartbeats 8000000 in
set_option maxRecDepth 100000 in
theorem slices_CloneT.calls (A0 : Option Addr) (c0 : Nat) (l0 : List ByteArray) (r : List ByteArray) (w : World) (hr0 : Kd.C Kd.string w A0 l0.length l0) (hc0 : l0.length ≤ c0) (h : slices_CloneT.f l0 = some r) :
  Calls Try.prog 37 #[.slice A0 l0.length c0] w fun e w' => ∃ v0_ : Value, e = .returned (v0_) ∧ Kd.R Kd.string 9 w' w.heap.size (fun _ => True) v0_ r ∧ Below w.heap.size w w' := by
 unfold slices_CloneT.f at h
 split at h
 case isFalse => cases h
 rename_i hlim
 obtain rfl := Option.some.inj h
 clear h
 have HR0 := Aside0.mk hr0
 have HC0 := Aside0.mk hc0
 have HL := Aside0.mk hlim
 have HB := Aside0.mk (Below.refl w.heap.size w)
 rcases A0 with _ | a
 ·have hl : l0 = [] := by
   cases l0 with
   |nil => rfl
   |cons x l => obtain ⟨ad, e, _⟩ := hr0.2.2 (by simp); cases e
  subst hl
  clear hr0 hc0 hlim
  have hnil := fun (W : World) => Lib.run_eql_slice_nil W 22 9 (none : Option Addr) 0 c0 0 0 Try.underlying22
  go_enter Try.func37, Try.ntmps37
  go_wp2
  go_ret
  exact ⟨_, rfl, Kd.R_nil _ _ _ _ _, by repeat (first | (with_reducible first | exact HB.out | apply below_alloc | apply pw_below_drewN | apply below_drew1) | exact HB.out)⟩
 ·have hnil := fun (W : World) => Lib.run_eql_slice_nil W 22 9 (some a) l0.length c0 0 0 Try.underlying22
  clear hr0 hc0 hlim
  go_enter Try.func37, Try.ntmps37
  go_wp2_with (first | ((with_reducible refine gate_dst (N := 5) rfl ?_); refine Kd.R_lit Kd.string _ 9 ?hg (N := 5) ?hd (xs := ([] : List ByteArray)) (inner := []) (ok := fun _ => True) (okp := fun _ => True) ?hr ?hp (fun _ hk => hk) trivial (Below.refl _ _) (Nat.le_refl _) (by simp) ?_; (case hd => rfl); (case hg => rfl); (case hr => first | (go_simp; done) | (go_simp; rfl)); (case hp => exact (Reps.none _ _)); intro v130 w6 ho7 hb hg_ hnew_; clear hg_ hnew_; have n0_ := Aside0.mk (Kd.R_lower ho7 (below_size (by repeat (first | (with_reducible first | exact HB.out | apply below_alloc | apply pw_below_drewN | apply below_drew1) | exact HB.out)))); have n1_ := Aside0.mk (below_step (by repeat (first | (with_reducible first | exact HB.out | apply below_alloc | apply pw_below_drewN | apply below_drew1) | exact HB.out)) hb); clear HB; have HO131 := n0_; have HB := n1_; clear n0_ n1_; clear hb ho7) | ((with_reducible refine gate_builtin (b := .append) (xs := #[.tmp 5, .tmp 6]) rfl ?_); at_builtin; refine Kd.R_append_rows Kd.string (w0 := w) w.heap.size rfl (.tmp 5) (.tmp 6) 22 9 (.string ⟨#[]⟩) 16 rfl Try.underlying22 info9 rfl (by decide) (by omega) v130 [] l0 _ _ _ (fun _ => True) (fun _ => False) rfl rfl ?aO ?aR (fun _ _ h => h) (fun _ h => h.elim) ?aF ?aB ?aS ?aL ?_; (case aR => repeat (first | exact (Kd.C_below HR0.out HB.out) | (with_reducible refine Kd.C_alloc ?_ _) | (with_reducible refine Kd.C_drewN ?_ _) | (with_reducible refine Kd.C_drew ?_))); (case aB => exact (by repeat (first | (with_reducible first | exact HB.out | apply below_alloc | apply pw_below_drewN | apply below_drew1) | exact HB.out))); (case aF => exact (fun _ _ => trivial)); (case aO => exact (by (with_reducible repeat (first | apply Kd.R_alloc | apply Kd.R_drewN | apply Kd.R_drew)); exact HO131.out)); (case aS => exact (below_size (by repeat (first | (with_reducible first | exact HB.out | apply below_alloc | apply pw_below_drewN | apply below_drew1) | exact HB.out)))); (case aL => have := HL.out; simp only [List.length_nil]; omega); intro v133 w8 ho hb hg hat; rw [List.nil_append] at ho; have n0_ := Aside0.mk (hb); have n1_ := Aside0.mk (ho); clear HB; clear HO131; have HB := n0_; have HO134 := n1_; clear n0_ n1_; clear ho hb hg hat))
  go_ret
  exact ⟨_, rfl, by (with_reducible repeat (first | apply Kd.R_alloc | apply Kd.R_drewN | apply Kd.R_drew)); exact HO134.out, by repeat (first | (with_reducible first | exact HB.out | apply below_alloc | apply pw_below_drewN | apply below_drew1) | exact HB.out)⟩
end Go.Proofs.Ytbfjbcaabijpfaa.Al

namespace Go.Proofs.Ytbfjbcaabijpfaa.Al
open Go.RowKit Go.Proofs.YtbfjbcaabijpfaaW.PrintWords Go.Proofs.YtbfjbcaabijpfaaW.PrintLast Go.Proofs.YtbfjbcaabijpfaaW.PrintMore
/-- Below, through the layers laid upon the world since. -/
theorem bel_ {P Q : Prop} (h : Q) (f : Q → P := by intro h; repeat (first | (with_reducible first | exact h | apply below_alloc | apply pw_below_drewN | apply below_drew1 | refine below_set ?_ (Aside0.out (by assumption))) | exact h)) : P := f h
theorem gl_ {P : Prop} (f : P := by (try simp only [List.map_toArray, List.map_cons, List.map_nil]); first | done | rfl | (simp only [List.length_drop, List.length_take]; rfl)) : P := f
theorem bz_ {w W : World} {g : Nat} (hg : g = W.heap.size) (h : Below w.heap.size w W) : w.heap.size ≤ g := by rw [hg]; exact below_size h
theorem ng_ {W0 W : World} {gX gA : Nat} {o : Obj} (hg : gX = W.heap.size) (h : W0.heap[gA]? = some o) (f : W0.heap[gA]? = some o → W.heap[gA]? = some o := by intro h; (with_reducible repeat (first | refine blk_drewN ?_ _ | refine blk_drew ?_ | refine blk_alloc ?_ _)); exact h) : gX ≠ gA := by rw [hg]; exact Nat.ne_of_gt (blk_lt (f h))
theorem nl_ {W0 W : World} {gX gA : Nat} {o : Obj} (hg : gX = W.heap.size) (h : W0.heap[gA]? = some o) (f : W0.heap[gA]? = some o → W.heap[gA]? = some o := by intro h; (with_reducible repeat (first | refine blk_drewN ?_ _ | refine blk_drew ?_ | refine blk_alloc ?_ _)); exact h) : gA ≠ gX := by rw [hg]; exact Nat.ne_of_lt (blk_lt (f h))
theorem bb_ {W0 W W' : World} {gA : Nat} {o : Obj} (h : W0.heap[gA]? = some o) (hb : Below W.heap.size W W') (f : W0.heap[gA]? = some o → W.heap[gA]? = some o := by intro h; (with_reducible repeat (first | refine blk_drewN ?_ _ | refine blk_drew ?_ | refine blk_alloc ?_ _)); exact h) : W'.heap[gA]? = some o := blk_below (f h) hb
/-- A block's fact, through the layers laid upon the world since. -/
theorem peel_ {P Q : Prop} (h : Q) (f : Q → P := by intro h; (with_reducible repeat (first | refine blk_drewN ?_ _ | refine blk_drew ?_ | refine blk_alloc ?_ _)); exact h) : P := f h
theorem s1_ {α : Type _} (l : List α) (i : Nat) (a : α) : l.toArray.setIfInBounds i a = (l.set i a).toArray := List.setIfInBounds_toArray ..
theorem s2_ {α : Type _} (x : α) (xs : List α) (a : α) : (x :: xs).set 0 a = a :: xs := rfl
theorem s3_ {α : Type _} (x : α) (xs : List α) (n : Nat) (a : α) : (x :: xs).set (n + 1) a = x :: xs.set n a := rfl
end Go.Proofs.Ytbfjbcaabijpfaa.Al

namespace Go.Proofs.Ytbfjbcaabijpfaa.Al
open Go.RowKit
theorem less_total : ∀ a b : List UInt8, (Op.bytesLess a b || a == b) = !Op.bytesLess b a
 |[], [] => rfl
 |[], _ :: _ => rfl
 |_ :: _, [] => rfl
 |a :: x, b :: y => by
  have ih := less_total x y
  show ((decide (a < b) || (a == b && Op.bytesLess x y)) || (a :: x == b :: y)) = !(decide (b < a) || (b == a && Op.bytesLess y x))
  by_cases hab : a = b
  ·subst hab
   have h1 : decide (a < a) = false := decide_eq_false (UInt8.lt_irrefl a)
   simp only [h1, Bool.false_or, beq_self_eq_true, Bool.true_and, List.cons_beq_cons]
   exact ih
  ·have h2 : (a == b) = false := by simpa using hab
   have h3 : (b == a) = false := by simpa using fun h => hab h.symm
   simp only [h2, h3, Bool.false_and, Bool.or_false, List.cons_beq_cons]
   by_cases hlt : a < b
   ·have : ¬ b < a := fun h => by have h1 := UInt8.lt_iff_toNat_lt.1 hlt; have h2 := UInt8.lt_iff_toNat_lt.1 h; omega
    simp [hlt, this]
   ·have : b < a := by
     apply UInt8.lt_iff_toNat_lt.2
     have h1 : ¬ a.toNat < b.toNat := fun h => hlt (UInt8.lt_iff_toNat_lt.2 h)
     have h2 : a.toNat ≠ b.toNat := fun h => hab (UInt8.toNat_inj.1 h)
     omega
    simp [hlt, this]
theorem leq_not (t : TypeId) (a b : ByteArray) : binOp .leq t (.string a) (.string b) = pure (.bool (!Op.bytesLess b.toList a.toList)) := by
 have e : binOp .leq t (.string a) (.string b) = pure (.bool (Op.bytesLess a.toList b.toList || a.toList == b.toList)) := by simp [binOp, Op.stringOp]
 rw [e, less_total]
end Go.Proofs.Ytbfjbcaabijpfaa.Al

namespace Go.Proofs.Ytbfjbcaabijpfaa.Al
open Go.RowKit Go.Proofs.YtbfjbcaabijpfaaW.PrintWords Go.Proofs.YtbfjbcaabijpfaaW.PrintLast Go.Proofs.YtbfjbcaabijpfaaW.PrintMore
attribute [local go_sem] max2_int min2_int max_two min_two max_three min_three max_four min_four   -- for this text's walks alone
set_option linter.unusedVariables false
set_option linter.unusedSimpArgs false
def letter_Key.f (a0 : ByteArray) : Option (Bool) := if a0.toList = ([] : List UInt8) then (some false) else (some (decide ((a0.size : Int) ≤ 32)))
set_option maxHeartbeats 8000000 in
set_option maxRecDepth 100000 in
theorem letter_Key.calls (a0 : ByteArray) (r : Bool) (w : World) (h : letter_Key.f a0 = some r) :
  Calls Try.prog 25 #[.string a0] w fun e w' => e = .returned (.bool r) ∧ Drawn0 w w' := by
 have H : (if a0.toList = ([] : List UInt8) then (some false) else (some (decide ((a0.size : Int) ≤ 32)))) = some r := h
 clear h
 by_cases c2 : a0.toList = ([] : List UInt8)
 ·rw [if_pos c2] at H
  have c2b0 : (a0.toList == ([] : List UInt8)) = true := beq_iff_eq.mpr c2
  have c2b1 : (a0.toList != ([] : List UInt8)) = false := bne_eq_false_iff_eq.mpr c2
  clear c2
  obtain rfl := Option.some.inj H
  go_enter Try.func25, Try.ntmps25
  go_wp2
  go_ret
  exact ⟨by first | rfl | (simp; done) | (simp [*]; done) | (simp [bne_nil_]; done), by repeat (first | exact Drawn0.refl _ | apply Drawn0.step)⟩
 ·rw [if_neg c2] at H
  have c2b0 : (a0.toList == ([] : List UInt8)) = false := beq_eq_false_iff_ne.mpr c2
  have c2b1 : (a0.toList != ([] : List UInt8)) = true := bne_iff_ne.mpr c2
  obtain rfl := Option.some.inj H
  go_enter Try.func25, Try.ntmps25
  go_wp2
  go_ret
  exact ⟨by first | rfl | (simp; done) | (simp [*]; done) | (simp [bne_nil_]; done), by repeat (first | exact Drawn0.refl _ | apply Drawn0.step)⟩
end Go.Proofs.Ytbfjbcaabijpfaa.Al

namespace Go.Proofs.Ytbfjbcaabijpfaa.Al
open Go.RowKit Go.Proofs.YtbfjbcaabijpfaaW.PrintWords Go.Proofs.YtbfjbcaabijpfaaW.PrintLast Go.Proofs.YtbfjbcaabijpfaaW.PrintMore
attribute [local go_sem] max2_int min2_int max_two min_two max_three min_three max_four min_four   -- for this text's walks alone
set_option linter.unusedVariables false
set_option linter.unusedSimpArgs false
attribute [local go_sem] leq_not
def letter_Rising.l0 : Nat → List ByteArray → List ByteArray → Int → Int → Option (Bool)
 |0, _, _, _, _ => none
 |k + 1, x0, x5, x6, x7 => if x7 < x6 then (if 0 ≤ x7 then (if x7 < (x5.length : Int) then ((letter_Key.f (rdOf ByteArray.empty x5 x7)).bind fun t118 => (if t118 = true then (if x7 > 0 then (if 0 ≤ (wrap64 (x7 - 1)) then (if (wrap64 (x7 - 1)) < (x0.length : Int) then (if ((Op.bytesLess ((rdOf ByteArray.empty x0 (wrap64 (x7 - 1))).toList) ((rdOf ByteArray.empty x5 x7).toList)) = true) then (letter_Rising.l0 k x0 x5 x6 (wrap64 (x7 + 1))) else (some false)) else (none)) else (none)) else (letter_Rising.l0 k x0 x5 x6 (wrap64 (x7 + 1)))) else (some false))) else (none)) else (none)) else (some true)
def letter_Rising.f (k : Nat) (l0 : List ByteArray) : Option (Bool) := letter_Rising.l0 k l0 l0 (l0.length : Int) 0
set_option maxHeartbeats 8000000 in
set_option maxRecDepth 100000 in
theorem letter_Rising.calls (k : Nat) (A0 : Option Addr) (c0 : Nat) (l0 : List ByteArray) (r : Bool) (w : World) (hr0 : Kd.C Kd.string w A0 l0.length l0) (hc0 : l0.length ≤ c0) (h : letter_Rising.f k l0 = some r) :
  Calls Try.prog 34 #[.slice A0 l0.length c0] w fun e w' => e = .returned (.bool r) ∧ Drawn0 w w' := by
 have HR0 := Aside0.mk hr0
 have HC0 := Aside0.mk hc0
 clear hr0 hc0
 have H : (letter_Rising.l0 k l0 l0 (l0.length : Int) 0) = some r := h
 clear h
 have H' := Aside0.mk H
 clear H
 go_enter Try.func34, Try.ntmps34
 go_wp2
 go_loopg [7] k (fun kq v7 w' => ∃ (x7_1 : Int), v7 = .int .i64 x7_1 ∧ Aside0 (letter_Rising.l0 kq l0 l0 (l0.length : Int) x7_1 = some r) ∧ Aside0 (kq ≤ k) ∧ Drawn0 w w')
 case atStart => exact ⟨(0), (by first | rfl | (simp; done) | (simp [*]; done) | (simp [bne_nil_]; done)), H', ⟨Nat.le_refl _⟩, by repeat (first | exact Drawn0.refl _ | apply Drawn0.step)⟩
 case round =>
  clear H'
  obtain ⟨x7_1, rfl, HA, HK1, ⟨m1, rfl⟩⟩ := hrel
  cases gk with
  |zero => exact absurd HA.out (by simp [letter_Rising.l0])
  |succ k1 =>
   have H := HA.out
   clear HA
   simp only [letter_Rising.l0] at H
   by_cases c2 : x7_1 < (l0.length : Int)
   ·rw [if_pos c2] at H
    have c2b0 : decide (x7_1 < (l0.length : Int)) = true := decide_eq_true c2
    clear c2
    by_cases c3 : 0 ≤ x7_1
    ·rw [if_pos c3] at H
     have c3b0 : decide (0 ≤ x7_1) = true := decide_eq_true c3
     clear c3
     by_cases c4 : x7_1 < (l0.length : Int)
     ·rw [if_pos c4] at H
      have c4b0 : decide (x7_1 < (l0.length : Int)) = true := decide_eq_true c4
      clear c4
      replace H := Option.bind_eq_some_iff.mp H
      obtain ⟨t118, A50, H⟩ := H
      replace H : (if t118 = true then (if x7_1 > 0 then (if 0 ≤ (wrap64 (x7_1 - 1)) then (if (wrap64 (x7_1 - 1)) < (l0.length : Int) then (if ((Op.bytesLess ((rdOf ByteArray.empty l0 (wrap64 (x7_1 - 1))).toList) ((rdOf ByteArray.empty l0 x7_1).toList)) = true) then (letter_Rising.l0 k1 l0 l0 (l0.length : Int) (wrap64 (x7_1 + 1))) else (some false)) else (none)) else (none)) else (letter_Rising.l0 k1 l0 l0 (l0.length : Int) (wrap64 (x7_1 + 1)))) else (some false)) = some r := H
      have A5 := Aside0.mk A50
      clear A50
      by_cases c6 : t118 = true
      ·subst c6
       have H1 : (if x7_1 > 0 then (if 0 ≤ (wrap64 (x7_1 - 1)) then (if (wrap64 (x7_1 - 1)) < (l0.length : Int) then (if ((Op.bytesLess ((rdOf ByteArray.empty l0 (wrap64 (x7_1 - 1))).toList) ((rdOf ByteArray.empty l0 x7_1).toList)) = true) then (letter_Rising.l0 k1 l0 l0 (l0.length : Int) (wrap64 (x7_1 + 1))) else (some false)) else (none)) else (none)) else (letter_Rising.l0 k1 l0 l0 (l0.length : Int) (wrap64 (x7_1 + 1)))) = some r := by rw [if_pos rfl] at H; exact H
       clear H
       have H := H1
       clear H1
       by_cases c7 : x7_1 > 0
       ·rw [if_pos c7] at H
        have c7b0 : decide (0 < x7_1) = true := decide_eq_true c7
        clear c7
        obtain ⟨ji8, hji8⟩ : ∃ j_ : Int, (wrap64 (x7_1 - 1)) = j_ := ⟨_, rfl⟩
        replace H : (if 0 ≤ (ji8) then (if (ji8) < (l0.length : Int) then (if ((Op.bytesLess ((rdOf ByteArray.empty l0 (ji8)).toList) ((rdOf ByteArray.empty l0 x7_1).toList)) = true) then (letter_Rising.l0 k1 l0 l0 (l0.length : Int) (wrap64 (x7_1 + 1))) else (some false)) else (none)) else (none)) = some r := by first | (rw [hji8] at H; exact H) | (simp only [hji8] at H ⊢; exact H)
        (try rw [hji8] at A5)
        have hji8w : (IntKind.i64.wrap (x7_1 - 1)) = ji8 := (i64_w _).trans hji8
        by_cases c9 : 0 ≤ (ji8)
        ·rw [if_pos c9] at H
         have c9b0 : decide (0 ≤ (ji8)) = true := decide_eq_true c9
         clear c9
         by_cases c10 : (ji8) < (l0.length : Int)
         ·rw [if_pos c10] at H
          have c10b0 : decide ((ji8) < (l0.length : Int)) = true := decide_eq_true c10
          clear c10
          by_cases c11 : ((Op.bytesLess ((rdOf ByteArray.empty l0 (ji8)).toList) ((rdOf ByteArray.empty l0 x7_1).toList)) = true)
          ·rw [if_pos c11] at H
           have c11b0 : (Op.bytesLess ((rdOf ByteArray.empty l0 (ji8)).toList) ((rdOf ByteArray.empty l0 x7_1).toList)) = true := c11
           clear c11
           have H' := Aside0.mk H
           clear H
           have p117 : 0 ≤ (x7_1 : Int) := of_decide_eq_true (by first | (with_reducible assumption) | assumption)
           have q117 : x7_1 < (l0.length : Int) := of_decide_eq_true (by first | (with_reducible assumption) | assumption)
           obtain ⟨ad117, e117, hx117_0⟩ := Kd.at_string HR0.out x7_1 p117 q117
           cases e117
           replace p117 := eq_true p117
           replace q117 := eq_true q117
           go_wp2_with (first | ((with_reducible refine gate_callee (f := 25) rfl ?_); refine goesL_ (some 13) rfl rfl Try.func25 (by kernel_rfl) rfl #[.string (rdOf ByteArray.empty l0 x7_1)] rfl (by (try simp only [List.map_toArray, List.map_cons, List.map_nil]); first | done | rfl | (simp only [List.length_drop, List.length_take]; rfl)) ?_; (with_reducible refine (letter_Key.calls (rdOf ByteArray.empty l0 x7_1) true _ A5.out).mono ?_); rintro e w' ⟨rfl, ⟨nd, rfl⟩⟩; refine ⟨_, rfl, ?_⟩; have p119 : 0 ≤ ((ji8) : Int) := of_decide_eq_true (by first | (with_reducible assumption) | assumption); have q119 : (ji8) < (l0.length : Int) := of_decide_eq_true (by first | (with_reducible assumption) | assumption); obtain ⟨ad119, e119, hx119_0⟩ := Kd.at_string HR0.out (ji8) p119 q119; obtain rfl : ad117 = ad119 := (by injection e119); replace p119 := eq_true p119; replace q119 := eq_true q119))
           go_roundg k1
           case measure => have := HK1.out; omega
           case rel => exact ⟨(wrap64 (x7_1 + 1)), (by first | rfl | (simp; done) | (simp [*]; done) | (simp [bne_nil_]; done)), H', ⟨by have := HK1.out; omega⟩, by repeat (first | exact Drawn0.refl _ | apply Drawn0.step)⟩
          ·rw [if_neg c11] at H
           have c11b0 : (Op.bytesLess ((rdOf ByteArray.empty l0 (ji8)).toList) ((rdOf ByteArray.empty l0 x7_1).toList)) = false := by simpa using c11
           clear c11
           obtain rfl := Option.some.inj H
           have p117 : 0 ≤ (x7_1 : Int) := of_decide_eq_true (by first | (with_reducible assumption) | assumption)
           have q117 : x7_1 < (l0.length : Int) := of_decide_eq_true (by first | (with_reducible assumption) | assumption)
           obtain ⟨ad117, e117, hx117_0⟩ := Kd.at_string HR0.out x7_1 p117 q117
           cases e117
           replace p117 := eq_true p117
           replace q117 := eq_true q117
           go_wp2_with (first | ((with_reducible refine gate_callee (f := 25) rfl ?_); refine goesL_ (some 13) rfl rfl Try.func25 (by kernel_rfl) rfl #[.string (rdOf ByteArray.empty l0 x7_1)] rfl (by (try simp only [List.map_toArray, List.map_cons, List.map_nil]); first | done | rfl | (simp only [List.length_drop, List.length_take]; rfl)) ?_; (with_reducible refine (letter_Key.calls (rdOf ByteArray.empty l0 x7_1) true _ A5.out).mono ?_); rintro e w' ⟨rfl, ⟨nd, rfl⟩⟩; refine ⟨_, rfl, ?_⟩; have p119 : 0 ≤ ((ji8) : Int) := of_decide_eq_true (by first | (with_reducible assumption) | assumption); have q119 : (ji8) < (l0.length : Int) := of_decide_eq_true (by first | (with_reducible assumption) | assumption); obtain ⟨ad119, e119, hx119_0⟩ := Kd.at_string HR0.out (ji8) p119 q119; obtain rfl : ad117 = ad119 := (by injection e119); replace p119 := eq_true p119; replace q119 := eq_true q119))
           go_ret
           exact ⟨by first | rfl | (simp; done) | (simp only [← hji8] <;> (first | rfl | simp)) | (simp [*]; done), by repeat (first | exact Drawn0.refl _ | apply Drawn0.step)⟩
         ·rw [if_neg c10] at H
          exact absurd H (by simp)
        ·rw [if_neg c9] at H
         exact absurd H (by simp)
       ·rw [if_neg c7] at H
        have c7b0 : decide (0 < x7_1) = false := decide_eq_false c7
        clear c7
        have H' := Aside0.mk H
        clear H
        have p117 : 0 ≤ (x7_1 : Int) := of_decide_eq_true (by first | (with_reducible assumption) | assumption)
        have q117 : x7_1 < (l0.length : Int) := of_decide_eq_true (by first | (with_reducible assumption) | assumption)
        obtain ⟨ad117, e117, hx117_0⟩ := Kd.at_string HR0.out x7_1 p117 q117
        cases e117
        replace p117 := eq_true p117
        replace q117 := eq_true q117
        go_wp2_with (first | ((with_reducible refine gate_callee (f := 25) rfl ?_); refine goesL_ (some 13) rfl rfl Try.func25 (by kernel_rfl) rfl #[.string (rdOf ByteArray.empty l0 x7_1)] rfl (by (try simp only [List.map_toArray, List.map_cons, List.map_nil]); first | done | rfl | (simp only [List.length_drop, List.length_take]; rfl)) ?_; (with_reducible refine (letter_Key.calls (rdOf ByteArray.empty l0 x7_1) true _ A5.out).mono ?_); rintro e w' ⟨rfl, ⟨nd, rfl⟩⟩; refine ⟨_, rfl, ?_⟩))
        go_roundg k1
        case measure => have := HK1.out; omega
        case rel => exact ⟨(wrap64 (x7_1 + 1)), (by first | rfl | (simp; done) | (simp [*]; done) | (simp [bne_nil_]; done)), H', ⟨by have := HK1.out; omega⟩, by repeat (first | exact Drawn0.refl _ | apply Drawn0.step)⟩
      ·replace c6 := Bool.eq_false_iff.mpr c6
       subst c6
       have H1 : (some false) = some r := by rw [if_neg (show ¬ (false = true) by decide)] at H; exact H
       clear H
       have H := H1
       clear H1
       obtain rfl := Option.some.inj H
       have p117 : 0 ≤ (x7_1 : Int) := of_decide_eq_true (by first | (with_reducible assumption) | assumption)
       have q117 : x7_1 < (l0.length : Int) := of_decide_eq_true (by first | (with_reducible assumption) | assumption)
       obtain ⟨ad117, e117, hx117_0⟩ := Kd.at_string HR0.out x7_1 p117 q117
       cases e117
       replace p117 := eq_true p117
       replace q117 := eq_true q117
       go_wp2_with (first | ((with_reducible refine gate_callee (f := 25) rfl ?_); refine goesL_ (some 13) rfl rfl Try.func25 (by kernel_rfl) rfl #[.string (rdOf ByteArray.empty l0 x7_1)] rfl (by (try simp only [List.map_toArray, List.map_cons, List.map_nil]); first | done | rfl | (simp only [List.length_drop, List.length_take]; rfl)) ?_; (with_reducible refine (letter_Key.calls (rdOf ByteArray.empty l0 x7_1) false _ A5.out).mono ?_); rintro e w' ⟨rfl, ⟨nd, rfl⟩⟩; refine ⟨_, rfl, ?_⟩))
       go_ret
       exact ⟨by first | rfl | (simp; done) | (simp [*]; done) | (simp [bne_nil_]; done), by repeat (first | exact Drawn0.refl _ | apply Drawn0.step)⟩
     ·rw [if_neg c4] at H
      exact absurd H (by simp)
    ·rw [if_neg c3] at H
     exact absurd H (by simp)
   ·rw [if_neg c2] at H
    have c2b0 : decide (x7_1 < (l0.length : Int)) = false := decide_eq_false c2
    clear c2
    obtain rfl := Option.some.inj H
    go_wp2
    go_ret
    exact ⟨by first | rfl | (simp; done) | (simp [*]; done) | (simp [bne_nil_]; done), by repeat (first | exact Drawn0.refl _ | apply Drawn0.step)⟩
end Go.Proofs.Ytbfjbcaabijpfaa.Al

namespace Go.Proofs.Ytbfjbcaabijpfaa.Al
open Go.RowKit Go.Proofs.YtbfjbcaabijpfaaW.PrintWords Go.Proofs.YtbfjbcaabijpfaaW.PrintLast Go.Proofs.YtbfjbcaabijpfaaW.PrintMore
attribute [local go_sem] max2_int min2_int max_two min_two max_three min_three max_four min_four   -- for this text's walks alone
set_option linter.unusedVariables false
set_option linter.unusedSimpArgs false
def letter_writes.l0 : Nat → List (S50) → List ByteArray → List (S50) → Int → Int → Option (Bool)
 |0, _, _, _, _, _ => none
 |k + 1, x0, x3, x6, x7, x8 => if x8 < x7 then (if 0 ≤ x8 then (if x8 < (x6.length : Int) then (if (((rd_T50 x6 x8).f1).size : Int) > 2052 then (some false) else (if (rd_T50 x6 x8).f2 = true then (if ((rd_T50 x6 x8).f1).toList = ([] : List UInt8) then (if x3.length < 8796093022208 then (letter_writes.l0 k x0 (x3 ++ [(rd_T50 x6 x8).f0]) x6 x7 (wrap64 (x8 + 1))) else (none)) else (some false)) else (if x3.length < 8796093022208 then (letter_writes.l0 k x0 (x3 ++ [(rd_T50 x6 x8).f0]) x6 x7 (wrap64 (x8 + 1))) else (none)))) else (none)) else (none)) else (if (x0.length : Int) ≤ 16 then ((letter_Rising.f k x3).bind fun t128 => (some t128)) else (some false))
def letter_writes.f (k : Nat) (l0 : List (S50)) : Option (Bool) := letter_writes.l0 k l0 ([] : List ByteArray) l0 (l0.length : Int) 0
set_option maxHeartbeats 8000000 in
set_option maxRecDepth 100000 in
theorem letter_writes.calls (k : Nat) (A0 : Option Addr) (c0 : Nat) (l0 : List (S50)) (r : Bool) (w : World) (hr0 : Kd.C k50 w A0 l0.length l0) (hc0 : l0.length ≤ c0) (h : letter_writes.f k l0 = some r) :
  Calls Try.prog 35 #[.slice A0 l0.length c0] w fun e w' => e = .returned (.bool r) ∧ Below w.heap.size w w' := by
 have hu50 := Try.underlying50
 have HR0 := Aside0.mk hr0
 have HC0 := Aside0.mk hc0
 clear hr0 hc0
 have HB := Aside0.mk (Below.refl w.heap.size w)
 have H : (letter_writes.l0 k l0 ([] : List ByteArray) l0 (l0.length : Int) 0) = some r := h
 clear h
 have H' := Aside0.mk H
 clear H
 go_enter Try.func35, Try.ntmps35
 go_wp2
 go_loopg [3, 8] k (fun kq v3 v8 w' => ∃ (x3_1 : List ByteArray) (x8_1 : Int), v8 = .int .i64 x8_1 ∧ Aside0 (letter_writes.l0 kq l0 x3_1 l0 (l0.length : Int) x8_1 = some r) ∧ Aside0 (kq ≤ k) ∧ Aside0 (Kd.R Kd.string 9 w' w.heap.size (fun _ => True) v3 x3_1) ∧ Aside0 (Below w.heap.size w w'))
 case atStart => exact ⟨(([] : List ByteArray)), (0), (by first | rfl | (simp; done) | (simp [*]; done) | (simp [bne_nil_]; done)), H', ⟨Nat.le_refl _⟩, ⟨by first | exact Kd.R_nil _ _ _ _ _ | exact Kd.N_nil _ _ _ _ _ | exact Kd.V_nil _ _ _ _ _ | exact Kd.Q_nil _ _ _ _ _ | exact Kd.S_nil _ _ _ _ _⟩, ⟨by repeat (first | (with_reducible first | exact HB.out | apply below_alloc | apply pw_below_drewN | apply below_drew1) | exact HB.out)⟩⟩
 case round =>
  clear H'
  obtain ⟨x3_1, x8_1, rfl, HA, HK1, HO_3, HB⟩ := hrel
  cases gk with
  |zero => exact absurd HA.out (by simp [letter_writes.l0])
  |succ k1 =>
   have H := HA.out
   clear HA
   simp only [letter_writes.l0] at H
   by_cases c2 : x8_1 < (l0.length : Int)
   ·rw [if_pos c2] at H
    have c2b0 : decide (x8_1 < (l0.length : Int)) = true := decide_eq_true c2
    clear c2
    by_cases c3 : 0 ≤ x8_1
    ·rw [if_pos c3] at H
     have c3b0 : decide (0 ≤ x8_1) = true := decide_eq_true c3
     clear c3
     by_cases c4 : x8_1 < (l0.length : Int)
     ·rw [if_pos c4] at H
      have c4b0 : decide (x8_1 < (l0.length : Int)) = true := decide_eq_true c4
      clear c4
      by_cases c5 : (((rd_T50 l0 x8_1).f1).size : Int) > 2052
      ·rw [if_pos c5] at H
       have c5b0 : decide (2052 < (((rd_T50 l0 x8_1).f1).size : Int)) = true := decide_eq_true c5
       have c5b1 : decide (2052 < ((rd_T50 l0 x8_1).f1).size) = true := decide_eq_true (by omega)
       clear c5
       obtain rfl := Option.some.inj H
       have p120 : 0 ≤ (x8_1 : Int) := of_decide_eq_true (by first | (with_reducible assumption) | assumption)
       have q120 : x8_1 < (l0.length : Int) := of_decide_eq_true (by first | (with_reducible assumption) | assumption)
       obtain ⟨ad120, e120, hx120_0, hx120_1, hx120_2⟩ := at_T50 HR0.out x8_1 p120 q120
       cases e120
       replace hx120_0 := (HB.out.cell (World.block_lt_of_cell? w _ hx120_0)).trans hx120_0
       replace hx120_1 := (HB.out.cell (World.block_lt_of_cell? w _ hx120_1)).trans hx120_1
       replace hx120_2 := (HB.out.cell (World.block_lt_of_cell? w _ hx120_2)).trans hx120_2
       replace p120 := eq_true p120
       replace q120 := eq_true q120
       go_wp2_with (first | ((with_reducible refine gate_dst (N := 5) rfl ?_); refine box_event ?hg (N := 5) ?hd (cs := #[.string (⟨#[]⟩ : ByteArray), .string (⟨#[]⟩ : ByteArray), .bool false]) (t := 50) ?hr ?_; (case hd => rfl); (case hg => rfl); (case hr => first | (go_simp; done) | (go_simp; rfl)); intro gb121 hg w6 hbox hb; have n0_ := Aside0.mk (Kd.R_below (by (with_reducible repeat (first | apply Kd.R_alloc | apply Kd.R_drewN | apply Kd.R_drew)); exact HO_3.out) hb); have n1_ := Aside0.mk (below_step (by repeat (first | (with_reducible first | exact HB.out | apply below_alloc | apply pw_below_drewN | apply below_drew1) | exact HB.out)) hb); have n2_ := Aside0.mk (hbox); have n3_ := Aside0.mk ((by rw [hg]; exact (below_size (by repeat (first | (with_reducible first | exact HB.out | apply below_alloc | apply pw_below_drewN | apply below_drew1) | exact HB.out))) : w.heap.size ≤ gb121)); have n4_ := Aside0.mk ((by rw [hg]; exact (below_size (by repeat (first | (with_reducible first | exact HB.out | apply below_alloc | apply pw_below_drewN | apply below_drew1) | exact HB.out))) : w.heap.size ≤ gb121)); clear HO_3; clear HB; have HO_3 := n0_; have HB := n1_; have BK121 := n2_; have GW121 := n3_; have GE121 := n4_; clear n0_ n1_ n2_ n3_ n4_; clear hb hbox hg; have hcz7_0 : w6.cell? ⟨gb121, 0, none⟩ = some (.string (⟨#[]⟩ : ByteArray)) := (blk_cell BK121.out 0).trans rfl; have hcz7_1 : w6.cell? ⟨gb121, 1, none⟩ = some (.string (⟨#[]⟩ : ByteArray)) := (blk_cell BK121.out 1).trans rfl; have hcz7_2 : w6.cell? ⟨gb121, 2, none⟩ = some (.bool false) := (blk_cell BK121.out 2).trans rfl; have hfz7_0 := blk_frozen BK121.out 0; have hfz7_1 := blk_frozen BK121.out 1; have hfz7_2 := blk_frozen BK121.out 2))
       go_ret
       exact ⟨by first | rfl | (simp [errW_none, errW_some] <;> rfl) | (simp [*, errW_none, errW_some] <;> rfl), by repeat (first | (with_reducible first | exact HB.out | apply below_alloc | apply pw_below_drewN | apply below_drew1 | refine below_set ?_ GE121.out) | exact HB.out)⟩
      ·rw [if_neg c5] at H
       have c5b0 : decide (2052 < (((rd_T50 l0 x8_1).f1).size : Int)) = false := decide_eq_false c5
       have c5b1 : decide (2052 < ((rd_T50 l0 x8_1).f1).size) = false := decide_eq_false (by omega)
       clear c5
       obtain ⟨bq8, hbq8⟩ : ∃ b_ : Bool, b_ = ((rd_T50 l0 x8_1).f2) := ⟨_, rfl⟩
       replace H : (if bq8 = true then (if ((rd_T50 l0 x8_1).f1).toList = ([] : List UInt8) then (if x3_1.length < 8796093022208 then (letter_writes.l0 k1 l0 (x3_1 ++ [(rd_T50 l0 x8_1).f0]) l0 (l0.length : Int) (wrap64 (x8_1 + 1))) else (none)) else (some false)) else (if x3_1.length < 8796093022208 then (letter_writes.l0 k1 l0 (x3_1 ++ [(rd_T50 l0 x8_1).f0]) l0 (l0.length : Int) (wrap64 (x8_1 + 1))) else (none))) = some r := by rw [← hbq8] at H; exact H
       have Nbq8 := Aside0.mk hbq8
       clear hbq8
       by_cases c9 : bq8 = true
       ·subst c9
        have H1 : (if ((rd_T50 l0 x8_1).f1).toList = ([] : List UInt8) then (if x3_1.length < 8796093022208 then (letter_writes.l0 k1 l0 (x3_1 ++ [(rd_T50 l0 x8_1).f0]) l0 (l0.length : Int) (wrap64 (x8_1 + 1))) else (none)) else (some false)) = some r := by rw [if_pos rfl] at H; exact H
        clear H
        have H := H1
        clear H1
        by_cases c10 : ((rd_T50 l0 x8_1).f1).toList = ([] : List UInt8)
        ·rw [if_pos c10] at H
         have c10b0 : (((rd_T50 l0 x8_1).f1).toList == ([] : List UInt8)) = true := beq_iff_eq.mpr c10
         have c10b1 : (((rd_T50 l0 x8_1).f1).toList != ([] : List UInt8)) = false := bne_eq_false_iff_eq.mpr c10
         clear c10
         by_cases c11 : x3_1.length < 8796093022208
         ·rw [if_pos c11] at H
          have LMc11 := Aside0.mk c11
          clear c11
          obtain ⟨y122, hy122⟩ : ∃ y_ : List ByteArray, y_ = (x3_1 ++ [(rd_T50 l0 x8_1).f0]) := ⟨_, rfl⟩
          replace H : (letter_writes.l0 k1 l0 y122 l0 (l0.length : Int) (wrap64 (x8_1 + 1))) = some r := by first | (rw [hy122]; with_reducible exact H) | (have H2_ := (Option.bind_some _ _).symm.trans H; rw [hy122]; with_reducible exact H2_) | (have H2_ := (Option.bind_some _ _).symm.trans H; with_reducible exact H2_) | with_reducible exact H | (rw [hy122]; exact H) | exact H
          have Ny122 := Aside0.mk hy122
          clear hy122
          have H' := Aside0.mk H
          clear H
          have p120 : 0 ≤ (x8_1 : Int) := of_decide_eq_true (by first | (with_reducible assumption) | assumption)
          have q120 : x8_1 < (l0.length : Int) := of_decide_eq_true (by first | (with_reducible assumption) | assumption)
          obtain ⟨ad120, e120, hx120_0, hx120_1, hx120_2⟩ := at_T50 HR0.out x8_1 p120 q120
          (try rw [← Nbq8.out] at hx120_2)
          cases e120
          replace hx120_0 := (HB.out.cell (World.block_lt_of_cell? w _ hx120_0)).trans hx120_0
          replace hx120_1 := (HB.out.cell (World.block_lt_of_cell? w _ hx120_1)).trans hx120_1
          replace hx120_2 := (HB.out.cell (World.block_lt_of_cell? w _ hx120_2)).trans hx120_2
          replace p120 := eq_true p120
          replace q120 := eq_true q120
          go_wp2_with (first | ((with_reducible refine gate_dst (N := 5) rfl ?_); refine box_event ?hg (N := 5) ?hd (cs := #[.string (⟨#[]⟩ : ByteArray), .string (⟨#[]⟩ : ByteArray), .bool false]) (t := 50) ?hr ?_; (case hd => rfl); (case hg => rfl); (case hr => first | (go_simp; done) | (go_simp; rfl)); intro gb121 hg w12 hbox hb; have n0_ := Aside0.mk (Kd.R_below (by (with_reducible repeat (first | apply Kd.R_alloc | apply Kd.R_drewN | apply Kd.R_drew)); exact HO_3.out) hb); have n1_ := Aside0.mk (below_step (by repeat (first | (with_reducible first | exact HB.out | apply below_alloc | apply pw_below_drewN | apply below_drew1) | exact HB.out)) hb); have n2_ := Aside0.mk (hbox); have n3_ := Aside0.mk ((by rw [hg]; exact (below_size (by repeat (first | (with_reducible first | exact HB.out | apply below_alloc | apply pw_below_drewN | apply below_drew1) | exact HB.out))) : w.heap.size ≤ gb121)); have n4_ := Aside0.mk ((by rw [hg]; exact (below_size (by repeat (first | (with_reducible first | exact HB.out | apply below_alloc | apply pw_below_drewN | apply below_drew1) | exact HB.out))) : w.heap.size ≤ gb121)); clear HO_3; clear HB; have HO_3 := n0_; have HB := n1_; have BK121 := n2_; have GW121 := n3_; have GE121 := n4_; clear n0_ n1_ n2_ n3_ n4_; clear hb hbox hg; have hcz13_0 : w12.cell? ⟨gb121, 0, none⟩ = some (.string (⟨#[]⟩ : ByteArray)) := (blk_cell BK121.out 0).trans rfl; have hcz13_1 : w12.cell? ⟨gb121, 1, none⟩ = some (.string (⟨#[]⟩ : ByteArray)) := (blk_cell BK121.out 1).trans rfl; have hcz13_2 : w12.cell? ⟨gb121, 2, none⟩ = some (.bool false) := (blk_cell BK121.out 2).trans rfl; have hfz13_0 := blk_frozen BK121.out 0; have hfz13_1 := blk_frozen BK121.out 1; have hfz13_2 := blk_frozen BK121.out 2) | ((with_reducible refine gate_builtin (b := .append) (xs := #[.tmp 25, .tmp 28]) rfl ?_); at_builtin; refine Kd.R_append Kd.string (w0 := w) w.heap.size rfl (.tmp 25) (.tmp 28) 22 9 (.string ⟨#[]⟩) 16 rfl Try.underlying22 info9 rfl (by decide) (by omega) u3 x3_1 ((rd_T50 l0 x8_1).f0) [.string ((rd_T50 l0 x8_1).f0)] (fun _ => True) (fun _ => False) rfl (by first | (go_simp; done) | (go_simp; rfl)) ?aP (fun _ hk => hk.elim) ?aF ?aO ?aB ?aS ?aL ?_; (case aP => exact rfl); (case aB => exact (by repeat (first | (with_reducible first | exact HB.out | apply below_alloc | apply pw_below_drewN | apply below_drew1 | refine below_set ?_ GE121.out) | exact HB.out))); (case aF => exact (fun _ _ => trivial)); (case aO => exact (by (with_reducible repeat (first | apply Kd.R_alloc | apply Kd.R_drewN | apply Kd.R_drew)); exact Kd.R_mono (Kd.R_far (p := ⟨gb121, 2, none⟩) (Kd.R_far (p := ⟨gb121, 1, none⟩) (Kd.R_far (p := ⟨gb121, 0, none⟩) (Kd.R_types HO_3.out BK121.out (by decide)) (fun _ hk => hk.2) (.string ((rd_T50 l0 x8_1).f0))) (fun _ hk => hk.2) (.string ((rd_T50 l0 x8_1).f1))) (fun _ hk => hk.2) (.bool true)) (fun _ hk => trivial))); (case aS => exact (below_size (by repeat (first | (with_reducible first | exact HB.out | apply below_alloc | apply pw_below_drewN | apply below_drew1 | refine below_set ?_ GE121.out) | exact HB.out)))); (case aL => have := LMc11.out; omega); intro v123 w14 ho hb hg hat; rw [← Ny122.out] at ho; have n0_ := Aside0.mk (blk_grown (g := gb121) (o := .cells #[.string ((rd_T50 l0 x8_1).f0), .string ((rd_T50 l0 x8_1).f1), .bool true] 50 (0, 0)) (by (with_reducible repeat (first | refine blk_drewN ?_ _ | refine blk_drew ?_ | refine blk_alloc ?_ _)); refine blk_put (cs := #[.string ((rd_T50 l0 x8_1).f0), .string ((rd_T50 l0 x8_1).f1), .bool false]) ?_ 2 _ rfl; (with_reducible repeat (first | refine blk_drewN ?_ _ | refine blk_drew ?_ | refine blk_alloc ?_ _)); refine blk_put (cs := #[.string ((rd_T50 l0 x8_1).f0), .string (⟨#[]⟩ : ByteArray), .bool false]) ?_ 1 _ rfl; (with_reducible repeat (first | refine blk_drewN ?_ _ | refine blk_drew ?_ | refine blk_alloc ?_ _)); refine blk_put (cs := #[.string (⟨#[]⟩ : ByteArray), .string (⟨#[]⟩ : ByteArray), .bool false]) ?_ 0 _ rfl; (with_reducible repeat (first | refine blk_drewN ?_ _ | refine blk_drew ?_ | refine blk_alloc ?_ _)); exact BK121.out) hg (Kd.R_ne HO_3.out BK121.out (by decide))); have n1_ := Aside0.mk (hb); have n2_ := Aside0.mk (ho); clear BK121; clear HB; clear HO_3; have BK121 := n0_; have HB := n1_; have HO124 := n2_; clear n0_ n1_ n2_; clear ho hb hg hat))
          go_roundg k1
          case measure => have := HK1.out; omega
          case rel => exact ⟨(y122), (wrap64 (x8_1 + 1)), (by first | rfl | (simp; done) | (simp [*]; done) | (simp [bne_nil_]; done)), H', ⟨by have := HK1.out; omega⟩, ⟨by (with_reducible repeat (first | apply Kd.R_alloc | apply Kd.R_drewN | apply Kd.R_drew)); exact HO124.out⟩, ⟨by repeat (first | (with_reducible first | exact HB.out | apply below_alloc | apply pw_below_drewN | apply below_drew1 | refine below_set ?_ GE121.out) | exact HB.out)⟩⟩
         ·rw [if_neg c11] at H
          exact absurd H (by simp)
        ·rw [if_neg c10] at H
         have c10b0 : (((rd_T50 l0 x8_1).f1).toList == ([] : List UInt8)) = false := beq_eq_false_iff_ne.mpr c10
         have c10b1 : (((rd_T50 l0 x8_1).f1).toList != ([] : List UInt8)) = true := bne_iff_ne.mpr c10
         obtain rfl := Option.some.inj H
         have p120 : 0 ≤ (x8_1 : Int) := of_decide_eq_true (by first | (with_reducible assumption) | assumption)
         have q120 : x8_1 < (l0.length : Int) := of_decide_eq_true (by first | (with_reducible assumption) | assumption)
         obtain ⟨ad120, e120, hx120_0, hx120_1, hx120_2⟩ := at_T50 HR0.out x8_1 p120 q120
         (try rw [← Nbq8.out] at hx120_2)
         cases e120
         replace hx120_0 := (HB.out.cell (World.block_lt_of_cell? w _ hx120_0)).trans hx120_0
         replace hx120_1 := (HB.out.cell (World.block_lt_of_cell? w _ hx120_1)).trans hx120_1
         replace hx120_2 := (HB.out.cell (World.block_lt_of_cell? w _ hx120_2)).trans hx120_2
         replace p120 := eq_true p120
         replace q120 := eq_true q120
         go_wp2_with (first | ((with_reducible refine gate_dst (N := 5) rfl ?_); refine box_event ?hg (N := 5) ?hd (cs := #[.string (⟨#[]⟩ : ByteArray), .string (⟨#[]⟩ : ByteArray), .bool false]) (t := 50) ?hr ?_; (case hd => rfl); (case hg => rfl); (case hr => first | (go_simp; done) | (go_simp; rfl)); intro gb121 hg w15 hbox hb; have n0_ := Aside0.mk (Kd.R_below (by (with_reducible repeat (first | apply Kd.R_alloc | apply Kd.R_drewN | apply Kd.R_drew)); exact HO_3.out) hb); have n1_ := Aside0.mk (below_step (by repeat (first | (with_reducible first | exact HB.out | apply below_alloc | apply pw_below_drewN | apply below_drew1) | exact HB.out)) hb); have n2_ := Aside0.mk (hbox); have n3_ := Aside0.mk ((by rw [hg]; exact (below_size (by repeat (first | (with_reducible first | exact HB.out | apply below_alloc | apply pw_below_drewN | apply below_drew1) | exact HB.out))) : w.heap.size ≤ gb121)); have n4_ := Aside0.mk ((by rw [hg]; exact (below_size (by repeat (first | (with_reducible first | exact HB.out | apply below_alloc | apply pw_below_drewN | apply below_drew1) | exact HB.out))) : w.heap.size ≤ gb121)); clear HO_3; clear HB; have HO_3 := n0_; have HB := n1_; have BK121 := n2_; have GW121 := n3_; have GE121 := n4_; clear n0_ n1_ n2_ n3_ n4_; clear hb hbox hg; have hcz16_0 : w15.cell? ⟨gb121, 0, none⟩ = some (.string (⟨#[]⟩ : ByteArray)) := (blk_cell BK121.out 0).trans rfl; have hcz16_1 : w15.cell? ⟨gb121, 1, none⟩ = some (.string (⟨#[]⟩ : ByteArray)) := (blk_cell BK121.out 1).trans rfl; have hcz16_2 : w15.cell? ⟨gb121, 2, none⟩ = some (.bool false) := (blk_cell BK121.out 2).trans rfl; have hfz16_0 := blk_frozen BK121.out 0; have hfz16_1 := blk_frozen BK121.out 1; have hfz16_2 := blk_frozen BK121.out 2))
         go_ret
         exact ⟨by first | rfl | (simp [errW_none, errW_some] <;> rfl) | (simp [*, errW_none, errW_some] <;> rfl), by repeat (first | (with_reducible first | exact HB.out | apply below_alloc | apply pw_below_drewN | apply below_drew1 | refine below_set ?_ GE121.out) | exact HB.out)⟩
       ·replace c9 := Bool.eq_false_iff.mpr c9
        subst c9
        have H1 : (if x3_1.length < 8796093022208 then (letter_writes.l0 k1 l0 (x3_1 ++ [(rd_T50 l0 x8_1).f0]) l0 (l0.length : Int) (wrap64 (x8_1 + 1))) else (none)) = some r := by rw [if_neg (show ¬ (false = true) by decide)] at H; exact H
        clear H
        have H := H1
        clear H1
        by_cases c17 : x3_1.length < 8796093022208
        ·rw [if_pos c17] at H
         have LMc17 := Aside0.mk c17
         clear c17
         obtain ⟨y125, hy125⟩ : ∃ y_ : List ByteArray, y_ = (x3_1 ++ [(rd_T50 l0 x8_1).f0]) := ⟨_, rfl⟩
         replace H : (letter_writes.l0 k1 l0 y125 l0 (l0.length : Int) (wrap64 (x8_1 + 1))) = some r := by first | (rw [hy125]; with_reducible exact H) | (have H2_ := (Option.bind_some _ _).symm.trans H; rw [hy125]; with_reducible exact H2_) | (have H2_ := (Option.bind_some _ _).symm.trans H; with_reducible exact H2_) | with_reducible exact H | (rw [hy125]; exact H) | exact H
         have Ny125 := Aside0.mk hy125
         clear hy125
         have H' := Aside0.mk H
         clear H
         have p120 : 0 ≤ (x8_1 : Int) := of_decide_eq_true (by first | (with_reducible assumption) | assumption)
         have q120 : x8_1 < (l0.length : Int) := of_decide_eq_true (by first | (with_reducible assumption) | assumption)
         obtain ⟨ad120, e120, hx120_0, hx120_1, hx120_2⟩ := at_T50 HR0.out x8_1 p120 q120
         (try rw [← Nbq8.out] at hx120_2)
         cases e120
         replace hx120_0 := (HB.out.cell (World.block_lt_of_cell? w _ hx120_0)).trans hx120_0
         replace hx120_1 := (HB.out.cell (World.block_lt_of_cell? w _ hx120_1)).trans hx120_1
         replace hx120_2 := (HB.out.cell (World.block_lt_of_cell? w _ hx120_2)).trans hx120_2
         replace p120 := eq_true p120
         replace q120 := eq_true q120
         go_wp2_with (first | ((with_reducible refine gate_dst (N := 5) rfl ?_); refine box_event ?hg (N := 5) ?hd (cs := #[.string (⟨#[]⟩ : ByteArray), .string (⟨#[]⟩ : ByteArray), .bool false]) (t := 50) ?hr ?_; (case hd => rfl); (case hg => rfl); (case hr => first | (go_simp; done) | (go_simp; rfl)); intro gb121 hg w18 hbox hb; have n0_ := Aside0.mk (Kd.R_below (by (with_reducible repeat (first | apply Kd.R_alloc | apply Kd.R_drewN | apply Kd.R_drew)); exact HO_3.out) hb); have n1_ := Aside0.mk (below_step (by repeat (first | (with_reducible first | exact HB.out | apply below_alloc | apply pw_below_drewN | apply below_drew1) | exact HB.out)) hb); have n2_ := Aside0.mk (hbox); have n3_ := Aside0.mk ((by rw [hg]; exact (below_size (by repeat (first | (with_reducible first | exact HB.out | apply below_alloc | apply pw_below_drewN | apply below_drew1) | exact HB.out))) : w.heap.size ≤ gb121)); have n4_ := Aside0.mk ((by rw [hg]; exact (below_size (by repeat (first | (with_reducible first | exact HB.out | apply below_alloc | apply pw_below_drewN | apply below_drew1) | exact HB.out))) : w.heap.size ≤ gb121)); clear HO_3; clear HB; have HO_3 := n0_; have HB := n1_; have BK121 := n2_; have GW121 := n3_; have GE121 := n4_; clear n0_ n1_ n2_ n3_ n4_; clear hb hbox hg; have hcz19_0 : w18.cell? ⟨gb121, 0, none⟩ = some (.string (⟨#[]⟩ : ByteArray)) := (blk_cell BK121.out 0).trans rfl; have hcz19_1 : w18.cell? ⟨gb121, 1, none⟩ = some (.string (⟨#[]⟩ : ByteArray)) := (blk_cell BK121.out 1).trans rfl; have hcz19_2 : w18.cell? ⟨gb121, 2, none⟩ = some (.bool false) := (blk_cell BK121.out 2).trans rfl; have hfz19_0 := blk_frozen BK121.out 0; have hfz19_1 := blk_frozen BK121.out 1; have hfz19_2 := blk_frozen BK121.out 2) | ((with_reducible refine gate_builtin (b := .append) (xs := #[.tmp 25, .tmp 28]) rfl ?_); at_builtin; refine Kd.R_append Kd.string (w0 := w) w.heap.size rfl (.tmp 25) (.tmp 28) 22 9 (.string ⟨#[]⟩) 16 rfl Try.underlying22 info9 rfl (by decide) (by omega) u3 x3_1 ((rd_T50 l0 x8_1).f0) [.string ((rd_T50 l0 x8_1).f0)] (fun _ => True) (fun _ => False) rfl (by first | (go_simp; done) | (go_simp; rfl)) ?aP (fun _ hk => hk.elim) ?aF ?aO ?aB ?aS ?aL ?_; (case aP => exact rfl); (case aB => exact (by repeat (first | (with_reducible first | exact HB.out | apply below_alloc | apply pw_below_drewN | apply below_drew1 | refine below_set ?_ GE121.out) | exact HB.out))); (case aF => exact (fun _ _ => trivial)); (case aO => exact (by (with_reducible repeat (first | apply Kd.R_alloc | apply Kd.R_drewN | apply Kd.R_drew)); exact Kd.R_mono (Kd.R_far (p := ⟨gb121, 2, none⟩) (Kd.R_far (p := ⟨gb121, 1, none⟩) (Kd.R_far (p := ⟨gb121, 0, none⟩) (Kd.R_types HO_3.out BK121.out (by decide)) (fun _ hk => hk.2) (.string ((rd_T50 l0 x8_1).f0))) (fun _ hk => hk.2) (.string ((rd_T50 l0 x8_1).f1))) (fun _ hk => hk.2) (.bool false)) (fun _ hk => trivial))); (case aS => exact (below_size (by repeat (first | (with_reducible first | exact HB.out | apply below_alloc | apply pw_below_drewN | apply below_drew1 | refine below_set ?_ GE121.out) | exact HB.out)))); (case aL => have := LMc17.out; omega); intro v126 w20 ho hb hg hat; rw [← Ny125.out] at ho; have n0_ := Aside0.mk (blk_grown (g := gb121) (o := .cells #[.string ((rd_T50 l0 x8_1).f0), .string ((rd_T50 l0 x8_1).f1), .bool false] 50 (0, 0)) (by (with_reducible repeat (first | refine blk_drewN ?_ _ | refine blk_drew ?_ | refine blk_alloc ?_ _)); refine blk_put (cs := #[.string ((rd_T50 l0 x8_1).f0), .string ((rd_T50 l0 x8_1).f1), .bool false]) ?_ 2 _ rfl; (with_reducible repeat (first | refine blk_drewN ?_ _ | refine blk_drew ?_ | refine blk_alloc ?_ _)); refine blk_put (cs := #[.string ((rd_T50 l0 x8_1).f0), .string (⟨#[]⟩ : ByteArray), .bool false]) ?_ 1 _ rfl; (with_reducible repeat (first | refine blk_drewN ?_ _ | refine blk_drew ?_ | refine blk_alloc ?_ _)); refine blk_put (cs := #[.string (⟨#[]⟩ : ByteArray), .string (⟨#[]⟩ : ByteArray), .bool false]) ?_ 0 _ rfl; (with_reducible repeat (first | refine blk_drewN ?_ _ | refine blk_drew ?_ | refine blk_alloc ?_ _)); exact BK121.out) hg (Kd.R_ne HO_3.out BK121.out (by decide))); have n1_ := Aside0.mk (hb); have n2_ := Aside0.mk (ho); clear BK121; clear HB; clear HO_3; have BK121 := n0_; have HB := n1_; have HO127 := n2_; clear n0_ n1_ n2_; clear ho hb hg hat))
         go_roundg k1
         case measure => have := HK1.out; omega
         case rel => exact ⟨(y125), (wrap64 (x8_1 + 1)), (by first | rfl | (simp; done) | (simp [*]; done) | (simp [bne_nil_]; done)), H', ⟨by have := HK1.out; omega⟩, ⟨by (with_reducible repeat (first | apply Kd.R_alloc | apply Kd.R_drewN | apply Kd.R_drew)); exact HO127.out⟩, ⟨by repeat (first | (with_reducible first | exact HB.out | apply below_alloc | apply pw_below_drewN | apply below_drew1 | refine below_set ?_ GE121.out) | exact HB.out)⟩⟩
        ·rw [if_neg c17] at H
         exact absurd H (by simp)
     ·rw [if_neg c4] at H
      exact absurd H (by simp)
    ·rw [if_neg c3] at H
     exact absurd H (by simp)
   ·rw [if_neg c2] at H
    have c2b0 : decide (x8_1 < (l0.length : Int)) = false := decide_eq_false c2
    clear c2
    by_cases c21 : (l0.length : Int) ≤ 16
    ·rw [if_pos c21] at H
     have c21b0 : decide ((l0.length : Int) ≤ 16) = true := decide_eq_true c21
     have c21b1 : decide (l0.length ≤ 16) = true := decide_eq_true (by omega)
     clear c21
     replace H := Option.bind_eq_some_iff.mp H
     obtain ⟨t128, A220, H⟩ := H
     replace H : (some t128) = some r := H
     have A22 := Aside0.mk A220
     clear A220
     obtain rfl := Option.some.inj H
     obtain ⟨Ao23, co23, eo23⟩ := Kd.R_slice HO_3.out
     subst eo23
     go_wp2_with (first | (go_at_call 34; (with_reducible refine (letter_Rising.calls k1 _ _ x3_1 t128 _ ?side1 ?side2 A22.out).mono ?_); (case side1 => repeat (first | exact (Kd.R_reads' HO_3.out).2.2 | (with_reducible refine Kd.C_alloc ?_ _) | (with_reducible refine Kd.C_drewN ?_ _) | (with_reducible refine Kd.C_drew ?_))); (case side2 => exact (Kd.R_reads' HO_3.out).2.1); rintro e w' ⟨rfl, ⟨nd, rfl⟩⟩))
     go_ret
     exact ⟨by first | rfl | (simp [errW_none, errW_some] <;> rfl) | (simp [*, errW_none, errW_some] <;> rfl), by repeat (first | (with_reducible first | exact HB.out | apply below_alloc | apply pw_below_drewN | apply below_drew1) | exact HB.out)⟩
    ·rw [if_neg c21] at H
     have c21b0 : decide ((l0.length : Int) ≤ 16) = false := decide_eq_false c21
     have c21b1 : decide (l0.length ≤ 16) = false := decide_eq_false (by omega)
     clear c21
     obtain rfl := Option.some.inj H
     go_wp2
     go_ret
     exact ⟨by first | rfl | (simp [errW_none, errW_some] <;> rfl) | (simp [*, errW_none, errW_some] <;> rfl), by repeat (first | (with_reducible first | exact HB.out | apply below_alloc | apply pw_below_drewN | apply below_drew1) | exact HB.out)⟩
end Go.Proofs.Ytbfjbcaabijpfaa.Al

namespace Go.Proofs.Ytbfjbcaabijpfaa.Al
open Go.RowKit Go.Proofs.YtbfjbcaabijpfaaW.PrintWords Go.Proofs.YtbfjbcaabijpfaaW.PrintLast Go.Proofs.YtbfjbcaabijpfaaW.PrintMore
attribute [local go_sem] max2_int min2_int max_two min_two max_three min_three max_four min_four   -- for this text's walks alone
set_option linter.unusedVariables false
set_option linter.unusedSimpArgs false
def letter_address.f (a0 : Int) : Option (Bool) := if a0 ≥ 0 then (if a0 < 12 then (some true) else (if a0 ≥ 100 then (some (decide (a0 < 116))) else (some false))) else (if a0 ≥ 100 then (some (decide (a0 < 116))) else (some false))
set_option maxHeartbeats 8000000 in
set_option maxRecDepth 100000 in
theorem letter_address.calls (a0 : Int) (r : Bool) (w : World) (h : letter_address.f a0 = some r) :
  Calls Try.prog 33 #[.int .i64 a0] w fun e w' => e = .returned (.bool r) ∧ Drawn0 w w' := by
 have H : (if a0 ≥ 0 then (if a0 < 12 then (some true) else (if a0 ≥ 100 then (some (decide (a0 < 116))) else (some false))) else (if a0 ≥ 100 then (some (decide (a0 < 116))) else (some false))) = some r := h
 clear h
 by_cases c2 : a0 ≥ 0
 ·rw [if_pos c2] at H
  have c2b0 : decide (0 ≤ a0) = true := decide_eq_true c2
  clear c2
  by_cases c3 : a0 < 12
  ·rw [if_pos c3] at H
   have c3b0 : decide (a0 < 12) = true := decide_eq_true c3
   clear c3
   obtain rfl := Option.some.inj H
   go_enter Try.func33, Try.ntmps33
   go_wp2
   go_ret
   exact ⟨by first | rfl | (simp; done) | (simp [*]; done), by repeat (first | exact Drawn0.refl _ | apply Drawn0.step)⟩
  ·rw [if_neg c3] at H
   have c3b0 : decide (a0 < 12) = false := decide_eq_false c3
   clear c3
   by_cases c4 : a0 ≥ 100
   ·rw [if_pos c4] at H
    have c4b0 : decide (100 ≤ a0) = true := decide_eq_true c4
    clear c4
    obtain rfl := Option.some.inj H
    go_enter Try.func33, Try.ntmps33
    go_wp2
    go_ret
    exact ⟨by first | rfl | (simp; done) | (simp [*]; done), by repeat (first | exact Drawn0.refl _ | apply Drawn0.step)⟩
   ·rw [if_neg c4] at H
    have c4b0 : decide (100 ≤ a0) = false := decide_eq_false c4
    clear c4
    obtain rfl := Option.some.inj H
    go_enter Try.func33, Try.ntmps33
    go_wp2
    go_ret
    exact ⟨by first | rfl | (simp; done) | (simp [*]; done), by repeat (first | exact Drawn0.refl _ | apply Drawn0.step)⟩
 ·rw [if_neg c2] at H
  have c2b0 : decide (0 ≤ a0) = false := decide_eq_false c2
  clear c2
  by_cases c5 : a0 ≥ 100
  ·rw [if_pos c5] at H
   have c5b0 : decide (100 ≤ a0) = true := decide_eq_true c5
   clear c5
   obtain rfl := Option.some.inj H
   go_enter Try.func33, Try.ntmps33
   go_wp2
   go_ret
   exact ⟨by first | rfl | (simp; done) | (simp [*]; done), by repeat (first | exact Drawn0.refl _ | apply Drawn0.step)⟩
  ·rw [if_neg c5] at H
   have c5b0 : decide (100 ≤ a0) = false := decide_eq_false c5
   clear c5
   obtain rfl := Option.some.inj H
   go_enter Try.func33, Try.ntmps33
   go_wp2
   go_ret
   exact ⟨by first | rfl | (simp; done) | (simp [*]; done), by repeat (first | exact Drawn0.refl _ | apply Drawn0.step)⟩
end Go.Proofs.Ytbfjbcaabijpfaa.Al

namespace Go.Proofs.Ytbfjbcaabijpfaa.LetSpec
open Go.RowKit Go.Proofs.Ytbfjbcaabijpfaa.Base Go.Proofs.Ytbfjbcaabijpfaa.Al Go.Proofs.YtbfjbcaabijpfaaW.PrintWords
theorem Ev.succ {α : Type} {g : Nat → Option α} {r : α} (h : Ev (fun k => g (k + 1)) r) : Ev g r := Ev.step (fun _ => rfl) h
def keyB (s : ByteArray) : Bool := decide (1 ≤ s.size ∧ s.size ≤ 32)
def addrB (n : Int) : Bool := decide ((0 ≤ n ∧ n < 12) ∨ (100 ≤ n ∧ n < 116))
def risFrom : Option ByteArray → List ByteArray → Bool
 |_, [] => true
 |none, s :: l => keyB s && risFrom (some s) l
 |some p, s :: l => keyB s && (Op.bytesLess p.toList s.toList && risFrom (some s) l)
def risB (l : List ByteArray) : Bool := risFrom none l
def oneW (x : S50) : Bool := decide (x.f1.size ≤ 2052) && (!x.f2 || x.f1.toList.isEmpty)
def wriB (l : List S50) : Bool := l.all oneW && (decide (l.length ≤ 16) && risB (l.map fun x => x.f0))
theorem empty_iff (s : ByteArray) : s.toList = [] ↔ s.size = 0 := by
 rw [toList_eq, ← B_len]
 exact List.length_eq_zero_iff.symm
theorem key_eq (s : ByteArray) : letter_Key.f s = some (keyB s) := by
 unfold letter_Key.f keyB
 by_cases h : s.toList = []
 ·rw [if_pos h, decide_eq_false (by have := (empty_iff s).1 h; omega)]
 ·rw [if_neg h]
  congr 1
  have : s.size ≠ 0 := fun hc => h ((empty_iff s).2 hc)
  apply decide_eq_decide.2
  omega
theorem address_eq (n : Int) : letter_address.f n = some (addrB n) := by
 unfold letter_address.f addrB
 split
 ·split
  ·rw [decide_eq_true (by omega)]
  ·split
   ·congr 1; apply decide_eq_decide.2; omega
   ·rw [decide_eq_false (by omega)]
 ·split
  ·congr 1; apply decide_eq_decide.2; omega
  ·rw [decide_eq_false (by omega)]
theorem rdOf_get {l : List ByteArray} {i : Nat} (h : i < l.length) : rdOf ByteArray.empty l (i : Int) = l[i] := by simp [rdOf, List.getD_eq_getElem?_getD, h]
def prevOf (l : List ByteArray) (i : Nat) : Option ByteArray := if i = 0 then none else l[i - 1]?
theorem rising_l0 (l : List ByteArray) (hl : l.length ≤ 4611686018427387904) : ∀ (d i : Nat), i + d = l.length → Ev (fun k => letter_Rising.l0 k l l (l.length : Int) i) (risFrom (prevOf l i) (l.drop i))
 |0, i, h => by
  refine Ev.succ ?_
  simp only [letter_Rising.l0]
  rw [List.drop_of_length_le (by omega)]
  refine Ev.neg (by omega) ?_
  have : risFrom (prevOf l i) [] = true := by cases prevOf l i <;> rfl
  rw [this]
  exact Ev.now _
 |d + 1, i, h => by
  have hi : i < l.length := by omega
  have ih := rising_l0 l hl d (i + 1) (by omega)
  have e : wrap64 ((i : Int) + 1) = ((i + 1 : Nat) : Int) := by rw [wrap_id (by omega) (by omega)]; omega
  have hp : prevOf l (i + 1) = some l[i] := by simp [prevOf, hi]
  rw [hp] at ih
  refine Ev.succ ?_
  simp only [letter_Rising.l0]
  rw [e, rdOf_get hi, key_eq, List.drop_eq_getElem_cons hi]
  refine Ev.pos (by omega) (Ev.pos (by omega) (Ev.pos (by omega) (Ev.some_bind ?_)))
  by_cases hk : keyB l[i] = true
  ·refine Ev.pos hk ?_
   by_cases h0 : i = 0
   ·subst h0
    refine Ev.neg (by omega) ?_
    have e2 : risFrom (prevOf l 0) (l[0] :: l.drop (0 + 1)) = risFrom (some l[0]) (l.drop (0 + 1)) := by
     show (keyB l[0] && risFrom (some l[0]) (l.drop 1)) = _
     rw [hk, Bool.true_and]
    rw [e2]
    exact ih
   ·have h1 : i - 1 < l.length := by omega
    have e1 : wrap64 ((i : Int) - 1) = ((i - 1 : Nat) : Int) := by rw [wrap_id (by omega) (by omega)]; omega
    have hpr : prevOf l i = some l[i - 1] := by simp [prevOf, h0, h1]
    rw [e1, hpr, rdOf_get h1]
    have e2 : risFrom (some l[i - 1]) (l[i] :: l.drop (i + 1)) = (Op.bytesLess l[i - 1].toList l[i].toList && risFrom (some l[i]) (l.drop (i + 1))) := by
     show (keyB l[i] && _) = _
     rw [hk, Bool.true_and]
    rw [e2]
    refine Ev.pos (by omega) (Ev.pos (by omega) (Ev.pos (by omega) ?_))
    by_cases hb : Op.bytesLess l[i - 1].toList l[i].toList = true
    ·rw [hb, Bool.true_and]
     refine Ev.pos rfl ?_
     exact ih
    ·have hb' : Op.bytesLess l[i - 1].toList l[i].toList = false := by simpa using hb
     rw [hb', Bool.false_and]
     exact Ev.neg (by simp) (Ev.now _)
  ·have hk' : keyB l[i] = false := by simpa using hk
   rw [hk']
   have e2 : risFrom (prevOf l i) (l[i] :: l.drop (i + 1)) = false := by
    cases prevOf l i with
    |none => show (keyB l[i] && _) = _; rw [hk']; rfl
    |some p => show (keyB l[i] && _) = _; rw [hk']; rfl
   rw [e2]
   exact Ev.neg (by simp) (Ev.now _)
theorem rising_ev (l : List ByteArray) (hl : l.length ≤ 4611686018427387904) : Ev (fun k => letter_Rising.f k l) (risB l) := rising_l0 l hl l.length 0 (by omega)
theorem rdT_get {l : List S50} {i : Nat} (h : i < l.length) : rd_T50 l (i : Int) = l[i] := by simp [rd_T50, List.getD_eq_getElem?_getD, h]
theorem writes_l0 (l : List S50) (hl : l.length ≤ 8796093022000) : ∀ (d i : Nat), i + d = l.length → (l.take i).all oneW = true → Ev (fun k => letter_writes.l0 k l ((l.take i).map fun x => x.f0) l (l.length : Int) i) (wriB l)
 |0, i, h, ha => by
  have hi : l.take i = l := List.take_of_length_le (by omega)
  rw [hi] at ha ⊢
  have hw : wriB l = (decide (l.length ≤ 16) && risB (l.map fun x => x.f0)) := by unfold wriB; rw [ha, Bool.true_and]
  rw [hw]
  refine Ev.succ ?_
  simp only [letter_writes.l0]
  refine Ev.neg (by omega) ?_
  by_cases h16 : l.length ≤ 16
  ·rw [decide_eq_true h16, Bool.true_and]
   exact Ev.pos (by omega) (Ev.bind (rising_ev _ (by simp; omega)) (Ev.now _))
  ·rw [decide_eq_false h16, Bool.false_and]
   exact Ev.neg (by omega) (Ev.now _)
 |d + 1, i, h, ha => by
  have hi : i < l.length := by omega
  have e : wrap64 ((i : Int) + 1) = ((i + 1 : Nat) : Int) := by rw [wrap_id (by omega) (by omega)]; omega
  have hlen : ((l.take i).map fun x => x.f0).length = i := by simp; omega
  have htk : l.take (i + 1) = l.take i ++ [l[i]] := by rw [List.take_succ_eq_append_getElem hi]
  have bad : oneW l[i] = false → wriB l = false := fun hf => by
   unfold wriB
   have : l.all oneW = false := List.all_eq_false.2 ⟨l[i], List.getElem_mem hi, by simp [hf]⟩
   rw [this, Bool.false_and]
  refine Ev.succ ?_
  simp only [letter_writes.l0]
  rw [e, rdT_get hi, hlen]
  refine Ev.pos (by omega) (Ev.pos (by omega) (Ev.pos (by omega) ?_))
  by_cases hs : l[i].f1.size ≤ 2052
  ·refine Ev.neg (by omega) ?_
   have good : oneW l[i] = true → Ev (fun k => letter_writes.l0 k l ((l.take i).map (fun x => x.f0) ++ [l[i].f0]) l (l.length : Int) ((i + 1 : Nat) : Int)) (wriB l) := fun ho => by
    have ih := writes_l0 l hl d (i + 1) (by omega) (by rw [htk, List.all_append, ha]; simp [ho])
    rw [htk, List.map_append] at ih
    exact ih
   by_cases hd : l[i].f2 = true
   ·refine Ev.pos hd ?_
    by_cases he : l[i].f1.toList = []
    ·exact Ev.pos he (Ev.pos (by omega) (good (by simp [oneW, hs, he])))
    ·rw [bad (by simp [oneW, hd, he])]
     exact Ev.neg he (Ev.now _)
   ·have hd' : l[i].f2 = false := by simpa using hd
    exact Ev.neg hd (Ev.pos (by omega) (good (by simp [oneW, hs, hd'])))
  ·rw [bad (by simp [oneW, hs])]
   exact Ev.pos (by omega) (Ev.now _)
theorem writes_ev (l : List S50) (hl : l.length ≤ 8796093022000) : Ev (fun k => letter_writes.f k l) (wriB l) := writes_l0 l hl l.length 0 (by omega) rfl
/-- What the switch over the kinds leaves: the greatest code, whether keys, writes and text may be. -/
def sw (kind code : Int) (text : ByteArray) (l7 : List ByteArray) (l8 : List S50) : Option (Int × Bool × Bool × Bool) :=
 if kind = 2 then some (4, decide (l7.length = 1) && keyB (rdOf ByteArray.empty l7 0), (l8.length : Int) == 0, decide (text.size ≤ 2052) && (text.toList.isEmpty || code == 1))
 else if kind = 1 then some (0, decide (l7.length = 1) && keyB (rdOf ByteArray.empty l7 0), (l8.length : Int) == 0, text.toList.isEmpty)
 else if kind = 3 then some (0, decide (l7.length ≤ 16) && risB l7, wriB l8, text.toList.isEmpty)
 else if kind = 8 then some (2, (l7.length : Int) == 0, (l8.length : Int) == 0, text.toList.isEmpty)
 else if kind = 4 then some (1, (l7.length : Int) == 0, (l8.length : Int) == 0, text.toList.isEmpty)
 else if kind = 5 ∨ kind = 6 ∨ kind = 7 then some (0, (l7.length : Int) == 0, (l8.length : Int) == 0, text.toList.isEmpty)
 else none
def fin4 (code : Int) : Option (Int × Bool × Bool × Bool) → Int
 |none => 70
 |some (m, a, b, c) => if code ≤ m ∧ a = true ∧ b = true ∧ c = true then 0 else 70
/-- Which letters may be: 0, or 70. -/
def chkL (kind src dst txn ts code : Int) (text : ByteArray) (l7 : List ByteArray) (l8 : List S50) : Int :=
 if addrB src = true ∧ addrB dst = true ∧ 1 ≤ txn ∧ txn ≤ 1125899906842623 ∧ 0 ≤ ts ∧ ts ≤ 1125899906842624 ∧ 0 ≤ code then fin4 code (sw kind code text l7 l8) else 70
section
variable (w : World)
theorem key_calls (s : ByteArray) : Calls Try.prog 25 #[.string s] w fun e w' => e = .returned (.bool (keyB s)) ∧ Drawn0 w w' := letter_Key.calls s _ w (key_eq s)
theorem address_calls (n : Int) : Calls Try.prog 33 #[.int .i64 n] w fun e w' => e = .returned (.bool (addrB n)) ∧ Drawn0 w w' := letter_address.calls n _ w (address_eq n)
theorem rising_calls (A : Option Addr) (c : Nat) (l : List ByteArray) (hr : Kd.C Kd.string w A l.length l) (hc : l.length ≤ c) (hl : l.length ≤ 8796093022000) : Calls Try.prog 34 #[.slice A l.length c] w fun e w' => e = .returned (.bool (risB l)) ∧ Drawn0 w w' := by
 obtain ⟨k, hk⟩ := Ev.rounds (rising_ev l (by omega))
 exact letter_Rising.calls k A c l _ w hr hc hk
theorem writes_calls (A : Option Addr) (c : Nat) (l : List S50) (hr : Kd.C k50 w A l.length l) (hc : l.length ≤ c) (hl : l.length ≤ 8796093022000) : Calls Try.prog 35 #[.slice A l.length c] w fun e w' => e = .returned (.bool (wriB l)) ∧ Below w.heap.size w w' := by
 obtain ⟨k, hk⟩ := Ev.rounds (writes_ev l hl)
 exact letter_writes.calls k A c l _ w hr hc hk
end
end Go.Proofs.Ytbfjbcaabijpfaa.LetSpec

namespace Go.Proofs.Ytbfjbcaabijpfaa.Al
open Go.RowKit Go.Proofs.YtbfjbcaabijpfaaW.PrintWords Go.Proofs.YtbfjbcaabijpfaaW.PrintLast Go.Proofs.YtbfjbcaabijpfaaW.PrintMore
attribute [local go_sem] max2_int min2_int max_two min_two max_three min_three max_four min_four   -- for this text's walks alone
set_option linter.unusedVariables false
set_option linter.unusedSimpArgs false
def record_bare.f (a0_0 : Int) (a0_1 : Int) (a0_2 : Int) (a0_3 : Int) (a0_4 : ByteArray) (a0_5 : ByteArray) (a0_6 : Bool) (l0_7 : List ByteArray) (l0_8 : List (S50)) : Option (Int × Int × Int × Int × ByteArray × ByteArray × Bool) := some (a0_0, a0_1, a0_2, 0, (⟨#[]⟩ : ByteArray), (⟨#[]⟩ : ByteArray), false)
set_option maxHeartbeats 8000000 in
set_option maxRecDepth 100000 in
theorem record_bare.calls (a0_0 : Int) (a0_1 : Int) (a0_2 : Int) (a0_3 : Int) (a0_4 : ByteArray) (a0_5 : ByteArray) (a0_6 : Bool) (A0_7 : Option Addr) (c0_7 : Nat) (l0_7 : List ByteArray) (A0_8 : Option Addr) (c0_8 : Nat) (l0_8 : List (S50)) (r1 : Int) (r2 : Int) (r3 : Int) (r4 : Int) (r5 : ByteArray) (r6 : ByteArray) (r7 : Bool) (w : World) (hr0_7 : Kd.C Kd.string w A0_7 l0_7.length l0_7) (hc0_7 : l0_7.length ≤ c0_7) (hr0_8 : Kd.C k50 w A0_8 l0_8.length l0_8) (hc0_8 : l0_8.length ≤ c0_8) (h : record_bare.f a0_0 a0_1 a0_2 a0_3 a0_4 a0_5 a0_6 l0_7 l0_8 = some (r1, r2, r3, r4, r5, r6, r7)) :
  Calls Try.prog 23 #[.agg #[.int .i64 a0_0, .int .i64 a0_1, .int .i64 a0_2, .int .i64 a0_3, .string a0_4, .string a0_5, .bool a0_6, .slice A0_7 l0_7.length c0_7, .slice A0_8 l0_8.length c0_8]] w fun e w' => e = .returned (.agg #[.int .i64 r1, .int .i64 r2, .int .i64 r3, .int .i64 r4, .string r5, .string r6, .bool r7]) ∧ Below w.heap.size w w' := by
 have hu25 := Try.underlying25
 have hu54 := Try.underlying54
 have HR0_7 := Aside0.mk hr0_7
 have HC0_7 := Aside0.mk hc0_7
 clear hr0_7 hc0_7
 have HR0_8 := Aside0.mk hr0_8
 have HC0_8 := Aside0.mk hc0_8
 clear hr0_8 hc0_8
 have HB := Aside0.mk (Below.refl w.heap.size w)
 have H : (some (a0_0, a0_1, a0_2, 0, (⟨#[]⟩ : ByteArray), (⟨#[]⟩ : ByteArray), false)) = some (r1, r2, r3, r4, r5, r6, r7) := h
 clear h
 simp only [Option.some.injEq, Prod.mk.injEq] at H
 obtain ⟨rfl, rfl, rfl, rfl, rfl, rfl, rfl⟩ := H
 go_enter Try.func23, Try.ntmps23
 go_wp2_with (first | ((with_reducible refine gate_dst (N := 1) rfl ?_); refine box_event ?hg (N := 1) ?hd (cs := #[.int .i64 a0_0, .int .i64 a0_1, .int .i64 a0_2, .int .i64 a0_3, .string a0_4, .string a0_5, .bool a0_6, .slice A0_7 l0_7.length c0_7, .slice A0_8 l0_8.length c0_8]) (t := 25) ?hr ?_; (case hd => rfl); (case hg => rfl); (case hr => first | (go_simp; done) | (go_simp; rfl)); intro gb115 hg w2 hbox hb; have n0_ := Aside0.mk (below_step (by repeat (first | (with_reducible first | exact HB.out | apply below_alloc | apply pw_below_drewN | apply below_drew1) | exact HB.out)) hb); have n1_ := Aside0.mk (hbox); have n2_ := Aside0.mk ((by rw [hg]; exact (below_size (by repeat (first | (with_reducible first | exact HB.out | apply below_alloc | apply pw_below_drewN | apply below_drew1) | exact HB.out))) : w.heap.size ≤ gb115)); have n3_ := Aside0.mk ((by rw [hg]; exact (below_size (by repeat (first | (with_reducible first | exact HB.out | apply below_alloc | apply pw_below_drewN | apply below_drew1) | exact HB.out))) : w.heap.size ≤ gb115)); clear HB; have HB := n0_; have BK115 := n1_; have GW115 := n2_; have GE115 := n3_; clear n0_ n1_ n2_ n3_; clear hb hbox hg) | ((with_reducible refine gate_dst (N := 2) rfl ?_); refine box_event ?hg (N := 2) ?hd (cs := #[.int .i64 0, .int .i64 0, .int .i64 0, .int .i64 0, .string (⟨#[]⟩ : ByteArray), .string (⟨#[]⟩ : ByteArray), .bool false]) (t := 54) ?hr ?_; (case hd => rfl); (case hg => rfl); (case hr => first | (go_simp; done) | (go_simp; rfl)); intro gb116 hg w3 hbox hb; have n0_ := Aside0.mk (blk_below (g := gb115) (o := .cells #[.int .i64 a0_0, .int .i64 a0_1, .int .i64 a0_2, .int .i64 a0_3, .string a0_4, .string a0_5, .bool a0_6, .slice A0_7 l0_7.length c0_7, .slice A0_8 l0_8.length c0_8] 25 (0, 0)) (by (with_reducible repeat (first | refine blk_drewN ?_ _ | refine blk_drew ?_ | refine blk_alloc ?_ _)); exact BK115.out) hb); have n1_ := Aside0.mk (below_step (by repeat (first | (with_reducible first | exact HB.out | apply below_alloc | apply pw_below_drewN | apply below_drew1 | refine below_set ?_ GE115.out) | exact HB.out)) hb); have n2_ := Aside0.mk (hbox); have n3_ := Aside0.mk ((by rw [hg]; exact (below_size (by repeat (first | (with_reducible first | exact HB.out | apply below_alloc | apply pw_below_drewN | apply below_drew1 | refine below_set ?_ GE115.out) | exact HB.out))) : w.heap.size ≤ gb116)); have n4_ := Aside0.mk ((by rw [hg]; exact (below_size (by repeat (first | (with_reducible first | exact HB.out | apply below_alloc | apply pw_below_drewN | apply below_drew1 | refine below_set ?_ GE115.out) | exact HB.out))) : w.heap.size ≤ gb116)); have n5_ := Aside0.mk ((by rw [hg]; exact Nat.ne_of_lt (blk_lt (g := gb115) (o := .cells #[.int .i64 a0_0, .int .i64 a0_1, .int .i64 a0_2, .int .i64 a0_3, .string a0_4, .string a0_5, .bool a0_6, .slice A0_7 l0_7.length c0_7, .slice A0_8 l0_8.length c0_8] 25 (0, 0)) (by (with_reducible repeat (first | refine blk_drewN ?_ _ | refine blk_drew ?_ | refine blk_alloc ?_ _)); exact BK115.out)) : gb115 ≠ gb116)); have n6_ := Aside0.mk ((by rw [hg]; exact Nat.ne_of_gt (blk_lt (g := gb115) (o := .cells #[.int .i64 a0_0, .int .i64 a0_1, .int .i64 a0_2, .int .i64 a0_3, .string a0_4, .string a0_5, .bool a0_6, .slice A0_7 l0_7.length c0_7, .slice A0_8 l0_8.length c0_8] 25 (0, 0)) (by (with_reducible repeat (first | refine blk_drewN ?_ _ | refine blk_drew ?_ | refine blk_alloc ?_ _)); exact BK115.out)) : gb116 ≠ gb115)); clear BK115; clear HB; have BK115 := n0_; have HB := n1_; have BK116 := n2_; have GW116 := n3_; have GE116 := n4_; have NB115_116 := n5_; have NB116_115 := n6_; clear n0_ n1_ n2_ n3_ n4_ n5_ n6_; clear hb hbox hg; have hnb4 := NB115_116.out; have hnc4 := NB116_115.out; have hcz5_0 : w3.cell? ⟨gb115, 0, none⟩ = some (.int .i64 a0_0) := (blk_cell BK115.out 0).trans rfl; have hcz5_1 : w3.cell? ⟨gb115, 1, none⟩ = some (.int .i64 a0_1) := (blk_cell BK115.out 1).trans rfl; have hcz5_2 : w3.cell? ⟨gb115, 2, none⟩ = some (.int .i64 a0_2) := (blk_cell BK115.out 2).trans rfl; have hcz5_3 : w3.cell? ⟨gb115, 3, none⟩ = some (.int .i64 a0_3) := (blk_cell BK115.out 3).trans rfl; have hcz5_4 : w3.cell? ⟨gb115, 4, none⟩ = some (.string a0_4) := (blk_cell BK115.out 4).trans rfl; have hcz5_5 : w3.cell? ⟨gb115, 5, none⟩ = some (.string a0_5) := (blk_cell BK115.out 5).trans rfl; have hcz5_6 : w3.cell? ⟨gb115, 6, none⟩ = some (.bool a0_6) := (blk_cell BK115.out 6).trans rfl; have hcz5_7 : w3.cell? ⟨gb115, 7, none⟩ = some (.slice A0_7 l0_7.length c0_7) := (blk_cell BK115.out 7).trans rfl; have hcz5_8 : w3.cell? ⟨gb115, 8, none⟩ = some (.slice A0_8 l0_8.length c0_8) := (blk_cell BK115.out 8).trans rfl; have hfz5_0 := blk_frozen BK115.out 0; have hfz5_1 := blk_frozen BK115.out 1; have hfz5_2 := blk_frozen BK115.out 2; have hfz5_3 := blk_frozen BK115.out 3; have hfz5_4 := blk_frozen BK115.out 4; have hfz5_5 := blk_frozen BK115.out 5; have hfz5_6 := blk_frozen BK115.out 6; have hfz5_7 := blk_frozen BK115.out 7; have hfz5_8 := blk_frozen BK115.out 8; have hcz6_0 : w3.cell? ⟨gb116, 0, none⟩ = some (.int .i64 0) := (blk_cell BK116.out 0).trans rfl; have hcz6_1 : w3.cell? ⟨gb116, 1, none⟩ = some (.int .i64 0) := (blk_cell BK116.out 1).trans rfl; have hcz6_2 : w3.cell? ⟨gb116, 2, none⟩ = some (.int .i64 0) := (blk_cell BK116.out 2).trans rfl; have hcz6_3 : w3.cell? ⟨gb116, 3, none⟩ = some (.int .i64 0) := (blk_cell BK116.out 3).trans rfl; have hcz6_4 : w3.cell? ⟨gb116, 4, none⟩ = some (.string (⟨#[]⟩ : ByteArray)) := (blk_cell BK116.out 4).trans rfl; have hcz6_5 : w3.cell? ⟨gb116, 5, none⟩ = some (.string (⟨#[]⟩ : ByteArray)) := (blk_cell BK116.out 5).trans rfl; have hcz6_6 : w3.cell? ⟨gb116, 6, none⟩ = some (.bool false) := (blk_cell BK116.out 6).trans rfl; have hfz6_0 := blk_frozen BK116.out 0; have hfz6_1 := blk_frozen BK116.out 1; have hfz6_2 := blk_frozen BK116.out 2; have hfz6_3 := blk_frozen BK116.out 3; have hfz6_4 := blk_frozen BK116.out 4; have hfz6_5 := blk_frozen BK116.out 5; have hfz6_6 := blk_frozen BK116.out 6))
 refine bodyPost_ret (results_cell_row rfl _ _ gb116 54 #[.int .i64 a0_0, .int .i64 a0_1, .int .i64 a0_2, .int .i64 0, .string (⟨#[]⟩ : ByteArray), .string (⟨#[]⟩ : ByteArray), .bool false] (0, 0) _ rfl (by (with_reducible repeat (first | refine blk_drewN ?_ _ | refine blk_drew ?_ | refine blk_alloc ?_ _)); refine blk_put (cs := #[.int .i64 a0_0, .int .i64 a0_1, .int .i64 a0_2, .int .i64 0, .string (⟨#[]⟩ : ByteArray), .string (⟨#[]⟩ : ByteArray), .bool false]) ?_ 6 _ rfl; (with_reducible repeat (first | refine blk_drewN ?_ _ | refine blk_drew ?_ | refine blk_alloc ?_ _)); refine blk_put (cs := #[.int .i64 a0_0, .int .i64 a0_1, .int .i64 a0_2, .int .i64 0, .string (⟨#[]⟩ : ByteArray), .string (⟨#[]⟩ : ByteArray), .bool false]) ?_ 5 _ rfl; (with_reducible repeat (first | refine blk_drewN ?_ _ | refine blk_drew ?_ | refine blk_alloc ?_ _)); refine blk_put (cs := #[.int .i64 a0_0, .int .i64 a0_1, .int .i64 a0_2, .int .i64 0, .string (⟨#[]⟩ : ByteArray), .string (⟨#[]⟩ : ByteArray), .bool false]) ?_ 4 _ rfl; (with_reducible repeat (first | refine blk_drewN ?_ _ | refine blk_drew ?_ | refine blk_alloc ?_ _)); refine blk_put (cs := #[.int .i64 a0_0, .int .i64 a0_1, .int .i64 a0_2, .int .i64 0, .string (⟨#[]⟩ : ByteArray), .string (⟨#[]⟩ : ByteArray), .bool false]) ?_ 3 _ rfl; (with_reducible repeat (first | refine blk_drewN ?_ _ | refine blk_drew ?_ | refine blk_alloc ?_ _)); refine blk_put (cs := #[.int .i64 a0_0, .int .i64 a0_1, .int .i64 0, .int .i64 0, .string (⟨#[]⟩ : ByteArray), .string (⟨#[]⟩ : ByteArray), .bool false]) ?_ 2 _ rfl; (with_reducible repeat (first | refine blk_drewN ?_ _ | refine blk_drew ?_ | refine blk_alloc ?_ _)); refine blk_put (cs := #[.int .i64 a0_0, .int .i64 0, .int .i64 0, .int .i64 0, .string (⟨#[]⟩ : ByteArray), .string (⟨#[]⟩ : ByteArray), .bool false]) ?_ 1 _ rfl; (with_reducible repeat (first | refine blk_drewN ?_ _ | refine blk_drew ?_ | refine blk_alloc ?_ _)); refine blk_put (cs := #[.int .i64 0, .int .i64 0, .int .i64 0, .int .i64 0, .string (⟨#[]⟩ : ByteArray), .string (⟨#[]⟩ : ByteArray), .bool false]) ?_ 0 _ rfl; (with_reducible repeat (first | refine blk_drewN ?_ _ | refine blk_drew ?_ | refine blk_alloc ?_ _)); exact BK116.out) Try.underlying54 rfl (by kernel_rfl)) rfl ?_
 exact ⟨by first | rfl | (simp [errW_none, errW_some] <;> rfl) | (simp [*, errW_none, errW_some] <;> rfl), by repeat (first | (with_reducible first | exact HB.out | apply below_alloc | apply pw_below_drewN | apply below_drew1 | refine below_set ?_ GE115.out | refine below_set ?_ GE116.out) | exact HB.out)⟩
end Go.Proofs.Ytbfjbcaabijpfaa.Al

namespace Go.Proofs.Ytbfjbcaabijpfaa.Al
open Go.RowKit Go.Proofs.Ytbfjbcaabijpfaa.Base Go.Proofs.Ytbfjbcaabijpfaa.LetSpec Go.Proofs.YtbfjbcaabijpfaaW.PrintWords Go.Proofs.YtbfjbcaabijpfaaW.PrintLast Go.Proofs.YtbfjbcaabijpfaaW.PrintMore
set_option linter.unusedVariables false
set_option linter.unusedSimpArgs false
def letter_Check.f (a0_0 : Int) (a0_1 : Int) (a0_2 : Int) (a0_3 : Int) (a0_4 : Int) (a0_5 : Int) (a0_6 : ByteArray) (l0_7 : List ByteArray) (l0_8 : List (S50)) : Option Int := if l0_7.length ≤ 8796093022000 ∧ l0_8.length ≤ 8796093022000 then some (chkL a0_0 a0_1 a0_2 a0_3 a0_4 a0_5 a0_6 l0_7 l0_8) else none
theorem add_zero_ (a : Addr) : a.add 0 = a := by unfold Addr.add; simp
section
variable (a0_0 : Int) (a0_1 : Int) (a0_2 : Int) (a0_3 : Int) (a0_4 : Int) (a0_5 : Int) (a0_6 : ByteArray) (A0_7 : Option Addr) (c0_7 : Nat) (l0_7 : List ByteArray) (A0_8 : Option Addr) (c0_8 : Nat) (l0_8 : List (S50)) (w : World)
set_option maxHeartbeats 8000000 in
set_option maxRecDepth 100000 in
theorem check_bad0  (g0 : ¬ (addrB a0_1 = true)) :
  Calls Try.prog 17 #[.agg #[.int .i64 a0_0, .int .i64 a0_1, .int .i64 a0_2, .int .i64 a0_3, .int .i64 a0_4, .int .i64 a0_5, .string a0_6, .slice A0_7 l0_7.length c0_7, .slice A0_8 l0_8.length c0_8]] w fun e w' => e = .returned (.int .i64 70) ∧ Below w.heap.size w w' := by
 have hu38 := Try.underlying38
 have d0 : addrB a0_1 = false := by simpa using g0
 clear g0
 go_enter Try.func17, Try.ntmps17
 go_wp2_with (first | ((with_reducible refine gate_dst (N := 1) rfl ?_); refine box_event ?hg (N := 1) ?hd (cs := #[.int .i64 a0_0, .int .i64 a0_1, .int .i64 a0_2, .int .i64 a0_3, .int .i64 a0_4, .int .i64 a0_5, .string a0_6, .slice A0_7 l0_7.length c0_7, .slice A0_8 l0_8.length c0_8]) (t := 38) ?hr ?_; (case hd => rfl); (case hg => rfl); (case hr => first | (go_simp; done) | (go_simp; rfl)); intro gl hgl w1 hbox hb; have HB := Aside0.mk hb; have BL := Aside0.mk hbox; clear hgl hb hbox; have hcz_0 : w1.cell? ⟨gl, 0, none⟩ = some (.int .i64 a0_0) := (blk_cell BL.out 0).trans rfl; have hcz_1 : w1.cell? ⟨gl, 1, none⟩ = some (.int .i64 a0_1) := (blk_cell BL.out 1).trans rfl; have hcz_2 : w1.cell? ⟨gl, 2, none⟩ = some (.int .i64 a0_2) := (blk_cell BL.out 2).trans rfl; have hcz_3 : w1.cell? ⟨gl, 3, none⟩ = some (.int .i64 a0_3) := (blk_cell BL.out 3).trans rfl; have hcz_4 : w1.cell? ⟨gl, 4, none⟩ = some (.int .i64 a0_4) := (blk_cell BL.out 4).trans rfl; have hcz_5 : w1.cell? ⟨gl, 5, none⟩ = some (.int .i64 a0_5) := (blk_cell BL.out 5).trans rfl; have hcz_6 : w1.cell? ⟨gl, 6, none⟩ = some (.string a0_6) := (blk_cell BL.out 6).trans rfl; have hcz_7 : w1.cell? ⟨gl, 7, none⟩ = some (.slice A0_7 l0_7.length c0_7) := (blk_cell BL.out 7).trans rfl; have hcz_8 : w1.cell? ⟨gl, 8, none⟩ = some (.slice A0_8 l0_8.length c0_8) := (blk_cell BL.out 8).trans rfl) | (go_at_call 33; refine (address_calls _ _).mono ?_; rintro e w' ⟨rfl, nd, rfl⟩; (try first | exact ⟨rfl, _, World.drewN_drewN _ _ _⟩)))
 go_ret
 exact ⟨rfl, by repeat (first | exact HB.out | refine pw_below_drewN ?_ _)⟩
set_option maxHeartbeats 8000000 in
set_option maxRecDepth 100000 in
theorem check_bad1 (g0 : addrB a0_1 = true) (g1 : ¬ (addrB a0_2 = true)) :
  Calls Try.prog 17 #[.agg #[.int .i64 a0_0, .int .i64 a0_1, .int .i64 a0_2, .int .i64 a0_3, .int .i64 a0_4, .int .i64 a0_5, .string a0_6, .slice A0_7 l0_7.length c0_7, .slice A0_8 l0_8.length c0_8]] w fun e w' => e = .returned (.int .i64 70) ∧ Below w.heap.size w w' := by
 have hu38 := Try.underlying38
 have d0 : addrB a0_1 = true := g0
 have d1 : addrB a0_2 = false := by simpa using g1
 clear g0 g1
 go_enter Try.func17, Try.ntmps17
 go_wp2_with (first | ((with_reducible refine gate_dst (N := 1) rfl ?_); refine box_event ?hg (N := 1) ?hd (cs := #[.int .i64 a0_0, .int .i64 a0_1, .int .i64 a0_2, .int .i64 a0_3, .int .i64 a0_4, .int .i64 a0_5, .string a0_6, .slice A0_7 l0_7.length c0_7, .slice A0_8 l0_8.length c0_8]) (t := 38) ?hr ?_; (case hd => rfl); (case hg => rfl); (case hr => first | (go_simp; done) | (go_simp; rfl)); intro gl hgl w1 hbox hb; have HB := Aside0.mk hb; have BL := Aside0.mk hbox; clear hgl hb hbox; have hcz_0 : w1.cell? ⟨gl, 0, none⟩ = some (.int .i64 a0_0) := (blk_cell BL.out 0).trans rfl; have hcz_1 : w1.cell? ⟨gl, 1, none⟩ = some (.int .i64 a0_1) := (blk_cell BL.out 1).trans rfl; have hcz_2 : w1.cell? ⟨gl, 2, none⟩ = some (.int .i64 a0_2) := (blk_cell BL.out 2).trans rfl; have hcz_3 : w1.cell? ⟨gl, 3, none⟩ = some (.int .i64 a0_3) := (blk_cell BL.out 3).trans rfl; have hcz_4 : w1.cell? ⟨gl, 4, none⟩ = some (.int .i64 a0_4) := (blk_cell BL.out 4).trans rfl; have hcz_5 : w1.cell? ⟨gl, 5, none⟩ = some (.int .i64 a0_5) := (blk_cell BL.out 5).trans rfl; have hcz_6 : w1.cell? ⟨gl, 6, none⟩ = some (.string a0_6) := (blk_cell BL.out 6).trans rfl; have hcz_7 : w1.cell? ⟨gl, 7, none⟩ = some (.slice A0_7 l0_7.length c0_7) := (blk_cell BL.out 7).trans rfl; have hcz_8 : w1.cell? ⟨gl, 8, none⟩ = some (.slice A0_8 l0_8.length c0_8) := (blk_cell BL.out 8).trans rfl) | (go_at_call 33; refine (address_calls _ _).mono ?_; rintro e w' ⟨rfl, nd, rfl⟩; (try first | exact ⟨rfl, _, World.drewN_drewN _ _ _⟩)))
 go_ret
 exact ⟨rfl, by repeat (first | exact HB.out | refine pw_below_drewN ?_ _)⟩
set_option maxHeartbeats 8000000 in
set_option maxRecDepth 100000 in
theorem check_bad2 (g0 : addrB a0_1 = true) (g1 : addrB a0_2 = true) (g2 : ¬ (1 ≤ a0_3)) :
  Calls Try.prog 17 #[.agg #[.int .i64 a0_0, .int .i64 a0_1, .int .i64 a0_2, .int .i64 a0_3, .int .i64 a0_4, .int .i64 a0_5, .string a0_6, .slice A0_7 l0_7.length c0_7, .slice A0_8 l0_8.length c0_8]] w fun e w' => e = .returned (.int .i64 70) ∧ Below w.heap.size w w' := by
 have hu38 := Try.underlying38
 have d0 : addrB a0_1 = true := g0
 have d1 : addrB a0_2 = true := g1
 have d2 : decide (a0_3 < 1) = true := decide_eq_true (by omega)
 clear g0 g1 g2
 go_enter Try.func17, Try.ntmps17
 go_wp2_with (first | ((with_reducible refine gate_dst (N := 1) rfl ?_); refine box_event ?hg (N := 1) ?hd (cs := #[.int .i64 a0_0, .int .i64 a0_1, .int .i64 a0_2, .int .i64 a0_3, .int .i64 a0_4, .int .i64 a0_5, .string a0_6, .slice A0_7 l0_7.length c0_7, .slice A0_8 l0_8.length c0_8]) (t := 38) ?hr ?_; (case hd => rfl); (case hg => rfl); (case hr => first | (go_simp; done) | (go_simp; rfl)); intro gl hgl w1 hbox hb; have HB := Aside0.mk hb; have BL := Aside0.mk hbox; clear hgl hb hbox; have hcz_0 : w1.cell? ⟨gl, 0, none⟩ = some (.int .i64 a0_0) := (blk_cell BL.out 0).trans rfl; have hcz_1 : w1.cell? ⟨gl, 1, none⟩ = some (.int .i64 a0_1) := (blk_cell BL.out 1).trans rfl; have hcz_2 : w1.cell? ⟨gl, 2, none⟩ = some (.int .i64 a0_2) := (blk_cell BL.out 2).trans rfl; have hcz_3 : w1.cell? ⟨gl, 3, none⟩ = some (.int .i64 a0_3) := (blk_cell BL.out 3).trans rfl; have hcz_4 : w1.cell? ⟨gl, 4, none⟩ = some (.int .i64 a0_4) := (blk_cell BL.out 4).trans rfl; have hcz_5 : w1.cell? ⟨gl, 5, none⟩ = some (.int .i64 a0_5) := (blk_cell BL.out 5).trans rfl; have hcz_6 : w1.cell? ⟨gl, 6, none⟩ = some (.string a0_6) := (blk_cell BL.out 6).trans rfl; have hcz_7 : w1.cell? ⟨gl, 7, none⟩ = some (.slice A0_7 l0_7.length c0_7) := (blk_cell BL.out 7).trans rfl; have hcz_8 : w1.cell? ⟨gl, 8, none⟩ = some (.slice A0_8 l0_8.length c0_8) := (blk_cell BL.out 8).trans rfl) | (go_at_call 33; refine (address_calls _ _).mono ?_; rintro e w' ⟨rfl, nd, rfl⟩; (try first | exact ⟨rfl, _, World.drewN_drewN _ _ _⟩)))
 go_ret
 exact ⟨rfl, by repeat (first | exact HB.out | refine pw_below_drewN ?_ _)⟩
set_option maxHeartbeats 8000000 in
set_option maxRecDepth 100000 in
theorem check_bad3 (g0 : addrB a0_1 = true) (g1 : addrB a0_2 = true) (g2 : 1 ≤ a0_3) (g3 : ¬ (a0_3 ≤ 1125899906842623)) :
  Calls Try.prog 17 #[.agg #[.int .i64 a0_0, .int .i64 a0_1, .int .i64 a0_2, .int .i64 a0_3, .int .i64 a0_4, .int .i64 a0_5, .string a0_6, .slice A0_7 l0_7.length c0_7, .slice A0_8 l0_8.length c0_8]] w fun e w' => e = .returned (.int .i64 70) ∧ Below w.heap.size w w' := by
 have hu38 := Try.underlying38
 have d0 : addrB a0_1 = true := g0
 have d1 : addrB a0_2 = true := g1
 have d2 : decide (a0_3 < 1) = false := decide_eq_false (by omega)
 have d3 : decide (1125899906842623 < a0_3) = true := decide_eq_true (by omega)
 clear g0 g1 g2 g3
 go_enter Try.func17, Try.ntmps17
 go_wp2_with (first | ((with_reducible refine gate_dst (N := 1) rfl ?_); refine box_event ?hg (N := 1) ?hd (cs := #[.int .i64 a0_0, .int .i64 a0_1, .int .i64 a0_2, .int .i64 a0_3, .int .i64 a0_4, .int .i64 a0_5, .string a0_6, .slice A0_7 l0_7.length c0_7, .slice A0_8 l0_8.length c0_8]) (t := 38) ?hr ?_; (case hd => rfl); (case hg => rfl); (case hr => first | (go_simp; done) | (go_simp; rfl)); intro gl hgl w1 hbox hb; have HB := Aside0.mk hb; have BL := Aside0.mk hbox; clear hgl hb hbox; have hcz_0 : w1.cell? ⟨gl, 0, none⟩ = some (.int .i64 a0_0) := (blk_cell BL.out 0).trans rfl; have hcz_1 : w1.cell? ⟨gl, 1, none⟩ = some (.int .i64 a0_1) := (blk_cell BL.out 1).trans rfl; have hcz_2 : w1.cell? ⟨gl, 2, none⟩ = some (.int .i64 a0_2) := (blk_cell BL.out 2).trans rfl; have hcz_3 : w1.cell? ⟨gl, 3, none⟩ = some (.int .i64 a0_3) := (blk_cell BL.out 3).trans rfl; have hcz_4 : w1.cell? ⟨gl, 4, none⟩ = some (.int .i64 a0_4) := (blk_cell BL.out 4).trans rfl; have hcz_5 : w1.cell? ⟨gl, 5, none⟩ = some (.int .i64 a0_5) := (blk_cell BL.out 5).trans rfl; have hcz_6 : w1.cell? ⟨gl, 6, none⟩ = some (.string a0_6) := (blk_cell BL.out 6).trans rfl; have hcz_7 : w1.cell? ⟨gl, 7, none⟩ = some (.slice A0_7 l0_7.length c0_7) := (blk_cell BL.out 7).trans rfl; have hcz_8 : w1.cell? ⟨gl, 8, none⟩ = some (.slice A0_8 l0_8.length c0_8) := (blk_cell BL.out 8).trans rfl) | (go_at_call 33; refine (address_calls _ _).mono ?_; rintro e w' ⟨rfl, nd, rfl⟩; (try first | exact ⟨rfl, _, World.drewN_drewN _ _ _⟩)))
 go_ret
 exact ⟨rfl, by repeat (first | exact HB.out | refine pw_below_drewN ?_ _)⟩
set_option maxHeartbeats 8000000 in
set_option maxRecDepth 100000 in
theorem check_bad4 (g0 : addrB a0_1 = true) (g1 : addrB a0_2 = true) (g2 : 1 ≤ a0_3) (g3 : a0_3 ≤ 1125899906842623) (g4 : ¬ (0 ≤ a0_4)) :
  Calls Try.prog 17 #[.agg #[.int .i64 a0_0, .int .i64 a0_1, .int .i64 a0_2, .int .i64 a0_3, .int .i64 a0_4, .int .i64 a0_5, .string a0_6, .slice A0_7 l0_7.length c0_7, .slice A0_8 l0_8.length c0_8]] w fun e w' => e = .returned (.int .i64 70) ∧ Below w.heap.size w w' := by
 have hu38 := Try.underlying38
 have d0 : addrB a0_1 = true := g0
 have d1 : addrB a0_2 = true := g1
 have d2 : decide (a0_3 < 1) = false := decide_eq_false (by omega)
 have d3 : decide (1125899906842623 < a0_3) = false := decide_eq_false (by omega)
 have d4 : decide (a0_4 < 0) = true := decide_eq_true (by omega)
 clear g0 g1 g2 g3 g4
 go_enter Try.func17, Try.ntmps17
 go_wp2_with (first | ((with_reducible refine gate_dst (N := 1) rfl ?_); refine box_event ?hg (N := 1) ?hd (cs := #[.int .i64 a0_0, .int .i64 a0_1, .int .i64 a0_2, .int .i64 a0_3, .int .i64 a0_4, .int .i64 a0_5, .string a0_6, .slice A0_7 l0_7.length c0_7, .slice A0_8 l0_8.length c0_8]) (t := 38) ?hr ?_; (case hd => rfl); (case hg => rfl); (case hr => first | (go_simp; done) | (go_simp; rfl)); intro gl hgl w1 hbox hb; have HB := Aside0.mk hb; have BL := Aside0.mk hbox; clear hgl hb hbox; have hcz_0 : w1.cell? ⟨gl, 0, none⟩ = some (.int .i64 a0_0) := (blk_cell BL.out 0).trans rfl; have hcz_1 : w1.cell? ⟨gl, 1, none⟩ = some (.int .i64 a0_1) := (blk_cell BL.out 1).trans rfl; have hcz_2 : w1.cell? ⟨gl, 2, none⟩ = some (.int .i64 a0_2) := (blk_cell BL.out 2).trans rfl; have hcz_3 : w1.cell? ⟨gl, 3, none⟩ = some (.int .i64 a0_3) := (blk_cell BL.out 3).trans rfl; have hcz_4 : w1.cell? ⟨gl, 4, none⟩ = some (.int .i64 a0_4) := (blk_cell BL.out 4).trans rfl; have hcz_5 : w1.cell? ⟨gl, 5, none⟩ = some (.int .i64 a0_5) := (blk_cell BL.out 5).trans rfl; have hcz_6 : w1.cell? ⟨gl, 6, none⟩ = some (.string a0_6) := (blk_cell BL.out 6).trans rfl; have hcz_7 : w1.cell? ⟨gl, 7, none⟩ = some (.slice A0_7 l0_7.length c0_7) := (blk_cell BL.out 7).trans rfl; have hcz_8 : w1.cell? ⟨gl, 8, none⟩ = some (.slice A0_8 l0_8.length c0_8) := (blk_cell BL.out 8).trans rfl) | (go_at_call 33; refine (address_calls _ _).mono ?_; rintro e w' ⟨rfl, nd, rfl⟩; (try first | exact ⟨rfl, _, World.drewN_drewN _ _ _⟩)))
 go_ret
 exact ⟨rfl, by repeat (first | exact HB.out | refine pw_below_drewN ?_ _)⟩
set_option maxHeartbeats 8000000 in
set_option maxRecDepth 100000 in
theorem check_bad5 (g0 : addrB a0_1 = true) (g1 : addrB a0_2 = true) (g2 : 1 ≤ a0_3) (g3 : a0_3 ≤ 1125899906842623) (g4 : 0 ≤ a0_4) (g5 : ¬ (a0_4 ≤ 1125899906842624)) :
  Calls Try.prog 17 #[.agg #[.int .i64 a0_0, .int .i64 a0_1, .int .i64 a0_2, .int .i64 a0_3, .int .i64 a0_4, .int .i64 a0_5, .string a0_6, .slice A0_7 l0_7.length c0_7, .slice A0_8 l0_8.length c0_8]] w fun e w' => e = .returned (.int .i64 70) ∧ Below w.heap.size w w' := by
 have hu38 := Try.underlying38
 have d0 : addrB a0_1 = true := g0
 have d1 : addrB a0_2 = true := g1
 have d2 : decide (a0_3 < 1) = false := decide_eq_false (by omega)
 have d3 : decide (1125899906842623 < a0_3) = false := decide_eq_false (by omega)
 have d4 : decide (a0_4 < 0) = false := decide_eq_false (by omega)
 have d5 : decide (1125899906842624 < a0_4) = true := decide_eq_true (by omega)
 clear g0 g1 g2 g3 g4 g5
 go_enter Try.func17, Try.ntmps17
 go_wp2_with (first | ((with_reducible refine gate_dst (N := 1) rfl ?_); refine box_event ?hg (N := 1) ?hd (cs := #[.int .i64 a0_0, .int .i64 a0_1, .int .i64 a0_2, .int .i64 a0_3, .int .i64 a0_4, .int .i64 a0_5, .string a0_6, .slice A0_7 l0_7.length c0_7, .slice A0_8 l0_8.length c0_8]) (t := 38) ?hr ?_; (case hd => rfl); (case hg => rfl); (case hr => first | (go_simp; done) | (go_simp; rfl)); intro gl hgl w1 hbox hb; have HB := Aside0.mk hb; have BL := Aside0.mk hbox; clear hgl hb hbox; have hcz_0 : w1.cell? ⟨gl, 0, none⟩ = some (.int .i64 a0_0) := (blk_cell BL.out 0).trans rfl; have hcz_1 : w1.cell? ⟨gl, 1, none⟩ = some (.int .i64 a0_1) := (blk_cell BL.out 1).trans rfl; have hcz_2 : w1.cell? ⟨gl, 2, none⟩ = some (.int .i64 a0_2) := (blk_cell BL.out 2).trans rfl; have hcz_3 : w1.cell? ⟨gl, 3, none⟩ = some (.int .i64 a0_3) := (blk_cell BL.out 3).trans rfl; have hcz_4 : w1.cell? ⟨gl, 4, none⟩ = some (.int .i64 a0_4) := (blk_cell BL.out 4).trans rfl; have hcz_5 : w1.cell? ⟨gl, 5, none⟩ = some (.int .i64 a0_5) := (blk_cell BL.out 5).trans rfl; have hcz_6 : w1.cell? ⟨gl, 6, none⟩ = some (.string a0_6) := (blk_cell BL.out 6).trans rfl; have hcz_7 : w1.cell? ⟨gl, 7, none⟩ = some (.slice A0_7 l0_7.length c0_7) := (blk_cell BL.out 7).trans rfl; have hcz_8 : w1.cell? ⟨gl, 8, none⟩ = some (.slice A0_8 l0_8.length c0_8) := (blk_cell BL.out 8).trans rfl) | (go_at_call 33; refine (address_calls _ _).mono ?_; rintro e w' ⟨rfl, nd, rfl⟩; (try first | exact ⟨rfl, _, World.drewN_drewN _ _ _⟩)))
 go_ret
 exact ⟨rfl, by repeat (first | exact HB.out | refine pw_below_drewN ?_ _)⟩
set_option maxHeartbeats 8000000 in
set_option maxRecDepth 100000 in
theorem check_bad6 (g0 : addrB a0_1 = true) (g1 : addrB a0_2 = true) (g2 : 1 ≤ a0_3) (g3 : a0_3 ≤ 1125899906842623) (g4 : 0 ≤ a0_4) (g5 : a0_4 ≤ 1125899906842624) (g6 : ¬ (0 ≤ a0_5)) :
  Calls Try.prog 17 #[.agg #[.int .i64 a0_0, .int .i64 a0_1, .int .i64 a0_2, .int .i64 a0_3, .int .i64 a0_4, .int .i64 a0_5, .string a0_6, .slice A0_7 l0_7.length c0_7, .slice A0_8 l0_8.length c0_8]] w fun e w' => e = .returned (.int .i64 70) ∧ Below w.heap.size w w' := by
 have hu38 := Try.underlying38
 have d0 : addrB a0_1 = true := g0
 have d1 : addrB a0_2 = true := g1
 have d2 : decide (a0_3 < 1) = false := decide_eq_false (by omega)
 have d3 : decide (1125899906842623 < a0_3) = false := decide_eq_false (by omega)
 have d4 : decide (a0_4 < 0) = false := decide_eq_false (by omega)
 have d5 : decide (1125899906842624 < a0_4) = false := decide_eq_false (by omega)
 have d6 : decide (a0_5 < 0) = true := decide_eq_true (by omega)
 clear g0 g1 g2 g3 g4 g5 g6
 go_enter Try.func17, Try.ntmps17
 go_wp2_with (first | ((with_reducible refine gate_dst (N := 1) rfl ?_); refine box_event ?hg (N := 1) ?hd (cs := #[.int .i64 a0_0, .int .i64 a0_1, .int .i64 a0_2, .int .i64 a0_3, .int .i64 a0_4, .int .i64 a0_5, .string a0_6, .slice A0_7 l0_7.length c0_7, .slice A0_8 l0_8.length c0_8]) (t := 38) ?hr ?_; (case hd => rfl); (case hg => rfl); (case hr => first | (go_simp; done) | (go_simp; rfl)); intro gl hgl w1 hbox hb; have HB := Aside0.mk hb; have BL := Aside0.mk hbox; clear hgl hb hbox; have hcz_0 : w1.cell? ⟨gl, 0, none⟩ = some (.int .i64 a0_0) := (blk_cell BL.out 0).trans rfl; have hcz_1 : w1.cell? ⟨gl, 1, none⟩ = some (.int .i64 a0_1) := (blk_cell BL.out 1).trans rfl; have hcz_2 : w1.cell? ⟨gl, 2, none⟩ = some (.int .i64 a0_2) := (blk_cell BL.out 2).trans rfl; have hcz_3 : w1.cell? ⟨gl, 3, none⟩ = some (.int .i64 a0_3) := (blk_cell BL.out 3).trans rfl; have hcz_4 : w1.cell? ⟨gl, 4, none⟩ = some (.int .i64 a0_4) := (blk_cell BL.out 4).trans rfl; have hcz_5 : w1.cell? ⟨gl, 5, none⟩ = some (.int .i64 a0_5) := (blk_cell BL.out 5).trans rfl; have hcz_6 : w1.cell? ⟨gl, 6, none⟩ = some (.string a0_6) := (blk_cell BL.out 6).trans rfl; have hcz_7 : w1.cell? ⟨gl, 7, none⟩ = some (.slice A0_7 l0_7.length c0_7) := (blk_cell BL.out 7).trans rfl; have hcz_8 : w1.cell? ⟨gl, 8, none⟩ = some (.slice A0_8 l0_8.length c0_8) := (blk_cell BL.out 8).trans rfl) | (go_at_call 33; refine (address_calls _ _).mono ?_; rintro e w' ⟨rfl, nd, rfl⟩; (try first | exact ⟨rfl, _, World.drewN_drewN _ _ _⟩)))
 go_ret
 exact ⟨rfl, by repeat (first | exact HB.out | refine pw_below_drewN ?_ _)⟩
set_option maxHeartbeats 8000000 in
set_option maxRecDepth 100000 in
theorem check_good (hr0_7 : Kd.C Kd.string w A0_7 l0_7.length l0_7) (hc0_7 : l0_7.length ≤ c0_7) (hr0_8 : Kd.C k50 w A0_8 l0_8.length l0_8) (hc0_8 : l0_8.length ≤ c0_8) (hl7 : l0_7.length ≤ 8796093022000) (hl8 : l0_8.length ≤ 8796093022000) (g0 : addrB a0_1 = true) (g1 : addrB a0_2 = true) (g2 : 1 ≤ a0_3) (g3 : a0_3 ≤ 1125899906842623) (g4 : 0 ≤ a0_4) (g5 : a0_4 ≤ 1125899906842624) (g6 : 0 ≤ a0_5) :
  Calls Try.prog 17 #[.agg #[.int .i64 a0_0, .int .i64 a0_1, .int .i64 a0_2, .int .i64 a0_3, .int .i64 a0_4, .int .i64 a0_5, .string a0_6, .slice A0_7 l0_7.length c0_7, .slice A0_8 l0_8.length c0_8]] w fun e w' => e = .returned (.int .i64 (fin4 a0_5 (sw a0_0 a0_5 a0_6 l0_7 l0_8))) ∧ Below w.heap.size w w' := by
 have hu38 := Try.underlying38
 have HR7 := Aside0.mk hr0_7
 have HR8 := Aside0.mk hr0_8
 have d0 : addrB a0_1 = true := g0
 have d1 : addrB a0_2 = true := g1
 have d2 : decide (a0_3 < 1) = false := decide_eq_false (by omega)
 have d3 : decide (1125899906842623 < a0_3) = false := decide_eq_false (by omega)
 have d4 : decide (a0_4 < 0) = false := decide_eq_false (by omega)
 have d5 : decide (1125899906842624 < a0_4) = false := decide_eq_false (by omega)
 have d6 : decide (a0_5 < 0) = false := decide_eq_false (by omega)
 clear hr0_7 hr0_8 g0 g1 g2 g3 g4 g5 g6
 go_enter Try.func17, Try.ntmps17
 go_wp2_with (first | ((with_reducible refine gate_dst (N := 1) rfl ?_); refine box_event ?hg (N := 1) ?hd (cs := #[.int .i64 a0_0, .int .i64 a0_1, .int .i64 a0_2, .int .i64 a0_3, .int .i64 a0_4, .int .i64 a0_5, .string a0_6, .slice A0_7 l0_7.length c0_7, .slice A0_8 l0_8.length c0_8]) (t := 38) ?hr ?_; (case hd => rfl); (case hg => rfl); (case hr => first | (go_simp; done) | (go_simp; rfl)); intro gl hgl w1 hbox hb; have HB := Aside0.mk hb; have BL := Aside0.mk hbox; clear hgl hb hbox; have hcz_0 : w1.cell? ⟨gl, 0, none⟩ = some (.int .i64 a0_0) := (blk_cell BL.out 0).trans rfl; have hcz_1 : w1.cell? ⟨gl, 1, none⟩ = some (.int .i64 a0_1) := (blk_cell BL.out 1).trans rfl; have hcz_2 : w1.cell? ⟨gl, 2, none⟩ = some (.int .i64 a0_2) := (blk_cell BL.out 2).trans rfl; have hcz_3 : w1.cell? ⟨gl, 3, none⟩ = some (.int .i64 a0_3) := (blk_cell BL.out 3).trans rfl; have hcz_4 : w1.cell? ⟨gl, 4, none⟩ = some (.int .i64 a0_4) := (blk_cell BL.out 4).trans rfl; have hcz_5 : w1.cell? ⟨gl, 5, none⟩ = some (.int .i64 a0_5) := (blk_cell BL.out 5).trans rfl; have hcz_6 : w1.cell? ⟨gl, 6, none⟩ = some (.string a0_6) := (blk_cell BL.out 6).trans rfl; have hcz_7 : w1.cell? ⟨gl, 7, none⟩ = some (.slice A0_7 l0_7.length c0_7) := (blk_cell BL.out 7).trans rfl; have hcz_8 : w1.cell? ⟨gl, 8, none⟩ = some (.slice A0_8 l0_8.length c0_8) := (blk_cell BL.out 8).trans rfl) | (go_at_call 33; refine (address_calls _ _).mono ?_; rintro e w' ⟨rfl, nd, rfl⟩; (try first | exact ⟨rfl, _, World.drewN_drewN _ _ _⟩)))
 go_quiet (fail)
 generalize eW : World.drewN w1 _ = W
 have HBq : Aside0 (Below w.heap.size w W) := ⟨by rw [← eW]; exact pw_below_drewN HB.out _⟩
 have BLq : Aside0 (W.heap[gl]? = some (.cells #[.int .i64 a0_0, .int .i64 a0_1, .int .i64 a0_2, .int .i64 a0_3, .int .i64 a0_4, .int .i64 a0_5, .string a0_6, .slice A0_7 l0_7.length c0_7, .slice A0_8 l0_8.length c0_8] 38 (0, 0))) := ⟨by rw [← eW]; exact blk_drewN BL.out _⟩
 clear eW HB BL hcz_0 hcz_1 hcz_2 hcz_3 hcz_4 hcz_5 hcz_6 hcz_7 hcz_8
 have hcz_0 : W.cell? ⟨gl, 0, none⟩ = some (.int .i64 a0_0) := (blk_cell BLq.out 0).trans rfl
 have hcz_1 : W.cell? ⟨gl, 1, none⟩ = some (.int .i64 a0_1) := (blk_cell BLq.out 1).trans rfl
 have hcz_2 : W.cell? ⟨gl, 2, none⟩ = some (.int .i64 a0_2) := (blk_cell BLq.out 2).trans rfl
 have hcz_3 : W.cell? ⟨gl, 3, none⟩ = some (.int .i64 a0_3) := (blk_cell BLq.out 3).trans rfl
 have hcz_4 : W.cell? ⟨gl, 4, none⟩ = some (.int .i64 a0_4) := (blk_cell BLq.out 4).trans rfl
 have hcz_5 : W.cell? ⟨gl, 5, none⟩ = some (.int .i64 a0_5) := (blk_cell BLq.out 5).trans rfl
 have hcz_6 : W.cell? ⟨gl, 6, none⟩ = some (.string a0_6) := (blk_cell BLq.out 6).trans rfl
 have hcz_7 : W.cell? ⟨gl, 7, none⟩ = some (.slice A0_7 l0_7.length c0_7) := (blk_cell BLq.out 7).trans rfl
 have hcz_8 : W.cell? ⟨gl, 8, none⟩ = some (.slice A0_8 l0_8.length c0_8) := (blk_cell BLq.out 8).trans rfl
 go_upto_block 0 with (fail)
 go_cut [3, 4, 5, 6] (fun v3 v4 v5 v6 wc => ∃ (m : Int) (kB wB tB : Bool), v3 = .int .i64 m ∧ v4 = .bool kB ∧ v5 = .bool wB ∧ v6 = .bool tB ∧ Aside0 (sw a0_0 a0_5 a0_6 l0_7 l0_8 = some (m, kB, wB, tB)) ∧ Aside0 (Below w.heap.size w wc) ∧ Aside0 (wc.heap[gl]? = some (.cells #[.int .i64 a0_0, .int .i64 a0_1, .int .i64 a0_2, .int .i64 a0_3, .int .i64 a0_4, .int .i64 a0_5, .string a0_6, .slice A0_7 l0_7.length c0_7, .slice A0_8 l0_8.length c0_8] 38 (0, 0))))
 case first =>
  by_cases q2 : a0_0 = 2
  ·subst q2
   by_cases hsz : a0_6.size ≤ 2052
   ·have s1 : decide ((a0_6.size : Int) ≤ 2052) = true := decide_eq_true (by omega)
    have s2 : decide (a0_6.size ≤ 2052) = true := decide_eq_true hsz
    have HS := Aside0.mk s2
    clear hsz
    by_cases he : a0_6.toList.isEmpty = true
    ·have HE := Aside0.mk he
     by_cases hk1 : l0_7.length = 1
     ·obtain ⟨ad, rfl, hx0⟩ := Kd.at_string (Kd.C_below HR7.out HBq.out) 0 (by omega) (by omega)
      have hx : W.cell? (ad.add 0) = some (.string (rdOf ByteArray.empty l0_7 0)) := hx0
      have hx1 : W.cell? ad = some (.string (rdOf ByteArray.empty l0_7 0)) := by rw [add_zero_] at hx; exact hx
      have k1 : ((l0_7.length : Int) == 1) = true := by simp; omega
      have k2 : (l0_7.length == 1) = true := by simp; omega
      have k3 : decide (0 < l0_7.length) = true := decide_eq_true (by omega)
      have k4 : decide ((0 : Int) < (l0_7.length : Int)) = true := decide_eq_true (by omega)
      have k5 : 0 < l0_7.length := by omega
      have HK1 := Aside0.mk hk1
      clear hk1 hx0
      go_wp2_with ((go_at_call 25; refine (key_calls _ _).mono ?_; rintro e w' ⟨rfl, nd, rfl⟩))
      go_meet
      case rel => exact ⟨4, (keyB (rdOf ByteArray.empty l0_7 0)), ((l0_8.length : Int) == 0), true, rfl, rfl, rfl, rfl, ⟨by simp [sw, HK1.out, HS.out, HE.out]⟩, ⟨by repeat (first | exact HBq.out | refine pw_below_drewN ?_ _)⟩, ⟨by (with_reducible repeat (first | refine blk_drewN ?_ _ | refine blk_drew ?_)); exact BLq.out⟩⟩
     ·have k1 : ((l0_7.length : Int) == 1) = false := by simp; omega
      have k2 : (l0_7.length == 1) = false := by simp; omega
      have HK1 := Aside0.mk hk1
      clear hk1
      go_wp2
      go_meet
      case rel => exact ⟨4, false, ((l0_8.length : Int) == 0), true, rfl, rfl, rfl, rfl, ⟨by simp [sw, HK1.out, HS.out, HE.out]⟩, ⟨by repeat (first | exact HBq.out | refine pw_below_drewN ?_ _)⟩, ⟨by (with_reducible repeat (first | refine blk_drewN ?_ _ | refine blk_drew ?_)); exact BLq.out⟩⟩
    ·have he2 : a0_6.toList.isEmpty = false := by simpa using he
     have HE := Aside0.mk he2
     clear he
     by_cases hc1 : a0_5 = 1
     ·have e1 : (a0_5 == 1) = true := by simpa using hc1
      have HC1 := Aside0.mk e1
      clear hc1
      by_cases hk1 : l0_7.length = 1
      ·obtain ⟨ad, rfl, hx0⟩ := Kd.at_string (Kd.C_below HR7.out HBq.out) 0 (by omega) (by omega)
       have hx : W.cell? (ad.add 0) = some (.string (rdOf ByteArray.empty l0_7 0)) := hx0
       have hx1 : W.cell? ad = some (.string (rdOf ByteArray.empty l0_7 0)) := by rw [add_zero_] at hx; exact hx
       have k1 : ((l0_7.length : Int) == 1) = true := by simp; omega
       have k2 : (l0_7.length == 1) = true := by simp; omega
       have k3 : decide (0 < l0_7.length) = true := decide_eq_true (by omega)
       have k4 : decide ((0 : Int) < (l0_7.length : Int)) = true := decide_eq_true (by omega)
       have k5 : 0 < l0_7.length := by omega
       have HK1 := Aside0.mk hk1
       clear hk1 hx0
       go_wp2_with ((go_at_call 25; refine (key_calls _ _).mono ?_; rintro e w' ⟨rfl, nd, rfl⟩))
       go_meet
       case rel => exact ⟨4, (keyB (rdOf ByteArray.empty l0_7 0)), ((l0_8.length : Int) == 0), true, rfl, rfl, rfl, rfl, ⟨by simp [sw, HK1.out, HS.out, HE.out, HC1.out]⟩, ⟨by repeat (first | exact HBq.out | refine pw_below_drewN ?_ _)⟩, ⟨by (with_reducible repeat (first | refine blk_drewN ?_ _ | refine blk_drew ?_)); exact BLq.out⟩⟩
      ·have k1 : ((l0_7.length : Int) == 1) = false := by simp; omega
       have k2 : (l0_7.length == 1) = false := by simp; omega
       have HK1 := Aside0.mk hk1
       clear hk1
       go_wp2
       go_meet
       case rel => exact ⟨4, false, ((l0_8.length : Int) == 0), true, rfl, rfl, rfl, rfl, ⟨by simp [sw, HK1.out, HS.out, HE.out, HC1.out]⟩, ⟨by repeat (first | exact HBq.out | refine pw_below_drewN ?_ _)⟩, ⟨by (with_reducible repeat (first | refine blk_drewN ?_ _ | refine blk_drew ?_)); exact BLq.out⟩⟩
     ·have e1 : (a0_5 == 1) = false := by simpa using hc1
      have HC1 := Aside0.mk e1
      clear hc1
      by_cases hk1 : l0_7.length = 1
      ·obtain ⟨ad, rfl, hx0⟩ := Kd.at_string (Kd.C_below HR7.out HBq.out) 0 (by omega) (by omega)
       have hx : W.cell? (ad.add 0) = some (.string (rdOf ByteArray.empty l0_7 0)) := hx0
       have hx1 : W.cell? ad = some (.string (rdOf ByteArray.empty l0_7 0)) := by rw [add_zero_] at hx; exact hx
       have k1 : ((l0_7.length : Int) == 1) = true := by simp; omega
       have k2 : (l0_7.length == 1) = true := by simp; omega
       have k3 : decide (0 < l0_7.length) = true := decide_eq_true (by omega)
       have k4 : decide ((0 : Int) < (l0_7.length : Int)) = true := decide_eq_true (by omega)
       have k5 : 0 < l0_7.length := by omega
       have HK1 := Aside0.mk hk1
       clear hk1 hx0
       go_wp2_with ((go_at_call 25; refine (key_calls _ _).mono ?_; rintro e w' ⟨rfl, nd, rfl⟩))
       go_meet
       case rel => exact ⟨4, (keyB (rdOf ByteArray.empty l0_7 0)), ((l0_8.length : Int) == 0), false, rfl, rfl, rfl, rfl, ⟨by simp [sw, HK1.out, HS.out, HE.out, HC1.out]⟩, ⟨by repeat (first | exact HBq.out | refine pw_below_drewN ?_ _)⟩, ⟨by (with_reducible repeat (first | refine blk_drewN ?_ _ | refine blk_drew ?_)); exact BLq.out⟩⟩
      ·have k1 : ((l0_7.length : Int) == 1) = false := by simp; omega
       have k2 : (l0_7.length == 1) = false := by simp; omega
       have HK1 := Aside0.mk hk1
       clear hk1
       go_wp2
       go_meet
       case rel => exact ⟨4, false, ((l0_8.length : Int) == 0), false, rfl, rfl, rfl, rfl, ⟨by simp [sw, HK1.out, HS.out, HE.out, HC1.out]⟩, ⟨by repeat (first | exact HBq.out | refine pw_below_drewN ?_ _)⟩, ⟨by (with_reducible repeat (first | refine blk_drewN ?_ _ | refine blk_drew ?_)); exact BLq.out⟩⟩
   ·have s1 : decide ((a0_6.size : Int) ≤ 2052) = false := decide_eq_false (by omega)
    have s2 : decide (a0_6.size ≤ 2052) = false := decide_eq_false hsz
    have HS := Aside0.mk s2
    clear hsz
    by_cases hk1 : l0_7.length = 1
    ·obtain ⟨ad, rfl, hx0⟩ := Kd.at_string (Kd.C_below HR7.out HBq.out) 0 (by omega) (by omega)
     have hx : W.cell? (ad.add 0) = some (.string (rdOf ByteArray.empty l0_7 0)) := hx0
     have hx1 : W.cell? ad = some (.string (rdOf ByteArray.empty l0_7 0)) := by rw [add_zero_] at hx; exact hx
     have k1 : ((l0_7.length : Int) == 1) = true := by simp; omega
     have k2 : (l0_7.length == 1) = true := by simp; omega
     have k3 : decide (0 < l0_7.length) = true := decide_eq_true (by omega)
     have k4 : decide ((0 : Int) < (l0_7.length : Int)) = true := decide_eq_true (by omega)
     have k5 : 0 < l0_7.length := by omega
     have HK1 := Aside0.mk hk1
     clear hk1 hx0
     go_wp2_with ((go_at_call 25; refine (key_calls _ _).mono ?_; rintro e w' ⟨rfl, nd, rfl⟩))
     go_meet
     case rel => exact ⟨4, (keyB (rdOf ByteArray.empty l0_7 0)), ((l0_8.length : Int) == 0), false, rfl, rfl, rfl, rfl, ⟨by simp [sw, HK1.out, HS.out]⟩, ⟨by repeat (first | exact HBq.out | refine pw_below_drewN ?_ _)⟩, ⟨by (with_reducible repeat (first | refine blk_drewN ?_ _ | refine blk_drew ?_)); exact BLq.out⟩⟩
    ·have k1 : ((l0_7.length : Int) == 1) = false := by simp; omega
     have k2 : (l0_7.length == 1) = false := by simp; omega
     have HK1 := Aside0.mk hk1
     clear hk1
     go_wp2
     go_meet
     case rel => exact ⟨4, false, ((l0_8.length : Int) == 0), false, rfl, rfl, rfl, rfl, ⟨by simp [sw, HK1.out, HS.out]⟩, ⟨by repeat (first | exact HBq.out | refine pw_below_drewN ?_ _)⟩, ⟨by (with_reducible repeat (first | refine blk_drewN ?_ _ | refine blk_drew ?_)); exact BLq.out⟩⟩
  ·by_cases q1 : a0_0 = 1
   ·subst q1
    clear q2
    by_cases hk1 : l0_7.length = 1
    ·obtain ⟨ad, rfl, hx0⟩ := Kd.at_string (Kd.C_below HR7.out HBq.out) 0 (by omega) (by omega)
     have hx : W.cell? (ad.add 0) = some (.string (rdOf ByteArray.empty l0_7 0)) := hx0
     have hx1 : W.cell? ad = some (.string (rdOf ByteArray.empty l0_7 0)) := by rw [add_zero_] at hx; exact hx
     have k1 : ((l0_7.length : Int) == 1) = true := by simp; omega
     have k2 : (l0_7.length == 1) = true := by simp; omega
     have k3 : decide (0 < l0_7.length) = true := decide_eq_true (by omega)
     have k4 : decide ((0 : Int) < (l0_7.length : Int)) = true := decide_eq_true (by omega)
     have k5 : 0 < l0_7.length := by omega
     have HK1 := Aside0.mk hk1
     clear hk1 hx0
     go_wp2_with ((go_at_call 25; refine (key_calls _ _).mono ?_; rintro e w' ⟨rfl, nd, rfl⟩))
     go_meet
     case rel => exact ⟨0, (keyB (rdOf ByteArray.empty l0_7 0)), ((l0_8.length : Int) == 0), a0_6.toList.isEmpty, rfl, rfl, rfl, rfl, ⟨by simp [sw, HK1.out]⟩, ⟨by repeat (first | exact HBq.out | refine pw_below_drewN ?_ _)⟩, ⟨by (with_reducible repeat (first | refine blk_drewN ?_ _ | refine blk_drew ?_)); exact BLq.out⟩⟩
    ·have k1 : ((l0_7.length : Int) == 1) = false := by simp; omega
     have k2 : (l0_7.length == 1) = false := by simp; omega
     have HK1 := Aside0.mk hk1
     clear hk1
     go_wp2
     go_meet
     case rel => exact ⟨0, false, ((l0_8.length : Int) == 0), a0_6.toList.isEmpty, rfl, rfl, rfl, rfl, ⟨by simp [sw, HK1.out]⟩, ⟨by repeat (first | exact HBq.out | refine pw_below_drewN ?_ _)⟩, ⟨by (with_reducible repeat (first | refine blk_drewN ?_ _ | refine blk_drew ?_)); exact BLq.out⟩⟩
   ·by_cases q3 : a0_0 = 3
    ·subst q3
     clear q2 q1
     by_cases h16 : l0_7.length ≤ 16
     ·have k1 : decide ((l0_7.length : Int) ≤ 16) = true := decide_eq_true (by omega)
      have k2 : decide (l0_7.length ≤ 16) = true := decide_eq_true h16
      have HK := Aside0.mk k2
      clear h16
      go_wp2_with (first | (go_at_call 34; refine (rising_calls _ A0_7 c0_7 l0_7 (Kd.C_below HR7.out (show Below w.heap.size w _ from by repeat (first | exact HBq.out | refine pw_below_drewN ?_ _))) hc0_7 hl7).mono ?_; rintro e w' ⟨rfl, nd, rfl⟩) | (go_at_call 35; refine (writes_calls _ A0_8 c0_8 l0_8 (Kd.C_below HR8.out (show Below w.heap.size w _ from by repeat (first | exact HBq.out | refine pw_below_drewN ?_ _))) hc0_8 hl8).mono ?_; rintro e w9 ⟨rfl, hb⟩; have HB9 := Aside0.mk (below_step (show Below w.heap.size w _ from by repeat (first | exact HBq.out | refine pw_below_drewN ?_ _)) hb); have BL9 := Aside0.mk (blk_below (show _ = some (Obj.cells #[.int .i64 3, .int .i64 a0_1, .int .i64 a0_2, .int .i64 a0_3, .int .i64 a0_4, .int .i64 a0_5, .string a0_6, .slice A0_7 l0_7.length c0_7, .slice A0_8 l0_8.length c0_8] 38 (0, 0)) from by (with_reducible repeat (first | refine blk_drewN ?_ _ | refine blk_drew ?_)); exact BLq.out) hb); clear hb))
      go_meet
      case rel => exact ⟨0, risB l0_7, wriB l0_8, a0_6.toList.isEmpty, rfl, rfl, rfl, rfl, ⟨by simp [sw, HK.out]⟩, ⟨HB9.out⟩, ⟨BL9.out⟩⟩
     ·have k1 : decide ((l0_7.length : Int) ≤ 16) = false := decide_eq_false (by omega)
      have k2 : decide (l0_7.length ≤ 16) = false := decide_eq_false h16
      have HK := Aside0.mk k2
      clear h16
      go_wp2_with ((go_at_call 35; refine (writes_calls _ A0_8 c0_8 l0_8 (Kd.C_below HR8.out (show Below w.heap.size w _ from by repeat (first | exact HBq.out | refine pw_below_drewN ?_ _))) hc0_8 hl8).mono ?_; rintro e w9 ⟨rfl, hb⟩; have HB9 := Aside0.mk (below_step (show Below w.heap.size w _ from by repeat (first | exact HBq.out | refine pw_below_drewN ?_ _)) hb); have BL9 := Aside0.mk (blk_below (show _ = some (Obj.cells #[.int .i64 3, .int .i64 a0_1, .int .i64 a0_2, .int .i64 a0_3, .int .i64 a0_4, .int .i64 a0_5, .string a0_6, .slice A0_7 l0_7.length c0_7, .slice A0_8 l0_8.length c0_8] 38 (0, 0)) from by (with_reducible repeat (first | refine blk_drewN ?_ _ | refine blk_drew ?_)); exact BLq.out) hb); clear hb))
      go_meet
      case rel => exact ⟨0, false, wriB l0_8, a0_6.toList.isEmpty, rfl, rfl, rfl, rfl, ⟨by simp [sw, HK.out]⟩, ⟨HB9.out⟩, ⟨BL9.out⟩⟩
    ·by_cases q8 : a0_0 = 8
     ·subst q8
      clear q2 q1 q3
      go_wp2
      go_meet
      case rel => exact ⟨2, ((l0_7.length : Int) == 0), ((l0_8.length : Int) == 0), a0_6.toList.isEmpty, rfl, rfl, rfl, rfl, ⟨by simp [sw]⟩, ⟨by repeat (first | exact HBq.out | refine pw_below_drewN ?_ _)⟩, ⟨by (with_reducible repeat (first | refine blk_drewN ?_ _ | refine blk_drew ?_)); exact BLq.out⟩⟩
     ·by_cases q4 : a0_0 = 4
      ·subst q4
       clear q2 q1 q3 q8
       go_wp2
       go_meet
       case rel => exact ⟨1, ((l0_7.length : Int) == 0), ((l0_8.length : Int) == 0), a0_6.toList.isEmpty, rfl, rfl, rfl, rfl, ⟨by simp [sw]⟩, ⟨by repeat (first | exact HBq.out | refine pw_below_drewN ?_ _)⟩, ⟨by (with_reducible repeat (first | refine blk_drewN ?_ _ | refine blk_drew ?_)); exact BLq.out⟩⟩
      ·by_cases q5 : a0_0 = 5
       ·subst q5
        clear q2 q1 q3 q8 q4
        go_wp2
        go_meet
        case rel => exact ⟨0, ((l0_7.length : Int) == 0), ((l0_8.length : Int) == 0), a0_6.toList.isEmpty, rfl, rfl, rfl, rfl, ⟨by simp [sw]⟩, ⟨by repeat (first | exact HBq.out | refine pw_below_drewN ?_ _)⟩, ⟨by (with_reducible repeat (first | refine blk_drewN ?_ _ | refine blk_drew ?_)); exact BLq.out⟩⟩
       ·by_cases q6 : a0_0 = 6
        ·subst q6
         clear q2 q1 q3 q8 q4 q5
         go_wp2
         go_meet
         case rel => exact ⟨0, ((l0_7.length : Int) == 0), ((l0_8.length : Int) == 0), a0_6.toList.isEmpty, rfl, rfl, rfl, rfl, ⟨by simp [sw]⟩, ⟨by repeat (first | exact HBq.out | refine pw_below_drewN ?_ _)⟩, ⟨by (with_reducible repeat (first | refine blk_drewN ?_ _ | refine blk_drew ?_)); exact BLq.out⟩⟩
        ·by_cases q7 : a0_0 = 7
         ·subst q7
          clear q2 q1 q3 q8 q4 q5 q6
          go_wp2
          go_meet
          case rel => exact ⟨0, ((l0_7.length : Int) == 0), ((l0_8.length : Int) == 0), a0_6.toList.isEmpty, rfl, rfl, rfl, rfl, ⟨by simp [sw]⟩, ⟨by repeat (first | exact HBq.out | refine pw_below_drewN ?_ _)⟩, ⟨by (with_reducible repeat (first | refine blk_drewN ?_ _ | refine blk_drew ?_)); exact BLq.out⟩⟩
         ·have hsw : sw a0_0 a0_5 a0_6 l0_7 l0_8 = none := by unfold sw; rw [if_neg q2, if_neg q1, if_neg q3, if_neg q8, if_neg q4, if_neg (by omega)]
          have e2 : (a0_0 == 2) = false := by simpa using q2
          have e1 : (a0_0 == 1) = false := by simpa using q1
          have e3 : (a0_0 == 3) = false := by simpa using q3
          have e8 : (a0_0 == 8) = false := by simpa using q8
          have e4 : (a0_0 == 4) = false := by simpa using q4
          have e5 : (a0_0 == 5) = false := by simpa using q5
          have e6 : (a0_0 == 6) = false := by simpa using q6
          have e7 : (a0_0 == 7) = false := by simpa using q7
          have HSW := Aside0.mk hsw
          clear hsw q2 q1 q3 q8 q4 q5 q6 q7
          go_wp2
          go_ret
          exact ⟨by rw [HSW.out]; rfl, by repeat (first | exact HBq.out | refine pw_below_drewN ?_ _)⟩
 case rest =>
  obtain ⟨m, kB, wB, tB, rfl, rfl, rfl, rfl, HS, HB, BL⟩ := hcut
  have hv := HS.out
  by_cases h1 : a0_5 ≤ m
  ·have c1 : decide (m < a0_5) = false := decide_eq_false (by omega)
   cases kB with
   |false =>
    have HV := Aside0.mk (show fin4 a0_5 (sw a0_0 a0_5 a0_6 l0_7 l0_8) = 70 from by rw [hv]; simp [fin4])
    clear h1 hv HS
    have hcz_5 : wc.cell? ⟨gl, 5, none⟩ = some (.int .i64 a0_5) := (blk_cell BL.out 5).trans rfl
    go_wp2
    go_ret
    exact ⟨by rw [HV.out]; rfl, HB.out⟩
   |true =>
    cases wB with
    |false =>
     have HV := Aside0.mk (show fin4 a0_5 (sw a0_0 a0_5 a0_6 l0_7 l0_8) = 70 from by rw [hv]; simp [fin4])
     clear h1 hv HS
     have hcz_5 : wc.cell? ⟨gl, 5, none⟩ = some (.int .i64 a0_5) := (blk_cell BL.out 5).trans rfl
     go_wp2
     go_ret
     exact ⟨by rw [HV.out]; rfl, HB.out⟩
    |true =>
     cases tB with
     |false =>
      have HV := Aside0.mk (show fin4 a0_5 (sw a0_0 a0_5 a0_6 l0_7 l0_8) = 70 from by rw [hv]; simp [fin4])
      clear h1 hv HS
      have hcz_5 : wc.cell? ⟨gl, 5, none⟩ = some (.int .i64 a0_5) := (blk_cell BL.out 5).trans rfl
      go_wp2
      go_ret
      exact ⟨by rw [HV.out]; rfl, HB.out⟩
     |true =>
      have HV := Aside0.mk (show fin4 a0_5 (sw a0_0 a0_5 a0_6 l0_7 l0_8) = 0 from by rw [hv]; simp [fin4, h1])
      clear h1 hv HS
      have hcz_5 : wc.cell? ⟨gl, 5, none⟩ = some (.int .i64 a0_5) := (blk_cell BL.out 5).trans rfl
      go_wp2
      go_ret
      exact ⟨by rw [HV.out]; rfl, HB.out⟩
  ·have c1 : decide (m < a0_5) = true := decide_eq_true (by omega)
   have HV := Aside0.mk (show fin4 a0_5 (sw a0_0 a0_5 a0_6 l0_7 l0_8) = 70 from by rw [hv]; simp [fin4]; omega)
   clear h1 hv HS
   have hcz_5 : wc.cell? ⟨gl, 5, none⟩ = some (.int .i64 a0_5) := (blk_cell BL.out 5).trans rfl
   go_wp2
   go_ret
   exact ⟨by rw [HV.out]; rfl, HB.out⟩
end
theorem letter_Check.calls (a0_0 : Int) (a0_1 : Int) (a0_2 : Int) (a0_3 : Int) (a0_4 : Int) (a0_5 : Int) (a0_6 : ByteArray) (A0_7 : Option Addr) (c0_7 : Nat) (l0_7 : List ByteArray) (A0_8 : Option Addr) (c0_8 : Nat) (l0_8 : List (S50)) (r : Int) (w : World) (hr0_7 : Kd.C Kd.string w A0_7 l0_7.length l0_7) (hc0_7 : l0_7.length ≤ c0_7) (hr0_8 : Kd.C k50 w A0_8 l0_8.length l0_8) (hc0_8 : l0_8.length ≤ c0_8) (h : letter_Check.f a0_0 a0_1 a0_2 a0_3 a0_4 a0_5 a0_6 l0_7 l0_8 = some r) :
  Calls Try.prog 17 #[.agg #[.int .i64 a0_0, .int .i64 a0_1, .int .i64 a0_2, .int .i64 a0_3, .int .i64 a0_4, .int .i64 a0_5, .string a0_6, .slice A0_7 l0_7.length c0_7, .slice A0_8 l0_8.length c0_8]] w fun e w' => e = .returned (.int .i64 r) ∧ Below w.heap.size w w' := by
 unfold letter_Check.f at h
 split at h
 case isFalse => cases h
 rename_i hl
 obtain rfl := Option.some.inj h
 obtain ⟨hl7, hl8⟩ := hl
 unfold chkL
 by_cases g0 : addrB a0_1 = true
 case neg => rw [if_neg (fun hc => g0 hc.1)]; exact check_bad0 _ _ _ _ _ _ _ _ _ _ _ _ _ _ g0
 by_cases g1 : addrB a0_2 = true
 case neg => rw [if_neg (fun hc => g1 hc.2.1)]; exact check_bad1 _ _ _ _ _ _ _ _ _ _ _ _ _ _ g0 g1
 by_cases g2 : 1 ≤ a0_3
 case neg => rw [if_neg (fun hc => g2 hc.2.2.1)]; exact check_bad2 _ _ _ _ _ _ _ _ _ _ _ _ _ _ g0 g1 g2
 by_cases g3 : a0_3 ≤ 1125899906842623
 case neg => rw [if_neg (fun hc => g3 hc.2.2.2.1)]; exact check_bad3 _ _ _ _ _ _ _ _ _ _ _ _ _ _ g0 g1 g2 g3
 by_cases g4 : 0 ≤ a0_4
 case neg => rw [if_neg (fun hc => g4 hc.2.2.2.2.1)]; exact check_bad4 _ _ _ _ _ _ _ _ _ _ _ _ _ _ g0 g1 g2 g3 g4
 by_cases g5 : a0_4 ≤ 1125899906842624
 case neg => rw [if_neg (fun hc => g5 hc.2.2.2.2.2.1)]; exact check_bad5 _ _ _ _ _ _ _ _ _ _ _ _ _ _ g0 g1 g2 g3 g4 g5
 by_cases g6 : 0 ≤ a0_5
 case neg => rw [if_neg (fun hc => g6 hc.2.2.2.2.2.2)]; exact check_bad6 _ _ _ _ _ _ _ _ _ _ _ _ _ _ g0 g1 g2 g3 g4 g5 g6
 rw [if_pos ⟨g0, g1, g2, g3, g4, g5, g6⟩]
 exact check_good _ _ _ _ _ _ _ _ _ _ _ _ _ _ hr0_7 hc0_7 hr0_8 hc0_8 hl7 hl8 g0 g1 g2 g3 g4 g5 g6
end Go.Proofs.Ytbfjbcaabijpfaa.Al

namespace Go.Proofs.Ytbfjbcaabijpfaa.Al
open Go.RowKit Go.Proofs.YtbfjbcaabijpfaaW.PrintWords Go.Proofs.YtbfjbcaabijpfaaW.PrintLast Go.Proofs.YtbfjbcaabijpfaaW.PrintMore
attribute [local go_sem] max2_int min2_int max_two min_two max_three min_three max_four min_four   -- for this text's walks alone
set_option linter.unusedVariables false
set_option linter.unusedSimpArgs false
def record_listed.f (a0_0 : Int) (a0_1 : Int) (a0_2 : Int) (a0_3 : Int) (a0_4 : ByteArray) (a0_5 : ByteArray) (a0_6 : Bool) (l0_7 : List ByteArray) (l0_8 : List (S50)) : Option (Bool) := (letter_Check.f 3 0 0 1 0 0 (⟨#[]⟩ : ByteArray) l0_7 l0_8).bind fun t131 => (some (t131 == 0))
set_option maxHeartbeats 8000000 in
set_option maxRecDepth 100000 in
theorem record_listed.calls (a0_0 : Int) (a0_1 : Int) (a0_2 : Int) (a0_3 : Int) (a0_4 : ByteArray) (a0_5 : ByteArray) (a0_6 : Bool) (A0_7 : Option Addr) (c0_7 : Nat) (l0_7 : List ByteArray) (A0_8 : Option Addr) (c0_8 : Nat) (l0_8 : List (S50)) (r : Bool) (w : World) (hr0_7 : Kd.C Kd.string w A0_7 l0_7.length l0_7) (hc0_7 : l0_7.length ≤ c0_7) (hr0_8 : Kd.C k50 w A0_8 l0_8.length l0_8) (hc0_8 : l0_8.length ≤ c0_8) (h : record_listed.f a0_0 a0_1 a0_2 a0_3 a0_4 a0_5 a0_6 l0_7 l0_8 = some r) :
  Calls Try.prog 24 #[.agg #[.int .i64 a0_0, .int .i64 a0_1, .int .i64 a0_2, .int .i64 a0_3, .string a0_4, .string a0_5, .bool a0_6, .slice A0_7 l0_7.length c0_7, .slice A0_8 l0_8.length c0_8]] w fun e w' => e = .returned (.bool r) ∧ Below w.heap.size w w' := by
 have hu25 := Try.underlying25
 have hu38 := Try.underlying38
 have HR0_7 := Aside0.mk hr0_7
 have HC0_7 := Aside0.mk hc0_7
 clear hr0_7 hc0_7
 have HR0_8 := Aside0.mk hr0_8
 have HC0_8 := Aside0.mk hc0_8
 clear hr0_8 hc0_8
 have HB := Aside0.mk (Below.refl w.heap.size w)
 have H : ((letter_Check.f 3 0 0 1 0 0 (⟨#[]⟩ : ByteArray) l0_7 l0_8).bind fun t131 => (some (t131 == 0))) = some r := h
 clear h
 replace H := Option.bind_eq_some_iff.mp H
 obtain ⟨t131, A20, H⟩ := H
 replace H : (some (t131 == 0)) = some r := H
 have A2 := Aside0.mk A20
 clear A20
 obtain rfl := Option.some.inj H
 go_enter Try.func24, Try.ntmps24
 go_wp2_with (first | ((with_reducible refine gate_dst (N := 1) rfl ?_); refine box_event ?hg (N := 1) ?hd (cs := #[.int .i64 a0_0, .int .i64 a0_1, .int .i64 a0_2, .int .i64 a0_3, .string a0_4, .string a0_5, .bool a0_6, .slice A0_7 l0_7.length c0_7, .slice A0_8 l0_8.length c0_8]) (t := 25) ?hr ?_; (case hd => rfl); (case hg => rfl); (case hr => first | (go_simp; done) | (go_simp; rfl)); intro gb129 hg w3 hbox hb; have n0_ := Aside0.mk (below_step (by repeat (first | (with_reducible first | exact HB.out | apply below_alloc | apply pw_below_drewN | apply below_drew1) | exact HB.out)) hb); have n1_ := Aside0.mk (hbox); have n2_ := Aside0.mk ((by rw [hg]; exact (below_size (by repeat (first | (with_reducible first | exact HB.out | apply below_alloc | apply pw_below_drewN | apply below_drew1) | exact HB.out))) : w.heap.size ≤ gb129)); have n3_ := Aside0.mk ((by rw [hg]; exact (below_size (by repeat (first | (with_reducible first | exact HB.out | apply below_alloc | apply pw_below_drewN | apply below_drew1) | exact HB.out))) : w.heap.size ≤ gb129)); clear HB; have HB := n0_; have BK129 := n1_; have GW129 := n2_; have GE129 := n3_; clear n0_ n1_ n2_ n3_; clear hb hbox hg; have hcz4_0 : w3.cell? ⟨gb129, 0, none⟩ = some (.int .i64 a0_0) := (blk_cell BK129.out 0).trans rfl; have hcz4_1 : w3.cell? ⟨gb129, 1, none⟩ = some (.int .i64 a0_1) := (blk_cell BK129.out 1).trans rfl; have hcz4_2 : w3.cell? ⟨gb129, 2, none⟩ = some (.int .i64 a0_2) := (blk_cell BK129.out 2).trans rfl; have hcz4_3 : w3.cell? ⟨gb129, 3, none⟩ = some (.int .i64 a0_3) := (blk_cell BK129.out 3).trans rfl; have hcz4_4 : w3.cell? ⟨gb129, 4, none⟩ = some (.string a0_4) := (blk_cell BK129.out 4).trans rfl; have hcz4_5 : w3.cell? ⟨gb129, 5, none⟩ = some (.string a0_5) := (blk_cell BK129.out 5).trans rfl; have hcz4_6 : w3.cell? ⟨gb129, 6, none⟩ = some (.bool a0_6) := (blk_cell BK129.out 6).trans rfl; have hcz4_7 : w3.cell? ⟨gb129, 7, none⟩ = some (.slice A0_7 l0_7.length c0_7) := (blk_cell BK129.out 7).trans rfl; have hcz4_8 : w3.cell? ⟨gb129, 8, none⟩ = some (.slice A0_8 l0_8.length c0_8) := (blk_cell BK129.out 8).trans rfl; have hfz4_0 := blk_frozen BK129.out 0; have hfz4_1 := blk_frozen BK129.out 1; have hfz4_2 := blk_frozen BK129.out 2; have hfz4_3 := blk_frozen BK129.out 3; have hfz4_4 := blk_frozen BK129.out 4; have hfz4_5 := blk_frozen BK129.out 5; have hfz4_6 := blk_frozen BK129.out 6; have hfz4_7 := blk_frozen BK129.out 7; have hfz4_8 := blk_frozen BK129.out 8) | ((with_reducible refine gate_dst (N := 3) rfl ?_); refine box_event ?hg (N := 3) ?hd (cs := #[.int .i64 0, .int .i64 0, .int .i64 0, .int .i64 0, .int .i64 0, .int .i64 0, .string (⟨#[]⟩ : ByteArray), .slice none 0 0, .slice none 0 0]) (t := 38) ?hr ?_; (case hd => rfl); (case hg => rfl); (case hr => first | (go_simp; done) | (go_simp; rfl)); intro gb130 hg w5 hbox hb; have n0_ := Aside0.mk (blk_below (g := gb129) (o := .cells #[.int .i64 a0_0, .int .i64 a0_1, .int .i64 a0_2, .int .i64 a0_3, .string a0_4, .string a0_5, .bool a0_6, .slice A0_7 l0_7.length c0_7, .slice A0_8 l0_8.length c0_8] 25 (0, 0)) (by (with_reducible repeat (first | refine blk_drewN ?_ _ | refine blk_drew ?_ | refine blk_alloc ?_ _)); exact BK129.out) hb); have n1_ := Aside0.mk (below_step (by repeat (first | (with_reducible first | exact HB.out | apply below_alloc | apply pw_below_drewN | apply below_drew1 | refine below_set ?_ GE129.out) | exact HB.out)) hb); have n2_ := Aside0.mk (hbox); have n3_ := Aside0.mk ((by rw [hg]; exact (below_size (by repeat (first | (with_reducible first | exact HB.out | apply below_alloc | apply pw_below_drewN | apply below_drew1 | refine below_set ?_ GE129.out) | exact HB.out))) : w.heap.size ≤ gb130)); have n4_ := Aside0.mk ((by rw [hg]; exact (below_size (by repeat (first | (with_reducible first | exact HB.out | apply below_alloc | apply pw_below_drewN | apply below_drew1 | refine below_set ?_ GE129.out) | exact HB.out))) : w.heap.size ≤ gb130)); have n5_ := Aside0.mk ((by rw [hg]; exact Nat.ne_of_lt (blk_lt (g := gb129) (o := .cells #[.int .i64 a0_0, .int .i64 a0_1, .int .i64 a0_2, .int .i64 a0_3, .string a0_4, .string a0_5, .bool a0_6, .slice A0_7 l0_7.length c0_7, .slice A0_8 l0_8.length c0_8] 25 (0, 0)) (by (with_reducible repeat (first | refine blk_drewN ?_ _ | refine blk_drew ?_ | refine blk_alloc ?_ _)); exact BK129.out)) : gb129 ≠ gb130)); have n6_ := Aside0.mk ((by rw [hg]; exact Nat.ne_of_gt (blk_lt (g := gb129) (o := .cells #[.int .i64 a0_0, .int .i64 a0_1, .int .i64 a0_2, .int .i64 a0_3, .string a0_4, .string a0_5, .bool a0_6, .slice A0_7 l0_7.length c0_7, .slice A0_8 l0_8.length c0_8] 25 (0, 0)) (by (with_reducible repeat (first | refine blk_drewN ?_ _ | refine blk_drew ?_ | refine blk_alloc ?_ _)); exact BK129.out)) : gb130 ≠ gb129)); clear BK129; clear HB; have BK129 := n0_; have HB := n1_; have BK130 := n2_; have GW130 := n3_; have GE130 := n4_; have NB129_130 := n5_; have NB130_129 := n6_; clear n0_ n1_ n2_ n3_ n4_ n5_ n6_; clear hb hbox hg; have hnb6 := NB130_129.out; have hnc6 := NB129_130.out; have hcz7_0 : w5.cell? ⟨gb130, 0, none⟩ = some (.int .i64 0) := (blk_cell BK130.out 0).trans rfl; have hcz7_1 : w5.cell? ⟨gb130, 1, none⟩ = some (.int .i64 0) := (blk_cell BK130.out 1).trans rfl; have hcz7_2 : w5.cell? ⟨gb130, 2, none⟩ = some (.int .i64 0) := (blk_cell BK130.out 2).trans rfl; have hcz7_3 : w5.cell? ⟨gb130, 3, none⟩ = some (.int .i64 0) := (blk_cell BK130.out 3).trans rfl; have hcz7_4 : w5.cell? ⟨gb130, 4, none⟩ = some (.int .i64 0) := (blk_cell BK130.out 4).trans rfl; have hcz7_5 : w5.cell? ⟨gb130, 5, none⟩ = some (.int .i64 0) := (blk_cell BK130.out 5).trans rfl; have hcz7_6 : w5.cell? ⟨gb130, 6, none⟩ = some (.string (⟨#[]⟩ : ByteArray)) := (blk_cell BK130.out 6).trans rfl; have hcz7_7 : w5.cell? ⟨gb130, 7, none⟩ = some (.slice none 0 0) := (blk_cell BK130.out 7).trans rfl; have hcz7_8 : w5.cell? ⟨gb130, 8, none⟩ = some (.slice none 0 0) := (blk_cell BK130.out 8).trans rfl; have hfz7_0 := blk_frozen BK130.out 0; have hfz7_1 := blk_frozen BK130.out 1; have hfz7_2 := blk_frozen BK130.out 2; have hfz7_3 := blk_frozen BK130.out 3; have hfz7_4 := blk_frozen BK130.out 4; have hfz7_5 := blk_frozen BK130.out 5; have hfz7_6 := blk_frozen BK130.out 6; have hfz7_7 := blk_frozen BK130.out 7; have hfz7_8 := blk_frozen BK130.out 8) | ((with_reducible refine gate_callee (f := 17) rfl ?_); refine goesL_ (some 10) rfl rfl Try.func17 (by kernel_rfl) rfl #[.agg #[.int .i64 3, .int .i64 0, .int .i64 0, .int .i64 1, .int .i64 0, .int .i64 0, .string (⟨#[]⟩ : ByteArray), .slice A0_7 l0_7.length c0_7, .slice A0_8 l0_8.length c0_8]] rfl (by (try simp only [List.map_toArray, List.map_cons, List.map_nil]); first | done | rfl | (simp only [List.length_drop, List.length_take]; rfl)) ?_; (with_reducible refine (letter_Check.calls 3 0 0 1 0 0 (⟨#[]⟩ : ByteArray) _ _ l0_7 _ _ l0_8 t131 _ ?side1 ?side2 ?side3 ?side4 A2.out).mono ?_); (case side1 => exact Kd.C_below HR0_7.out (by repeat (first | (with_reducible first | exact HB.out | apply below_alloc | apply pw_below_drewN | apply below_drew1 | refine below_set ?_ GE129.out | refine below_set ?_ GE130.out) | exact HB.out))); (case side2 => exact HC0_7.out); (case side3 => exact Kd.C_below HR0_8.out (by repeat (first | (with_reducible first | exact HB.out | apply below_alloc | apply pw_below_drewN | apply below_drew1 | refine below_set ?_ GE129.out | refine below_set ?_ GE130.out) | exact HB.out))); (case side4 => exact HC0_8.out); rintro e w8 ⟨rfl, hb⟩; refine ⟨_, rfl, ?_⟩; have n0_ := Aside0.mk (blk_below (g := gb129) (o := .cells #[.int .i64 a0_0, .int .i64 a0_1, .int .i64 a0_2, .int .i64 a0_3, .string a0_4, .string a0_5, .bool a0_6, .slice A0_7 l0_7.length c0_7, .slice A0_8 l0_8.length c0_8] 25 (0, 0)) (by (with_reducible repeat (first | refine blk_drewN ?_ _ | refine blk_drew ?_ | refine blk_alloc ?_ _)); refine blk_far ?_ NB129_130.out _; (with_reducible repeat (first | refine blk_drewN ?_ _ | refine blk_drew ?_ | refine blk_alloc ?_ _)); refine blk_far ?_ NB129_130.out _; (with_reducible repeat (first | refine blk_drewN ?_ _ | refine blk_drew ?_ | refine blk_alloc ?_ _)); refine blk_far ?_ NB129_130.out _; (with_reducible repeat (first | refine blk_drewN ?_ _ | refine blk_drew ?_ | refine blk_alloc ?_ _)); refine blk_far ?_ NB129_130.out _; (with_reducible repeat (first | refine blk_drewN ?_ _ | refine blk_drew ?_ | refine blk_alloc ?_ _)); refine blk_far ?_ NB129_130.out _; (with_reducible repeat (first | refine blk_drewN ?_ _ | refine blk_drew ?_ | refine blk_alloc ?_ _)); refine blk_far ?_ NB129_130.out _; (with_reducible repeat (first | refine blk_drewN ?_ _ | refine blk_drew ?_ | refine blk_alloc ?_ _)); refine blk_far ?_ NB129_130.out _; (with_reducible repeat (first | refine blk_drewN ?_ _ | refine blk_drew ?_ | refine blk_alloc ?_ _)); refine blk_far ?_ NB129_130.out _; (with_reducible repeat (first | refine blk_drewN ?_ _ | refine blk_drew ?_ | refine blk_alloc ?_ _)); refine blk_far ?_ NB129_130.out _; (with_reducible repeat (first | refine blk_drewN ?_ _ | refine blk_drew ?_ | refine blk_alloc ?_ _)); exact BK129.out) hb); have n1_ := Aside0.mk (blk_below (g := gb130) (o := .cells #[.int .i64 3, .int .i64 0, .int .i64 0, .int .i64 1, .int .i64 0, .int .i64 0, .string (⟨#[]⟩ : ByteArray), .slice A0_7 l0_7.length c0_7, .slice A0_8 l0_8.length c0_8] 38 (0, 0)) (by (with_reducible repeat (first | refine blk_drewN ?_ _ | refine blk_drew ?_ | refine blk_alloc ?_ _)); refine blk_put (cs := #[.int .i64 3, .int .i64 0, .int .i64 0, .int .i64 1, .int .i64 0, .int .i64 0, .string (⟨#[]⟩ : ByteArray), .slice A0_7 l0_7.length c0_7, .slice none 0 0]) ?_ 8 _ rfl; (with_reducible repeat (first | refine blk_drewN ?_ _ | refine blk_drew ?_ | refine blk_alloc ?_ _)); refine blk_put (cs := #[.int .i64 3, .int .i64 0, .int .i64 0, .int .i64 1, .int .i64 0, .int .i64 0, .string (⟨#[]⟩ : ByteArray), .slice none 0 0, .slice none 0 0]) ?_ 7 _ rfl; (with_reducible repeat (first | refine blk_drewN ?_ _ | refine blk_drew ?_ | refine blk_alloc ?_ _)); refine blk_put (cs := #[.int .i64 3, .int .i64 0, .int .i64 0, .int .i64 1, .int .i64 0, .int .i64 0, .string (⟨#[]⟩ : ByteArray), .slice none 0 0, .slice none 0 0]) ?_ 6 _ rfl; (with_reducible repeat (first | refine blk_drewN ?_ _ | refine blk_drew ?_ | refine blk_alloc ?_ _)); refine blk_put (cs := #[.int .i64 3, .int .i64 0, .int .i64 0, .int .i64 1, .int .i64 0, .int .i64 0, .string (⟨#[]⟩ : ByteArray), .slice none 0 0, .slice none 0 0]) ?_ 5 _ rfl; (with_reducible repeat (first | refine blk_drewN ?_ _ | refine blk_drew ?_ | refine blk_alloc ?_ _)); refine blk_put (cs := #[.int .i64 3, .int .i64 0, .int .i64 0, .int .i64 1, .int .i64 0, .int .i64 0, .string (⟨#[]⟩ : ByteArray), .slice none 0 0, .slice none 0 0]) ?_ 4 _ rfl; (with_reducible repeat (first | refine blk_drewN ?_ _ | refine blk_drew ?_ | refine blk_alloc ?_ _)); refine blk_put (cs := #[.int .i64 3, .int .i64 0, .int .i64 0, .int .i64 0, .int .i64 0, .int .i64 0, .string (⟨#[]⟩ : ByteArray), .slice none 0 0, .slice none 0 0]) ?_ 3 _ rfl; (with_reducible repeat (first | refine blk_drewN ?_ _ | refine blk_drew ?_ | refine blk_alloc ?_ _)); refine blk_put (cs := #[.int .i64 3, .int .i64 0, .int .i64 0, .int .i64 0, .int .i64 0, .int .i64 0, .string (⟨#[]⟩ : ByteArray), .slice none 0 0, .slice none 0 0]) ?_ 2 _ rfl; (with_reducible repeat (first | refine blk_drewN ?_ _ | refine blk_drew ?_ | refine blk_alloc ?_ _)); refine blk_put (cs := #[.int .i64 3, .int .i64 0, .int .i64 0, .int .i64 0, .int .i64 0, .int .i64 0, .string (⟨#[]⟩ : ByteArray), .slice none 0 0, .slice none 0 0]) ?_ 1 _ rfl; (with_reducible repeat (first | refine blk_drewN ?_ _ | refine blk_drew ?_ | refine blk_alloc ?_ _)); refine blk_put (cs := #[.int .i64 0, .int .i64 0, .int .i64 0, .int .i64 0, .int .i64 0, .int .i64 0, .string (⟨#[]⟩ : ByteArray), .slice none 0 0, .slice none 0 0]) ?_ 0 _ rfl; (with_reducible repeat (first | refine blk_drewN ?_ _ | refine blk_drew ?_ | refine blk_alloc ?_ _)); exact BK130.out) hb); have n2_ := Aside0.mk (below_step (by repeat (first | (with_reducible first | exact HB.out | apply below_alloc | apply pw_below_drewN | apply below_drew1 | refine below_set ?_ GE129.out | refine below_set ?_ GE130.out) | exact HB.out)) hb); clear BK129; clear BK130; clear HB; have BK129 := n0_; have BK130 := n1_; have HB := n2_; clear n0_ n1_ n2_; (try clear hb); (try clear hb2); (try clear hk); (try clear hi)))
 go_ret
 exact ⟨by first | rfl | (simp [errW_none, errW_some] <;> rfl) | (simp [*, errW_none, errW_some] <;> rfl), by repeat (first | (with_reducible first | exact HB.out | apply below_alloc | apply pw_below_drewN | apply below_drew1 | refine below_set ?_ GE129.out | refine below_set ?_ GE130.out) | exact HB.out)⟩
end Go.Proofs.Ytbfjbcaabijpfaa.Al
