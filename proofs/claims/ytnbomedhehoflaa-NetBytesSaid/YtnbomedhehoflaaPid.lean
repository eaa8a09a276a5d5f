/- What the laws stand on, in one text: functions of the program by their contracts, the plain mathematics behind them, and such of the printed words as these use. It began as the kit's print and own texts; put together by a program (trim.py). -/
import Derived.Test.YtnbomedhehoflaaPic
import Derived.Deep.RegionHeld3
import Derived.Deep.RegionLaw
import Derived.IntWalk

namespace Go.Proofs.Ytnbomedhehoflaa.PackDec
open Go.RowKit Go.Proofs.Ytnbomedhehoflaa.Base Go.Proofs.Ytnbomedhehoflaa.PackMath Go.Proofs.Ytnbomedhehoflaa.Al Go.Proofs.YtnbomedhehoflaaW.PrintWords Go.Proofs.YtnbomedhehoflaaW.PrintLast Go.Proofs.YtnbomedhehoflaaW.PrintMore
theorem Ev.succ {α : Type} {g : Nat → Option α} {r : α} (h : Ev (fun k => g (k + 1)) r) : Ev g r := Ev.step (fun _ => rfl) h
theorem rest_end {s : ByteArray} {p : Nat} (h : s.size ≤ p) : rest s p = [] := List.drop_of_length_le (by rw [bytesOf_length]; exact h)
theorem rest_at {s : ByteArray} {p : Nat} (h : p < s.size) : rest s p = bt s p :: rest s (p + 1) := by
 unfold rest
 have hl : p < (bytesOf s).length := by rw [bytesOf_length]; exact h
 rw [List.drop_eq_getElem_cons hl]
 congr 1
 rw [← rd_bytesOf]
 simp [rd, List.getD_eq_getElem?_getD, hl]
theorem ofInt_u64 (a : Nat) (ha : a < 18446744073709551616) : (BitVec.ofInt 64 (a : Int)).toNat = a := by
 rw [BitVec.ofInt_natCast, BitVec.toNat_ofNat]; exact Nat.mod_eq_of_lt (by omega)
theorem or_u64_nat (a b : Nat) (ha : a < 9223372036854775808) (hb : b < 9223372036854775808) : Go.bits .or .u64 (a : Int) (b : Int) = ((a ||| b : Nat) : Int) := by
 have hx : a ||| b < 2 ^ 63 := Nat.or_lt_two_pow (by omega) (by omega)
 show IntKind.u64.wrap ((BitVec.ofInt 64 (a : Int) ||| BitVec.ofInt 64 (b : Int)).toNat : Int) = _
 rw [BitVec.toNat_or, ofInt_u64 a (by omega), ofInt_u64 b (by omega), IntKind.wrap_u64]
 omega
theorem pow7 : ∀ i : Nat, i < 9 → 2 ^ (7 * i) ≤ 72057594037927936 := by
 intro i hi
 have : 2 ^ (7 * i) ≤ 2 ^ 56 := Nat.pow_le_pow_right (by omega) (by omega)
 omega
/-- Seven bits more, as the program lays them. -/
theorem lay_u64 (n x i : Nat) (hi : i < 9) (hn : n < 2 ^ (7 * i)) (hx : x < 128) : Go.bits .or .u64 (n : Int) (shl .u64 (IntKind.u64.wrap (x : Int)) (wrap64 (7 * (i : Int)))) = ((n + x * 2 ^ (7 * i) : Nat) : Int) := by
 have hp := pow7 i hi
 have h0 : 0 < 2 ^ (7 * i) := Nat.two_pow_pos _
 have e1 : IntKind.u64.wrap (x : Int) = (x : Int) := by rw [IntKind.wrap_u64]; omega
 have e2 : wrap64 (7 * (i : Int)) = ((7 * i : Nat) : Int) := by rw [wrap_id (by omega) (by omega)]; omega
 have hb : x * 2 ^ (7 * i) < 9223372036854775808 := by
  have : x * 2 ^ (7 * i) ≤ 127 * 2 ^ (7 * i) := Nat.mul_le_mul_right _ (by omega)
  omega
 have e3 : shl .u64 (x : Int) ((7 * i : Nat) : Int) = ((x * 2 ^ (7 * i) : Nat) : Int) := by
  unfold shl
  rw [Int.toNat_natCast, show min (7 * i) IntKind.u64.bits = 7 * i from Nat.min_eq_left (by show 7 * i ≤ 64; omega), IntKind.wrap_u64]
  have : ((x : Int) * 2 ^ (7 * i)) = ((x * 2 ^ (7 * i) : Nat) : Int) := by simp
  rw [this]
  omega
 rw [e1, e2, e3, or_u64_nat _ _ (by omega) hb]
 congr 1
 rw [Nat.or_comm, Nat.mul_comm, ← Nat.two_pow_add_eq_or_of_lt hn, Nat.add_comm]
theorem next_small (n x i : Nat) (hn : n < 2 ^ (7 * i)) (hx : x < 128) : n + x * 2 ^ (7 * i) < 2 ^ (7 * (i + 1)) := by
 rw [pow_next]
 have : x * 2 ^ (7 * i) ≤ 127 * 2 ^ (7 * i) := Nat.mul_le_mul_right _ (by omega)
 omega
/-- What number hands back of what was read. -/
def fin (s : ByteArray) (p : Nat) (most : Int) (r : Nat × Nat × Int) : Int × ByteArray × Int × Int :=
 if r.2.2 = 0 then (if (r.1 : Int) > most then (0, s, p, 2) else (r.1, s, ((p + r.2.1 : Nat) : Int), 0)) else if r.2.2 = 50 then (0, s, s.size, 50) else (0, s, p, 3)
theorem num_l0 (s : ByteArray) (p : Nat) (most : Int) (hs : s.size ≤ 140737488355328) : ∀ (d i n : Nat), i + d = 9 → n < 2 ^ (7 * i) → p + i ≤ s.size → Ev (fun k => pack_reader_number.l0 k most p n i s p 0) (fin s p most (pn d i n (rest s (p + i))))
 |0, i, n, h, hn, hp => by
  refine Ev.succ ?_
  simp only [pack_reader_number.l0]
  refine Ev.neg (by omega) ?_
  simp only [pack_reader_fail.f, Option.bind_some, pn, fin]
  exact Ev.now _
 |d + 1, i, n, h, hn, hp => by
  have e0 : wrap64 ((p : Int) + (i : Int)) = ((p + i : Nat) : Int) := by rw [wrap_id (by omega) (by omega)]; omega
  refine Ev.succ ?_
  simp only [pack_reader_number.l0]
  rw [e0]
  refine Ev.pos (by omega) (Ev.pos trivial ?_)
  by_cases hend : p + i = s.size
  ·refine Ev.pos (by omega) ?_
   rw [rest_end (by omega)]
   simp only [pack_reader_fail.f, Option.bind_some, pn, fin]
   exact Ev.now _
  ·refine Ev.neg (by omega) (Ev.pos (by omega) (Ev.pos (by omega) (Ev.pos (by rw [wrap_id (by omega) (by omega)]; omega) ?_)))
   rw [rest_at (by omega)]
   have hbr := bt_range s ((p + i : Nat) : Int)
   generalize bt s ((p + i : Nat) : Int) = b at hbr ⊢
   have em : Int.tmod b 128 = (((b % 128).toNat : Nat) : Int) := by rw [Int.tmod_eq_emod_of_nonneg (by omega)]; omega
   have hx : (b % 128).toNat < 128 := by omega
   rw [em, lay_u64 n _ i (by omega) hn hx]
   have hsm := next_small n _ i hn hx
   have hbd : n + (b % 128).toNat * 2 ^ (7 * i) < 9223372036854775808 := by
    have : 2 ^ (7 * (i + 1)) ≤ 2 ^ 63 := Nat.pow_le_pow_right (by omega) (by omega)
    omega
   by_cases hb : b < 128
   ·have epn : pn (d + 1) i n (b :: rest s (p + i + 1)) = if b = 0 ∧ 0 < i then (0, 0, 3) else (n + (b % 128).toNat * 2 ^ (7 * i), i + 1, 0) := by
     show (if b < 128 then _ else _) = _
     rw [if_pos hb]
    rw [epn]
    refine Ev.neg (by omega) ?_
    have last : ∀ c : Bool, c = decide (b = 0 ∧ 0 < i) → Ev (fun k => pack_reader_number.j1 k most p ((n + (b % 128).toNat * 2 ^ (7 * i) : Nat) : Int) i c s p 0) (fin s p most (if b = 0 ∧ 0 < i then (0, 0, 3) else (n + (b % 128).toNat * 2 ^ (7 * i), i + 1, 0))) := by
     intro c hc
     refine Ev.succ ?_
     simp only [pack_reader_number.j1]
     by_cases hz : b = 0 ∧ 0 < i
     ·rw [if_pos hz]
      refine Ev.pos (by rw [hc]; simpa using hz) ?_
      simp only [pack_reader_fail.f, Option.bind_some, fin]
      exact Ev.now _
     ·rw [if_neg hz]
      refine Ev.neg (by rw [hc]; simpa using hz) ?_
      have efin : fin s p most (n + (b % 128).toNat * 2 ^ (7 * i), i + 1, 0) = if ((n + (b % 128).toNat * 2 ^ (7 * i) : Nat) : Int) > most then (0, s, (p : Int), 2) else (((n + (b % 128).toNat * 2 ^ (7 * i) : Nat) : Int), s, ((p + (i + 1) : Nat) : Int), 0) := by
       unfold fin
       rw [if_pos rfl]
      by_cases hm : ((n + (b % 128).toNat * 2 ^ (7 * i) : Nat) : Int) > most
      ·refine Ev.pos hm ?_
       rw [efin, if_pos hm]
       simp only [pack_reader_fail.f, Option.bind_some]
       exact Ev.now _
      ·refine Ev.neg hm ?_
       rw [efin, if_neg hm]
       rw [e0, wrap_id (by omega) (by omega), show ((p + i : Nat) : Int) + 1 = ((p + (i + 1) : Nat) : Int) from by omega]
       exact Ev.now _
    by_cases hb0 : b = 0
    ·refine Ev.pos hb0 (last _ ?_)
     simp [hb0]
    ·refine Ev.neg hb0 (last _ ?_)
     simp [hb0]
   ·have epn : pn (d + 1) i n (b :: rest s (p + i + 1)) = pn d (i + 1) (n + (b % 128).toNat * 2 ^ (7 * i)) (rest s (p + (i + 1))) := by
     show (if b < 128 then _ else _) = _
     rw [if_neg hb]
     rfl
    rw [epn]
    refine Ev.pos (by omega) ?_
    rw [show wrap64 ((i : Int) + 1) = ((i + 1 : Nat) : Int) from by rw [wrap_id (by omega) (by omega)]; omega]
    exact num_l0 s p most hs d (i + 1) _ (by omega) hsm (by omega)
theorem pn_errs : ∀ (d i n : Nat) (l : List Int), (pn d i n l).2.2 = 0 ∨ ((pn d i n l).2.2 = 50 ∧ (pn d i n l).1 = 0) ∨ ((pn d i n l).2.2 = 3 ∧ (pn d i n l).1 = 0)
 |0, i, n, l => by simp [pn]
 |d + 1, i, n, [] => by simp [pn]
 |d + 1, i, n, b :: l => by
  have ih := pn_errs d (i + 1) (n + (b % 128).toNat * 2 ^ (7 * i)) l
  have e : pn (d + 1) i n (b :: l) = if b < 128 then (if b = 0 ∧ 0 < i then (0, 0, 3) else (n + (b % 128).toNat * 2 ^ (7 * i), i + 1, 0)) else pn d (i + 1) (n + (b % 128).toNat * 2 ^ (7 * i)) l := rfl
  rw [e]
  by_cases hb : b < 128
  ·rw [if_pos hb]
   by_cases hz : b = 0 ∧ 0 < i
   ·rw [if_pos hz]; simp
   ·rw [if_neg hz]; simp
  ·rw [if_neg hb]; exact ih
theorem fin_cnt (s : ByteArray) (p most : Nat) : fin s p most (pn 9 0 0 (rest s p)) = (((cnt s p most).1 : Int), s, ((cnt s p most).2.1 : Int), (cnt s p most).2.2) := by
 have he := pn_errs 9 0 0 (rest s p)
 unfold fin cnt rdn
 generalize pn 9 0 0 (rest s p) = r at he ⊢
 obtain ⟨v, k, e⟩ := r
 simp only at he ⊢
 rcases he with rfl | ⟨rfl, rfl⟩ | ⟨rfl, rfl⟩
 ·simp only [if_true]
  by_cases hm : most < v
  ·rw [if_pos (by omega), if_pos ⟨trivial, hm⟩]; rfl
  ·rw [if_neg (by omega), if_neg (by simp [hm])]
 ·simp
 ·simp
theorem number_ev (s : ByteArray) (p most : Nat) (hs : s.size ≤ 140737488355328) (hp : p ≤ s.size) : Ev (fun k => pack_reader_number.f k s p 0 most) (((cnt s p most).1 : Int), s, ((cnt s p most).2.1 : Int), (cnt s p most).2.2) := by
 have h := num_l0 s p (most : Int) hs 9 0 0 rfl (by simp) hp
 rw [Nat.add_zero, fin_cnt] at h
 exact h
theorem cnt_all (s : ByteArray) (p : Nat) : cnt s p 9223372036854775807 = rdn s p := by
 unfold cnt
 by_cases h : (rdn s p).2.2 = 0
 ·have := (rdn_ok h).1
  rw [if_neg (by omega)]
 ·rw [if_neg (by simp [h])]
theorem number_bad (s : ByteArray) (p e most : Int) (he : e ≠ 0) : Ev (fun k => pack_reader_number.f k s p e most) (0, s, p, e) := by
 unfold pack_reader_number.f
 refine Ev.succ ?_
 simp only [pack_reader_number.l0]
 exact Ev.pos (by omega) (Ev.neg he (Ev.now _))
theorem cnt_zero {s : ByteArray} {p most : Nat} (h : (cnt s p most).2.2 ≠ 0) : (cnt s p most).1 = 0 := by
 have he := pn_errs 9 0 0 (rest s p)
 unfold cnt at h ⊢
 split
 ·rfl
 ·rename_i hc
  rw [if_neg hc] at h
  unfold rdn at h ⊢
  simp only at h ⊢
  rcases he with h0 | ⟨_, h1⟩ | ⟨_, h1⟩
  ·exact absurd h0 h
  ·exact h1
  ·exact h1
theorem text_ev (s : ByteArray) (p : Nat) (hs : s.size ≤ 140737488355328) (hp : p ≤ s.size) : Ev (fun k => pack_reader_text.f k s p 0) ((txt s p).1, s, ((txt s p).2.1 : Int), (txt s p).2.2) := by
 have hn := number_ev s p 4096 hs hp
 have hle := cnt_le (most := 4096) hp
 have hz := cnt_zero (s := s) (p := p) (most := 4096)
 have hok := cnt_ok (s := s) (p := p) (most := 4096)
 unfold pack_reader_text.f txt
 refine Ev.bind hn ?_
 generalize cnt s p 4096 = c at hle hz hok ⊢
 obtain ⟨v, q, e⟩ := c
 simp only at hle hz hok ⊢
 by_cases he : e = 0
 ·subst he
  have hv : v ≤ 4096 := by
   obtain ⟨e1, e2, e3⟩ := hok rfl
   rw [← e1] at e3
   exact e3
  rw [if_pos rfl]
  refine Ev.pos rfl (Ev.succ ?_)
  rw [wrap_id (n := (v : Int)) (by omega) (by omega), wrap_id (n := (s.size : Int) - (q : Int)) (by omega) (by omega)]
  simp only [pack_reader_text.j0]
  by_cases hl : s.size - q < v
  ·rw [if_pos hl]
   refine Ev.pos (by simp; omega) ?_
   simp only [pack_reader_fail.f, Option.bind_some]
   exact Ev.neg (by omega) (Ev.now _)
  ·rw [if_neg hl]
   refine Ev.neg (by simp; omega) ?_
   rw [wrap_id (n := (q : Int) + (v : Int)) (by omega) (by omega), wrap_id (n := (q : Int) + (v : Int) - (v : Int)) (by omega) (by omega)]
   refine Ev.pos trivial (Ev.pos (by omega) (Ev.pos (by omega) (Ev.pos (by omega) ?_)))
   rw [show ((q : Int) + (v : Int) - (v : Int)).toNat = q from by omega, show ((q : Int) + (v : Int)).toNat = q + v from by omega, show (q : Int) + (v : Int) = ((q + v : Nat) : Int) from by omega]
   exact Ev.now _
 ·rw [if_neg he]
  refine Ev.neg he (Ev.succ ?_)
  simp only [pack_reader_text.j0]
  exact Ev.neg (by simp) (Ev.neg he (Ev.now _))
end Go.Proofs.Ytnbomedhehoflaa.PackDec

namespace Go.Proofs.Ytnbomedhehoflaa.PackDec
open Go.RowKit Go.Proofs.Ytnbomedhehoflaa.Base Go.Proofs.Ytnbomedhehoflaa.PackMath Go.Proofs.Ytnbomedhehoflaa.Al Go.Proofs.YtnbomedhehoflaaW.PrintWords Go.Proofs.YtnbomedhehoflaaW.PrintLast Go.Proofs.YtnbomedhehoflaaW.PrintMore
def st1 (s : ByteArray) : Nat × Nat × Int := cnt s 0 1024
def st2 (s : ByteArray) : List Int × Nat × Int := if (st1 s).2.2 = 0 then decN s (st1 s).1 (st1 s).2.1 [] else ([], (st1 s).2)
def st3 (s : ByteArray) : Nat × Nat × Int := if (st2 s).2.2 = 0 then cnt s (st2 s).2.1 1024 else (0, (st2 s).2)
def st4 (s : ByteArray) : List ByteArray × Nat × Int := if (st3 s).2.2 = 0 then decT s (st3 s).1 (st3 s).2.1 [] else ([], (st3 s).2)
theorem dec_st (s : ByteArray) : dec s = if (st4 s).2.2 = 0 then (if (st4 s).2.1 < s.size then ([], [], (st4 s).2.1, 3) else ((st2 s).1, (st4 s).1, 0, 0)) else ([], [], (st4 s).2) := by
 unfold dec st4 st3 st2 st1
 by_cases h1 : (cnt s 0 1024).2.2 = 0
 ·simp only [if_pos h1]
  by_cases h2 : (decN s (cnt s 0 1024).1 (cnt s 0 1024).2.1 []).2.2 = 0
  ·simp only [if_pos h2]
   by_cases h3 : (cnt s (decN s (cnt s 0 1024).1 (cnt s 0 1024).2.1 []).2.1 1024).2.2 = 0
   ·simp only [if_pos h3]
   ·simp only [if_neg h3]
  ·simp only [if_neg h2]
 ·simp only [if_neg h1]
theorem cnt_most {s : ByteArray} {p most : Nat} : (cnt s p most).1 ≤ most := by
 by_cases h : (cnt s p most).2.2 = 0
 ·obtain ⟨e1, _, e3⟩ := cnt_ok h
  rw [e1]; exact e3
 ·rw [cnt_zero h]; exact Nat.zero_le _
theorem st1_le (s : ByteArray) : (st1 s).2.1 ≤ s.size := cnt_le (Nat.zero_le _)
theorem st2_le (s : ByteArray) : (st2 s).2.1 ≤ s.size := by
 unfold st2
 split
 ·exact decN_le _ _ _ (st1_le s)
 ·exact st1_le s
theorem st3_le (s : ByteArray) : (st3 s).2.1 ≤ s.size := by
 unfold st3
 split
 ·exact cnt_le (st2_le s)
 ·exact st2_le s
theorem st3_most (s : ByteArray) : (st3 s).1 ≤ 1024 := by
 unfold st3
 split
 ·exact cnt_most
 ·exact Nat.zero_le _
/-- number, whatever the reader's state is. -/
def cntE (s : ByteArray) (p : Nat) (e : Int) (most : Nat) : Nat × Nat × Int := if e = 0 then cnt s p most else (0, p, e)
theorem number_calls (s : ByteArray) (p most : Nat) (mi pi e : Int) (hmi : mi = (most : Int)) (hpi : pi = (p : Int)) (hs : s.size ≤ 140737488355328) (hp : p ≤ s.size) (g : Nat) (w0 w : World) (hI : IsS90 w0 w g s pi e) (hB : Below w0.heap.size w0 w) :
  Calls Try.prog 50 #[.pointer (some ⟨g, 0, none⟩), .int .u64 mi] w fun x w' => x = .returned (.int .u64 ((cntE s p e most).1 : Int)) ∧ IsS90 w0 w' g s ((cntE s p e most).2.1 : Int) (cntE s p e most).2.2 ∧ Below w0.heap.size w0 w' ∧ KeepBut w w' g none := by
 subst hmi hpi
 unfold cntE
 by_cases he : e = 0
 ·subst he
  rw [if_pos rfl]
  obtain ⟨k, hk⟩ := Ev.rounds (number_ev s p most hs hp)
  exact pack_reader_number.calls k g s p 0 most _ _ _ _ w0 w hI hB hk
 ·rw [if_neg he]
  obtain ⟨k, hk⟩ := Ev.rounds (number_bad s p e most he)
  exact pack_reader_number.calls k g s p e most _ _ _ _ w0 w hI hB hk
theorem text_calls (s : ByteArray) (p : Nat) (pi : Int) (hpi : pi = (p : Int)) (hs : s.size ≤ 140737488355328) (hp : p ≤ s.size) (g : Nat) (w0 w : World) (hI : IsS90 w0 w g s pi 0) (hB : Below w0.heap.size w0 w) :
  Calls Try.prog 51 #[.pointer (some ⟨g, 0, none⟩)] w fun x w' => x = .returned (.string (txt s p).1) ∧ IsS90 w0 w' g s ((txt s p).2.1 : Int) (txt s p).2.2 ∧ Below w0.heap.size w0 w' ∧ KeepBut w w' g none := by
 subst hpi
 obtain ⟨k, hk⟩ := Ev.rounds (text_ev s p hs hp)
 exact pack_reader_text.calls k g s p 0 _ _ _ _ w0 w hI hB hk
/-- A reader at block gr, a pack under way at block gp: its slices vN, vT hold xs and ts. -/
structure PS (w0 W : World) (gp gr : Nat) (s : ByteArray) (p : Nat) (e : Int) (xs : List Int) (ts : List ByteArray) (vN vT : Value) : Prop where
 bp : W.heap[gp]? = some (.cells #[vN, vT] 70 (0, 0))
 gep : w0.heap.size ≤ gp
 rd : IsS90 w0 W gr s p e
 ns : (Kd.int .i64).R 3 W w0.heap.size (fun _ => True) vN xs
 ts : Kd.string.R 9 W w0.heap.size (fun _ => True) vT ts
 bel : Below w0.heap.size w0 W
section
variable {w0 W : World} {gp gr : Nat} {s : ByteArray} {p : Nat} {e : Int} {xs : List Int} {ts : List ByteArray} {vN vT : Value}
theorem PS.ne (h : PS w0 W gp gr s p e xs ts vN vT) : gp ≠ gr := fun hc => (h.rd.ne_blk h.bp (by decide)) hc.symm
theorem PS.neN (h : PS w0 W gp gr s p e xs ts vN vT) : some gp ≠ vN.ownBlock := Kd.R_ne h.ns h.bp (by decide)
theorem PS.neT (h : PS w0 W gp gr s p e xs ts vN vT) : some gp ≠ vT.ownBlock := Kd.R_ne h.ts h.bp (by decide)
theorem PS.keep {W1 : World} {p' : Nat} {e' : Int} (h : PS w0 W gp gr s p e xs ts vN vT) (hr : IsS90 w0 W1 gr s p' e') (hb : Below w0.heap.size w0 W1) (hk : KeepBut W W1 gr none) : PS w0 W1 gp gr s p' e' xs ts vN vT where
 bp := (hk.2 gp (blk_lt h.bp) h.ne (by simp)).trans h.bp
 gep := h.gep
 rd := hr
 ns := Kd.R_mono (Kd.R_keep (h.rd.apart h.ns (by decide)) hk (fun _ hk => hk.2)) (fun _ _ => trivial)
 ts := Kd.R_mono (Kd.R_keep (h.rd.apart h.ts (by decide)) hk (fun _ hk => hk.2)) (fun _ _ => trivial)
 bel := hb
theorem PS.below {W1 : World} (h : PS w0 W gp gr s p e xs ts vN vT) (hb : Below W.heap.size W W1) : PS w0 W1 gp gr s p e xs ts vN vT where
 bp := blk_below h.bp hb
 gep := h.gep
 rd := h.rd.below hb
 ns := Kd.R_below h.ns hb
 ts := Kd.R_below h.ts hb
 bel := below_step h.bel hb
theorem PS.alloc (h : PS w0 W gp gr s p e xs ts vN vT) (o : Obj) : PS w0 (W.alloc o) gp gr s p e xs ts vN vT := h.below (below_alloc (Below.refl _ _) o)
theorem PS.drew (h : PS w0 W gp gr s p e xs ts vN vT) : PS w0 W.drew gp gr s p e xs ts vN vT := h.below (below_drew (Below.refl _ _))
theorem PS.pushN {v1 : Value} {w1 : World} {ys : List Int} (h : PS w0 W gp gr s p e xs ts vN vT) (ho : (Kd.int .i64).R 3 w1 w0.heap.size (fun _ => True) v1 ys) (hb : Below w0.heap.size w0 w1) (hg : W.grownBy w1 vN.ownBlock) :
  w1.heap[gp]? = some (.cells #[vN, vT] 70 (0, 0)) ∧ PS w0 (w1.setCell ⟨gp, 0, none⟩ v1) gp gr s p e ys ts v1 vT := by
 have b1 := blk_grown h.bp hg h.neN
 have r1 := h.rd.grown hg (Kd.R_ne h.ns h.rd.1 (by decide))
 have t1 := Kd.R_over h.ts h.ns (by decide) hg
 exact ⟨b1, by simpa using blk_set b1 0 v1, h.gep, r1.far (p := ⟨gp, 0, none⟩) (Ne.symm h.ne) v1, Kd.R_set ho b1 (by decide) 0 v1, Kd.R_set t1 b1 (by decide) 0 v1, below_set hb h.gep⟩
theorem PS.pushT {v1 : Value} {w1 : World} {ys : List ByteArray} (h : PS w0 W gp gr s p e xs ts vN vT) (ho : Kd.string.R 9 w1 w0.heap.size (fun _ => True) v1 ys) (hb : Below w0.heap.size w0 w1) (hg : W.grownBy w1 vT.ownBlock) :
  w1.heap[gp]? = some (.cells #[vN, vT] 70 (0, 0)) ∧ PS w0 (w1.setCell ⟨gp, 1, none⟩ v1) gp gr s p e xs ys vN v1 := by
 have b1 := blk_grown h.bp hg h.neT
 have r1 := h.rd.grown hg (Kd.R_ne h.ts h.rd.1 (by decide))
 have t1 := Kd.R_over h.ns h.ts (by decide) hg
 exact ⟨b1, by simpa using blk_set b1 1 v1, h.gep, r1.far (p := ⟨gp, 1, none⟩) (Ne.symm h.ne) v1, Kd.R_set t1 b1 (by decide) 1 v1, Kd.R_set ho b1 (by decide) 1 v1, below_set hb h.gep⟩
end
end Go.Proofs.Ytnbomedhehoflaa.PackDec

namespace Go.Proofs.Ytnbomedhehoflaa.PackDec
open Go.RowKit Go.Proofs.Ytnbomedhehoflaa.Base Go.Proofs.Ytnbomedhehoflaa.PackMath Go.Proofs.YtnbomedhehoflaaW.PrintWords
theorem and_u64_one (n : Nat) (hn : n < 9223372036854775808) : Go.bits .and .u64 (n : Int) 1 = ((n % 2 : Nat) : Int) := by
 show IntKind.u64.wrap ((BitVec.ofInt 64 (n : Int) &&& BitVec.ofInt 64 ((1 : Nat) : Int)).toNat : Int) = _
 rw [BitVec.toNat_and, ofInt_u64 n (by omega), ofInt_u64 1 (by omega), IntKind.wrap_u64, Nat.and_one_is_mod]
 omega
theorem xor_all (x : Nat) (hx : x < 9223372036854775808) : Go.bits .xor .i64 (x : Int) (-1) = -(x : Int) - 1 := by
 show IntKind.i64.wrap ((BitVec.ofInt 64 (x : Int) ^^^ BitVec.ofInt 64 (-1)).toNat : Int) = _
 have e : BitVec.ofInt 64 (-1) = BitVec.allOnes 64 := by decide
 rw [e, BitVec.xor_allOnes, BitVec.toNat_not, ofInt_u64 x (by omega), IntKind.wrap_i64]
 omega
theorem zag_go (n : Nat) (hn : n < 9223372036854775808) : Go.bits .xor .i64 (wrap64 ((n : Int) / 2)) (wrap64 (-(wrap64 (Go.bits .and .u64 (n : Int) 1)))) = zag n := by
 rw [and_u64_one n hn, wrap_id (n := (n : Int) / 2) (by omega) (by omega), wrap_id (n := ((n % 2 : Nat) : Int)) (by omega) (by omega), wrap_id (n := -((n % 2 : Nat) : Int)) (by omega) (by omega)]
 rw [show (n : Int) / 2 = ((n / 2 : Nat) : Int) from by omega]
 unfold zag
 by_cases h : n % 2 = 1
 ·rw [if_pos h, h, show (-((1 : Nat) : Int)) = -1 from rfl, xor_all _ (by omega)]
  omega
 ·rw [if_neg h, show n % 2 = 0 from by omega, show (-((0 : Nat) : Int)) = ((0 : Nat) : Int) from rfl, xor_i64_nat _ _ (by omega) (by omega), Nat.xor_zero]
  omega
theorem rdn_lt (s : ByteArray) (p : Nat) : (rdn s p).1 < 9223372036854775808 := by
 by_cases h : (rdn s p).2.2 = 0
 ·exact (rdn_ok h).1
 ·rw [← cnt_all] at h ⊢
  rw [cnt_zero h]
  omega
end Go.Proofs.Ytnbomedhehoflaa.PackDec

namespace Go.Proofs.Ytnbomedhehoflaa.Al
open Go.RowKit Go.Proofs.Ytnbomedhehoflaa.Base Go.Proofs.Ytnbomedhehoflaa.PackMath Go.Proofs.Ytnbomedhehoflaa.PackDec Go.Proofs.YtnbomedhehoflaaW.PrintWords Go.Proofs.YtnbomedhehoflaaW.PrintLast Go.Proofs.YtnbomedhehoflaaW.PrintMore
set_option linter.unusedVariables false
set_option linter.unusedSimpArgs false
def pack_Decode.f (a0 : ByteArray) : Option (List Int × List ByteArray × Int × Int) := if a0.size ≤ 140737488355328 then some ((dec a0).1, (dec a0).2.1, ((dec a0).2.2.1 : Int), (dec a0).2.2.2) else none
def RelN (s : ByteArray) (m p : Nat) (e : Int) (xs : List Int) : Prop := p ≤ s.size ∧ (e = 0 → decN s m p xs = st2 s) ∧ (e ≠ 0 → (st2 s).2 = (p, e))
def RelT (s : ByteArray) (m p : Nat) (e : Int) (xs : List ByteArray) : Prop := p ≤ s.size ∧ (e = 0 → decT s m p xs = st4 s) ∧ (e ≠ 0 → (st4 s).2 = (p, e))
theorem relN_start (s : ByteArray) : RelN s (st1 s).1 (st1 s).2.1 (st1 s).2.2 [] := ⟨st1_le s, fun h => by unfold st2; rw [if_pos h], fun h => by unfold st2; rw [if_neg h]⟩
theorem relN_step {s : ByteArray} {m p : Nat} {xs : List Int} (h : RelN s (m + 1) p 0 xs) : RelN s m (rdn s p).2.1 (rdn s p).2.2 (xs ++ [zag (rdn s p).1]) := by
 obtain ⟨h1, h2, _⟩ := h
 have h3 := h2 rfl
 have e : decN s (m + 1) p xs = if (rdn s p).2.2 = 0 then decN s m (rdn s p).2.1 (xs ++ [zag (rdn s p).1]) else (xs, (rdn s p).2.1, (rdn s p).2.2) := rfl
 rw [e] at h3
 exact ⟨rdn_le h1, fun he => by rw [if_pos he] at h3; exact h3, fun he => by rw [if_neg he] at h3; rw [← h3]⟩
theorem relN_exit {s : ByteArray} {m p : Nat} {e : Int} {xs : List Int} (h : RelN s m p e xs) (hx : m = 0 ∨ e ≠ 0) : (st2 s).2 = (p, e) ∧ (e = 0 → (st2 s).1 = xs) ∧ p ≤ s.size := by
 obtain ⟨h1, h2, h3⟩ := h
 by_cases he : e = 0
 ·obtain rfl : m = 0 := by rcases hx with h | h; exact h; exact absurd he h
  have := h2 he
  simp only [decN] at this
  subst he
  rw [← this]
  exact ⟨rfl, fun _ => rfl, h1⟩
 ·exact ⟨h3 he, fun hc => absurd hc he, h1⟩
theorem relT_start (s : ByteArray) : RelT s (st3 s).1 (st3 s).2.1 (st3 s).2.2 [] := ⟨st3_le s, fun h => by unfold st4; rw [if_pos h], fun h => by unfold st4; rw [if_neg h]⟩
theorem relT_step {s : ByteArray} {m p : Nat} {xs : List ByteArray} (h : RelT s (m + 1) p 0 xs) : RelT s m (txt s p).2.1 (txt s p).2.2 (xs ++ [(txt s p).1]) := by
 obtain ⟨h1, h2, _⟩ := h
 have h3 := h2 rfl
 have e : decT s (m + 1) p xs = if (txt s p).2.2 = 0 then decT s m (txt s p).2.1 (xs ++ [(txt s p).1]) else (xs, (txt s p).2.1, (txt s p).2.2) := rfl
 rw [e] at h3
 exact ⟨txt_le h1, fun he => by rw [if_pos he] at h3; exact h3, fun he => by rw [if_neg he] at h3; rw [← h3]⟩
theorem relT_exit {s : ByteArray} {m p : Nat} {e : Int} {xs : List ByteArray} (h : RelT s m p e xs) (hx : m = 0 ∨ e ≠ 0) : (st4 s).2 = (p, e) ∧ (e = 0 → (st4 s).1 = xs) ∧ p ≤ s.size := by
 obtain ⟨h1, h2, h3⟩ := h
 by_cases he : e = 0
 ·obtain rfl : m = 0 := by rcases hx with h | h; exact h; exact absurd he h
  have := h2 he
  simp only [decT] at this
  subst he
  rw [← this]
  exact ⟨rfl, fun _ => rfl, h1⟩
 ·exact ⟨h3 he, fun hc => absurd hc he, h1⟩
theorem st3_of {s : ByteArray} {p : Nat} {e : Int} (h : (st2 s).2 = (p, e)) : cntE s p e 1024 = st3 s := by
 unfold cntE st3
 rw [h]
theorem st_back {s : ByteArray} (h : (st4 s).2.2 = 0) : (st2 s).2.2 = 0 := by
 have h3 : (st3 s).2.2 = 0 := by
  unfold st4 at h
  by_cases hc : (st3 s).2.2 = 0
  ·exact hc
  ·rw [if_neg hc] at h; exact absurd h hc
 unfold st3 at h3
 by_cases hc : (st2 s).2.2 = 0
 ·exact hc
 ·rw [if_neg hc] at h3; exact absurd h3 hc
theorem cntE_all (s : ByteArray) (p : Nat) : cntE s p 0 9223372036854775807 = rdn s p := by unfold cntE; rw [if_pos rfl, cnt_all]
set_option maxHeartbeats 8000000 in
set_option maxRecDepth 100000 in
theorem pack_Decode.core (s : ByteArray) (hs : s.size ≤ 140737488355328) (w : World) :
  Calls Try.prog 30 #[.string s] w fun e w' => ∃ v0_ v1_ : Value, e = .returned (.tuple #[.agg #[v0_, v1_], .int .i64 ((dec s).2.2.1 : Int), .int .i64 (dec s).2.2.2]) ∧ Kd.R (Kd.int .i64) 3 w' w.heap.size (fun _ => True) v0_ (dec s).1 ∧ Kd.R Kd.string 9 w' w.heap.size (fun _ => True) v1_ (dec s).2.1 ∧ Below w.heap.size w w' := by
 have hu70 := Try.underlying70
 have hc1 := fun (g : Nat) (W : World) hI hB => number_calls s 0 1024 1024 0 0 rfl rfl hs (Nat.zero_le _) g w W hI hB
 have e1 : cntE s 0 0 1024 = st1 s := rfl
 simp only [e1] at hc1
 have HC1 := Aside0.mk hc1
 clear hc1 e1
 go_enter Try.func30, Try.ntmps30
 go_wp2_with (first | ((with_reducible refine gate_dst (N := 2) rfl ?_); (try (refine gate_guard (by rfl) ?_; dsimp only)); refine box_event ?hg (N := 2) ?hd (cs := #[.slice none 0 0, .slice none 0 0]) (t := 70) ?hr ?_; (case hd => rfl); (case hg => rfl); (case hr => first | (go_simp; done) | (go_simp; rfl)); intro gp hgg gpw hbox hb; have GP := Aside0.mk (Nat.le_of_eq hgg.symm); have BP := Aside0.mk hbox; have BA := Aside0.mk hb; clear hgg hbox hb) | ((with_reducible refine gate_dst (N := 11) rfl ?_); (try (refine gate_guard (by rfl) ?_; dsimp only)); refine box_event ?hg (N := 11) ?hd (cs := #[.string s, .int .i64 0, .int .i64 0]) (t := 90) ?hr ?_; (case hd => rfl); (case hg => rfl); (case hr => first | (go_simp; done) | (go_simp; rfl)); intro gr hgg grw hbox hb; have HP0 : Aside0 (PS w grw gp gr s 0 0 [] [] (.slice none 0 0) (.slice none 0 0)) := ⟨⟨blk_below BP.out hb, GP.out, ⟨hbox, by rw [hgg]; exact BA.out.size⟩, Kd.R_nil _ _ _ _ _, Kd.R_nil _ _ _ _ _, below_step BA.out hb⟩⟩; clear hgg hbox hb) | (go_at_call 50; refine (HC1.out gr _ HP0.out.rd HP0.out.bel).mono ?_; rintro x w' ⟨rfl, hI, hB, hK⟩; have HP1 := Aside0.mk (HP0.out.keep hI hB hK); clear hI hB hK))
 have hm1 : (st1 s).1 ≤ 1024 := cnt_most
 have HR1 := Aside0.mk (relN_start s)
 generalize (st1 s).1 = m0 at hm1 HR1 ⊢
 generalize (st1 s).2.1 = p0 at HP1 HR1 ⊢
 generalize (st1 s).2.2 = e0 at HP1 HR1 ⊢
 clear HC1 HP0 BP BA
 go_loopw [6] (fun v6 wr => ∃ (m p : Nat) (e : Int) (xs : List Int) (vN : Value), v6 = .int .u64 m ∧ m + xs.length ≤ 1024 ∧ Aside0 (RelN s m p e xs) ∧ Aside0 (PS w wr gp gr s p e xs [] vN (.slice none 0 0))) (fun v6 _ => (intOf v6).toNat)
 case atStart => exact ⟨m0, p0, e0, [], _, rfl, by simpa using hm1, HR1, HP1⟩
 case round =>
  obtain ⟨m, p, e, xs, vN, rfl, hm, HR, HP⟩ := hrel
  clear hm1 HR1 HP1
  by_cases hc : 0 < m ∧ e = 0
  ·obtain ⟨h0, rfl⟩ := hc
   obtain ⟨m, rfl⟩ : ∃ k, m = k + 1 := ⟨m - 1, by omega⟩
   have hx2 := cellS90_2 HP.out.rd.1
   have c1 : decide ((0 : Int) < ((m + 1 : Nat) : Int)) = true := decide_eq_true (by omega)
   have c2 : decide (0 < m + 1) = true := decide_eq_true (by omega)
   have hcn := fun (W : World) hI hB => number_calls s p 9223372036854775807 9223372036854775807 p 0 rfl rfl hs HR.out.1 gr w W hI hB
   simp only [cntE_all] at hcn
   have HCN := Aside0.mk hcn
   clear hcn
   go_wp2_with (first | (go_at_call 50; refine (HCN.out _ HP.out.rd HP.out.bel).mono ?_; rintro x w' ⟨rfl, hI, hB, hK⟩; have HP1 := Aside0.mk (HP.out.keep hI hB hK); clear hI hB hK; have hxN : w'.cell? ⟨gp, 0, none⟩ = some vN := (blk_cell HP1.out.bp 0).trans rfl) | ((with_reducible refine gate_builtin (b := .append) (xs := #[.tmp 28, .tmp 37]) rfl ?_); at_builtin; (refine Kd.R_append (Kd.int .i64) (w0 := w) w.heap.size rfl (.tmp 28) (.tmp 37) 39 3 (.int .i64 0) 8 rfl Try.underlying39 info3 rfl (by decide) (by omega) vN xs (Go.bits .xor .i64 (wrap64 (((rdn s p).1 : Int) / 2)) (wrap64 (-(wrap64 (Go.bits .and .u64 ((rdn s p).1 : Int) 1))))) [.int .i64 (Go.bits .xor .i64 (wrap64 (((rdn s p).1 : Int) / 2)) (wrap64 (-(wrap64 (Go.bits .and .u64 ((rdn s p).1 : Int) 1)))))] (fun _ => True) (fun _ => False) rfl rfl ?aP (fun _ hk => hk.elim) (fun _ _ => trivial) HP1.out.ns HP1.out.bel HP1.out.bel.size ?aL ?_; (case aP => exact rfl); (case aL => omega); intro v1 w1 ho hb hg hat; obtain ⟨A1, k1, e1⟩ := Kd.R_slice ho; subst e1; obtain ⟨b1, hp2⟩ := HP1.out.pushN ho hb hg; have HP2 := Aside0.mk hp2; have hs0 : w1.cell? ⟨gp, 0, none⟩ = some vN := (blk_cell b1 0).trans rfl; have hf0 := blk_frozen b1 0; clear ho hb hg hat hp2 b1)))
   have hz := zag_go (rdn s p).1 (rdn_lt s p)
   have HP3 := HP2.out
   rw [hz] at HP3
   exact ⟨⟨m, (rdn s p).2.1, (rdn s p).2.2, xs ++ [zag (rdn s p).1], _, rfl, by simp; omega, ⟨relN_step HR.out⟩, ⟨by simpa using HP3⟩⟩, by simp [intOf]⟩
  ·obtain ⟨x1, x2, x3⟩ := relN_exit HR.out (by omega)
   have HX1 := Aside0.mk x1
   have HX2 := Aside0.mk x2
   have hc3 := fun (W : World) hI hB => number_calls s p 1024 1024 p e rfl rfl hs x3 gr w W hI hB
   simp only [st3_of x1] at hc3
   have HC3 := Aside0.mk hc3
   have hx2 := cellS90_2 HP.out.rd.1
   have hm3 := st3_most s
   have HM3 := Aside0.mk hm3
   have HR3 := Aside0.mk (relT_start s)
   clear x1 x2 x3 hc3 HR hm3
   by_cases h0 : 0 < m
   ·have he : (e == 0) = false := by simp; omega
    have c1 : decide ((0 : Int) < (m : Int)) = true := decide_eq_true (by omega)
    have c2 : decide (0 < m) = true := decide_eq_true (by omega)
    clear hc h0
    go_wp2_with (first | (go_at_call 50; refine (HC3.out _ HP.out.rd HP.out.bel).mono ?_; rintro x w' ⟨rfl, hI, hB, hK⟩; have HP3 := Aside0.mk (HP.out.keep hI hB hK); clear hI hB hK))
    clear hx2
    have hm3 := HM3.out
    clear HM3
    generalize hg1 : (st3 s).1 = m1 at hm3 HR3 ⊢
    generalize hg2 : (st3 s).2.1 = p1 at HP3 HR3 ⊢
    generalize hg3 : (st3 s).2.2 = e1 at HP3 HR3 ⊢
    clear hg1 hg2 hg3 HC3 HP
    obtain ⟨wo, rfl⟩ : ∃ wo : World, wo = wr := ⟨_, rfl⟩
    go_loopw [8] (fun v8 wr => ∃ (m p : Nat) (e : Int) (ts : List ByteArray) (vT : Value), v8 = .int .u64 m ∧ m + ts.length ≤ 1024 ∧ Aside0 (RelT s m p e ts) ∧ Aside0 (PS w wr gp gr s p e xs ts vN vT)) (fun v8 _ => (intOf v8).toNat)
    case atStart => exact ⟨m1, p1, e1, [], _, rfl, by simpa using hm3, HR3, HP3⟩
    case round =>
     clear hm3 HR3 HP3
     obtain ⟨m, p, e, ts, vT, rfl, hm, HR, HP⟩ := hrel
     by_cases hc : 0 < m ∧ e = 0
     ·obtain ⟨h0, rfl⟩ := hc
      obtain ⟨m, rfl⟩ : ∃ k, m = k + 1 := ⟨m - 1, by omega⟩
      have hx2 := cellS90_2 HP.out.rd.1
      have c1 : decide ((0 : Int) < ((m + 1 : Nat) : Int)) = true := decide_eq_true (by omega)
      have c2 : decide (0 < m + 1) = true := decide_eq_true (by omega)
      go_wp2_with fail
      clear hx2 c1 c2
      have hxT : wr.cell? ⟨gp, 1, none⟩ = some vT := (blk_cell HP.out.bp 1).trans rfl
      have HPd : Aside0 (PS w wr.drew gp gr s p 0 xs ts vN vT) := ⟨HP.out.drew⟩
      go_region_law (first | (go_simp; go_at_call 51; refine (text_calls s p p rfl hs HR.out.1 gr w _ HPd.out.rd HPd.out.bel).mono ?_; rintro x w' ⟨rfl, hI, hB, hK⟩; have HP1 := Aside0.mk (HPd.out.keep hI hB hK); have hxT1 : w'.cell? ⟨gp, 1, none⟩ = some vT := (blk_cell HP1.out.bp 1).trans rfl; have hxT2 : ∀ o : Obj, (w'.alloc o).cell? ⟨gp, 1, none⟩ = some vT := fun o => (blk_cell (HP1.out.alloc o).bp 1).trans rfl; clear hI hB hK) | (refine Kd.R_append_step Kd.string (w0 := w) w.heap.size (by rfl) (.tmp 54) (.tmp 57) 29 9 (.string ⟨#[]⟩) 16 (by rfl) Try.underlying29 info9 rfl (by decide) (by omega) vT ts ((txt s p).1) [.string (txt s p).1] (fun _ => True) (fun _ => False) (by rfl) (by rfl) rfl (fun _ hk => hk.elim) (fun _ _ => trivial) HP1.out.ts HP1.out.bel HP1.out.bel.size (by omega) ?_; intro v1 w1 ho hb hg hat; obtain ⟨A1, k1, e1⟩ := Kd.R_slice ho; subst e1; obtain ⟨b1, hp2⟩ := HP1.out.pushT ho hb hg; have HP2 := Aside0.mk hp2; have hs0 : w1.cell? ⟨gp, 1, none⟩ = some vT := (blk_cell b1 1).trans rfl; have hf0 := blk_frozen b1 1; clear ho hb hg hat hp2 b1))
      all_goals (go_wp2_with fail; (have HP3 := HP2.out; exact ⟨⟨m, (txt s p).2.1, (txt s p).2.2, ts ++ [(txt s p).1], _, rfl, by simp; omega, ⟨relT_step HR.out⟩, ⟨by simpa using HP3⟩⟩, by simp [intOf]⟩))
     ·obtain ⟨y1, y2, y3⟩ := relT_exit HR.out (by omega)
      have hx2 := cellS90_2 HP.out.rd.1
      have hx1 := cellS90_1 HP.out.rd.1
      have hne : gp ≠ gr := HP.out.ne
      have hne2 : gr ≠ gp := Ne.symm hne
      obtain ⟨AN, kN, eN⟩ := Kd.R_slice HP.out.ns
      obtain ⟨AT, kT, eT⟩ := Kd.R_slice HP.out.ts
      subst eN eT
      have hp0 : wr.cell? ⟨gp, 0, none⟩ = some (.slice AN xs.length kN) := (blk_cell HP.out.bp 0).trans rfl
      have hp1 : wr.cell? ⟨gp, 1, none⟩ = some (.slice AT ts.length kT) := (blk_cell HP.out.bp 1).trans rfl
      have hf0 := blk_frozen HP.out.bp 0
      have hf1 := blk_frozen HP.out.bp 1
      by_cases he : e = 0
      ·subst he
       obtain rfl : m = 0 := by omega
       by_cases hl : p < s.size
       ·have hd : dec s = ([], [], p, 3) := by rw [dec_st, y1]; simp [hl]
        have HD := Aside0.mk hd
        have c3 : decide ((p : Int) < (s.size : Int)) = true := decide_eq_true (by omega)
        have c4 : decide (p < s.size) = true := decide_eq_true hl
        clear hd hc y1 y2 y3 hp0 hp1 hf0 hf1
        go_wp2_with (go_at_call 52; refine (pack_reader_fail.calls gr s p 0 p 3 _ _ _ _ w _ HP.out.rd HP.out.bel rfl).mono ?_; rintro x w' ⟨rfl, hI, hB, hK⟩; have HQ := Aside0.mk (HP.out.keep (p' := p) (e' := 3) hI hB hK); have hx2 := cellS90_2 HQ.out.rd.1; have hx1 := cellS90_1 HQ.out.rd.1; clear hI hB hK)
        have hp0 : w'.cell? ⟨gp, 0, none⟩ = some (.slice AN xs.length kN) := (blk_cell HQ.out.bp 0).trans rfl
        have hp1 : w'.cell? ⟨gp, 1, none⟩ = some (.slice AT ts.length kT) := (blk_cell HQ.out.bp 1).trans rfl
        have hf0 := blk_frozen HQ.out.bp 0
        have hf1 := blk_frozen HQ.out.bp 1
        go_region_held3 (fun W => W.cell? ⟨gr, 1, none⟩ = some (.int .i64 p) ∧ W.cell? ⟨gr, 2, none⟩ = some (.int .i64 3)) (go_keep) (fail)
        go_wp2
        have bk := blk_drew (blk_set (blk_set HQ.out.bp 0 (.slice none 0 0)) 1 (.slice none 0 0))
        refine bodyPost_ret (results_ctt rfl _ _ gp 70 #[.slice none 0 0, .slice none 0 0] (0, 0) _ rfl (by simpa using bk) Try.underlying70 rfl (by kernel_rfl)) rfl ?_
        rw [HD.out]
        exact ⟨_, _, rfl, Kd.R_nil _ _ _ _ _, Kd.R_nil _ _ _ _ _, below_drew (below_set (below_set HQ.out.bel HQ.out.gep) HQ.out.gep)⟩
       ·have hd : dec s = (xs, ts, 0, 0) := by
         rw [dec_st, y1]
         simp only [if_true]
         rw [if_neg hl, y2 rfl, HX2.out (by have := st_back (s := s) (by rw [y1]); rw [HX1.out] at this; exact this)]
        have HD := Aside0.mk hd
        have c3 : decide ((p : Int) < (s.size : Int)) = false := decide_eq_false (by omega)
        have c4 : decide (p < s.size) = false := decide_eq_false hl
        clear hd hc y1 y2 y3 hl
        go_wp2
        have bk := blk_set (blk_set HP.out.bp 0 (.slice AN xs.length kN)) 1 (.slice AT ts.length kT)
        refine bodyPost_ret (results_ctt rfl _ _ gp 70 #[.slice AN xs.length kN, .slice AT ts.length kT] (0, 0) _ rfl (by simpa using bk) Try.underlying70 rfl (by kernel_rfl)) rfl ?_
        rw [HD.out]
        exact ⟨_, _, rfl, Kd.R_set (Kd.R_set HP.out.ns HP.out.bp (by decide) 0 _) (blk_set HP.out.bp 0 _) (by decide) 1 _, Kd.R_set (Kd.R_set HP.out.ts HP.out.bp (by decide) 0 _) (blk_set HP.out.bp 0 _) (by decide) 1 _, below_set (below_set HP.out.bel HP.out.gep) HP.out.gep⟩
      ·have hd : dec s = ([], [], p, e) := by rw [dec_st, y1]; simp [he]
       have HD := Aside0.mk hd
       have he1 : (e == 0) = false := by simpa using he
       have he2 : (e != 0) = true := by simpa using he
       clear hd y1 y2 y3
       by_cases h0 : 0 < m
       all_goals
        first
        |have c1 : decide ((0 : Int) < (m : Int)) = true := decide_eq_true (by omega)
         have c2 : decide (0 < m) = true := decide_eq_true h0
        |obtain rfl : m = 0 := by omega
        clear hc h0 he
        go_wp2
        go_region_held3 (fun W => W.cell? ⟨gr, 1, none⟩ = some (.int .i64 p) ∧ W.cell? ⟨gr, 2, none⟩ = some (.int .i64 e)) (go_keep) (fail)
        go_wp2
        have bk := blk_drew (blk_set (blk_set HP.out.bp 0 (.slice none 0 0)) 1 (.slice none 0 0))
        refine bodyPost_ret (results_ctt rfl _ _ gp 70 #[.slice none 0 0, .slice none 0 0] (0, 0) _ rfl (by simpa using bk) Try.underlying70 rfl (by kernel_rfl)) rfl ?_
        rw [HD.out]
        exact ⟨_, _, rfl, Kd.R_nil _ _ _ _ _, Kd.R_nil _ _ _ _ _, below_drew (below_set (below_set HP.out.bel HP.out.gep) HP.out.gep)⟩
   ·obtain rfl : m = 0 := by omega
    clear hc h0
    go_wp2_with (first | (go_at_call 50; refine (HC3.out _ HP.out.rd HP.out.bel).mono ?_; rintro x w' ⟨rfl, hI, hB, hK⟩; have HP3 := Aside0.mk (HP.out.keep hI hB hK); clear hI hB hK))
    clear hx2
    have hm3 := HM3.out
    clear HM3
    generalize hg1 : (st3 s).1 = m1 at hm3 HR3 ⊢
    generalize hg2 : (st3 s).2.1 = p1 at HP3 HR3 ⊢
    generalize hg3 : (st3 s).2.2 = e1 at HP3 HR3 ⊢
    clear hg1 hg2 hg3 HC3 HP
    obtain ⟨wo, rfl⟩ : ∃ wo : World, wo = wr := ⟨_, rfl⟩
    go_loopw [8] (fun v8 wr => ∃ (m p : Nat) (e : Int) (ts : List ByteArray) (vT : Value), v8 = .int .u64 m ∧ m + ts.length ≤ 1024 ∧ Aside0 (RelT s m p e ts) ∧ Aside0 (PS w wr gp gr s p e xs ts vN vT)) (fun v8 _ => (intOf v8).toNat)
    case atStart => exact ⟨m1, p1, e1, [], _, rfl, by simpa using hm3, HR3, HP3⟩
    case round =>
     clear hm3 HR3 HP3
     obtain ⟨m, p, e, ts, vT, rfl, hm, HR, HP⟩ := hrel
     by_cases hc : 0 < m ∧ e = 0
     ·obtain ⟨h0, rfl⟩ := hc
      obtain ⟨m, rfl⟩ : ∃ k, m = k + 1 := ⟨m - 1, by omega⟩
      have hx2 := cellS90_2 HP.out.rd.1
      have c1 : decide ((0 : Int) < ((m + 1 : Nat) : Int)) = true := decide_eq_true (by omega)
      have c2 : decide (0 < m + 1) = true := decide_eq_true (by omega)
      go_wp2_with fail
      clear hx2 c1 c2
      have hxT : wr.cell? ⟨gp, 1, none⟩ = some vT := (blk_cell HP.out.bp 1).trans rfl
      have HPd : Aside0 (PS w wr.drew gp gr s p 0 xs ts vN vT) := ⟨HP.out.drew⟩
      go_region_law (first | (go_simp; go_at_call 51; refine (text_calls s p p rfl hs HR.out.1 gr w _ HPd.out.rd HPd.out.bel).mono ?_; rintro x w' ⟨rfl, hI, hB, hK⟩; have HP1 := Aside0.mk (HPd.out.keep hI hB hK); have hxT1 : w'.cell? ⟨gp, 1, none⟩ = some vT := (blk_cell HP1.out.bp 1).trans rfl; have hxT2 : ∀ o : Obj, (w'.alloc o).cell? ⟨gp, 1, none⟩ = some vT := fun o => (blk_cell (HP1.out.alloc o).bp 1).trans rfl; clear hI hB hK) | (refine Kd.R_append_step Kd.string (w0 := w) w.heap.size (by rfl) (.tmp 54) (.tmp 57) 29 9 (.string ⟨#[]⟩) 16 (by rfl) Try.underlying29 info9 rfl (by decide) (by omega) vT ts ((txt s p).1) [.string (txt s p).1] (fun _ => True) (fun _ => False) (by rfl) (by rfl) rfl (fun _ hk => hk.elim) (fun _ _ => trivial) HP1.out.ts HP1.out.bel HP1.out.bel.size (by omega) ?_; intro v1 w1 ho hb hg hat; obtain ⟨A1, k1, e1⟩ := Kd.R_slice ho; subst e1; obtain ⟨b1, hp2⟩ := HP1.out.pushT ho hb hg; have HP2 := Aside0.mk hp2; have hs0 : w1.cell? ⟨gp, 1, none⟩ = some vT := (blk_cell b1 1).trans rfl; have hf0 := blk_frozen b1 1; clear ho hb hg hat hp2 b1))
      all_goals (go_wp2_with fail; (have HP3 := HP2.out; exact ⟨⟨m, (txt s p).2.1, (txt s p).2.2, ts ++ [(txt s p).1], _, rfl, by simp; omega, ⟨relT_step HR.out⟩, ⟨by simpa using HP3⟩⟩, by simp [intOf]⟩))
     ·obtain ⟨y1, y2, y3⟩ := relT_exit HR.out (by omega)
      have hx2 := cellS90_2 HP.out.rd.1
      have hx1 := cellS90_1 HP.out.rd.1
      have hne : gp ≠ gr := HP.out.ne
      have hne2 : gr ≠ gp := Ne.symm hne
      obtain ⟨AN, kN, eN⟩ := Kd.R_slice HP.out.ns
      obtain ⟨AT, kT, eT⟩ := Kd.R_slice HP.out.ts
      subst eN eT
      have hp0 : wr.cell? ⟨gp, 0, none⟩ = some (.slice AN xs.length kN) := (blk_cell HP.out.bp 0).trans rfl
      have hp1 : wr.cell? ⟨gp, 1, none⟩ = some (.slice AT ts.length kT) := (blk_cell HP.out.bp 1).trans rfl
      have hf0 := blk_frozen HP.out.bp 0
      have hf1 := blk_frozen HP.out.bp 1
      by_cases he : e = 0
      ·subst he
       obtain rfl : m = 0 := by omega
       by_cases hl : p < s.size
       ·have hd : dec s = ([], [], p, 3) := by rw [dec_st, y1]; simp [hl]
        have HD := Aside0.mk hd
        have c3 : decide ((p : Int) < (s.size : Int)) = true := decide_eq_true (by omega)
        have c4 : decide (p < s.size) = true := decide_eq_true hl
        clear hd hc y1 y2 y3 hp0 hp1 hf0 hf1
        go_wp2_with (go_at_call 52; refine (pack_reader_fail.calls gr s p 0 p 3 _ _ _ _ w _ HP.out.rd HP.out.bel rfl).mono ?_; rintro x w' ⟨rfl, hI, hB, hK⟩; have HQ := Aside0.mk (HP.out.keep (p' := p) (e' := 3) hI hB hK); have hx2 := cellS90_2 HQ.out.rd.1; have hx1 := cellS90_1 HQ.out.rd.1; clear hI hB hK)
        have hp0 : w'.cell? ⟨gp, 0, none⟩ = some (.slice AN xs.length kN) := (blk_cell HQ.out.bp 0).trans rfl
        have hp1 : w'.cell? ⟨gp, 1, none⟩ = some (.slice AT ts.length kT) := (blk_cell HQ.out.bp 1).trans rfl
        have hf0 := blk_frozen HQ.out.bp 0
        have hf1 := blk_frozen HQ.out.bp 1
        go_region_held3 (fun W => W.cell? ⟨gr, 1, none⟩ = some (.int .i64 p) ∧ W.cell? ⟨gr, 2, none⟩ = some (.int .i64 3)) (go_keep) (fail)
        go_wp2
        have bk := blk_drew (blk_set (blk_set HQ.out.bp 0 (.slice none 0 0)) 1 (.slice none 0 0))
        refine bodyPost_ret (results_ctt rfl _ _ gp 70 #[.slice none 0 0, .slice none 0 0] (0, 0) _ rfl (by simpa using bk) Try.underlying70 rfl (by kernel_rfl)) rfl ?_
        rw [HD.out]
        exact ⟨_, _, rfl, Kd.R_nil _ _ _ _ _, Kd.R_nil _ _ _ _ _, below_drew (below_set (below_set HQ.out.bel HQ.out.gep) HQ.out.gep)⟩
       ·have hd : dec s = (xs, ts, 0, 0) := by
         rw [dec_st, y1]
         simp only [if_true]
         rw [if_neg hl, y2 rfl, HX2.out (by have := st_back (s := s) (by rw [y1]); rw [HX1.out] at this; exact this)]
        have HD := Aside0.mk hd
        have c3 : decide ((p : Int) < (s.size : Int)) = false := decide_eq_false (by omega)
        have c4 : decide (p < s.size) = false := decide_eq_false hl
        clear hd hc y1 y2 y3 hl
        go_wp2
        have bk := blk_set (blk_set HP.out.bp 0 (.slice AN xs.length kN)) 1 (.slice AT ts.length kT)
        refine bodyPost_ret (results_ctt rfl _ _ gp 70 #[.slice AN xs.length kN, .slice AT ts.length kT] (0, 0) _ rfl (by simpa using bk) Try.underlying70 rfl (by kernel_rfl)) rfl ?_
        rw [HD.out]
        exact ⟨_, _, rfl, Kd.R_set (Kd.R_set HP.out.ns HP.out.bp (by decide) 0 _) (blk_set HP.out.bp 0 _) (by decide) 1 _, Kd.R_set (Kd.R_set HP.out.ts HP.out.bp (by decide) 0 _) (blk_set HP.out.bp 0 _) (by decide) 1 _, below_set (below_set HP.out.bel HP.out.gep) HP.out.gep⟩
      ·have hd : dec s = ([], [], p, e) := by rw [dec_st, y1]; simp [he]
       have HD := Aside0.mk hd
       have he1 : (e == 0) = false := by simpa using he
       have he2 : (e != 0) = true := by simpa using he
       clear hd y1 y2 y3
       by_cases h0 : 0 < m
       all_goals
        first
        |have c1 : decide ((0 : Int) < (m : Int)) = true := decide_eq_true (by omega)
         have c2 : decide (0 < m) = true := decide_eq_true h0
        |obtain rfl : m = 0 := by omega
        clear hc h0 he
        go_wp2
        go_region_held3 (fun W => W.cell? ⟨gr, 1, none⟩ = some (.int .i64 p) ∧ W.cell? ⟨gr, 2, none⟩ = some (.int .i64 e)) (go_keep) (fail)
        go_wp2
        have bk := blk_drew (blk_set (blk_set HP.out.bp 0 (.slice none 0 0)) 1 (.slice none 0 0))
        refine bodyPost_ret (results_ctt rfl _ _ gp 70 #[.slice none 0 0, .slice none 0 0] (0, 0) _ rfl (by simpa using bk) Try.underlying70 rfl (by kernel_rfl)) rfl ?_
        rw [HD.out]
        exact ⟨_, _, rfl, Kd.R_nil _ _ _ _ _, Kd.R_nil _ _ _ _ _, below_drew (below_set (below_set HP.out.bel HP.out.gep) HP.out.gep)⟩
theorem pack_Decode.calls (a0 : ByteArray) (r1 : List Int) (r2 : List ByteArray) (r3 : Int) (r4 : Int) (w : World) (h : pack_Decode.f a0 = some (r1, r2, r3, r4)) :
  Calls Try.prog 30 #[.string a0] w fun e w' => ∃ v0_ v1_ : Value, e = .returned (.tuple #[.agg #[v0_, v1_], .int .i64 r3, .int .i64 r4]) ∧ Kd.R (Kd.int .i64) 3 w' w.heap.size (fun _ => True) v0_ r1 ∧ Kd.R Kd.string 9 w' w.heap.size (fun _ => True) v1_ r2 ∧ Below w.heap.size w w' := by
 unfold pack_Decode.f at h
 split at h
 case isFalse => cases h
 rename_i hs
 simp only [Option.some.injEq, Prod.mk.injEq] at h
 obtain ⟨rfl, rfl, rfl, rfl⟩ := h
 exact pack_Decode.core a0 hs w
end Go.Proofs.Ytnbomedhehoflaa.Al

namespace Go.Proofs.Ytnbomedhehoflaa.DecLen
open Go.RowKit Go.Proofs.Ytnbomedhehoflaa.Base Go.Proofs.Ytnbomedhehoflaa.PackMath Go.Proofs.Ytnbomedhehoflaa.PackDec Go.Proofs.YtnbomedhehoflaaW.PrintWords
set_option linter.unusedVariables false
set_option linter.unusedSimpArgs false
theorem dec_len (s : ByteArray) : (dec s).1.length ≤ 1024 ∧ (dec s).2.1.length ≤ 1024 := by
 by_cases h : (dec s).2.2.2 = 0
 ·obtain ⟨ns, ts, h1, h2, _⟩ := enc_dec h
  rw [h1]
  exact ⟨(chk_ok h2).1, (chk_ok h2).2.1⟩
 ·obtain ⟨h1, h2⟩ := dec_no h
  rw [h1, h2]
  simp
end Go.Proofs.Ytnbomedhehoflaa.DecLen

namespace Go.Proofs.Ytnbomedhehoflaa.Al
open Go.RowKit Go.Proofs.Ytnbomedhehoflaa.Base Go.Proofs.YtnbomedhehoflaaW.PrintWords Go.Proofs.YtnbomedhehoflaaW.PrintLast Go.Proofs.YtnbomedhehoflaaW.PrintMore
set_option linter.unusedVariables false
set_option linter.unusedSimpArgs false
namespace LD
abbrev RLet := Int × Int × Int × Int × Int × Int × ByteArray × List ByteArray × List S72 × Int
def noLet : RLet := (0, 0, 0, 0, 0, 0, ⟨#[]⟩, [], [], 70)
/-- The result's block gq, the pack's block gp. -/
structure QR (w0 W : World) (gq gp : Nat) (xs : List Int) (ts : List ByteArray) (vN vT : Value) : Prop where
 bq : W.heap[gq]? = some (.cells #[.int .i64 0, .int .i64 0, .int .i64 0, .int .i64 0, .int .i64 0, .int .i64 0, .string (⟨#[]⟩ : ByteArray), .slice none 0 0, .slice none 0 0] 32 (0, 0))
 bp : W.heap[gp]? = some (.cells #[vN, vT] 70 (0, 0))
 geq : w0.heap.size ≤ gq
 gep : w0.heap.size ≤ gp
 ns : (Kd.int .i64).R 3 W w0.heap.size (fun _ => True) vN xs
 ts : Kd.string.R 9 W w0.heap.size (fun _ => True) vT ts
 bel : Below w0.heap.size w0 W
section
variable {w0 W : World} {gq gp : Nat} {xs : List Int} {ts : List ByteArray} {vN vT : Value}
theorem QR.below {W1 : World} (h : QR w0 W gq gp xs ts vN vT) (hb : Below W.heap.size W W1) : QR w0 W1 gq gp xs ts vN vT where
 bq := blk_below h.bq hb
 bp := blk_below h.bp hb
 geq := h.geq
 gep := h.gep
 ns := Kd.R_below h.ns hb
 ts := Kd.R_below h.ts hb
 bel := below_step h.bel hb
theorem QR.alloc (h : QR w0 W gq gp xs ts vN vT) (o : Obj) : QR w0 (W.alloc o) gq gp xs ts vN vT := h.below (below_alloc (Below.refl _ _) o)
theorem QR.drew (h : QR w0 W gq gp xs ts vN vT) : QR w0 W.drew gq gp xs ts vN vT := h.below (below_drew (Below.refl _ _))
end
/-- The empty letter and 70 come back. -/
def NoLetE (w : World) (e : Ending) (w' : World) : Prop := e = .returned (.tuple #[.agg #[.int .i64 0, .int .i64 0, .int .i64 0, .int .i64 0, .int .i64 0, .int .i64 0, .string (⟨#[]⟩ : ByteArray), .slice none 0 0, .slice none 0 0], .int .i64 70]) ∧ Below w.heap.size w w'
theorem qr_of {w0 w2 w3 : World} {gq gp : Nat} {xs : List Int} {ts : List ByteArray} {vN vT : Value} (geq : w0.heap.size ≤ gq) (bq : w2.heap[gq]? = some (.cells #[.int .i64 0, .int .i64 0, .int .i64 0, .int .i64 0, .int .i64 0, .int .i64 0, .string (⟨#[]⟩ : ByteArray), .slice none 0 0, .slice none 0 0] 32 (0, 0))) (bp : w3.heap[gp]? = some (.cells #[.slice none 0 0, .slice none 0 0] 70 (0, 0))) (hgp : gp = w2.heap.size) (hns : (Kd.int .i64).R 3 w2 w0.heap.size (fun _ => True) vN xs) (hts : Kd.string.R 9 w2 w0.heap.size (fun _ => True) vT ts) (hb : Below w0.heap.size w0 w2) (hb3 : Below w2.heap.size w2 w3) :
  QR w0 ((w3.setCell ⟨gp, 0, none⟩ vN).setCell ⟨gp, 1, none⟩ vT) gq gp xs ts vN vT := by
 have ge : w0.heap.size ≤ gp := by have := hb.size; omega
 have ne : gq ≠ gp := by have := blk_lt bq; omega
 have bp1 := blk_set bp 0 vN
 exact ⟨blk_far (blk_far (blk_below bq hb3) (p := ⟨gp, 0, none⟩) ne vN) (p := ⟨gp, 1, none⟩) ne vT, by simpa using blk_set bp1 1 vT, geq, ge, Kd.R_set (Kd.R_set (Kd.R_below hns hb3) bp (by decide) 0 vN) bp1 (by decide) 1 vT, Kd.R_set (Kd.R_set (Kd.R_below hts hb3) bp (by decide) 0 vN) bp1 (by decide) 1 vT, below_set (below_set (below_step hb hb3) ge) ge⟩
theorem set9 {w : World} {g t : Nat} {z0 z1 z2 z3 z4 z5 z6 z7 z8 c0 c1 c2 c3 c4 c5 c6 c7 c8 : Value} (h : w.heap[g]? = some (.cells #[z0, z1, z2, z3, z4, z5, z6, z7, z8] t (0, 0))) : (((((((((w.setCell ⟨g, 0, none⟩ c0).setCell ⟨g, 1, none⟩ c1).setCell ⟨g, 2, none⟩ c2).setCell ⟨g, 3, none⟩ c3).setCell ⟨g, 4, none⟩ c4).setCell ⟨g, 5, none⟩ c5).setCell ⟨g, 6, none⟩ c6).setCell ⟨g, 7, none⟩ c7).setCell ⟨g, 8, none⟩ c8).heap[g]? = some (.cells #[c0, c1, c2, c3, c4, c5, c6, c7, c8] t (0, 0)) := by
 have := blk_set (blk_set (blk_set (blk_set (blk_set (blk_set (blk_set (blk_set (blk_set h 0 c0) 1 c1) 2 c2) 3 c3) 4 c4) 5 c5) 6 c6) 7 c7) 8 c8
 simpa using this
theorem below9 {w W : World} {g : Nat} {c0 c1 c2 c3 c4 c5 c6 c7 c8 : Value} (h : Below w.heap.size w W) (hg : w.heap.size ≤ g) : Below w.heap.size w (((((((((W.setCell ⟨g, 0, none⟩ c0).setCell ⟨g, 1, none⟩ c1).setCell ⟨g, 2, none⟩ c2).setCell ⟨g, 3, none⟩ c3).setCell ⟨g, 4, none⟩ c4).setCell ⟨g, 5, none⟩ c5).setCell ⟨g, 6, none⟩ c6).setCell ⟨g, 7, none⟩ c7).setCell ⟨g, 8, none⟩ c8) :=
 below_set (below_set (below_set (below_set (below_set (below_set (below_set (below_set (below_set h hg) hg) hg) hg) hg) hg) hg) hg) hg
theorem keep9 {W : World} {g : Nat} {c0 c1 c2 c3 c4 c5 c6 c7 c8 : Value} : KeepBut W (((((((((W.setCell ⟨g, 0, none⟩ c0).setCell ⟨g, 1, none⟩ c1).setCell ⟨g, 2, none⟩ c2).setCell ⟨g, 3, none⟩ c3).setCell ⟨g, 4, none⟩ c4).setCell ⟨g, 5, none⟩ c5).setCell ⟨g, 6, none⟩ c6).setCell ⟨g, 7, none⟩ c7).setCell ⟨g, 8, none⟩ c8) g none :=
 ((((((((((KeepBut.refl W g none).set_ 0 c0).set_ 1 c1).set_ 2 c2).set_ 3 c3).set_ 4 c4).set_ 5 c5).set_ 6 c6).set_ 7 c7).set_ 8 c8)
/-- The write that flags and texts tell, and all of them. -/
def wOf (flags : List Int) (rest : List ByteArray) (j : Nat) : S72 := ⟨rdOf ByteArray.empty rest (2 * (j : Int)), rdOf ByteArray.empty rest (2 * (j : Int) + 1), rd flags (j : Int) == 1⟩
def wsOf (flags : List Int) (rest : List ByteArray) (i : Nat) : List S72 := (List.range i).map (wOf flags rest)
theorem ws_succ (flags : List Int) (rest : List ByteArray) (i : Nat) : wsOf flags rest (i + 1) = wsOf flags rest i ++ [wOf flags rest i] := by simp [wsOf, List.range_succ]
theorem ws_len (flags : List Int) (rest : List ByteArray) (i : Nat) : (wsOf flags rest i).length = i := by simp [wsOf]
theorem QR.set {w0 W : World} {gq gp g : Nat} {xs : List Int} {ts : List ByteArray} {vN vT : Value} {cells : Array Value} (h : QR w0 W gq gp xs ts vN vT) (hb : W.heap[g]? = some (.cells cells 32 (0, 0))) (hg : w0.heap.size ≤ g) (hne : gq ≠ g) (hne' : gp ≠ g) (j : Nat) (u : Value) : QR w0 (W.setCell ⟨g, j, none⟩ u) gq gp xs ts vN vT :=
 ⟨blk_far h.bq (p := ⟨g, j, none⟩) hne u, blk_far h.bp (p := ⟨g, j, none⟩) hne' u, h.geq, h.gep, Kd.R_set h.ns hb (by decide) j u, Kd.R_set h.ts hb (by decide) j u, below_set h.bel hg⟩
theorem ncell {W : World} {base g c : Nat} {ns : List Int} (h : (Kd.int .i64).R 3 W base (fun _ => True) (.slice (some ⟨g, 0, none⟩) ns.length c) ns) (i : Nat) (hi : i < ns.length) : W.cell? ⟨g, i, none⟩ = some (.int .i64 (rd ns (i : Int))) := (Kd.R_cell (0 : Int) h (i : Int) (by omega) (by omega)).1
theorem tcell {W : World} {base g c : Nat} {ts : List ByteArray} (h : Kd.string.R 9 W base (fun _ => True) (.slice (some ⟨g, 0, none⟩) ts.length c) ts) (i : Nat) (hi : i < ts.length) : W.cell? ⟨g, i, none⟩ = some (.string (rdOf ByteArray.empty ts (i : Int))) := (Kd.R_cell ByteArray.empty h (i : Int) (by omega) (by omega)).1
theorem clone_len {A0 : Option Addr} {c0 n0 : Nat} {l0 : List ByteArray} {w : World} (h0 : n0 = l0.length) (hr0 : Kd.C Kd.string w A0 l0.length l0) (hc0 : l0.length ≤ c0) (hl : l0.length < 8796093022208) :
  Calls Try.prog 31 #[.slice A0 n0 c0] w fun e w' => ∃ v0_ : Value, e = .returned v0_ ∧ Kd.R Kd.string 9 w' w.heap.size (fun _ => True) v0_ l0 ∧ Below w.heap.size w w' := by
 subst h0
 exact slices_CloneT.calls A0 c0 l0 l0 w hr0 hc0 (if_pos hl)
theorem enc_len {k : Nat} {x0 x1 x2 x3 x4 x5 : Int} {x6 : ByteArray} {A7 : Option Addr} {c7 n7 : Nat} {l7 : List ByteArray} {A8 : Option Addr} {c8 : Nat} {l8 : List S72} {r1 : ByteArray} {r2 : Int} {w : World} (h7 : n7 = l7.length) (hr7 : Kd.C Kd.string w A7 l7.length l7) (hc7 : l7.length ≤ c7) (hr8 : Kd.C k72 w A8 l8.length l8) (hc8 : l8.length ≤ c8) (h : letter_Encode.f k x0 x1 x2 x3 x4 x5 x6 l7 l8 = some (r1, r2)) :
  Calls Try.prog 18 #[.agg #[.int .i64 x0, .int .i64 x1, .int .i64 x2, .int .i64 x3, .int .i64 x4, .int .i64 x5, .string x6, .slice A7 n7 c7, .slice A8 l8.length c8]] w fun e w' => e = .returned (.tuple #[.string r1, .int .i64 r2]) ∧ Below w.heap.size w w' := by
 subst h7
 exact letter_Encode.calls k x0 x1 x2 x3 x4 x5 x6 A7 c7 l7 A8 c8 l8 r1 r2 w hr7 hc7 hr8 hc8 h
/-- A letter under way at block gl. -/
structure PL (w0 W : World) (gq gp gl : Nat) (ns : List Int) (ts : List ByteArray) (vN vT : Value) (x0 x1 x2 x3 x4 x5 : Int) (x6 : ByteArray) (ks : List ByteArray) (vK : Value) (ws : List S72) (vW : Value) : Prop where
 q : QR w0 W gq gp ns ts vN vT
 bl : W.heap[gl]? = some (.cells #[.int .i64 x0, .int .i64 x1, .int .i64 x2, .int .i64 x3, .int .i64 x4, .int .i64 x5, .string x6, vK, vW] 32 (0, 0))
 gel : w0.heap.size ≤ gl
 nq : gq ≠ gl
 np : gp ≠ gl
 kr : Kd.string.R 9 W w0.heap.size (fun _ => True) vK ks
 wr : k72.R 72 W w0.heap.size (fun _ => True) vW ws
section
variable {w0 W : World} {gq gp gl : Nat} {ns : List Int} {ts : List ByteArray} {vN vT : Value} {x0 x1 x2 x3 x4 x5 : Int} {x6 : ByteArray} {ks : List ByteArray} {vK : Value} {ws : List S72} {vW : Value}
theorem PL.below {W1 : World} (h : PL w0 W gq gp gl ns ts vN vT x0 x1 x2 x3 x4 x5 x6 ks vK ws vW) (hb : Below W.heap.size W W1) : PL w0 W1 gq gp gl ns ts vN vT x0 x1 x2 x3 x4 x5 x6 ks vK ws vW :=
 ⟨h.q.below hb, blk_below h.bl hb, h.gel, h.nq, h.np, Kd.R_below h.kr hb, Kd.R_below h.wr hb⟩
theorem PL.drew (h : PL w0 W gq gp gl ns ts vN vT x0 x1 x2 x3 x4 x5 x6 ks vK ws vW) : PL w0 W.drew gq gp gl ns ts vN vT x0 x1 x2 x3 x4 x5 x6 ks vK ws vW := h.below (below_drew (Below.refl _ _))
theorem PL.alloc (h : PL w0 W gq gp gl ns ts vN vT x0 x1 x2 x3 x4 x5 x6 ks vK ws vW) (o : Obj) : PL w0 (W.alloc o) gq gp gl ns ts vN vT x0 x1 x2 x3 x4 x5 x6 ks vK ws vW := h.below (below_alloc (Below.refl _ _) o)
theorem PL.push {v1 : Value} {w1 : World} {ys : List S72} (h : PL w0 W gq gp gl ns ts vN vT x0 x1 x2 x3 x4 x5 x6 ks vK ws vW) (ho : k72.R 72 w1 w0.heap.size (fun _ => True) v1 ys) (hb : Below w0.heap.size w0 w1) (hg : W.grownBy w1 vW.ownBlock) :
  w1.heap[gl]? = some (.cells #[.int .i64 x0, .int .i64 x1, .int .i64 x2, .int .i64 x3, .int .i64 x4, .int .i64 x5, .string x6, vK, vW] 32 (0, 0)) ∧ PL w0 (w1.setCell ⟨gl, 8, none⟩ v1) gq gp gl ns ts vN vT x0 x1 x2 x3 x4 x5 x6 ks vK ys v1 := by
 have b1 := blk_grown h.bl hg (Kd.R_ne h.wr h.bl (by decide))
 have q1 : QR w0 w1 gq gp ns ts vN vT := ⟨blk_grown h.q.bq hg (Kd.R_ne h.wr h.q.bq (by decide)), blk_grown h.q.bp hg (Kd.R_ne h.wr h.q.bp (by decide)), h.q.geq, h.q.gep, Kd.R_over h.q.ns h.wr (by decide) hg, Kd.R_over h.q.ts h.wr (by decide) hg, hb⟩
 exact ⟨b1, q1.set b1 h.gel h.nq h.np 8 v1, by simpa using blk_set b1 8 v1, h.gel, h.nq, h.np, Kd.R_set (Kd.R_over h.kr h.wr (by decide) hg) b1 (by decide) 8 v1, Kd.R_set ho b1 (by decide) 8 v1⟩
end
section
variable {w0 W : World} {gq gp : Nat} {ns : List Int} {ts : List ByteArray} {vN vT : Value} {x0 x1 x2 x3 x4 x5 : Int} {x6 : ByteArray} {ks : List ByteArray} {vK : Value}
theorem PL.new (hq : QR w0 W gq gp ns ts vN vT) (hk : Kd.string.R 9 W w0.heap.size (fun _ => True) vK ks) : PL w0 (W.alloc (.cells #[.int .i64 x0, .int .i64 x1, .int .i64 x2, .int .i64 x3, .int .i64 x4, .int .i64 x5, .string x6, vK, .slice none 0 0] 32)) gq gp W.heap.size ns ts vN vT x0 x1 x2 x3 x4 x5 x6 ks vK [] (.slice none 0 0) :=
 ⟨hq.alloc _, blk_new W _, hq.bel.size, by have := blk_lt hq.bq; omega, by have := blk_lt hq.bp; omega, Kd.R_alloc hk _, Kd.R_nil _ _ _ _ _⟩
theorem PL.nine {g : Nat} (hq : QR w0 W gq gp ns ts vN vT) (hb : W.heap[g]? = some (.cells #[.int .i64 0, .int .i64 0, .int .i64 0, .int .i64 0, .int .i64 0, .int .i64 0, .string (⟨#[]⟩ : ByteArray), .slice none 0 0, .slice none 0 0] 32 (0, 0))) (hg : w0.heap.size ≤ g) (nq : gq ≠ g) (np : gp ≠ g) (hk : Kd.string.R 9 W w0.heap.size (fun _ => True) vK ks) :
  PL w0 (((((((((W.setCell ⟨g, 0, none⟩ (.int .i64 x0)).setCell ⟨g, 1, none⟩ (.int .i64 x1)).setCell ⟨g, 2, none⟩ (.int .i64 x2)).setCell ⟨g, 3, none⟩ (.int .i64 x3)).setCell ⟨g, 4, none⟩ (.int .i64 x4)).setCell ⟨g, 5, none⟩ (.int .i64 x5)).setCell ⟨g, 6, none⟩ (.string x6)).setCell ⟨g, 7, none⟩ vK).setCell ⟨g, 8, none⟩ (.slice none 0 0)) gq gp g ns ts vN vT x0 x1 x2 x3 x4 x5 x6 ks vK [] (.slice none 0 0) :=
 ⟨⟨((keep9 (W := W) (g := g)).2 gq (blk_lt hq.bq) nq (by simp)).trans hq.bq, ((keep9 (W := W) (g := g)).2 gp (blk_lt hq.bp) np (by simp)).trans hq.bp, hq.geq, hq.gep, Kd.R_mono (Kd.R_keep (Kd.R_types hq.ns hb (by decide)) keep9 (fun _ hk => hk.2)) (fun _ _ => trivial), Kd.R_mono (Kd.R_keep (Kd.R_types hq.ts hb (by decide)) keep9 (fun _ hk => hk.2)) (fun _ _ => trivial), below9 hq.bel hg⟩, set9 hb, hg, nq, np, Kd.R_mono (Kd.R_keep (Kd.R_types hk hb (by decide)) keep9 (fun _ hk => hk.2)) (fun _ _ => trivial), Kd.R_nil _ _ _ _ _⟩
end
set_option maxHeartbeats 4000000 in
set_option maxRecDepth 100000 in
theorem ld_e (s : ByteArray) (ns : List Int) (ts : List ByteArray) (p e : Int) (w : World) (hf : pack_Decode.f s = some (ns, ts, p, e)) (he : e ≠ 0) :
  Calls Try.prog 20 #[.string s] w (NoLetE w) := by
 have e1 : (e == 0) = false := beq_eq_false_iff_ne.2 he
 have e2 : (e != 0) = true := bne_iff_ne.2 he
 clear he
 have hu32 := Try.underlying32
 have hu70 := Try.underlying70
 have HF := Aside0.mk hf
 clear hf
 go_enter Try.func20, Try.ntmps20
 go_upto_region 2 with (first | ((with_reducible refine gate_dst (N := 2) rfl ?_); refine box_event ?hg (N := 2) ?hd (cs := #[.int .i64 0, .int .i64 0, .int .i64 0, .int .i64 0, .int .i64 0, .int .i64 0, .string (⟨#[]⟩ : ByteArray), .slice none 0 0, .slice none 0 0]) (t := 32) ?hr ?_; (case hd => rfl); (case hg => rfl); (case hr => first | (go_simp; done) | (go_simp; rfl)); intro gq hgg w1 hbox hb; have GQ := Aside0.mk (Nat.le_of_eq hgg.symm); have BQ := Aside0.mk hbox; have BA := Aside0.mk hb; clear hgg hbox hb) | (go_at_call 30; refine (pack_Decode.calls s _ _ _ _ _ HF.out).mono ?_; rintro x w2 ⟨v0, v1, rfl, hN, hT, hb⟩; obtain ⟨AN, cN, eN⟩ := Kd.R_slice hN; subst eN; obtain ⟨AT, cT, eT⟩ := Kd.R_slice hT; subst eT; have GN := Aside0.mk (Kd.R_lower hN (below_size BA.out)); have GT := Aside0.mk (Kd.R_lower hT (below_size BA.out)); have BC := Aside0.mk (below_step BA.out hb); have BQ2 := Aside0.mk (blk_below BQ.out hb); clear hN hT hb) | ((with_reducible refine gate_dst (N := 4) rfl ?_); refine box_event ?hg (N := 4) ?hd (cs := #[.slice none 0 0, .slice none 0 0]) (t := 70) ?hr ?_; (case hd => rfl); (case hg => rfl); (case hr => first | (go_simp; done) | (go_simp; rfl)); intro gp hgp w3 hbox hb; have HQ := Aside0.mk (qr_of GQ.out BQ2.out hbox hgp GN.out GT.out BC.out hb); have hz0 : w3.cell? ⟨gp, 0, none⟩ = some (.slice none 0 0) := (blk_cell hbox 0).trans rfl; have hz1 : w3.cell? ⟨gp, 1, none⟩ = some (.slice none 0 0) := (blk_cell hbox 1).trans rfl; have hzf0 := blk_frozen hbox 0; have hzf1 := blk_frozen hbox 1; clear hgp hbox hb))
 generalize eW : (w3.setCell ⟨gp, 0, none⟩ (.slice AN ns.length cN)).setCell ⟨gp, 1, none⟩ (.slice AT ts.length cT) = W at HQ ⊢
 clear eW hz0 hz1 hzf0 hzf1 GN GT BC BQ2 BQ BA GQ
 have hP0 : W.cell? ⟨gp, 0, none⟩ = some (.slice AN ns.length cN) := (blk_cell HQ.out.bp 0).trans rfl
 have hP1 : W.cell? ⟨gp, 1, none⟩ = some (.slice AT ts.length cT) := (blk_cell HQ.out.bp 1).trans rfl
 have hq0 : W.cell? ⟨gq, 0, none⟩ = some (.int .i64 0) := (blk_cell HQ.out.bq 0).trans rfl
 have hqf0 := blk_frozen HQ.out.bq 0
 have hq1 : W.cell? ⟨gq, 1, none⟩ = some (.int .i64 0) := (blk_cell HQ.out.bq 1).trans rfl
 have hqf1 := blk_frozen HQ.out.bq 1
 have hq2 : W.cell? ⟨gq, 2, none⟩ = some (.int .i64 0) := (blk_cell HQ.out.bq 2).trans rfl
 have hqf2 := blk_frozen HQ.out.bq 2
 have hq3 : W.cell? ⟨gq, 3, none⟩ = some (.int .i64 0) := (blk_cell HQ.out.bq 3).trans rfl
 have hqf3 := blk_frozen HQ.out.bq 3
 have hq4 : W.cell? ⟨gq, 4, none⟩ = some (.int .i64 0) := (blk_cell HQ.out.bq 4).trans rfl
 have hqf4 := blk_frozen HQ.out.bq 4
 have hq5 : W.cell? ⟨gq, 5, none⟩ = some (.int .i64 0) := (blk_cell HQ.out.bq 5).trans rfl
 have hqf5 := blk_frozen HQ.out.bq 5
 have hq6 : W.cell? ⟨gq, 6, none⟩ = some (.string (⟨#[]⟩ : ByteArray)) := (blk_cell HQ.out.bq 6).trans rfl
 have hqf6 := blk_frozen HQ.out.bq 6
 have hq7 : W.cell? ⟨gq, 7, none⟩ = some (.slice none 0 0) := (blk_cell HQ.out.bq 7).trans rfl
 have hqf7 := blk_frozen HQ.out.bq 7
 have hq8 : W.cell? ⟨gq, 8, none⟩ = some (.slice none 0 0) := (blk_cell HQ.out.bq 8).trans rfl
 have hqf8 := blk_frozen HQ.out.bq 8
 go_wp2
 refine bodyPost_ret (results_ct rfl _ _ gq 32 #[.int .i64 0, .int .i64 0, .int .i64 0, .int .i64 0, .int .i64 0, .int .i64 0, .string (⟨#[]⟩ : ByteArray), .slice none 0 0, .slice none 0 0] (0, 0) _ rfl (set9 HQ.out.bq) Try.underlying32 rfl (by kernel_rfl)) rfl ?_
 exact ⟨rfl, below9 HQ.out.bel HQ.out.geq⟩
set_option maxHeartbeats 4000000 in
set_option maxRecDepth 100000 in
theorem ld_n (s : ByteArray) (ns : List Int) (ts : List ByteArray) (p : Int) (w : World) (hf : pack_Decode.f s = some (ns, ts, p, 0)) (hn : ns.length < 7) :
  Calls Try.prog 20 #[.string s] w (NoLetE w) := by
 have e1 : decide ((ns.length : Int) < 7) = true := decide_eq_true (by omega)
 have e2 : decide (ns.length < 7) = true := decide_eq_true hn
 clear hn
 have hu32 := Try.underlying32
 have hu70 := Try.underlying70
 have HF := Aside0.mk hf
 clear hf
 go_enter Try.func20, Try.ntmps20
 go_upto_region 2 with (first | ((with_reducible refine gate_dst (N := 2) rfl ?_); refine box_event ?hg (N := 2) ?hd (cs := #[.int .i64 0, .int .i64 0, .int .i64 0, .int .i64 0, .int .i64 0, .int .i64 0, .string (⟨#[]⟩ : ByteArray), .slice none 0 0, .slice none 0 0]) (t := 32) ?hr ?_; (case hd => rfl); (case hg => rfl); (case hr => first | (go_simp; done) | (go_simp; rfl)); intro gq hgg w1 hbox hb; have GQ := Aside0.mk (Nat.le_of_eq hgg.symm); have BQ := Aside0.mk hbox; have BA := Aside0.mk hb; clear hgg hbox hb) | (go_at_call 30; refine (pack_Decode.calls s _ _ _ _ _ HF.out).mono ?_; rintro x w2 ⟨v0, v1, rfl, hN, hT, hb⟩; obtain ⟨AN, cN, eN⟩ := Kd.R_slice hN; subst eN; obtain ⟨AT, cT, eT⟩ := Kd.R_slice hT; subst eT; have GN := Aside0.mk (Kd.R_lower hN (below_size BA.out)); have GT := Aside0.mk (Kd.R_lower hT (below_size BA.out)); have BC := Aside0.mk (below_step BA.out hb); have BQ2 := Aside0.mk (blk_below BQ.out hb); clear hN hT hb) | ((with_reducible refine gate_dst (N := 4) rfl ?_); refine box_event ?hg (N := 4) ?hd (cs := #[.slice none 0 0, .slice none 0 0]) (t := 70) ?hr ?_; (case hd => rfl); (case hg => rfl); (case hr => first | (go_simp; done) | (go_simp; rfl)); intro gp hgp w3 hbox hb; have HQ := Aside0.mk (qr_of GQ.out BQ2.out hbox hgp GN.out GT.out BC.out hb); have hz0 : w3.cell? ⟨gp, 0, none⟩ = some (.slice none 0 0) := (blk_cell hbox 0).trans rfl; have hz1 : w3.cell? ⟨gp, 1, none⟩ = some (.slice none 0 0) := (blk_cell hbox 1).trans rfl; have hzf0 := blk_frozen hbox 0; have hzf1 := blk_frozen hbox 1; clear hgp hbox hb))
 generalize eW : (w3.setCell ⟨gp, 0, none⟩ (.slice AN ns.length cN)).setCell ⟨gp, 1, none⟩ (.slice AT ts.length cT) = W at HQ ⊢
 clear eW hz0 hz1 hzf0 hzf1 GN GT BC BQ2 BQ BA GQ
 have hP0 : W.cell? ⟨gp, 0, none⟩ = some (.slice AN ns.length cN) := (blk_cell HQ.out.bp 0).trans rfl
 have hP1 : W.cell? ⟨gp, 1, none⟩ = some (.slice AT ts.length cT) := (blk_cell HQ.out.bp 1).trans rfl
 have hq0 : W.cell? ⟨gq, 0, none⟩ = some (.int .i64 0) := (blk_cell HQ.out.bq 0).trans rfl
 have hqf0 := blk_frozen HQ.out.bq 0
 have hq1 : W.cell? ⟨gq, 1, none⟩ = some (.int .i64 0) := (blk_cell HQ.out.bq 1).trans rfl
 have hqf1 := blk_frozen HQ.out.bq 1
 have hq2 : W.cell? ⟨gq, 2, none⟩ = some (.int .i64 0) := (blk_cell HQ.out.bq 2).trans rfl
 have hqf2 := blk_frozen HQ.out.bq 2
 have hq3 : W.cell? ⟨gq, 3, none⟩ = some (.int .i64 0) := (blk_cell HQ.out.bq 3).trans rfl
 have hqf3 := blk_frozen HQ.out.bq 3
 have hq4 : W.cell? ⟨gq, 4, none⟩ = some (.int .i64 0) := (blk_cell HQ.out.bq 4).trans rfl
 have hqf4 := blk_frozen HQ.out.bq 4
 have hq5 : W.cell? ⟨gq, 5, none⟩ = some (.int .i64 0) := (blk_cell HQ.out.bq 5).trans rfl
 have hqf5 := blk_frozen HQ.out.bq 5
 have hq6 : W.cell? ⟨gq, 6, none⟩ = some (.string (⟨#[]⟩ : ByteArray)) := (blk_cell HQ.out.bq 6).trans rfl
 have hqf6 := blk_frozen HQ.out.bq 6
 have hq7 : W.cell? ⟨gq, 7, none⟩ = some (.slice none 0 0) := (blk_cell HQ.out.bq 7).trans rfl
 have hqf7 := blk_frozen HQ.out.bq 7
 have hq8 : W.cell? ⟨gq, 8, none⟩ = some (.slice none 0 0) := (blk_cell HQ.out.bq 8).trans rfl
 have hqf8 := blk_frozen HQ.out.bq 8
 go_wp2
 refine bodyPost_ret (results_ct rfl _ _ gq 32 #[.int .i64 0, .int .i64 0, .int .i64 0, .int .i64 0, .int .i64 0, .int .i64 0, .string (⟨#[]⟩ : ByteArray), .slice none 0 0, .slice none 0 0] (0, 0) _ rfl (set9 HQ.out.bq) Try.underlying32 rfl (by kernel_rfl)) rfl ?_
 exact ⟨rfl, below9 HQ.out.bel HQ.out.geq⟩
set_option maxHeartbeats 4000000 in
set_option maxRecDepth 100000 in
theorem ld_t (s : ByteArray) (ns : List Int) (ts : List ByteArray) (p : Int) (w : World) (hf : pack_Decode.f s = some (ns, ts, p, 0)) (hn : 7 ≤ ns.length) (ht : ts = []) :
  Calls Try.prog 20 #[.string s] w (NoLetE w) := by
 have e1 : decide ((ns.length : Int) < 7) = false := decide_eq_false (by omega)
 have e2 : decide (ns.length < 7) = false := decide_eq_false (by omega)
 have HT := Aside0.mk ht
 clear hn ht
 have hu32 := Try.underlying32
 have hu70 := Try.underlying70
 have HF := Aside0.mk hf
 clear hf
 go_enter Try.func20, Try.ntmps20
 go_upto_region 2 with (first | ((with_reducible refine gate_dst (N := 2) rfl ?_); refine box_event ?hg (N := 2) ?hd (cs := #[.int .i64 0, .int .i64 0, .int .i64 0, .int .i64 0, .int .i64 0, .int .i64 0, .string (⟨#[]⟩ : ByteArray), .slice none 0 0, .slice none 0 0]) (t := 32) ?hr ?_; (case hd => rfl); (case hg => rfl); (case hr => first | (go_simp; done) | (go_simp; rfl)); intro gq hgg w1 hbox hb; have GQ := Aside0.mk (Nat.le_of_eq hgg.symm); have BQ := Aside0.mk hbox; have BA := Aside0.mk hb; clear hgg hbox hb) | (go_at_call 30; refine (pack_Decode.calls s _ _ _ _ _ HF.out).mono ?_; rintro x w2 ⟨v0, v1, rfl, hN, hT, hb⟩; obtain ⟨AN, cN, eN⟩ := Kd.R_slice hN; subst eN; obtain ⟨AT, cT, eT⟩ := Kd.R_slice hT; subst eT; have GN := Aside0.mk (Kd.R_lower hN (below_size BA.out)); have GT := Aside0.mk (Kd.R_lower hT (below_size BA.out)); have BC := Aside0.mk (below_step BA.out hb); have BQ2 := Aside0.mk (blk_below BQ.out hb); clear hN hT hb) | ((with_reducible refine gate_dst (N := 4) rfl ?_); refine box_event ?hg (N := 4) ?hd (cs := #[.slice none 0 0, .slice none 0 0]) (t := 70) ?hr ?_; (case hd => rfl); (case hg => rfl); (case hr => first | (go_simp; done) | (go_simp; rfl)); intro gp hgp w3 hbox hb; have HQ := Aside0.mk (qr_of GQ.out BQ2.out hbox hgp GN.out GT.out BC.out hb); have hz0 : w3.cell? ⟨gp, 0, none⟩ = some (.slice none 0 0) := (blk_cell hbox 0).trans rfl; have hz1 : w3.cell? ⟨gp, 1, none⟩ = some (.slice none 0 0) := (blk_cell hbox 1).trans rfl; have hzf0 := blk_frozen hbox 0; have hzf1 := blk_frozen hbox 1; clear hgp hbox hb))
 generalize eW : (w3.setCell ⟨gp, 0, none⟩ (.slice AN ns.length cN)).setCell ⟨gp, 1, none⟩ (.slice AT ts.length cT) = W at HQ ⊢
 clear eW hz0 hz1 hzf0 hzf1 GN GT BC BQ2 BQ BA GQ
 have hP0 : W.cell? ⟨gp, 0, none⟩ = some (.slice AN ns.length cN) := (blk_cell HQ.out.bp 0).trans rfl
 have hP1 : W.cell? ⟨gp, 1, none⟩ = some (.slice AT ts.length cT) := (blk_cell HQ.out.bp 1).trans rfl
 have hq0 : W.cell? ⟨gq, 0, none⟩ = some (.int .i64 0) := (blk_cell HQ.out.bq 0).trans rfl
 have hqf0 := blk_frozen HQ.out.bq 0
 have hq1 : W.cell? ⟨gq, 1, none⟩ = some (.int .i64 0) := (blk_cell HQ.out.bq 1).trans rfl
 have hqf1 := blk_frozen HQ.out.bq 1
 have hq2 : W.cell? ⟨gq, 2, none⟩ = some (.int .i64 0) := (blk_cell HQ.out.bq 2).trans rfl
 have hqf2 := blk_frozen HQ.out.bq 2
 have hq3 : W.cell? ⟨gq, 3, none⟩ = some (.int .i64 0) := (blk_cell HQ.out.bq 3).trans rfl
 have hqf3 := blk_frozen HQ.out.bq 3
 have hq4 : W.cell? ⟨gq, 4, none⟩ = some (.int .i64 0) := (blk_cell HQ.out.bq 4).trans rfl
 have hqf4 := blk_frozen HQ.out.bq 4
 have hq5 : W.cell? ⟨gq, 5, none⟩ = some (.int .i64 0) := (blk_cell HQ.out.bq 5).trans rfl
 have hqf5 := blk_frozen HQ.out.bq 5
 have hq6 : W.cell? ⟨gq, 6, none⟩ = some (.string (⟨#[]⟩ : ByteArray)) := (blk_cell HQ.out.bq 6).trans rfl
 have hqf6 := blk_frozen HQ.out.bq 6
 have hq7 : W.cell? ⟨gq, 7, none⟩ = some (.slice none 0 0) := (blk_cell HQ.out.bq 7).trans rfl
 have hqf7 := blk_frozen HQ.out.bq 7
 have hq8 : W.cell? ⟨gq, 8, none⟩ = some (.slice none 0 0) := (blk_cell HQ.out.bq 8).trans rfl
 have hqf8 := blk_frozen HQ.out.bq 8
 obtain rfl := HT.out
 simp only [List.length_nil] at hP1
 go_wp2
 refine bodyPost_ret (results_ct rfl _ _ gq 32 #[.int .i64 0, .int .i64 0, .int .i64 0, .int .i64 0, .int .i64 0, .int .i64 0, .string (⟨#[]⟩ : ByteArray), .slice none 0 0, .slice none 0 0] (0, 0) _ rfl (set9 HQ.out.bq) Try.underlying32 rfl (by kernel_rfl)) rfl ?_
 exact ⟨rfl, below9 HQ.out.bel HQ.out.geq⟩
set_option maxHeartbeats 4000000 in
set_option maxRecDepth 100000 in
theorem ld_m1 (s : ByteArray) (ns : List Int) (ts : List ByteArray) (p : Int) (w : World) (hf : pack_Decode.f s = some (ns, ts, p, 0)) (hn : 7 ≤ ns.length) (ht : 1 ≤ ts.length) (hm : rd ns 6 < 0) :
  Calls Try.prog 20 #[.string s] w (NoLetE w) := by
 have e1 : decide ((ns.length : Int) < 7) = false := decide_eq_false (by omega)
 have e2 : decide (ns.length < 7) = false := decide_eq_false (by omega)
 have e3 : decide ((ts.length : Int) < 1) = false := decide_eq_false (by omega)
 have e4 : decide (ts.length < 1) = false := decide_eq_false (by omega)
 have e5 : ¬ (ts.length = 0) := by omega
 have e6 : ¬ (ts = []) := fun h => by rw [h] at ht; exact absurd ht (by decide)
 have hl7 := hn
 have hl1 := ht
 have m1 : decide (rd ns 6 < 0) = true := decide_eq_true hm
 clear hn ht
 have hu32 := Try.underlying32
 have hu70 := Try.underlying70
 have HF := Aside0.mk hf
 clear hf
 go_enter Try.func20, Try.ntmps20
 go_upto_region 2 with (first | ((with_reducible refine gate_dst (N := 2) rfl ?_); refine box_event ?hg (N := 2) ?hd (cs := #[.int .i64 0, .int .i64 0, .int .i64 0, .int .i64 0, .int .i64 0, .int .i64 0, .string (⟨#[]⟩ : ByteArray), .slice none 0 0, .slice none 0 0]) (t := 32) ?hr ?_; (case hd => rfl); (case hg => rfl); (case hr => first | (go_simp; done) | (go_simp; rfl)); intro gq hgg w1 hbox hb; have GQ := Aside0.mk (Nat.le_of_eq hgg.symm); have BQ := Aside0.mk hbox; have BA := Aside0.mk hb; clear hgg hbox hb) | (go_at_call 30; refine (pack_Decode.calls s _ _ _ _ _ HF.out).mono ?_; rintro x w2 ⟨v0, v1, rfl, hN, hT, hb⟩; obtain ⟨AN, cN, eN⟩ := Kd.R_slice hN; subst eN; obtain ⟨AT, cT, eT⟩ := Kd.R_slice hT; subst eT; have GN := Aside0.mk (Kd.R_lower hN (below_size BA.out)); have GT := Aside0.mk (Kd.R_lower hT (below_size BA.out)); have BC := Aside0.mk (below_step BA.out hb); have BQ2 := Aside0.mk (blk_below BQ.out hb); clear hN hT hb) | ((with_reducible refine gate_dst (N := 4) rfl ?_); refine box_event ?hg (N := 4) ?hd (cs := #[.slice none 0 0, .slice none 0 0]) (t := 70) ?hr ?_; (case hd => rfl); (case hg => rfl); (case hr => first | (go_simp; done) | (go_simp; rfl)); intro gp hgp w3 hbox hb; have HQ := Aside0.mk (qr_of GQ.out BQ2.out hbox hgp GN.out GT.out BC.out hb); have hz0 : w3.cell? ⟨gp, 0, none⟩ = some (.slice none 0 0) := (blk_cell hbox 0).trans rfl; have hz1 : w3.cell? ⟨gp, 1, none⟩ = some (.slice none 0 0) := (blk_cell hbox 1).trans rfl; have hzf0 := blk_frozen hbox 0; have hzf1 := blk_frozen hbox 1; clear hgp hbox hb))
 generalize eW : (w3.setCell ⟨gp, 0, none⟩ (.slice AN ns.length cN)).setCell ⟨gp, 1, none⟩ (.slice AT ts.length cT) = W at HQ ⊢
 clear eW hz0 hz1 hzf0 hzf1 GN GT BC BQ2 BQ BA GQ
 have hP0 : W.cell? ⟨gp, 0, none⟩ = some (.slice AN ns.length cN) := (blk_cell HQ.out.bp 0).trans rfl
 have hP1 : W.cell? ⟨gp, 1, none⟩ = some (.slice AT ts.length cT) := (blk_cell HQ.out.bp 1).trans rfl
 have hq0 : W.cell? ⟨gq, 0, none⟩ = some (.int .i64 0) := (blk_cell HQ.out.bq 0).trans rfl
 have hqf0 := blk_frozen HQ.out.bq 0
 have hq1 : W.cell? ⟨gq, 1, none⟩ = some (.int .i64 0) := (blk_cell HQ.out.bq 1).trans rfl
 have hqf1 := blk_frozen HQ.out.bq 1
 have hq2 : W.cell? ⟨gq, 2, none⟩ = some (.int .i64 0) := (blk_cell HQ.out.bq 2).trans rfl
 have hqf2 := blk_frozen HQ.out.bq 2
 have hq3 : W.cell? ⟨gq, 3, none⟩ = some (.int .i64 0) := (blk_cell HQ.out.bq 3).trans rfl
 have hqf3 := blk_frozen HQ.out.bq 3
 have hq4 : W.cell? ⟨gq, 4, none⟩ = some (.int .i64 0) := (blk_cell HQ.out.bq 4).trans rfl
 have hqf4 := blk_frozen HQ.out.bq 4
 have hq5 : W.cell? ⟨gq, 5, none⟩ = some (.int .i64 0) := (blk_cell HQ.out.bq 5).trans rfl
 have hqf5 := blk_frozen HQ.out.bq 5
 have hq6 : W.cell? ⟨gq, 6, none⟩ = some (.string (⟨#[]⟩ : ByteArray)) := (blk_cell HQ.out.bq 6).trans rfl
 have hqf6 := blk_frozen HQ.out.bq 6
 have hq7 : W.cell? ⟨gq, 7, none⟩ = some (.slice none 0 0) := (blk_cell HQ.out.bq 7).trans rfl
 have hqf7 := blk_frozen HQ.out.bq 7
 have hq8 : W.cell? ⟨gq, 8, none⟩ = some (.slice none 0 0) := (blk_cell HQ.out.bq 8).trans rfl
 have hqf8 := blk_frozen HQ.out.bq 8
 obtain ⟨gn, cn, eN, gnb, gnl, cellsN, hcN⟩ := Kd.R_form HQ.out.ns (by omega)
 obtain ⟨gt, ct, eT, gtb, gtl, cellsT, hcT⟩ := Kd.R_form HQ.out.ts (by omega)
 have eN' : AN = some ⟨gn, 0, none⟩ ∧ cN = cn := by simpa using eN
 have eT' : AT = some ⟨gt, 0, none⟩ ∧ cT = ct := by simpa using eT
 obtain ⟨rfl, rfl⟩ := eN'
 obtain ⟨rfl, rfl⟩ := eT'
 obtain ⟨_, hcapN, hCN⟩ := Kd.R_reads' HQ.out.ns
 obtain ⟨_, hcapT, hCT⟩ := Kd.R_reads' HQ.out.ts
 clear eN eT hcN hcT gnb gnl gtb gtl
 obtain ⟨_, eA, hn0⟩ := Kd.at_int hCN 0 (by decide) (by omega)
 cases eA
 replace hn0 : W.cell? ⟨gn, 0, none⟩ = some (.int .i64 (rd ns 0)) := by simpa [add_plain] using hn0
 obtain ⟨_, eA, hn1⟩ := Kd.at_int hCN 1 (by decide) (by omega)
 cases eA
 replace hn1 : W.cell? ⟨gn, 1, none⟩ = some (.int .i64 (rd ns 1)) := by simpa [add_plain] using hn1
 obtain ⟨_, eA, hn2⟩ := Kd.at_int hCN 2 (by decide) (by omega)
 cases eA
 replace hn2 : W.cell? ⟨gn, 2, none⟩ = some (.int .i64 (rd ns 2)) := by simpa [add_plain] using hn2
 obtain ⟨_, eA, hn3⟩ := Kd.at_int hCN 3 (by decide) (by omega)
 cases eA
 replace hn3 : W.cell? ⟨gn, 3, none⟩ = some (.int .i64 (rd ns 3)) := by simpa [add_plain] using hn3
 obtain ⟨_, eA, hn4⟩ := Kd.at_int hCN 4 (by decide) (by omega)
 cases eA
 replace hn4 : W.cell? ⟨gn, 4, none⟩ = some (.int .i64 (rd ns 4)) := by simpa [add_plain] using hn4
 obtain ⟨_, eA, hn5⟩ := Kd.at_int hCN 5 (by decide) (by omega)
 cases eA
 replace hn5 : W.cell? ⟨gn, 5, none⟩ = some (.int .i64 (rd ns 5)) := by simpa [add_plain] using hn5
 obtain ⟨_, eA, hn6⟩ := Kd.at_int hCN 6 (by decide) (by omega)
 cases eA
 replace hn6 : W.cell? ⟨gn, 6, none⟩ = some (.int .i64 (rd ns 6)) := by simpa [add_plain] using hn6
 obtain ⟨_, eA, ht0⟩ := Kd.at_string hCT 0 (by decide) (by omega)
 cases eA
 replace ht0 : W.cell? ⟨gt, 0, none⟩ = some (.string (rdOf ByteArray.empty ts 0)) := by simpa [add_plain] using ht0
 go_wp2
 obtain ⟨i3, hi3, hz3⟩ := Option.map_eq_some_iff.1 info3
 have hs3 : i3.size = 1 := by simpa using congrArg (fun x => x.2.1) hz3
 have hcutN := fun W => cut_from (P := Try.prog) 39 3 .i64 Try.underlying39 hi3 1 hs3 (some ⟨gn, 0, none⟩) ns.length cN 7 (by decide) (by omega) W
 have hsameN : (if cN = (7 : Int).toNat then (some ⟨gn, 0, none⟩ : Option Addr) else (some ⟨gn, 0, none⟩ : Option Addr).map (·.add ((7 : Int).toNat * 1))) = (if cN = 7 then (some ⟨gn, 0, none⟩ : Option Addr) else (some ⟨gn, 0, none⟩ : Option Addr).map (·.add (7 * (Kd.int .i64).sz))) := rfl
 rw [hsameN] at hcutN
 obtain ⟨AF, hAF⟩ : ∃ A, A = (if cN = 7 then (some ⟨gn, 0, none⟩ : Option Addr) else (some ⟨gn, 0, none⟩ : Option Addr).map (·.add (7 * (Kd.int .i64).sz))) := ⟨_, rfl⟩
 rw [← hAF] at hcutN
 have HMF : Aside0 (∀ W', (Kd.int .i64).C W' (some ⟨gn, 0, none⟩) ns.length ns → (Kd.int .i64).C W' AF (ns.drop 7).length (ns.drop 7)) := ⟨fun W' h => by rw [hAF]; exact Kd.C_drop (m := 7) h (by omega) hcapN⟩
 have q5 : (7 : Int) ≤ (ns.length : Int) := by omega
 have j6 : (6 : Int) < (ns.length : Int) := by omega
 have jj6 : 6 < ns.length := by omega
 have jn : ¬ (ns = []) := fun h => by rw [h] at hl7; exact absurd hl7 (by decide)
 have HCAPN := Aside0.mk hcapN
 have HCAP := Aside0.mk hcapT
 clear hsameN hAF hs3 hz3 hi3 hcapN hcapT hCN hCT
 go_region_held3 (fun W => W.cell? ⟨gp, 0, none⟩ = some (.slice (some ⟨gn, 0, none⟩) ns.length cN) ∧ W.cell? ⟨gn, 6, none⟩ = some (.int .i64 (rd ns 6))) (go_keep) (fail)
 have HQ1 := Aside0.mk HQ.out.drew
 generalize eW : W.drew = W1 at HQ1 ⊢
 clear eW HQ hP0 hP1 hn0 hn1 hn2 hn3 hn4 hn5 hn6 ht0 hq0 hqf0 hq1 hqf1 hq2 hqf2 hq3 hqf3 hq4 hqf4 hq5 hqf5 hq6 hqf6 hq7 hqf7 hq8 hqf8
 have hq0 : W1.cell? ⟨gq, 0, none⟩ = some (.int .i64 0) := (blk_cell HQ1.out.bq 0).trans rfl
 have hqf0 := blk_frozen HQ1.out.bq 0
 have hq1 : W1.cell? ⟨gq, 1, none⟩ = some (.int .i64 0) := (blk_cell HQ1.out.bq 1).trans rfl
 have hqf1 := blk_frozen HQ1.out.bq 1
 have hq2 : W1.cell? ⟨gq, 2, none⟩ = some (.int .i64 0) := (blk_cell HQ1.out.bq 2).trans rfl
 have hqf2 := blk_frozen HQ1.out.bq 2
 have hq3 : W1.cell? ⟨gq, 3, none⟩ = some (.int .i64 0) := (blk_cell HQ1.out.bq 3).trans rfl
 have hqf3 := blk_frozen HQ1.out.bq 3
 have hq4 : W1.cell? ⟨gq, 4, none⟩ = some (.int .i64 0) := (blk_cell HQ1.out.bq 4).trans rfl
 have hqf4 := blk_frozen HQ1.out.bq 4
 have hq5 : W1.cell? ⟨gq, 5, none⟩ = some (.int .i64 0) := (blk_cell HQ1.out.bq 5).trans rfl
 have hqf5 := blk_frozen HQ1.out.bq 5
 have hq6 : W1.cell? ⟨gq, 6, none⟩ = some (.string (⟨#[]⟩ : ByteArray)) := (blk_cell HQ1.out.bq 6).trans rfl
 have hqf6 := blk_frozen HQ1.out.bq 6
 have hq7 : W1.cell? ⟨gq, 7, none⟩ = some (.slice none 0 0) := (blk_cell HQ1.out.bq 7).trans rfl
 have hqf7 := blk_frozen HQ1.out.bq 7
 have hq8 : W1.cell? ⟨gq, 8, none⟩ = some (.slice none 0 0) := (blk_cell HQ1.out.bq 8).trans rfl
 have hqf8 := blk_frozen HQ1.out.bq 8
 have hP0 : W1.cell? ⟨gp, 0, none⟩ = some (.slice (some ⟨gn, 0, none⟩) ns.length cN) := (blk_cell HQ1.out.bp 0).trans rfl
 have hP1 : W1.cell? ⟨gp, 1, none⟩ = some (.slice (some ⟨gt, 0, none⟩) ts.length cT) := (blk_cell HQ1.out.bp 1).trans rfl
 go_wp2
 refine bodyPost_ret (results_ct rfl _ _ gq 32 #[.int .i64 0, .int .i64 0, .int .i64 0, .int .i64 0, .int .i64 0, .int .i64 0, .string (⟨#[]⟩ : ByteArray), .slice none 0 0, .slice none 0 0] (0, 0) _ rfl (set9 HQ1.out.bq) Try.underlying32 rfl (by kernel_rfl)) rfl ?_
 exact ⟨rfl, below9 HQ1.out.bel HQ1.out.geq⟩
set_option maxHeartbeats 4000000 in
set_option maxRecDepth 100000 in
theorem ld_m2 (s : ByteArray) (ns : List Int) (ts : List ByteArray) (p : Int) (w : World) (hf : pack_Decode.f s = some (ns, ts, p, 0)) (hn : 7 ≤ ns.length) (ht : 1 ≤ ts.length) (hb : ts.length ≤ 1024) (hm : 0 ≤ rd ns 6) (hm2 : (ts.length : Int) ≤ rd ns 6) :
  Calls Try.prog 20 #[.string s] w (NoLetE w) := by
 have e1 : decide ((ns.length : Int) < 7) = false := decide_eq_false (by omega)
 have e2 : decide (ns.length < 7) = false := decide_eq_false (by omega)
 have e3 : decide ((ts.length : Int) < 1) = false := decide_eq_false (by omega)
 have e4 : decide (ts.length < 1) = false := decide_eq_false (by omega)
 have e5 : ¬ (ts.length = 0) := by omega
 have e6 : ¬ (ts = []) := fun h => by rw [h] at ht; exact absurd ht (by decide)
 have hl7 := hn
 have hl1 := ht
 have m1 : decide (rd ns 6 < 0) = false := decide_eq_false (by omega)
 have m2 : decide ((ts.length : Int) ≤ rd ns 6) = true := decide_eq_true hm2
 clear hn ht
 have hu32 := Try.underlying32
 have hu70 := Try.underlying70
 have HF := Aside0.mk hf
 clear hf
 go_enter Try.func20, Try.ntmps20
 go_upto_region 2 with (first | ((with_reducible refine gate_dst (N := 2) rfl ?_); refine box_event ?hg (N := 2) ?hd (cs := #[.int .i64 0, .int .i64 0, .int .i64 0, .int .i64 0, .int .i64 0, .int .i64 0, .string (⟨#[]⟩ : ByteArray), .slice none 0 0, .slice none 0 0]) (t := 32) ?hr ?_; (case hd => rfl); (case hg => rfl); (case hr => first | (go_simp; done) | (go_simp; rfl)); intro gq hgg w1 hbox hb; have GQ := Aside0.mk (Nat.le_of_eq hgg.symm); have BQ := Aside0.mk hbox; have BA := Aside0.mk hb; clear hgg hbox hb) | (go_at_call 30; refine (pack_Decode.calls s _ _ _ _ _ HF.out).mono ?_; rintro x w2 ⟨v0, v1, rfl, hN, hT, hb⟩; obtain ⟨AN, cN, eN⟩ := Kd.R_slice hN; subst eN; obtain ⟨AT, cT, eT⟩ := Kd.R_slice hT; subst eT; have GN := Aside0.mk (Kd.R_lower hN (below_size BA.out)); have GT := Aside0.mk (Kd.R_lower hT (below_size BA.out)); have BC := Aside0.mk (below_step BA.out hb); have BQ2 := Aside0.mk (blk_below BQ.out hb); clear hN hT hb) | ((with_reducible refine gate_dst (N := 4) rfl ?_); refine box_event ?hg (N := 4) ?hd (cs := #[.slice none 0 0, .slice none 0 0]) (t := 70) ?hr ?_; (case hd => rfl); (case hg => rfl); (case hr => first | (go_simp; done) | (go_simp; rfl)); intro gp hgp w3 hbox hb; have HQ := Aside0.mk (qr_of GQ.out BQ2.out hbox hgp GN.out GT.out BC.out hb); have hz0 : w3.cell? ⟨gp, 0, none⟩ = some (.slice none 0 0) := (blk_cell hbox 0).trans rfl; have hz1 : w3.cell? ⟨gp, 1, none⟩ = some (.slice none 0 0) := (blk_cell hbox 1).trans rfl; have hzf0 := blk_frozen hbox 0; have hzf1 := blk_frozen hbox 1; clear hgp hbox hb))
 generalize eW : (w3.setCell ⟨gp, 0, none⟩ (.slice AN ns.length cN)).setCell ⟨gp, 1, none⟩ (.slice AT ts.length cT) = W at HQ ⊢
 clear eW hz0 hz1 hzf0 hzf1 GN GT BC BQ2 BQ BA GQ
 have hP0 : W.cell? ⟨gp, 0, none⟩ = some (.slice AN ns.length cN) := (blk_cell HQ.out.bp 0).trans rfl
 have hP1 : W.cell? ⟨gp, 1, none⟩ = some (.slice AT ts.length cT) := (blk_cell HQ.out.bp 1).trans rfl
 have hq0 : W.cell? ⟨gq, 0, none⟩ = some (.int .i64 0) := (blk_cell HQ.out.bq 0).trans rfl
 have hqf0 := blk_frozen HQ.out.bq 0
 have hq1 : W.cell? ⟨gq, 1, none⟩ = some (.int .i64 0) := (blk_cell HQ.out.bq 1).trans rfl
 have hqf1 := blk_frozen HQ.out.bq 1
 have hq2 : W.cell? ⟨gq, 2, none⟩ = some (.int .i64 0) := (blk_cell HQ.out.bq 2).trans rfl
 have hqf2 := blk_frozen HQ.out.bq 2
 have hq3 : W.cell? ⟨gq, 3, none⟩ = some (.int .i64 0) := (blk_cell HQ.out.bq 3).trans rfl
 have hqf3 := blk_frozen HQ.out.bq 3
 have hq4 : W.cell? ⟨gq, 4, none⟩ = some (.int .i64 0) := (blk_cell HQ.out.bq 4).trans rfl
 have hqf4 := blk_frozen HQ.out.bq 4
 have hq5 : W.cell? ⟨gq, 5, none⟩ = some (.int .i64 0) := (blk_cell HQ.out.bq 5).trans rfl
 have hqf5 := blk_frozen HQ.out.bq 5
 have hq6 : W.cell? ⟨gq, 6, none⟩ = some (.string (⟨#[]⟩ : ByteArray)) := (blk_cell HQ.out.bq 6).trans rfl
 have hqf6 := blk_frozen HQ.out.bq 6
 have hq7 : W.cell? ⟨gq, 7, none⟩ = some (.slice none 0 0) := (blk_cell HQ.out.bq 7).trans rfl
 have hqf7 := blk_frozen HQ.out.bq 7
 have hq8 : W.cell? ⟨gq, 8, none⟩ = some (.slice none 0 0) := (blk_cell HQ.out.bq 8).trans rfl
 have hqf8 := blk_frozen HQ.out.bq 8
 obtain ⟨gn, cn, eN, gnb, gnl, cellsN, hcN⟩ := Kd.R_form HQ.out.ns (by omega)
 obtain ⟨gt, ct, eT, gtb, gtl, cellsT, hcT⟩ := Kd.R_form HQ.out.ts (by omega)
 have eN' : AN = some ⟨gn, 0, none⟩ ∧ cN = cn := by simpa using eN
 have eT' : AT = some ⟨gt, 0, none⟩ ∧ cT = ct := by simpa using eT
 obtain ⟨rfl, rfl⟩ := eN'
 obtain ⟨rfl, rfl⟩ := eT'
 obtain ⟨_, hcapN, hCN⟩ := Kd.R_reads' HQ.out.ns
 obtain ⟨_, hcapT, hCT⟩ := Kd.R_reads' HQ.out.ts
 clear eN eT hcN hcT gnb gnl gtb gtl
 obtain ⟨_, eA, hn0⟩ := Kd.at_int hCN 0 (by decide) (by omega)
 cases eA
 replace hn0 : W.cell? ⟨gn, 0, none⟩ = some (.int .i64 (rd ns 0)) := by simpa [add_plain] using hn0
 obtain ⟨_, eA, hn1⟩ := Kd.at_int hCN 1 (by decide) (by omega)
 cases eA
 replace hn1 : W.cell? ⟨gn, 1, none⟩ = some (.int .i64 (rd ns 1)) := by simpa [add_plain] using hn1
 obtain ⟨_, eA, hn2⟩ := Kd.at_int hCN 2 (by decide) (by omega)
 cases eA
 replace hn2 : W.cell? ⟨gn, 2, none⟩ = some (.int .i64 (rd ns 2)) := by simpa [add_plain] using hn2
 obtain ⟨_, eA, hn3⟩ := Kd.at_int hCN 3 (by decide) (by omega)
 cases eA
 replace hn3 : W.cell? ⟨gn, 3, none⟩ = some (.int .i64 (rd ns 3)) := by simpa [add_plain] using hn3
 obtain ⟨_, eA, hn4⟩ := Kd.at_int hCN 4 (by decide) (by omega)
 cases eA
 replace hn4 : W.cell? ⟨gn, 4, none⟩ = some (.int .i64 (rd ns 4)) := by simpa [add_plain] using hn4
 obtain ⟨_, eA, hn5⟩ := Kd.at_int hCN 5 (by decide) (by omega)
 cases eA
 replace hn5 : W.cell? ⟨gn, 5, none⟩ = some (.int .i64 (rd ns 5)) := by simpa [add_plain] using hn5
 obtain ⟨_, eA, hn6⟩ := Kd.at_int hCN 6 (by decide) (by omega)
 cases eA
 replace hn6 : W.cell? ⟨gn, 6, none⟩ = some (.int .i64 (rd ns 6)) := by simpa [add_plain] using hn6
 obtain ⟨_, eA, ht0⟩ := Kd.at_string hCT 0 (by decide) (by omega)
 cases eA
 replace ht0 : W.cell? ⟨gt, 0, none⟩ = some (.string (rdOf ByteArray.empty ts 0)) := by simpa [add_plain] using ht0
 go_wp2
 obtain ⟨i3, hi3, hz3⟩ := Option.map_eq_some_iff.1 info3
 have hs3 : i3.size = 1 := by simpa using congrArg (fun x => x.2.1) hz3
 have hcutN := fun W => cut_from (P := Try.prog) 39 3 .i64 Try.underlying39 hi3 1 hs3 (some ⟨gn, 0, none⟩) ns.length cN 7 (by decide) (by omega) W
 have hsameN : (if cN = (7 : Int).toNat then (some ⟨gn, 0, none⟩ : Option Addr) else (some ⟨gn, 0, none⟩ : Option Addr).map (·.add ((7 : Int).toNat * 1))) = (if cN = 7 then (some ⟨gn, 0, none⟩ : Option Addr) else (some ⟨gn, 0, none⟩ : Option Addr).map (·.add (7 * (Kd.int .i64).sz))) := rfl
 rw [hsameN] at hcutN
 obtain ⟨AF, hAF⟩ : ∃ A, A = (if cN = 7 then (some ⟨gn, 0, none⟩ : Option Addr) else (some ⟨gn, 0, none⟩ : Option Addr).map (·.add (7 * (Kd.int .i64).sz))) := ⟨_, rfl⟩
 rw [← hAF] at hcutN
 have HMF : Aside0 (∀ W', (Kd.int .i64).C W' (some ⟨gn, 0, none⟩) ns.length ns → (Kd.int .i64).C W' AF (ns.drop 7).length (ns.drop 7)) := ⟨fun W' h => by rw [hAF]; exact Kd.C_drop (m := 7) h (by omega) hcapN⟩
 have q5 : (7 : Int) ≤ (ns.length : Int) := by omega
 have j6 : (6 : Int) < (ns.length : Int) := by omega
 have jj6 : 6 < ns.length := by omega
 have jn : ¬ (ns = []) := fun h => by rw [h] at hl7; exact absurd hl7 (by decide)
 have HCAPN := Aside0.mk hcapN
 have HCAP := Aside0.mk hcapT
 clear hsameN hAF hs3 hz3 hi3 hcapN hcapT hCN hCT
 go_region_held3 (fun W => W.cell? ⟨gp, 0, none⟩ = some (.slice (some ⟨gn, 0, none⟩) ns.length cN) ∧ W.cell? ⟨gn, 6, none⟩ = some (.int .i64 (rd ns 6))) (go_keep) (fail)
 have HQ1 := Aside0.mk HQ.out.drew
 generalize eW : W.drew = W1 at HQ1 ⊢
 clear eW HQ hP0 hP1 hn0 hn1 hn2 hn3 hn4 hn5 hn6 ht0 hq0 hqf0 hq1 hqf1 hq2 hqf2 hq3 hqf3 hq4 hqf4 hq5 hqf5 hq6 hqf6 hq7 hqf7 hq8 hqf8
 have hq0 : W1.cell? ⟨gq, 0, none⟩ = some (.int .i64 0) := (blk_cell HQ1.out.bq 0).trans rfl
 have hqf0 := blk_frozen HQ1.out.bq 0
 have hq1 : W1.cell? ⟨gq, 1, none⟩ = some (.int .i64 0) := (blk_cell HQ1.out.bq 1).trans rfl
 have hqf1 := blk_frozen HQ1.out.bq 1
 have hq2 : W1.cell? ⟨gq, 2, none⟩ = some (.int .i64 0) := (blk_cell HQ1.out.bq 2).trans rfl
 have hqf2 := blk_frozen HQ1.out.bq 2
 have hq3 : W1.cell? ⟨gq, 3, none⟩ = some (.int .i64 0) := (blk_cell HQ1.out.bq 3).trans rfl
 have hqf3 := blk_frozen HQ1.out.bq 3
 have hq4 : W1.cell? ⟨gq, 4, none⟩ = some (.int .i64 0) := (blk_cell HQ1.out.bq 4).trans rfl
 have hqf4 := blk_frozen HQ1.out.bq 4
 have hq5 : W1.cell? ⟨gq, 5, none⟩ = some (.int .i64 0) := (blk_cell HQ1.out.bq 5).trans rfl
 have hqf5 := blk_frozen HQ1.out.bq 5
 have hq6 : W1.cell? ⟨gq, 6, none⟩ = some (.string (⟨#[]⟩ : ByteArray)) := (blk_cell HQ1.out.bq 6).trans rfl
 have hqf6 := blk_frozen HQ1.out.bq 6
 have hq7 : W1.cell? ⟨gq, 7, none⟩ = some (.slice none 0 0) := (blk_cell HQ1.out.bq 7).trans rfl
 have hqf7 := blk_frozen HQ1.out.bq 7
 have hq8 : W1.cell? ⟨gq, 8, none⟩ = some (.slice none 0 0) := (blk_cell HQ1.out.bq 8).trans rfl
 have hqf8 := blk_frozen HQ1.out.bq 8
 have hP0 : W1.cell? ⟨gp, 0, none⟩ = some (.slice (some ⟨gn, 0, none⟩) ns.length cN) := (blk_cell HQ1.out.bp 0).trans rfl
 have hP1 : W1.cell? ⟨gp, 1, none⟩ = some (.slice (some ⟨gt, 0, none⟩) ts.length cT) := (blk_cell HQ1.out.bp 1).trans rfl
 go_wp2
 refine bodyPost_ret (results_ct rfl _ _ gq 32 #[.int .i64 0, .int .i64 0, .int .i64 0, .int .i64 0, .int .i64 0, .int .i64 0, .string (⟨#[]⟩ : ByteArray), .slice none 0 0, .slice none 0 0] (0, 0) _ rfl (set9 HQ1.out.bq) Try.underlying32 rfl (by kernel_rfl)) rfl ?_
 exact ⟨rfl, below9 HQ1.out.bel HQ1.out.geq⟩
set_option maxHeartbeats 4000000 in
set_option maxRecDepth 100000 in
theorem ld_m3 (s : ByteArray) (ns : List Int) (ts : List ByteArray) (p : Int) (w : World) (hf : pack_Decode.f s = some (ns, ts, p, 0)) (hn : 7 ≤ ns.length) (ht : 1 ≤ ts.length) (hb : ts.length ≤ 1024) (hbn : ns.length ≤ 1024) (hm : 0 ≤ rd ns 6) (hm2 : rd ns 6 < (ts.length : Int)) (hx : (ts.length : Int) ≠ 1 + rd ns 6 + 2 * ((ns.length - 7 : Nat) : Int)) :
  Calls Try.prog 20 #[.string s] w (NoLetE w) := by
 have e1 : decide ((ns.length : Int) < 7) = false := decide_eq_false (by omega)
 have e2 : decide (ns.length < 7) = false := decide_eq_false (by omega)
 have e3 : decide ((ts.length : Int) < 1) = false := decide_eq_false (by omega)
 have e4 : decide (ts.length < 1) = false := decide_eq_false (by omega)
 have e5 : ¬ (ts.length = 0) := by omega
 have e6 : ¬ (ts = []) := fun h => by rw [h] at ht; exact absurd ht (by decide)
 have hl7 := hn
 have hl1 := ht
 have m1 : decide (rd ns 6 < 0) = false := decide_eq_false (by omega)
 have m2 : decide ((ts.length : Int) ≤ rd ns 6) = false := decide_eq_false (by omega)
 have mb : rd ns 6 ≤ 1024 := by omega
 have m3 : ((ts.length : Int) == 1 + rd ns 6 + 2 * ((ns.length - 7 : Nat) : Int)) = false := beq_eq_false_iff_ne.2 hx
 have m4 : ((ts.length : Int) != 1 + rd ns 6 + 2 * ((ns.length - 7 : Nat) : Int)) = true := bne_iff_ne.2 hx
 clear hn ht hx
 have hu32 := Try.underlying32
 have hu70 := Try.underlying70
 have HF := Aside0.mk hf
 clear hf
 go_enter Try.func20, Try.ntmps20
 go_upto_region 2 with (first | ((with_reducible refine gate_dst (N := 2) rfl ?_); refine box_event ?hg (N := 2) ?hd (cs := #[.int .i64 0, .int .i64 0, .int .i64 0, .int .i64 0, .int .i64 0, .int .i64 0, .string (⟨#[]⟩ : ByteArray), .slice none 0 0, .slice none 0 0]) (t := 32) ?hr ?_; (case hd => rfl); (case hg => rfl); (case hr => first | (go_simp; done) | (go_simp; rfl)); intro gq hgg w1 hbox hb; have GQ := Aside0.mk (Nat.le_of_eq hgg.symm); have BQ := Aside0.mk hbox; have BA := Aside0.mk hb; clear hgg hbox hb) | (go_at_call 30; refine (pack_Decode.calls s _ _ _ _ _ HF.out).mono ?_; rintro x w2 ⟨v0, v1, rfl, hN, hT, hb⟩; obtain ⟨AN, cN, eN⟩ := Kd.R_slice hN; subst eN; obtain ⟨AT, cT, eT⟩ := Kd.R_slice hT; subst eT; have GN := Aside0.mk (Kd.R_lower hN (below_size BA.out)); have GT := Aside0.mk (Kd.R_lower hT (below_size BA.out)); have BC := Aside0.mk (below_step BA.out hb); have BQ2 := Aside0.mk (blk_below BQ.out hb); clear hN hT hb) | ((with_reducible refine gate_dst (N := 4) rfl ?_); refine box_event ?hg (N := 4) ?hd (cs := #[.slice none 0 0, .slice none 0 0]) (t := 70) ?hr ?_; (case hd => rfl); (case hg => rfl); (case hr => first | (go_simp; done) | (go_simp; rfl)); intro gp hgp w3 hbox hb; have HQ := Aside0.mk (qr_of GQ.out BQ2.out hbox hgp GN.out GT.out BC.out hb); have hz0 : w3.cell? ⟨gp, 0, none⟩ = some (.slice none 0 0) := (blk_cell hbox 0).trans rfl; have hz1 : w3.cell? ⟨gp, 1, none⟩ = some (.slice none 0 0) := (blk_cell hbox 1).trans rfl; have hzf0 := blk_frozen hbox 0; have hzf1 := blk_frozen hbox 1; clear hgp hbox hb))
 generalize eW : (w3.setCell ⟨gp, 0, none⟩ (.slice AN ns.length cN)).setCell ⟨gp, 1, none⟩ (.slice AT ts.length cT) = W at HQ ⊢
 clear eW hz0 hz1 hzf0 hzf1 GN GT BC BQ2 BQ BA GQ
 have hP0 : W.cell? ⟨gp, 0, none⟩ = some (.slice AN ns.length cN) := (blk_cell HQ.out.bp 0).trans rfl
 have hP1 : W.cell? ⟨gp, 1, none⟩ = some (.slice AT ts.length cT) := (blk_cell HQ.out.bp 1).trans rfl
 have hq0 : W.cell? ⟨gq, 0, none⟩ = some (.int .i64 0) := (blk_cell HQ.out.bq 0).trans rfl
 have hqf0 := blk_frozen HQ.out.bq 0
 have hq1 : W.cell? ⟨gq, 1, none⟩ = some (.int .i64 0) := (blk_cell HQ.out.bq 1).trans rfl
 have hqf1 := blk_frozen HQ.out.bq 1
 have hq2 : W.cell? ⟨gq, 2, none⟩ = some (.int .i64 0) := (blk_cell HQ.out.bq 2).trans rfl
 have hqf2 := blk_frozen HQ.out.bq 2
 have hq3 : W.cell? ⟨gq, 3, none⟩ = some (.int .i64 0) := (blk_cell HQ.out.bq 3).trans rfl
 have hqf3 := blk_frozen HQ.out.bq 3
 have hq4 : W.cell? ⟨gq, 4, none⟩ = some (.int .i64 0) := (blk_cell HQ.out.bq 4).trans rfl
 have hqf4 := blk_frozen HQ.out.bq 4
 have hq5 : W.cell? ⟨gq, 5, none⟩ = some (.int .i64 0) := (blk_cell HQ.out.bq 5).trans rfl
 have hqf5 := blk_frozen HQ.out.bq 5
 have hq6 : W.cell? ⟨gq, 6, none⟩ = some (.string (⟨#[]⟩ : ByteArray)) := (blk_cell HQ.out.bq 6).trans rfl
 have hqf6 := blk_frozen HQ.out.bq 6
 have hq7 : W.cell? ⟨gq, 7, none⟩ = some (.slice none 0 0) := (blk_cell HQ.out.bq 7).trans rfl
 have hqf7 := blk_frozen HQ.out.bq 7
 have hq8 : W.cell? ⟨gq, 8, none⟩ = some (.slice none 0 0) := (blk_cell HQ.out.bq 8).trans rfl
 have hqf8 := blk_frozen HQ.out.bq 8
 obtain ⟨gn, cn, eN, gnb, gnl, cellsN, hcN⟩ := Kd.R_form HQ.out.ns (by omega)
 obtain ⟨gt, ct, eT, gtb, gtl, cellsT, hcT⟩ := Kd.R_form HQ.out.ts (by omega)
 have eN' : AN = some ⟨gn, 0, none⟩ ∧ cN = cn := by simpa using eN
 have eT' : AT = some ⟨gt, 0, none⟩ ∧ cT = ct := by simpa using eT
 obtain ⟨rfl, rfl⟩ := eN'
 obtain ⟨rfl, rfl⟩ := eT'
 obtain ⟨_, hcapN, hCN⟩ := Kd.R_reads' HQ.out.ns
 obtain ⟨_, hcapT, hCT⟩ := Kd.R_reads' HQ.out.ts
 clear eN eT hcN hcT gnb gnl gtb gtl
 obtain ⟨_, eA, hn0⟩ := Kd.at_int hCN 0 (by decide) (by omega)
 cases eA
 replace hn0 : W.cell? ⟨gn, 0, none⟩ = some (.int .i64 (rd ns 0)) := by simpa [add_plain] using hn0
 obtain ⟨_, eA, hn1⟩ := Kd.at_int hCN 1 (by decide) (by omega)
 cases eA
 replace hn1 : W.cell? ⟨gn, 1, none⟩ = some (.int .i64 (rd ns 1)) := by simpa [add_plain] using hn1
 obtain ⟨_, eA, hn2⟩ := Kd.at_int hCN 2 (by decide) (by omega)
 cases eA
 replace hn2 : W.cell? ⟨gn, 2, none⟩ = some (.int .i64 (rd ns 2)) := by simpa [add_plain] using hn2
 obtain ⟨_, eA, hn3⟩ := Kd.at_int hCN 3 (by decide) (by omega)
 cases eA
 replace hn3 : W.cell? ⟨gn, 3, none⟩ = some (.int .i64 (rd ns 3)) := by simpa [add_plain] using hn3
 obtain ⟨_, eA, hn4⟩ := Kd.at_int hCN 4 (by decide) (by omega)
 cases eA
 replace hn4 : W.cell? ⟨gn, 4, none⟩ = some (.int .i64 (rd ns 4)) := by simpa [add_plain] using hn4
 obtain ⟨_, eA, hn5⟩ := Kd.at_int hCN 5 (by decide) (by omega)
 cases eA
 replace hn5 : W.cell? ⟨gn, 5, none⟩ = some (.int .i64 (rd ns 5)) := by simpa [add_plain] using hn5
 obtain ⟨_, eA, hn6⟩ := Kd.at_int hCN 6 (by decide) (by omega)
 cases eA
 replace hn6 : W.cell? ⟨gn, 6, none⟩ = some (.int .i64 (rd ns 6)) := by simpa [add_plain] using hn6
 obtain ⟨_, eA, ht0⟩ := Kd.at_string hCT 0 (by decide) (by omega)
 cases eA
 replace ht0 : W.cell? ⟨gt, 0, none⟩ = some (.string (rdOf ByteArray.empty ts 0)) := by simpa [add_plain] using ht0
 go_wp2
 obtain ⟨i3, hi3, hz3⟩ := Option.map_eq_some_iff.1 info3
 have hs3 : i3.size = 1 := by simpa using congrArg (fun x => x.2.1) hz3
 have hcutN := fun W => cut_from (P := Try.prog) 39 3 .i64 Try.underlying39 hi3 1 hs3 (some ⟨gn, 0, none⟩) ns.length cN 7 (by decide) (by omega) W
 have hsameN : (if cN = (7 : Int).toNat then (some ⟨gn, 0, none⟩ : Option Addr) else (some ⟨gn, 0, none⟩ : Option Addr).map (·.add ((7 : Int).toNat * 1))) = (if cN = 7 then (some ⟨gn, 0, none⟩ : Option Addr) else (some ⟨gn, 0, none⟩ : Option Addr).map (·.add (7 * (Kd.int .i64).sz))) := rfl
 rw [hsameN] at hcutN
 obtain ⟨AF, hAF⟩ : ∃ A, A = (if cN = 7 then (some ⟨gn, 0, none⟩ : Option Addr) else (some ⟨gn, 0, none⟩ : Option Addr).map (·.add (7 * (Kd.int .i64).sz))) := ⟨_, rfl⟩
 rw [← hAF] at hcutN
 have HMF : Aside0 (∀ W', (Kd.int .i64).C W' (some ⟨gn, 0, none⟩) ns.length ns → (Kd.int .i64).C W' AF (ns.drop 7).length (ns.drop 7)) := ⟨fun W' h => by rw [hAF]; exact Kd.C_drop (m := 7) h (by omega) hcapN⟩
 have q5 : (7 : Int) ≤ (ns.length : Int) := by omega
 have j6 : (6 : Int) < (ns.length : Int) := by omega
 have jj6 : 6 < ns.length := by omega
 have jn : ¬ (ns = []) := fun h => by rw [h] at hl7; exact absurd hl7 (by decide)
 have HCAPN := Aside0.mk hcapN
 have HCAP := Aside0.mk hcapT
 clear hsameN hAF hs3 hz3 hi3 hcapN hcapT hCN hCT
 go_region_held3 (fun W => W.cell? ⟨gp, 0, none⟩ = some (.slice (some ⟨gn, 0, none⟩) ns.length cN) ∧ W.cell? ⟨gn, 6, none⟩ = some (.int .i64 (rd ns 6))) (go_keep) (fail)
 have HQ1 := Aside0.mk HQ.out.drew
 generalize eW : W.drew = W1 at HQ1 ⊢
 clear eW HQ hP0 hP1 hn0 hn1 hn2 hn3 hn4 hn5 hn6 ht0 hq0 hqf0 hq1 hqf1 hq2 hqf2 hq3 hqf3 hq4 hqf4 hq5 hqf5 hq6 hqf6 hq7 hqf7 hq8 hqf8
 have hq0 : W1.cell? ⟨gq, 0, none⟩ = some (.int .i64 0) := (blk_cell HQ1.out.bq 0).trans rfl
 have hqf0 := blk_frozen HQ1.out.bq 0
 have hq1 : W1.cell? ⟨gq, 1, none⟩ = some (.int .i64 0) := (blk_cell HQ1.out.bq 1).trans rfl
 have hqf1 := blk_frozen HQ1.out.bq 1
 have hq2 : W1.cell? ⟨gq, 2, none⟩ = some (.int .i64 0) := (blk_cell HQ1.out.bq 2).trans rfl
 have hqf2 := blk_frozen HQ1.out.bq 2
 have hq3 : W1.cell? ⟨gq, 3, none⟩ = some (.int .i64 0) := (blk_cell HQ1.out.bq 3).trans rfl
 have hqf3 := blk_frozen HQ1.out.bq 3
 have hq4 : W1.cell? ⟨gq, 4, none⟩ = some (.int .i64 0) := (blk_cell HQ1.out.bq 4).trans rfl
 have hqf4 := blk_frozen HQ1.out.bq 4
 have hq5 : W1.cell? ⟨gq, 5, none⟩ = some (.int .i64 0) := (blk_cell HQ1.out.bq 5).trans rfl
 have hqf5 := blk_frozen HQ1.out.bq 5
 have hq6 : W1.cell? ⟨gq, 6, none⟩ = some (.string (⟨#[]⟩ : ByteArray)) := (blk_cell HQ1.out.bq 6).trans rfl
 have hqf6 := blk_frozen HQ1.out.bq 6
 have hq7 : W1.cell? ⟨gq, 7, none⟩ = some (.slice none 0 0) := (blk_cell HQ1.out.bq 7).trans rfl
 have hqf7 := blk_frozen HQ1.out.bq 7
 have hq8 : W1.cell? ⟨gq, 8, none⟩ = some (.slice none 0 0) := (blk_cell HQ1.out.bq 8).trans rfl
 have hqf8 := blk_frozen HQ1.out.bq 8
 have hP0 : W1.cell? ⟨gp, 0, none⟩ = some (.slice (some ⟨gn, 0, none⟩) ns.length cN) := (blk_cell HQ1.out.bp 0).trans rfl
 have hP1 : W1.cell? ⟨gp, 1, none⟩ = some (.slice (some ⟨gt, 0, none⟩) ts.length cT) := (blk_cell HQ1.out.bp 1).trans rfl
 go_wp2
 refine bodyPost_ret (results_ct rfl _ _ gq 32 #[.int .i64 0, .int .i64 0, .int .i64 0, .int .i64 0, .int .i64 0, .int .i64 0, .string (⟨#[]⟩ : ByteArray), .slice none 0 0, .slice none 0 0] (0, 0) _ rfl (set9 HQ1.out.bq) Try.underlying32 rfl (by kernel_rfl)) rfl ?_
 exact ⟨rfl, below9 HQ1.out.bel HQ1.out.geq⟩
/-- What comes back, with its memory. -/
def RLetE (w : World) (r : RLet) (e : Ending) (w' : World) : Prop := ∃ v7 v8 : Value, e = .returned (.tuple #[.agg #[.int .i64 r.1, .int .i64 r.2.1, .int .i64 r.2.2.1, .int .i64 r.2.2.2.1, .int .i64 r.2.2.2.2.1, .int .i64 r.2.2.2.2.2.1, .string r.2.2.2.2.2.2.1, v7, v8], .int .i64 r.2.2.2.2.2.2.2.2.2]) ∧ Kd.R Kd.string 9 w' w.heap.size (fun _ => True) v7 r.2.2.2.2.2.2.2.1 ∧ Kd.R k72 72 w' w.heap.size (fun _ => True) v8 r.2.2.2.2.2.2.2.2.1 ∧ Below w.heap.size w w'
set_option maxHeartbeats 4000000 in
set_option maxRecDepth 100000 in
theorem ld_go (s : ByteArray) (ns : List Int) (ts : List ByteArray) (p : Int) (w : World) (hf : pack_Decode.f s = some (ns, ts, p, 0)) (hn : 7 ≤ ns.length) (ht : 1 ≤ ts.length) (hb : ts.length ≤ 1024) (hbn : ns.length ≤ 1024) (hm : 0 ≤ rd ns 6) (hm2 : rd ns 6 < (ts.length : Int)) (hx : (ts.length : Int) = 1 + rd ns 6 + 2 * ((ns.length - 7 : Nat) : Int)) (k : Nat) (bb : ByteArray) (ee : Int) (hen : letter_Encode.f k (rd ns 0) (rd ns 1) (rd ns 2) (rd ns 3) (rd ns 4) (rd ns 5) (rdOf ByteArray.empty ts 0) ((ts.take (1 + rd ns 6).toNat).drop 1) (wsOf (ns.drop 7) (ts.drop (1 + rd ns 6).toNat) (ns.length - 7)) = some (bb, ee)) (r : RLet) (HRR : (if ee = 0 ∧ bb = s then (((rd ns 0), (rd ns 1), (rd ns 2), (rd ns 3), (rd ns 4), (rd ns 5), (rdOf ByteArray.empty ts 0), ((ts.take (1 + rd ns 6).toNat).drop 1), wsOf (ns.drop 7) (ts.drop (1 + rd ns 6).toNat) (ns.length - 7), 0) : RLet) else noLet) = r) :
  Calls Try.prog 20 #[.string s] w (RLetE w r) := by
 have e1 : decide ((ns.length : Int) < 7) = false := decide_eq_false (by omega)
 have e2 : decide (ns.length < 7) = false := decide_eq_false (by omega)
 have e3 : decide ((ts.length : Int) < 1) = false := decide_eq_false (by omega)
 have e4 : decide (ts.length < 1) = false := decide_eq_false (by omega)
 have e5 : ¬ (ts.length = 0) := by omega
 have e6 : ¬ (ts = []) := fun h => by rw [h] at ht; exact absurd ht (by decide)
 have hl7 := hn
 have hl1 := ht
 have m1 : decide (rd ns 6 < 0) = false := decide_eq_false (by omega)
 have m2 : decide ((ts.length : Int) ≤ rd ns 6) = false := decide_eq_false (by omega)
 have mb : rd ns 6 ≤ 1024 := by omega
 have HX := Aside0.mk hx
 have m3 : ((ts.length : Int) == 1 + rd ns 6 + 2 * ((ns.length - 7 : Nat) : Int)) = true := beq_iff_eq.2 hx
 have m4 : ((ts.length : Int) != 1 + rd ns 6 + 2 * ((ns.length - 7 : Nat) : Int)) = false := bne_eq_false_iff_eq.2 hx
 clear hn ht hx
 have HEN := Aside0.mk hen
 clear hen
 have hu32 := Try.underlying32
 have hu70 := Try.underlying70
 have HF := Aside0.mk hf
 clear hf
 go_enter Try.func20, Try.ntmps20
 go_upto_region 2 with (first | ((with_reducible refine gate_dst (N := 2) rfl ?_); refine box_event ?hg (N := 2) ?hd (cs := #[.int .i64 0, .int .i64 0, .int .i64 0, .int .i64 0, .int .i64 0, .int .i64 0, .string (⟨#[]⟩ : ByteArray), .slice none 0 0, .slice none 0 0]) (t := 32) ?hr ?_; (case hd => rfl); (case hg => rfl); (case hr => first | (go_simp; done) | (go_simp; rfl)); intro gq hgg w1 hbox hb; have GQ := Aside0.mk (Nat.le_of_eq hgg.symm); have BQ := Aside0.mk hbox; have BA := Aside0.mk hb; clear hgg hbox hb) | (go_at_call 30; refine (pack_Decode.calls s _ _ _ _ _ HF.out).mono ?_; rintro x w2 ⟨v0, v1, rfl, hN, hT, hb⟩; obtain ⟨AN, cN, eN⟩ := Kd.R_slice hN; subst eN; obtain ⟨AT, cT, eT⟩ := Kd.R_slice hT; subst eT; have GN := Aside0.mk (Kd.R_lower hN (below_size BA.out)); have GT := Aside0.mk (Kd.R_lower hT (below_size BA.out)); have BC := Aside0.mk (below_step BA.out hb); have BQ2 := Aside0.mk (blk_below BQ.out hb); clear hN hT hb) | ((with_reducible refine gate_dst (N := 4) rfl ?_); refine box_event ?hg (N := 4) ?hd (cs := #[.slice none 0 0, .slice none 0 0]) (t := 70) ?hr ?_; (case hd => rfl); (case hg => rfl); (case hr => first | (go_simp; done) | (go_simp; rfl)); intro gp hgp w3 hbox hb; have HQ := Aside0.mk (qr_of GQ.out BQ2.out hbox hgp GN.out GT.out BC.out hb); have hz0 : w3.cell? ⟨gp, 0, none⟩ = some (.slice none 0 0) := (blk_cell hbox 0).trans rfl; have hz1 : w3.cell? ⟨gp, 1, none⟩ = some (.slice none 0 0) := (blk_cell hbox 1).trans rfl; have hzf0 := blk_frozen hbox 0; have hzf1 := blk_frozen hbox 1; clear hgp hbox hb))
 generalize eW : (w3.setCell ⟨gp, 0, none⟩ (.slice AN ns.length cN)).setCell ⟨gp, 1, none⟩ (.slice AT ts.length cT) = W at HQ ⊢
 clear eW hz0 hz1 hzf0 hzf1 GN GT BC BQ2 BQ BA GQ
 have hP0 : W.cell? ⟨gp, 0, none⟩ = some (.slice AN ns.length cN) := (blk_cell HQ.out.bp 0).trans rfl
 have hP1 : W.cell? ⟨gp, 1, none⟩ = some (.slice AT ts.length cT) := (blk_cell HQ.out.bp 1).trans rfl
 have hq0 : W.cell? ⟨gq, 0, none⟩ = some (.int .i64 0) := (blk_cell HQ.out.bq 0).trans rfl
 have hqf0 := blk_frozen HQ.out.bq 0
 have hq1 : W.cell? ⟨gq, 1, none⟩ = some (.int .i64 0) := (blk_cell HQ.out.bq 1).trans rfl
 have hqf1 := blk_frozen HQ.out.bq 1
 have hq2 : W.cell? ⟨gq, 2, none⟩ = some (.int .i64 0) := (blk_cell HQ.out.bq 2).trans rfl
 have hqf2 := blk_frozen HQ.out.bq 2
 have hq3 : W.cell? ⟨gq, 3, none⟩ = some (.int .i64 0) := (blk_cell HQ.out.bq 3).trans rfl
 have hqf3 := blk_frozen HQ.out.bq 3
 have hq4 : W.cell? ⟨gq, 4, none⟩ = some (.int .i64 0) := (blk_cell HQ.out.bq 4).trans rfl
 have hqf4 := blk_frozen HQ.out.bq 4
 have hq5 : W.cell? ⟨gq, 5, none⟩ = some (.int .i64 0) := (blk_cell HQ.out.bq 5).trans rfl
 have hqf5 := blk_frozen HQ.out.bq 5
 have hq6 : W.cell? ⟨gq, 6, none⟩ = some (.string (⟨#[]⟩ : ByteArray)) := (blk_cell HQ.out.bq 6).trans rfl
 have hqf6 := blk_frozen HQ.out.bq 6
 have hq7 : W.cell? ⟨gq, 7, none⟩ = some (.slice none 0 0) := (blk_cell HQ.out.bq 7).trans rfl
 have hqf7 := blk_frozen HQ.out.bq 7
 have hq8 : W.cell? ⟨gq, 8, none⟩ = some (.slice none 0 0) := (blk_cell HQ.out.bq 8).trans rfl
 have hqf8 := blk_frozen HQ.out.bq 8
 obtain ⟨gn, cn, eN, gnb, gnl, cellsN, hcN⟩ := Kd.R_form HQ.out.ns (by omega)
 obtain ⟨gt, ct, eT, gtb, gtl, cellsT, hcT⟩ := Kd.R_form HQ.out.ts (by omega)
 have eN' : AN = some ⟨gn, 0, none⟩ ∧ cN = cn := by simpa using eN
 have eT' : AT = some ⟨gt, 0, none⟩ ∧ cT = ct := by simpa using eT
 obtain ⟨rfl, rfl⟩ := eN'
 obtain ⟨rfl, rfl⟩ := eT'
 obtain ⟨_, hcapN, hCN⟩ := Kd.R_reads' HQ.out.ns
 obtain ⟨_, hcapT, hCT⟩ := Kd.R_reads' HQ.out.ts
 clear eN eT hcN hcT gnb gnl gtb gtl
 obtain ⟨_, eA, hn0⟩ := Kd.at_int hCN 0 (by decide) (by omega)
 cases eA
 replace hn0 : W.cell? ⟨gn, 0, none⟩ = some (.int .i64 (rd ns 0)) := by simpa [add_plain] using hn0
 obtain ⟨_, eA, hn1⟩ := Kd.at_int hCN 1 (by decide) (by omega)
 cases eA
 replace hn1 : W.cell? ⟨gn, 1, none⟩ = some (.int .i64 (rd ns 1)) := by simpa [add_plain] using hn1
 obtain ⟨_, eA, hn2⟩ := Kd.at_int hCN 2 (by decide) (by omega)
 cases eA
 replace hn2 : W.cell? ⟨gn, 2, none⟩ = some (.int .i64 (rd ns 2)) := by simpa [add_plain] using hn2
 obtain ⟨_, eA, hn3⟩ := Kd.at_int hCN 3 (by decide) (by omega)
 cases eA
 replace hn3 : W.cell? ⟨gn, 3, none⟩ = some (.int .i64 (rd ns 3)) := by simpa [add_plain] using hn3
 obtain ⟨_, eA, hn4⟩ := Kd.at_int hCN 4 (by decide) (by omega)
 cases eA
 replace hn4 : W.cell? ⟨gn, 4, none⟩ = some (.int .i64 (rd ns 4)) := by simpa [add_plain] using hn4
 obtain ⟨_, eA, hn5⟩ := Kd.at_int hCN 5 (by decide) (by omega)
 cases eA
 replace hn5 : W.cell? ⟨gn, 5, none⟩ = some (.int .i64 (rd ns 5)) := by simpa [add_plain] using hn5
 obtain ⟨_, eA, hn6⟩ := Kd.at_int hCN 6 (by decide) (by omega)
 cases eA
 replace hn6 : W.cell? ⟨gn, 6, none⟩ = some (.int .i64 (rd ns 6)) := by simpa [add_plain] using hn6
 obtain ⟨_, eA, ht0⟩ := Kd.at_string hCT 0 (by decide) (by omega)
 cases eA
 replace ht0 : W.cell? ⟨gt, 0, none⟩ = some (.string (rdOf ByteArray.empty ts 0)) := by simpa [add_plain] using ht0
 go_wp2
 obtain ⟨i3, hi3, hz3⟩ := Option.map_eq_some_iff.1 info3
 have hs3 : i3.size = 1 := by simpa using congrArg (fun x => x.2.1) hz3
 have hcutN := fun W => cut_from (P := Try.prog) 39 3 .i64 Try.underlying39 hi3 1 hs3 (some ⟨gn, 0, none⟩) ns.length cN 7 (by decide) (by omega) W
 have hsameN : (if cN = (7 : Int).toNat then (some ⟨gn, 0, none⟩ : Option Addr) else (some ⟨gn, 0, none⟩ : Option Addr).map (·.add ((7 : Int).toNat * 1))) = (if cN = 7 then (some ⟨gn, 0, none⟩ : Option Addr) else (some ⟨gn, 0, none⟩ : Option Addr).map (·.add (7 * (Kd.int .i64).sz))) := rfl
 rw [hsameN] at hcutN
 obtain ⟨AF, hAF⟩ : ∃ A, A = (if cN = 7 then (some ⟨gn, 0, none⟩ : Option Addr) else (some ⟨gn, 0, none⟩ : Option Addr).map (·.add (7 * (Kd.int .i64).sz))) := ⟨_, rfl⟩
 rw [← hAF] at hcutN
 have HMF : Aside0 (∀ W', (Kd.int .i64).C W' (some ⟨gn, 0, none⟩) ns.length ns → (Kd.int .i64).C W' AF (ns.drop 7).length (ns.drop 7)) := ⟨fun W' h => by rw [hAF]; exact Kd.C_drop (m := 7) h (by omega) hcapN⟩
 have q5 : (7 : Int) ≤ (ns.length : Int) := by omega
 have j6 : (6 : Int) < (ns.length : Int) := by omega
 have jj6 : 6 < ns.length := by omega
 have jn : ¬ (ns = []) := fun h => by rw [h] at hl7; exact absurd hl7 (by decide)
 have HCAPN := Aside0.mk hcapN
 have HCAP := Aside0.mk hcapT
 clear hsameN hAF hs3 hz3 hi3 hcapN hcapT hCN hCT
 go_region_held3 (fun W => W.cell? ⟨gp, 0, none⟩ = some (.slice (some ⟨gn, 0, none⟩) ns.length cN) ∧ W.cell? ⟨gn, 6, none⟩ = some (.int .i64 (rd ns 6))) (go_keep) (fail)
 have HQ1 := Aside0.mk HQ.out.drew
 generalize eW : W.drew = W1 at HQ1 ⊢
 clear eW HQ hP0 hP1 hn0 hn1 hn2 hn3 hn4 hn5 hn6 ht0 hq0 hqf0 hq1 hqf1 hq2 hqf2 hq3 hqf3 hq4 hqf4 hq5 hqf5 hq6 hqf6 hq7 hqf7 hq8 hqf8
 have hq0 : W1.cell? ⟨gq, 0, none⟩ = some (.int .i64 0) := (blk_cell HQ1.out.bq 0).trans rfl
 have hqf0 := blk_frozen HQ1.out.bq 0
 have hq1 : W1.cell? ⟨gq, 1, none⟩ = some (.int .i64 0) := (blk_cell HQ1.out.bq 1).trans rfl
 have hqf1 := blk_frozen HQ1.out.bq 1
 have hq2 : W1.cell? ⟨gq, 2, none⟩ = some (.int .i64 0) := (blk_cell HQ1.out.bq 2).trans rfl
 have hqf2 := blk_frozen HQ1.out.bq 2
 have hq3 : W1.cell? ⟨gq, 3, none⟩ = some (.int .i64 0) := (blk_cell HQ1.out.bq 3).trans rfl
 have hqf3 := blk_frozen HQ1.out.bq 3
 have hq4 : W1.cell? ⟨gq, 4, none⟩ = some (.int .i64 0) := (blk_cell HQ1.out.bq 4).trans rfl
 have hqf4 := blk_frozen HQ1.out.bq 4
 have hq5 : W1.cell? ⟨gq, 5, none⟩ = some (.int .i64 0) := (blk_cell HQ1.out.bq 5).trans rfl
 have hqf5 := blk_frozen HQ1.out.bq 5
 have hq6 : W1.cell? ⟨gq, 6, none⟩ = some (.string (⟨#[]⟩ : ByteArray)) := (blk_cell HQ1.out.bq 6).trans rfl
 have hqf6 := blk_frozen HQ1.out.bq 6
 have hq7 : W1.cell? ⟨gq, 7, none⟩ = some (.slice none 0 0) := (blk_cell HQ1.out.bq 7).trans rfl
 have hqf7 := blk_frozen HQ1.out.bq 7
 have hq8 : W1.cell? ⟨gq, 8, none⟩ = some (.slice none 0 0) := (blk_cell HQ1.out.bq 8).trans rfl
 have hqf8 := blk_frozen HQ1.out.bq 8
 have hP0 : W1.cell? ⟨gp, 0, none⟩ = some (.slice (some ⟨gn, 0, none⟩) ns.length cN) := (blk_cell HQ1.out.bp 0).trans rfl
 have hP1 : W1.cell? ⟨gp, 1, none⟩ = some (.slice (some ⟨gt, 0, none⟩) ts.length cT) := (blk_cell HQ1.out.bp 1).trans rfl
 obtain ⟨i9, hi9, hz9⟩ := Option.map_eq_some_iff.1 info9
 have hs9 : i9.size = 1 := by simpa using congrArg (fun x => x.2.1) hz9
 have hcut := fun W => cut_mid (P := Try.prog) 29 9 .i64 .i64 Try.underlying29 hi9 1 hs9 (some ⟨gt, 0, none⟩) ts.length cT 1 (1 + rd ns 6) (by decide) (by omega) (by omega) HCAP.out W
 have hsame : (if cT = (1 : Int).toNat then (some ⟨gt, 0, none⟩ : Option Addr) else (some ⟨gt, 0, none⟩ : Option Addr).map (·.add ((1 : Int).toNat * 1))) = (if cT = 1 then (some ⟨gt, 0, none⟩ : Option Addr) else (some ⟨gt, 0, none⟩ : Option Addr).map (·.add (1 * Kd.string.sz))) := rfl
 rw [hsame] at hcut
 obtain ⟨A7, hA7⟩ : ∃ A, A = (if cT = 1 then (some ⟨gt, 0, none⟩ : Option Addr) else (some ⟨gt, 0, none⟩ : Option Addr).map (·.add (1 * Kd.string.sz))) := ⟨_, rfl⟩
 rw [← hA7] at hcut
 have HM7 : Aside0 (∀ W', Kd.C Kd.string W' (some ⟨gt, 0, none⟩) ts.length ts → Kd.C Kd.string W' A7 ((ts.take (1 + rd ns 6).toNat).drop 1).length ((ts.take (1 + rd ns 6).toNat).drop 1)) := ⟨fun W' h => by rw [hA7]; exact Kd.C_mid (lo := 1) (hi := (1 + rd ns 6).toNat) h (by omega) (by omega) HCAP.out⟩
 have hcutT := fun W => cut_from (P := Try.prog) 29 9 .i64 Try.underlying29 hi9 1 hs9 (some ⟨gt, 0, none⟩) ts.length cT (1 + rd ns 6) (by omega) (by omega) W
 have hsameT : (if cT = (1 + rd ns 6).toNat then (some ⟨gt, 0, none⟩ : Option Addr) else (some ⟨gt, 0, none⟩ : Option Addr).map (·.add ((1 + rd ns 6).toNat * 1))) = (if cT = (1 + rd ns 6).toNat then (some ⟨gt, 0, none⟩ : Option Addr) else (some ⟨gt, 0, none⟩ : Option Addr).map (·.add ((1 + rd ns 6).toNat * Kd.string.sz))) := rfl
 rw [hsameT] at hcutT
 obtain ⟨AR, hAR⟩ : ∃ A, A = (if cT = (1 + rd ns 6).toNat then (some ⟨gt, 0, none⟩ : Option Addr) else (some ⟨gt, 0, none⟩ : Option Addr).map (·.add ((1 + rd ns 6).toNat * Kd.string.sz))) := ⟨_, rfl⟩
 rw [← hAR] at hcutT
 have HMR : Aside0 (∀ W', Kd.C Kd.string W' (some ⟨gt, 0, none⟩) ts.length ts → Kd.C Kd.string W' AR (ts.drop (1 + rd ns 6).toNat).length (ts.drop (1 + rd ns 6).toNat)) := ⟨fun W' h => by rw [hAR]; exact Kd.C_drop (m := (1 + rd ns 6).toNat) h (by omega) HCAP.out⟩
 have L7 := Aside0.mk (show (1 + rd ns 6).toNat - 1 = ((ts.take (1 + rd ns 6).toNat).drop 1).length from by rw [List.length_drop, List.length_take]; omega)
 have K7 := Aside0.mk (show ((ts.take (1 + rd ns 6).toNat).drop 1).length ≤ cT - 1 from by have := HCAP.out; rw [List.length_drop, List.length_take]; omega)
 have K7L := Aside0.mk (show ((ts.take (1 + rd ns 6).toNat).drop 1).length < 8796093022208 from by rw [List.length_drop, List.length_take]; omega)
 have q1 : IntKind.i64.wrap (1 + rd ns 6) = 1 + rd ns 6 := IntWalk.i64_in _ (by omega)
 have q2 : (0 : Int) ≤ 1 + rd ns 6 := by omega
 have q3 : (1 : Int) ≤ 1 + rd ns 6 := by omega
 have q4 : 1 + rd ns 6 ≤ (ts.length : Int) := by omega
 have jt : (0 : Int) < (ts.length : Int) := by omega
 have jjt : 0 < ts.length := by omega
 have j0 : (0 : Int) < (ns.length : Int) := by omega
 have jj0 : 0 < ns.length := by omega
 have j1 : (1 : Int) < (ns.length : Int) := by omega
 have jj1 : 1 < ns.length := by omega
 have j2 : (2 : Int) < (ns.length : Int) := by omega
 have jj2 : 2 < ns.length := by omega
 have j3 : (3 : Int) < (ns.length : Int) := by omega
 have jj3 : 3 < ns.length := by omega
 have j4 : (4 : Int) < (ns.length : Int) := by omega
 have jj4 : 4 < ns.length := by omega
 have j5 : (5 : Int) < (ns.length : Int) := by omega
 have jj5 : 5 < ns.length := by omega
 clear hsame hsameT hA7 hAR hs9 hz9 hi9
 have hN7 := HQ1.out.ns
 have hT7 := HQ1.out.ts
 have hn0 : W1.cell? ⟨gn, 0, none⟩ = some (.int .i64 (rd ns 0)) := ncell HQ1.out.ns 0 (by omega)
 have hn1 : W1.cell? ⟨gn, 1, none⟩ = some (.int .i64 (rd ns 1)) := ncell HQ1.out.ns 1 (by omega)
 have hn2 : W1.cell? ⟨gn, 2, none⟩ = some (.int .i64 (rd ns 2)) := ncell HQ1.out.ns 2 (by omega)
 have hn3 : W1.cell? ⟨gn, 3, none⟩ = some (.int .i64 (rd ns 3)) := ncell HQ1.out.ns 3 (by omega)
 have hn4 : W1.cell? ⟨gn, 4, none⟩ = some (.int .i64 (rd ns 4)) := ncell HQ1.out.ns 4 (by omega)
 have hn5 : W1.cell? ⟨gn, 5, none⟩ = some (.int .i64 (rd ns 5)) := ncell HQ1.out.ns 5 (by omega)
 have ht0 : W1.cell? ⟨gt, 0, none⟩ = some (.string (rdOf ByteArray.empty ts 0)) := tcell HQ1.out.ts 0 (by omega)
 have nn1 : gn ≠ W1.heap.size := by have := Kd.R_lt hN7 gn (by simp [Value.ownBlock]); omega
 have nn2 : gt ≠ W1.heap.size := by have := Kd.R_lt hT7 gt (by simp [Value.ownBlock]); omega
 have nn3 : gp ≠ W1.heap.size := by have := blk_lt HQ1.out.bp; omega
 have nn7 : gq ≠ W1.heap.size := by have := blk_lt HQ1.out.bq; omega
 have nn4 := Ne.symm nn1
 have nn5 := Ne.symm nn2
 have nn6 := Ne.symm nn3
 clear hN7 hT7
 go_upto_region 8 with (fail)
 go_cut [10] from 68 (fun v10 wc => ∃ (gl cK : Nat) (AK : Option Addr), v10 = .pointer (some ⟨gl, 0, none⟩) ∧ Aside0 (PL w wc gq gp gl ns ts (.slice (some ⟨gn, 0, none⟩) ns.length cN) (.slice (some ⟨gt, 0, none⟩) ts.length cT) (rd ns 0) (rd ns 1) (rd ns 2) (rd ns 3) (rd ns 4) (rd ns 5) (rdOf ByteArray.empty ts 0) ((ts.take (1 + rd ns 6).toNat).drop 1) (.slice AK ((ts.take (1 + rd ns 6).toNat).drop 1).length cK) [] (.slice none 0 0)))
 case first =>
  go_region_held3 (fun W => W.cell? ⟨gn, 0, none⟩ = some (.int .i64 (rd ns 0)) ∧ W.cell? ⟨gn, 1, none⟩ = some (.int .i64 (rd ns 1)) ∧ W.cell? ⟨gn, 2, none⟩ = some (.int .i64 (rd ns 2)) ∧ W.cell? ⟨gn, 3, none⟩ = some (.int .i64 (rd ns 3)) ∧ W.cell? ⟨gn, 4, none⟩ = some (.int .i64 (rd ns 4)) ∧ W.cell? ⟨gn, 5, none⟩ = some (.int .i64 (rd ns 5)) ∧ W.cell? ⟨gp, 1, none⟩ = some (.slice (some ⟨gt, 0, none⟩) ts.length cT) ∧ W.cell? ⟨gt, 0, none⟩ = some (.string (rdOf ByteArray.empty ts 0))) (go_keep) ((go_at_call 31; (with_reducible refine (clone_len L7.out (HM7.out _ (Kd.R_reads' (QR.ts (w0 := w) (gq := gq) (gp := gp) (xs := ns) (ts := ts) (vN := .slice (some ⟨gn, 0, none⟩) ns.length cN) (vT := .slice (some ⟨gt, 0, none⟩) ts.length cT) (by (with_reducible repeat (first | exact HQ1.out | apply QR.drew | apply QR.drewN | apply QR.alloc))))).2.2) K7.out K7L.out).mono ?_); rintro e w2 ⟨v7, rfl, ho, hb⟩; obtain ⟨AK, cK, eK⟩ := Kd.R_slice ho; subst eK; have HQ2 : Aside0 (QR w w2 gq gp ns ts (.slice (some ⟨gn, 0, none⟩) ns.length cN) (.slice (some ⟨gt, 0, none⟩) ts.length cT)) := ⟨QR.below (by (with_reducible repeat (first | exact HQ1.out | apply QR.drew | apply QR.drewN | apply QR.alloc))) hb⟩; have HO2 : Aside0 (Kd.string.R 9 w2 w.heap.size (fun _ => True) (.slice AK ((ts.take (1 + rd ns 6).toNat).drop 1).length cK) ((ts.take (1 + rd ns 6).toNat).drop 1)) := ⟨Kd.R_lower ho (QR.bel (w0 := w) (gq := gq) (gp := gp) (xs := ns) (ts := ts) (vN := .slice (some ⟨gn, 0, none⟩) ns.length cN) (vT := .slice (some ⟨gt, 0, none⟩) ts.length cT) (by (with_reducible repeat (first | exact HQ1.out | apply QR.drew | apply QR.drewN | apply QR.alloc)))).size⟩; (try (have BG : Aside0 (w2.heap[W1.heap.size]? = some (.cells #[.int .i64 0, .int .i64 0, .int .i64 0, .int .i64 0, .int .i64 0, .int .i64 0, .string (⟨#[]⟩ : ByteArray), .slice none 0 0, .slice none 0 0] 32 (0, 0))) := ⟨blk_below (w := (W1.alloc (.cells #[.int .i64 0, .int .i64 0, .int .i64 0, .int .i64 0, .int .i64 0, .int .i64 0, .string (⟨#[]⟩ : ByteArray), .slice none 0 0, .slice none 0 0] 32)).drew) (blk_drew (blk_new W1 _)) hb⟩; have hg0 : w2.cell? ⟨W1.heap.size, 0, none⟩ = some (.int .i64 0) := (blk_cell BG.out 0).trans rfl; have hgf0 := blk_frozen BG.out 0; have hg1 : w2.cell? ⟨W1.heap.size, 1, none⟩ = some (.int .i64 0) := (blk_cell BG.out 1).trans rfl; have hgf1 := blk_frozen BG.out 1; have hg2 : w2.cell? ⟨W1.heap.size, 2, none⟩ = some (.int .i64 0) := (blk_cell BG.out 2).trans rfl; have hgf2 := blk_frozen BG.out 2; have hg3 : w2.cell? ⟨W1.heap.size, 3, none⟩ = some (.int .i64 0) := (blk_cell BG.out 3).trans rfl; have hgf3 := blk_frozen BG.out 3; have hg4 : w2.cell? ⟨W1.heap.size, 4, none⟩ = some (.int .i64 0) := (blk_cell BG.out 4).trans rfl; have hgf4 := blk_frozen BG.out 4; have hg5 : w2.cell? ⟨W1.heap.size, 5, none⟩ = some (.int .i64 0) := (blk_cell BG.out 5).trans rfl; have hgf5 := blk_frozen BG.out 5; have hg6 : w2.cell? ⟨W1.heap.size, 6, none⟩ = some (.string (⟨#[]⟩ : ByteArray)) := (blk_cell BG.out 6).trans rfl; have hgf6 := blk_frozen BG.out 6; have hg7 : w2.cell? ⟨W1.heap.size, 7, none⟩ = some (.slice none 0 0) := (blk_cell BG.out 7).trans rfl; have hgf7 := blk_frozen BG.out 7; have hg8 : w2.cell? ⟨W1.heap.size, 8, none⟩ = some (.slice none 0 0) := (blk_cell BG.out 8).trans rfl; have hgf8 := blk_frozen BG.out 8;  skip)); have hp1 : w2.cell? ⟨gp, 1, none⟩ = some (.slice (some ⟨gt, 0, none⟩) ts.length cT) := (blk_cell HQ2.out.bp 1).trans rfl; have hm0 : w2.cell? ⟨gn, 0, none⟩ = some (.int .i64 (rd ns 0)) := ncell HQ2.out.ns 0 (by omega); have hm1 : w2.cell? ⟨gn, 1, none⟩ = some (.int .i64 (rd ns 1)) := ncell HQ2.out.ns 1 (by omega); have hm2 : w2.cell? ⟨gn, 2, none⟩ = some (.int .i64 (rd ns 2)) := ncell HQ2.out.ns 2 (by omega); have hm3 : w2.cell? ⟨gn, 3, none⟩ = some (.int .i64 (rd ns 3)) := ncell HQ2.out.ns 3 (by omega); have hm4 : w2.cell? ⟨gn, 4, none⟩ = some (.int .i64 (rd ns 4)) := ncell HQ2.out.ns 4 (by omega); have hm5 : w2.cell? ⟨gn, 5, none⟩ = some (.int .i64 (rd ns 5)) := ncell HQ2.out.ns 5 (by omega); have hu0 : w2.cell? ⟨gt, 0, none⟩ = some (.string (rdOf ByteArray.empty ts 0)) := tcell HQ2.out.ts 0 (by omega);  clear ho hb))
  all_goals (go_wp2; go_meet)
  all_goals (case rel => first | (have bg_ := BG.out; rw [L7.out]; exact ⟨W1.heap.size, cK, AK, rfl, ⟨PL.nine HQ2.out BG.out HQ1.out.bel.size nn7 nn3 HO2.out⟩⟩) | (rw [L7.out]; exact ⟨w2.heap.size, cK, AK, rfl, ⟨PL.new HQ2.out HO2.out⟩⟩))
 case rest =>
  obtain ⟨gl, cK, AK, rfl, HP0⟩ := hcut
  clear HQ1 hn0 hn1 hn2 hn3 hn4 hn5 ht0 hP0 hP1 hq0 hqf0 hq1 hqf1 hq2 hqf2 hq3 hqf3 hq4 hqf4 hq5 hqf5 hq6 hqf6 hq7 hqf7 hq8 hqf8 nn1 nn2 nn3 nn4 nn5 nn6 hcut hcutN
  have hP1 : wc.cell? ⟨gp, 1, none⟩ = some (.slice (some ⟨gt, 0, none⟩) ts.length cT) := (blk_cell HP0.out.q.bp 1).trans rfl
  have hl7' : ns.length - 7 ≤ 1024 := by omega
  go_wp2
  go_loopw [104] (fun v104 wr => ∃ (i : Nat) (x : Int) (vW : Value), v104 = .int .i64 x ∧ Aside0 (x = (i : Int)) ∧ Aside0 (i ≤ ns.length - 7) ∧ Aside0 (PL w wr gq gp gl ns ts (.slice (some ⟨gn, 0, none⟩) ns.length cN) (.slice (some ⟨gt, 0, none⟩) ts.length cT) (rd ns 0) (rd ns 1) (rd ns 2) (rd ns 3) (rd ns 4) (rd ns 5) (rdOf ByteArray.empty ts 0) ((ts.take (1 + rd ns 6).toNat).drop 1) (.slice AK ((ts.take (1 + rd ns 6).toNat).drop 1).length cK) (wsOf (ns.drop 7) (ts.drop (1 + rd ns 6).toNat) i) vW)) (fun v104 _ => (ns.length - 7) - (intOf v104).toNat)
  case atStart => exact ⟨0, 0, _, rfl, ⟨rfl⟩, ⟨Nat.zero_le _⟩, HP0⟩
  case round =>
   obtain ⟨i, x, vW, rfl, hx, hi, HP⟩ := hrel
   clear HP0 hP1 q1 hcutT
   have hxi := hx.out
   have hile := hi.out
   obtain ⟨AW, cW, eW⟩ := Kd.R_slice HP.out.wr
   subst eW
   by_cases hlt : i < ns.length - 7
   ·have c1 : decide (x < ((ns.length - 7 : Nat) : Int)) = true := decide_eq_true (by omega)
    have p1 : 0 ≤ x := by omega
    have b1 : x ≤ 1024 := by omega
    have q0 : x < ((ns.length - 7 : Nat) : Int) := by omega
    have hxx := HX.out
    have r1 : 2 * x < ((ts.length - (1 + rd ns 6).toNat : Nat) : Int) := by omega
    have r2 : 2 * x + 1 < ((ts.length - (1 + rd ns 6).toNat : Nat) : Int) := by omega
    have r3 : 0 ≤ 2 * x := by omega
    have r4 : 0 ≤ 2 * x + 1 := by omega
    obtain ⟨adF, eF, hF⟩ := Kd.at_int (HMF.out _ (Kd.R_reads' HP.out.q.ns).2.2) x p1 (by rw [List.length_drop]; exact q0)
    obtain ⟨adR, eR, hR0⟩ := Kd.at_string (HMR.out _ (Kd.R_reads' HP.out.q.ts).2.2) (2 * x) r3 (by rw [List.length_drop]; exact r1)
    obtain ⟨adR', eR', hR1⟩ := Kd.at_string (HMR.out _ (Kd.R_reads' HP.out.q.ts).2.2) (2 * x + 1) r4 (by rw [List.length_drop]; exact r2)
    subst eF
    subst eR
    cases eR'
    have hv : wsOf (ns.drop 7) (ts.drop (1 + rd ns 6).toNat) (i + 1) = wsOf (ns.drop 7) (ts.drop (1 + rd ns 6).toNat) i ++ [⟨rdOf ByteArray.empty (ts.drop (1 + rd ns 6).toNat) (2 * x), rdOf ByteArray.empty (ts.drop (1 + rd ns 6).toNat) (2 * x + 1), rd (ns.drop 7) x == 1⟩] := by rw [ws_succ, hxi]; rfl
    have HLn : Aside0 ((wsOf (ns.drop 7) (ts.drop (1 + rd ns 6).toNat) i).length ≤ 1024) := ⟨by rw [ws_len]; omega⟩
    generalize rdOf ByteArray.empty (ts.drop (1 + rd ns 6).toNat) (2 * x) = ta at hR0 hv
    generalize rdOf ByteArray.empty (ts.drop (1 + rd ns 6).toNat) (2 * x + 1) = tb at hR1 hv
    generalize rd (ns.drop 7) x = dd at hF hv
    have HV := Aside0.mk hv
    have HI := Aside0.mk (show x + 1 = ((i + 1 : Nat) : Int) from by omega)
    have HLE := Aside0.mk (show i + 1 ≤ ns.length - 7 from hlt)
    have HM := Aside0.mk (show (ns.length - 7) - (intOf (.int .i64 (x + 1))).toNat < (ns.length - 7) - (intOf (.int .i64 x)).toNat from by simp [intOf]; omega)
    have HPd := Aside0.mk HP.out.drew
    have hlW : wr.cell? ⟨gl, 8, none⟩ = some (.slice AW (wsOf (ns.drop 7) (ts.drop (1 + rd ns 6).toNat) i).length cW) := (blk_cell HP.out.bl 8).trans rfl
    have hlW2 : ∀ o : Obj, (wr.drew.alloc o).cell? ⟨gl, 8, none⟩ = some (.slice AW (wsOf (ns.drop 7) (ts.drop (1 + rd ns 6).toNat) i).length cW) := fun o => (blk_cell (HPd.out.alloc o).bl 8).trans rfl
    have hlW3 : ∀ o : Obj, (wr.alloc o).cell? ⟨gl, 8, none⟩ = some (.slice AW (wsOf (ns.drop 7) (ts.drop (1 + rd ns 6).toNat) i).length cW) := fun o => (blk_cell (HP.out.alloc o).bl 8).trans rfl
    have s1 : IntKind.i64.wrap (2 * x) = 2 * x := IntWalk.i64_in _ (by omega)
    have s2 : IntKind.i64.wrap (2 * x + 1) = 2 * x + 1 := IntWalk.i64_in _ (by omega)
    clear hv hxi hile hlt hxx
    go_wp2_with fail
    go_region_law (refine Kd.R_append_step k72 (w0 := w) w.heap.size (by rfl) (.tmp 110) (.tmp 125) 30 72 (.agg #[.string ⟨#[]⟩, .string ⟨#[]⟩, .bool false]) 40 (by rfl) Try.underlying30 info72 rfl (by decide) (by decide) (.slice AW (wsOf (ns.drop 7) (ts.drop (1 + rd ns 6).toNat) i).length cW) (wsOf (ns.drop 7) (ts.drop (1 + rd ns 6).toNat) i) (⟨ta, tb, dd == 1⟩ : S72) [.string ta, .string tb, .bool (dd == 1)] (fun _ => True) (fun _ => False) (by rfl) (by rfl) (k72_mkM _ _ _ _) (fun _ hk => hk.elim) (fun _ _ => trivial) HPd.out.wr HPd.out.q.bel HPd.out.q.bel.size (Nat.le_trans (Nat.mul_le_mul_right 40 (Nat.add_le_add_right HLn.out 1)) (by decide)) ?_; intro v1 w1 ho hb hg hat; obtain ⟨A1, k1, e1⟩ := Kd.R_slice ho; subst e1; obtain ⟨b1, hp2⟩ := HPd.out.push ho hb hg; have HP2 := Aside0.mk hp2; have hs0 : w1.cell? ⟨gl, 8, none⟩ = some (.slice AW (wsOf (ns.drop 7) (ts.drop (1 + rd ns 6).toNat) i).length cW) := (blk_cell b1 8).trans rfl; have hf0 := blk_frozen b1 8; clear ho hb hg hat hp2 b1)
    all_goals go_wp2_with fail
    all_goals (have HP3 := HP2.out; rw [List.length_append, List.length_singleton, ← HV.out] at HP3; exact ⟨⟨i + 1, x + 1, _, rfl, HI, HLE, ⟨HP3⟩⟩, HM.out⟩)
   ·have c1 : decide (x < ((ns.length - 7 : Nat) : Int)) = false := decide_eq_false (by omega)
    obtain rfl : i = ns.length - 7 := by omega
    clear hxi hile hlt
    have hl0 : wr.cell? ⟨gl, 0, none⟩ = some (.int .i64 (rd ns 0)) := (blk_cell HP.out.bl 0).trans rfl
    have hl1 : wr.cell? ⟨gl, 1, none⟩ = some (.int .i64 (rd ns 1)) := (blk_cell HP.out.bl 1).trans rfl
    have hl2 : wr.cell? ⟨gl, 2, none⟩ = some (.int .i64 (rd ns 2)) := (blk_cell HP.out.bl 2).trans rfl
    have hl3 : wr.cell? ⟨gl, 3, none⟩ = some (.int .i64 (rd ns 3)) := (blk_cell HP.out.bl 3).trans rfl
    have hl4 : wr.cell? ⟨gl, 4, none⟩ = some (.int .i64 (rd ns 4)) := (blk_cell HP.out.bl 4).trans rfl
    have hl5 : wr.cell? ⟨gl, 5, none⟩ = some (.int .i64 (rd ns 5)) := (blk_cell HP.out.bl 5).trans rfl
    have hl6 : wr.cell? ⟨gl, 6, none⟩ = some (.string (rdOf ByteArray.empty ts 0)) := (blk_cell HP.out.bl 6).trans rfl
    have hl7 : wr.cell? ⟨gl, 7, none⟩ = some (.slice AK ((ts.take (1 + rd ns 6).toNat).drop 1).length cK) := (blk_cell HP.out.bl 7).trans rfl
    have hl8 : wr.cell? ⟨gl, 8, none⟩ = some (.slice AW (wsOf (ns.drop 7) (ts.drop (1 + rd ns 6).toNat) (ns.length - 7)).length cW) := (blk_cell HP.out.bl 8).trans rfl
    by_cases he : ee = 0
    ·subst he
     by_cases hbs : bb = s
     ·subst hbs
      rw [if_pos ⟨rfl, rfl⟩] at HRR
      go_wp2_with (go_at_call 18; (with_reducible refine (enc_len (k := k) L7.out (Kd.R_reads' HP.out.kr).2.2 (Kd.R_reads' HP.out.kr).2.1 (Kd.R_reads' HP.out.wr).2.2 (Kd.R_reads' HP.out.wr).2.1 HEN.out).mono ?_); rintro e9 w9 ⟨rfl, hb⟩; have HP9 := Aside0.mk (HP.out.below hb); have hq0 : w9.cell? ⟨gq, 0, none⟩ = some (.int .i64 0) := (blk_cell HP9.out.q.bq 0).trans rfl; have hqf0 := blk_frozen HP9.out.q.bq 0; have hq1 : w9.cell? ⟨gq, 1, none⟩ = some (.int .i64 0) := (blk_cell HP9.out.q.bq 1).trans rfl; have hqf1 := blk_frozen HP9.out.q.bq 1; have hq2 : w9.cell? ⟨gq, 2, none⟩ = some (.int .i64 0) := (blk_cell HP9.out.q.bq 2).trans rfl; have hqf2 := blk_frozen HP9.out.q.bq 2; have hq3 : w9.cell? ⟨gq, 3, none⟩ = some (.int .i64 0) := (blk_cell HP9.out.q.bq 3).trans rfl; have hqf3 := blk_frozen HP9.out.q.bq 3; have hq4 : w9.cell? ⟨gq, 4, none⟩ = some (.int .i64 0) := (blk_cell HP9.out.q.bq 4).trans rfl; have hqf4 := blk_frozen HP9.out.q.bq 4; have hq5 : w9.cell? ⟨gq, 5, none⟩ = some (.int .i64 0) := (blk_cell HP9.out.q.bq 5).trans rfl; have hqf5 := blk_frozen HP9.out.q.bq 5; have hq6 : w9.cell? ⟨gq, 6, none⟩ = some (.string (⟨#[]⟩ : ByteArray)) := (blk_cell HP9.out.q.bq 6).trans rfl; have hqf6 := blk_frozen HP9.out.q.bq 6; have hq7 : w9.cell? ⟨gq, 7, none⟩ = some (.slice none 0 0) := (blk_cell HP9.out.q.bq 7).trans rfl; have hqf7 := blk_frozen HP9.out.q.bq 7; have hq8 : w9.cell? ⟨gq, 8, none⟩ = some (.slice none 0 0) := (blk_cell HP9.out.q.bq 8).trans rfl; have hqf8 := blk_frozen HP9.out.q.bq 8;  have hm0 : w9.cell? ⟨gl, 0, none⟩ = some (.int .i64 (rd ns 0)) := (blk_cell HP9.out.bl 0).trans rfl; have hm1 : w9.cell? ⟨gl, 1, none⟩ = some (.int .i64 (rd ns 1)) := (blk_cell HP9.out.bl 1).trans rfl; have hm2 : w9.cell? ⟨gl, 2, none⟩ = some (.int .i64 (rd ns 2)) := (blk_cell HP9.out.bl 2).trans rfl; have hm3 : w9.cell? ⟨gl, 3, none⟩ = some (.int .i64 (rd ns 3)) := (blk_cell HP9.out.bl 3).trans rfl; have hm4 : w9.cell? ⟨gl, 4, none⟩ = some (.int .i64 (rd ns 4)) := (blk_cell HP9.out.bl 4).trans rfl; have hm5 : w9.cell? ⟨gl, 5, none⟩ = some (.int .i64 (rd ns 5)) := (blk_cell HP9.out.bl 5).trans rfl; have hm6 : w9.cell? ⟨gl, 6, none⟩ = some (.string (rdOf ByteArray.empty ts 0)) := (blk_cell HP9.out.bl 6).trans rfl; have hm7 : w9.cell? ⟨gl, 7, none⟩ = some (.slice AK ((ts.take (1 + rd ns 6).toNat).drop 1).length cK) := (blk_cell HP9.out.bl 7).trans rfl; have hm8 : w9.cell? ⟨gl, 8, none⟩ = some (.slice AW (wsOf (ns.drop 7) (ts.drop (1 + rd ns 6).toNat) (ns.length - 7)).length cW) := (blk_cell HP9.out.bl 8).trans rfl;  clear hb)
      have hr9 := Kd.R_keep (Kd.R_types HP9.out.wr HP9.out.q.bq (by decide)) (keep9 (W := w9) (g := gq) (c0 := .int .i64 (rd ns 0)) (c1 := .int .i64 (rd ns 1)) (c2 := .int .i64 (rd ns 2)) (c3 := .int .i64 (rd ns 3)) (c4 := .int .i64 (rd ns 4)) (c5 := .int .i64 (rd ns 5)) (c6 := .string (rdOf ByteArray.empty ts 0)) (c7 := .slice AK ((1 + rd ns 6).toNat - 1) cK) (c8 := .slice AW (wsOf (ns.drop 7) (ts.drop (1 + rd ns 6).toNat) (ns.length - 7)).length cW)) (fun _ hk => hk.2)
      have hk9 := Kd.R_keep (Kd.R_types HP9.out.kr HP9.out.q.bq (by decide)) (keep9 (W := w9) (g := gq) (c0 := .int .i64 (rd ns 0)) (c1 := .int .i64 (rd ns 1)) (c2 := .int .i64 (rd ns 2)) (c3 := .int .i64 (rd ns 3)) (c4 := .int .i64 (rd ns 4)) (c5 := .int .i64 (rd ns 5)) (c6 := .string (rdOf ByteArray.empty ts 0)) (c7 := .slice AK ((1 + rd ns 6).toNat - 1) cK) (c8 := .slice AW (wsOf (ns.drop 7) (ts.drop (1 + rd ns 6).toNat) (ns.length - 7)).length cW)) (fun _ hk => hk.2)
      rw [← L7.out] at hk9
      refine bodyPost_ret (results_ct rfl _ _ gq 32 #[.int .i64 (rd ns 0), .int .i64 (rd ns 1), .int .i64 (rd ns 2), .int .i64 (rd ns 3), .int .i64 (rd ns 4), .int .i64 (rd ns 5), .string (rdOf ByteArray.empty ts 0), .slice AK ((1 + rd ns 6).toNat - 1) cK, .slice AW (wsOf (ns.drop 7) (ts.drop (1 + rd ns 6).toNat) (ns.length - 7)).length cW] (0, 0) _ rfl (set9 HP9.out.q.bq) Try.underlying32 rfl (by kernel_rfl)) rfl ?_
      exact ⟨.slice AK ((1 + rd ns 6).toNat - 1) cK, _, by rw [← HRR]; rfl, by rw [← HRR]; exact Kd.R_mono hk9 (fun _ _ => trivial), by rw [← HRR]; exact Kd.R_mono hr9 (fun _ _ => trivial), below9 HP9.out.q.bel HP9.out.q.geq⟩
     ·have t1 : (bb.toList == s.toList) = false := beq_eq_false_iff_ne.2 (fun ht => hbs (B_inj (by rw [← toList_eq, ← toList_eq, ht])))
      have t2 : (bb.toList != s.toList) = true := bne_iff_ne.2 (fun ht => hbs (B_inj (by rw [← toList_eq, ← toList_eq, ht])))
      rw [if_neg (fun h => hbs h.2)] at HRR
      clear hbs
      go_wp2_with (go_at_call 18; (with_reducible refine (enc_len (k := k) L7.out (Kd.R_reads' HP.out.kr).2.2 (Kd.R_reads' HP.out.kr).2.1 (Kd.R_reads' HP.out.wr).2.2 (Kd.R_reads' HP.out.wr).2.1 HEN.out).mono ?_); rintro e9 w9 ⟨rfl, hb⟩; have HP9 := Aside0.mk (HP.out.below hb); have hq0 : w9.cell? ⟨gq, 0, none⟩ = some (.int .i64 0) := (blk_cell HP9.out.q.bq 0).trans rfl; have hqf0 := blk_frozen HP9.out.q.bq 0; have hq1 : w9.cell? ⟨gq, 1, none⟩ = some (.int .i64 0) := (blk_cell HP9.out.q.bq 1).trans rfl; have hqf1 := blk_frozen HP9.out.q.bq 1; have hq2 : w9.cell? ⟨gq, 2, none⟩ = some (.int .i64 0) := (blk_cell HP9.out.q.bq 2).trans rfl; have hqf2 := blk_frozen HP9.out.q.bq 2; have hq3 : w9.cell? ⟨gq, 3, none⟩ = some (.int .i64 0) := (blk_cell HP9.out.q.bq 3).trans rfl; have hqf3 := blk_frozen HP9.out.q.bq 3; have hq4 : w9.cell? ⟨gq, 4, none⟩ = some (.int .i64 0) := (blk_cell HP9.out.q.bq 4).trans rfl; have hqf4 := blk_frozen HP9.out.q.bq 4; have hq5 : w9.cell? ⟨gq, 5, none⟩ = some (.int .i64 0) := (blk_cell HP9.out.q.bq 5).trans rfl; have hqf5 := blk_frozen HP9.out.q.bq 5; have hq6 : w9.cell? ⟨gq, 6, none⟩ = some (.string (⟨#[]⟩ : ByteArray)) := (blk_cell HP9.out.q.bq 6).trans rfl; have hqf6 := blk_frozen HP9.out.q.bq 6; have hq7 : w9.cell? ⟨gq, 7, none⟩ = some (.slice none 0 0) := (blk_cell HP9.out.q.bq 7).trans rfl; have hqf7 := blk_frozen HP9.out.q.bq 7; have hq8 : w9.cell? ⟨gq, 8, none⟩ = some (.slice none 0 0) := (blk_cell HP9.out.q.bq 8).trans rfl; have hqf8 := blk_frozen HP9.out.q.bq 8;  have hm0 : w9.cell? ⟨gl, 0, none⟩ = some (.int .i64 (rd ns 0)) := (blk_cell HP9.out.bl 0).trans rfl; have hm1 : w9.cell? ⟨gl, 1, none⟩ = some (.int .i64 (rd ns 1)) := (blk_cell HP9.out.bl 1).trans rfl; have hm2 : w9.cell? ⟨gl, 2, none⟩ = some (.int .i64 (rd ns 2)) := (blk_cell HP9.out.bl 2).trans rfl; have hm3 : w9.cell? ⟨gl, 3, none⟩ = some (.int .i64 (rd ns 3)) := (blk_cell HP9.out.bl 3).trans rfl; have hm4 : w9.cell? ⟨gl, 4, none⟩ = some (.int .i64 (rd ns 4)) := (blk_cell HP9.out.bl 4).trans rfl; have hm5 : w9.cell? ⟨gl, 5, none⟩ = some (.int .i64 (rd ns 5)) := (blk_cell HP9.out.bl 5).trans rfl; have hm6 : w9.cell? ⟨gl, 6, none⟩ = some (.string (rdOf ByteArray.empty ts 0)) := (blk_cell HP9.out.bl 6).trans rfl; have hm7 : w9.cell? ⟨gl, 7, none⟩ = some (.slice AK ((ts.take (1 + rd ns 6).toNat).drop 1).length cK) := (blk_cell HP9.out.bl 7).trans rfl; have hm8 : w9.cell? ⟨gl, 8, none⟩ = some (.slice AW (wsOf (ns.drop 7) (ts.drop (1 + rd ns 6).toNat) (ns.length - 7)).length cW) := (blk_cell HP9.out.bl 8).trans rfl;  clear hb)
      refine bodyPost_ret (results_ct rfl _ _ gq 32 #[.int .i64 0, .int .i64 0, .int .i64 0, .int .i64 0, .int .i64 0, .int .i64 0, .string (⟨#[]⟩ : ByteArray), .slice none 0 0, .slice none 0 0] (0, 0) _ rfl (set9 HP9.out.q.bq) Try.underlying32 rfl (by kernel_rfl)) rfl ?_
      exact ⟨_, _, by rw [← HRR]; rfl, by rw [← HRR]; exact Kd.R_nil _ _ _ _ _, by rw [← HRR]; exact Kd.R_nil _ _ _ _ _, below9 HP9.out.q.bel HP9.out.q.geq⟩
    ·have t1 : (ee == 0) = false := beq_eq_false_iff_ne.2 he
     have t2 : (ee != 0) = true := bne_iff_ne.2 he
     rw [if_neg (fun h => he h.1)] at HRR
     clear he
     go_wp2_with (go_at_call 18; (with_reducible refine (enc_len (k := k) L7.out (Kd.R_reads' HP.out.kr).2.2 (Kd.R_reads' HP.out.kr).2.1 (Kd.R_reads' HP.out.wr).2.2 (Kd.R_reads' HP.out.wr).2.1 HEN.out).mono ?_); rintro e9 w9 ⟨rfl, hb⟩; have HP9 := Aside0.mk (HP.out.below hb); have hq0 : w9.cell? ⟨gq, 0, none⟩ = some (.int .i64 0) := (blk_cell HP9.out.q.bq 0).trans rfl; have hqf0 := blk_frozen HP9.out.q.bq 0; have hq1 : w9.cell? ⟨gq, 1, none⟩ = some (.int .i64 0) := (blk_cell HP9.out.q.bq 1).trans rfl; have hqf1 := blk_frozen HP9.out.q.bq 1; have hq2 : w9.cell? ⟨gq, 2, none⟩ = some (.int .i64 0) := (blk_cell HP9.out.q.bq 2).trans rfl; have hqf2 := blk_frozen HP9.out.q.bq 2; have hq3 : w9.cell? ⟨gq, 3, none⟩ = some (.int .i64 0) := (blk_cell HP9.out.q.bq 3).trans rfl; have hqf3 := blk_frozen HP9.out.q.bq 3; have hq4 : w9.cell? ⟨gq, 4, none⟩ = some (.int .i64 0) := (blk_cell HP9.out.q.bq 4).trans rfl; have hqf4 := blk_frozen HP9.out.q.bq 4; have hq5 : w9.cell? ⟨gq, 5, none⟩ = some (.int .i64 0) := (blk_cell HP9.out.q.bq 5).trans rfl; have hqf5 := blk_frozen HP9.out.q.bq 5; have hq6 : w9.cell? ⟨gq, 6, none⟩ = some (.string (⟨#[]⟩ : ByteArray)) := (blk_cell HP9.out.q.bq 6).trans rfl; have hqf6 := blk_frozen HP9.out.q.bq 6; have hq7 : w9.cell? ⟨gq, 7, none⟩ = some (.slice none 0 0) := (blk_cell HP9.out.q.bq 7).trans rfl; have hqf7 := blk_frozen HP9.out.q.bq 7; have hq8 : w9.cell? ⟨gq, 8, none⟩ = some (.slice none 0 0) := (blk_cell HP9.out.q.bq 8).trans rfl; have hqf8 := blk_frozen HP9.out.q.bq 8;  have hm0 : w9.cell? ⟨gl, 0, none⟩ = some (.int .i64 (rd ns 0)) := (blk_cell HP9.out.bl 0).trans rfl; have hm1 : w9.cell? ⟨gl, 1, none⟩ = some (.int .i64 (rd ns 1)) := (blk_cell HP9.out.bl 1).trans rfl; have hm2 : w9.cell? ⟨gl, 2, none⟩ = some (.int .i64 (rd ns 2)) := (blk_cell HP9.out.bl 2).trans rfl; have hm3 : w9.cell? ⟨gl, 3, none⟩ = some (.int .i64 (rd ns 3)) := (blk_cell HP9.out.bl 3).trans rfl; have hm4 : w9.cell? ⟨gl, 4, none⟩ = some (.int .i64 (rd ns 4)) := (blk_cell HP9.out.bl 4).trans rfl; have hm5 : w9.cell? ⟨gl, 5, none⟩ = some (.int .i64 (rd ns 5)) := (blk_cell HP9.out.bl 5).trans rfl; have hm6 : w9.cell? ⟨gl, 6, none⟩ = some (.string (rdOf ByteArray.empty ts 0)) := (blk_cell HP9.out.bl 6).trans rfl; have hm7 : w9.cell? ⟨gl, 7, none⟩ = some (.slice AK ((ts.take (1 + rd ns 6).toNat).drop 1).length cK) := (blk_cell HP9.out.bl 7).trans rfl; have hm8 : w9.cell? ⟨gl, 8, none⟩ = some (.slice AW (wsOf (ns.drop 7) (ts.drop (1 + rd ns 6).toNat) (ns.length - 7)).length cW) := (blk_cell HP9.out.bl 8).trans rfl;  clear hb)
     refine bodyPost_ret (results_ct rfl _ _ gq 32 #[.int .i64 0, .int .i64 0, .int .i64 0, .int .i64 0, .int .i64 0, .int .i64 0, .string (⟨#[]⟩ : ByteArray), .slice none 0 0, .slice none 0 0] (0, 0) _ rfl (set9 HP9.out.q.bq) Try.underlying32 rfl (by kernel_rfl)) rfl ?_
     exact ⟨_, _, by rw [← HRR]; rfl, by rw [← HRR]; exact Kd.R_nil _ _ _ _ _, by rw [← HRR]; exact Kd.R_nil _ _ _ _ _, below9 HP9.out.q.bel HP9.out.q.geq⟩
/-- What a pack's numbers and texts are as a letter. -/
def letOf (k : Nat) (s : ByteArray) (ns : List Int) (ts : List ByteArray) : Option RLet :=
 if 0 ≤ rd ns 6 ∧ rd ns 6 < (ts.length : Int) ∧ (ts.length : Int) = 1 + rd ns 6 + 2 * ((ns.length - 7 : Nat) : Int) then
  (letter_Encode.f k (rd ns 0) (rd ns 1) (rd ns 2) (rd ns 3) (rd ns 4) (rd ns 5) (rdOf ByteArray.empty ts 0) ((ts.take (1 + rd ns 6).toNat).drop 1) (wsOf (ns.drop 7) (ts.drop (1 + rd ns 6).toNat) (ns.length - 7))).bind fun be => if be.2 = 0 ∧ be.1 = s then some ((rd ns 0), (rd ns 1), (rd ns 2), (rd ns 3), (rd ns 4), (rd ns 5), (rdOf ByteArray.empty ts 0), ((ts.take (1 + rd ns 6).toNat).drop 1), wsOf (ns.drop 7) (ts.drop (1 + rd ns 6).toNat) (ns.length - 7), 0) else some noLet
 else some noLet
def decF (k : Nat) (s : ByteArray) : Option RLet :=
 (pack_Decode.f s).bind fun d => if d.2.2.2 = 0 ∧ 7 ≤ d.1.length ∧ 1 ≤ d.2.1.length then letOf k s d.1 d.2.1 else some noLet
theorem nolet_E {w : World} {e : Ending} {w' : World} (h : NoLetE w e w') : RLetE w noLet e w' := ⟨.slice none 0 0, .slice none 0 0, h.1, Kd.R_nil _ _ _ _ _, Kd.R_nil _ _ _ _ _, h.2⟩
theorem decF_calls (k : Nat) (s : ByteArray) (r : RLet) (w : World) (h : decF k s = some r) : Calls Try.prog 20 #[.string s] w (RLetE w r) := by
 unfold decF at h
 cases hd : pack_Decode.f s with
 |none => rw [hd] at h; cases h
 |some d =>
  obtain ⟨ns, ts, p, e⟩ := d
  rw [hd, Option.bind_some] at h
  have hl : ns.length ≤ 1024 ∧ ts.length ≤ 1024 := by
   unfold pack_Decode.f at hd
   split at hd
   ·simp only [Option.some.injEq, Prod.mk.injEq] at hd
    rw [← hd.1, ← hd.2.1]; exact DecLen.dec_len s
   ·cases hd
  have no : ∀ (_ : Calls Try.prog 20 #[.string s] w (NoLetE w)) (_ : some noLet = some r), Calls Try.prog 20 #[.string s] w (RLetE w r) := fun hc hr => by
   obtain rfl := Option.some.inj hr
   exact hc.mono fun e w' he => nolet_E he
  by_cases c : e = 0 ∧ 7 ≤ ns.length ∧ 1 ≤ ts.length
  ·rw [if_pos c] at h
   obtain ⟨he, hn, ht⟩ := c
   have he' : e = 0 := he
   subst he'
   unfold letOf at h
   by_cases m : 0 ≤ rd ns 6 ∧ rd ns 6 < (ts.length : Int) ∧ (ts.length : Int) = 1 + rd ns 6 + 2 * ((ns.length - 7 : Nat) : Int)
   ·rw [if_pos m] at h
    cases hb : letter_Encode.f k (rd ns 0) (rd ns 1) (rd ns 2) (rd ns 3) (rd ns 4) (rd ns 5) (rdOf ByteArray.empty ts 0) ((ts.take (1 + rd ns 6).toNat).drop 1) (wsOf (ns.drop 7) (ts.drop (1 + rd ns 6).toNat) (ns.length - 7)) with
    |none => rw [hb] at h; cases h
    |some q =>
     obtain ⟨bb, ee⟩ := q
     rw [hb, Option.bind_some] at h
     refine ld_go s ns ts p w hd hn ht hl.2 hl.1 m.1 m.2.1 m.2.2 k bb ee hb r ?_
     by_cases hx : ee = 0 ∧ bb = s
     ·rw [if_pos hx] at h ⊢
      exact Option.some.inj h
     ·rw [if_neg hx] at h ⊢
      exact Option.some.inj h
   ·rw [if_neg m] at h
    by_cases m0 : rd ns 6 < 0
    ·exact no (ld_m1 s ns ts p w hd hn ht m0) h
    ·by_cases m1 : (ts.length : Int) ≤ rd ns 6
     ·exact no (ld_m2 s ns ts p w hd hn ht hl.2 (by omega) m1) h
     ·exact no (ld_m3 s ns ts p w hd hn ht hl.2 hl.1 (by omega) (by omega) (fun hc => m ⟨by omega, by omega, hc⟩)) h
  ·rw [if_neg c] at h
   by_cases he : e = 0
   ·subst he
    by_cases hn : ns.length < 7
    ·exact no (ld_n s ns ts p w hd hn) h
    ·have : ts = [] := by
      cases ts with
      |nil => rfl
      |cons t r => exact absurd ⟨rfl, by omega, by simp⟩ c
     exact no (ld_t s ns ts p w hd (by omega) this) h
   ·exact no (ld_e s ns ts p e w hd he) h
end LD
def letter_Decode.f (k : Nat) (a0 : ByteArray) : Option (Int × Int × Int × Int × Int × Int × ByteArray × List ByteArray × List S72 × Int) := LD.decF k a0
theorem letter_Decode.calls (k : Nat) (a0 : ByteArray) (r1 r2 r3 r4 r5 r6 : Int) (r7 : ByteArray) (r8 : List ByteArray) (r9 : List S72) (r10 : Int) (w : World) (h : letter_Decode.f k a0 = some (r1, r2, r3, r4, r5, r6, r7, r8, r9, r10)) :
  Calls Try.prog 20 #[.string a0] w fun e w' => ∃ v7_ v8_ : Value, e = .returned (.tuple #[.agg #[.int .i64 r1, .int .i64 r2, .int .i64 r3, .int .i64 r4, .int .i64 r5, .int .i64 r6, .string r7, v7_, v8_], .int .i64 r10]) ∧ Kd.R Kd.string 9 w' w.heap.size (fun _ => True) v7_ r8 ∧ Kd.R k72 72 w' w.heap.size (fun _ => True) v8_ r9 ∧ Below w.heap.size w w' := LD.decF_calls k a0 (r1, r2, r3, r4, r5, r6, r7, r8, r9, r10) w h
end Go.Proofs.Ytnbomedhehoflaa.Al

namespace Go.Proofs.Ytnbomedhehoflaa.LetSpec
open Go.RowKit Go.Proofs.Ytnbomedhehoflaa.Base Go.Proofs.Ytnbomedhehoflaa.PackMath Go.Proofs.Ytnbomedhehoflaa.PackDec Go.Proofs.Ytnbomedhehoflaa.PackFns Go.Proofs.Ytnbomedhehoflaa.Al Go.Proofs.YtnbomedhehoflaaW.PrintWords
set_option linter.unusedVariables false
set_option linter.unusedSimpArgs false
open Go.Proofs.Ytnbomedhehoflaa.Al.LD (RLet noLet wsOf wOf ws_len)
/-- The keys, the writes. -/
def keysOf (ns : List Int) (ts : List ByteArray) : List ByteArray := (ts.take (1 + rd ns 6).toNat).drop 1
def wrsOf (ns : List Int) (ts : List ByteArray) : List S72 := wsOf (ns.drop 7) (ts.drop (1 + rd ns 6).toNat) (ns.length - 7)
def encD (ns : List Int) (ts : List ByteArray) : ByteArray × Int := encL (rd ns 0) (rd ns 1) (rd ns 2) (rd ns 3) (rd ns 4) (rd ns 5) (rdOf ByteArray.empty ts 0) (keysOf ns ts) (wrsOf ns ts)
def fitD (ns : List Int) (ts : List ByteArray) : Prop := 0 ≤ rd ns 6 ∧ rd ns 6 < (ts.length : Int) ∧ (ts.length : Int) = 1 + rd ns 6 + 2 * ((ns.length - 7 : Nat) : Int)
instance (ns : List Int) (ts : List ByteArray) : Decidable (fitD ns ts) := by unfold fitD; infer_instance
def letV (ns : List Int) (ts : List ByteArray) : RLet := (rd ns 0, rd ns 1, rd ns 2, rd ns 3, rd ns 4, rd ns 5, rdOf ByteArray.empty ts 0, keysOf ns ts, wrsOf ns ts, 0)
def ldV (s : ByteArray) : RLet :=
 if (dec s).2.2.2 = 0 ∧ 7 ≤ (dec s).1.length ∧ 1 ≤ (dec s).2.1.length then
  (if fitD (dec s).1 (dec s).2.1 then (if (encD (dec s).1 (dec s).2.1).2 = 0 ∧ (encD (dec s).1 (dec s).2.1).1 = s then letV (dec s).1 (dec s).2.1 else noLet) else noLet)
 else noLet
theorem keys_len (ns : List Int) (ts : List ByteArray) : (keysOf ns ts).length ≤ ts.length := by unfold keysOf; rw [List.length_drop, List.length_take]; omega
theorem wrs_len (ns : List Int) (ts : List ByteArray) : (wrsOf ns ts).length = ns.length - 7 := ws_len _ _ _
theorem ldec_ev (s : ByteArray) (hs : s.size ≤ 140737488355328) : Ev (fun k => letter_Decode.f k s) (ldV s) := by
 obtain ⟨d1, d2⟩ := DecLen.dec_len s
 unfold letter_Decode.f LD.decF ldV
 rw [show pack_Decode.f s = some ((dec s).1, (dec s).2.1, ((dec s).2.2.1 : Int), (dec s).2.2.2) from if_pos hs]
 refine Ev.some_bind ?_
 generalize (dec s).1 = ns at *
 generalize (dec s).2.1 = ts at *
 by_cases h : (dec s).2.2.2 = 0 ∧ 7 ≤ ns.length ∧ 1 ≤ ts.length
 ·rw [if_pos h]
  refine Ev.pos h ?_
  unfold LD.letOf
  by_cases hf : fitD ns ts
  ·rw [if_pos hf]
   refine Ev.pos hf ?_
   have hk := keys_len ns ts
   have hw := wrs_len ns ts
   refine Ev.bind (encodeL_ev (rd ns 0) (rd ns 1) (rd ns 2) (rd ns 3) (rd ns 4) (rd ns 5) (rdOf ByteArray.empty ts 0) (keysOf ns ts) (wrsOf ns ts) (by omega) (by omega)) ?_
   by_cases hx : (encD ns ts).2 = 0 ∧ (encD ns ts).1 = s
   ·rw [if_pos hx]
    exact Ev.pos hx (Ev.now _)
   ·rw [if_neg hx]
    exact Ev.neg hx (Ev.now _)
  ·rw [if_neg hf]
   exact Ev.neg hf (Ev.now _)
 ·rw [if_neg h]
  exact Ev.neg h (Ev.now _)
/-- What comes back with no fault is the letter of these bytes. -/
theorem ldV_ok {s : ByteArray} (h : (ldV s).2.2.2.2.2.2.2.2.2 = 0) : ∃ ns ts, ldV s = letV ns ts ∧ encD ns ts = (s, 0) ∧ ns.length ≤ 1024 ∧ ts.length ≤ 1024 := by
 obtain ⟨d1, d2⟩ := DecLen.dec_len s
 unfold ldV at h ⊢
 split
 ·rename_i c
  rw [if_pos c] at h
  split
  ·rename_i c2
   rw [if_pos c2] at h
   split
   ·rename_i c3
    exact ⟨_, _, rfl, Prod.ext c3.2 c3.1, d1, d2⟩
   ·rename_i c3
    rw [if_neg c3] at h
    cases h
  ·rename_i c2
   rw [if_neg c2] at h
   cases h
 ·rename_i c
  rw [if_neg c] at h
  cases h
theorem strs_bytes (l : List Int) (h : ∀ b ∈ l, 0 ≤ b ∧ b ≤ 255) : bytesOf (strOfNums l) = l := by
 have : (strOfNums l).data.toList = l.map fun n => UInt8.ofNat n.toNat := B_nums l
 unfold bytesOf
 rw [this, List.map_map]
 conv => rhs; rw [← List.map_id l]
 refine List.map_congr_left fun b hb => ?_
 obtain ⟨h1, h2⟩ := h b hb
 simp only [Function.comp, id]
 rw [UInt8.toNat_ofNat']
 omega
theorem enc_rng (ns : List Int) (ts : List ByteArray) : ∀ b ∈ enc ns ts, 0 ≤ b ∧ b ≤ 255 := by
 intro b hb
 simp only [enc, List.mem_append] at hb
 rcases hb with ((hb | hb) | hb) | hb
 ·exact plain_range _ b hb
 ·simp only [body, List.mem_flatten, List.mem_map] at hb
  obtain ⟨l, ⟨n, _, rfl⟩, hb⟩ := hb
  exact plain_range _ b hb
 ·exact plain_range _ b hb
 ·simp only [tails, List.mem_flatten, List.mem_map] at hb
  obtain ⟨l, ⟨t, _, rfl⟩, hb⟩ := hb
  rcases List.mem_append.1 hb with hb | hb
  ·exact plain_range _ b hb
  ·have := rest_range t 0 b (by rw [rest_zero]; exact hb)
   exact this
theorem flat_get {l : List S72} : ∀ {j : Nat} (hj : j < l.length), (pairsOf l)[2 * j]? = some l[j].f0 ∧ (pairsOf l)[2 * j + 1]? = some l[j].f1 := by
 induction l with
 |nil => intro j hj; simp at hj
 |cons x l ih =>
  intro j hj
  cases j with
  |zero => exact ⟨rfl, rfl⟩
  |succ j =>
   have := ih (j := j) (by simpa using hj)
   have e : pairsOf (x :: l) = [x.f0, x.f1] ++ pairsOf l := rfl
   rw [e, List.getElem?_append_right (by simp; omega), List.getElem?_append_right (by simp; omega)]
   simpa [show 2 * (j + 1) - 2 = 2 * j by omega, show 2 * (j + 1) + 1 - 2 = 2 * j + 1 by omega] using this
section
variable (x0 x1 x2 x3 x4 x5 : Int) (x6 : ByteArray) (x7 : List ByteArray) (x8 : List S72)
/-- There and back. -/
theorem ldV_enc (h : chkL x0 x1 x2 x3 x4 x5 x6 x7 x8 = 0) : ldV (encL x0 x1 x2 x3 x4 x5 x6 x7 x8).1 = (x0, x1, x2, x3, x4, x5, x6, x7, x8, 0) := by
 have hc := let_chk _ _ _ _ _ _ _ _ _ h
 have he : encL x0 x1 x2 x3 x4 x5 x6 x7 x8 = (strOfNums (enc (letN x0 x1 x2 x3 x4 x5 x7 x8) (letT x6 x7 x8)), 0) := if_pos h
 have hd : dec (strOfNums (enc (letN x0 x1 x2 x3 x4 x5 x7 x8) (letT x6 x7 x8))) = (letN x0 x1 x2 x3 x4 x5 x7 x8, letT x6 x7 x8, 0, 0) := by
  have := dec_enc (s := strOfNums (enc (letN x0 x1 x2 x3 x4 x5 x7 x8) (letT x6 x7 x8))) (r := []) hc (by rw [List.append_nil]; exact strs_bytes _ (fun b hb => enc_rng _ _ b hb))
  rwa [if_pos rfl] at this
 rw [he]
 show ldV (strOfNums _) = _
 unfold ldV
 rw [hd]
 simp only
 have r6 : rd (letN x0 x1 x2 x3 x4 x5 x7 x8) 6 = (x7.length : Int) := rfl
 have nl : (letN x0 x1 x2 x3 x4 x5 x7 x8).length = 7 + x8.length := by unfold letN; rw [List.length_append, flags_len]; rfl
 have tl : (letT x6 x7 x8).length = 1 + x7.length + 2 * x8.length := by
  unfold letT; rw [List.length_append, List.length_append, Al.pairs_len]; rfl
 have hk : keysOf (letN x0 x1 x2 x3 x4 x5 x7 x8) (letT x6 x7 x8) = x7 := by
  unfold keysOf; rw [r6, show (1 + (x7.length : Int)).toNat = 1 + x7.length by omega]
  unfold letT
  rw [List.append_assoc, Nat.add_comm]
  simp
 have hd7 : (letN x0 x1 x2 x3 x4 x5 x7 x8).drop 7 = flagsOf x8 := rfl
 have hdT : (letT x6 x7 x8).drop (1 + (x7.length : Int)).toNat = pairsOf x8 := by
  rw [show (1 + (x7.length : Int)).toNat = x7.length + 1 by omega]
  unfold letT
  rw [List.append_assoc]
  simp
 have hw : wrsOf (letN x0 x1 x2 x3 x4 x5 x7 x8) (letT x6 x7 x8) = x8 := by
  unfold wrsOf
  rw [r6, hd7, hdT, nl, Nat.add_sub_cancel_left]
  apply List.ext_getElem
  ·rw [ws_len]
  ·intro j h1 h2
   obtain ⟨g0, g1⟩ := flat_get (l := x8) h2
   simp only [wsOf, List.getElem_map, List.getElem_range, wOf]
   have e0 : rdOf ByteArray.empty (pairsOf x8) (2 * (j : Int)) = x8[j].f0 := by
    rw [rdOf, show (2 * (j : Int)).toNat = 2 * j by omega, List.getD_eq_getElem?_getD, g0]; rfl
   have e1 : rdOf ByteArray.empty (pairsOf x8) (2 * (j : Int) + 1) = x8[j].f1 := by
    rw [rdOf, show (2 * (j : Int) + 1).toNat = 2 * j + 1 by omega, List.getD_eq_getElem?_getD, g1]; rfl
   have e2 : (rd (flagsOf x8) (j : Int) == 1) = x8[j].f2 := by
    have : rd (flagsOf x8) (j : Int) = if x8[j].f2 = true then 1 else 0 := by
     unfold rd flagsOf
     rw [Int.toNat_natCast, List.getD_eq_getElem?_getD, List.getElem?_map, List.getElem?_eq_getElem h2]; rfl
    rw [this]
    cases x8[j].f2 <;> rfl
   rw [e0, e1, e2]
 have hr : rdOf ByteArray.empty (letT x6 x7 x8) 0 = x6 := rfl
 have henc : encD (letN x0 x1 x2 x3 x4 x5 x7 x8) (letT x6 x7 x8) = encL x0 x1 x2 x3 x4 x5 x6 x7 x8 := by
  unfold encD; rw [hk, hw, hr]; rfl
 rw [if_pos ⟨trivial, by omega, by omega⟩, if_pos (show fitD _ _ from ⟨by rw [r6]; omega, by rw [r6, tl]; omega, by rw [r6, tl, nl]; omega⟩), henc, he, if_pos ⟨rfl, rfl⟩]
 unfold letV
 rw [hk, hw, hr]
 rfl
end
end Go.Proofs.Ytnbomedhehoflaa.LetSpec

namespace Go.Proofs.Ytnbomedhehoflaa.Al
open Go.RowKit Go.Proofs.YtnbomedhehoflaaW.PrintWords Go.Proofs.YtnbomedhehoflaaW.PrintLast Go.Proofs.YtnbomedhehoflaaW.PrintMore
set_option linter.unusedVariables false
set_option linter.unusedSimpArgs false
def ldX (s : ByteArray) : S32 := ⟨(LetSpec.ldV s).1, (LetSpec.ldV s).2.1, (LetSpec.ldV s).2.2.1, (LetSpec.ldV s).2.2.2.1, (LetSpec.ldV s).2.2.2.2.1, (LetSpec.ldV s).2.2.2.2.2.1, (LetSpec.ldV s).2.2.2.2.2.2.1, (LetSpec.ldV s).2.2.2.2.2.2.2.1, (LetSpec.ldV s).2.2.2.2.2.2.2.2.1⟩
def ldE (s : ByteArray) : Int := (LetSpec.ldV s).2.2.2.2.2.2.2.2.2
theorem ld_chk {s : ByteArray} (h : ldE s = 0) : chkS (ldX s) = 0 := by
 obtain ⟨ns, ts, hv, he, _, _⟩ := LetSpec.ldV_ok h
 unfold ldX chkS
 rw [hv]
 by_cases hc : LetSpec.chkL (rd ns 0) (rd ns 1) (rd ns 2) (rd ns 3) (rd ns 4) (rd ns 5) (rdOf ByteArray.empty ts 0) (LetSpec.keysOf ns ts) (LetSpec.wrsOf ns ts) = 0
 ·exact hc
 ·unfold LetSpec.encD LetSpec.encL at he
  rw [if_neg hc] at he
  injection he with _ h2
/-- A letter whose lists are rows of this call's. -/
structure RwL (w : World) (base : Nat) (x : S32) (v7 v8 : Value) : Prop where
 r7 : Kd.string.R 9 w base (fun _ => True) v7 x.f7
 r8 : k72.R 72 w base (fun _ => True) v8 x.f8
theorem RwL.rd {w : World} {base : Nat} {x : S32} {v7 v8 : Value} (h : RwL w base x v7 v8) : RdL w x v7 v8 := RdL.of h.r7 h.r8
theorem RwL.kt {w w1 : World} {base : Nat} {x : S32} {v7 v8 : Value} (h : RwL w base x v7 v8) (hk : Kt w w1) : RwL w1 base x v7 v8 := ⟨row_kt rfl h.r7 (by decide) (by decide) hk, row_kt rfl h.r8 (by decide) (by decide) hk⟩
theorem RwL.below {w w1 : World} {base : Nat} {x : S32} {v7 v8 : Value} (h : RwL w base x v7 v8) (hb : Below w.heap.size w w1) : RwL w1 base x v7 v8 := h.kt (Kt.of_below hb)
theorem RwL.lower {w : World} {base b : Nat} {x : S32} {v7 v8 : Value} (h : RwL w base x v7 v8) (hb : b ≤ base) : RwL w b x v7 v8 := ⟨Kd.R_lower h.r7 hb, Kd.R_lower h.r8 hb⟩
theorem RwL.nil (w : World) (base : Nat) : RwL w base z32 (.slice none 0 0) (.slice none 0 0) := ⟨Kd.R_nil _ _ _ _ _, Kd.R_nil _ _ _ _ _⟩
theorem dec_calls (s : ByteArray) (hs : s.size ≤ 140737488355328) {x : S32} {er : Int} {n7 n8 : Nat} (hx : x = ldX s) (he : er = ldE s) (h7 : n7 = x.f7.length) (h8 : n8 = x.f8.length) (w : World) : Calls Try.prog 20 #[.string s] w fun e w' => ∃ A7 c7 A8 c8, e = .returned (.tuple #[.agg #[.int .i64 x.f0, .int .i64 x.f1, .int .i64 x.f2, .int .i64 x.f3, .int .i64 x.f4, .int .i64 x.f5, .string x.f6, .slice A7 n7 c7, .slice A8 n8 c8], .int .i64 er]) ∧ Kd.string.R 9 w' w.heap.size (fun _ => True) (.slice A7 n7 c7) x.f7 ∧ k72.R 72 w' w.heap.size (fun _ => True) (.slice A8 n8 c8) x.f8 ∧ Below w.heap.size w w' := by
 subst hx he
 obtain ⟨k, hk⟩ := Ev.rounds (LetSpec.ldec_ev s hs)
 refine (letter_Decode.calls k s _ _ _ _ _ _ _ _ _ _ w hk).mono ?_
 rintro e w' ⟨v7, v8, rfl, r7, r8, hb⟩
 obtain ⟨A7, c7, rfl⟩ := Kd.R_slice r7
 obtain ⟨A8, c8, rfl⟩ := Kd.R_slice r8
 subst h7 h8
 exact ⟨A7, c7, A8, c8, rfl, r7, r8, hb⟩
def injE (room : Int) (l : List S32) (s : ByteArray) : Int := if ldE s = 0 then sendE room l (ldX s) else ldE s
def injX (room : Int) (l : List S32) (s : ByteArray) : S32 := if injE room l s = 0 then ldX s else z32
def injL (room : Int) (l : List S32) (s : ByteArray) : List S32 := if injE room l s = 0 then l ++ [ldX s] else l
section
variable {W w w1 w5 w6 : World} {g gz : Nat} {room : Int} {X X' : Nat → Prop} {l l' : List S32} {v v7 v8 u7 u8 c0 c1 c2 c3 c4 c5 c6 c7 c8 : Value} {x : S32}
theorem send_chk (hc : chkS x = 0) : (sendE room l x = 0 ∧ sendL room l x = l ++ [x]) ∨ (sendE room l x = 150 ∧ sendL room l x = l) := by
 have e1 : sendE room l x = if room ≤ (l.length : Int) then 150 else 0 := by unfold sendE; rw [if_neg (fun c => c hc)]
 have e2 : sendL room l x = if room ≤ (l.length : Int) then l else l ++ [x] := by unfold sendL; rw [if_neg (fun c => c hc)]
 rw [e1, e2]
 by_cases h : room ≤ (l.length : Int)
 ·exact .inr ⟨if_pos h, if_pos h⟩
 ·exact .inl ⟨if_neg h, if_neg h⟩
/-- All blocks that were made since. -/
theorem NZ.all (h : NZ W w g room X l) (hb : Below w.heap.size w w1) : NZ W w1 g room (fun k => X k ∨ (w.heap.size ≤ k ∧ k < w1.heap.size)) l := by
 obtain ⟨v, hv⟩ := h.ex
 refine ⟨⟨v, (hv.old hb).mono (fun k hk => fun hx => ?_)⟩, fun k hk => ?_⟩
 ·rcases hx with hx | hx
  ·exact hk.1 hx
  ·omega
 ·have := blk_lt hv.blk
  have := hb.size
  rcases hk with hk | hk
  ·exact ⟨by have := (h.lt k hk).1; omega, (h.lt k hk).2⟩
  ·exact ⟨hk.2, by omega⟩
theorem NZ.weak (h : NZ W w g room X l) (hX : ∀ k, X' k → X k) : NZ W w g room X' l := by
 obtain ⟨v, hv⟩ := h.ex
 exact ⟨⟨v, hv.mono (fun k hk hx => hk (hX k hx))⟩, fun k hk => h.lt k (hX k hk)⟩
theorem NZ.keep (h : NZ W w g room X l) (hX : X gz) (hk : KeepBut w w1 gz none) (hb : Below W.heap.size W w1) : NZ W w1 g room X l := by
 obtain ⟨v, hv⟩ := h.ex
 exact ⟨⟨v, (hk.2 g (blk_lt hv.blk) (fun e => (h.lt gz hX).2 e.symm) (by simp)).trans hv.blk, hv.ge, Kd.S_keep hv.row hk (fun k hk' he => hk' (he ▸ hX)), hb⟩, fun k hk' => ⟨Nat.lt_of_lt_of_le (h.lt k hk').1 hk.1, (h.lt k hk').2⟩⟩
/-- Send, with all that stays. -/
theorem zk_send (h : NZ W w g room X l) (hr : 1 ≤ room ∧ room ≤ 1024) (hx : RdL w x v7 v8) (hb7 : x.f7.length ≤ 8796093022000) (hb8 : x.f8.length ≤ 8796093022000) : Calls Try.prog 10 #[.pointer (some ⟨g, 0, none⟩), agL x v7 v8] w fun e w' => e = .returned (.int .i64 (sendE room l x)) ∧ NZ W w' g room X (sendL room l x) ∧ Kep X w w' ∧ Kt w w' := by
 obtain ⟨v, hv⟩ := h.ex
 refine (send_calls W w g room _ v l hv hr x v7 v8 hx hb7 hb8).mono ?_
 rintro e w' ⟨rfl, v', hn, hs⟩
 refine ⟨rfl, ⟨⟨v', hn.mono (fun k hk hx => ?_)⟩, fun k hk => ⟨by have := (h.lt k hk).1; have := hs.size; omega, (h.lt k hk).2⟩⟩, hs.kep hv h.lt, hs.kt hv⟩
 rcases hk with hk | hk
 ·exact hk hx
 ·have := (h.lt k hx).1; omega
theorem zk_take (h : NZ W w g room X l) (hl : l.length ≤ 1024) (h0 : 0 < l.length) (p : Int) : Calls Try.prog 12 #[.pointer (some ⟨g, 0, none⟩), .int .i64 p] w fun e w' => ∃ u7 u8, e = .returned (.tuple #[agL (l.getD (p % (l.length : Int)).toNat z32) u7 u8, .int .i64 0]) ∧ NZ W w' g room X (l.eraseIdx (p % (l.length : Int)).toNat) ∧ RwL w' W.heap.size (l.getD (p % (l.length : Int)).toNat z32) u7 u8 ∧ Kep X w w' ∧ Kt w w' := by
 obtain ⟨v, hv⟩ := h.ex
 refine (take_some W w g room _ v l hv hl h0 p).mono ?_
 intro e w' ho
 obtain ⟨oki, u7, u8, v', he, hn, h7, h8, hk, hs⟩ := ho.ex
 exact ⟨u7, u8, he, ⟨⟨v', hn.mono (fun k hk => hk.1)⟩, fun k hk => ⟨by have := (h.lt k hk).1; have := hs.size; omega, (h.lt k hk).2⟩⟩, ⟨Kd.R_mono h7 (fun _ _ => trivial), Kd.R_mono h8 (fun _ _ => trivial)⟩, hs.kep hv h.lt, hs.kt hv⟩
theorem z_newX (W w : World) (hB : Below W.heap.size W w) (X : Nat → Prop) (hX : ∀ k, X k → k < w.heap.size) (room : Int) (h0 : 1 ≤ room) (h1 : room ≤ 1024) : Calls Try.prog 8 #[.int .i64 room] w fun e w' => ∃ g, e = .returned (.tuple #[.pointer (some ⟨g, 0, none⟩), .int .i64 0]) ∧ NZ W w' g room X [] ∧ Below w.heap.size w w' :=
 (new_calls W w hB (fun k => ¬ X k) room h0 h1).mono (by rintro e w' ⟨g, rfl, hn, hg, hb⟩; exact ⟨g, rfl, ⟨⟨_, hn⟩, fun k hk => ⟨by have := hX k hk; have := hb.size; omega, by have := hX k hk; omega⟩⟩, hb⟩)
theorem kt9 {cs : Array Value} (hz : w6.heap[gz]? = some (.cells cs 32 (0, 0))) : Kt w6 (((((((((w6.setCell ⟨gz, 0, none⟩ c0).setCell ⟨gz, 1, none⟩ c1).setCell ⟨gz, 2, none⟩ c2).setCell ⟨gz, 3, none⟩ c3).setCell ⟨gz, 4, none⟩ c4).setCell ⟨gz, 5, none⟩ c5).setCell ⟨gz, 6, none⟩ c6).setCell ⟨gz, 7, none⟩ c7).setCell ⟨gz, 8, none⟩ c8) :=
 fun k t cs hg h1 h2 => (keep9.2 k (blk_lt hg) (blk_ne hg hz h2) (by simp)).trans hg
theorem inj_fin {cs : Array Value} {b : Nat} (h : NZ W w g room X l) (hb : Below w.heap.size w w5) (h6 : NZ W w6 g room (fun k => X k ∨ (w.heap.size ≤ k ∧ k < w5.heap.size)) l') (hk : Kep (fun k => X k ∨ (w.heap.size ≤ k ∧ k < w5.heap.size)) w5 w6) (ht : Kt w5 w6) (hgz : w.heap.size ≤ gz) (hgz5 : gz < w5.heap.size) (hx : RwL w5 b x u7 u8) (hz : w6.heap[gz]? = some (.cells cs 32 (0, 0))) :
  NZ W (((((((((w6.setCell ⟨gz, 0, none⟩ c0).setCell ⟨gz, 1, none⟩ c1).setCell ⟨gz, 2, none⟩ c2).setCell ⟨gz, 3, none⟩ c3).setCell ⟨gz, 4, none⟩ c4).setCell ⟨gz, 5, none⟩ c5).setCell ⟨gz, 6, none⟩ c6).setCell ⟨gz, 7, none⟩ c7).setCell ⟨gz, 8, none⟩ c8) g room X l' ∧ RwL (((((((((w6.setCell ⟨gz, 0, none⟩ c0).setCell ⟨gz, 1, none⟩ c1).setCell ⟨gz, 2, none⟩ c2).setCell ⟨gz, 3, none⟩ c3).setCell ⟨gz, 4, none⟩ c4).setCell ⟨gz, 5, none⟩ c5).setCell ⟨gz, 6, none⟩ c6).setCell ⟨gz, 7, none⟩ c7).setCell ⟨gz, 8, none⟩ c8) b x u7 u8 ∧ Kep X w (((((((((w6.setCell ⟨gz, 0, none⟩ c0).setCell ⟨gz, 1, none⟩ c1).setCell ⟨gz, 2, none⟩ c2).setCell ⟨gz, 3, none⟩ c3).setCell ⟨gz, 4, none⟩ c4).setCell ⟨gz, 5, none⟩ c5).setCell ⟨gz, 6, none⟩ c6).setCell ⟨gz, 7, none⟩ c7).setCell ⟨gz, 8, none⟩ c8) ∧ Kt w (((((((((w6.setCell ⟨gz, 0, none⟩ c0).setCell ⟨gz, 1, none⟩ c1).setCell ⟨gz, 2, none⟩ c2).setCell ⟨gz, 3, none⟩ c3).setCell ⟨gz, 4, none⟩ c4).setCell ⟨gz, 5, none⟩ c5).setCell ⟨gz, 6, none⟩ c6).setCell ⟨gz, 7, none⟩ c7).setCell ⟨gz, 8, none⟩ c8) := by
 have hk9 := keep9 (W := w6) (g := gz) (c0 := c0) (c1 := c1) (c2 := c2) (c3 := c3) (c4 := c4) (c5 := c5) (c6 := c6) (c7 := c7) (c8 := c8)
 have h9 := kt9 (c0 := c0) (c1 := c1) (c2 := c2) (c3 := c3) (c4 := c4) (c5 := c5) (c6 := c6) (c7 := c7) (c8 := c8) hz
 have hW := h.bel.size
 have h56 : ∀ k, X k → k < w6.heap.size := fun k hx => (h6.lt k (.inl hx)).1
 refine ⟨(h6.keep (.inr ⟨hgz, hgz5⟩) hk9 (below_set (below_set (below_set (below_set (below_set (below_set (below_set (below_set (below_set h6.bel (by omega)) (by omega)) (by omega)) (by omega)) (by omega)) (by omega)) (by omega)) (by omega)) (by omega))).weak (fun k hk => .inl hk), (hx.kt ht).kt h9, fun k hx => ?_, fun k t cs hg h1 h2 => h9 k t cs (ht k t cs (blk_below hg hb) h1 h2) h1 h2⟩
 have hlt := (h.lt k hx).1
 exact (hk9.2 k (h56 k hx) (by omega) (by simp)).trans ((hk k (.inl hx)).trans (hb.block k hlt))
end
set_option maxHeartbeats 8000000 in
set_option maxRecDepth 100000 in
theorem inj_walk {W w : World} {g : Nat} {room : Int} {X : Nat → Prop} {l : List S32} (h : NZ W w g room X l) (hr : 1 ≤ room ∧ room ≤ 1024) (s : ByteArray) (hs : s.size ≤ 140737488355328) : Calls Try.prog 19 #[.pointer (some ⟨g, 0, none⟩), .string s] w fun e w' => ∃ u7 u8, e = .returned (.tuple #[agL (injX room l s) u7 u8, .int .i64 (injE room l s)]) ∧ NZ W w' g room X (injL room l s) ∧ RwL w' w.heap.size (injX room l s) u7 u8 ∧ Kep X w w' ∧ Kt w w' := by
 have hu32 := Try.underlying32
 obtain ⟨x, hx⟩ : ∃ x, x = ldX s := ⟨_, rfl⟩
 obtain ⟨er, he⟩ : ∃ er, er = ldE s := ⟨_, rfl⟩
 obtain ⟨n7, hn7⟩ : ∃ n, n = x.f7.length := ⟨_, rfl⟩
 obtain ⟨n8, hn8⟩ : ∃ n, n = x.f8.length := ⟨_, rfl⟩
 have HX := Aside0.mk hx
 have HE := Aside0.mk he
 have HN7 := Aside0.mk hn7
 have HN8 := Aside0.mk hn8
 have HH := Aside0.mk h
 have HS := Aside0.mk hs
 have HRM := Aside0.mk hr
 clear hx he hn7 hn8 h hs hr
 go_enter Try.func19, Try.ntmps19
 go_upto_region 2 with (first | ((with_reducible refine gate_dst (N := 4) rfl ?_); refine box_event ?hg4 (N := 4) ?hd4 (cs := #[.int .i64 0, .int .i64 0, .int .i64 0, .int .i64 0, .int .i64 0, .int .i64 0, .string (⟨#[]⟩ : ByteArray), .slice none 0 0, .slice none 0 0]) (t := 32) ?hr4 ?_; (case hd4 => rfl); (case hg4 => rfl); (case hr4 => first | (go_simp; done) | (go_simp; rfl)); intro gz hg w1 hbox hb; have HZ := Aside0.mk hbox; have HB1 := Aside0.mk hb; have GZ := Aside0.mk (show w.heap.size ≤ gz from Nat.le_of_eq hg.symm); clear hg hbox hb) | (go_at_call 20; refine (dec_calls s HS.out HX.out HE.out HN7.out HN8.out _).mono ?_; rintro e w2 ⟨A7, c7, A8, c8, rfl, r7, r8, hb⟩; have HR7 := Aside0.mk (RwL.lower ⟨r7, r8⟩ HB1.out.size); have HZ2 := Aside0.mk (blk_below HZ.out hb); have HB2 := Aside0.mk (below_step (w := w) HB1.out hb); clear r7 r8 hb) | ((with_reducible refine gate_dst (N := 6) rfl ?_); refine box_event ?hg6 (N := 6) ?hd6 (cs := #[.int .i64 0, .int .i64 0, .int .i64 0, .int .i64 0, .int .i64 0, .int .i64 0, .string (⟨#[]⟩ : ByteArray), .slice none 0 0, .slice none 0 0]) (t := 32) ?hr6 ?_; (case hd6 => rfl); (case hg6 => rfl); (case hr6 => first | (go_simp; done) | (go_simp; rfl)); intro gb hg w3 hbox hb; have BX6 := Aside0.mk hbox; have HBx6 := Aside0.mk hb; have GE6 := Aside0.mk (show w2.heap.size ≤ gb from Nat.le_of_eq hg.symm); have GL6 := Aside0.mk (blk_lt hbox); obtain ⟨hz0, hzf0, hz1, hzf1, hz2, hzf2, hz3, hzf3, hz4, hzf4, hz5, hzf5, hz6, hzf6, hz7, hzf7, hz8, hzf8⟩ := c9f hbox; clear hg hbox hb))
 have BY6 : Aside0 ((((((((((w3.setCell ⟨gb, 0, none⟩ (.int .i64 x.f0)).setCell ⟨gb, 1, none⟩ (.int .i64 x.f1)).setCell ⟨gb, 2, none⟩ (.int .i64 x.f2)).setCell ⟨gb, 3, none⟩ (.int .i64 x.f3)).setCell ⟨gb, 4, none⟩ (.int .i64 x.f4)).setCell ⟨gb, 5, none⟩ (.int .i64 x.f5)).setCell ⟨gb, 6, none⟩ (.string x.f6)).setCell ⟨gb, 7, none⟩ (.slice A7 n7 c7)).setCell ⟨gb, 8, none⟩ (.slice A8 n8 c8)).heap[gb]? = some (.cells #[.int .i64 x.f0, .int .i64 x.f1, .int .i64 x.f2, .int .i64 x.f3, .int .i64 x.f4, .int .i64 x.f5, .string x.f6, .slice A7 n7 c7, .slice A8 n8 c8] 32 (0, 0))) := ⟨set9 BX6.out⟩
 have HBy6 : Aside0 (Below w2.heap.size w2 (((((((((w3.setCell ⟨gb, 0, none⟩ (.int .i64 x.f0)).setCell ⟨gb, 1, none⟩ (.int .i64 x.f1)).setCell ⟨gb, 2, none⟩ (.int .i64 x.f2)).setCell ⟨gb, 3, none⟩ (.int .i64 x.f3)).setCell ⟨gb, 4, none⟩ (.int .i64 x.f4)).setCell ⟨gb, 5, none⟩ (.int .i64 x.f5)).setCell ⟨gb, 6, none⟩ (.string x.f6)).setCell ⟨gb, 7, none⟩ (.slice A7 n7 c7)).setCell ⟨gb, 8, none⟩ (.slice A8 n8 c8))) := ⟨below9 HBx6.out GE6.out⟩
 have HSy6 : Aside0 (gb < (((((((((w3.setCell ⟨gb, 0, none⟩ (.int .i64 x.f0)).setCell ⟨gb, 1, none⟩ (.int .i64 x.f1)).setCell ⟨gb, 2, none⟩ (.int .i64 x.f2)).setCell ⟨gb, 3, none⟩ (.int .i64 x.f3)).setCell ⟨gb, 4, none⟩ (.int .i64 x.f4)).setCell ⟨gb, 5, none⟩ (.int .i64 x.f5)).setCell ⟨gb, 6, none⟩ (.string x.f6)).setCell ⟨gb, 7, none⟩ (.slice A7 n7 c7)).setCell ⟨gb, 8, none⟩ (.slice A8 n8 c8)).heap.size) := ⟨blk_lt BY6.out⟩
 generalize (((((((((w3.setCell ⟨gb, 0, none⟩ (.int .i64 x.f0)).setCell ⟨gb, 1, none⟩ (.int .i64 x.f1)).setCell ⟨gb, 2, none⟩ (.int .i64 x.f2)).setCell ⟨gb, 3, none⟩ (.int .i64 x.f3)).setCell ⟨gb, 4, none⟩ (.int .i64 x.f4)).setCell ⟨gb, 5, none⟩ (.int .i64 x.f5)).setCell ⟨gb, 6, none⟩ (.string x.f6)).setCell ⟨gb, 7, none⟩ (.slice A7 n7 c7)).setCell ⟨gb, 8, none⟩ (.slice A8 n8 c8) : World) = W4 at BY6 HBy6 HSy6 ⊢
 clear hz0 hzf0 hz1 hzf1 hz2 hzf2 hz3 hzf3 hz4 hzf4 hz5 hzf5 hz6 hzf6 hz7 hzf7 hz8 hzf8
 have HB4 := Aside0.mk (below_step (w := w) HB2.out HBy6.out)
 have HZ4 := Aside0.mk (blk_below HZ2.out HBy6.out)
 have HR74 := Aside0.mk (HR7.out.below HBy6.out)
 have HN4 := Aside0.mk (HH.out.all HB4.out)
 have HZL := Aside0.mk (blk_lt HZ4.out)
 obtain ⟨hl0, hl1, hl2, hl3, hl4, hl5, hl6, hl7, hl8⟩ := c9 BY6.out
 by_cases hE : er = 0
 ·subst hE
  have e1 : ((0 : Int) == 0) = true := rfl
  have hch : chkS x = 0 := by rw [HX.out]; exact ld_chk HE.out.symm
  have HCH := Aside0.mk hch
  have HSM := Aside0.mk (chk_small hch)
  obtain ⟨se, hse⟩ : ∃ se, se = sendE room l x := ⟨_, rfl⟩
  have HSE := Aside0.mk hse
  have HIE : Aside0 (injE room l s = se) := ⟨by unfold injE; rw [if_pos HE.out.symm, ← HX.out]; exact hse.symm⟩
  clear hch hse
  go_upto_region 4 with (go_at_call 10; refine (zk_send HN4.out HRM.out HR74.out.rd (by have := HSM.out.1; omega) (by have := HSM.out.2; omega)).mono ?_; rintro e w5 ⟨rfl, hn, hk, ht⟩; rw [← HSE.out]; have HN5 := Aside0.mk hn; have HK5 := Aside0.mk hk; have HT5 := Aside0.mk ht; have BY7 := Aside0.mk ((hk gb (.inr ⟨Nat.le_trans HB2.out.size GE6.out, HSy6.out⟩)).trans BY6.out); have HZ5 := Aside0.mk ((hk gz (.inr ⟨GZ.out, HZL.out⟩)).trans HZ4.out); clear hn hk ht hl0 hl1 hl2 hl3 hl4 hl5 hl6 hl7 hl8)
  obtain ⟨hl0, hl1, hl2, hl3, hl4, hl5, hl6, hl7, hl8⟩ := c9 BY7.out
  obtain ⟨hq0, hqf0, hq1, hqf1, hq2, hqf2, hq3, hqf3, hq4, hqf4, hq5, hqf5, hq6, hqf6, hq7, hqf7, hq8, hqf8⟩ := c9f HZ5.out
  rcases send_chk (room := room) (l := l) HCH.out with ⟨h0, hL⟩ | ⟨h0, hL⟩
  ·rw [← HSE.out] at h0
   subst h0
   have HIX : Aside0 (injX room l s = x ∧ injL room l s = sendL room l x) := ⟨by unfold injX injL; rw [if_pos HIE.out, if_pos HIE.out, ← HX.out]; exact ⟨rfl, hL.symm⟩⟩
   clear hL
   go_wp2
   refine bodyPost_ret (results_ct rfl _ _ gz 32 #[.int .i64 x.f0, .int .i64 x.f1, .int .i64 x.f2, .int .i64 x.f3, .int .i64 x.f4, .int .i64 x.f5, .string x.f6, .slice A7 n7 c7, .slice A8 n8 c8] (0, 0) _ rfl (set9 HZ5.out) Try.underlying32 rfl (by kernel_rfl)) rfl ?_
   rw [HIE.out, HIX.out.1, HIX.out.2]
   exact ⟨.slice A7 n7 c7, .slice A8 n8 c8, rfl, inj_fin HH.out HB4.out HN5.out HK5.out HT5.out GZ.out HZL.out HR74.out HZ5.out⟩
  ·rw [← HSE.out] at h0
   subst h0
   have HIX : Aside0 (injX room l s = z32 ∧ injL room l s = sendL room l x) := ⟨by unfold injX injL; rw [HIE.out, if_neg (by decide), if_neg (by decide)]; exact ⟨rfl, hL.symm⟩⟩
   clear hL
   go_wp2
   refine bodyPost_ret (results_ct rfl _ _ gz 32 #[.int .i64 0, .int .i64 0, .int .i64 0, .int .i64 0, .int .i64 0, .int .i64 0, .string (⟨#[]⟩ : ByteArray), .slice none 0 0, .slice none 0 0] (0, 0) _ rfl (set9 HZ5.out) Try.underlying32 rfl (by kernel_rfl)) rfl ?_
   rw [HIE.out, HIX.out.1, HIX.out.2]
   exact ⟨.slice none 0 0, .slice none 0 0, rfl, inj_fin HH.out HB4.out HN5.out HK5.out HT5.out GZ.out HZL.out (RwL.nil _ _) HZ5.out⟩
 ·have e1 : (er == 0) = false := beq_eq_false_iff_ne.2 hE
  have e2 : (er != 0) = true := bne_iff_ne.2 hE
  have HIX : Aside0 (injE room l s = er ∧ injX room l s = z32 ∧ injL room l s = l) := ⟨by
   have hi : injE room l s = er := by unfold injE; rw [← HE.out, if_neg hE]
   unfold injX injL
   rw [hi, if_neg hE, if_neg hE]
   exact ⟨rfl, rfl, rfl⟩⟩
  obtain ⟨hq0, hqf0, hq1, hqf1, hq2, hqf2, hq3, hqf3, hq4, hqf4, hq5, hqf5, hq6, hqf6, hq7, hqf7, hq8, hqf8⟩ := c9f HZ4.out
  go_wp2
  refine bodyPost_ret (results_ct rfl _ _ gz 32 #[.int .i64 0, .int .i64 0, .int .i64 0, .int .i64 0, .int .i64 0, .int .i64 0, .string (⟨#[]⟩ : ByteArray), .slice none 0 0, .slice none 0 0] (0, 0) _ rfl (set9 HZ4.out) Try.underlying32 rfl (by kernel_rfl)) rfl ?_
  rw [HIX.out.1, HIX.out.2.1, HIX.out.2.2]
  exact ⟨.slice none 0 0, .slice none 0 0, rfl, inj_fin HH.out HB4.out HN4.out (fun _ _ => rfl) (fun _ _ _ h _ _ => h) GZ.out HZL.out (RwL.nil _ _) HZ4.out⟩
end Go.Proofs.Ytnbomedhehoflaa.Al

namespace Go.Proofs.Ytnbomedhehoflaa.Al
open Go.RowKit Go.Proofs.YtnbomedhehoflaaW.PrintWords Go.Proofs.YtnbomedhehoflaaW.PrintLast Go.Proofs.YtnbomedhehoflaaW.PrintMore
attribute [local go_sem] max2_int min2_int max_two min_two max_three min_three max_four min_four   -- for this text's walks alone
set_option linter.unusedVariables false
set_option linter.unusedSimpArgs false
attribute [local go_sem high] eqA72
def corncribbook_SameTexts.l0 : Nat → List ByteArray → List ByteArray → Int → Option (Bool)
 |0, _, _, _ => none
 |k + 1, x0, x1, x5 => if x5 < (x0.length : Int) then (if 0 ≤ x5 then (if x5 < (x1.length : Int) then (if (rdOf ByteArray.empty x0 x5).toList = (rdOf ByteArray.empty x1 x5).toList then (corncribbook_SameTexts.l0 k x0 x1 (wrap64 (x5 + 1))) else (some false)) else (none)) else (none)) else (some true)
def corncribbook_SameTexts.f (k : Nat) (l0 : List ByteArray) (l1 : List ByteArray) : Option (Bool) := if (l0.length : Int) = (l1.length : Int) then (corncribbook_SameTexts.l0 k l0 l1 0) else (some false)
set_option maxHeartbeats 8000000 in
set_option maxRecDepth 100000 in
theorem corncribbook_SameTexts.calls (k : Nat) (A0 : Option Addr) (c0 : Nat) (l0 : List ByteArray) (A1 : Option Addr) (c1 : Nat) (l1 : List ByteArray) (r : Bool) (w : World) (hr0 : Kd.C Kd.string w A0 l0.length l0) (hc0 : l0.length ≤ c0) (hr1 : Kd.C Kd.string w A1 l1.length l1) (hc1 : l1.length ≤ c1) (h : corncribbook_SameTexts.f k l0 l1 = some r) :
  Calls Try.prog 27 #[.slice A0 l0.length c0, .slice A1 l1.length c1] w fun e w' => e = .returned (.bool r) ∧ Drawn0 w w' := by
 have HR0 := Aside0.mk hr0
 have HC0 := Aside0.mk hc0
 clear hr0 hc0
 have HR1 := Aside0.mk hr1
 have HC1 := Aside0.mk hc1
 clear hr1 hc1
 have H : (if (l0.length : Int) = (l1.length : Int) then (corncribbook_SameTexts.l0 k l0 l1 0) else (some false)) = some r := h
 clear h
 by_cases c3 : (l0.length : Int) = (l1.length : Int)
 ·rw [if_pos c3] at H
  have c3b0 : ((l0.length : Int) == (l1.length : Int)) = true := beq_iff_eq.mpr c3
  have c3b1 : ((l0.length : Int) != (l1.length : Int)) = false := bne_eq_false_iff_eq.mpr c3
  have c3b2 : (l0.length == l1.length) = true := by first | simpa using c3 | (simp at c3 ⊢; omega)
  clear c3
  have H' := Aside0.mk H
  clear H
  go_enter Try.func27, Try.ntmps27
  go_wp2
  repeat (go_quiet (fail); try go_wp2)
  go_loopg [5] k (fun kq v5 w' => ∃ (x5_1 : Int), v5 = .int .i64 x5_1 ∧ Aside0 (corncribbook_SameTexts.l0 kq l0 l1 x5_1 = some r) ∧ Aside0 (kq ≤ k) ∧ Drawn0 w w')
  case atStart => exact ⟨(0), (by first | rfl | (simp; done) | (simp [*]; done) | (simp [bne_nil_]; done)), H', ⟨Nat.le_refl _⟩, by repeat (first | exact Drawn0.refl _ | apply Drawn0.step)⟩
  case round =>
   clear H'
   (try clear c1); (try clear c2); (try clear p2); (try clear c3); (try clear c3b0); (try clear c3b1); (try clear c3b2)
   obtain ⟨x5_1, rfl, HA, HK1, ⟨m1, rfl⟩⟩ := hrel
   cases gk with
   |zero => exact absurd HA.out (by simp [corncribbook_SameTexts.l0])
   |succ k1 =>
    have H := HA.out
    clear HA
    simp only [corncribbook_SameTexts.l0] at H
    by_cases c4 : x5_1 < (l0.length : Int)
    ·rw [if_pos c4] at H
     have c4b0 : decide (x5_1 < (l0.length : Int)) = true := decide_eq_true c4
     clear c4
     by_cases c5 : 0 ≤ x5_1
     ·rw [if_pos c5] at H
      have c5b0 : decide (0 ≤ x5_1) = true := decide_eq_true c5
      clear c5
      by_cases c6 : x5_1 < (l1.length : Int)
      ·rw [if_pos c6] at H
       have c6b0 : decide (x5_1 < (l1.length : Int)) = true := decide_eq_true c6
       clear c6
       by_cases c7 : (rdOf ByteArray.empty l0 x5_1).toList = (rdOf ByteArray.empty l1 x5_1).toList
       ·rw [if_pos c7] at H
        have c7b0 : ((rdOf ByteArray.empty l0 x5_1).toList == (rdOf ByteArray.empty l1 x5_1).toList) = true := beq_iff_eq.mpr c7
        have c7b1 : ((rdOf ByteArray.empty l0 x5_1).toList != (rdOf ByteArray.empty l1 x5_1).toList) = false := bne_eq_false_iff_eq.mpr c7
        clear c7
        have H' := Aside0.mk H
        clear H
        have p133 : 0 ≤ (x5_1 : Int) := of_decide_eq_true (by first | (with_reducible assumption) | assumption)
        have q133 : x5_1 < (l0.length : Int) := of_decide_eq_true (by first | (with_reducible assumption) | assumption)
        obtain ⟨ad133, e133, hx133_0⟩ := Kd.at_string HR0.out x5_1 p133 q133
        cases e133
        replace p133 := eq_true p133
        replace q133 := eq_true q133
        have p134 : 0 ≤ (x5_1 : Int) := of_decide_eq_true (by first | (with_reducible assumption) | assumption)
        have q134 : x5_1 < (l1.length : Int) := of_decide_eq_true (by first | (with_reducible assumption) | assumption)
        obtain ⟨ad134, e134, hx134_0⟩ := Kd.at_string HR1.out x5_1 p134 q134
        cases e134
        replace p134 := eq_true p134
        replace q134 := eq_true q134
        go_wp2
        repeat (go_quiet (fail); try go_wp2)
        go_roundg k1
        case measure => have := HK1.out; omega
        case rel => exact ⟨(wrap64 (x5_1 + 1)), (by first | rfl | (simp; done) | (simp [*]; done) | (simp [bne_nil_]; done)), H', ⟨by have := HK1.out; omega⟩, by repeat (first | exact Drawn0.refl _ | apply Drawn0.step)⟩
       ·rw [if_neg c7] at H
        have c7b0 : ((rdOf ByteArray.empty l0 x5_1).toList == (rdOf ByteArray.empty l1 x5_1).toList) = false := beq_eq_false_iff_ne.mpr c7
        have c7b1 : ((rdOf ByteArray.empty l0 x5_1).toList != (rdOf ByteArray.empty l1 x5_1).toList) = true := bne_iff_ne.mpr c7
        obtain rfl := Option.some.inj H
        have p133 : 0 ≤ (x5_1 : Int) := of_decide_eq_true (by first | (with_reducible assumption) | assumption)
        have q133 : x5_1 < (l0.length : Int) := of_decide_eq_true (by first | (with_reducible assumption) | assumption)
        obtain ⟨ad133, e133, hx133_0⟩ := Kd.at_string HR0.out x5_1 p133 q133
        cases e133
        replace p133 := eq_true p133
        replace q133 := eq_true q133
        have p134 : 0 ≤ (x5_1 : Int) := of_decide_eq_true (by first | (with_reducible assumption) | assumption)
        have q134 : x5_1 < (l1.length : Int) := of_decide_eq_true (by first | (with_reducible assumption) | assumption)
        obtain ⟨ad134, e134, hx134_0⟩ := Kd.at_string HR1.out x5_1 p134 q134
        cases e134
        replace p134 := eq_true p134
        replace q134 := eq_true q134
        go_wp2
        repeat (go_quiet (fail); try go_wp2)
        go_ret
        exact ⟨by first | rfl | (simp; done) | (simp [*]; done) | (simp [bne_nil_]; done), by repeat (first | exact Drawn0.refl _ | apply Drawn0.step)⟩
      ·rw [if_neg c6] at H
       exact absurd H (by simp)
     ·rw [if_neg c5] at H
      exact absurd H (by simp)
    ·rw [if_neg c4] at H
     have c4b0 : decide (x5_1 < (l0.length : Int)) = false := decide_eq_false c4
     clear c4
     obtain rfl := Option.some.inj H
     go_wp2
     repeat (go_quiet (fail); try go_wp2)
     go_ret
     exact ⟨by first | rfl | (simp; done) | (simp [*]; done) | (simp [bne_nil_]; done), by repeat (first | exact Drawn0.refl _ | apply Drawn0.step)⟩
 ·rw [if_neg c3] at H
  have c3b0 : ((l0.length : Int) == (l1.length : Int)) = false := beq_eq_false_iff_ne.mpr c3
  have c3b1 : ((l0.length : Int) != (l1.length : Int)) = true := bne_iff_ne.mpr c3
  have c3b2 : (l0.length == l1.length) = false := by first | simpa using c3 | (simp at c3 ⊢; omega)
  obtain rfl := Option.some.inj H
  go_enter Try.func27, Try.ntmps27
  go_wp2
  repeat (go_quiet (fail); try go_wp2)
  go_ret
  exact ⟨by first | rfl | (simp; done) | (simp [*]; done) | (simp [bne_nil_]; done), by repeat (first | exact Drawn0.refl _ | apply Drawn0.step)⟩
end Go.Proofs.Ytnbomedhehoflaa.Al

namespace Go.Proofs.Ytnbomedhehoflaa.LetSpec
open Go.RowKit Go.Proofs.Ytnbomedhehoflaa.Base Go.Proofs.Ytnbomedhehoflaa.Al Go.Proofs.YtnbomedhehoflaaW.PrintWords
theorem sameT_l0 (l : List ByteArray) (hl : l.length ≤ 4611686018427387904) : ∀ (d i : Nat), i + d = l.length → Ev (fun k => corncribbook_SameTexts.l0 k l l (i : Int)) true
 |0, i, h => Ev.step (f := fun _ => some true) (fun k => by simp only [corncribbook_SameTexts.l0]; rw [if_neg (by omega)]) (Ev.now _)
 |d + 1, i, h => by
  have ih := sameT_l0 l hl d (i + 1) (by omega)
  have e : wrap64 ((i : Int) + 1) = ((i + 1 : Nat) : Int) := by rw [wrap_id (by omega) (by omega)]; omega
  refine Ev.step (fun k => ?_) ih
  simp only [corncribbook_SameTexts.l0]
  rw [if_pos (by omega), if_pos (by omega), if_pos (by omega), if_pos trivial, e]
theorem sameT_ev (l : List ByteArray) (hl : l.length ≤ 4611686018427387904) : Ev (fun k => corncribbook_SameTexts.f k l l) true := by
 unfold corncribbook_SameTexts.f
 exact Ev.pos rfl (sameT_l0 l hl l.length 0 (by omega))
end Go.Proofs.Ytnbomedhehoflaa.LetSpec

namespace Go.Proofs.Ytnbomedhehoflaa.Al
open Go.RowKit Go.Proofs.YtnbomedhehoflaaW.PrintWords Go.Proofs.YtnbomedhehoflaaW.PrintLast Go.Proofs.YtnbomedhehoflaaW.PrintMore
attribute [local go_sem] max2_int min2_int max_two min_two max_three min_three max_four min_four   -- for this text's walks alone
set_option linter.unusedVariables false
set_option linter.unusedSimpArgs false
attribute [local go_sem high] eqA72
def corncribbook_SameWrites.l0 : Nat → List (S72) → List (S72) → Int → Option (Bool)
 |0, _, _, _ => none
 |k + 1, x0, x1, x5 => if x5 < (x0.length : Int) then (if 0 ≤ x5 then (if x5 < (x1.length : Int) then (if (!((((rd_T72 x0 x5).f0).toList) == (((rd_T72 x1 x5).f0).toList)) || (!((((rd_T72 x0 x5).f1).toList) == (((rd_T72 x1 x5).f1).toList)) || (!(((rd_T72 x0 x5).f2) == ((rd_T72 x1 x5).f2))))) = true then (some false) else (corncribbook_SameWrites.l0 k x0 x1 (wrap64 (x5 + 1)))) else (none)) else (none)) else (some true)
def corncribbook_SameWrites.f (k : Nat) (l0 : List (S72)) (l1 : List (S72)) : Option (Bool) := if (l0.length : Int) = (l1.length : Int) then (corncribbook_SameWrites.l0 k l0 l1 0) else (some false)
set_option maxHeartbeats 8000000 in
set_option maxRecDepth 100000 in
theorem corncribbook_SameWrites.calls (k : Nat) (A0 : Option Addr) (c0 : Nat) (l0 : List (S72)) (A1 : Option Addr) (c1 : Nat) (l1 : List (S72)) (r : Bool) (w : World) (hr0 : Kd.C k72 w A0 l0.length l0) (hc0 : l0.length ≤ c0) (hr1 : Kd.C k72 w A1 l1.length l1) (hc1 : l1.length ≤ c1) (h : corncribbook_SameWrites.f k l0 l1 = some r) :
  Calls Try.prog 28 #[.slice A0 l0.length c0, .slice A1 l1.length c1] w fun e w' => e = .returned (.bool r) ∧ Drawn0 w w' := by
 have hu72 := Try.underlying72
 have HR0 := Aside0.mk hr0
 have HC0 := Aside0.mk hc0
 clear hr0 hc0
 have HR1 := Aside0.mk hr1
 have HC1 := Aside0.mk hc1
 clear hr1 hc1
 have H : (if (l0.length : Int) = (l1.length : Int) then (corncribbook_SameWrites.l0 k l0 l1 0) else (some false)) = some r := h
 clear h
 by_cases c3 : (l0.length : Int) = (l1.length : Int)
 ·rw [if_pos c3] at H
  have c3b0 : ((l0.length : Int) == (l1.length : Int)) = true := beq_iff_eq.mpr c3
  have c3b1 : ((l0.length : Int) != (l1.length : Int)) = false := bne_eq_false_iff_eq.mpr c3
  have c3b2 : (l0.length == l1.length) = true := by first | simpa using c3 | (simp at c3 ⊢; omega)
  clear c3
  have H' := Aside0.mk H
  clear H
  go_enter Try.func28, Try.ntmps28
  go_wp2
  repeat (go_quiet (fail); try go_wp2)
  go_loopg [5] k (fun kq v5 w' => ∃ (x5_1 : Int), v5 = .int .i64 x5_1 ∧ Aside0 (corncribbook_SameWrites.l0 kq l0 l1 x5_1 = some r) ∧ Aside0 (kq ≤ k) ∧ Drawn0 w w')
  case atStart => exact ⟨(0), (by first | rfl | (simp; done) | (simp [*]; done) | (simp [bne_nil_]; done)), H', ⟨Nat.le_refl _⟩, by repeat (first | exact Drawn0.refl _ | apply Drawn0.step)⟩
  case round =>
   clear H'
   (try clear c1); (try clear c2); (try clear p2); (try clear c3); (try clear c3b0); (try clear c3b1); (try clear c3b2)
   obtain ⟨x5_1, rfl, HA, HK1, ⟨m1, rfl⟩⟩ := hrel
   cases gk with
   |zero => exact absurd HA.out (by simp [corncribbook_SameWrites.l0])
   |succ k1 =>
    have H := HA.out
    clear HA
    simp only [corncribbook_SameWrites.l0] at H
    by_cases c4 : x5_1 < (l0.length : Int)
    ·rw [if_pos c4] at H
     have c4b0 : decide (x5_1 < (l0.length : Int)) = true := decide_eq_true c4
     clear c4
     by_cases c5 : 0 ≤ x5_1
     ·rw [if_pos c5] at H
      have c5b0 : decide (0 ≤ x5_1) = true := decide_eq_true c5
      clear c5
      by_cases c6 : x5_1 < (l1.length : Int)
      ·rw [if_pos c6] at H
       have c6b0 : decide (x5_1 < (l1.length : Int)) = true := decide_eq_true c6
       clear c6
       by_cases c7 : (!((((rd_T72 l0 x5_1).f0).toList) == (((rd_T72 l1 x5_1).f0).toList)) || (!((((rd_T72 l0 x5_1).f1).toList) == (((rd_T72 l1 x5_1).f1).toList)) || (!(((rd_T72 l0 x5_1).f2) == ((rd_T72 l1 x5_1).f2))))) = true
       ·rw [if_pos c7] at H
        have c7b0 : (!((((rd_T72 l0 x5_1).f0).toList) == (((rd_T72 l1 x5_1).f0).toList)) || (!((((rd_T72 l0 x5_1).f1).toList) == (((rd_T72 l1 x5_1).f1).toList)) || (!(((rd_T72 l0 x5_1).f2) == ((rd_T72 l1 x5_1).f2))))) = true := c7
        clear c7
        obtain rfl := Option.some.inj H
        have p135 : 0 ≤ (x5_1 : Int) := of_decide_eq_true (by first | (with_reducible assumption) | assumption)
        have q135 : x5_1 < (l0.length : Int) := of_decide_eq_true (by first | (with_reducible assumption) | assumption)
        obtain ⟨ad135, e135, hx135_0, hx135_1, hx135_2⟩ := at_T72 HR0.out x5_1 p135 q135
        cases e135
        replace p135 := eq_true p135
        replace q135 := eq_true q135
        have p136 : 0 ≤ (x5_1 : Int) := of_decide_eq_true (by first | (with_reducible assumption) | assumption)
        have q136 : x5_1 < (l1.length : Int) := of_decide_eq_true (by first | (with_reducible assumption) | assumption)
        obtain ⟨ad136, e136, hx136_0, hx136_1, hx136_2⟩ := at_T72 HR1.out x5_1 p136 q136
        cases e136
        replace p136 := eq_true p136
        replace q136 := eq_true q136
        go_wp2
        repeat (go_quiet (fail); try go_wp2)
        go_ret
        exact ⟨by first | rfl | (simp; done) | (simp [*]; done) | (simp [bne_nil_]; done), by repeat (first | exact Drawn0.refl _ | apply Drawn0.step)⟩
       ·rw [if_neg c7] at H
        have c7b0 : (!((((rd_T72 l0 x5_1).f0).toList) == (((rd_T72 l1 x5_1).f0).toList)) || (!((((rd_T72 l0 x5_1).f1).toList) == (((rd_T72 l1 x5_1).f1).toList)) || (!(((rd_T72 l0 x5_1).f2) == ((rd_T72 l1 x5_1).f2))))) = false := by simpa using c7
        clear c7
        have H' := Aside0.mk H
        clear H
        have p135 : 0 ≤ (x5_1 : Int) := of_decide_eq_true (by first | (with_reducible assumption) | assumption)
        have q135 : x5_1 < (l0.length : Int) := of_decide_eq_true (by first | (with_reducible assumption) | assumption)
        obtain ⟨ad135, e135, hx135_0, hx135_1, hx135_2⟩ := at_T72 HR0.out x5_1 p135 q135
        cases e135
        replace p135 := eq_true p135
        replace q135 := eq_true q135
        have p136 : 0 ≤ (x5_1 : Int) := of_decide_eq_true (by first | (with_reducible assumption) | assumption)
        have q136 : x5_1 < (l1.length : Int) := of_decide_eq_true (by first | (with_reducible assumption) | assumption)
        obtain ⟨ad136, e136, hx136_0, hx136_1, hx136_2⟩ := at_T72 HR1.out x5_1 p136 q136
        cases e136
        replace p136 := eq_true p136
        replace q136 := eq_true q136
        go_wp2
        repeat (go_quiet (fail); try go_wp2)
        go_roundg k1
        case measure => have := HK1.out; omega
        case rel => exact ⟨(wrap64 (x5_1 + 1)), (by first | rfl | (simp; done) | (simp [*]; done) | (simp [bne_nil_]; done)), H', ⟨by have := HK1.out; omega⟩, by repeat (first | exact Drawn0.refl _ | apply Drawn0.step)⟩
      ·rw [if_neg c6] at H
       exact absurd H (by simp)
     ·rw [if_neg c5] at H
      exact absurd H (by simp)
    ·rw [if_neg c4] at H
     have c4b0 : decide (x5_1 < (l0.length : Int)) = false := decide_eq_false c4
     clear c4
     obtain rfl := Option.some.inj H
     go_wp2
     repeat (go_quiet (fail); try go_wp2)
     go_ret
     exact ⟨by first | rfl | (simp; done) | (simp [*]; done) | (simp [bne_nil_]; done), by repeat (first | exact Drawn0.refl _ | apply Drawn0.step)⟩
 ·rw [if_neg c3] at H
  have c3b0 : ((l0.length : Int) == (l1.length : Int)) = false := beq_eq_false_iff_ne.mpr c3
  have c3b1 : ((l0.length : Int) != (l1.length : Int)) = true := bne_iff_ne.mpr c3
  have c3b2 : (l0.length == l1.length) = false := by first | simpa using c3 | (simp at c3 ⊢; omega)
  obtain rfl := Option.some.inj H
  go_enter Try.func28, Try.ntmps28
  go_wp2
  repeat (go_quiet (fail); try go_wp2)
  go_ret
  exact ⟨by first | rfl | (simp; done) | (simp [*]; done) | (simp [bne_nil_]; done), by repeat (first | exact Drawn0.refl _ | apply Drawn0.step)⟩
end Go.Proofs.Ytnbomedhehoflaa.Al

namespace Go.Proofs.Ytnbomedhehoflaa.Al
open Go.RowKit Go.Proofs.YtnbomedhehoflaaW.PrintWords Go.Proofs.YtnbomedhehoflaaW.PrintLast Go.Proofs.YtnbomedhehoflaaW.PrintMore
attribute [local go_sem] max2_int min2_int max_two min_two max_three min_three max_four min_four   -- for this text's walks alone
set_option linter.unusedVariables false
set_option linter.unusedSimpArgs false
attribute [local go_sem high] eqA72
def corncribbook_SameLetter.f (k : Nat) (a0_0 : Int) (a0_1 : Int) (a0_2 : Int) (a0_3 : Int) (a0_4 : Int) (a0_5 : Int) (a0_6 : ByteArray) (l0_7 : List ByteArray) (l0_8 : List (S72)) (a1_0 : Int) (a1_1 : Int) (a1_2 : Int) (a1_3 : Int) (a1_4 : Int) (a1_5 : Int) (a1_6 : ByteArray) (l1_7 : List ByteArray) (l1_8 : List (S72)) : Option (Bool) := if a0_0 = a1_0 then (if a0_1 = a1_1 then (if a0_2 = a1_2 then (if a0_3 = a1_3 then (if a0_4 = a1_4 then (if a0_5 = a1_5 then (if a0_6.toList = a1_6.toList then ((corncribbook_SameTexts.f k l0_7 l1_7).bind fun t139 => (if t139 = true then ((corncribbook_SameWrites.f k l0_8 l1_8).bind fun t140 => (some t140)) else (some false))) else (some false)) else (some false)) else (some false)) else (some false)) else (some false)) else (some false)) else (some false)
set_option maxHeartbeats 8000000 in
set_option maxRecDepth 100000 in
theorem corncribbook_SameLetter.calls (k : Nat) (a0_0 : Int) (a0_1 : Int) (a0_2 : Int) (a0_3 : Int) (a0_4 : Int) (a0_5 : Int) (a0_6 : ByteArray) (A0_7 : Option Addr) (c0_7 : Nat) (l0_7 : List ByteArray) (A0_8 : Option Addr) (c0_8 : Nat) (l0_8 : List (S72)) (a1_0 : Int) (a1_1 : Int) (a1_2 : Int) (a1_3 : Int) (a1_4 : Int) (a1_5 : Int) (a1_6 : ByteArray) (A1_7 : Option Addr) (c1_7 : Nat) (l1_7 : List ByteArray) (A1_8 : Option Addr) (c1_8 : Nat) (l1_8 : List (S72)) (r : Bool) (w : World) (hr0_7 : Kd.C Kd.string w A0_7 l0_7.length l0_7) (hc0_7 : l0_7.length ≤ c0_7) (hr0_8 : Kd.C k72 w A0_8 l0_8.length l0_8) (hc0_8 : l0_8.length ≤ c0_8) (hr1_7 : Kd.C Kd.string w A1_7 l1_7.length l1_7) (hc1_7 : l1_7.length ≤ c1_7) (hr1_8 : Kd.C k72 w A1_8 l1_8.length l1_8) (hc1_8 : l1_8.length ≤ c1_8) (h : corncribbook_SameLetter.f k a0_0 a0_1 a0_2 a0_3 a0_4 a0_5 a0_6 l0_7 l0_8 a1_0 a1_1 a1_2 a1_3 a1_4 a1_5 a1_6 l1_7 l1_8 = some r) :
  Calls Try.prog 15 #[.agg #[.int .i64 a0_0, .int .i64 a0_1, .int .i64 a0_2, .int .i64 a0_3, .int .i64 a0_4, .int .i64 a0_5, .string a0_6, .slice A0_7 l0_7.length c0_7, .slice A0_8 l0_8.length c0_8], .agg #[.int .i64 a1_0, .int .i64 a1_1, .int .i64 a1_2, .int .i64 a1_3, .int .i64 a1_4, .int .i64 a1_5, .string a1_6, .slice A1_7 l1_7.length c1_7, .slice A1_8 l1_8.length c1_8]] w fun e w' => e = .returned (.bool r) ∧ Below w.heap.size w w' := by
 have hu32 := Try.underlying32
 have HR0_7 := Aside0.mk hr0_7
 have HC0_7 := Aside0.mk hc0_7
 clear hr0_7 hc0_7
 have HR0_8 := Aside0.mk hr0_8
 have HC0_8 := Aside0.mk hc0_8
 clear hr0_8 hc0_8
 have HR1_7 := Aside0.mk hr1_7
 have HC1_7 := Aside0.mk hc1_7
 clear hr1_7 hc1_7
 have HR1_8 := Aside0.mk hr1_8
 have HC1_8 := Aside0.mk hc1_8
 clear hr1_8 hc1_8
 have HB := Aside0.mk (Below.refl w.heap.size w)
 have H : (if a0_0 = a1_0 then (if a0_1 = a1_1 then (if a0_2 = a1_2 then (if a0_3 = a1_3 then (if a0_4 = a1_4 then (if a0_5 = a1_5 then (if a0_6.toList = a1_6.toList then ((corncribbook_SameTexts.f k l0_7 l1_7).bind fun t139 => (if t139 = true then ((corncribbook_SameWrites.f k l0_8 l1_8).bind fun t140 => (some t140)) else (some false))) else (some false)) else (some false)) else (some false)) else (some false)) else (some false)) else (some false)) else (some false)) = some r := h
 clear h
 by_cases c3 : a0_0 = a1_0
 ·rw [if_pos c3] at H
  have c3b0 : (a0_0 == a1_0) = true := beq_iff_eq.mpr c3
  have c3b1 : (a0_0 != a1_0) = false := bne_eq_false_iff_eq.mpr c3
  clear c3
  by_cases c4 : a0_1 = a1_1
  ·rw [if_pos c4] at H
   have c4b0 : (a0_1 == a1_1) = true := beq_iff_eq.mpr c4
   have c4b1 : (a0_1 != a1_1) = false := bne_eq_false_iff_eq.mpr c4
   clear c4
   by_cases c5 : a0_2 = a1_2
   ·rw [if_pos c5] at H
    have c5b0 : (a0_2 == a1_2) = true := beq_iff_eq.mpr c5
    have c5b1 : (a0_2 != a1_2) = false := bne_eq_false_iff_eq.mpr c5
    clear c5
    by_cases c6 : a0_3 = a1_3
    ·rw [if_pos c6] at H
     have c6b0 : (a0_3 == a1_3) = true := beq_iff_eq.mpr c6
     have c6b1 : (a0_3 != a1_3) = false := bne_eq_false_iff_eq.mpr c6
     clear c6
     by_cases c7 : a0_4 = a1_4
     ·rw [if_pos c7] at H
      have c7b0 : (a0_4 == a1_4) = true := beq_iff_eq.mpr c7
      have c7b1 : (a0_4 != a1_4) = false := bne_eq_false_iff_eq.mpr c7
      clear c7
      by_cases c8 : a0_5 = a1_5
      ·rw [if_pos c8] at H
       have c8b0 : (a0_5 == a1_5) = true := beq_iff_eq.mpr c8
       have c8b1 : (a0_5 != a1_5) = false := bne_eq_false_iff_eq.mpr c8
       clear c8
       by_cases c9 : a0_6.toList = a1_6.toList
       ·rw [if_pos c9] at H
        have c9b0 : (a0_6.toList == a1_6.toList) = true := beq_iff_eq.mpr c9
        have c9b1 : (a0_6.toList != a1_6.toList) = false := bne_eq_false_iff_eq.mpr c9
        clear c9
        replace H := Option.bind_eq_some_iff.mp H
        obtain ⟨t139, A100, H⟩ := H
        replace H : (if t139 = true then ((corncribbook_SameWrites.f k l0_8 l1_8).bind fun t140 => (some t140)) else (some false)) = some r := H
        have A10 := Aside0.mk A100
        clear A100
        by_cases c11 : t139 = true
        ·subst c11
         have H1 : ((corncribbook_SameWrites.f k l0_8 l1_8).bind fun t140 => (some t140)) = some r := by rw [if_pos rfl] at H; exact H
         clear H
         have H := H1
         clear H1
         replace H := Option.bind_eq_some_iff.mp H
         obtain ⟨t140, A120, H⟩ := H
         replace H : (some t140) = some r := H
         have A12 := Aside0.mk A120
         clear A120
         obtain rfl := Option.some.inj H
         go_enter Try.func15, Try.ntmps15
         go_wp2_with (first | ((with_reducible refine gate_dst (N := 2) rfl ?_); refine box_event ?hg (N := 2) ?hd (cs := #[.int .i64 a0_0, .int .i64 a0_1, .int .i64 a0_2, .int .i64 a0_3, .int .i64 a0_4, .int .i64 a0_5, .string a0_6, .slice A0_7 l0_7.length c0_7, .slice A0_8 l0_8.length c0_8]) (t := 32) ?hr ?_; (case hd => rfl); (case hg => rfl); (case hr => first | (go_simp; done) | (go_simp; rfl)); intro gb137 hg w13 hbox hb; have n0_ := Aside0.mk (below_step (by repeat (first | (with_reducible first | exact HB.out | apply below_alloc | apply pw_below_drewN | apply below_drew1) | exact HB.out)) hb); have n1_ := Aside0.mk (hbox); have n2_ := Aside0.mk ((by rw [hg]; exact (below_size (by repeat (first | (with_reducible first | exact HB.out | apply below_alloc | apply pw_below_drewN | apply below_drew1) | exact HB.out))) : w.heap.size ≤ gb137)); have n3_ := Aside0.mk ((by rw [hg]; exact (below_size (by repeat (first | (with_reducible first | exact HB.out | apply below_alloc | apply pw_below_drewN | apply below_drew1) | exact HB.out))) : w.heap.size ≤ gb137)); clear HB; have HB := n0_; have BK137 := n1_; have GW137 := n2_; have GE137 := n3_; clear n0_ n1_ n2_ n3_; clear hb hbox hg) | ((with_reducible refine gate_dst (N := 3) rfl ?_); refine box_event ?hg (N := 3) ?hd (cs := #[.int .i64 a1_0, .int .i64 a1_1, .int .i64 a1_2, .int .i64 a1_3, .int .i64 a1_4, .int .i64 a1_5, .string a1_6, .slice A1_7 l1_7.length c1_7, .slice A1_8 l1_8.length c1_8]) (t := 32) ?hr ?_; (case hd => rfl); (case hg => rfl); (case hr => first | (go_simp; done) | (go_simp; rfl)); intro gb138 hg w14 hbox hb; have n0_ := Aside0.mk (blk_below (g := gb137) (o := .cells #[.int .i64 a0_0, .int .i64 a0_1, .int .i64 a0_2, .int .i64 a0_3, .int .i64 a0_4, .int .i64 a0_5, .string a0_6, .slice A0_7 l0_7.length c0_7, .slice A0_8 l0_8.length c0_8] 32 (0, 0)) (by (with_reducible repeat (first | refine blk_drewN ?_ _ | refine blk_drew ?_ | refine blk_alloc ?_ _)); exact BK137.out) hb); have n1_ := Aside0.mk (below_step (by repeat (first | (with_reducible first | exact HB.out | apply below_alloc | apply pw_below_drewN | apply below_drew1 | refine below_set ?_ GE137.out) | exact HB.out)) hb); have n2_ := Aside0.mk (hbox); have n3_ := Aside0.mk ((by rw [hg]; exact (below_size (by repeat (first | (with_reducible first | exact HB.out | apply below_alloc | apply pw_below_drewN | apply below_drew1 | refine below_set ?_ GE137.out) | exact HB.out))) : w.heap.size ≤ gb138)); have n4_ := Aside0.mk ((by rw [hg]; exact (below_size (by repeat (first | (with_reducible first | exact HB.out | apply below_alloc | apply pw_below_drewN | apply below_drew1 | refine below_set ?_ GE137.out) | exact HB.out))) : w.heap.size ≤ gb138)); have n5_ := Aside0.mk ((by rw [hg]; exact Nat.ne_of_lt (blk_lt (g := gb137) (o := .cells #[.int .i64 a0_0, .int .i64 a0_1, .int .i64 a0_2, .int .i64 a0_3, .int .i64 a0_4, .int .i64 a0_5, .string a0_6, .slice A0_7 l0_7.length c0_7, .slice A0_8 l0_8.length c0_8] 32 (0, 0)) (by (with_reducible repeat (first | refine blk_drewN ?_ _ | refine blk_drew ?_ | refine blk_alloc ?_ _)); exact BK137.out)) : gb137 ≠ gb138)); have n6_ := Aside0.mk ((by rw [hg]; exact Nat.ne_of_gt (blk_lt (g := gb137) (o := .cells #[.int .i64 a0_0, .int .i64 a0_1, .int .i64 a0_2, .int .i64 a0_3, .int .i64 a0_4, .int .i64 a0_5, .string a0_6, .slice A0_7 l0_7.length c0_7, .slice A0_8 l0_8.length c0_8] 32 (0, 0)) (by (with_reducible repeat (first | refine blk_drewN ?_ _ | refine blk_drew ?_ | refine blk_alloc ?_ _)); exact BK137.out)) : gb138 ≠ gb137)); clear BK137; clear HB; have BK137 := n0_; have HB := n1_; have BK138 := n2_; have GW138 := n3_; have GE138 := n4_; have NB137_138 := n5_; have NB138_137 := n6_; clear n0_ n1_ n2_ n3_ n4_ n5_ n6_; clear hb hbox hg; have hnb15 := NB137_138.out; have hnc15 := NB138_137.out; have hcz16_0 : w14.cell? ⟨gb137, 0, none⟩ = some (.int .i64 a0_0) := (blk_cell BK137.out 0).trans rfl; have hcz16_1 : w14.cell? ⟨gb137, 1, none⟩ = some (.int .i64 a0_1) := (blk_cell BK137.out 1).trans rfl; have hcz16_2 : w14.cell? ⟨gb137, 2, none⟩ = some (.int .i64 a0_2) := (blk_cell BK137.out 2).trans rfl; have hcz16_3 : w14.cell? ⟨gb137, 3, none⟩ = some (.int .i64 a0_3) := (blk_cell BK137.out 3).trans rfl; have hcz16_4 : w14.cell? ⟨gb137, 4, none⟩ = some (.int .i64 a0_4) := (blk_cell BK137.out 4).trans rfl; have hcz16_5 : w14.cell? ⟨gb137, 5, none⟩ = some (.int .i64 a0_5) := (blk_cell BK137.out 5).trans rfl; have hcz16_6 : w14.cell? ⟨gb137, 6, none⟩ = some (.string a0_6) := (blk_cell BK137.out 6).trans rfl; have hcz16_7 : w14.cell? ⟨gb137, 7, none⟩ = some (.slice A0_7 l0_7.length c0_7) := (blk_cell BK137.out 7).trans rfl; have hcz16_8 : w14.cell? ⟨gb137, 8, none⟩ = some (.slice A0_8 l0_8.length c0_8) := (blk_cell BK137.out 8).trans rfl; have hfz16_0 := blk_frozen BK137.out 0; have hfz16_1 := blk_frozen BK137.out 1; have hfz16_2 := blk_frozen BK137.out 2; have hfz16_3 := blk_frozen BK137.out 3; have hfz16_4 := blk_frozen BK137.out 4; have hfz16_5 := blk_frozen BK137.out 5; have hfz16_6 := blk_frozen BK137.out 6; have hfz16_7 := blk_frozen BK137.out 7; have hfz16_8 := blk_frozen BK137.out 8; have hcz17_0 : w14.cell? ⟨gb138, 0, none⟩ = some (.int .i64 a1_0) := (blk_cell BK138.out 0).trans rfl; have hcz17_1 : w14.cell? ⟨gb138, 1, none⟩ = some (.int .i64 a1_1) := (blk_cell BK138.out 1).trans rfl; have hcz17_2 : w14.cell? ⟨gb138, 2, none⟩ = some (.int .i64 a1_2) := (blk_cell BK138.out 2).trans rfl; have hcz17_3 : w14.cell? ⟨gb138, 3, none⟩ = some (.int .i64 a1_3) := (blk_cell BK138.out 3).trans rfl; have hcz17_4 : w14.cell? ⟨gb138, 4, none⟩ = some (.int .i64 a1_4) := (blk_cell BK138.out 4).trans rfl; have hcz17_5 : w14.cell? ⟨gb138, 5, none⟩ = some (.int .i64 a1_5) := (blk_cell BK138.out 5).trans rfl; have hcz17_6 : w14.cell? ⟨gb138, 6, none⟩ = some (.string a1_6) := (blk_cell BK138.out 6).trans rfl; have hcz17_7 : w14.cell? ⟨gb138, 7, none⟩ = some (.slice A1_7 l1_7.length c1_7) := (blk_cell BK138.out 7).trans rfl; have hcz17_8 : w14.cell? ⟨gb138, 8, none⟩ = some (.slice A1_8 l1_8.length c1_8) := (blk_cell BK138.out 8).trans rfl; have hfz17_0 := blk_frozen BK138.out 0; have hfz17_1 := blk_frozen BK138.out 1; have hfz17_2 := blk_frozen BK138.out 2; have hfz17_3 := blk_frozen BK138.out 3; have hfz17_4 := blk_frozen BK138.out 4; have hfz17_5 := blk_frozen BK138.out 5; have hfz17_6 := blk_frozen BK138.out 6; have hfz17_7 := blk_frozen BK138.out 7; have hfz17_8 := blk_frozen BK138.out 8) | (go_at_call 27; (with_reducible refine (corncribbook_SameTexts.calls k _ _ l0_7 _ _ l1_7 true _ ?side1 ?side2 ?side3 ?side4 A10.out).mono ?_); (case side1 => repeat (first | exact (Kd.C_below HR0_7.out HB.out) | (with_reducible refine Kd.C_alloc ?_ _) | (with_reducible refine Kd.C_drewN ?_ _) | (with_reducible refine Kd.C_drew ?_))); (case side2 => exact HC0_7.out); (case side3 => repeat (first | exact (Kd.C_below HR1_7.out HB.out) | (with_reducible refine Kd.C_alloc ?_ _) | (with_reducible refine Kd.C_drewN ?_ _) | (with_reducible refine Kd.C_drew ?_))); (case side4 => exact HC1_7.out); rintro e w' ⟨rfl, ⟨nd, rfl⟩⟩) | (go_at_call 28; (with_reducible refine (corncribbook_SameWrites.calls k _ _ l0_8 _ _ l1_8 t140 _ ?side1 ?side2 ?side3 ?side4 A12.out).mono ?_); (case side1 => repeat (first | exact (Kd.C_below HR0_8.out (by repeat (first | (with_reducible first | exact HB.out | apply below_alloc | apply pw_below_drewN | apply below_drew1 | refine below_set ?_ GE137.out | refine below_set ?_ GE138.out) | exact HB.out))) | (with_reducible refine Kd.C_alloc ?_ _) | (with_reducible refine Kd.C_drewN ?_ _) | (with_reducible refine Kd.C_drew ?_))); (case side2 => exact HC0_8.out); (case side3 => repeat (first | exact (Kd.C_below HR1_8.out (by repeat (first | (with_reducible first | exact HB.out | apply below_alloc | apply pw_below_drewN | apply below_drew1 | refine below_set ?_ GE137.out | refine below_set ?_ GE138.out) | exact HB.out))) | (with_reducible refine Kd.C_alloc ?_ _) | (with_reducible refine Kd.C_drewN ?_ _) | (with_reducible refine Kd.C_drew ?_))); (case side4 => exact HC1_8.out); rintro e w' ⟨rfl, ⟨nd, rfl⟩⟩))
         go_ret
         exact ⟨by first | rfl | (simp [errW_none, errW_some] <;> rfl) | (simp [*, errW_none, errW_some] <;> rfl), by repeat (first | (with_reducible first | exact HB.out | apply below_alloc | apply pw_below_drewN | apply below_drew1 | refine below_set ?_ GE137.out | refine below_set ?_ GE138.out) | exact HB.out)⟩
        ·replace c11 := Bool.eq_false_iff.mpr c11
         subst c11
         have H1 : (some false) = some r := by rw [if_neg (show ¬ (false = true) by decide)] at H; exact H
         clear H
         have H := H1
         clear H1
         obtain rfl := Option.some.inj H
         go_enter Try.func15, Try.ntmps15
         go_wp2_with (first | ((with_reducible refine gate_dst (N := 2) rfl ?_); refine box_event ?hg (N := 2) ?hd (cs := #[.int .i64 a0_0, .int .i64 a0_1, .int .i64 a0_2, .int .i64 a0_3, .int .i64 a0_4, .int .i64 a0_5, .string a0_6, .slice A0_7 l0_7.length c0_7, .slice A0_8 l0_8.length c0_8]) (t := 32) ?hr ?_; (case hd => rfl); (case hg => rfl); (case hr => first | (go_simp; done) | (go_simp; rfl)); intro gb137 hg w18 hbox hb; have n0_ := Aside0.mk (below_step (by repeat (first | (with_reducible first | exact HB.out | apply below_alloc | apply pw_below_drewN | apply below_drew1) | exact HB.out)) hb); have n1_ := Aside0.mk (hbox); have n2_ := Aside0.mk ((by rw [hg]; exact (below_size (by repeat (first | (with_reducible first | exact HB.out | apply below_alloc | apply pw_below_drewN | apply below_drew1) | exact HB.out))) : w.heap.size ≤ gb137)); have n3_ := Aside0.mk ((by rw [hg]; exact (below_size (by repeat (first | (with_reducible first | exact HB.out | apply below_alloc | apply pw_below_drewN | apply below_drew1) | exact HB.out))) : w.heap.size ≤ gb137)); clear HB; have HB := n0_; have BK137 := n1_; have GW137 := n2_; have GE137 := n3_; clear n0_ n1_ n2_ n3_; clear hb hbox hg) | ((with_reducible refine gate_dst (N := 3) rfl ?_); refine box_event ?hg (N := 3) ?hd (cs := #[.int .i64 a1_0, .int .i64 a1_1, .int .i64 a1_2, .int .i64 a1_3, .int .i64 a1_4, .int .i64 a1_5, .string a1_6, .slice A1_7 l1_7.length c1_7, .slice A1_8 l1_8.length c1_8]) (t := 32) ?hr ?_; (case hd => rfl); (case hg => rfl); (case hr => first | (go_simp; done) | (go_simp; rfl)); intro gb138 hg w19 hbox hb; have n0_ := Aside0.mk (blk_below (g := gb137) (o := .cells #[.int .i64 a0_0, .int .i64 a0_1, .int .i64 a0_2, .int .i64 a0_3, .int .i64 a0_4, .int .i64 a0_5, .string a0_6, .slice A0_7 l0_7.length c0_7, .slice A0_8 l0_8.length c0_8] 32 (0, 0)) (by (with_reducible repeat (first | refine blk_drewN ?_ _ | refine blk_drew ?_ | refine blk_alloc ?_ _)); exact BK137.out) hb); have n1_ := Aside0.mk (below_step (by repeat (first | (with_reducible first | exact HB.out | apply below_alloc | apply pw_below_drewN | apply below_drew1 | refine below_set ?_ GE137.out) | exact HB.out)) hb); have n2_ := Aside0.mk (hbox); have n3_ := Aside0.mk ((by rw [hg]; exact (below_size (by repeat (first | (with_reducible first | exact HB.out | apply below_alloc | apply pw_below_drewN | apply below_drew1 | refine below_set ?_ GE137.out) | exact HB.out))) : w.heap.size ≤ gb138)); have n4_ := Aside0.mk ((by rw [hg]; exact (below_size (by repeat (first | (with_reducible first | exact HB.out | apply below_alloc | apply pw_below_drewN | apply below_drew1 | refine below_set ?_ GE137.out) | exact HB.out))) : w.heap.size ≤ gb138)); have n5_ := Aside0.mk ((by rw [hg]; exact Nat.ne_of_lt (blk_lt (g := gb137) (o := .cells #[.int .i64 a0_0, .int .i64 a0_1, .int .i64 a0_2, .int .i64 a0_3, .int .i64 a0_4, .int .i64 a0_5, .string a0_6, .slice A0_7 l0_7.length c0_7, .slice A0_8 l0_8.length c0_8] 32 (0, 0)) (by (with_reducible repeat (first | refine blk_drewN ?_ _ | refine blk_drew ?_ | refine blk_alloc ?_ _)); exact BK137.out)) : gb137 ≠ gb138)); have n6_ := Aside0.mk ((by rw [hg]; exact Nat.ne_of_gt (blk_lt (g := gb137) (o := .cells #[.int .i64 a0_0, .int .i64 a0_1, .int .i64 a0_2, .int .i64 a0_3, .int .i64 a0_4, .int .i64 a0_5, .string a0_6, .slice A0_7 l0_7.length c0_7, .slice A0_8 l0_8.length c0_8] 32 (0, 0)) (by (with_reducible repeat (first | refine blk_drewN ?_ _ | refine blk_drew ?_ | refine blk_alloc ?_ _)); exact BK137.out)) : gb138 ≠ gb137)); clear BK137; clear HB; have BK137 := n0_; have HB := n1_; have BK138 := n2_; have GW138 := n3_; have GE138 := n4_; have NB137_138 := n5_; have NB138_137 := n6_; clear n0_ n1_ n2_ n3_ n4_ n5_ n6_; clear hb hbox hg; have hnb20 := NB137_138.out; have hnc20 := NB138_137.out; have hcz21_0 : w19.cell? ⟨gb137, 0, none⟩ = some (.int .i64 a0_0) := (blk_cell BK137.out 0).trans rfl; have hcz21_1 : w19.cell? ⟨gb137, 1, none⟩ = some (.int .i64 a0_1) := (blk_cell BK137.out 1).trans rfl; have hcz21_2 : w19.cell? ⟨gb137, 2, none⟩ = some (.int .i64 a0_2) := (blk_cell BK137.out 2).trans rfl; have hcz21_3 : w19.cell? ⟨gb137, 3, none⟩ = some (.int .i64 a0_3) := (blk_cell BK137.out 3).trans rfl; have hcz21_4 : w19.cell? ⟨gb137, 4, none⟩ = some (.int .i64 a0_4) := (blk_cell BK137.out 4).trans rfl; have hcz21_5 : w19.cell? ⟨gb137, 5, none⟩ = some (.int .i64 a0_5) := (blk_cell BK137.out 5).trans rfl; have hcz21_6 : w19.cell? ⟨gb137, 6, none⟩ = some (.string a0_6) := (blk_cell BK137.out 6).trans rfl; have hcz21_7 : w19.cell? ⟨gb137, 7, none⟩ = some (.slice A0_7 l0_7.length c0_7) := (blk_cell BK137.out 7).trans rfl; have hcz21_8 : w19.cell? ⟨gb137, 8, none⟩ = some (.slice A0_8 l0_8.length c0_8) := (blk_cell BK137.out 8).trans rfl; have hfz21_0 := blk_frozen BK137.out 0; have hfz21_1 := blk_frozen BK137.out 1; have hfz21_2 := blk_frozen BK137.out 2; have hfz21_3 := blk_frozen BK137.out 3; have hfz21_4 := blk_frozen BK137.out 4; have hfz21_5 := blk_frozen BK137.out 5; have hfz21_6 := blk_frozen BK137.out 6; have hfz21_7 := blk_frozen BK137.out 7; have hfz21_8 := blk_frozen BK137.out 8; have hcz22_0 : w19.cell? ⟨gb138, 0, none⟩ = some (.int .i64 a1_0) := (blk_cell BK138.out 0).trans rfl; have hcz22_1 : w19.cell? ⟨gb138, 1, none⟩ = some (.int .i64 a1_1) := (blk_cell BK138.out 1).trans rfl; have hcz22_2 : w19.cell? ⟨gb138, 2, none⟩ = some (.int .i64 a1_2) := (blk_cell BK138.out 2).trans rfl; have hcz22_3 : w19.cell? ⟨gb138, 3, none⟩ = some (.int .i64 a1_3) := (blk_cell BK138.out 3).trans rfl; have hcz22_4 : w19.cell? ⟨gb138, 4, none⟩ = some (.int .i64 a1_4) := (blk_cell BK138.out 4).trans rfl; have hcz22_5 : w19.cell? ⟨gb138, 5, none⟩ = some (.int .i64 a1_5) := (blk_cell BK138.out 5).trans rfl; have hcz22_6 : w19.cell? ⟨gb138, 6, none⟩ = some (.string a1_6) := (blk_cell BK138.out 6).trans rfl; have hcz22_7 : w19.cell? ⟨gb138, 7, none⟩ = some (.slice A1_7 l1_7.length c1_7) := (blk_cell BK138.out 7).trans rfl; have hcz22_8 : w19.cell? ⟨gb138, 8, none⟩ = some (.slice A1_8 l1_8.length c1_8) := (blk_cell BK138.out 8).trans rfl; have hfz22_0 := blk_frozen BK138.out 0; have hfz22_1 := blk_frozen BK138.out 1; have hfz22_2 := blk_frozen BK138.out 2; have hfz22_3 := blk_frozen BK138.out 3; have hfz22_4 := blk_frozen BK138.out 4; have hfz22_5 := blk_frozen BK138.out 5; have hfz22_6 := blk_frozen BK138.out 6; have hfz22_7 := blk_frozen BK138.out 7; have hfz22_8 := blk_frozen BK138.out 8) | (go_at_call 27; (with_reducible refine (corncribbook_SameTexts.calls k _ _ l0_7 _ _ l1_7 false _ ?side1 ?side2 ?side3 ?side4 A10.out).mono ?_); (case side1 => repeat (first | exact (Kd.C_below HR0_7.out HB.out) | (with_reducible refine Kd.C_alloc ?_ _) | (with_reducible refine Kd.C_drewN ?_ _) | (with_reducible refine Kd.C_drew ?_))); (case side2 => exact HC0_7.out); (case side3 => repeat (first | exact (Kd.C_below HR1_7.out HB.out) | (with_reducible refine Kd.C_alloc ?_ _) | (with_reducible refine Kd.C_drewN ?_ _) | (with_reducible refine Kd.C_drew ?_))); (case side4 => exact HC1_7.out); rintro e w' ⟨rfl, ⟨nd, rfl⟩⟩))
         go_ret
         exact ⟨by first | rfl | (simp [errW_none, errW_some] <;> rfl) | (simp [*, errW_none, errW_some] <;> rfl), by repeat (first | (with_reducible first | exact HB.out | apply below_alloc | apply pw_below_drewN | apply below_drew1 | refine below_set ?_ GE137.out | refine below_set ?_ GE138.out) | exact HB.out)⟩
       ·rw [if_neg c9] at H
        have c9b0 : (a0_6.toList == a1_6.toList) = false := beq_eq_false_iff_ne.mpr c9
        have c9b1 : (a0_6.toList != a1_6.toList) = true := bne_iff_ne.mpr c9
        obtain rfl := Option.some.inj H
        go_enter Try.func15, Try.ntmps15
        go_wp2_with (first | ((with_reducible refine gate_dst (N := 2) rfl ?_); refine box_event ?hg (N := 2) ?hd (cs := #[.int .i64 a0_0, .int .i64 a0_1, .int .i64 a0_2, .int .i64 a0_3, .int .i64 a0_4, .int .i64 a0_5, .string a0_6, .slice A0_7 l0_7.length c0_7, .slice A0_8 l0_8.length c0_8]) (t := 32) ?hr ?_; (case hd => rfl); (case hg => rfl); (case hr => first | (go_simp; done) | (go_simp; rfl)); intro gb137 hg w23 hbox hb; have n0_ := Aside0.mk (below_step (by repeat (first | (with_reducible first | exact HB.out | apply below_alloc | apply pw_below_drewN | apply below_drew1) | exact HB.out)) hb); have n1_ := Aside0.mk (hbox); have n2_ := Aside0.mk ((by rw [hg]; exact (below_size (by repeat (first | (with_reducible first | exact HB.out | apply below_alloc | apply pw_below_drewN | apply below_drew1) | exact HB.out))) : w.heap.size ≤ gb137)); have n3_ := Aside0.mk ((by rw [hg]; exact (below_size (by repeat (first | (with_reducible first | exact HB.out | apply below_alloc | apply pw_below_drewN | apply below_drew1) | exact HB.out))) : w.heap.size ≤ gb137)); clear HB; have HB := n0_; have BK137 := n1_; have GW137 := n2_; have GE137 := n3_; clear n0_ n1_ n2_ n3_; clear hb hbox hg) | ((with_reducible refine gate_dst (N := 3) rfl ?_); refine box_event ?hg (N := 3) ?hd (cs := #[.int .i64 a1_0, .int .i64 a1_1, .int .i64 a1_2, .int .i64 a1_3, .int .i64 a1_4, .int .i64 a1_5, .string a1_6, .slice A1_7 l1_7.length c1_7, .slice A1_8 l1_8.length c1_8]) (t := 32) ?hr ?_; (case hd => rfl); (case hg => rfl); (case hr => first | (go_simp; done) | (go_simp; rfl)); intro gb138 hg w24 hbox hb; have n0_ := Aside0.mk (blk_below (g := gb137) (o := .cells #[.int .i64 a0_0, .int .i64 a0_1, .int .i64 a0_2, .int .i64 a0_3, .int .i64 a0_4, .int .i64 a0_5, .string a0_6, .slice A0_7 l0_7.length c0_7, .slice A0_8 l0_8.length c0_8] 32 (0, 0)) (by (with_reducible repeat (first | refine blk_drewN ?_ _ | refine blk_drew ?_ | refine blk_alloc ?_ _)); exact BK137.out) hb); have n1_ := Aside0.mk (below_step (by repeat (first | (with_reducible first | exact HB.out | apply below_alloc | apply pw_below_drewN | apply below_drew1 | refine below_set ?_ GE137.out) | exact HB.out)) hb); have n2_ := Aside0.mk (hbox); have n3_ := Aside0.mk ((by rw [hg]; exact (below_size (by repeat (first | (with_reducible first | exact HB.out | apply below_alloc | apply pw_below_drewN | apply below_drew1 | refine below_set ?_ GE137.out) | exact HB.out))) : w.heap.size ≤ gb138)); have n4_ := Aside0.mk ((by rw [hg]; exact (below_size (by repeat (first | (with_reducible first | exact HB.out | apply below_alloc | apply pw_below_drewN | apply below_drew1 | refine below_set ?_ GE137.out) | exact HB.out))) : w.heap.size ≤ gb138)); have n5_ := Aside0.mk ((by rw [hg]; exact Nat.ne_of_lt (blk_lt (g := gb137) (o := .cells #[.int .i64 a0_0, .int .i64 a0_1, .int .i64 a0_2, .int .i64 a0_3, .int .i64 a0_4, .int .i64 a0_5, .string a0_6, .slice A0_7 l0_7.length c0_7, .slice A0_8 l0_8.length c0_8] 32 (0, 0)) (by (with_reducible repeat (first | refine blk_drewN ?_ _ | refine blk_drew ?_ | refine blk_alloc ?_ _)); exact BK137.out)) : gb137 ≠ gb138)); have n6_ := Aside0.mk ((by rw [hg]; exact Nat.ne_of_gt (blk_lt (g := gb137) (o := .cells #[.int .i64 a0_0, .int .i64 a0_1, .int .i64 a0_2, .int .i64 a0_3, .int .i64 a0_4, .int .i64 a0_5, .string a0_6, .slice A0_7 l0_7.length c0_7, .slice A0_8 l0_8.length c0_8] 32 (0, 0)) (by (with_reducible repeat (first | refine blk_drewN ?_ _ | refine blk_drew ?_ | refine blk_alloc ?_ _)); exact BK137.out)) : gb138 ≠ gb137)); clear BK137; clear HB; have BK137 := n0_; have HB := n1_; have BK138 := n2_; have GW138 := n3_; have GE138 := n4_; have NB137_138 := n5_; have NB138_137 := n6_; clear n0_ n1_ n2_ n3_ n4_ n5_ n6_; clear hb hbox hg; have hnb25 := NB137_138.out; have hnc25 := NB138_137.out; have hcz26_0 : w24.cell? ⟨gb137, 0, none⟩ = some (.int .i64 a0_0) := (blk_cell BK137.out 0).trans rfl; have hcz26_1 : w24.cell? ⟨gb137, 1, none⟩ = some (.int .i64 a0_1) := (blk_cell BK137.out 1).trans rfl; have hcz26_2 : w24.cell? ⟨gb137, 2, none⟩ = some (.int .i64 a0_2) := (blk_cell BK137.out 2).trans rfl; have hcz26_3 : w24.cell? ⟨gb137, 3, none⟩ = some (.int .i64 a0_3) := (blk_cell BK137.out 3).trans rfl; have hcz26_4 : w24.cell? ⟨gb137, 4, none⟩ = some (.int .i64 a0_4) := (blk_cell BK137.out 4).trans rfl; have hcz26_5 : w24.cell? ⟨gb137, 5, none⟩ = some (.int .i64 a0_5) := (blk_cell BK137.out 5).trans rfl; have hcz26_6 : w24.cell? ⟨gb137, 6, none⟩ = some (.string a0_6) := (blk_cell BK137.out 6).trans rfl; have hcz26_7 : w24.cell? ⟨gb137, 7, none⟩ = some (.slice A0_7 l0_7.length c0_7) := (blk_cell BK137.out 7).trans rfl; have hcz26_8 : w24.cell? ⟨gb137, 8, none⟩ = some (.slice A0_8 l0_8.length c0_8) := (blk_cell BK137.out 8).trans rfl; have hfz26_0 := blk_frozen BK137.out 0; have hfz26_1 := blk_frozen BK137.out 1; have hfz26_2 := blk_frozen BK137.out 2; have hfz26_3 := blk_frozen BK137.out 3; have hfz26_4 := blk_frozen BK137.out 4; have hfz26_5 := blk_frozen BK137.out 5; have hfz26_6 := blk_frozen BK137.out 6; have hfz26_7 := blk_frozen BK137.out 7; have hfz26_8 := blk_frozen BK137.out 8; have hcz27_0 : w24.cell? ⟨gb138, 0, none⟩ = some (.int .i64 a1_0) := (blk_cell BK138.out 0).trans rfl; have hcz27_1 : w24.cell? ⟨gb138, 1, none⟩ = some (.int .i64 a1_1) := (blk_cell BK138.out 1).trans rfl; have hcz27_2 : w24.cell? ⟨gb138, 2, none⟩ = some (.int .i64 a1_2) := (blk_cell BK138.out 2).trans rfl; have hcz27_3 : w24.cell? ⟨gb138, 3, none⟩ = some (.int .i64 a1_3) := (blk_cell BK138.out 3).trans rfl; have hcz27_4 : w24.cell? ⟨gb138, 4, none⟩ = some (.int .i64 a1_4) := (blk_cell BK138.out 4).trans rfl; have hcz27_5 : w24.cell? ⟨gb138, 5, none⟩ = some (.int .i64 a1_5) := (blk_cell BK138.out 5).trans rfl; have hcz27_6 : w24.cell? ⟨gb138, 6, none⟩ = some (.string a1_6) := (blk_cell BK138.out 6).trans rfl; have hcz27_7 : w24.cell? ⟨gb138, 7, none⟩ = some (.slice A1_7 l1_7.length c1_7) := (blk_cell BK138.out 7).trans rfl; have hcz27_8 : w24.cell? ⟨gb138, 8, none⟩ = some (.slice A1_8 l1_8.length c1_8) := (blk_cell BK138.out 8).trans rfl; have hfz27_0 := blk_frozen BK138.out 0; have hfz27_1 := blk_frozen BK138.out 1; have hfz27_2 := blk_frozen BK138.out 2; have hfz27_3 := blk_frozen BK138.out 3; have hfz27_4 := blk_frozen BK138.out 4; have hfz27_5 := blk_frozen BK138.out 5; have hfz27_6 := blk_frozen BK138.out 6; have hfz27_7 := blk_frozen BK138.out 7; have hfz27_8 := blk_frozen BK138.out 8))
        go_ret
        exact ⟨by first | rfl | (simp [errW_none, errW_some] <;> rfl) | (simp [*, errW_none, errW_some] <;> rfl), by repeat (first | (with_reducible first | exact HB.out | apply below_alloc | apply pw_below_drewN | apply below_drew1 | refine below_set ?_ GE137.out | refine below_set ?_ GE138.out) | exact HB.out)⟩
      ·rw [if_neg c8] at H
       have c8b0 : (a0_5 == a1_5) = false := beq_eq_false_iff_ne.mpr c8
       have c8b1 : (a0_5 != a1_5) = true := bne_iff_ne.mpr c8
       obtain rfl := Option.some.inj H
       go_enter Try.func15, Try.ntmps15
       go_wp2_with (first | ((with_reducible refine gate_dst (N := 2) rfl ?_); refine box_event ?hg (N := 2) ?hd (cs := #[.int .i64 a0_0, .int .i64 a0_1, .int .i64 a0_2, .int .i64 a0_3, .int .i64 a0_4, .int .i64 a0_5, .string a0_6, .slice A0_7 l0_7.length c0_7, .slice A0_8 l0_8.length c0_8]) (t := 32) ?hr ?_; (case hd => rfl); (case hg => rfl); (case hr => first | (go_simp; done) | (go_simp; rfl)); intro gb137 hg w28 hbox hb; have n0_ := Aside0.mk (below_step (by repeat (first | (with_reducible first | exact HB.out | apply below_alloc | apply pw_below_drewN | apply below_drew1) | exact HB.out)) hb); have n1_ := Aside0.mk (hbox); have n2_ := Aside0.mk ((by rw [hg]; exact (below_size (by repeat (first | (with_reducible first | exact HB.out | apply below_alloc | apply pw_below_drewN | apply below_drew1) | exact HB.out))) : w.heap.size ≤ gb137)); have n3_ := Aside0.mk ((by rw [hg]; exact (below_size (by repeat (first | (with_reducible first | exact HB.out | apply below_alloc | apply pw_below_drewN | apply below_drew1) | exact HB.out))) : w.heap.size ≤ gb137)); clear HB; have HB := n0_; have BK137 := n1_; have GW137 := n2_; have GE137 := n3_; clear n0_ n1_ n2_ n3_; clear hb hbox hg) | ((with_reducible refine gate_dst (N := 3) rfl ?_); refine box_event ?hg (N := 3) ?hd (cs := #[.int .i64 a1_0, .int .i64 a1_1, .int .i64 a1_2, .int .i64 a1_3, .int .i64 a1_4, .int .i64 a1_5, .string a1_6, .slice A1_7 l1_7.length c1_7, .slice A1_8 l1_8.length c1_8]) (t := 32) ?hr ?_; (case hd => rfl); (case hg => rfl); (case hr => first | (go_simp; done) | (go_simp; rfl)); intro gb138 hg w29 hbox hb; have n0_ := Aside0.mk (blk_below (g := gb137) (o := .cells #[.int .i64 a0_0, .int .i64 a0_1, .int .i64 a0_2, .int .i64 a0_3, .int .i64 a0_4, .int .i64 a0_5, .string a0_6, .slice A0_7 l0_7.length c0_7, .slice A0_8 l0_8.length c0_8] 32 (0, 0)) (by (with_reducible repeat (first | refine blk_drewN ?_ _ | refine blk_drew ?_ | refine blk_alloc ?_ _)); exact BK137.out) hb); have n1_ := Aside0.mk (below_step (by repeat (first | (with_reducible first | exact HB.out | apply below_alloc | apply pw_below_drewN | apply below_drew1 | refine below_set ?_ GE137.out) | exact HB.out)) hb); have n2_ := Aside0.mk (hbox); have n3_ := Aside0.mk ((by rw [hg]; exact (below_size (by repeat (first | (with_reducible first | exact HB.out | apply below_alloc | apply pw_below_drewN | apply below_drew1 | refine below_set ?_ GE137.out) | exact HB.out))) : w.heap.size ≤ gb138)); have n4_ := Aside0.mk ((by rw [hg]; exact (below_size (by repeat (first | (with_reducible first | exact HB.out | apply below_alloc | apply pw_below_drewN | apply below_drew1 | refine below_set ?_ GE137.out) | exact HB.out))) : w.heap.size ≤ gb138)); have n5_ := Aside0.mk ((by rw [hg]; exact Nat.ne_of_lt (blk_lt (g := gb137) (o := .cells #[.int .i64 a0_0, .int .i64 a0_1, .int .i64 a0_2, .int .i64 a0_3, .int .i64 a0_4, .int .i64 a0_5, .string a0_6, .slice A0_7 l0_7.length c0_7, .slice A0_8 l0_8.length c0_8] 32 (0, 0)) (by (with_reducible repeat (first | refine blk_drewN ?_ _ | refine blk_drew ?_ | refine blk_alloc ?_ _)); exact BK137.out)) : gb137 ≠ gb138)); have n6_ := Aside0.mk ((by rw [hg]; exact Nat.ne_of_gt (blk_lt (g := gb137) (o := .cells #[.int .i64 a0_0, .int .i64 a0_1, .int .i64 a0_2, .int .i64 a0_3, .int .i64 a0_4, .int .i64 a0_5, .string a0_6, .slice A0_7 l0_7.length c0_7, .slice A0_8 l0_8.length c0_8] 32 (0, 0)) (by (with_reducible repeat (first | refine blk_drewN ?_ _ | refine blk_drew ?_ | refine blk_alloc ?_ _)); exact BK137.out)) : gb138 ≠ gb137)); clear BK137; clear HB; have BK137 := n0_; have HB := n1_; have BK138 := n2_; have GW138 := n3_; have GE138 := n4_; have NB137_138 := n5_; have NB138_137 := n6_; clear n0_ n1_ n2_ n3_ n4_ n5_ n6_; clear hb hbox hg; have hnb30 := NB137_138.out; have hnc30 := NB138_137.out; have hcz31_0 : w29.cell? ⟨gb137, 0, none⟩ = some (.int .i64 a0_0) := (blk_cell BK137.out 0).trans rfl; have hcz31_1 : w29.cell? ⟨gb137, 1, none⟩ = some (.int .i64 a0_1) := (blk_cell BK137.out 1).trans rfl; have hcz31_2 : w29.cell? ⟨gb137, 2, none⟩ = some (.int .i64 a0_2) := (blk_cell BK137.out 2).trans rfl; have hcz31_3 : w29.cell? ⟨gb137, 3, none⟩ = some (.int .i64 a0_3) := (blk_cell BK137.out 3).trans rfl; have hcz31_4 : w29.cell? ⟨gb137, 4, none⟩ = some (.int .i64 a0_4) := (blk_cell BK137.out 4).trans rfl; have hcz31_5 : w29.cell? ⟨gb137, 5, none⟩ = some (.int .i64 a0_5) := (blk_cell BK137.out 5).trans rfl; have hcz31_6 : w29.cell? ⟨gb137, 6, none⟩ = some (.string a0_6) := (blk_cell BK137.out 6).trans rfl; have hcz31_7 : w29.cell? ⟨gb137, 7, none⟩ = some (.slice A0_7 l0_7.length c0_7) := (blk_cell BK137.out 7).trans rfl; have hcz31_8 : w29.cell? ⟨gb137, 8, none⟩ = some (.slice A0_8 l0_8.length c0_8) := (blk_cell BK137.out 8).trans rfl; have hfz31_0 := blk_frozen BK137.out 0; have hfz31_1 := blk_frozen BK137.out 1; have hfz31_2 := blk_frozen BK137.out 2; have hfz31_3 := blk_frozen BK137.out 3; have hfz31_4 := blk_frozen BK137.out 4; have hfz31_5 := blk_frozen BK137.out 5; have hfz31_6 := blk_frozen BK137.out 6; have hfz31_7 := blk_frozen BK137.out 7; have hfz31_8 := blk_frozen BK137.out 8; have hcz32_0 : w29.cell? ⟨gb138, 0, none⟩ = some (.int .i64 a1_0) := (blk_cell BK138.out 0).trans rfl; have hcz32_1 : w29.cell? ⟨gb138, 1, none⟩ = some (.int .i64 a1_1) := (blk_cell BK138.out 1).trans rfl; have hcz32_2 : w29.cell? ⟨gb138, 2, none⟩ = some (.int .i64 a1_2) := (blk_cell BK138.out 2).trans rfl; have hcz32_3 : w29.cell? ⟨gb138, 3, none⟩ = some (.int .i64 a1_3) := (blk_cell BK138.out 3).trans rfl; have hcz32_4 : w29.cell? ⟨gb138, 4, none⟩ = some (.int .i64 a1_4) := (blk_cell BK138.out 4).trans rfl; have hcz32_5 : w29.cell? ⟨gb138, 5, none⟩ = some (.int .i64 a1_5) := (blk_cell BK138.out 5).trans rfl; have hcz32_6 : w29.cell? ⟨gb138, 6, none⟩ = some (.string a1_6) := (blk_cell BK138.out 6).trans rfl; have hcz32_7 : w29.cell? ⟨gb138, 7, none⟩ = some (.slice A1_7 l1_7.length c1_7) := (blk_cell BK138.out 7).trans rfl; have hcz32_8 : w29.cell? ⟨gb138, 8, none⟩ = some (.slice A1_8 l1_8.length c1_8) := (blk_cell BK138.out 8).trans rfl; have hfz32_0 := blk_frozen BK138.out 0; have hfz32_1 := blk_frozen BK138.out 1; have hfz32_2 := blk_frozen BK138.out 2; have hfz32_3 := blk_frozen BK138.out 3; have hfz32_4 := blk_frozen BK138.out 4; have hfz32_5 := blk_frozen BK138.out 5; have hfz32_6 := blk_frozen BK138.out 6; have hfz32_7 := blk_frozen BK138.out 7; have hfz32_8 := blk_frozen BK138.out 8))
       go_ret
       exact ⟨by first | rfl | (simp [errW_none, errW_some] <;> rfl) | (simp [*, errW_none, errW_some] <;> rfl), by repeat (first | (with_reducible first | exact HB.out | apply below_alloc | apply pw_below_drewN | apply below_drew1 | refine below_set ?_ GE137.out | refine below_set ?_ GE138.out) | exact HB.out)⟩
     ·rw [if_neg c7] at H
      have c7b0 : (a0_4 == a1_4) = false := beq_eq_false_iff_ne.mpr c7
      have c7b1 : (a0_4 != a1_4) = true := bne_iff_ne.mpr c7
      obtain rfl := Option.some.inj H
      go_enter Try.func15, Try.ntmps15
      go_wp2_with (first | ((with_reducible refine gate_dst (N := 2) rfl ?_); refine box_event ?hg (N := 2) ?hd (cs := #[.int .i64 a0_0, .int .i64 a0_1, .int .i64 a0_2, .int .i64 a0_3, .int .i64 a0_4, .int .i64 a0_5, .string a0_6, .slice A0_7 l0_7.length c0_7, .slice A0_8 l0_8.length c0_8]) (t := 32) ?hr ?_; (case hd => rfl); (case hg => rfl); (case hr => first | (go_simp; done) | (go_simp; rfl)); intro gb137 hg w33 hbox hb; have n0_ := Aside0.mk (below_step (by repeat (first | (with_reducible first | exact HB.out | apply below_alloc | apply pw_below_drewN | apply below_drew1) | exact HB.out)) hb); have n1_ := Aside0.mk (hbox); have n2_ := Aside0.mk ((by rw [hg]; exact (below_size (by repeat (first | (with_reducible first | exact HB.out | apply below_alloc | apply pw_below_drewN | apply below_drew1) | exact HB.out))) : w.heap.size ≤ gb137)); have n3_ := Aside0.mk ((by rw [hg]; exact (below_size (by repeat (first | (with_reducible first | exact HB.out | apply below_alloc | apply pw_below_drewN | apply below_drew1) | exact HB.out))) : w.heap.size ≤ gb137)); clear HB; have HB := n0_; have BK137 := n1_; have GW137 := n2_; have GE137 := n3_; clear n0_ n1_ n2_ n3_; clear hb hbox hg) | ((with_reducible refine gate_dst (N := 3) rfl ?_); refine box_event ?hg (N := 3) ?hd (cs := #[.int .i64 a1_0, .int .i64 a1_1, .int .i64 a1_2, .int .i64 a1_3, .int .i64 a1_4, .int .i64 a1_5, .string a1_6, .slice A1_7 l1_7.length c1_7, .slice A1_8 l1_8.length c1_8]) (t := 32) ?hr ?_; (case hd => rfl); (case hg => rfl); (case hr => first | (go_simp; done) | (go_simp; rfl)); intro gb138 hg w34 hbox hb; have n0_ := Aside0.mk (blk_below (g := gb137) (o := .cells #[.int .i64 a0_0, .int .i64 a0_1, .int .i64 a0_2, .int .i64 a0_3, .int .i64 a0_4, .int .i64 a0_5, .string a0_6, .slice A0_7 l0_7.length c0_7, .slice A0_8 l0_8.length c0_8] 32 (0, 0)) (by (with_reducible repeat (first | refine blk_drewN ?_ _ | refine blk_drew ?_ | refine blk_alloc ?_ _)); exact BK137.out) hb); have n1_ := Aside0.mk (below_step (by repeat (first | (with_reducible first | exact HB.out | apply below_alloc | apply pw_below_drewN | apply below_drew1 | refine below_set ?_ GE137.out) | exact HB.out)) hb); have n2_ := Aside0.mk (hbox); have n3_ := Aside0.mk ((by rw [hg]; exact (below_size (by repeat (first | (with_reducible first | exact HB.out | apply below_alloc | apply pw_below_drewN | apply below_drew1 | refine below_set ?_ GE137.out) | exact HB.out))) : w.heap.size ≤ gb138)); have n4_ := Aside0.mk ((by rw [hg]; exact (below_size (by repeat (first | (with_reducible first | exact HB.out | apply below_alloc | apply pw_below_drewN | apply below_drew1 | refine below_set ?_ GE137.out) | exact HB.out))) : w.heap.size ≤ gb138)); have n5_ := Aside0.mk ((by rw [hg]; exact Nat.ne_of_lt (blk_lt (g := gb137) (o := .cells #[.int .i64 a0_0, .int .i64 a0_1, .int .i64 a0_2, .int .i64 a0_3, .int .i64 a0_4, .int .i64 a0_5, .string a0_6, .slice A0_7 l0_7.length c0_7, .slice A0_8 l0_8.length c0_8] 32 (0, 0)) (by (with_reducible repeat (first | refine blk_drewN ?_ _ | refine blk_drew ?_ | refine blk_alloc ?_ _)); exact BK137.out)) : gb137 ≠ gb138)); have n6_ := Aside0.mk ((by rw [hg]; exact Nat.ne_of_gt (blk_lt (g := gb137) (o := .cells #[.int .i64 a0_0, .int .i64 a0_1, .int .i64 a0_2, .int .i64 a0_3, .int .i64 a0_4, .int .i64 a0_5, .string a0_6, .slice A0_7 l0_7.length c0_7, .slice A0_8 l0_8.length c0_8] 32 (0, 0)) (by (with_reducible repeat (first | refine blk_drewN ?_ _ | refine blk_drew ?_ | refine blk_alloc ?_ _)); exact BK137.out)) : gb138 ≠ gb137)); clear BK137; clear HB; have BK137 := n0_; have HB := n1_; have BK138 := n2_; have GW138 := n3_; have GE138 := n4_; have NB137_138 := n5_; have NB138_137 := n6_; clear n0_ n1_ n2_ n3_ n4_ n5_ n6_; clear hb hbox hg; have hnb35 := NB137_138.out; have hnc35 := NB138_137.out; have hcz36_0 : w34.cell? ⟨gb137, 0, none⟩ = some (.int .i64 a0_0) := (blk_cell BK137.out 0).trans rfl; have hcz36_1 : w34.cell? ⟨gb137, 1, none⟩ = some (.int .i64 a0_1) := (blk_cell BK137.out 1).trans rfl; have hcz36_2 : w34.cell? ⟨gb137, 2, none⟩ = some (.int .i64 a0_2) := (blk_cell BK137.out 2).trans rfl; have hcz36_3 : w34.cell? ⟨gb137, 3, none⟩ = some (.int .i64 a0_3) := (blk_cell BK137.out 3).trans rfl; have hcz36_4 : w34.cell? ⟨gb137, 4, none⟩ = some (.int .i64 a0_4) := (blk_cell BK137.out 4).trans rfl; have hcz36_5 : w34.cell? ⟨gb137, 5, none⟩ = some (.int .i64 a0_5) := (blk_cell BK137.out 5).trans rfl; have hcz36_6 : w34.cell? ⟨gb137, 6, none⟩ = some (.string a0_6) := (blk_cell BK137.out 6).trans rfl; have hcz36_7 : w34.cell? ⟨gb137, 7, none⟩ = some (.slice A0_7 l0_7.length c0_7) := (blk_cell BK137.out 7).trans rfl; have hcz36_8 : w34.cell? ⟨gb137, 8, none⟩ = some (.slice A0_8 l0_8.length c0_8) := (blk_cell BK137.out 8).trans rfl; have hfz36_0 := blk_frozen BK137.out 0; have hfz36_1 := blk_frozen BK137.out 1; have hfz36_2 := blk_frozen BK137.out 2; have hfz36_3 := blk_frozen BK137.out 3; have hfz36_4 := blk_frozen BK137.out 4; have hfz36_5 := blk_frozen BK137.out 5; have hfz36_6 := blk_frozen BK137.out 6; have hfz36_7 := blk_frozen BK137.out 7; have hfz36_8 := blk_frozen BK137.out 8; have hcz37_0 : w34.cell? ⟨gb138, 0, none⟩ = some (.int .i64 a1_0) := (blk_cell BK138.out 0).trans rfl; have hcz37_1 : w34.cell? ⟨gb138, 1, none⟩ = some (.int .i64 a1_1) := (blk_cell BK138.out 1).trans rfl; have hcz37_2 : w34.cell? ⟨gb138, 2, none⟩ = some (.int .i64 a1_2) := (blk_cell BK138.out 2).trans rfl; have hcz37_3 : w34.cell? ⟨gb138, 3, none⟩ = some (.int .i64 a1_3) := (blk_cell BK138.out 3).trans rfl; have hcz37_4 : w34.cell? ⟨gb138, 4, none⟩ = some (.int .i64 a1_4) := (blk_cell BK138.out 4).trans rfl; have hcz37_5 : w34.cell? ⟨gb138, 5, none⟩ = some (.int .i64 a1_5) := (blk_cell BK138.out 5).trans rfl; have hcz37_6 : w34.cell? ⟨gb138, 6, none⟩ = some (.string a1_6) := (blk_cell BK138.out 6).trans rfl; have hcz37_7 : w34.cell? ⟨gb138, 7, none⟩ = some (.slice A1_7 l1_7.length c1_7) := (blk_cell BK138.out 7).trans rfl; have hcz37_8 : w34.cell? ⟨gb138, 8, none⟩ = some (.slice A1_8 l1_8.length c1_8) := (blk_cell BK138.out 8).trans rfl; have hfz37_0 := blk_frozen BK138.out 0; have hfz37_1 := blk_frozen BK138.out 1; have hfz37_2 := blk_frozen BK138.out 2; have hfz37_3 := blk_frozen BK138.out 3; have hfz37_4 := blk_frozen BK138.out 4; have hfz37_5 := blk_frozen BK138.out 5; have hfz37_6 := blk_frozen BK138.out 6; have hfz37_7 := blk_frozen BK138.out 7; have hfz37_8 := blk_frozen BK138.out 8))
      go_ret
      exact ⟨by first | rfl | (simp [errW_none, errW_some] <;> rfl) | (simp [*, errW_none, errW_some] <;> rfl), by repeat (first | (with_reducible first | exact HB.out | apply below_alloc | apply pw_below_drewN | apply below_drew1 | refine below_set ?_ GE137.out | refine below_set ?_ GE138.out) | exact HB.out)⟩
    ·rw [if_neg c6] at H
     have c6b0 : (a0_3 == a1_3) = false := beq_eq_false_iff_ne.mpr c6
     have c6b1 : (a0_3 != a1_3) = true := bne_iff_ne.mpr c6
     obtain rfl := Option.some.inj H
     go_enter Try.func15, Try.ntmps15
     go_wp2_with (first | ((with_reducible refine gate_dst (N := 2) rfl ?_); refine box_event ?hg (N := 2) ?hd (cs := #[.int .i64 a0_0, .int .i64 a0_1, .int .i64 a0_2, .int .i64 a0_3, .int .i64 a0_4, .int .i64 a0_5, .string a0_6, .slice A0_7 l0_7.length c0_7, .slice A0_8 l0_8.length c0_8]) (t := 32) ?hr ?_; (case hd => rfl); (case hg => rfl); (case hr => first | (go_simp; done) | (go_simp; rfl)); intro gb137 hg w38 hbox hb; have n0_ := Aside0.mk (below_step (by repeat (first | (with_reducible first | exact HB.out | apply below_alloc | apply pw_below_drewN | apply below_drew1) | exact HB.out)) hb); have n1_ := Aside0.mk (hbox); have n2_ := Aside0.mk ((by rw [hg]; exact (below_size (by repeat (first | (with_reducible first | exact HB.out | apply below_alloc | apply pw_below_drewN | apply below_drew1) | exact HB.out))) : w.heap.size ≤ gb137)); have n3_ := Aside0.mk ((by rw [hg]; exact (below_size (by repeat (first | (with_reducible first | exact HB.out | apply below_alloc | apply pw_below_drewN | apply below_drew1) | exact HB.out))) : w.heap.size ≤ gb137)); clear HB; have HB := n0_; have BK137 := n1_; have GW137 := n2_; have GE137 := n3_; clear n0_ n1_ n2_ n3_; clear hb hbox hg) | ((with_reducible refine gate_dst (N := 3) rfl ?_); refine box_event ?hg (N := 3) ?hd (cs := #[.int .i64 a1_0, .int .i64 a1_1, .int .i64 a1_2, .int .i64 a1_3, .int .i64 a1_4, .int .i64 a1_5, .string a1_6, .slice A1_7 l1_7.length c1_7, .slice A1_8 l1_8.length c1_8]) (t := 32) ?hr ?_; (case hd => rfl); (case hg => rfl); (case hr => first | (go_simp; done) | (go_simp; rfl)); intro gb138 hg w39 hbox hb; have n0_ := Aside0.mk (blk_below (g := gb137) (o := .cells #[.int .i64 a0_0, .int .i64 a0_1, .int .i64 a0_2, .int .i64 a0_3, .int .i64 a0_4, .int .i64 a0_5, .string a0_6, .slice A0_7 l0_7.length c0_7, .slice A0_8 l0_8.length c0_8] 32 (0, 0)) (by (with_reducible repeat (first | refine blk_drewN ?_ _ | refine blk_drew ?_ | refine blk_alloc ?_ _)); exact BK137.out) hb); have n1_ := Aside0.mk (below_step (by repeat (first | (with_reducible first | exact HB.out | apply below_alloc | apply pw_below_drewN | apply below_drew1 | refine below_set ?_ GE137.out) | exact HB.out)) hb); have n2_ := Aside0.mk (hbox); have n3_ := Aside0.mk ((by rw [hg]; exact (below_size (by repeat (first | (with_reducible first | exact HB.out | apply below_alloc | apply pw_below_drewN | apply below_drew1 | refine below_set ?_ GE137.out) | exact HB.out))) : w.heap.size ≤ gb138)); have n4_ := Aside0.mk ((by rw [hg]; exact (below_size (by repeat (first | (with_reducible first | exact HB.out | apply below_alloc | apply pw_below_drewN | apply below_drew1 | refine below_set ?_ GE137.out) | exact HB.out))) : w.heap.size ≤ gb138)); have n5_ := Aside0.mk ((by rw [hg]; exact Nat.ne_of_lt (blk_lt (g := gb137) (o := .cells #[.int .i64 a0_0, .int .i64 a0_1, .int .i64 a0_2, .int .i64 a0_3, .int .i64 a0_4, .int .i64 a0_5, .string a0_6, .slice A0_7 l0_7.length c0_7, .slice A0_8 l0_8.length c0_8] 32 (0, 0)) (by (with_reducible repeat (first | refine blk_drewN ?_ _ | refine blk_drew ?_ | refine blk_alloc ?_ _)); exact BK137.out)) : gb137 ≠ gb138)); have n6_ := Aside0.mk ((by rw [hg]; exact Nat.ne_of_gt (blk_lt (g := gb137) (o := .cells #[.int .i64 a0_0, .int .i64 a0_1, .int .i64 a0_2, .int .i64 a0_3, .int .i64 a0_4, .int .i64 a0_5, .string a0_6, .slice A0_7 l0_7.length c0_7, .slice A0_8 l0_8.length c0_8] 32 (0, 0)) (by (with_reducible repeat (first | refine blk_drewN ?_ _ | refine blk_drew ?_ | refine blk_alloc ?_ _)); exact BK137.out)) : gb138 ≠ gb137)); clear BK137; clear HB; have BK137 := n0_; have HB := n1_; have BK138 := n2_; have GW138 := n3_; have GE138 := n4_; have NB137_138 := n5_; have NB138_137 := n6_; clear n0_ n1_ n2_ n3_ n4_ n5_ n6_; clear hb hbox hg; have hnb40 := NB137_138.out; have hnc40 := NB138_137.out; have hcz41_0 : w39.cell? ⟨gb137, 0, none⟩ = some (.int .i64 a0_0) := (blk_cell BK137.out 0).trans rfl; have hcz41_1 : w39.cell? ⟨gb137, 1, none⟩ = some (.int .i64 a0_1) := (blk_cell BK137.out 1).trans rfl; have hcz41_2 : w39.cell? ⟨gb137, 2, none⟩ = some (.int .i64 a0_2) := (blk_cell BK137.out 2).trans rfl; have hcz41_3 : w39.cell? ⟨gb137, 3, none⟩ = some (.int .i64 a0_3) := (blk_cell BK137.out 3).trans rfl; have hcz41_4 : w39.cell? ⟨gb137, 4, none⟩ = some (.int .i64 a0_4) := (blk_cell BK137.out 4).trans rfl; have hcz41_5 : w39.cell? ⟨gb137, 5, none⟩ = some (.int .i64 a0_5) := (blk_cell BK137.out 5).trans rfl; have hcz41_6 : w39.cell? ⟨gb137, 6, none⟩ = some (.string a0_6) := (blk_cell BK137.out 6).trans rfl; have hcz41_7 : w39.cell? ⟨gb137, 7, none⟩ = some (.slice A0_7 l0_7.length c0_7) := (blk_cell BK137.out 7).trans rfl; have hcz41_8 : w39.cell? ⟨gb137, 8, none⟩ = some (.slice A0_8 l0_8.length c0_8) := (blk_cell BK137.out 8).trans rfl; have hfz41_0 := blk_frozen BK137.out 0; have hfz41_1 := blk_frozen BK137.out 1; have hfz41_2 := blk_frozen BK137.out 2; have hfz41_3 := blk_frozen BK137.out 3; have hfz41_4 := blk_frozen BK137.out 4; have hfz41_5 := blk_frozen BK137.out 5; have hfz41_6 := blk_frozen BK137.out 6; have hfz41_7 := blk_frozen BK137.out 7; have hfz41_8 := blk_frozen BK137.out 8; have hcz42_0 : w39.cell? ⟨gb138, 0, none⟩ = some (.int .i64 a1_0) := (blk_cell BK138.out 0).trans rfl; have hcz42_1 : w39.cell? ⟨gb138, 1, none⟩ = some (.int .i64 a1_1) := (blk_cell BK138.out 1).trans rfl; have hcz42_2 : w39.cell? ⟨gb138, 2, none⟩ = some (.int .i64 a1_2) := (blk_cell BK138.out 2).trans rfl; have hcz42_3 : w39.cell? ⟨gb138, 3, none⟩ = some (.int .i64 a1_3) := (blk_cell BK138.out 3).trans rfl; have hcz42_4 : w39.cell? ⟨gb138, 4, none⟩ = some (.int .i64 a1_4) := (blk_cell BK138.out 4).trans rfl; have hcz42_5 : w39.cell? ⟨gb138, 5, none⟩ = some (.int .i64 a1_5) := (blk_cell BK138.out 5).trans rfl; have hcz42_6 : w39.cell? ⟨gb138, 6, none⟩ = some (.string a1_6) := (blk_cell BK138.out 6).trans rfl; have hcz42_7 : w39.cell? ⟨gb138, 7, none⟩ = some (.slice A1_7 l1_7.length c1_7) := (blk_cell BK138.out 7).trans rfl; have hcz42_8 : w39.cell? ⟨gb138, 8, none⟩ = some (.slice A1_8 l1_8.length c1_8) := (blk_cell BK138.out 8).trans rfl; have hfz42_0 := blk_frozen BK138.out 0; have hfz42_1 := blk_frozen BK138.out 1; have hfz42_2 := blk_frozen BK138.out 2; have hfz42_3 := blk_frozen BK138.out 3; have hfz42_4 := blk_frozen BK138.out 4; have hfz42_5 := blk_frozen BK138.out 5; have hfz42_6 := blk_frozen BK138.out 6; have hfz42_7 := blk_frozen BK138.out 7; have hfz42_8 := blk_frozen BK138.out 8))
     go_ret
     exact ⟨by first | rfl | (simp [errW_none, errW_some] <;> rfl) | (simp [*, errW_none, errW_some] <;> rfl), by repeat (first | (with_reducible first | exact HB.out | apply below_alloc | apply pw_below_drewN | apply below_drew1 | refine below_set ?_ GE137.out | refine below_set ?_ GE138.out) | exact HB.out)⟩
   ·rw [if_neg c5] at H
    have c5b0 : (a0_2 == a1_2) = false := beq_eq_false_iff_ne.mpr c5
    have c5b1 : (a0_2 != a1_2) = true := bne_iff_ne.mpr c5
    obtain rfl := Option.some.inj H
    go_enter Try.func15, Try.ntmps15
    go_wp2_with (first | ((with_reducible refine gate_dst (N := 2) rfl ?_); refine box_event ?hg (N := 2) ?hd (cs := #[.int .i64 a0_0, .int .i64 a0_1, .int .i64 a0_2, .int .i64 a0_3, .int .i64 a0_4, .int .i64 a0_5, .string a0_6, .slice A0_7 l0_7.length c0_7, .slice A0_8 l0_8.length c0_8]) (t := 32) ?hr ?_; (case hd => rfl); (case hg => rfl); (case hr => first | (go_simp; done) | (go_simp; rfl)); intro gb137 hg w43 hbox hb; have n0_ := Aside0.mk (below_step (by repeat (first | (with_reducible first | exact HB.out | apply below_alloc | apply pw_below_drewN | apply below_drew1) | exact HB.out)) hb); have n1_ := Aside0.mk (hbox); have n2_ := Aside0.mk ((by rw [hg]; exact (below_size (by repeat (first | (with_reducible first | exact HB.out | apply below_alloc | apply pw_below_drewN | apply below_drew1) | exact HB.out))) : w.heap.size ≤ gb137)); have n3_ := Aside0.mk ((by rw [hg]; exact (below_size (by repeat (first | (with_reducible first | exact HB.out | apply below_alloc | apply pw_below_drewN | apply below_drew1) | exact HB.out))) : w.heap.size ≤ gb137)); clear HB; have HB := n0_; have BK137 := n1_; have GW137 := n2_; have GE137 := n3_; clear n0_ n1_ n2_ n3_; clear hb hbox hg) | ((with_reducible refine gate_dst (N := 3) rfl ?_); refine box_event ?hg (N := 3) ?hd (cs := #[.int .i64 a1_0, .int .i64 a1_1, .int .i64 a1_2, .int .i64 a1_3, .int .i64 a1_4, .int .i64 a1_5, .string a1_6, .slice A1_7 l1_7.length c1_7, .slice A1_8 l1_8.length c1_8]) (t := 32) ?hr ?_; (case hd => rfl); (case hg => rfl); (case hr => first | (go_simp; done) | (go_simp; rfl)); intro gb138 hg w44 hbox hb; have n0_ := Aside0.mk (blk_below (g := gb137) (o := .cells #[.int .i64 a0_0, .int .i64 a0_1, .int .i64 a0_2, .int .i64 a0_3, .int .i64 a0_4, .int .i64 a0_5, .string a0_6, .slice A0_7 l0_7.length c0_7, .slice A0_8 l0_8.length c0_8] 32 (0, 0)) (by (with_reducible repeat (first | refine blk_drewN ?_ _ | refine blk_drew ?_ | refine blk_alloc ?_ _)); exact BK137.out) hb); have n1_ := Aside0.mk (below_step (by repeat (first | (with_reducible first | exact HB.out | apply below_alloc | apply pw_below_drewN | apply below_drew1 | refine below_set ?_ GE137.out) | exact HB.out)) hb); have n2_ := Aside0.mk (hbox); have n3_ := Aside0.mk ((by rw [hg]; exact (below_size (by repeat (first | (with_reducible first | exact HB.out | apply below_alloc | apply pw_below_drewN | apply below_drew1 | refine below_set ?_ GE137.out) | exact HB.out))) : w.heap.size ≤ gb138)); have n4_ := Aside0.mk ((by rw [hg]; exact (below_size (by repeat (first | (with_reducible first | exact HB.out | apply below_alloc | apply pw_below_drewN | apply below_drew1 | refine below_set ?_ GE137.out) | exact HB.out))) : w.heap.size ≤ gb138)); have n5_ := Aside0.mk ((by rw [hg]; exact Nat.ne_of_lt (blk_lt (g := gb137) (o := .cells #[.int .i64 a0_0, .int .i64 a0_1, .int .i64 a0_2, .int .i64 a0_3, .int .i64 a0_4, .int .i64 a0_5, .string a0_6, .slice A0_7 l0_7.length c0_7, .slice A0_8 l0_8.length c0_8] 32 (0, 0)) (by (with_reducible repeat (first | refine blk_drewN ?_ _ | refine blk_drew ?_ | refine blk_alloc ?_ _)); exact BK137.out)) : gb137 ≠ gb138)); have n6_ := Aside0.mk ((by rw [hg]; exact Nat.ne_of_gt (blk_lt (g := gb137) (o := .cells #[.int .i64 a0_0, .int .i64 a0_1, .int .i64 a0_2, .int .i64 a0_3, .int .i64 a0_4, .int .i64 a0_5, .string a0_6, .slice A0_7 l0_7.length c0_7, .slice A0_8 l0_8.length c0_8] 32 (0, 0)) (by (with_reducible repeat (first | refine blk_drewN ?_ _ | refine blk_drew ?_ | refine blk_alloc ?_ _)); exact BK137.out)) : gb138 ≠ gb137)); clear BK137; clear HB; have BK137 := n0_; have HB := n1_; have BK138 := n2_; have GW138 := n3_; have GE138 := n4_; have NB137_138 := n5_; have NB138_137 := n6_; clear n0_ n1_ n2_ n3_ n4_ n5_ n6_; clear hb hbox hg; have hnb45 := NB137_138.out; have hnc45 := NB138_137.out; have hcz46_0 : w44.cell? ⟨gb137, 0, none⟩ = some (.int .i64 a0_0) := (blk_cell BK137.out 0).trans rfl; have hcz46_1 : w44.cell? ⟨gb137, 1, none⟩ = some (.int .i64 a0_1) := (blk_cell BK137.out 1).trans rfl; have hcz46_2 : w44.cell? ⟨gb137, 2, none⟩ = some (.int .i64 a0_2) := (blk_cell BK137.out 2).trans rfl; have hcz46_3 : w44.cell? ⟨gb137, 3, none⟩ = some (.int .i64 a0_3) := (blk_cell BK137.out 3).trans rfl; have hcz46_4 : w44.cell? ⟨gb137, 4, none⟩ = some (.int .i64 a0_4) := (blk_cell BK137.out 4).trans rfl; have hcz46_5 : w44.cell? ⟨gb137, 5, none⟩ = some (.int .i64 a0_5) := (blk_cell BK137.out 5).trans rfl; have hcz46_6 : w44.cell? ⟨gb137, 6, none⟩ = some (.string a0_6) := (blk_cell BK137.out 6).trans rfl; have hcz46_7 : w44.cell? ⟨gb137, 7, none⟩ = some (.slice A0_7 l0_7.length c0_7) := (blk_cell BK137.out 7).trans rfl; have hcz46_8 : w44.cell? ⟨gb137, 8, none⟩ = some (.slice A0_8 l0_8.length c0_8) := (blk_cell BK137.out 8).trans rfl; have hfz46_0 := blk_frozen BK137.out 0; have hfz46_1 := blk_frozen BK137.out 1; have hfz46_2 := blk_frozen BK137.out 2; have hfz46_3 := blk_frozen BK137.out 3; have hfz46_4 := blk_frozen BK137.out 4; have hfz46_5 := blk_frozen BK137.out 5; have hfz46_6 := blk_frozen BK137.out 6; have hfz46_7 := blk_frozen BK137.out 7; have hfz46_8 := blk_frozen BK137.out 8; have hcz47_0 : w44.cell? ⟨gb138, 0, none⟩ = some (.int .i64 a1_0) := (blk_cell BK138.out 0).trans rfl; have hcz47_1 : w44.cell? ⟨gb138, 1, none⟩ = some (.int .i64 a1_1) := (blk_cell BK138.out 1).trans rfl; have hcz47_2 : w44.cell? ⟨gb138, 2, none⟩ = some (.int .i64 a1_2) := (blk_cell BK138.out 2).trans rfl; have hcz47_3 : w44.cell? ⟨gb138, 3, none⟩ = some (.int .i64 a1_3) := (blk_cell BK138.out 3).trans rfl; have hcz47_4 : w44.cell? ⟨gb138, 4, none⟩ = some (.int .i64 a1_4) := (blk_cell BK138.out 4).trans rfl; have hcz47_5 : w44.cell? ⟨gb138, 5, none⟩ = some (.int .i64 a1_5) := (blk_cell BK138.out 5).trans rfl; have hcz47_6 : w44.cell? ⟨gb138, 6, none⟩ = some (.string a1_6) := (blk_cell BK138.out 6).trans rfl; have hcz47_7 : w44.cell? ⟨gb138, 7, none⟩ = some (.slice A1_7 l1_7.length c1_7) := (blk_cell BK138.out 7).trans rfl; have hcz47_8 : w44.cell? ⟨gb138, 8, none⟩ = some (.slice A1_8 l1_8.length c1_8) := (blk_cell BK138.out 8).trans rfl; have hfz47_0 := blk_frozen BK138.out 0; have hfz47_1 := blk_frozen BK138.out 1; have hfz47_2 := blk_frozen BK138.out 2; have hfz47_3 := blk_frozen BK138.out 3; have hfz47_4 := blk_frozen BK138.out 4; have hfz47_5 := blk_frozen BK138.out 5; have hfz47_6 := blk_frozen BK138.out 6; have hfz47_7 := blk_frozen BK138.out 7; have hfz47_8 := blk_frozen BK138.out 8))
    go_ret
    exact ⟨by first | rfl | (simp [errW_none, errW_some] <;> rfl) | (simp [*, errW_none, errW_some] <;> rfl), by repeat (first | (with_reducible first | exact HB.out | apply below_alloc | apply pw_below_drewN | apply below_drew1 | refine below_set ?_ GE137.out | refine below_set ?_ GE138.out) | exact HB.out)⟩
  ·rw [if_neg c4] at H
   have c4b0 : (a0_1 == a1_1) = false := beq_eq_false_iff_ne.mpr c4
   have c4b1 : (a0_1 != a1_1) = true := bne_iff_ne.mpr c4
   obtain rfl := Option.some.inj H
   go_enter Try.func15, Try.ntmps15
   go_wp2_with (first | ((with_reducible refine gate_dst (N := 2) rfl ?_); refine box_event ?hg (N := 2) ?hd (cs := #[.int .i64 a0_0, .int .i64 a0_1, .int .i64 a0_2, .int .i64 a0_3, .int .i64 a0_4, .int .i64 a0_5, .string a0_6, .slice A0_7 l0_7.length c0_7, .slice A0_8 l0_8.length c0_8]) (t := 32) ?hr ?_; (case hd => rfl); (case hg => rfl); (case hr => first | (go_simp; done) | (go_simp; rfl)); intro gb137 hg w48 hbox hb; have n0_ := Aside0.mk (below_step (by repeat (first | (with_reducible first | exact HB.out | apply below_alloc | apply pw_below_drewN | apply below_drew1) | exact HB.out)) hb); have n1_ := Aside0.mk (hbox); have n2_ := Aside0.mk ((by rw [hg]; exact (below_size (by repeat (first | (with_reducible first | exact HB.out | apply below_alloc | apply pw_below_drewN | apply below_drew1) | exact HB.out))) : w.heap.size ≤ gb137)); have n3_ := Aside0.mk ((by rw [hg]; exact (below_size (by repeat (first | (with_reducible first | exact HB.out | apply below_alloc | apply pw_below_drewN | apply below_drew1) | exact HB.out))) : w.heap.size ≤ gb137)); clear HB; have HB := n0_; have BK137 := n1_; have GW137 := n2_; have GE137 := n3_; clear n0_ n1_ n2_ n3_; clear hb hbox hg) | ((with_reducible refine gate_dst (N := 3) rfl ?_); refine box_event ?hg (N := 3) ?hd (cs := #[.int .i64 a1_0, .int .i64 a1_1, .int .i64 a1_2, .int .i64 a1_3, .int .i64 a1_4, .int .i64 a1_5, .string a1_6, .slice A1_7 l1_7.length c1_7, .slice A1_8 l1_8.length c1_8]) (t := 32) ?hr ?_; (case hd => rfl); (case hg => rfl); (case hr => first | (go_simp; done) | (go_simp; rfl)); intro gb138 hg w49 hbox hb; have n0_ := Aside0.mk (blk_below (g := gb137) (o := .cells #[.int .i64 a0_0, .int .i64 a0_1, .int .i64 a0_2, .int .i64 a0_3, .int .i64 a0_4, .int .i64 a0_5, .string a0_6, .slice A0_7 l0_7.length c0_7, .slice A0_8 l0_8.length c0_8] 32 (0, 0)) (by (with_reducible repeat (first | refine blk_drewN ?_ _ | refine blk_drew ?_ | refine blk_alloc ?_ _)); exact BK137.out) hb); have n1_ := Aside0.mk (below_step (by repeat (first | (with_reducible first | exact HB.out | apply below_alloc | apply pw_below_drewN | apply below_drew1 | refine below_set ?_ GE137.out) | exact HB.out)) hb); have n2_ := Aside0.mk (hbox); have n3_ := Aside0.mk ((by rw [hg]; exact (below_size (by repeat (first | (with_reducible first | exact HB.out | apply below_alloc | apply pw_below_drewN | apply below_drew1 | refine below_set ?_ GE137.out) | exact HB.out))) : w.heap.size ≤ gb138)); have n4_ := Aside0.mk ((by rw [hg]; exact (below_size (by repeat (first | (with_reducible first | exact HB.out | apply below_alloc | apply pw_below_drewN | apply below_drew1 | refine below_set ?_ GE137.out) | exact HB.out))) : w.heap.size ≤ gb138)); have n5_ := Aside0.mk ((by rw [hg]; exact Nat.ne_of_lt (blk_lt (g := gb137) (o := .cells #[.int .i64 a0_0, .int .i64 a0_1, .int .i64 a0_2, .int .i64 a0_3, .int .i64 a0_4, .int .i64 a0_5, .string a0_6, .slice A0_7 l0_7.length c0_7, .slice A0_8 l0_8.length c0_8] 32 (0, 0)) (by (with_reducible repeat (first | refine blk_drewN ?_ _ | refine blk_drew ?_ | refine blk_alloc ?_ _)); exact BK137.out)) : gb137 ≠ gb138)); have n6_ := Aside0.mk ((by rw [hg]; exact Nat.ne_of_gt (blk_lt (g := gb137) (o := .cells #[.int .i64 a0_0, .int .i64 a0_1, .int .i64 a0_2, .int .i64 a0_3, .int .i64 a0_4, .int .i64 a0_5, .string a0_6, .slice A0_7 l0_7.length c0_7, .slice A0_8 l0_8.length c0_8] 32 (0, 0)) (by (with_reducible repeat (first | refine blk_drewN ?_ _ | refine blk_drew ?_ | refine blk_alloc ?_ _)); exact BK137.out)) : gb138 ≠ gb137)); clear BK137; clear HB; have BK137 := n0_; have HB := n1_; have BK138 := n2_; have GW138 := n3_; have GE138 := n4_; have NB137_138 := n5_; have NB138_137 := n6_; clear n0_ n1_ n2_ n3_ n4_ n5_ n6_; clear hb hbox hg; have hnb50 := NB137_138.out; have hnc50 := NB138_137.out; have hcz51_0 : w49.cell? ⟨gb137, 0, none⟩ = some (.int .i64 a0_0) := (blk_cell BK137.out 0).trans rfl; have hcz51_1 : w49.cell? ⟨gb137, 1, none⟩ = some (.int .i64 a0_1) := (blk_cell BK137.out 1).trans rfl; have hcz51_2 : w49.cell? ⟨gb137, 2, none⟩ = some (.int .i64 a0_2) := (blk_cell BK137.out 2).trans rfl; have hcz51_3 : w49.cell? ⟨gb137, 3, none⟩ = some (.int .i64 a0_3) := (blk_cell BK137.out 3).trans rfl; have hcz51_4 : w49.cell? ⟨gb137, 4, none⟩ = some (.int .i64 a0_4) := (blk_cell BK137.out 4).trans rfl; have hcz51_5 : w49.cell? ⟨gb137, 5, none⟩ = some (.int .i64 a0_5) := (blk_cell BK137.out 5).trans rfl; have hcz51_6 : w49.cell? ⟨gb137, 6, none⟩ = some (.string a0_6) := (blk_cell BK137.out 6).trans rfl; have hcz51_7 : w49.cell? ⟨gb137, 7, none⟩ = some (.slice A0_7 l0_7.length c0_7) := (blk_cell BK137.out 7).trans rfl; have hcz51_8 : w49.cell? ⟨gb137, 8, none⟩ = some (.slice A0_8 l0_8.length c0_8) := (blk_cell BK137.out 8).trans rfl; have hfz51_0 := blk_frozen BK137.out 0; have hfz51_1 := blk_frozen BK137.out 1; have hfz51_2 := blk_frozen BK137.out 2; have hfz51_3 := blk_frozen BK137.out 3; have hfz51_4 := blk_frozen BK137.out 4; have hfz51_5 := blk_frozen BK137.out 5; have hfz51_6 := blk_frozen BK137.out 6; have hfz51_7 := blk_frozen BK137.out 7; have hfz51_8 := blk_frozen BK137.out 8; have hcz52_0 : w49.cell? ⟨gb138, 0, none⟩ = some (.int .i64 a1_0) := (blk_cell BK138.out 0).trans rfl; have hcz52_1 : w49.cell? ⟨gb138, 1, none⟩ = some (.int .i64 a1_1) := (blk_cell BK138.out 1).trans rfl; have hcz52_2 : w49.cell? ⟨gb138, 2, none⟩ = some (.int .i64 a1_2) := (blk_cell BK138.out 2).trans rfl; have hcz52_3 : w49.cell? ⟨gb138, 3, none⟩ = some (.int .i64 a1_3) := (blk_cell BK138.out 3).trans rfl; have hcz52_4 : w49.cell? ⟨gb138, 4, none⟩ = some (.int .i64 a1_4) := (blk_cell BK138.out 4).trans rfl; have hcz52_5 : w49.cell? ⟨gb138, 5, none⟩ = some (.int .i64 a1_5) := (blk_cell BK138.out 5).trans rfl; have hcz52_6 : w49.cell? ⟨gb138, 6, none⟩ = some (.string a1_6) := (blk_cell BK138.out 6).trans rfl; have hcz52_7 : w49.cell? ⟨gb138, 7, none⟩ = some (.slice A1_7 l1_7.length c1_7) := (blk_cell BK138.out 7).trans rfl; have hcz52_8 : w49.cell? ⟨gb138, 8, none⟩ = some (.slice A1_8 l1_8.length c1_8) := (blk_cell BK138.out 8).trans rfl; have hfz52_0 := blk_frozen BK138.out 0; have hfz52_1 := blk_frozen BK138.out 1; have hfz52_2 := blk_frozen BK138.out 2; have hfz52_3 := blk_frozen BK138.out 3; have hfz52_4 := blk_frozen BK138.out 4; have hfz52_5 := blk_frozen BK138.out 5; have hfz52_6 := blk_frozen BK138.out 6; have hfz52_7 := blk_frozen BK138.out 7; have hfz52_8 := blk_frozen BK138.out 8))
   go_ret
   exact ⟨by first | rfl | (simp [errW_none, errW_some] <;> rfl) | (simp [*, errW_none, errW_some] <;> rfl), by repeat (first | (with_reducible first | exact HB.out | apply below_alloc | apply pw_below_drewN | apply below_drew1 | refine below_set ?_ GE137.out | refine below_set ?_ GE138.out) | exact HB.out)⟩
 ·rw [if_neg c3] at H
  have c3b0 : (a0_0 == a1_0) = false := beq_eq_false_iff_ne.mpr c3
  have c3b1 : (a0_0 != a1_0) = true := bne_iff_ne.mpr c3
  obtain rfl := Option.some.inj H
  go_enter Try.func15, Try.ntmps15
  go_wp2_with (first | ((with_reducible refine gate_dst (N := 2) rfl ?_); refine box_event ?hg (N := 2) ?hd (cs := #[.int .i64 a0_0, .int .i64 a0_1, .int .i64 a0_2, .int .i64 a0_3, .int .i64 a0_4, .int .i64 a0_5, .string a0_6, .slice A0_7 l0_7.length c0_7, .slice A0_8 l0_8.length c0_8]) (t := 32) ?hr ?_; (case hd => rfl); (case hg => rfl); (case hr => first | (go_simp; done) | (go_simp; rfl)); intro gb137 hg w53 hbox hb; have n0_ := Aside0.mk (below_step (by repeat (first | (with_reducible first | exact HB.out | apply below_alloc | apply pw_below_drewN | apply below_drew1) | exact HB.out)) hb); have n1_ := Aside0.mk (hbox); have n2_ := Aside0.mk ((by rw [hg]; exact (below_size (by repeat (first | (with_reducible first | exact HB.out | apply below_alloc | apply pw_below_drewN | apply below_drew1) | exact HB.out))) : w.heap.size ≤ gb137)); have n3_ := Aside0.mk ((by rw [hg]; exact (below_size (by repeat (first | (with_reducible first | exact HB.out | apply below_alloc | apply pw_below_drewN | apply below_drew1) | exact HB.out))) : w.heap.size ≤ gb137)); clear HB; have HB := n0_; have BK137 := n1_; have GW137 := n2_; have GE137 := n3_; clear n0_ n1_ n2_ n3_; clear hb hbox hg) | ((with_reducible refine gate_dst (N := 3) rfl ?_); refine box_event ?hg (N := 3) ?hd (cs := #[.int .i64 a1_0, .int .i64 a1_1, .int .i64 a1_2, .int .i64 a1_3, .int .i64 a1_4, .int .i64 a1_5, .string a1_6, .slice A1_7 l1_7.length c1_7, .slice A1_8 l1_8.length c1_8]) (t := 32) ?hr ?_; (case hd => rfl); (case hg => rfl); (case hr => first | (go_simp; done) | (go_simp; rfl)); intro gb138 hg w54 hbox hb; have n0_ := Aside0.mk (blk_below (g := gb137) (o := .cells #[.int .i64 a0_0, .int .i64 a0_1, .int .i64 a0_2, .int .i64 a0_3, .int .i64 a0_4, .int .i64 a0_5, .string a0_6, .slice A0_7 l0_7.length c0_7, .slice A0_8 l0_8.length c0_8] 32 (0, 0)) (by (with_reducible repeat (first | refine blk_drewN ?_ _ | refine blk_drew ?_ | refine blk_alloc ?_ _)); exact BK137.out) hb); have n1_ := Aside0.mk (below_step (by repeat (first | (with_reducible first | exact HB.out | apply below_alloc | apply pw_below_drewN | apply below_drew1 | refine below_set ?_ GE137.out) | exact HB.out)) hb); have n2_ := Aside0.mk (hbox); have n3_ := Aside0.mk ((by rw [hg]; exact (below_size (by repeat (first | (with_reducible first | exact HB.out | apply below_alloc | apply pw_below_drewN | apply below_drew1 | refine below_set ?_ GE137.out) | exact HB.out))) : w.heap.size ≤ gb138)); have n4_ := Aside0.mk ((by rw [hg]; exact (below_size (by repeat (first | (with_reducible first | exact HB.out | apply below_alloc | apply pw_below_drewN | apply below_drew1 | refine below_set ?_ GE137.out) | exact HB.out))) : w.heap.size ≤ gb138)); have n5_ := Aside0.mk ((by rw [hg]; exact Nat.ne_of_lt (blk_lt (g := gb137) (o := .cells #[.int .i64 a0_0, .int .i64 a0_1, .int .i64 a0_2, .int .i64 a0_3, .int .i64 a0_4, .int .i64 a0_5, .string a0_6, .slice A0_7 l0_7.length c0_7, .slice A0_8 l0_8.length c0_8] 32 (0, 0)) (by (with_reducible repeat (first | refine blk_drewN ?_ _ | refine blk_drew ?_ | refine blk_alloc ?_ _)); exact BK137.out)) : gb137 ≠ gb138)); have n6_ := Aside0.mk ((by rw [hg]; exact Nat.ne_of_gt (blk_lt (g := gb137) (o := .cells #[.int .i64 a0_0, .int .i64 a0_1, .int .i64 a0_2, .int .i64 a0_3, .int .i64 a0_4, .int .i64 a0_5, .string a0_6, .slice A0_7 l0_7.length c0_7, .slice A0_8 l0_8.length c0_8] 32 (0, 0)) (by (with_reducible repeat (first | refine blk_drewN ?_ _ | refine blk_drew ?_ | refine blk_alloc ?_ _)); exact BK137.out)) : gb138 ≠ gb137)); clear BK137; clear HB; have BK137 := n0_; have HB := n1_; have BK138 := n2_; have GW138 := n3_; have GE138 := n4_; have NB137_138 := n5_; have NB138_137 := n6_; clear n0_ n1_ n2_ n3_ n4_ n5_ n6_; clear hb hbox hg; have hnb55 := NB137_138.out; have hnc55 := NB138_137.out; have hcz56_0 : w54.cell? ⟨gb137, 0, none⟩ = some (.int .i64 a0_0) := (blk_cell BK137.out 0).trans rfl; have hcz56_1 : w54.cell? ⟨gb137, 1, none⟩ = some (.int .i64 a0_1) := (blk_cell BK137.out 1).trans rfl; have hcz56_2 : w54.cell? ⟨gb137, 2, none⟩ = some (.int .i64 a0_2) := (blk_cell BK137.out 2).trans rfl; have hcz56_3 : w54.cell? ⟨gb137, 3, none⟩ = some (.int .i64 a0_3) := (blk_cell BK137.out 3).trans rfl; have hcz56_4 : w54.cell? ⟨gb137, 4, none⟩ = some (.int .i64 a0_4) := (blk_cell BK137.out 4).trans rfl; have hcz56_5 : w54.cell? ⟨gb137, 5, none⟩ = some (.int .i64 a0_5) := (blk_cell BK137.out 5).trans rfl; have hcz56_6 : w54.cell? ⟨gb137, 6, none⟩ = some (.string a0_6) := (blk_cell BK137.out 6).trans rfl; have hcz56_7 : w54.cell? ⟨gb137, 7, none⟩ = some (.slice A0_7 l0_7.length c0_7) := (blk_cell BK137.out 7).trans rfl; have hcz56_8 : w54.cell? ⟨gb137, 8, none⟩ = some (.slice A0_8 l0_8.length c0_8) := (blk_cell BK137.out 8).trans rfl; have hfz56_0 := blk_frozen BK137.out 0; have hfz56_1 := blk_frozen BK137.out 1; have hfz56_2 := blk_frozen BK137.out 2; have hfz56_3 := blk_frozen BK137.out 3; have hfz56_4 := blk_frozen BK137.out 4; have hfz56_5 := blk_frozen BK137.out 5; have hfz56_6 := blk_frozen BK137.out 6; have hfz56_7 := blk_frozen BK137.out 7; have hfz56_8 := blk_frozen BK137.out 8; have hcz57_0 : w54.cell? ⟨gb138, 0, none⟩ = some (.int .i64 a1_0) := (blk_cell BK138.out 0).trans rfl; have hcz57_1 : w54.cell? ⟨gb138, 1, none⟩ = some (.int .i64 a1_1) := (blk_cell BK138.out 1).trans rfl; have hcz57_2 : w54.cell? ⟨gb138, 2, none⟩ = some (.int .i64 a1_2) := (blk_cell BK138.out 2).trans rfl; have hcz57_3 : w54.cell? ⟨gb138, 3, none⟩ = some (.int .i64 a1_3) := (blk_cell BK138.out 3).trans rfl; have hcz57_4 : w54.cell? ⟨gb138, 4, none⟩ = some (.int .i64 a1_4) := (blk_cell BK138.out 4).trans rfl; have hcz57_5 : w54.cell? ⟨gb138, 5, none⟩ = some (.int .i64 a1_5) := (blk_cell BK138.out 5).trans rfl; have hcz57_6 : w54.cell? ⟨gb138, 6, none⟩ = some (.string a1_6) := (blk_cell BK138.out 6).trans rfl; have hcz57_7 : w54.cell? ⟨gb138, 7, none⟩ = some (.slice A1_7 l1_7.length c1_7) := (blk_cell BK138.out 7).trans rfl; have hcz57_8 : w54.cell? ⟨gb138, 8, none⟩ = some (.slice A1_8 l1_8.length c1_8) := (blk_cell BK138.out 8).trans rfl; have hfz57_0 := blk_frozen BK138.out 0; have hfz57_1 := blk_frozen BK138.out 1; have hfz57_2 := blk_frozen BK138.out 2; have hfz57_3 := blk_frozen BK138.out 3; have hfz57_4 := blk_frozen BK138.out 4; have hfz57_5 := blk_frozen BK138.out 5; have hfz57_6 := blk_frozen BK138.out 6; have hfz57_7 := blk_frozen BK138.out 7; have hfz57_8 := blk_frozen BK138.out 8))
  go_ret
  exact ⟨by first | rfl | (simp [errW_none, errW_some] <;> rfl) | (simp [*, errW_none, errW_some] <;> rfl), by repeat (first | (with_reducible first | exact HB.out | apply below_alloc | apply pw_below_drewN | apply below_drew1 | refine below_set ?_ GE137.out | refine below_set ?_ GE138.out) | exact HB.out)⟩
-- NOT PRINTED: function 16 (net_Net_Copy)
-- NOT PRINTED: function 4 (corncriblaw15_NetTruth)
end Go.Proofs.Ytnbomedhehoflaa.Al
