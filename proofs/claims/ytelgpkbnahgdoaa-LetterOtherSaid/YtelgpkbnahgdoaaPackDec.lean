import Derived.Test.YtelgpkbnahgdoaaPackMath
/- What bytes are as a pack, and where they are none: plain mathematics over the bytes of PackMath. -/
namespace Go.Proofs.Ytelgpkbnahgdoaa.PackDec
open Go.RowKit Go.Proofs.Ytelgpkbnahgdoaa.Base Go.Proofs.Ytelgpkbnahgdoaa.PackMath Go.Proofs.YtelgpkbnahgdoaaW.PrintWords

/-- A number at the front of bytes: its value, how many bytes it has, the error (50: they end early, 3: no number). -/
def pn : Nat → Nat → Nat → List Int → Nat × Nat × Int
  | 0, _, _, _ => (0, 0, 3)
  | _ + 1, _, _, [] => (0, 0, 50)
  | d + 1, i, n, b :: l => if b < 128 then (if b = 0 ∧ 0 < i then (0, 0, 3) else (n + (b % 128).toNat * 2 ^ (7 * i), i + 1, 0)) else pn d (i + 1) (n + (b % 128).toNat * 2 ^ (7 * i)) l
theorem pow_next (i : Nat) : 2 ^ (7 * (i + 1)) = 2 ^ (7 * i) * 128 := by rw [Nat.mul_add, Nat.pow_add]
theorem pn_plain : ∀ (m d i n : Nat) (r : List Int), (plain m).length ≤ d → (i = 0 ∨ 0 < m) → pn d i n (plain m ++ r) = (n + m * 2 ^ (7 * i), i + (plain m).length, 0) := by
  intro m
  induction m using Nat.strongRecOn with
  | ind m ih =>
    intro d i n r hd hi
    obtain ⟨d, rfl⟩ : ∃ e, d = e + 1 := ⟨d - 1, by have := plain_pos m; omega⟩
    by_cases hm : m < 128
    · rw [plain_small hm]
      show (if (m : Int) < 128 then _ else _) = _
      rw [if_pos (by omega), if_neg (by omega), show ((m : Int) % 128).toNat = m from by omega]
      rfl
    · have h128 : 128 ≤ m := by omega
      rw [plain_big h128] at hd ⊢
      simp only [List.length_cons] at hd
      have e := ih (m / 128) (by omega) d (i + 1) (n + m % 128 * 2 ^ (7 * i)) r (by omega) (Or.inr (by omega))
      show (if ((m % 128 + 128 : Nat) : Int) < 128 then _ else _) = _
      rw [if_neg (by omega), show (((m % 128 + 128 : Nat) : Int) % 128).toNat = m % 128 from by omega]
      show pn d (i + 1) (n + m % 128 * 2 ^ (7 * i)) (plain (m / 128) ++ r) = _
      rw [e]
      refine Prod.ext ?_ (Prod.ext ?_ rfl)
      · show n + m % 128 * 2 ^ (7 * i) + m / 128 * 2 ^ (7 * (i + 1)) = n + m * 2 ^ (7 * i)
        rw [pow_next]
        generalize 2 ^ (7 * i) = P
        have h : m * P = (128 * (m / 128) + m % 128) * P := by rw [Nat.div_add_mod]
        rw [h, Nat.add_mul, show m / 128 * (P * 128) = 128 * (m / 128) * P from by ac_rfl]
        omega
      · simp only [List.length_cons]; omega
theorem pn_cut : ∀ (m d i n : Nat) (l y : List Int) (x : Int), plain m = l ++ x :: y → (plain m).length ≤ d → pn d i n l = (0, 0, 50) := by
  intro m
  induction m using Nat.strongRecOn with
  | ind m ih =>
    intro d i n l y x h hd
    obtain ⟨d, rfl⟩ : ∃ e, d = e + 1 := ⟨d - 1, by have := plain_pos m; omega⟩
    cases l with
    | nil => rfl
    | cons b l =>
      by_cases hm : m < 128
      · rw [plain_small hm] at h
        simp at h
      · have h128 : 128 ≤ m := by omega
        rw [plain_big h128] at h hd
        simp only [List.cons_append, List.cons.injEq] at h
        obtain ⟨rfl, h⟩ := h
        simp only [List.length_cons] at hd
        show (if ((m % 128 + 128 : Nat) : Int) < 128 then _ else _) = _
        rw [if_neg (by omega)]
        exact ih (m / 128) (by omega) d (i + 1) _ l y x h (by omega)
theorem pn_ok : ∀ (d i n : Nat) (l : List Int) (v k : Nat), (∀ b ∈ l, 0 ≤ b ∧ b ≤ 255) → pn d i n l = (v, k, 0) → ∃ m r, l = plain m ++ r ∧ v = n + m * 2 ^ (7 * i) ∧ k = i + (plain m).length ∧ (plain m).length ≤ d ∧ (i = 0 ∨ 0 < m)
  | 0, i, n, l, v, k, _, h => by simp [pn] at h
  | d + 1, i, n, [], v, k, _, h => by simp [pn] at h
  | d + 1, i, n, b :: l, v, k, hb, h => by
    have hb0 := hb b List.mem_cons_self
    have h' : (if b < 128 then (if b = 0 ∧ 0 < i then (0, 0, 3) else (n + (b % 128).toNat * 2 ^ (7 * i), i + 1, 0)) else pn d (i + 1) (n + (b % 128).toNat * 2 ^ (7 * i)) l) = (v, k, (0 : Int)) := h
    clear h
    by_cases h1 : b < 128
    · rw [if_pos h1] at h'
      by_cases h2 : b = 0 ∧ 0 < i
      · rw [if_pos h2] at h'; simp at h'
      · rw [if_neg h2] at h'
        simp only [Prod.mk.injEq, and_true] at h'
        obtain ⟨rfl, rfl⟩ := h'
        refine ⟨b.toNat, l, ?_, ?_, ?_, ?_, ?_⟩
        · rw [plain_small (by omega)]; simp; omega
        · rw [show (b % 128).toNat = b.toNat from by omega]
        · rw [plain_small (by omega)]; rfl
        · rw [plain_small (by omega)]; simp
        · omega
    · rw [if_neg h1] at h'
      obtain ⟨m, r, rfl, rfl, rfl, hl, hm⟩ := pn_ok d (i + 1) _ l v k (fun c hc => hb c (List.mem_cons_of_mem _ hc)) h'
      have hm0 : 0 < m := by omega
      have hp : plain ((b % 128).toNat + 128 * m) = b :: plain m := by
        rw [plain_big (by omega)]
        congr 1
        · omega
        · congr 1; omega
      refine ⟨(b % 128).toNat + 128 * m, r, by rw [hp]; rfl, ?_, by rw [hp]; simp only [List.length_cons]; omega, by rw [hp]; simp only [List.length_cons]; omega, Or.inr (by omega)⟩
      rw [pow_next]
      generalize 2 ^ (7 * i) = P
      rw [Nat.add_mul, show m * (P * 128) = 128 * m * P from by ac_rfl]
      omega
theorem plain_lt : ∀ (k m : Nat), (plain m).length ≤ k → m < 128 ^ k
  | 0, m, h => by have := plain_pos m; omega
  | k + 1, m, h => by
    by_cases hm : m < 128
    · have : 0 < 128 ^ k := Nat.pow_pos (by omega)
      rw [Nat.pow_succ]; omega
    · rw [plain_big (by omega)] at h
      have := plain_lt k (m / 128) (by simpa using h)
      rw [Nat.pow_succ]; omega
theorem plain_lt9 {m : Nat} (h : (plain m).length ≤ 9) : m < 9223372036854775808 := by simpa using plain_lt 9 m h

/-- The bytes from a place on. -/
def rest (s : ByteArray) (p : Nat) : List Int := (bytesOf s).drop p
theorem rest_length (s : ByteArray) (p : Nat) : (rest s p).length = s.size - p := by rw [rest, List.length_drop, bytesOf_length]
theorem rest_range (s : ByteArray) (p : Nat) : ∀ b ∈ rest s p, 0 ≤ b ∧ b ≤ 255 := by
  intro b hb
  have := List.mem_of_mem_drop hb
  simp only [bytesOf, List.mem_map] at this
  obtain ⟨c, _, rfl⟩ := this
  have := c.toNat_lt
  omega
theorem rest_step {s : ByteArray} {p : Nat} {a r : List Int} (h : rest s p = a ++ r) : rest s (p + a.length) = r := by
  unfold rest at h ⊢
  rw [← List.drop_drop, h, List.drop_left]
/-- A number at a place: its value, the place behind, the error; at the place itself, or (50) at the end. -/
def rdn (s : ByteArray) (p : Nat) : Nat × Nat × Int :=
  ((pn 9 0 0 (rest s p)).1, if (pn 9 0 0 (rest s p)).2.2 = 0 then p + (pn 9 0 0 (rest s p)).2.1 else if (pn 9 0 0 (rest s p)).2.2 = 50 then s.size else p, (pn 9 0 0 (rest s p)).2.2)
theorem rdn_plain {s : ByteArray} {p m : Nat} {r : List Int} (h : rest s p = plain m ++ r) (hm : m < 9223372036854775808) : rdn s p = (m, p + (plain m).length, 0) := by
  have e := pn_plain m 9 0 0 r (plain_len9 hm) (Or.inl rfl)
  unfold rdn
  rw [h, e]
  simp
theorem rdn_cut {s : ByteArray} {p m : Nat} {y : List Int} {x : Int} (h : plain m = rest s p ++ x :: y) (hm : m < 9223372036854775808) : rdn s p = (0, s.size, 50) := by
  have e := pn_cut m 9 0 0 (rest s p) y x h (plain_len9 hm)
  unfold rdn
  rw [e]
  simp
theorem rdn_ok {s : ByteArray} {p : Nat} (h : (rdn s p).2.2 = 0) : (rdn s p).1 < 9223372036854775808 ∧ (rdn s p).2.1 = p + (plain (rdn s p).1).length ∧ ∃ r, rest s p = plain (rdn s p).1 ++ r := by
  have h0 : (pn 9 0 0 (rest s p)).2.2 = 0 := h
  obtain ⟨m, r, h1, h2, h3, h4, _⟩ := pn_ok 9 0 0 (rest s p) (pn 9 0 0 (rest s p)).1 (pn 9 0 0 (rest s p)).2.1 (rest_range s p) (by rw [← h0])
  have hm := plain_lt9 h4
  have e := rdn_plain h1 hm
  rw [e]
  exact ⟨hm, rfl, r, h1⟩
/-- A number that is at most another one. -/
def cnt (s : ByteArray) (p most : Nat) : Nat × Nat × Int := if (rdn s p).2.2 = 0 ∧ most < (rdn s p).1 then (0, p, 2) else rdn s p
theorem cnt_plain {s : ByteArray} {p m most : Nat} {r : List Int} (h : rest s p = plain m ++ r) (hm : m ≤ most) (hmost : most < 9223372036854775808) : cnt s p most = (m, p + (plain m).length, 0) := by
  unfold cnt
  rw [rdn_plain h (by omega), if_neg (by omega)]
theorem cnt_cut {s : ByteArray} {p m most : Nat} {y : List Int} {x : Int} (h : plain m = rest s p ++ x :: y) (hm : m < 9223372036854775808) : cnt s p most = (0, s.size, 50) := by
  unfold cnt
  rw [rdn_cut h hm, if_neg (by simp)]
theorem cnt_ok {s : ByteArray} {p most : Nat} (h : (cnt s p most).2.2 = 0) : cnt s p most = rdn s p ∧ (rdn s p).2.2 = 0 ∧ (rdn s p).1 ≤ most := by
  unfold cnt at h ⊢
  split at h
  · simp at h
  · rename_i hc
    rw [if_neg hc]
    exact ⟨rfl, h, by omega⟩

def decN (s : ByteArray) : Nat → Nat → List Int → List Int × Nat × Int
  | 0, p, xs => (xs, p, 0)
  | m + 1, p, xs => if (rdn s p).2.2 = 0 then decN s m (rdn s p).2.1 (xs ++ [zag (rdn s p).1]) else (xs, (rdn s p).2.1, (rdn s p).2.2)
/-- A text at a place. -/
def txt (s : ByteArray) (p : Nat) : ByteArray × Nat × Int :=
  if (cnt s p 4096).2.2 = 0 then (if s.size - (cnt s p 4096).2.1 < (cnt s p 4096).1 then (⟨#[]⟩, s.size, 50) else (s.extract (cnt s p 4096).2.1 ((cnt s p 4096).2.1 + (cnt s p 4096).1), (cnt s p 4096).2.1 + (cnt s p 4096).1, 0))
  else (⟨#[]⟩, (cnt s p 4096).2.1, (cnt s p 4096).2.2)
def decT (s : ByteArray) : Nat → Nat → List ByteArray → List ByteArray × Nat × Int
  | 0, p, xs => (xs, p, 0)
  | m + 1, p, xs => if (txt s p).2.2 = 0 then decT s m (txt s p).2.1 (xs ++ [(txt s p).1]) else (xs, (txt s p).2.1, (txt s p).2.2)
/-- The pack of bytes; or the place and the error. -/
def dec (s : ByteArray) : List Int × List ByteArray × Nat × Int :=
  if (cnt s 0 1024).2.2 = 0 then
    if (decN s (cnt s 0 1024).1 (cnt s 0 1024).2.1 []).2.2 = 0 then
      if (cnt s (decN s (cnt s 0 1024).1 (cnt s 0 1024).2.1 []).2.1 1024).2.2 = 0 then
        if (decT s (cnt s (decN s (cnt s 0 1024).1 (cnt s 0 1024).2.1 []).2.1 1024).1 (cnt s (decN s (cnt s 0 1024).1 (cnt s 0 1024).2.1 []).2.1 1024).2.1 []).2.2 = 0 then
          if (decT s (cnt s (decN s (cnt s 0 1024).1 (cnt s 0 1024).2.1 []).2.1 1024).1 (cnt s (decN s (cnt s 0 1024).1 (cnt s 0 1024).2.1 []).2.1 1024).2.1 []).2.1 < s.size then
            ([], [], (decT s (cnt s (decN s (cnt s 0 1024).1 (cnt s 0 1024).2.1 []).2.1 1024).1 (cnt s (decN s (cnt s 0 1024).1 (cnt s 0 1024).2.1 []).2.1 1024).2.1 []).2.1, 3)
          else ((decN s (cnt s 0 1024).1 (cnt s 0 1024).2.1 []).1, (decT s (cnt s (decN s (cnt s 0 1024).1 (cnt s 0 1024).2.1 []).2.1 1024).1 (cnt s (decN s (cnt s 0 1024).1 (cnt s 0 1024).2.1 []).2.1 1024).2.1 []).1, 0, 0)
        else ([], [], (decT s (cnt s (decN s (cnt s 0 1024).1 (cnt s 0 1024).2.1 []).2.1 1024).1 (cnt s (decN s (cnt s 0 1024).1 (cnt s 0 1024).2.1 []).2.1 1024).2.1 []).2)
      else ([], [], (cnt s (decN s (cnt s 0 1024).1 (cnt s 0 1024).2.1 []).2.1 1024).2)
    else ([], [], (decN s (cnt s 0 1024).1 (cnt s 0 1024).2.1 []).2)
  else ([], [], (cnt s 0 1024).2)
theorem dec_of {s : ByteArray} {m p q n u r : Nat} {xs : List Int} {ys : List ByteArray} (h1 : cnt s 0 1024 = (m, p, 0)) (h2 : decN s m p [] = (xs, q, 0)) (h3 : cnt s q 1024 = (n, u, 0)) (h4 : decT s n u [] = (ys, r, 0)) : dec s = if r < s.size then ([], [], r, 3) else (xs, ys, 0, 0) := by
  unfold dec
  simp only [h1, h2, h3, h4, if_true]
theorem dec_ok {s : ByteArray} (h : (dec s).2.2.2 = 0) : ∃ m p q n u r xs ys, cnt s 0 1024 = (m, p, 0) ∧ decN s m p [] = (xs, q, 0) ∧ cnt s q 1024 = (n, u, 0) ∧ decT s n u [] = (ys, r, 0) ∧ s.size ≤ r ∧ dec s = (xs, ys, 0, 0) := by
  unfold dec at h ⊢
  obtain ⟨m, p, e, h1⟩ : ∃ m p e, cnt s 0 1024 = (m, p, e) := ⟨_, _, _, rfl⟩
  simp only [h1] at h ⊢
  by_cases he : e = 0
  · rw [if_pos he] at h ⊢
    subst he
    obtain ⟨xs, q, e, h2⟩ : ∃ xs q e, decN s m p [] = (xs, q, e) := ⟨_, _, _, rfl⟩
    simp only [h2] at h ⊢
    by_cases he : e = 0
    · rw [if_pos he] at h ⊢
      subst he
      obtain ⟨n, u, e, h3⟩ : ∃ n u e, cnt s q 1024 = (n, u, e) := ⟨_, _, _, rfl⟩
      simp only [h3] at h ⊢
      by_cases he : e = 0
      · rw [if_pos he] at h ⊢
        subst he
        obtain ⟨ys, r, e, h4⟩ : ∃ ys r e, decT s n u [] = (ys, r, e) := ⟨_, _, _, rfl⟩
        simp only [h4] at h ⊢
        by_cases he : e = 0
        · rw [if_pos he] at h ⊢
          subst he
          by_cases hr : r < s.size
          · rw [if_pos hr] at h; simp at h
          · rw [if_neg hr]
            exact ⟨m, p, q, n, u, r, xs, ys, rfl, h2, h3, h4, by omega, rfl⟩
        · rw [if_neg he] at h; exact absurd h he
      · rw [if_neg he] at h; exact absurd h he
    · rw [if_neg he] at h; exact absurd h he
  · rw [if_neg he] at h; exact absurd h he
theorem dec_no {s : ByteArray} (h : (dec s).2.2.2 ≠ 0) : (dec s).1 = [] ∧ (dec s).2.1 = [] := by
  unfold dec at h ⊢
  repeat (first | (exact ⟨rfl, rfl⟩) | (exact absurd rfl h) | split at h)
  all_goals simp_all
end Go.Proofs.Ytelgpkbnahgdoaa.PackDec
