import Derived.Test.YtelgpkbnahgdoaaBase
/- Numbers as bytes, seven bits a byte, the lowest first: plain mathematics. -/
namespace Go.Proofs.Ytelgpkbnahgdoaa.PackMath
open Go.RowKit Go.Proofs.Ytelgpkbnahgdoaa.Base Go.Proofs.YtelgpkbnahgdoaaW.PrintWords

def plain (n : Nat) : List Int := if n < 128 then [(n : Int)] else ((n % 128 + 128 : Nat) : Int) :: plain (n / 128)
theorem plain_small {n : Nat} (h : n < 128) : plain n = [(n : Int)] := by rw [plain, if_pos h]
theorem plain_big {n : Nat} (h : 128 ≤ n) : plain n = ((n % 128 + 128 : Nat) : Int) :: plain (n / 128) := by rw [plain, if_neg (by omega)]
/-- A signed number as one above nothing. -/
def zig (n : Int) : Nat := if n < 0 then (-2 * (n + 1) + 1).toNat else (2 * n).toNat
def zag (x : Nat) : Int := if x % 2 = 1 then -(x / 2 : Int) - 1 else (x / 2 : Int)
theorem zag_zig (n : Int) : zag (zig n) = n := by unfold zag zig; split <;> split <;> omega
theorem zig_zag (x : Nat) : zig (zag x) = x := by unfold zag zig; split <;> split <;> omega
theorem zig_lt {n : Int} (h0 : -4611686018427387904 ≤ n) (h1 : n ≤ 4611686018427387903) : zig n < 9223372036854775808 := by unfold zig; split <;> omega
theorem zag_range {x : Nat} (h : x < 9223372036854775808) : -4611686018427387904 ≤ zag x ∧ zag x ≤ 4611686018427387903 := by unfold zag; split <;> omega
def signed (n : Int) : List Int := plain (zig n)

theorem plain_len_le : ∀ (k n : Nat), n < 128 ^ (k + 1) → (plain n).length ≤ k + 1
  | 0, n, h => by rw [plain_small (by simpa using h)]; simp
  | k + 1, n, h => by
    by_cases h1 : n < 128
    · rw [plain_small h1]; simp
    · rw [plain_big (by omega), List.length_cons]
      have := plain_len_le k (n / 128) (by rw [Nat.pow_succ] at h; omega)
      omega
theorem plain_len9 {n : Nat} (h : n < 9223372036854775808) : (plain n).length ≤ 9 := plain_len_le 8 n (by simpa using h)
theorem plain_pos (n : Nat) : 1 ≤ (plain n).length := by rw [plain]; split <;> simp
theorem plain_mono : ∀ (n m : Nat), n ≤ m → (plain n).length ≤ (plain m).length := by
  intro n
  induction n using Nat.strongRecOn with
  | ind n ih =>
    intro m h
    by_cases h1 : n < 128
    · rw [plain_small h1]; exact plain_pos m
    · rw [plain_big (by omega), plain_big (n := m) (by omega), List.length_cons, List.length_cons]
      have := ih (n / 128) (by omega) (m / 128) (Nat.div_le_div_right h)
      omega
theorem plain_range : ∀ (n : Nat), ∀ b ∈ plain n, 0 ≤ b ∧ b ≤ 255 := by
  intro n
  induction n using Nat.strongRecOn with
  | ind n ih =>
    intro b hb
    by_cases h1 : n < 128
    · rw [plain_small h1] at hb
      simp at hb
      omega
    · rw [plain_big (by omega)] at hb
      rcases List.mem_cons.1 hb with rfl | hb
      · omega
      · exact ih (n / 128) (by omega) b hb
/-- What is read: the number at the beginning of bytes. -/
theorem plain_inj_app : ∀ (n m : Nat) (r q : List Int), plain n ++ r = plain m ++ q → n = m ∧ r = q := by
  intro n
  induction n using Nat.strongRecOn with
  | ind n ih =>
    intro m r q h
    by_cases h1 : n < 128
    · rw [plain_small h1] at h
      by_cases h2 : m < 128
      · rw [plain_small h2] at h
        simp at h
        exact ⟨by omega, h.2⟩
      · rw [plain_big (n := m) (by omega)] at h
        simp only [List.cons_append, List.nil_append, List.cons.injEq] at h
        omega
    · rw [plain_big (by omega)] at h
      by_cases h2 : m < 128
      · rw [plain_small h2] at h
        simp only [List.cons_append, List.nil_append, List.cons.injEq] at h
        omega
      · rw [plain_big (n := m) (by omega)] at h
        simp only [List.cons_append, List.cons.injEq] at h
        obtain ⟨e1, e2⟩ := ih (n / 128) (by omega) (m / 128) r q h.2
        exact ⟨by omega, e2⟩
theorem plain_inj {n m : Nat} (h : plain n = plain m) : n = m := (plain_inj_app n m [] [] (by rw [h])).1
theorem signed_inj {n m : Int} (h : signed n = signed m) : n = m := by
  have := plain_inj h
  rw [← zag_zig n, this, zag_zig]

/-- A pack's bytes. -/
def body (nums : List Int) : List Int := (nums.map signed).flatten
def tails (texts : List ByteArray) : List Int := (texts.map fun s => plain s.size ++ bytesOf s).flatten
def enc (nums : List Int) (texts : List ByteArray) : List Int := plain nums.length ++ body nums ++ plain texts.length ++ tails texts
def okNum (n : Int) : Bool := decide (-4611686018427387904 ≤ n) && decide (n ≤ 4611686018427387903)
def okText (s : ByteArray) : Bool := decide (s.size ≤ 4096)
/-- Which packs may be. -/
def chk (nums : List Int) (texts : List ByteArray) : Int :=
  if 1024 < nums.length ∨ 1024 < texts.length then 2 else if nums.all okNum = false then 1 else if texts.all okText = false then 2 else 0
theorem okNum_iff {n : Int} : okNum n = true ↔ -4611686018427387904 ≤ n ∧ n ≤ 4611686018427387903 := by simp [okNum]
theorem okText_iff {s : ByteArray} : okText s = true ↔ s.size ≤ 4096 := by simp [okText]
theorem chk_ok {nums : List Int} {texts : List ByteArray} (h : chk nums texts = 0) : nums.length ≤ 1024 ∧ texts.length ≤ 1024 ∧ (∀ n ∈ nums, -4611686018427387904 ≤ n ∧ n ≤ 4611686018427387903) ∧ ∀ s ∈ texts, s.size ≤ 4096 := by
  unfold chk at h
  split at h
  · omega
  split at h
  · omega
  split at h
  · omega
  rename_i h1 h2 h3
  refine ⟨by omega, by omega, fun n hn => ?_, fun s hs => ?_⟩
  · have := List.all_eq_true.1 (by simpa using h2) n hn
    exact okNum_iff.1 this
  · have := List.all_eq_true.1 (by simpa using h3) s hs
    exact okText_iff.1 this
theorem chk_of {nums : List Int} {texts : List ByteArray} (h1 : nums.length ≤ 1024) (h2 : texts.length ≤ 1024) (h3 : ∀ n ∈ nums, -4611686018427387904 ≤ n ∧ n ≤ 4611686018427387903) (h4 : ∀ s ∈ texts, s.size ≤ 4096) : chk nums texts = 0 := by
  have a1 : nums.all okNum = true := List.all_eq_true.2 fun n hn => okNum_iff.2 (h3 n hn)
  have a2 : texts.all okText = true := List.all_eq_true.2 fun s hs => okText_iff.2 (h4 s hs)
  unfold chk
  rw [if_neg (by omega), a1, a2]
  rfl
theorem body_len {nums : List Int} (h : ∀ n ∈ nums, -4611686018427387904 ≤ n ∧ n ≤ 4611686018427387903) : (body nums).length ≤ 9 * nums.length := by
  induction nums with
  | nil => simp [body]
  | cons n l ih =>
    have h0 := h n (by simp)
    have h1 := ih (fun m hm => h m (by simp [hm]))
    have h2 : (signed n).length ≤ 9 := plain_len9 (zig_lt h0.1 h0.2)
    simp only [body, List.map_cons, List.flatten_cons, List.length_append, List.length_cons] at h1 ⊢
    omega
theorem tails_len {texts : List ByteArray} (h : ∀ s ∈ texts, s.size ≤ 4096) : (tails texts).length ≤ 4105 * texts.length := by
  induction texts with
  | nil => simp [tails]
  | cons s l ih =>
    have h0 := h s (by simp)
    have h1 := ih (fun m hm => h m (by simp [hm]))
    have h2 : (plain s.size).length ≤ 9 := plain_len9 (by omega)
    simp only [tails, List.map_cons, List.flatten_cons, List.length_append, List.length_cons, bytesOf_length] at h1 ⊢
    omega
theorem enc_len {nums : List Int} {texts : List ByteArray} (h : chk nums texts = 0) : (enc nums texts).length ≤ 4300000 := by
  obtain ⟨h1, h2, h3, h4⟩ := chk_ok h
  have a := body_len h3
  have b := tails_len h4
  have c : (plain nums.length).length ≤ 9 := plain_len9 (by omega)
  have d : (plain texts.length).length ≤ 9 := plain_len9 (by omega)
  simp only [enc, List.length_append]
  omega
end Go.Proofs.Ytelgpkbnahgdoaa.PackMath
