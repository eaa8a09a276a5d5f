import Derived.Test.YtjjgpleaidledaaPackFns
import Derived.Test.YtjjgpleaidledaaFcorncribref06Encode
/- The reference's functions come to the same bytes. -/
namespace Go.Proofs.Ytjjgpleaidledaa.PackFns
open Go.RowKit Go.Proofs.Ytjjgpleaidledaa.Base Go.Proofs.Ytjjgpleaidledaa.PackMath Go.Proofs.Ytjjgpleaidledaa.Al Go.Proofs.YtjjgpleaidledaaW.PrintWords

theorem num_eq (n : Int) : corncribref06_num.f n = some (okNum n) := by
  unfold corncribref06_num.f okNum
  by_cases h : n ≥ -4611686018427387904
  · rw [if_pos h, decide_eq_true (show (-4611686018427387904 : Int) ≤ n from h)]; rfl
  · rw [if_neg h, decide_eq_false (show ¬ (-4611686018427387904 : Int) ≤ n from h)]; rfl
theorem rplain_l0 : ∀ (n : Nat) (xs : List Int), n < 9223372036854775808 → xs.length + (plain n).length ≤ 140737488355328 → Ev (fun k => corncribref06_Plain.l0 k (n : Int) xs) (strOfNums (xs ++ plain n)) := by
  intro n
  induction n using Nat.strongRecOn with
  | ind n ih =>
    intro xs hn hx
    by_cases h1 : n < 128
    · rw [plain_small h1] at hx ⊢
      simp at hx
      refine Ev.step (fun k => by simp only [corncribref06_Plain.l0]; rw [if_neg (by omega), if_pos (by omega)]) ?_
      rw [show (n : Int) % 256 = n from by omega]
      exact Ev.now _
    · rw [plain_big (by omega)] at hx ⊢
      simp at hx
      refine Ev.step (fun k => by simp only [corncribref06_Plain.l0]; rw [if_pos (by omega), if_pos (by omega)]) ?_
      have e : wrap64 ((Int.tmod (n : Int) 128) + 128) % 256 = ((n % 128 + 128 : Nat) : Int) := by
        rw [Int.tmod_eq_emod_of_nonneg (by omega), wrap_id (by omega) (by omega)]; omega
      rw [e, step_rest, wrap_id (by omega) (by omega)]
      have := ih (n / 128) (by omega) (xs ++ [((n % 128 + 128 : Nat) : Int)]) (by omega) (by simp; omega)
      simpa using this
theorem rplain_ev (n : Nat) (hn : n < 9223372036854775808) : Ev (fun k => corncribref06_Plain.f k (n : Int)) (strOfNums (plain n)) :=
  rplain_l0 n [] hn (by have := plain_len9 hn; simp; omega)
theorem rsigned_ev (n : Int) (h0 : -4611686018427387904 ≤ n) (h1 : n ≤ 4611686018427387903) : Ev (fun k => corncribref06_Signed.f k n) (strOfNums (signed n)) := by
  have hz := zig_lt h0 h1
  have hp := rplain_ev (zig n) hz
  unfold corncribref06_Signed.f
  by_cases hn : n < 0
  · have e : wrap64 ((wrap64 ((-2) * (wrap64 (n + 1)))) + 1) = (zig n : Int) := by
      rw [wrap_id (n := n + 1) (by omega) (by omega), wrap_id (n := -2 * (n + 1)) (by omega) (by omega), wrap_id (by omega) (by omega)]
      unfold zig; rw [if_pos hn]; omega
    rw [e]
    exact Ev.pos hn (Ev.bind hp (Ev.now _))
  · have e : wrap64 (2 * n) = (zig n : Int) := by
      rw [wrap_id (by omega) (by omega)]
      unfold zig; rw [if_neg hn]; omega
    rw [e]
    exact Ev.neg hn (Ev.bind hp (Ev.now _))
theorem rcheck_l1 (nums : List Int) (texts : List ByteArray) (ht : texts.length ≤ 1024) : ∀ (d i : Nat), i + d = texts.length → Ev (fun k => corncribref06_Check.l1 k (i : Int) nums texts) (if (texts.drop i).all okText = false then 2 else 0)
  | 0, i, h => by
    rw [List.drop_of_length_le (by omega), if_neg (by simp)]
    exact Ev.step (fun k => by simp only [corncribref06_Check.l1]; rw [if_neg (by omega)]) (Ev.now _)
  | d + 1, i, h => by
    have hi : i < texts.length := by omega
    have e : wrap64 ((i : Int) + 1) = ((i + 1 : Nat) : Int) := by rw [wrap_id (by omega) (by omega)]; omega
    have hr : rdOf ByteArray.empty texts (i : Int) = texts[i] := by simp [rdOf, List.getD_eq_getElem?_getD, hi]
    have ih := rcheck_l1 nums texts ht d (i + 1) (by omega)
    rw [List.drop_eq_getElem_cons hi, List.all_cons]
    refine Ev.step (fun k => by simp only [corncribref06_Check.l1]; rw [if_pos (by omega), if_pos (by omega), hr, e]) ?_
    by_cases hs : texts[i].size ≤ 4096
    · rw [okText_iff.2 hs, Bool.true_and]
      exact Ev.neg (by omega) ih
    · rw [show okText texts[i] = false from by simpa [okText] using hs, Bool.false_and, if_pos rfl]
      exact Ev.pos (by omega) (Ev.now _)
theorem rcheck_l0 (nums : List Int) (texts : List ByteArray) (hn : nums.length ≤ 1024) (ht : texts.length ≤ 1024) : ∀ (d i : Nat), i + d = nums.length →
    Ev (fun k => corncribref06_Check.l0 k (i : Int) nums texts) (if (nums.drop i).all okNum = false then 1 else if texts.all okText = false then 2 else 0)
  | 0, i, h => by
    rw [List.drop_of_length_le (by omega), if_neg (by simp)]
    refine Ev.step (fun k => by simp only [corncribref06_Check.l0]; rw [if_neg (by omega)]) ?_
    simpa using rcheck_l1 nums texts ht texts.length 0 (by omega)
  | d + 1, i, h => by
    have hi : i < nums.length := by omega
    have e : wrap64 ((i : Int) + 1) = ((i + 1 : Nat) : Int) := by rw [wrap_id (by omega) (by omega)]; omega
    have hr : rd nums (i : Int) = nums[i] := by simp [rd, List.getD_eq_getElem?_getD, hi]
    have ih := rcheck_l0 nums texts hn ht d (i + 1) (by omega)
    rw [List.drop_eq_getElem_cons hi, List.all_cons]
    refine Ev.step (fun k => by simp only [corncribref06_Check.l0]; rw [if_pos (by omega), if_pos (by omega), hr, e, num_eq]) ?_
    cases ho : okNum nums[i] with
    | true => rw [Bool.true_and]; exact Ev.some_bind (Ev.pos rfl ih)
    | false => rw [Bool.false_and, if_pos rfl]; exact Ev.some_bind (Ev.neg (by simp) (Ev.now _))
theorem rcheck_ev (nums : List Int) (texts : List ByteArray) : Ev (fun k => corncribref06_Check.f k nums texts) (chk nums texts) := by
  unfold corncribref06_Check.f chk
  by_cases h1 : 1024 < nums.length
  · rw [if_pos (Or.inl h1)]
    exact Ev.pos (by omega) (Ev.step (fun k => by simp only [corncribref06_Check.j0, if_true]) (Ev.now _))
  refine Ev.neg (by omega) ?_
  by_cases h2 : 1024 < texts.length
  · rw [if_pos (Or.inr h2), decide_eq_true (by omega)]
    exact Ev.step (fun k => by simp only [corncribref06_Check.j0, if_true]) (Ev.now _)
  rw [if_neg (by omega), decide_eq_false (by omega)]
  refine Ev.step (fun k => by simp only [corncribref06_Check.j0]; rw [if_neg (by simp)]) ?_
  simpa using rcheck_l0 nums texts (by omega) (by omega) nums.length 0 (by omega)
theorem strOfNums_append (a b : List Int) : strOfNums (a ++ b) = strOfNums a ++ strOfNums b := B_inj (by rw [B_append, B_nums, B_nums, B_nums, List.map_append])
theorem strOfNums_bytesOf (s : ByteArray) : strOfNums (bytesOf s) = s := by
  apply B_inj
  rw [B_nums]
  unfold bytesOf B
  rw [List.map_map]
  conv => rhs; rw [← List.map_id s.data.toList]
  apply List.map_congr_left
  intro b _
  simp
theorem renc_l1 (nums : List Int) (texts : List ByteArray) (ht : texts.length ≤ 1024) (hs : ∀ s ∈ texts, s.size ≤ 4096) : ∀ (d i : Nat) (acc : ByteArray), i + d = texts.length → acc.size + 4105 * d ≤ 100000000 →
    Ev (fun k => corncribref06_Bytes.l1 k acc (i : Int) nums texts) (acc ++ strOfNums (tails (texts.drop i)))
  | 0, i, acc, h, hx => by
    rw [List.drop_of_length_le (by omega)]
    refine Ev.step (fun k => by simp only [corncribref06_Bytes.l1]; rw [if_neg (by omega)]) ?_
    have : acc ++ strOfNums (tails []) = acc := B_inj (by rw [B_append, B_nums]; simp [tails])
    rw [this]
    exact Ev.now _
  | d + 1, i, acc, h, hx => by
    have hi : i < texts.length := by omega
    have e : wrap64 ((i : Int) + 1) = ((i + 1 : Nat) : Int) := by rw [wrap_id (by omega) (by omega)]; omega
    have hr : rdOf ByteArray.empty texts (i : Int) = texts[i] := by simp [rdOf, List.getD_eq_getElem?_getD, hi]
    have hz := hs _ (List.getElem_mem hi)
    have hp : (plain texts[i].size).length ≤ 9 := plain_len9 (by omega)
    have sz := strOfNums_size (plain texts[i].size)
    have sz2 : (strOfNums (plain texts[i].size) ++ texts[i]).size = (strOfNums (plain texts[i].size)).size + texts[i].size := ByteArray.size_append
    have ih := renc_l1 nums texts ht hs d (i + 1) (acc ++ (strOfNums (plain texts[i].size) ++ texts[i])) (by omega) (by rw [ByteArray.size_append]; omega)
    rw [List.drop_eq_getElem_cons hi]
    have et : tails (texts[i] :: texts.drop (i + 1)) = plain texts[i].size ++ bytesOf texts[i] ++ tails (texts.drop (i + 1)) := rfl
    have ee : acc ++ strOfNums (tails (texts[i] :: texts.drop (i + 1))) = acc ++ (strOfNums (plain texts[i].size) ++ texts[i]) ++ strOfNums (tails (texts.drop (i + 1))) := by
      rw [et, strOfNums_append, strOfNums_append, strOfNums_bytesOf]
      apply B_inj
      simp only [B_append, List.append_assoc]
    rw [ee]
    refine Ev.step (fun k => by simp only [corncribref06_Bytes.l1]; rw [if_pos (by omega), if_pos (by omega), hr, e]) ?_
    exact Ev.bind (rplain_ev texts[i].size (by omega)) (Ev.pos (by omega) (Ev.pos (by omega) ih))
theorem renc_l0 (nums : List Int) (texts : List ByteArray) (hn : nums.length ≤ 1024) (ht : texts.length ≤ 1024) (hm : ∀ n ∈ nums, -4611686018427387904 ≤ n ∧ n ≤ 4611686018427387903) (hs : ∀ s ∈ texts, s.size ≤ 4096) : ∀ (d i : Nat) (acc : ByteArray), i + d = nums.length → acc.size + 9 * d ≤ 10000000 →
    Ev (fun k => corncribref06_Bytes.l0 k acc (i : Int) nums texts) (acc ++ strOfNums (body (nums.drop i) ++ plain texts.length ++ tails texts))
  | 0, i, acc, h, hx => by
    rw [List.drop_of_length_le (by omega)]
    have hp : (plain texts.length).length ≤ 9 := plain_len9 (by omega)
    have sz := strOfNums_size (plain texts.length)
    refine Ev.step (fun k => by simp only [corncribref06_Bytes.l0]; rw [if_neg (by omega)]) ?_
    refine Ev.bind (rplain_ev texts.length (by omega)) (Ev.pos (by omega) ?_)
    have := renc_l1 nums texts ht hs texts.length 0 (acc ++ strOfNums (plain texts.length)) (by omega) (by rw [ByteArray.size_append]; omega)
    have ee : acc ++ strOfNums (body [] ++ plain texts.length ++ tails texts) = acc ++ strOfNums (plain texts.length) ++ strOfNums (tails (texts.drop 0)) := by
      rw [strOfNums_append, List.drop_zero]
      apply B_inj
      simp [B_append, body]
    rw [ee]
    exact this
  | d + 1, i, acc, h, hx => by
    have hi : i < nums.length := by omega
    have e : wrap64 ((i : Int) + 1) = ((i + 1 : Nat) : Int) := by rw [wrap_id (by omega) (by omega)]; omega
    have hr : rd nums (i : Int) = nums[i] := by simp [rd, List.getD_eq_getElem?_getD, hi]
    have hz := hm _ (List.getElem_mem hi)
    have hp : (signed nums[i]).length ≤ 9 := plain_len9 (zig_lt hz.1 hz.2)
    have sz := strOfNums_size (signed nums[i])
    have ih := renc_l0 nums texts hn ht hm hs d (i + 1) (acc ++ strOfNums (signed nums[i])) (by omega) (by rw [ByteArray.size_append]; omega)
    rw [List.drop_eq_getElem_cons hi]
    have et : body (nums[i] :: nums.drop (i + 1)) = signed nums[i] ++ body (nums.drop (i + 1)) := rfl
    have ee : acc ++ strOfNums (body (nums[i] :: nums.drop (i + 1)) ++ plain texts.length ++ tails texts) = acc ++ strOfNums (signed nums[i]) ++ strOfNums (body (nums.drop (i + 1)) ++ plain texts.length ++ tails texts) := by
      rw [et, List.append_assoc, List.append_assoc, strOfNums_append, List.append_assoc]
      apply B_inj
      simp only [B_append, List.append_assoc]
    rw [ee]
    refine Ev.step (fun k => by simp only [corncribref06_Bytes.l0]; rw [if_pos (by omega), if_pos (by omega), hr, e]) ?_
    exact Ev.bind (rsigned_ev nums[i] hz.1 hz.2) (Ev.pos (by omega) ih)
theorem rencode_ev (nums : List Int) (texts : List ByteArray) : Ev (fun k => corncribref06_Encode.f k nums texts) (encB nums texts) := by
  unfold corncribref06_Encode.f encB
  refine Ev.bind (rcheck_ev nums texts) ?_
  by_cases h : chk nums texts = 0
  · obtain ⟨h1, h2, h3, h4⟩ := chk_ok h
    rw [if_pos h]
    have hp : (plain nums.length).length ≤ 9 := plain_len9 (by omega)
    have sz := strOfNums_size (plain nums.length)
    have hb : Ev (fun k => corncribref06_Bytes.f k nums texts) (strOfNums (enc nums texts)) := by
      unfold corncribref06_Bytes.f
      refine Ev.bind (rplain_ev nums.length (by omega)) ?_
      have := renc_l0 nums texts h1 h2 h3 h4 nums.length 0 (strOfNums (plain nums.length)) (by omega) (by omega)
      rw [List.drop_zero, ← strOfNums_append] at this
      simpa [enc] using this
    exact Ev.pos h (Ev.bind hb (Ev.now _))
  · rw [if_neg h]
    exact Ev.neg h (Ev.now _)
end Go.Proofs.Ytjjgpleaidledaa.PackFns
