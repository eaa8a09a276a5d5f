import Derived.Test.YtdajpglkggmpoaaSumFns
import Derived.Test.YtdajpglkggmpoaaFcorncribref05One
import Derived.Test.YtdajpglkggmpoaaFsumNext
import Derived.Test.YtdajpglkggmpoaaFcorncribref05Next
/- Frames, and what is found at a place: the program's and the reference's functions come to the same plain functions. -/
namespace Go.Proofs.Ytdajpglkggmpoaa.SumFns
open Go.RowKit Go.Proofs.Ytdajpglkggmpoaa.Base Go.Proofs.Ytdajpglkggmpoaa.SumMath Go.Proofs.Ytdajpglkggmpoaa.Al Go.Proofs.YtdajpglkggmpoaaW.PrintWords Go.Proofs.YtdajpglkggmpoaaW.PrintMore

def lo2 (n : Int) : List Int := [n % 256, (n / 256) % 256]
def lo4 (n : Int) : List Int := [n % 256, (n / 256) % 256, (n / 65536) % 256, (n / 16777216) % 256]
def headB (t : ByteArray) : ByteArray := strOfNums (lo2 t.size) ++ t
def sumOf (t : ByteArray) : Int := ((crcSum (B t)).toNat : Int)
def frameB (t : ByteArray) : ByteArray := headB t ++ strOfNums (lo4 (sumOf (headB t)))
theorem headB_size (t : ByteArray) : (headB t).size = 2 + t.size := by
  unfold headB; rw [ByteArray.size_append, strOfNums_size]; rfl
theorem frameB_size (t : ByteArray) : (frameB t).size = t.size + 6 := by
  unfold frameB; rw [ByteArray.size_append, strOfNums_size, headB_size]; simp [lo4]; omega
theorem whole_two (a b : ByteArray) : whole [a, b] = B (a ++ b) := by simp [whole, B_append]
theorem frame_ev (t : ByteArray) (ht : t.size ≤ 4611686018427387904) : Ev (fun k => sum_frame.f k t) (frameB t) := by
  have h1 := of_ev [strOfNums (lo2 t.size), t] (by simp) (by intro s hs; simp at hs; rcases hs with rfl | rfl; rw [strOfNums_size]; simp [lo2]; omega)
  rw [whole_two] at h1
  unfold sum_frame.f
  refine Ev.some_bind (Ev.bind h1 (Ev.pos (by rw [strOfNums_size]; simp; omega) (Ev.some_bind (Ev.pos ?_ (Ev.now _)))))
  have : (strOfNums (lo2 t.size) ++ t).size = 2 + t.size := headB_size t
  show (strOfNums (lo2 t.size) ++ t).size + _ ≤ _
  rw [this, strOfNums_size]
  simp
  omega

/-- The reference's sum. -/
theorem rsum_l1 (s : ByteArray) (i r : Int) : ∀ (m : Nat), m ≤ 8 → ∀ y : BitVec 32, Ev (fun k => corncribref05_Sum.l0 k s ((crcSteps m y).toNat : Int) (wrap64 (i + 1))) r →
    Ev (fun k => corncribref05_Sum.l1 k s (y.toNat : Int) i (8 - (m : Int))) r
  | 0, _, y, h => Ev.step (f := fun k => corncribref05_Sum.l0 k s (y.toNat : Int) (wrap64 (i + 1))) (fun k => by
      simp only [corncribref05_Sum.l1]; rw [if_neg (by omega)]) h
  | m + 1, hm, y, h => by
    have ih := rsum_l1 s i r m (by omega) (crcStep y) h
    refine Ev.step (f := fun k => corncribref05_Sum.l1 k s ((crcStep y).toNat : Int) i (8 - (m : Int))) (fun k => ?_) ih
    have e : wrap64 (8 - ((m + 1 : Nat) : Int) + 1) = 8 - (m : Int) := by rw [wrap_id (by omega) (by omega)]; omega
    simp only [corncribref05_Sum.l1]
    rw [if_pos (by omega), tmod_two, e]
    by_cases ho : y.toNat % 2 = 1
    · rw [if_pos (by omega), step_ref_odd y ho]
    · rw [if_neg (by omega), step_ref_even y (by omega)]
theorem rsum_l0 (s : ByteArray) (hs : s.size ≤ 9223372036854775807) : ∀ (d i : Nat) (x : BitVec 32), i + d = s.size →
    Ev (fun k => corncribref05_Sum.l0 k s (x.toNat : Int) (i : Int)) ((crc x ((B s).drop i) ^^^ crcStart).toNat : Int)
  | 0, i, x, h => Ev.step (f := fun _ => some ((x ^^^ crcStart).toNat : Int)) (fun k => by simp only [corncribref05_Sum.l0]; rw [if_neg (by omega), last_ref]) (by
      rw [List.drop_of_length_le (by rw [B_len]; omega)]; exact Ev.now _)
  | d + 1, i, x, h => by
    have hi : i < (B s).length := by rw [B_len]; omega
    rw [List.drop_eq_getElem_cons hi, crc_cons]
    have ih := rsum_l0 s hs d (i + 1) (eat x (B s)[i]) (by omega)
    have e : wrap64 ((i : Int) + 1) = ((i + 1 : Nat) : Int) := by rw [wrap_id (by omega) (by omega)]; omega
    rw [← e] at ih
    have h1 := rsum_l1 s (i : Int) _ 8 (by omega) (x ^^^ ((B s)[i]).toBitVec.setWidth 32) ih
    refine Ev.step (fun k => ?_) h1
    simp only [corncribref05_Sum.l0]
    rw [if_pos (by omega), if_pos (by omega), bt_B s i hi, on_ref]
    rfl
theorem rsum_ev (s : ByteArray) (hs : s.size ≤ 9223372036854775807) : Ev (fun k => corncribref05_Sum.f k s) (sumOf s) := rsum_l0 s hs s.size 0 crcStart (by omega)

theorem rbytes_l0 (n m : Int) (hm : m ≤ 8) : ∀ (d i : Nat) (xs : List Int), (i : Int) + d = m → xs.length = i →
    Ev (fun k => corncribref05_bytes.l0 k n m xs (i : Int)) (strOfNums (xs ++ (List.range d).map fun j => (n / 2 ^ (8 * (i + j))) % 256))
  | 0, i, xs, h, hx => Ev.step (f := fun _ => some (strOfNums xs)) (fun k => by simp only [corncribref05_bytes.l0]; rw [if_neg (by omega)]) (by simpa using Ev.now _)
  | d + 1, i, xs, h, hx => by
    have ih := rbytes_l0 n m hm d (i + 1) (xs ++ [(n / 2 ^ (8 * i)) % 256]) (by omega) (by simp [hx])
    have e : wrap64 ((i : Int) + 1) = ((i + 1 : Nat) : Int) := by rw [wrap_id (by omega) (by omega)]; omega
    have e8 : wrap64 (8 * (i : Int)) = ((8 * i : Nat) : Int) := by rw [wrap_id (by omega) (by omega)]; omega
    have es : shr .i64 n ((8 * i : Nat) : Int) = n / 2 ^ (8 * i) := by
      unfold shr
      rw [Int.toNat_natCast, Nat.min_eq_left (by show 8 * i ≤ 64; omega)]
    refine Ev.step (f := fun k => corncribref05_bytes.l0 k n m (xs ++ [(n / 2 ^ (8 * i)) % 256]) ((i + 1 : Nat) : Int)) (fun k => ?_) ?_
    · simp only [corncribref05_bytes.l0]
      rw [if_pos (by omega), e8, if_pos (by omega), if_pos (by omega), es, e]
    · have : xs ++ (List.range (d + 1)).map (fun j => (n / 2 ^ (8 * (i + j))) % 256) = (xs ++ [(n / 2 ^ (8 * i)) % 256]) ++ (List.range d).map fun j => (n / 2 ^ (8 * (i + 1 + j))) % 256 := by
        rw [List.range_succ_eq_map, List.map_cons, List.map_map, List.append_assoc]
        simp only [Nat.add_zero, List.cons_append, List.nil_append]
        congr 2
        apply List.map_congr_left
        intro j _
        simp [Nat.add_comm, Nat.add_left_comm]
      rw [this]
      exact ih
theorem rbytes_two (n : Int) : Ev (fun k => corncribref05_bytes.f k n 2) (strOfNums (lo2 n)) := by
  have := rbytes_l0 n 2 (by omega) 2 0 [] (by omega) rfl
  simpa [List.range_succ, corncribref05_bytes.f, lo2] using this
theorem rbytes_four (n : Int) : Ev (fun k => corncribref05_bytes.f k n 4) (strOfNums (lo4 n)) := by
  have := rbytes_l0 n 4 (by omega) 4 0 [] (by omega) rfl
  simpa [List.range_succ, corncribref05_bytes.f, lo4] using this
theorem one_ev (t : ByteArray) (ht : t.size ≤ 4611686018427387904) : Ev (fun k => corncribref05_One.f k t) (frameB t) := by
  have hz : (headB t).size ≤ 9223372036854775807 := by rw [headB_size]; omega
  have h1 := rsum_ev (headB t) hz
  unfold corncribref05_One.f
  refine Ev.bind (rbytes_two t.size) (Ev.pos (by rw [strOfNums_size]; simp [lo2]; omega) (Ev.bind h1 (Ev.bind (rbytes_four _) (Ev.pos ?_ (Ev.now _)))))
  show (headB t).size + _ ≤ _
  rw [headB_size, strOfNums_size]
  simp [lo4]
  omega

/-- What is found at a place. -/
def restB (s : ByteArray) (at' : Int) : ByteArray := s.extract at'.toNat s.size
def longB (r : ByteArray) : Int := bt r 0 + 256 * bt r 1
def nextB (s : ByteArray) (at' : Int) : ByteArray × Int × Int :=
  if at' < 0 ∨ (s.size : Int) < at' then (⟨#[]⟩, 0, 1)
  else if (restB s at').size < 2 then (⟨#[]⟩, 0, 50)
  else if 4096 < longB (restB s at') then (⟨#[]⟩, 0, 2)
  else if ((restB s at').size : Int) < longB (restB s at') + 6 then (⟨#[]⟩, 0, 50)
  else if frameB ((restB s at').extract 2 (2 + longB (restB s at')).toNat) = (restB s at').extract 0 (longB (restB s at') + 6).toNat then ((restB s at').extract 2 (2 + longB (restB s at')).toNat, at' + longB (restB s at') + 6, 0)
  else (⟨#[]⟩, 0, 51)
theorem long_or (r : ByteArray) : Go.bits .or .i64 (wrap64 (bt r 0)) (wrap64 ((wrap64 (bt r 1)) * 256)) = longB r := by
  obtain ⟨h0, h0'⟩ := bt_range r 0
  obtain ⟨h1, h1'⟩ := bt_range r 1
  obtain ⟨a, ha⟩ := Int.eq_ofNat_of_zero_le h0
  obtain ⟨b, hb⟩ := Int.eq_ofNat_of_zero_le h1
  have ha' : (a : Int) ≤ 255 := by omega
  have hb' : (b : Int) ≤ 255 := by omega
  unfold longB
  rw [ha, hb]
  clear h0 h0' h1 h1' ha hb
  rw [wrap_id (n := (a : Int)) (by omega) (by omega), wrap_id (n := (b : Int)) (by omega) (by omega), wrap_id (n := (b : Int) * 256) (by omega) (by omega)]
  have e : (b : Int) * 256 = ((b * 256 : Nat) : Int) := by omega
  rw [e, or_i64_nat _ _ (by omega) (by omega)]
  have e2 : a ||| b * 256 = 2 ^ 8 * b + a := by
    rw [Nat.or_comm, Nat.mul_comm]
    exact (Nat.two_pow_add_eq_or_of_lt (i := 8) (b := a) (by omega) b).symm
  rw [e2]
  omega
theorem long_range (r : ByteArray) : 0 ≤ longB r ∧ longB r ≤ 65535 := by
  obtain ⟨h0, h0'⟩ := bt_range r 0
  obtain ⟨h1, h1'⟩ := bt_range r 1
  unfold longB
  omega
theorem long_add (r : ByteArray) : wrap64 ((wrap64 (bt r 0)) + (wrap64 (256 * (wrap64 (bt r 1))))) = longB r := by
  obtain ⟨h0, h0'⟩ := bt_range r 0
  obtain ⟨h1, h1'⟩ := bt_range r 1
  unfold longB
  rw [wrap_id (n := bt r 0) (by omega) (by omega), wrap_id (n := bt r 1) (by omega) (by omega), wrap_id (n := 256 * bt r 1) (by omega) (by omega), wrap_id (by omega) (by omega)]
theorem w2 (r : ByteArray) : wrap64 (2 + longB r) = 2 + longB r := by have := long_range r; rw [wrap_id (by omega) (by omega)]
theorem w6 (r : ByteArray) : wrap64 (longB r + 6) = longB r + 6 := by have := long_range r; rw [wrap_id (by omega) (by omega)]
theorem w24 (r : ByteArray) : wrap64 (2 + longB r + 4) = longB r + 6 := by have := long_range r; rw [wrap_id (by omega) (by omega)]; omega
theorem toList_inj {s t : ByteArray} : s.toList = t.toList ↔ s = t := ⟨fun h => B_inj (by rw [← toList_eq, ← toList_eq]; exact h), fun h => by rw [h]⟩
theorem rest_size (s : ByteArray) (i : Int) : (restB s i).size = s.size - i.toNat := by unfold restB; rw [ByteArray.size_extract, Nat.min_self]
theorem cut_size (r : ByteArray) (h : longB r ≤ 4096) : (r.extract 2 (2 + longB r).toNat).size ≤ 4096 := by
  have := long_range r
  rw [ByteArray.size_extract]; omega

theorem next_ev (s : ByteArray) (hs : s.size ≤ 4611686018427387904) (i : Int) : Ev (fun k => sum_Next.f k s i) (nextB s i) := by
  have hl := long_range (restB s i)
  have hsz := rest_size s i
  unfold sum_Next.f nextB
  by_cases h1 : i < 0
  · rw [if_pos (Or.inl h1)]
    exact Ev.pos h1 (Ev.step (f := fun _ => some _) (fun k => by simp only [sum_Next.j0, if_true]) (Ev.now _))
  refine Ev.neg h1 ?_
  by_cases h2 : (s.size : Int) < i
  · rw [if_pos (Or.inr h2), decide_eq_true h2]
    exact Ev.step (f := fun _ => some _) (fun k => by simp only [sum_Next.j0, if_true]) (Ev.now _)
  rw [if_neg (by omega), decide_eq_false h2]
  obtain ⟨r, hr⟩ : ∃ r, r = s.extract i.toNat s.size := ⟨_, rfl⟩
  have hR : restB s i = r := hr.symm
  rw [hR] at hl hsz ⊢
  refine Ev.step (fun k => by simp only [sum_Next.j0]; rw [if_neg (by simp), if_pos (by omega), if_pos (by omega)]) ?_
  simp only [← hr, long_or, w2, w24]
  by_cases h3 : r.size < 2
  · rw [if_pos h3]; exact Ev.pos (by omega) (Ev.now _)
  rw [if_neg h3]
  refine Ev.neg (by omega) (Ev.pos (by omega) (Ev.pos (by omega) ?_))
  by_cases h4 : 4096 < longB r
  · rw [if_pos h4]; exact Ev.pos h4 (Ev.now _)
  rw [if_neg h4]
  refine Ev.neg h4 ?_
  by_cases h5 : (r.size : Int) < longB r + 6
  · rw [if_pos h5]; exact Ev.pos h5 (Ev.now _)
  rw [if_neg h5]
  have hc := cut_size r (by omega)
  refine Ev.neg h5 (Ev.pos (by omega) (Ev.pos (by omega) (Ev.bind (frame_ev _ (by omega)) (Ev.pos (by omega) (Ev.pos (by omega) ?_)))))
  by_cases h6 : frameB (r.extract 2 (2 + longB r).toNat) = r.extract 0 (longB r + 6).toNat
  · rw [if_pos h6]
    refine Ev.pos (toList_inj.2 h6) ?_
    rw [wrap_id (by omega) (by omega), ← Int.add_assoc]
    exact Ev.now _
  · rw [if_neg h6]
    exact Ev.neg (fun h => h6 (toList_inj.1 h)) (Ev.now _)
theorem rnext_ev (s : ByteArray) (hs : s.size ≤ 4611686018427387904) (i : Int) : Ev (fun k => corncribref05_Next.f k s i) (nextB s i) := by
  have hl := long_range (restB s i)
  have hsz := rest_size s i
  unfold corncribref05_Next.f nextB
  by_cases h1 : i < 0
  · rw [if_pos (Or.inl h1)]
    exact Ev.pos h1 (Ev.step (f := fun _ => some _) (fun k => by simp only [corncribref05_Next.j0, if_true]) (Ev.now _))
  refine Ev.neg h1 ?_
  by_cases h2 : (s.size : Int) < i
  · rw [if_pos (Or.inr h2), decide_eq_true h2]
    exact Ev.step (f := fun _ => some _) (fun k => by simp only [corncribref05_Next.j0, if_true]) (Ev.now _)
  rw [if_neg (by omega), decide_eq_false h2]
  obtain ⟨r, hr⟩ : ∃ r, r = s.extract i.toNat s.size := ⟨_, rfl⟩
  have hR : restB s i = r := hr.symm
  rw [hR] at hl hsz ⊢
  refine Ev.step (fun k => by simp only [corncribref05_Next.j0]; rw [if_neg (by simp), if_pos (by omega), if_pos (by omega)]) ?_
  simp only [← hr, long_add, w2, w6]
  by_cases h3 : r.size < 2
  · rw [if_pos h3]; exact Ev.pos (by omega) (Ev.now _)
  rw [if_neg h3]
  refine Ev.neg (by omega) (Ev.pos (by omega) (Ev.pos (by omega) ?_))
  by_cases h4 : 4096 < longB r
  · rw [if_pos h4]; exact Ev.pos h4 (Ev.now _)
  rw [if_neg h4]
  refine Ev.neg h4 ?_
  by_cases h5 : (r.size : Int) < longB r + 6
  · rw [if_pos h5]; exact Ev.pos h5 (Ev.now _)
  rw [if_neg h5]
  have hc := cut_size r (by omega)
  refine Ev.neg h5 (Ev.pos (by omega) (Ev.pos (by omega) (Ev.pos (by omega) (Ev.pos (by omega) (Ev.bind (one_ev _ (by omega)) ?_)))))
  by_cases h6 : frameB (r.extract 2 (2 + longB r).toNat) = r.extract 0 (longB r + 6).toNat
  · rw [if_pos h6]
    refine Ev.pos (toList_inj.2 h6.symm) ?_
    rw [wrap_id (n := i + longB r) (by omega) (by omega), wrap_id (by omega) (by omega)]
    exact Ev.now _
  · rw [if_neg h6]
    exact Ev.neg (fun h => h6 (toList_inj.1 h).symm) (Ev.now _)
end Go.Proofs.Ytdajpglkggmpoaa.SumFns
