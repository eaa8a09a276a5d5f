import Derived.Test.YtdajpglkggmpoaaSumCutFns
/- What is turned is seen: bits that are turned within 32 that follow one another leave no frame that may be. -/
namespace Go.Proofs.Ytdajpglkggmpoaa.SumMath
open Go.RowKit Go.Proofs.Ytdajpglkggmpoaa.Base Go.Proofs.Ytdajpglkggmpoaa.SumFns Go.Proofs.YtdajpglkggmpoaaW.PrintWords

def bitEat (x : BitVec 32) (c : Bool) : BitVec 32 := crcStep (x ^^^ (if c then 1#32 else 0#32))
def bitsN : Nat → BitVec 32 → List Bool
  | 0, _ => []
  | k + 1, v => v.getLsbD 0 :: bitsN k (v >>> 1)
theorem bitsN_length : ∀ k v, (bitsN k v).length = k
  | 0, _ => rfl
  | k + 1, v => by simp [bitsN, bitsN_length k]
theorem bitsN_get : ∀ (k : Nat) (v : BitVec 32) (j : Nat), j < k → (bitsN k v)[j]? = some (v.getLsbD j)
  | k + 1, v, 0, _ => rfl
  | k + 1, v, j + 1, h => by
    rw [bitsN, List.getElem?_cons_succ, bitsN_get k _ j (by omega), BitVec.getLsbD_ushiftRight, Nat.add_comm]
theorem step_even (v : BitVec 32) : crcStep (v ^^^ (if v.getLsbD 0 then 1#32 else 0#32)) = v >>> 1 := by
  have h0 : (v ^^^ (if v.getLsbD 0 then 1#32 else 0#32)).getLsbD 0 = false := by
    rw [BitVec.getLsbD_xor]
    cases v.getLsbD 0 <;> simp
  unfold crcStep
  rw [h0, BitVec.ushiftRight_xor_distrib]
  cases v.getLsbD 0 <;> simp
theorem step_split (x v : BitVec 32) : crcStep (x ^^^ v) = bitEat x (v.getLsbD 0) ^^^ (v >>> 1) := by
  rw [← step_even v, bitEat, ← step_xor]
  congr 1
  rw [show x ^^^ (if v.getLsbD 0 = true then 1#32 else 0#32) ^^^ (v ^^^ (if v.getLsbD 0 = true then 1#32 else 0#32)) = (x ^^^ v) ^^^ ((if v.getLsbD 0 = true then 1#32 else 0#32) ^^^ (if v.getLsbD 0 = true then 1#32 else 0#32)) from by ac_rfl, BitVec.xor_self, BitVec.xor_zero]
theorem steps_bits : ∀ (k : Nat) (x v : BitVec 32), v.toNat < 2 ^ k → crcSteps k (x ^^^ v) = (bitsN k v).foldl bitEat x
  | 0, x, v, h => by
    have : v = 0#32 := BitVec.eq_of_toNat_eq (by simp at h; simpa using h)
    subst this
    simp [crcSteps, bitsN]
  | k + 1, x, v, h => by
    show crcSteps k (crcStep (x ^^^ v)) = (bitsN k (v >>> 1)).foldl bitEat (bitEat x (v.getLsbD 0))
    rw [step_split]
    apply steps_bits k
    rw [BitVec.toNat_ushiftRight, Nat.shiftRight_eq_div_pow]
    rw [Nat.pow_succ] at h
    omega
def bits8 (b : UInt8) : List Bool := bitsN 8 (b.toBitVec.setWidth 32)
def bitsOf (l : List UInt8) : List Bool := l.flatMap bits8
theorem eat_bits (x : BitVec 32) (b : UInt8) : eat x b = (bits8 b).foldl bitEat x := by
  apply steps_bits 8
  rw [BitVec.toNat_setWidth]
  have := b.toBitVec.isLt
  omega
theorem crc_bits : ∀ (l : List UInt8) (x : BitVec 32), crc x l = (bitsOf l).foldl bitEat x
  | [], _ => rfl
  | b :: l, x => by
    rw [crc_cons, eat_bits, crc_bits l]
    simp [bitsOf, List.flatMap_cons]
theorem bitEat_xor (x y : BitVec 32) (c d : Bool) : bitEat (x ^^^ y) (c != d) = bitEat x c ^^^ bitEat y d := by
  unfold bitEat
  rw [← step_xor]
  congr 1
  rw [show x ^^^ (if c = true then 1#32 else 0#32) ^^^ (y ^^^ (if d = true then 1#32 else 0#32)) = (x ^^^ y) ^^^ ((if c = true then 1#32 else 0#32) ^^^ (if d = true then 1#32 else 0#32)) from by ac_rfl]
  congr 1
  cases c <;> cases d <;> rfl
theorem fold_xor : ∀ (l m : List Bool) (x y : BitVec 32), l.length = m.length → (List.zipWith (· != ·) l m).foldl bitEat (x ^^^ y) = l.foldl bitEat x ^^^ m.foldl bitEat y
  | [], [], _, _, _ => rfl
  | c :: l, d :: m, x, y, h => by
    simp only [List.zipWith_cons_cons, List.foldl_cons]
    rw [bitEat_xor]
    exact fold_xor l m _ _ (by simpa using h)
  | [], _ :: _, _, _, h => by simp at h
  | _ :: _, [], _, _, h => by simp at h
theorem fold_zeros : ∀ (l : List Bool) (x : BitVec 32), (∀ c ∈ l, c = false) → l.foldl bitEat x = crcSteps l.length x
  | [], _, _ => rfl
  | c :: l, x, h => by
    have hc := h c (by simp)
    subst hc
    have : bitEat x false = crcStep x := by simp [bitEat]
    rw [List.foldl_cons, this, fold_zeros l _ (fun d hd => h d (by simp [hd]))]
    rfl
/-- The number that bits are, the lowest first. -/
def ofBits : List Bool → Nat
  | [] => 0
  | c :: l => (if c then 1 else 0) + 2 * ofBits l
theorem ofBits_lt : ∀ l, ofBits l < 2 ^ l.length
  | [] => by simp [ofBits]
  | c :: l => by
    have := ofBits_lt l
    simp only [ofBits, List.length_cons, Nat.pow_succ]
    cases c <;> simp <;> omega
theorem bitsN_ofBits : ∀ (l : List Bool), l.length ≤ 32 → bitsN l.length (BitVec.ofNat 32 (ofBits l)) = l
  | [], _ => rfl
  | c :: l, h => by
    have hl := ofBits_lt l
    have h32 : 2 ^ l.length ≤ 2 ^ 31 := Nat.pow_le_pow_right (by decide) (by simpa using h)
    have e : BitVec.ofNat 32 (ofBits (c :: l)) >>> 1 = BitVec.ofNat 32 (ofBits l) := by
      apply BitVec.eq_of_toNat_eq
      rw [BitVec.toNat_ushiftRight, BitVec.toNat_ofNat, BitVec.toNat_ofNat, Nat.shiftRight_eq_div_pow, Nat.mod_eq_of_lt, Nat.mod_eq_of_lt (by omega)]
      · simp only [ofBits]; cases c <;> simp <;> omega
      · simp only [ofBits]; cases c <;> simp <;> omega
    show (BitVec.ofNat 32 (ofBits (c :: l))).getLsbD 0 :: bitsN l.length (BitVec.ofNat 32 (ofBits (c :: l)) >>> 1) = _
    rw [e, bitsN_ofBits l (by simp at h; omega)]
    congr 1
    rw [BitVec.getLsbD, BitVec.toNat_ofNat, Nat.mod_eq_of_lt (by simp only [ofBits]; cases c <;> simp <;> omega), Nat.testBit_zero]
    simp only [ofBits]
    cases c <;> simp <;> omega
theorem ofBits_zero : ∀ l, ofBits l = 0 → ∀ c ∈ l, c = false
  | [], _, c, hc => by simp at hc
  | d :: l, h, c, hc => by
    simp only [ofBits] at h
    have hd : d = false := by cases d <;> simp_all
    rcases List.mem_cons.1 hc with rfl | hc
    · exact hd
    · exact ofBits_zero l (by omega) c hc
theorem burst_zero (l : List Bool) (hl : l.length ≤ 32) (n : Nat) (h : crcSteps n (l.foldl bitEat 0#32) = 0#32) : ∀ c ∈ l, c = false := by
  have h1 := steps_ne n _ h
  have h2 : crcSteps l.length (0#32 ^^^ BitVec.ofNat 32 (ofBits l)) = 0#32 := by
    rw [steps_bits, bitsN_ofBits l hl]
    · exact h1
    · rw [BitVec.toNat_ofNat]
      exact Nat.lt_of_le_of_lt (Nat.mod_le _ _) (ofBits_lt l)
  have h3 := steps_ne _ _ h2
  rw [BitVec.zero_xor] at h3
  have h4 := congrArg BitVec.toNat h3
  have hlt := ofBits_lt l
  have h32 : 2 ^ l.length ≤ 2 ^ 32 := Nat.pow_le_pow_right (by decide) hl
  rw [BitVec.toNat_ofNat, Nat.mod_eq_of_lt (by omega)] at h4
  exact ofBits_zero l (by simpa using h4)
theorem burst (D : List Bool) (first : Nat) (h1 : ∀ j c, j < first → D[j]? = some c → c = false) (h2 : ∀ j c, first + 32 ≤ j → D[j]? = some c → c = false) (h : D.foldl bitEat 0#32 = 0#32) : ∀ c ∈ D, c = false := by
  have e : D = D.take first ++ ((D.drop first).take 32 ++ D.drop (first + 32)) := by
    rw [← List.drop_drop, List.take_append_drop, List.take_append_drop]
  have z1 : ∀ c ∈ D.take first, c = false := by
    intro c hc
    obtain ⟨j, hj⟩ := List.mem_iff_getElem?.1 hc
    rw [List.getElem?_take] at hj
    split at hj
    · exact h1 j c (by assumption) hj
    · cases hj
  have z2 : ∀ c ∈ D.drop (first + 32), c = false := by
    intro c hc
    obtain ⟨j, hj⟩ := List.mem_iff_getElem?.1 hc
    rw [List.getElem?_drop] at hj
    exact h2 _ c (by omega) hj
  rw [e, List.foldl_append, List.foldl_append, fold_zeros _ _ z1, steps_zero, fold_zeros _ _ z2] at h
  have z3 := burst_zero _ (by rw [List.length_take]; omega) _ h
  intro c hc
  rw [e] at hc
  rcases List.mem_append.1 hc with hc | hc
  · exact z1 c hc
  · rcases List.mem_append.1 hc with hc | hc
    · exact z3 c hc
    · exact z2 c hc
theorem bitsN_congr {k : Nat} {u v : BitVec 32} (h : ∀ j, j < k → u.getLsbD j = v.getLsbD j) : bitsN k u = bitsN k v := by
  apply List.ext_getElem?
  intro j
  by_cases hj : j < k
  · rw [bitsN_get _ _ _ hj, bitsN_get _ _ _ hj, h j hj]
  · rw [List.getElem?_eq_none (by rw [bitsN_length]; omega), List.getElem?_eq_none (by rw [bitsN_length]; omega)]
theorem bitsN_add : ∀ (a b : Nat) (v : BitVec 32), bitsN (a + b) v = bitsN a v ++ bitsN b (v >>> a)
  | 0, b, v => by simp [bitsN]
  | a + 1, b, v => by
    rw [Nat.succ_add]
    show v.getLsbD 0 :: bitsN (a + b) (v >>> 1) = v.getLsbD 0 :: bitsN a (v >>> 1) ++ _
    rw [bitsN_add a b, List.cons_append, ← BitVec.shiftRight_add, Nat.add_comm 1 a]
theorem bits8_get (b : UInt8) (j : Nat) (h : j < 8) : (bits8 b)[j]? = some (b.toNat.testBit j) := by
  unfold bits8
  rw [bitsN_get _ _ _ h, BitVec.getLsbD, BitVec.toNat_setWidth, Nat.mod_eq_of_lt (by have := b.toBitVec.isLt; omega)]
  rfl
theorem bits8_part (v : BitVec 32) (k : Nat) : bits8 (UInt8.ofNat (v.toNat / 2 ^ k % 256)) = bitsN 8 (v >>> k) := by
  apply List.ext_getElem?
  intro j
  by_cases hj : j < 8
  · rw [bits8_get _ _ hj, bitsN_get _ _ _ hj, BitVec.getLsbD_ushiftRight, BitVec.getLsbD, UInt8.toNat_ofNat_of_lt' (by show _ < 256; omega)]
    rw [show (256 : Nat) = 2 ^ 8 from rfl, Nat.testBit_mod_two_pow, Nat.testBit_div_two_pow]
    simp [hj, Nat.add_comm]
  · rw [List.getElem?_eq_none (by unfold bits8; rw [bitsN_length]; omega), List.getElem?_eq_none (by rw [bitsN_length]; omega)]
/-- A frame's whole sum is the same for each frame. -/
theorem word_bytes (v : BitVec 32) : bitsOf (B (strOfNums (lo4 (v.toNat : Int)))) = bitsN 32 v := by
  have e0 : ((v.toNat : Int) % 256).toNat = v.toNat / 2 ^ 0 % 256 := by omega
  have e1 : ((v.toNat : Int) / 256 % 256).toNat = v.toNat / 2 ^ 8 % 256 := by omega
  have e2 : ((v.toNat : Int) / 65536 % 256).toNat = v.toNat / 2 ^ 16 % 256 := by omega
  have e3 : ((v.toNat : Int) / 16777216 % 256).toNat = v.toNat / 2 ^ 24 % 256 := by omega
  have h : bitsN 32 v = _ := bitsN_add 8 24 v
  have h2 : bitsN 24 (v >>> 8) = _ := bitsN_add 8 16 (v >>> 8)
  have h3 : bitsN 16 (v >>> 8 >>> 8) = _ := bitsN_add 8 8 (v >>> 8 >>> 8)
  rw [show v >>> 8 >>> 8 >>> 8 = v >>> 24 from by rw [← BitVec.shiftRight_add, ← BitVec.shiftRight_add]] at h3
  rw [show v >>> 8 >>> 8 = v >>> 16 from by rw [← BitVec.shiftRight_add]] at h2 h3
  rw [h, h2, h3, B_nums]
  simp only [lo4, List.map_cons, List.map_nil, bitsOf, List.flatMap_cons, List.flatMap_nil, List.append_nil, e0, e1, e2, e3, bits8_part]
  rw [BitVec.ushiftRight_zero]
theorem crc_frame (t : ByteArray) : crc crcStart (B (frameB t)) = crcSteps 32 crcStart := by
  unfold frameB
  rw [B_append, crc_append, crc_bits (B (strOfNums _))]
  have e : sumOf (headB t) = ((crcSum (B (headB t))).toNat : Int) := rfl
  rw [e, word_bytes, ← steps_bits 32 _ _ (BitVec.isLt _)]
  congr 1
  unfold crcSum
  rw [← BitVec.xor_assoc, BitVec.xor_self, BitVec.zero_xor]
theorem bitsOf_length : ∀ l, (bitsOf l).length = 8 * l.length
  | [] => rfl
  | b :: l => by
    have := bitsOf_length l
    simp only [bitsOf, List.flatMap_cons, List.length_append, bits8, bitsN_length, List.length_cons] at this ⊢
    omega
theorem bits8_inj {b c : UInt8} (h : bits8 b = bits8 c) : b = c := by
  apply UInt8.toNat_inj.1
  apply Nat.eq_of_testBit_eq
  intro j
  by_cases hj : j < 8
  · have h1 := bits8_get b j hj
    rw [h, bits8_get c j hj] at h1
    exact (Option.some.inj h1).symm
  · have hb : b.toNat < 2 ^ j := Nat.lt_of_lt_of_le (b.toBitVec.isLt) (Nat.pow_le_pow_right (by decide) (by omega))
    have hc : c.toNat < 2 ^ j := Nat.lt_of_lt_of_le (c.toBitVec.isLt) (Nat.pow_le_pow_right (by decide) (by omega))
    rw [Nat.testBit_lt_two_pow hb, Nat.testBit_lt_two_pow hc]
theorem bitsOf_inj : ∀ {l m : List UInt8}, bitsOf l = bitsOf m → l = m
  | [], [], _ => rfl
  | b :: l, c :: m, h => by
    simp only [bitsOf, List.flatMap_cons] at h
    obtain ⟨h1, h2⟩ := List.append_inj h (by rw [bits8, bits8, bitsN_length, bitsN_length])
    rw [bits8_inj h1, bitsOf_inj (l := l) (m := m) h2]
  | [], c :: m, h => by
    have := congrArg List.length h
    rw [bitsOf_length, bitsOf_length] at this
    simp at this
  | b :: l, [], h => by
    have := congrArg List.length h
    rw [bitsOf_length, bitsOf_length] at this
    simp at this
/-- Two frames whose bits are unlike within 32 that follow one another are alike. -/
theorem frames_burst (t u : ByteArray) (first : Nat) (hl : t.size = u.size) (h : ∀ j, (j < first ∨ first + 32 ≤ j) → (bitsOf (B (frameB t)))[j]? = (bitsOf (B (frameB u)))[j]?) : frameB t = frameB u := by
  have hlen : (bitsOf (B (frameB t))).length = (bitsOf (B (frameB u))).length := by
    rw [bitsOf_length, bitsOf_length, B_len, B_len, frameB_size, frameB_size, hl]
  have hx := fold_xor _ _ crcStart crcStart hlen
  rw [← crc_bits, ← crc_bits, crc_frame, crc_frame, BitVec.xor_self, BitVec.xor_self] at hx
  have out : ∀ j c, (j < first ∨ first + 32 ≤ j) → (List.zipWith (· != ·) (bitsOf (B (frameB t))) (bitsOf (B (frameB u))))[j]? = some c → c = false := by
    intro j c hj hc
    rw [List.getElem?_zipWith, h j hj] at hc
    cases hd : (bitsOf (B (frameB u)))[j]? with
    | none => rw [hd] at hc; simp at hc
    | some d => rw [hd] at hc; simp at hc; exact hc
  have hz := burst _ first (fun j c hj => out j c (Or.inl hj)) (fun j c hj => out j c (Or.inr hj)) hx
  apply B_inj
  apply bitsOf_inj
  apply List.ext_getElem hlen
  intro j h1 h2
  have hj : j < (List.zipWith (· != ·) (bitsOf (B (frameB t))) (bitsOf (B (frameB u)))).length := by rw [List.length_zipWith]; omega
  have := hz _ (List.getElem_mem hj)
  rw [List.getElem_zipWith] at this
  simpa using this
end Go.Proofs.Ytdajpglkggmpoaa.SumMath
