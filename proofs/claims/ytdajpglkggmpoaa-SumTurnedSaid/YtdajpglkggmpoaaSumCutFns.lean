import Derived.Test.YtdajpglkggmpoaaSumNextFns
import Derived.Test.YtdajpglkggmpoaaFcorncribbookAmong
/- What a frame's first bytes tell; a number from 0 on. -/
namespace Go.Proofs.Ytdajpglkggmpoaa.SumFns
open Go.RowKit Go.Proofs.Ytdajpglkggmpoaa.Base Go.Proofs.Ytdajpglkggmpoaa.SumMath Go.Proofs.Ytdajpglkggmpoaa.Al Go.Proofs.YtdajpglkggmpoaaW.PrintWords Go.Proofs.YtdajpglkggmpoaaW.PrintMore

theorem wf_i64 {n : Int} (h : (Lit.int .i64 n).wf = true) : -9223372036854775808 ≤ n ∧ n ≤ 9223372036854775807 := by
  simpa [Lit.wf, IntKind.min, IntKind.max, IntKind.signed, IntKind.bits] using h
theorem among_eq (a n : Int) (h0 : 0 < n) (hn : n ≤ 4611686018427387904) : corncribbook_Among.f a n = some (a % n) := by
  unfold corncribbook_Among.f
  rw [if_neg (by omega)]
  have h1 : -n < Int.tmod a n ∧ (Int.tmod a n) % n = a % n := by
    rcases Int.le_total 0 a with ha | ha
    · rw [Int.tmod_eq_emod_of_nonneg ha]
      have := Int.emod_nonneg a (by omega : n ≠ 0)
      exact ⟨by omega, Int.emod_emod_of_dvd _ (Int.dvd_refl _)⟩
    · obtain ⟨b, rfl⟩ : ∃ b, a = -b := ⟨-a, by omega⟩
      rw [Int.neg_tmod, Int.tmod_eq_emod_of_nonneg (by omega)]
      have := Int.emod_lt_of_pos b h0
      refine ⟨by omega, ?_⟩
      rw [Int.neg_emod_eq_sub_emod, Int.neg_emod_eq_sub_emod, Int.sub_emod_emod]
  have h2 : Int.tmod a n < n := Int.tmod_lt_of_pos a h0
  obtain ⟨h1, h3⟩ := h1
  rw [wrap_id (by omega) (by omega), Int.tmod_eq_emod_of_nonneg (by omega), Int.add_emod_right, h3]
theorem bt_some {s : ByteArray} {i : Nat} {b : UInt8} (h : (B s)[i]? = some b) : bt s (i : Int) = (b.toNat : Int) := by
  obtain ⟨hi, rfl⟩ := List.getElem?_eq_some_iff.1 h
  exact bt_B s i hi
theorem byte_toNat (n : Int) : (UInt8.ofNat (n % 256).toNat).toNat = (n % 256).toNat := by
  exact UInt8.toNat_ofNat_of_lt' (by show _ < 256; omega)
theorem long_of_head (r : ByteArray) (n : Int) (h0 : 0 ≤ n) (hn : n ≤ 65535) (m : List UInt8) (h : B r = B (strOfNums (lo2 n)) ++ m) : longB r = n := by
  have e0 : (B r)[0]? = some (UInt8.ofNat (n % 256).toNat) := by rw [h]; rfl
  have e1 : (B r)[1]? = some (UInt8.ofNat ((n / 256) % 256).toNat) := by rw [h]; rfl
  have b0 : bt r 0 = _ := bt_some e0
  have b1 : bt r 1 = _ := bt_some e1
  unfold longB
  rw [b0, b1, byte_toNat, byte_toNat]
  omega
theorem B_frame (t : ByteArray) : B (frameB t) = B (strOfNums (lo2 t.size)) ++ (B t ++ B (strOfNums (lo4 (sumOf (headB t))))) := by
  unfold frameB headB
  rw [B_append, B_append, List.append_assoc]
end Go.Proofs.Ytdajpglkggmpoaa.SumFns
