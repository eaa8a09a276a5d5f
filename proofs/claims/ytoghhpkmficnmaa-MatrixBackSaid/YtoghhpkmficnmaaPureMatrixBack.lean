/- MatrixBack's plain statement: an inverse, times its matrix, is the identity, from both sides; the inverse of the inverse is the matrix; one with two rows alike has none. -/
import Derived.Test.YtoghhpkmficnmaaPrb
import Derived.Test.YtoghhpkmficnmaaFcorncriblaw02MatrixBack
namespace Go.Proofs.Ytoghhpkmficnmaa.Al
open Go.RowKit Go.Proofs.Ytoghhpkmficnmaa.GfMath Go.Proofs.Ytoghhpkmficnmaa.GfRef Go.Proofs.Ytoghhpkmficnmaa.Base Go.Proofs.Ytoghhpkmficnmaa.Bytes Go.Proofs.Ytoghhpkmficnmaa.Grid Go.Proofs.YtoghhpkmficnmaaW.PrintWords Go.Proofs.YtoghhpkmficnmaaW.PrintMore
set_option linter.unusedVariables false
/-- A kernel and an inverse do not go together. -/
theorem no_both {n : Nat} {A X : Mx} {v : Nat → Nat} (hA : By2 A) (hX : By2 X) (h : ∀ i j, i < n → j < n → mm n X A i j = Ix i j) (hv : ∀ j, v j < 256) (hz : ∀ i, i < n → xs n (fun j => mulN (A i j) (v j)) = 0) : ∀ j, j < n → v j = 0 := fun j hj => by
  have bV : By2 (fun k _ => v k) := fun k _ => hv k
  have h1 : mm n Ix (fun k _ => v k) j 0 = v j := mm_one_left bV hj
  rw [← h1, mm_congr (A' := mm n X A) (B' := fun k _ => v k) (fun k hk => (h j k hj hk).symm) (fun _ _ => rfl), mm_assoc hX hA bV]
  refine xs_none fun k hk => ?_
  rw [show mm n A (fun k _ => v k) k 0 = 0 from hz k hk]
  exact mul_zero _
/-- Two inverses, one from each side, are one. -/
theorem inv_uniq {n : Nat} {A X Y : Mx} (hA : By2 A) (hX : By2 X) (hY : By2 Y) (h1 : ∀ i j, i < n → j < n → mm n X A i j = Ix i j) (h2 : ∀ i j, i < n → j < n → mm n A Y i j = Ix i j) : ∀ i j, i < n → j < n → X i j = Y i j := fun i j hi hj => by
  have e1 : mm n X (mm n A Y) i j = X i j := by
    rw [mm_congr (A' := X) (B' := Ix) (fun _ _ => rfl) (fun k hk => h2 k j hk hj)]; exact mm_one_right hX hj
  rw [← e1, ← mm_assoc hX hA hY, mm_congr (A' := Ix) (B' := Y) (fun k hk => h1 i k hi hk) (fun _ _ => rfl)]
  exact mm_one_left hY hi
/-- A matrix with two rows alike. -/
theorem twice_none {n : Nat} {s : ByteArray} (h : okM n n s) (hn : 2 ≤ n) (hs : ∀ j, j < n → entN n s (n - 1) j = entN n s 0 j) : matrix_Inverse.f n n s = some (0, 0, ⟨#[]⟩, 20) := by
  rcases inv_f h with ⟨h1, _⟩ | ⟨R, hR, _, h2, h3⟩
  · exact h1
  · exfalso
    have e1 := h3 0 0 (by omega) (by omega)
    have e2 := h3 (n - 1) 0 (by omega) (by omega)
    have e3 : mm n (entN n s) R (n - 1) 0 = mm n (entN n s) R 0 0 := xs_congr fun k hk => by rw [hs k hk]
    rw [e2, e1] at e3
    unfold Ix at e3
    rw [if_neg (by omega), if_pos rfl] at e3
    cases e3
theorem idf {n : Nat} (h : 1 ≤ n ∧ n ≤ 255) : matrix_Identity.f n = some ((n : Int), (n : Int), cellsOf n n ixI, 0) := by
  unfold matrix_Identity.f idV
  rw [if_pos (by omega)]
  simp only [Int.toNat_natCast]
theorem back_j0 {n : Nat} (hn : 1 ≤ n ∧ n ≤ 6) (s : ByteArray) (h : okM n n s) {r : Int × Int × ByteArray × Int} (hr : matrix_Inverse.f n n s = some r) :
    Ev (fun k => corncriblaw02_MatrixBack.j0 k r.2.2.2 n n s r.1 r.2.1 r.2.2.1) true := by
  refine Ev.succ ?_
  simp only [corncriblaw02_MatrixBack.j0]
  have hs : s.size = n * n := by have := h.2.2.2.2; rw [← Int.natCast_mul] at this; omega
  rcases inv_f h with ⟨h1, _⟩ | ⟨R, hR, h1, h2, h3⟩
  · rw [hr] at h1
    obtain rfl := Option.some.inj h1
    refine Ev.pos rfl ?_
    show Ev (fun k => some (((0 : Int) == 0) && (((0 : Int) == 0) && ((⟨#[]⟩ : ByteArray).toList == ([] : List UInt8))))) true
    rw [toList_eq]
    exact Ev.now _
  · rw [hr] at h1
    obtain rfl := Option.some.inj h1
    refine Ev.neg (show ¬ (0 : Int) = 20 by decide) ?_
    have hc := ok_cells (n := n) (m := n) (toI R) hn.1 (by omega) hn.1 (by omega)
    have hE : ∀ i j, i < n → j < n → entN n (cellsOf n n (toI R)) i j = R i j := fun i j hi hj => ent_toI hR hi hj
    have hI := entN_by n s
    have hB := entN_by n (cellsOf n n (toI R))
    have g1 : ∀ i j, i < n → j < n → mm n (entN n s) (entN n (cellsOf n n (toI R))) i j = Ix i j := fun i j hi hj => by
      rw [mm_congr (A' := entN n s) (B' := R) (fun _ _ => rfl) (fun k hk => hE k j hk hj)]; exact h3 i j hi hj
    have g2 : ∀ i j, i < n → j < n → mm n (entN n (cellsOf n n (toI R))) (entN n s) i j = Ix i j := fun i j hi hj => by
      rw [mm_congr (A' := R) (B' := entN n s) (fun k hk => hE i k hi hk) (fun _ _ => rfl)]; exact h2 i j hi hj
    have e1 : cellsOf n n (toI (mm n (entN n (cellsOf n n (toI R))) (entN n s))) = cellsOf n n ixI := cellsOf_congr fun i j hi hj => (congrArg (fun z : Nat => (z : Int)) (g2 i j hi hj)).trans (toI_Ix i j)
    have e2 : cellsOf n n (toI (mm n (entN n s) (entN n (cellsOf n n (toI R))))) = cellsOf n n ixI := cellsOf_congr fun i j hi hj => (congrArg (fun z : Nat => (z : Int)) (g1 i j hi hj)).trans (toI_Ix i j)
    rw [idf ⟨hn.1, by omega⟩, mul_f hc h, mul_f h hc, e1, e2]
    simp only [Option.bind_some]
    rcases inv_f hc with ⟨_, v, hv, ⟨j, hj, hne⟩, hz⟩ | ⟨Y, hY, h4, h5, h6⟩
    · exact absurd (no_both hB hI g1 hv hz j hj) hne
    · rw [h4]
      have e3 : cellsOf n n (toI Y) = s := by
        rw [← cells_ent hs]
        refine cellsOf_congr fun i j hi hj => ?_
        unfold toI
        rw [inv_uniq hB hY hI h5 g2 i j hi hj]
      rw [e3]
      simp only [Option.bind_some, beq_self_eq_true, Bool.and_true, if_true]
      exact Ev.now _
theorem bt_app_left {s t : ByteArray} {k : Nat} (h : k < s.size) : bt (s ++ t) (k : Int) = bt s (k : Int) := by
  have h1 : k < (B (s ++ t)).length := by rw [B_append, List.length_append, B_len]; omega
  have h2 : k < (B s).length := by rw [B_len]; exact h
  rw [bt_B _ k h1, bt_B _ k h2]
  congr 2
  simp only [B_append]
  exact List.getElem_append_left h2
theorem bt_app_right {s t : ByteArray} {k : Nat} (h : k < t.size) : bt (s ++ t) ((s.size + k : Nat) : Int) = bt t (k : Int) := by
  have h1 : s.size + k < (B (s ++ t)).length := by rw [B_append, List.length_append, B_len, B_len]; omega
  have h2 : k < (B t).length := by rw [B_len]; exact h
  rw [bt_B _ _ h1, bt_B _ k h2]
  congr 2
  simp only [B_append]
  rw [List.getElem_append_right (by rw [B_len]; omega)]
  congr 1
  rw [B_len]; omega
end Go.Proofs.Ytoghhpkmficnmaa.Al
namespace Go.Proofs.Ytoghhpkmficnmaa.Pure
open Go.RowKit Go.Proofs.Ytoghhpkmficnmaa.GfMath Go.Proofs.Ytoghhpkmficnmaa.GfRef Go.Proofs.Ytoghhpkmficnmaa.Grid Go.Proofs.Ytoghhpkmficnmaa.Al Go.Proofs.Ytoghhpkmficnmaa.Base Go.Proofs.YtoghhpkmficnmaaW.PrintWords
theorem MatrixBack : corncriblaw02_MatrixBack.Pure := by
  intro a0 a1 _ _
  refine Ev.rounds (g := fun k => corncriblaw02_MatrixBack.f k a0 a1) ?_
  unfold corncriblaw02_MatrixBack.f
  rw [works_f, side_f]
  simp only [Option.bind_some, if_true]
  rw [made_f]
  simp only [Option.bind_some]
  have hn := sideN_b a0
  obtain ⟨n, hnn⟩ : ∃ n, n = sideN a0 := ⟨_, rfl⟩
  rw [← hnn] at hn ⊢
  have h := ok_made (n := n) (m := n) a1 hn.1 hn.2 hn.1 hn.2
  have hs := made_size (n * n) a1
  generalize madeS (n * n) a1 = s at h hs
  rcases hr : matrix_Inverse.f n n s with _ | r
  · rcases inv_f h with ⟨h1, _⟩ | ⟨R, _, h1, _⟩ <;> rw [hr] at h1 <;> cases h1
  · simp only [Option.bind_some]
    have hj := back_j0 hn s h hr
    by_cases h1 : (n : Int) > 1
    · have hnn2 : n * n ≤ 6 * 6 := Nat.mul_le_mul hn.2 hn.2
      have hn2 : 2 ≤ n := by omega
      have h2n : 2 * n ≤ n * n := Nat.mul_le_mul_right n hn2
      have hw : wrap64 (2 * (n : Int)) = ((2 * n : Nat) : Int) := by rw [wrap_id (by omega) (by omega)]; omega
      rw [hw, Int.toNat_natCast, Int.toNat_natCast]
      have z1 : (s.extract n s.size).size = n * n - n := by rw [ByteArray.size_extract, hs]; omega
      have z2 : (s.extract n (2 * n)).size = n := by rw [ByteArray.size_extract, hs]; omega
      refine Ev.pos h1 (Ev.pos (by omega) (Ev.pos (by omega) (Ev.pos (by omega) (Ev.pos (by omega) (Ev.pos (by rw [z1, z2]; omega) ?_)))))
      have hz : (s.extract n s.size ++ s.extract n (2 * n)).size = n * n := by rw [ByteArray.size_append, z1, z2]; omega
      have ht : okM n n (s.extract n s.size ++ s.extract n (2 * n)) := ⟨by omega, by omega, by omega, by omega, by rw [hz, Int.natCast_mul]⟩
      have hq : ∀ j, j < n → entN n (s.extract n s.size ++ s.extract n (2 * n)) (n - 1) j = entN n (s.extract n s.size ++ s.extract n (2 * n)) 0 j := fun j hj => by
        unfold entN
        have e1 : (n - 1) * n + j = (s.extract n s.size).size + j := by rw [z1, Nat.sub_mul, Nat.one_mul]
        rw [e1, bt_app_right (by rw [z2]; exact hj), Nat.zero_mul, Nat.zero_add, bt_app_left (by rw [z1]; omega)]
        rw [show 2 * n = n + n by omega, bt_extract s n n (by omega) j hj, show s.size = n + (n * n - n) by omega, bt_extract s n (n * n - n) (by omega) j (by omega)]
      rw [twice_none ht hn2 hq]
      simp only [Option.bind_some]
      exact Ev.pos trivial hj
    · exact Ev.neg h1 hj
end Go.Proofs.Ytoghhpkmficnmaa.Pure
