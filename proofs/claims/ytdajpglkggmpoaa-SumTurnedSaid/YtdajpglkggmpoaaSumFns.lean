import Derived.Test.YtdajpglkggmpoaaSumMath
import Derived.Test.YtdajpglkggmpoaaFcorncriblaw05works
import Derived.Test.YtdajpglkggmpoaaFsumFrame
/- What the functions of the package sum compute: the sums of SumMath. -/
namespace Go.Proofs.Ytdajpglkggmpoaa.SumFns
open Go.RowKit Go.Proofs.Ytdajpglkggmpoaa.Base Go.Proofs.Ytdajpglkggmpoaa.SumMath Go.Proofs.Ytdajpglkggmpoaa.Al Go.Proofs.YtdajpglkggmpoaaW.PrintWords

theorem take_l1 (s : ByteArray) (n i r : Int) : ∀ (m : Nat), m ≤ 8 → ∀ y : BitVec 32, Ev (fun k => sum_running_take.l0 k ((crcSteps m y).toNat : Int) s n (wrap64 (i + 1))) r →
    Ev (fun k => sum_running_take.l1 k (y.toNat : Int) s n i (8 - (m : Int))) r
  | 0, _, y, h => Ev.step (f := fun k => sum_running_take.l0 k (y.toNat : Int) s n (wrap64 (i + 1))) (fun k => by
      simp only [sum_running_take.l1]; rw [if_neg (by omega)]) h
  | m + 1, hm, y, h => by
    have ih := take_l1 s n i r m (by omega) (crcStep y) h
    refine Ev.step (f := fun k => sum_running_take.l1 k ((crcStep y).toNat : Int) s n i (8 - (m : Int))) (fun k => ?_) ih
    simp only [sum_running_take.l1]
    rw [if_pos (by omega), step_go, wrap_id (by omega) (by omega)]
    congr 1
    omega
theorem take_l0 (s : ByteArray) (hs : s.size ≤ 9223372036854775807) : ∀ (d i : Nat) (x : BitVec 32), i + d = s.size →
    Ev (fun k => sum_running_take.l0 k (x.toNat : Int) s (s.size : Int) (i : Int)) ((crc x ((B s).drop i)).toNat : Int)
  | 0, i, x, h => Ev.step (f := fun _ => some (x.toNat : Int)) (fun k => by simp only [sum_running_take.l0]; rw [if_neg (by omega)]) (by
      rw [List.drop_of_length_le (by rw [B_len]; omega)]; exact Ev.now _)
  | d + 1, i, x, h => by
    have hi : i < (B s).length := by rw [B_len]; omega
    rw [List.drop_eq_getElem_cons hi, crc_cons]
    have ih := take_l0 s hs d (i + 1) (eat x (B s)[i]) (by omega)
    have e : wrap64 ((i : Int) + 1) = ((i + 1 : Nat) : Int) := by rw [wrap_id (by omega) (by omega)]; omega
    rw [← e] at ih
    have h1 := take_l1 s (s.size : Int) (i : Int) _ 8 (by omega) (x ^^^ ((B s)[i]).toBitVec.setWidth 32) ih
    refine Ev.step (fun k => ?_) h1
    simp only [sum_running_take.l0]
    rw [if_pos (by omega), if_pos (by omega), if_pos (by omega), bt_B s i hi, on_go]
    rfl
theorem take_ev (x : BitVec 32) (s : ByteArray) (hs : s.size ≤ 9223372036854775807) : Ev (fun k => sum_running_take.f k (x.toNat : Int) s) ((crc x (B s)).toNat : Int) := by
  have := take_l0 s hs s.size 0 x (by omega)
  simpa [sum_running_take.f] using this

/-- The bytes of pieces, one behind the other. -/
def whole (l : List ByteArray) : List UInt8 := (l.map B).flatten
theorem of_l0 (l : List ByteArray) (hl : l.length ≤ 9223372036854775807) (hs : ∀ s ∈ l, s.size ≤ 9223372036854775807) : ∀ (d i : Nat) (x : BitVec 32), i + d = l.length →
    Ev (fun k => sum_of.l0 k (x.toNat : Int) l (l.length : Int) (i : Int)) ((crc x (whole (l.drop i)) ^^^ crcStart).toNat : Int)
  | 0, i, x, h => Ev.step (f := fun _ => some ((x ^^^ crcStart).toNat : Int)) (fun k => by simp only [sum_of.l0]; rw [if_neg (by omega), last_go]) (by
      rw [List.drop_of_length_le (by omega)]; exact Ev.now _)
  | d + 1, i, x, h => by
    have hi : i < l.length := by omega
    have e0 : l.drop i = l[i] :: l.drop (i + 1) := List.drop_eq_getElem_cons hi
    have e1 : whole (l.drop i) = B l[i] ++ whole (l.drop (i + 1)) := by rw [e0]; rfl
    rw [e1, crc_append]
    have ih := of_l0 l hl hs d (i + 1) (crc x (B l[i])) (by omega)
    have e : wrap64 ((i : Int) + 1) = ((i + 1 : Nat) : Int) := by rw [wrap_id (by omega) (by omega)]; omega
    rw [← e] at ih
    have ht := take_ev x l[i] (hs _ (List.getElem_mem hi))
    have hr : rdOf ByteArray.empty l (i : Int) = l[i] := by simp [rdOf, List.getD_eq_getElem?_getD, hi]
    refine Ev.step (f := fun k => (sum_running_take.f k (x.toNat : Int) l[i]).bind fun t => sum_of.l0 k t l (l.length : Int) (wrap64 ((i : Int) + 1))) (fun k => ?_) (Ev.bind ht ih)
    simp only [sum_of.l0]
    rw [if_pos (by omega), if_pos (by omega), if_pos (by omega), hr]
theorem of_ev (l : List ByteArray) (hl : l.length ≤ 9223372036854775807) (hs : ∀ s ∈ l, s.size ≤ 9223372036854775807) : Ev (fun k => sum_of.f k l) ((crcSum (whole l)).toNat : Int) := by
  have := of_l0 l hl hs l.length 0 crcStart (by omega)
  exact this
theorem Of_ev (l : List ByteArray) (hl : l.length ≤ 9223372036854775807) (hs : ∀ s ∈ l, s.size ≤ 9223372036854775807) : Ev (fun k => sum_Of.f k l) ((crcSum (whole l)).toNat : Int) := by
  have h := of_ev l hl hs
  have hlt := (crcSum (whole l)).isLt
  refine Ev.bind h ?_
  rw [wrap_id (by omega) (by omega)]
  exact Ev.now _
theorem works_ev : Ev (fun k => corncriblaw05_works.f k) true := by
  have h1 := Of_ev [(⟨#[49, 50, 51, 52]⟩ : ByteArray), (⟨#[53, 54, 55, 56, 57]⟩ : ByteArray)] (by decide) (by intro s hs; simp at hs; rcases hs with rfl | rfl <;> decide)
  have h2 := Of_ev [] (by decide) (by simp)
  have e1 : ((crcSum (whole [(⟨#[49, 50, 51, 52]⟩ : ByteArray), (⟨#[53, 54, 55, 56, 57]⟩ : ByteArray)])).toNat : Int) = 3421780262 := by decide +kernel
  have e2 : ((crcSum (whole [])).toNat : Int) = 0 := by decide +kernel
  rw [e1] at h1
  rw [e2] at h2
  refine Ev.bind h1 ?_
  simp only [if_true]
  exact Ev.bind h2 (Ev.now _)
end Go.Proofs.Ytdajpglkggmpoaa.SumFns
