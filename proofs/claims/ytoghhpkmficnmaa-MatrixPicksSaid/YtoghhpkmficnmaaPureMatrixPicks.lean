/- MatrixPicks' plain statement: what is picked is what the document picks. -/
import Derived.Test.YtoghhpkmficnmaaPdc
import Derived.Test.YtoghhpkmficnmaaFcorncriblaw02MatrixPicks
namespace Go.Proofs.Ytoghhpkmficnmaa.Al
open Go.RowKit Go.Proofs.Ytoghhpkmficnmaa.GfMath Go.Proofs.Ytoghhpkmficnmaa.GfRef Go.Proofs.Ytoghhpkmficnmaa.Base Go.Proofs.Ytoghhpkmficnmaa.Bytes Go.Proofs.Ytoghhpkmficnmaa.Grid Go.Proofs.YtoghhpkmficnmaaW.PrintWords Go.Proofs.YtoghhpkmficnmaaW.PrintMore
theorem rd_get {l : List Int} {i : Nat} : rd l (i : Int) = l.getD i 0 := by unfold rd; rw [Int.toNat_natCast]
theorem rpick_l1 {n m : Nat} {s : ByteArray} (h : okM n m s) {l : List Int} (hl : l.length ≤ 255) (ha : ∀ k : Nat, k < l.length → 0 ≤ rd l k ∧ rd l k < n) : ∀ (d i : Nat), i + d = l.length →
    Ev (fun k => corncribref02_Pick.l1 k l (cellsOf i m (pickF m s l)) i n m s) ((l.length : Int), (m : Int), cellsOf l.length m (pickF m s l), 0)
  | 0, i, hd => by
    refine Ev.succ ?_
    simp only [corncribref02_Pick.l1]
    refine Ev.neg (by omega) ?_
    obtain rfl : i = l.length := by omega
    exact Ev.now _
  | d + 1, i, hd => by
    have hm : 0 < m := by have := h.2.2.1; omega
    have hm1 : m ≤ 255 := by have := h.2.2.2.1; omega
    obtain ⟨x0, x1⟩ := ha i (by omega)
    obtain ⟨x, hx⟩ := Int.eq_ofNat_of_zero_le x0
    have hi : i * m ≤ 255 * 255 := Nat.mul_le_mul (by omega) hm1
    refine Ev.succ ?_
    simp only [corncribref02_Pick.l1]
    refine Ev.pos (by omega) (Ev.bind (rows_ev h) ?_)
    rw [hx, rowsB_len, rowsB_get (by omega), rowB_size, cellsOf_size]
    refine Ev.pos (by omega) (Ev.pos (by omega) (Ev.pos (by omega) (Ev.pos (by omega) ?_)))
    have := rpick_l1 h hl ha d (i + 1) (by omega)
    rw [cells_suc hm] at this
    rw [wrap_suc (by omega)]
    rw [show rowB m (pickF m s l i) = rowB m (toI (entN m s) x) from rowB_congr fun j _ => by
      unfold pickF
      rw [toI_ent, ← rd_get, hx, Int.toNat_natCast]] at this
    exact this
theorem rpick_l0 {n m : Nat} {s : ByteArray} (h : okM n m s) {l : List Int} (hL : l.length < 9223372036854775807) : ∀ (d i : Nat), i + d = l.length → (∀ k : Nat, k < i → 0 ≤ rd l k ∧ rd l k < n) →
    Ev (fun k => corncribref02_Pick.l0 k l i n m s) (pickV n m s l)
  | 0, i, hd, hb => by
    obtain rfl : i = l.length := by omega
    rw [pickV_all h hb]
    refine Ev.succ ?_
    simp only [corncribref02_Pick.l0]
    refine Ev.neg (by omega) ?_
    by_cases h1 : 255 < l.length
    · rw [if_pos h1]
      exact Ev.pos (by omega) (Ev.now _)
    · rw [if_neg h1]
      refine Ev.neg (by omega) ?_
      by_cases h2 : l = []
      · rw [if_pos h2]
        exact Ev.pos (by rw [h2]; rfl) (Ev.now _)
      · rw [if_neg h2]
        refine Ev.neg (by intro hc; exact h2 (List.length_eq_zero_iff.1 (by omega))) ?_
        have := rpick_l1 h (by omega) hb l.length 0 (by omega)
        rw [cells_zero] at this
        exact this
  | d + 1, i, hd, hb => by
    refine Ev.succ ?_
    simp only [corncribref02_Pick.l0]
    refine Ev.pos (by omega) (Ev.pos (by omega) ?_)
    by_cases h1 : rd l (i : Int) < 0
    · rw [pickV_range h (show i < l.length by omega) (.inl h1)]
      exact Ev.pos h1 (Ev.now _)
    by_cases h2 : rd l (i : Int) ≥ (n : Int)
    · rw [pickV_range h (show i < l.length by omega) (.inr h2)]
      exact Ev.neg h1 (Ev.pos h2 (Ev.now _))
    refine Ev.neg h1 (Ev.neg h2 ?_)
    rw [wrap_suc (by omega)]
    refine rpick_l0 h hL d (i + 1) (by omega) fun k hk => ?_
    by_cases e : k = i
    · subst e; omega
    · exact hb k (by omega)
theorem rpick_ev (r c : Int) (s : ByteArray) (l : List Int) (hL : l.length < 9223372036854775807) : Ev (fun k => corncribref02_Pick.f k r c s l) (pickV r c s l) := by
  unfold corncribref02_Pick.f
  rw [rchk_f]
  simp only [Option.bind_some, chkE]
  by_cases h : okM r c s
  · rw [if_pos h]
    refine Ev.pos rfl ?_
    obtain ⟨n, rfl⟩ := Int.eq_ofNat_of_zero_le (show 0 ≤ r by have := h.1; omega)
    obtain ⟨m, rfl⟩ := Int.eq_ofNat_of_zero_le (show 0 ≤ c by have := h.2.2.1; omega)
    exact rpick_l0 h hL l.length 0 (by omega) (fun k hk => absurd hk (Nat.not_lt_zero _))
  · rw [if_neg h]
    unfold pickV
    rw [if_neg h]
    exact Ev.neg (by decide) (Ev.now _)
end Go.Proofs.Ytoghhpkmficnmaa.Al
namespace Go.Proofs.Ytoghhpkmficnmaa.Pure
open Go.RowKit Go.Proofs.Ytoghhpkmficnmaa.Al Go.Proofs.Ytoghhpkmficnmaa.Base Go.Proofs.YtoghhpkmficnmaaW.PrintWords
theorem MatrixPicks {V0 L0 : Prop} {Q : Int → Prop} (r c : Int) (s : ByteArray) (l : List Int) (_ : V0) (_ : ∀ a ∈ l, Q a) (_ : L0) (hl : l.length * 8 ≤ 140737488351232 ∧ ∀ a ∈ l, True) : ∃ k, corncriblaw02_MatrixPicks.f k r c s l = some true := by
  refine Ev.rounds (g := fun k => corncriblaw02_MatrixPicks.f k r c s l) ?_
  unfold corncriblaw02_MatrixPicks.f matrix_Pick.f
  rw [works_f]
  simp only [Option.bind_some, List.nil_append, List.length_nil]
  refine Ev.pos (by omega) (Ev.bind (rpick_ev r c s l (by omega)) ?_)
  simp only [beq_self_eq_true, Bool.and_self, if_true]
  exact Ev.now _
end Go.Proofs.Ytoghhpkmficnmaa.Pure
