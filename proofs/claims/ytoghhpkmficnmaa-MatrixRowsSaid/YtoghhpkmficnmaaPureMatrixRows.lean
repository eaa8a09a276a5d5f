/- MatrixRows' plain statement: rows that are picked of a product are the product of the rows that are picked. -/
import Derived.Test.YtoghhpkmficnmaaPrb
import Derived.Test.YtoghhpkmficnmaaFcorncriblaw02MatrixRows
namespace Go.Proofs.Ytoghhpkmficnmaa.Al
open Go.RowKit Go.Proofs.Ytoghhpkmficnmaa.GfMath Go.Proofs.Ytoghhpkmficnmaa.GfRef Go.Proofs.Ytoghhpkmficnmaa.Base Go.Proofs.Ytoghhpkmficnmaa.Bytes Go.Proofs.Ytoghhpkmficnmaa.Grid Go.Proofs.YtoghhpkmficnmaaW.PrintWords Go.Proofs.YtoghhpkmficnmaaW.PrintMore
set_option linter.unusedVariables false
theorem rows_j1 {n m p : Nat} (hn : 1 ≤ n ∧ n ≤ 6) (hm : 1 ≤ m ∧ m ≤ 6) (hp : 1 ≤ p ∧ p ≤ 6) (s t : ByteArray) (l : List Int) (ha : ∀ x, x ∈ l → 0 ≤ x ∧ x < n) (hl : l.length ≤ 10) :
    Ev (fun k => corncriblaw02_MatrixRows.j1 k l n m (madeS (n * m) s) m p (madeS (m * p) t)) true := by
  have h1 := ok_made s hn.1 hn.2 hm.1 hm.2
  have h2 := ok_made t hm.1 hm.2 hp.1 hp.2
  refine Ev.succ ?_
  simp only [corncriblaw02_MatrixRows.j1]
  by_cases he : l = []
  · subst he
    exact Ev.pos rfl (Ev.now _)
  · have hl0 : 1 ≤ l.length := by cases l with | nil => exact absurd rfl he | cons x r => simp
    refine Ev.neg (by omega) ?_
    have h3 := ok_cells (n := n) (m := p) (toI (mm m (entN m (madeS (n * m) s)) (entN p (madeS (m * p) t)))) hn.1 (by omega) hp.1 (by omega)
    have h4 := ok_cells (n := l.length) (m := m) (pickF m (madeS (n * m) s) l) hl0 (by omega) hm.1 (by omega)
    rw [mul_f h1 h2]
    simp only [Option.bind_some]
    rw [pick_f h3 ha he (by omega), pick_f h1 ha he (by omega)]
    simp only [Option.bind_some]
    rw [mul_f h4 h2]
    simp only [Option.bind_some, if_true, beq_self_eq_true, Bool.true_and]
    have : cellsOf l.length p (pickF p (cellsOf n p (toI (mm m (entN m (madeS (n * m) s)) (entN p (madeS (m * p) t))))) l) = cellsOf l.length p (toI (mm m (entN m (cellsOf l.length m (pickF m (madeS (n * m) s) l))) (entN p (madeS (m * p) t)))) := by
      refine cellsOf_congr fun i j hi hj => ?_
      have hx := ha _ (getD_mem hi)
      unfold pickF
      rw [bt_cellsOf (fun i j _ _ => toI_by (mm_by _ _ _) i j) _ _ (by omega) hj]
      unfold toI
      congr 1
      exact xs_congr fun k hk => congrArg (fun z => mulN z _) (ent_pick (n := n) hi hk).symm
    rw [this]
    simp only [beq_self_eq_true]
    exact Ev.now _
theorem rows_l0 {n m p : Nat} (hn : 1 ≤ n ∧ n ≤ 6) (hm : 1 ≤ m ∧ m ≤ 6) (hp : 1 ≤ p ∧ p ≤ 6) (s t : ByteArray) (rows : List Int) (hr : rows.length ≤ 140737488355328) : ∀ (d i : Nat) (l : List Int), i + d = 10 → l.length = i → (∀ x, x ∈ l → 0 ≤ x ∧ x < n) →
    Ev (fun k => corncriblaw02_MatrixRows.l0 k rows l i n m (madeS (n * m) s) m p (madeS (m * p) t)) true
  | 0, i, l, hd, hl, ha => by
    refine Ev.succ ?_
    simp only [corncriblaw02_MatrixRows.l0]
    by_cases h : (i : Int) < (rows.length : Int)
    · exact Ev.pos h (Ev.neg (by omega) (rows_j1 hn hm hp s t l ha (by omega)))
    · exact Ev.neg h (rows_j1 hn hm hp s t l ha (by omega))
  | d + 1, i, l, hd, hl, ha => by
    refine Ev.succ ?_
    simp only [corncriblaw02_MatrixRows.l0]
    by_cases h : (i : Int) < (rows.length : Int)
    · refine Ev.pos h (Ev.pos (by omega) (Ev.pos (by omega) ?_))
      rw [Amg.among_eq _ _ (by omega) (by omega)]
      simp only [Option.bind_some]
      refine Ev.pos (by omega) ?_
      rw [show wrap64 ((i : Int) + 1) = ((i + 1 : Nat) : Int) from by rw [wrap_id (by omega) (by omega)]; omega]
      refine rows_l0 hn hm hp s t rows hr d (i + 1) _ (by omega) (by simp [hl]) fun x hx => ?_
      rcases List.mem_append.1 hx with hx | hx
      · exact ha x hx
      · rw [List.mem_singleton.1 hx]
        exact ⟨Int.emod_nonneg _ (by omega), Int.emod_lt_of_pos _ (by omega)⟩
    · exact Ev.neg h (rows_j1 hn hm hp s t l ha (by omega))
end Go.Proofs.Ytoghhpkmficnmaa.Al
namespace Go.Proofs.Ytoghhpkmficnmaa.Pure
open Go.RowKit Go.Proofs.Ytoghhpkmficnmaa.Al Go.Proofs.Ytoghhpkmficnmaa.Base Go.Proofs.YtoghhpkmficnmaaW.PrintWords
theorem MatrixRows {V0 L0 : Prop} {V1 : Prop} {Q : Int → Prop} (a0 a1 a2 : Int) (x : ByteArray) (rows : List Int) (_ : V0) (_ : V1) (_ : ∀ a ∈ rows, Q a) (_ : L0) (hx : x.size ≤ 140737488351232) (hr : rows.length * 8 ≤ 140737488351232 ∧ ∀ a ∈ rows, True) : ∃ k, corncriblaw02_MatrixRows.f k a0 a1 a2 x rows = some true := by
  refine Ev.rounds (g := fun k => corncriblaw02_MatrixRows.f k a0 a1 a2 x rows) ?_
  unfold corncriblaw02_MatrixRows.f
  rw [works_f, side_f, side_f, side_f]
  simp only [Option.bind_some, if_true]
  rw [made_f, made_f]
  simp only [Option.bind_some]
  refine Ev.pos (by omega) ?_
  exact rows_l0 (sideN_b a0) (sideN_b a1) (sideN_b a2) _ _ rows (by omega) 10 0 [] rfl rfl (fun x hx => by simp at hx)
end Go.Proofs.Ytoghhpkmficnmaa.Pure
