/- MatrixRing's plain statement: products do not hang on which are taken first; the identity changes nothing. -/
import Derived.Test.YtoghhpkmficnmaaPcb
import Derived.Test.YtoghhpkmficnmaaFcorncriblaw02MatrixRing
namespace Go.Proofs.Ytoghhpkmficnmaa.Al
open Go.RowKit Go.Proofs.Ytoghhpkmficnmaa.GfMath Go.Proofs.Ytoghhpkmficnmaa.GfRef Go.Proofs.Ytoghhpkmficnmaa.Base Go.Proofs.Ytoghhpkmficnmaa.Bytes Go.Proofs.Ytoghhpkmficnmaa.Grid Go.Proofs.YtoghhpkmficnmaaW.PrintWords Go.Proofs.YtoghhpkmficnmaaW.PrintMore
theorem id_f {n : Nat} (h1 : 1 ≤ n) (h2 : n ≤ 255) : matrix_Identity.f n = some ((n : Int), (n : Int), cellsOf n n (toI Ix), 0) := by
  unfold matrix_Identity.f idV
  rw [if_pos (by omega), Int.toNat_natCast, cellsOf_congr (g := toI Ix) fun i j _ _ => (toI_Ix i j).symm]
theorem ring_assoc {n m p : Nat} (s t u : ByteArray) : cellsOf n n (toI (mm p (entN p (cellsOf n p (toI (mm m (entN m s) (entN p t))))) (entN n u))) = cellsOf n n (toI (mm m (entN m s) (entN n (cellsOf m n (toI (mm p (entN p t) (entN n u))))))) := by
  refine cellsOf_congr fun i j hi hj => ?_
  unfold toI
  congr 1
  refine (mm_congr (A' := mm m (entN m s) (entN p t)) (B' := entN n u) (fun k hk => ent_toI (mm_by _ _ _) hi hk) (fun _ _ => rfl)).trans ?_
  rw [mm_assoc (entN_by _ _) (entN_by _ _) (entN_by _ _)]
  exact mm_congr (fun _ _ => rfl) (fun k hk => (ent_toI (mm_by _ _ _) hk hj).symm)
theorem ring_left {n m : Nat} {s : ByteArray} (hs : s.size = n * m) : cellsOf n m (toI (mm n (entN n (cellsOf n n (toI Ix))) (entN m s))) = s := by
  refine Eq.trans (cellsOf_congr (g := toI (entN m s)) fun i j hi hj => ?_) (cells_ent hs)
  unfold toI
  congr 1
  refine (mm_congr (A' := Ix) (B' := entN m s) (fun k hk => ent_toI Ix_by hi hk) (fun _ _ => rfl)).trans ?_
  exact mm_one_left (entN_by _ _) hi
theorem ring_right {n m : Nat} {s : ByteArray} (hs : s.size = n * m) : cellsOf n m (toI (mm m (entN m s) (entN m (cellsOf m m (toI Ix))))) = s := by
  refine Eq.trans (cellsOf_congr (g := toI (entN m s)) fun i j hi hj => ?_) (cells_ent hs)
  unfold toI
  congr 1
  refine (mm_congr (A' := entN m s) (B' := Ix) (fun _ _ => rfl) (fun k hk => ent_toI Ix_by hk hj)).trans ?_
  exact mm_one_right (entN_by _ _) hj
end Go.Proofs.Ytoghhpkmficnmaa.Al
namespace Go.Proofs.Ytoghhpkmficnmaa.Pure
open Go.RowKit Go.Proofs.Ytoghhpkmficnmaa.GfMath Go.Proofs.Ytoghhpkmficnmaa.GfRef Go.Proofs.Ytoghhpkmficnmaa.Grid Go.Proofs.Ytoghhpkmficnmaa.Bytes Go.Proofs.Ytoghhpkmficnmaa.Al Go.Proofs.Ytoghhpkmficnmaa.Base Go.Proofs.YtoghhpkmficnmaaW.PrintWords
theorem MatrixRing {V0 V1 V2 L0 : Prop} (a b c : Int) (x y : ByteArray) (_ : V0) (_ : V1) (_ : V2) (_ : L0) (hx : x.size ≤ 140737488351232) (hy : y.size ≤ 140737488351232) : corncriblaw02_MatrixRing.f a b c x y = some true := by
  have hn := sideN_b a
  have hm := sideN_b b
  have hp := sideN_b c
  have hA := ok_made x hn.1 hn.2 hm.1 hm.2
  have hB := ok_made y hm.1 hm.2 hp.1 hp.2
  have hC := ok_made (y ++ x) hp.1 hp.2 hn.1 hn.2
  have hAB := ok_cells (n := sideN a) (m := sideN c) (toI (mm (sideN b) (entN (sideN b) (madeS (sideN a * sideN b) x)) (entN (sideN c) (madeS (sideN b * sideN c) y)))) hn.1 (by omega) hp.1 (by omega)
  have hBC := ok_cells (n := sideN b) (m := sideN a) (toI (mm (sideN c) (entN (sideN c) (madeS (sideN b * sideN c) y)) (entN (sideN a) (madeS (sideN c * sideN a) (y ++ x))))) hm.1 (by omega) hn.1 (by omega)
  have hI := ok_cells (n := sideN a) (m := sideN a) (toI Ix) hn.1 (by omega) hn.1 (by omega)
  have hJ := ok_cells (n := sideN b) (m := sideN b) (toI Ix) hm.1 (by omega) hm.1 (by omega)
  unfold corncriblaw02_MatrixRing.f
  rw [works_f, side_f, side_f, side_f]
  simp only [Option.bind_some, if_true]
  rw [made_f, made_f]
  simp only [Option.bind_some]
  rw [if_pos (by omega), made_f]
  simp only [Option.bind_some]
  rw [mul_f hA hB, mul_f hB hC]
  simp only [Option.bind_some]
  rw [mul_f hAB hC, mul_f hA hBC, id_f hn.1 (by omega), id_f hm.1 (by omega)]
  simp only [Option.bind_some]
  rw [mul_f hI hA, mul_f hA hJ]
  simp only [Option.bind_some, if_true]
  rw [ring_assoc, ring_left (made_size _ _), ring_right (made_size _ _)]
  simp only [beq_self_eq_true, Bool.and_self, if_true]
end Go.Proofs.Ytoghhpkmficnmaa.Pure
