import Derived.Test.YtjjgpleaidledaaPackFns
import Derived.Test.YtjjgpleaidledaaFcorncriblaw06works
namespace Go.Proofs.Ytjjgpleaidledaa.PackFns
open Go.RowKit Go.Proofs.Ytjjgpleaidledaa.Base Go.Proofs.Ytjjgpleaidledaa.PackMath Go.Proofs.Ytjjgpleaidledaa.Al Go.Proofs.YtjjgpleaidledaaW.PrintWords
theorem plain_600 : plain 600 = [216, 4] := by rw [plain_big (by omega), plain_small (by omega)]; rfl
theorem works_enc : encB [1, -1, 300] [(⟨#[97, 98]⟩ : ByteArray)] = (⟨#[3, 2, 1, 216, 4, 1, 2, 97, 98]⟩, 0) := by
  have h : chk [1, -1, 300] [(⟨#[97, 98]⟩ : ByteArray)] = 0 := by decide +kernel
  have e1 : signed 1 = [2] := by unfold signed; rw [show zig 1 = 2 from by decide, plain_small (by omega)]; rfl
  have e2 : signed (-1) = [1] := by unfold signed; rw [show zig (-1) = 1 from by decide, plain_small (by omega)]; rfl
  have e3 : signed 300 = [216, 4] := by unfold signed; rw [show zig 300 = 600 from by decide]; exact plain_600
  have e : enc [1, -1, 300] [(⟨#[97, 98]⟩ : ByteArray)] = [3, 2, 1, 216, 4, 1, 2, 97, 98] := by
    simp only [enc, body, tails, List.map_cons, List.map_nil, e1, e2, e3]
    rw [plain_small (by decide), plain_small (by decide), plain_small (by decide)]
    rfl
  unfold encB
  rw [if_pos h, e]
  rfl
theorem packWorks_ev : Ev (fun k => corncriblaw06_works.f k) true := by
  have h := encode_ev [1, -1, 300] [(⟨#[97, 98]⟩ : ByteArray)]
  rw [works_enc] at h
  unfold corncriblaw06_works.f
  refine Ev.bind h (Ev.pos rfl ?_)
  rw [toList_eq]
  exact Ev.now _
end Go.Proofs.Ytjjgpleaidledaa.PackFns
