/- For every slice of versions and every version: which chains may be, and what one is with the version more, is as the document has it, and the slice stays as it is. No condition. -/
import Derived.Test.YtpkccaoeglbcfaaChainFns
import Derived.Test.YtpkccaoeglbcfaaFcorncriblaw11ChainAdds
namespace Go.Proofs.Ytpkccaoeglbcfaa.Pure
open Go.RowKit Go.Proofs.Ytpkccaoeglbcfaa.Base Go.Proofs.Ytpkccaoeglbcfaa.ChainMath Go.Proofs.Ytpkccaoeglbcfaa.ChainFns Go.Proofs.Ytpkccaoeglbcfaa.Al Go.Proofs.YtpkccaoeglbcfaaW.PrintWords Go.Proofs.YtpkccaoeglbcfaaW.PrintLast Go.Proofs.YtpkccaoeglbcfaaW.PrintMore
theorem addR_len (l : List S25) (v : S25) : (addR l v).1.length ≤ l.length + 1 := by
  unfold addR
  split <;> (try split) <;> (try split) <;> (try split) <;> simp
theorem ChainAddsCore (l : List S25) (v : S25) (h : l.length * 32 ≤ 140737488351232) : ∃ k, corncriblaw11_ChainAdds.f k l v.f0 v.f1 v.f2 = some true := by
  refine Ev.rounds (g := fun k => corncriblaw11_ChainAdds.f k l v.f0 v.f1 v.f2) ?_
  have hn := addR_len l v
  obtain ⟨r, hr⟩ := spoil_ev (addR l v).1 (by omega)
  unfold corncriblaw11_ChainAdds.f
  rw [lend_eq l h]
  exact Ev.some_bind (Ev.bind (check_ev l) (Ev.bind (rcheck_ev l) (Ev.bind (add_ev l v) (Ev.bind (radd_ev l v) (Ev.pos rfl (Ev.pos rfl (Ev.bind (sameV_ev _ (by omega)) (Ev.pos rfl (Ev.bind hr (Ev.pos rfl (Ev.bind (kept_ev l (by omega)) (Ev.pos rfl (Ev.bind works_ev (Ev.now _))))))))))))))
theorem ChainAdds {V1 V2 L2 : Prop} {Q : S25 → Prop} (l : List S25) (x : Int) (y : ByteArray) (z : Bool) (_ : V1) (_ : V2) (h : l.length * 32 ≤ 140737488351232 ∧ ∀ a ∈ l, Q a) (_ : L2) : ∃ k, corncriblaw11_ChainAdds.f k l x y z = some true := ChainAddsCore l ⟨x, y, z⟩ h.1
end Go.Proofs.Ytpkccaoeglbcfaa.Pure
