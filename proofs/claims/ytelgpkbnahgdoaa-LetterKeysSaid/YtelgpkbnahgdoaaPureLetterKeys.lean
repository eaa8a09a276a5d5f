/- For every text and every list of texts: which may be keys, and which lists rise, is as the reference has it; the list stays as it is. No condition. -/
import Derived.Test.YtelgpkbnahgdoaaLetEnc2
import Derived.Test.YtelgpkbnahgdoaaLetKey
import Derived.Test.YtelgpkbnahgdoaaLetSameT
import Derived.Test.YtelgpkbnahgdoaaFcorncriblaw07LetterKeys
namespace Go.Proofs.Ytelgpkbnahgdoaa.Pure
open Go.RowKit Go.Proofs.Ytelgpkbnahgdoaa.Base Go.Proofs.Ytelgpkbnahgdoaa.LetSpec Go.Proofs.Ytelgpkbnahgdoaa.Al Go.Proofs.YtelgpkbnahgdoaaW.PrintWords
theorem lend_eq (l : List ByteArray) (h : l.length * 16 ≤ 140737488351232) : corncribbook_LendTexts.f l = some l := by
  unfold corncribbook_LendTexts.f
  simp only [Option.bind_some]
  rw [if_pos (by simp; omega), if_pos (by simp; omega), if_pos (by omega), if_pos (by simp; omega)]
  simp
theorem LetterKeysCore (s : ByteArray) (l : List ByteArray) (h : l.length * 16 ≤ 140737488351232) : ∃ k, corncriblaw07_LetterKeys.f k s l = some true := by
  refine Ev.rounds (g := fun k => corncriblaw07_LetterKeys.f k s l) ?_
  unfold corncriblaw07_LetterKeys.f
  rw [lend_eq l h, key_eq, rkey_eq]
  refine Ev.some_bind (Ev.some_bind (Ev.some_bind (Ev.pos (by simp) (Ev.bind (rising_ev l (by omega)) (Ev.bind (rrising_ev l (by omega)) (Ev.pos (by simp) (Ev.bind ?_ (Ev.pos rfl (Ev.bind worksL_ev (Ev.now _))))))))))
  exact sameT_ev l (by omega)
theorem LetterKeys {V0 V1 L0 Q : Prop} (s : ByteArray) (l : List ByteArray) (_ : V0) (_ : V1) (_ : L0) (h : l.length * 16 ≤ 140737488351232 ∧ Q) : ∃ k, corncriblaw07_LetterKeys.f k s l = some true := LetterKeysCore s l h.1
end Go.Proofs.Ytelgpkbnahgdoaa.Pure
