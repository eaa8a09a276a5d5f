/- For every pack and every text: what is encoded is decoded as the pack, and what is decoded is encoded as just those bytes. No condition. -/
import Derived.Test.YtjjgpleaidledaaPkb
import Derived.Test.YtjjgpleaidledaaFcorncriblaw06PackBack
namespace Go.Proofs.Ytjjgpleaidledaa.Pure
open Go.RowKit Go.Proofs.Ytjjgpleaidledaa.Base Go.Proofs.Ytjjgpleaidledaa.PackMath Go.Proofs.Ytjjgpleaidledaa.PackDec Go.Proofs.Ytjjgpleaidledaa.PackFns Go.Proofs.Ytjjgpleaidledaa.Al Go.Proofs.YtjjgpleaidledaaW.PrintWords
theorem back_j0 (s : ByteArray) (hs : s.size ≤ 140737488351232) : Ev (fun k => corncriblaw06_PackBack.j0 k s) true := by
  obtain ⟨h1, h2⟩ := dec_len s
  refine Ev.succ ?_
  simp only [corncriblaw06_PackBack.j0]
  rw [decode_eq s (by omega)]
  refine Ev.some_bind ?_
  by_cases he : (dec s).2.2.2 = 0
  · obtain ⟨ns, ts, hd, hc, hb⟩ := enc_dec he
    rw [hd]
    have henc := encode_ev ns ts
    rw [encB_ok hc] at henc
    have hst : strOfNums (enc ns ts) = s := by rw [← hb, str_bytes]
    rw [hst] at henc
    exact Ev.pos rfl (Ev.bind henc (Ev.pos rfl (Ev.pos rfl (Ev.now _))))
  · obtain ⟨e1, e2⟩ := dec_no he
    have hle := dec_le s
    rw [e1, e2]
    refine Ev.neg he (Ev.bind (same_ev [] [] (by simp) (by simp)) (Ev.pos rfl (Ev.pos (by simp only; omega) ?_)))
    simp only
    rw [decide_eq_true (by omega)]
    exact Ev.now _
theorem PackBack (p1 : List Int) (p2 : List ByteArray) (s : ByteArray) (_ : (∀ a ∈ p1, (Lit.int .i64 a).wf = true) ∧ ∀ a ∈ p2, a.size ≤ maxLen) (_ : s.size ≤ maxLen)
    (h : (p1.length * 8 ≤ 140737488351232 ∧ ∀ a ∈ p1, True) ∧ p2.length * 16 ≤ 140737488351232 ∧ ∀ a ∈ p2, a.size ≤ 140737488351232) (hs : s.size ≤ 140737488351232) : ∃ k, corncriblaw06_PackBack.f k p1 p2 s = some true := by
  refine Ev.rounds (g := fun k => corncriblaw06_PackBack.f k p1 p2 s) ?_
  unfold corncriblaw06_PackBack.f
  refine Ev.bind packWorks_ev (Ev.pos rfl (Ev.bind (encode_ev p1 p2) ?_))
  by_cases hc : chk p1 p2 = 0
  · rw [encB_ok hc]
    have hl := enc_len hc
    have hsz := str_size (enc p1 p2)
    refine Ev.pos rfl ?_
    rw [decode_eq _ (by simp only; omega)]
    simp only
    rw [dec_of_enc hc]
    have hsm := same_ev p1 p2 (by omega) (by omega)
    refine Ev.some_bind (Ev.pos rfl (Ev.pos rfl (Ev.bind hsm (Ev.pos rfl (back_j0 s hs)))))
  · rw [encB_no hc]
    exact Ev.neg hc (Ev.pos (by rw [toList_eq]; rfl) (back_j0 s hs))
end Go.Proofs.Ytjjgpleaidledaa.Pure
