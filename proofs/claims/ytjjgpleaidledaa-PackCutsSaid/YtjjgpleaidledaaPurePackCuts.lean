/- For every pack and every number: a beginning of a pack's bytes ends early, at its end; with a byte behind, that byte is one too many. No condition. -/
import Derived.Test.YtjjgpleaidledaaPkb
import Derived.Test.YtjjgpleaidledaaFcorncriblaw06PackCuts
namespace Go.Proofs.Ytjjgpleaidledaa.Pure
open Go.RowKit Go.Proofs.Ytjjgpleaidledaa.Base Go.Proofs.Ytjjgpleaidledaa.PackMath Go.Proofs.Ytjjgpleaidledaa.PackDec Go.Proofs.Ytjjgpleaidledaa.PackFns Go.Proofs.Ytjjgpleaidledaa.Al Go.Proofs.YtjjgpleaidledaaW.PrintWords
theorem among_range (a n : Int) (h0 : 0 < n) (hn : n ≤ 100000000) : ∃ r, corncribbook_Among.f a n = some r ∧ 0 ≤ r ∧ r < n := by
  have a1 : -n < Int.tmod a n := Int.lt_tmod_of_pos a h0
  have a2 : Int.tmod a n < n := Int.tmod_lt_of_pos a h0
  unfold corncribbook_Among.f
  rw [if_neg (by omega)]
  refine ⟨_, rfl, ?_⟩
  rw [wrap_id (by omega) (by omega), Int.tmod_eq_emod_of_nonneg (by omega)]
  exact ⟨Int.emod_nonneg _ (by omega), Int.emod_lt_of_pos _ h0⟩
theorem PackCuts (p1 : List Int) (p2 : List ByteArray) (at_ : Int) (_ : (∀ a ∈ p1, (Lit.int .i64 a).wf = true) ∧ ∀ a ∈ p2, a.size ≤ maxLen) (_ : (Lit.int .i64 at_).wf = true)
    (_ : (p1.length * 8 ≤ 140737488351232 ∧ ∀ a ∈ p1, True) ∧ p2.length * 16 ≤ 140737488351232 ∧ ∀ a ∈ p2, a.size ≤ 140737488351232) (_ : True) : ∃ k, corncriblaw06_PackCuts.f k p1 p2 at_ = some true := by
  refine Ev.rounds (g := fun k => corncriblaw06_PackCuts.f k p1 p2 at_) ?_
  unfold corncriblaw06_PackCuts.f
  refine Ev.bind packWorks_ev (Ev.pos rfl (Ev.bind (encode_ev p1 p2) ?_))
  by_cases hc : chk p1 p2 = 0
  · rw [encB_ok hc]
    have hl := enc_len hc
    have hsz := str_size (enc p1 p2)
    have hpos : 1 ≤ (enc p1 p2).length := by
      have := plain_pos p1.length
      simp only [enc, List.length_append]; omega
    have hb := bytes_str (enc_range p1 p2)
    obtain ⟨r, hr, hr0, hr1⟩ := among_range at_ ((strOfNums (enc p1 p2)).size : Int) (by omega) (by omega)
    obtain ⟨n, rfl⟩ := Int.eq_ofNat_of_zero_le hr0
    refine Ev.pos rfl ?_
    simp only
    rw [hr]
    refine Ev.some_bind (Ev.pos hr0 (Ev.pos (by omega) ?_))
    have hx : ((strOfNums (enc p1 p2)).extract 0 (n : Int).toNat).size = n := by rw [ByteArray.size_extract]; omega
    have hbx : bytesOf ((strOfNums (enc p1 p2)).extract 0 (n : Int).toNat) = (enc p1 p2).take n := by
      rw [bytes_extract, hb, List.drop_zero, Int.toNat_natCast]
    have hsplit : ∃ x y, enc p1 p2 = (enc p1 p2).take n ++ x :: y := by
      refine ⟨(enc p1 p2)[n]'(by omega), (enc p1 p2).drop (n + 1), ?_⟩
      rw [← List.drop_eq_getElem_cons, List.take_append_drop]
    obtain ⟨x, y, hxy⟩ := hsplit
    have d1 := dec_cut (s := (strOfNums (enc p1 p2)).extract 0 (n : Int).toNat) (x := x) (y := y) hc (by rw [hbx]; exact hxy)
    rw [decode_eq _ (by omega), d1, hx]
    have hby : bytesOf (strOfNums (enc p1 p2) ++ (⟨#[120]⟩ : ByteArray)) = enc p1 p2 ++ [120] := by
      have e : ∀ t, bytesOf t = (B t).map fun b => (b.toNat : Int) := fun _ => rfl
      rw [e, B_append, List.map_append, ← e, hb]
      rfl
    have d2 := dec_enc (s := strOfNums (enc p1 p2) ++ (⟨#[120]⟩ : ByteArray)) hc hby
    rw [if_neg (by simp)] at d2
    have hz : (strOfNums (enc p1 p2) ++ (⟨#[120]⟩ : ByteArray)).size ≤ 140737488355328 := by
      rw [ByteArray.size_append]
      have : (⟨#[120]⟩ : ByteArray).size = 1 := rfl
      omega
    rw [decode_eq _ hz, d2]
    refine Ev.some_bind (Ev.pos (by omega) (Ev.some_bind (Ev.pos rfl (Ev.pos rfl (Ev.pos rfl ?_)))))
    rw [hsz]
    simp only [beq_self_eq_true]
    exact Ev.now _
  · rw [encB_no hc]
    exact Ev.neg hc (Ev.now _)
end Go.Proofs.Ytjjgpleaidledaa.Pure
