/- For every number of nodes, who asks, who answers otherwise, and time: if all others tell that it is open it is stuck; with one among them that it was done, or refused, it is so, whoever that is. No condition. -/
import Derived.Test.YtdecpagcaondiaaPlb
import Derived.Test.YtdecpagcaondiaaFcorncriblaw21TermTells
namespace Go.Proofs.Ytdecpagcaondiaa.Pure
open Go.RowKit Go.Proofs.Ytdecpagcaondiaa.Base Go.Proofs.Ytdecpagcaondiaa.Al Go.Proofs.Ytdecpagcaondiaa.LetSpec Go.Proofs.Ytdecpagcaondiaa.TermSpec Go.Proofs.Ytdecpagcaondiaa.TermRef Go.Proofs.Ytdecpagcaondiaa.Amg Go.Proofs.YtdecpagcaondiaaW.PrintWords
set_option linter.unusedVariables false
set_option linter.unusedSimpArgs false
/-- A telling from a node, to who asks. -/
def tl (me : Int) (c t : Int) (j : Int) : S34 := ⟨8, j, me, 5, t, c, ⟨#[]⟩, [], []⟩
theorem tl_ok {n me c t j : Int} (hn : n ≤ 12) (hm0 : 0 ≤ me) (hm1 : me < n) (hc0 : 0 ≤ c) (hc1 : c ≤ 2) (ht0 : 0 ≤ t) (ht1 : t ≤ 1000) (hj0 : 0 ≤ j) (hj1 : j < n) : okB n 5 8 (tl me c t j) = true := by
  have h1 : addrB j = true := decide_eq_true (by omega)
  have h2 : addrB me = true := decide_eq_true (by omega)
  refine decide_eq_true ⟨rfl, rfl, hj0, hj1, ?_⟩
  show chkL 8 j me 5 t c ⟨#[]⟩ [] [] = 0
  have hs : sw 8 c ⟨#[]⟩ [] [] = some (2, true, true, true) := by
    unfold sw
    rw [if_neg (by decide), if_neg (by decide), if_neg (by decide), if_pos rfl, show (⟨#[]⟩ : ByteArray).toList = [] from (empty_iff _).2 rfl]
    rfl
  unfold chkL
  rw [if_pos ⟨h1, h2, by decide, by decide, ht0, by omega, hc0⟩, hs]
  exact if_pos ⟨hc1, rfl, rfl, rfl⟩
/-- Letters, one from each node in its turn. -/
structure Tellings (n me : Int) (N : Nat) (o : Nat) (c t : Int) (l : List S34) : Prop where
  nN : n = (N : Int)
  len : l.length = N
  at_ : ∀ k, k < N → k ≠ o → rd_T34 l (k : Int) = tl me 2 0 k
  ato : o < N → rd_T34 l (o : Int) = tl me c t o
theorem tellings_full {n me : Int} {N o : Nat} {c t : Int} {l : List S34} (h : Tellings n me N o c t l) (hn : N ≤ 12) (hm0 : 0 ≤ me) (hm1 : me < n) (hc0 : 0 ≤ c) (hc1 : c ≤ 2) (ht0 : 0 ≤ t) (ht1 : t ≤ 1000) {k : Nat} (hk : k < N) : rdOf none (full n 5 8 l) (k : Int) = some k := by
  have hN := h.nN
  rw [full_plc (by omega), h.len]
  have hf1 : ∀ q, q < N → (rd_T34 l (q : Int)).f1 = q := fun q hq => by
    by_cases hqo : q = o
    · subst hqo; rw [h.ato hq]; rfl
    · rw [h.at_ q hq hqo]; rfl
  have hok : okB n 5 8 (rd_T34 l (k : Int)) = true := by
    by_cases hqo : k = o
    · subst hqo; rw [h.ato hk]; exact tl_ok (by omega) hm0 hm1 hc0 hc1 ht0 ht1 (by omega) (by omega)
    · rw [h.at_ k hk hqo]; exact tl_ok (by omega) hm0 hm1 (by omega) (by omega) (by omega) (by omega) (by omega) (by omega)
  obtain ⟨p, hp⟩ := (plc_ex (nodes := n) (txn := 5) (kind := 8) (l := l) (j := (k : Int)) N).2 ⟨k, hk, hok, hf1 k hk⟩
  obtain ⟨h1, _, h3, _⟩ := plc_some N p hp
  rw [hf1 p h1] at h3
  rw [hp]
  congr 1
  omega
/-- What was told of the first j nodes. -/
def st (me : Int) (o : Nat) (c t : Int) (j : Nat) : Int × Int × Int :=
  (if o < j ∧ (o : Int) ≠ me ∧ c = 0 then 1 else 0, (j : Int) - (if me < j then 1 else 0) - (if o < j ∧ (o : Int) ≠ me ∧ c ≠ 2 then 1 else 0), if o < j ∧ (o : Int) ≠ me ∧ c = 1 then t else 0)
theorem tgo_st {n me : Int} {N o : Nat} {c t : Int} {l : List S34} (h : Tellings n me N o c t l) (hn : N ≤ 12) (hm0 : 0 ≤ me) (hm1 : me < n) (hc0 : 0 ≤ c) (hc1 : c ≤ 2) (ht0 : 0 ≤ t) (ht1 : t ≤ 1000) : ∀ (d j : Nat), j + d = N → tgo l me ((full n 5 8 l).drop j) j (st me o c t j).1 (st me o c t j).2.1 (st me o c t j).2.2 = some (st me o c t N)
  | 0, j, hj => by
    obtain rfl : j = N := by omega
    have hN := h.nN
    rw [List.drop_of_length_le (by rw [full_len]; omega), tgo]
  | d + 1, j, hj => by
    have hN := h.nN
    have hjN : j < N := by omega
    have ih := tgo_st h hn hm0 hm1 hc0 hc1 ht0 ht1 d (j + 1) (by omega)
    rw [drop_at (d := none) (by rw [full_len]; omega), tellings_full h hn hm0 hm1 hc0 hc1 ht0 ht1 hjN, tgo]
    by_cases hm : (j : Int) = me
    · rw [if_pos hm]
      have e : st me o c t (j + 1) = st me o c t j := by
        unfold st
        refine Prod.ext ?_ (Prod.ext ?_ ?_) <;> simp only [] <;> (repeat' split) <;> omega
      rw [e] at ih
      exact ih
    rw [if_neg hm]
    by_cases ho : j = o
    · subst ho
      rw [h.ato hjN]
      show (if c = 0 then _ else if c = 2 then _ else if 0 < t ∧ 0 < (st me j c t j).2.2 ∧ t ≠ (st me j c t j).2.2 then none else tgo l me _ _ _ _ (max (st me j c t j).2.2 t)) = _
      have e3 : (st me j c t j).2.2 = 0 := by unfold st; simp
      by_cases h0 : c = 0
      · rw [if_pos h0]
        have e : st me j c t (j + 1) = ((st me j c t j).1 + 1, (st me j c t j).2.1, (st me j c t j).2.2) := by
          unfold st
          refine Prod.ext ?_ (Prod.ext ?_ ?_) <;> simp only [] <;> (repeat' split) <;> omega
        rw [e] at ih
        exact ih
      rw [if_neg h0]
      by_cases h2 : c = 2
      · rw [if_pos h2]
        have e : st me j c t (j + 1) = ((st me j c t j).1, (st me j c t j).2.1 + 1, (st me j c t j).2.2) := by
          unfold st
          refine Prod.ext ?_ (Prod.ext ?_ ?_) <;> simp only [] <;> (repeat' split) <;> omega
        rw [e] at ih
        exact ih
      rw [if_neg h2, if_neg (by rw [e3]; omega)]
      have e : st me j c t (j + 1) = ((st me j c t j).1, (st me j c t j).2.1, max (st me j c t j).2.2 t) := by
        rw [e3]
        unfold st
        refine Prod.ext ?_ (Prod.ext ?_ ?_) <;> simp only [] <;> (repeat' split) <;> omega
      rw [e] at ih
      exact ih
    · rw [h.at_ j hjN ho]
      show (if (2 : Int) = 0 then _ else if (2 : Int) = 2 then _ else _) = _
      rw [if_neg (by decide), if_pos rfl]
      have e : st me o c t (j + 1) = ((st me o c t j).1, (st me o c t j).2.1 + 1, (st me o c t j).2.2) := by
        unfold st
        refine Prod.ext ?_ (Prod.ext ?_ ?_) <;> simp only [] <;> (repeat' split) <;> omega
      rw [e] at ih
      exact ih
theorem told_st {n me : Int} {N o : Nat} {c t : Int} {l : List S34} (h : Tellings n me N o c t l) (hn : N ≤ 12) (hm0 : 0 ≤ me) (hm1 : me < n) (hc0 : 0 ≤ c) (hc1 : c ≤ 2) (ht0 : 0 ≤ t) (ht1 : t ≤ 1000) : toldL n me 5 l = tfin n (some (st me o c t N)) := by
  have hN := h.nN
  have hw : wrongL n me 5 l.length = 0 := by
    rw [h.len]; unfold wrongL
    rw [if_neg (by omega), if_neg (by omega)]
  have := tgo_st h hn hm0 hm1 hc0 hc1 ht0 ht1 N 0 (by omega)
  rw [List.drop_zero] at this
  rw [toldL, if_pos hw]
  have e : st me o c t 0 = (0, 0, 0) := by
    unfold st
    refine Prod.ext ?_ (Prod.ext ?_ ?_) <;> simp only [] <;> (repeat' split) <;> omega
  rw [e] at this
  exact congrArg _ this
/-- The letters as they are sent. -/
def sent (me : Int) : Nat → List S34
  | 0 => []
  | i + 1 => sent me i ++ [tl me 2 0 i]
theorem sent_len (me : Int) : ∀ i, (sent me i).length = i
  | 0 => rfl
  | i + 1 => by rw [sent, List.length_append, sent_len me i]; rfl
theorem sent_at (me : Int) : ∀ i k, k < i → (sent me i)[k]? = some (tl me 2 0 k)
  | 0, k, h => by omega
  | i + 1, k, h => by
    rw [sent]
    by_cases hk : k < i
    · rw [List.getElem?_append_left (by rw [sent_len]; exact hk)]; exact sent_at me i k hk
    · obtain rfl : k = i := by omega
      rw [List.getElem?_append_right (by rw [sent_len]; exact Nat.le_refl _), sent_len, Nat.sub_self]; rfl
theorem rd_of {l : List S34} {k : Nat} {x : S34} (h : l[k]? = some x) : rd_T34 l (k : Int) = x := by simp [rd_T34, List.getD_eq_getElem?_getD, h]
theorem sent_tell {n me : Int} {N : Nat} (hN : n = (N : Int)) (o : Nat) : Tellings n me N o 2 0 (sent me N) :=
  ⟨hN, sent_len me N, fun k hk _ => rd_of (sent_at me N k hk), fun ho => rd_of (sent_at me N o ho)⟩
theorem set_tell {n me : Int} {N : Nat} (hN : n = (N : Int)) (o : Nat) (c t : Int) : Tellings n me N o c t ((sent me N).set o (tl me c t o)) := by
  refine ⟨hN, by rw [List.length_set, sent_len], fun k hk hko => rd_of ?_, fun ho => rd_of ?_⟩
  · rw [List.getElem?_set_ne (fun h => hko h.symm)]; exact sent_at me N k hk
  · rw [List.getElem?_set_self (by rw [sent_len]; exact ho)]
theorem told_eq {a0 a1 a2 : Int} {l : List S34} (h : lenOk l = true) : term_Told.f a0 a1 a2 l = some (toldL a0 a1 a2 l) := if_pos h
theorem lenOk_sent (me : Int) : ∀ i, lenOk (sent me i) = true
  | 0 => rfl
  | i + 1 => by
    rw [sent]; unfold lenOk; rw [List.all_append, Bool.and_eq_true]
    exact ⟨lenOk_sent me i, rfl⟩
theorem lenOk_set {l : List S34} (h : lenOk l = true) (o : Nat) (me c t j : Int) : lenOk (l.set o (tl me c t j)) = true := by
  refine List.all_eq_true.2 fun x hx => ?_
  rcases List.mem_or_eq_of_mem_set hx with hx | rfl
  · exact List.all_eq_true.1 h x hx
  · rfl
theorem j1_ev {ts me x14 x15 x16 x18 : Int} (h : (if x14 = me then x15 = 3 ∧ x18 = 3 ∧ x16 = 0 else x15 = 1 ∧ x16 = ts ∧ x18 = 2)) : Ev (fun k => corncriblaw21_TermTells.j1 k ts me x14 x15 x16 x18 false) true := by
  refine Ev.succ ?_
  simp only [corncriblaw21_TermTells.j1]
  refine Ev.neg (by decide) ?_
  by_cases c : x14 = me
  · rw [if_pos c] at h
    refine Ev.pos c (Ev.pos h.1 (Ev.pos h.2.1 ?_))
    rw [h.2.2]; exact Ev.now _
  · rw [if_neg c] at h
    refine Ev.neg c (Ev.pos h.1 (Ev.pos h.2.1 ?_))
    rw [h.2.2]; exact Ev.now _
theorem tells_l0 (who ts n me : Int) (N : Nat) (hN : n = (N : Int)) (h2 : 2 ≤ N) (hn : N ≤ 12) (hm0 : 0 ≤ me) (hm1 : me < n) (ht0 : 1 ≤ ts) (ht1 : ts ≤ 1000) : ∀ (d i : Nat), i + d = N → Ev (fun k => corncriblaw21_TermTells.l0 k who ts n me (sent me i) n i) true
  | d + 1, i, h => by
    have e : wrap64 ((i : Int) + 1) = ((i + 1 : Nat) : Int) := by rw [wrap_id (by omega) (by omega)]; omega
    have ih := tells_l0 who ts n me N hN h2 hn hm0 hm1 ht0 ht1 d (i + 1) (by omega)
    refine Ev.succ ?_
    simp only [corncriblaw21_TermTells.l0, e]
    exact Ev.pos (by omega) (Ev.pos (by rw [sent_len]; omega) ih)
  | 0, i, h => by
    obtain rfl : i = N := by omega
    have hr0 := Int.emod_nonneg who (by omega : n ≠ 0)
    have hr1 := Int.emod_lt_of_pos who (by omega : 0 < n)
    have am := among_eq who n (by omega) (by omega)
    obtain ⟨o, ho⟩ : ∃ o : Nat, who % n = (o : Int) := ⟨(who % n).toNat, by omega⟩
    have hoN : o < i := by omega
    have s0 := sent_tell (me := me) hN i
    have s1 := set_tell (me := me) hN o 1 ts
    have s2 := set_tell (me := me) hN o 0 0
    refine Ev.succ ?_
    simp only [corncriblaw21_TermTells.l0]
    refine Ev.neg (by omega) ?_
    rw [am, ho, told_eq (lenOk_sent me i)]
    have ra : rd_T34 (sent me i) (o : Int) = tl me 2 0 o := rd_of (sent_at me i o hoN)
    have y1 : (sent me i).set o (tl me 1 0 o) = (sent me i).set o (tl me 1 0 o) := rfl
    have rb : rd_T34 ((sent me i).set o (tl me 1 0 o)) (o : Int) = tl me 1 0 o := rd_of (List.getElem?_set_self (by rw [sent_len]; exact hoN))
    have rc : rd_T34 ((sent me i).set o (tl me 1 ts o)) (o : Int) = tl me 1 ts o := rd_of (List.getElem?_set_self (by rw [sent_len]; exact hoN))
    have rd' : rd_T34 ((sent me i).set o (tl me 0 ts o)) (o : Int) = tl me 0 ts o := rd_of (List.getElem?_set_self (by rw [sent_len]; exact hoN))
    refine Ev.some_bind (Ev.some_bind (Ev.pos (by omega) (Ev.pos (by rw [sent_len]; omega) ?_)))
    simp only [Option.bind_some, Int.toNat_natCast, ra]
    rw [show (⟨(tl me 2 0 o).f0, (tl me 2 0 o).f1, (tl me 2 0 o).f2, (tl me 2 0 o).f3, (tl me 2 0 o).f4, 1, (tl me 2 0 o).f6, (tl me 2 0 o).f7, (tl me 2 0 o).f8⟩ : S34) = tl me 1 0 o from rfl]
    simp only [rb]
    rw [show (⟨(tl me 1 0 o).f0, (tl me 1 0 o).f1, (tl me 1 0 o).f2, (tl me 1 0 o).f3, ts, (tl me 1 0 o).f5, (tl me 1 0 o).f6, (tl me 1 0 o).f7, (tl me 1 0 o).f8⟩ : S34) = tl me 1 ts o from rfl]
    simp only [List.set_set, rc]
    rw [show (⟨(tl me 1 ts o).f0, (tl me 1 ts o).f1, (tl me 1 ts o).f2, (tl me 1 ts o).f3, (tl me 1 ts o).f4, 0, (tl me 1 ts o).f6, (tl me 1 ts o).f7, (tl me 1 ts o).f8⟩ : S34) = tl me 0 ts o from rfl]
    simp only [rd']
    rw [show (⟨(tl me 0 ts o).f0, (tl me 0 ts o).f1, (tl me 0 ts o).f2, (tl me 0 ts o).f3, 0, (tl me 0 ts o).f5, (tl me 0 ts o).f6, (tl me 0 ts o).f7, (tl me 0 ts o).f8⟩ : S34) = tl me 0 0 o from rfl]
    rw [told_eq (lenOk_set (lenOk_sent me i) o me 1 ts o), told_eq (lenOk_set (lenOk_sent me i) o me 0 0 o)]
    rw [told_st s0 (by omega) hm0 hm1 (by omega) (by omega) (by omega) (by omega), told_st s1 (by omega) hm0 hm1 (by omega) (by omega) (by omega) (by omega), told_st s2 (by omega) hm0 hm1 (by omega) (by omega) (by omega) (by omega)]
    have v0 : tfin n (some (st me i 2 0 i)) = (3, 0, 0) := by
      have e0 : st me i 2 0 i = (0, n - 1, 0) := by
        unfold st
        refine Prod.ext ?_ (Prod.ext ?_ ?_) <;> simp only [] <;> (repeat' split) <;> omega
      rw [e0, tfin]; simp
    have v1 : tfin n (some (st me o 1 ts i)) = if (o : Int) = me then (3, 0, 0) else (1, ts, 0) := by
      by_cases hom : (o : Int) = me
      · have e0 : st me o 1 ts i = (0, n - 1, 0) := by
          unfold st
          refine Prod.ext ?_ (Prod.ext ?_ ?_) <;> simp only [] <;> (repeat' split) <;> omega
        rw [e0, tfin, if_pos hom]; simp
      · have e0 : st me o 1 ts i = (0, n - 2, ts) := by
          unfold st
          simp only [hoN, hom, ne_eq, not_false_eq_true, true_and, if_true]
          refine Prod.ext ?_ (Prod.ext ?_ ?_) <;> simp only [] <;> (repeat' split) <;> omega
        rw [e0, tfin, if_neg hom, if_neg (by omega), if_pos (by omega)]
    have v2 : tfin n (some (st me o 0 0 i)) = if (o : Int) = me then (3, 0, 0) else (2, 0, 0) := by
      by_cases hom : (o : Int) = me
      · have e0 : st me o 0 0 i = (0, n - 1, 0) := by
          unfold st
          refine Prod.ext ?_ (Prod.ext ?_ ?_) <;> simp only [] <;> (repeat' split) <;> omega
        rw [e0, tfin, if_pos hom]; simp
      · have e0 : st me o 0 0 i = (1, n - 2, 0) := by
          unfold st
          simp only [hoN, hom, ne_eq, not_false_eq_true, true_and, if_true]
          refine Prod.ext ?_ (Prod.ext ?_ ?_) <;> simp only [] <;> (repeat' split) <;> omega
        rw [e0, tfin, if_neg hom, if_neg (by omega), if_neg (by omega), if_pos (by omega)]
    rw [v0, v1, v2]
    by_cases hom : (o : Int) = me
    · simp only [if_pos hom, Option.bind_some]
      refine Ev.pos (by trivial) (Ev.pos (by trivial) (Ev.pos (by trivial) (Ev.pos (by trivial) (Ev.pos (by trivial) ?_))))
      show Ev (fun k => corncriblaw21_TermTells.j1 k ts me o 3 0 3 false) true
      exact j1_ev (by rw [if_pos hom]; exact ⟨rfl, rfl, rfl⟩)
    · simp only [if_neg hom, Option.bind_some]
      refine Ev.pos (by trivial) (Ev.pos (by trivial) (Ev.pos (by trivial) (Ev.pos (by trivial) (Ev.pos (by trivial) ?_))))
      show Ev (fun k => corncriblaw21_TermTells.j1 k ts me o 1 ts 2 false) true
      exact j1_ev (by rw [if_neg hom]; exact ⟨rfl, rfl, rfl⟩)
theorem TermTellsCore (a b c who ts : Int) : ∃ k, corncriblaw21_TermTells.f k a b c who ts = some true := by
  refine Ev.rounds (g := fun k => corncriblaw21_TermTells.f k a b c who ts) ?_
  have a0 := Int.emod_nonneg a (by decide : (8 : Int) ≠ 0)
  have a1 := Int.emod_lt_of_pos a (by decide : (0 : Int) < 8)
  have t0 := Int.emod_nonneg ts (by decide : (1000 : Int) ≠ 0)
  have t1 := Int.emod_lt_of_pos ts (by decide : (0 : Int) < 1000)
  unfold corncriblaw21_TermTells.f
  rw [works21, among_eq a 8 (by decide) (by decide)]
  refine Ev.some_bind (Ev.pos rfl (Ev.some_bind ?_))
  rw [wrap_id (by omega) (by omega), among_eq b (2 + a % 8) (by omega) (by omega), among_eq ts 1000 (by decide) (by decide)]
  have b0 := Int.emod_nonneg b (by omega : 2 + a % 8 ≠ 0)
  have b1 := Int.emod_lt_of_pos b (by omega : 0 < 2 + a % 8)
  refine Ev.some_bind (Ev.some_bind ?_)
  rw [wrap_id (n := 1 + ts % 1000) (by omega) (by omega)]
  exact tells_l0 who (1 + ts % 1000) (2 + a % 8) (b % (2 + a % 8)) (2 + a % 8).toNat (by omega) (by omega) (by omega) b0 b1 (by omega) (by omega) (2 + a % 8).toNat 0 (by omega)
theorem TermTells {V0 V1 V2 U0 U1 U2 : Prop} (a b c who ts : Int) (_ : V0) (_ : V1) (_ : V2) (_ : U0) (_ : U1) (_ : U2) : ∃ k, corncriblaw21_TermTells.f k a b c who ts = some true := TermTellsCore a b c who ts
end Go.Proofs.Ytdecpagcaondiaa.Pure
