/- For every number of nodes, those who are out, and who says no: of votes of all nodes but these, in any order, these are missing, and it is open; with them, if all are 1, it is yes; with one 0 it is no. No condition. -/
import Derived.Test.YtdecpagcaondiaaPcb
import Derived.Test.YtdecpagcaondiaaFcorncriblaw21TermCounts
namespace Go.Proofs.Ytdecpagcaondiaa.Pure
open Go.RowKit Go.Proofs.Ytdecpagcaondiaa.Base Go.Proofs.Ytdecpagcaondiaa.Al Go.Proofs.Ytdecpagcaondiaa.LetSpec Go.Proofs.Ytdecpagcaondiaa.TermSpec Go.Proofs.Ytdecpagcaondiaa.TermRef Go.Proofs.Ytdecpagcaondiaa.Amg Go.Proofs.Ytdecpagcaondiaa.SameI Go.Proofs.YtdecpagcaondiaaW.PrintWords
set_option linter.unusedVariables false
set_option linter.unusedSimpArgs false
/-- A ballot of a node. -/
def bal (c : Int) (j : Int) : S34 := ⟨4, j, 100, 5, 0, c, ⟨#[]⟩, [], []⟩
theorem bal_ok {n c j : Int} (hn : n ≤ 12) (hc0 : 0 ≤ c) (hc1 : c ≤ 1) (hj0 : 0 ≤ j) (hj1 : j < n) : okB n 5 4 (bal c j) = true := by
  have h1 : addrB j = true := decide_eq_true (by omega)
  have h2 : addrB 100 = true := by decide
  refine decide_eq_true ⟨rfl, rfl, hj0, hj1, ?_⟩
  show chkL 4 j 100 5 0 c ⟨#[]⟩ [] [] = 0
  have hs : sw 4 c ⟨#[]⟩ [] [] = some (1, true, true, true) := by
    unfold sw
    rw [if_neg (by decide), if_neg (by decide), if_neg (by decide), if_neg (by decide), if_pos rfl, show (⟨#[]⟩ : ByteArray).toList = [] from (empty_iff _).2 rfl]
    rfl
  unfold chkL
  rw [if_pos ⟨h1, h2, by decide, by decide, by decide, by decide, hc0⟩, hs]
  exact if_pos ⟨hc1, rfl, rfl, rfl⟩
/-- The letters: of each of these nodes one, the last one first. -/
def bals (g : Nat → Bool) : Nat → List S34
  | 0 => []
  | i + 1 => if g i = true then bals g i else bal 1 i :: bals g i
def wants (g : Nat → Bool) : Nat → List Int
  | 0 => []
  | i + 1 => if g i = true then wants g i ++ [(i : Int)] else wants g i
theorem bals_mem {g : Nat → Bool} {x : S34} : ∀ i, x ∈ bals g i ↔ ∃ j, j < i ∧ g j = false ∧ x = bal 1 j
  | 0 => by simp [bals]
  | i + 1 => by
    rw [bals]
    split
    · rename_i h
      rw [bals_mem i]
      constructor
      · rintro ⟨j, h1, h2⟩; exact ⟨j, by omega, h2⟩
      · rintro ⟨j, h1, h2, h3⟩
        refine ⟨j, ?_, h2, h3⟩
        have : j ≠ i := fun hc => by subst hc; rw [h] at h2; cases h2
        omega
    · rename_i h
      rw [List.mem_cons, bals_mem i]
      constructor
      · rintro (rfl | ⟨j, h1, h2⟩)
        · exact ⟨i, by omega, by simpa using h, rfl⟩
        · exact ⟨j, by omega, h2⟩
      · rintro ⟨j, h1, h2, h3⟩
        by_cases hj : j = i
        · subst hj; exact .inl h3
        · exact .inr ⟨j, by omega, h2, h3⟩
theorem bals_len (g : Nat → Bool) : ∀ i, (bals g i).length ≤ i
  | 0 => Nat.le_refl _
  | i + 1 => by
    rw [bals]; have := bals_len g i
    split
    · omega
    · rw [List.length_cons]; omega
theorem lenOk_mem {l : List S34} (h : ∀ x ∈ l, x.f7 = [] ∧ x.f8 = []) : lenOk l = true := List.all_eq_true.2 fun x hx => decide_eq_true (by rw [(h x hx).1, (h x hx).2]; simp)
theorem rd_mem {l : List S34} {p : Nat} (h : p < l.length) : rd_T34 l (p : Int) ∈ l := by rw [rd_at h]; exact List.getElem_mem h
theorem mem_rd {l : List S34} {x : S34} (h : x ∈ l) : ∃ p, p < l.length ∧ rd_T34 l (p : Int) = x := by
  obtain ⟨p, hp, he⟩ := List.getElem_of_mem h
  exact ⟨p, hp, by rw [rd_at hp, he]⟩
/-- Who of the nodes has a letter. -/
theorem full_mem {n : Int} {l : List S34} {j : Nat} (hj : j < n.toNat) : (∃ p, rdOf none (full n 5 4 l) (j : Int) = some p) ↔ ∃ x ∈ l, okB n 5 4 x = true ∧ x.f1 = j := by
  rw [full_plc hj, plc_ex]
  constructor
  · rintro ⟨p, h1, h2⟩; exact ⟨_, rd_mem h1, h2⟩
  · rintro ⟨x, hx, h2⟩
    obtain ⟨p, h1, rfl⟩ := mem_rd hx
    exact ⟨p, h1, h2⟩
theorem full_val {n : Int} {l : List S34} {j p : Nat} (hj : j < n.toNat) (h : rdOf none (full n 5 4 l) (j : Int) = some p) : rd_T34 l (p : Int) ∈ l := by
  rw [full_plc hj] at h
  exact rd_mem (plc_some _ _ h).1
/-- Votes by what the entries are. -/
theorem vgo_yes {l : List S34} : ∀ (os : List (Option Nat)), (∀ j, j < os.length → ∃ p, rdOf none os (j : Int) = some p ∧ (rd_T34 l (p : Int)).f5 ≠ 0) → ∀ o, vgo l os o = o
  | [], _, _ => rfl
  | o :: r, h, v => by
    obtain ⟨p, h1, h2⟩ := h 0 (by simp)
    have h1' : o = some p := by simpa [rdOf] using h1
    subst h1'
    rw [vgo, if_neg h2]
    refine vgo_yes r (fun j hj => ?_) v
    obtain ⟨q, h3, h4⟩ := h (j + 1) (by simp; omega)
    exact ⟨q, by simpa [rdOf] using h3, h4⟩
theorem vgo_open {l : List S34} : ∀ (os : List (Option Nat)), (∀ j p, j < os.length → rdOf none os (j : Int) = some p → (rd_T34 l (p : Int)).f5 ≠ 0) → ∀ o, vgo l os o = if ∃ j, j < os.length ∧ rdOf none os (j : Int) = none then 0 else o
  | [], _, o => by rw [vgo, if_neg (by simp)]
  | none :: r, h, o => by
    rw [vgo, vgo_open r (fun j p hj hp => h (j + 1) p (by simp; omega) (by simpa [rdOf] using hp)) 0, if_pos (show ∃ j, j < (none :: r).length ∧ rdOf none (none :: r) (j : Int) = none from ⟨0, by simp, by simp [rdOf]⟩)]
    split <;> rfl
  | some q :: r, h, o => by
    rw [vgo, if_neg (h 0 q (by simp) (by simp [rdOf])), vgo_open r (fun j p hj hp => h (j + 1) p (by simp; omega) (by simpa [rdOf] using hp)) o]
    congr 1
    apply propext
    constructor
    · rintro ⟨j, h1, h2⟩; exact ⟨j + 1, by simp; omega, by simpa [rdOf] using h2⟩
    · rintro ⟨j, h1, h2⟩
      cases j with
      | zero => simp [rdOf] at h2
      | succ j => exact ⟨j, by simp at h1; omega, by simpa [rdOf] using h2⟩
theorem vgo_no {l : List S34} : ∀ (os : List (Option Nat)) (j p : Nat), j < os.length → rdOf none os (j : Int) = some p → (rd_T34 l (p : Int)).f5 = 0 → ∀ o, vgo l os o = 2
  | [], j, p, h, _, _, _ => by simp at h
  | none :: r, j, p, h, h1, h2, o => by
    cases j with
    | zero => simp [rdOf] at h1
    | succ j => rw [vgo]; exact vgo_no r j p (by simp at h; omega) (by simpa [rdOf] using h1) h2 0
  | some q :: r, j, p, h, h1, h2, o => by
    rw [vgo]
    split
    · rfl
    · rename_i hq
      cases j with
      | zero => simp [rdOf] at h1; subst h1; exact absurd h2 hq
      | succ j => exact vgo_no r j p (by simp at h; omega) (by simpa [rdOf] using h1) h2 o
theorem mgo_app : ∀ (a b : List (Option Nat)) (j : Nat), mgo (a ++ b) j = mgo a j ++ mgo b (j + a.length)
  | [], b, j => by simp [mgo]
  | none :: a, b, j => by simp only [List.cons_append, mgo, mgo_app a b (j + 1), List.length_cons]; rw [Nat.add_right_comm, Nat.add_assoc]
  | some _ :: a, b, j => by simp only [List.cons_append, mgo, mgo_app a b (j + 1), List.length_cons]; rw [Nat.add_right_comm, Nat.add_assoc]
theorem mgo_wants {os : List (Option Nat)} {g : Nat → Bool} (h : ∀ j, j < os.length → (rdOf none os (j : Int) = none ↔ g j = true)) : ∀ i, i ≤ os.length → mgo (os.take i) 0 = wants g i
  | 0, _ => rfl
  | i + 1, hi => by
    have hlt : i < os.length := hi
    have e : os[i] = rdOf none os (i : Int) := by simp [rdOf, List.getD_eq_getElem?_getD, hlt]
    rw [List.take_succ_eq_append_getElem hlt, mgo_app, mgo_wants h i (by omega), wants, List.length_take, Nat.min_eq_left (by omega), e]
    have hj := h i hlt
    cases hc : rdOf none os (i : Int) with
    | none => rw [if_pos (hj.1 hc)]; simp [mgo]
    | some p =>
      have : ¬ g i = true := fun hg => by rw [hj.2 hg] at hc; cases hc
      rw [if_neg this]; simp [mgo]
theorem wants_nil {g : Nat → Bool} : ∀ i, wants g i = [] ↔ ∀ j, j < i → g j = false
  | 0 => by simp [wants]
  | i + 1 => by
    rw [wants]
    split
    · rename_i h
      constructor
      · intro hc; simp at hc
      · intro hc; rw [hc i (by omega)] at h; cases h
    · rename_i h
      rw [wants_nil i]
      constructor
      · intro hc j hj
        by_cases he : j = i
        · subst he; simpa using h
        · exact hc j (by omega)
      · intro hc j hj; exact hc j (by omega)
theorem wants_len (g : Nat → Bool) : ∀ i, (wants g i).length ≤ i
  | 0 => Nat.le_refl _
  | i + 1 => by
    rw [wants]; have := wants_len g i
    split
    · rw [List.length_append]; simp; omega
    · omega
section
variable {N : Nat} {g : Nat → Bool} (h1 : 1 ≤ N) (h2 : N ≤ 12)
theorem bals_entry (hN : N ≤ 12) {j : Nat} (hj : j < N) : rdOf none (full (N : Int) 5 4 (bals g N)) (j : Int) = none ↔ g j = true := by
  have hx := full_mem (n := (N : Int)) (l := bals g N) (j := j) (by omega)
  constructor
  · intro hn
    cases hg : g j with
    | true => rfl
    | false =>
      exfalso
      obtain ⟨p, hp⟩ := hx.2 ⟨bal 1 j, (bals_mem N).2 ⟨j, hj, hg, rfl⟩, bal_ok (by omega) (by decide) (by decide) (by omega) (by omega), rfl⟩
      rw [hn] at hp; cases hp
  · intro hg
    cases hc : rdOf none (full (N : Int) 5 4 (bals g N)) (j : Int) with
    | none => rfl
    | some p =>
      exfalso
      obtain ⟨x, hm, _, hf⟩ := hx.1 ⟨p, hc⟩
      obtain ⟨q, hq1, hq2, rfl⟩ := (bals_mem N).1 hm
      have : q = j := by have : (q : Int) = j := hf; omega
      subst this
      rw [hg] at hq2; cases hq2
theorem bals_code {j p : Nat} (hj : j < N) (hp : rdOf none (full (N : Int) 5 4 (bals g N)) (j : Int) = some p) : (rd_T34 (bals g N) (p : Int)).f5 ≠ 0 := by
  obtain ⟨q, _, _, he⟩ := (bals_mem N).1 (full_val (by omega) hp)
  rw [he]; show (1 : Int) ≠ 0; decide
theorem wrong_ok (hN1 : 1 ≤ N) (hN : N ≤ 12) {m : Nat} (hm : m ≤ 1024) : wrongL (N : Int) 0 5 m = 0 := by
  unfold wrongL
  rw [if_neg (by omega), if_neg (by omega)]
theorem bals_miss (hN1 : 1 ≤ N) (hN : N ≤ 12) : missL (N : Int) 5 4 (bals g N) = (wants g N, 0) := by
  have := bals_len g N
  rw [missL, if_pos (wrong_ok hN1 hN (by omega))]
  have hl : (full (N : Int) 5 4 (bals g N)).length = N := by rw [full_len]; omega
  have hm := mgo_wants (os := full (N : Int) 5 4 (bals g N)) (g := g) (fun j hj => bals_entry hN (by omega)) N (by omega)
  rw [List.take_of_length_le (by omega)] at hm
  rw [hm]
theorem bals_votes (hN1 : 1 ≤ N) (hN : N ≤ 12) : votesL (N : Int) 5 (bals g N) = (if wants g N = [] then 1 else 0, 0) := by
  have := bals_len g N
  rw [votesL, if_pos (wrong_ok hN1 hN (by omega))]
  have hl : (full (N : Int) 5 4 (bals g N)).length = N := by rw [full_len]; omega
  rw [vgo_open _ (fun j p hj hp => bals_code (by omega) hp) 1]
  congr 1
  by_cases hw : wants g N = []
  · rw [if_pos hw, if_neg]
    rintro ⟨j, h1, h2⟩
    have := (bals_entry hN (by omega)).1 h2
    rw [(wants_nil N).1 hw j (by omega)] at this
    cases this
  · rw [if_neg hw, if_pos]
    have : ¬ ∀ j, j < N → g j = false := fun hc => hw ((wants_nil N).2 hc)
    obtain ⟨j, hj⟩ := Classical.not_forall.1 this
    obtain ⟨h1, h2⟩ := Classical.not_imp.1 hj
    exact ⟨j, by omega, (bals_entry hN h1).2 (by simpa using h2)⟩
/-- With a no ahead. -/
theorem no_votes (hN1 : 1 ≤ N) (hN : N ≤ 12) {x : Nat} (hx : x < N) : votesL (N : Int) 5 (bal 0 x :: bals g N) = (2, 0) := by
  have := bals_len g N
  rw [votesL, if_pos (wrong_ok hN1 hN (by rw [List.length_cons]; omega))]
  have hl : (full (N : Int) 5 4 (bal 0 x :: bals g N)).length = N := by rw [full_len]; omega
  have hp : rdOf none (full (N : Int) 5 4 (bal 0 x :: bals g N)) (x : Int) = some 0 := by
    rw [full_plc (by omega), List.length_cons]
    have h0 : plc (N : Int) 5 4 (bal 0 x :: bals g N) x (0 + 1) = some 0 := by
      rw [plc, if_pos ⟨rfl, bal_ok (by omega) (by decide) (by decide) (by omega) (by omega), rfl⟩]
    have := plc_stay (bals g N).length (0 + 1) h0
    rwa [show 0 + 1 + (bals g N).length = (bals g N).length + 1 by omega] at this
  rw [vgo_no _ x 0 (by omega) hp rfl 1]
end
theorem votes_ok {N : Nat} {g : Nat → Bool} : lenOk (bals g N) = true := lenOk_mem fun x hx => by obtain ⟨j, _, _, rfl⟩ := (bals_mem N).1 hx; exact ⟨rfl, rfl⟩
/-- Who is out, as the list of flags tells. -/
def gf (gone : List Bool) (j : Nat) : Bool := rdOf false gone (j : Int)
theorem bal_eq (j : Int) (c : Int) : corncriblaw21_ballot.f j c = some (4, j, 100, 5, 0, c, (⟨#[]⟩ : ByteArray), ([] : List ByteArray), ([] : List S70)) := rfl
theorem nf_false : ∀ i, bals (fun _ => false) i = bals (fun _ => false) i := fun _ => rfl
theorem counts_l1 (N : Nat) (hN1 : 1 ≤ N) (hN : N ≤ 12) (no : Int) (gone : List Bool) (hg : gone.length = N) : ∀ (d i : Nat), i + d = N →
    Ev (fun k => corncriblaw21_TermCounts.l1 k N no gone (bals (gf gone) i) (bals (fun _ => false) i) (wants (gf gone) i) N i) true
  | d + 1, i, h => by
    have hi : i < N := by omega
    have e : wrap64 ((i : Int) + 1) = ((i + 1 : Nat) : Int) := by rw [wrap_id (by omega) (by omega)]; omega
    have ih := counts_l1 N hN1 hN no gone hg d (i + 1) (by omega)
    have l1 := bals_len (gf gone) i
    have l2 := bals_len (fun _ => false) i
    have l3 := wants_len (gf gone) i
    refine Ev.succ ?_
    simp only [corncriblaw21_TermCounts.l1, e, bal_eq, Option.bind_some]
    rw [show (⟨4, (i : Int), 100, 5, 0, 1, ⟨#[]⟩, [], []⟩ : S34) = bal 1 i from rfl]
    have hb : bals (fun _ => false) (i + 1) = bal 1 i :: bals (fun _ => false) i := by rw [bals, if_neg (by decide)]
    rw [hb] at ih
    refine Ev.pos (by omega) (Ev.pos (by simp; omega) (Ev.pos (by omega) (Ev.pos (by omega) ?_)))
    by_cases hgi : rdOf false gone (i : Int) = true
    · have h1 : bals (gf gone) (i + 1) = bals (gf gone) i := by rw [bals]; exact if_pos hgi
      have h2 : wants (gf gone) (i + 1) = wants (gf gone) i ++ [(i : Int)] := by rw [wants]; exact if_pos hgi
      rw [h1, h2] at ih
      exact Ev.pos hgi (Ev.pos (by omega) ih)
    · have h1 : bals (gf gone) (i + 1) = bal 1 i :: bals (gf gone) i := by rw [bals]; exact if_neg hgi
      have h2 : wants (gf gone) (i + 1) = wants (gf gone) i := by rw [wants]; exact if_neg hgi
      rw [h1, h2] at ih
      exact Ev.neg hgi (Ev.pos (by simp; omega) ih)
  | 0, i, h => by
    obtain rfl : i = N := by omega
    have r0 := Int.emod_nonneg no (by omega : (i : Int) ≠ 0)
    have r1 := Int.emod_lt_of_pos no (by omega : (0 : Int) < i)
    obtain ⟨x, hx⟩ : ∃ x : Nat, no % (i : Int) = (x : Int) := ⟨(no % (i : Int)).toNat, by omega⟩
    have l3 := wants_len (gf gone) i
    have l2 := bals_len (fun _ => false) i
    have hw0 : wants (fun _ => false) i = [] := (wants_nil i).2 fun _ _ => rfl
    have hbx : lenOk (bal 0 x :: bals (fun _ => false) i) = true := by
      have := votes_ok (N := i) (g := fun _ => false)
      unfold lenOk at this ⊢
      rw [List.all_cons, Bool.and_eq_true]
      exact ⟨rfl, this⟩
    refine Ev.succ ?_
    simp only [corncriblaw21_TermCounts.l1]
    refine Ev.neg (by omega) ?_
    rw [show term_Missing.f i 5 4 (bals (gf gone) i) = some (missL i 5 4 (bals (gf gone) i)) from if_pos votes_ok, votes_eq votes_ok, votes_eq votes_ok, among_eq no i (by omega) (by omega), hx, bals_miss hN1 hN, bals_votes hN1 hN, bals_votes hN1 hN, if_pos hw0]
    simp only [Option.bind_some, bal_eq]
    rw [show (⟨4, (x : Int), 100, 5, 0, 0, ⟨#[]⟩, [], []⟩ : S34) = bal 0 x from rfl]
    refine Ev.pos (by simp; omega) ?_
    rw [show [bal 0 (x : Int)] ++ bals (fun _ => false) i = bal 0 (x : Int) :: bals (fun _ => false) i from rfl, votes_eq hbx, no_votes hN1 hN (by omega)]
    refine Ev.some_bind (Ev.pos (by trivial) (Ev.pos (by trivial) (Ev.pos (by trivial) (Ev.pos (by trivial) (Ev.bind (sameI_ev _ (by omega)) (Ev.pos rfl ?_))))))
    refine Ev.pos ?_ (Ev.neg ?_ (Ev.pos (by trivial) (Ev.now _)))
    · by_cases hw : wants (gf gone) i = []
      · rw [if_pos hw, hw]; rfl
      · rw [if_neg hw]
        have : (((wants (gf gone) i).length : Int) == 0) = false := beq_eq_false_iff_ne.2 (by have := List.length_pos_iff.2 hw; omega)
        rw [this]; rfl
    · split <;> decide
theorem counts_l0 (N : Nat) (hN1 : 1 ≤ N) (hN : N ≤ 12) (no : Int) (out : List Int) (ho : out.length * 8 ≤ 140737488351232) : ∀ (d i : Nat) (gone : List Bool), i + d = out.length → gone.length = N →
    Ev (fun k => corncriblaw21_TermCounts.l0 k N no gone out (out.length : Int) i) true
  | 0, i, gone, h, hg => by
    refine Ev.succ ?_
    simp only [corncriblaw21_TermCounts.l0]
    exact Ev.neg (by omega) (counts_l1 N hN1 hN no gone hg N 0 (by omega))
  | d + 1, i, gone, h, hg => by
    have e : wrap64 ((i : Int) + 1) = ((i + 1 : Nat) : Int) := by rw [wrap_id (by omega) (by omega)]; omega
    have r0 := Int.emod_nonneg (rd out (i : Int)) (by omega : (N : Int) ≠ 0)
    have r1 := Int.emod_lt_of_pos (rd out (i : Int)) (by omega : (0 : Int) < N)
    have ih := counts_l0 N hN1 hN no out ho d (i + 1) (gone.set (rd out (i : Int) % (N : Int)).toNat true) (by omega) (by rw [List.length_set]; exact hg)
    refine Ev.succ ?_
    simp only [corncriblaw21_TermCounts.l0, e]
    rw [among_eq _ _ (by omega) (by omega)]
    exact Ev.pos (by omega) (Ev.pos (by omega) (Ev.pos (by omega) (Ev.some_bind (Ev.pos (by omega) (Ev.pos (by omega) ih)))))
theorem TermCountsCore (a0 : Int) (l1 : List Int) (a2 : Int) (h : l1.length * 8 ≤ 140737488351232) : ∃ k, corncriblaw21_TermCounts.f k a0 l1 a2 = some true := by
  refine Ev.rounds (g := fun k => corncriblaw21_TermCounts.f k a0 l1 a2) ?_
  have r0 := Int.emod_nonneg a0 (by decide : (12 : Int) ≠ 0)
  have r1 := Int.emod_lt_of_pos a0 (by decide : (0 : Int) < 12)
  unfold corncriblaw21_TermCounts.f
  rw [works21, among_eq a0 12 (by decide) (by decide)]
  refine Ev.some_bind (Ev.pos rfl (Ev.some_bind ?_))
  rw [wrap_id (by omega) (by omega)]
  obtain ⟨N, hN⟩ : ∃ N : Nat, 1 + a0 % 12 = (N : Int) := ⟨(1 + a0 % 12).toNat, by omega⟩
  rw [hN, Int.toNat_natCast]
  exact Ev.pos (by omega) (Ev.pos (by omega) (counts_l0 N (by omega) (by omega) a2 l1 h l1.length 0 _ (by omega) (by rw [List.length_replicate])))
theorem TermCounts {V0 V1 V2 U0 Q U2 : Prop} (a0 : Int) (l1 : List Int) (a2 : Int) (_ : V0) (_ : V1) (_ : V2) (_ : U0) (h : l1.length * 8 ≤ 140737488351232 ∧ Q) (_ : U2) : ∃ k, corncriblaw21_TermCounts.f k a0 l1 a2 = some true := TermCountsCore a0 l1 a2 h.1
end Go.Proofs.Ytdecpagcaondiaa.Pure
