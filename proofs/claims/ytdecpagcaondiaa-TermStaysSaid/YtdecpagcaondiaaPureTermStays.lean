/- For every number of nodes, transaction, letters and such as come behind: a yes stays, nor does a no turn into anything else; letters of other transactions, kinds and addresses change nothing. No condition. -/
import Derived.Test.YtdecpagcaondiaaPyb
import Derived.Test.YtdecpagcaondiaaFcorncriblaw21TermStays
namespace Go.Proofs.Ytdecpagcaondiaa.Pure
open Go.RowKit Go.Proofs.Ytdecpagcaondiaa.Base Go.Proofs.Ytdecpagcaondiaa.Al Go.Proofs.Ytdecpagcaondiaa.LetSpec Go.Proofs.Ytdecpagcaondiaa.TermSpec Go.Proofs.Ytdecpagcaondiaa.TermRef Go.Proofs.Ytdecpagcaondiaa.Amg Go.Proofs.YtdecpagcaondiaaW.PrintWords
set_option linter.unusedVariables false
set_option linter.unusedSimpArgs false
/-- The first letter that counts from a node. -/
def fl (nodes txn : Int) (l : List S34) (j : Nat) : Option S34 := l.find? fun x => okB nodes txn 4 x && decide (x.f1 = (j : Int))
theorem fl_app {nodes txn : Int} {l m : List S34} {j : Nat} {x : S34} (h : fl nodes txn l j = some x) : fl nodes txn (l ++ m) j = some x := by
  unfold fl at h ⊢
  rw [List.find?_append, h]; rfl
theorem find_filter {p q : S34 → Bool} (h : ∀ x, p x = true → q x = true) : ∀ l : List S34, (l.filter q).find? p = l.find? p
  | [] => rfl
  | x :: l => by
    by_cases hq : q x = true
    · rw [List.filter_cons_of_pos hq, List.find?_cons, List.find?_cons, find_filter h l]
    · rw [List.filter_cons_of_neg hq, List.find?_cons]
      have hp : p x = false := by
        cases hp : p x with
        | false => rfl
        | true => exact absurd (h x hp) hq
      rw [hp]; exact find_filter h l
theorem fl_own {nodes txn : Int} {l : List S34} {j : Nat} : fl nodes txn (l.filter (ownB nodes txn)) j = fl nodes txn l j :=
  find_filter (fun x hx => by
    rw [Bool.and_eq_true] at hx
    obtain ⟨h1, h2, _, h4, _⟩ := of_decide_eq_true hx.1
    exact decide_eq_true ⟨h1, h2, h4⟩) l
theorem find_plc {nodes txn : Int} {l : List S34} {j : Nat} : (plc nodes txn 4 l j l.length).map (fun p => rd_T34 l (p : Int)) = fl nodes txn l j := by
  have hcond : ∀ x : S34, (okB nodes txn 4 x && decide (x.f1 = (j : Int))) = true ↔ okB nodes txn 4 x = true ∧ x.f1 = (j : Int) := fun x => by rw [Bool.and_eq_true, decide_eq_true_eq]
  cases hp : plc nodes txn 4 l j l.length with
  | none =>
    symm
    refine List.find?_eq_none.2 fun x hx hc => ?_
    obtain ⟨p, h1, h2⟩ := List.getElem_of_mem hx
    have : ∃ p, plc nodes txn 4 l j l.length = some p := (plc_ex l.length).2 ⟨p, h1, by rw [rd_at h1, h2]; exact (hcond x).1 hc⟩
    rw [hp] at this
    obtain ⟨_, h⟩ := this
    cases h
  | some p =>
    obtain ⟨h1, h2, h3, h4⟩ := plc_some l.length p hp
    symm
    show l.find? _ = some (rd_T34 l (p : Int))
    rw [rd_at h1]
    refine List.find?_eq_some_iff_getElem.2 ⟨(hcond _).2 (by rw [← rd_at h1]; exact ⟨h2, h3⟩), p, h1, rfl, fun q hq => ?_⟩
    have := h4 q hq
    rw [rd_at (by omega)] at this
    cases hc : (okB nodes txn 4 l[q] && decide (l[q].f1 = (j : Int))) with
    | false => rfl
    | true => exact absurd ((hcond _).1 hc) this
/-- Votes by the letters. -/
def vls : List (Option S34) → Int → Int
  | [], o => o
  | none :: r, _ => vls r 0
  | some x :: r, o => if x.f5 = 0 then 2 else vls r o
theorem vgo_vls (l : List S34) : ∀ (os : List (Option Nat)) (o : Int), vgo l os o = vls (os.map fun q => q.map fun p => rd_T34 l (p : Int)) o
  | [], _ => rfl
  | none :: r, o => by rw [vgo, vgo_vls l r 0]; rfl
  | some p :: r, o => by
    rw [vgo, vgo_vls l r o]; rfl
theorem full_fl (nodes txn : Int) (l : List S34) : (full nodes txn 4 l).map (fun q => q.map fun p => rd_T34 l (p : Int)) = (List.range nodes.toNat).map fun j => fl nodes txn l j := by
  apply List.ext_getElem
  · simp [full_len]
  · intro j h1 h2
    have hj : j < nodes.toNat := by simpa [full_len] using h1
    have e : (full nodes txn 4 l)[j]'(by rw [full_len]; exact hj) = plc nodes txn 4 l j l.length := by
      have := full_plc (nodes := nodes) (txn := txn) (kind := 4) (l := l) hj
      rw [← this]
      simp [rdOf, List.getD_eq_getElem?_getD, full_len, hj]
    simp only [List.getElem_map, List.getElem_range, e]
    exact find_plc
theorem votes_vls {nodes txn : Int} {l : List S34} (hw : wrongL nodes 0 txn l.length = 0) : votesL nodes txn l = (vls ((List.range nodes.toNat).map fun j => fl nodes txn l j) 1, 0) := by
  rw [votesL, if_pos hw, vgo_vls, full_fl]
/-- More letters: what was some stays. -/
def Ext : List (Option S34) → List (Option S34) → Prop
  | [], [] => True
  | a :: r, b :: s => (∀ x, a = some x → b = some x) ∧ Ext r s
  | _, _ => False
theorem ext_map {f g : Nat → Option S34} (h : ∀ j x, f j = some x → g j = some x) : ∀ l : List Nat, Ext (l.map f) (l.map g)
  | [] => trivial
  | j :: l => ⟨fun x hx => h j x hx, ext_map h l⟩
theorem vls_two : ∀ (a b : List (Option S34)) (o p : Int), Ext a b → o ≠ 2 → vls a o = 2 → vls b p = 2
  | [], [], o, p, _, ho, h => absurd h ho
  | none :: r, none :: s, o, p, he, _, h => vls_two r s 0 0 he.2 (by decide) h
  | none :: r, some y :: s, o, p, he, _, h => by
    rw [vls]
    split
    · rfl
    · exact vls_two r s 0 p he.2 (by decide) h
  | some x :: r, b :: s, o, p, he, ho, h => by
    have hb := he.1 x rfl
    subst hb
    rw [vls] at h ⊢
    split
    · rfl
    · rename_i hx
      rw [if_neg hx] at h
      exact vls_two r s o p he.2 ho h
theorem vls_zero : ∀ (a : List (Option S34)), vls a 0 = 0 ∨ vls a 0 = 2
  | [] => .inl rfl
  | none :: r => vls_zero r
  | some x :: r => by
    rw [vls]
    split
    · exact .inr rfl
    · exact vls_zero r
theorem vls_one : ∀ (a b : List (Option S34)), Ext a b → vls a 1 = 1 → vls b 1 = 1
  | [], [], _, _ => rfl
  | none :: r, b :: s, he, h => by
    rw [vls] at h
    rcases vls_zero r with h0 | h0 <;> rw [h0] at h <;> exact absurd h (by decide)
  | some x :: r, b :: s, he, h => by
    have hb := he.1 x rfl
    subst hb
    rw [vls] at h ⊢
    split
    · rename_i hx
      rw [if_pos hx] at h
      exact absurd h (by decide)
    · rename_i hx
      rw [if_neg hx] at h
      exact vls_one r s he.2 h
theorem vls_any : ∀ (a : List (Option S34)), vls a 1 = 0 ∨ vls a 1 = 1 ∨ vls a 1 = 2
  | [] => .inr (.inl rfl)
  | none :: r => by rw [vls]; rcases vls_zero r with h | h <;> rw [h] <;> decide
  | some x :: r => by
    rw [vls]
    split
    · exact .inr (.inr rfl)
    · exact vls_any r
theorem TermStaysCore (a b c : Int) (l m : List S34) (hl : l.length * 112 ≤ 140737488351232) (hm : m.length * 112 ≤ 140737488351232) (h : ∀ x ∈ l, x.f7.length * 16 ≤ 140737488351232 ∧ x.f8.length * 40 ≤ 140737488351232) (h' : ∀ x ∈ m, x.f7.length * 16 ≤ 140737488351232 ∧ x.f8.length * 40 ≤ 140737488351232) : corncriblaw21_TermStays.f a b c l m = some true := by
  have r0 := Int.emod_nonneg a (by decide : (6 : Int) ≠ 0)
  have r1 := Int.emod_lt_of_pos a (by decide : (0 : Int) < 6)
  have s0 := Int.emod_nonneg c (by decide : (6 : Int) ≠ 0)
  have s1 := Int.emod_lt_of_pos c (by decide : (0 : Int) < 6)
  unfold corncriblaw21_TermStays.f
  rw [works21, Option.bind_some, if_pos rfl, among_eq a 6 (by decide) (by decide), among_eq c 6 (by decide) (by decide), Option.bind_some, Option.bind_some]
  rw [if_pos ⟨r0, by omega, s0, by omega, lenOk_of h, lenOk_of h', by omega, by omega⟩]
  by_cases hz : 500 < l.length + m.length
  · rw [if_pos hz]
  rw [if_neg hz]
  have hwr : ∀ n : Nat, n ≤ 1024 → wrongL (1 + a % 6) 0 (1 + c % 6) n = 0 := fun n hn => by
    unfold wrongL
    rw [if_neg (by omega), if_neg (by omega)]
  have hf := List.length_filter_le (ownB (1 + a % 6) (1 + c % 6)) l
  rw [votes_vls (hwr l.length (by omega)), votes_vls (hwr (l ++ m).length (by rw [List.length_append]; omega)), votes_vls (hwr (l.filter (ownB (1 + a % 6) (1 + c % 6))).length (by omega))]
  simp only [fl_own]
  refine if_pos ⟨trivial, trivial, ?_, trivial, trivial⟩
  have he := ext_map (f := fun j => fl (1 + a % 6) (1 + c % 6) l j) (g := fun j => fl (1 + a % 6) (1 + c % 6) (l ++ m) j) (fun j x hx => fl_app hx) (List.range (1 + a % 6).toNat)
  rcases vls_any ((List.range (1 + a % 6).toNat).map fun j => fl (1 + a % 6) (1 + c % 6) l j) with hv | hv | hv
  · exact .inl hv
  · exact .inr (by rw [hv, vls_one _ _ he hv])
  · exact .inr (by rw [hv, vls_two _ _ 1 1 he (by decide) hv])
theorem TermStays {V0 V1 V2 U0 : Prop} {L0 L1 L2 L3 L4 L5 L6 Q7 Q8 M0 M1 M2 M3 M4 M5 M6 R7 R8 : S34 → Prop} (a b c : Int) (l m : List S34) (_ : V0) (_ : V1) (_ : V2) (_ : U0)
    (h : l.length * 112 ≤ 140737488351232 ∧ ∀ x ∈ l, L0 x ∧ L1 x ∧ L2 x ∧ L3 x ∧ L4 x ∧ L5 x ∧ L6 x ∧ (x.f7.length * 16 ≤ 140737488351232 ∧ Q7 x) ∧ (x.f8.length * 40 ≤ 140737488351232 ∧ Q8 x))
    (h' : m.length * 112 ≤ 140737488351232 ∧ ∀ x ∈ m, M0 x ∧ M1 x ∧ M2 x ∧ M3 x ∧ M4 x ∧ M5 x ∧ M6 x ∧ (x.f7.length * 16 ≤ 140737488351232 ∧ R7 x) ∧ (x.f8.length * 40 ≤ 140737488351232 ∧ R8 x)) : corncriblaw21_TermStays.f a b c l m = some true :=
  TermStaysCore a b c l m h.1 h'.1 (fun x hx => ⟨(h.2 x hx).2.2.2.2.2.2.2.1.1, (h.2 x hx).2.2.2.2.2.2.2.2.1⟩) (fun x hx => ⟨(h'.2 x hx).2.2.2.2.2.2.2.1.1, (h'.2 x hx).2.2.2.2.2.2.2.2.1⟩)
end Go.Proofs.Ytdecpagcaondiaa.Pure
