/- What the laws stand on, in one text: functions of the program by their contracts, and the plain mathematics behind them (21 of them). -/
import Derived.Test.YtbgilmdmebmcnaaWWords
import Derived.Test.YtbgilmdmebmcnaaProg
import Derived.Below
import Derived.Deep.Draws
import Derived.Deep.AppendLies
import Derived.Maps.AppendAt
import Derived.OwnWalk
import Derived.Laws.BytesArg
import Derived.Laws.MakeOwn
import Derived.Laws.OwnMore
import Derived.Deep.OwnRows
import Derived.Tactics
import Derived.Lib.ConvBytes
import Derived.Laws.Slices
import Derived.WalkKit
import Derived.KernelRfl
import Derived.RowKit3
import Derived.Deep.LoopGhost
import Derived.Deep.QuietTactic
import Derived.BigQuiet
import Derived.WideLaws
import Derived.Deep.DeepCutAuto
import Derived.Deep.CutBlock
import Derived.Deep.RegionHeld3
import Derived.Laws.Rows
import Derived.Lib.AppendStr
import Derived.ArgAppend
import Derived.Laws.IdiomCopy
import Derived.OrdersHeld
import Derived.Laws.BitsLemmas
import Derived.RowKit
import Derived.Test.YtbgilmdmebmcnaaWLast
import Derived.Test.YtbgilmdmebmcnaaWTab
import Derived.Test.YtbgilmdmebmcnaaWFour
import Derived.Test.YtbgilmdmebmcnaaWQPut
import Derived.Test.YtbgilmdmebmcnaaWApart
import Derived.Test.YtbgilmdmebmcnaaWArr
import Derived.Test.YtbgilmdmebmcnaaWZeros
import Derived.Test.YtbgilmdmebmcnaaWFoot
import Derived.Test.YtbgilmdmebmcnaaWKept
import Derived.Test.YtbgilmdmebmcnaaWShare
import Derived.Test.YtbgilmdmebmcnaaWN
import Derived.Test.YtbgilmdmebmcnaaWFootNe
import Derived.Test.YtbgilmdmebmcnaaWAt
import Derived.Test.YtbgilmdmebmcnaaWEqStruct
import Derived.Test.YtbgilmdmebmcnaaWRepsOne
import Derived.Test.YtbgilmdmebmcnaaWInv
import Derived.Test.YtbgilmdmebmcnaaWInvWords
import Derived.Test.YtbgilmdmebmcnaaWGuard
import Derived.Test.YtbgilmdmebmcnaaWNEv
import Derived.Test.YtbgilmdmebmcnaaWMore
import Derived.Lib.SliceRun
import Derived.Laws.BitsAllLaws
import Derived.Test.YtbgilmdmebmcnaaRows
import Derived.ChangeArms
import Derived.ChangeShapes
import Derived.SizedLaws

/- A table of leases as plain data: what each call answers, and what it leaves. -/
namespace Go.Proofs.Ytbgilmdmebmcnaa.LeaseSpec
open Go.RowKit
/-- number, stamp, until -/
abbrev L3 := Int × Int × Int
structure Tb where
 long : Int
 many : Int
 l : List L3
def tickOk (n : Int) : Bool := decide (0 ≤ n) && decide (n ≤ 1099511627776)
def stampOk (n : Int) : Bool := decide (0 ≤ n) && decide (n ≤ 1125899906842624)
def stays (now : Int) (x : L3) : Bool := decide (now ≤ x.2.2)
def left (now : Int) (l : List L3) : List L3 := l.filter (stays now)
def isNo (n : Int) (x : L3) : Bool := x.1 == n
def idx (n : Int) (l : List L3) : Nat := l.findIdx (isNo n)
def takeT (t : Tb) (now ts : Int) : Tb × Int × Int :=
 if tickOk now && stampOk ts then
  if (left now t.l).length < 1024 then (⟨t.long, t.many + 1, left now t.l ++ [(t.many + 1, ts, now + t.long)]⟩, t.many + 1, 0) else (t, 0, 2)
 else (t, 0, 1)
/-- what find answers: a place, or an error -/
def findT (t : Tb) (now n : Int) : Nat × Int :=
 if tickOk now then
  match t.l[idx n t.l]? with
  |none => (0, 5)
  |some x => if x.2.2 < now then (0, 170) else (idx n t.l, 0)
 else (0, 1)
def checkT (t : Tb) (now n : Int) : Int × Int :=
 match findT t now n with
 |(i, e) => if e = 0 then ((t.l.getD i (0, 0, 0)).2.1, 0) else (0, e)
def keepT (t : Tb) (now n : Int) : Tb × Int :=
 match findT t now n with
 |(i, e) => if e = 0 then (⟨t.long, t.many, t.l.set i ((t.l.getD i (0, 0, 0)).1, (t.l.getD i (0, 0, 0)).2.1, max (t.l.getD i (0, 0, 0)).2.2 (now + t.long))⟩, 0) else (t, e)
def endT (t : Tb) (n : Int) : Tb × Int :=
 if idx n t.l < t.l.length then (⟨t.long, t.many, t.l.eraseIdx (idx n t.l)⟩, 0) else (t, 5)
def lowL (now : Int) (l : List L3) (last : Int) : Int := (left now l).foldl (fun a x => min a x.2.1) last
def lowT (t : Tb) (now last : Int) : Int × Int := if tickOk now && stampOk last then (lowL now t.l last, 0) else (0, 1)
/-- what the calls lean on: no sum wraps, no list grows past its bound -/
structure Ok (k : Nat) (t : Tb) : Prop where
 l0 : 0 ≤ t.long
 l1 : t.long ≤ 1048576
 m0 : 0 ≤ t.many
 m1 : t.many ≤ k
 len : t.l.length ≤ 1024
 ts : ∀ x ∈ t.l, 0 ≤ x.2.1 ∧ x.2.1 ≤ 1125899906842624
 un : ∀ x ∈ t.l, 0 ≤ x.2.2 ∧ x.2.2 ≤ 1099512676352
theorem tickOk_iff (n : Int) : tickOk n = true ↔ 0 ≤ n ∧ n ≤ 1099511627776 := by simp [tickOk]
theorem stampOk_iff (n : Int) : stampOk n = true ↔ 0 ≤ n ∧ n ≤ 1125899906842624 := by simp [stampOk]
theorem Ok.mono {k k' : Nat} {t : Tb} (h : Ok k t) (hk : k ≤ k') : Ok k' t := ⟨h.l0, h.l1, h.m0, by have := h.m1; omega, h.len, h.ts, h.un⟩
theorem left_len (now : Int) (l : List L3) : (left now l).length ≤ l.length := List.length_filter_le _ _
theorem Ok.take {k : Nat} {t : Tb} (h : Ok k t) (now ts : Int) : Ok (k + 1) (takeT t now ts).1 := by
 unfold takeT
 split
 ·rename_i hc
  rw [Bool.and_eq_true, tickOk_iff, stampOk_iff] at hc
  split
  ·rename_i hl
   have h1 := h.m0; have h2 := h.m1; have h3 := h.l0; have h4 := h.l1
   refine ⟨h3, h4, by simp only; omega, by simp only; omega, by simp only [List.length_append, List.length_singleton]; omega, fun x hx => ?_, fun x hx => ?_⟩
   ·rcases List.mem_append.1 hx with hx | hx
    ·exact h.ts x ((List.mem_filter.1 hx).1)
    ·rw [List.mem_singleton.1 hx]; exact hc.2
   ·rcases List.mem_append.1 hx with hx | hx
    ·exact h.un x ((List.mem_filter.1 hx).1)
    ·rw [List.mem_singleton.1 hx]; simp only; omega
  ·exact h.mono (Nat.le_succ k)
 ·exact h.mono (Nat.le_succ k)
theorem getD_mem {l : List L3} {i : Nat} (h : i < l.length) : l.getD i (0, 0, 0) ∈ l := by
 rw [List.getD_eq_getElem?_getD, List.getElem?_eq_getElem h]; exact List.getElem_mem h
theorem find_ok {t : Tb} {now n : Int} {i : Nat} (h : findT t now n = (i, 0)) : tickOk now = true ∧ i < t.l.length ∧ i = idx n t.l ∧ now ≤ (t.l.getD i (0, 0, 0)).2.2 := by
 unfold findT at h
 split at h
 ·rename_i hc
  split at h
  ·cases h
  ·rename_i x hx
   split at h
   ·cases h
   ·rename_i hn
    injection h with h _
    subst h
    obtain ⟨hlt, he⟩ := List.getElem?_eq_some_iff.1 hx
    refine ⟨hc, hlt, rfl, ?_⟩
    rw [List.getD_eq_getElem?_getD, hx]
    simp only [Option.getD_some]
    omega
 ·cases h
theorem Ok.keep {k : Nat} {t : Tb} (h : Ok k t) (now n : Int) : Ok k (keepT t now n).1 := by
 unfold keepT
 rcases hf : findT t now n with ⟨i, e⟩
 simp only
 split
 ·rename_i he
  subst he
  obtain ⟨hc, hi, _, hn⟩ := find_ok hf
  rw [tickOk_iff] at hc
  have hm := getD_mem hi
  have h3 := h.l0; have h4 := h.l1
  refine ⟨h3, h4, h.m0, h.m1, by simpa using h.len, fun x hx => ?_, fun x hx => ?_⟩
  ·rcases List.mem_or_eq_of_mem_set hx with hx | hx
   ·exact h.ts x hx
   ·rw [hx]; exact h.ts (t.l.getD i (0, 0, 0)) hm
  ·rcases List.mem_or_eq_of_mem_set hx with hx | hx
   ·exact h.un x hx
   ·rw [hx]
    have := h.un _ hm
    simp only
    omega
 ·exact h
theorem Ok.end_ {k : Nat} {t : Tb} (h : Ok k t) (n : Int) : Ok k (endT t n).1 := by
 unfold endT
 split
 ·refine ⟨h.l0, h.l1, h.m0, h.m1, ?_, fun x hx => h.ts x (List.mem_of_mem_eraseIdx hx), fun x hx => h.un x (List.mem_of_mem_eraseIdx hx)⟩
  have := h.len
  have := List.length_eraseIdx_le t.l (idx n t.l)
  simp only
  omega
 ·exact h
end Go.Proofs.Ytbgilmdmebmcnaa.LeaseSpec

/- LeasesHold in plain terms: what the table holds, tick by tick. -/
namespace Go.Proofs.Ytbgilmdmebmcnaa.LeaseSpec
set_option linter.unusedSectionVars false
set_option linter.unusedVariables false
/-- What a run is given: its length, and of each lease when it is taken, how long it is kept, and its stamp. -/
structure Hold where
 n : Nat
 long : Int
 last : Int
 tk : Nat → Int
 en : Nat → Int
 st : Nat → Int
 l0 : 0 ≤ long
 l1 : long < 8
 a0 : 50 ≤ last
 a1 : last < 100
 n1 : n ≤ 20
 t0 : ∀ j, 0 ≤ tk j
 tm : ∀ j, tk j ≤ tk (j + 1)
 te : ∀ j, tk j ≤ en j
 eb : ∀ j, en j ≤ tk j + 8
 s0 : ∀ j, 0 ≤ st j
 s1 : ∀ j, st j < 50
namespace Hold
variable (H : Hold)
theorem mono {i j : Nat} (h : i ≤ j) : H.tk i ≤ H.tk j := by
 induction j with
 |zero =>
  obtain rfl : i = 0 := by omega
  exact Int.le_refl _
 |succ j ih =>
  by_cases e : i = j + 1
  ·rw [e]; exact Int.le_refl _
  ·exact Int.le_trans (ih (by omega)) (H.tm j)
def U (t : Int) (j : Nat) : Int := if H.long = 0 then H.tk j else min t (H.en j) + H.long
def V (now : Int) (i j : Nat) : Int := if j < i then H.U now j else H.U (now - 1) j
def ent (now : Int) (i j : Nat) : L3 := ((j : Int) + 1, H.st j, H.V now i j)
structure Inv (now : Int) (i m : Nat) (t : Tb) : Prop where
 long : t.long = H.long
 many : t.many = m
 le : m ≤ H.n
 inn : ∀ j, j < m → H.tk j < now ∨ (H.tk j = now ∧ j < i)
 out : ∀ j, m ≤ j → j < H.n → now < H.tk j ∨ (H.tk j = now ∧ i ≤ j)
 row : ∃ P : Nat → Bool, t.l = ((List.range m).filter P).map (H.ent now i) ∧ ∀ j, j < m → now ≤ H.V now i j → P j = true
variable {H} {now : Int} {i m : Nat} {t : Tb}
theorem Inv.len (h : H.Inv now i m t) : t.l.length ≤ m := by
 obtain ⟨P, e, _⟩ := h.row
 rw [e, List.length_map]
 have := List.length_filter_le P (List.range m)
 rw [List.length_range] at this
 exact this
theorem Inv.zero : H.Inv 0 0 0 ⟨H.long, 0, []⟩ := by
 refine ⟨rfl, rfl, Nat.zero_le _, fun j hj => absurd hj (Nat.not_lt_zero _), fun j _ _ => ?_, fun _ => true, rfl, fun j hj => absurd hj (Nat.not_lt_zero _)⟩
 have := H.t0 j
 omega
/-- The next tick. -/
theorem Inv.next (h : H.Inv now H.n m t) : H.Inv (now + 1) 0 m t := by
 obtain ⟨P, e, hP⟩ := h.row
 have hV : ∀ j, j < m → H.V (now + 1) 0 j = H.V now H.n j := fun j hj => by
  have := h.le
  unfold V
  rw [if_neg (Nat.not_lt_zero _), if_pos (by omega)]
  congr 1
  omega
 refine ⟨h.long, h.many, h.le, fun j hj => ?_, fun j h1 h2 => ?_, P, ?_, fun j hj hn => hP j hj (by rw [← hV j hj]; omega)⟩
 ·have := h.inn j hj; omega
 ·have := h.out j h1 h2; omega
 ·rw [e]
  refine List.map_congr_left fun j hj => ?_
  have hj' : j < m := List.mem_range.1 (List.mem_filter.1 hj).1
  unfold ent
  rw [hV j hj']
theorem Inv.at_ (h : H.Inv now i m t) (hi : i < H.n) (ht : H.tk i = now) : m = i := by
 by_cases h1 : i < m
 ·have := h.inn i h1; omega
 ·by_cases h2 : m < i
  ·have := h.out m (Nat.le_refl _) (by omega)
   have := H.mono (i := m) (j := i) (by omega)
   omega
  ·omega
theorem Inv.is_in (h : H.Inv now i m t) (hi : i < H.n) (ht : H.tk i < now) : i < m := by
 by_cases h1 : i < m
 ·exact h1
 ·have := h.out i (by omega) hi; omega
theorem Inv.is_out (h : H.Inv now i m t) (hi : i < H.n) (ht : now < H.tk i) : m ≤ i := by
 by_cases h1 : i < m
 ·have := h.inn i h1; omega
 ·omega
theorem V_same {j : Nat} (h : j ≠ i) : H.V now (i + 1) j = H.V now i j := by
 unfold V
 by_cases h1 : j < i
 ·rw [if_pos h1, if_pos (by omega)]
 ·rw [if_neg h1, if_neg (by omega)]
/-- One that is neither taken nor kept. -/
theorem Inv.skip (h : H.Inv now i m t) (hi : i < H.n) (h1 : H.tk i ≠ now) (h2 : ¬ (H.tk i < now ∧ now ≤ H.en i ∧ 0 < H.long)) : H.Inv now (i + 1) m t := by
 obtain ⟨P, e, hP⟩ := h.row
 have hV : ∀ j, j < m → H.V now (i + 1) j = H.V now i j := fun j hj => by
  by_cases e : j = i
  ·subst e
   have := h.inn j hj
   unfold V U
   rw [if_pos (Nat.lt_succ_self _), if_neg (Nat.lt_irrefl _)]
   have := H.l0
   split
   ·rfl
   ·omega
  ·exact V_same e
 refine ⟨h.long, h.many, h.le, fun j hj => ?_, fun j h3 h4 => ?_, P, ?_, fun j hj hn => hP j hj (by rw [← hV j hj]; exact hn)⟩
 ·have := h.inn j hj; omega
 ·have h5 := h.out j h3 h4
  by_cases e : j = i
  ·subst e; omega
  ·omega
 ·rw [e]
  refine List.map_congr_left fun j hj => ?_
  have hj' : j < m := List.mem_range.1 (List.mem_filter.1 hj).1
  unfold ent
  rw [hV j hj']
theorem left_row (P : Nat → Bool) : left now (((List.range m).filter P).map (H.ent now i)) = ((List.range m).filter (fun j => P j && decide (now ≤ H.V now i j))).map (H.ent now i) := by
 unfold left
 rw [List.filter_map, List.filter_filter]
 congr 2
 funext j
 exact Bool.and_comm _ _
theorem left_all {P : Nat → Bool} (hP : ∀ j, j < m → now ≤ H.V now i j → P j = true) : (List.range m).filter (fun j => P j && decide (now ≤ H.V now i j)) = (List.range m).filter (fun j => decide (now ≤ H.V now i j)) := by
 refine List.filter_congr fun j hj => ?_
 have hj := List.mem_range.1 hj
 by_cases h : now ≤ H.V now i j
 ·rw [hP j hj h, Bool.true_and]
 ·rw [decide_eq_false h, Bool.and_false]
theorem Inv.take (h : H.Inv now i m t) (hi : i < H.n) (ht : H.tk i = now) (hn : now ≤ 1000) :
  ∃ t', LeaseSpec.takeT t now (H.st i) = (t', (i : Int) + 1, 0) ∧ H.Inv now (i + 1) (i + 1) t' := by
 obtain rfl := h.at_ hi ht
 obtain ⟨P, e, hP⟩ := h.row
 have h0 := H.t0 m
 have t1 : tickOk now = true := (tickOk_iff _).2 (by omega)
 have t2 : stampOk (H.st m) = true := (stampOk_iff _).2 (by have := H.s0 m; have := H.s1 m; omega)
 have hl : (left now t.l).length < 1024 := by
  have := left_len now t.l
  have := h.len
  have := h.le
  have := H.n1
  omega
 refine ⟨⟨t.long, t.many + 1, left now t.l ++ [(t.many + 1, H.st m, now + t.long)]⟩, ?_, ?_⟩
 ·simp only [LeaseSpec.takeT, t1, t2, Bool.and_self, if_true, if_pos hl, h.many]
 ·have hV : ∀ j, j < m → H.V now (m + 1) j = H.V now m j := fun j hj => V_same (by omega)
  have hVm : H.V now (m + 1) m = now + H.long := by
   unfold V U
   rw [if_pos (Nat.lt_succ_self _)]
   have := H.te m
   split <;> omega
  refine ⟨h.long, by simp only [h.many]; omega, hi, fun j hj => ?_, fun j h3 h4 => ?_, fun j => decide (now ≤ H.V now (m + 1) j), ?_, fun j hj hn => by simpa using hn⟩
  ·by_cases e : j = m
   ·subst e; omega
   ·have := h.inn j (by omega); omega
  ·have := h.out j (by omega) h4; omega
  ·simp only
   rw [e, left_row, left_all hP, List.range_succ, List.filter_append, List.map_append]
   congr 1
   ·rw [List.filter_congr (q := fun j => decide (now ≤ H.V now (m + 1) j)) (fun j hj => by rw [hV j (List.mem_range.1 hj)])]
    refine List.map_congr_left fun j hj => ?_
    have hj' : j < m := List.mem_range.1 (List.mem_filter.1 hj).1
    unfold ent
    rw [hV j hj']
   ·have := H.l0
    rw [List.filter_cons_of_pos (by rw [hVm]; exact decide_eq_true (show now ≤ now + H.long by omega))]
    simp only [List.filter_nil, List.map_cons, List.map_nil, ent, hVm, h.many, h.long]
/-- Numbers that are unlike: what is set at the place of one is set wherever it stands. -/
theorem set_map (a : Nat) (f : L3 → L3) : ∀ (Q : List Nat), Q.Pairwise (· < ·) → a ∈ Q → ∀ (g : Nat → L3), (∀ j, (g j).1 = (j : Int) + 1) →
  (Q.map g).findIdx (isNo ((a : Int) + 1)) < (Q.map g).length ∧ (Q.map g).getD ((Q.map g).findIdx (isNo ((a : Int) + 1))) (0, 0, 0) = g a ∧
  (Q.map g).set ((Q.map g).findIdx (isNo ((a : Int) + 1))) (f (g a)) = Q.map (fun j => if j = a then f (g j) else g j)
 |[], _, hm, _, _ => absurd hm (List.not_mem_nil)
 |b :: Q, hp, hm, g, hg => by
  rw [List.pairwise_cons] at hp
  by_cases e : b = a
  ·subst e
   have hb : isNo ((b : Int) + 1) (g b) = true := by simp [isNo, hg]
   rw [List.map_cons, List.findIdx_cons, hb]
   simp only [cond_true, List.length_cons, Nat.zero_lt_succ, List.getD_cons_zero, List.set_cons_zero, List.map_cons, if_true, true_and]
   congr 1
   refine List.map_congr_left fun j hj => ?_
   rw [if_neg (by have := hp.1 j hj; omega)]
  ·have hm' : a ∈ Q := by
    rcases List.mem_cons.1 hm with h | h
    ·exact absurd h.symm e
    ·exact h
   have hb : isNo ((a : Int) + 1) (g b) = false := by simp only [isNo, hg, beq_eq_false_iff_ne]; omega
   obtain ⟨h1, h2, h3⟩ := set_map a f Q hp.2 hm' g hg
   rw [List.map_cons, List.findIdx_cons, hb]
   simp only [cond_false, List.length_cons, List.getD_cons_succ, List.set_cons_succ, List.map_cons, if_neg e]
   exact ⟨by omega, h2, by rw [h3]⟩
theorem Inv.keep (h : H.Inv now i m t) (hi : i < H.n) (h1 : H.tk i < now) (h2 : now ≤ H.en i) (h3 : 0 < H.long) (hn : now ≤ 1000) :
  ∃ t', keepT t now ((i : Int) + 1) = (t', 0) ∧ H.Inv now (i + 1) m t' := by
 have him := h.is_in hi h1
 obtain ⟨P, e, hP⟩ := h.row
 have h0 := H.t0 i
 have t1 : tickOk now = true := (tickOk_iff _).2 (by omega)
 have hVi : H.V now i i = now - 1 + H.long := by
  unfold V U
  rw [if_neg (Nat.lt_irrefl _), if_neg (by omega)]
  omega
 have hPi : P i = true := hP i him (by omega)
 have hQ : ((List.range m).filter P).Pairwise (· < ·) := List.Pairwise.filter _ List.pairwise_lt_range
 have hmem : i ∈ (List.range m).filter P := List.mem_filter.2 ⟨List.mem_range.2 him, hPi⟩
 obtain ⟨s1, s2, s3⟩ := set_map i (fun x => (x.1, x.2.1, max x.2.2 (now + t.long))) _ hQ hmem (H.ent now i) (fun _ => rfl)
 rw [← e] at s1 s2 s3
 have hf : findT t now ((i : Int) + 1) = (idx ((i : Int) + 1) t.l, 0) := by
  unfold findT
  rw [t1, if_pos rfl]
  unfold idx
  rw [List.getElem?_eq_getElem s1]
  simp only
  rw [List.getD_eq_getElem?_getD, List.getElem?_eq_getElem s1] at s2
  simp only [Option.getD_some] at s2
  rw [s2]
  simp only [ent, hVi]
  rw [if_neg (by omega)]
 refine ⟨⟨t.long, t.many, t.l.set (idx ((i : Int) + 1) t.l) ((t.l.getD (idx ((i : Int) + 1) t.l) (0, 0, 0)).1, (t.l.getD (idx ((i : Int) + 1) t.l) (0, 0, 0)).2.1, max (t.l.getD (idx ((i : Int) + 1) t.l) (0, 0, 0)).2.2 (now + t.long))⟩, ?_, ?_⟩
 ·unfold keepT
  rw [hf]
  simp
 ·refine ⟨h.long, h.many, h.le, fun j hj => ?_, fun j h4 h5 => ?_, P, ?_, fun j hj hn' => ?_⟩
  ·have := h.inn j hj; omega
  ·have := h.out j h4 h5
   by_cases e : j = i
   ·subst e; omega
   ·omega
  ·simp only
   unfold idx
   rw [s2]
   rw [s3]
   refine List.map_congr_left fun j hj => ?_
   by_cases e : j = i
   ·subst e
    rw [if_pos rfl]
    simp only [ent, hVi, h.long]
    have : H.V now (j + 1) j = now + H.long := by
     unfold V U
     rw [if_pos (Nat.lt_succ_self _), if_neg (by omega)]
     omega
    rw [this]
    congr 2
    omega
   ·rw [if_neg e]
    unfold ent
    rw [V_same e]
  ·by_cases e : j = i
   ·rw [e]; exact hPi
   ·exact hP j hj (by rw [V_same e] at hn'; exact hn')
def upto (H : Hold) (i : Nat) : Int := if H.long = 0 then H.tk i else H.en i + H.long
def want (H : Hold) (now : Int) : Nat → Int
 |0 => H.last
 |i + 1 => if H.tk i ≤ now ∧ now ≤ Hold.upto H i then min (want H now i) (H.st i) else want H now i
theorem want_eq (now : Int) : ∀ i, H.want now i = ((List.range i).filter (fun j => decide (H.tk j ≤ now ∧ now ≤ Hold.upto H j))).foldl (fun a j => min a (H.st j)) H.last
 |0 => rfl
 |i + 1 => by
  rw [List.range_succ, List.filter_append, List.foldl_append, ← want_eq now i]
  have e : H.want now (i + 1) = if H.tk i ≤ now ∧ now ≤ Hold.upto H i then min (want H now i) (H.st i) else want H now i := rfl
  rw [e]
  by_cases h : H.tk i ≤ now ∧ now ≤ Hold.upto H i
  ·rw [if_pos h, List.filter_cons_of_pos (p := fun j => decide (H.tk j ≤ now ∧ now ≤ Hold.upto H j)) (decide_eq_true h)]; rfl
  ·rw [if_neg h, List.filter_cons_of_neg (by simpa using h)]; rfl
theorem Inv.low (h : H.Inv now H.n m t) (h0 : 0 ≤ now) (hn : now ≤ 1000) : lowT t now H.last = (H.want now H.n, 0) := by
 obtain ⟨P, e, hP⟩ := h.row
 have t1 : tickOk now = true := (tickOk_iff _).2 (by omega)
 have t2 : stampOk H.last = true := (stampOk_iff _).2 (by have := H.a0; have := H.a1; omega)
 unfold lowT lowL
 rw [t1, t2, e, left_row, left_all hP, want_eq]
 simp only [Bool.and_self, if_true, Prod.mk.injEq, and_true]
 rw [List.foldl_map]
 have hle := h.le
 have hr : List.range H.n = List.range m ++ (List.range (H.n - m)).map (m + ·) := by
  rw [← List.range_add, Nat.add_sub_cancel' hle]
 rw [hr, List.filter_append, List.foldl_append]
 have h2 : ((List.range (H.n - m)).map (m + ·)).filter (fun j => decide (H.tk j ≤ now ∧ now ≤ Hold.upto H j)) = [] := by
  refine List.filter_eq_nil_iff.2 fun x hx hc => ?_
  obtain ⟨k, hk, rfl⟩ := List.mem_map.1 hx
  have hk := List.mem_range.1 hk
  have h5 := h.out (m + k) (by omega) (by omega)
  have := of_decide_eq_true hc
  omega
 rw [h2]
 simp only [List.foldl_nil]
 have h3 : (List.range m).filter (fun j => decide (now ≤ H.V now H.n j)) = (List.range m).filter (fun j => decide (H.tk j ≤ now ∧ now ≤ Hold.upto H j)) := by
  refine List.filter_congr fun j hj => ?_
  have hj := List.mem_range.1 hj
  have := h.inn j hj
  rw [decide_eq_decide]
  unfold V U Hold.upto
  rw [if_pos (show j < H.n by omega)]
  have := H.l0
  split <;> omega
 rw [h3]
 rfl
end Hold
end Go.Proofs.Ytbgilmdmebmcnaa.LeaseSpec

/- A row of leases (three numbers each) of the call's own: its cells, and what a store into one leaves. -/
namespace Go.Proofs.Ytbgilmdmebmcnaa.LeaseSpec
open Go.RowKit Go.Proofs.YtbgilmdmebmcnaaW.PrintWords
def kL3 : Kd L3 := Kd.pair (Kd.int .i64) (Kd.pair (Kd.int .i64) (Kd.int .i64))
def cs3 (x : L3) : List Value := [.int .i64 x.1, .int .i64 x.2.1, .int .i64 x.2.2]
theorem L3_M (w : World) (base : Nat) (ok : Nat → Prop) (x : L3) : kL3.M w base ok x (cs3 x) := ⟨[.int .i64 x.1], [.int .i64 x.2.1, .int .i64 x.2.2], rfl, rfl, [.int .i64 x.2.1], [.int .i64 x.2.2], rfl, rfl, rfl⟩
theorem L3_Mi {w : World} {base : Nat} {ok : Nat → Prop} {x : L3} {c : List Value} (h : kL3.M w base ok x c) : c = cs3 x := by
 obtain ⟨c0, c1, rfl, rfl, c2, c3, rfl, rfl, rfl⟩ := h
 rfl
theorem L3_Ki {w : World} {x : L3} {c : List Value} (h : kL3.K w x c) : c = cs3 x := by
 obtain ⟨c0, c1, rfl, rfl, c2, c3, rfl, rfl, rfl⟩ := h
 rfl
section
variable {e : Nat} {W : World} {base : Nat} {ok : Nat → Prop} {g n c : Nat} {l : List L3}
theorem L3_cell (h : kL3.R e W base ok (.slice (some ⟨g, 0, none⟩) n c) l) (i : Nat) (hi : i < n) :
  W.cell? ⟨g, i * 3, none⟩ = some (.int .i64 (l.getD i (0, 0, 0)).1) ∧ W.cell? ⟨g, i * 3 + 1, none⟩ = some (.int .i64 (l.getD i (0, 0, 0)).2.1) ∧ W.cell? ⟨g, i * 3 + 2, none⟩ = some (.int .i64 (l.getD i (0, 0, 0)).2.2) ∧ ∀ j, W.frozen? ⟨g, i * 3 + j, none⟩ = false := by
 obtain ⟨c, _, hM, hc, hf⟩ := Kd.R_elem h (0, 0, 0) (i : Int) (by omega) (by omega)
 rw [Int.toNat_natCast] at hM hc hf
 obtain rfl := L3_Mi hM
 exact ⟨hc 0 _ rfl, hc 1 _ rfl, hc 2 _ rfl, hf⟩
theorem L3_until (h : kL3.R e W base ok (.slice (some ⟨g, 0, none⟩) n c) l) (i : Nat) (hi : i < n) (y : Int) :
  kL3.R e (W.setCell ⟨g, i * 3 + 2, none⟩ (.int .i64 y)) base ok (.slice (some ⟨g, 0, none⟩) n c) (l.set i ((l.getD i (0, 0, 0)).1, (l.getD i (0, 0, 0)).2.1, y)) ∧ W.grownBy (W.setCell ⟨g, i * 3 + 2, none⟩ (.int .i64 y)) (some g) := by
 obtain ⟨c', hcl, hM, hc, hf⟩ := Kd.R_elem h (0, 0, 0) (i : Int) (by omega) (by omega)
 rw [Int.toNat_natCast] at hM hc hf
 obtain rfl := L3_Mi hM
 have := Kd.R_seg (okp := fun _ => False) h (i : Int) (by omega) (by omega) (c := cs3 (l.getD i (0, 0, 0))) (seg := [.int .i64 y]) (j := 2) (x' := ((l.getD i (0, 0, 0)).1, (l.getD i (0, 0, 0)).2.1, y)) rfl (by simpa using hc) (show 2 + 1 ≤ 3 from Nat.le_refl _) (L3_M _ _ _ _) (fun _ hk => hk.elim)
 rw [Int.toNat_natCast] at this
 exact this
/-- A whole element stored anew. -/
theorem L3_put (h : kL3.R e W base ok (.slice (some ⟨g, 0, none⟩) n c) l) (i : Nat) (hi : i < n) (x : L3) :
  kL3.R e (W.setCells g (i * 3) (cs3 x)) base ok (.slice (some ⟨g, 0, none⟩) n c) (l.set i x) ∧ W.grownBy (W.setCells g (i * 3) (cs3 x)) (some g) := by
 obtain ⟨c', hcl, hM, hc, hf⟩ := Kd.R_elem h (0, 0, 0) (i : Int) (by omega) (by omega)
 rw [Int.toNat_natCast] at hM hc hf
 obtain rfl := L3_Mi hM
 have := Kd.R_seg (okp := fun _ => False) h (i : Int) (by omega) (by omega) (c := cs3 (l.getD i (0, 0, 0))) (seg := cs3 x) (j := 0) (x' := x) rfl (by simpa using hc) (show 0 + 3 ≤ 3 from Nat.le_refl _) (by exact L3_M _ _ _ _) (fun _ hk => hk.elim)
 rw [Int.toNat_natCast] at this
 exact this
end
theorem L3_read {w : World} {A : Option Addr} {n : Nat} {l : List L3} (h : kL3.C w A n l) (i : Nat) (hi : i < n) :
  ∃ ad, A = some ad ∧ w.cell? (ad.add (i * 3)) = some (.int .i64 (l.getD i (0, 0, 0)).1) ∧ w.cell? (ad.add (i * 3 + 1)) = some (.int .i64 (l.getD i (0, 0, 0)).2.1) ∧ w.cell? (ad.add (i * 3 + 2)) = some (.int .i64 (l.getD i (0, 0, 0)).2.2) := by
 obtain ⟨ad, c, rfl, _, hK, hc⟩ := Kd.C_get h (0, 0, 0) (i : Int) (by omega) (by omega)
 rw [Int.toNat_natCast] at hK hc
 obtain rfl := L3_Ki hK
 exact ⟨ad, rfl, hc 0 _ rfl, hc 1 _ rfl, hc 2 _ rfl⟩
/-- A table at block g (of type T, its leases of type e): in a world W behind w0. -/
structure TS (e T : Nat) (w0 W : World) (g : Nat) (t : Tb) (v : Value) : Prop where
 blk : W.heap[g]? = some (.cells #[.int .i64 t.long, .int .i64 t.many, v] T (0, 0))
 ge : w0.heap.size ≤ g
 row : kL3.R e W w0.heap.size (fun _ => True) v t.l
 bel : Below w0.heap.size w0 W
section
variable {e T e' T' : Nat} {w0 W W1 : World} {g g' : Nat} {t t' : Tb} {v v' : Value}
theorem TS.below (h : TS e T w0 W g t v) (hb : Below W.heap.size W W1) : TS e T w0 W1 g t v := ⟨blk_below h.blk hb, h.ge, Kd.R_below h.row hb, below_step h.bel hb⟩
theorem TS.alloc (h : TS e T w0 W g t v) (o : Obj) : TS e T w0 (W.alloc o) g t v := h.below (below_alloc (Below.refl _ _) o)
theorem TS.drewN (h : TS e T w0 W g t v) (m : Nat) : TS e T w0 (W.drewN m) g t v := h.below (pw_below_drewN (Below.refl _ _) m)
theorem TS.ne (h : TS e T w0 W g t v) (hT : e ≠ T) : some g ≠ v.ownBlock := Kd.R_ne h.row h.blk hT
/-- The other table's call: only its block and its row turn. -/
theorem TS.keep (h : TS e T w0 W g t v) (k : TS e' T' w0 W g' t' v') (hk : KeepBut W W1 g' v'.ownBlock) (hb : Below w0.heap.size w0 W1) (hT : T ≠ T') (he : e ≠ e') (h1 : T ≠ e') (h2 : e ≠ T') : TS e T w0 W1 g t v := by
 refine ⟨(hk.2 g (blk_lt h.blk) (blk_ne h.blk k.blk hT) (Kd.R_ne k.row h.blk (Ne.symm h1))).trans h.blk, h.ge, ?_, hb⟩
 refine Kd.R_mono (Kd.R_move (Kd.R_bound (Kd.R_types (Kd.R_apartR h.row k.row (by intro q hq; rcases List.mem_cons.1 hq with rfl | hq; exact he; simp [kL3, Kd.pair, Kd.int, Kd.scalar] at hq)) k.blk (by intro q hq; rcases List.mem_cons.1 hq with rfl | hq; exact h2; simp [kL3, Kd.pair, Kd.int, Kd.scalar] at hq))) (fun j hj => hk.2 j hj.2.2.1 hj.1.2 hj.1.1.2)) (fun _ _ => trivial)
end
end Go.Proofs.Ytbgilmdmebmcnaa.LeaseSpec

namespace Go.Proofs.Ytbgilmdmebmcnaa.Al
open Go.RowKit Go.Proofs.YtbgilmdmebmcnaaW.PrintWords Go.Proofs.YtbgilmdmebmcnaaW.PrintLast Go.Proofs.YtbgilmdmebmcnaaW.PrintMore
attribute [local go_sem] max2_int min2_int max_two min_two max_three min_three max_four min_four   -- for this text's walks alone
set_option linter.unusedVariables false
set_option linter.unusedSimpArgs false



def errW : Option Int → Value
 |none => .nilIface
 |some c => .iface 0 (.int .i64 c)
theorem errW_none : errW none = .nilIface := rfl
theorem errW_some (c : Int) : errW (some c) = .iface 0 (.int .i64 c) := rfl

-- the values' own types
/-! #### struct type 64 -/
structure S64 where
 f0 : Int
 f1 : Int
 f2 : Int
def z64 : S64 := ⟨(0 : Int), (0 : Int), (0 : Int)⟩
def k64 : Kd S64 := Kd.iso (Kd.pair (Kd.int .i64) (Kd.pair (Kd.int .i64) (Kd.int .i64))) (fun x : S64 => (x.f0, x.f1, x.f2))
theorem k64_open {w : World} {x : S64} {cs : List Value} (h : k64.K w x cs) : cs = [.int .i64 x.f0, .int .i64 x.f1, .int .i64 x.f2] := by
 obtain ⟨_, _, rfl, rfl, ⟨_, _, rfl, rfl, rfl⟩⟩ := h
 exact rfl
theorem k64_openM {w : World} {base : Nat} {ok : Nat → Prop} {x : S64} {cs : List Value} (h : k64.M w base ok x cs) : cs = [.int .i64 x.f0, .int .i64 x.f1, .int .i64 x.f2] := by
 obtain ⟨_, _, rfl, rfl, ⟨_, _, rfl, rfl, rfl⟩⟩ := h
 exact rfl
theorem k64_mk (w : World) (x : S64)  : k64.K w x [.int .i64 x.f0, .int .i64 x.f1, .int .i64 x.f2] := ⟨[.int .i64 x.f0], [.int .i64 x.f1, .int .i64 x.f2], rfl, rfl, ⟨[.int .i64 x.f1], [.int .i64 x.f2], rfl, rfl, rfl⟩⟩
theorem k64_mkM (w : World) (base : Nat) (ok : Nat → Prop) (x : S64)  : k64.M w base ok x [.int .i64 x.f0, .int .i64 x.f1, .int .i64 x.f2] := ⟨[.int .i64 x.f0], [.int .i64 x.f1, .int .i64 x.f2], rfl, rfl, ⟨[.int .i64 x.f1], [.int .i64 x.f2], rfl, rfl, rfl⟩⟩
def rd_T64 (xs : List S64) (i : Int) : S64 := xs.getD i.toNat z64
theorem at_T64 {w : World} {A : Option Addr} {n : Nat} {xs : List S64} (h : Kd.C k64 w A n xs) (i : Int) (h0 : 0 ≤ i) (h1 : i < n) : ∃ ad , A = some ad ∧ w.cell? (ad.add (i.toNat * 3)) = some (.int .i64 (rd_T64 xs i).f0) ∧ w.cell? ⟨(ad.add (i.toNat * 3)).block, (ad.add (i.toNat * 3)).off + 1, none⟩ = some (.int .i64 (rd_T64 xs i).f1) ∧ w.cell? ⟨(ad.add (i.toNat * 3)).block, (ad.add (i.toNat * 3)).off + 2, none⟩ = some (.int .i64 (rd_T64 xs i).f2) := by
 obtain ⟨ad, c, e, _, hK, hc0⟩ := Kd.C_get h z64 i h0 h1
 have hc : ∀ j u, c[j]? = some u → w.cell? (ad.add (i.toNat * 3 + j)) = some u := hc0
 obtain rfl := k64_open hK
 exact ⟨ad, e, hc 0 _ rfl, by rw [← add_field _ _ 1 (by omega)]; exact hc 1 _ rfl, by rw [← add_field _ _ 2 (by omega)]; exact hc 2 _ rfl⟩

/-! #### struct type 55 -/
structure S55 where
 f0 : Int
 f1 : Int
 f2 : Int
def z55 : S55 := ⟨(0 : Int), (0 : Int), (0 : Int)⟩
def k55 : Kd S55 := Kd.iso (Kd.pair (Kd.int .i64) (Kd.pair (Kd.int .i64) (Kd.int .i64))) (fun x : S55 => (x.f0, x.f1, x.f2))
theorem k55_open {w : World} {x : S55} {cs : List Value} (h : k55.K w x cs) : cs = [.int .i64 x.f0, .int .i64 x.f1, .int .i64 x.f2] := by
 obtain ⟨_, _, rfl, rfl, ⟨_, _, rfl, rfl, rfl⟩⟩ := h
 exact rfl
theorem k55_openM {w : World} {base : Nat} {ok : Nat → Prop} {x : S55} {cs : List Value} (h : k55.M w base ok x cs) : cs = [.int .i64 x.f0, .int .i64 x.f1, .int .i64 x.f2] := by
 obtain ⟨_, _, rfl, rfl, ⟨_, _, rfl, rfl, rfl⟩⟩ := h
 exact rfl
theorem k55_mk (w : World) (x : S55)  : k55.K w x [.int .i64 x.f0, .int .i64 x.f1, .int .i64 x.f2] := ⟨[.int .i64 x.f0], [.int .i64 x.f1, .int .i64 x.f2], rfl, rfl, ⟨[.int .i64 x.f1], [.int .i64 x.f2], rfl, rfl, rfl⟩⟩
theorem k55_mkM (w : World) (base : Nat) (ok : Nat → Prop) (x : S55)  : k55.M w base ok x [.int .i64 x.f0, .int .i64 x.f1, .int .i64 x.f2] := ⟨[.int .i64 x.f0], [.int .i64 x.f1, .int .i64 x.f2], rfl, rfl, ⟨[.int .i64 x.f1], [.int .i64 x.f2], rfl, rfl, rfl⟩⟩
def rd_T55 (xs : List S55) (i : Int) : S55 := xs.getD i.toNat z55
theorem at_T55 {w : World} {A : Option Addr} {n : Nat} {xs : List S55} (h : Kd.C k55 w A n xs) (i : Int) (h0 : 0 ≤ i) (h1 : i < n) : ∃ ad , A = some ad ∧ w.cell? (ad.add (i.toNat * 3)) = some (.int .i64 (rd_T55 xs i).f0) ∧ w.cell? ⟨(ad.add (i.toNat * 3)).block, (ad.add (i.toNat * 3)).off + 1, none⟩ = some (.int .i64 (rd_T55 xs i).f1) ∧ w.cell? ⟨(ad.add (i.toNat * 3)).block, (ad.add (i.toNat * 3)).off + 2, none⟩ = some (.int .i64 (rd_T55 xs i).f2) := by
 obtain ⟨ad, c, e, _, hK, hc0⟩ := Kd.C_get h z55 i h0 h1
 have hc : ∀ j u, c[j]? = some u → w.cell? (ad.add (i.toNat * 3 + j)) = some u := hc0
 obtain rfl := k55_open hK
 exact ⟨ad, e, hc 0 _ rfl, by rw [← add_field _ _ 1 (by omega)]; exact hc 1 _ rfl, by rw [← add_field _ _ 2 (by omega)]; exact hc 2 _ rfl⟩

theorem bne_nil_ (l : List UInt8) : (l != []) = !l.isEmpty := by cases l <;> rfl
end Go.Proofs.Ytbgilmdmebmcnaa.Al

/- One function of the program comes to what its plain twin says. This text began as the kit's own print (print.py, made by cprint.sh) and was turned by split.py: it is no printed file. -/
namespace Go.Proofs.Ytbgilmdmebmcnaa.Al
open Go.RowKit Go.Proofs.YtbgilmdmebmcnaaW.PrintWords Go.Proofs.YtbgilmdmebmcnaaW.PrintLast Go.Proofs.YtbgilmdmebmcnaaW.PrintMore
attribute [local go_sem] max2_int min2_int max_two min_two max_three min_three max_four min_four   -- for this text's walks alone
set_option linter.unusedVariables false
set_option linter.unusedSimpArgs false

/-! ### leases_within: function 21 -/
def leases_within.f (a0 : Int) (a1 : Int) : Option (Bool) := if a0 ≥ 0 then (some (decide (a0 ≤ a1))) else (some false)
set_option maxHeartbeats 8000000 in
set_option maxRecDepth 100000 in
theorem leases_within.calls (a0 : Int) (a1 : Int) (r : Bool) (w : World) (h : leases_within.f a0 a1 = some r) :
  Calls Try.prog 21 #[.int .i64 a0, .int .i64 a1] w fun e w' => e = .returned (.bool r) ∧ Drawn0 w w' := by
 have H : (if a0 ≥ 0 then (some (decide (a0 ≤ a1))) else (some false)) = some r := h
 clear h
 by_cases c3 : a0 ≥ 0
 ·rw [if_pos c3] at H
  have c3b0 : decide (0 ≤ a0) = true := decide_eq_true c3
  clear c3
  obtain rfl := Option.some.inj H
  go_enter Try.func21, Try.ntmps21
  go_wp2
  go_ret
  exact ⟨by first | rfl | (simp; done) | (simp [*]; done), by repeat (first | exact Drawn0.refl _ | apply Drawn0.step)⟩
 ·rw [if_neg c3] at H
  have c3b0 : decide (0 ≤ a0) = false := decide_eq_false c3
  clear c3
  obtain rfl := Option.some.inj H
  go_enter Try.func21, Try.ntmps21
  go_wp2
  go_ret
  exact ⟨by first | rfl | (simp; done) | (simp [*]; done), by repeat (first | exact Drawn0.refl _ | apply Drawn0.step)⟩

-- NOT PRINTED: function 29 (leases_lease_29)

-- NOT PRINTED: function 22 (leases_lease_22)

-- NOT PRINTED: function 23 (leases_lease_23)

-- NOT PRINTED: function 24 (leases_over)

-- NOT PRINTED: function 9 (leases_Table_Take)

-- NOT PRINTED: function 11 (leases_Table_Low)

-- NOT PRINTED: function 6 (corncriblaw17_works)

end Go.Proofs.Ytbgilmdmebmcnaa.Al

/- The closures of package leases, and within. -/
namespace Go.Proofs.Ytbgilmdmebmcnaa.Al
open Go.RowKit Go.Proofs.Ytbgilmdmebmcnaa.LeaseSpec Go.Proofs.YtbgilmdmebmcnaaW.PrintWords Go.Proofs.YtbgilmdmebmcnaaW.PrintLast Go.Proofs.YtbgilmdmebmcnaaW.PrintMore
set_option linter.unusedVariables false
set_option linter.unusedSimpArgs false
abbrev a3 (x : L3) : Value := .agg #[.int .i64 x.1, .int .i64 x.2.1, .int .i64 x.2.2]
def isOver (now : Int) (x : L3) : Bool := decide (x.2.2 < now)
/-- A number in a cell of its own (what a closure holds). -/
def Cap (w : World) (g : Nat) (n : Int) : Prop := w.heap[g]? = some (.cells #[.int .i64 n] 3 (0, 0))
theorem Cap.below {w w1 : World} {g : Nat} {n : Int} (h : Cap w g n) (hb : Below w.heap.size w w1) : Cap w1 g n := blk_below h hb
theorem over_cl (g : Nat) (now : Int) (x : L3) (w : World) (h : Cap w g now) : Calls Try.prog 32 #[a3 x, .pointer (some ⟨g, 0, none⟩)] w fun e w' => e = .returned (.bool (isOver now x)) ∧ Below w.heap.size w w' := by
 obtain ⟨a, b, c⟩ := x
 unfold a3 isOver
 simp only
 have H := Aside0.mk h
 clear h
 go_enter Try.func32, Try.ntmps32
 go_wp2_with ((with_reducible refine gate_dst (N := 2) rfl ?_); refine box_event ?hg (N := 2) ?hd (cs := #[.int .i64 a, .int .i64 b, .int .i64 c]) (t := 55) ?hr ?_; (case hd => rfl); (case hg => rfl); (case hr => first | (go_simp; done) | (go_simp; rfl)); intro gb hg w1 hbox hb; have f0 : w1.cell? ⟨gb, 0, none⟩ = some (.int .i64 a) := (blk_cell hbox 0).trans rfl; have f2 : w1.cell? ⟨gb, 2, none⟩ = some (.int .i64 c) := (blk_cell hbox 2).trans rfl; have fg : w1.cell? ⟨g, 0, none⟩ = some (.int .i64 now) := (blk_cell (blk_below H.out hb) 0).trans rfl; have HB := Aside0.mk hb; clear hg hbox hb)
 go_ret
 exact ⟨rfl, HB.out⟩
theorem find_cl (g : Nat) (no : Int) (x : L3) (w : World) (h : Cap w g no) : Calls Try.prog 33 #[a3 x, .pointer (some ⟨g, 0, none⟩)] w fun e w' => e = .returned (.bool (isNo no x)) ∧ Below w.heap.size w w' := by
 obtain ⟨a, b, c⟩ := x
 unfold a3 isNo
 simp only
 have H := Aside0.mk h
 clear h
 go_enter Try.func33, Try.ntmps33
 go_wp2_with ((with_reducible refine gate_dst (N := 2) rfl ?_); refine box_event ?hg (N := 2) ?hd (cs := #[.int .i64 a, .int .i64 b, .int .i64 c]) (t := 55) ?hr ?_; (case hd => rfl); (case hg => rfl); (case hr => first | (go_simp; done) | (go_simp; rfl)); intro gb hg w1 hbox hb; have f0 : w1.cell? ⟨gb, 0, none⟩ = some (.int .i64 a) := (blk_cell hbox 0).trans rfl; have f2 : w1.cell? ⟨gb, 2, none⟩ = some (.int .i64 c) := (blk_cell hbox 2).trans rfl; have fg : w1.cell? ⟨g, 0, none⟩ = some (.int .i64 no) := (blk_cell (blk_below H.out hb) 0).trans rfl; have HB := Aside0.mk hb; clear hg hbox hb)
 go_ret
 exact ⟨rfl, HB.out⟩
theorem end_cl (g : Nat) (no : Int) (x : L3) (w : World) (h : Cap w g no) : Calls Try.prog 30 #[a3 x, .pointer (some ⟨g, 0, none⟩)] w fun e w' => e = .returned (.bool (isNo no x)) ∧ Below w.heap.size w w' := by
 obtain ⟨a, b, c⟩ := x
 unfold a3 isNo
 simp only
 have H := Aside0.mk h
 clear h
 go_enter Try.func30, Try.ntmps30
 go_wp2_with ((with_reducible refine gate_dst (N := 2) rfl ?_); refine box_event ?hg (N := 2) ?hd (cs := #[.int .i64 a, .int .i64 b, .int .i64 c]) (t := 55) ?hr ?_; (case hd => rfl); (case hg => rfl); (case hr => first | (go_simp; done) | (go_simp; rfl)); intro gb hg w1 hbox hb; have f0 : w1.cell? ⟨gb, 0, none⟩ = some (.int .i64 a) := (blk_cell hbox 0).trans rfl; have f2 : w1.cell? ⟨gb, 2, none⟩ = some (.int .i64 c) := (blk_cell hbox 2).trans rfl; have fg : w1.cell? ⟨g, 0, none⟩ = some (.int .i64 no) := (blk_cell (blk_below H.out hb) 0).trans rfl; have HB := Aside0.mk hb; clear hg hbox hb)
 go_ret
 exact ⟨rfl, HB.out⟩
theorem over_calls (now : Int) (w : World) : Calls Try.prog 24 #[.int .i64 now] w fun e w' => ∃ g, e = .returned (.func (.func 32) #[] #[.pointer (some ⟨g, 0, none⟩)]) ∧ w.heap.size ≤ g ∧ Cap w' g now ∧ Below w.heap.size w w' := by
 go_enter Try.func24, Try.ntmps24
 go_wp2_with ((with_reducible refine gate_dst (N := 1) rfl ?_); refine box_event ?hg (N := 1) ?hd (cs := #[.int .i64 now]) (t := 3) ?hr ?_; (case hd => rfl); (case hg => rfl); (case hr => first | (go_simp; done) | (go_simp; rfl)); intro gb hg w1 hbox hb; have HX := Aside0.mk hbox; have HG := Aside0.mk (Nat.le_of_eq hg.symm); have HB := Aside0.mk hb; clear hg hbox hb)
 go_ret
 exact ⟨gb, rfl, HG.out, HX.out, HB.out⟩
end Go.Proofs.Ytbgilmdmebmcnaa.Al

/- slices.IndexFunc over leases, with each closure. -/
namespace Go.Proofs.Ytbgilmdmebmcnaa.Al
open Go.RowKit Go.Proofs.Ytbgilmdmebmcnaa.LeaseSpec Go.Proofs.YtbgilmdmebmcnaaW.PrintWords Go.Proofs.YtbgilmdmebmcnaaW.PrintLast Go.Proofs.YtbgilmdmebmcnaaW.PrintMore
set_option linter.unusedVariables false
set_option linter.unusedSimpArgs false
def idxI (p : L3 → Bool) (l : List L3) : Int := if l.findIdx p < l.length then (l.findIdx p : Nat) else -1
theorem L3_at {w : World} {g n : Nat} {l : List L3} (h : kL3.C w (some ⟨g, 0, none⟩) n l) (i : Nat) (hi : i < n) :
  w.cell? ⟨g, i * 3, none⟩ = some (.int .i64 (l.getD i (0, 0, 0)).1) ∧ w.cell? ⟨g, i * 3 + 1, none⟩ = some (.int .i64 (l.getD i (0, 0, 0)).2.1) ∧ w.cell? ⟨g, i * 3 + 2, none⟩ = some (.int .i64 (l.getD i (0, 0, 0)).2.2) := by
 obtain ⟨ad, e, h0, h1, h2⟩ := L3_read h i hi
 obtain rfl := Option.some.inj e
 have z : ∀ k, (⟨g, 0, none⟩ : Addr).add k = ⟨g, k, none⟩ := fun k => by simp [Addr.add, eq_comm]
 rw [z] at h0 h1 h2
 exact ⟨h0, h1, h2⟩
theorem idx_at {p : L3 → Bool} {l : List L3} {i : Nat} (hi : i < l.length) (h : p (l.getD i (0, 0, 0)) = true) (hb : ∀ j, j < i → p (l.getD j (0, 0, 0)) = false) : idxI p l = (i : Int) := by
 have : l.findIdx p = i := by
  rw [List.findIdx_eq hi]
  refine ⟨by rw [List.getD_eq_getElem?_getD, List.getElem?_eq_getElem hi] at h; exact h, fun j hj => ?_⟩
  have h' := hb j hj
  rw [List.getD_eq_getElem?_getD, List.getElem?_eq_getElem (by omega)] at h'
  exact h'
 unfold idxI
 rw [this, if_pos hi]
theorem idx_none {p : L3 → Bool} {l : List L3} (hb : ∀ j, j < l.length → p (l.getD j (0, 0, 0)) = false) : idxI p l = -1 := by
 unfold idxI
 rw [if_neg]
 intro hlt
 have h1 := List.findIdx_getElem (w := hlt)
 have h2 := hb _ hlt
 rw [List.getD_eq_getElem?_getD, List.getElem?_eq_getElem hlt] at h2
 simp only [Option.getD_some] at h2
 rw [h1] at h2
 cases h2
theorem idx32 (g : Nat) (v : Int) (A : Option Addr) (c : Nat) (l : List L3) (w : World) (hC : kL3.C w A l.length l) (hl : l.length ≤ 9223372036854775806) (hA : 0 < l.length → ∃ ga, A = some ⟨ga, 0, none⟩) (hcap : Cap w g v) :
  Calls Try.prog 29 #[.slice A l.length c, .func (.func 32) #[] #[.pointer (some ⟨g, 0, none⟩)]] w fun e w' => e = .returned (.int .i64 (idxI (isOver v) l)) ∧ Below w.heap.size w w' := by
 have hu55 := Try.underlying55
 have HC := Aside0.mk hC
 have HK := Aside0.mk hcap
 clear hC hcap
 go_enter Try.func29, Try.ntmps29
 go_wp2
 go_loopw [5, 8] (fun v5 v8 wr => ∃ i : Nat, v8 = .int .i64 i ∧ i ≤ l.length ∧ Aside0 (∀ j, j < i → isOver v (l.getD j (0, 0, 0)) = false) ∧ Aside0 (Below w.heap.size w wr)) (fun _ v8 _ => l.length - (intOf v8).toNat)
 case atStart => exact ⟨0, rfl, Nat.zero_le _, ⟨fun j hj => absurd hj (Nat.not_lt_zero _)⟩, ⟨Below.refl _ _⟩⟩
 case round =>
  obtain ⟨i, rfl, hi, HN, HB⟩ := hrel
  by_cases hlt : i < l.length
  ·obtain ⟨ga, rfl⟩ := hA (by omega)
   obtain ⟨h0, h1, h2⟩ := L3_at (Kd.C_below HC.out HB.out) i hlt
   have HCA := Aside0.mk (HK.out.below HB.out)
   obtain ⟨x, hx⟩ : ∃ x, x = l.getD i (0, 0, 0) := ⟨_, rfl⟩
   rw [← hx] at h0 h1 h2
   have HX := Aside0.mk hx
   clear hx
   by_cases hp : isOver v x = true
   ·have HP := Aside0.mk hp
    clear hp
    go_wp2_with (go_at_call 32; (with_reducible refine (over_cl g v x _ HCA.out).mono ?_); rintro e w' ⟨rfl, hb⟩; rw [HP.out]; have HB2 := Aside0.mk (below_step HB.out hb); clear hb)
    go_ret
    exact ⟨by rw [idx_at hlt (by rw [← HX.out]; exact HP.out) HN.out]; rfl, HB2.out⟩
   ·have hp' : isOver v x = false := by simpa using hp
    have HP := Aside0.mk hp'
    clear hp hp'
    go_wp2_with (go_at_call 32; (with_reducible refine (over_cl g v x _ HCA.out).mono ?_); rintro e w' ⟨rfl, hb⟩; rw [HP.out]; have HB2 := Aside0.mk (below_step HB.out hb); clear hb)
    go_roundw
    case rel =>
     refine ⟨i + 1, by go_num, hlt, ⟨fun j hj => ?_⟩, HB2⟩
     by_cases e : j = i
     ·rw [e, ← HX.out]; exact HP.out
     ·exact HN.out j (by omega)
    case measure => simp [intOf]; omega
  ·obtain rfl : i = l.length := by omega
   go_wp2
   go_ret
   exact ⟨by rw [idx_none HN.out]; rfl, HB.out⟩
theorem idx33 (g : Nat) (v : Int) (A : Option Addr) (c : Nat) (l : List L3) (w : World) (hC : kL3.C w A l.length l) (hl : l.length ≤ 9223372036854775806) (hA : 0 < l.length → ∃ ga, A = some ⟨ga, 0, none⟩) (hcap : Cap w g v) :
  Calls Try.prog 29 #[.slice A l.length c, .func (.func 33) #[] #[.pointer (some ⟨g, 0, none⟩)]] w fun e w' => e = .returned (.int .i64 (idxI (isNo v) l)) ∧ Below w.heap.size w w' := by
 have hu55 := Try.underlying55
 have HC := Aside0.mk hC
 have HK := Aside0.mk hcap
 clear hC hcap
 go_enter Try.func29, Try.ntmps29
 go_wp2
 go_loopw [5, 8] (fun v5 v8 wr => ∃ i : Nat, v8 = .int .i64 i ∧ i ≤ l.length ∧ Aside0 (∀ j, j < i → isNo v (l.getD j (0, 0, 0)) = false) ∧ Aside0 (Below w.heap.size w wr)) (fun _ v8 _ => l.length - (intOf v8).toNat)
 case atStart => exact ⟨0, rfl, Nat.zero_le _, ⟨fun j hj => absurd hj (Nat.not_lt_zero _)⟩, ⟨Below.refl _ _⟩⟩
 case round =>
  obtain ⟨i, rfl, hi, HN, HB⟩ := hrel
  by_cases hlt : i < l.length
  ·obtain ⟨ga, rfl⟩ := hA (by omega)
   obtain ⟨h0, h1, h2⟩ := L3_at (Kd.C_below HC.out HB.out) i hlt
   have HCA := Aside0.mk (HK.out.below HB.out)
   obtain ⟨x, hx⟩ : ∃ x, x = l.getD i (0, 0, 0) := ⟨_, rfl⟩
   rw [← hx] at h0 h1 h2
   have HX := Aside0.mk hx
   clear hx
   by_cases hp : isNo v x = true
   ·have HP := Aside0.mk hp
    clear hp
    go_wp2_with (go_at_call 33; (with_reducible refine (find_cl g v x _ HCA.out).mono ?_); rintro e w' ⟨rfl, hb⟩; rw [HP.out]; have HB2 := Aside0.mk (below_step HB.out hb); clear hb)
    go_ret
    exact ⟨by rw [idx_at hlt (by rw [← HX.out]; exact HP.out) HN.out]; rfl, HB2.out⟩
   ·have hp' : isNo v x = false := by simpa using hp
    have HP := Aside0.mk hp'
    clear hp hp'
    go_wp2_with (go_at_call 33; (with_reducible refine (find_cl g v x _ HCA.out).mono ?_); rintro e w' ⟨rfl, hb⟩; rw [HP.out]; have HB2 := Aside0.mk (below_step HB.out hb); clear hb)
    go_roundw
    case rel =>
     refine ⟨i + 1, by go_num, hlt, ⟨fun j hj => ?_⟩, HB2⟩
     by_cases e : j = i
     ·rw [e, ← HX.out]; exact HP.out
     ·exact HN.out j (by omega)
    case measure => simp [intOf]; omega
  ·obtain rfl : i = l.length := by omega
   go_wp2
   go_ret
   exact ⟨by rw [idx_none HN.out]; rfl, HB.out⟩
theorem idx30 (g : Nat) (v : Int) (A : Option Addr) (c : Nat) (l : List L3) (w : World) (hC : kL3.C w A l.length l) (hl : l.length ≤ 9223372036854775806) (hA : 0 < l.length → ∃ ga, A = some ⟨ga, 0, none⟩) (hcap : Cap w g v) :
  Calls Try.prog 29 #[.slice A l.length c, .func (.func 30) #[] #[.pointer (some ⟨g, 0, none⟩)]] w fun e w' => e = .returned (.int .i64 (idxI (isNo v) l)) ∧ Below w.heap.size w w' := by
 have hu55 := Try.underlying55
 have HC := Aside0.mk hC
 have HK := Aside0.mk hcap
 clear hC hcap
 go_enter Try.func29, Try.ntmps29
 go_wp2
 go_loopw [5, 8] (fun v5 v8 wr => ∃ i : Nat, v8 = .int .i64 i ∧ i ≤ l.length ∧ Aside0 (∀ j, j < i → isNo v (l.getD j (0, 0, 0)) = false) ∧ Aside0 (Below w.heap.size w wr)) (fun _ v8 _ => l.length - (intOf v8).toNat)
 case atStart => exact ⟨0, rfl, Nat.zero_le _, ⟨fun j hj => absurd hj (Nat.not_lt_zero _)⟩, ⟨Below.refl _ _⟩⟩
 case round =>
  obtain ⟨i, rfl, hi, HN, HB⟩ := hrel
  by_cases hlt : i < l.length
  ·obtain ⟨ga, rfl⟩ := hA (by omega)
   obtain ⟨h0, h1, h2⟩ := L3_at (Kd.C_below HC.out HB.out) i hlt
   have HCA := Aside0.mk (HK.out.below HB.out)
   obtain ⟨x, hx⟩ : ∃ x, x = l.getD i (0, 0, 0) := ⟨_, rfl⟩
   rw [← hx] at h0 h1 h2
   have HX := Aside0.mk hx
   clear hx
   by_cases hp : isNo v x = true
   ·have HP := Aside0.mk hp
    clear hp
    go_wp2_with (go_at_call 30; (with_reducible refine (end_cl g v x _ HCA.out).mono ?_); rintro e w' ⟨rfl, hb⟩; rw [HP.out]; have HB2 := Aside0.mk (below_step HB.out hb); clear hb)
    go_ret
    exact ⟨by rw [idx_at hlt (by rw [← HX.out]; exact HP.out) HN.out]; rfl, HB2.out⟩
   ·have hp' : isNo v x = false := by simpa using hp
    have HP := Aside0.mk hp'
    clear hp hp'
    go_wp2_with (go_at_call 30; (with_reducible refine (end_cl g v x _ HCA.out).mono ?_); rintro e w' ⟨rfl, hb⟩; rw [HP.out]; have HB2 := Aside0.mk (below_step HB.out hb); clear hb)
    go_roundw
    case rel =>
     refine ⟨i + 1, by go_num, hlt, ⟨fun j hj => ?_⟩, HB2⟩
     by_cases e : j = i
     ·rw [e, ← HX.out]; exact HP.out
     ·exact HN.out j (by omega)
    case measure => simp [intOf]; omega
  ·obtain rfl : i = l.length := by omega
   go_wp2
   go_ret
   exact ⟨by rw [idx_none HN.out]; rfl, HB.out⟩
end Go.Proofs.Ytbgilmdmebmcnaa.Al

/- leases.find by its contract. -/
namespace Go.Proofs.Ytbgilmdmebmcnaa.Al
open Go.RowKit Go.Proofs.Ytbgilmdmebmcnaa.LeaseSpec Go.Proofs.YtbgilmdmebmcnaaW.PrintWords Go.Proofs.YtbgilmdmebmcnaaW.PrintLast Go.Proofs.YtbgilmdmebmcnaaW.PrintMore
set_option linter.unusedVariables false
set_option linter.unusedSimpArgs false
theorem tick_calls (n : Int) (w : World) : Calls Try.prog 21 #[.int .i64 n, .int .i64 1099511627776] w fun e w' => e = .returned (.bool (tickOk n)) ∧ Below w.heap.size w w' := by
 refine (leases_within.calls n 1099511627776 (tickOk n) w ?_).mono (by rintro e w' ⟨rfl, k, rfl⟩; exact ⟨rfl, pw_below_drewN (Below.refl _ _) k⟩)
 unfold leases_within.f tickOk
 by_cases h : n ≥ 0
 ·rw [if_pos h, decide_eq_true (show 0 ≤ n by omega), Bool.true_and]
 ·rw [if_neg h, decide_eq_false (show ¬ 0 ≤ n by omega), Bool.false_and]
theorem stamp_calls (n : Int) (w : World) : Calls Try.prog 21 #[.int .i64 n, .int .i64 1125899906842624] w fun e w' => e = .returned (.bool (stampOk n)) ∧ Below w.heap.size w w' := by
 refine (leases_within.calls n 1125899906842624 (stampOk n) w ?_).mono (by rintro e w' ⟨rfl, k, rfl⟩; exact ⟨rfl, pw_below_drewN (Below.refl _ _) k⟩)
 unfold leases_within.f stampOk
 by_cases h : n ≥ 0
 ·rw [if_pos h, decide_eq_true (show 0 ≤ n by omega), Bool.true_and]
 ·rw [if_neg h, decide_eq_false (show ¬ 0 ≤ n by omega), Bool.false_and]
def ptrOf (v : Value) (x : Nat × Int) : Value := if x.2 = 0 then (match v with | .slice (some a) _ _ => .pointer (some ⟨a.block, x.1 * 3, none⟩) | _ => .pointer none) else .pointer none
theorem find_bad {t : Tb} {now no : Int} (h : tickOk now = false) : findT t now no = (0, 1) := by unfold findT; rw [h]; rfl
theorem find_none {t : Tb} {now no : Int} (h : tickOk now = true) (hi : idxI (isNo no) t.l = -1) : findT t now no = (0, 5) := by
 unfold findT
 rw [h, if_pos rfl]
 unfold idxI at hi
 split at hi
 ·omega
 ·rename_i hn
  rw [List.getElem?_eq_none (by unfold idx; omega)]
theorem idx_pos {p : L3 → Bool} {l : List L3} {i : Nat} (h : idxI p l = (i : Int)) : l.findIdx p = i ∧ i < l.length := by
 unfold idxI at h
 split at h
 ·have : l.findIdx p = i := by omega
  rw [← this]
  exact ⟨rfl, by assumption⟩
 ·omega
theorem find_some {t : Tb} {now no : Int} {i : Nat} (h : tickOk now = true) (hi : idxI (isNo no) t.l = (i : Int)) : findT t now no = if isOver now (t.l.getD i (0, 0, 0)) = true then (0, 170) else (i, 0) := by
 obtain ⟨h1, h2⟩ := idx_pos hi
 unfold findT
 rw [h, if_pos rfl, show idx no t.l = i from h1, List.getElem?_eq_getElem h2]
 simp only [isOver, List.getD_eq_getElem?_getD, List.getElem?_eq_getElem h2, Option.getD_some, decide_eq_true_eq]
theorem idx_or (p : L3 → Bool) (l : List L3) : idxI p l = -1 ∨ ∃ i : Nat, idxI p l = (i : Int) ∧ i < l.length := by
 unfold idxI
 split
 ·exact .inr ⟨_, rfl, by assumption⟩
 ·exact .inl rfl
section
variable {P : Program} {ops : Array Oper} {Q : Exit → Act → World → Prop}
/-- A call of a closure that holds free variables, in a region that draws its order. -/
theorem goesC_ {oi : Oper} {N : Option Tmp} {a : Act} {w : World} {K : Act → World → Prop} {f : FuncId} {fn : Func} {as_ : Array Operand} {ts : Array TypeId} (cl : Operand) (fr : Array Value) (hf : P.funcs[f]? = some fn) (hname : (fn.name == "runtime.NumGoroutine") = false) (hb : fn.body.isSome = true) (args0 args : Array Value)
  (hw : Region.wanted oi (yielded ops a.tmps) = true) (hN : oi.dst = N) (hop : oi.op = .call { callee := .value cl, args := as_, argTypes := ts }) (hcl : a.eval cl = .func (.func f) #[] fr) (hargs : as_.map a.eval = args0) (happ : args0 ++ fr = args)
  (h : Calls P f args w fun e w' => ∃ v, e = .returned v ∧ K (a.put N v) w') : if Region.wanted oi (yielded ops a.tmps) = true then Oper.wp P oi a w K Q else K (a.put N undef) w := by
 refine call_ f args hw hN ?_ h
 have he := enters_ hf hname hb args w
 unfold execOp
 subst happ
 simp [hop, resolve, Deferred.ofValue, invoke, hcl, hargs, he]
end
def rg25_6_T : Bool × List (List Nat × List Nat) := (true, [([], []), ([0], [0]), ([], []), ([2], [2]), ([3], [3]), ([4], [4]), ([], []), ([5, 6], [5, 6]), ([7], [7]), ([1, 8, 1], [1, 8]), ([9, 9], [9])])
def rg25_6_B : List Nat := [0, 1, 0, 4, 12, 28, 0, 124, 252, 511, 1023]
theorem rg25_6_tab : rtab .any (opsOf Try.f25 6) = rg25_6_T := by kernel_rfl
theorem rg25_6_bits : waitsOk rg25_6_T.2 rg25_6_B = true := by kernel_rfl
set_option maxHeartbeats 8000000 in
set_option maxRecDepth 100000 in
theorem find_calls (w0 W : World) (gT : Nat) (t : Tb) (v : Value) (hT : TS 55 51 w0 W gT t v) (hlen : t.l.length ≤ 1024) (now no : Int) :
  Calls Try.prog 25 #[.pointer (some ⟨gT, 0, none⟩), .int .i64 now, .int .i64 no] W fun e w' => e = .returned (.tuple #[ptrOf v (findT t now no), .int .i64 (findT t now no).2]) ∧ Below W.heap.size W w' := by
 have hu55 := Try.underlying55
 obtain ⟨A, c, hv⟩ := Kd.R_slice hT.row
 have hA : 0 < t.l.length → ∃ ga, A = some ⟨ga, 0, none⟩ := fun hp => by
  obtain ⟨g, cap, e, _⟩ := Kd.R_form hT.row hp
  rw [hv] at e
  injection e with e _ _
  exact ⟨g, e⟩
 subst hv
 have HA := Aside0.mk hA
 have HL := Aside0.mk hlen
 have HT0 := Aside0.mk hT
 clear hA hT hlen
 by_cases htk : tickOk now = true
 ·have HTK := Aside0.mk htk
  clear htk
  rcases idx_or (isNo no) t.l with hi | ⟨i, hi, hil⟩
  ·have HI := Aside0.mk hi
   clear hi
   go_enter Try.func25, Try.ntmps25
   go_wp2_with (first | ((with_reducible refine gate_dst (N := 5) rfl ?_); refine box_event ?hg (N := 5) ?hd (cs := #[.int .i64 no]) (t := 3) ?hr ?_; (case hd => rfl); (case hg => rfl); (case hr => first | (go_simp; done) | (go_simp; rfl)); intro gc hg w1 hbox hb; have HC1 := Aside0.mk (show Cap w1 gc no from hbox); have HT1 := Aside0.mk (HT0.out.below hb); have HB1 := Aside0.mk hb; clear hg hbox hb) | (go_at_call 21; refine (tick_calls now _).mono ?_; rintro e w2 ⟨rfl, hb⟩; rw [HTK.out]; have HT2 := Aside0.mk (HT1.out.below hb); have HC2 := Aside0.mk (HC1.out.below hb); have HB2 := Aside0.mk (below_step HB1.out hb); have f2 : w2.cell? ⟨gT, 2, none⟩ = some (.slice A t.l.length c) := (blk_cell HT2.out.blk 2).trans rfl; clear hb) | (go_at_call 29; refine (idx33 gc no A c t.l _ (Kd.R_reads' HT2.out.row).2.2 (by have := HL.out; omega) HA.out HC2.out).mono ?_; rintro e w3 ⟨rfl, hb⟩; rw [HI.out]; have HB3 := Aside0.mk (below_step HB2.out hb); clear hb))
   exact bodyPost_ret (v := .tuple #[.pointer none, .int .i64 5]) (by simp [results, Try.results25, go_sem]) rfl ⟨by rw [find_none HTK.out HI.out]; rfl, HB3.out⟩
  ·obtain ⟨ga, rfl⟩ := HA.out (by omega)
   have HI := Aside0.mk hi
   have HO : Aside0 (0 ≤ (i : Int)) := ⟨by omega⟩
   have n1 : decide ((i : Int) < 0) = false := decide_eq_false (by omega)
   clear hi
   obtain ⟨x, hx⟩ : ∃ x, x = t.l.getD i (0, 0, 0) := ⟨_, rfl⟩
   have HX := Aside0.mk hx
   clear hx
   go_enter Try.func25, Try.ntmps25
   go_upto_region 6 with (first | ((with_reducible refine gate_dst (N := 5) rfl ?_); refine box_event ?hg (N := 5) ?hd (cs := #[.int .i64 no]) (t := 3) ?hr ?_; (case hd => rfl); (case hg => rfl); (case hr => first | (go_simp; done) | (go_simp; rfl)); intro gc hg w1 hbox hb; have HC1 := Aside0.mk (show Cap w1 gc no from hbox); have HT1 := Aside0.mk (HT0.out.below hb); have HB1 := Aside0.mk hb; clear hg hbox hb) | (go_at_call 21; refine (tick_calls now _).mono ?_; rintro e w2 ⟨rfl, hb⟩; rw [HTK.out]; have HT2 := Aside0.mk (HT1.out.below hb); have HC2 := Aside0.mk (HC1.out.below hb); have HB2 := Aside0.mk (below_step HB1.out hb); have f2 : w2.cell? ⟨gT, 2, none⟩ = some (.slice (some ⟨ga, 0, none⟩) t.l.length c) := (blk_cell HT2.out.blk 2).trans rfl; clear hb) | (go_at_call 29; refine (idx33 gc no (some ⟨ga, 0, none⟩) c t.l _ (Kd.R_reads' HT2.out.row).2.2 (by have := HL.out; omega) HA.out HC2.out).mono ?_; rintro e w3 ⟨rfl, hb⟩; rw [HI.out]; have HT3 := Aside0.mk (HT2.out.below hb); have HB3 := Aside0.mk (below_step HB2.out hb); clear hb))
   have b1 : decide ((i : Int) < (t.l.length : Int)) = true := decide_eq_true (by omega)
   have b2 : decide (i < t.l.length) = true := decide_eq_true hil
   have HTd := HT3.out.below (below_drew (Below.refl _ w3))
   have hbk := HTd.blk
   obtain ⟨h0, h1, h2⟩ := L3_at (Kd.R_reads' HTd.row).2.2 i hil
   rw [← HX.out] at h0 h1 h2
   refine start_ (n := 11) (S := fun w' => w'.heap[gT]? = some (.cells #[.int .i64 t.long, .int .i64 t.many, .slice (some ⟨ga, 0, none⟩) t.l.length c] 51 (0, 0)) ∧ w'.cell? ⟨ga, i * 3, none⟩ = some (.int .i64 x.1) ∧ w'.cell? ⟨ga, i * 3 + 1, none⟩ = some (.int .i64 x.2.1) ∧ w'.cell? ⟨ga, i * 3 + 2, none⟩ = some (.int .i64 x.2.2)) (ds := []) #[false, false, false, false, false, false, false, false, false, false, false] (by kernel_rfl) rfl rfl ⟨hbk, h0, h1, h2⟩ (fun hHeld => ?_)
   refine with_tabW rg25_6_tab rg25_6_bits (fun HT_ HW_ => ?_)
   obtain ⟨W1, hW1⟩ : ∃ W1, W1 = w3.drew := ⟨_, rfl⟩
   have HB4 := Aside0.mk (show Below W.heap.size W W1 from by rw [hW1]; exact below_drew1 HB3.out)
   rw [← hW1] at hHeld HTd ⊢
   have HT4 := Aside0.mk HTd
   clear hW1 HTd hbk h0 h1 h2
   refine pure_ (i := 0) (N := some 22) (v := ?_) (a' := ?_) #[true, false, false, false, false, false, false, false, false, false, false] rfl rfl (any_of HT_.out (by kernel_rfl)) (fun _ _ _ h => h) (Or.inl ⟨by rfl, ?_⟩) ?_ ?_
   rotate_left
   ·intro w'
    go_simp
    with_reducible rfl
   rotate_left
   ·simp only [Act.put, List.setIfInBounds_toArray, List.set_cons_zero, List.set_cons_succ, i64_w, i32_w]
    rfl
   refine pure_ (i := 2) (N := some 24) (v := ?_) (a' := ?_) #[true, false, true, false, false, false, false, false, false, false, false] rfl rfl (any_of HT_.out (by kernel_rfl)) (fun _ _ _ h => h) (Or.inl ⟨by rfl, ?_⟩) ?_ ?_
   rotate_left
   ·intro w'
    go_simp
    with_reducible rfl
   rotate_left
   ·simp only [Act.put, List.setIfInBounds_toArray, List.set_cons_zero, List.set_cons_succ, i64_w, i32_w]
    rfl
   refine pure_ (i := 3) (N := some 25) (v := ?_) (a' := ?_) #[true, false, true, true, false, false, false, false, false, false, false] rfl rfl (any_of HT_.out (by kernel_rfl)) (fun _ _ _ h => h) (Or.inl ⟨by rfl, ?_⟩) ?_ ?_
   rotate_left
   ·intro w'
    go_simp
    with_reducible rfl
   rotate_left
   ·simp only [Act.put, List.setIfInBounds_toArray, List.set_cons_zero, List.set_cons_succ, i64_w, i32_w]
    rfl
   refine pure_ (i := 4) (N := some 26) (v := ?_) (a' := ?_) #[true, false, true, true, true, false, false, false, false, false, false] rfl rfl (any_of HT_.out (by kernel_rfl)) (fun _ _ _ h => h) (Or.inl ⟨by rfl, ?_⟩) ?_ ?_
   rotate_left
   ·intro w'
    go_simp
    with_reducible rfl
   rotate_left
   ·simp only [Act.put, List.setIfInBounds_toArray, List.set_cons_zero, List.set_cons_succ, i64_w, i32_w]
    rfl
   refine take_ (i := 5) (N := some 27) (v := ?_) (a' := ?_) #[true, false, true, true, true, true, false, false, false, false, false] rfl rfl (take_ofW HT_.out HW_.out (by kernel_rfl)) (fun _ _ _ h => h) (Or.inl ⟨by rfl, ?_⟩) hHeld ?_ ?_
   rotate_left
   ·rintro w' ⟨s0, s1, s2, s3⟩
    have y2 : w'.cell? ⟨gT, 2, none⟩ = some (.slice (some ⟨ga, 0, none⟩) t.l.length c) := (blk_cell s0 2).trans rfl
    go_simp
    with_reducible rfl
   rotate_left
   ·simp only [Act.put, List.setIfInBounds_toArray, List.set_cons_zero, List.set_cons_succ, i64_w, i32_w]
    rfl
   refine pure_ (i := 6) (N := some 28) (v := ?_) (a' := ?_) #[true, false, true, true, true, true, true, false, false, false, false] rfl rfl (any_of HT_.out (by kernel_rfl)) (fun _ _ _ h => h) (Or.inl ⟨by rfl, ?_⟩) ?_ ?_
   rotate_left
   ·intro w'
    go_simp
    with_reducible rfl
   rotate_left
   ·simp only [Act.put, List.setIfInBounds_toArray, List.set_cons_zero, List.set_cons_succ, i64_w, i32_w]
    rfl
   refine pure_ (i := 7) (N := some 29) (v := ?_) (a' := ?_) #[true, false, true, true, true, true, true, true, false, false, false] rfl rfl (any_of HT_.out (by kernel_rfl)) (fun _ _ _ h => h) (Or.inl ⟨by rfl, ?_⟩) ?_ ?_
   rotate_left
   ·intro w'
    go_simp
    with_reducible rfl
   rotate_left
   ·simp only [Act.put, List.setIfInBounds_toArray, List.set_cons_zero, List.set_cons_succ, i64_w, i32_w]
    rfl
   refine take_ (i := 8) (N := some 30) (v := ?_) (a' := ?_) #[true, false, true, true, true, true, true, true, true, false, false] rfl rfl (take_ofW HT_.out HW_.out (by kernel_rfl)) (fun _ _ _ h => h) (Or.inl ⟨by rfl, ?_⟩) hHeld ?_ ?_
   rotate_left
   ·rintro w' ⟨s0, s1, s2, s3⟩
    go_simp
    with_reducible rfl
   rotate_left
   ·simp only [Act.put, List.setIfInBounds_toArray, List.set_cons_zero, List.set_cons_succ, i64_w, i32_w]
    rfl
   refine one_ (i := 1) (N := some 23) #[true, true, true, true, true, true, true, true, true, false, false] rfl rfl (one_of HT_.out (by kernel_rfl)) (by decide) (fun K hK => ?_)
   (refine goes_ Try.func24 (by kernel_rfl) rfl #[.int .i64 now] (by rfl) rfl rfl (by (try simp only [List.map_toArray, List.map_cons, List.map_nil]); first | done | rfl) ?_; refine (over_calls now _).mono ?_; rintro e w5 ⟨go, rfl, hge, hcp, hb⟩; refine ⟨_, rfl, ?_⟩; have HC5 := Aside0.mk hcp; have HT5 := Aside0.mk (HT4.out.below hb); have HB5 := Aside0.mk (below_step HB4.out hb); clear hge hcp hb)
   refine hK.out _ _ ⟨HT5.out.blk, by rw [HX.out]; exact L3_at (Kd.R_reads' HT5.out.row).2.2 i hil⟩ (fun hHeld => ?_)
   clear hK K
   try simp only [Act.put, List.setIfInBounds_toArray, List.set_cons_zero, List.set_cons_succ, i64_w, i32_w]
   refine one_ (i := 9) (N := some 31) #[true, true, true, true, true, true, true, true, true, true, false] rfl rfl (one_of HT_.out (by kernel_rfl)) (by decide) (fun K hK => ?_)
   (refine goesC_ (.tmp 23) #[.pointer (some ⟨go, 0, none⟩)] Try.func32 (by kernel_rfl) rfl #[a3 x] #[a3 x, .pointer (some ⟨go, 0, none⟩)] (by rfl) rfl rfl rfl (by (try simp only [List.map_toArray, List.map_cons, List.map_nil]); first | done | rfl) (by simp) ?_; refine (over_cl go now x _ HC5.out).mono ?_; rintro e w6 ⟨rfl, hb⟩; refine ⟨_, rfl, ?_⟩; have HT6 := Aside0.mk (HT5.out.below hb); have HB6 := Aside0.mk (below_step HB5.out hb); clear hb)
   refine hK.out _ _ ⟨HT6.out.blk, by rw [HX.out]; exact L3_at (Kd.R_reads' HT6.out.row).2.2 i hil⟩ (fun hHeld => ?_)
   clear hK K
   try simp only [Act.put, List.setIfInBounds_toArray, List.set_cons_zero, List.set_cons_succ, i64_w, i32_w]
   refine pure_ (i := 10) (N := some 21) (v := ?_) (a' := ?_) #[true, true, true, true, true, true, true, true, true, true, true] rfl rfl (any_of HT_.out (by kernel_rfl)) (fun _ _ _ h => h) (Or.inl ⟨by rfl, ?_⟩) ?_ ?_
   rotate_left
   ·intro w'
    go_simp
    with_reducible rfl
   rotate_left
   ·simp only [Act.put, List.setIfInBounds_toArray, List.set_cons_zero, List.set_cons_succ, i64_w, i32_w]
    rfl
   refine done_ (done_of HT_.out (by kernel_rfl)) ?_
   clear hHeld
   by_cases ho : isOver now x = true
   ·rw [ho]
    have HOV := Aside0.mk ho
    clear ho
    go_wp2
    exact bodyPost_ret (v := .tuple #[.pointer none, .int .i64 170]) (by simp [results, Try.results25, go_sem]) rfl ⟨by rw [find_some HTK.out HI.out, ← HX.out, if_pos HOV.out]; rfl, HB6.out⟩
   ·have ho' : isOver now x = false := by simpa using ho
    rw [ho']
    have HOV := Aside0.mk ho
    clear ho ho'
    have f2 : w6.cell? ⟨gT, 2, none⟩ = some (.slice (some ⟨ga, 0, none⟩) t.l.length c) := (blk_cell HT6.out.blk 2).trans rfl
    go_wp2
    exact bodyPost_ret (v := .tuple #[.pointer (some ⟨ga, i * 3, none⟩), .int .i64 0]) (by simp [results, Try.results25, go_sem]) rfl ⟨by rw [find_some HTK.out HI.out, ← HX.out, if_neg HOV.out]; rfl, HB6.out⟩
 ·have HTK : Aside0 (tickOk now = false) := ⟨by simpa using htk⟩
  clear htk
  go_enter Try.func25, Try.ntmps25
  go_wp2_with (first | ((with_reducible refine gate_dst (N := 5) rfl ?_); refine box_event ?hg (N := 5) ?hd (cs := #[.int .i64 no]) (t := 3) ?hr ?_; (case hd => rfl); (case hg => rfl); (case hr => first | (go_simp; done) | (go_simp; rfl)); intro gc hg w1 hbox hb; have HC1 := Aside0.mk (show Cap w1 gc no from hbox); have HT1 := Aside0.mk (HT0.out.below hb); have HB1 := Aside0.mk hb; clear hg hbox hb) | (go_at_call 21; refine (tick_calls now _).mono ?_; rintro e w2 ⟨rfl, hb⟩; rw [HTK.out]; have HT2 := Aside0.mk (HT1.out.below hb); have HC2 := Aside0.mk (HC1.out.below hb); have HB2 := Aside0.mk (below_step HB1.out hb); have f2 : w2.cell? ⟨gT, 2, none⟩ = some (.slice A t.l.length c) := (blk_cell HT2.out.blk 2).trans rfl; clear hb))
  exact bodyPost_ret (v := .tuple #[.pointer none, .int .i64 1]) (by simp [results, Try.results25, go_sem]) rfl ⟨by rw [find_bad HTK.out]; rfl, HB2.out⟩
end Go.Proofs.Ytbgilmdmebmcnaa.Al

/- slices.Clone at one element type: an own text in the printer's form. -/
namespace Go.Proofs.Ytbgilmdmebmcnaa.Al
open Go.RowKit Go.Proofs.Ytbgilmdmebmcnaa.LeaseSpec Go.Proofs.YtbgilmdmebmcnaaW.PrintWords Go.Proofs.YtbgilmdmebmcnaaW.PrintLast Go.Proofs.YtbgilmdmebmcnaaW.PrintMore
set_option linter.unusedVariables false
set_option linter.unusedSimpArgs false
theorem info55 : (Try.prog.info? 55).map (fun i => (i.zero, i.size, i.bytes)) = some (some (.agg #[.int .i64 0, .int .i64 0, .int .i64 0]), 3, 24) := by kernel_rfl
def lease_clone.f (l0 : List (L3)) : Option (List (L3)) := if l0.length < 4398046511104 then some l0 else none
set_option maxHeartbeats 8000000 in
set_option maxRecDepth 100000 in
theorem lease_clone.calls (A0 : Option Addr) (c0 : Nat) (l0 : List (L3)) (r : List (L3)) (w : World) (hr0 : Kd.C kL3 w A0 l0.length l0) (hc0 : l0.length ≤ c0) (h : lease_clone.f l0 = some r) :
  Calls Try.prog 23 #[.slice A0 l0.length c0] w fun e w' => ∃ v0_ : Value, e = .returned (v0_) ∧ Kd.R kL3 55 w' w.heap.size (fun _ => True) v0_ r ∧ Below w.heap.size w w' := by
 unfold lease_clone.f at h
 split at h
 case isFalse => cases h
 rename_i hlim
 obtain rfl := Option.some.inj h
 clear h
 have HR0 := Aside0.mk hr0
 have HC0 := Aside0.mk hc0
 have HL := Aside0.mk hlim
 have HB := Aside0.mk (Below.refl w.heap.size w)
 rcases A0 with _ | a
 ·have hl : l0 = [] := by
   cases l0 with
   |nil => rfl
   |cons x l => obtain ⟨ad, e, _⟩ := hr0.2.2 (by simp); cases e
  subst hl
  clear hr0 hc0 hlim
  have hnil := fun (W : World) => Lib.run_eql_slice_nil W 49 55 (none : Option Addr) 0 c0 0 0 Try.underlying49
  go_enter Try.func23, Try.ntmps23
  go_wp2
  go_ret
  exact ⟨_, rfl, Kd.R_nil _ _ _ _ _, by repeat (first | (with_reducible first | exact HB.out | apply below_alloc | apply pw_below_drewN | apply below_drew1) | exact HB.out)⟩
 ·have hnil := fun (W : World) => Lib.run_eql_slice_nil W 49 55 (some a) l0.length c0 0 0 Try.underlying49
  clear hr0 hc0 hlim
  go_enter Try.func23, Try.ntmps23
  go_wp2_with (first | ((with_reducible refine gate_dst (N := 5) rfl ?_); refine Kd.R_lit kL3 _ 55 ?hg (N := 5) ?hd (xs := ([] : List (L3))) (inner := []) (ok := fun _ => True) (okp := fun _ => True) ?hr ?hp (fun _ hk => hk) trivial (Below.refl _ _) (Nat.le_refl _) (by simp) ?_; (case hd => rfl); (case hg => rfl); (case hr => first | (go_simp; done) | (go_simp; rfl)); (case hp => exact (Reps.none _ _)); intro v130 w6 ho7 hb hg_ hnew_; clear hg_ hnew_; have n0_ := Aside0.mk (Kd.R_lower ho7 (below_size (by repeat (first | (with_reducible first | exact HB.out | apply below_alloc | apply pw_below_drewN | apply below_drew1) | exact HB.out)))); have n1_ := Aside0.mk (below_step (by repeat (first | (with_reducible first | exact HB.out | apply below_alloc | apply pw_below_drewN | apply below_drew1) | exact HB.out)) hb); clear HB; have HO131 := n0_; have HB := n1_; clear n0_ n1_; clear hb ho7) | ((with_reducible refine gate_builtin (b := .append) (xs := #[.tmp 5, .tmp 6]) rfl ?_); at_builtin; refine Kd.R_append_rows kL3 (w0 := w) w.heap.size rfl (.tmp 5) (.tmp 6) 49 55 (.agg #[(.int .i64 0), (.int .i64 0), (.int .i64 0)]) 24 rfl Try.underlying49 info55 rfl (by decide) (by omega) v130 [] l0 _ _ _ (fun _ => True) (fun _ => False) rfl rfl ?aO ?aR (fun _ _ h => h) (fun _ h => h.elim) ?aF ?aB ?aS ?aL ?_; (case aR => repeat (first | exact (Kd.C_below HR0.out HB.out) | (with_reducible refine Kd.C_alloc ?_ _) | (with_reducible refine Kd.C_drewN ?_ _) | (with_reducible refine Kd.C_drew ?_))); (case aB => exact (by repeat (first | (with_reducible first | exact HB.out | apply below_alloc | apply pw_below_drewN | apply below_drew1) | exact HB.out))); (case aF => exact (fun _ _ => trivial)); (case aO => exact (by (with_reducible repeat (first | apply Kd.R_alloc | apply Kd.R_drewN | apply Kd.R_drew)); exact HO131.out)); (case aS => exact (below_size (by repeat (first | (with_reducible first | exact HB.out | apply below_alloc | apply pw_below_drewN | apply below_drew1) | exact HB.out)))); (case aL => have := HL.out; simp only [List.length_nil]; omega); intro v133 w8 ho hb hg hat; rw [List.nil_append] at ho; have n0_ := Aside0.mk (hb); have n1_ := Aside0.mk (ho); clear HB; clear HO131; have HB := n0_; have HO134 := n1_; clear n0_ n1_; clear ho hb hg hat))
  go_ret
  exact ⟨_, rfl, by (with_reducible repeat (first | apply Kd.R_alloc | apply Kd.R_drewN | apply Kd.R_drew)); exact HO134.out, by repeat (first | (with_reducible first | exact HB.out | apply below_alloc | apply pw_below_drewN | apply below_drew1) | exact HB.out)⟩
end Go.Proofs.Ytbgilmdmebmcnaa.Al

/- clear(s[n:m]) behind a row of the call's own: what lies behind the row's end is emptied, the row stays. -/
namespace Go.Proofs.Ytbgilmdmebmcnaa.RowClear
open Go.RowKit Go.Proofs.YtbgilmdmebmcnaaW.PrintWords
variable {P : Program} {α : Type}
theorem zeroCells_one (z : Value) (m : Nat) (h : ∀ v ∈ z.cells.toList, v.oneCell' = true) (hz : 0 < z.cells.size) : ∀ v ∈ (Builtin.zeroCells z.cells m).toList, v.oneCell' = true := by
 intro v hv
 simp only [Builtin.zeroCells, Array.toList_map, List.mem_map] at hv
 obtain ⟨i, _, rfl⟩ := hv
 have hlt := Nat.mod_lt i hz
 rw [getElem!_pos z.cells (i % z.cells.size) hlt]
 exact h _ (by simp)
/-- The row has n elements; from n on (m of them, within its room) cells are emptied. -/
theorem R_clear_run (d : Kd α) {W : World} (base : Nat) (t ty e : TypeId) (z : Value) (ht : P.underlying t = some (.slice e)) (hv : ∀ w, (zeroValue e).run P w = .ok z w) (hzs : z.cells.size = d.sz) (hz1 : ∀ v ∈ z.cells.toList, v.oneCell' = true)
  {g n c m o : Nat} {xs : List α} {ok : Nat → Prop} (HO : d.R e W base ok (.slice (some ⟨g, 0, none⟩) n c) xs) (ho : o = n * d.sz) (hm : 0 < m) (hmc : n + m ≤ c) (c2 : Nat) :
  ∃ w1, (Builtin.clear_ #[t] ty #[.slice (some ⟨g, o, none⟩) m c2]).run P W = .ok (.tuple #[]) w1 ∧ d.R e w1 base ok (.slice (some ⟨g, 0, none⟩) n c) xs ∧ W.grownBy w1 (some g) := by
 subst ho
 obtain ⟨hn, hnc, _⟩ := Kd.R_reads' HO
 obtain ⟨hok, inner, hown, hr⟩ := HO
 rcases hown.2 with ⟨hv', _⟩ | ⟨g', cap', cur, hv', hb, hh, _, hcm, hcs, htake⟩
 ·cases hv'
 injection hv' with ha _ hc
 injection ha with ha
 injection ha with hg
 subst hg; subst hc
 rw [← hn] at htake
 have hnm : (n + m) * d.sz ≤ c * d.sz := Nat.mul_le_mul_right _ hmc
 have hnm' : (n + m) * d.sz = n * d.sz + m * d.sz := Nat.add_mul _ _ _
 obtain ⟨vs, hvs⟩ : ∃ vs, vs = (Builtin.zeroCells z.cells m).toList := ⟨_, rfl⟩
 have hvl : vs.length = m * d.sz := by rw [hvs, ← hzs]; simp [Builtin.zeroCells]
 have h1 : ∀ v ∈ vs, v.oneCell' = true := by
  intro v hv
  by_cases hs : 0 < z.cells.size
  ·rw [hvs] at hv; exact zeroCells_one z m hz1 hs v hv
  ·exfalso
   have : vs = [] := List.eq_nil_of_length_eq_zero (by rw [hvl, ← hzs, Nat.eq_zero_of_not_pos hs, Nat.mul_zero])
   rw [this] at hv; simp at hv
 have hst := run_storeCells_cells (P := P) g (n * d.sz) vs 0 W (fun j hj => by rw [cell_of_row W g _ cur e (0, 0) hh]; simp; omega) (fun j _ => blk_frozen hh _) h1
 rw [Nat.add_zero] at hst
 obtain ⟨m', rfl⟩ : ∃ k, m = k + 1 := ⟨m - 1, by omega⟩
 have hrun : (Builtin.clear_ #[t] ty #[.slice (some ⟨g, n * d.sz, none⟩) (m' + 1) c2]).run P W = .ok (.tuple #[]) (W.setCells g (n * d.sz) vs) := by
  simp [Builtin.clear_, run_underlying ht, hv, ← hvs, hst]
 obtain ⟨cur', h3, h4, h5⟩ := setCells_row vs (n * d.sz) W cur hh (by omega)
 obtain ⟨s1, s2, s3, s4⟩ := setCells_same g vs (n * d.sz) W
 have hfar : ∀ k', k' ≠ g → (W.setCells g (n * d.sz) vs).heap[k']? = W.heap[k']? := fun k' hk' => setCells_far vs _ k' hk'
 have hgo : some g = (Value.slice (some ⟨g, 0, none⟩) n c).ownBlock := by simp [Value.ownBlock]
 refine ⟨_, hrun, ⟨hok, inner, ⟨hown.1, .inr ⟨g, c, cur', by rw [← hn], hb, h3, by omega, hcm, by rw [h4, hcs], ?_⟩⟩, ?_⟩, ⟨s1, s2, s3, by rw [s4]; exact Nat.le_refl _, fun k' _ hk' => hfar k' (fun he => hk' (by rw [he]))⟩⟩
 ·rw [← hn, h5, ← htake]
  rw [List.append_assoc, List.take_append_of_le_length (by simp; omega), List.take_take, Nat.min_self]
 ·exact hr.imp_ (fun _ _ hp => d.M_move (fun k' hk' => hfar k' (fun he => hk'.2 (by rw [← hgo, he]))) hp)
end Go.Proofs.Ytbgilmdmebmcnaa.RowClear

/- slices.DeleteFunc over leases, of those that are over. -/
namespace Go.Proofs.Ytbgilmdmebmcnaa.Al
open Go.RowKit Go.Proofs.Ytbgilmdmebmcnaa.LeaseSpec Go.Proofs.Ytbgilmdmebmcnaa.RowClear Go.Proofs.YtbgilmdmebmcnaaW.PrintWords Go.Proofs.YtbgilmdmebmcnaaW.PrintLast Go.Proofs.YtbgilmdmebmcnaaW.PrintMore
set_option linter.unusedVariables false
set_option linter.unusedSimpArgs false
def keepP (now : Int) (x : L3) : Bool := !isOver now x
theorem filter_all {p : L3 → Bool} {l : List L3} (h : ∀ j, j < l.length → p (l.getD j (0, 0, 0)) = true) : l.filter p = l := by
 refine List.filter_eq_self.2 fun x hx => ?_
 obtain ⟨j, hj, rfl⟩ := List.mem_iff_getElem.1 hx
 have := h j hj
 rw [List.getD_eq_getElem?_getD, List.getElem?_eq_getElem hj] at this
 exact this
theorem filt1 {now : Int} {x : L3} (h : isOver now x = true) : [x].filter (keepP now) = [] := by simp only [List.filter_cons, List.filter_nil, keepP, h]; rfl
theorem filt0 {now : Int} {x : L3} (h : isOver now x = false) : [x].filter (keepP now) = [x] := by simp only [List.filter_cons, List.filter_nil, keepP, h]; rfl
theorem take_get {l : List L3} {j : Nat} (hj : j < l.length) : l.take (j + 1) = l.take j ++ [l.getD j (0, 0, 0)] := by
 rw [List.take_succ_eq_append_getElem hj, List.getD_eq_getElem?_getD, List.getElem?_eq_getElem hj]
 rfl
/-- Where the deleting stands: k kept of the first j; the row is L. -/
structure DF (now : Int) (l L : List L3) (k j : Nat) : Prop where
 len : L.length = l.length
 kj : k < j
 jl : j ≤ l.length
 head : L.take k = (l.take j).filter (keepP now)
 tail : L.drop j = l.drop j
theorem DF.start {now : Int} {l : List L3} {i : Nat} (hi : i < l.length) (h : isOver now (l.getD i (0, 0, 0)) = true) (hb : ∀ j, j < i → isOver now (l.getD j (0, 0, 0)) = false) : DF now l l i (i + 1) := by
 refine ⟨rfl, by omega, by omega, ?_, rfl⟩
 rw [take_get hi, List.filter_append]
 have h1 : (l.take i).filter (keepP now) = l.take i := filter_all fun j hj => by
  have hj' : j < i := by rw [List.length_take] at hj; omega
  have := hb j hj'
  unfold keepP
  rw [List.getD_eq_getElem?_getD, List.getElem?_take_of_lt hj', ← List.getD_eq_getElem?_getD, this]; rfl
 rw [h1, filt1 h, List.append_nil]
theorem DF.get {now : Int} {l L : List L3} {k j : Nat} (h : DF now l L k j) (hj : j < l.length) : L.getD j (0, 0, 0) = l.getD j (0, 0, 0) := by
 have := congrArg (fun z => z[0]?) h.tail
 simp only [List.getElem?_drop, Nat.add_zero] at this
 rw [List.getD_eq_getElem?_getD, List.getD_eq_getElem?_getD, this]
theorem DF.keep {now : Int} {l L : List L3} {k j : Nat} (h : DF now l L k j) (hj : j < l.length) (hp : isOver now (l.getD j (0, 0, 0)) = false) : DF now l (L.set k (l.getD j (0, 0, 0))) (k + 1) (j + 1) := by
 have h1 := h.len; have h2 := h.kj; have h3 := h.jl
 refine ⟨by rw [List.length_set]; exact h1, by omega, by omega, ?_, ?_⟩
 ·rw [take_get hj, List.filter_append, ← h.head, take_get (l := L.set k _) (by rw [List.length_set]; omega)]
  congr 1
  ·rw [List.take_set_of_le (Nat.le_refl _)]
  ·rw [List.getD_eq_getElem?_getD, List.getElem?_set_self (by omega)]
   simp only [Option.getD_some]
   rw [filt0 hp]
 ·have h4 := congrArg (List.drop 1) h.tail
  rw [List.drop_drop, List.drop_drop] at h4
  rw [List.drop_set_of_lt (by omega)]
  exact h4
theorem DF.skip {now : Int} {l L : List L3} {k j : Nat} (h : DF now l L k j) (hj : j < l.length) (hp : isOver now (l.getD j (0, 0, 0)) = true) : DF now l L k (j + 1) := by
 have h1 := h.len; have h2 := h.kj; have h3 := h.jl
 refine ⟨h1, by omega, by omega, ?_, ?_⟩
 ·rw [take_get hj, List.filter_append, ← h.head, filt1 hp, List.append_nil]
 ·have h4 := congrArg (List.drop 1) h.tail
  rw [List.drop_drop, List.drop_drop] at h4
  exact h4
theorem DF.fin {now : Int} {l L : List L3} {k : Nat} (h : DF now l L k l.length) : L.take k = l.filter (keepP now) := by
 rw [h.head, List.take_length]
theorem idx_first {p : L3 → Bool} {l : List L3} {i : Nat} (h : idxI p l = (i : Int)) : i < l.length ∧ p (l.getD i (0, 0, 0)) = true ∧ ∀ j, j < i → p (l.getD j (0, 0, 0)) = false := by
 unfold idxI at h
 split at h
 ·rename_i hlt
  have e : l.findIdx p = i := by omega
  rw [e] at hlt
  refine ⟨hlt, ?_, fun j hj => ?_⟩
  ·have := List.findIdx_getElem (p := p) (xs := l) (w := by omega)
   rw [List.getD_eq_getElem?_getD, List.getElem?_eq_getElem hlt]
   simp only [e] at this
   exact this
  ·have := List.not_of_lt_findIdx (p := p) (xs := l) (i := j) (by omega)
   rw [List.getD_eq_getElem?_getD, List.getElem?_eq_getElem (by omega)]
   simpa using this
 ·omega
theorem idx_no {p : L3 → Bool} {l : List L3} (h : idxI p l = -1) : ∀ j, j < l.length → p (l.getD j (0, 0, 0)) = false := by
 intro j hj
 unfold idxI at h
 split at h
 ·omega
 ·have := List.not_of_lt_findIdx (p := p) (xs := l) (i := j) (by omega)
  rw [List.getD_eq_getElem?_getD, List.getElem?_eq_getElem hj]
  simpa using this
set_option maxHeartbeats 8000000 in
set_option maxRecDepth 100000 in
theorem dfun_calls (w0 W : World) (hB : Below w0.heap.size w0 W) (v : Value) (l : List L3) (hR : kL3.R 55 W w0.heap.size (fun _ => True) v l) (go : Nat) (now : Int) (hC : Cap W go now) (hlen : l.length ≤ 1024) :
  Calls Try.prog 22 #[v, .func (.func 32) #[] #[.pointer (some ⟨go, 0, none⟩)]] W fun e w' => ∃ v', e = .returned v' ∧ kL3.R 55 w' w0.heap.size (fun _ => True) v' (l.filter (keepP now)) ∧ Below w0.heap.size w0 w' := by
 have hu55 := Try.underlying55
 have hu49 := Try.underlying49
 obtain ⟨A, c, rfl⟩ := Kd.R_slice hR
 have hA : 0 < l.length → ∃ ga, A = some ⟨ga, 0, none⟩ := fun hp => by
  obtain ⟨g, cap, e, _⟩ := Kd.R_form hR hp
  injection e with e _ _
  exact ⟨g, e⟩
 have HB0 := Aside0.mk hB
 have HR0 := Aside0.mk hR
 have HC0 := Aside0.mk hC
 have HI := Aside0.mk (idx32 go now A c l W (Kd.R_reads' hR).2.2 (by omega) hA hC)
 rcases idx_or (isOver now) l with hi | ⟨i, hi, hil⟩
 ·have HN := Aside0.mk (idx_no hi)
  rw [hi] at HI
  clear hi hB hR hC hA
  go_enter Try.func22, Try.ntmps22
  go_wp2_with (go_at_call 29; refine HI.out.mono ?_; rintro e w1 ⟨rfl, hb⟩; have HB1 := Aside0.mk (below_step HB0.out hb); have HR1 := Aside0.mk (Kd.R_below HR0.out hb); clear hb)
  go_ret
  exact ⟨_, rfl, by rw [filter_all fun j hj => by unfold keepP; rw [HN.out j hj]; rfl]; exact HR1.out, HB1.out⟩
 ·obtain ⟨hlt, hp, hbf⟩ := idx_first hi
  obtain ⟨ga, rfl⟩ := hA (by omega)
  have HD := Aside0.mk (DF.start hlt hp hbf)
  have n1 : ((i : Int) == -1) = false := beq_eq_false_iff_ne.2 (by omega)
  rw [hi] at HI
  clear hi hB hR hC hA hp hbf
  go_enter Try.func22, Try.ntmps22
  go_wp2_with (go_at_call 29; refine HI.out.mono ?_; rintro e w1 ⟨rfl, hb⟩; have HB1 := Aside0.mk (below_step HB0.out hb); have HR1 := Aside0.mk (Kd.R_below HR0.out hb); have HC1 := Aside0.mk (HC0.out.below hb); clear hb)
  go_loopw [5, 6, 7] (fun v5 v6 v7 wr => ∃ (k j : Nat) (L : List L3), v5 = .int .i64 k ∧ v6 = .int .i64 j ∧ j ≤ l.length ∧ k < j ∧ Aside0 (DF now l L k j) ∧ Aside0 (kL3.R 55 wr w0.heap.size (fun _ => True) (.slice (some ⟨ga, 0, none⟩) l.length c) L) ∧ Aside0 (Cap wr go now) ∧ Aside0 (Below w0.heap.size w0 wr)) (fun _ v6 _ _ => l.length - (intOf v6).toNat)
  case atStart => exact ⟨i, i + 1, l, rfl, by go_num, by omega, by omega, HD, HR1, HC1, HB1⟩
  case round =>
   obtain ⟨k, j, L, rfl, rfl, hj, hkj, HD2, HR2, HC2, HB2⟩ := hrel
   clear HD HR1 HC1 HB1
   by_cases hjl : j < l.length
   ·have b1 : decide ((j : Int) < (l.length : Int)) = true := decide_eq_true (by omega)
    have b2 : decide (j < l.length) = true := decide_eq_true hjl
    have b3 : decide ((k : Int) < (l.length : Int)) = true := decide_eq_true (by omega)
    have b4 : decide (k < l.length) = true := decide_eq_true (by omega)
    have hll := (Kd.R_reads' HR2.out).2.2
    obtain ⟨h0, h1, h2⟩ := L3_at hll j (by rw [HD2.out.len]; exact hjl)
    rw [HD2.out.get hjl] at h0 h1 h2
    obtain ⟨x, hx⟩ : ∃ x, x = l.getD j (0, 0, 0) := ⟨_, rfl⟩
    rw [← hx] at h0 h1 h2
    have HX := Aside0.mk hx
    clear hx hll
    go_upto_region 8 with ((with_reducible refine gate_dst (N := 7) rfl ?_); refine box_event ?hg (N := 7) ?hd (cs := #[.int .i64 0, .int .i64 0, .int .i64 0]) (t := 55) ?hr ?_; (case hd => rfl); (case hg => rfl); (case hr => first | (go_simp; done) | (go_simp; rfl)); intro gb hg w5 hbox hb; have HX5 := Aside0.mk hbox; have hq0 : w5.cell? ⟨gb, 0, none⟩ = some (.int .i64 0) := (blk_cell hbox 0).trans rfl; have hq1 : w5.cell? ⟨gb, 1, none⟩ = some (.int .i64 0) := (blk_cell hbox 1).trans rfl; have hq2 : w5.cell? ⟨gb, 2, none⟩ = some (.int .i64 0) := (blk_cell hbox 2).trans rfl; have z0 := blk_frozen hbox 0; have z1 := blk_frozen hbox 1; have z2 := blk_frozen hbox 2; have HGE := Aside0.mk (show wr.heap.size ≤ gb from Nat.le_of_eq hg.symm); have HB5 := Aside0.mk hb; clear hg hbox hb)
    obtain ⟨W6, hW6⟩ : ∃ W6, W6 = (((w5.setCell ⟨gb, 0, none⟩ (.int .i64 x.1)).setCell ⟨gb, 1, none⟩ (.int .i64 x.2.1)).setCell ⟨gb, 2, none⟩ (.int .i64 x.2.2)) := ⟨_, rfl⟩
    have HX6 : Aside0 (W6.heap[gb]? = some (.cells #[.int .i64 x.1, .int .i64 x.2.1, .int .i64 x.2.2] 55 (0, 0))) := ⟨by rw [hW6]; exact blk_set (blk_set (blk_set HX5.out 0 _) 1 _) 2 _⟩
    have HB6 : Aside0 (Below wr.heap.size wr W6) := ⟨by rw [hW6]; exact below_set (below_set (below_set HB5.out HGE.out) HGE.out) HGE.out⟩
    have HC6 := Aside0.mk (HC2.out.below HB6.out)
    have HNE : Aside0 (gb ≠ ga) := ⟨by
     obtain ⟨cells, hc⟩ := Kd.R_typed HR2.out ga (by simp [Value.ownBlock])
     have := blk_lt hc
     have := HGE.out
     omega⟩
    rw [← hW6]
    clear hW6 hq0 hq1 hq2 z0 z1 z2 h0 h1 h2
    have y0 : W6.cell? ⟨gb, 0, none⟩ = some (.int .i64 x.1) := (blk_cell HX6.out 0).trans rfl
    have y1 : W6.cell? ⟨gb, 1, none⟩ = some (.int .i64 x.2.1) := (blk_cell HX6.out 1).trans rfl
    have y2 : W6.cell? ⟨gb, 2, none⟩ = some (.int .i64 x.2.2) := (blk_cell HX6.out 2).trans rfl
    by_cases hp : isOver now x = true
    ·have HP := Aside0.mk hp
     clear hp
     go_wp2_with (go_at_call 32; (with_reducible refine (over_cl go now x _ HC6.out).mono ?_); rintro e w7 ⟨rfl, hb⟩; rw [HP.out]; have HC7 := Aside0.mk (HC6.out.below hb); have HR7 := Aside0.mk (Kd.R_below (Kd.R_below HR2.out HB6.out) hb); have HB7 := Aside0.mk (below_step HB2.out (below_step HB6.out hb)); clear hb)
     go_roundw
     case rel => exact ⟨k, j + 1, L, rfl, by go_num, hjl, by omega, ⟨HD2.out.skip hjl (by rw [← HX.out]; exact HP.out)⟩, HR7, HC7, HB7⟩
     case measure => simp [intOf]; omega
    ·have hp' : isOver now x = false := by simpa using hp
     have HP := Aside0.mk hp'
     clear hp hp'
     go_upto_region 9 with (go_at_call 32; (with_reducible refine (over_cl go now x _ HC6.out).mono ?_); rintro e w7 ⟨rfl, hb⟩; rw [HP.out]; have HX7 := Aside0.mk (blk_below HX6.out hb); have HC7 := Aside0.mk (HC6.out.below hb); have HR7 := Aside0.mk (Kd.R_below (Kd.R_below HR2.out HB6.out) hb); have HB7 := Aside0.mk (below_step HB2.out (below_step HB6.out hb)); clear hb)
     have g0 : w7.cell? ⟨gb, 0, none⟩ = some (.int .i64 x.1) := (blk_cell HX7.out 0).trans rfl
     have g1 : w7.cell? ⟨gb, 1, none⟩ = some (.int .i64 x.2.1) := (blk_cell HX7.out 1).trans rfl
     have g2 : w7.cell? ⟨gb, 2, none⟩ = some (.int .i64 x.2.2) := (blk_cell HX7.out 2).trans rfl
     obtain ⟨c0, c1, c2, cf⟩ := L3_cell HR7.out k (by omega)
     have f0 : w7.frozen? ⟨ga, k * 3, none⟩ = false := cf 0
     have f1 : w7.frozen? ⟨ga, k * 3 + 1, none⟩ = false := cf 1
     have f2 : w7.frozen? ⟨ga, k * 3 + 2, none⟩ = false := cf 2
     clear cf y0 y1 y2
     go_upto_region 10 with (fail)
     obtain ⟨hR8, hg8⟩ := L3_put HR7.out k (by omega) x
     have HR8 : Aside0 (kL3.R 55 (((w7.setCell ⟨ga, k * 3, none⟩ (.int .i64 x.1)).setCell ⟨ga, k * 3 + 1, none⟩ (.int .i64 x.2.1)).setCell ⟨ga, k * 3 + 2, none⟩ (.int .i64 x.2.2)) w0.heap.size (fun _ => True) (.slice (some ⟨ga, 0, none⟩) l.length c) (L.set k x) ∧ w7.grownBy (((w7.setCell ⟨ga, k * 3, none⟩ (.int .i64 x.1)).setCell ⟨ga, k * 3 + 1, none⟩ (.int .i64 x.2.1)).setCell ⟨ga, k * 3 + 2, none⟩ (.int .i64 x.2.2)) (some ga)) := ⟨hR8, hg8⟩
     clear hR8 hg8 g0 g1 g2 c0 c1 c2 f0 f1 f2
     generalize (((w7.setCell ⟨ga, k * 3, none⟩ (.int .i64 x.1)).setCell ⟨ga, k * 3 + 1, none⟩ (.int .i64 x.2.1)).setCell ⟨ga, k * 3 + 2, none⟩ (.int .i64 x.2.2)) = W8 at HR8 ⊢
     have HGB := Aside0.mk (Kd.R_base HR7.out ga (by simp [Value.ownBlock]))
     have HC8 : Aside0 (Cap W8 go now) := ⟨blk_grown HC7.out HR8.out.2 (Kd.R_ne HR7.out HC7.out (by decide))⟩
     have HB8 : Aside0 (Below w0.heap.size w0 W8) := ⟨pw_below_grown HB7.out (some ga) HB7.out.size HR8.out.2 (fun q hq => by injection hq with hq; rw [← hq]; exact HGB.out)⟩
     go_wp2
     go_roundw
     case rel => exact ⟨k + 1, j + 1, L.set k x, by go_num, by go_num, hjl, by omega, ⟨by rw [HX.out]; exact HD2.out.keep hjl (by rw [← HX.out]; exact HP.out)⟩, ⟨HR8.out.1⟩, HC8, HB8⟩
     case measure => simp [intOf]; omega
   ·obtain rfl : j = l.length := by omega
    obtain ⟨hn, hnc, _⟩ := Kd.R_reads' HR2.out
    obtain ⟨wz, hrun, hRz, hgz⟩ := R_clear_run kL3 w0.heap.size 49 0 55 (.agg #[.int .i64 0, .int .i64 0, .int .i64 0]) Try.underlying49 (fun w => by rfl) rfl (by intro v hv; simp [Value.cells] at hv; rw [hv]; rfl) (n := k) (m := l.length - k) (o := k * 3) (Kd.R_take HR2.out (m := k) (by omega)) rfl (by omega) (by omega) (c - k)
    have HRZ := Aside0.mk hRz
    have HGZ := Aside0.mk hgz
    have HRUN := Aside0.mk hrun
    clear hRz hgz hn
    have HGB := Aside0.mk (Kd.R_base HR2.out ga (by simp [Value.ownBlock]))
    have HBZ : Aside0 (Below w0.heap.size w0 wz) := ⟨pw_below_grown HB2.out (some ga) HB2.out.size HGZ.out (fun q hq => by injection hq with hq; rw [← hq]; exact HGB.out)⟩
    go_wp2
    go_ret
    exact ⟨_, rfl, by rw [← HD2.out.fin]; exact HRZ.out, HBZ.out⟩
end Go.Proofs.Ytbgilmdmebmcnaa.Al

/- leases.Take by its contract. -/
namespace Go.Proofs.Ytbgilmdmebmcnaa.Al
open Go.RowKit Go.Proofs.Ytbgilmdmebmcnaa.LeaseSpec Go.Proofs.Ytbgilmdmebmcnaa.RowClear Go.Proofs.YtbgilmdmebmcnaaW.PrintWords Go.Proofs.YtbgilmdmebmcnaaW.PrintLast Go.Proofs.YtbgilmdmebmcnaaW.PrintMore
set_option linter.unusedVariables false
set_option linter.unusedSimpArgs false
theorem set_grown (W : World) (g j : Nat) (u : Value) : W.grownBy (W.setCell ⟨g, j, none⟩ u) (some g) := ⟨rfl, rfl, rfl, by simp [World.setCell], fun k _ hk => Below.heap_setCell W ⟨g, j, none⟩ u k (fun e => hk (by rw [e]))⟩
theorem left_keep (now : Int) (l : List L3) : l.filter (keepP now) = left now l := by
 unfold left
 congr 1
 funext x
 unfold keepP isOver stays
 by_cases h : x.2.2 < now
 ·rw [decide_eq_true h, decide_eq_false (by omega)]; rfl
 ·rw [decide_eq_false h, decide_eq_true (by omega)]; rfl
theorem clone_calls (w0 W : World) (hB : Below w0.heap.size w0 W) (A : Option Addr) (c : Nat) (l : List L3) (base : Nat) (hR : kL3.R 55 W base (fun _ => True) (.slice A l.length c) l) (hlen : l.length ≤ 1024) : Calls Try.prog 23 #[.slice A l.length c] W fun e w' => ∃ v, e = .returned v ∧ kL3.R 55 w' W.heap.size (fun _ => True) v l ∧ Below W.heap.size W w' := by
 obtain ⟨_, hc, hC⟩ := Kd.R_reads' hR
 exact lease_clone.calls A c l l W hC hc (by unfold lease_clone.f; rw [if_pos (by omega)])
def rg9_7_T : Bool × List (List Nat × List Nat) := (true, [([], []), ([], []), ([], []), ([2], [2]), ([3], [3]), ([4], [4]), ([], []), ([], []), ([], []), ([8], [8]), ([9], [9]), ([10], [10]), ([7, 11], [7, 11]), ([5, 6, 12], [5, 6, 12]), ([13], [13]), ([1, 14], [1, 14]), ([0, 0, 1, 2, 3, 4, 5, 6, 7, 8, 9, 10, 11, 12, 13, 14, 15], [0]), ([16, 0, 1, 2, 3, 4, 5, 6, 7, 8, 9, 10, 11, 12, 13, 14, 15], [16]), ([17, 15, 15, 0, 1, 2, 3, 4, 5, 6, 7, 8, 9, 10, 11, 12, 13, 14, 15], [15, 17])])
def rg9_7_B : List Nat := [0, 0, 0, 4, 12, 28, 0, 0, 0, 256, 768, 1792, 3968, 8188, 16380, 32766, 65535, 131071, 262143]
theorem rg9_7_tab : rtab .any (opsOf Try.f9 7) = rg9_7_T := by kernel_rfl
theorem rg9_7_bits : waitsOk rg9_7_T.2 rg9_7_B = true := by kernel_rfl
set_option maxHeartbeats 8000000 in
set_option maxRecDepth 100000 in
theorem take_calls (w0 W : World) (gT : Nat) (t : Tb) (v : Value) (hT : TS 55 51 w0 W gT t v) (hlen : t.l.length ≤ 1024) (hl : 0 ≤ t.long ∧ t.long ≤ 1048576) (hm : 0 ≤ t.many ∧ t.many < 9223372036854775806) (now ts : Int) :
  Calls Try.prog 9 #[.pointer (some ⟨gT, 0, none⟩), .int .i64 now, .int .i64 ts] W fun e w' => ∃ v', e = .returned (.tuple #[.int .i64 (LeaseSpec.takeT t now ts).2.1, .int .i64 (LeaseSpec.takeT t now ts).2.2]) ∧ TS 55 51 w0 w' gT (LeaseSpec.takeT t now ts).1 v' ∧ KeepBut W w' gT none := by
 have hu51 := Try.underlying51
 have hu55 := Try.underlying55
 have HT0 := Aside0.mk hT
 obtain ⟨A, c, rfl⟩ := Kd.R_slice hT.row
 clear hT
 by_cases h1 : tickOk now = true
 ·have H1 := Aside0.mk h1
  by_cases h2 : stampOk ts = true
  ·have H2 := Aside0.mk h2
   have HLE := Aside0.mk (Nat.le_trans (left_len now t.l) hlen)
   by_cases h3 : (left now t.l).length < 1024
   ·have HR : Aside0 (LeaseSpec.takeT t now ts = (⟨t.long, t.many + 1, left now t.l ++ [(t.many + 1, ts, now + t.long)]⟩, t.many + 1, 0)) := ⟨by simp [LeaseSpec.takeT, h1, h2, h3]⟩
    rw [HR.out]
    have htk := (tickOk_iff now).1 h1
    have hw : wrap64 (now + t.long) = now + t.long := by unfold wrap64; omega
    have hw2 : IntKind.i64.wrap (now + t.long) = now + t.long := by rw [IntKind.wrap_i64]; omega
    have hw3 : IntKind.i64.wrap (t.many + 1) = t.many + 1 := by rw [IntKind.wrap_i64]; omega
    have d3 : decide ((1024 : Int) ≤ ((left now t.l).length : Int)) = false := decide_eq_false (by omega)
    have d4 : decide (1024 ≤ (left now t.l).length) = false := decide_eq_false (by omega)
    clear h1 h2
    obtain ⟨ll, hll⟩ : ∃ ll, ll = left now t.l := ⟨_, rfl⟩
    have HLL := Aside0.mk hll
    rw [← hll] at d3 d4 h3 ⊢
    clear hll
    go_enter Try.func9, Try.ntmps9
    go_upto_region 6 with (first | (go_at_call 21; (with_reducible refine (tick_calls now _).mono ?_); rintro e w1 ⟨rfl, hb⟩; rw [H1.out]; have HT1 := Aside0.mk (HT0.out.below hb); have HB1 := Aside0.mk hb; clear hb) | (go_at_call 21; (with_reducible refine (stamp_calls ts _).mono ?_); rintro e w2 ⟨rfl, hb⟩; rw [H2.out]; have HT2 := Aside0.mk (HT1.out.below hb); have HB2 := Aside0.mk (below_step HB1.out hb); have f2 : w2.cell? ⟨gT, 2, none⟩ = some (.slice A t.l.length c) := (blk_cell HT2.out.blk 2).trans rfl; clear hb) | (go_at_call 23; refine (clone_calls w2 w2 (Below.refl _ _) A c t.l _ HT2.out.row hlen).mono ?_; rintro e w3 ⟨vc, rfl, hR, hb⟩; have HRC := Aside0.mk hR; have HB3 := Aside0.mk hb; clear f2 hR hb) | (go_at_call 24; refine (over_calls now _).mono ?_; rintro e w4 ⟨go, rfl, hge, hcp, hb⟩; have HC4 := Aside0.mk hcp; have HR4 := Aside0.mk (Kd.R_below HRC.out hb); have HB4 := Aside0.mk (below_step HB3.out hb); clear hge hcp hb) | (go_at_call 22; refine (dfun_calls w2 _ HB4.out vc t.l HR4.out go now HC4.out hlen).mono ?_; rintro e w5 ⟨vd, rfl, hR, hb⟩; rw [left_keep, ← HLL.out] at hR; obtain ⟨Ad, cd, rfl⟩ := Kd.R_slice hR; have HR5 := Aside0.mk hR; have HB5 := Aside0.mk hb; have HT5 := Aside0.mk (HT2.out.below hb); have g1 : w5.cell? ⟨gT, 1, none⟩ = some (.int .i64 t.many) := (blk_cell HT5.out.blk 1).trans rfl; have z1 := blk_frozen HT5.out.blk 1; clear hR hb))
    go_upto_region 7 with (fail)
    have HNE : Aside0 (some gT ≠ (Value.slice Ad ll.length cd).ownBlock) := ⟨fun he => by
     rcases Kd.R_base2 HR5.out with h | ⟨k, hk, hge⟩
     ·rw [h] at he; cases he
     ·rw [hk] at he
      injection he with he
      have := blk_lt HT2.out.blk
      omega⟩
    have HX6 := Aside0.mk (blk_set HT5.out.blk 1 (.int .i64 (t.many + 1)))
    have HG6 := Aside0.mk (set_grown w5 gT 1 (.int .i64 (t.many + 1)))
    have HR6 := Aside0.mk (Kd.R_grown1 HR5.out rfl HG6.out HNE.out)
    clear g1 z1
    generalize w5.setCell ⟨gT, 1, none⟩ (.int .i64 (t.many + 1)) = W6 at HX6 HG6 HR6 ⊢
    have HX6' : Aside0 (W6.heap[gT]? = some (.cells #[.int .i64 t.long, .int .i64 (t.many + 1), .slice A t.l.length c] 51 (0, 0))) := ⟨HX6.out⟩
    have hbk : W6.drew.heap[gT]? = some (.cells #[.int .i64 t.long, .int .i64 (t.many + 1), .slice A t.l.length c] 51 (0, 0)) := HX6'.out
    have HSZ : Aside0 (w2.heap.size ≤ W6.heap.size) := ⟨Nat.le_trans HB5.out.size HG6.out.size⟩
    have hRd := Kd.R_below HR6.out (below_drew (Below.refl _ W6))
    go_wp2
    refine start_ (n := 19) (S := fun w' => w'.heap[gT]? = some (.cells #[.int .i64 t.long, .int .i64 (t.many + 1), .slice A t.l.length c] 51 (0, 0))) (ds := [18]) #[false, false, false, false, false, false, false, false, false, false, false, false, false, false, false, false, false, false, false] (by kernel_rfl) rfl rfl hbk (fun hHeld => ?_)
    refine with_tabW rg9_7_tab rg9_7_bits (fun HT_ HW_ => ?_)
    obtain ⟨W7, hW7⟩ : ∃ W1, W1 = W6.drew := ⟨_, rfl⟩
    have HB7 := Aside0.mk (show Below W6.heap.size W6 W7 from by rw [hW7]; exact below_drew (Below.refl _ _))
    rw [← hW7] at hHeld hRd ⊢
    have HR7 := Aside0.mk hRd
    have HX7 := Aside0.mk hHeld
    clear hW7 hRd hbk
    refine pure_ (i := 0) (N := some 35) (v := ?_) (a' := ?_) #[true, false, false, false, false, false, false, false, false, false, false, false, false, false, false, false, false, false, false] rfl rfl (any_of HT_.out (by kernel_rfl)) (fun _ _ _ h => h) (Or.inl ⟨by rfl, ?_⟩) ?_ ?_
    rotate_left
    ·intro w'
     go_simp
     with_reducible rfl
    rotate_left
    ·simp only [Act.put, List.setIfInBounds_toArray, List.set_cons_zero, List.set_cons_succ, i64_w, i32_w]
     rfl
    refine pure_ (i := 1) (N := some 36) (v := ?_) (a' := ?_) #[true, true, false, false, false, false, false, false, false, false, false, false, false, false, false, false, false, false, false] rfl rfl (any_of HT_.out (by kernel_rfl)) (fun _ _ _ h => h) (Or.inl ⟨by rfl, ?_⟩) ?_ ?_
    rotate_left
    ·intro w'
     go_simp
     with_reducible rfl
    rotate_left
    ·simp only [Act.put, List.setIfInBounds_toArray, List.set_cons_zero, List.set_cons_succ, i64_w, i32_w]
     rfl
    refine pure_ (i := 2) (N := some 37) (v := ?_) (a' := ?_) #[true, true, true, false, false, false, false, false, false, false, false, false, false, false, false, false, false, false, false] rfl rfl (any_of HT_.out (by kernel_rfl)) (fun _ _ _ h => h) (Or.inl ⟨by rfl, ?_⟩) ?_ ?_
    rotate_left
    ·intro w'
     go_simp
     with_reducible rfl
    rotate_left
    ·simp only [Act.put, List.setIfInBounds_toArray, List.set_cons_zero, List.set_cons_succ, i64_w, i32_w]
     rfl
    refine pure_ (i := 3) (N := some 38) (v := ?_) (a' := ?_) #[true, true, true, true, false, false, false, false, false, false, false, false, false, false, false, false, false, false, false] rfl rfl (any_of HT_.out (by kernel_rfl)) (fun _ _ _ h => h) (Or.inl ⟨by rfl, ?_⟩) ?_ ?_
    rotate_left
    ·intro w'
     go_simp
     with_reducible rfl
    rotate_left
    ·simp only [Act.put, List.setIfInBounds_toArray, List.set_cons_zero, List.set_cons_succ, i64_w, i32_w]
     rfl
    refine pure_ (i := 4) (N := some 39) (v := ?_) (a' := ?_) #[true, true, true, true, true, false, false, false, false, false, false, false, false, false, false, false, false, false, false] rfl rfl (any_of HT_.out (by kernel_rfl)) (fun _ _ _ h => h) (Or.inl ⟨by rfl, ?_⟩) ?_ ?_
    rotate_left
    ·intro w'
     go_simp
     with_reducible rfl
    rotate_left
    ·simp only [Act.put, List.setIfInBounds_toArray, List.set_cons_zero, List.set_cons_succ, i64_w, i32_w]
     rfl
    refine take_ (i := 5) (N := some 40) (v := ?_) (a' := ?_) #[true, true, true, true, true, true, false, false, false, false, false, false, false, false, false, false, false, false, false] rfl rfl (take_ofW HT_.out HW_.out (by kernel_rfl)) (fun _ _ _ h => h) (Or.inl ⟨by rfl, ?_⟩) hHeld ?_ ?_
    rotate_left
    ·rintro w' s0
     have y1 : w'.cell? ⟨gT, 1, none⟩ = some (.int .i64 (t.many + 1)) := (blk_cell s0 1).trans rfl
     go_simp
     with_reducible rfl
    rotate_left
    ·simp only [Act.put, List.setIfInBounds_toArray, List.set_cons_zero, List.set_cons_succ, i64_w, i32_w]
     rfl
    refine pure_ (i := 6) (N := some 41) (v := ?_) (a' := ?_) #[true, true, true, true, true, true, true, false, false, false, false, false, false, false, false, false, false, false, false] rfl rfl (any_of HT_.out (by kernel_rfl)) (fun _ _ _ h => h) (Or.inl ⟨by rfl, ?_⟩) ?_ ?_
    rotate_left
    ·intro w'
     go_simp
     with_reducible rfl
    rotate_left
    ·simp only [Act.put, List.setIfInBounds_toArray, List.set_cons_zero, List.set_cons_succ, i64_w, i32_w]
     rfl
    refine pure_ (i := 7) (N := some 42) (v := ?_) (a' := ?_) #[true, true, true, true, true, true, true, true, false, false, false, false, false, false, false, false, false, false, false] rfl rfl (any_of HT_.out (by kernel_rfl)) (fun _ _ _ h => h) (Or.inl ⟨by rfl, ?_⟩) ?_ ?_
    rotate_left
    ·intro w'
     go_simp
     with_reducible rfl
    rotate_left
    ·simp only [Act.put, List.setIfInBounds_toArray, List.set_cons_zero, List.set_cons_succ, i64_w, i32_w]
     rfl
    refine pure_ (i := 8) (N := some 43) (v := ?_) (a' := ?_) #[true, true, true, true, true, true, true, true, true, false, false, false, false, false, false, false, false, false, false] rfl rfl (any_of HT_.out (by kernel_rfl)) (fun _ _ _ h => h) (Or.inl ⟨by rfl, ?_⟩) ?_ ?_
    rotate_left
    ·intro w'
     go_simp
     with_reducible rfl
    rotate_left
    ·simp only [Act.put, List.setIfInBounds_toArray, List.set_cons_zero, List.set_cons_succ, i64_w, i32_w]
     rfl
    refine pure_ (i := 9) (N := some 44) (v := ?_) (a' := ?_) #[true, true, true, true, true, true, true, true, true, true, false, false, false, false, false, false, false, false, false] rfl rfl (any_of HT_.out (by kernel_rfl)) (fun _ _ _ h => h) (Or.inl ⟨by rfl, ?_⟩) ?_ ?_
    rotate_left
    ·intro w'
     go_simp
     with_reducible rfl
    rotate_left
    ·simp only [Act.put, List.setIfInBounds_toArray, List.set_cons_zero, List.set_cons_succ, i64_w, i32_w]
     rfl
    refine pure_ (i := 10) (N := some 45) (v := ?_) (a' := ?_) #[true, true, true, true, true, true, true, true, true, true, true, false, false, false, false, false, false, false, false] rfl rfl (any_of HT_.out (by kernel_rfl)) (fun _ _ _ h => h) (Or.inl ⟨by rfl, ?_⟩) ?_ ?_
    rotate_left
    ·intro w'
     go_simp
     with_reducible rfl
    rotate_left
    ·simp only [Act.put, List.setIfInBounds_toArray, List.set_cons_zero, List.set_cons_succ, i64_w, i32_w]
     rfl
    refine take_ (i := 11) (N := some 46) (v := ?_) (a' := ?_) #[true, true, true, true, true, true, true, true, true, true, true, true, false, false, false, false, false, false, false] rfl rfl (take_ofW HT_.out HW_.out (by kernel_rfl)) (fun _ _ _ h => h) (Or.inl ⟨by rfl, ?_⟩) hHeld ?_ ?_
    rotate_left
    ·rintro w' s0
     have y0 : w'.cell? ⟨gT, 0, none⟩ = some (.int .i64 t.long) := (blk_cell s0 0).trans rfl
     go_simp
     with_reducible rfl
    rotate_left
    ·simp only [Act.put, List.setIfInBounds_toArray, List.set_cons_zero, List.set_cons_succ, i64_w, i32_w]
     rfl
    refine pure_ (i := 12) (N := some 47) (v := ?_) (a' := ?_) #[true, true, true, true, true, true, true, true, true, true, true, true, true, false, false, false, false, false, false] rfl rfl (any_of HT_.out (by kernel_rfl)) (fun _ _ _ h => h) (Or.inl ⟨by rfl, ?_⟩) ?_ ?_
    rotate_left
    ·intro w'
     go_simp
     with_reducible rfl
    rotate_left
    ·simp only [Act.put, List.setIfInBounds_toArray, List.set_cons_zero, List.set_cons_succ, i64_w, i32_w]
     rfl
    refine pure_ (i := 13) (N := some 48) (v := ?_) (a' := ?_) #[true, true, true, true, true, true, true, true, true, true, true, true, true, true, false, false, false, false, false] rfl rfl (any_of HT_.out (by kernel_rfl)) (fun _ _ _ h => h) (Or.inl ⟨by rfl, ?_⟩) ?_ ?_
    rotate_left
    ·intro w'
     go_simp
     with_reducible rfl
    rotate_left
    ·simp only [Act.put, List.setIfInBounds_toArray, List.set_cons_zero, List.set_cons_succ, i64_w, i32_w]
     rfl
    refine one_ (i := 14) (N := some 49) #[true, true, true, true, true, true, true, true, true, true, true, true, true, true, true, false, false, false, false] rfl rfl (one_of HT_.out (by kernel_rfl)) (by decide) (fun K hK => ?_)
    (refine value_ (w1 := ?_) (v := ?_) (by rfl) rfl ?_ ?_; rotate_left 2; · (go_simp; constructor; rfl; rfl))
    refine hK.out _ _ (blk_alloc HX7.out _) (fun hHeld => ?_)
    clear hK K
    try simp only [Act.put, List.setIfInBounds_toArray, List.set_cons_zero, List.set_cons_succ, i64_w, i32_w]
    refine one_ (i := 15) (N := some 50) #[true, true, true, true, true, true, true, true, true, true, true, true, true, true, true, true, false, false, false] rfl rfl (one_of HT_.out (by kernel_rfl)) (by decide) (fun K hK => ?_)
    (refine Kd.R_append_step kL3 (w0 := W7) w2.heap.size (by rfl) (.tmp 36) (.tmp 49) 49 55 (.agg #[(.int .i64 0), (.int .i64 0), (.int .i64 0)]) 24 rfl Try.underlying49 info55 rfl (Nat.succ_pos 2) (by omega) (.slice Ad ll.length cd) ll (t.many + 1, ts, now + t.long) [.int .i64 (t.many + 1), .int .i64 ts, .int .i64 (now + t.long)] (fun _ => True) (fun _ => False) rfl rfl ?aP (fun _ hk => hk.elim) (fun _ _ => trivial) HR7.out (Below.refl _ _) (Nat.le_trans HSZ.out HB7.out.size) (by omega) ?_; (case aP => exact L3_M _ _ _ _); intro v8 w8 ho hb hg hat; have HR8 := Aside0.mk ho; have HB8 := Aside0.mk hb; have hx8 := (hb.block gT (blk_lt HT2.out.blk)).trans HX7.out; have HX8 := Aside0.mk hx8; obtain ⟨A8, c8, hv8⟩ := Kd.R_slice ho; obtain ⟨n8, hn8⟩ : ∃ n : Nat, n = (ll ++ [(t.many + 1, ts, now + t.long)]).length := ⟨_, rfl⟩; rw [← hn8] at hv8; have HN8 := Aside0.mk hn8; subst hv8; clear hn8 ho hb hg hat)
    refine hK.out _ _ hx8 (fun hHeld => ?_)
    clear hK K
    refine norm_ (a' := ?_) ?_ ?_
    rotate_left
    ·show Act.put _ (some 50) _ = _
     simp only [Act.put, List.setIfInBounds_toArray, List.set_cons_zero, List.set_cons_succ, i64_w, i32_w]
     rfl
    refine pure_ (i := 16) (N := some 51) (v := ?_) (a' := ?_) #[true, true, true, true, true, true, true, true, true, true, true, true, true, true, true, true, true, false, false] rfl rfl (any_of HT_.out (by kernel_rfl)) (fun _ _ _ h => h) (Or.inl ⟨by rfl, ?_⟩) ?_ ?_
    rotate_left
    ·intro w'
     go_simp
     with_reducible rfl
    rotate_left
    ·simp only [Act.put, List.setIfInBounds_toArray, List.set_cons_zero, List.set_cons_succ, i64_w, i32_w]
     rfl
    refine pure_ (i := 17) (N := some 52) (v := ?_) (a' := ?_) #[true, true, true, true, true, true, true, true, true, true, true, true, true, true, true, true, true, true, false] rfl rfl (any_of HT_.out (by kernel_rfl)) (fun _ _ _ h => h) (Or.inl ⟨by rfl, ?_⟩) ?_ ?_
    rotate_left
    ·intro w'
     go_simp
     with_reducible rfl
    rotate_left
    ·simp only [Act.put, List.setIfInBounds_toArray, List.set_cons_zero, List.set_cons_succ, i64_w, i32_w]
     rfl
    have y2 : w8.cell? ⟨gT, 2, none⟩ = some (.slice A t.l.length c) := (blk_cell HX8.out 2).trans rfl
    have z2 := blk_frozen HX8.out 2
    refine last_ (i := 18) (N := none) #[true, true, true, true, true, true, true, true, true, true, true, true, true, true, true, true, true, true, true] rfl rfl (one_of HT_.out (by kernel_rfl)) (by decide) (fun K hK => ?_)
    (refine skip_ (w1 := ?_) (by rfl) rfl ?_ ?_; rotate_left; · (go_simp; rfl))
    refine hK.out _ _ ?_
    clear hK K
    try simp only [Act.put, List.setIfInBounds_toArray, List.set_cons_zero, List.set_cons_succ, i64_w, i32_w]
    refine done_ (done_of HT_.out (by kernel_rfl)) ?_
    have HT9 : Aside0 (TS 55 51 w0 (w8.setCell ⟨gT, 2, none⟩ (.slice A8 n8 c8)) gT ⟨t.long, t.many + 1, ll ++ [(t.many + 1, ts, now + t.long)]⟩ (.slice A8 n8 c8) ∧ KeepBut W (w8.setCell ⟨gT, 2, none⟩ (.slice A8 n8 c8)) gT none) := ⟨by
     have hg9 := set_grown w8 gT 2 (.slice A8 n8 c8)
     have hne : some gT ≠ (Value.slice A8 n8 c8).ownBlock := fun he => by
      rcases Kd.R_base2 HR8.out with h | ⟨k, hk, hge⟩
      ·rw [h] at he; cases he
      ·rw [hk] at he
       injection he with he
       have := blk_lt HT2.out.blk
       omega
     have hB6 : Below w0.heap.size w0 W6 := pw_below_grown HT5.out.bel (some gT) HT5.out.bel.size HG6.out (fun q hq => by injection hq with hq; rw [← hq]; exact HT5.out.ge)
     have hB8 : Below w0.heap.size w0 w8 := below_weaken (below_step hB6 HB7.out) HT2.out.bel.size HB8.out
     refine ⟨⟨blk_set HX8.out 2 _, HT0.out.ge, Kd.R_grown1 (Kd.R_lower HR8.out HT2.out.bel.size) rfl hg9 hne, below_set hB8 HT0.out.ge⟩, ?_⟩
     have hs := HB2.out.size
     refine ⟨by have := HSZ.out; have := HB7.out.size; have := HB8.out.size; have := hg9.size; omega, fun k hk hkg _ => ?_⟩
     have e1 := HB2.out.block k hk
     have e2 := HB5.out.block k (by omega)
     have e3 := HG6.out.block k (by have := HB5.out.size; omega) (fun e => hkg (Option.some.inj e))
     have e4 := HB7.out.block k (by have := HSZ.out; omega)
     have e5 := HB8.out.block k (by omega)
     have e6 := hg9.block k (by have := HSZ.out; have := HB7.out.size; have := HB8.out.size; omega) (fun e => hkg (Option.some.inj e))
     rw [e6, e5, e4, e3, e2, e1]⟩
    clear hHeld y2 z2 hx8
    generalize w8.setCell ⟨gT, 2, none⟩ (.slice A8 n8 c8) = W9 at HT9 ⊢
    have y1 : W9.cell? ⟨gT, 1, none⟩ = some (.int .i64 (t.many + 1)) := (blk_cell HT9.out.1.blk 1).trans rfl
    go_wp2
    exact bodyPost_ret (v := .tuple #[.int .i64 (t.many + 1), .int .i64 0]) (by simp [results, Try.results9, go_sem]) rfl ⟨_, rfl, HT9.out.1, HT9.out.2⟩
   ·have HR : Aside0 (LeaseSpec.takeT t now ts = (t, 0, 2)) := ⟨by simp [LeaseSpec.takeT, h1, h2, h3]⟩
    rw [HR.out]
    have d3 : decide ((1024 : Int) ≤ ((left now t.l).length : Int)) = true := decide_eq_true (by omega)
    have d4 : decide (1024 ≤ (left now t.l).length) = true := decide_eq_true (by omega)
    clear h1 h2
    obtain ⟨ll, hll⟩ : ∃ ll, ll = left now t.l := ⟨_, rfl⟩
    have HLL := Aside0.mk hll
    rw [← hll] at d3 d4 h3
    have h4 : 1024 ≤ ll.length := by omega
    clear hll h3
    go_enter Try.func9, Try.ntmps9
    go_wp2_with (first | (go_at_call 21; (with_reducible refine (tick_calls now _).mono ?_); rintro e w1 ⟨rfl, hb⟩; rw [H1.out]; have HT1 := Aside0.mk (HT0.out.below hb); have HB1 := Aside0.mk hb; clear hb) | (go_at_call 21; (with_reducible refine (stamp_calls ts _).mono ?_); rintro e w2 ⟨rfl, hb⟩; rw [H2.out]; have HT2 := Aside0.mk (HT1.out.below hb); have HB2 := Aside0.mk (below_step HB1.out hb); have f2 : w2.cell? ⟨gT, 2, none⟩ = some (.slice A t.l.length c) := (blk_cell HT2.out.blk 2).trans rfl; clear hb) | (go_at_call 23; refine (clone_calls w2 w2 (Below.refl _ _) A c t.l _ HT2.out.row hlen).mono ?_; rintro e w3 ⟨vc, rfl, hR, hb⟩; have HRC := Aside0.mk hR; have HB3 := Aside0.mk hb; clear f2 hR hb) | (go_at_call 24; refine (over_calls now _).mono ?_; rintro e w4 ⟨go, rfl, hge, hcp, hb⟩; have HC4 := Aside0.mk hcp; have HR4 := Aside0.mk (Kd.R_below HRC.out hb); have HB4 := Aside0.mk (below_step HB3.out hb); clear hge hcp hb) | (go_at_call 22; refine (dfun_calls w2 _ HB4.out vc t.l HR4.out go now HC4.out hlen).mono ?_; rintro e w5 ⟨vd, rfl, hR, hb⟩; rw [left_keep, ← HLL.out] at hR; obtain ⟨Ad, cd, rfl⟩ := Kd.R_slice hR; have HR5 := Aside0.mk hR; have HB5 := Aside0.mk hb; have HT5 := Aside0.mk (HT2.out.below hb); have g1 : w5.cell? ⟨gT, 1, none⟩ = some (.int .i64 t.many) := (blk_cell HT5.out.blk 1).trans rfl; have z1 := blk_frozen HT5.out.blk 1; clear hR hb))
    exact bodyPost_ret (v := .tuple #[.int .i64 0, .int .i64 2]) (by simp [results, Try.results9, go_sem]) rfl ⟨_, rfl, HT5.out, KeepBut.of_below (below_step HB2.out (below_weaken (Below.refl _ _) (Nat.le_refl _) HB5.out)) gT none⟩
  ·have H2 : Aside0 (stampOk ts = false) := ⟨by simpa using h2⟩
   have HR : Aside0 (LeaseSpec.takeT t now ts = (t, 0, 1)) := ⟨by simp [LeaseSpec.takeT, h1, H2.out]⟩
   rw [HR.out]
   clear h1 h2
   go_enter Try.func9, Try.ntmps9
   go_wp2_with (first | (go_at_call 21; (with_reducible refine (tick_calls now _).mono ?_); rintro e w1 ⟨rfl, hb⟩; rw [H1.out]; have HT1 := Aside0.mk (HT0.out.below hb); have HB1 := Aside0.mk hb; clear hb) | (go_at_call 21; (with_reducible refine (stamp_calls ts _).mono ?_); rintro e w2 ⟨rfl, hb⟩; rw [H2.out]; have HT2 := Aside0.mk (HT1.out.below hb); have HB2 := Aside0.mk (below_step HB1.out hb); have f2 : w2.cell? ⟨gT, 2, none⟩ = some (.slice A t.l.length c) := (blk_cell HT2.out.blk 2).trans rfl; clear hb))
   exact bodyPost_ret (v := .tuple #[.int .i64 0, .int .i64 1]) (by simp [results, Try.results9, go_sem]) rfl ⟨_, rfl, HT2.out, KeepBut.of_below HB2.out gT none⟩
 ·have H1 : Aside0 (tickOk now = false) := ⟨by simpa using h1⟩
  have HR : Aside0 (LeaseSpec.takeT t now ts = (t, 0, 1)) := ⟨by simp [LeaseSpec.takeT, H1.out]⟩
  rw [HR.out]
  clear h1
  go_enter Try.func9, Try.ntmps9
  go_wp2_with ((go_at_call 21; (with_reducible refine (tick_calls now _).mono ?_); rintro e w1 ⟨rfl, hb⟩; rw [H1.out]; have HT1 := Aside0.mk (HT0.out.below hb); have HB1 := Aside0.mk hb; clear hb))
  exact bodyPost_ret (v := .tuple #[.int .i64 0, .int .i64 1]) (by simp [results, Try.results9, go_sem]) rfl ⟨_, rfl, HT1.out, KeepBut.of_below HB1.out gT none⟩
end Go.Proofs.Ytbgilmdmebmcnaa.Al

/- slices.Delete of one lease, and leases.End, by their contracts. -/
namespace Go.Proofs.Ytbgilmdmebmcnaa.Al
open Go.RowKit Go.Proofs.Ytbgilmdmebmcnaa.LeaseSpec Go.Proofs.Ytbgilmdmebmcnaa.RowClear Go.Proofs.YtbgilmdmebmcnaaW.PrintWords Go.Proofs.YtbgilmdmebmcnaaW.PrintLast Go.Proofs.YtbgilmdmebmcnaaW.PrintMore
set_option linter.unusedVariables false
set_option linter.unusedSimpArgs false
theorem size55 : (Try.prog.info? 55).map (·.size) = some kL3.sz := by kernel_rfl
theorem cut_at (ga c i : Nat) : (if c = i + 1 then some (⟨ga, 0, none⟩ : Addr) else some ⟨ga, (i + 1) * 3, none⟩) = if c = i + 1 then some ⟨ga, 0, none⟩ else (some (⟨ga, 0, none⟩ : Addr)).map (·.add ((i + 1) * kL3.sz)) := by
 split
 ·rfl
 ·show some _ = some ((⟨ga, 0, none⟩ : Addr).add ((i + 1) * 3))
  simp [Addr.add, eq_comm]
def rg31_5_T : Bool × List (List Nat × List Nat) := (true, [([], []), ([], []), ([0, 1], [0, 1]), ([], []), ([], []), ([3, 4], [3, 4]), ([2, 5], [2, 5]), ([6, 6, 0, 1, 2, 3, 4, 5, 6], [0, 3, 6])])
def rg31_5_B : List Nat := [0, 0, 3, 0, 0, 24, 63, 127]
theorem rg31_5_tab : rtab .any (opsOf Try.f31 5) = rg31_5_T := by kernel_rfl
theorem rg31_5_bits : waitsOk rg31_5_T.2 rg31_5_B = true := by kernel_rfl
set_option maxHeartbeats 8000000 in
set_option maxRecDepth 100000 in
theorem delete_calls (w0 W : World) (hB : Below w0.heap.size w0 W) (ga c i : Nat) (l : List L3) (hR : kL3.R 55 W w0.heap.size (fun _ => True) (.slice (some ⟨ga, 0, none⟩) l.length c) l) (hi : i < l.length) (hlen : l.length ≤ 1024) :
  Calls Try.prog 31 #[.slice (some ⟨ga, 0, none⟩) l.length c, .int .i64 i, .int .i64 ((i : Int) + 1)] W fun e w' => e = .returned (.slice (some ⟨ga, 0, none⟩) (l.length - 1) c) ∧ kL3.R 55 w' w0.heap.size (fun _ => True) (.slice (some ⟨ga, 0, none⟩) (l.length - 1) c) (l.eraseIdx i) ∧ W.grownBy w' (some ga) := by
 have hu55 := Try.underlying55
 have hu49 := Try.underlying49
 obtain ⟨_, hc, _⟩ := Kd.R_reads' hR
 have HB0 := Aside0.mk hB
 have HR0 := Aside0.mk hR
 obtain ⟨n, hn⟩ : ∃ n, n = l.length := ⟨_, rfl⟩
 have HN := Aside0.mk hn
 rw [← hn] at hc hi hlen HR0 ⊢
 have n1 : ((i : Int) == (i : Int) + 1) = false := beq_eq_false_iff_ne.2 (by omega)
 have p1 : (i ≤ c) = True := eq_true (by omega)
 have p2 : (0 ≤ (i : Int) + 1) = True := eq_true (by omega)
 have p3 : ((i : Int) + 1 ≤ (n : Int)) = True := eq_true (by omega)
 clear hB hR hn
 go_enter Try.func31, Try.ntmps31
 go_upto_region 5 with (fail)
 refine start_ (n := 8) (S := fun _ => True) (ds := []) #[false, false, false, false, false, false, false, false] (by kernel_rfl) rfl rfl trivial (fun hHeld => ?_)
 refine with_tabW rg31_5_tab rg31_5_bits (fun HT_ HW_ => ?_)
 obtain ⟨W1, hW1⟩ : ∃ W1, W1 = W.drew := ⟨_, rfl⟩
 have HR1 := Aside0.mk (show kL3.R 55 W1 w0.heap.size (fun _ => True) (.slice (some ⟨ga, 0, none⟩) n c) l from by rw [hW1]; exact Kd.R_below HR0.out (below_drew (Below.refl _ _)))
 have HB1 := Aside0.mk (show Below W.heap.size W W1 from by rw [hW1]; exact below_drew (Below.refl _ _))
 rw [← hW1]
 clear hW1
 refine pure_ (i := 0) (N := some 20) (v := ?_) (a' := ?_) #[true, false, false, false, false, false, false, false] rfl rfl (any_of HT_.out (by kernel_rfl)) (fun _ _ _ h => h) (Or.inl ⟨by rfl, ?_⟩) ?_ ?_
 rotate_left
 ·intro w'
  go_simp
  with_reducible rfl
 rotate_left
 ·simp only [Act.put, List.setIfInBounds_toArray, List.set_cons_zero, List.set_cons_succ, i64_w, i32_w]
  rfl
 refine pure_ (i := 1) (N := some 21) (v := ?_) (a' := ?_) #[true, true, false, false, false, false, false, false] rfl rfl (any_of HT_.out (by kernel_rfl)) (fun _ _ _ h => h) (Or.inl ⟨by rfl, ?_⟩) ?_ ?_
 rotate_left
 ·intro w'
  go_simp
  with_reducible rfl
 rotate_left
 ·simp only [Act.put, List.setIfInBounds_toArray, List.set_cons_zero, List.set_cons_succ, i64_w, i32_w]
  rfl
 refine pure_ (i := 2) (N := some 22) (v := ?_) (a' := ?_) #[true, true, true, false, false, false, false, false] rfl rfl (any_of HT_.out (by kernel_rfl)) (fun _ _ _ h => h) (Or.inl ⟨by rfl, ?_⟩) ?_ ?_
 rotate_left
 ·intro w'
  go_simp
  with_reducible rfl
 rotate_left
 ·simp only [Act.put, List.setIfInBounds_toArray, List.set_cons_zero, List.set_cons_succ, i64_w, i32_w]
  rfl
 refine pure_ (i := 3) (N := some 23) (v := ?_) (a' := ?_) #[true, true, true, true, false, false, false, false] rfl rfl (any_of HT_.out (by kernel_rfl)) (fun _ _ _ h => h) (Or.inl ⟨by rfl, ?_⟩) ?_ ?_
 rotate_left
 ·intro w'
  go_simp
  with_reducible rfl
 rotate_left
 ·simp only [Act.put, List.setIfInBounds_toArray, List.set_cons_zero, List.set_cons_succ, i64_w, i32_w]
  rfl
 refine pure_ (i := 4) (N := some 24) (v := ?_) (a' := ?_) #[true, true, true, true, true, false, false, false] rfl rfl (any_of HT_.out (by kernel_rfl)) (fun _ _ _ h => h) (Or.inl ⟨by rfl, ?_⟩) ?_ ?_
 rotate_left
 ·intro w'
  go_simp
  with_reducible rfl
 rotate_left
 ·simp only [Act.put, List.setIfInBounds_toArray, List.set_cons_zero, List.set_cons_succ, i64_w, i32_w]
  rfl
 refine pure_ (i := 5) (N := some 25) (v := ?_) (a' := ?_) #[true, true, true, true, true, true, false, false] rfl rfl (any_of HT_.out (by kernel_rfl)) (fun _ _ _ h => h) (Or.inl ⟨by rfl, ?_⟩) ?_ ?_
 rotate_left
 ·intro w'
  go_simp
  with_reducible rfl
 rotate_left
 ·simp only [Act.put, List.setIfInBounds_toArray, List.set_cons_zero, List.set_cons_succ, i64_w, i32_w]
  rfl
 refine one_ (i := 6) (N := some 26) #[true, true, true, true, true, true, true, false] rfl rfl (one_of HT_.out (by kernel_rfl)) (by decide) (fun K hK => ?_)
 (refine Kd.R_delete_step kL3 (w0 := W1) w0.heap.size (by rfl) (.tmp 22) (.tmp 25) 49 55 rfl Try.underlying49 size55 (n := n) rfl rfl (cut_at ga c i) rfl HR1.out hi (Below.refl _ _) (Nat.le_trans HB0.out.size HB1.out.size) ?_; intro w2 hR2 hb2 hg2; have HR2 := Aside0.mk hR2; have HG2 := Aside0.mk hg2; clear hR2 hb2 hg2)
 refine hK.out _ _ trivial (fun hHeld => ?_)
 clear hK K
 refine norm_ (a' := ?_) ?_ ?_
 rotate_left
 ·show Act.put _ (some 26) _ = _
  simp only [Act.put, List.setIfInBounds_toArray, List.set_cons_zero, List.set_cons_succ, i64_w, i32_w]
  rfl
 refine pure_ (i := 7) (N := some 0) (v := ?_) (a' := ?_) #[true, true, true, true, true, true, true, true] rfl rfl (any_of HT_.out (by kernel_rfl)) (fun _ _ _ h => h) (Or.inl ⟨by rfl, ?_⟩) ?_ ?_
 rotate_left
 ·intro w'
  go_simp
  with_reducible rfl
 rotate_left
 ·simp only [Act.put, List.setIfInBounds_toArray, List.set_cons_zero, List.set_cons_succ, i64_w, i32_w]
  rfl
 refine done_ (done_of HT_.out (by kernel_rfl)) ?_
 generalize (if c = i + 1 then some (⟨ga, 0, none⟩ : Addr) else some ⟨ga, (i + 1) * 3, none⟩) = Acut
 have HL2 : Aside0 ((l.eraseIdx i).length = n - 1) := ⟨by rw [List.length_eraseIdx_of_lt (by rw [← HN.out]; exact hi), ← HN.out]⟩
 obtain ⟨wz, hrun, hRz, hgz⟩ := R_clear_run kL3 w0.heap.size 49 0 55 (.agg #[.int .i64 0, .int .i64 0, .int .i64 0]) Try.underlying49 (fun w => by rfl) rfl (by intro v hv; simp [Value.cells] at hv; rw [hv]; rfl) (n := n - 1) (m := n - (n - 1)) (o := (n - 1) * 3) HR2.out rfl (by omega) (by omega) (c - (n - 1))
 have HRZ := Aside0.mk hRz
 have HGZ := Aside0.mk hgz
 have q1 : (n - 1 ≤ n) = True := eq_true (by omega)
 have q2 : (n ≤ c) = True := eq_true (by omega)
 have q3 : (((n - 1 : Nat) : Int) ≤ (n : Int)) = True := eq_true (by omega)
 clear hRz hgz hHeld
 have HGA : Aside0 (W.grownBy wz (some ga)) := ⟨by
  have h1 := HB1.out
  have h2 := HG2.out
  have h3 := HGZ.out
  exact ⟨h3.os.trans (h2.os.trans h1.os), h3.tape.trans (h2.tape.trans h1.tape), h3.output.trans (h2.output.trans h1.output), Nat.le_trans h1.size (Nat.le_trans h2.size h3.size), fun k hk hne => (h3.block k (by have := h1.size; have := h2.size; omega) hne).trans ((h2.block k (by have := h1.size; omega) hne).trans (h1.block k hk))⟩⟩
 go_wp2
 go_ret
 exact ⟨rfl, HRZ.out, HGA.out⟩
theorem endT_some {t : Tb} {no : Int} {i : Nat} (h : idxI (isNo no) t.l = (i : Int)) : endT t no = (⟨t.long, t.many, t.l.eraseIdx i⟩, 0) := by
 obtain ⟨h1, h2⟩ := idx_pos h
 unfold endT
 rw [show idx no t.l = i from h1, if_pos h2]
theorem endT_none {t : Tb} {no : Int} (h : idxI (isNo no) t.l = -1) : endT t no = (t, 5) := by
 unfold endT
 unfold idxI at h
 split at h
 ·omega
 ·rename_i hn
  rw [if_neg (show ¬ idx no t.l < t.l.length from hn)]
set_option maxHeartbeats 8000000 in
set_option maxRecDepth 100000 in
theorem end_calls (w0 W : World) (gT : Nat) (t : Tb) (v : Value) (hT : TS 55 51 w0 W gT t v) (hlen : t.l.length ≤ 1024) (no : Int) :
  Calls Try.prog 15 #[.pointer (some ⟨gT, 0, none⟩), .int .i64 no] W fun e w' => e = .returned (.int .i64 (endT t no).2) ∧ ∃ v', TS 55 51 w0 w' gT (endT t no).1 v' ∧ KeepBut W w' gT v.ownBlock := by
 obtain ⟨A, c, hv⟩ := Kd.R_slice hT.row
 have hA : 0 < t.l.length → ∃ ga, A = some ⟨ga, 0, none⟩ := fun hp => by
  obtain ⟨g, cap, e, _⟩ := Kd.R_form hT.row hp
  rw [hv] at e
  injection e with e _ _
  exact ⟨g, e⟩
 subst hv
 have HA := Aside0.mk hA
 have HL := Aside0.mk hlen
 have HT0 := Aside0.mk hT
 clear hA hT hlen
 rcases idx_or (isNo no) t.l with hi | ⟨i, hi, hil⟩
 ·have HI := Aside0.mk hi
  rw [endT_none hi]
  clear hi
  go_enter Try.func15, Try.ntmps15
  go_wp2_with (first | ((with_reducible refine gate_dst (N := 3) rfl ?_); refine box_event ?hg (N := 3) ?hd (cs := #[.int .i64 no]) (t := 3) ?hr ?_; (case hd => rfl); (case hg => rfl); (case hr => first | (go_simp; done) | (go_simp; rfl)); intro gc hg w2 hbox hb; have HC2 := Aside0.mk (show Cap w2 gc no from hbox); have HT2 := Aside0.mk (HT0.out.below hb); have HB2 := Aside0.mk hb; have f2 : w2.cell? ⟨gT, 2, none⟩ = some (.slice A t.l.length c) := (blk_cell HT2.out.blk 2).trans rfl; clear hg hbox hb) | (go_at_call 29; refine (idx30 gc no A c t.l _ (Kd.R_reads' HT2.out.row).2.2 (by have := HL.out; omega) HA.out HC2.out).mono ?_; rintro e w3 ⟨rfl, hb⟩; rw [HI.out]; have HT3 := Aside0.mk (HT2.out.below hb); have HB3 := Aside0.mk (below_step HB2.out hb); clear hb))
  go_ret
  exact ⟨rfl, _, HT3.out, KeepBut.of_below HB3.out gT _⟩
 ·obtain ⟨ga, rfl⟩ := HA.out (by omega)
  have HI := Aside0.mk hi
  rw [endT_some hi]
  have n1 : decide ((i : Int) < 0) = false := decide_eq_false (by omega)
  clear hi
  obtain ⟨n, hn⟩ : ∃ n, n = t.l.length := ⟨_, rfl⟩
  have HN := Aside0.mk hn
  have HHL := HL.out
  go_enter Try.func15, Try.ntmps15
  go_wp2_with (first | ((with_reducible refine gate_dst (N := 3) rfl ?_); refine box_event ?hg (N := 3) ?hd (cs := #[.int .i64 no]) (t := 3) ?hr ?_; (case hd => rfl); (case hg => rfl); (case hr => first | (go_simp; done) | (go_simp; rfl)); intro gc hg w2 hbox hb; have HC2 := Aside0.mk (show Cap w2 gc no from hbox); have HT2 := Aside0.mk (HT0.out.below hb); have HB2 := Aside0.mk hb; have f2 : w2.cell? ⟨gT, 2, none⟩ = some (.slice (some ⟨ga, 0, none⟩) t.l.length c) := (blk_cell HT2.out.blk 2).trans rfl; clear hg hbox hb) | (go_at_call 29; refine (idx30 gc no (some ⟨ga, 0, none⟩) c t.l _ (Kd.R_reads' HT2.out.row).2.2 (by have := HL.out; omega) HA.out HC2.out).mono ?_; rintro e w3 ⟨rfl, hb⟩; rw [HI.out]; have HT3 := Aside0.mk (HT2.out.below hb); have HB3 := Aside0.mk (below_step HB2.out hb); have g2 : w3.cell? ⟨gT, 2, none⟩ = some (.slice (some ⟨ga, 0, none⟩) t.l.length c) := (blk_cell HT3.out.blk 2).trans rfl; clear f2 hb) | (go_at_call 31; refine (delete_calls w0 w3 HT3.out.bel ga c i t.l HT3.out.row hil HL.out).mono ?_; rintro e w4 ⟨rfl, hR, hg⟩; have HR4 := Aside0.mk hR; have HG4 := Aside0.mk hg; have hx4 := blk_grown HT3.out.blk hg (HT3.out.ne (by decide)); have HX4 := Aside0.mk hx4; have k2 : w4.cell? ⟨gT, 2, none⟩ = some (.slice (some ⟨ga, 0, none⟩) t.l.length c) := (blk_cell hx4 2).trans rfl; have z2 := blk_frozen hx4 2; clear g2 hR hg hx4))
  have HT9 : Aside0 (TS 55 51 w0 (w4.setCell ⟨gT, 2, none⟩ (.slice (some ⟨ga, 0, none⟩) (t.l.length - 1) c)) gT ⟨t.long, t.many, t.l.eraseIdx i⟩ (.slice (some ⟨ga, 0, none⟩) (t.l.length - 1) c) ∧ KeepBut W (w4.setCell ⟨gT, 2, none⟩ (.slice (some ⟨ga, 0, none⟩) (t.l.length - 1) c)) gT (some ga)) := ⟨by
   have hg9 := set_grown w4 gT 2 (.slice (some ⟨ga, 0, none⟩) (t.l.length - 1) c)
   have hne : some gT ≠ (Value.slice (some ⟨ga, 0, none⟩) (t.l.length - 1) c).ownBlock := HT3.out.ne (by decide)
   have hga := Kd.R_base HT3.out.row ga (by simp [Value.ownBlock])
   have hB4 : Below w0.heap.size w0 w4 := pw_below_grown HT3.out.bel (some ga) HT3.out.bel.size HG4.out (fun q hq => by injection hq with hq; rw [← hq]; exact hga)
   refine ⟨⟨blk_set HX4.out 2 _, HT0.out.ge, Kd.R_grown1 HR4.out rfl hg9 hne, below_set hB4 HT0.out.ge⟩, ?_⟩
   refine ⟨by have := HB3.out.size; have := HG4.out.size; have := hg9.size; omega, fun k hk hkg hka => ?_⟩
   have e1 := HB3.out.block k hk
   have e2 := HG4.out.block k (by have := HB3.out.size; omega) hka
   have e3 := hg9.block k (by have := HB3.out.size; have := HG4.out.size; omega) (fun e => hkg (Option.some.inj e))
   rw [e3, e2, e1]⟩
  go_ret
  exact ⟨rfl, _, HT9.out.1, HT9.out.2⟩
end Go.Proofs.Ytbgilmdmebmcnaa.Al

/- leases.Check and Keep by their contracts. -/
namespace Go.Proofs.Ytbgilmdmebmcnaa.Al
open Go.RowKit Go.Proofs.Ytbgilmdmebmcnaa.LeaseSpec Go.Proofs.YtbgilmdmebmcnaaW.PrintWords Go.Proofs.YtbgilmdmebmcnaaW.PrintLast Go.Proofs.YtbgilmdmebmcnaaW.PrintMore
set_option linter.unusedVariables false
set_option linter.unusedSimpArgs false
theorem ptrOf_err {v : Value} {i : Nat} {e : Int} (h : e ≠ 0) : ptrOf v (i, e) = .pointer none := by unfold ptrOf; rw [if_neg h]
theorem ts_form {w0 W : World} {e T gT : Nat} {t : Tb} {v : Value} (h : TS e T w0 W gT t v) (hp : 0 < t.l.length) : ∃ ga c, v = .slice (some ⟨ga, 0, none⟩) t.l.length c ∧ w0.heap.size ≤ ga := by
 obtain ⟨g, cap, e, hg, _⟩ := Kd.R_form h.row hp
 exact ⟨g, cap, e, hg⟩
theorem check_calls (w0 W : World) (gT : Nat) (t : Tb) (v : Value) (hT : TS 55 51 w0 W gT t v) (hlen : t.l.length ≤ 1024) (now no : Int) :
  Calls Try.prog 17 #[.pointer (some ⟨gT, 0, none⟩), .int .i64 now, .int .i64 no] W fun e w' => e = .returned (.tuple #[.int .i64 (checkT t now no).1, .int .i64 (checkT t now no).2]) ∧ Below W.heap.size W w' := by
 have HF := Aside0.mk (find_calls w0 W gT t v hT hlen now no)
 have HT0 := Aside0.mk hT
 rcases hf : findT t now no with ⟨i, er⟩
 rw [hf] at HF
 by_cases he : er = 0
 ·subst he
  obtain ⟨htk, hil, hidx, hun⟩ := find_ok hf
  obtain ⟨ga, c, rfl, hge⟩ := ts_form hT (by omega)
  have HR : Aside0 (checkT t now no = ((t.l.getD i (0, 0, 0)).2.1, 0)) := ⟨by unfold checkT; rw [hf]; simp⟩
  have HIL := Aside0.mk hil
  rw [HR.out]
  obtain ⟨x, hx⟩ : ∃ x, x = t.l.getD i (0, 0, 0) := ⟨_, rfl⟩
  have HX := Aside0.mk hx
  rw [← hx]
  clear hx hf htk hil hidx hun hT hge
  go_enter Try.func17, Try.ntmps17
  go_wp2_with (go_at_call 25; refine HF.out.mono ?_; rintro e w1 ⟨rfl, hb⟩; rw [show ptrOf (.slice (some ⟨ga, 0, none⟩) t.l.length c) (i, 0) = .pointer (some ⟨ga, i * 3, none⟩) from rfl]; have f1 := (L3_at (Kd.R_reads' (HT0.out.below hb).row).2.2 i HIL.out).2.1; rw [← HX.out] at f1; have HB1 := Aside0.mk hb; clear hb)
  exact bodyPost_ret (v := .tuple #[.int .i64 x.2.1, .int .i64 0]) (by simp [results, Try.results17, go_sem]) rfl ⟨rfl, HB1.out⟩
 ·have HR : Aside0 (checkT t now no = (0, er)) := ⟨by unfold checkT; rw [hf]; simp [he]⟩
  rw [HR.out]
  rw [ptrOf_err he] at HF
  have e1 : (er == 0) = false := beq_eq_false_iff_ne.2 he
  have e2 : (er != 0) = true := bne_iff_ne.2 he
  clear he hf hT
  go_enter Try.func17, Try.ntmps17
  go_wp2_with (go_at_call 25; refine HF.out.mono ?_; rintro e w1 ⟨rfl, hb⟩; have HB1 := Aside0.mk hb; clear hb)
  exact bodyPost_ret (v := .tuple #[.int .i64 0, .int .i64 er]) (by simp [results, Try.results17, go_sem]) rfl ⟨rfl, HB1.out⟩
def rg10_3_T : Bool × List (List Nat × List Nat) := (true, [([], []), ([], []), ([1], [1]), ([2], [2]), ([3], [3]), ([], []), ([], []), ([6], [6]), ([7], [7]), ([8], [8]), ([5, 9], [5, 9]), ([4, 10], [4, 10]), ([0, 0, 1, 2, 3, 4, 5, 6, 7, 8, 9, 10, 11], [0]), ([12, 0, 1, 2, 3, 4, 5, 6, 7, 8, 9, 10, 11], [12]), ([13, 11, 0, 1, 2, 3, 4, 5, 6, 7, 8, 9, 10, 11], [11, 13])])
def rg10_3_B : List Nat := [0, 0, 2, 6, 14, 0, 0, 64, 192, 448, 992, 2046, 4095, 8191, 16383]
theorem rg10_3_tab : rtab .any (opsOf Try.f10 3) = rg10_3_T := by kernel_rfl
theorem rg10_3_bits : waitsOk rg10_3_T.2 rg10_3_B = true := by kernel_rfl
set_option maxHeartbeats 8000000 in
set_option maxRecDepth 100000 in
theorem keep_calls (w0 W : World) (gT : Nat) (t : Tb) (v : Value) (hT : TS 55 51 w0 W gT t v) (hlen : t.l.length ≤ 1024) (hl : 0 ≤ t.long ∧ t.long ≤ 1048576) (now no : Int) :
  Calls Try.prog 10 #[.pointer (some ⟨gT, 0, none⟩), .int .i64 now, .int .i64 no] W fun e w' => e = .returned (.int .i64 (keepT t now no).2) ∧ TS 55 51 w0 w' gT (keepT t now no).1 v ∧ KeepBut W w' gT v.ownBlock := by
 have HF := Aside0.mk (find_calls w0 W gT t v hT hlen now no)
 have HT0 := Aside0.mk hT
 rcases hf : findT t now no with ⟨i, er⟩
 rw [hf] at HF
 by_cases he : er = 0
 ·subst he
  obtain ⟨htk, hil, hidx, hun⟩ := find_ok hf
  obtain ⟨ga, c, rfl, hge⟩ := ts_form hT (by omega)
  have HR : Aside0 (keepT t now no = (⟨t.long, t.many, t.l.set i ((t.l.getD i (0, 0, 0)).1, (t.l.getD i (0, 0, 0)).2.1, max (t.l.getD i (0, 0, 0)).2.2 (now + t.long))⟩, 0)) := ⟨by unfold keepT; rw [hf]; simp⟩
  have HIL := Aside0.mk hil
  have htk2 := (tickOk_iff now).1 htk
  rw [HR.out]
  obtain ⟨x, hx⟩ : ∃ x, x = t.l.getD i (0, 0, 0) := ⟨_, rfl⟩
  have HX := Aside0.mk hx
  rw [← hx]
  have hw : wrap64 (now + t.long) = now + t.long := by unfold wrap64; omega
  have hw2 : IntKind.i64.wrap (now + t.long) = now + t.long := by rw [IntKind.wrap_i64]; omega
  clear hx hf htk hil hidx hun hT hge
  go_enter Try.func10, Try.ntmps10
  go_upto_region 3 with (go_at_call 25; refine HF.out.mono ?_; rintro e w1 ⟨rfl, hb⟩; rw [show ptrOf (.slice (some ⟨ga, 0, none⟩) t.l.length c) (i, 0) = .pointer (some ⟨ga, i * 3, none⟩) from rfl]; have HT1 := Aside0.mk (HT0.out.below hb); have HB1 := Aside0.mk hb; clear hb)
  have HTd := HT1.out.below (below_drew (Below.refl _ w1))
  have hbk := HTd.blk
  have h2 := (L3_at (Kd.R_reads' HTd.row).2.2 i HIL.out).2.2
  have hz := (L3_cell HTd.row i HIL.out).2.2.2 2
  rw [← HX.out] at h2
  refine start_ (n := 15) (S := fun w' => w'.heap[gT]? = some (.cells #[.int .i64 t.long, .int .i64 t.many, .slice (some ⟨ga, 0, none⟩) t.l.length c] 51 (0, 0)) ∧ w'.cell? ⟨ga, i * 3 + 2, none⟩ = some (.int .i64 x.2.2)) (ds := [14]) #[false, false, false, false, false, false, false, false, false, false, false, false, false, false, false] (by kernel_rfl) rfl rfl ⟨hbk, h2⟩ (fun hHeld => ?_)
  refine with_tabW rg10_3_tab rg10_3_bits (fun HT_ HW_ => ?_)
  obtain ⟨W1, hW1⟩ : ∃ W1, W1 = w1.drew := ⟨_, rfl⟩
  have HB4 := Aside0.mk (show Below W.heap.size W W1 from by rw [hW1]; exact below_drew1 HB1.out)
  rw [← hW1] at hHeld HTd h2 hz ⊢
  have HT4 := Aside0.mk HTd
  clear hW1 HTd hbk
  refine pure_ (i := 0) (N := some 18) (v := ?_) (a' := ?_) #[true, false, false, false, false, false, false, false, false, false, false, false, false, false, false] rfl rfl (any_of HT_.out (by kernel_rfl)) (fun _ _ _ h => h) (Or.inl ⟨by rfl, ?_⟩) ?_ ?_
  rotate_left
  ·intro w'
   go_simp
   with_reducible rfl
  rotate_left
  ·simp only [Act.put, List.setIfInBounds_toArray, List.set_cons_zero, List.set_cons_succ, i64_w, i32_w]
   rfl
  refine pure_ (i := 1) (N := some 19) (v := ?_) (a' := ?_) #[true, true, false, false, false, false, false, false, false, false, false, false, false, false, false] rfl rfl (any_of HT_.out (by kernel_rfl)) (fun _ _ _ h => h) (Or.inl ⟨by rfl, ?_⟩) ?_ ?_
  rotate_left
  ·intro w'
   go_simp
   with_reducible rfl
  rotate_left
  ·simp only [Act.put, List.setIfInBounds_toArray, List.set_cons_zero, List.set_cons_succ, i64_w, i32_w]
   rfl
  refine pure_ (i := 2) (N := some 20) (v := ?_) (a' := ?_) #[true, true, true, false, false, false, false, false, false, false, false, false, false, false, false] rfl rfl (any_of HT_.out (by kernel_rfl)) (fun _ _ _ h => h) (Or.inl ⟨by rfl, ?_⟩) ?_ ?_
  rotate_left
  ·intro w'
   go_simp
   with_reducible rfl
  rotate_left
  ·simp only [Act.put, List.setIfInBounds_toArray, List.set_cons_zero, List.set_cons_succ, i64_w, i32_w]
   rfl
  refine pure_ (i := 3) (N := some 21) (v := ?_) (a' := ?_) #[true, true, true, true, false, false, false, false, false, false, false, false, false, false, false] rfl rfl (any_of HT_.out (by kernel_rfl)) (fun _ _ _ h => h) (Or.inl ⟨by rfl, ?_⟩) ?_ ?_
  rotate_left
  ·intro w'
   go_simp
   with_reducible rfl
  rotate_left
  ·simp only [Act.put, List.setIfInBounds_toArray, List.set_cons_zero, List.set_cons_succ, i64_w, i32_w]
   rfl
  refine take_ (i := 4) (N := some 22) (v := ?_) (a' := ?_) #[true, true, true, true, true, false, false, false, false, false, false, false, false, false, false] rfl rfl (take_ofW HT_.out HW_.out (by kernel_rfl)) (fun _ _ _ h => h) (Or.inl ⟨by rfl, ?_⟩) hHeld ?_ ?_
  rotate_left
  ·rintro w' ⟨s0, s1⟩
   go_simp
   with_reducible rfl
  rotate_left
  ·simp only [Act.put, List.setIfInBounds_toArray, List.set_cons_zero, List.set_cons_succ, i64_w, i32_w]
   rfl
  refine pure_ (i := 5) (N := some 23) (v := ?_) (a' := ?_) #[true, true, true, true, true, true, false, false, false, false, false, false, false, false, false] rfl rfl (any_of HT_.out (by kernel_rfl)) (fun _ _ _ h => h) (Or.inl ⟨by rfl, ?_⟩) ?_ ?_
  rotate_left
  ·intro w'
   go_simp
   with_reducible rfl
  rotate_left
  ·simp only [Act.put, List.setIfInBounds_toArray, List.set_cons_zero, List.set_cons_succ, i64_w, i32_w]
   rfl
  refine pure_ (i := 6) (N := some 24) (v := ?_) (a' := ?_) #[true, true, true, true, true, true, true, false, false, false, false, false, false, false, false] rfl rfl (any_of HT_.out (by kernel_rfl)) (fun _ _ _ h => h) (Or.inl ⟨by rfl, ?_⟩) ?_ ?_
  rotate_left
  ·intro w'
   go_simp
   with_reducible rfl
  rotate_left
  ·simp only [Act.put, List.setIfInBounds_toArray, List.set_cons_zero, List.set_cons_succ, i64_w, i32_w]
   rfl
  refine pure_ (i := 7) (N := some 25) (v := ?_) (a' := ?_) #[true, true, true, true, true, true, true, true, false, false, false, false, false, false, false] rfl rfl (any_of HT_.out (by kernel_rfl)) (fun _ _ _ h => h) (Or.inl ⟨by rfl, ?_⟩) ?_ ?_
  rotate_left
  ·intro w'
   go_simp
   with_reducible rfl
  rotate_left
  ·simp only [Act.put, List.setIfInBounds_toArray, List.set_cons_zero, List.set_cons_succ, i64_w, i32_w]
   rfl
  refine pure_ (i := 8) (N := some 26) (v := ?_) (a' := ?_) #[true, true, true, true, true, true, true, true, true, false, false, false, false, false, false] rfl rfl (any_of HT_.out (by kernel_rfl)) (fun _ _ _ h => h) (Or.inl ⟨by rfl, ?_⟩) ?_ ?_
  rotate_left
  ·intro w'
   go_simp
   with_reducible rfl
  rotate_left
  ·simp only [Act.put, List.setIfInBounds_toArray, List.set_cons_zero, List.set_cons_succ, i64_w, i32_w]
   rfl
  refine take_ (i := 9) (N := some 27) (v := ?_) (a' := ?_) #[true, true, true, true, true, true, true, true, true, true, false, false, false, false, false] rfl rfl (take_ofW HT_.out HW_.out (by kernel_rfl)) (fun _ _ _ h => h) (Or.inl ⟨by rfl, ?_⟩) hHeld ?_ ?_
  rotate_left
  ·rintro w' ⟨s0, s1⟩
   have y2 : w'.cell? ⟨gT, 0, none⟩ = some (.int .i64 t.long) := (blk_cell s0 0).trans rfl
   go_simp
   with_reducible rfl
  rotate_left
  ·simp only [Act.put, List.setIfInBounds_toArray, List.set_cons_zero, List.set_cons_succ, i64_w, i32_w]
   rfl
  refine pure_ (i := 10) (N := some 28) (v := ?_) (a' := ?_) #[true, true, true, true, true, true, true, true, true, true, true, false, false, false, false] rfl rfl (any_of HT_.out (by kernel_rfl)) (fun _ _ _ h => h) (Or.inl ⟨by rfl, ?_⟩) ?_ ?_
  rotate_left
  ·intro w'
   go_simp
   with_reducible rfl
  rotate_left
  ·simp only [Act.put, List.setIfInBounds_toArray, List.set_cons_zero, List.set_cons_succ, i64_w, i32_w]
   rfl
  refine pure_ (i := 11) (N := some 29) (v := ?_) (a' := ?_) #[true, true, true, true, true, true, true, true, true, true, true, true, false, false, false] rfl rfl (any_of HT_.out (by kernel_rfl)) (fun _ _ _ h => h) (Or.inl ⟨by rfl, ?_⟩) ?_ ?_
  rotate_left
  ·intro w'
   go_simp
   with_reducible rfl
  rotate_left
  ·simp only [Act.put, List.setIfInBounds_toArray, List.set_cons_zero, List.set_cons_succ, i64_w, i32_w]
   rfl
  refine pure_ (i := 12) (N := some 30) (v := ?_) (a' := ?_) #[true, true, true, true, true, true, true, true, true, true, true, true, true, false, false] rfl rfl (any_of HT_.out (by kernel_rfl)) (fun _ _ _ h => h) (Or.inl ⟨by rfl, ?_⟩) ?_ ?_
  rotate_left
  ·intro w'
   go_simp
   with_reducible rfl
  rotate_left
  ·simp only [Act.put, List.setIfInBounds_toArray, List.set_cons_zero, List.set_cons_succ, i64_w, i32_w]
   rfl
  refine pure_ (i := 13) (N := some 31) (v := ?_) (a' := ?_) #[true, true, true, true, true, true, true, true, true, true, true, true, true, true, false] rfl rfl (any_of HT_.out (by kernel_rfl)) (fun _ _ _ h => h) (Or.inl ⟨by rfl, ?_⟩) ?_ ?_
  rotate_left
  ·intro w'
   go_simp
   with_reducible rfl
  rotate_left
  ·simp only [Act.put, List.setIfInBounds_toArray, List.set_cons_zero, List.set_cons_succ, i64_w, i32_w]
   rfl
  refine last_ (i := 14) (N := none) #[true, true, true, true, true, true, true, true, true, true, true, true, true, true, true] rfl rfl (one_of HT_.out (by kernel_rfl)) (by decide) (fun K hK => ?_)
  (refine skip_ (w1 := ?_) (by rfl) rfl ?_ ?_; rotate_left; · (go_simp; rfl))
  refine hK.out _ _ ?_
  clear hK K
  try simp only [Act.put, List.setIfInBounds_toArray, List.set_cons_zero, List.set_cons_succ, i64_w, i32_w]
  refine done_ (done_of HT_.out (by kernel_rfl)) ?_
  have hy : (if x.2.2 < now + t.long then now + t.long else x.2.2) = max x.2.2 (now + t.long) := by split <;> omega
  rw [hy]
  have HT5 : Aside0 (TS 55 51 w0 (W1.setCell ⟨ga, i * 3 + 2, none⟩ (.int .i64 (max x.2.2 (now + t.long)))) gT ⟨t.long, t.many, t.l.set i (x.1, x.2.1, max x.2.2 (now + t.long))⟩ (.slice (some ⟨ga, 0, none⟩) t.l.length c) ∧ KeepBut W (W1.setCell ⟨ga, i * 3 + 2, none⟩ (.int .i64 (max x.2.2 (now + t.long)))) gT (Value.slice (some ⟨ga, 0, none⟩) t.l.length c).ownBlock) := ⟨by
   obtain ⟨hR, hg⟩ := L3_until HT4.out.row i HIL.out (max x.2.2 (now + t.long))
   rw [← HX.out] at hR
   exact ⟨⟨blk_grown HT4.out.blk hg (HT4.out.ne (by decide)), HT4.out.ge, hR, below_set HT4.out.bel (Kd.R_base HT4.out.row ga (by simp [Value.ownBlock]))⟩, (KeepBut.of_below HB4.out gT (some ga)).trans (KeepBut.of_grown hg gT) (.inl rfl)⟩⟩
  clear hHeld h2 hz hy
  generalize W1.setCell ⟨ga, i * 3 + 2, none⟩ (.int .i64 (max x.2.2 (now + t.long))) = W2 at HT5 ⊢
  go_wp2
  go_ret
  exact ⟨rfl, HT5.out.1, HT5.out.2⟩
 ·have HR : Aside0 (keepT t now no = (t, er)) := ⟨by unfold keepT; rw [hf]; simp [he]⟩
  rw [HR.out]
  rw [ptrOf_err he] at HF
  have e1 : (er == 0) = false := beq_eq_false_iff_ne.2 he
  have e2 : (er != 0) = true := bne_iff_ne.2 he
  clear he hf hT
  go_enter Try.func10, Try.ntmps10
  go_wp2_with (go_at_call 25; refine HF.out.mono ?_; rintro e w1 ⟨rfl, hb⟩; have HT1 := Aside0.mk (HT0.out.below hb); have HB1 := Aside0.mk hb; clear hb)
  go_ret
  exact ⟨rfl, HT1.out, KeepBut.of_below HB1.out gT v.ownBlock⟩
end Go.Proofs.Ytbgilmdmebmcnaa.Al

/- leases.New and Low by their contracts. -/
namespace Go.Proofs.Ytbgilmdmebmcnaa.Al
open Go.RowKit Go.Proofs.Ytbgilmdmebmcnaa.LeaseSpec Go.Proofs.YtbgilmdmebmcnaaW.PrintWords Go.Proofs.YtbgilmdmebmcnaaW.PrintLast Go.Proofs.YtbgilmdmebmcnaaW.PrintMore
set_option linter.unusedVariables false
set_option linter.unusedSimpArgs false
theorem new_calls (w0 W : World) (hb0 : Below w0.heap.size w0 W) (long : Int) (h0 : 0 ≤ long) (h1 : long ≤ 1048576) : Calls Try.prog 8 #[.int .i64 long] W fun e w' => ∃ g, e = .returned (.tuple #[.pointer (some ⟨g, 0, none⟩), .int .i64 0]) ∧ W.heap.size ≤ g ∧ TS 55 51 w0 w' g ⟨long, 0, []⟩ (.slice none 0 0) ∧ Below W.heap.size W w' := by
 have hu51 := Try.underlying51
 have d1 : decide (long < 0) = false := decide_eq_false (by omega)
 have d2 : decide (1048576 < long) = false := decide_eq_false (by omega)
 have HB0 := Aside0.mk hb0
 clear hb0
 go_enter Try.func8, Try.ntmps8
 go_wp2_with ((with_reducible refine gate_dst (N := 12) rfl ?_); refine box_event ?hg (N := 12) ?hd (cs := #[.int .i64 long, .int .i64 0, .slice none 0 0]) (t := 51) ?hr ?_; (case hd => rfl); (case hg => rfl); (case hr => first | (go_simp; done) | (go_simp; rfl)); intro gb hg w1 hbox hb; have HX := Aside0.mk hbox; have HG := Aside0.mk (Nat.le_of_eq hg.symm); have HB := Aside0.mk hb; clear hg hbox hb)
 exact bodyPost_ret (v := .tuple #[.pointer (some ⟨gb, 0, none⟩), .int .i64 0]) (by simp [results, Try.results8, go_sem]) rfl ⟨gb, rfl, HG.out, ⟨HX.out, Nat.le_trans HB0.out.size HG.out, Kd.R_nil _ _ _ _ _, below_step HB0.out HB.out⟩, HB.out⟩
def lowP (now : Int) (l : List L3) (last : Int) (i : Nat) : Int := lowL now (l.take i) last
theorem lowP_step {now : Int} {l : List L3} {last : Int} {i : Nat} (hi : i < l.length) : lowP now l last (i + 1) = if isOver now (l.getD i (0, 0, 0)) = true then lowP now l last i else min (lowP now l last i) (l.getD i (0, 0, 0)).2.1 := by
 unfold lowP lowL left
 rw [List.take_succ_eq_append_getElem hi, List.filter_append, List.foldl_append, List.getD_eq_getElem?_getD, List.getElem?_eq_getElem hi]
 simp only [Option.getD_some]
 by_cases h : isOver now l[i] = true
 ·rw [if_pos h]
  have : stays now l[i] = false := by
   unfold isOver at h
   unfold stays
   simp at h ⊢
   omega
  simp [this]
 ·rw [if_neg h]
  have : stays now l[i] = true := by
   unfold isOver at h
   unfold stays
   simp at h ⊢
   omega
  simp [this]
set_option maxHeartbeats 8000000 in
set_option maxRecDepth 100000 in
theorem low_calls (w0 W : World) (gT : Nat) (t : Tb) (v : Value) (hT : TS 55 51 w0 W gT t v) (hlen : t.l.length ≤ 1024) (now last : Int) :
  Calls Try.prog 11 #[.pointer (some ⟨gT, 0, none⟩), .int .i64 now, .int .i64 last] W fun e w' => e = .returned (.tuple #[.int .i64 (lowT t now last).1, .int .i64 (lowT t now last).2]) ∧ Below W.heap.size W w' := by
 have hu55 := Try.underlying55
 have HT0 := Aside0.mk hT
 obtain ⟨A, c, rfl⟩ := Kd.R_slice hT.row
 clear hT
 by_cases h1 : tickOk now = true
 ·have H1 := Aside0.mk h1
  by_cases h2 : stampOk last = true
  ·have H2 := Aside0.mk h2
   have HR : Aside0 (lowT t now last = (lowL now t.l last, 0)) := ⟨by unfold lowT; rw [h1, h2]; rfl⟩
   rw [HR.out]
   clear h1 h2
   go_enter Try.func11, Try.ntmps11
   go_wp2_with (first | (go_at_call 21; (with_reducible refine (tick_calls now _).mono ?_); rintro e w1 ⟨rfl, hb⟩; rw [H1.out]; have HT1 := Aside0.mk (HT0.out.below hb); have HB1 := Aside0.mk hb; clear hb) | (go_at_call 21; (with_reducible refine (stamp_calls last _).mono ?_); rintro e w2 ⟨rfl, hb⟩; rw [H2.out]; have HT2 := Aside0.mk (HT1.out.below hb); have HB2 := Aside0.mk (below_step HB1.out hb); clear hb) | (go_at_call 24; refine (over_calls now _).mono ?_; rintro e w3 ⟨go, rfl, hge, hcp, hb⟩; have HC3 := Aside0.mk hcp; have HT3 := Aside0.mk (HT2.out.below hb); have HB3 := Aside0.mk (below_step HB2.out hb); have f2 : w3.cell? ⟨gT, 2, none⟩ = some (.slice A t.l.length c) := (blk_cell HT3.out.blk 2).trans rfl; clear hge hcp hb))
   go_loopw [2, 10, 26] (fun v2 v10 v26 wr => ∃ i : Nat, v26 = .int .i64 i ∧ i ≤ t.l.length ∧ v2 = .int .i64 (lowP now t.l last i) ∧ Aside0 (Cap wr go now) ∧ Aside0 (Below W.heap.size W wr)) (fun _ _ v26 _ => t.l.length - (intOf v26).toNat)
   case atStart => exact ⟨0, rfl, Nat.zero_le _, rfl, HC3, HB3⟩
   case round =>
    obtain ⟨i, rfl, hi, rfl, HC, HB⟩ := hrel
    have HT := Aside0.mk (HT0.out.below HB.out)
    by_cases hlt : i < t.l.length
    ·obtain ⟨ga, cc, hv, _⟩ : ∃ ga c', Value.slice A t.l.length c = .slice (some ⟨ga, 0, none⟩) t.l.length c' ∧ True := by
      obtain ⟨g, cap, e, _⟩ := Kd.R_form HT0.out.row (by omega)
      exact ⟨g, cap, e, trivial⟩
     injection hv with hA _ hc
     subst hA hc
     have b1 : decide ((i : Int) < (t.l.length : Int)) = true := decide_eq_true (by omega)
     have b2 : decide (i < t.l.length) = true := decide_eq_true hlt
     obtain ⟨h0, h1, h2⟩ := L3_at (Kd.R_reads' HT.out.row).2.2 i hlt
     have HS := Aside0.mk (lowP_step (now := now) (last := last) hlt)
     obtain ⟨x, hx⟩ : ∃ x, x = t.l.getD i (0, 0, 0) := ⟨_, rfl⟩
     rw [← hx] at h0 h1 h2 HS
     have HX := Aside0.mk hx
     clear hx
     go_upto_region 7 with ((with_reducible refine gate_dst (N := 10) rfl ?_); refine box_event ?hg (N := 10) ?hd (cs := #[.int .i64 0, .int .i64 0, .int .i64 0]) (t := 55) ?hr ?_; (case hd => rfl); (case hg => rfl); (case hr => first | (go_simp; done) | (go_simp; rfl)); intro gb hg w5 hbox hb; have HX5 := Aside0.mk hbox; have hq0 : w5.cell? ⟨gb, 0, none⟩ = some (.int .i64 0) := (blk_cell hbox 0).trans rfl; have hq1 : w5.cell? ⟨gb, 1, none⟩ = some (.int .i64 0) := (blk_cell hbox 1).trans rfl; have hq2 : w5.cell? ⟨gb, 2, none⟩ = some (.int .i64 0) := (blk_cell hbox 2).trans rfl; have z0 := blk_frozen hbox 0; have z1 := blk_frozen hbox 1; have z2 := blk_frozen hbox 2; have HC5 := Aside0.mk (HC.out.below hb); have HGE := Aside0.mk (show wr.heap.size ≤ gb from Nat.le_of_eq hg.symm); have HB5 := Aside0.mk hb; clear hg hbox hb)
     obtain ⟨W6, hW6⟩ : ∃ W6, W6 = (((w5.setCell ⟨gb, 0, none⟩ (.int .i64 x.1)).setCell ⟨gb, 1, none⟩ (.int .i64 x.2.1)).setCell ⟨gb, 2, none⟩ (.int .i64 x.2.2)) := ⟨_, rfl⟩
     have HX6 : Aside0 (W6.heap[gb]? = some (.cells #[.int .i64 x.1, .int .i64 x.2.1, .int .i64 x.2.2] 55 (0, 0))) := ⟨by rw [hW6]; exact blk_set (blk_set (blk_set HX5.out 0 _) 1 _) 2 _⟩
     have HB6 : Aside0 (Below wr.heap.size wr W6) := ⟨by rw [hW6]; exact below_set (below_set (below_set HB5.out HGE.out) HGE.out) HGE.out⟩
     have HC6 := Aside0.mk (HC.out.below HB6.out)
     rw [← hW6]
     clear hW6 hq0 hq1 hq2 z0 z1 z2
     have y0 : W6.cell? ⟨gb, 0, none⟩ = some (.int .i64 x.1) := (blk_cell HX6.out 0).trans rfl
     have y1 : W6.cell? ⟨gb, 1, none⟩ = some (.int .i64 x.2.1) := (blk_cell HX6.out 1).trans rfl
     have y2 : W6.cell? ⟨gb, 2, none⟩ = some (.int .i64 x.2.2) := (blk_cell HX6.out 2).trans rfl
     by_cases hp : isOver now x = true
     ·have HP := Aside0.mk hp
      clear hp
      go_wp2_with (go_at_call 32; (with_reducible refine (over_cl go now x _ HC6.out).mono ?_); rintro e w7 ⟨rfl, hb⟩; rw [HP.out]; have HC7 := Aside0.mk (HC6.out.below hb); have HB7 := Aside0.mk (below_step HB.out (below_step HB6.out hb)); clear hb)
      go_roundw
      case rel => exact ⟨i + 1, by go_num, hlt, by rw [HS.out, if_pos HP.out], HC7, HB7⟩
      case measure => simp [intOf]; omega
     ·have hp' : isOver now x = false := by simpa using hp
      have HP := Aside0.mk hp'
      have HP2 := Aside0.mk hp
      clear hp hp'
      go_wp2_with (go_at_call 32; (with_reducible refine (over_cl go now x _ HC6.out).mono ?_); rintro e w7 ⟨rfl, hb⟩; rw [HP.out]; have y1' : w7.cell? ⟨gb, 1, none⟩ = some (.int .i64 x.2.1) := (blk_cell (blk_below HX6.out hb) 1).trans rfl; have HC7 := Aside0.mk (HC6.out.below hb); have HB7 := Aside0.mk (below_step HB.out (below_step HB6.out hb)); clear hb)
      go_roundw
      case rel =>
       refine ⟨i + 1, by go_num, hlt, ?_, HC7, HB7⟩
       rw [HS.out, if_neg HP2.out]
       first | rfl | (congr 1; split <;> omega)
      case measure => simp [intOf]; omega
    ·obtain rfl : i = t.l.length := by omega
     go_wp2
     exact bodyPost_ret (v := .tuple #[.int .i64 (lowL now t.l last), .int .i64 0]) (by simp [results, Try.results11, go_sem, lowP]) rfl ⟨rfl, HB.out⟩
  ·have H2 : Aside0 (stampOk last = false) := ⟨by simpa using h2⟩
   have HR : Aside0 (lowT t now last = (0, 1)) := ⟨by unfold lowT; rw [h1, H2.out]; rfl⟩
   rw [HR.out]
   clear h1 h2
   go_enter Try.func11, Try.ntmps11
   go_wp2_with (first | (go_at_call 21; (with_reducible refine (tick_calls now _).mono ?_); rintro e w1 ⟨rfl, hb⟩; rw [H1.out]; have HB1 := Aside0.mk hb; clear hb) | (go_at_call 21; (with_reducible refine (stamp_calls last _).mono ?_); rintro e w2 ⟨rfl, hb⟩; rw [H2.out]; have HB2 := Aside0.mk (below_step HB1.out hb); clear hb))
   exact bodyPost_ret (v := .tuple #[.int .i64 0, .int .i64 1]) (by simp [results, Try.results11, go_sem]) rfl ⟨rfl, HB2.out⟩
 ·have H1 : Aside0 (tickOk now = false) := ⟨by simpa using h1⟩
  have HR : Aside0 (lowT t now last = (0, 1)) := ⟨by unfold lowT; rw [H1.out]; rfl⟩
  rw [HR.out]
  clear h1
  go_enter Try.func11, Try.ntmps11
  go_wp2_with (go_at_call 21; (with_reducible refine (tick_calls now _).mono ?_); rintro e w1 ⟨rfl, hb⟩; rw [H1.out]; have HB1 := Aside0.mk hb; clear hb)
  exact bodyPost_ret (v := .tuple #[.int .i64 0, .int .i64 1]) (by simp [results, Try.results11, go_sem]) rfl ⟨rfl, HB1.out⟩
end Go.Proofs.Ytbgilmdmebmcnaa.Al

/- The chapter's example. -/
namespace Go.Proofs.Ytbgilmdmebmcnaa.Al
open Go.RowKit Go.Proofs.Ytbgilmdmebmcnaa.LeaseSpec Go.Proofs.YtbgilmdmebmcnaaW.PrintWords Go.Proofs.YtbgilmdmebmcnaaW.PrintLast Go.Proofs.YtbgilmdmebmcnaaW.PrintMore
set_option linter.unusedVariables false
set_option linter.unusedSimpArgs false
theorem works_take : LeaseSpec.takeT ⟨5, 0, []⟩ 10 7 = (⟨5, 1, [(1, 7, 15)]⟩, 1, 0) := by simp [LeaseSpec.takeT, tickOk, stampOk, left]
theorem works_low1 : lowT ⟨5, 1, [(1, 7, 15)]⟩ 15 9 = (7, 0) := by simp [lowT, tickOk, stampOk, lowL, left, stays, List.filter_cons]; decide
theorem works_low2 : lowT ⟨5, 1, [(1, 7, 15)]⟩ 16 9 = (9, 0) := by simp [lowT, tickOk, stampOk, lowL, left, stays, List.filter_cons]
set_option maxHeartbeats 8000000 in
set_option maxRecDepth 100000 in
theorem works_calls (W : World) : Calls Try.prog 6 #[] W fun e w' => e = .returned (.bool true) ∧ Below W.heap.size W w' := by
 go_enter Try.func6, Try.ntmps6
 go_wp2_with (first | (go_at_call 8; refine (new_calls W W (Below.refl _ _) 5 (by decide) (by decide)).mono ?_; rintro e w1 ⟨g, rfl, hg, hT, hb⟩; have HT1 := Aside0.mk hT; clear hg hT hb) | (go_at_call 9; refine (take_calls W w1 g _ _ HT1.out (by decide) (by decide) (by decide) 10 7).mono ?_; rintro e w2 ⟨v2, rfl, hT, hk⟩; rw [works_take] at hT ⊢; have HT2 := Aside0.mk hT; clear hT hk) | (go_at_call 11; (with_reducible refine (low_calls W w2 g _ _ HT2.out (by decide) 15 9).mono ?_); rintro e w3 ⟨rfl, hb⟩; rw [works_low1]; have HT3 := Aside0.mk (HT2.out.below hb); clear hb) | (go_at_call 11; (with_reducible refine (low_calls W w3 g _ _ HT3.out (by decide) 16 9).mono ?_); rintro e w4 ⟨rfl, hb⟩; rw [works_low2]; have HT4 := Aside0.mk (HT3.out.below hb); clear hb))
 go_ret
 exact ⟨rfl, HT4.out.bel⟩
end Go.Proofs.Ytbgilmdmebmcnaa.Al

/- Plain lemmas on bytes, on wraps and on bits, without the program. -/
namespace Go.Proofs.Ytbgilmdmebmcnaa.Base
open Go.RowKit Go.Proofs.YtbgilmdmebmcnaaW.PrintWords

theorem Ev.pos {α : Type} {c : Prop} [Decidable c] {f g : Nat → Option α} {r : α} (h : c) (k : Ev f r) : Ev (fun n => if c then f n else g n) r := by
 simpa only [if_pos h] using k
theorem Ev.neg {α : Type} {c : Prop} [Decidable c] {f g : Nat → Option α} {r : α} (h : ¬ c) (k : Ev g r) : Ev (fun n => if c then f n else g n) r := by
 simpa only [if_neg h] using k
theorem Ev.some_bind {α β : Type} {a : α} {f : Nat → α → Option β} {r : β} (k : Ev (fun n => f n a) r) : Ev (fun n => (some a).bind (f n)) r := k

theorem wrap_id {n : Int} (h0 : -9223372036854775808 ≤ n) (h1 : n < 9223372036854775808) : wrap64 n = n := by
 unfold wrap64; omega

theorem ofInt_i64 (a : Nat) (ha : a < 9223372036854775808) : (BitVec.ofInt 64 (a : Int)).toNat = a := by
 rw [BitVec.ofInt_natCast, BitVec.toNat_ofNat]; exact Nat.mod_eq_of_lt (by omega)
theorem xor_i64_nat (a b : Nat) (ha : a < 9223372036854775808) (hb : b < 9223372036854775808) : Go.bits .xor .i64 (a : Int) (b : Int) = ((a ^^^ b : Nat) : Int) := by
 have hx : a ^^^ b < 2 ^ 63 := Nat.xor_lt_two_pow (by omega) (by omega)
 show IntKind.i64.wrap ((BitVec.ofInt 64 (a : Int) ^^^ BitVec.ofInt 64 (b : Int)).toNat : Int) = _
 rw [BitVec.toNat_xor, ofInt_i64 a ha, ofInt_i64 b hb, IntKind.wrap_i64]
 omega
theorem or_i64_nat (a b : Nat) (ha : a < 9223372036854775808) (hb : b < 9223372036854775808) : Go.bits .or .i64 (a : Int) (b : Int) = ((a ||| b : Nat) : Int) := by
 have hx : a ||| b < 2 ^ 63 := Nat.or_lt_two_pow (by omega) (by omega)
 show IntKind.i64.wrap ((BitVec.ofInt 64 (a : Int) ||| BitVec.ofInt 64 (b : Int)).toNat : Int) = _
 rw [BitVec.toNat_or, ofInt_i64 a ha, ofInt_i64 b hb, IntKind.wrap_i64]
 omega
theorem and_i64_nat (a b : Nat) (ha : a < 9223372036854775808) (hb : b < 9223372036854775808) : Go.bits .and .i64 (a : Int) (b : Int) = ((a &&& b : Nat) : Int) := by
 have hx : a &&& b < 2 ^ 63 := Nat.and_lt_two_pow _ (by omega)
 show IntKind.i64.wrap ((BitVec.ofInt 64 (a : Int) &&& BitVec.ofInt 64 (b : Int)).toNat : Int) = _
 rw [BitVec.toNat_and, ofInt_i64 a ha, ofInt_i64 b hb, IntKind.wrap_i64]
 omega

/-- A string's bytes. -/
def B (s : ByteArray) : List UInt8 := s.data.toList
theorem B_len (s : ByteArray) : (B s).length = s.size := data_length s
theorem B_inj {s t : ByteArray} (h : B s = B t) : s = t := by
 cases s; cases t; simp only [B] at h; simpa [Array.toList_inj] using h
theorem B_append (s t : ByteArray) : B (s ++ t) = B s ++ B t := by simp [B]
theorem B_nums (l : List Int) : B (strOfNums l) = l.map fun n => UInt8.ofNat n.toNat := rfl
theorem B_extract (s : ByteArray) (i j : Nat) : B (s.extract i j) = ((B s).take j).drop i := by
 simp [B, ByteArray.data_extract, List.extract_eq_take_drop, List.drop_take]
theorem B_empty : B (⟨#[]⟩ : ByteArray) = [] := rfl
theorem bt_B (s : ByteArray) (i : Nat) (h : i < (B s).length) : bt s (i : Int) = (((B s)[i]).toNat : Int) := by
 have h' : i < s.size := by rw [← B_len]; exact h
 unfold bt
 simp only [Int.toNat_natCast, h', dif_pos]
 rfl
theorem B_mk (l : List UInt8) : B ⟨l.toArray⟩ = l := by simp [B]
theorem toList_loop (s : ByteArray) : ∀ (d i : Nat) (r : List UInt8), s.size - i = d → ByteArray.toList.loop s i r = r.reverse ++ (B s).drop i
 |0, i, r, h => by
  unfold ByteArray.toList.loop
  rw [if_neg (by omega), List.drop_of_length_le (by rw [B_len]; omega), List.append_nil]
 |d + 1, i, r, h => by
  have hi : i < s.size := by omega
  unfold ByteArray.toList.loop
  rw [if_pos hi, toList_loop s d (i + 1) _ (by omega)]
  have e : (B s).drop i = s.get! i :: (B s).drop (i + 1) := by
   rw [List.drop_eq_getElem_cons (by rw [B_len]; exact hi)]
   congr 1
   simp [B, ByteArray.get!, hi]
  rw [e]
  simp
theorem toList_eq (s : ByteArray) : s.toList = B s := by
 unfold ByteArray.toList
 rw [toList_loop s _ 0 [] rfl]
 simp
end Go.Proofs.Ytbgilmdmebmcnaa.Base

/- One function of the program comes to what its plain twin says. This text began as the kit's own print (print.py, made by cprint.sh) and was turned by split.py: it is no printed file. -/
namespace Go.Proofs.Ytbgilmdmebmcnaa.Al
open Go.RowKit Go.Proofs.YtbgilmdmebmcnaaW.PrintWords Go.Proofs.YtbgilmdmebmcnaaW.PrintLast Go.Proofs.YtbgilmdmebmcnaaW.PrintMore
attribute [local go_sem] max2_int min2_int max_two min_two max_three min_three max_four min_four   -- for this text's walks alone
set_option linter.unusedVariables false
set_option linter.unusedSimpArgs false

/-! ### corncribbook_Among: function 7 -/
def corncribbook_Among.f (a0 : Int) (a1 : Int) : Option (Int) := if a1 = 0 then (none) else (some (Int.tmod (wrap64 ((Int.tmod a0 a1) + a1)) a1))
set_option maxHeartbeats 8000000 in
set_option maxRecDepth 100000 in
theorem corncribbook_Among.calls (a0 : Int) (a1 : Int) (r : Int) (w : World) (h : corncribbook_Among.f a0 a1 = some r) :
  Calls Try.prog 7 #[.int .i64 a0, .int .i64 a1] w fun e w' => e = .returned (.int .i64 r) ∧ Drawn0 w w' := by
 have H : (if a1 = 0 then (none) else (some (Int.tmod (wrap64 ((Int.tmod a0 a1) + a1)) a1))) = some r := h
 clear h
 by_cases c3 : a1 = 0
 ·rw [if_pos c3] at H
  exact absurd H (by simp)
 ·rw [if_neg c3] at H
  have c3b0 : (a1 == 0) = false := beq_eq_false_iff_ne.mpr c3
  have c3b1 : (a1 != 0) = true := bne_iff_ne.mpr c3
  obtain rfl := Option.some.inj H
  go_enter Try.func7, Try.ntmps7
  go_wp2
  go_ret
  exact ⟨by first | rfl | (simp; done) | (simp [*]; done), by repeat (first | exact Drawn0.refl _ | apply Drawn0.step)⟩

-- NOT PRINTED: function 25 (leases_Table_find)

-- NOT PRINTED: function 10 (leases_Table_Keep)

-- NOT PRINTED: function 3 (corncriblaw17_LeasesHold)

-- NOT PRINTED: function 12 (corncribref17_New)

end Go.Proofs.Ytbgilmdmebmcnaa.Al

/- Among: a number within 0 .. m-1. -/
namespace Go.Proofs.Ytbgilmdmebmcnaa.Amg
open Go.RowKit Go.Proofs.Ytbgilmdmebmcnaa.Base Go.Proofs.Ytbgilmdmebmcnaa.Al Go.Proofs.YtbgilmdmebmcnaaW.PrintWords
set_option linter.unusedVariables false
set_option linter.unusedSimpArgs false
theorem among_eq (a n : Int) (h0 : 0 < n) (hn : n ≤ 4611686018427387904) : corncribbook_Among.f a n = some (a % n) := by
 unfold corncribbook_Among.f
 rw [if_neg (by omega)]
 have h1 : -n < Int.tmod a n ∧ (Int.tmod a n) % n = a % n := by
  rcases Int.le_total 0 a with ha | ha
  ·rw [Int.tmod_eq_emod_of_nonneg ha]
   have := Int.emod_nonneg a (by omega : n ≠ 0)
   exact ⟨by omega, Int.emod_emod_of_dvd _ (Int.dvd_refl _)⟩
  ·obtain ⟨b, rfl⟩ : ∃ b, a = -b := ⟨-a, by omega⟩
   rw [Int.neg_tmod, Int.tmod_eq_emod_of_nonneg (by omega)]
   have := Int.emod_lt_of_pos b h0
   refine ⟨by omega, ?_⟩
   rw [Int.neg_emod_eq_sub_emod, Int.neg_emod_eq_sub_emod, Int.sub_emod_emod]
 have h2 : Int.tmod a n < n := Int.tmod_lt_of_pos a h0
 obtain ⟨h1, h3⟩ := h1
 rw [wrap_id (by omega) (by omega), Int.tmod_eq_emod_of_nonneg (by omega), Int.add_emod_right, h3]
end Go.Proofs.Ytbgilmdmebmcnaa.Amg

/- The rows of LeasesHold: four rows of numbers beside a table. -/
namespace Go.Proofs.Ytbgilmdmebmcnaa.Al
open Go.RowKit Go.Proofs.Ytbgilmdmebmcnaa.LeaseSpec Go.Proofs.YtbgilmdmebmcnaaW.PrintWords Go.Proofs.YtbgilmdmebmcnaaW.PrintLast Go.Proofs.YtbgilmdmebmcnaaW.PrintMore
set_option linter.unusedVariables false
set_option linter.unusedSimpArgs false
structure S31 where
 f0 : Int
 f1 : Int
 f2 : Int
def z31 : S31 := ⟨0, 0, 0⟩
def k31 : Kd S31 := Kd.iso (Kd.pair (Kd.int .i64) (Kd.pair (Kd.int .i64) (Kd.int .i64))) (fun x : S31 => (x.f0, x.f1, x.f2))
theorem k31_open {w : World} {x : S31} {cs : List Value} (h : k31.K w x cs) : cs = [.int .i64 x.f0, .int .i64 x.f1, .int .i64 x.f2] := by
 obtain ⟨_, _, rfl, rfl, ⟨_, _, rfl, rfl, rfl⟩⟩ := h
 exact rfl
def rd_T31 (xs : List S31) (i : Nat) : S31 := xs.getD i z31
theorem at_T31 {w : World} {A : Option Addr} {n : Nat} {xs : List S31} (h : Kd.C k31 w A n xs) (i : Nat) (h1 : i < n) : ∃ ad , A = some ad ∧ w.cell? (ad.add (i * 3)) = some (.int .i64 (rd_T31 xs i).f0) ∧ w.cell? ⟨(ad.add (i * 3)).block, (ad.add (i * 3)).off + 1, none⟩ = some (.int .i64 (rd_T31 xs i).f1) ∧ w.cell? ⟨(ad.add (i * 3)).block, (ad.add (i * 3)).off + 2, none⟩ = some (.int .i64 (rd_T31 xs i).f2) := by
 obtain ⟨ad, c, e, _, hK, hc0⟩ := Kd.C_get h z31 (i : Int) (by omega) (by omega)
 rw [Int.toNat_natCast] at hK hc0
 have hc : ∀ j u, c[j]? = some u → w.cell? (ad.add (i * 3 + j)) = some u := hc0
 obtain rfl := k31_open hK
 exact ⟨ad, e, hc 0 _ rfl, by rw [← add_field _ _ 1 (by omega)]; exact hc 1 _ rfl, by rw [← add_field _ _ 2 (by omega)]; exact hc 2 _ rfl⟩
theorem amongh_calls (a n : Int) (h0 : 0 < n) (hn : n ≤ 4611686018427387904) (w : World) : Calls Try.prog 7 #[.int .i64 a, .int .i64 n] w fun e w' => e = .returned (.int .i64 (a % n)) ∧ Below w.heap.size w w' :=
 (corncribbook_Among.calls a n (a % n) w (Amg.among_eq a n h0 hn)).mono (by rintro e w' ⟨rfl, k, rfl⟩; exact ⟨rfl, pw_below_drewN (Below.refl _ _) k⟩)
/-! #### lists that are filled from the front -/
def fillI (f : Nat → Int) (n i : Nat) : List Int := (List.range n).map (fun k => if k < i then f k else 0)
theorem fill_len (f : Nat → Int) (n i : Nat) : (fillI f n i).length = n := by simp [fillI]
theorem fill_zero (f : Nat → Int) (n : Nat) : List.replicate n (0 : Int) = fillI f n 0 := by
 refine List.ext_getElem (by simp [fillI]) fun k h1 h2 => by simp [fillI]
theorem fill_set (f : Nat → Int) {n i : Nat} (h : i < n) : (fillI f n i).set i (f i) = fillI f n (i + 1) := by
 refine List.ext_getElem (by simp [fillI]) fun k h1 h2 => ?_
 simp only [fillI, List.getElem_set, List.getElem_map, List.getElem_range]
 by_cases e : i = k
 ·subst e; simp
 ·rw [if_neg e]
  by_cases e2 : k < i
  ·rw [if_pos e2, if_pos (by omega)]
  ·rw [if_neg e2, if_neg (by omega)]
theorem fill_get (f : Nat → Int) {n i k : Nat} (h : k < i) (hn : k < n) : (fillI f n i).getD k 0 = f k := by
 rw [List.getD_eq_getElem?_getD, List.getElem?_eq_getElem (by rw [fill_len]; exact hn)]
 simp [fillI, h]
/-! #### rows -/
def IR (W wr : World) (v : Value) (xs : List Int) : Prop := (Kd.int .i64).R 3 wr W.heap.size (fun _ => True) v xs
section
variable {W wr w1 : World} {v : Value} {xs : List Int} {gt g c : Nat} {T T' : Tb} {vp vp' : Value}
theorem IR.below (h : IR W wr v xs) (hb : Below wr.heap.size wr w1) : IR W w1 v xs := Kd.R_below h hb
theorem IR.form (h : IR W wr v xs) (hp : 0 < xs.length) : ∃ g c, v = .slice (some ⟨g, 0, none⟩) xs.length c ∧ W.heap.size ≤ g ∧ ∃ cells, wr.heap[g]? = some (.cells cells 3 (0, 0)) := by
 obtain ⟨g, c, e, hg, _, hc⟩ := Kd.R_form h hp
 exact ⟨g, c, e, hg, hc⟩
theorem IR.celln {n : Nat} (h : IR W wr (.slice (some ⟨g, 0, none⟩) n c) xs) (hn : xs.length = n) (i : Nat) (hi : i < n) : wr.cell? ⟨g, i, none⟩ = some (.int .i64 (xs.getD i 0)) ∧ wr.frozen? ⟨g, i, none⟩ = false := by
 subst hn
 have := Kd.R_cell (0 : Int) h (i : Int) (by omega) (by omega)
 rw [Int.toNat_natCast] at this
 exact this
theorem IR.cell (h : IR W wr (.slice (some ⟨g, 0, none⟩) xs.length c) xs) (i : Nat) (hi : i < xs.length) : wr.cell? ⟨g, i, none⟩ = some (.int .i64 (xs.getD i 0)) ∧ wr.frozen? ⟨g, i, none⟩ = false := by
 have := Kd.R_cell (0 : Int) h (i : Int) (by omega) (by omega)
 rw [Int.toNat_natCast] at this
 exact this
theorem IR.put (h : IR W wr (.slice (some ⟨g, 0, none⟩) xs.length c) xs) (i : Nat) (x : Int) : IR W (wr.setCell ⟨g, i, none⟩ (.int .i64 x)) (.slice (some ⟨g, 0, none⟩) xs.length c) (xs.set i x) := by
 have := (Kd.R_put h (i : Int) x).1
 rw [Int.toNat_natCast] at this
 exact this
theorem hold_grown (W : World) (g j : Nat) (u : Value) : W.grownBy (W.setCell ⟨g, j, none⟩ u) (some g) := ⟨rfl, rfl, rfl, by simp [World.setCell], fun k _ hk => Below.heap_setCell W ⟨g, j, none⟩ u k (fun e => hk (by rw [e]))⟩
theorem IR.far (h : IR W wr v xs) (hne : some g ≠ v.ownBlock) (j : Nat) (u : Value) : IR W (wr.setCell ⟨g, j, none⟩ u) v xs := Kd.R_grown1 h rfl (hold_grown wr g j u) hne
theorem IR.keep (h : IR W wr v xs) (k : TS 55 51 W wr gt T vp) (hk : KeepBut wr w1 gt vp.ownBlock) : IR W w1 v xs :=
 Kd.R_mono (Kd.R_move (Kd.R_bound (Kd.R_types (Kd.R_apartR h k.row (by intro q hq; rcases List.mem_cons.1 hq with rfl | hq; decide; simp [Kd.int, Kd.scalar] at hq)) k.blk (by intro q hq; rcases List.mem_cons.1 hq with rfl | hq; decide; simp [Kd.int, Kd.scalar] at hq))) (fun j hj => hk.2 j hj.2.2.1 hj.1.2 hj.1.1.2)) (fun _ _ => trivial)
theorem ts_set3 (h : TS 55 51 W wr gt T vp) {cells : Array Value} (hb : wr.heap[g]? = some (.cells cells 3 (0, 0))) (hg : W.heap.size ≤ g) (j : Nat) (u : Value) : TS 55 51 W (wr.setCell ⟨g, j, none⟩ u) gt T vp :=
 ⟨blk_far h.blk (p := ⟨g, j, none⟩) (blk_ne h.blk hb (by decide)) u, h.ge, Kd.R_set h.row hb (by intro q hq; rcases List.mem_cons.1 hq with rfl | hq; decide; simp [kL3, Kd.pair, Kd.int, Kd.scalar] at hq) j u, below_set h.bel hg⟩
end
structure RS (W wr : World) (gt : Nat) (T : Tb) (vp vt ve vs : Value) (lt le ls : List Int) : Prop where
 tb : TS 55 51 W wr gt T vp
 t : IR W wr vt lt
 e : IR W wr ve le
 s : IR W wr vs ls
 te : vt.ownBlock ≠ ve.ownBlock
 ts : vt.ownBlock ≠ vs.ownBlock
 es : ve.ownBlock ≠ vs.ownBlock
structure RN (W wr : World) (gt : Nat) (T : Tb) (vp vt ve vs vn : Value) (lt le ls ln : List Int) : Prop where
 r : RS W wr gt T vp vt ve vs lt le ls
 n : IR W wr vn ln
 tn : vt.ownBlock ≠ vn.ownBlock
 en : ve.ownBlock ≠ vn.ownBlock
 sn : vs.ownBlock ≠ vn.ownBlock
section
variable {W wr w1 : World} {gt g c n_ : Nat} {T T' : Tb} {vp vp' vt ve vs vn : Value} {lt le ls ln : List Int}
theorem RS.below (h : RS W wr gt T vp vt ve vs lt le ls) (hb : Below wr.heap.size wr w1) : RS W w1 gt T vp vt ve vs lt le ls := ⟨h.tb.below hb, h.t.below hb, h.e.below hb, h.s.below hb, h.te, h.ts, h.es⟩
theorem RN.below (h : RN W wr gt T vp vt ve vs vn lt le ls ln) (hb : Below wr.heap.size wr w1) : RN W w1 gt T vp vt ve vs vn lt le ls ln := ⟨h.r.below hb, h.n.below hb, h.tn, h.en, h.sn⟩
theorem RS.turn (h : RS W wr gt T vp vt ve vs lt le ls) (hT : TS 55 51 W w1 gt T' vp') (hk : KeepBut wr w1 gt vp.ownBlock) : RS W w1 gt T' vp' vt ve vs lt le ls := ⟨hT, h.t.keep h.tb hk, h.e.keep h.tb hk, h.s.keep h.tb hk, h.te, h.ts, h.es⟩
theorem RN.turn (h : RN W wr gt T vp vt ve vs vn lt le ls ln) (hT : TS 55 51 W w1 gt T' vp') (hk : KeepBut wr w1 gt vp.ownBlock) : RN W w1 gt T' vp' vt ve vs vn lt le ls ln := ⟨h.r.turn hT hk, h.n.keep h.r.tb hk, h.tn, h.en, h.sn⟩
theorem RS.set_t (h : RS W wr gt T vp (.slice (some ⟨g, 0, none⟩) n_ c) ve vs lt le ls) (hn : lt.length = n_) (hp : 0 < n_) (i : Nat) (x : Int) : RS W (wr.setCell ⟨g, i, none⟩ (.int .i64 x)) gt T vp (.slice (some ⟨g, 0, none⟩) n_ c) ve vs (lt.set i x) le ls := by
 subst hn
 obtain ⟨g', c', e, hg, cells, hc⟩ := h.t.form hp
 injection e with e _ _
 injection e with e
 injection e with e
 subst e
 exact ⟨ts_set3 h.tb hc hg _ _, h.t.put i x, h.e.far h.te _ _, h.s.far h.ts _ _, h.te, h.ts, h.es⟩
theorem RS.set_e (h : RS W wr gt T vp vt (.slice (some ⟨g, 0, none⟩) n_ c) vs lt le ls) (hn : le.length = n_) (hp : 0 < n_) (i : Nat) (x : Int) : RS W (wr.setCell ⟨g, i, none⟩ (.int .i64 x)) gt T vp vt (.slice (some ⟨g, 0, none⟩) n_ c) vs lt (le.set i x) ls := by
 subst hn
 obtain ⟨g', c', e, hg, cells, hc⟩ := h.e.form hp
 injection e with e _ _
 injection e with e
 injection e with e
 subst e
 exact ⟨ts_set3 h.tb hc hg _ _, h.t.far (Ne.symm h.te) _ _, h.e.put i x, h.s.far h.es _ _, h.te, h.ts, h.es⟩
theorem RS.set_s (h : RS W wr gt T vp vt ve (.slice (some ⟨g, 0, none⟩) n_ c) lt le ls) (hn : ls.length = n_) (hp : 0 < n_) (i : Nat) (x : Int) : RS W (wr.setCell ⟨g, i, none⟩ (.int .i64 x)) gt T vp vt ve (.slice (some ⟨g, 0, none⟩) n_ c) lt le (ls.set i x) := by
 subst hn
 obtain ⟨g', c', e, hg, cells, hc⟩ := h.s.form hp
 injection e with e _ _
 injection e with e
 injection e with e
 subst e
 exact ⟨ts_set3 h.tb hc hg _ _, h.t.far (Ne.symm h.ts) _ _, h.e.far (Ne.symm h.es) _ _, h.s.put i x, h.te, h.ts, h.es⟩
theorem RN.set_n (h : RN W wr gt T vp vt ve vs (.slice (some ⟨g, 0, none⟩) n_ c) lt le ls ln) (hn : ln.length = n_) (hp : 0 < n_) (i : Nat) (x : Int) : RN W (wr.setCell ⟨g, i, none⟩ (.int .i64 x)) gt T vp vt ve vs (.slice (some ⟨g, 0, none⟩) n_ c) lt le ls (ln.set i x) := by
 subst hn
 obtain ⟨g', c', e, hg, cells, hc⟩ := h.n.form hp
 injection e with e _ _
 injection e with e
 injection e with e
 subst e
 exact ⟨⟨ts_set3 h.r.tb hc hg _ _, h.r.t.far (Ne.symm h.tn) _ _, h.r.e.far (Ne.symm h.en) _ _, h.r.s.far (Ne.symm h.sn) _ _, h.r.te, h.r.ts, h.r.es⟩, h.n.put i x, h.tn, h.en, h.sn⟩
end
theorem hold_keep_none {W W1 : World} {g : Nat} (h : KeepBut W W1 g none) (o : Option Nat) : KeepBut W W1 g o := ⟨h.1, fun k h1 h2 _ => h.2 k h1 h2 (by simp)⟩
/-! #### the input in plain terms -/
def atOf (l : List S31) : Nat → Int
 |0 => 0
 |i + 1 => atOf l i + (rd_T31 l i).f0 % 5
def tkOf (l : List S31) (j : Nat) : Int := atOf l (j + 1)
def enOf (l : List S31) (j : Nat) : Int := tkOf l j + (rd_T31 l j).f2 % 9
def stOf (l : List S31) (j : Nat) : Int := (rd_T31 l j).f1 % 50
theorem atOf_b (l : List S31) : ∀ i, 0 ≤ atOf l i ∧ atOf l i ≤ 4 * i
 |0 => ⟨Int.le_refl _, Int.le_refl _⟩
 |i + 1 => by
  have := atOf_b l i
  show 0 ≤ atOf l i + (rd_T31 l i).f0 % 5 ∧ atOf l i + (rd_T31 l i).f0 % 5 ≤ 4 * ((i + 1 : Nat) : Int)
  omega
def holdOf (a0 : Int) (l : List S31) (a2 : Int) : Hold where
 n := min l.length 20
 long := a0 % 8
 last := 50 + a2 % 50
 tk := tkOf l
 en := enOf l
 st := stOf l
 l0 := by omega
 l1 := by omega
 a0 := by omega
 a1 := by omega
 n1 := by omega
 t0 := fun j => (atOf_b l (j + 1)).1
 tm := fun j => by
  show atOf l (j + 1) ≤ atOf l (j + 1) + (rd_T31 l (j + 1)).f0 % 5
  omega
 te := fun j => by unfold enOf; omega
 eb := fun j => by unfold enOf; omega
 s0 := fun j => by unfold stOf; omega
 s1 := fun j => by unfold stOf; omega
/-- Rows that are made one by one, all alike. -/
structure P3 (W w : World) (gt : Nat) (T : Tb) (vp : Value) (n : Nat) (l : List Value) : Prop where
 tb : TS 55 51 W w gt T vp
 all : ∀ v ∈ l, IR W w v (List.replicate n 0)
 apart : l.Pairwise (fun a b => a.ownBlock ≠ b.ownBlock)
theorem ts_grown0 {W wr w1 : World} {gt : Nat} {T : Tb} {vp : Value} (h : TS 55 51 W wr gt T vp) (hg : wr.grownBy w1 none) (hb : Below W.heap.size W w1) : TS 55 51 W w1 gt T vp :=
 ⟨(hg.block gt (blk_lt h.blk) (by simp)).trans h.blk, h.ge, Kd.R_grown h.row hg (fun _ _ => by simp), hb⟩
theorem IR.grown0 {W wr w1 : World} {v : Value} {xs : List Int} (h : IR W wr v xs) (hg : wr.grownBy w1 none) : IR W w1 v xs := Kd.R_grown h hg (fun _ _ => by simp)
theorem IR.ne {W wr : World} {v v1 : Value} {xs : List Int} (h : IR W wr v xs) (hat : ∃ b, v1.ownBlock = some b ∧ wr.heap.size ≤ b) : v.ownBlock ≠ v1.ownBlock := by
 obtain ⟨b, e, hb⟩ := hat
 intro he
 rw [e] at he
 obtain ⟨inner, ho⟩ := Kd.R_own h
 have := own_lt ho b he
 omega
theorem P3.step {W w w1 : World} {gt : Nat} {T : Tb} {vp v : Value} {n : Nat} {l : List Value} (h : P3 W w gt T vp n l) (ho : (Kd.int .i64).R 3 w1 W.heap.size (fun _ => True) v (List.replicate (n : Int).toNat 0)) (hb : Below W.heap.size W w1) (hg : w.grownBy w1 none) (hat : ∃ b, v.ownBlock = some b ∧ w.heap.size ≤ b) : P3 W w1 gt T vp n (l ++ [v]) := by
 rw [Int.toNat_natCast] at ho
 refine ⟨ts_grown0 h.tb hg hb, fun x hx => ?_, List.pairwise_append.2 ⟨h.apart, List.pairwise_singleton _ _, fun a ha b hb => ?_⟩⟩
 ·rcases List.mem_append.1 hx with hx | hx
  ·exact (h.all x hx).grown0 hg
  ·rw [List.mem_singleton.1 hx]; exact ho
 ·rw [List.mem_singleton.1 hb]
  exact (h.all a ha).ne hat
theorem P3.rs {W w : World} {gt : Nat} {T : Tb} {vp a b c : Value} {n : Nat} (h : P3 W w gt T vp n [a, b, c]) (f g k : Nat → Int) : RS W w gt T vp a b c (fillI f n 0) (fillI g n 0) (fillI k n 0) := by
 obtain ⟨h1, h2, h3⟩ := h
 simp only [List.pairwise_cons, List.mem_cons, List.not_mem_nil, or_false, forall_eq_or_imp, forall_eq] at h3
 rw [← fill_zero, ← fill_zero, ← fill_zero]
 exact ⟨h1, h2 a (by simp), h2 b (by simp), h2 c (by simp), h3.1.1, h3.1.2, h3.2.1⟩
theorem P3.sw12 {W w : World} {gt : Nat} {T : Tb} {vp a b c : Value} {n : Nat} (h : P3 W w gt T vp n [a, b, c]) : P3 W w gt T vp n [b, a, c] := by
 obtain ⟨h1, h2, h3⟩ := h
 simp only [List.pairwise_cons, List.mem_cons, List.not_mem_nil, or_false, forall_eq_or_imp, forall_eq] at h3
 exact ⟨h1, fun x hx => h2 x (by simp only [List.mem_cons, List.not_mem_nil, or_false] at hx ⊢; rcases hx with h | h | h <;> simp [h]), by simp [h3.1.2, h3.2.1, Ne.symm h3.1.1]⟩
theorem P3.sw23 {W w : World} {gt : Nat} {T : Tb} {vp a b c : Value} {n : Nat} (h : P3 W w gt T vp n [a, b, c]) : P3 W w gt T vp n [a, c, b] := by
 obtain ⟨h1, h2, h3⟩ := h
 simp only [List.pairwise_cons, List.mem_cons, List.not_mem_nil, or_false, forall_eq_or_imp, forall_eq] at h3
 exact ⟨h1, fun x hx => h2 x (by simp only [List.mem_cons, List.not_mem_nil, or_false] at hx ⊢; rcases hx with h | h | h <;> simp [h]), by simp [h3.1.1, h3.1.2, Ne.symm h3.2.1]⟩
theorem cells31 {w : World} {ad : Addr} {n : Nat} {xs : List S31} (h : Kd.C k31 w (some ad) n xs) (i : Nat) (h1 : i < n) : w.cell? (ad.add (i * 3)) = some (.int .i64 (rd_T31 xs i).f0) ∧ w.cell? ⟨(ad.add (i * 3)).block, (ad.add (i * 3)).off + 1, none⟩ = some (.int .i64 (rd_T31 xs i).f1) ∧ w.cell? ⟨(ad.add (i * 3)).block, (ad.add (i * 3)).off + 2, none⟩ = some (.int .i64 (rd_T31 xs i).f2) := by
 obtain ⟨ad', e, h⟩ := at_T31 h i h1
 injection e with e
 subst e
 exact h
theorem RN.of_make {W w w1 : World} {gt : Nat} {T : Tb} {vp vt ve vs vn : Value} {n : Nat} {lt le ls : List Int} (h : RS W w gt T vp vt ve vs lt le ls) (ho : (Kd.int .i64).R 3 w1 W.heap.size (fun _ => True) vn (List.replicate (n : Int).toNat 0)) (hb : Below W.heap.size W w1) (hg : w.grownBy w1 none) (hat : ∃ b, vn.ownBlock = some b ∧ w.heap.size ≤ b) : RN W w1 gt T vp vt ve vs vn lt le ls (List.replicate n 0) := by
 rw [Int.toNat_natCast] at ho
 exact ⟨⟨ts_grown0 h.tb hg hb, h.t.grown0 hg, h.e.grown0 hg, h.s.grown0 hg, h.te, h.ts, h.es⟩, ho, h.t.ne hat, h.e.ne hat, h.s.ne hat⟩
def NB (n m : Nat) (ln : List Int) : Prop := ln.length = n ∧ ∀ j, j < m → ln.getD j 0 = (j : Int) + 1
theorem NB.set {n m : Nat} {ln : List Int} (h : NB n m ln) (hm : m < n) : NB n (m + 1) (ln.set m ((m : Int) + 1)) := by
 refine ⟨by rw [List.length_set]; exact h.1, fun j hj => ?_⟩
 rw [List.getD_eq_getElem?_getD, List.getElem?_set]
 by_cases e : m = j
 ·subst e
  rw [if_pos rfl, if_pos (by rw [h.1]; exact hm)]
  rfl
 ·rw [if_neg e, ← List.getD_eq_getElem?_getD]
  exact h.2 j (by omega)
end Go.Proofs.Ytbgilmdmebmcnaa.Al

/- An argument of any shape that is read: what the walk's contracts ask of it, and its bounds by the row's own reach and by the second form's bulk. -/
namespace Go.Proofs.Ytbgilmdmebmcnaa.Open
open Go.RowKit Go.Proofs.YtbgilmdmebmcnaaW.PrintWords

/-- Whatever reads as data of type t is told by d: V always, L where each string and slice is within the reach, m is within the bulk. -/
structure Opens {α : Type} (P : Program) (t : TypeId) (d : Kd α) (V L : α → Prop) (m : α → Nat) : Prop where
 out : ∀ {H : Type} {enc : TypeId × Value → H} {w : World} {base : Nat} {spare : Nat → Bool} {held : Bool} {fuel : Nat} {cs : List Value} {x : DataW H × List MemPlace}, DataW.trod enc P w base spare held fuel t cs = some x →
  ∃ a : α, d.K w a cs ∧ V a ∧ ((DataW.weights P t x.1).all (· ≤ reachBytes) = true → L a) ∧ m a ≤ Rows.uptoBulk x.1

theorem opens_int {P : Program} {t : TypeId} {k : IntKind} (ht : P.underlying t = some (.int k)) : Opens P t (Kd.int k) (fun n => (Lit.int k n).wf = true) (fun _ => True) (fun _ => 1) where
 out h := by
  obtain ⟨n, rfl, rfl, hw⟩ := DataW.trod_int ht h
  exact ⟨n, rfl, hw, fun _ => trivial, Nat.le_refl _⟩
theorem opens_bool {P : Program} {t : TypeId} (ht : P.underlying t = some .bool) : Opens P t Kd.bool (fun _ => True) (fun _ => True) (fun _ => 1) where
 out h := by
  obtain ⟨n, rfl, rfl⟩ := DataW.trod_bool ht h
  exact ⟨n, rfl, trivial, fun _ => trivial, Nat.le_refl _⟩
theorem opens_string {P : Program} {t : TypeId} (ht : P.underlying t = some .string) : Opens P t Kd.string (fun s => s.size ≤ maxLen) (fun s => s.size ≤ 140737488351232) (fun s => s.size + 1) where
 out h := by
  obtain ⟨s, rfl, rfl, hw⟩ := DataW.trod_string ht h
  refine ⟨s, rfl, hw, fun hx => ?_, ?_⟩
  ·simp only [DataW.weights, List.all_cons, List.all_nil, Bool.and_true, decide_eq_true_eq, data_length] at hx
   exact hx
  ·simp [Rows.uptoBulk]

theorem add_add (a : Addr) (m j : Nat) : (a.add m).add j = a.add (m + j) := by
 unfold Addr.add
 by_cases hm : m = 0 <;> by_cases hj : j = 0 <;> simp [hm, hj, Nat.add_assoc]
theorem mapM_some {β γ : Type} {f : β → Option γ} : ∀ {l : List β} {r : List γ}, l.mapM f = some r → r.length = l.length ∧ ∀ i (h : i < l.length), f l[i] = r[i]?
 |[], r, h => by simp at h; subst h; simp
 |b :: l, r, h => by
  rw [List.mapM_cons] at h
  simp only [Option.bind_eq_bind, Option.bind_eq_some_iff, Option.pure_def, Option.some.injEq] at h
  obtain ⟨c, hc, q, hq, rfl⟩ := h
  obtain ⟨hl, hi⟩ := mapM_some hq
  refine ⟨by simp [hl], fun i h => ?_⟩
  cases i with
  |zero => simpa using hc
  |succ i => simpa using hi i (by simpa using h)
theorem cells_get {w : World} {base : Nat} {a : Addr} {n : Nat} {cs : List Value} (h : w.cells? base a n = some cs) : cs.length = n ∧ ∀ i u, cs[i]? = some u → w.cell? (a.add i) = some u := by
 unfold World.cells? at h
 split at h
 ·obtain ⟨hl, hi⟩ := mapM_some h
  simp at hl
  refine ⟨hl, fun i u hu => ?_⟩
  have hlt : i < cs.length := (List.getElem?_eq_some_iff.1 hu).1
  have := hi i (by simp; omega)
  simpa [hu] using this
 ·cases h

theorem list_of {α : Type} {Q : Nat → α → Prop} : ∀ n, (∀ i, i < n → ∃ a, Q i a) → ∃ l : List α, l.length = n ∧ ∀ i a, l[i]? = some a → Q i a
 |0, _ => ⟨[], rfl, fun i a h => by simp at h⟩
 |n + 1, h => by
  obtain ⟨l, hl, hq⟩ := list_of n (fun i hi => h i (by omega))
  obtain ⟨a, ha⟩ := h n (by omega)
  refine ⟨l ++ [a], by simp [hl], fun i b hb => ?_⟩
  by_cases hi : i < n
  ·rw [List.getElem?_append_left (by omega)] at hb
   exact hq i b hb
  ·have hlt := (List.getElem?_eq_some_iff.1 hb).1
   simp at hlt
   obtain rfl : i = n := by omega
   rw [List.getElem?_append_right (by omega), hl] at hb
   simp at hb
   exact hb ▸ ha
theorem all_append {l r : List Nat} {p : Nat → Bool} : (l ++ r).all p = true ↔ l.all p = true ∧ r.all p = true := by rw [List.all_append, Bool.and_eq_true]
theorem weights_all {H : Type} {P : Program} {e : TypeId} {p : Nat → Bool} : ∀ {ds : List (DataW H)}, (DataW.weightsAll P e ds).all p = true → ∀ d ∈ ds, (DataW.weights P e d).all p = true
 |[], _, d, hd => by simp at hd
 |d0 :: ds, h, d, hd => by
  rw [DataW.weightsAll, all_append] at h
  rcases List.mem_cons.1 hd with rfl | hd
  ·exact h.1
  ·exact weights_all h.2 d hd
theorem bulk_all {H α : Type} {m : α → Nat} : ∀ {l : List α} {ds : List (DataW H)}, l.length = ds.length → (∀ (i : Nat) (a : α) (y : DataW H), l[i]? = some a → ds[i]? = some y → m a ≤ Rows.uptoBulk y) → (l.map m).sum ≤ Rows.uptoBulkAll ds
 |[], [], _, _ => by simp [Rows.uptoBulkAll]
 |a :: l, d :: ds, hl, h => by
  have ih := bulk_all (l := l) (ds := ds) (by simpa using hl) (fun i a y h1 h2 => h (i + 1) a y (by simpa using h1) (by simpa using h2))
  have h0 := h 0 a d rfl rfl
  simp only [List.map_cons, List.sum_cons, Rows.uptoBulkAll]
  omega
 |[], _ :: _, hl, _ => by simp at hl
 |_ :: _, [], hl, _ => by simp at hl

theorem opens_slice {α : Type} {P : Program} {t e : TypeId} {d : Kd α} {V L : α → Prop} {m : α → Nat} (q : Nat) (b : Nat) (ht : P.underlying t = some (.slice e)) (hsz : P.cellsOf e = d.sz) (hb : P.bytesOf e = b) (ho : Opens P e d V L m) :
  Opens P t (Kd.slice q d) (fun l => ∀ a ∈ l, V a) (fun l => l.length * b ≤ 140737488351232 ∧ ∀ a ∈ l, L a) (fun l => (l.map m).sum + 1) where
 out {H enc w base spare held fuel cs x} h := by
  rcases DataW.trod_slice ht h with ⟨rfl, rfl⟩ | ⟨ad, len, cap, elems, rest, n, rfl, rfl, rfl, hbase, hlc, hcm, hlen, hel, hsp, hns⟩
  ·exact ⟨[], ⟨none, 0, rfl, Nat.le_refl _, rfl, by simp, fun h => absurd h (by simp)⟩, by simp, fun _ => by simp, by simp [Rows.uptoBulk]⟩
  obtain ⟨l, hl, hq⟩ := list_of (Q := fun i a => (∃ c, c.length = d.sz ∧ d.K w a c ∧ (∀ j u, c[j]? = some u → w.cell? (ad.add (i * d.sz + j)) = some u)) ∧ V a ∧ (∀ y, elems[i]? = some y → ((DataW.weights P e y.1).all (· ≤ reachBytes) = true → L a) ∧ m a ≤ Rows.uptoBulk y.1)) len (by
   intro i hi
   have hy : elems[i]? = some (elems[i]'(by omega)) := List.getElem?_eq_getElem (by omega)
   have h1 := hel i hi
   rw [hy, Option.bind_eq_some_iff] at h1
   obtain ⟨c, hc, hx⟩ := h1
   obtain ⟨a, hK, hV, hL, hm⟩ := ho.out hx
   obtain ⟨hcl, hcc⟩ := cells_get hc
   rw [hsz] at hcl hcc
   refine ⟨a, ⟨c, hcl, hK, fun j u hu => by rw [← add_add]; exact hcc j u hu⟩, hV, fun y hy' => ?_⟩
   rw [hy] at hy'
   obtain rfl := Option.some.inj hy'
   exact ⟨hL, hm⟩)
  have hmax : len ≤ 9223372036854775807 := by unfold maxLen at hcm; omega
  have mem : ∀ a ∈ l, ∃ i, l[i]? = some a := fun a ha => List.mem_iff_getElem?.1 ha
  refine ⟨l, ⟨some ad, cap, by rw [hl], by omega, rfl, by omega, fun _ => ⟨ad, rfl, fun j p hp => ?_⟩⟩, ?_, ?_, ?_⟩
  ·obtain ⟨⟨c, hcl, hK, hcc⟩, _⟩ := hq j p hp
   exact ⟨c, hcl, hK, hcc⟩
  ·intro a ha
   obtain ⟨i, hi⟩ := mem a ha
   exact (hq i a hi).2.1
  ·intro hw
   simp only [DataW.weights, ht, List.all_cons, Bool.and_eq_true, decide_eq_true_eq, all_append, List.length_map, hb] at hw
   obtain ⟨hw1, hw2, _⟩ := hw
   have hw1' : (elems.length + rest.length) * b ≤ 140737488351232 := hw1
   refine ⟨?_, ?_⟩
   ·rw [hl, ← hlen]
    exact Nat.le_trans (Nat.mul_le_mul_right b (Nat.le_add_right _ _)) hw1'
   ·intro a ha
    obtain ⟨i, hi⟩ := mem a ha
    have hlt : i < elems.length := by have := (List.getElem?_eq_some_iff.1 hi).1; omega
    refine ((hq i a hi).2.2 _ (List.getElem?_eq_getElem hlt)).1 (weights_all hw2 _ ?_)
    exact List.mem_map.2 ⟨_, List.getElem_mem hlt, rfl⟩
  ·have hbk : (l.map m).sum ≤ Rows.uptoBulkAll (elems.map (·.1)) := bulk_all (by rw [hl, List.length_map, hlen]) (fun i a y h1 h2 => by
    rw [List.getElem?_map, Option.map_eq_some_iff] at h2
    obtain ⟨z, hz, rfl⟩ := h2
    exact ((hq i a h1).2.2 z hz).2)
   simp only [Rows.uptoBulk]
   omega

/-- The fields of a struct, one behind the other, from a place on. -/
structure OpensF {α : Type} (P : Program) (off : Nat) (fs : List Field) (d : Kd α) (V L : α → Prop) (m : α → Nat) : Prop where
 out : ∀ {H : Type} {enc : TypeId × Value → H} {w : World} {base : Nat} {spare : Nat → Bool} {held : Bool} {fuel : Nat} {cs : List Value} {xs : List (DataW H × List MemPlace)},
  fs.mapM (fun f => DataW.trod enc P w base spare held fuel f.type ((cs.drop f.offset).take (P.cellsOf f.type))) = some xs → cs.length = off + d.sz →
  ∃ a : α, d.K w a (cs.drop off) ∧ V a ∧ ((DataW.weightsEach P (fs.map (·.type)) (xs.map (·.1))).all (· ≤ reachBytes) = true → L a) ∧ m a ≤ Rows.uptoBulkAll (xs.map (·.1))
theorem opensF_one {α : Type} {P : Program} {off : Nat} {f : Field} {d : Kd α} {V L : α → Prop} {m : α → Nat} (ho : Opens P f.type d V L m) (hoff : f.offset = off) (hsz : P.cellsOf f.type = d.sz) : OpensF P off [f] d V L m where
 out {H enc w base spare held fuel cs xs} h hl := by
  obtain ⟨h1, h2⟩ := mapM_some h
  have e : xs = [xs[0]'(by rw [h1]; simp)] := by
   apply List.ext_getElem
   ·simpa using h1
   ·intro i hi _
    have : i = 0 := by rw [h1] at hi; simpa using hi
    subst this
    rfl
  have h3 := h2 0 (by simp)
  rw [List.getElem?_eq_getElem (by rw [h1]; simp)] at h3
  simp only [List.getElem_cons_zero] at h3
  rw [hoff, hsz, List.take_of_length_le (by rw [List.length_drop]; omega)] at h3
  obtain ⟨a, hK, hV, hL, hm⟩ := ho.out h3
  refine ⟨a, hK, hV, fun hw => hL ?_, ?_⟩
  ·rw [e] at hw
   simpa [DataW.weightsEach] using hw
  ·rw [e]
   simpa [Rows.uptoBulkAll] using hm
theorem opensF_cons {α β : Type} {P : Program} {off : Nat} {f : Field} {fs : List Field} {d : Kd α} {V L : α → Prop} {m : α → Nat} {d' : Kd β} {V' L' : β → Prop} {m' : β → Nat}
  (ho : Opens P f.type d V L m) (hoff : f.offset = off) (hsz : P.cellsOf f.type = d.sz) (hr : OpensF P (off + d.sz) fs d' V' L' m') :
  OpensF P off (f :: fs) (Kd.pair d d') (fun a => V a.1 ∧ V' a.2) (fun a => L a.1 ∧ L' a.2) (fun a => m a.1 + m' a.2) where
 out {H enc w base spare held fuel cs xs} h hl := by
  rw [List.mapM_cons] at h
  simp only [Option.bind_eq_bind, Option.bind_eq_some_iff, Option.pure_def, Option.some.injEq] at h
  obtain ⟨x, hx, xs', hxs, rfl⟩ := h
  rw [hoff, hsz] at hx
  have hl' : cs.length = off + (d.sz + d'.sz) := hl
  obtain ⟨a, hK, hV, hL, hm⟩ := ho.out hx
  obtain ⟨b, hK', hV', hL', hm'⟩ := hr.out hxs (by omega)
  refine ⟨(a, b), ⟨_, _, ?_, hK, hK'⟩, ⟨hV, hV'⟩, fun hw => ?_, ?_⟩
  ·rw [← List.drop_drop, List.take_append_drop]
  ·simp only [List.map_cons, DataW.weightsEach, all_append] at hw
   exact ⟨hL hw.1, hL' hw.2⟩
  ·simp only [List.map_cons, Rows.uptoBulkAll]
   omega
theorem opens_struct {α β : Type} {P : Program} {t : TypeId} {fs : Array Field} {d : Kd α} {V L : α → Prop} {m : α → Nat} (f : β → α) (g : α → β) (hfg : ∀ a, f (g a) = a) (ht : P.underlying t = some (.struct fs)) (hsz : P.cellsOf t = d.sz) (hf : OpensF P 0 fs.toList d V L m) :
  Opens P t (Kd.iso d f) (fun b => V (f b)) (fun b => L (f b)) (fun b => m (f b) + 1) where
 out {H enc w base spare held fuel cs x} h := by
  cases fuel with
  |zero => simp [DataW.trod] at h
  |succ n =>
   unfold DataW.trod at h
   rw [ht] at h
   simp only at h
   split at h
   ·rename_i hl
    rw [Option.map_eq_some_iff] at h
    obtain ⟨xs, hxs, rfl⟩ := h
    obtain ⟨a, hK, hV, hL, hm⟩ := hf.out hxs (by omega)
    refine ⟨g a, ?_, ?_, ?_, ?_⟩
    ·show d.K w (f (g a)) cs
     rw [hfg]
     simpa using hK
    ·show V (f (g a))
     rw [hfg]; exact hV
    ·intro hw
     show L (f (g a))
     rw [hfg]
     simp only [DataW.weights, ht] at hw
     exact hL hw
    ·rw [hfg]
     simp only [Rows.uptoBulk]
     omega
   ·cases h
end Go.Proofs.Ytbgilmdmebmcnaa.Open
