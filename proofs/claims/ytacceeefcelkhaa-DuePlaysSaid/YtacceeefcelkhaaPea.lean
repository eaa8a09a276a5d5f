/- What the laws stand on, in one text: functions of the program by their contracts, the plain mathematics behind them, and such of the printed words as these use. It began as the kit's print and own texts; put together by a program (trim.py). -/
import Derived.Below
import Derived.Deep.Draws
import Derived.Deep.AppendLies
import Derived.Maps.AppendAt
import Derived.OwnWalk
import Derived.Laws.BytesArg
import Derived.Laws.MakeOwn
import Derived.Laws.OwnMore
import Derived.Deep.OwnRows
import Derived.Tactics
import Derived.Lib.ConvBytes
import Derived.Laws.Slices
import Derived.WalkKit
import Derived.KernelRfl
import Derived.RowKit3
import Derived.Deep.LoopGhost
import Derived.Deep.QuietTactic
import Derived.BigQuiet
import Derived.WideLaws
import Derived.Deep.DeepCutAuto
import Derived.Deep.CutBlock
import Derived.Deep.RegionHeld3
import Derived.Laws.Rows
import Derived.Lib.AppendStr
import Derived.ArgAppend
import Derived.Laws.IdiomCopy
import Derived.RowKit
import Derived.OrdersHeld
import Derived.Laws.BitsLemmas
import Derived.Laws.StructEq
import Derived.Test.YtacceeefcelkhaaProg

namespace Go.Proofs.Ytacceeefcelkhaa.DueHeap
section
variable {α : Type} (le : α → α → Prop) (d : α)
def par (i : Nat) : Nat := (i - 1) / 2
def swap (l : List α) (i k : Nat) : List α := (l.set i (l.getD k d)).set k (l.getD i d)
def Heap (n : Nat) (l : List α) : Prop := ∀ i, 0 < i → i < n → le (l.getD (par i) d) (l.getD i d)
structure UpInv (n : Nat) (l : List α) (j : Nat) : Prop where
 a : ∀ i, 0 < i → i < n → i ≠ j → le (l.getD (par i) d) (l.getD i d)
 b : 0 < j → ∀ c, 0 < c → c < n → par c = j → le (l.getD (par j) d) (l.getD c d)
structure DownInv (n : Nat) (l : List α) (i0 i : Nat) : Prop where
 a : ∀ k, 0 < k → k < n → k ≠ i → par k ≠ i → le (l.getD (par k) d) (l.getD k d)
 b : 0 < i → ∀ c, 0 < c → c < n → par c = i → le (l.getD (par i) d) (l.getD c d)
 c : i ≠ i0 → 0 < i → le (l.getD (par i) d) (l.getD i d)
 ge : i0 ≤ i
variable {le d}
theorem swap_len (l : List α) (i k : Nat) : (swap d l i k).length = l.length := by simp [swap]
theorem swap_perm {l : List α} {i k : Nat} (hi : i < l.length) (hk : k < l.length) : (swap d l i k).Perm l := by
 have : ((l.set i l[k]).set k l[i]).Perm l := List.set_set_perm hi hk
 unfold swap
 rw [List.getD_eq_getElem?_getD, List.getElem?_eq_getElem hk, List.getD_eq_getElem?_getD, List.getElem?_eq_getElem hi]
 exact this
theorem swap_get {l : List α} {i k : Nat} (hi : i < l.length) (hk : k < l.length) (m : Nat) :
  (swap d l i k).getD m d = if m = k then l.getD i d else if m = i then l.getD k d else l.getD m d := by
 simp only [swap, List.getD_eq_getElem?_getD, List.getElem?_set, List.length_set]
 by_cases h1 : k = m
 ·subst h1; simp [hk]
 ·rw [if_neg h1, if_neg (Ne.symm h1)]
  by_cases h2 : i = m
  ·subst h2; simp [hi]
  ·rw [if_neg h2, if_neg (Ne.symm h2)]
theorem par_lt {i : Nat} (h : 0 < i) : par i < i := by unfold par; omega
theorem UpInv.step (tr : ∀ a b c, le a b → le b c → le a c) {n : Nat} {l : List α} {j : Nat} (h : UpInv le d n l j) (hn : n ≤ l.length) (hj : j < n) (h0 : 0 < j) (hlt : le (l.getD j d) (l.getD (par j) d)) :
  UpInv le d n (swap d l (par j) j) (par j) := by
 have hp := par_lt h0
 have g := swap_get (d := d) (l := l) (i := par j) (k := j) (by omega) (by omega)
 refine ⟨fun i hi hin hip => ?_, fun hp0 c hc hcn hcp => ?_⟩
 ·rw [g, g]
  have hpi := par_lt hi
  by_cases e1 : i = j
  ·subst e1
   rw [if_neg (by omega), if_pos rfl, if_pos rfl]
   exact hlt
  ·rw [if_neg e1, if_neg hip]
   by_cases e2 : par i = j
   ·rw [if_pos e2]; exact h.b h0 i hi hin e2
   ·rw [if_neg e2]
    by_cases e3 : par i = par j
    ·rw [if_pos e3]
     have := h.a i hi hin e1
     rw [e3] at this
     exact tr _ _ _ hlt this
    ·rw [if_neg e3]; exact h.a i hi hin e1
 ·rw [g, g]
  have hpp := par_lt hp0
  rw [if_neg (show par (par j) ≠ j by omega), if_neg (show par (par j) ≠ par j by omega)]
  have hpj := h.a (par j) hp0 (by omega) (by omega)
  by_cases e1 : c = j
  ·rw [if_pos e1]; exact hpj
  ·rw [if_neg e1, if_neg (by have := par_lt hc; omega)]
   have := h.a c hc hcn e1
   rw [hcp] at this
   exact tr _ _ _ hpj this
theorem UpInv.done {n : Nat} {l : List α} {j : Nat} (h : UpInv le d n l j) (hj : j = 0 ∨ le (l.getD (par j) d) (l.getD j d)) : Heap le d n l := by
 intro i hi hin
 by_cases e : i = j
 ·subst e
  rcases hj with hj | hj
  ·omega
  ·exact hj
 ·exact h.a i hi hin e
theorem UpInv.of_push {l : List α} (h : Heap le d l.length l) (x : α) : UpInv le d (l.length + 1) (l ++ [x]) l.length := by
 refine ⟨fun i hi hin hne => ?_, fun h0 c hc hcn hcp => ?_⟩
 ·have hil : i < l.length := by omega
  have := par_lt hi
  have := h i hi hil
  simp only [List.getD_eq_getElem?_getD, List.getElem?_append_left hil, List.getElem?_append_left (show par i < l.length by omega)] at this ⊢
  exact this
 ·have := par_lt hc
  omega
theorem DownInv.step {n : Nat} {l : List α} {i0 i j : Nat} (h : DownInv le d n l i0 i) (hn : n ≤ l.length) (hj : j < n) (h0 : 0 < j) (hp : par j = i)
  (hmin : ∀ c, 0 < c → c < n → par c = i → le (l.getD j d) (l.getD c d)) (hlt : le (l.getD j d) (l.getD i d)) : DownInv le d n (swap d l j i) i0 j := by
 have hij : i < j := by have := par_lt h0; omega
 have g := swap_get (d := d) (l := l) (i := j) (k := i) (by omega) (by omega)
 refine ⟨fun k hk hkn hkj hpk => ?_, fun _ c hc hcn hcp => ?_, fun _ _ => ?_, by have := h.ge; omega⟩
 ·rw [g, g]
  have hpk' := par_lt hk
  rw [if_neg hpk, if_neg hkj]
  by_cases e1 : k = i
  ·subst e1
   rw [if_pos rfl, if_neg (by omega)]
   exact h.b hk j h0 hj hp
  ·rw [if_neg e1]
   by_cases e2 : par k = i
   ·rw [if_pos e2]; exact hmin k hk hkn e2
   ·rw [if_neg e2]; exact h.a k hk hkn e1 e2
 ·rw [g, g]
  have := par_lt hc
  rw [hp, if_pos rfl, if_neg (show c ≠ i by omega), if_neg (show c ≠ j by omega)]
  have := h.a c hc hcn (by omega) (by omega)
  rw [hcp] at this
  exact this
 ·rw [g, g, hp, if_pos rfl, if_neg (by omega), if_pos rfl]
  exact hlt
theorem DownInv.up {n : Nat} {l : List α} {i0 : Nat} (h : DownInv le d n l i0 i0) (hc : ∀ c, 0 < c → c < n → par c = i0 → le (l.getD i0 d) (l.getD c d)) : UpInv le d n l i0 := by
 refine ⟨fun i hi hin hne => ?_, h.b⟩
 by_cases e : par i = i0
 ·have := hc i hi hin e
  rw [e]; exact this
 ·exact h.a i hi hin hne e
theorem DownInv.done {n : Nat} {l : List α} {i0 i : Nat} (h : DownInv le d n l i0 i) (hc : ∀ c, 0 < c → c < n → par c = i → le (l.getD i d) (l.getD c d)) (hne : i ≠ i0 ∨ i = 0) : Heap le d n l := by
 intro k hk hkn
 by_cases e : par k = i
 ·rw [e]; exact hc k hk hkn e
 ·by_cases e2 : k = i
  ·subst e2
   rcases hne with hne | hne
   ·exact h.c hne hk
   ·omega
  ·exact h.a k hk hkn e2 e
/-- The one taken out is swapped with the last one. -/
theorem DownInv.of_swap (tr : ∀ a b c, le a b → le b c → le a c) {n : Nat} {l : List α} {i : Nat} (h : Heap le d l.length l) (hl : l.length = n + 1) (hi : i < n) : DownInv le d n (swap d l i n) i i := by
 have g := swap_get (d := d) (l := l) (i := i) (k := n) (by omega) (by omega)
 refine ⟨fun k hk hkn hki hpk => ?_, fun h0 c hc hcn hcp => ?_, fun hne => absurd rfl hne, Nat.le_refl _⟩
 ·rw [g, g]
  have := par_lt hk
  rw [if_neg (by omega), if_neg hpk, if_neg (by omega), if_neg hki]
  exact h k hk (by omega)
 ·rw [g, g]
  have := par_lt h0
  have := par_lt hc
  rw [if_neg (by omega), if_neg (by omega), if_neg (by omega), if_neg (by omega)]
  have h1 := h i h0 (by omega)
  have h2 := h c hc (by omega)
  rw [hcp] at h2
  exact tr _ _ _ h1 h2
theorem Heap.take {n : Nat} {l : List α} (h : Heap le d n l) : Heap le d n (l.take n) := by
 intro i hi hin
 have := par_lt hi
 simp only [List.getD_eq_getElem?_getD, List.getElem?_take, if_pos hin, if_pos (show par i < n by omega)]
 simpa [List.getD_eq_getElem?_getD] using h i hi hin
theorem take_last_perm {n : Nat} {l l' : List α} (hp : l'.Perm l) (hl : l'.length = n + 1) : (l'.getD n d :: l'.take n).Perm l := by
 refine List.Perm.trans ?_ hp
 have e : l' = l'.take n ++ [l'.getD n d] := by
  have h1 : n < l'.length := by omega
  conv => lhs; rw [← List.take_append_drop n l']
  congr 1
  rw [List.getD_eq_getElem?_getD, List.getElem?_eq_getElem h1, List.drop_eq_getElem_cons h1, List.drop_of_length_le (by omega)]
  rfl
 conv => rhs; rw [e]
 exact (List.perm_append_singleton _ _).symm
/-- The root is the least. -/
theorem Heap.root (rf : ∀ a, le a a) (tr : ∀ a b c, le a b → le b c → le a c) {l : List α} (h : Heap le d l.length l) : ∀ i, i < l.length → le (l.getD 0 d) (l.getD i d) := by
 intro i
 induction i using Nat.strongRecOn with
 |ind i ih =>
  intro hi
  by_cases e : i = 0
  ·subst e; exact rf _
  ·have := par_lt (show 0 < i by omega)
   exact tr _ _ _ (ih (par i) this (by omega)) (h i (by omega) hi)
theorem Heap.least (rf : ∀ a, le a a) (tr : ∀ a b c, le a b → le b c → le a c) {l : List α} (h : Heap le d l.length l) {x : α} (hx : x ∈ l) : le (l.getD 0 d) x := by
 obtain ⟨i, hi, rfl⟩ := List.getElem_of_mem hx
 have := h.root rf tr i hi
 rw [List.getD_eq_getElem?_getD (i := i), List.getElem?_eq_getElem hi] at this
 exact this
theorem Heap.nil : Heap le d 0 [] := fun _ _ h => absurd h (Nat.not_lt_zero _)
end
end Go.Proofs.Ytacceeefcelkhaa.DueHeap

set_option linter.unusedVariables false
set_option linter.unusedSimpArgs false
namespace Go.Proofs.YtacceeefcelkhaaW.PrintWords
open Go.RowKit
/-- A fact that the walk's simp doesn't look into. -/
structure Aside0 (p : Prop) : Prop where mk :: (out : p)
/-- The world is the old one, some orders having been drawn. -/
structure Drawn0 (w w' : World) : Prop where mk :: (out : ∃ n, w' = w.drewN n)
theorem Drawn0.refl (w : World) : Drawn0 w w := ⟨⟨0, rfl⟩⟩
theorem below_alloc {w W : World} (h : Below w.heap.size w W) (o : Obj) : Below w.heap.size w (W.alloc o) := h.alloc h.size o
theorem below_drew {B : Nat} {w W : World} (h : Below B w W) : Below B w W.drew := ⟨h.os, h.tape, h.output, h.size, h.block⟩
theorem pw_below_drewN {B : Nat} {w W : World} (h : Below B w W) (n : Nat) : Below B w (W.drewN n) := ⟨h.os, h.tape, h.output, h.size, h.block⟩
theorem below_then {B : Nat} {w w1 w2 : World} (h : Below B w w1) (hB : B ≤ w1.heap.size) (k : Below w1.heap.size w1 w2) : Below B w w2 :=
 h.trans ⟨k.os, k.tape, k.output, k.size, fun i hi => k.block i (Nat.lt_of_lt_of_le hi hB)⟩
theorem pw_cell_below {w w1 : World} (h : Below w.heap.size w w1) {a : Addr} {v : Value} (hc : w.cell? a = some v) : w1.cell? a = some v := (h.cell (World.block_lt_of_cell? w a hc)).trans hc
theorem add_plain (g j : Nat) : (⟨g, 0, none⟩ : Addr).add j = ⟨g, j, none⟩ := by unfold Addr.add; split <;> simp_all
def ReadsInt (w : World) (k : IntKind) (A : Option Addr) (n : Nat) (xs : List Int) : Prop :=
 xs.length = n ∧ n ≤ 9223372036854775807 ∧ (0 < n → ∃ ad, A = some ad ∧ ∀ j, j < n → w.cell? (ad.add j) = some (.int k (xs.getD j 0)))
theorem own_nil (W : World) (base : Nat) (e : TypeId) (size : Nat) : W.ownsRow base e size (.slice none 0 0) 0 [] := ⟨by simp, .inl ⟨rfl, rfl⟩⟩
theorem own_base {w : World} {base : Nat} {e : TypeId} {size n : Nat} {v : Value} {xs : List Value} (h : w.ownsRow base e size v n xs) (k : Nat) (hk : v.ownBlock = some k) : base ≤ k := by
 rcases h.2 with ⟨rfl, _⟩ | ⟨g, cap, cur, rfl, hb, _⟩
 ·simp [Value.ownBlock] at hk
 ·have : g = k := by simpa [Value.ownBlock] using hk
  omega
theorem own_lt {w : World} {base : Nat} {e : TypeId} {size n : Nat} {v : Value} {xs : List Value} (h : w.ownsRow base e size v n xs) (k : Nat) (hk : v.ownBlock = some k) : k < w.heap.size := by
 rcases h.2 with ⟨rfl, _⟩ | ⟨g, cap, cur, rfl, hb, hh, _⟩
 ·simp [Value.ownBlock] at hk
 ·have : g = k := by simpa [Value.ownBlock] using hk
  subst this
  exact (Array.getElem?_eq_some_iff.1 hh).1
/-- What is written is another row: this one lives on. -/
theorem own_other {w w1 : World} {base : Nat} {e : TypeId} {size n : Nat} {v : Value} {xs : List Value} (h : w.ownsRow base e size v n xs) {row : Option Nat} (hg : w.grownBy w1 row) (hne : v.ownBlock = none ∨ v.ownBlock ≠ row) : w1.ownsRow base e size v n xs := h.kept hg hne
/-- The shape of whatever is owned. -/
theorem own_slice {w : World} {base n : Nat} {e : TypeId} {size : Nat} {v : Value} {xs : List Value} (h : w.ownsRow base e size v n xs) : ∃ A c, v = .slice A n c := by
 rcases h.2 with ⟨rfl, rfl⟩ | ⟨g, cap, cur, rfl, _⟩
 ·exact ⟨none, 0, rfl⟩
 ·exact ⟨_, cap, rfl⟩
section
variable {P : Program} {ops : Array Oper} {rest : List Oper} {o : Oper} {a : Act} {Q : Exit → Act → World → Prop}
end
section
variable {P : Program}
end
section
variable {P : Program} {ops : Array Oper} {rest : List Oper} {o : Oper} {a : Act} {Q : Exit → Act → World → Prop}
end
def bytesOf (s : ByteArray) : List Int := s.data.toList.map fun b => (b.toNat : Int)
/-- Where the first answers, the second answers the same. -/
def LeO {α : Type} (a b : Option α) : Prop := ∀ r, a = some r → b = some r
theorem LeO.refl {α : Type} (a : Option α) : LeO a a := fun _ h => h
theorem LeO.none {α : Type} (b : Option α) : LeO Option.none b := fun _ h => by cases h
theorem LeO.trans {α : Type} {a b c : Option α} (h : LeO a b) (k : LeO b c) : LeO a c := fun r hr => k r (h r hr)
theorem LeO.map {α β : Type} {a a' : Option α} (f : α → β) (h : LeO a a') : LeO (a.map f) (a'.map f) := by
 intro r hr
 obtain ⟨x, hx, hf⟩ := Option.map_eq_some_iff.1 hr
 exact Option.map_eq_some_iff.2 ⟨x, h x hx, hf⟩
theorem more_rounds {α : Type} {g : Nat → Option α} (h : ∀ k, LeO (g k) (g (k + 1))) (k : Nat) : ∀ j, LeO (g k) (g (k + j))
 |0 => LeO.refl _
 |j + 1 => (more_rounds h k j).trans (h (k + j))
theorem at_rounds {α : Type} {g : Nat → Option α} (h : ∀ k, LeO (g k) (g (k + 1))) {k k' : Nat} (hk : k ≤ k') {r : α} (hr : g k = some r) : g k' = some r := by
 have := more_rounds h k (k' - k) r hr
 rwa [Nat.add_sub_cancel' hk] at this
def Reps {α : Type} (R : α → List Value → Prop) (size : Nat) (ps : List α) (cs : List Value) : Prop :=
 cs.length = ps.length * size ∧ ∀ j p, ps[j]? = some p → R p ((cs.drop (j * size)).take size)
theorem Reps.none {α : Type} (R : α → List Value → Prop) (size : Nat) : Reps R size [] [] := ⟨by simp, fun j p h => by simp at h⟩
theorem Reps.snoc {α : Type} {R : α → List Value → Prop} {size : Nat} {ps : List α} {cs c : List Value} {p : α} (h : Reps R size ps cs) (hp : R p c) (hc : c.length = size) : Reps R size (ps ++ [p]) (cs ++ c) := by
 refine ⟨by rw [List.length_append, h.1, hc, List.length_append, List.length_singleton, Nat.add_mul, Nat.one_mul], fun j q hq => ?_⟩
 rcases Nat.lt_or_ge j ps.length with hj | hj
 ·rw [List.getElem?_append_left hj] at hq
  have h1 : j * size + size ≤ cs.length := by rw [h.1, ← Nat.succ_mul]; exact Nat.mul_le_mul_right _ hj
  have h2 := h.2 j q hq
  rw [List.drop_append_of_le_length (by omega), List.take_append_of_le_length (by rw [List.length_drop]; omega)]
  exact h2
 ·have hj' : j = ps.length := by
   have := (List.getElem?_eq_some_iff.1 hq).1
   rw [List.length_append, List.length_singleton] at this
   omega
  subst hj'
  have hq' : p = q := by simpa using hq
  subst hq'
  rw [← h.1, List.drop_left, ← hc, List.take_length]
  exact hp
theorem Reps.imp_ {α : Type} {R R' : α → List Value → Prop} {size : Nat} {ps : List α} {cs : List Value} (h : Reps R size ps cs) (hR : ∀ p c, R p c → R' p c) : Reps R' size ps cs := ⟨h.1, fun j p hj => hR _ _ (h.2 j p hj)⟩
def ReadsRow {α : Type} (R : α → List Value → Prop) (size : Nat) (w : World) (A : Option Addr) (n : Nat) (ps : List α) : Prop :=
 ps.length = n ∧ n ≤ 9223372036854775807 ∧ (0 < n → ∃ ad, A = some ad ∧ ∀ j p, ps[j]? = some p → ∃ c, c.length = size ∧ R p c ∧ ∀ i u, c[i]? = some u → w.cell? (ad.add (j * size + i)) = some u)
theorem ReadsRow.get_ {α : Type} {R : α → List Value → Prop} {size : Nat} {w : World} {A : Option Addr} {n : Nat} {ps : List α} (h : ReadsRow R size w A n ps) (d : α) (i : Int) (h0 : 0 ≤ i) (h1 : i < n) :
  ∃ ad c, A = some ad ∧ c.length = size ∧ R (ps.getD i.toNat d) c ∧ ∀ j u, c[j]? = some u → w.cell? (ad.add (i.toNat * size + j)) = some u := by
 obtain ⟨ad, e, hc⟩ := h.2.2 (by omega)
 have hl : i.toNat < ps.length := by have := h.1; omega
 obtain ⟨c, hs, hr, hcell⟩ := hc i.toNat _ (List.getElem?_eq_getElem hl)
 refine ⟨ad, c, e, hs, ?_, hcell⟩
 rw [List.getD_eq_getElem?_getD, List.getElem?_eq_getElem hl]
 exact hr
theorem ReadsRow.imp_ {α : Type} {R R' : α → List Value → Prop} {size : Nat} {w w1 : World} {A : Option Addr} {n : Nat} {ps : List α} (h : ReadsRow R size w A n ps) (hb : Below w.heap.size w w1) (hR : ∀ p c, R p c → R' p c) : ReadsRow R' size w1 A n ps :=
 ⟨h.1, h.2.1, fun hn => by
  obtain ⟨ad, e, hc⟩ := h.2.2 hn
  refine ⟨ad, e, fun j p hj => ?_⟩
  obtain ⟨c, hs, hr, hcell⟩ := hc j p hj
  exact ⟨c, hs, hR _ _ hr, fun i u hu => pw_cell_below hb (hcell i u hu)⟩⟩
theorem own_reads_row {α : Type} {R : α → List Value → Prop} {w : World} {base n size : Nat} {e : TypeId} {v : Value} {ps : List α} {cs : List Value} (h : w.ownsRow base e size v n cs) (hR : Reps R size ps cs) (hn : ps.length = n) :
  ∃ A c, v = .slice A n c ∧ ReadsRow R size w A n ps := by
 rcases Nat.eq_zero_or_pos n with h0 | h0
 ·rcases h.2 with ⟨rfl, rfl⟩ | ⟨g, cap, cur, rfl, _⟩
  ·exact ⟨none, 0, rfl, hn, by omega, fun hp => absurd hp (by omega)⟩
  ·exact ⟨_, cap, rfl, hn, by omega, fun hp => absurd hp (by omega)⟩
 ·obtain ⟨g, cap, rfl, _, _⟩ := h.form h0
  have hm : n ≤ 9223372036854775807 := by
   rcases h.2 with ⟨_, h1⟩ | ⟨g', cap', cur, he, _, _, h1, h2, _⟩
   ·omega
   ·simp only [maxLen] at h2
    omega
  refine ⟨_, cap, rfl, hn, hm, fun _ => ⟨_, rfl, fun j p hj => ⟨(cs.drop (j * size)).take size, ?_, hR.2 j p hj, fun i u hu => ?_⟩⟩⟩
  ·have hjl := (List.getElem?_eq_some_iff.1 hj).1
   have h1 : j * size + size ≤ cs.length := by rw [hR.1, ← Nat.succ_mul]; exact Nat.mul_le_mul_right _ hjl
   rw [List.length_take, List.length_drop]
   omega
  ·refine h.cells (g := g) rfl _ u ?_
   rw [List.getElem?_take] at hu
   split at hu
   ·rw [List.getElem?_drop] at hu
    exact hu
   ·cases hu
/-- A field's address as_ the walk spells it. -/
theorem add_field (ad : Addr) (m j : Nat) (hj : 0 < j) : ad.add (m + j) = ⟨(ad.add m).block, (ad.add m).off + j, none⟩ := by
 unfold Addr.add
 by_cases hm : m = 0
 ·subst hm
  simp [Nat.ne_of_gt hj]
 ·simp [hm, Nat.add_assoc]
section
variable {P : Program} {ops : Array Oper} {rest : List Oper} {o : Oper} {a : Act} {Q : Exit → Act → World → Prop}
end
theorem own_ne {w : World} {base : Nat} {e t : TypeId} {size n g : Nat} {v : Value} {xs : List Value} {cs : Array Value} (h : w.ownsRow base e size v n xs) (hg : w.heap[g]? = some (.cells cs t (0, 0))) (hne : e ≠ t) : some g ≠ v.ownBlock := by
 rcases h.2 with ⟨rfl, _⟩ | ⟨g', cap, cur, rfl, _, hh, _⟩
 ·simp [Value.ownBlock]
 ·intro he
  have : g = g' := by simpa [Value.ownBlock] using he
  subst this
  rw [hg] at hh
  injection hh with hh
  injection hh with _ ht
  exact hne ht.symm
theorem blk_set {w : World} {g : Nat} {t : TypeId} {cs : Array Value} (h : w.heap[g]? = some (.cells cs t (0, 0))) (i : Nat) (u : Value) : (w.setCell ⟨g, i, none⟩ u).heap[g]? = some (.cells (cs.setIfInBounds i u) t (0, 0)) := by
 simp [World.setCell, Array.getElem?_modify, h]
theorem blk_far {w : World} {g : Nat} {t : TypeId} {cs : Array Value} (h : w.heap[g]? = some (.cells cs t (0, 0))) {p : Addr} (hp : g ≠ p.block) (u : Value) : (w.setCell p u).heap[g]? = some (.cells cs t (0, 0)) := (Below.heap_setCell w p u g hp).trans h
theorem blk_lt {w : World} {g : Nat} {o : Obj} (h : w.heap[g]? = some o) : g < w.heap.size := (Array.getElem?_eq_some_iff.1 h).1
theorem blk_cell {w : World} {g : Nat} {t : TypeId} {cs : Array Value} (h : w.heap[g]? = some (.cells cs t (0, 0))) (i : Nat) : w.cell? ⟨g, i, none⟩ = cs[i]? := cell_of_row w g i cs t (0, 0) h
theorem blk_frozen {w : World} {g : Nat} {t : TypeId} {cs : Array Value} (h : w.heap[g]? = some (.cells cs t (0, 0))) (i : Nat) : w.frozen? ⟨g, i, none⟩ = false := by simp [World.frozen?, h]
theorem blk_grown {w w1 : World} {g : Nat} {o : Obj} {row : Option Nat} (h : w.heap[g]? = some o) (hg : w.grownBy w1 row) (hne : some g ≠ row) : w1.heap[g]? = some o := (hg.block g (blk_lt h) hne).trans h
theorem blk_ne {w : World} {g g' : Nat} {t t' : TypeId} {cs cs' : Array Value} (h : w.heap[g]? = some (.cells cs t (0, 0))) (h' : w.heap[g']? = some (.cells cs' t' (0, 0))) (hne : t ≠ t') : g ≠ g' := by
 rintro rfl
 rw [h] at h'
 injection h' with h'
 injection h' with _ ht
 exact hne ht
def KeepBut (w w' : World) (g : Nat) (row : Option Nat) : Prop := w.heap.size ≤ w'.heap.size ∧ ∀ i, i < w.heap.size → i ≠ g → some i ≠ row → w'.heap[i]? = w.heap[i]?
theorem KeepBut.refl (w : World) (g : Nat) (row : Option Nat) : KeepBut w w g row := ⟨Nat.le_refl _, fun _ _ _ _ => rfl⟩
theorem KeepBut.of_grown {w w1 : World} {row : Option Nat} (h : w.grownBy w1 row) (g : Nat) : KeepBut w w1 g row := ⟨h.size, fun i hi _ hr => h.block i hi hr⟩
theorem KeepBut.of_below {w w1 : World} (h : Below w.heap.size w w1) (g : Nat) (row : Option Nat) : KeepBut w w1 g row := ⟨h.size, fun i hi _ _ => h.block i hi⟩
theorem KeepBut.set_ {w w1 : World} {g : Nat} {row : Option Nat} (h : KeepBut w w1 g row) (j : Nat) (u : Value) : KeepBut w (w1.setCell ⟨g, j, none⟩ u) g row :=
 ⟨by simpa [World.setCell] using h.1, fun i hi hg hr => (Below.heap_setCell w1 ⟨g, j, none⟩ u i hg).trans (h.2 i hi hg hr)⟩
theorem KeepBut.trans {w w1 w2 : World} {g : Nat} {row row1 : Option Nat} (h : KeepBut w w1 g row) (k : KeepBut w1 w2 g row1) (hr : row1 = row ∨ ∃ b, row1 = some b ∧ w.heap.size ≤ b) : KeepBut w w2 g row :=
 ⟨Nat.le_trans h.1 k.1, fun i hi hg hn => by
  refine (k.2 i (Nat.lt_of_lt_of_le hi h.1) hg ?_).trans (h.2 i hi hg hn)
  rcases hr with rfl | ⟨b, rfl, hb⟩
  ·exact hn
  ·intro e
   injection e with e
   omega⟩
/-- Another block, another row: they live on. -/
theorem KeepBut.blk {w w1 : World} {g g' : Nat} {row : Option Nat} {o : Obj} (h : KeepBut w w1 g row) (hb : w.heap[g']? = some o) (hg : g' ≠ g) (hr : some g' ≠ row) : w1.heap[g']? = some o := (h.2 g' (blk_lt hb) hg hr).trans hb
theorem KeepBut.own {w w1 : World} {g : Nat} {row : Option Nat} {base : Nat} {e : TypeId} {size n : Nat} {v : Value} {xs : List Value} (h : KeepBut w w1 g row) (ho : w.ownsRow base e size v n xs) (hg : v.ownBlock ≠ some g) (hr : v.ownBlock = none ∨ v.ownBlock ≠ row) : w1.ownsRow base e size v n xs := by
 obtain ⟨h1, h2⟩ := ho
 refine ⟨h1, ?_⟩
 rcases h2 with h2 | ⟨b, cap, cur, rfl, hb, hh, r⟩
 ·exact .inl h2
 ·refine .inr ⟨b, cap, cur, rfl, hb, h.blk hh ?_ ?_, r⟩
  ·intro e
   exact hg (by rw [← e]; rfl)
  ·rcases hr with hr | hr
   ·simp [Value.ownBlock] at hr
   ·exact hr
def Ev {α : Type} (g : Nat → Option α) (r : α) : Prop := ∃ K, ∀ k, K ≤ k → g k = some r
theorem Ev.of {α : Type} {g : Nat → Option α} {r : α} (hg : ∀ k, LeO (g k) (g (k + 1))) {k : Nat} (h : g k = some r) : Ev g r := ⟨k, fun _ hk => at_rounds hg hk h⟩
theorem Ev.now {α : Type} (r : α) : Ev (fun _ => some r) r := ⟨0, fun _ _ => rfl⟩
section
variable {P : Program} {ops : Array Oper} {o : Oper} {a : Act} {Q : Exit → Act → World → Prop} {K : Act → World → Prop}
theorem step_append_cells {w0 W : World} (base : Nat) (hw : Region.wanted o (yielded ops a.tmps) = true) (s x : Operand) (t e : TypeId) (z : Value) (size bytes : Nat)
  (ho : o.op = .call { callee := .builtin .append, args := #[s, x], argTypes := #[t, t] })
  (ht : P.underlying t = some (.slice e)) (hinfo : (P.info? e).map (fun i => (i.zero, i.size, i.bytes)) = some (some z, size, bytes)) (hz : z.cells.size = size) (hs0 : 0 < size) (hb0 : 0 < bytes)
  (v : Value) (n : Nat) (xs ys : List Value) (hs : a.eval s = v) (hx : a.eval x = .slice (some ⟨W.heap.size, 0, none⟩) 1 1) (hys : ys.length = size) (h1 : ∀ u ∈ ys, u.oneCell' = true)
  (HO : W.ownsRow base e size v n xs) (HB : Below base w0 W) (hbase : base ≤ W.heap.size) (hl : (n + 1) * bytes ≤ 140737488355328)
  (h : ∀ v1 w1, w1.ownsRow base e size v1 (n + 1) (xs ++ ys) → Below base w0 w1 → W.grownBy w1 v.ownBlock → (v1.ownBlock = v.ownBlock ∨ ∃ b, v1.ownBlock = some b ∧ W.heap.size ≤ b) → K (a.put o.dst v1) w1) :
  if Region.wanted o (yielded ops a.tmps) = true then Oper.wp P o a (W.alloc (.cells ys.toArray e)) K Q else K (a.put o.dst undef) (W.alloc (.cells ys.toArray e)) := by
 obtain ⟨i0, hi, hzz⟩ := Option.map_eq_some_iff.1 hinfo
 simp only [Prod.mk.injEq] at hzz
 obtain ⟨hz0, hz1, hz2⟩ := hzz
 have hlen : n + 1 ≤ 140737488355328 := Nat.le_trans (Nat.le_mul_of_pos_right _ hb0) hl
 rw [if_pos hw]
 obtain ⟨v1, w1, hr, hown, hg, _, hat⟩ := run_append_own_at (P := P) (W.alloc (.cells ys.toArray e)) base t o.type e i0 z size bytes ht hi hz0 hz1 hz2 hz hs0 v n xs (HO.alloc _) ⟨W.heap.size, 0, none⟩ 1 1 ys (by rw [hys]; simp)
  (by simpa using World.news_of_block (cs := ys.toArray) (t := e) (fr := (0, 0)) (heap_alloc_new W (.cells ys.toArray e))) h1 (by simp only [maxLen]; omega) hl (by simp; omega)
 unfold Oper.wp execOp
 simp only [ho, resolve, invoke, builtin, Sem.run_bind, Sem.run_pure, Result.andThen_ok, List.map_toArray, List.map_cons, List.map_nil, hs, hx, hr]
 refine h v1 w1 hown ((HB.alloc hbase _).grown hg (by simp; omega) (own_base HO)) (World.grownBy.trans (World.grownBy_alloc W _ _) hg) ?_
 rcases hat with hat | hat
 ·exact .inl hat
 ·exact .inr ⟨_, hat, by simp⟩
end
theorem own_weaken {w : World} {base base' : Nat} {e : TypeId} {size n : Nat} {v : Value} {xs : List Value} (h : w.ownsRow base e size v n xs) (hb : base' ≤ base) : w.ownsRow base' e size v n xs := by
 obtain ⟨h1, h2⟩ := h
 refine ⟨h1, ?_⟩
 rcases h2 with h2 | ⟨g, cap, cur, rfl, hg, r⟩
 ·exact .inl h2
 ·exact .inr ⟨g, cap, cur, rfl, Nat.le_trans hb hg, r⟩
section
variable {α : Type} {enc : α → Value} {d : α}
end
section
variable {α : Type} {P : Program} {ops : Array Oper} {rest : List Oper} {o : Oper} {a : Act} {Q : Exit → Act → World → Prop}
end
theorem blk_alloc {w : World} {g : Nat} {o : Obj} (h : w.heap[g]? = some o) (o' : Obj) : (w.alloc o').heap[g]? = some o := (Below.heap_alloc w o' g (blk_lt h)).trans h
theorem blk_drew {w : World} {g : Nat} {o : Obj} (h : w.heap[g]? = some o) : w.drew.heap[g]? = some o := h
theorem blk_below {w w1 : World} {g : Nat} {o : Obj} (h : w.heap[g]? = some o) (hb : Below w.heap.size w w1) : w1.heap[g]? = some o := (hb.block g (blk_lt h)).trans h
theorem blk_new (w : World) (o : Obj) : (w.alloc o).heap[w.heap.size]? = some o := heap_alloc_new w o
section
variable {P : Program}
end
theorem own_le {w : World} {base n m c size : Nat} {e : TypeId} {A : Option Addr} {xs : List Value} (h : w.ownsRow base e size (.slice A m c) n xs) : m ≤ c := by
 rcases h.2 with ⟨he, _⟩ | ⟨g, cap, cur, he, _, _, hnc, _⟩
 ·injection he with _ h2 h3
  omega
 ·injection he with _ h2 h3
  omega
def OwnRow {α : Type} (R : α → List Value → Prop) (e : TypeId) (size : Nat) (w : World) (base : Nat) (v : Value) (ps : List α) : Prop :=
 ∃ inner, w.ownsRow base e size v ps.length inner ∧ Reps R size ps inner
section
variable {α : Type} {R R' : α → List Value → Prop} {e : TypeId} {size : Nat} {w w1 : World} {base : Nat} {v : Value} {ps : List α}
theorem OwnRow.none_ (R : α → List Value → Prop) (e : TypeId) (size : Nat) (w : World) (base : Nat) : OwnRow R e size w base (.slice none 0 0) [] := ⟨[], own_nil _ _ _ _, Reps.none _ _⟩
theorem OwnRow.imp_ (h : OwnRow R e size w base v ps) (hR : ∀ p c, R p c → R' p c) : OwnRow R' e size w base v ps := by
 obtain ⟨inner, ho, hr⟩ := h
 exact ⟨inner, ho, hr.imp_ hR⟩
theorem OwnRow.other (h : OwnRow R e size w base v ps) {row : Option Nat} (hg : w.grownBy w1 row) (hne : v.ownBlock = none ∨ v.ownBlock ≠ row) : OwnRow R e size w1 base v ps := by
 obtain ⟨inner, ho, hr⟩ := h
 exact ⟨inner, own_other ho hg hne, hr⟩
theorem OwnRow.reads (h : OwnRow R e size w base v ps) : ∃ A c, v = .slice A ps.length c ∧ ps.length ≤ c ∧ ReadsRow R size w A ps.length ps := by
 obtain ⟨inner, ho, hr⟩ := h
 obtain ⟨A, c, rfl, hrow⟩ := own_reads_row ho hr rfl
 exact ⟨A, c, rfl, own_le ho, hrow⟩
theorem OwnRow.ne_block (h : OwnRow R e size w base v ps) {g : Nat} {t : TypeId} {cells : Array Value} (hb : w.heap[g]? = some (.cells cells t (0, 0))) (ht : e ≠ t) : some g ≠ v.ownBlock := by
 obtain ⟨inner, ho, hr⟩ := h
 exact own_ne ho hb ht
end
section
variable {P : Program} {ops : Array Oper} {rest : List Oper} {o : Oper} {a : Act} {Q : Exit → Act → World → Prop} {α : Type} {R : α → List Value → Prop}
end
section
variable {P : Program} {ops : Array Oper} {o : Oper} {a : Act} {Q : Exit → Act → World → Prop} {K : Act → World → Prop} {α : Type} {R : α → List Value → Prop}
end
/-- What is read as_ a row has its cells one behind the other. -/
theorem ReadsRow.inner_ {α : Type} {R : α → List Value → Prop} {size : Nat} {w : World} {ad : Addr} {n : Nat} {ps : List α} (h : ReadsRow R size w (some ad) n ps) :
  ∃ inner, Reps R size ps inner ∧ ∀ j u, inner[j]? = some u → w.cell? (ad.add j) = some u := by
 have key : ∀ m, m ≤ ps.length → ∃ inner, Reps R size (ps.take m) inner ∧ ∀ j u, inner[j]? = some u → w.cell? (ad.add j) = some u := by
  intro m
  induction m with
  |zero => exact fun _ => ⟨[], Reps.none _ _, fun j u hu => by simp at hu⟩
  |succ m ih =>
   intro hm
   obtain ⟨inner, hr, hc⟩ := ih (by omega)
   obtain ⟨ad', he, hcell⟩ := h.2.2 (by have := h.1; omega)
   injection he with he
   subst he
   obtain ⟨c, hcl, hp, hcc⟩ := hcell m _ (List.getElem?_eq_getElem (show m < ps.length by omega))
   refine ⟨inner ++ c, ?_, fun j u hu => ?_⟩
   ·rw [List.take_succ_eq_append_getElem (show m < ps.length by omega)]
    exact hr.snoc hp hcl
   ·have hil : inner.length = m * size := by rw [hr.1, List.length_take, Nat.min_eq_left (by omega)]
    rcases Nat.lt_or_ge j inner.length with hj | hj
    ·rw [List.getElem?_append_left hj] at hu
     exact hc j u hu
    ·rw [List.getElem?_append_right hj] at hu
     have := hcc (j - inner.length) u hu
     rwa [hil, Nat.add_sub_cancel' (by omega)] at this
 obtain ⟨inner, hr, hc⟩ := key ps.length (Nat.le_refl _)
 rw [List.take_length] at hr
 exact ⟨inner, hr, hc⟩
section
variable {α : Type} {P : Program}
end
section
variable {P : Program} {ops : Array Oper} {rest : List Oper} {o : Oper} {a : Act} {Q : Exit → Act → World → Prop}
end
/-- ok: which blocks the rows inside may be ('not the row that is being written'). -/
structure Kd (α : Type) where
 sz : Nat
 E : List Nat
 K : World → α → List Value → Prop
 M : World → Nat → (Nat → Prop) → α → List Value → Prop
 K_len : ∀ {w x cs}, K w x cs → cs.length = sz
 K_one : ∀ {w x cs}, K w x cs → ∀ u ∈ cs, u.oneCell' = true
 K_below : ∀ {w w1 : World} {x cs}, Below w.heap.size w w1 → K w x cs → K w1 x cs
 K_of_M : ∀ {w base ok x cs}, M w base ok x cs → K w x cs
 M_mono : ∀ {w base ok ok' x cs}, (∀ k, ok k → ok' k) → M w base ok x cs → M w base ok' x cs
 M_bound : ∀ {w : World} {base ok x cs}, M w base ok x cs → M w base (fun k => ok k ∧ base ≤ k ∧ k < w.heap.size ∧ ∃ q, q ∈ E ∧ ∃ cells, w.heap[k]? = some (.cells cells q (0, 0))) x cs
 M_move : ∀ {w w1 : World} {base ok x cs}, (∀ k, ok k → w1.heap[k]? = w.heap[k]?) → M w base ok x cs → M w1 base ok x cs
 M_lower : ∀ {w base base' ok x cs}, base' ≤ base → M w base ok x cs → M w base' ok x cs
theorem own_move {w w1 : World} {base : Nat} {e : TypeId} {size n : Nat} {v : Value} {xs : List Value} (h : w.ownsRow base e size v n xs) (hm : ∀ k, v.ownBlock = some k → w1.heap[k]? = w.heap[k]?) : w1.ownsRow base e size v n xs := by
 obtain ⟨h1, h2⟩ := h
 refine ⟨h1, ?_⟩
 rcases h2 with h2 | ⟨g, cap, cur, rfl, hg, hh, r⟩
 ·exact .inl h2
 ·exact .inr ⟨g, cap, cur, rfl, hg, (hm g (by simp [Value.ownBlock])).trans hh, r⟩
theorem own_typed {w : World} {base : Nat} {e : TypeId} {size n : Nat} {v : Value} {xs : List Value} (h : w.ownsRow base e size v n xs) (k : Nat) (hk : v.ownBlock = some k) : ∃ cells, w.heap[k]? = some (.cells cells e (0, 0)) := by
 rcases h.2 with ⟨rfl, _⟩ | ⟨g, cap, cur, rfl, hg, hh, r⟩
 ·simp [Value.ownBlock] at hk
 ·have : g = k := by simpa [Value.ownBlock] using hk
  subst this
  exact ⟨cur, hh⟩
namespace Kd
/-- A row of elements that is read. -/
def C {α : Type} (d : Kd α) (w : World) (A : Option Addr) (n : Nat) (xs : List α) : Prop := ReadsRow (d.K w) d.sz w A n xs
/-- A row of elements (type e) of the call's own; the elements' rows are not this one. -/
def R {α : Type} (d : Kd α) (e : Nat) (w : World) (base : Nat) (ok : Nat → Prop) (v : Value) (xs : List α) : Prop :=
 (∀ k, v.ownBlock = some k → ok k) ∧ OwnRow (d.M w base (fun k => ok k ∧ some k ≠ v.ownBlock)) e d.sz w base v xs
section
variable {α : Type} {d : Kd α} {e : Nat} {w w1 : World} {base : Nat} {ok ok' : Nat → Prop} {v : Value} {xs : List α}
theorem C_below {A : Option Addr} {n : Nat} (h : d.C w A n xs) (hb : Below w.heap.size w w1) : d.C w1 A n xs := ReadsRow.imp_ h hb (fun _ _ hp => d.K_below hb hp)
theorem R_nil (d : Kd α) (e : Nat) (w : World) (base : Nat) (ok : Nat → Prop) : d.R e w base ok (.slice none 0 0) [] := ⟨fun k hk => by simp [Value.ownBlock] at hk, OwnRow.none_ _ _ _ _ _⟩
theorem R_mono (h : d.R e w base ok v xs) (hok : ∀ k, ok k → ok' k) : d.R e w base ok' v xs := ⟨fun k hk => hok k (h.1 k hk), h.2.imp_ (fun _ _ hp => d.M_mono (fun k hk => ⟨hok k hk.1, hk.2⟩) hp)⟩
theorem R_bound (h : d.R e w base ok v xs) : d.R e w base (fun k => ok k ∧ base ≤ k ∧ k < w.heap.size ∧ ∃ q, q ∈ e :: d.E ∧ ∃ cells, w.heap[k]? = some (.cells cells q (0, 0))) v xs := by
 obtain ⟨h0, inner, ho, hr⟩ := h
 refine ⟨fun k hk => ?_, inner, ho, hr.imp_ (fun _ _ hp => d.M_mono (fun k hk => ?_) (d.M_bound hp))⟩
 ·obtain ⟨cells, hc⟩ := own_typed ho k hk
  exact ⟨h0 k hk, own_base ho k hk, own_lt ho k hk, e, List.mem_cons_self, cells, hc⟩
 ·obtain ⟨⟨h1, h2⟩, h3, h4, q, hq, hc⟩ := hk
  exact ⟨⟨h1, h3, h4, q, List.mem_cons_of_mem _ hq, hc⟩, h2⟩
theorem R_move (h : d.R e w base ok v xs) (hm : ∀ k, ok k → w1.heap[k]? = w.heap[k]?) : d.R e w1 base ok v xs := by
 obtain ⟨h0, inner, ho, hr⟩ := h
 exact ⟨h0, inner, own_move ho (fun k hk => hm k (h0 k hk)), hr.imp_ (fun _ _ hp => d.M_move (fun k hk => hm k hk.1) hp)⟩
theorem R_lower {base' : Nat} (h : d.R e w base ok v xs) (hb : base' ≤ base) : d.R e w base' ok v xs := by
 obtain ⟨h0, inner, ho, hr⟩ := h
 exact ⟨h0, inner, own_weaken ho hb, hr.imp_ (fun _ _ hp => d.M_lower hb hp)⟩
/-- Any mover: what is ok, and a block of w's, stays. -/
theorem R_step (h : d.R e w base ok v xs) (hm : ∀ k, ok k → k < w.heap.size → w1.heap[k]? = w.heap[k]?) : d.R e w1 base ok v xs :=
 R_mono (R_move (R_bound h) (fun k hk => hm k hk.1 hk.2.2.1)) (fun _ hk => hk.1)
theorem M_step {x : α} {cs : List Value} (h : d.M w base ok x cs) (hm : ∀ k, ok k → k < w.heap.size → w1.heap[k]? = w.heap[k]?) : d.M w1 base ok x cs :=
 d.M_mono (fun _ hk => hk.1) (d.M_move (fun k hk => hm k hk.1 hk.2.2.1) (d.M_bound h))
theorem R_below (h : d.R e w base ok v xs) (hb : Below w.heap.size w w1) : d.R e w1 base ok v xs := R_step h (fun k _ hk => hb.block k hk)
theorem M_below {x : α} {cs : List Value} (h : d.M w base ok x cs) (hb : Below w.heap.size w w1) : d.M w1 base ok x cs := M_step h (fun k _ hk => hb.block k hk)
/-- Another row (a block, or none) has been written. -/
theorem R_grown (h : d.R e w base ok v xs) {row : Option Nat} (hg : w.grownBy w1 row) (hok : ∀ k, ok k → some k ≠ row) : d.R e w1 base ok v xs := R_step h (fun k ho hk => hg.block k hk (hok k ho))
theorem R_keep (h : d.R e w base ok v xs) {g : Nat} (hk : KeepBut w w1 g none) (hok : ∀ k, ok k → k ≠ g) : d.R e w1 base ok v xs := R_step h (fun k ho hlt => hk.2 k hlt (hok k ho) (by simp))
/-- By types alone: the rows inside are none of a block of type t. -/
theorem R_types (h : d.R e w base ok v xs) {g t : Nat} {cells : Array Value} (hb : w.heap[g]? = some (.cells cells t (0, 0))) (ht : ∀ q, q ∈ e :: d.E → q ≠ t) : d.R e w base (fun k => ok k ∧ k ≠ g) v xs :=
 R_mono (R_bound h) (fun k hk => ⟨hk.1, by
  obtain ⟨_, _, _, q, hq, cells', hc⟩ := hk
  rintro rfl
  rw [hc] at hb
  injection hb with hb
  injection hb with _ hb
  exact ht q hq hb⟩)
theorem R_reads (h : d.R e w base ok v xs) : ∃ A c, v = .slice A xs.length c ∧ xs.length ≤ c ∧ d.C w A xs.length xs := by
 obtain ⟨A, c, he, hl, hr⟩ := OwnRow.reads h.2
 exact ⟨A, c, he, hl, hr.imp_ (Below.refl _ _) (fun _ _ hp => d.K_of_M hp)⟩
theorem R_slice (h : d.R e w base ok v xs) : ∃ A c, v = .slice A xs.length c := by
 obtain ⟨A, c, he, _⟩ := R_reads h
 exact ⟨A, c, he⟩
theorem R_own (h : d.R e w base ok v xs) : ∃ inner, w.ownsRow base e d.sz v xs.length inner := by
 obtain ⟨_, inner, ho, _⟩ := h
 exact ⟨inner, ho⟩
theorem R_ne (h : d.R e w base ok v xs) {g t : Nat} {cells : Array Value} (hb : w.heap[g]? = some (.cells cells t (0, 0))) (ht : e ≠ t) : some g ≠ v.ownBlock := OwnRow.ne_block h.2 hb ht
end
def scalar {α : Type} (enc : α → Value) (h1 : ∀ x, (enc x).oneCell' = true) : Kd α where
 sz := 1
 E := []
 K := fun _ x cs => cs = [enc x]
 M := fun _ _ _ x cs => cs = [enc x]
 K_len := fun h => by rw [h]; rfl
 K_one := fun h u hu => by
  rw [h] at hu
  rw [List.mem_singleton.1 hu]
  exact h1 _
 K_below := fun _ h => h
 K_of_M := fun h => h
 M_mono := fun _ h => h
 M_bound := fun h => h
 M_move := fun _ h => h
 M_lower := fun _ h => h
def int (k : IntKind) : Kd Int := scalar (Value.int k) (fun _ => rfl)
def bool : Kd Bool := scalar Value.bool (fun _ => rfl)
def string : Kd ByteArray := scalar Value.string (fun _ => rfl)
def slice {α : Type} (e : Nat) (d : Kd α) : Kd (List α) where
 sz := 1
 E := e :: d.E
 K := fun w xs cs => ∃ A c, cs = [.slice A xs.length c] ∧ xs.length ≤ c ∧ d.C w A xs.length xs
 M := fun w base ok xs cs => ∃ v, cs = [v] ∧ d.R e w base ok v xs
 K_len := by
  rintro w x cs ⟨A, c, rfl, _⟩
  rfl
 K_one := by
  rintro w x cs ⟨A, c, rfl, _⟩ u hu
  rw [List.mem_singleton.1 hu]
  rfl
 K_below := by
  rintro w w1 x cs hb ⟨A, c, rfl, hl, hr⟩
  exact ⟨A, c, rfl, hl, C_below hr hb⟩
 K_of_M := by
  rintro w base ok x cs ⟨v, rfl, h⟩
  obtain ⟨A, c, rfl, hl, hr⟩ := R_reads h
  exact ⟨A, c, rfl, hl, hr⟩
 M_mono := by
  rintro w base ok ok' x cs hok ⟨v, rfl, h⟩
  exact ⟨v, rfl, R_mono h hok⟩
 M_bound := by
  rintro w base ok x cs ⟨v, rfl, h⟩
  exact ⟨v, rfl, R_bound h⟩
 M_move := by
  rintro w w1 base ok x cs hm ⟨v, rfl, h⟩
  exact ⟨v, rfl, R_move h hm⟩
 M_lower := by
  rintro w base base' ok x cs hb ⟨v, rfl, h⟩
  exact ⟨v, rfl, R_lower h hb⟩
/-- Two in line. -/
def pair {α β : Type} (a : Kd α) (b : Kd β) : Kd (α × β) where
 sz := a.sz + b.sz
 E := a.E ++ b.E
 K := fun w x cs => ∃ c0 c1, cs = c0 ++ c1 ∧ a.K w x.1 c0 ∧ b.K w x.2 c1
 M := fun w base ok x cs => ∃ c0 c1, cs = c0 ++ c1 ∧ a.M w base ok x.1 c0 ∧ b.M w base ok x.2 c1
 K_len := by
  rintro w x cs ⟨c0, c1, rfl, h0, h1⟩
  rw [List.length_append, a.K_len h0, b.K_len h1]
 K_one := by
  rintro w x cs ⟨c0, c1, rfl, h0, h1⟩ u hu
  rcases List.mem_append.1 hu with hu | hu
  ·exact a.K_one h0 u hu
  ·exact b.K_one h1 u hu
 K_below := by
  rintro w w1 x cs hb ⟨c0, c1, rfl, h0, h1⟩
  exact ⟨c0, c1, rfl, a.K_below hb h0, b.K_below hb h1⟩
 K_of_M := by
  rintro w base ok x cs ⟨c0, c1, rfl, h0, h1⟩
  exact ⟨c0, c1, rfl, a.K_of_M h0, b.K_of_M h1⟩
 M_mono := by
  rintro w base ok ok' x cs hok ⟨c0, c1, rfl, h0, h1⟩
  exact ⟨c0, c1, rfl, a.M_mono hok h0, b.M_mono hok h1⟩
 M_bound := by
  rintro w base ok x cs ⟨c0, c1, rfl, h0, h1⟩
  refine ⟨c0, c1, rfl, a.M_mono ?_ (a.M_bound h0), b.M_mono ?_ (b.M_bound h1)⟩
  ·rintro k ⟨h2, h3, h4, q, hq, hc⟩
   exact ⟨h2, h3, h4, q, List.mem_append_left _ hq, hc⟩
  ·rintro k ⟨h2, h3, h4, q, hq, hc⟩
   exact ⟨h2, h3, h4, q, List.mem_append_right _ hq, hc⟩
 M_move := by
  rintro w w1 base ok x cs hm ⟨c0, c1, rfl, h0, h1⟩
  exact ⟨c0, c1, rfl, a.M_move hm h0, b.M_move hm h1⟩
 M_lower := by
  rintro w base base' ok x cs hb ⟨c0, c1, rfl, h0, h1⟩
  exact ⟨c0, c1, rfl, a.M_lower hb h0, b.M_lower hb h1⟩
/-- A Lean structure by its fields. -/
def iso {α β : Type} (d : Kd α) (f : β → α) : Kd β where
 sz := d.sz
 E := d.E
 K := fun w x cs => d.K w (f x) cs
 M := fun w base ok x cs => d.M w base ok (f x) cs
 K_len := d.K_len
 K_one := d.K_one
 K_below := d.K_below
 K_of_M := d.K_of_M
 M_mono := d.M_mono
 M_bound := d.M_bound
 M_move := d.M_move
 M_lower := d.M_lower
/-- Nothing is of this kind: where the nesting's depth is used up. -/
def bot {α : Type} (sz : Nat) (E : List Nat) : Kd α where
 sz := sz
 E := E
 K := fun _ _ _ => False
 M := fun _ _ _ _ _ => False
 K_len := fun h => h.elim
 K_one := fun h => h.elim
 K_below := fun _ h => h
 K_of_M := fun h => h
 M_mono := fun _ h => h
 M_bound := fun h => h
 M_move := fun _ h => h
 M_lower := fun _ h => h
/-- A type nested in itself: nested at most n deep .. -/
def upto {α : Type} (F : Kd α → Kd α) (sz : Nat) (E : List Nat) : Nat → Kd α
 |0 => bot sz E
 |n + 1 => F (upto F sz E n)
theorem C_get {α : Type} {d : Kd α} {w : World} {A : Option Addr} {n : Nat} {xs : List α} (h : d.C w A n xs) (z : α) (i : Int) (h0 : 0 ≤ i) (h1 : i < n) :
  ∃ ad c, A = some ad ∧ c.length = d.sz ∧ d.K w (xs.getD i.toNat z) c ∧ ∀ j u, c[j]? = some u → w.cell? (ad.add (i.toNat * d.sz + j)) = some u := ReadsRow.get_ h z i h0 h1
/-- What an append leaves: the old elements' rows and the new one's are not the new row's block. -/
theorem R_appended {α : Type} {d : Kd α} {e base : Nat} {ok okp : Nat → Prop} {W w1 : World} {v v1 : Value} {xs : List α} {p : α} {inner cs : List Value} (h0 : ∀ k, v.ownBlock = some k → ok k) (hr : Reps (d.M W base (fun k => ok k ∧ some k ≠ v.ownBlock)) d.sz xs inner) (hp : d.M W base okp p cs) (hokp : ∀ k, okp k → ok k ∧ some k ≠ v.ownBlock) (hfresh : ∀ k, W.heap.size ≤ k → ok k)
  (hown : w1.ownsRow base e d.sz v1 (xs.length + 1) (inner ++ cs)) (hg : W.grownBy w1 v.ownBlock) (hat : v1.ownBlock = v.ownBlock ∨ ∃ b, v1.ownBlock = some b ∧ W.heap.size ≤ b) : d.R e w1 base ok v1 (xs ++ [p]) := by
 have hne : ∀ k, some k ≠ v.ownBlock → k < W.heap.size → some k ≠ v1.ownBlock := by
  intro k hk hlt
  rcases hat with hat | ⟨b, hb, hle⟩
  ·rw [hat]; exact hk
  ·rw [hb]
   intro he
   injection he with he
   omega
 have step : ∀ {q : α} {c : List Value} {o : Nat → Prop}, d.M W base o q c → (∀ k, o k → ok k ∧ some k ≠ v.ownBlock) → d.M w1 base (fun k => ok k ∧ some k ≠ v1.ownBlock) q c := by
  intro q c o hq ho
  have h1 := d.M_move (w1 := w1) (fun k hk => hg.block k hk.2.2.1 (ho k hk.1).2) (d.M_bound hq)
  exact d.M_mono (fun k hk => ⟨(ho k hk.1).1, hne k (ho k hk.1).2 hk.2.2.1⟩) h1
 refine ⟨fun k hk => ?_, inner ++ cs, by rw [List.length_append, List.length_singleton]; exact hown, ?_⟩
 ·rcases hat with hat | ⟨b, hb, hle⟩
  ·exact h0 k (hat ▸ hk)
  ·rw [hb] at hk
   injection hk with hk
   exact hfresh k (by omega)
 ·exact (hr.imp_ (fun _ _ hq => step hq (fun _ hk => hk))).snoc (step hp hokp) (d.K_len (d.K_of_M hp))
section
variable {P : Program} {ops : Array Oper} {rest : List Oper} {o : Oper} {a : Act} {Q : Exit → Act → World → Prop} {α : Type}
end
section
variable {P : Program} {ops : Array Oper} {o : Oper} {a : Act} {Q : Exit → Act → World → Prop} {Kc : Act → World → Prop} {α : Type}
theorem R_append_step (d : Kd α) {w0 W : World} (base : Nat) (hw : Region.wanted o (yielded ops a.tmps) = true) (s x : Operand) (t e : TypeId) (z : Value) (bytes : Nat)
  (ho : o.op = .call { callee := .builtin .append, args := #[s, x], argTypes := #[t, t] })
  (ht : P.underlying t = some (.slice e)) (hinfo : (P.info? e).map (fun i => (i.zero, i.size, i.bytes)) = some (some z, d.sz, bytes)) (hz : z.cells.size = d.sz) (hs0 : 0 < d.sz) (hb0 : 0 < bytes)
  (v : Value) (xs : List α) (p : α) (cs : List Value) (ok okp : Nat → Prop) (hs : a.eval s = v) (hx : a.eval x = .slice (some ⟨W.heap.size, 0, none⟩) 1 1) (hp : d.M W base okp p cs) (hokp : ∀ k, okp k → ok k ∧ some k ≠ v.ownBlock) (hfresh : ∀ k, W.heap.size ≤ k → ok k)
  (HO : d.R e W base ok v xs) (HB : Below base w0 W) (hbase : base ≤ W.heap.size) (hl : (xs.length + 1) * bytes ≤ 140737488355328)
  (h : ∀ v1 w1, d.R e w1 base ok v1 (xs ++ [p]) → Below base w0 w1 → W.grownBy w1 v.ownBlock → (v1.ownBlock = v.ownBlock ∨ ∃ b, v1.ownBlock = some b ∧ W.heap.size ≤ b) → Kc (a.put o.dst v1) w1) :
  if Region.wanted o (yielded ops a.tmps) = true then Oper.wp P o a (W.alloc (.cells cs.toArray e)) Kc Q else Kc (a.put o.dst undef) (W.alloc (.cells cs.toArray e)) := by
 obtain ⟨h0, inner, hown, hr⟩ := HO
 refine step_append_cells base hw s x t e z d.sz bytes ho ht hinfo hz hs0 hb0 v xs.length inner cs hs hx (d.K_len (d.K_of_M hp)) (d.K_one (d.K_of_M hp)) hown HB hbase hl ?_
 intro v1 w1 hown1 hb1 hg1 hat1
 exact h v1 w1 (R_appended h0 hr hp hokp hfresh hown1 hg1 hat1) hb1 hg1 hat1
end
end Kd
namespace Kd
section
variable {α : Type} {F : Kd α → Kd α} {sz : Nat} {E : List Nat} {hs : ∀ n, (upto F sz E n).sz = sz} {hE : ∀ n q, q ∈ (upto F sz E n).E → q ∈ E}
end
end Kd
namespace Kd
end Kd
namespace Kd
section
variable {α β : Type} {d : Kd α} {d' : Kd β} {e e' : Nat} {w w1 W : World} {base b b' : Nat} {ok ok' okv oku : Nat → Prop} {v u : Value} {xs : List α} {ys : List β}
theorem R_reads' {A : Option Addr} {n c : Nat} (h : d.R e w base ok (.slice A n c) xs) : n = xs.length ∧ n ≤ c ∧ d.C w A xs.length xs := by
 obtain ⟨A', c', he, hl, hr⟩ := R_reads h
 injection he with h1 h2 h3
 subst h1
 exact ⟨h2, by omega, hr⟩
theorem R_lt (h : d.R e w base ok v xs) : ∀ k, v.ownBlock = some k → k < w.heap.size := by
 obtain ⟨inner, ho⟩ := R_own h
 exact own_lt ho
theorem R_base (h : d.R e w base ok v xs) : ∀ k, v.ownBlock = some k → base ≤ k := by
 obtain ⟨inner, ho⟩ := R_own h
 exact own_base ho
theorem R_form (h : d.R e w base ok v xs) (hp : 0 < xs.length) : ∃ g cap, v = .slice (some ⟨g, 0, none⟩) xs.length cap ∧ base ≤ g ∧ g < w.heap.size ∧ ∃ cells, w.heap[g]? = some (.cells cells e (0, 0)) := by
 obtain ⟨inner, ho⟩ := R_own h
 obtain ⟨g, cap, he, hb, hl⟩ := ho.form hp
 obtain ⟨cells, hc⟩ := own_typed ho g (by rw [he]; simp [Value.ownBlock])
 exact ⟨g, cap, he, hb, hl, cells, hc⟩
end
section
variable {w W : World} {A : Option Addr} {n : Nat}
variable {α : Type} {enc : α → Value} {h1 : ∀ x, (enc x).oneCell' = true} {e base g cap : Nat} {ok : Nat → Prop} {xs : List α}
end
section
variable {P : Program} {ops : Array Oper} {rest : List Oper} {o : Oper} {a : Act} {Q : Exit → Act → World → Prop}
theorem event_run {W w1 : World} {v : Value} (hgd : o.guard = none) (hrun : (execOp a.eval o).run P W = .ok (.value v) w1) (h : wpList P ops Q rest (a.put o.dst v) w1) : wpList P ops Q (o :: rest) a W := by
 refine wpList_plain hgd fun K hK => ?_
 unfold Oper.wp
 rw [hrun]
 exact hK _ _ h
variable {α : Type}
end
end Kd
theorem own_take {w : World} {base n m c size : Nat} {e : TypeId} {A : Option Addr} {xs : List Value} (h : w.ownsRow base e size (.slice A n c) n xs) (hm : m ≤ n) : w.ownsRow base e size (.slice A m c) m (xs.take (m * size)) := by
 obtain ⟨h1, h2⟩ := h
 refine ⟨by rw [List.length_take, h1]; exact Nat.min_eq_left (Nat.mul_le_mul_right _ hm), ?_⟩
 rcases h2 with ⟨he, h0⟩ | ⟨g, cap, cur, he, hb, hh, hnc, hcm, hcs, ht⟩
 ·injection he with ha _ hc
  subst ha; subst hc
  exact .inl ⟨by rw [show m = 0 by omega], by omega⟩
 ·injection he with ha _ hc
  subst ha; subst hc
  refine .inr ⟨g, c, cur, rfl, hb, hh, by omega, hcm, hcs, ?_⟩
  rw [← ht, List.take_take, Nat.min_eq_left (Nat.mul_le_mul_right _ hm)]
section
variable {P : Program}
end
section
variable {w w1 : World} {base n size : Nat} {e : TypeId} {v : Value} {xs : List Value}
/-- What a run of cells written leaves. -/
theorem setCells_far {g : Nat} : ∀ (vs : List Value) (o : Nat) {w : World} (k : Nat), k ≠ g → (w.setCells g o vs).heap[k]? = w.heap[k]?
 |[], _, _, _, _ => rfl
 |v :: r, o, w, k, hk => by
  rw [World.setCells, setCells_far r (o + 1) k hk]
  exact Below.heap_setCell w ⟨g, o, none⟩ v k hk
theorem setCells_same (g : Nat) : ∀ (vs : List Value) (o : Nat) (w : World), (w.setCells g o vs).os = w.os ∧ (w.setCells g o vs).tape = w.tape ∧ (w.setCells g o vs).output = w.output ∧ (w.setCells g o vs).heap.size = w.heap.size
 |[], _, _ => ⟨rfl, rfl, rfl, rfl⟩
 |v :: r, o, w => by
  obtain ⟨h1, h2, h3, h4⟩ := setCells_same g r (o + 1) (w.setCell ⟨g, o, none⟩ v)
  rw [World.setCells]
  exact ⟨h1, h2, h3, by rw [h4]; simp [World.setCell]⟩
theorem setCells_row {g : Nat} {e : TypeId} : ∀ (vs : List Value) (o : Nat) (w : World) (cur : Array Value), w.heap[g]? = some (.cells cur e (0, 0)) → o + vs.length ≤ cur.size →
  ∃ cur', (w.setCells g o vs).heap[g]? = some (.cells cur' e (0, 0)) ∧ cur'.size = cur.size ∧ cur'.toList = cur.toList.take o ++ vs ++ cur.toList.drop (o + vs.length)
 |[], o, w, cur, h, _ => ⟨cur, h, rfl, by simp⟩
 |v :: r, o, w, cur, h, hl => by
  have h2 := blk_set h o v
  simp only [List.length_cons] at hl
  obtain ⟨cur', h3, h4, h5⟩ := setCells_row r (o + 1) (w.setCell ⟨g, o, none⟩ v) _ h2 (by simp; omega)
  refine ⟨cur', h3, by rw [h4]; simp, ?_⟩
  rw [h5, Array.toList_setIfInBounds]
  have ho : o < cur.toList.length := by rw [Array.length_toList]; omega
  rw [List.take_set, List.drop_set_of_lt (by omega)]
  simp only [List.length_cons]
  rw [show o + 1 + r.length = o + (r.length + 1) by omega]
  congr 1
  rw [List.take_succ_eq_append_getElem ho, List.set_append_right _ _ (by rw [List.length_take]; omega)]
  have ho' : o < cur.size := by omega
  simp [Nat.min_eq_left (Nat.le_of_lt ho')]
end
section
variable {P : Program}
end
namespace Kd
theorem reps_take {α : Type} {R : α → List Value → Prop} {size m : Nat} {ps : List α} {cs : List Value} (h : Reps R size ps cs) (hm : m ≤ ps.length) : Reps R size (ps.take m) (cs.take (m * size)) := by
 refine ⟨by rw [List.length_take, List.length_take, h.1, Nat.min_eq_left hm, Nat.min_eq_left (Nat.mul_le_mul_right _ hm)], fun j p hj => ?_⟩
 rw [List.getElem?_take] at hj
 split at hj
 ·rename_i hjm
  have := h.2 j p hj
  have hle : j * size + size ≤ m * size := by rw [← Nat.succ_mul]; exact Nat.mul_le_mul_right _ hjm
  rw [List.drop_take, List.take_take, Nat.min_eq_left (by omega)]
  exact this
 ·cases hj
theorem R_take {α : Type} {d : Kd α} {e m n c : Nat} {w : World} {base : Nat} {ok : Nat → Prop} {A : Option Addr} {xs : List α} (h : d.R e w base ok (.slice A n c) xs) (hm : m ≤ xs.length) : d.R e w base ok (.slice A m c) (xs.take m) := by
 obtain ⟨h0, inner, ho, hr⟩ := h
 have hn : n = xs.length := by
  obtain ⟨A', c', he⟩ := own_slice ho
  injection he
 subst hn
 have hb : ∀ x y : Nat, (Value.slice A x c).ownBlock = (Value.slice A y c).ownBlock := by
  intro x y
  cases A <;> rfl
 refine ⟨fun k hk => h0 k (by rw [hb _ m]; exact hk), inner.take (m * d.sz), ?_, ?_⟩
 ·rw [List.length_take, Nat.min_eq_left hm]
  exact own_take ho hm
 ·rw [hb m xs.length]
  exact reps_take hr hm
section
variable {α : Type} {d : Kd α} {e : Nat} {w w1 W : World} {base : Nat} {ok ok' : Nat → Prop} {v : Value} {xs : List α}
end
section
variable {P : Program} {ops : Array Oper} {rest : List Oper} {o : Oper} {a : Act} {Q' : Exit → Act → World → Prop} {Kc : Act → World → Prop} {α : Type}
end
end Kd
namespace Kd
section
variable {α : Type} {d : Kd α} {e e' : Nat} {w w1 W : World} {base : Nat} {ok : Nat → Prop} {u v : Value} {xs : List α}
theorem R_typed (h : d.R e w base ok v xs) : ∀ k, v.ownBlock = some k → ∃ cells, w.heap[k]? = some (.cells cells e (0, 0)) := by
 obtain ⟨inner, ho⟩ := R_own h
 exact fun k hk => own_typed ho k hk
end
end Kd
theorem seg_get {α : Type} (a seg : List α) (o : Nat) (h : o + seg.length ≤ a.length) (q : Nat) :
  (a.take o ++ seg ++ a.drop (o + seg.length))[q]? = if q < o then a[q]? else if q < o + seg.length then seg[q - o]? else a[q]? := by
 have hl : (a.take o).length = o := by rw [List.length_take]; omega
 rw [List.append_assoc]
 by_cases h1 : q < o
 ·rw [if_pos h1, List.getElem?_append_left (by omega), List.getElem?_take, if_pos h1]
 ·rw [if_neg h1, List.getElem?_append_right (by omega), hl]
  by_cases h2 : q < o + seg.length
  ·rw [if_pos h2, List.getElem?_append_left (by omega)]
  ·rw [if_neg h2, List.getElem?_append_right (by omega), List.getElem?_drop]
   congr 1
   omega
namespace Kd
section
variable {α : Type} {d : Kd α} {e base g n cap : Nat} {ok okp : Nat → Prop} {W : World} {xs : List α}
/-- Element i of a row of one's own: its cells. -/
theorem R_elem (h : d.R e W base ok (.slice (some ⟨g, 0, none⟩) n cap) xs) (z : α) (i : Int) (h0 : 0 ≤ i) (h1 : i < n) :
  ∃ c, c.length = d.sz ∧ d.M W base (fun k => ok k ∧ k ≠ g) (xs.getD i.toNat z) c ∧ (∀ j u, c[j]? = some u → W.cell? ⟨g, i.toNat * d.sz + j, none⟩ = some u) ∧ ∀ j, W.frozen? ⟨g, i.toNat * d.sz + j, none⟩ = false := by
 obtain ⟨hn, hnc, hC⟩ := R_reads' h
 obtain ⟨_, inner, ho, hr⟩ := h
 have hil : i.toNat < xs.length := by omega
 have hseg : i.toNat * d.sz + d.sz ≤ inner.length := by rw [hr.1, ← Nat.succ_mul]; exact Nat.mul_le_mul_right _ hil
 have hM := hr.2 i.toNat _ (List.getElem?_eq_getElem hil)
 refine ⟨(inner.drop (i.toNat * d.sz)).take d.sz, by rw [List.length_take, List.length_drop]; omega, ?_, fun j u hu => ?_, fun j => ?_⟩
 ·rw [List.getD_eq_getElem?_getD, List.getElem?_eq_getElem hil]
  exact d.M_mono (fun k hk => ⟨hk.1, fun he => hk.2 (by rw [he]; simp [Value.ownBlock])⟩) hM
 ·rw [List.getElem?_take] at hu
  split at hu
  ·rw [List.getElem?_drop] at hu
   have := ho.cells (g := g) (by simp [Value.ownBlock]) _ u hu
   rwa [add_plain] at this
  ·cases hu
 ·obtain ⟨cells, hc⟩ := own_typed ho g (by simp [Value.ownBlock])
  exact blk_frozen hc _
/-- A run of cells of element i is written: element i is x' then. c: the element's cells before (R_elem). -/
theorem R_seg (h : d.R e W base ok (.slice (some ⟨g, 0, none⟩) n cap) xs) (i : Int) (h0 : 0 ≤ i) (h1 : i < n) {c seg : List Value} {j : Nat} (hcl : c.length = d.sz) (hcc : ∀ j u, c[j]? = some u → W.cell? ⟨g, i.toNat * d.sz + j, none⟩ = some u)
  (hj : j + seg.length ≤ d.sz) {x' : α} (hM : d.M W base okp x' (c.take j ++ seg ++ c.drop (j + seg.length))) (hokp : ∀ k, okp k → ok k ∧ k ≠ g) :
  d.R e (W.setCells g (i.toNat * d.sz + j) seg) base ok (.slice (some ⟨g, 0, none⟩) n cap) (xs.set i.toNat x') ∧ W.grownBy (W.setCells g (i.toNat * d.sz + j) seg) (some g) := by
 obtain ⟨hn, hnc, _⟩ := R_reads' h
 obtain ⟨hok, inner, ho, hr⟩ := h
 have hil : i.toNat < xs.length := by omega
 have hseg : i.toNat * d.sz + d.sz ≤ inner.length := by rw [hr.1, ← Nat.succ_mul]; exact Nat.mul_le_mul_right _ hil
 have hin : inner.length = n * d.sz := by rw [hr.1, hn]
 obtain ⟨ho1, ho2⟩ := ho
 rcases ho2 with ⟨hv, _⟩ | ⟨g', cap', cur, hv, hb, hh, hnc', hcm, hcs, ht⟩
 ·cases hv
 injection hv with ha _ hc
 injection ha with ha
 injection ha with hg
 subst hg; subst hc
 have hfit : i.toNat * d.sz + j + seg.length ≤ cur.size := by
  have : n * d.sz ≤ cap * d.sz := Nat.mul_le_mul_right _ hnc
  omega
 obtain ⟨cur', h3, h4, h5⟩ := setCells_row seg (i.toNat * d.sz + j) W cur hh hfit
 obtain ⟨s1, s2, s3, s4⟩ := setCells_same g seg (i.toNat * d.sz + j) W
 have hfar : ∀ k, k ≠ g → (W.setCells g (i.toNat * d.sz + j) seg).heap[k]? = W.heap[k]? := fun k hk => setCells_far seg _ k hk
 -- the element's cells before are what was read
 have hcin : ∀ q, q < d.sz → c[q]? = inner[i.toNat * d.sz + q]? := by
  intro q hq
  have hq' : q < c.length := by omega
  have h6 := hcc q _ (List.getElem?_eq_getElem hq')
  rw [cell_of_row W g _ cur e (0, 0) hh] at h6
  rw [List.getElem?_eq_getElem hq', ← h6, ← ht, List.getElem?_take, if_pos (by rw [← hn]; omega), Array.getElem?_toList]
 refine ⟨⟨hok, inner.take (i.toNat * d.sz + j) ++ seg ++ inner.drop (i.toNat * d.sz + j + seg.length), ⟨?_, .inr ⟨g, cap, cur', by rw [List.length_set, hn], hb, h3, by rw [List.length_set, ← hn]; exact hnc, hcm, by rw [h4, hcs], ?_⟩⟩, ?_⟩,
  ⟨s1, s2, s3, by rw [s4]; exact Nat.le_refl _, fun k _ hk => hfar k (fun he => hk (by rw [he]))⟩⟩
 ·rw [List.length_set]
  simp only [List.length_append, List.length_take, List.length_drop]
  rw [hr.1] at hseg ⊢
  omega
 ·rw [List.length_set, ← hn]
  apply List.ext_getElem?
  intro q
  rw [List.getElem?_take, h5]
  rw [seg_get cur.toList seg (i.toNat * d.sz + j) (by rw [Array.length_toList]; omega) q, seg_get inner seg (i.toNat * d.sz + j) (by omega) q]
  have hcur : ∀ q, q < n * d.sz → cur.toList[q]? = inner[q]? := by
   intro q hq
   rw [← ht, List.getElem?_take, if_pos (by rw [← hn]; exact hq)]
  by_cases hq : q < n * d.sz
  ·rw [if_pos hq, hcur q hq]
  ·rw [if_neg hq, if_neg (by omega), if_neg (by omega), List.getElem?_eq_none (by omega)]
 ·refine ⟨?_, fun m p hm => ?_⟩
  ·rw [List.length_set]
   simp only [List.length_append, List.length_take, List.length_drop]
   rw [hr.1] at hseg ⊢
   omega
  ·have hml : m < xs.length := by
    have := (List.getElem?_eq_some_iff.1 hm).1
    rwa [List.length_set] at this
   have hmfit : m * d.sz + d.sz ≤ inner.length := by rw [hr.1, ← Nat.succ_mul]; exact Nat.mul_le_mul_right _ hml
   have hgo : some g = (Value.slice (some ⟨g, 0, none⟩) n cap).ownBlock := by simp [Value.ownBlock]
   by_cases hmi : m = i.toNat
   ·subst hmi
    rw [List.getElem?_set_self (by omega)] at hm
    injection hm with hm
    subst hm
    have hcells : ((inner.take (i.toNat * d.sz + j) ++ seg ++ inner.drop (i.toNat * d.sz + j + seg.length)).drop (i.toNat * d.sz)).take d.sz = c.take j ++ seg ++ c.drop (j + seg.length) := by
     apply List.ext_getElem?
     intro q
     rw [List.getElem?_take, List.getElem?_drop, seg_get inner seg _ (by omega), seg_get c seg j (by omega) q]
     by_cases hq : q < d.sz
     ·rw [if_pos hq, hcin q hq]
      by_cases hq1 : q < j
      ·rw [if_pos (by omega), if_pos hq1]
      ·rw [if_neg (by omega), if_neg hq1]
       by_cases hq2 : q < j + seg.length
       ·rw [if_pos (by omega), if_pos hq2]
        congr 1
        omega
       ·rw [if_neg (by omega), if_neg hq2]
     ·rw [if_neg hq, if_neg (by omega), if_neg (by omega), List.getElem?_eq_none (by omega)]
    rw [hcells]
    refine d.M_mono (fun k hk => ?_) (d.M_move (w1 := W.setCells g (i.toNat * d.sz + j) seg) (fun k hk => hfar k (hokp k hk).2) hM)
    exact ⟨(hokp k hk).1, fun he => (hokp k hk).2 (by rw [← hgo] at he; injection he)⟩
   ·rw [List.getElem?_set_ne (by omega)] at hm
    have hold := hr.2 m p hm
    have hcells : ((inner.take (i.toNat * d.sz + j) ++ seg ++ inner.drop (i.toNat * d.sz + j + seg.length)).drop (m * d.sz)).take d.sz = (inner.drop (m * d.sz)).take d.sz := by
     apply List.ext_getElem?
     intro q
     rw [List.getElem?_take, List.getElem?_take, List.getElem?_drop, List.getElem?_drop, seg_get inner seg _ (by omega)]
     by_cases hq : q < d.sz
     ·rw [if_pos hq, if_pos hq]
      rcases Nat.lt_or_gt_of_ne hmi with hlt | hgt
      ·have : m * d.sz + d.sz ≤ i.toNat * d.sz := by rw [← Nat.succ_mul]; exact Nat.mul_le_mul_right _ hlt
       rw [if_pos (by omega)]
      ·have : i.toNat * d.sz + d.sz ≤ m * d.sz := by rw [← Nat.succ_mul]; exact Nat.mul_le_mul_right _ hgt
       rw [if_neg (by omega), if_neg (by omega)]
     ·rw [if_neg hq, if_neg hq]
    rw [hcells]
    refine d.M_move (fun k hk => hfar k (fun he => hk.2 (by rw [he]; exact hgo))) hold
end
end Kd
namespace Kd
section
variable {α : Type} {F : Kd α → Kd α} {sz : Nat} {E : List Nat} {hs : ∀ n, (upto F sz E n).sz = sz} {hE : ∀ n q, q ∈ (upto F sz E n).E → q ∈ E}
end
end Kd
namespace Kd
theorem reps_append {α : Type} {R : α → List Value → Prop} {size : Nat} {ps qs : List α} {cs ds : List Value} (h : Reps R size ps cs) (h' : Reps R size qs ds) : Reps R size (ps ++ qs) (cs ++ ds) := by
 refine ⟨by rw [List.length_append, List.length_append, h.1, h'.1, Nat.add_mul], fun j p hj => ?_⟩
 rcases Nat.lt_or_ge j ps.length with hlt | hge
 ·rw [List.getElem?_append_left hlt] at hj
  have hle : j * size + size ≤ cs.length := by rw [h.1, ← Nat.succ_mul]; exact Nat.mul_le_mul_right _ hlt
  rw [List.drop_append_of_le_length (by omega), List.take_append_of_le_length (by rw [List.length_drop]; omega)]
  exact h.2 j p hj
 ·rw [List.getElem?_append_right hge] at hj
  have h2 := h'.2 (j - ps.length) p hj
  have hle : ps.length * size ≤ j * size := Nat.mul_le_mul_right _ hge
  rw [List.drop_append, List.drop_eq_nil_of_le (by rw [h.1]; exact hle), List.nil_append, h.1, ← Nat.sub_mul]
  exact h2
section
variable {P : Program} {ops : Array Oper} {rest : List Oper} {o : Oper} {a : Act} {Q : Exit → Act → World → Prop} {α : Type}
end
end Kd
namespace Kd
section
variable {P : Program} {ops : Array Oper} {rest : List Oper} {o : Oper} {a : Act} {Q : Exit → Act → World → Prop} {α : Type}
end
end Kd
theorem add_add (a : Addr) (i j : Nat) : (a.add i).add j = a.add (i + j) := by
 unfold Addr.add
 by_cases h1 : i = 0 <;> by_cases h2 : j = 0 <;> simp [h1, h2, Nat.add_assoc]
namespace Kd
section
variable {α : Type} {k : Kd α} {w : World} {A : Option Addr} {xs : List α} {m c : Nat}
theorem C_take (h : k.C w A xs.length xs) (hm : m ≤ xs.length) : k.C w A (xs.take m).length (xs.take m) := by
 have hl : (xs.take m).length = m := by rw [List.length_take]; omega
 refine ⟨rfl, by rw [hl]; have := h.2.1; omega, fun hp => ?_⟩
 obtain ⟨ad, e, hc⟩ := h.2.2 (by omega)
 refine ⟨ad, e, fun j p hj => hc j p ?_⟩
 rw [List.getElem?_take] at hj
 split at hj
 ·exact hj
 ·cases hj
theorem C_drop (h : k.C w A xs.length xs) (hm : m ≤ xs.length) (hc : xs.length ≤ c) : k.C w (if c = m then A else A.map (·.add (m * k.sz))) (xs.drop m).length (xs.drop m) := by
 have hl : (xs.drop m).length = xs.length - m := List.length_drop
 refine ⟨rfl, by rw [hl]; have := h.2.1; omega, fun hp => ?_⟩
 rw [hl] at hp
 obtain ⟨ad, rfl, hcell⟩ := h.2.2 (by omega)
 rw [if_neg (by omega)]
 refine ⟨ad.add (m * k.sz), rfl, fun j p hj => ?_⟩
 rw [List.getElem?_drop] at hj
 obtain ⟨cs, h1, h2, h3⟩ := hcell (m + j) p hj
 refine ⟨cs, h1, h2, fun i u hu => ?_⟩
 rw [add_add, show m * k.sz + (j * k.sz + i) = (m + j) * k.sz + i by rw [Nat.add_mul]; omega]
 exact h3 i u hu
end
end Kd
section
variable {P : Program}
end
theorem below_step {w W w2 : World} (h : Below w.heap.size w W) (k : Below W.heap.size W w2) : Below w.heap.size w w2 := below_then h h.size k
theorem below_set {w W : World} {g j : Nat} {v : Value} (h : Below w.heap.size w W) (hg : w.heap.size ≤ g) : Below w.heap.size w (W.setCell ⟨g, j, none⟩ v) := h.setCell hg _
namespace Kd
section
variable {α β : Type} {d : Kd α} {d' : Kd β} {e e' base base' n : Nat} {ok ok' : Nat → Prop} {w W w1 W1 : World} {v u : Value} {xs : List α} {ys : List β} {A : Option Addr} {c : Nat}
end
section
variable {α : Type} {enc : α → Value} {h1 : ∀ x, (enc x).oneCell' = true} {w W : World} {A : Option Addr} {n g : Nat} {xs : List α}
end
end Kd
namespace Kd
section
variable {α : Type} {d : Kd α} {e base g : Nat} {ok : Nat → Prop} {w w1 : World} {v : Value} {xs : List α} {o : Obj}
end
end Kd
section
variable {P : Program} {ops : Array Oper} {rest : List Oper} {o : Oper} {a : Act} {Q : Exit → Act → World → Prop}
theorem box_event {W : World} (hgd : o.guard = none) {N : Tmp} (_hd : o.dst = some N) {cs : Array Value} {t : TypeId}
  (hrun : (execOp a.eval o).run P W = .ok (.value (.pointer (some ⟨W.heap.size, 0, none⟩))) (W.alloc (.cells cs t (0, 0))))
  (h : ∀ g, g = W.heap.size → ∀ w1, w1.heap[g]? = some (.cells cs t (0, 0)) → Below W.heap.size W w1 → wpList P ops Q rest (a.put o.dst (.pointer (some ⟨g, 0, none⟩))) w1) : wpList P ops Q (o :: rest) a W :=
 Kd.event_run hgd hrun (h _ rfl _ (blk_new W _) (below_alloc (Below.refl _ _) _))
end
namespace Kd
section
variable {α : Type} {enc : α → Value} {h1 : ∀ x, (enc x).oneCell' = true} {e base g n cap : Nat} {ok : Nat → Prop} {W : World} {xs : List α}
end
end Kd
section
variable {P : Program} {ops : Array Oper} {rest : List Oper} {o : Oper} {a : Act} {Q : Exit → Act → World → Prop}
theorem store_event {W w1 : World} (hgd : o.guard = none) {t : TypeId} {p : Tmp} {v : Operand} (_ho : o.op = .store t (.tmp p) v) (hN : o.dst = none)
  (hrun : (execOp a.eval o).run P W = .ok .skip w1) (h : ∀ w', w' = w1 → wpList P ops Q rest a w') : wpList P ops Q (o :: rest) a W := by
 refine wpList_plain hgd fun K hK => ?_
 unfold Oper.wp
 rw [hrun]
 show K (a.put o.dst undef) w1
 rw [hN]
 exact hK _ _ (h _ rfl)
end
namespace Kd
section
variable {α : Type} {enc : α → Value} {h1 : ∀ x, (enc x).oneCell' = true} {e base g n cap : Nat} {ok : Nat → Prop} {W : World} {xs : List α}
end
end Kd
section
variable {P : Program} {ops : Array Oper} {rest : List Oper} {o : Oper} {a : Act} {Q : Exit → Act → World → Prop} {W : World}
theorem gate_dst {N : Tmp} (_hN : o.dst = some N) (h : wpList P ops Q (o :: rest) a W) : wpList P ops Q (o :: rest) a W := h
theorem gate_store {t : TypeId} {p : Tmp} {v : Operand} (_ho : o.op = .store t (.tmp p) v) (h : wpList P ops Q (o :: rest) a W) : wpList P ops Q (o :: rest) a W := h
end
section
variable {P : Program} {ops : Array Oper} {o : Oper} {a : Act} {Q : Exit → Act → World → Prop} {Kc : Act → World → Prop}
theorem event_step {W w1 : World} {v : Value} (hw : Region.wanted o (yielded ops a.tmps) = true) (hrun : (execOp a.eval o).run P W = .ok (.value v) w1) (h : Kc (a.put o.dst v) w1) : if Region.wanted o (yielded ops a.tmps) = true then Oper.wp P o a W Kc Q else Kc (a.put o.dst undef) W := by
 rw [if_pos hw]
 unfold Oper.wp
 rw [hrun]
 exact h
namespace Kd
variable {α : Type}
theorem R_lit_step (d : Kd α) {w0 W : World} (base e : Nat) (hw : Region.wanted o (yielded ops a.tmps) = true) {N : Tmp} (_hd : o.dst = some N) {xs : List α} {inner : List Value} {ok okp : Nat → Prop}
  (hrun : (execOp a.eval o).run P W = .ok (.value (.slice (some ⟨W.heap.size, 0, none⟩) xs.length xs.length)) (W.alloc (.cells inner.toArray e)))
  (hrep : Reps (d.M W base okp) d.sz xs inner) (hok : ∀ k, okp k → ok k) (hfresh : ok W.heap.size) (HB : Below base w0 W) (hbase : base ≤ W.heap.size) (hm : xs.length ≤ 9223372036854775807)
  (h : ∀ v1 w1, d.R e w1 base ok v1 xs → Below base w0 w1 → W.grownBy w1 none → (∃ b, v1.ownBlock = some b ∧ W.heap.size ≤ b) → Kc (a.put o.dst v1) w1) : if Region.wanted o (yielded ops a.tmps) = true then Oper.wp P o a W Kc Q else Kc (a.put o.dst undef) W := by
 refine event_step hw hrun (h _ _ ⟨fun k hk => ?_, inner, ?_, ?_⟩ (HB.alloc hbase _) (World.grownBy_alloc W _ none) ⟨W.heap.size, by simp [Value.ownBlock], Nat.le_refl _⟩)
 ·have : W.heap.size = k := by simpa [Value.ownBlock] using hk
  subst this
  exact hfresh
 ·have h2 := World.ownsRow_lit (base := base) (e := e) (size := d.sz) W inner.toArray xs.length hbase (by simpa [maxLen] using hm) (by simpa using hrep.1)
  simpa using h2
 ·refine hrep.imp_ (fun p c hp => d.M_mono (fun k hk => ⟨hok k hk.1, fun he => ?_⟩) (M_below (d.M_bound hp) (below_alloc (Below.refl _ _) _)))
  have h3 : k = W.heap.size := by simpa [Value.ownBlock] using he
  have := hk.2.2.1
  omega
theorem R_append_rows_step (d : Kd α) {Rr : α → List Value → Prop} {w0 W : World} (base : Nat) (hw : Region.wanted o (yielded ops a.tmps) = true) (s x : Operand) (t e : TypeId) (z : Value) (bytes : Nat)
  (ho : o.op = .call { callee := .builtin .append, args := #[s, x], argTypes := #[t, t] })
  (ht : P.underlying t = some (.slice e)) (hinfo : (P.info? e).map (fun i => (i.zero, i.size, i.bytes)) = some (some z, d.sz, bytes)) (hz : z.cells.size = d.sz) (hs0 : 0 < d.sz) (hb0 : 0 < bytes)
  (v : Value) (xs ys : List α) (A : Option Addr) (m c : Nat) (ok okp : Nat → Prop) (hs : a.eval s = v) (hx : a.eval x = .slice A m c)
  (HO : d.R e W base ok v xs) (HR : ReadsRow Rr d.sz W A m ys) (hKM : ∀ x cs, Rr x cs → d.M W base okp x cs) (hokp : ∀ k, okp k → ok k ∧ some k ≠ v.ownBlock) (hfresh : ∀ k, W.heap.size ≤ k → ok k)
  (HB : Below base w0 W) (hbase : base ≤ W.heap.size) (hl : (xs.length + m) * bytes ≤ 140737488355328)
  (h : ∀ v1 w1, d.R e w1 base ok v1 (xs ++ ys) → Below base w0 w1 → W.grownBy w1 v.ownBlock → (v1.ownBlock = v.ownBlock ∨ ∃ b, v1.ownBlock = some b ∧ W.heap.size ≤ b) → Kc (a.put o.dst v1) w1) :
  if Region.wanted o (yielded ops a.tmps) = true then Oper.wp P o a W Kc Q else Kc (a.put o.dst undef) W := by
 obtain ⟨i0, hi, hzz⟩ := Option.map_eq_some_iff.1 hinfo
 simp only [Prod.mk.injEq] at hzz
 obtain ⟨hz0, hz1, hz2⟩ := hzz
 have hm : ys.length = m := HR.1
 have hlen : xs.length + m ≤ 140737488355328 := Nat.le_trans (Nat.le_mul_of_pos_right _ hb0) hl
 obtain ⟨hok, inner, hown, hr⟩ := HO
 have hrun : ∃ v1 w1, (Builtin.append_ #[t, t] o.type #[v, .slice A m c]).run P W = .ok v1 w1 ∧ d.R e w1 base ok v1 (xs ++ ys) ∧ W.grownBy w1 v.ownBlock ∧ (v1.ownBlock = v.ownBlock ∨ ∃ b, v1.ownBlock = some b ∧ W.heap.size ≤ b) := by
  rcases A with _ | ad
  ·have h0 : m = 0 := by
    rcases Nat.eq_zero_or_pos m with h0 | h0
    ·exact h0
    ·obtain ⟨ad, h, _⟩ := HR.2.2 h0
     cases h
   subst h0
   obtain rfl : ys = [] := List.eq_nil_of_length_eq_zero hm
   refine ⟨v, W, ?_, by rw [List.append_nil]; exact ⟨hok, inner, hown, hr⟩, World.grownBy.refl W _, .inl rfl⟩
   rcases hown.2 with ⟨rfl, hn⟩ | ⟨g, cap, cur, rfl, _, _, hnc, _⟩
   ·simp [Builtin.append_, run_underlying ht, sizeOf, typeInfo, hi, Builtin.lenOf, Builtin.firstCells]
   ·simp [Builtin.append_, run_underlying ht, sizeOf, typeInfo, hi, Builtin.lenOf, Builtin.firstCells, hnc, storeCells]
  ·obtain ⟨news, hnr, hnc⟩ := ReadsRow.inner_ HR
   have hnM : Reps (d.M W base okp) d.sz ys news := hnr.imp_ (fun p c hp => hKM p c hp)
   have hone : ∀ u ∈ news, u.oneCell' = true := by
    intro u hu
    obtain ⟨q, hq, rfl⟩ := List.mem_iff_getElem.1 hu
    have hql : q / d.sz < ys.length := by
     rw [Nat.div_lt_iff_lt_mul hs0]
     rw [← hnM.1]
     exact hq
    have hc := hnM.2 (q / d.sz) _ (List.getElem?_eq_getElem hql)
    refine d.K_one (d.K_of_M hc) _ ?_
    rw [List.mem_iff_getElem?]
    refine ⟨q % d.sz, ?_⟩
    rw [List.getElem?_take, if_pos (Nat.mod_lt _ hs0), List.getElem?_drop, Nat.mul_comm, Nat.div_add_mod, List.getElem?_eq_getElem hq]
   obtain ⟨v1, w1, hrun, h2, hg, _, hat⟩ := run_append_own_at (P := P) W base t o.type e i0 z d.sz bytes ht hi hz0 hz1 hz2 hz hs0 v xs.length inner hown ad m c news (by rw [hnM.1, hm]) hnc hone (by simp only [maxLen]; omega) hl hbase
   have hat' : v1.ownBlock = v.ownBlock ∨ ∃ b, v1.ownBlock = some b ∧ W.heap.size ≤ b := by
    rcases hat with hat | hat
    ·exact .inl hat
    ·exact .inr ⟨_, hat, Nat.le_refl _⟩
   have hne : ∀ k, some k ≠ v.ownBlock → k < W.heap.size → some k ≠ v1.ownBlock := by
    intro k hk hlt
    rcases hat' with hat | ⟨b, hb, hle⟩
    ·rw [hat]; exact hk
    ·rw [hb]
     intro he
     injection he with he
     omega
   have step : ∀ {q : α} {c : List Value} {o : Nat → Prop}, d.M W base o q c → (∀ k, o k → ok k ∧ some k ≠ v.ownBlock) → d.M w1 base (fun k => ok k ∧ some k ≠ v1.ownBlock) q c := by
    intro q c o hq ho
    have h1 := d.M_move (w1 := w1) (fun k hk => hg.block k hk.2.2.1 (ho k hk.1).2) (d.M_bound hq)
    exact d.M_mono (fun k hk => ⟨(ho k hk.1).1, hne k (ho k hk.1).2 hk.2.2.1⟩) h1
   refine ⟨v1, w1, hrun, ⟨fun k hk => ?_, inner ++ news, by rw [List.length_append, hm]; exact h2, reps_append (hr.imp_ (fun _ _ hq => step hq (fun _ hk => hk))) (hnM.imp_ (fun _ _ hq => step hq hokp))⟩, hg, hat'⟩
   rcases hat' with hat | ⟨b, hb, hle⟩
   ·exact hok k (hat ▸ hk)
   ·rw [hb] at hk
    injection hk with hk
    exact hfresh k (by omega)
 obtain ⟨v1, w1, hr1, h1, hg, hat⟩ := hrun
 rw [if_pos hw]
 unfold Oper.wp execOp
 simp only [ho, resolve, invoke, builtin, Sem.run_bind, Sem.run_pure, Result.andThen_ok, List.map_toArray, List.map_cons, List.map_nil, hs, hx, hr1]
 exact h v1 w1 h1 (HB.grown hg hbase (own_base hown)) hg hat
end Kd
end
section
variable {P : Program} {tmps : Array Value} {w : World}
end
namespace Kd
section
variable {P : Program} {α : Type}
end
section
variable {P : Program} {ops : Array Oper} {rest : List Oper} {o : Oper} {a : Act} {Q : Exit → Act → World → Prop} {Kc : Act → World → Prop} {α : Type}
end
end Kd
end Go.Proofs.YtacceeefcelkhaaW.PrintWords

namespace Go.Proofs.Ytacceeefcelkhaa.DueSpec
open Go.RowKit
/-- at, urgency, id, number -/
structure Tk where
 at_ : Int
 urg : Int
 id : Int
 no : Int
deriving DecidableEq
def t0 : Tk := ⟨0, 0, 0, 0⟩
def earlyT (a b : Tk) : Bool := if a.at_ ≠ b.at_ then decide (a.at_ < b.at_) else decide (a.no < b.no)
def urgentT (a b : Tk) : Bool := if a.urg ≠ b.urg then decide (b.urg < a.urg) else earlyT a b
/-- not later than -/
def leE (a b : Tk) : Prop := earlyT b a = false
def leU (a b : Tk) : Prop := urgentT b a = false
theorem early_iff (a b : Tk) : earlyT a b = true ↔ a.at_ < b.at_ ∨ (a.at_ = b.at_ ∧ a.no < b.no) := by
 unfold earlyT; split <;> simp only [decide_eq_true_eq] <;> omega
theorem early_not (a b : Tk) : earlyT a b = false ↔ ¬ (a.at_ < b.at_ ∨ (a.at_ = b.at_ ∧ a.no < b.no)) := by
 rw [← early_iff]; simp
theorem urgent_iff (a b : Tk) : urgentT a b = true ↔ b.urg < a.urg ∨ (a.urg = b.urg ∧ (a.at_ < b.at_ ∨ (a.at_ = b.at_ ∧ a.no < b.no))) := by
 unfold urgentT; split
 ·simp only [decide_eq_true_eq]; omega
 ·rw [early_iff]; omega
theorem urgent_not (a b : Tk) : urgentT a b = false ↔ ¬ (b.urg < a.urg ∨ (a.urg = b.urg ∧ (a.at_ < b.at_ ∨ (a.at_ = b.at_ ∧ a.no < b.no)))) := by
 rw [← urgent_iff]; simp
theorem leE_rf (a : Tk) : leE a a := by unfold leE; rw [early_not]; omega
theorem leE_tr (a b c : Tk) (h : leE a b) (k : leE b c) : leE a c := by unfold leE at *; rw [early_not] at *; omega
theorem leE_of {a b : Tk} (h : earlyT a b = true) : leE a b := by unfold leE; rw [early_iff] at h; rw [early_not]; omega
theorem leU_rf (a : Tk) : leU a a := by unfold leU; rw [urgent_not]; omega
theorem leU_tr (a b c : Tk) (h : leU a b) (k : leU b c) : leU a c := by unfold leU at *; rw [urgent_not] at *; omega
theorem leU_of {a b : Tk} (h : urgentT a b = true) : leU a b := by unfold leU; rw [urgent_iff] at h; rw [urgent_not]; omega
end Go.Proofs.Ytacceeefcelkhaa.DueSpec

namespace Go.Proofs.YtacceeefcelkhaaW.PrintLast
section
variable {P : Program} {ops : Array Oper} {Q : Exit → Act → World → Prop} {md : Region.Mode} {S : World → Prop} {ds : List Nat}
/-- Operation d waits for operation i, by a chain of at most 'fuel' edges. -/
def Region.reachB (md : Region.Mode) (ops : Array Oper) (i : Nat) : Nat → Nat → Bool
 |0, _ => false
 |fuel + 1, d => match ops[d]? with
  |some o => o.after.any fun e => Region.binds md e && (e.on == i || Region.reachB md ops i fuel e.on)
  |none => false
/-- What is listed is closed under the edges. -/
def Region.closedB (md : Region.Mode) (ops : Array Oper) (listed : Array Bool) : Bool :=
 (List.range ops.size).all fun j => !listed.getD j false || match ops[j]? with
  |some o => o.after.all fun e => !Region.binds md e || listed.getD e.on false
  |none => true
/-- Each of ds that has not come up yet waits for number i. -/
def Region.lastB (md : Region.Mode) (ops : Array Oper) (listed : Array Bool) (ds : List Nat) (i : Nat) : Bool :=
 ds.all fun d => listed.getD d true || Region.reachB md ops i ops.size d
def ListedClosed (md : Region.Mode) (ops : Array Oper) (listed : Array Bool) : Prop :=
 ∀ j oj, ops[j]? = some oj → listed.getD j false = true → ∀ e ∈ oj.after, Region.binds md e = true → listed.getD e.on false = true
theorem Region.closedB_spec {listed : Array Bool} (h : Region.closedB md ops listed = true) : ListedClosed md ops listed := by
 intro j oj hj hl e he hb
 have hlt : j < ops.size := (Array.getElem?_eq_some_iff.1 hj).1
 have h1 := List.all_eq_true.1 h j (List.mem_range.2 hlt)
 simp only [hl, hj, Bool.not_true, Bool.false_or] at h1
 have h2 := Array.all_eq_true_iff_forall_mem.1 h1 e he
 simpa [hb] using h2
theorem ListedClosed.set {listed : Array Bool} {i : Nat} (h : ListedClosed md ops listed) (hi : i ∈ Region.ready md ops listed) : ListedClosed md ops (listed.setIfInBounds i true) := by
 obtain ⟨_, oi, hoi, hall⟩ := mem_ready.1 hi
 intro j oj hj hl e he hb
 by_cases hij : i = j
 ·subst hij
  have : oj = oi := Option.some.inj (hj.symm.trans hoi)
  subst this
  exact getD_set_true (hall e he hb)
 ·rw [getD_set_ne false hij] at hl
  exact getD_set_true (h j oj hj hl e he hb)
theorem Region.reach_listed {listed : Array Bool} {i : Nat} (hc : ListedClosed md ops listed) : ∀ (fuel d : Nat), Region.reachB md ops i fuel d = true → listed.getD d false = true → listed.getD i false = true
 |0, _, h, _ => by simp [Region.reachB] at h
 |fuel + 1, d, h, hl => by
  unfold Region.reachB at h
  cases ho : ops[d]? with
  |none => rw [ho] at h; simp at h
  |some o =>
   rw [ho] at h
   obtain ⟨e, he, h1⟩ := Array.any_eq_true'.1 h
   simp only [Bool.and_eq_true, Bool.or_eq_true, beq_iff_eq] at h1
   have hle := hc d o ho hl e he h1.1
   rcases h1.2 with h2 | h2
   ·rw [← h2]; exact hle
   ·exact Region.reach_listed hc fuel e.on h2 hle
/-- What waits for i cannot come up before i is listed. -/
theorem Region.reach_not_ready {listed : Array Bool} {i d fuel : Nat} (hc : ListedClosed md ops listed) (hr : Region.reachB md ops i fuel d = true) (hun : listed.getD i true = false) : d ∉ Region.ready md ops listed := by
 intro hd
 obtain ⟨_, o, ho, hall⟩ := mem_ready.1 hd
 have hi : listed.getD i false = true := by
  cases fuel with
  |zero => simp [Region.reachB] at hr
  |succ n =>
   unfold Region.reachB at hr
   rw [ho] at hr
   obtain ⟨e, he, h1⟩ := Array.any_eq_true'.1 hr
   simp only [Bool.and_eq_true, Bool.or_eq_true, beq_iff_eq] at h1
   have hle := hall e he h1.1
   rcases h1.2 with h2 | h2
   ·rw [← h2]; exact hle
   ·exact Region.reach_listed hc n e.on h2 hle
 rcases Nat.lt_or_ge i listed.size with h' | h'
 ·simp [h'] at hun hi
  rw [hun] at hi
  cases hi
 ·simp [Array.getElem?_eq_none h'] at hun
/-- Whatever order is picked from here on, AND 'S' HOLDS BEHIND EVERY OPERATION THAT IS CARRIED OUT, those of ds apart. -/
def wpAnyLast (P : Program) (md : Region.Mode) (ops : Array Oper) (Q : Exit → Act → World → Prop) (S : World → Prop) (ds : List Nat) : Nat → Array Bool → Act → World → Prop
 |0, listed, a, w => Region.ready md ops listed = [] ∧ Q .normal a w
 |fuel + 1, listed, a, w =>
  (Region.ready md ops listed = [] → Q .normal a w) ∧
  ∀ i ∈ Region.ready md ops listed, wpOp P ops Q i (fun a' w' => (i ∉ ds → S w → S w') ∧ wpAnyLast P md ops Q S ds fuel (listed.setIfInBounds i true) a' w') a w
theorem wpAny_of_last : ∀ (fuel : Nat) (listed : Array Bool) (a : Act) (w : World), wpAnyLast P md ops Q S ds fuel listed a w → wpAny P md ops Q fuel listed a w
 |0, _, _, _, h => h
 |fuel + 1, _, _, _, h => ⟨h.1, fun i hi => wpOp_mono (fun a' w' h' => wpAny_of_last fuel _ a' w' h'.2) (h.2 i hi)⟩
theorem wpAnyLast_first {i : Nat} {oi : Oper} {v : Value} (hi : ops[i]? = some oi) (hsel : ∀ (j : Nat) (o : Oper) cs b, ops[j]? = some o → o.op ≠ .select cs b)
  (hQ : ∀ c a w, Q (.panic c) (a.put oi.dst v) w → Q (.panic c) a w) (n : Nat) :
  ∀ (fuel : Nat) (listed : Array Bool) (a : Act) (w : World),
   (∀ j oj, ops[j]? = some oj → j ≠ i → listed.getD j true = false → (∀ e ∈ oj.after, Region.binds md e = true → e.on ≠ i) → oi.apart ops oj = true) →
   ListedClosed md ops listed → (∀ d ∈ ds, listed.getD d true = false → Region.reachB md ops i n d = true) →
   i ∈ Region.ready md ops listed → YieldsIf P ops S oi v a → S w →
   wpAnyLast P md ops Q S ds fuel (listed.setIfInBounds i true) (a.put oi.dst v) w → wpAnyLast P md ops Q S ds (fuel + 1) listed a w := by
 intro fuel
 induction fuel with
 |zero =>
  intro listed a w _ _ _ hr hy hS H
  refine ⟨fun h => (by rw [h] at hr; cases hr), fun j hj => ?_⟩
  by_cases hji : j = i
  ·subst hji; exact hy.wpOp hi hS ⟨fun _ h => h, H⟩
  ·have := ready_mono hj hji
   rw [H.1] at this
   cases this
 |succ fuel ih =>
  intro listed a w hfree hc hd hr hy hS H
  refine ⟨fun h => (by rw [h] at hr; cases hr), fun j hj => ?_⟩
  by_cases hji : j = i
  ·subst hji; exact hy.wpOp hi hS ⟨fun _ h => h, H⟩
  ·have h1 := H.2 j (ready_mono hj hji)
   obtain ⟨hjun, oj, hoj, hall⟩ := mem_ready.1 hj
   have hiun := (mem_ready.1 hr).1
   have hnot : ∀ e ∈ oj.after, Region.binds md e = true → e.on ≠ i := fun e he hb heq => by
    have h1 := hall e he hb
    rw [heq] at h1
    rcases Nat.lt_or_ge i listed.size with h' | h'
    ·simp [h'] at hiun h1; rw [hiun] at h1; cases h1
    ·simp [Array.getElem?_eq_none h'] at h1
   have hjd : j ∉ ds := fun hm => Region.reach_not_ready hc (hd j hm hjun) hiun hj
   have h2 := wpOp_putIf hoj (hfree j oj hoj hji hjun hnot) (fun cs b => hsel i oi cs b hi) (fun cs b => hsel j oj cs b hoj) hQ hy h1
   have hfree' : ∀ k ok, ops[k]? = some ok → k ≠ i → (listed.setIfInBounds j true).getD k true = false →
     (∀ e ∈ ok.after, Region.binds md e = true → e.on ≠ i) → oi.apart ops ok = true := fun k ok hk hki hun hno => by
    refine hfree k ok hk hki ?_ hno
    by_cases hjk : j = k
    ·subst hjk; exact hjun
    ·rw [getD_set_ne true hjk] at hun; exact hun
   have hd' : ∀ d ∈ ds, (listed.setIfInBounds j true).getD d true = false → Region.reachB md ops i n d = true := fun d hm hun => by
    refine hd d hm ?_
    by_cases hjk : j = d
    ·subst hjk; exact hjun
    ·rw [getD_set_ne true hjk] at hun; exact hun
   refine wpOp_mono (fun a' w' h3 => ⟨h3.2.1, ih (listed.setIfInBounds j true) a' w' hfree' (hc.set hj) hd' (ready_mono hr (Ne.symm hji)) h3.1 (h3.2.1 hjd hS) ?_⟩) h2
   rw [Array.setIfInBounds_comm _ _ hji]
   exact h3.2.2
/-- Take number 'i' first, which yields whatever the world: no S is asked for, nor that anything waits for it. -/
theorem wpAnyLast_any {i : Nat} {oi : Oper} {v : Value} (hi : ops[i]? = some oi) (hsel : ∀ (j : Nat) (o : Oper) cs b, ops[j]? = some o → o.op ≠ .select cs b)
  (hQ : ∀ c a w, Q (.panic c) (a.put oi.dst v) w → Q (.panic c) a w) :
  ∀ (fuel : Nat) (listed : Array Bool) (a : Act) (w : World),
   (∀ j oj, ops[j]? = some oj → j ≠ i → listed.getD j true = false → (∀ e ∈ oj.after, Region.binds md e = true → e.on ≠ i) → oi.apart ops oj = true) →
   i ∈ Region.ready md ops listed → Yields P ops oi v a →
   wpAnyLast P md ops Q S ds fuel (listed.setIfInBounds i true) (a.put oi.dst v) w → wpAnyLast P md ops Q S ds (fuel + 1) listed a w := by
 intro fuel
 induction fuel with
 |zero =>
  intro listed a w _ hr hy H
  refine ⟨fun h => (by rw [h] at hr; cases hr), fun j hj => ?_⟩
  by_cases hji : j = i
  ·subst hji; exact (hy.yieldsIf (S := fun _ => True)).wpOp hi trivial ⟨fun _ h => h, H⟩
  ·have := ready_mono hj hji
   rw [H.1] at this
   cases this
 |succ fuel ih =>
  intro listed a w hfree hr hy H
  refine ⟨fun h => (by rw [h] at hr; cases hr), fun j hj => ?_⟩
  by_cases hji : j = i
  ·subst hji; exact (hy.yieldsIf (S := fun _ => True)).wpOp hi trivial ⟨fun _ h => h, H⟩
  ·have h1 := H.2 j (ready_mono hj hji)
   obtain ⟨hjun, oj, hoj, hall⟩ := mem_ready.1 hj
   have hiun := (mem_ready.1 hr).1
   have hnot : ∀ e ∈ oj.after, Region.binds md e = true → e.on ≠ i := fun e he hb heq => by
    have h1 := hall e he hb
    rw [heq] at h1
    rcases Nat.lt_or_ge i listed.size with h' | h'
    ·simp [h'] at hiun h1; rw [hiun] at h1; cases h1
    ·simp [Array.getElem?_eq_none h'] at h1
   have h2 := wpOp_put hoj (hfree j oj hoj hji hjun hnot) (fun cs b => hsel i oi cs b hi) (fun cs b => hsel j oj cs b hoj) hQ hy h1
   have hfree' : ∀ k ok, ops[k]? = some ok → k ≠ i → (listed.setIfInBounds j true).getD k true = false →
     (∀ e ∈ ok.after, Region.binds md e = true → e.on ≠ i) → oi.apart ops ok = true := fun k ok hk hki hun hno => by
    refine hfree k ok hk hki ?_ hno
    by_cases hjk : j = k
    ·subst hjk; exact hjun
    ·rw [getD_set_ne true hjk] at hun; exact hun
   refine wpOp_mono (fun a' w' h3 => ⟨h3.2.1, ih (listed.setIfInBounds j true) a' w' hfree' (ready_mono hr (Ne.symm hji)) h3.1 ?_⟩) h2
   rw [Array.setIfInBounds_comm _ _ hji]
   exact h3.2.2
/-- Take number 'i' first. -/
theorem wpAnyLast_take {i : Nat} {oi : Oper} {v : Value} {fuel : Nat} {listed : Array Bool} {a : Act} {w : World} (hi : ops[i]? = some oi)
  (hs : Region.noSelect ops = true) (hf : Region.free md ops listed i = true) (hr : (Region.ready md ops listed).contains i = true)
  (hc : Region.closedB md ops listed = true) (hl : Region.lastB md ops listed ds i = true)
  (hQ : ∀ c a w, Q (.panic c) (a.put oi.dst v) w → Q (.panic c) a w) (hy : YieldsIf P ops S oi v a) (hS : S w)
  (h : wpAnyLast P md ops Q S ds fuel (listed.setIfInBounds i true) (a.put oi.dst v) w) : wpAnyLast P md ops Q S ds (fuel + 1) listed a w :=
 wpAnyLast_first hi (Region.noSelect_spec hs) hQ ops.size fuel listed a w (Region.free_spec hi hf) (Region.closedB_spec hc)
  (fun d hm hun => by have := List.all_eq_true.1 hl d hm; rw [hun] at this; simpa using this) (by simpa using hr) hy hS h
theorem wpAnyLast_all {rs : List Nat} {fuel : Nat} {listed : Array Bool} {a : Act} {w : World} (hr : Region.ready md ops listed = rs) (hne : rs ≠ [])
  (h : ∀ i ∈ rs, wpOp P ops Q i (fun a' w' => (i ∉ ds → S w → S w') ∧ wpAnyLast P md ops Q S ds fuel (listed.setIfInBounds i true) a' w') a w) : wpAnyLast P md ops Q S ds (fuel + 1) listed a w :=
 ⟨fun h0 => absurd (hr ▸ h0) hne, hr ▸ h⟩
theorem wpAnyLast_done {listed : Array Bool} {a : Act} {w : World} (hr : Region.ready md ops listed = []) (h : Q .normal a w) :
  ∀ fuel, wpAnyLast P md ops Q S ds fuel listed a w
 |0 => ⟨hr, h⟩
 |_ + 1 => ⟨fun _ => h, by rw [hr]; simp⟩
theorem wp_region_last {id : Nat} {a : Act} {w : World} (hm : P.follows .mixedOrders = true)
  (h : wpAnyLast P .any ops Q S ds ops.size (Array.replicate ops.size false) a { w with drawn := w.drawn + 1 }) : (Code.region id ops true).wp P Q a w :=
 wp_region_any hm (wpAny_of_last _ _ _ _ h)
end
section
variable {P : Program} {ops : Array Oper} {Q : Exit → Act → World → Prop} {md : Region.Mode} {S : World → Prop} {ds : List Nat}
def AllReadyL (P : Program) (md : Region.Mode) (ops : Array Oper) (Q : Exit → Act → World → Prop) (S : World → Prop) (ds : List Nat) (fuel : Nat) (listed : Array Bool) (a : Act) (w : World) (rs : List Nat) : Prop :=
 ∀ i ∈ rs, wpOp P ops Q i (fun a' w' => (i ∉ ds → S w → S w') ∧ wpAnyLast P md ops Q S ds fuel (listed.setIfInBounds i true) a' w') a w
theorem AllReadyL.nil {fuel : Nat} {listed : Array Bool} {a : Act} {w : World} : AllReadyL P md ops Q S ds fuel listed a w [] := fun _ h => by cases h
theorem AllReadyL.cons {fuel : Nat} {listed : Array Bool} {a : Act} {w : World} {i : Nat} {o : Oper} {rs : List Nat} (ho : ops[i]? = some o) (hd : i ∉ ds)
  (h : ∀ K' : Act → World → Prop, Shut (∀ a w, S w → (S w → wpAnyLast P md ops Q S ds fuel (listed.setIfInBounds i true) a w) → K' a w) → if Region.wanted o (yielded ops a.tmps) = true then Oper.wp P o a w K' Q else K' (a.put o.dst undef) w)
  (hs : AllReadyL P md ops Q S ds fuel listed a w rs) : AllReadyL P md ops Q S ds fuel listed a w (i :: rs) := fun j hj => by
 rcases List.mem_cons.1 hj with rfl | hj
 ·exact wpOp_step ho (fun K' hK => h K' (fun a w hS hW => hK a w ⟨fun _ _ => hS, hW hS⟩))
 ·exact hs j hj
/-- Behind an operation of ds nothing is shown. -/
theorem AllReadyL.cons_last {fuel : Nat} {listed : Array Bool} {a : Act} {w : World} {i : Nat} {o : Oper} {rs : List Nat} (ho : ops[i]? = some o) (hd : i ∈ ds)
  (h : ∀ K' : Act → World → Prop, Shut (∀ a w, wpAnyLast P md ops Q S ds fuel (listed.setIfInBounds i true) a w → K' a w) → if Region.wanted o (yielded ops a.tmps) = true then Oper.wp P o a w K' Q else K' (a.put o.dst undef) w)
  (hs : AllReadyL P md ops Q S ds fuel listed a w rs) : AllReadyL P md ops Q S ds fuel listed a w (i :: rs) := fun j hj => by
 rcases List.mem_cons.1 hj with rfl | hj
 ·exact wpOp_step ho (fun K' hK => h K' (fun a w hW => hK a w ⟨fun hn => absurd hd hn, hW⟩))
 ·exact hs j hj
theorem wpAnyLast_ready {rs : List Nat} {fuel : Nat} {listed : Array Bool} {a : Act} {w : World} (hr : Region.ready md ops listed = rs) (hne : rs ≠ [])
  (h : AllReadyL P md ops Q S ds fuel listed a w rs) : wpAnyLast P md ops Q S ds (fuel + 1) listed a w := wpAnyLast_all hr hne h
/-- THE SAME STEPS WITH WHAT HAS COME UP WRITTEN OUT (a literal array of Bools) and one check a step: quicker, and what is printed stays short. -/
theorem start_ {id n : Nat} {a : Act} {w : World} (l : Array Bool) (hm : P.follows .mixedOrders = true) (hn : ops.size = n) (hl : Array.replicate n false = l) (hS : S w.drew)
  (h : S w.drew → wpAnyLast P .any ops Q S ds n l a w.drew) : (Code.region id ops true).wp P Q a w := by
 subst hn
 subst hl
 exact wp_region_last hm (h hS)
def takeB (md : Region.Mode) (ops : Array Oper) (ds : List Nat) (l l' : Array Bool) (i : Nat) : Bool :=
 Region.noSelect ops && Region.free md ops l i && (Region.ready md ops l).contains i && Region.closedB md ops l && Region.lastB md ops l ds i && (l.setIfInBounds i true == l')
theorem take_ {i : Nat} {N : Option Tmp} {oi : Oper} {v : Value} {fuel : Nat} {l : Array Bool} {a : Act} {w : World} (l' : Array Bool) (hi : ops[i]? = some oi) (hN : oi.dst = N) (hc : takeB md ops ds l l' i = true)
  (hQ : ∀ c a w, Q (.panic c) (a.put oi.dst v) w → Q (.panic c) a w) (hy : YieldsIf P ops S oi v a) (hS : S w) {a' : Act} (ha : a.put N v = a')
  (h : wpAnyLast P md ops Q S ds fuel l' a' w) : wpAnyLast P md ops Q S ds (fuel + 1) l a w := by
 subst ha
 subst hN
 simp only [takeB, Bool.and_eq_true, beq_iff_eq] at hc
 obtain ⟨⟨⟨⟨⟨h1, h2⟩, h3⟩, h4⟩, h5⟩, h6⟩ := hc
 subst h6
 exact wpAnyLast_take hi h1 h2 h3 h4 h5 hQ hy hS h
def anyB (md : Region.Mode) (ops : Array Oper) (l l' : Array Bool) (i : Nat) : Bool :=
 Region.noSelect ops && Region.free md ops l i && (Region.ready md ops l).contains i && (l.setIfInBounds i true == l')
/-- An operation that yields in every world (a move, a number, an address): taken first wherever it may come up, behind a store too. -/
theorem pure_ {i : Nat} {N : Option Tmp} {oi : Oper} {v : Value} {fuel : Nat} {l : Array Bool} {a : Act} {w : World} (l' : Array Bool) (hi : ops[i]? = some oi) (hN : oi.dst = N) (hc : anyB md ops l l' i = true)
  (hQ : ∀ c a w, Q (.panic c) (a.put oi.dst v) w → Q (.panic c) a w) (hy : Yields P ops oi v a) {a' : Act} (ha : a.put N v = a')
  (h : wpAnyLast P md ops Q S ds fuel l' a' w) : wpAnyLast P md ops Q S ds (fuel + 1) l a w := by
 subst ha
 subst hN
 simp only [anyB, Bool.and_eq_true, beq_iff_eq] at hc
 obtain ⟨⟨⟨h1, h2⟩, h3⟩, h6⟩ := hc
 subst h6
 exact wpAnyLast_any hi (Region.noSelect_spec h1) hQ fuel l a w (Region.free_spec hi h2) (by simpa using h3) hy h
def readyB (md : Region.Mode) (ops : Array Oper) (l l' : Array Bool) (i : Nat) : Bool := (Region.ready md ops l == [i]) && (l.setIfInBounds i true == l')
/-- One operation alone may come up now (a call, a build, an append ..): it is run, S is shown behind it. -/
theorem one_ {i : Nat} {N : Option Tmp} {oi : Oper} {fuel : Nat} {l : Array Bool} {a : Act} {w : World} (l' : Array Bool) (hi : ops[i]? = some oi) (hN : oi.dst = N) (hc : readyB md ops l l' i = true) (hd : i ∉ ds)
  (h : ∀ K : Act → World → Prop, Shut (∀ a' w', S w' → (S w' → wpAnyLast P md ops Q S ds fuel l' a' w') → K a' w') → if Region.wanted oi (yielded ops a.tmps) = true then Oper.wp P oi a w K Q else K (a.put N undef) w) :
  wpAnyLast P md ops Q S ds (fuel + 1) l a w := by
 subst hN
 simp only [readyB, Bool.and_eq_true, beq_iff_eq] at hc
 obtain ⟨h1, h2⟩ := hc
 subst h2
 exact wpAnyLast_ready h1 (by simp) (AllReadyL.cons hi hd (fun K hK => h K hK) AllReadyL.nil)
/-- The same for one of ds: nothing is shown behind it. -/
theorem last_ {i : Nat} {N : Option Tmp} {oi : Oper} {fuel : Nat} {l : Array Bool} {a : Act} {w : World} (l' : Array Bool) (hi : ops[i]? = some oi) (hN : oi.dst = N) (hc : readyB md ops l l' i = true) (hd : i ∈ ds)
  (h : ∀ K : Act → World → Prop, Shut (∀ a' w', wpAnyLast P md ops Q S ds fuel l' a' w' → K a' w') → if Region.wanted oi (yielded ops a.tmps) = true then Oper.wp P oi a w K Q else K (a.put N undef) w) :
  wpAnyLast P md ops Q S ds (fuel + 1) l a w := by
 subst hN
 simp only [readyB, Bool.and_eq_true, beq_iff_eq] at hc
 obtain ⟨h1, h2⟩ := hc
 subst h2
 exact wpAnyLast_ready h1 (by simp) (AllReadyL.cons_last hi hd (fun K hK => h K hK) AllReadyL.nil)
theorem done_ {l : Array Bool} {a : Act} {w : World} {n : Nat} (hr : (Region.ready md ops l == []) = true) (h : Q .normal a w) : wpAnyLast P md ops Q S ds n l a w := wpAnyLast_done (by simpa using hr) h n
theorem two_ {i j : Nat} {Ni Nj : Option Tmp} {oi oj : Oper} {fuel : Nat} {l : Array Bool} {a : Act} {w : World} (li lj : Array Bool) (hi : ops[i]? = some oi) (hj : ops[j]? = some oj) (hNi : oi.dst = Ni) (hNj : oj.dst = Nj)
  (hc : (Region.ready md ops l == [i, j] && l.setIfInBounds i true == li && l.setIfInBounds j true == lj) = true) (hdi : i ∉ ds) (hdj : j ∉ ds)
  (h1 : ∀ K : Act → World → Prop, Shut (∀ a' w', S w' → (S w' → wpAnyLast P md ops Q S ds fuel li a' w') → K a' w') → if Region.wanted oi (yielded ops a.tmps) = true then Oper.wp P oi a w K Q else K (a.put Ni undef) w)
  (h2 : ∀ K : Act → World → Prop, Shut (∀ a' w', S w' → (S w' → wpAnyLast P md ops Q S ds fuel lj a' w') → K a' w') → if Region.wanted oj (yielded ops a.tmps) = true then Oper.wp P oj a w K Q else K (a.put Nj undef) w) :
  wpAnyLast P md ops Q S ds (fuel + 1) l a w := by
 subst hNi
 subst hNj
 simp only [Bool.and_eq_true, beq_iff_eq] at hc
 obtain ⟨⟨h3, h4⟩, h5⟩ := hc
 subst h4
 subst h5
 exact wpAnyLast_ready h3 (by simp) (AllReadyL.cons hi hdi (fun K hK => h1 K hK) (AllReadyL.cons hj hdj (fun K hK => h2 K hK) AllReadyL.nil))
/-- The act with some destinations filled. -/
def putAll : Act → List (Tmp × Value) → Act
 |a, [] => a
 |a, (n, v) :: r => putAll (a.put (some n) v) r
/-- What follows, once: s the values that the orders leave, F what is known of them and of the world. -/
theorem join_ {σ : Type} {fuel : Nat} {l : Array Bool} {a : Act} {w : World} (fuel' : Nat) (l' : Array Bool) (ns : σ → List (Tmp × Value)) (F : σ → World → Prop)
  (hcont : ∀ s w', F s w' → wpAnyLast P md ops Q S ds fuel' l' (putAll a (ns s)) w')
  (h : (∀ s w', F s w' → wpAnyLast P md ops Q S ds fuel' l' (putAll a (ns s)) w') → wpAnyLast P md ops Q S ds fuel l a w) : wpAnyLast P md ops Q S ds fuel l a w := h hcont
/-- The act written out. -/
theorem norm_ {fuel : Nat} {l : Array Bool} {a a' : Act} {w : World} (ha : a = a') (h : wpAnyLast P md ops Q S ds fuel l a' w) : wpAnyLast P md ops Q S ds fuel l a w := by
 subst ha
 exact h
/-- A call of a Go function, by its contract. -/
theorem call_ {oi : Oper} {N : Option Tmp} {a : Act} {w : World} {K : Act → World → Prop} (f : FuncId) (args : Array Value) (hw : Region.wanted oi (yielded ops a.tmps) = true) (hN : oi.dst = N) (hrun : (execOp a.eval oi).run P w = .ok (.enter f args) w)
  (h : Calls P f args w fun e w' => ∃ v, e = .returned v ∧ K (a.put N v) w') : if Region.wanted oi (yielded ops a.tmps) = true then Oper.wp P oi a w K Q else K (a.put N undef) w := by
 rw [if_pos hw]
 subst hN
 unfold Oper.wp
 rw [hrun, Oper.upon_enter]
 refine h.mono fun e w'' hh => ?_
 obtain ⟨v, rfl, hk⟩ := hh
 exact hk
theorem enters_ {f : FuncId} {fn : Func} (hf : P.funcs[f]? = some fn) (hname : (fn.name == "runtime.NumGoroutine") = false) (hb : fn.body.isSome = true) (args : Array Value) (w : World) : (callFunc f args).run P w = .ok (.enter f args) w := by
 have h1 : fn.name ≠ "runtime.NumGoroutine" := by simpa using hname
 obtain ⟨c, hc⟩ := Option.isSome_iff_exists.1 hb
 simp [callFunc, hf, h1, hc]
/-- The same, the operation's run shown here: 'goes_ A.func3 (by kernel_rfl) rfl #[..] (by rfl) rfl rfl (by rfl) ?_'. -/
theorem goes_ {oi : Oper} {N : Option Tmp} {a : Act} {w : World} {K : Act → World → Prop} {f : FuncId} {fn : Func} {as0 : Array Operand} {ts : Array TypeId} (hf : P.funcs[f]? = some fn) (hname : (fn.name == "runtime.NumGoroutine") = false) (hb : fn.body.isSome = true) (args : Array Value)
  (hw : Region.wanted oi (yielded ops a.tmps) = true) (hN : oi.dst = N) (hop : oi.op = .call { callee := .value (.func f), args := as0, argTypes := ts }) (hargs : as0.map a.eval = args)
  (h : Calls P f args w fun e w' => ∃ v, e = .returned v ∧ K (a.put N v) w') : if Region.wanted oi (yielded ops a.tmps) = true then Oper.wp P oi a w K Q else K (a.put N undef) w := by
 refine call_ f args hw hN ?_ h
 have he := enters_ hf hname hb args w
 unfold execOp
 simp [hop, resolve, Deferred.ofValue, invoke, Act.eval, hargs, he]
/-- An operation that yields a value (and may make memory). -/
theorem value_ {oi : Oper} {N : Option Tmp} {a : Act} {w w1 : World} {v : Value} {K : Act → World → Prop} (hw : Region.wanted oi (yielded ops a.tmps) = true) (hN : oi.dst = N) (hrun : (execOp a.eval oi).run P w = .ok (.value v) w1)
  (h : K (a.put N v) w1) : if Region.wanted oi (yielded ops a.tmps) = true then Oper.wp P oi a w K Q else K (a.put N undef) w := by
 rw [if_pos hw]
 subst hN
 unfold Oper.wp
 rw [hrun]
 exact h
/-- A store. -/
theorem skip_ {oi : Oper} {a : Act} {w w1 : World} {K : Act → World → Prop} (hw : Region.wanted oi (yielded ops a.tmps) = true) (hN : oi.dst = none) (hrun : (execOp a.eval oi).run P w = .ok .skip w1)
  (h : K a w1) : if Region.wanted oi (yielded ops a.tmps) = true then Oper.wp P oi a w K Q else K (a.put none undef) w := by
 rw [if_pos hw]
 unfold Oper.wp
 rw [hrun]
 show K (a.put oi.dst undef) w1
 rw [hN]
 exact h
theorem i64_w (n : Int) : IntKind.i64.wrap n = Go.RowKit.wrap64 n := by unfold Go.RowKit.wrap64; exact IntKind.wrap_i64 n
theorem i32_w (n : Int) : IntKind.i32.wrap n = Go.RowKit.wrap32 n := by unfold Go.RowKit.wrap32; exact IntKind.wrap_i32 n
end
end Go.Proofs.YtacceeefcelkhaaW.PrintLast

namespace Go.Proofs.YtacceeefcelkhaaW.PrintLast
open Go.Proofs.YtacceeefcelkhaaW.PrintWords (Aside0)
def needsOf (md : Region.Mode) (o : Oper) : List Nat := (o.after.toList.filter (fun e => Region.binds md e)).map (fun e => e.on)
def clashOf (md : Region.Mode) (ops : Array Oper) (i : Nat) (oi : Oper) : List Nat := (List.range ops.size).filter fun j => !(j == i) && match ops[j]? with
 |some oj => !(oj.after.any (fun e => Region.binds md e && e.on == i) || oi.apart ops oj)
 |none => false
/-- No select in it; for each operation: what must have come up before it, and what may not come up behind it if it is taken first. -/
def rtab (md : Region.Mode) (ops : Array Oper) : Bool × List (List Nat × List Nat) := (Region.noSelect ops, (List.range ops.size).map fun i => match ops[i]? with
 |some o => (needsOf md o, clashOf md ops i o)
 |none => ([], []))
def readyAt (T : List (List Nat × List Nat)) (l : List Bool) (i : Nat) : Bool := !l.getD i true && match T[i]? with
 |some r => r.1.all (fun j => l.getD j false)
 |none => false
def readyT (T : List (List Nat × List Nat)) (l : List Bool) : List Nat := (List.range T.length).filter (readyAt T l)
def freeT (T : List (List Nat × List Nat)) (l : List Bool) (i : Nat) : Bool := match T[i]? with
 |some r => r.2.all (fun j => l.getD j true)
 |none => false
def closedT (T : List (List Nat × List Nat)) (l : List Bool) : Bool := (List.range T.length).all fun j => !l.getD j false || match T[j]? with
 |some r => r.1.all (fun k => l.getD k false)
 |none => true
def reachT (T : List (List Nat × List Nat)) (i : Nat) : Nat → Nat → Bool
 |0, _ => false
 |fuel + 1, d => match T[d]? with
  |some r => r.1.any fun j => j == i || reachT T i fuel j
  |none => false
def lastT (T : List (List Nat × List Nat)) (l : List Bool) (ds : List Nat) (i : Nat) : Bool := ds.all fun d => l.getD d true || reachT T i T.length d
section
variable {md : Region.Mode} {ops : Array Oper} {T : Bool × List (List Nat × List Nat)} {l l' li lj lk : Array Bool} {ds : List Nat} {i j k : Nat}
theorem gd (l : Array Bool) (j : Nat) (b : Bool) : l.getD j b = l.toList.getD j b := by simp [Array.getD_eq_getD_getElem?, List.getD_eq_getElem?_getD]
theorem needs_all (o : Oper) (p : Nat → Bool) : o.after.all (fun e => !Region.binds md e || p e.on) = (needsOf md o).all p := by
 unfold needsOf
 rw [← Array.all_toList]
 induction o.after.toList with
 |nil => rfl
 |cons e r ih =>
  rw [List.all_cons, ih, List.filter_cons]
  cases h : Region.binds md e <;> simp
theorem needs_any (o : Oper) (p : Nat → Bool) : o.after.any (fun e => Region.binds md e && p e.on) = (needsOf md o).any p := by
 unfold needsOf
 rw [← Array.any_toList]
 induction o.after.toList with
 |nil => rfl
 |cons e r ih =>
  rw [List.any_cons, ih, List.filter_cons]
  cases h : Region.binds md e <;> simp
theorem rtab_length : (rtab md ops).2.length = ops.size := by simp [rtab]
theorem rtab_some {o : Oper} (h : ops[i]? = some o) : (rtab md ops).2[i]? = some (needsOf md o, clashOf md ops i o) := by
 have hi := (Array.getElem?_eq_some_iff.1 h).1
 unfold rtab
 rw [List.getElem?_map, List.getElem?_range hi, Option.map_some, h]
theorem rtab_none (h : ops[i]? = none) : (rtab md ops).2[i]? = none := by
 have hi : ops.size ≤ i := Array.getElem?_eq_none_iff.1 h
 exact List.getElem?_eq_none (by rw [rtab_length]; exact hi)
theorem readyAt_eq : readyAt (rtab md ops).2 l.toList i = (!l.getD i true && ((ops[i]?).map (·.after.all fun e => !Region.binds md e || l.getD e.on false)).getD false) := by
 unfold readyAt
 rw [gd]
 cases h : ops[i]? with
 |none => rw [rtab_none h]; rfl
 |some o =>
  rw [rtab_some h]
  simp only [Option.map_some, Option.getD_some]
  rw [← needs_all]
  simp only [gd]
theorem ready_eq : Region.ready md ops l = readyT (rtab md ops).2 l.toList := by
 unfold Region.ready readyT
 rw [rtab_length]
 refine List.filter_congr (fun i _ => ?_)
 rw [readyAt_eq]
theorem free_eq : Region.free md ops l i = freeT (rtab md ops).2 l.toList i := by
 unfold Region.free freeT
 cases h : ops[i]? with
 |none => rw [rtab_none h]
 |some oi =>
  rw [rtab_some h]
  simp only [clashOf]
  rw [List.all_filter]
  congr 1
  funext j
  rw [gd]
  cases hj : ops[j]? with
  |none => cases (j == i) <;> cases (l.toList.getD j true) <;> simp
  |some oj =>
   cases (j == i) <;> cases (l.toList.getD j true) <;> cases (oj.after.any (fun e => Region.binds md e && e.on == i) || oi.apart ops oj) <;> simp_all
theorem closed_eq : Region.closedB md ops l = closedT (rtab md ops).2 l.toList := by
 unfold Region.closedB closedT
 rw [rtab_length]
 congr 1
 funext j
 rw [gd]
 cases h : ops[j]? with
 |none => rw [rtab_none h]
 |some o =>
  rw [rtab_some h]
  simp only
  rw [← needs_all]
  simp only [gd]
theorem reach_eq : ∀ (fuel d : Nat), Region.reachB md ops i fuel d = reachT (rtab md ops).2 i fuel d
 |0, _ => rfl
 |fuel + 1, d => by
  unfold Region.reachB reachT
  cases h : ops[d]? with
  |none => rw [rtab_none h]
  |some o =>
   rw [rtab_some h]
   simp only
   rw [← needs_any]
   congr 1
   funext e
   rw [reach_eq fuel]
theorem last_eq : Region.lastB md ops l ds i = lastT (rtab md ops).2 l.toList ds i := by
 unfold Region.lastB lastT
 rw [rtab_length]
 congr 1
 funext d
 rw [gd, reach_eq]
theorem readyAt_mem (h : readyAt T.2 l.toList i = true) (hT : rtab md ops = T) : (Region.ready md ops l).contains i = true := by
 subst hT
 rw [ready_eq]
 unfold readyT
 rw [List.contains_iff_mem, List.mem_filter, List.mem_range]
 refine ⟨?_, h⟩
 unfold readyAt at h
 rw [Bool.and_eq_true] at h
 cases hq : (rtab md ops).2[i]? with
 |none => rw [hq] at h; simp at h
 |some r => exact (List.getElem?_eq_some_iff.1 hq).1
theorem set_of (h : (l.toList.set i true == l'.toList) = true) : (l.setIfInBounds i true == l') = true := by
 rw [beq_iff_eq] at h ⊢
 apply Array.ext'
 rw [Array.toList_setIfInBounds]
 exact h
def anyT (T : Bool × List (List Nat × List Nat)) (l l' : List Bool) (i : Nat) : Bool := T.1 && freeT T.2 l i && readyAt T.2 l i && (l.set i true == l')
/-- pure_'s condition out of the table. -/
theorem any_of (hT : rtab md ops = T) (h : anyT T l.toList l'.toList i = true) : anyB md ops l l' i = true := by
 simp only [anyT, Bool.and_eq_true] at h
 obtain ⟨⟨⟨h1, h2⟩, h3⟩, h4⟩ := h
 have h5 := readyAt_mem h3 hT
 have h6 := set_of h4
 subst hT
 simp only [anyB, Bool.and_eq_true]
 exact ⟨⟨⟨h1, by rw [free_eq]; exact h2⟩, h5⟩, h6⟩
def takeT (T : Bool × List (List Nat × List Nat)) (ds : List Nat) (l l' : List Bool) (i : Nat) : Bool := T.1 && freeT T.2 l i && readyAt T.2 l i && closedT T.2 l && lastT T.2 l ds i && (l.set i true == l')
/-- take_'s. -/
theorem take_of (hT : rtab md ops = T) (h : takeT T ds l.toList l'.toList i = true) : takeB md ops ds l l' i = true := by
 simp only [takeT, Bool.and_eq_true] at h
 obtain ⟨⟨⟨⟨⟨h1, h2⟩, h3⟩, h4⟩, h5⟩, h6⟩ := h
 have h7 := readyAt_mem h3 hT
 have h8 := set_of h6
 subst hT
 simp only [takeB, Bool.and_eq_true]
 exact ⟨⟨⟨⟨⟨h1, by rw [free_eq]; exact h2⟩, h7⟩, by rw [closed_eq]; exact h4⟩, by rw [last_eq]; exact h5⟩, h8⟩
/-- one_'s and last_'s. -/
theorem one_of (hT : rtab md ops = T) (h : (readyT T.2 l.toList == [i] && l.toList.set i true == l'.toList) = true) : readyB md ops l l' i = true := by
 simp only [Bool.and_eq_true] at h
 obtain ⟨h1, h2⟩ := h
 subst hT
 simp only [readyB, Bool.and_eq_true]
 exact ⟨by rw [ready_eq]; exact h1, set_of h2⟩
theorem two_of (hT : rtab md ops = T) (h : (readyT T.2 l.toList == [i, j] && l.toList.set i true == li.toList && l.toList.set j true == lj.toList) = true) : (Region.ready md ops l == [i, j] && l.setIfInBounds i true == li && l.setIfInBounds j true == lj) = true := by
 simp only [Bool.and_eq_true] at h ⊢
 obtain ⟨⟨h1, h2⟩, h3⟩ := h
 subst hT
 exact ⟨⟨by rw [ready_eq]; exact h1, set_of h2⟩, set_of h3⟩
/-- done_'s. -/
theorem done_of (hT : rtab md ops = T) (h : (readyT T.2 l.toList == []) = true) : (Region.ready md ops l == []) = true := by
 subst hT
 rw [ready_eq]
 exact h
/-- What d waits for, as_ bits: told in the table (B), checked in one pass: each bit is a need of d, or a bit of an earlier need's. -/
def upM (B : List Nat) (d : Nat) : List Nat → Nat
 |[] => 0
 |n :: r => (2 ^ n ||| (if n < d then B.getD n 0 else 0)) ||| upM B d r
def waitsOk (T : List (List Nat × List Nat)) (B : List Nat) : Bool := (List.range T.length).all fun d => match T[d]? with
 |some r => (B.getD d 0 ||| upM B d r.1) == upM B d r.1
 |none => false
theorem upM_bit {B : List Nat} {d i : Nat} : ∀ {ns : List Nat}, (upM B d ns).testBit i = true → ∃ n ∈ ns, n = i ∨ (n < d ∧ (B.getD n 0).testBit i = true)
 |[], h => by simp [upM] at h
 |n :: r, h => by
  unfold upM at h
  rw [Nat.testBit_or, Nat.testBit_or, Bool.or_eq_true, Bool.or_eq_true] at h
  rcases h with (h | h) | h
  ·rw [Nat.testBit_two_pow] at h
   exact ⟨n, List.mem_cons_self, .inl (by simpa using h)⟩
  ·by_cases hn : n < d
   ·rw [if_pos hn] at h
    exact ⟨n, List.mem_cons_self, .inr ⟨hn, h⟩⟩
   ·rw [if_neg hn] at h
    simp at h
  ·obtain ⟨m, hm, h2⟩ := upM_bit h
   exact ⟨m, List.mem_cons_of_mem _ hm, h2⟩
theorem reach_bit {T : List (List Nat × List Nat)} {B : List Nat} (hB : waitsOk T B = true) : ∀ (fuel d : Nat), d < fuel → d < T.length → (B.getD d 0).testBit i = true → reachT T i fuel d = true
 |0, d, h, _, _ => by omega
 |fuel + 1, d, h, hd, hb => by
  have h1 := List.all_eq_true.1 hB d (List.mem_range.2 hd)
  cases hr : T[d]? with
  |none => rw [hr] at h1; simp at h1
  |some r =>
   rw [hr] at h1
   simp only [beq_iff_eq] at h1
   have h2 : (upM B d r.1).testBit i = true := by rw [← h1, Nat.testBit_or, hb, Bool.true_or]
   obtain ⟨n, hn, h3⟩ := upM_bit h2
   unfold reachT
   rw [hr]
   simp only
   rw [List.any_eq_true]
   refine ⟨n, hn, ?_⟩
   rcases h3 with rfl | ⟨h4, h5⟩
   ·simp
   ·rw [reach_bit hB fuel n (by omega) (by omega) h5, Bool.or_true]
def lastW (T : List (List Nat × List Nat)) (B : List Nat) (l : List Bool) (ds : List Nat) (i : Nat) : Bool := ds.all fun d => l.getD d true || (decide (d < T.length) && (B.getD d 0).testBit i)
def takeW (T : Bool × List (List Nat × List Nat)) (B : List Nat) (ds : List Nat) (l l' : List Bool) (i : Nat) : Bool := T.1 && freeT T.2 l i && readyAt T.2 l i && closedT T.2 l && lastW T.2 B l ds i && (l.set i true == l')
/-- take_'s, by the bits. -/
theorem take_ofW {B : List Nat} (hT : rtab md ops = T) (hB : waitsOk T.2 B = true) (h : takeW T B ds l.toList l'.toList i = true) : takeB md ops ds l l' i = true := by
 refine take_of hT ?_
 simp only [takeW, takeT, Bool.and_eq_true] at h ⊢
 obtain ⟨⟨⟨⟨⟨h1, h2⟩, h3⟩, h4⟩, h5⟩, h6⟩ := h
 refine ⟨⟨⟨⟨⟨h1, h2⟩, h3⟩, h4⟩, ?_⟩, h6⟩
 unfold lastW at h5
 unfold lastT
 rw [List.all_eq_true] at h5 ⊢
 intro d hd
 have h7 := h5 d hd
 rw [Bool.or_eq_true, Bool.and_eq_true, decide_eq_true_eq] at h7
 rcases h7 with h7 | ⟨h8, h9⟩
 ·rw [h7, Bool.true_or]
 ·rw [reach_bit hB _ d h8 h8 h9, Bool.or_true]
theorem with_tabW {P : Program} {Q : Exit → Act → World → Prop} {S : World → Prop} {n : Nat} {a : Act} {w : World} {B : List Nat} (hT : rtab md ops = T) (hB : waitsOk T.2 B = true) (h : Aside0 (rtab md ops = T) → Aside0 (waitsOk T.2 B = true) → wpAnyLast P md ops Q S ds n l a w) : wpAnyLast P md ops Q S ds n l a w := h ⟨hT⟩ ⟨hB⟩
end
/-- The operations of a region, by its number. -/
def opsIn : Code → Nat → Option (Array Oper)
 |.region id ops _, k => if id == k then some ops else none
 |.seq a b, k => match opsIn a k with
  |some o => some o
  |none => opsIn b k
 |.cond _ a b, k => match opsIn a k with
  |some o => some o
  |none => opsIn b k
 |.block _ c, k => opsIn c k
 |.loop c, k => opsIn c k
 |.scope c, k => opsIn c k
 |.rangeFunc _ _ a b, k => match opsIn a k with
  |some o => some o
  |none => opsIn b k
 |_, _ => none
def opsOf (f : Func) (k : Nat) : Array Oper := ((f.body.bind fun c => opsIn c k)).getD #[]
end Go.Proofs.YtacceeefcelkhaaW.PrintLast

namespace Go.Proofs.YtacceeefcelkhaaW.PrintLast
section
variable {P : Program} {ops : Array Oper} {Q : Exit → Act → World → Prop} {md : Region.Mode} {S : World → Prop} {ds : List Nat} {T : Bool × List (List Nat × List Nat)}
end
end Go.Proofs.YtacceeefcelkhaaW.PrintLast

namespace Go.Proofs.YtacceeefcelkhaaW.PrintWords
open Go.RowKit
namespace Kd
section
variable {α : Type} {d : Kd α} {e base g o n cap : Nat} {ok okp : Nat → Prop} {w W : World} {v : Value} {xs : List α}
end
section
variable {α : Type} {enc : α → Value} {h1 : ∀ x, (enc x).oneCell' = true} {e base g o n cap : Nat} {ok : Nat → Prop} {W : World} {xs : List α}
end
end Kd
end Go.Proofs.YtacceeefcelkhaaW.PrintWords

namespace Go.Proofs.YtacceeefcelkhaaW.PrintWords
open Go.RowKit
namespace Kd
section
variable {α β : Type} {d : Kd α} {d' : Kd β} {e e' : Nat} {w w1 W : World} {base b : Nat} {ok ok' okv oku : Nat → Prop} {u v : Value} {xs : List α} {ys : List β}
/-- A row whose elements lead to nothing: its blocks are its own one. -/
theorem R_tight (hE : d.E = []) (h : d.R e w base ok v xs) : d.R e w base (fun k => some k = v.ownBlock) v xs := by
 obtain ⟨h0, inner, ho, hr⟩ := h
 refine ⟨fun k hk => hk.symm, inner, ho, hr.imp_ (fun p c hp => d.M_mono (fun k hk => ?_) (d.M_bound hp))⟩
 obtain ⟨_, _, _, q, hq, _⟩ := hk
 rw [hE] at hq
 cases hq
end
section
variable {α β : Type} {d : Kd α} {d' : Kd β} {e e' g : Nat} {w w1 W : World} {base b : Nat} {ok ok' okv oku : Nat → Prop} {u v : Value} {xs : List α} {ys : List β}
end
section
open Classical in
variable {P : Program} {ops : Array Oper} {rest : List Oper} {o : Oper} {a : Act} {Q : Exit → Act → World → Prop} {Kc : Act → World → Prop} {α : Type}
end
section
variable {α β : Type} {d : Kd α} {e e' g n cap : Nat} {w w1 W : World} {base : Nat} {ok ok' oki okp : Nat → Prop} {u v : Value} {xs : List α} {i : Int} {c : List Value}
open Classical in
end
section
variable {P : Program} {ops : Array Oper} {rest : List Oper} {o : Oper} {a : Act} {Q : Exit → Act → World → Prop} {α : Type}
end
end Kd
end Go.Proofs.YtacceeefcelkhaaW.PrintWords

namespace Go.Proofs.YtacceeefcelkhaaW.PrintWords
open Go.RowKit
namespace Kd
section
variable {α : Type} {n : Nat} {d : Kd α} {hs : 0 < d.sz} {w : World} {base : Nat} {ok : Nat → Prop} {xs : List α} {cs : List Value}
end
section
variable {α : Type} {n : Nat} {enc : α → Value} {h1 : ∀ x, (enc x).oneCell' = true} {hs : 0 < (scalar enc h1).sz} {w : World} {base : Nat} {ok : Nat → Prop} {xs : List α} {cs : List Value}
end
end Kd
end Go.Proofs.YtacceeefcelkhaaW.PrintWords

namespace Go.Proofs.YtacceeefcelkhaaW.PrintWords
open Go.RowKit
section
variable {P : Program}
end
namespace Kd
section
variable {P : Program} {ops : Array Oper} {rest : List Oper} {o : Oper} {a : Act} {Q : Exit → Act → World → Prop} {Kc : Act → World → Prop} {α : Type}
end
section
variable {α : Type} {d : Kd α} {e : Nat} {w : World} {base : Nat} {ok : Nat → Prop} {v : Value} {xs : List α}
end
section
variable {P : Program} {ops : Array Oper} {rest : List Oper} {o : Oper} {a : Act} {Q : Exit → Act → World → Prop} {Kc : Act → World → Prop} {α : Type}
end
end Kd
end Go.Proofs.YtacceeefcelkhaaW.PrintWords

namespace Go.Proofs.YtacceeefcelkhaaW.PrintWords
open Go.RowKit
namespace Kd
section
variable {α : Type} {d : Kd α} {e base g n c : Nat} {ok : Nat → Prop} {w w0 W : World} {A : Option Addr} {xs : List α}
end
end Kd
end Go.Proofs.YtacceeefcelkhaaW.PrintWords

namespace Go.Proofs.YtacceeefcelkhaaW.PrintWords
open Go.RowKit
def Kept (w W : World) (S : Nat → Prop) : Prop := w.heap.size ≤ W.heap.size ∧ ∀ i, i < w.heap.size → ¬ S i → W.heap[i]? = w.heap[i]?
section
variable {w W W2 : World} {S S2 S' : Nat → Prop}
theorem Kept.refl (w : World) (S : Nat → Prop) : Kept w w S := ⟨Nat.le_refl _, fun _ _ _ => rfl⟩
theorem Kept.then_ (h : Kept w W S) (k : Kept W W2 S2) (hs : ∀ k, S2 k → S k ∨ w.heap.size ≤ k) : Kept w W2 S :=
 ⟨Nat.le_trans h.1 k.1, fun i hi hn => (k.2 i (Nat.lt_of_lt_of_le hi h.1) (fun h2 => (hs i h2).elim hn (fun h3 => by omega))).trans (h.2 i hi hn)⟩
theorem Kept.setCell (h : Kept w W S) {p : Addr} (hp : S p.block ∨ w.heap.size ≤ p.block) (u : Value) : Kept w (W.setCell p u) S :=
 h.then_ (S2 := fun k => k = p.block) ⟨by simp [World.setCell], fun i _ hn => Below.heap_setCell W p u i hn⟩ (fun k hk => by rw [hk]; exact hp)
end
namespace Kd
section
variable {α : Type} {d : Kd α} {e base n c : Nat} {ok oki S S2 : Nat → Prop} {w w0 W W1 W2 : World} {v : Value} {A : Option Addr} {xs : List α} {i : Int} {cs : List Value}
end
end Kd
end Go.Proofs.YtacceeefcelkhaaW.PrintWords

namespace Go.Proofs.YtacceeefcelkhaaW.PrintWords
open Go.RowKit
/-- P holds in W and in every world that has W's blocks of ok. -/
def Foot (P : World → Prop) (W : World) (ok : Nat → Prop) : Prop := ∀ W' : World, (∀ k, ok k → k < W.heap.size → W'.heap[k]? = W.heap[k]?) → P W'
namespace Foot
variable {P Q : World → Prop} {W W1 : World} {ok ok' : Nat → Prop}
theorem now (h : Foot P W ok) : P W := h W (fun _ _ _ => rfl)
end Foot
namespace Kd
section
variable {α β : Type} {d : Kd α} {e base n n' cc g N : Nat} {ok ok' okp S : Nat → Prop} {w w0 w1 W W1 : World} {A A' : Option Addr} {u v v1 : Value} {xs : List α} {xs' : List β} {d' : Kd β} {x : α} {c : List Value}
end
end Kd
end Go.Proofs.YtacceeefcelkhaaW.PrintWords

namespace Go.Proofs.YtacceeefcelkhaaW.PrintWords
open Go.RowKit
namespace Kd
section
variable {α : Type} {d : Kd α} {e base n cc g : Nat} {ok ok' okp S : Nat → Prop} {w w1 W W1 : World} {A : Option Addr} {u v v1 : Value} {xs : List α} {x : α} {c : List Value}
end
end Kd
end Go.Proofs.YtacceeefcelkhaaW.PrintWords

namespace Go.Proofs.YtacceeefcelkhaaW.PrintWords
open Go.RowKit
namespace Kd
section
variable {α : Type} {d : Kd α} {W : World} {g n : Nat} {S ok : Nat → Prop} {A : Option Addr} {ad : Addr} {xs : List α}
end
end Kd
end Go.Proofs.YtacceeefcelkhaaW.PrintWords

namespace Go.Proofs.YtacceeefcelkhaaW.PrintWords
open Go.RowKit
section
variable {w w' u : World} {m B g : Nat} {o : Obj} {row : Option Nat} {S : Nat → Prop} {a : Addr} {v : Value}
end
namespace Kd
section
variable {α : Type} {d : Kd α} {e base n m : Nat} {ok : Nat → Prop} {w w' : World} {v : Value} {A : Option Addr} {xs : List α}
end
end Kd
end Go.Proofs.YtacceeefcelkhaaW.PrintWords

namespace Go.Proofs.YtacceeefcelkhaaW.PrintWords
open Go.RowKit
section
variable {P : Program} {d : Nat} {xs ys : Array Value} {f : Field} {fs : List Field} {a b : Value} {r s : Bool} {w : World}
end
end Go.Proofs.YtacceeefcelkhaaW.PrintWords

namespace Go.Proofs.YtacceeefcelkhaaW.PrintWords
/-- One cell an element. -/
theorem Reps.one {α : Type} {R : α → List Value → Prop} {ps : List α} {cs : List Value} {p : α} {v : Value} (hp : R p [v]) (h : Reps R 1 ps cs) : Reps R 1 (p :: ps) (v :: cs) := by
 refine ⟨by simp [h.1], fun j q hq => ?_⟩
 cases j with
 |zero =>
  simp only [List.getElem?_cons_zero, Option.some.injEq] at hq
  subst hq
  simpa using hp
 |succ j =>
  simp only [List.getElem?_cons_succ] at hq
  have h1 := h.2 j q hq
  simpa [Nat.mul_one] using h1
/-- More cells an element: told apart by the cells' list. -/
theorem Reps.front {α : Type} {R : α → List Value → Prop} {size : Nat} {ps : List α} {cs c all : List Value} {p : α} (hp : R p c) (hc : c.length = size) (h : Reps R size ps cs) (ha : c ++ cs = all) : Reps R size (p :: ps) all := by
 subst ha
 refine ⟨by rw [List.length_append, hc, h.1, List.length_cons, Nat.succ_mul, Nat.add_comm], fun j q hq => ?_⟩
 cases j with
 |zero =>
  simp only [List.getElem?_cons_zero, Option.some.injEq] at hq
  subst hq
  rw [Nat.zero_mul, List.drop_zero, List.take_append_of_le_length (by omega), List.take_of_length_le (by omega)]
  exact hp
 |succ j =>
  simp only [List.getElem?_cons_succ] at hq
  have h1 := h.2 j q hq
  rw [Nat.succ_mul, List.drop_append, List.drop_of_length_le (by rw [hc]; exact Nat.le_add_left _ _), List.nil_append, hc, Nat.add_sub_cancel]
  exact h1
theorem Reps.c3 {α : Type} {R : α → List Value → Prop} {ps : List α} {cs : List Value} {p : α} {va vb vc : Value} (hp : R p [va, vb, vc]) (h : Reps R 3 ps cs) : Reps R 3 (p :: ps) (va :: vb :: vc :: cs) := Reps.front hp rfl h rfl
theorem Reps.c4 {α : Type} {R : α → List Value → Prop} {ps : List α} {cs : List Value} {p : α} {va vb vc vd : Value} (hp : R p [va, vb, vc, vd]) (h : Reps R 4 ps cs) : Reps R 4 (p :: ps) (va :: vb :: vc :: vd :: cs) := Reps.front hp rfl h rfl
end Go.Proofs.YtacceeefcelkhaaW.PrintWords

namespace Go.Proofs.YtacceeefcelkhaaW.PrintLast
/-- Number i is listed too. -/
def up (b : Nat → Bool) (i : Nat) : Nat → Bool := fun j => if j = i then true else b j
section
variable {P : Program} {ops : Array Oper} {Q : Exit → Act → World → Prop} {md : Region.Mode} {T : Bool × List (List Nat × List Nat)} {B : List Nat} {O : List Nat} {b : Nat → Bool} {i j n : Nat}
end
end Go.Proofs.YtacceeefcelkhaaW.PrintLast

namespace Go.Proofs.YtacceeefcelkhaaW.PrintWords
open Go.RowKit
end Go.Proofs.YtacceeefcelkhaaW.PrintWords
namespace Go.Proofs.YtacceeefcelkhaaW.PrintLast
section
variable {ops : Array Oper} {a : Act} {o og : Oper} {g : Nat} {t : Tmp} {u : Bool}
end
end Go.Proofs.YtacceeefcelkhaaW.PrintLast

namespace Go.Proofs.YtacceeefcelkhaaW.PrintWords
open Go.RowKit
section
variable {P : Program} {ops : Array Oper} {rest : List Oper} {o : Oper} {a : Act} {Q : Exit → Act → World → Prop} {W : World}
end
end Go.Proofs.YtacceeefcelkhaaW.PrintWords

namespace Go.Proofs.YtacceeefcelkhaaW.PrintWords
open Go.RowKit
namespace Kd
section
variable {α : Type} {d : Kd α} {e base n cap g : Nat} {ok ok' okp : Nat → Prop} {w w1 W : World} {v v1 : Value} {xs ys : List α}
end
section
variable {P : Program} {ops : Array Oper} {rest : List Oper} {o : Oper} {a : Act} {Q : Exit → Act → World → Prop} {Kc : Act → World → Prop} {α : Type}
end
end Kd
end Go.Proofs.YtacceeefcelkhaaW.PrintWords

namespace Go.Proofs.YtacceeefcelkhaaW.PrintMore
open Go.RowKit Go.Proofs.YtacceeefcelkhaaW.PrintWords
namespace Kd
open Go.Proofs.YtacceeefcelkhaaW.PrintWords.Kd
end Kd
namespace Kd
open Go.Proofs.YtacceeefcelkhaaW.PrintWords.Kd
section
variable {α : Type} {d : Kd α} {e base g N : Nat} {ok : Nat → Prop} {W w1 : World} {u v : Value} {xs : List α}
end
end Kd
/-- 'max' and 'min' of two whole numbers. -/
theorem max2_int (k k' : IntKind) (x y : Int) : Builtin.max2 (.int k x) (.int k' y) = pure (.int k (if x < y then y else x)) := by simp only [Builtin.max2, gt_iff_lt]
theorem min2_int (k k' : IntKind) (x y : Int) : Builtin.min2 (.int k x) (.int k' y) = pure (.int k (if y < x then y else x)) := by simp only [Builtin.min2]
theorem max_two (ats : Array TypeId) (ty : TypeId) (a b : Value) : Builtin.max_ ats ty #[a, b] = (Builtin.max2 a b >>= fun s => pure s) := by simp only [Builtin.max_, List.foldlM_cons, List.foldlM_nil]
theorem min_two (ats : Array TypeId) (ty : TypeId) (a b : Value) : Builtin.min_ ats ty #[a, b] = (Builtin.min2 a b >>= fun s => pure s) := by simp only [Builtin.min_, List.foldlM_cons, List.foldlM_nil]
theorem max_three (ats : Array TypeId) (ty : TypeId) (a b c : Value) : Builtin.max_ ats ty #[a, b, c] = (Builtin.max2 a b >>= fun s => Builtin.max2 s c >>= fun s => pure s) := by simp only [Builtin.max_, List.foldlM_cons, List.foldlM_nil]
theorem min_three (ats : Array TypeId) (ty : TypeId) (a b c : Value) : Builtin.min_ ats ty #[a, b, c] = (Builtin.min2 a b >>= fun s => Builtin.min2 s c >>= fun s => pure s) := by simp only [Builtin.min_, List.foldlM_cons, List.foldlM_nil]
theorem max_four (ats : Array TypeId) (ty : TypeId) (a b c d : Value) : Builtin.max_ ats ty #[a, b, c, d] = (Builtin.max2 a b >>= fun s => Builtin.max2 s c >>= fun s => Builtin.max2 s d >>= fun s => pure s) := by simp only [Builtin.max_, List.foldlM_cons, List.foldlM_nil]
theorem min_four (ats : Array TypeId) (ty : TypeId) (a b c d : Value) : Builtin.min_ ats ty #[a, b, c, d] = (Builtin.min2 a b >>= fun s => Builtin.min2 s c >>= fun s => Builtin.min2 s d >>= fun s => pure s) := by simp only [Builtin.min_, List.foldlM_cons, List.foldlM_nil]
end Go.Proofs.YtacceeefcelkhaaW.PrintMore
namespace Go.Proofs.YtacceeefcelkhaaW.PrintWords
open Go.RowKit
section
variable {P : Program} {ops : Array Oper} {rest : List Oper} {o : Oper} {a : Act} {Q : Exit → Act → World → Prop} {W : World}
end
namespace Kd
section
variable {α : Type} {d : Kd α} {e base : Nat} {ok : Nat → Prop} {W w1 : World} {v : Value} {xs : List α}
/-- A row of scalars beside a block that is not its own: written. -/
theorem R_grown1 (h : d.R e W base ok v xs) (hE : d.E = []) {row : Option Nat} (hg : W.grownBy w1 row) (hne : row ≠ v.ownBlock) : d.R e w1 base ok v xs :=
 R_mono (R_grown (R_tight hE h) hg (fun _ hk e_ => hne (e_.symm.trans hk))) (fun k hk => h.1 k hk.symm)
end
section
variable {α : Type} {d : Kd α} {e base g n cap : Nat} {ok oki okp : Nat → Prop} {W : World} {xs : List α} {i : Int} {c : List Value}
end
section
variable {α : Type} {d : Kd α} {e base b b' g N : Nat} {ok ok1 : Nat → Prop} {W W2 w1 : World} {u v : Value} {xs ys : List α} {S : Nat → Prop}
end
end Kd
end Go.Proofs.YtacceeefcelkhaaW.PrintWords
namespace Go.Proofs.YtacceeefcelkhaaW.PrintWords
open Go.RowKit
namespace Kd
section
variable {α β : Type} {d : Kd α} {e base base' n m c g N' lo hi : Nat} {ok ok' S : Nat → Prop} {w W w1 : World} {A : Option Addr} {ad : Addr} {u v v1 : Value} {xs : List α}
end
end Kd
end Go.Proofs.YtacceeefcelkhaaW.PrintWords

namespace Go.Proofs.Ytacceeefcelkhaa.Al
open Go.RowKit Go.Proofs.YtacceeefcelkhaaW.PrintWords Go.Proofs.YtacceeefcelkhaaW.PrintLast Go.Proofs.YtacceeefcelkhaaW.PrintMore
attribute [local go_sem] max2_int min2_int max_two min_two max_three min_three max_four min_four   -- for this text's walks alone
set_option linter.unusedVariables false
set_option linter.unusedSimpArgs false
theorem info65 : (Try.prog.info? 65).map (fun i => (i.zero, i.size, i.bytes)) = some (some (.agg #[(.int .i64 0), (.int .i64 0), (.int .i64 0), (.int .i64 0)]), 4, 32) := by kernel_rfl
-- the values' own types
end Go.Proofs.Ytacceeefcelkhaa.Al

namespace Go.Proofs.Ytacceeefcelkhaa.DueSpec
open Go.RowKit Go.Proofs.Ytacceeefcelkhaa.DueHeap Go.Proofs.YtacceeefcelkhaaW.PrintWords Go.Proofs.YtacceeefcelkhaaW.PrintLast Go.Proofs.YtacceeefcelkhaaW.PrintMore
set_option linter.unusedVariables false
set_option linter.unusedSimpArgs false
def kT : Kd Tk := Kd.iso (Kd.pair (Kd.int .i64) (Kd.pair (Kd.int .i64) (Kd.pair (Kd.int .i64) (Kd.int .i64)))) (fun x : Tk => (x.at_, x.urg, x.id, x.no))
def cs4 (x : Tk) : List Value := [.int .i64 x.at_, .int .i64 x.urg, .int .i64 x.id, .int .i64 x.no]
abbrev a4 (x : Tk) : Value := .agg #[.int .i64 x.at_, .int .i64 x.urg, .int .i64 x.id, .int .i64 x.no]
theorem T4_M (w : World) (base : Nat) (ok : Nat → Prop) (x : Tk) : kT.M w base ok x (cs4 x) := ⟨[.int .i64 x.at_], [.int .i64 x.urg, .int .i64 x.id, .int .i64 x.no], rfl, rfl, [.int .i64 x.urg], [.int .i64 x.id, .int .i64 x.no], rfl, rfl, [.int .i64 x.id], [.int .i64 x.no], rfl, rfl, rfl⟩
theorem T4_Mi {w : World} {base : Nat} {ok : Nat → Prop} {x : Tk} {c : List Value} (h : kT.M w base ok x c) : c = cs4 x := by
 obtain ⟨c0, c1, rfl, rfl, c2, c3, rfl, rfl, c4, c5, rfl, rfl, rfl⟩ := h
 rfl
def LT (fn : Nat) (a b : Tk) : Bool := if fn = 23 then earlyT a b else urgentT a b
def LE (fn : Nat) (a b : Tk) : Prop := LT fn b a = false
theorem LE_rf (fn : Nat) (a : Tk) : LE fn a a := by unfold LE LT; split; exact leE_rf a; exact leU_rf a
theorem LE_tr (fn : Nat) (a b c : Tk) (h : LE fn a b) (k : LE fn b c) : LE fn a c := by
 unfold LE LT at *
 split at h
 ·rename_i e; subst e; rw [if_pos rfl] at k ⊢; exact leE_tr a b c h k
 ·rename_i e; rw [if_neg e] at k ⊢; exact leU_tr a b c h k
theorem LE_of (fn : Nat) {a b : Tk} (h : LT fn a b = true) : LE fn a b := by
 unfold LE LT at *
 split at h
 ·rename_i e; subst e; rw [if_pos rfl]; exact leE_of h
 ·rename_i e; rw [if_neg e]; exact leU_of h
section
variable {e : Nat} {W w : World} {base : Nat} {ok : Nat → Prop} {g n c : Nat} {l : List Tk}
theorem T4_cell (h : kT.R e w base ok (.slice (some ⟨g, 0, none⟩) n c) l) (i : Nat) (hi : i < n) :
  w.cell? ⟨g, i * 4, none⟩ = some (.int .i64 (l.getD i t0).at_) ∧ w.cell? ⟨g, i * 4 + 1, none⟩ = some (.int .i64 (l.getD i t0).urg) ∧ w.cell? ⟨g, i * 4 + 2, none⟩ = some (.int .i64 (l.getD i t0).id) ∧ w.cell? ⟨g, i * 4 + 3, none⟩ = some (.int .i64 (l.getD i t0).no) ∧ ∀ j, w.frozen? ⟨g, i * 4 + j, none⟩ = false := by
 obtain ⟨c, _, hM, hc, hf⟩ := Kd.R_elem h t0 (i : Int) (by omega) (by omega)
 rw [Int.toNat_natCast] at hM hc hf
 obtain rfl := T4_Mi hM
 exact ⟨hc 0 _ rfl, hc 1 _ rfl, hc 2 _ rfl, hc 3 _ rfl, hf⟩
theorem T4_put (h : kT.R e w base ok (.slice (some ⟨g, 0, none⟩) n c) l) (i : Nat) (hi : i < n) (x : Tk) :
  kT.R e (w.setCells g (i * 4) (cs4 x)) base ok (.slice (some ⟨g, 0, none⟩) n c) (l.set i x) ∧ w.grownBy (w.setCells g (i * 4) (cs4 x)) (some g) := by
 obtain ⟨c', hcl, hM, hc, hf⟩ := Kd.R_elem h t0 (i : Int) (by omega) (by omega)
 rw [Int.toNat_natCast] at hM hc hf
 obtain rfl := T4_Mi hM
 have := Kd.R_seg (okp := fun _ => False) h (i : Int) (by omega) (by omega) (c := cs4 (l.getD i t0)) (seg := cs4 x) (j := 0) (x' := x) rfl (by simpa using hc) (show 0 + 4 ≤ 4 from Nat.le_refl _) (by exact T4_M _ _ _ _) (fun _ hk => hk.elim)
 rw [Int.toNat_natCast] at this
 exact this
end
/-- A heap's object at block g: its order's function, its row v of the tasks l, in a world w behind W. -/
structure HT (W w : World) (g fn : Nat) (v : Value) (l : List Tk) : Prop where
 blk : w.heap[g]? = some (.cells #[v, .func (.func fn) #[] #[]] 54 (0, 0))
 ge : W.heap.size ≤ g
 row : kT.R 61 w W.heap.size (fun _ => True) v l
 bel : Below W.heap.size W w
/-- What a call on one heap leaves of all else. -/
structure Step (w w1 : World) (g : Nat) (v v1 : Value) : Prop where
 keep : KeepBut w w1 g v.ownBlock
 own : v1.ownBlock = v.ownBlock ∨ ∃ b, v1.ownBlock = some b ∧ w.heap.size ≤ b
section
variable {W w w1 w2 : World} {g g' fn fn' : Nat} {v v1 v2 v' : Value} {l l' : List Tk}
theorem HT.below (h : HT W w g fn v l) (hb : Below w.heap.size w w1) : HT W w1 g fn v l := ⟨blk_below h.blk hb, h.ge, Kd.R_below h.row hb, below_step h.bel hb⟩
theorem HT.drew (h : HT W w g fn v l) : HT W w.drew g fn v l := h.below (below_drew (Below.refl _ _))
theorem Step.refl (w : World) (g : Nat) (v : Value) : Step w w g v v := ⟨KeepBut.refl _ _ _, .inl rfl⟩
theorem Step.of_below (hb : Below w.heap.size w w1) (g : Nat) (v : Value) : Step w w1 g v v := ⟨KeepBut.of_below hb _ _, .inl rfl⟩
theorem Step.trans (h : Step w w1 g v v1) (k : Step w1 w2 g v1 v2) : Step w w2 g v v2 := by
 have hs := h.keep.1
 refine ⟨h.keep.trans k.keep ?_, ?_⟩
 ·rcases h.own with e | ⟨b, e, hb⟩
  ·exact .inl e
  ·exact .inr ⟨b, e, hb⟩
 ·rcases k.own with e | ⟨b, e, hb⟩
  ·rw [e]; exact h.own
  ·exact .inr ⟨b, e, by omega⟩
/-- Rows in blocks of their own. -/
def Ap (v v' : Value) : Prop := ∀ q, v.ownBlock = some q → v'.ownBlock ≠ some q
theorem Ap.symm (h : Ap v v') : Ap v' v := fun q e e' => h q e' e
theorem HT.lt (h : HT W w g fn v l) {q : Nat} (e : v.ownBlock = some q) : q < w.heap.size := by
 obtain ⟨inner, ho⟩ := Kd.R_own h.row
 exact own_lt ho q e
theorem Ap.step (h : HT W w g fn v l) (ha : Ap v v') (hs : Step w w1 g' v' v1) : Ap v v1 := fun q e => by
 rcases hs.own with k | ⟨b, k, hb⟩
 ·rw [k]; exact ha q e
 ·rw [k]
  intro he
  injection he with he
  have := h.lt e
  omega
/-- The other heap's call. -/
theorem HT.other (h : HT W w g fn v l) (k : HT W w g' fn' v' l') (hs : Step w w1 g' v' v1) (hne : g ≠ g') (hap : Ap v v') (hb : Below W.heap.size W w1) : HT W w1 g fn v l := by
 refine ⟨(hs.keep.2 g (blk_lt h.blk) hne (Kd.R_ne k.row h.blk (by decide))).trans h.blk, h.ge, ?_, hb⟩
 refine Kd.R_mono (Kd.R_move (Kd.R_bound (Kd.R_tight rfl h.row)) (fun j hj => hs.keep.2 j hj.2.2.1 ?_ ?_)) (fun _ _ => trivial)
 ·rintro rfl
  exact Kd.R_ne h.row k.blk (by decide) hj.1
 ·exact fun e => hap j hj.1.symm e.symm
end
end Go.Proofs.Ytacceeefcelkhaa.DueSpec

namespace Go.Proofs.Ytacceeefcelkhaa.Al
open Go.RowKit Go.Proofs.Ytacceeefcelkhaa.DueHeap Go.Proofs.Ytacceeefcelkhaa.DueSpec Go.Proofs.YtacceeefcelkhaaW.PrintWords Go.Proofs.YtacceeefcelkhaaW.PrintLast Go.Proofs.YtacceeefcelkhaaW.PrintMore
set_option linter.unusedVariables false
set_option linter.unusedSimpArgs false
section
variable {P : Program} {ops : Array Oper} {Q : Exit → Act → World → Prop}
/-- A call of a function value, in a region that draws its order. -/
theorem goesC_ {oi : Oper} {N : Option Tmp} {a : Act} {w : World} {K : Act → World → Prop} {f : FuncId} {fn : Func} {as_ : Array Operand} {ts : Array TypeId} (cl : Operand) (fr : Array Value) (hf : P.funcs[f]? = some fn) (hname : (fn.name == "runtime.NumGoroutine") = false) (hb : fn.body.isSome = true) (args0 args : Array Value)
  (hw : Region.wanted oi (yielded ops a.tmps) = true) (hN : oi.dst = N) (hop : oi.op = .call { callee := .value cl, args := as_, argTypes := ts }) (hcl : a.eval cl = .func (.func f) #[] fr) (hargs : as_.map a.eval = args0) (happ : args0 ++ fr = args)
  (h : Calls P f args w fun e w' => ∃ v, e = .returned v ∧ K (a.put N v) w') : if Region.wanted oi (yielded ops a.tmps) = true then Oper.wp P oi a w K Q else K (a.put N undef) w := by
 refine call_ f args hw hN ?_ h
 have he := enters_ hf hname hb args w
 unfold execOp
 subst happ
 simp [hop, resolve, Deferred.ofValue, invoke, hcl, hargs, he]
end
theorem early_calls (a b : Tk) (w : World) : Calls Try.prog 23 #[a4 a, a4 b] w fun e w' => e = .returned (.bool (earlyT a b)) ∧ Below w.heap.size w w' := by
 obtain ⟨a1, a2, a3, a4'⟩ := a
 obtain ⟨b1, b2, b3, b4⟩ := b
 unfold a4 earlyT
 simp only
 by_cases h : a1 = b1
 ·have f1 : (a1 != b1) = false := by simp [h]
  rw [if_neg (by simp [h])]
  have HF := Aside0.mk h
  clear h
  go_enter Try.func23, Try.ntmps23
  go_wp2_with (first | ((with_reducible refine gate_dst (N := 2) rfl ?_); refine box_event ?hg (N := 2) ?hd (cs := #[.int .i64 a1, .int .i64 a2, .int .i64 a3, .int .i64 a4']) (t := 61) ?hr ?_; (case hd => rfl); (case hg => rfl); (case hr => first | (go_simp; done) | (go_simp; rfl)); intro g2 hg w1 hbox hb; have HX1 := Aside0.mk hbox; have HB1 := Aside0.mk hb; clear hg hbox hb) | ((with_reducible refine gate_dst (N := 3) rfl ?_); refine box_event ?hg3 (N := 3) ?hd3 (cs := #[.int .i64 b1, .int .i64 b2, .int .i64 b3, .int .i64 b4]) (t := 61) ?hr3 ?_; (case hd3 => rfl); (case hg3 => rfl); (case hr3 => first | (go_simp; done) | (go_simp; rfl)); intro g3 hg w2 hbox hb; have HB2 := Aside0.mk (below_step HB1.out hb); have HX2 := blk_below HX1.out hb; have p0 : w2.cell? ⟨g2, 0, none⟩ = some (.int .i64 a1) := (blk_cell HX2 0).trans rfl; have p3 : w2.cell? ⟨g2, 3, none⟩ = some (.int .i64 a4') := (blk_cell HX2 3).trans rfl; have q0 : w2.cell? ⟨g3, 0, none⟩ = some (.int .i64 b1) := (blk_cell hbox 0).trans rfl; have q3 : w2.cell? ⟨g3, 3, none⟩ = some (.int .i64 b4) := (blk_cell hbox 3).trans rfl; clear HX2 hg hbox hb))
  go_ret
  exact ⟨rfl, HB2.out⟩
 ·have f1 : (a1 != b1) = true := bne_iff_ne.2 h
  rw [if_pos h]
  clear h
  go_enter Try.func23, Try.ntmps23
  go_wp2_with (first | ((with_reducible refine gate_dst (N := 2) rfl ?_); refine box_event ?hg (N := 2) ?hd (cs := #[.int .i64 a1, .int .i64 a2, .int .i64 a3, .int .i64 a4']) (t := 61) ?hr ?_; (case hd => rfl); (case hg => rfl); (case hr => first | (go_simp; done) | (go_simp; rfl)); intro g2 hg w1 hbox hb; have HX1 := Aside0.mk hbox; have HB1 := Aside0.mk hb; clear hg hbox hb) | ((with_reducible refine gate_dst (N := 3) rfl ?_); refine box_event ?hg3 (N := 3) ?hd3 (cs := #[.int .i64 b1, .int .i64 b2, .int .i64 b3, .int .i64 b4]) (t := 61) ?hr3 ?_; (case hd3 => rfl); (case hg3 => rfl); (case hr3 => first | (go_simp; done) | (go_simp; rfl)); intro g3 hg w2 hbox hb; have HB2 := Aside0.mk (below_step HB1.out hb); have HX2 := blk_below HX1.out hb; have p0 : w2.cell? ⟨g2, 0, none⟩ = some (.int .i64 a1) := (blk_cell HX2 0).trans rfl; have q0 : w2.cell? ⟨g3, 0, none⟩ = some (.int .i64 b1) := (blk_cell hbox 0).trans rfl; clear HX2 hg hbox hb))
  go_ret
  exact ⟨rfl, HB2.out⟩
theorem urgent_calls (a b : Tk) (w : World) : Calls Try.prog 24 #[a4 a, a4 b] w fun e w' => e = .returned (.bool (urgentT a b)) ∧ Below w.heap.size w w' := by
 by_cases h : a.urg = b.urg
 ·have f1 : (a.urg != b.urg) = false := by simp [h]
  have HF := Aside0.mk h
  have HR : Aside0 (urgentT a b = earlyT a b) := ⟨by unfold urgentT; rw [if_neg (by simp [h])]⟩
  rw [HR.out]
  clear h
  go_enter Try.func24, Try.ntmps24
  go_wp2_with (first | ((with_reducible refine gate_dst (N := 2) rfl ?_); refine box_event ?hg (N := 2) ?hd (cs := #[.int .i64 a.at_, .int .i64 a.urg, .int .i64 a.id, .int .i64 a.no]) (t := 61) ?hr ?_; (case hd => rfl); (case hg => rfl); (case hr => first | (go_simp; done) | (go_simp; rfl)); intro g2 hg w1 hbox hb; have HX1 := Aside0.mk hbox; have HB1 := Aside0.mk hb; clear hg hbox hb) | ((with_reducible refine gate_dst (N := 3) rfl ?_); refine box_event ?hg3 (N := 3) ?hd3 (cs := #[.int .i64 b.at_, .int .i64 b.urg, .int .i64 b.id, .int .i64 b.no]) (t := 61) ?hr3 ?_; (case hd3 => rfl); (case hg3 => rfl); (case hr3 => first | (go_simp; done) | (go_simp; rfl)); intro g3 hg w2 hbox hb; have HB2 := Aside0.mk (below_step HB1.out hb); have HX2 := blk_below HX1.out hb; have p0 : w2.cell? ⟨g2, 0, none⟩ = some (.int .i64 a.at_) := (blk_cell HX2 0).trans rfl; have p1 : w2.cell? ⟨g2, 1, none⟩ = some (.int .i64 a.urg) := (blk_cell HX2 1).trans rfl; have p2 : w2.cell? ⟨g2, 2, none⟩ = some (.int .i64 a.id) := (blk_cell HX2 2).trans rfl; have p3 : w2.cell? ⟨g2, 3, none⟩ = some (.int .i64 a.no) := (blk_cell HX2 3).trans rfl; have q0 : w2.cell? ⟨g3, 0, none⟩ = some (.int .i64 b.at_) := (blk_cell hbox 0).trans rfl; have q1 : w2.cell? ⟨g3, 1, none⟩ = some (.int .i64 b.urg) := (blk_cell hbox 1).trans rfl; have q2 : w2.cell? ⟨g3, 2, none⟩ = some (.int .i64 b.id) := (blk_cell hbox 2).trans rfl; have q3 : w2.cell? ⟨g3, 3, none⟩ = some (.int .i64 b.no) := (blk_cell hbox 3).trans rfl; clear HX2 hg hbox hb) | (go_at_call 23; refine (early_calls a b _).mono ?_; rintro e w3 ⟨rfl, hb⟩; have HB3 := Aside0.mk (below_step HB2.out hb); clear hb))
  go_ret
  exact ⟨rfl, HB3.out⟩
 ·have f1 : (a.urg != b.urg) = true := bne_iff_ne.2 h
  have HR : Aside0 (urgentT a b = decide (b.urg < a.urg)) := ⟨by unfold urgentT; rw [if_pos h]⟩
  rw [HR.out]
  clear h
  go_enter Try.func24, Try.ntmps24
  go_wp2_with (first | ((with_reducible refine gate_dst (N := 2) rfl ?_); refine box_event ?hg (N := 2) ?hd (cs := #[.int .i64 a.at_, .int .i64 a.urg, .int .i64 a.id, .int .i64 a.no]) (t := 61) ?hr ?_; (case hd => rfl); (case hg => rfl); (case hr => first | (go_simp; done) | (go_simp; rfl)); intro g2 hg w1 hbox hb; have HX1 := Aside0.mk hbox; have HB1 := Aside0.mk hb; clear hg hbox hb) | ((with_reducible refine gate_dst (N := 3) rfl ?_); refine box_event ?hg3 (N := 3) ?hd3 (cs := #[.int .i64 b.at_, .int .i64 b.urg, .int .i64 b.id, .int .i64 b.no]) (t := 61) ?hr3 ?_; (case hd3 => rfl); (case hg3 => rfl); (case hr3 => first | (go_simp; done) | (go_simp; rfl)); intro g3 hg w2 hbox hb; have HB2 := Aside0.mk (below_step HB1.out hb); have HX2 := blk_below HX1.out hb; have p1 : w2.cell? ⟨g2, 1, none⟩ = some (.int .i64 a.urg) := (blk_cell HX2 1).trans rfl; have q1 : w2.cell? ⟨g3, 1, none⟩ = some (.int .i64 b.urg) := (blk_cell hbox 1).trans rfl; clear HX2 hg hbox hb))
  go_ret
  exact ⟨rfl, HB2.out⟩
theorem hlen_calls (W w : World) (g fn : Nat) (v : Value) (l : List Tk) (h : HT W w g fn v l) : Calls Try.prog 27 #[.pointer (some ⟨g, 0, none⟩)] w fun e w' => e = .returned (.int .i64 l.length) ∧ Below w.heap.size w w' := by
 obtain ⟨A, c, rfl⟩ := Kd.R_slice h.row
 have f0 : w.cell? ⟨g, 0, none⟩ = some (.slice A l.length c) := (blk_cell h.blk 0).trans rfl
 clear h
 go_enter Try.func27, Try.ntmps27
 go_wp2
 go_ret
 exact ⟨rfl, Below.refl _ _⟩
/-- The row's form, and its cells at a place. -/
theorem ht_form {W w : World} {g fn : Nat} {v : Value} {l : List Tk} (h : HT W w g fn v l) (hp : 0 < l.length) : ∃ ga c, v = .slice (some ⟨ga, 0, none⟩) l.length c := by
 obtain ⟨ga, c, e, _⟩ := Kd.R_form h.row hp
 exact ⟨ga, c, e⟩
def rg51_1_T : Bool × List (List Nat × List Nat) := (true, [([], []), ([0], [0]), ([1], [1]), ([2], [2]), ([], []), ([4], [4]), ([5], [5]), ([6], [6]), ([], []), ([7, 8], [7, 8]), ([9], [9]), ([], []), ([11], [11]), ([12], [12]), ([13], [13]), ([], []), ([14, 15], [14, 15]), ([16], [16]), ([3, 10, 17], [3, 10, 17]), ([18, 18, 0, 1, 2, 3, 4, 5, 6, 7, 8, 9, 10, 11, 12, 13, 14, 15, 16, 17, 18], [18])])
def rg51_1_B : List Nat := [0, 1, 3, 7, 0, 16, 48, 112, 0, 496, 1008, 0, 2048, 6144, 14336, 0, 63488, 129024, 262143, 524287]
theorem rg51_1_tab : rtab .any (opsOf Try.f51 1) = rg51_1_T := by kernel_rfl
theorem rg51_1_bits : waitsOk rg51_1_T.2 rg51_1_B = true := by kernel_rfl
set_option maxHeartbeats 8000000 in
set_option maxRecDepth 100000 in
theorem less_calls23 (W w : World) (g : Nat) (v : Value) (l : List Tk) (h : HT W w g 23 v l) (i k : Nat) (hi : i < l.length) (hk : k < l.length) : Calls Try.prog 51 #[.pointer (some ⟨g, 0, none⟩), .int .i64 i, .int .i64 k] w fun e w' => e = .returned (.bool (LT 23 (l.getD i t0) (l.getD k t0))) ∧ Below w.heap.size w w' := by
 have hu61 := Try.underlying61
 obtain ⟨ga, c, rfl⟩ := ht_form h (by omega)
 obtain ⟨n, hn⟩ : ∃ n, n = l.length := ⟨_, rfl⟩
 rw [← hn] at h hi hk
 have b1 : decide ((i : Int) < (n : Int)) = true := decide_eq_true (by omega)
 have b2 : decide (i < n) = true := decide_eq_true hi
 have b3 : decide ((k : Int) < (n : Int)) = true := decide_eq_true (by omega)
 have b4 : decide (k < n) = true := decide_eq_true hk
 have hd := h.drew
 have hbk := hd.blk
 obtain ⟨c0, c1, c2, c3, _⟩ := T4_cell hd.row i hi
 obtain ⟨d0, d1, d2, d3, _⟩ := T4_cell hd.row k hk
 obtain ⟨x, hx⟩ : ∃ x, x = l.getD i t0 := ⟨_, rfl⟩
 obtain ⟨y, hy⟩ : ∃ y, y = l.getD k t0 := ⟨_, rfl⟩
 rw [← hx] at c0 c1 c2 c3 ⊢
 rw [← hy] at d0 d1 d2 d3 ⊢
 clear h hn hd hx hy
 go_enter Try.func51, Try.ntmps51
 go_upto_region 1 with (fail)
 refine start_ (n := 20) (S := fun w' => w'.heap[g]? = some (.cells #[.slice (some ⟨ga, 0, none⟩) n c, .func (.func 23) #[] #[]] 54 (0, 0)) ∧ w'.cell? ⟨ga, i * 4, none⟩ = some (.int .i64 x.at_) ∧ w'.cell? ⟨ga, i * 4 + 1, none⟩ = some (.int .i64 x.urg) ∧ w'.cell? ⟨ga, i * 4 + 2, none⟩ = some (.int .i64 x.id) ∧ w'.cell? ⟨ga, i * 4 + 3, none⟩ = some (.int .i64 x.no) ∧ w'.cell? ⟨ga, k * 4, none⟩ = some (.int .i64 y.at_) ∧ w'.cell? ⟨ga, k * 4 + 1, none⟩ = some (.int .i64 y.urg) ∧ w'.cell? ⟨ga, k * 4 + 2, none⟩ = some (.int .i64 y.id) ∧ w'.cell? ⟨ga, k * 4 + 3, none⟩ = some (.int .i64 y.no)) (ds := [18, 19]) #[false, false, false, false, false, false, false, false, false, false, false, false, false, false, false, false, false, false, false, false] (by kernel_rfl) rfl rfl ⟨hbk, c0, c1, c2, c3, d0, d1, d2, d3⟩ (fun hHeld => ?_)
 refine with_tabW rg51_1_tab rg51_1_bits (fun HT_ HW_ => ?_)
 refine pure_ (i := 0) (N := some 7) (v := ?_) (a' := ?_) #[true, false, false, false, false, false, false, false, false, false, false, false, false, false, false, false, false, false, false, false] rfl rfl (any_of HT_.out (by kernel_rfl)) (fun _ _ _ h => h) (Or.inl ⟨by rfl, ?_⟩) ?_ ?_
 rotate_left
 ·intro w'
  go_simp
  with_reducible rfl
 rotate_left
 ·simp only [Act.put, List.setIfInBounds_toArray, List.set_cons_zero, List.set_cons_succ, i64_w, i32_w]
  rfl
 refine pure_ (i := 1) (N := some 8) (v := ?_) (a' := ?_) #[true, true, false, false, false, false, false, false, false, false, false, false, false, false, false, false, false, false, false, false] rfl rfl (any_of HT_.out (by kernel_rfl)) (fun _ _ _ h => h) (Or.inl ⟨by rfl, ?_⟩) ?_ ?_
 rotate_left
 ·intro w'
  go_simp
  with_reducible rfl
 rotate_left
 ·simp only [Act.put, List.setIfInBounds_toArray, List.set_cons_zero, List.set_cons_succ, i64_w, i32_w]
  rfl
 refine pure_ (i := 2) (N := some 9) (v := ?_) (a' := ?_) #[true, true, true, false, false, false, false, false, false, false, false, false, false, false, false, false, false, false, false, false] rfl rfl (any_of HT_.out (by kernel_rfl)) (fun _ _ _ h => h) (Or.inl ⟨by rfl, ?_⟩) ?_ ?_
 rotate_left
 ·intro w'
  go_simp
  with_reducible rfl
 rotate_left
 ·simp only [Act.put, List.setIfInBounds_toArray, List.set_cons_zero, List.set_cons_succ, i64_w, i32_w]
  rfl
 refine take_ (i := 3) (N := some 10) (v := ?_) (a' := ?_) #[true, true, true, true, false, false, false, false, false, false, false, false, false, false, false, false, false, false, false, false] rfl rfl (take_ofW HT_.out HW_.out (by kernel_rfl)) (fun _ _ _ h => h) (Or.inl ⟨by rfl, ?_⟩) hHeld ?_ ?_
 rotate_left
 ·rintro w' ⟨s0, s1, s2, s3, s4, s5, s6, s7, s8⟩
  have y1 : w'.cell? ⟨g, 1, none⟩ = some (.func (.func 23) #[] #[]) := (blk_cell s0 1).trans rfl
  go_simp
  with_reducible rfl
 rotate_left
 ·simp only [Act.put, List.setIfInBounds_toArray, List.set_cons_zero, List.set_cons_succ, i64_w, i32_w]
  rfl
 refine pure_ (i := 4) (N := some 11) (v := ?_) (a' := ?_) #[true, true, true, true, true, false, false, false, false, false, false, false, false, false, false, false, false, false, false, false] rfl rfl (any_of HT_.out (by kernel_rfl)) (fun _ _ _ h => h) (Or.inl ⟨by rfl, ?_⟩) ?_ ?_
 rotate_left
 ·intro w'
  go_simp
  with_reducible rfl
 rotate_left
 ·simp only [Act.put, List.setIfInBounds_toArray, List.set_cons_zero, List.set_cons_succ, i64_w, i32_w]
  rfl
 refine pure_ (i := 5) (N := some 12) (v := ?_) (a' := ?_) #[true, true, true, true, true, true, false, false, false, false, false, false, false, false, false, false, false, false, false, false] rfl rfl (any_of HT_.out (by kernel_rfl)) (fun _ _ _ h => h) (Or.inl ⟨by rfl, ?_⟩) ?_ ?_
 rotate_left
 ·intro w'
  go_simp
  with_reducible rfl
 rotate_left
 ·simp only [Act.put, List.setIfInBounds_toArray, List.set_cons_zero, List.set_cons_succ, i64_w, i32_w]
  rfl
 refine pure_ (i := 6) (N := some 13) (v := ?_) (a' := ?_) #[true, true, true, true, true, true, true, false, false, false, false, false, false, false, false, false, false, false, false, false] rfl rfl (any_of HT_.out (by kernel_rfl)) (fun _ _ _ h => h) (Or.inl ⟨by rfl, ?_⟩) ?_ ?_
 rotate_left
 ·intro w'
  go_simp
  with_reducible rfl
 rotate_left
 ·simp only [Act.put, List.setIfInBounds_toArray, List.set_cons_zero, List.set_cons_succ, i64_w, i32_w]
  rfl
 refine take_ (i := 7) (N := some 14) (v := ?_) (a' := ?_) #[true, true, true, true, true, true, true, true, false, false, false, false, false, false, false, false, false, false, false, false] rfl rfl (take_ofW HT_.out HW_.out (by kernel_rfl)) (fun _ _ _ h => h) (Or.inl ⟨by rfl, ?_⟩) hHeld ?_ ?_
 rotate_left
 ·rintro w' ⟨s0, s1, s2, s3, s4, s5, s6, s7, s8⟩
  have y0 : w'.cell? ⟨g, 0, none⟩ = some (.slice (some ⟨ga, 0, none⟩) n c) := (blk_cell s0 0).trans rfl
  go_simp
  with_reducible rfl
 rotate_left
 ·simp only [Act.put, List.setIfInBounds_toArray, List.set_cons_zero, List.set_cons_succ, i64_w, i32_w]
  rfl
 refine pure_ (i := 8) (N := some 15) (v := ?_) (a' := ?_) #[true, true, true, true, true, true, true, true, true, false, false, false, false, false, false, false, false, false, false, false] rfl rfl (any_of HT_.out (by kernel_rfl)) (fun _ _ _ h => h) (Or.inl ⟨by rfl, ?_⟩) ?_ ?_
 rotate_left
 ·intro w'
  go_simp
  with_reducible rfl
 rotate_left
 ·simp only [Act.put, List.setIfInBounds_toArray, List.set_cons_zero, List.set_cons_succ, i64_w, i32_w]
  rfl
 refine pure_ (i := 9) (N := some 16) (v := ?_) (a' := ?_) #[true, true, true, true, true, true, true, true, true, true, false, false, false, false, false, false, false, false, false, false] rfl rfl (any_of HT_.out (by kernel_rfl)) (fun _ _ _ h => h) (Or.inl ⟨by rfl, ?_⟩) ?_ ?_
 rotate_left
 ·intro w'
  go_simp
  with_reducible rfl
 rotate_left
 ·simp only [Act.put, List.setIfInBounds_toArray, List.set_cons_zero, List.set_cons_succ, i64_w, i32_w]
  rfl
 refine take_ (i := 10) (N := some 17) (v := ?_) (a' := ?_) #[true, true, true, true, true, true, true, true, true, true, true, false, false, false, false, false, false, false, false, false] rfl rfl (take_ofW HT_.out HW_.out (by kernel_rfl)) (fun _ _ _ h => h) (Or.inl ⟨by rfl, ?_⟩) hHeld ?_ ?_
 rotate_left
 ·rintro w' ⟨s0, s1, s2, s3, s4, s5, s6, s7, s8⟩
  go_simp
  with_reducible rfl
 rotate_left
 ·simp only [Act.put, List.setIfInBounds_toArray, List.set_cons_zero, List.set_cons_succ, i64_w, i32_w]
  rfl
 refine pure_ (i := 11) (N := some 18) (v := ?_) (a' := ?_) #[true, true, true, true, true, true, true, true, true, true, true, true, false, false, false, false, false, false, false, false] rfl rfl (any_of HT_.out (by kernel_rfl)) (fun _ _ _ h => h) (Or.inl ⟨by rfl, ?_⟩) ?_ ?_
 rotate_left
 ·intro w'
  go_simp
  with_reducible rfl
 rotate_left
 ·simp only [Act.put, List.setIfInBounds_toArray, List.set_cons_zero, List.set_cons_succ, i64_w, i32_w]
  rfl
 refine pure_ (i := 12) (N := some 19) (v := ?_) (a' := ?_) #[true, true, true, true, true, true, true, true, true, true, true, true, true, false, false, false, false, false, false, false] rfl rfl (any_of HT_.out (by kernel_rfl)) (fun _ _ _ h => h) (Or.inl ⟨by rfl, ?_⟩) ?_ ?_
 rotate_left
 ·intro w'
  go_simp
  with_reducible rfl
 rotate_left
 ·simp only [Act.put, List.setIfInBounds_toArray, List.set_cons_zero, List.set_cons_succ, i64_w, i32_w]
  rfl
 refine pure_ (i := 13) (N := some 20) (v := ?_) (a' := ?_) #[true, true, true, true, true, true, true, true, true, true, true, true, true, true, false, false, false, false, false, false] rfl rfl (any_of HT_.out (by kernel_rfl)) (fun _ _ _ h => h) (Or.inl ⟨by rfl, ?_⟩) ?_ ?_
 rotate_left
 ·intro w'
  go_simp
  with_reducible rfl
 rotate_left
 ·simp only [Act.put, List.setIfInBounds_toArray, List.set_cons_zero, List.set_cons_succ, i64_w, i32_w]
  rfl
 refine take_ (i := 14) (N := some 21) (v := ?_) (a' := ?_) #[true, true, true, true, true, true, true, true, true, true, true, true, true, true, true, false, false, false, false, false] rfl rfl (take_ofW HT_.out HW_.out (by kernel_rfl)) (fun _ _ _ h => h) (Or.inl ⟨by rfl, ?_⟩) hHeld ?_ ?_
 rotate_left
 ·rintro w' ⟨s0, s1, s2, s3, s4, s5, s6, s7, s8⟩
  have y0 : w'.cell? ⟨g, 0, none⟩ = some (.slice (some ⟨ga, 0, none⟩) n c) := (blk_cell s0 0).trans rfl
  go_simp
  with_reducible rfl
 rotate_left
 ·simp only [Act.put, List.setIfInBounds_toArray, List.set_cons_zero, List.set_cons_succ, i64_w, i32_w]
  rfl
 refine pure_ (i := 15) (N := some 22) (v := ?_) (a' := ?_) #[true, true, true, true, true, true, true, true, true, true, true, true, true, true, true, true, false, false, false, false] rfl rfl (any_of HT_.out (by kernel_rfl)) (fun _ _ _ h => h) (Or.inl ⟨by rfl, ?_⟩) ?_ ?_
 rotate_left
 ·intro w'
  go_simp
  with_reducible rfl
 rotate_left
 ·simp only [Act.put, List.setIfInBounds_toArray, List.set_cons_zero, List.set_cons_succ, i64_w, i32_w]
  rfl
 refine pure_ (i := 16) (N := some 23) (v := ?_) (a' := ?_) #[true, true, true, true, true, true, true, true, true, true, true, true, true, true, true, true, true, false, false, false] rfl rfl (any_of HT_.out (by kernel_rfl)) (fun _ _ _ h => h) (Or.inl ⟨by rfl, ?_⟩) ?_ ?_
 rotate_left
 ·intro w'
  go_simp
  with_reducible rfl
 rotate_left
 ·simp only [Act.put, List.setIfInBounds_toArray, List.set_cons_zero, List.set_cons_succ, i64_w, i32_w]
  rfl
 refine take_ (i := 17) (N := some 24) (v := ?_) (a' := ?_) #[true, true, true, true, true, true, true, true, true, true, true, true, true, true, true, true, true, true, false, false] rfl rfl (take_ofW HT_.out HW_.out (by kernel_rfl)) (fun _ _ _ h => h) (Or.inl ⟨by rfl, ?_⟩) hHeld ?_ ?_
 rotate_left
 ·rintro w' ⟨s0, s1, s2, s3, s4, s5, s6, s7, s8⟩
  go_simp
  with_reducible rfl
 rotate_left
 ·simp only [Act.put, List.setIfInBounds_toArray, List.set_cons_zero, List.set_cons_succ, i64_w, i32_w]
  rfl
 refine last_ (i := 18) (N := some 25) #[true, true, true, true, true, true, true, true, true, true, true, true, true, true, true, true, true, true, true, false] rfl rfl (one_of HT_.out (by kernel_rfl)) (by decide) (fun K hK => ?_)
 (refine goesC_ (.tmp 10) #[] Try.func23 (by kernel_rfl) rfl #[a4 x, a4 y] #[a4 x, a4 y] (by rfl) rfl rfl rfl (by (try simp only [List.map_toArray, List.map_cons, List.map_nil]); first | done | rfl) (by simp) ?_; refine (early_calls x y _).mono ?_; rintro e w6 ⟨rfl, hb⟩; refine ⟨_, rfl, ?_⟩; have HB6 := Aside0.mk (below_step (w := w) (below_drew (Below.refl _ w)) hb); clear hb)
 refine hK.out _ _ ?_
 clear hK K
 try simp only [Act.put, List.setIfInBounds_toArray, List.set_cons_zero, List.set_cons_succ, i64_w, i32_w]
 refine pure_ (i := 19) (N := some 6) (v := ?_) (a' := ?_) #[true, true, true, true, true, true, true, true, true, true, true, true, true, true, true, true, true, true, true, true] rfl rfl (any_of HT_.out (by kernel_rfl)) (fun _ _ _ h => h) (Or.inl ⟨by rfl, ?_⟩) ?_ ?_
 rotate_left
 ·intro w'
  go_simp
  with_reducible rfl
 rotate_left
 ·simp only [Act.put, List.setIfInBounds_toArray, List.set_cons_zero, List.set_cons_succ, i64_w, i32_w]
  rfl
 refine done_ (done_of HT_.out (by kernel_rfl)) ?_
 clear hHeld
 go_wp2
 go_ret
 exact ⟨rfl, HB6.out⟩
set_option maxHeartbeats 8000000 in
set_option maxRecDepth 100000 in
theorem less_calls24 (W w : World) (g : Nat) (v : Value) (l : List Tk) (h : HT W w g 24 v l) (i k : Nat) (hi : i < l.length) (hk : k < l.length) : Calls Try.prog 51 #[.pointer (some ⟨g, 0, none⟩), .int .i64 i, .int .i64 k] w fun e w' => e = .returned (.bool (LT 24 (l.getD i t0) (l.getD k t0))) ∧ Below w.heap.size w w' := by
 have hu61 := Try.underlying61
 obtain ⟨ga, c, rfl⟩ := ht_form h (by omega)
 obtain ⟨n, hn⟩ : ∃ n, n = l.length := ⟨_, rfl⟩
 rw [← hn] at h hi hk
 have b1 : decide ((i : Int) < (n : Int)) = true := decide_eq_true (by omega)
 have b2 : decide (i < n) = true := decide_eq_true hi
 have b3 : decide ((k : Int) < (n : Int)) = true := decide_eq_true (by omega)
 have b4 : decide (k < n) = true := decide_eq_true hk
 have hd := h.drew
 have hbk := hd.blk
 obtain ⟨c0, c1, c2, c3, _⟩ := T4_cell hd.row i hi
 obtain ⟨d0, d1, d2, d3, _⟩ := T4_cell hd.row k hk
 obtain ⟨x, hx⟩ : ∃ x, x = l.getD i t0 := ⟨_, rfl⟩
 obtain ⟨y, hy⟩ : ∃ y, y = l.getD k t0 := ⟨_, rfl⟩
 rw [← hx] at c0 c1 c2 c3 ⊢
 rw [← hy] at d0 d1 d2 d3 ⊢
 clear h hn hd hx hy
 go_enter Try.func51, Try.ntmps51
 go_upto_region 1 with (fail)
 refine start_ (n := 20) (S := fun w' => w'.heap[g]? = some (.cells #[.slice (some ⟨ga, 0, none⟩) n c, .func (.func 24) #[] #[]] 54 (0, 0)) ∧ w'.cell? ⟨ga, i * 4, none⟩ = some (.int .i64 x.at_) ∧ w'.cell? ⟨ga, i * 4 + 1, none⟩ = some (.int .i64 x.urg) ∧ w'.cell? ⟨ga, i * 4 + 2, none⟩ = some (.int .i64 x.id) ∧ w'.cell? ⟨ga, i * 4 + 3, none⟩ = some (.int .i64 x.no) ∧ w'.cell? ⟨ga, k * 4, none⟩ = some (.int .i64 y.at_) ∧ w'.cell? ⟨ga, k * 4 + 1, none⟩ = some (.int .i64 y.urg) ∧ w'.cell? ⟨ga, k * 4 + 2, none⟩ = some (.int .i64 y.id) ∧ w'.cell? ⟨ga, k * 4 + 3, none⟩ = some (.int .i64 y.no)) (ds := [18, 19]) #[false, false, false, false, false, false, false, false, false, false, false, false, false, false, false, false, false, false, false, false] (by kernel_rfl) rfl rfl ⟨hbk, c0, c1, c2, c3, d0, d1, d2, d3⟩ (fun hHeld => ?_)
 refine with_tabW rg51_1_tab rg51_1_bits (fun HT_ HW_ => ?_)
 refine pure_ (i := 0) (N := some 7) (v := ?_) (a' := ?_) #[true, false, false, false, false, false, false, false, false, false, false, false, false, false, false, false, false, false, false, false] rfl rfl (any_of HT_.out (by kernel_rfl)) (fun _ _ _ h => h) (Or.inl ⟨by rfl, ?_⟩) ?_ ?_
 rotate_left
 ·intro w'
  go_simp
  with_reducible rfl
 rotate_left
 ·simp only [Act.put, List.setIfInBounds_toArray, List.set_cons_zero, List.set_cons_succ, i64_w, i32_w]
  rfl
 refine pure_ (i := 1) (N := some 8) (v := ?_) (a' := ?_) #[true, true, false, false, false, false, false, false, false, false, false, false, false, false, false, false, false, false, false, false] rfl rfl (any_of HT_.out (by kernel_rfl)) (fun _ _ _ h => h) (Or.inl ⟨by rfl, ?_⟩) ?_ ?_
 rotate_left
 ·intro w'
  go_simp
  with_reducible rfl
 rotate_left
 ·simp only [Act.put, List.setIfInBounds_toArray, List.set_cons_zero, List.set_cons_succ, i64_w, i32_w]
  rfl
 refine pure_ (i := 2) (N := some 9) (v := ?_) (a' := ?_) #[true, true, true, false, false, false, false, false, false, false, false, false, false, false, false, false, false, false, false, false] rfl rfl (any_of HT_.out (by kernel_rfl)) (fun _ _ _ h => h) (Or.inl ⟨by rfl, ?_⟩) ?_ ?_
 rotate_left
 ·intro w'
  go_simp
  with_reducible rfl
 rotate_left
 ·simp only [Act.put, List.setIfInBounds_toArray, List.set_cons_zero, List.set_cons_succ, i64_w, i32_w]
  rfl
 refine take_ (i := 3) (N := some 10) (v := ?_) (a' := ?_) #[true, true, true, true, false, false, false, false, false, false, false, false, false, false, false, false, false, false, false, false] rfl rfl (take_ofW HT_.out HW_.out (by kernel_rfl)) (fun _ _ _ h => h) (Or.inl ⟨by rfl, ?_⟩) hHeld ?_ ?_
 rotate_left
 ·rintro w' ⟨s0, s1, s2, s3, s4, s5, s6, s7, s8⟩
  have y1 : w'.cell? ⟨g, 1, none⟩ = some (.func (.func 24) #[] #[]) := (blk_cell s0 1).trans rfl
  go_simp
  with_reducible rfl
 rotate_left
 ·simp only [Act.put, List.setIfInBounds_toArray, List.set_cons_zero, List.set_cons_succ, i64_w, i32_w]
  rfl
 refine pure_ (i := 4) (N := some 11) (v := ?_) (a' := ?_) #[true, true, true, true, true, false, false, false, false, false, false, false, false, false, false, false, false, false, false, false] rfl rfl (any_of HT_.out (by kernel_rfl)) (fun _ _ _ h => h) (Or.inl ⟨by rfl, ?_⟩) ?_ ?_
 rotate_left
 ·intro w'
  go_simp
  with_reducible rfl
 rotate_left
 ·simp only [Act.put, List.setIfInBounds_toArray, List.set_cons_zero, List.set_cons_succ, i64_w, i32_w]
  rfl
 refine pure_ (i := 5) (N := some 12) (v := ?_) (a' := ?_) #[true, true, true, true, true, true, false, false, false, false, false, false, false, false, false, false, false, false, false, false] rfl rfl (any_of HT_.out (by kernel_rfl)) (fun _ _ _ h => h) (Or.inl ⟨by rfl, ?_⟩) ?_ ?_
 rotate_left
 ·intro w'
  go_simp
  with_reducible rfl
 rotate_left
 ·simp only [Act.put, List.setIfInBounds_toArray, List.set_cons_zero, List.set_cons_succ, i64_w, i32_w]
  rfl
 refine pure_ (i := 6) (N := some 13) (v := ?_) (a' := ?_) #[true, true, true, true, true, true, true, false, false, false, false, false, false, false, false, false, false, false, false, false] rfl rfl (any_of HT_.out (by kernel_rfl)) (fun _ _ _ h => h) (Or.inl ⟨by rfl, ?_⟩) ?_ ?_
 rotate_left
 ·intro w'
  go_simp
  with_reducible rfl
 rotate_left
 ·simp only [Act.put, List.setIfInBounds_toArray, List.set_cons_zero, List.set_cons_succ, i64_w, i32_w]
  rfl
 refine take_ (i := 7) (N := some 14) (v := ?_) (a' := ?_) #[true, true, true, true, true, true, true, true, false, false, false, false, false, false, false, false, false, false, false, false] rfl rfl (take_ofW HT_.out HW_.out (by kernel_rfl)) (fun _ _ _ h => h) (Or.inl ⟨by rfl, ?_⟩) hHeld ?_ ?_
 rotate_left
 ·rintro w' ⟨s0, s1, s2, s3, s4, s5, s6, s7, s8⟩
  have y0 : w'.cell? ⟨g, 0, none⟩ = some (.slice (some ⟨ga, 0, none⟩) n c) := (blk_cell s0 0).trans rfl
  go_simp
  with_reducible rfl
 rotate_left
 ·simp only [Act.put, List.setIfInBounds_toArray, List.set_cons_zero, List.set_cons_succ, i64_w, i32_w]
  rfl
 refine pure_ (i := 8) (N := some 15) (v := ?_) (a' := ?_) #[true, true, true, true, true, true, true, true, true, false, false, false, false, false, false, false, false, false, false, false] rfl rfl (any_of HT_.out (by kernel_rfl)) (fun _ _ _ h => h) (Or.inl ⟨by rfl, ?_⟩) ?_ ?_
 rotate_left
 ·intro w'
  go_simp
  with_reducible rfl
 rotate_left
 ·simp only [Act.put, List.setIfInBounds_toArray, List.set_cons_zero, List.set_cons_succ, i64_w, i32_w]
  rfl
 refine pure_ (i := 9) (N := some 16) (v := ?_) (a' := ?_) #[true, true, true, true, true, true, true, true, true, true, false, false, false, false, false, false, false, false, false, false] rfl rfl (any_of HT_.out (by kernel_rfl)) (fun _ _ _ h => h) (Or.inl ⟨by rfl, ?_⟩) ?_ ?_
 rotate_left
 ·intro w'
  go_simp
  with_reducible rfl
 rotate_left
 ·simp only [Act.put, List.setIfInBounds_toArray, List.set_cons_zero, List.set_cons_succ, i64_w, i32_w]
  rfl
 refine take_ (i := 10) (N := some 17) (v := ?_) (a' := ?_) #[true, true, true, true, true, true, true, true, true, true, true, false, false, false, false, false, false, false, false, false] rfl rfl (take_ofW HT_.out HW_.out (by kernel_rfl)) (fun _ _ _ h => h) (Or.inl ⟨by rfl, ?_⟩) hHeld ?_ ?_
 rotate_left
 ·rintro w' ⟨s0, s1, s2, s3, s4, s5, s6, s7, s8⟩
  go_simp
  with_reducible rfl
 rotate_left
 ·simp only [Act.put, List.setIfInBounds_toArray, List.set_cons_zero, List.set_cons_succ, i64_w, i32_w]
  rfl
 refine pure_ (i := 11) (N := some 18) (v := ?_) (a' := ?_) #[true, true, true, true, true, true, true, true, true, true, true, true, false, false, false, false, false, false, false, false] rfl rfl (any_of HT_.out (by kernel_rfl)) (fun _ _ _ h => h) (Or.inl ⟨by rfl, ?_⟩) ?_ ?_
 rotate_left
 ·intro w'
  go_simp
  with_reducible rfl
 rotate_left
 ·simp only [Act.put, List.setIfInBounds_toArray, List.set_cons_zero, List.set_cons_succ, i64_w, i32_w]
  rfl
 refine pure_ (i := 12) (N := some 19) (v := ?_) (a' := ?_) #[true, true, true, true, true, true, true, true, true, true, true, true, true, false, false, false, false, false, false, false] rfl rfl (any_of HT_.out (by kernel_rfl)) (fun _ _ _ h => h) (Or.inl ⟨by rfl, ?_⟩) ?_ ?_
 rotate_left
 ·intro w'
  go_simp
  with_reducible rfl
 rotate_left
 ·simp only [Act.put, List.setIfInBounds_toArray, List.set_cons_zero, List.set_cons_succ, i64_w, i32_w]
  rfl
 refine pure_ (i := 13) (N := some 20) (v := ?_) (a' := ?_) #[true, true, true, true, true, true, true, true, true, true, true, true, true, true, false, false, false, false, false, false] rfl rfl (any_of HT_.out (by kernel_rfl)) (fun _ _ _ h => h) (Or.inl ⟨by rfl, ?_⟩) ?_ ?_
 rotate_left
 ·intro w'
  go_simp
  with_reducible rfl
 rotate_left
 ·simp only [Act.put, List.setIfInBounds_toArray, List.set_cons_zero, List.set_cons_succ, i64_w, i32_w]
  rfl
 refine take_ (i := 14) (N := some 21) (v := ?_) (a' := ?_) #[true, true, true, true, true, true, true, true, true, true, true, true, true, true, true, false, false, false, false, false] rfl rfl (take_ofW HT_.out HW_.out (by kernel_rfl)) (fun _ _ _ h => h) (Or.inl ⟨by rfl, ?_⟩) hHeld ?_ ?_
 rotate_left
 ·rintro w' ⟨s0, s1, s2, s3, s4, s5, s6, s7, s8⟩
  have y0 : w'.cell? ⟨g, 0, none⟩ = some (.slice (some ⟨ga, 0, none⟩) n c) := (blk_cell s0 0).trans rfl
  go_simp
  with_reducible rfl
 rotate_left
 ·simp only [Act.put, List.setIfInBounds_toArray, List.set_cons_zero, List.set_cons_succ, i64_w, i32_w]
  rfl
 refine pure_ (i := 15) (N := some 22) (v := ?_) (a' := ?_) #[true, true, true, true, true, true, true, true, true, true, true, true, true, true, true, true, false, false, false, false] rfl rfl (any_of HT_.out (by kernel_rfl)) (fun _ _ _ h => h) (Or.inl ⟨by rfl, ?_⟩) ?_ ?_
 rotate_left
 ·intro w'
  go_simp
  with_reducible rfl
 rotate_left
 ·simp only [Act.put, List.setIfInBounds_toArray, List.set_cons_zero, List.set_cons_succ, i64_w, i32_w]
  rfl
 refine pure_ (i := 16) (N := some 23) (v := ?_) (a' := ?_) #[true, true, true, true, true, true, true, true, true, true, true, true, true, true, true, true, true, false, false, false] rfl rfl (any_of HT_.out (by kernel_rfl)) (fun _ _ _ h => h) (Or.inl ⟨by rfl, ?_⟩) ?_ ?_
 rotate_left
 ·intro w'
  go_simp
  with_reducible rfl
 rotate_left
 ·simp only [Act.put, List.setIfInBounds_toArray, List.set_cons_zero, List.set_cons_succ, i64_w, i32_w]
  rfl
 refine take_ (i := 17) (N := some 24) (v := ?_) (a' := ?_) #[true, true, true, true, true, true, true, true, true, true, true, true, true, true, true, true, true, true, false, false] rfl rfl (take_ofW HT_.out HW_.out (by kernel_rfl)) (fun _ _ _ h => h) (Or.inl ⟨by rfl, ?_⟩) hHeld ?_ ?_
 rotate_left
 ·rintro w' ⟨s0, s1, s2, s3, s4, s5, s6, s7, s8⟩
  go_simp
  with_reducible rfl
 rotate_left
 ·simp only [Act.put, List.setIfInBounds_toArray, List.set_cons_zero, List.set_cons_succ, i64_w, i32_w]
  rfl
 refine last_ (i := 18) (N := some 25) #[true, true, true, true, true, true, true, true, true, true, true, true, true, true, true, true, true, true, true, false] rfl rfl (one_of HT_.out (by kernel_rfl)) (by decide) (fun K hK => ?_)
 (refine goesC_ (.tmp 10) #[] Try.func24 (by kernel_rfl) rfl #[a4 x, a4 y] #[a4 x, a4 y] (by rfl) rfl rfl rfl (by (try simp only [List.map_toArray, List.map_cons, List.map_nil]); first | done | rfl) (by simp) ?_; refine (urgent_calls x y _).mono ?_; rintro e w6 ⟨rfl, hb⟩; refine ⟨_, rfl, ?_⟩; have HB6 := Aside0.mk (below_step (w := w) (below_drew (Below.refl _ w)) hb); clear hb)
 refine hK.out _ _ ?_
 clear hK K
 try simp only [Act.put, List.setIfInBounds_toArray, List.set_cons_zero, List.set_cons_succ, i64_w, i32_w]
 refine pure_ (i := 19) (N := some 6) (v := ?_) (a' := ?_) #[true, true, true, true, true, true, true, true, true, true, true, true, true, true, true, true, true, true, true, true] rfl rfl (any_of HT_.out (by kernel_rfl)) (fun _ _ _ h => h) (Or.inl ⟨by rfl, ?_⟩) ?_ ?_
 rotate_left
 ·intro w'
  go_simp
  with_reducible rfl
 rotate_left
 ·simp only [Act.put, List.setIfInBounds_toArray, List.set_cons_zero, List.set_cons_succ, i64_w, i32_w]
  rfl
 refine done_ (done_of HT_.out (by kernel_rfl)) ?_
 clear hHeld
 go_wp2
 go_ret
 exact ⟨rfl, HB6.out⟩
theorem less_calls (W w : World) (g fn : Nat) (hfn : fn = 23 ∨ fn = 24) (v : Value) (l : List Tk) (h : HT W w g fn v l) (i k : Nat) (hi : i < l.length) (hk : k < l.length) : Calls Try.prog 51 #[.pointer (some ⟨g, 0, none⟩), .int .i64 i, .int .i64 k] w fun e w' => e = .returned (.bool (LT fn (l.getD i t0) (l.getD k t0))) ∧ Below w.heap.size w w' := by
 rcases hfn with rfl | rfl
 ·exact less_calls23 W w g v l h i k hi hk
 ·exact less_calls24 W w g v l h i k hi hk
end Go.Proofs.Ytacceeefcelkhaa.Al

namespace Go.Proofs.Ytacceeefcelkhaa.Al
open Go.RowKit Go.Proofs.Ytacceeefcelkhaa.DueHeap Go.Proofs.Ytacceeefcelkhaa.DueSpec Go.Proofs.YtacceeefcelkhaaW.PrintWords Go.Proofs.YtacceeefcelkhaaW.PrintLast Go.Proofs.YtacceeefcelkhaaW.PrintMore
set_option linter.unusedVariables false
set_option linter.unusedSimpArgs false
theorem info61 : (Try.prog.info? 61).map (fun i => (i.zero, i.size, i.bytes)) = some (some (.agg #[.int .i64 0, .int .i64 0, .int .i64 0, .int .i64 0]), 4, 32) := by kernel_rfl
theorem due_grown (W : World) (g j : Nat) (u : Value) : W.grownBy (W.setCell ⟨g, j, none⟩ u) (some g) := ⟨rfl, rfl, rfl, by simp [World.setCell], fun k _ hk => Below.heap_setCell W ⟨g, j, none⟩ u k (fun e => hk (by rw [e]))⟩
/-- A whole element stored: the four cells one by one. -/
theorem T4_chain {e : Nat} {w : World} {base : Nat} {ok : Nat → Prop} {g n c : Nat} {l : List Tk} (h : kT.R e w base ok (.slice (some ⟨g, 0, none⟩) n c) l) (i : Nat) (hi : i < n) (x : Tk) :
  kT.R e ((((w.setCell ⟨g, i * 4, none⟩ (.int .i64 x.at_)).setCell ⟨g, i * 4 + 1, none⟩ (.int .i64 x.urg)).setCell ⟨g, i * 4 + 2, none⟩ (.int .i64 x.id)).setCell ⟨g, i * 4 + 3, none⟩ (.int .i64 x.no)) base ok (.slice (some ⟨g, 0, none⟩) n c) (l.set i x) ∧ w.grownBy ((((w.setCell ⟨g, i * 4, none⟩ (.int .i64 x.at_)).setCell ⟨g, i * 4 + 1, none⟩ (.int .i64 x.urg)).setCell ⟨g, i * 4 + 2, none⟩ (.int .i64 x.id)).setCell ⟨g, i * 4 + 3, none⟩ (.int .i64 x.no)) (some g) := T4_put h i hi x
theorem ht_grown {W w w1 : World} {g fn : Nat} {v : Value} {l l' : List Tk} (h : HT W w g fn v l) (hr : kT.R 61 w1 W.heap.size (fun _ => True) v l') (hg : w.grownBy w1 v.ownBlock) (hb : Below W.heap.size W w1) : HT W w1 g fn v l' :=
 ⟨(hg.block g (blk_lt h.blk) (Kd.R_ne h.row h.blk (by decide))).trans h.blk, h.ge, hr, hb⟩
theorem ht_belrow {W w w1 : World} {g fn : Nat} {v : Value} {l : List Tk} (h : HT W w g fn v l) (hg : w.grownBy w1 v.ownBlock) : Below W.heap.size W w1 := Below.grown h.bel hg h.bel.size (fun k e => Kd.R_base h.row k e)
theorem as61 (v : Value) (w : World) : Sem.run Try.prog (Instr.typeAssert (.iface 61 v) 20 61 false) w = .ok v w := by kernel_rfl
def rg54_0_T : Bool × List (List Nat × List Nat) := (true, [([], []), ([0], [0]), ([1], [1]), ([2], [2]), ([], []), ([], []), ([5], [5]), ([6], [6]), ([7], [7]), ([], []), ([], []), ([10], [10]), ([11], [11]), ([12], [12]), ([], []), ([13, 14], [13, 14]), ([15], [15]), ([], []), ([17], [17]), ([18], [18]), ([19], [19]), ([], []), ([20, 21], [20, 21]), ([22], [22]), ([3, 4, 0, 1, 2, 3, 4, 8, 10, 11, 12, 13, 14, 15, 16, 20, 23], [3, 4]), ([24, 16, 0, 1, 2, 3, 4, 8, 10, 11, 12, 13, 14, 15, 16, 20, 23], [16, 24]), ([8, 9, 0, 1, 2, 3, 4, 5, 6, 7, 8, 9, 10, 11, 12, 13, 14, 15, 16, 17, 18, 19, 20, 21, 22, 23, 24, 25], [8, 9]), ([26, 23, 25, 0, 1, 2, 3, 4, 5, 6, 7, 8, 9, 10, 11, 12, 13, 14, 15, 16, 17, 18, 19, 20, 21, 22, 23, 24, 25], [23, 26])])
def rg54_0_B : List Nat := [0, 1, 3, 7, 0, 0, 32, 96, 224, 0, 0, 1024, 3072, 7168, 0, 31744, 64512, 0, 131072, 393216, 917504, 0, 4063232, 8257536, 16776703, 33553919, 67108863, 134217727]
theorem rg54_0_tab : rtab .any (opsOf Try.f54 0) = rg54_0_T := by kernel_rfl
theorem rg54_0_bits : waitsOk rg54_0_T.2 rg54_0_B = true := by kernel_rfl
def rg53_0_T : Bool × List (List Nat × List Nat) := (true, [([], []), ([], []), ([1], [1]), ([2], [2]), ([3], [3]), ([], []), ([5], [5]), ([6], [6]), ([4, 7], [4, 7]), ([0, 0, 1, 2, 3, 4, 5, 6, 7, 8], [0]), ([9, 0, 1, 2, 3, 4, 5, 6, 7, 8], [9]), ([10, 8, 8, 0, 1, 2, 3, 4, 5, 6, 7, 8], [8, 10])])
def rg53_0_B : List Nat := [0, 0, 2, 6, 14, 0, 32, 96, 254, 511, 1023, 2047]
theorem rg53_0_tab : rtab .any (opsOf Try.f53 0) = rg53_0_T := by kernel_rfl
theorem rg53_0_bits : waitsOk rg53_0_T.2 rg53_0_B = true := by kernel_rfl
set_option maxHeartbeats 8000000 in
set_option maxRecDepth 100000 in
theorem hswap_calls (W w : World) (g fn : Nat) (v : Value) (l : List Tk) (h : HT W w g fn v l) (i k : Nat) (hi : i < l.length) (hk : k < l.length) : Calls Try.prog 54 #[.pointer (some ⟨g, 0, none⟩), .int .i64 i, .int .i64 k] w fun e w' => e = .returned (.tuple #[]) ∧ HT W w' g fn v (swap t0 l i k) ∧ Step w w' g v v := by
 have hu61 := Try.underlying61
 obtain ⟨ga, c, rfl⟩ := ht_form h (by omega)
 obtain ⟨n, hn⟩ : ∃ n, n = l.length := ⟨_, rfl⟩
 have HN := Aside0.mk hn
 rw [← hn] at h hi hk ⊢
 have b1 : decide ((i : Int) < (n : Int)) = true := decide_eq_true (by omega)
 have b2 : decide (i < n) = true := decide_eq_true hi
 have b3 : decide ((k : Int) < (n : Int)) = true := decide_eq_true (by omega)
 have b4 : decide (k < n) = true := decide_eq_true hk
 have hd := h.drew
 have hbk := hd.blk
 obtain ⟨c0, c1, c2, c3, cz⟩ := T4_cell hd.row i hi
 obtain ⟨d0, d1, d2, d3, _⟩ := T4_cell hd.row k hk
 obtain ⟨x, hx⟩ : ∃ x, x = l.getD i t0 := ⟨_, rfl⟩
 obtain ⟨y, hy⟩ : ∃ y, y = l.getD k t0 := ⟨_, rfl⟩
 rw [← hx] at c0 c1 c2 c3
 rw [← hy] at d0 d1 d2 d3
 have HSW : Aside0 (swap t0 l i k = (l.set i y).set k x) := ⟨by rw [hx, hy]; rfl⟩
 have HI := Aside0.mk hi
 have HK2 := Aside0.mk hk
 clear hn hx hy
 go_enter Try.func54, Try.ntmps54
 refine start_ (n := 28) (S := fun w' => w'.heap[g]? = some (.cells #[.slice (some ⟨ga, 0, none⟩) n c, .func (.func fn) #[] #[]] 54 (0, 0)) ∧ w'.cell? ⟨ga, i * 4, none⟩ = some (.int .i64 x.at_) ∧ w'.cell? ⟨ga, i * 4 + 1, none⟩ = some (.int .i64 x.urg) ∧ w'.cell? ⟨ga, i * 4 + 2, none⟩ = some (.int .i64 x.id) ∧ w'.cell? ⟨ga, i * 4 + 3, none⟩ = some (.int .i64 x.no) ∧ w'.cell? ⟨ga, k * 4, none⟩ = some (.int .i64 y.at_) ∧ w'.cell? ⟨ga, k * 4 + 1, none⟩ = some (.int .i64 y.urg) ∧ w'.cell? ⟨ga, k * 4 + 2, none⟩ = some (.int .i64 y.id) ∧ w'.cell? ⟨ga, k * 4 + 3, none⟩ = some (.int .i64 y.no)) (ds := [25, 27]) #[false, false, false, false, false, false, false, false, false, false, false, false, false, false, false, false, false, false, false, false, false, false, false, false, false, false, false, false] (by kernel_rfl) rfl rfl ⟨hbk, c0, c1, c2, c3, d0, d1, d2, d3⟩ (fun hHeld => ?_)
 refine with_tabW rg54_0_tab rg54_0_bits (fun HT_ HW_ => ?_)
 obtain ⟨W1, hW1⟩ : ∃ W1, W1 = w.drew := ⟨_, rfl⟩
 have HB1 := Aside0.mk (show Below w.heap.size w W1 from by rw [hW1]; exact below_drew (Below.refl _ _))
 have H1 : Aside0 (HT W W1 g fn (.slice (some ⟨ga, 0, none⟩) n c) l) := ⟨by rw [hW1]; exact hd⟩
 rw [← hW1] at hHeld cz c0 c1 c2 c3 ⊢
 have z0 : W1.frozen? ⟨ga, i * 4, none⟩ = false := cz 0
 have z1 := cz 1
 have z2 := cz 2
 have z3 := cz 3
 clear hd hbk hW1 d0 d1 d2 d3 cz h
 refine pure_ (i := 0) (N := some 6) (v := ?_) (a' := ?_) #[true, false, false, false, false, false, false, false, false, false, false, false, false, false, false, false, false, false, false, false, false, false, false, false, false, false, false, false] rfl rfl (any_of HT_.out (by kernel_rfl)) (fun _ _ _ h => h) (Or.inl ⟨by rfl, ?_⟩) ?_ ?_
 rotate_left
 ·intro w'
  go_simp
  with_reducible rfl
 rotate_left
 ·simp only [Act.put, List.setIfInBounds_toArray, List.set_cons_zero, List.set_cons_succ, i64_w, i32_w]
  rfl
 refine pure_ (i := 1) (N := some 7) (v := ?_) (a' := ?_) #[true, true, false, false, false, false, false, false, false, false, false, false, false, false, false, false, false, false, false, false, false, false, false, false, false, false, false, false] rfl rfl (any_of HT_.out (by kernel_rfl)) (fun _ _ _ h => h) (Or.inl ⟨by rfl, ?_⟩) ?_ ?_
 rotate_left
 ·intro w'
  go_simp
  with_reducible rfl
 rotate_left
 ·simp only [Act.put, List.setIfInBounds_toArray, List.set_cons_zero, List.set_cons_succ, i64_w, i32_w]
  rfl
 refine pure_ (i := 2) (N := some 8) (v := ?_) (a' := ?_) #[true, true, true, false, false, false, false, false, false, false, false, false, false, false, false, false, false, false, false, false, false, false, false, false, false, false, false, false] rfl rfl (any_of HT_.out (by kernel_rfl)) (fun _ _ _ h => h) (Or.inl ⟨by rfl, ?_⟩) ?_ ?_
 rotate_left
 ·intro w'
  go_simp
  with_reducible rfl
 rotate_left
 ·simp only [Act.put, List.setIfInBounds_toArray, List.set_cons_zero, List.set_cons_succ, i64_w, i32_w]
  rfl
 refine take_ (i := 3) (N := some 9) (v := ?_) (a' := ?_) #[true, true, true, true, false, false, false, false, false, false, false, false, false, false, false, false, false, false, false, false, false, false, false, false, false, false, false, false] rfl rfl (take_ofW HT_.out HW_.out (by kernel_rfl)) (fun _ _ _ h => h) (Or.inl ⟨by rfl, ?_⟩) hHeld ?_ ?_
 rotate_left
 ·rintro w' ⟨s0, s1, s2, s3, s4, s5, s6, s7, s8⟩
  have y0 : w'.cell? ⟨g, 0, none⟩ = some (.slice (some ⟨ga, 0, none⟩) n c) := (blk_cell s0 0).trans rfl
  go_simp
  with_reducible rfl
 rotate_left
 ·simp only [Act.put, List.setIfInBounds_toArray, List.set_cons_zero, List.set_cons_succ, i64_w, i32_w]
  rfl
 refine pure_ (i := 4) (N := some 10) (v := ?_) (a' := ?_) #[true, true, true, true, true, false, false, false, false, false, false, false, false, false, false, false, false, false, false, false, false, false, false, false, false, false, false, false] rfl rfl (any_of HT_.out (by kernel_rfl)) (fun _ _ _ h => h) (Or.inl ⟨by rfl, ?_⟩) ?_ ?_
 rotate_left
 ·intro w'
  go_simp
  with_reducible rfl
 rotate_left
 ·simp only [Act.put, List.setIfInBounds_toArray, List.set_cons_zero, List.set_cons_succ, i64_w, i32_w]
  rfl
 refine pure_ (i := 5) (N := some 11) (v := ?_) (a' := ?_) #[true, true, true, true, true, true, false, false, false, false, false, false, false, false, false, false, false, false, false, false, false, false, false, false, false, false, false, false] rfl rfl (any_of HT_.out (by kernel_rfl)) (fun _ _ _ h => h) (Or.inl ⟨by rfl, ?_⟩) ?_ ?_
 rotate_left
 ·intro w'
  go_simp
  with_reducible rfl
 rotate_left
 ·simp only [Act.put, List.setIfInBounds_toArray, List.set_cons_zero, List.set_cons_succ, i64_w, i32_w]
  rfl
 refine pure_ (i := 6) (N := some 12) (v := ?_) (a' := ?_) #[true, true, true, true, true, true, true, false, false, false, false, false, false, false, false, false, false, false, false, false, false, false, false, false, false, false, false, false] rfl rfl (any_of HT_.out (by kernel_rfl)) (fun _ _ _ h => h) (Or.inl ⟨by rfl, ?_⟩) ?_ ?_
 rotate_left
 ·intro w'
  go_simp
  with_reducible rfl
 rotate_left
 ·simp only [Act.put, List.setIfInBounds_toArray, List.set_cons_zero, List.set_cons_succ, i64_w, i32_w]
  rfl
 refine pure_ (i := 7) (N := some 13) (v := ?_) (a' := ?_) #[true, true, true, true, true, true, true, true, false, false, false, false, false, false, false, false, false, false, false, false, false, false, false, false, false, false, false, false] rfl rfl (any_of HT_.out (by kernel_rfl)) (fun _ _ _ h => h) (Or.inl ⟨by rfl, ?_⟩) ?_ ?_
 rotate_left
 ·intro w'
  go_simp
  with_reducible rfl
 rotate_left
 ·simp only [Act.put, List.setIfInBounds_toArray, List.set_cons_zero, List.set_cons_succ, i64_w, i32_w]
  rfl
 refine take_ (i := 8) (N := some 14) (v := ?_) (a' := ?_) #[true, true, true, true, true, true, true, true, true, false, false, false, false, false, false, false, false, false, false, false, false, false, false, false, false, false, false, false] rfl rfl (take_ofW HT_.out HW_.out (by kernel_rfl)) (fun _ _ _ h => h) (Or.inl ⟨by rfl, ?_⟩) hHeld ?_ ?_
 rotate_left
 ·rintro w' ⟨s0, s1, s2, s3, s4, s5, s6, s7, s8⟩
  have y0 : w'.cell? ⟨g, 0, none⟩ = some (.slice (some ⟨ga, 0, none⟩) n c) := (blk_cell s0 0).trans rfl
  go_simp
  with_reducible rfl
 rotate_left
 ·simp only [Act.put, List.setIfInBounds_toArray, List.set_cons_zero, List.set_cons_succ, i64_w, i32_w]
  rfl
 refine pure_ (i := 9) (N := some 15) (v := ?_) (a' := ?_) #[true, true, true, true, true, true, true, true, true, true, false, false, false, false, false, false, false, false, false, false, false, false, false, false, false, false, false, false] rfl rfl (any_of HT_.out (by kernel_rfl)) (fun _ _ _ h => h) (Or.inl ⟨by rfl, ?_⟩) ?_ ?_
 rotate_left
 ·intro w'
  go_simp
  with_reducible rfl
 rotate_left
 ·simp only [Act.put, List.setIfInBounds_toArray, List.set_cons_zero, List.set_cons_succ, i64_w, i32_w]
  rfl
 refine pure_ (i := 10) (N := some 16) (v := ?_) (a' := ?_) #[true, true, true, true, true, true, true, true, true, true, true, false, false, false, false, false, false, false, false, false, false, false, false, false, false, false, false, false] rfl rfl (any_of HT_.out (by kernel_rfl)) (fun _ _ _ h => h) (Or.inl ⟨by rfl, ?_⟩) ?_ ?_
 rotate_left
 ·intro w'
  go_simp
  with_reducible rfl
 rotate_left
 ·simp only [Act.put, List.setIfInBounds_toArray, List.set_cons_zero, List.set_cons_succ, i64_w, i32_w]
  rfl
 refine pure_ (i := 11) (N := some 17) (v := ?_) (a' := ?_) #[true, true, true, true, true, true, true, true, true, true, true, true, false, false, false, false, false, false, false, false, false, false, false, false, false, false, false, false] rfl rfl (any_of HT_.out (by kernel_rfl)) (fun _ _ _ h => h) (Or.inl ⟨by rfl, ?_⟩) ?_ ?_
 rotate_left
 ·intro w'
  go_simp
  with_reducible rfl
 rotate_left
 ·simp only [Act.put, List.setIfInBounds_toArray, List.set_cons_zero, List.set_cons_succ, i64_w, i32_w]
  rfl
 refine pure_ (i := 12) (N := some 18) (v := ?_) (a' := ?_) #[true, true, true, true, true, true, true, true, true, true, true, true, true, false, false, false, false, false, false, false, false, false, false, false, false, false, false, false] rfl rfl (any_of HT_.out (by kernel_rfl)) (fun _ _ _ h => h) (Or.inl ⟨by rfl, ?_⟩) ?_ ?_
 rotate_left
 ·intro w'
  go_simp
  with_reducible rfl
 rotate_left
 ·simp only [Act.put, List.setIfInBounds_toArray, List.set_cons_zero, List.set_cons_succ, i64_w, i32_w]
  rfl
 refine take_ (i := 13) (N := some 19) (v := ?_) (a' := ?_) #[true, true, true, true, true, true, true, true, true, true, true, true, true, true, false, false, false, false, false, false, false, false, false, false, false, false, false, false] rfl rfl (take_ofW HT_.out HW_.out (by kernel_rfl)) (fun _ _ _ h => h) (Or.inl ⟨by rfl, ?_⟩) hHeld ?_ ?_
 rotate_left
 ·rintro w' ⟨s0, s1, s2, s3, s4, s5, s6, s7, s8⟩
  have y0 : w'.cell? ⟨g, 0, none⟩ = some (.slice (some ⟨ga, 0, none⟩) n c) := (blk_cell s0 0).trans rfl
  go_simp
  with_reducible rfl
 rotate_left
 ·simp only [Act.put, List.setIfInBounds_toArray, List.set_cons_zero, List.set_cons_succ, i64_w, i32_w]
  rfl
 refine pure_ (i := 14) (N := some 20) (v := ?_) (a' := ?_) #[true, true, true, true, true, true, true, true, true, true, true, true, true, true, true, false, false, false, false, false, false, false, false, false, false, false, false, false] rfl rfl (any_of HT_.out (by kernel_rfl)) (fun _ _ _ h => h) (Or.inl ⟨by rfl, ?_⟩) ?_ ?_
 rotate_left
 ·intro w'
  go_simp
  with_reducible rfl
 rotate_left
 ·simp only [Act.put, List.setIfInBounds_toArray, List.set_cons_zero, List.set_cons_succ, i64_w, i32_w]
  rfl
 refine pure_ (i := 15) (N := some 21) (v := ?_) (a' := ?_) #[true, true, true, true, true, true, true, true, true, true, true, true, true, true, true, true, false, false, false, false, false, false, false, false, false, false, false, false] rfl rfl (any_of HT_.out (by kernel_rfl)) (fun _ _ _ h => h) (Or.inl ⟨by rfl, ?_⟩) ?_ ?_
 rotate_left
 ·intro w'
  go_simp
  with_reducible rfl
 rotate_left
 ·simp only [Act.put, List.setIfInBounds_toArray, List.set_cons_zero, List.set_cons_succ, i64_w, i32_w]
  rfl
 refine take_ (i := 16) (N := some 22) (v := ?_) (a' := ?_) #[true, true, true, true, true, true, true, true, true, true, true, true, true, true, true, true, true, false, false, false, false, false, false, false, false, false, false, false] rfl rfl (take_ofW HT_.out HW_.out (by kernel_rfl)) (fun _ _ _ h => h) (Or.inl ⟨by rfl, ?_⟩) hHeld ?_ ?_
 rotate_left
 ·rintro w' ⟨s0, s1, s2, s3, s4, s5, s6, s7, s8⟩
  go_simp
  with_reducible rfl
 rotate_left
 ·simp only [Act.put, List.setIfInBounds_toArray, List.set_cons_zero, List.set_cons_succ, i64_w, i32_w]
  rfl
 refine pure_ (i := 17) (N := some 23) (v := ?_) (a' := ?_) #[true, true, true, true, true, true, true, true, true, true, true, true, true, true, true, true, true, true, false, false, false, false, false, false, false, false, false, false] rfl rfl (any_of HT_.out (by kernel_rfl)) (fun _ _ _ h => h) (Or.inl ⟨by rfl, ?_⟩) ?_ ?_
 rotate_left
 ·intro w'
  go_simp
  with_reducible rfl
 rotate_left
 ·simp only [Act.put, List.setIfInBounds_toArray, List.set_cons_zero, List.set_cons_succ, i64_w, i32_w]
  rfl
 refine pure_ (i := 18) (N := some 24) (v := ?_) (a' := ?_) #[true, true, true, true, true, true, true, true, true, true, true, true, true, true, true, true, true, true, true, false, false, false, false, false, false, false, false, false] rfl rfl (any_of HT_.out (by kernel_rfl)) (fun _ _ _ h => h) (Or.inl ⟨by rfl, ?_⟩) ?_ ?_
 rotate_left
 ·intro w'
  go_simp
  with_reducible rfl
 rotate_left
 ·simp only [Act.put, List.setIfInBounds_toArray, List.set_cons_zero, List.set_cons_succ, i64_w, i32_w]
  rfl
 refine pure_ (i := 19) (N := some 25) (v := ?_) (a' := ?_) #[true, true, true, true, true, true, true, true, true, true, true, true, true, true, true, true, true, true, true, true, false, false, false, false, false, false, false, false] rfl rfl (any_of HT_.out (by kernel_rfl)) (fun _ _ _ h => h) (Or.inl ⟨by rfl, ?_⟩) ?_ ?_
 rotate_left
 ·intro w'
  go_simp
  with_reducible rfl
 rotate_left
 ·simp only [Act.put, List.setIfInBounds_toArray, List.set_cons_zero, List.set_cons_succ, i64_w, i32_w]
  rfl
 refine take_ (i := 20) (N := some 26) (v := ?_) (a' := ?_) #[true, true, true, true, true, true, true, true, true, true, true, true, true, true, true, true, true, true, true, true, true, false, false, false, false, false, false, false] rfl rfl (take_ofW HT_.out HW_.out (by kernel_rfl)) (fun _ _ _ h => h) (Or.inl ⟨by rfl, ?_⟩) hHeld ?_ ?_
 rotate_left
 ·rintro w' ⟨s0, s1, s2, s3, s4, s5, s6, s7, s8⟩
  have y0 : w'.cell? ⟨g, 0, none⟩ = some (.slice (some ⟨ga, 0, none⟩) n c) := (blk_cell s0 0).trans rfl
  go_simp
  with_reducible rfl
 rotate_left
 ·simp only [Act.put, List.setIfInBounds_toArray, List.set_cons_zero, List.set_cons_succ, i64_w, i32_w]
  rfl
 refine pure_ (i := 21) (N := some 27) (v := ?_) (a' := ?_) #[true, true, true, true, true, true, true, true, true, true, true, true, true, true, true, true, true, true, true, true, true, true, false, false, false, false, false, false] rfl rfl (any_of HT_.out (by kernel_rfl)) (fun _ _ _ h => h) (Or.inl ⟨by rfl, ?_⟩) ?_ ?_
 rotate_left
 ·intro w'
  go_simp
  with_reducible rfl
 rotate_left
 ·simp only [Act.put, List.setIfInBounds_toArray, List.set_cons_zero, List.set_cons_succ, i64_w, i32_w]
  rfl
 refine pure_ (i := 22) (N := some 28) (v := ?_) (a' := ?_) #[true, true, true, true, true, true, true, true, true, true, true, true, true, true, true, true, true, true, true, true, true, true, true, false, false, false, false, false] rfl rfl (any_of HT_.out (by kernel_rfl)) (fun _ _ _ h => h) (Or.inl ⟨by rfl, ?_⟩) ?_ ?_
 rotate_left
 ·intro w'
  go_simp
  with_reducible rfl
 rotate_left
 ·simp only [Act.put, List.setIfInBounds_toArray, List.set_cons_zero, List.set_cons_succ, i64_w, i32_w]
  rfl
 refine take_ (i := 23) (N := some 29) (v := ?_) (a' := ?_) #[true, true, true, true, true, true, true, true, true, true, true, true, true, true, true, true, true, true, true, true, true, true, true, true, false, false, false, false] rfl rfl (take_ofW HT_.out HW_.out (by kernel_rfl)) (fun _ _ _ h => h) (Or.inl ⟨by rfl, ?_⟩) hHeld ?_ ?_
 rotate_left
 ·rintro w' ⟨s0, s1, s2, s3, s4, s5, s6, s7, s8⟩
  go_simp
  with_reducible rfl
 rotate_left
 ·simp only [Act.put, List.setIfInBounds_toArray, List.set_cons_zero, List.set_cons_succ, i64_w, i32_w]
  rfl
 refine pure_ (i := 24) (N := some 30) (v := ?_) (a' := ?_) #[true, true, true, true, true, true, true, true, true, true, true, true, true, true, true, true, true, true, true, true, true, true, true, true, true, false, false, false] rfl rfl (any_of HT_.out (by kernel_rfl)) (fun _ _ _ h => h) (Or.inl ⟨by rfl, ?_⟩) ?_ ?_
 rotate_left
 ·intro w'
  go_simp
  with_reducible rfl
 rotate_left
 ·simp only [Act.put, List.setIfInBounds_toArray, List.set_cons_zero, List.set_cons_succ, i64_w, i32_w]
  rfl
 refine last_ (i := 25) (N := none) #[true, true, true, true, true, true, true, true, true, true, true, true, true, true, true, true, true, true, true, true, true, true, true, true, true, true, false, false] rfl rfl (one_of HT_.out (by kernel_rfl)) (by decide) (fun K hK => ?_)
 (refine skip_ (w1 := ?_) (by rfl) rfl ?_ ?_; rotate_left; · (go_simp; rfl))
 refine hK.out _ _ ?_
 clear hK K
 try simp only [Act.put, List.setIfInBounds_toArray, List.set_cons_zero, List.set_cons_succ, i64_w, i32_w]
 obtain ⟨W2, hW2⟩ : ∃ W2, W2 = ((((W1.setCell ⟨ga, i * 4, none⟩ (.int .i64 y.at_)).setCell ⟨ga, i * 4 + 1, none⟩ (.int .i64 y.urg)).setCell ⟨ga, i * 4 + 2, none⟩ (.int .i64 y.id)).setCell ⟨ga, i * 4 + 3, none⟩ (.int .i64 y.no)) := ⟨_, rfl⟩
 rw [← hW2]
 have hp2 := T4_chain H1.out.row i HI.out y
 rw [← hW2] at hp2
 have H2 : Aside0 (HT W W2 g fn (.slice (some ⟨ga, 0, none⟩) n c) (l.set i y)) := ⟨ht_grown H1.out hp2.1 hp2.2 (ht_belrow H1.out hp2.2)⟩
 have HS2 : Aside0 (Step w W2 g (.slice (some ⟨ga, 0, none⟩) n c) (.slice (some ⟨ga, 0, none⟩) n c)) := ⟨(Step.of_below HB1.out _ _).trans ⟨KeepBut.of_grown hp2.2 g, .inl rfl⟩⟩
 clear hW2 hp2 hHeld c0 c1 c2 c3 z0 z1 z2 z3
 obtain ⟨d0, d1, d2, d3, dz⟩ := T4_cell H2.out.row k HK2.out
 have z0 : W2.frozen? ⟨ga, k * 4, none⟩ = false := dz 0
 have z1 := dz 1
 have z2 := dz 2
 have z3 := dz 3
 refine pure_ (i := 26) (N := some 31) (v := ?_) (a' := ?_) #[true, true, true, true, true, true, true, true, true, true, true, true, true, true, true, true, true, true, true, true, true, true, true, true, true, true, true, false] rfl rfl (any_of HT_.out (by kernel_rfl)) (fun _ _ _ h => h) (Or.inl ⟨by rfl, ?_⟩) ?_ ?_
 rotate_left
 ·intro w'
  go_simp
  with_reducible rfl
 rotate_left
 ·simp only [Act.put, List.setIfInBounds_toArray, List.set_cons_zero, List.set_cons_succ, i64_w, i32_w]
  rfl
 refine last_ (i := 27) (N := none) #[true, true, true, true, true, true, true, true, true, true, true, true, true, true, true, true, true, true, true, true, true, true, true, true, true, true, true, true] rfl rfl (one_of HT_.out (by kernel_rfl)) (by decide) (fun K hK => ?_)
 (refine skip_ (w1 := ?_) (by rfl) rfl ?_ ?_; rotate_left; · (go_simp; rfl))
 refine hK.out _ _ ?_
 clear hK K
 try simp only [Act.put, List.setIfInBounds_toArray, List.set_cons_zero, List.set_cons_succ, i64_w, i32_w]
 obtain ⟨W3, hW3⟩ : ∃ W3, W3 = ((((W2.setCell ⟨ga, k * 4, none⟩ (.int .i64 x.at_)).setCell ⟨ga, k * 4 + 1, none⟩ (.int .i64 x.urg)).setCell ⟨ga, k * 4 + 2, none⟩ (.int .i64 x.id)).setCell ⟨ga, k * 4 + 3, none⟩ (.int .i64 x.no)) := ⟨_, rfl⟩
 rw [← hW3]
 have hp3 := T4_chain H2.out.row k HK2.out x
 rw [← hW3] at hp3
 have H3 : Aside0 (HT W W3 g fn (.slice (some ⟨ga, 0, none⟩) n c) (swap t0 l i k)) := ⟨by rw [HSW.out]; exact ht_grown H2.out hp3.1 hp3.2 (ht_belrow H2.out hp3.2)⟩
 have HS3 : Aside0 (Step w W3 g (.slice (some ⟨ga, 0, none⟩) n c) (.slice (some ⟨ga, 0, none⟩) n c)) := ⟨HS2.out.trans ⟨KeepBut.of_grown hp3.2 g, .inl rfl⟩⟩
 clear hW3 hp3 d0 d1 d2 d3 dz z0 z1 z2 z3
 refine done_ (done_of HT_.out (by kernel_rfl)) ?_
 go_end0
 exact ⟨rfl, H3.out, HS3.out⟩
set_option maxHeartbeats 8000000 in
set_option maxRecDepth 100000 in
theorem hpush_calls (W w : World) (g fn : Nat) (v : Value) (l : List Tk) (h : HT W w g fn v l) (x : Tk) (hlen : l.length ≤ 100000) : Calls Try.prog 53 #[.pointer (some ⟨g, 0, none⟩), .iface 61 (a4 x)] w fun e w' => e = .returned (.tuple #[]) ∧ ∃ v', HT W w' g fn v' (l ++ [x]) ∧ Step w w' g v v' := by
 have hu61 := Try.underlying61
 show Calls Try.prog 53 #[.pointer (some ⟨g, 0, none⟩), .iface 61 (.agg #[.int .i64 x.at_, .int .i64 x.urg, .int .i64 x.id, .int .i64 x.no])] w _
 have hu52 := Try.underlying52
 have hta := as61
 obtain ⟨A, c, rfl⟩ := Kd.R_slice h.row
 obtain ⟨n, hn⟩ : ∃ n, n = l.length := ⟨_, rfl⟩
 have HN := Aside0.mk hn
 rw [← hn] at h hlen ⊢
 have hd := h.drew
 have hbk := hd.blk
 clear hn
 go_enter Try.func53, Try.ntmps53
 refine start_ (n := 12) (S := fun w' => w'.heap[g]? = some (.cells #[.slice A n c, .func (.func fn) #[] #[]] 54 (0, 0))) (ds := [11]) #[false, false, false, false, false, false, false, false, false, false, false, false] (by kernel_rfl) rfl rfl hbk (fun hHeld => ?_)
 refine with_tabW rg53_0_tab rg53_0_bits (fun HT_ HW_ => ?_)
 obtain ⟨W1, hW1⟩ : ∃ W1, W1 = w.drew := ⟨_, rfl⟩
 have HB1 := Aside0.mk (show Below w.heap.size w W1 from by rw [hW1]; exact below_drew (Below.refl _ _))
 have H1 : Aside0 (HT W W1 g fn (.slice A n c) l) := ⟨by rw [hW1]; exact hd⟩
 rw [← hW1] at hHeld ⊢
 clear hd hbk hW1 h
 refine pure_ (i := 0) (N := some 4) (v := ?_) (a' := ?_) #[true, false, false, false, false, false, false, false, false, false, false, false] rfl rfl (any_of HT_.out (by kernel_rfl)) (fun _ _ _ h => h) (Or.inl ⟨by rfl, ?_⟩) ?_ ?_
 rotate_left
 ·intro w'
  go_simp
  with_reducible rfl
 rotate_left
 ·simp only [Act.put, List.setIfInBounds_toArray, List.set_cons_zero, List.set_cons_succ, i64_w, i32_w]
  rfl
 refine pure_ (i := 1) (N := some 5) (v := ?_) (a' := ?_) #[true, true, false, false, false, false, false, false, false, false, false, false] rfl rfl (any_of HT_.out (by kernel_rfl)) (fun _ _ _ h => h) (Or.inl ⟨by rfl, ?_⟩) ?_ ?_
 rotate_left
 ·intro w'
  go_simp
  with_reducible rfl
 rotate_left
 ·simp only [Act.put, List.setIfInBounds_toArray, List.set_cons_zero, List.set_cons_succ, i64_w, i32_w]
  rfl
 refine pure_ (i := 2) (N := some 6) (v := ?_) (a' := ?_) #[true, true, true, false, false, false, false, false, false, false, false, false] rfl rfl (any_of HT_.out (by kernel_rfl)) (fun _ _ _ h => h) (Or.inl ⟨by rfl, ?_⟩) ?_ ?_
 rotate_left
 ·intro w'
  go_simp
  with_reducible rfl
 rotate_left
 ·simp only [Act.put, List.setIfInBounds_toArray, List.set_cons_zero, List.set_cons_succ, i64_w, i32_w]
  rfl
 refine pure_ (i := 3) (N := some 7) (v := ?_) (a' := ?_) #[true, true, true, true, false, false, false, false, false, false, false, false] rfl rfl (any_of HT_.out (by kernel_rfl)) (fun _ _ _ h => h) (Or.inl ⟨by rfl, ?_⟩) ?_ ?_
 rotate_left
 ·intro w'
  go_simp
  with_reducible rfl
 rotate_left
 ·simp only [Act.put, List.setIfInBounds_toArray, List.set_cons_zero, List.set_cons_succ, i64_w, i32_w]
  rfl
 refine take_ (i := 4) (N := some 8) (v := ?_) (a' := ?_) #[true, true, true, true, true, false, false, false, false, false, false, false] rfl rfl (take_ofW HT_.out HW_.out (by kernel_rfl)) (fun _ _ _ h => h) (Or.inl ⟨by rfl, ?_⟩) hHeld ?_ ?_
 rotate_left
 ·rintro w' s0
  have y0 : w'.cell? ⟨g, 0, none⟩ = some (.slice A n c) := (blk_cell s0 0).trans rfl
  go_simp
  with_reducible rfl
 rotate_left
 ·simp only [Act.put, List.setIfInBounds_toArray, List.set_cons_zero, List.set_cons_succ, i64_w, i32_w]
  rfl
 refine pure_ (i := 5) (N := some 9) (v := ?_) (a' := ?_) #[true, true, true, true, true, true, false, false, false, false, false, false] rfl rfl (any_of HT_.out (by kernel_rfl)) (fun _ _ _ h => h) (Or.inl ⟨by rfl, ?_⟩) ?_ ?_
 rotate_left
 ·intro w'
  go_simp
  with_reducible rfl
 rotate_left
 ·simp only [Act.put, List.setIfInBounds_toArray, List.set_cons_zero, List.set_cons_succ, i64_w, i32_w]
  rfl
 refine pure_ (i := 6) (N := some 10) (v := ?_) (a' := ?_) #[true, true, true, true, true, true, true, false, false, false, false, false] rfl rfl (any_of HT_.out (by kernel_rfl)) (fun _ _ _ h => h) (Or.inl ⟨by rfl, ?_⟩) ?_ ?_
 rotate_left
 ·intro w'
  go_simp
  with_reducible rfl
 rotate_left
 ·simp only [Act.put, List.setIfInBounds_toArray, List.set_cons_zero, List.set_cons_succ, i64_w, i32_w]
  rfl
 refine one_ (i := 7) (N := some 11) #[true, true, true, true, true, true, true, true, false, false, false, false] rfl rfl (one_of HT_.out (by kernel_rfl)) (by decide) (fun K hK => ?_)
 (refine value_ (w1 := ?_) (v := ?_) (by rfl) rfl ?_ ?_; rotate_left 2; · (go_simp; constructor; rfl; rfl))
 refine hK.out _ _ (blk_alloc H1.out.blk _) (fun hHeld => ?_)
 clear hK K
 try simp only [Act.put, List.setIfInBounds_toArray, List.set_cons_zero, List.set_cons_succ, i64_w, i32_w]
 refine one_ (i := 8) (N := some 12) #[true, true, true, true, true, true, true, true, true, false, false, false] rfl rfl (one_of HT_.out (by kernel_rfl)) (by decide) (fun K hK => ?_)
 (refine Kd.R_append_step kT (w0 := W) W.heap.size (by rfl) (.tmp 8) (.tmp 11) 52 61 (.agg #[(.int .i64 0), (.int .i64 0), (.int .i64 0), (.int .i64 0)]) 32 rfl Try.underlying52 info61 rfl (Nat.succ_pos 3) (by omega) (.slice A n c) l x [.int .i64 x.at_, .int .i64 x.urg, .int .i64 x.id, .int .i64 x.no] (fun _ => True) (fun _ => False) rfl rfl ?aP (fun _ hk => hk.elim) (fun _ _ => trivial) H1.out.row H1.out.bel H1.out.bel.size (by rw [← HN.out]; omega) ?_; (case aP => exact T4_M _ _ _ _); intro v8 w8 ho hb hg hat; have HR8 := Aside0.mk ho; have HB8 := Aside0.mk hb; have HG8 := Aside0.mk hg; have HAT8 := Aside0.mk hat; have hx8 := (hg.block g (blk_lt H1.out.blk) (Kd.R_ne H1.out.row H1.out.blk (by decide))).trans H1.out.blk; have HX8 := Aside0.mk hx8; obtain ⟨A8, c8, hv8⟩ := Kd.R_slice ho; obtain ⟨n8, hn8⟩ : ∃ m : Nat, m = (l ++ [x]).length := ⟨_, rfl⟩; rw [← hn8] at hv8; subst hv8; clear hn8 ho hb hg hat)
 refine hK.out _ _ hx8 (fun hHeld => ?_)
 clear hK K
 refine norm_ (a' := ?_) ?_ ?_
 rotate_left
 ·show Act.put _ (some 12) _ = _
  simp only [Act.put, List.setIfInBounds_toArray, List.set_cons_zero, List.set_cons_succ, i64_w, i32_w]
  rfl
 refine pure_ (i := 9) (N := some 13) (v := ?_) (a' := ?_) #[true, true, true, true, true, true, true, true, true, true, false, false] rfl rfl (any_of HT_.out (by kernel_rfl)) (fun _ _ _ h => h) (Or.inl ⟨by rfl, ?_⟩) ?_ ?_
 rotate_left
 ·intro w'
  go_simp
  with_reducible rfl
 rotate_left
 ·simp only [Act.put, List.setIfInBounds_toArray, List.set_cons_zero, List.set_cons_succ, i64_w, i32_w]
  rfl
 refine pure_ (i := 10) (N := some 14) (v := ?_) (a' := ?_) #[true, true, true, true, true, true, true, true, true, true, true, false] rfl rfl (any_of HT_.out (by kernel_rfl)) (fun _ _ _ h => h) (Or.inl ⟨by rfl, ?_⟩) ?_ ?_
 rotate_left
 ·intro w'
  go_simp
  with_reducible rfl
 rotate_left
 ·simp only [Act.put, List.setIfInBounds_toArray, List.set_cons_zero, List.set_cons_succ, i64_w, i32_w]
  rfl
 have k0 : w8.cell? ⟨g, 0, none⟩ = some (.slice A n c) := (blk_cell HX8.out 0).trans rfl
 have z0 := blk_frozen HX8.out 0
 refine last_ (i := 11) (N := none) #[true, true, true, true, true, true, true, true, true, true, true, true] rfl rfl (one_of HT_.out (by kernel_rfl)) (by decide) (fun K hK => ?_)
 (refine skip_ (w1 := ?_) (by rfl) rfl ?_ ?_; rotate_left; · (go_simp; rfl))
 refine hK.out _ _ ?_
 clear hK K
 try simp only [Act.put, List.setIfInBounds_toArray, List.set_cons_zero, List.set_cons_succ, i64_w, i32_w]
 refine done_ (done_of HT_.out (by kernel_rfl)) ?_
 have HT9 : Aside0 (HT W (w8.setCell ⟨g, 0, none⟩ (.slice A8 n8 c8)) g fn (.slice A8 n8 c8) (l ++ [x]) ∧ Step w (w8.setCell ⟨g, 0, none⟩ (.slice A8 n8 c8)) g (.slice A n c) (.slice A8 n8 c8)) := ⟨by
  have hg9 := due_grown w8 g 0 (.slice A8 n8 c8)
  have hne : some g ≠ (Value.slice A8 n8 c8).ownBlock := Kd.R_ne HR8.out HX8.out (by decide)
  refine ⟨⟨blk_set HX8.out 0 _, H1.out.ge, Kd.R_grown1 HR8.out rfl hg9 hne, below_set HB8.out H1.out.ge⟩, (Step.of_below HB1.out g _).trans ⟨(KeepBut.of_grown HG8.out g).set_ 0 _, HAT8.out⟩⟩⟩
 clear hHeld k0 z0 hx8
 generalize w8.setCell ⟨g, 0, none⟩ (.slice A8 n8 c8) = W9 at HT9 ⊢
 go_end0
 exact ⟨rfl, _, HT9.out.1, HT9.out.2⟩
set_option maxHeartbeats 8000000 in
set_option maxRecDepth 100000 in
theorem hpop_calls (W w : World) (g fn : Nat) (v : Value) (l : List Tk) (h : HT W w g fn v l) (m : Nat) (hm : l.length = m + 1) (hlen : l.length ≤ 100000) : Calls Try.prog 52 #[.pointer (some ⟨g, 0, none⟩)] w fun e w' => e = .returned (.iface 61 (a4 (l.getD m t0))) ∧ ∃ v', HT W w' g fn v' (l.take m) ∧ Step w w' g v v' := by
 have hu61 := Try.underlying61
 have hu52 := Try.underlying52
 obtain ⟨ga, c, rfl⟩ := ht_form h (by omega)
 obtain ⟨n, hn⟩ : ∃ n, n = l.length := ⟨_, rfl⟩
 rw [← hn] at h hm hlen ⊢
 have HN := Aside0.mk hn
 have hbk := h.blk
 have hnc : n ≤ c := (Kd.R_reads' h.row).2.1
 obtain ⟨c0, c1, c2, c3, _⟩ := T4_cell h.row m (by omega)
 obtain ⟨x, hx⟩ : ∃ x, x = l.getD m t0 := ⟨_, rfl⟩
 rw [← hx] at c0 c1 c2 c3 ⊢
 have f0 : w.cell? ⟨g, 0, none⟩ = some (.slice (some ⟨ga, 0, none⟩) n c) := (blk_cell hbk 0).trans rfl
 have hw : wrap64 ((n : Int) - 1) = (m : Int) := by unfold wrap64; omega
 have hw' : IntKind.i64.wrap ((n : Int) - 1) = (m : Int) := by rw [IntKind.wrap_i64]; omega
 have hw2 : (n : Int) - 1 = (m : Int) := by omega
 have b1 : decide ((m : Int) < (n : Int)) = true := decide_eq_true (by omega)
 have b2 : decide (m < n) = true := decide_eq_true (by omega)
 have p1 : (m ≤ c) = True := eq_true (by omega)
 have HH := Aside0.mk h
 have HM := Aside0.mk hm
 have HLT := Aside0.mk (show m < n by omega)
 clear hn hx h hbk hm
 go_enter Try.func52, Try.ntmps52
 go_upto_region 3 with ((with_reducible refine gate_dst (N := 4) rfl ?_); refine box_event ?hg (N := 4) ?hd (cs := #[.int .i64 0, .int .i64 0, .int .i64 0, .int .i64 0]) (t := 61) ?hr ?_; (case hd => rfl); (case hg => rfl); (case hr => first | (go_simp; done) | (go_simp; rfl)); intro gb hgb wb hbox hb; have BX := Aside0.mk hbox; have HHb := Aside0.mk (HH.out.below hb); have HGE := Aside0.mk (show w.heap.size ≤ gb from Nat.le_of_eq hgb.symm); have HBb := Aside0.mk hb; have hz0 := (blk_cell hbox 0).trans rfl; have hzf0 := blk_frozen hbox 0; have hz1 := (blk_cell hbox 1).trans rfl; have hzf1 := blk_frozen hbox 1; have hz2 := (blk_cell hbox 2).trans rfl; have hzf2 := blk_frozen hbox 2; have hz3 := (blk_cell hbox 3).trans rfl; have hzf3 := blk_frozen hbox 3; clear hgb hbox hb)
 have HB3 : Aside0 (Below w.heap.size w ((((wb.setCell ⟨gb, 0, none⟩ (.int .i64 x.at_)).setCell ⟨gb, 1, none⟩ (.int .i64 x.urg)).setCell ⟨gb, 2, none⟩ (.int .i64 x.id)).setCell ⟨gb, 3, none⟩ (.int .i64 x.no))) := ⟨below_set (below_set (below_set (below_set HBb.out HGE.out) HGE.out) HGE.out) HGE.out⟩
 have BX3 : Aside0 ((((((wb.setCell ⟨gb, 0, none⟩ (.int .i64 x.at_)).setCell ⟨gb, 1, none⟩ (.int .i64 x.urg)).setCell ⟨gb, 2, none⟩ (.int .i64 x.id)).setCell ⟨gb, 3, none⟩ (.int .i64 x.no)) : World).heap[gb]? = some (.cells #[.int .i64 x.at_, .int .i64 x.urg, .int .i64 x.id, .int .i64 x.no] 61 (0, 0))) := ⟨by
  have := blk_set (blk_set (blk_set (blk_set BX.out 0 (.int .i64 x.at_)) 1 (.int .i64 x.urg)) 2 (.int .i64 x.id)) 3 (.int .i64 x.no)
  simpa using this⟩
 clear hz0 hzf0 hz1 hzf1 hz2 hzf2 hz3 hzf3 c0 c1 c2 c3 f0
 generalize ((((wb.setCell ⟨gb, 0, none⟩ (.int .i64 x.at_)).setCell ⟨gb, 1, none⟩ (.int .i64 x.urg)).setCell ⟨gb, 2, none⟩ (.int .i64 x.id)).setCell ⟨gb, 3, none⟩ (.int .i64 x.no)) = W3 at HB3 BX3 ⊢
 have HH3 := Aside0.mk (HH.out.below HB3.out)
 have f0 : W3.cell? ⟨g, 0, none⟩ = some (.slice (some ⟨ga, 0, none⟩) n c) := (blk_cell HH3.out.blk 0).trans rfl
 have z0 := blk_frozen HH3.out.blk 0
 go_wp2_with ((with_reducible refine gate_store (t := 52) (p := 26) rfl ?_); refine store_event (t := 52) (p := 26) (v := ?vo1) (w1 := (W3.setCell ⟨g, 0, none⟩ (.slice (some ⟨ga, 0, none⟩) m c))) ?hg1 ?ho1 ?hn1 ?hr1 ?_; (case ho1 => rfl); (case hg1 => rfl); (case hn1 => rfl); (case hr1 => first | (go_simp; done) | (go_simp; rfl)); intro W4 hw; have BX4 := blk_far BX3.out (p := ⟨g, 0, none⟩) (blk_ne BX3.out HH3.out.blk (by decide)) (.slice (some ⟨ga, 0, none⟩) m c); rw [← hw] at BX4; have y0 : W4.cell? ⟨gb, 0, none⟩ = some (.int .i64 x.at_) := (blk_cell BX4 0).trans rfl; have y1 : W4.cell? ⟨gb, 1, none⟩ = some (.int .i64 x.urg) := (blk_cell BX4 1).trans rfl; have y2 : W4.cell? ⟨gb, 2, none⟩ = some (.int .i64 x.id) := (blk_cell BX4 2).trans rfl; have y3 : W4.cell? ⟨gb, 3, none⟩ = some (.int .i64 x.no) := (blk_cell BX4 3).trans rfl; have HW := Aside0.mk hw; clear hw BX4 f0 z0)
 have hg9 := due_grown W3 g 0 (.slice (some ⟨ga, 0, none⟩) m c)
 have hne : some g ≠ (Value.slice (some ⟨ga, 0, none⟩) n c).ownBlock := Kd.R_ne HH3.out.row HH3.out.blk (by decide)
 have hr9 := Kd.R_take (m := m) (Kd.R_grown1 HH3.out.row rfl hg9 hne) (by have := HN.out; have := HLT.out; omega)
 have hk9 : KeepBut W3 (W3.setCell ⟨g, 0, none⟩ (.slice (some ⟨ga, 0, none⟩) m c)) g (Value.slice (some ⟨ga, 0, none⟩) n c).ownBlock := (KeepBut.refl _ _ _).set_ 0 _
 have hb9 := blk_set HH3.out.blk 0 (.slice (some ⟨ga, 0, none⟩) m c)
 have hl9 := below_set (j := 0) (v := .slice (some ⟨ga, 0, none⟩) m c) HH3.out.bel HH3.out.ge
 rw [← HW.out] at hr9 hk9 hb9 hl9
 exact bodyPost_ret (v := .iface 61 (.agg #[.int .i64 x.at_, .int .i64 x.urg, .int .i64 x.id, .int .i64 x.no])) (by simp [results, Try.results52, go_sem]) rfl ⟨rfl, _, ⟨hb9, HH3.out.ge, hr9, hl9⟩, (Step.of_below HB3.out g _).trans ⟨hk9, .inl rfl⟩⟩
end Go.Proofs.Ytacceeefcelkhaa.Al

namespace Go.Proofs.Ytacceeefcelkhaa.Al
open Go.RowKit Go.Proofs.Ytacceeefcelkhaa.DueHeap Go.Proofs.Ytacceeefcelkhaa.DueSpec Go.Proofs.YtacceeefcelkhaaW.PrintWords Go.Proofs.YtacceeefcelkhaaW.PrintLast Go.Proofs.YtacceeefcelkhaaW.PrintMore
set_option linter.unusedVariables false
set_option linter.unusedSimpArgs false
theorem m_Less (v : Value) (w : World) : Sem.run Try.prog (method 193 50 v "Less") w = .ok (51, v) w := by kernel_rfl
theorem m_Swap (v : Value) (w : World) : Sem.run Try.prog (method 193 50 v "Swap") w = .ok (54, v) w := by kernel_rfl
theorem m_Push (v : Value) (w : World) : Sem.run Try.prog (method 193 50 v "Push") w = .ok (53, v) w := by kernel_rfl
theorem m_Pop (v : Value) (w : World) : Sem.run Try.prog (method 193 50 v "Pop") w = .ok (52, v) w := by kernel_rfl
theorem m_Len (v : Value) (w : World) : Sem.run Try.prog (method 193 50 v "Len") w = .ok (27, v) w := by kernel_rfl
/-- What a call on a heap leaves: its tasks in another order. -/
structure Moved (W w w' : World) (g fn : Nat) (v : Value) (l l' : List Tk) : Prop where
 ht : HT W w' g fn v l'
 st : Step w w' g v v
 perm : l'.Perm l
theorem Moved.len {W w w' : World} {g fn : Nat} {v : Value} {l l' : List Tk} (h : Moved W w w' g fn v l l') : l'.length = l.length := h.perm.length_eq
theorem Moved.below {W w w1 w2 : World} {g fn : Nat} {v : Value} {l l' : List Tk} (h : Moved W w w1 g fn v l l') (hb : Below w1.heap.size w1 w2) : Moved W w w2 g fn v l l' := ⟨h.ht.below hb, h.st.trans (Step.of_below hb _ _), h.perm⟩
theorem Moved.swap {W w w1 w2 : World} {g fn i k : Nat} {v : Value} {l l' : List Tk} (h : Moved W w w1 g fn v l l') (hi : i < l'.length) (hk : k < l'.length) (h2 : HT W w2 g fn v (DueHeap.swap t0 l' i k)) (hs : Step w1 w2 g v v) : Moved W w w2 g fn v l (DueHeap.swap t0 l' i k) := ⟨h2, h.st.trans hs, (swap_perm hi hk).trans h.perm⟩
/-- What stands from a place on is as it was. -/
def Tail (nn : Nat) (l l' : List Tk) : Prop := ∀ k, nn ≤ k → l'.getD k t0 = l.getD k t0
theorem Tail.refl (nn : Nat) (l : List Tk) : Tail nn l l := fun _ _ => rfl
theorem Tail.swap {nn i k : Nat} {l l' : List Tk} (h : Tail nn l l') (hi : i < nn) (hk : k < nn) (hl : nn ≤ l'.length) : Tail nn l (DueHeap.swap t0 l' i k) := fun m hm => by
 rw [swap_get (by omega) (by omega), if_neg (by omega), if_neg (by omega)]
 exact h m hm
set_option maxHeartbeats 8000000 in
set_option maxRecDepth 100000 in
theorem up_calls (W w : World) (g fn : Nat) (hfn : fn = 23 ∨ fn = 24) (v : Value) (l : List Tk) (h : HT W w g fn v l) (j nn : Nat) (hj : j < nn) (hnn : nn ≤ l.length) (hlen : l.length ≤ 100000) (hu : UpInv (LE fn) t0 nn l j) : Calls Try.prog 32 #[.iface 50 (.pointer (some ⟨g, 0, none⟩)), .int .i64 j] w fun e w' => e = .returned (.tuple #[]) ∧ ∃ l', Moved W w w' g fn v l l' ∧ Heap (LE fn) t0 nn l' ∧ Tail nn l l' := by
 have mL := m_Less
 have mS := m_Swap
 have HM0 := Aside0.mk (Moved.mk h (Step.refl w g v) (List.Perm.refl l))
 have HU0 := Aside0.mk hu
 have HNN := Aside0.mk hnn
 have hlen : nn ≤ 100000 := by omega
 have HT0 := Aside0.mk (Tail.refl nn l)
 clear h hu hnn
 go_enter Try.func32, Try.ntmps32
 go_wp2
 go_loopw [1] (fun v1 wr => ∃ (j : Nat) (l' : List Tk), v1 = .int .i64 j ∧ j < nn ∧ Aside0 (Moved W w wr g fn v l l') ∧ Aside0 (UpInv (LE fn) t0 nn l' j) ∧ Aside0 (Tail nn l l')) (fun v1 _ => (intOf v1).toNat)
 case atStart => exact ⟨j, l, rfl, hj, HM0, HU0, HT0⟩
 case round =>
  clear hj
  obtain ⟨j, l', rfl, hj, HM, HU, HT⟩ := hrel
  clear HM0 HU0 HT0
  have HJ := Aside0.mk hj
  have hq1 : Int.tdiv ((j : Int) - 1) 2 = ((par j : Nat) : Int) := by
   unfold par
   by_cases e : j = 0
   ·subst e; decide
   ·rw [Int.tdiv_eq_ediv_of_nonneg (by omega)]; omega
  have hq2 : wrap64 ((j : Int) - 1) = (j : Int) - 1 := by unfold wrap64; omega
  have hq2' : IntKind.i64.wrap ((j : Int) - 1) = (j : Int) - 1 := by rw [IntKind.wrap_i64]; omega
  have hpb : par j ≤ j := by unfold par; omega
  have hq3 : wrap64 ((par j : Nat) : Int) = ((par j : Nat) : Int) := by unfold wrap64; omega
  have hq3' : IntKind.i64.wrap ((par j : Nat) : Int) = ((par j : Nat) : Int) := by rw [IntKind.wrap_i64]; omega
  by_cases h0 : j = 0
  ·subst h0
   have e1 : (((par 0 : Nat) : Int) == ((0 : Nat) : Int)) = true := by decide
   go_wp2
   go_end0
   exact ⟨rfl, l', HM.out, HU.out.done (.inl rfl), HT.out⟩
  ·obtain ⟨p, hp⟩ : ∃ p, p = par j := ⟨_, rfl⟩
   have hlt : p < j := by rw [hp]; exact par_lt (by omega)
   rw [← hp] at hq1 hpb hq3 hq3'
   have e1 : ((p : Int) == (j : Int)) = false := by rw [beq_eq_false_iff_ne]; omega
   have HP := Aside0.mk hp
   have HPL := Aside0.mk hlt
   have hl : nn ≤ l'.length := by rw [HM.out.len]; exact HNN.out
   have HL' := Aside0.mk hl
   clear hp hpb h0 hl
   by_cases hc : LT fn (l'.getD j t0) (l'.getD p t0) = true
   ·have HC := Aside0.mk hc
    clear hc
    go_wp2_with (first | (go_at_call 51; refine (less_calls W wr g fn hfn v l' HM.out.ht j p (by have := HL'.out; have := HJ.out; omega) (by have := HL'.out; have := HJ.out; have := HPL.out; omega)).mono ?_; rintro e w1 ⟨rfl, hb⟩; rw [HC.out]; have HM1 := Aside0.mk (HM.out.below hb); clear hb) | (go_at_call 54; refine (hswap_calls W _ g fn v l' HM1.out.ht p j (by have := HL'.out; have := HJ.out; have := HPL.out; omega) (by have := HL'.out; have := HJ.out; omega)).mono ?_; rintro e w2 ⟨rfl, hT, hs⟩; have HM2 := Aside0.mk (HM1.out.swap (i := p) (k := j) (by have := HL'.out; have := HJ.out; have := HPL.out; omega) (by have := HL'.out; have := HJ.out; omega) hT hs); clear hT hs))
    go_roundw
    case rel =>
     have := HPL.out
     refine ⟨p, _, by go_num, by have := HJ.out; omega, HM2, ⟨?_⟩, ⟨HT.out.swap (by have := HJ.out; omega) HJ.out HL'.out⟩⟩
     have := HU.out.step (LE_tr fn) HL'.out HJ.out (by omega) (by rw [← HP.out]; exact LE_of fn HC.out)
     rw [← HP.out] at this
     exact this
    case measure => have := HPL.out; simp [intOf]; omega
   ·have hc' : LT fn (l'.getD j t0) (l'.getD p t0) = false := by simpa using hc
    have HC := Aside0.mk hc'
    clear hc hc'
    go_wp2_with (go_at_call 51; refine (less_calls W wr g fn hfn v l' HM.out.ht j p (by have := HL'.out; have := HJ.out; omega) (by have := HL'.out; have := HJ.out; have := HPL.out; omega)).mono ?_; rintro e w1 ⟨rfl, hb⟩; rw [HC.out]; have HM1 := Aside0.mk (HM.out.below hb); clear hb)
    go_end0
    exact ⟨rfl, l', HM1.out, HU.out.done (.inr (by rw [← HP.out]; exact HC.out)), HT.out⟩
end Go.Proofs.Ytacceeefcelkhaa.Al

namespace Go.Proofs.Ytacceeefcelkhaa.Al
open Go.RowKit Go.Proofs.Ytacceeefcelkhaa.DueHeap Go.Proofs.Ytacceeefcelkhaa.DueSpec Go.Proofs.YtacceeefcelkhaaW.PrintWords Go.Proofs.YtacceeefcelkhaaW.PrintLast Go.Proofs.YtacceeefcelkhaaW.PrintMore
set_option linter.unusedVariables false
set_option linter.unusedSimpArgs false
theorem swap_comm (d : Tk) (l : List Tk) {i k : Nat} (h : i ≠ k) : DueHeap.swap d l i k = DueHeap.swap d l k i := by
 unfold DueHeap.swap
 rw [List.set_comm _ _ h]
theorem par_kids {c i : Nat} (hc : 0 < c) (h : par c = i) : c = 2 * i + 1 ∨ c = 2 * i + 2 := by unfold par at h; omega
theorem par1 (i : Nat) : par (2 * i + 1) = i := by unfold par; omega
theorem par2 (i : Nat) : par (2 * i + 2) = i := by unfold par; omega
theorem less_cast {w : World} {g : Nat} {Q : Ending → World → Prop} {i k : Nat} {x y : Int} (h : Calls Try.prog 51 #[.pointer (some ⟨g, 0, none⟩), .int .i64 i, .int .i64 k] w Q) (hx : (i : Int) = x) (hy : (k : Int) = y) : Calls Try.prog 51 #[.pointer (some ⟨g, 0, none⟩), .int .i64 x, .int .i64 y] w Q := by
 subst hx hy
 exact h
theorem swap_cast {w : World} {g : Nat} {Q : Ending → World → Prop} {i k : Nat} {y : Int} (h : Calls Try.prog 54 #[.pointer (some ⟨g, 0, none⟩), .int .i64 i, .int .i64 k] w Q) (hy : (k : Int) = y) : Calls Try.prog 54 #[.pointer (some ⟨g, 0, none⟩), .int .i64 i, .int .i64 y] w Q := by
 subst hy
 exact h
/-- What down answers. -/
def DownOut (fn nn i0 : Nat) (l' : List Tk) (b : Bool) : Prop := (b = true → Heap (LE fn) t0 nn l') ∧ (b = false → UpInv (LE fn) t0 nn l' i0)
theorem down_out {fn nn i0 i : Nat} {l' : List Tk} (hd : DownInv (LE fn) t0 nn l' i0 i) (hc : ∀ c, 0 < c → c < nn → par c = i → LE fn (l'.getD i t0) (l'.getD c t0)) : DownOut fn nn i0 l' (decide (i0 < i)) := by
 have hge := hd.ge
 refine ⟨fun hb => ?_, fun hb => ?_⟩
 ·have : i0 < i := of_decide_eq_true hb
  exact hd.done hc (.inl (by omega))
 ·have : ¬ i0 < i := of_decide_eq_false hb
  obtain rfl : i = i0 := by omega
  exact hd.up hc
set_option maxHeartbeats 8000000 in
set_option maxRecDepth 100000 in
theorem down_calls (W w : World) (g fn : Nat) (hfn : fn = 23 ∨ fn = 24) (v : Value) (l : List Tk) (h : HT W w g fn v l) (i0 nn : Nat) (hnn : nn ≤ l.length) (hi0 : i0 ≤ nn) (hlen : l.length ≤ 100000) (hd : DownInv (LE fn) t0 nn l i0 i0) : Calls Try.prog 33 #[.iface 50 (.pointer (some ⟨g, 0, none⟩)), .int .i64 i0, .int .i64 nn] w fun e w' => ∃ b l', e = .returned (.bool b) ∧ Moved W w w' g fn v l l' ∧ DownOut fn nn i0 l' b ∧ Tail nn l l' := by
 have mL := m_Less
 have mS := m_Swap
 have HM0 := Aside0.mk (Moved.mk h (Step.refl w g v) (List.Perm.refl l))
 have HD0 := Aside0.mk hd
 have HNN := Aside0.mk hnn
 have hnb : nn ≤ 100000 := by omega
 have HT0 := Aside0.mk (Tail.refl nn l)
 clear h hd hnn hlen
 go_enter Try.func33, Try.ntmps33
 go_wp2
 go_loopw [7] (fun v7 wr => ∃ (i : Nat) (l' : List Tk), v7 = .int .i64 i ∧ i ≤ nn ∧ Aside0 (Moved W w wr g fn v l l') ∧ Aside0 (DownInv (LE fn) t0 nn l' i0 i) ∧ Aside0 (Tail nn l l')) (fun v7 _ => nn - (intOf v7).toNat)
 case atStart => exact ⟨i0, l, rfl, hi0, HM0, HD0, HT0⟩
 case round =>
  clear hi0
  obtain ⟨i, l', rfl, hi, HM, HD, HT⟩ := hrel
  clear HM0 HD0 HT0
  have hw1 : wrap64 (2 * (i : Int)) = 2 * (i : Int) := by unfold wrap64; omega
  have hw1' : IntKind.i64.wrap (2 * (i : Int)) = 2 * (i : Int) := by rw [IntKind.wrap_i64]; omega
  have hw2 : wrap64 (2 * (i : Int) + 1) = 2 * (i : Int) + 1 := by unfold wrap64; omega
  have hw2' : IntKind.i64.wrap (2 * (i : Int) + 1) = 2 * (i : Int) + 1 := by rw [IntKind.wrap_i64]; omega
  have hw3 : wrap64 (2 * (i : Int) + 1 + 1) = 2 * (i : Int) + 1 + 1 := by unfold wrap64; omega
  have hw3' : IntKind.i64.wrap (2 * (i : Int) + 1 + 1) = 2 * (i : Int) + 1 + 1 := by rw [IntKind.wrap_i64]; omega
  have HLN : Aside0 (nn ≤ l'.length) := ⟨by rw [HM.out.len]; exact HNN.out⟩
  by_cases h1 : nn ≤ 2 * i + 1
  ·have e1 : decide ((nn : Int) ≤ 2 * (i : Int) + 1) = true := decide_eq_true (by omega)
   have HO := Aside0.mk (down_out HD.out (fun c hc hcn hp => by rcases par_kids hc hp with e | e <;> omega))
   go_wp2
   go_ret
   exact ⟨_, l', rfl, HM.out, HO.out, HT.out⟩
  ·have e1 : decide ((nn : Int) ≤ 2 * (i : Int) + 1) = false := decide_eq_false (by omega)
   have e2 : decide (2 * (i : Int) + 1 < 0) = false := decide_eq_false (by omega)
   have HJ1 := Aside0.mk (show 2 * i + 1 < nn by omega)
   by_cases h2 : 2 * i + 2 < nn
   ·have e3 : decide (2 * (i : Int) + 1 + 1 < (nn : Int)) = true := decide_eq_true (by omega)
    have HJ2 := Aside0.mk h2
    by_cases c1 : LT fn (l'.getD (2 * i + 2) t0) (l'.getD (2 * i + 1) t0) = true
    ·have HC1 := Aside0.mk c1
     have HMIN : Aside0 (∀ c, 0 < c → c < nn → par c = i → LE fn (l'.getD (2 * i + 2) t0) (l'.getD c t0)) := ⟨fun c hc hcn hp => by
      rcases par_kids hc hp with rfl | rfl
      ·exact LE_of fn HC1.out
      ·exact LE_rf fn _⟩
     clear h1 h2 c1
     by_cases c2 : LT fn (l'.getD (2 * i + 2) t0) (l'.getD i t0) = true
     ·have HC2 := Aside0.mk c2
      clear c2
      go_wp2_with (first | (go_at_call 51; (with_reducible refine (less_cast (less_calls W wr g fn hfn v l' HM.out.ht (2 * i + 2) (2 * i + 1) (by have := HLN.out; have := HJ1.out; have := HJ2.out; omega) (by have := HLN.out; have := HJ1.out; have := HJ2.out; omega)) (show ((2 * i + 2 : Nat) : Int) = 2 * (i : Int) + 1 + 1 by omega) (show ((2 * i + 1 : Nat) : Int) = 2 * (i : Int) + 1 by omega)).mono ?_); rintro e w1 ⟨rfl, hb⟩; rw [HC1.out]; have HM1 := Aside0.mk (HM.out.below hb); clear hb) | (go_at_call 51; (with_reducible refine (less_cast (less_calls W w1 g fn hfn v l' HM1.out.ht (2 * i + 2) (i) (by have := HLN.out; have := HJ1.out; have := HJ2.out; omega) (by have := HLN.out; have := HJ1.out; have := HJ2.out; omega)) (show ((2 * i + 2 : Nat) : Int) = 2 * (i : Int) + 1 + 1 by omega) (show ((i : Nat) : Int) = (i : Int) by omega)).mono ?_); rintro e w2 ⟨rfl, hb⟩; rw [HC2.out]; have HM2 := Aside0.mk (HM1.out.below hb); clear hb) | (go_at_call 54; refine (swap_cast (hswap_calls W _ g fn v l' HM2.out.ht i (2 * i + 2) (by have := HLN.out; have := HJ1.out; omega) (by have := HLN.out; have := HJ2.out; omega)) (show ((2 * i + 2 : Nat) : Int) = 2 * (i : Int) + 1 + 1 by omega)).mono ?_; rintro e w3 ⟨rfl, hT, hs⟩; have HM3 := Aside0.mk (HM2.out.swap (i := i) (k := 2 * i + 2) (by have := HLN.out; have := HJ1.out; omega) (by have := HLN.out; have := HJ2.out; omega) hT hs); clear hT hs))
      go_roundw
      case rel =>
       have h3 := HJ2.out
       refine ⟨2 * i + 2, _, by go_num, by omega, HM3, ⟨?_⟩, ⟨HT.out.swap (by omega) h3 HLN.out⟩⟩
       rw [swap_comm t0 l' (show i ≠ 2 * i + 2 by omega)]
       exact HD.out.step HLN.out h3 (by omega) (par2 i) HMIN.out (LE_of fn HC2.out)
      case measure => have := HJ2.out; simp [intOf]; omega
     ·have c2' : LT fn (l'.getD (2 * i + 2) t0) (l'.getD i t0) = false := by simpa using c2
      have HC2 := Aside0.mk c2'
      have HO := Aside0.mk (down_out HD.out (fun c hc hcn hp => LE_tr fn _ _ _ (show LE fn (l'.getD i t0) (l'.getD (2 * i + 2) t0) from HC2.out) (HMIN.out c hc hcn hp)))
      clear c2 c2'
      go_wp2_with (first | (go_at_call 51; (with_reducible refine (less_cast (less_calls W wr g fn hfn v l' HM.out.ht (2 * i + 2) (2 * i + 1) (by have := HLN.out; have := HJ1.out; have := HJ2.out; omega) (by have := HLN.out; have := HJ1.out; have := HJ2.out; omega)) (show ((2 * i + 2 : Nat) : Int) = 2 * (i : Int) + 1 + 1 by omega) (show ((2 * i + 1 : Nat) : Int) = 2 * (i : Int) + 1 by omega)).mono ?_); rintro e w1 ⟨rfl, hb⟩; rw [HC1.out]; have HM1 := Aside0.mk (HM.out.below hb); clear hb) | (go_at_call 51; (with_reducible refine (less_cast (less_calls W w1 g fn hfn v l' HM1.out.ht (2 * i + 2) (i) (by have := HLN.out; have := HJ1.out; have := HJ2.out; omega) (by have := HLN.out; have := HJ1.out; have := HJ2.out; omega)) (show ((2 * i + 2 : Nat) : Int) = 2 * (i : Int) + 1 + 1 by omega) (show ((i : Nat) : Int) = (i : Int) by omega)).mono ?_); rintro e w2 ⟨rfl, hb⟩; rw [HC2.out]; have HM2 := Aside0.mk (HM1.out.below hb); clear hb))
      go_ret
      exact ⟨_, l', rfl, HM2.out, HO.out, HT.out⟩
    ·have c1' : LT fn (l'.getD (2 * i + 2) t0) (l'.getD (2 * i + 1) t0) = false := by simpa using c1
     have HC1 := Aside0.mk c1'
     have HMIN : Aside0 (∀ c, 0 < c → c < nn → par c = i → LE fn (l'.getD (2 * i + 1) t0) (l'.getD c t0)) := ⟨fun c hc hcn hp => by
      rcases par_kids hc hp with rfl | rfl
      ·exact LE_rf fn _
      ·exact HC1.out⟩
     clear h1 h2 c1 c1'
     by_cases c2 : LT fn (l'.getD (2 * i + 1) t0) (l'.getD i t0) = true
     ·have HC2 := Aside0.mk c2
      clear c2
      go_wp2_with (first | (go_at_call 51; (with_reducible refine (less_cast (less_calls W wr g fn hfn v l' HM.out.ht (2 * i + 2) (2 * i + 1) (by have := HLN.out; have := HJ1.out; have := HJ2.out; omega) (by have := HLN.out; have := HJ1.out; have := HJ2.out; omega)) (show ((2 * i + 2 : Nat) : Int) = 2 * (i : Int) + 1 + 1 by omega) (show ((2 * i + 1 : Nat) : Int) = 2 * (i : Int) + 1 by omega)).mono ?_); rintro e w1 ⟨rfl, hb⟩; rw [HC1.out]; have HM1 := Aside0.mk (HM.out.below hb); clear hb) | (go_at_call 51; (with_reducible refine (less_cast (less_calls W w1 g fn hfn v l' HM1.out.ht (2 * i + 1) (i) (by have := HLN.out; have := HJ1.out; have := HJ2.out; omega) (by have := HLN.out; have := HJ1.out; have := HJ2.out; omega)) (show ((2 * i + 1 : Nat) : Int) = 2 * (i : Int) + 1 by omega) (show ((i : Nat) : Int) = (i : Int) by omega)).mono ?_); rintro e w2 ⟨rfl, hb⟩; rw [HC2.out]; have HM2 := Aside0.mk (HM1.out.below hb); clear hb) | (go_at_call 54; refine (swap_cast (hswap_calls W _ g fn v l' HM2.out.ht i (2 * i + 1) (by have := HLN.out; have := HJ1.out; omega) (by have := HLN.out; have := HJ1.out; omega)) (show ((2 * i + 1 : Nat) : Int) = 2 * (i : Int) + 1 by omega)).mono ?_; rintro e w3 ⟨rfl, hT, hs⟩; have HM3 := Aside0.mk (HM2.out.swap (i := i) (k := 2 * i + 1) (by have := HLN.out; have := HJ1.out; omega) (by have := HLN.out; have := HJ1.out; omega) hT hs); clear hT hs))
      go_roundw
      case rel =>
       have h3 := HJ1.out
       refine ⟨2 * i + 1, _, by go_num, by omega, HM3, ⟨?_⟩, ⟨HT.out.swap (by omega) h3 HLN.out⟩⟩
       rw [swap_comm t0 l' (show i ≠ 2 * i + 1 by omega)]
       exact HD.out.step HLN.out h3 (by omega) (par1 i) HMIN.out (LE_of fn HC2.out)
      case measure => have := HJ1.out; simp [intOf]; omega
     ·have c2' : LT fn (l'.getD (2 * i + 1) t0) (l'.getD i t0) = false := by simpa using c2
      have HC2 := Aside0.mk c2'
      have HO := Aside0.mk (down_out HD.out (fun c hc hcn hp => LE_tr fn _ _ _ (show LE fn (l'.getD i t0) (l'.getD (2 * i + 1) t0) from HC2.out) (HMIN.out c hc hcn hp)))
      clear c2 c2'
      go_wp2_with (first | (go_at_call 51; (with_reducible refine (less_cast (less_calls W wr g fn hfn v l' HM.out.ht (2 * i + 2) (2 * i + 1) (by have := HLN.out; have := HJ1.out; have := HJ2.out; omega) (by have := HLN.out; have := HJ1.out; have := HJ2.out; omega)) (show ((2 * i + 2 : Nat) : Int) = 2 * (i : Int) + 1 + 1 by omega) (show ((2 * i + 1 : Nat) : Int) = 2 * (i : Int) + 1 by omega)).mono ?_); rintro e w1 ⟨rfl, hb⟩; rw [HC1.out]; have HM1 := Aside0.mk (HM.out.below hb); clear hb) | (go_at_call 51; (with_reducible refine (less_cast (less_calls W w1 g fn hfn v l' HM1.out.ht (2 * i + 1) (i) (by have := HLN.out; have := HJ1.out; have := HJ2.out; omega) (by have := HLN.out; have := HJ1.out; have := HJ2.out; omega)) (show ((2 * i + 1 : Nat) : Int) = 2 * (i : Int) + 1 by omega) (show ((i : Nat) : Int) = (i : Int) by omega)).mono ?_); rintro e w2 ⟨rfl, hb⟩; rw [HC2.out]; have HM2 := Aside0.mk (HM1.out.below hb); clear hb))
      go_ret
      exact ⟨_, l', rfl, HM2.out, HO.out, HT.out⟩
   ·have e3 : decide (2 * (i : Int) + 1 + 1 < (nn : Int)) = false := decide_eq_false (by omega)
    have HMIN : Aside0 (∀ c, 0 < c → c < nn → par c = i → LE fn (l'.getD (2 * i + 1) t0) (l'.getD c t0)) := ⟨fun c hc hcn hp => by
     rcases par_kids hc hp with rfl | rfl
     ·exact LE_rf fn _
     ·omega⟩
    clear h1 h2
    by_cases c2 : LT fn (l'.getD (2 * i + 1) t0) (l'.getD i t0) = true
    ·have HC2 := Aside0.mk c2
     clear c2
     go_wp2_with (first | (go_at_call 51; (with_reducible refine (less_cast (less_calls W wr g fn hfn v l' HM.out.ht (2 * i + 1) (i) (by have := HLN.out; have := HJ1.out;  omega) (by have := HLN.out; have := HJ1.out;  omega)) (show ((2 * i + 1 : Nat) : Int) = 2 * (i : Int) + 1 by omega) (show ((i : Nat) : Int) = (i : Int) by omega)).mono ?_); rintro e w2 ⟨rfl, hb⟩; rw [HC2.out]; have HM2 := Aside0.mk (HM.out.below hb); clear hb) | (go_at_call 54; refine (swap_cast (hswap_calls W _ g fn v l' HM2.out.ht i (2 * i + 1) (by have := HLN.out; have := HJ1.out; omega) (by have := HLN.out; have := HJ1.out; omega)) (show ((2 * i + 1 : Nat) : Int) = 2 * (i : Int) + 1 by omega)).mono ?_; rintro e w3 ⟨rfl, hT, hs⟩; have HM3 := Aside0.mk (HM2.out.swap (i := i) (k := 2 * i + 1) (by have := HLN.out; have := HJ1.out; omega) (by have := HLN.out; have := HJ1.out; omega) hT hs); clear hT hs))
     go_roundw
     case rel =>
      have h3 := HJ1.out
      refine ⟨2 * i + 1, _, by go_num, by omega, HM3, ⟨?_⟩, ⟨HT.out.swap (by omega) h3 HLN.out⟩⟩
      rw [swap_comm t0 l' (show i ≠ 2 * i + 1 by omega)]
      exact HD.out.step HLN.out h3 (by omega) (par1 i) HMIN.out (LE_of fn HC2.out)
     case measure => have := HJ1.out; simp [intOf]; omega
    ·have c2' : LT fn (l'.getD (2 * i + 1) t0) (l'.getD i t0) = false := by simpa using c2
     have HC2 := Aside0.mk c2'
     have HO := Aside0.mk (down_out HD.out (fun c hc hcn hp => LE_tr fn _ _ _ (show LE fn (l'.getD i t0) (l'.getD (2 * i + 1) t0) from HC2.out) (HMIN.out c hc hcn hp)))
     clear c2 c2'
     go_wp2_with (first | (go_at_call 51; (with_reducible refine (less_cast (less_calls W wr g fn hfn v l' HM.out.ht (2 * i + 1) (i) (by have := HLN.out; have := HJ1.out;  omega) (by have := HLN.out; have := HJ1.out;  omega)) (show ((2 * i + 1 : Nat) : Int) = 2 * (i : Int) + 1 by omega) (show ((i : Nat) : Int) = (i : Int) by omega)).mono ?_); rintro e w2 ⟨rfl, hb⟩; rw [HC2.out]; have HM2 := Aside0.mk (HM.out.below hb); clear hb))
     go_ret
     exact ⟨_, l', rfl, HM2.out, HO.out, HT.out⟩
end Go.Proofs.Ytacceeefcelkhaa.Al

namespace Go.Proofs.Ytacceeefcelkhaa.Al
open Go.RowKit Go.Proofs.Ytacceeefcelkhaa.DueHeap Go.Proofs.Ytacceeefcelkhaa.DueSpec Go.Proofs.YtacceeefcelkhaaW.PrintWords Go.Proofs.YtacceeefcelkhaaW.PrintLast Go.Proofs.YtacceeefcelkhaaW.PrintMore
set_option linter.unusedVariables false
set_option linter.unusedSimpArgs false
theorem swap_cast2 {w : World} {g : Nat} {Q : Ending → World → Prop} {i k : Nat} {x y : Int} (h : Calls Try.prog 54 #[.pointer (some ⟨g, 0, none⟩), .int .i64 i, .int .i64 k] w Q) (hx : (i : Int) = x) (hy : (k : Int) = y) : Calls Try.prog 54 #[.pointer (some ⟨g, 0, none⟩), .int .i64 x, .int .i64 y] w Q := by
 subst hx hy
 exact h
theorem down_cast {w : World} {T : Value} {Q : Ending → World → Prop} {i k : Nat} {x y : Int} (h : Calls Try.prog 33 #[T, .int .i64 i, .int .i64 k] w Q) (hx : (i : Int) = x) (hy : (k : Int) = y) : Calls Try.prog 33 #[T, .int .i64 x, .int .i64 y] w Q := by
 subst hx hy
 exact h
theorem len_cast {W w : World} {g fn : Nat} {v : Value} {l : List Tk} {n : Nat} (h : HT W w g fn v l) (hn : l.length = n) : Calls Try.prog 27 #[.pointer (some ⟨g, 0, none⟩)] w fun e w' => e = .returned (.int .i64 n) ∧ Below w.heap.size w w' := by
 subst hn
 exact hlen_calls W w g fn v l h
/-- A heap: its row is one. -/
structure HP (W w : World) (g fn : Nat) (v : Value) (l : List Tk) : Prop where
 ht : HT W w g fn v l
 heap : Heap (LE fn) t0 l.length l
theorem HP.below {W w w1 : World} {g fn : Nat} {v : Value} {l : List Tk} (h : HP W w g fn v l) (hb : Below w.heap.size w w1) : HP W w1 g fn v l := ⟨h.ht.below hb, h.heap⟩
set_option maxHeartbeats 8000000 in
set_option maxRecDepth 100000 in
theorem heapPush_calls (W w : World) (g fn : Nat) (hfn : fn = 23 ∨ fn = 24) (v : Value) (l : List Tk) (h : HP W w g fn v l) (x : Tk) (hlen : l.length < 100000) : Calls Try.prog 25 #[.iface 50 (.pointer (some ⟨g, 0, none⟩)), .iface 61 (a4 x)] w fun e w' => e = .returned (.tuple #[]) ∧ ∃ v' l', HP W w' g fn v' l' ∧ Step w w' g v v' ∧ l'.Perm (x :: l) := by
 have mP := m_Push
 have mN := m_Len
 have HH := Aside0.mk h
 obtain ⟨m, hm⟩ : ∃ m, m = l.length := ⟨_, rfl⟩
 have HM := Aside0.mk hm
 rw [← hm] at hlen
 have hw : wrap64 (((m + 1 : Nat) : Int) - 1) = (m : Int) := by unfold wrap64; omega
 have hw' : IntKind.i64.wrap (((m + 1 : Nat) : Int) - 1) = (m : Int) := by rw [IntKind.wrap_i64]; omega
 have hw2 : ((m + 1 : Nat) : Int) - 1 = (m : Int) := by omega
 obtain ⟨k, hk⟩ : ∃ k, k = m + 1 := ⟨_, rfl⟩
 rw [← hk] at hw hw' hw2
 have HK := Aside0.mk hk
 clear h hm hk
 go_enter Try.func25, Try.ntmps25
 go_wp2_with (first | (go_at_call 53; refine (hpush_calls W w g fn v l HH.out.ht x (by rw [← HM.out]; omega)).mono ?_; rintro e w1 ⟨rfl, v1, hT, hs⟩; have H1 := Aside0.mk hT; have HS1 := Aside0.mk hs; clear hT hs) | (go_at_call 27; refine (len_cast H1.out (show (l ++ [x]).length = k by rw [HK.out, HM.out]; simp)).mono ?_; rintro e w2 ⟨rfl, hb⟩; have H2 := Aside0.mk (H1.out.below hb); have HS2 := Aside0.mk (HS1.out.trans (Step.of_below hb _ _)); clear hb) | (go_at_call 32; refine (up_calls W w2 g fn hfn v1 (l ++ [x]) H2.out m (m + 1) (Nat.lt_succ_self m) (by rw [HM.out]; simp) (by rw [List.length_append, List.length_singleton, ← HM.out]; omega) (by rw [HM.out]; exact UpInv.of_push HH.out.heap x)).mono ?_; rintro e w3 ⟨rfl, l', hM, hh, _⟩; have HM3 := Aside0.mk hM; have HH3 := Aside0.mk hh; clear hM hh))
 go_end0
 refine ⟨rfl, v1, l', ⟨HM3.out.ht, ?_⟩, HS2.out.trans HM3.out.st, HM3.out.perm.trans List.perm_append_comm⟩
 have := HM3.out.len
 rw [this, List.length_append, List.length_singleton, ← HM.out]
 exact HH3.out
set_option maxHeartbeats 8000000 in
set_option maxRecDepth 100000 in
theorem heapPop_calls (W w : World) (g fn : Nat) (hfn : fn = 23 ∨ fn = 24) (v : Value) (l : List Tk) (h : HP W w g fn v l) (hp : 0 < l.length) (hlen : l.length ≤ 100000) : Calls Try.prog 28 #[.iface 50 (.pointer (some ⟨g, 0, none⟩))] w fun e w' => e = .returned (.iface 61 (a4 (l.getD 0 t0))) ∧ ∃ v' l', HP W w' g fn v' l' ∧ Step w w' g v v' ∧ (l.getD 0 t0 :: l').Perm l := by
 have mP := m_Pop
 have mN := m_Len
 have mS := m_Swap
 have HH := Aside0.mk h
 obtain ⟨m, hm⟩ : ∃ m, l.length = m + 1 := ⟨l.length - 1, by omega⟩
 have HM := Aside0.mk hm
 rw [hm] at hlen
 have hw : wrap64 (((m + 1 : Nat) : Int) - 1) = (m : Int) := by unfold wrap64; omega
 have hw' : IntKind.i64.wrap (((m + 1 : Nat) : Int) - 1) = (m : Int) := by rw [IntKind.wrap_i64]; omega
 have hw2 : ((m + 1 : Nat) : Int) - 1 = (m : Int) := by omega
 obtain ⟨k, hk⟩ : ∃ k, k = m + 1 := ⟨_, rfl⟩
 rw [← hk] at hw hw' hw2 hlen
 have HK := Aside0.mk hk
 have HD : Aside0 (DownInv (LE fn) t0 m (swap t0 l 0 m) 0 0) := ⟨by
  by_cases h0 : 0 < m
  ·exact DownInv.of_swap (LE_tr fn) h.heap hm h0
  ·exact ⟨fun k hk hkn _ _ => by omega, fun h0 => absurd h0 (Nat.lt_irrefl _), fun h0 => absurd rfl h0, Nat.le_refl _⟩⟩
 have HG : Aside0 ((swap t0 l 0 m).getD m t0 = l.getD 0 t0) := ⟨by rw [swap_get (by omega) (by omega), if_pos rfl]⟩
 generalize l.getD 0 t0 = x at HG ⊢
 clear h hm hk
 go_enter Try.func28, Try.ntmps28
 go_wp2_with (first | (go_at_call 27; refine (len_cast HH.out.ht (show l.length = k by rw [HK.out, HM.out])).mono ?_; rintro e w1 ⟨rfl, hb⟩; have H1 := Aside0.mk (HH.out.ht.below hb); have HS1 := Aside0.mk (Step.of_below hb g v); clear hb) | (go_at_call 54; refine (swap_cast2 (hswap_calls W w1 g fn v l H1.out 0 m (by rw [HM.out]; omega) (by rw [HM.out]; omega)) rfl rfl).mono ?_; rintro e w2 ⟨rfl, hT, hs⟩; have H2 := Aside0.mk hT; have HS2 := Aside0.mk (HS1.out.trans hs); clear hT hs) | (go_at_call 33; refine (down_cast (down_calls W w2 g fn hfn v _ H2.out 0 m (by rw [swap_len, HM.out]; omega) (Nat.zero_le _) (by rw [swap_len, HM.out]; have := HK.out; omega) HD.out) rfl rfl).mono ?_; rintro e w3 ⟨b, l2, rfl, hM, hO, hT⟩; have HM3 := Aside0.mk hM; have HO3 := Aside0.mk hO; have HT3 := Aside0.mk hT; clear hM hO hT) | (go_at_call 52; refine (hpop_calls W w3 g fn v l2 HM3.out.ht m (by rw [HM3.out.len, swap_len, HM.out]) (by rw [HM3.out.len, swap_len, HM.out]; have := HK.out; omega)).mono ?_; rintro e w4 ⟨rfl, v4, hT, hs⟩; rw [HT3.out m (Nat.le_refl _), HG.out]; have H4 := Aside0.mk hT; have HS4 := Aside0.mk ((HS2.out.trans HM3.out.st).trans hs); clear hT hs))
 have hl2 : l2.length = m + 1 := by rw [HM3.out.len, swap_len, HM.out]
 have hh : Heap (LE fn) t0 m l2 := by
  cases b with
  |true => exact HO3.out.1 rfl
  |false => exact (HO3.out.2 rfl).done (.inl rfl)
 have hperm : (l2.getD m t0 :: l2.take m).Perm l := take_last_perm (HM3.out.perm.trans (swap_perm (by rw [HM.out]; omega) (by rw [HM.out]; omega))) hl2
 rw [HT3.out m (Nat.le_refl _), HG.out] at hperm
 refine bodyPost_ret (v := .iface 61 (a4 x)) (by simp [results, Try.results28, go_sem]) rfl ⟨rfl, v4, l2.take m, ⟨H4.out, ?_⟩, HS4.out, hperm⟩
 have e : (l2.take m).length = m := by rw [List.length_take, hl2]; omega
 rw [e]
 exact hh.take
set_option maxHeartbeats 8000000 in
set_option maxRecDepth 100000 in
theorem heapRemove_calls (W w : World) (g fn : Nat) (hfn : fn = 23 ∨ fn = 24) (v : Value) (l : List Tk) (h : HP W w g fn v l) (i : Nat) (hi : i < l.length) (hlen : l.length ≤ 100000) : Calls Try.prog 34 #[.iface 50 (.pointer (some ⟨g, 0, none⟩)), .int .i64 i] w fun e w' => e = .returned (.iface 61 (a4 (l.getD i t0))) ∧ ∃ v' l', HP W w' g fn v' l' ∧ Step w w' g v v' ∧ (l.getD i t0 :: l').Perm l := by
 have mP := m_Pop
 have mN := m_Len
 have mS := m_Swap
 have HH := Aside0.mk h
 obtain ⟨m, hm⟩ : ∃ m, l.length = m + 1 := ⟨l.length - 1, by omega⟩
 have HM := Aside0.mk hm
 rw [hm] at hlen hi
 have hw : wrap64 (((m + 1 : Nat) : Int) - 1) = (m : Int) := by unfold wrap64; omega
 have hw' : IntKind.i64.wrap (((m + 1 : Nat) : Int) - 1) = (m : Int) := by rw [IntKind.wrap_i64]; omega
 have hw2 : ((m + 1 : Nat) : Int) - 1 = (m : Int) := by omega
 obtain ⟨k, hk⟩ : ∃ k, k = m + 1 := ⟨_, rfl⟩
 rw [← hk] at hw hw' hw2 hlen
 have HK := Aside0.mk hk
 have HI := Aside0.mk hi
 by_cases hmi : m = i
 ·have e1 : ((m : Int) != (i : Int)) = false := by simp [hmi]
  have HMI := Aside0.mk hmi
  clear h hm hk hmi hi
  obtain ⟨x, hx⟩ : ∃ x, x = l.getD i t0 := ⟨_, rfl⟩
  rw [← hx]
  have HX := Aside0.mk hx
  clear hx
  go_enter Try.func34, Try.ntmps34
  go_wp2_with (first | (go_at_call 27; refine (len_cast HH.out.ht (show l.length = k by rw [HK.out, HM.out])).mono ?_; rintro e w1 ⟨rfl, hb⟩; have H1 := Aside0.mk (HH.out.ht.below hb); have HS1 := Aside0.mk (Step.of_below hb g v); clear hb) | (go_at_call 52; refine (hpop_calls W w1 g fn v l H1.out m HM.out (by rw [HM.out]; have := HK.out; omega)).mono ?_; rintro e w4 ⟨rfl, v4, hT, hs⟩; rw [HMI.out, ← HX.out] ; have H4 := Aside0.mk hT; have HS4 := Aside0.mk (HS1.out.trans hs); clear hT hs))
  have hperm : (l.getD m t0 :: l.take m).Perm l := take_last_perm (List.Perm.refl l) HM.out
  rw [HMI.out, ← HX.out, ← HMI.out] at hperm
  refine bodyPost_ret (v := .iface 61 (a4 x)) (by simp [results, Try.results34, go_sem]) rfl ⟨rfl, v4, l.take m, ⟨H4.out, ?_⟩, HS4.out, hperm⟩
  have e : (l.take m).length = m := by rw [List.length_take, HM.out]; omega
  rw [e]
  exact Heap.take (fun k hk hkm => HH.out.heap k hk (by rw [HM.out]; omega))
 ·have e1 : ((m : Int) != (i : Int)) = true := bne_iff_ne.2 (by omega)
  have HIM := Aside0.mk (show i < m by omega)
  have HD : Aside0 (DownInv (LE fn) t0 m (swap t0 l i m) i i) := ⟨DownInv.of_swap (LE_tr fn) h.heap hm HIM.out⟩
  have HG : Aside0 ((swap t0 l i m).getD m t0 = l.getD i t0) := ⟨by rw [swap_get (by omega) (by omega), if_pos rfl]⟩
  generalize l.getD i t0 = x at HG ⊢
  clear h hm hk hmi hi
  go_enter Try.func34, Try.ntmps34
  go_upto_region 6 with (first | (go_at_call 27; refine (len_cast HH.out.ht (show l.length = k by rw [HK.out, HM.out])).mono ?_; rintro e w1 ⟨rfl, hb⟩; have H1 := Aside0.mk (HH.out.ht.below hb); have HS1 := Aside0.mk (Step.of_below hb g v); clear hb) | (go_at_call 54; refine (hswap_calls W w1 g fn v l H1.out i m (by rw [HM.out]; exact HI.out) (by rw [HM.out]; omega)).mono ?_; rintro e w2 ⟨rfl, hT, hs⟩; have H2 := Aside0.mk hT; have HS2 := Aside0.mk (HS1.out.trans hs); clear hT hs) | (go_at_call 33; refine (down_calls W w2 g fn hfn v _ H2.out i m (by rw [swap_len, HM.out]; omega) (Nat.le_of_lt HIM.out) (by rw [swap_len, HM.out]; have := HK.out; omega) HD.out).mono ?_; rintro e w3 ⟨b, l2, rfl, hM, hO, hT⟩; have HM3 := Aside0.mk hM; have HO3 := Aside0.mk hO; have HT3 := Aside0.mk hT; clear hM hO hT; cases b) | (go_at_call 32; refine (up_calls W w3 g fn hfn v l2 HM3.out.ht i m HIM.out (by rw [HM3.out.len, swap_len, HM.out]; omega) (by rw [HM3.out.len, swap_len, HM.out]; have := HK.out; omega) (HO3.out.2 rfl)).mono ?_; rintro e w4 ⟨rfl, l3, hM, hh, hT⟩; have HM4 := Aside0.mk hM; have HH4 := Aside0.mk hh; have HT4 := Aside0.mk hT; clear hM hh hT))
  ·have hl3 : l3.length = m + 1 := by rw [HM4.out.len, HM3.out.len, swap_len, HM.out]
   have hg3 : l3.getD m t0 = x := by rw [HT4.out m (Nat.le_refl _), HT3.out m (Nat.le_refl _), HG.out]
   have HL3 := Aside0.mk hl3
   have HG3 := Aside0.mk hg3
   clear hl3 hg3
   go_wp2_with (go_at_call 52; refine (hpop_calls W w4 g fn v l3 HM4.out.ht m HL3.out (by rw [HL3.out]; have := HK.out; omega)).mono ?_; rintro e w5 ⟨rfl, v4, hT, hs⟩; rw [HG3.out]; have H5 := Aside0.mk hT; have HS5 := Aside0.mk (((HS2.out.trans HM3.out.st).trans HM4.out.st).trans hs); clear hT hs)
   have hperm : (l3.getD m t0 :: l3.take m).Perm l := take_last_perm ((HM4.out.perm.trans HM3.out.perm).trans (swap_perm (by rw [HM.out]; exact HI.out) (by rw [HM.out]; omega))) HL3.out
   rw [HG3.out] at hperm
   refine bodyPost_ret (v := .iface 61 (a4 x)) (by simp [results, Try.results34, go_sem]) rfl ⟨rfl, v4, l3.take m, ⟨H5.out, ?_⟩, HS5.out, hperm⟩
   have e : (l3.take m).length = m := by rw [List.length_take, HL3.out]; omega
   rw [e]
   exact HH4.out.take
  ·have hl2 : l2.length = m + 1 := by rw [HM3.out.len, swap_len, HM.out]
   have hg2 : l2.getD m t0 = x := by rw [HT3.out m (Nat.le_refl _), HG.out]
   have HL2 := Aside0.mk hl2
   have HG2 := Aside0.mk hg2
   clear hl2 hg2
   go_wp2_with (go_at_call 52; refine (hpop_calls W w3 g fn v l2 HM3.out.ht m HL2.out (by rw [HL2.out]; have := HK.out; omega)).mono ?_; rintro e w5 ⟨rfl, v4, hT, hs⟩; rw [HG2.out]; have H5 := Aside0.mk hT; have HS5 := Aside0.mk ((HS2.out.trans HM3.out.st).trans hs); clear hT hs)
   have hperm : (l2.getD m t0 :: l2.take m).Perm l := take_last_perm (HM3.out.perm.trans (swap_perm (by rw [HM.out]; exact HI.out) (by rw [HM.out]; omega))) HL2.out
   rw [HG2.out] at hperm
   refine bodyPost_ret (v := .iface 61 (a4 x)) (by simp [results, Try.results34, go_sem]) rfl ⟨rfl, v4, l2.take m, ⟨H5.out, ?_⟩, HS5.out, hperm⟩
   have e : (l2.take m).length = m := by rw [List.length_take, HL2.out]; omega
   rw [e]
   exact (HO3.out.1 rfl).take
end Go.Proofs.Ytacceeefcelkhaa.Al

namespace Go.Proofs.Ytacceeefcelkhaa.Al
open Go.RowKit Go.Proofs.Ytacceeefcelkhaa.DueHeap Go.Proofs.Ytacceeefcelkhaa.DueSpec Go.Proofs.YtacceeefcelkhaaW.PrintWords Go.Proofs.YtacceeefcelkhaaW.PrintLast Go.Proofs.YtacceeefcelkhaaW.PrintMore
set_option linter.unusedVariables false
set_option linter.unusedSimpArgs false
structure QO (W w : World) (gq gw gd : Nat) (now put : Int) (vw vd : Value) (lw ld : List Tk) : Prop where
 blk : w.heap[gq]? = some (.cells #[.pointer (some ⟨gw, 0, none⟩), .pointer (some ⟨gd, 0, none⟩), .int .i64 now, .int .i64 put] 56 (0, 0))
 ge : W.heap.size ≤ gq
 wt : HP W w gw 23 vw lw
 du : HP W w gd 24 vd ld
 ne : gw ≠ gd
 ap : Ap vw vd
section
variable {W w w1 : World} {gq gw gd : Nat} {now put : Int} {vw vd vw' vd' : Value} {lw ld lw' ld' : List Tk}
theorem QO.bel (h : QO W w gq gw gd now put vw vd lw ld) : Below W.heap.size W w := h.wt.ht.bel
theorem QO.below (h : QO W w gq gw gd now put vw vd lw ld) (hb : Below w.heap.size w w1) : QO W w1 gq gw gd now put vw vd lw ld := ⟨blk_below h.blk hb, h.ge, h.wt.below hb, h.du.below hb, h.ne, h.ap⟩
theorem QO.drew (h : QO W w gq gw gd now put vw vd lw ld) : QO W w.drew gq gw gd now put vw vd lw ld := h.below (below_drew (Below.refl _ _))
theorem QO.turn_w (h : QO W w gq gw gd now put vw vd lw ld) (hp : HP W w1 gw 23 vw' lw') (hs : Step w w1 gw vw vw') : QO W w1 gq gw gd now put vw' vd lw' ld :=
 ⟨(hs.keep.2 gq (blk_lt h.blk) (blk_ne h.blk h.wt.ht.blk (by decide)) (Kd.R_ne h.wt.ht.row h.blk (by decide))).trans h.blk, h.ge, hp, ⟨h.du.ht.other h.wt.ht hs (Ne.symm h.ne) h.ap.symm hp.ht.bel, h.du.heap⟩, h.ne, (Ap.step h.du.ht h.ap.symm hs).symm⟩
theorem QO.turn_d (h : QO W w gq gw gd now put vw vd lw ld) (hp : HP W w1 gd 24 vd' ld') (hs : Step w w1 gd vd vd') : QO W w1 gq gw gd now put vw vd' lw ld' :=
 ⟨(hs.keep.2 gq (blk_lt h.blk) (blk_ne h.blk h.du.ht.blk (by decide)) (Kd.R_ne h.du.ht.row h.blk (by decide))).trans h.blk, h.ge, ⟨h.wt.ht.other h.du.ht hs h.ne h.ap hp.ht.bel, h.wt.heap⟩, hp, h.ne, Ap.step h.wt.ht h.ap hs⟩
/-- A number of the queue's own object set. -/
theorem HP.setq {g fn : Nat} {v : Value} {l : List Tk} {cells : Array Value} (h : HP W w g fn v l) (hb : w.heap[gq]? = some (.cells cells 56 (0, 0))) (hg : W.heap.size ≤ gq) (j : Nat) (u : Value) : HP W (w.setCell ⟨gq, j, none⟩ u) g fn v l :=
 ⟨⟨blk_far h.ht.blk (p := ⟨gq, j, none⟩) (blk_ne h.ht.blk hb (by decide)) u, h.ht.ge, Kd.R_grown1 h.ht.row rfl (due_grown w gq j u) (Kd.R_ne h.ht.row hb (by decide)), below_set h.ht.bel hg⟩, h.heap⟩
theorem QO.setnow (h : QO W w gq gw gd now put vw vd lw ld) (n : Int) : QO W (w.setCell ⟨gq, 2, none⟩ (.int .i64 n)) gq gw gd n put vw vd lw ld := ⟨blk_set h.blk 2 (.int .i64 n), h.ge, h.wt.setq h.blk h.ge _ _, h.du.setq h.blk h.ge _ _, h.ne, h.ap⟩
theorem QO.setput (h : QO W w gq gw gd now put vw vd lw ld) (n : Int) : QO W (w.setCell ⟨gq, 3, none⟩ (.int .i64 n)) gq gw gd now n vw vd lw ld := ⟨blk_set h.blk 3 (.int .i64 n), h.ge, h.wt.setq h.blk h.ge _ _, h.du.setq h.blk h.ge _ _, h.ne, h.ap⟩
/-- What a call on the queue leaves of another object. -/
structure QStep (w w1 : World) (gq gw gd : Nat) (vw vd vw1 vd1 : Value) : Prop where
 size : w.heap.size ≤ w1.heap.size
 keep : ∀ k, k < w.heap.size → k ≠ gq → k ≠ gw → k ≠ gd → vw.ownBlock ≠ some k → vd.ownBlock ≠ some k → w1.heap[k]? = w.heap[k]?
 ow : vw1.ownBlock = vw.ownBlock ∨ vw1.ownBlock = vd.ownBlock ∨ ∃ b, vw1.ownBlock = some b ∧ w.heap.size ≤ b
 od : vd1.ownBlock = vd.ownBlock ∨ vd1.ownBlock = vw.ownBlock ∨ ∃ b, vd1.ownBlock = some b ∧ w.heap.size ≤ b
theorem QStep.refl (w : World) (gq gw gd : Nat) (vw vd : Value) : QStep w w gq gw gd vw vd vw vd := ⟨Nat.le_refl _, fun _ _ _ _ _ _ _ => rfl, .inl rfl, .inl rfl⟩
theorem QStep.of_below {w w1 : World} (hb : Below w.heap.size w w1) (gq gw gd : Nat) (vw vd : Value) : QStep w w1 gq gw gd vw vd vw vd := ⟨hb.size, fun k hk _ _ _ _ _ => hb.block k hk, .inl rfl, .inl rfl⟩
theorem QStep.of_w {w w1 : World} {gq gw gd : Nat} {vw vd vw1 : Value} (h : Step w w1 gw vw vw1) : QStep w w1 gq gw gd vw vd vw1 vd :=
 ⟨h.keep.1, fun k hk _ h2 _ h4 _ => h.keep.2 k hk h2 (fun e => h4 e.symm), by rcases h.own with e | e; exact .inl e; exact .inr (.inr e), .inl rfl⟩
theorem QStep.of_d {w w1 : World} {gq gw gd : Nat} {vw vd vd1 : Value} (h : Step w w1 gd vd vd1) : QStep w w1 gq gw gd vw vd vw vd1 :=
 ⟨h.keep.1, fun k hk _ _ h3 _ h5 => h.keep.2 k hk h3 (fun e => h5 e.symm), .inl rfl, by rcases h.own with e | e; exact .inl e; exact .inr (.inr e)⟩
theorem QStep.of_q {w : World} {gq gw gd : Nat} {vw vd : Value} (j : Nat) (u : Value) : QStep w (w.setCell ⟨gq, j, none⟩ u) gq gw gd vw vd vw vd :=
 ⟨by simp [World.setCell], fun k hk h1 _ _ _ _ => Below.heap_setCell w ⟨gq, j, none⟩ u k h1, .inl rfl, .inl rfl⟩
theorem QStep.trans {w w1 w2 : World} {gq gw gd : Nat} {vw vd vw1 vd1 vw2 vd2 : Value} (h : QStep w w1 gq gw gd vw vd vw1 vd1) (k : QStep w1 w2 gq gw gd vw1 vd1 vw2 vd2) : QStep w w2 gq gw gd vw vd vw2 vd2 := by
 have hs := h.size
 have own : ∀ {x : Value}, (x.ownBlock = vw1.ownBlock ∨ x.ownBlock = vd1.ownBlock ∨ ∃ b, x.ownBlock = some b ∧ w1.heap.size ≤ b) → (x.ownBlock = vw.ownBlock ∨ x.ownBlock = vd.ownBlock ∨ ∃ b, x.ownBlock = some b ∧ w.heap.size ≤ b) := fun {x} hx => by
  rcases hx with e | e | ⟨b, e, hb⟩
  ·rw [e]; exact h.ow
  ·rw [e]
   rcases h.od with e | e | e
   ·exact .inr (.inl e)
   ·exact .inl e
   ·exact .inr (.inr e)
  ·exact .inr (.inr ⟨b, e, by omega⟩)
 refine ⟨Nat.le_trans hs k.size, fun j hj h1 h2 h3 h4 h5 => ?_, own k.ow, ?_⟩
 ·refine (k.keep j (by omega) h1 h2 h3 ?_ ?_).trans (h.keep j hj h1 h2 h3 h4 h5)
  ·rcases h.ow with e | e | ⟨b, e, hb⟩
   ·rw [e]; exact h4
   ·rw [e]; exact h5
   ·rw [e]; intro he; injection he with he; omega
  ·rcases h.od with e | e | ⟨b, e, hb⟩
   ·rw [e]; exact h5
   ·rw [e]; exact h4
   ·rw [e]; intro he; injection he with he; omega
 ·rcases own (show vd2.ownBlock = vw1.ownBlock ∨ vd2.ownBlock = vd1.ownBlock ∨ _ from by rcases k.od with e | e | e; exact .inr (.inl e); exact .inl e; exact .inr (.inr e)) with e | e | e
  ·exact .inr (.inl e)
  ·exact .inl e
  ·exact .inr (.inr e)
end
end Go.Proofs.Ytacceeefcelkhaa.Al
